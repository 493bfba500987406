import Derived.Test.YthdinakloheinaaGreatDoorXRun
set_option linter.all false
namespace Go.X
open Go
variable{p:Option Addr}
class Rf (v:Value) (s:outParam SV):Prop where
 h:(aJ s)=v
class RfW (v:Value) (s:outParam SW):Prop where
 h:(aL s)=v
class RfA (l:List Value) (r:outParam (List SV)):Prop where
 h:aD r=l
class ND (L:PF) (r:outParam SF):Prop where
 h:dn r=L
instance (priority:=low) (v:Value):Rf v (.val v):=⟨rfl⟩
instance (k:IntKind) (z:Int):Rf (.int k z) (.int k z):=⟨rfl⟩
instance (s:ByteArray):Rf (.string s) (.str s):=⟨rfl⟩
instance (b o i:Nat):Rf (aC b o i) (.aC b o i):=⟨rfl⟩
instance:Rf .nilIface .nil:=⟨rfl⟩
instance (T:TypeId) (e:Int):Rf (az T e) (.err T e):=⟨rfl⟩
instance (T:TypeId) (v:Value):Rf (.iface T v) (.ifc T v):=⟨rfl⟩
instance:Rf (.pointer none) .pn:=⟨rfl⟩
instance (priority:=high):Rf (.bool true) .tt:=⟨rfl⟩
instance (priority:=high):Rf (.bool false) .ff:=⟨rfl⟩
instance (p:Prop) (i:Decidable p):Rf (.bool (@decide p i)) (@SV.Ny p i):=⟨rfl⟩
instance (priority:=900) (b:Bool):Rf (.bool b) (.bool b):=⟨rfl⟩
instance (p:Option Addr) (n c:Nat):Rf (.slice p n c) (.slc p n c):=⟨rfl⟩
instance:Rf undef .un:=⟨rfl⟩
instance (priority:=high) (s:SV):Rf (aJ s) s:=⟨rfl⟩
instance (priority:=low) (v:Value) (s:SV) [h:Rf v s]:RfW v (.one s):=⟨h.h⟩
instance:RfA [] []:=⟨rfl⟩
instance (v:Value) (s:SV) (l:List Value) (r:List SV) [h:Rf v s] [k:RfA l r]:RfA (v::l) (s::r):=⟨by rw[aD,h.h,k.h]⟩
instance (l:List Value) (r:List SV) [h:RfA l r]:RfW (.tuple l.toArray) (.tup r):=⟨by rw[aL,h.h]⟩
instance (priority:=high) (s:SW):RfW (aL s) s:=⟨rfl⟩
instance:ND [] []:=⟨rfl⟩
instance (i:Nat) (v:Value) (s:SW) (L:PF) (r:SF) [h:RfW v s] [k:ND L r]:ND ((i,v)::L) ((i,s)::r):=⟨by rw[dn,h.h,k.h]⟩
instance (priority:=high) (r:SF):ND (dn r) r:=⟨rfl⟩
instance (i:Nat):ND (oC i []) []:=⟨rfl⟩
instance (i:Nat) (v:Value) (s:SW) (l:List Value) (r:SF) [h:RfW v s] [k:ND (oC (i+1) l) r]:ND (oC i (v::l)) ((i,s)::r):=⟨by rw[dn,h.h,k.h];rfl⟩
section
variable {P:Program} {n:Fr} {Q0:Exit->Act->World->Prop} {M M':World->Prop} {K:List Fm} {L:SF} {L':PF} {md:Md} {l:List Oper} {c a b:Code}
def gO[Tb P][h:ND L' L](k:gM P n Q0 M 3000 K (.o md l) L):XO P n md (kF P Q0 K) l L' M:=by
 rw[<-h.h];exact cm _ _ (.o _ _) _ k
def gC[Tb P][h:ND L' L](k:gM P n Q0 M 3000 K (.c c) L):XC P n c (kF P Q0 K) L' M:=by
 rw[<-h.h];exact cm _ _ (.c _) _ k
def gE[Tb P]{x:Exit}[h:ND L' L](k:gM P n Q0 M 3000 K (.e x) L):XE n (kF P Q0 K) x L' M:=by
 rw[<-h.h];exact cm _ _ (.e _) _ k
theorem gS[Tb P](k:gM P n Q0 M 3000 (.sq b::K) (.c a) L):XC P n (.seq a b) (kF P Q0 K) (dn L) M:=XC.seq (cm _ _ (.c _) _ k)
def Spec.go[Tb P]{f:FuncId}{fn:Func}{args:List Value}{pre:List aK}{post:Value->List aK->Prop}(k:Nat)(ps:List Nat)(cs:List (Nat×Nat))(hf:P.funcs[f]? =some fn)(hb:fn.body=some c)(hk:fn.ntmps=k)(hn:Nat.ble args.length fn.ntmps=true)[r:ND (oC 0 args) L](h:∀ W,gM P (fr k ps cs) (bodyPost P fn fun e w'=>∃ v H',e= .returned v/\post v H'/\H'.all aK.wr=true/\XM W (bZ pre) H' w') (XM W (bZ pre) pre) 3000 [] (.c c) L):Spec P f args pre post:=by
 subst hk;intro w hg;refine enter (ps:=ps) (cs:=cs) hf hb hn ?_ (kH hg);rw[<-r.h];exact cm _ [] (.c _) _ (h w)
def rq[Tb P]{i:Nat}{os:List Oper}{W:World}{S:Nat->Nat->Prop}{H:List aK}(r:List Nat)(hm:P.follows .mixedOrders=true)(k:gM P n Q0 (XM W S H) 3000 K (.o (.op os.toArray) (No os r)) L)(hz:(WE os.toArray (Array.replicate os.length false) r&&Nat.beq r.length os.length&&r.all (Nat.blt · os.length))=true:=by kernel_rfl):XC P n (.region i os.toArray true) (kF P Q0 K) (dn L) (XM W S H):=XC.rq r hm hz (fun w k h=>h.drawn k) (cm _ _ (.o _ _) _ k)
def cd[Tb P]{x:Operand}{p:Prop}{i:Decidable p}(hc:ev (dn L) x=some (.bool (@decide p i)))(ht:p->gM P n Q0 M 3000 K (.c a) L)(hf:¬p->gM P n Q0 M 3000 K (.c b) L):XC P n (.cond x a b) (kF P Q0 K) (dn L) M:=
 XC.Nl hc (fun h=>cm _ _ (.c _) _ (ht h)) fun h=>cm _ _ (.c _) _ (hf h)
def we[Tb P]{x:Operand}{t:Bool}(hc:ev (dn L) x=some (.bool t))(ht:t=true->gM P n Q0 M 3000 K (.c a) L)(hf:t=false->gM P n Q0 M 3000 K (.c b) L):XC P n (.cond x a b) (kF P Q0 K) (dn L) M:=
 XC.cond hc (fun h=>cm _ _ (.c _) _ (ht h)) fun h=>cm _ _ (.c _) _ (hf h)
def W1[Tb P]{x:Operand}{p:Prop}{i:Decidable p}(hc:ev (dn L) x=some (.bool (@decide p i)))(h:p)(ht:gM P n Q0 M 3000 K (.c a) L):XC P n (.cond x a b) (kF P Q0 K) (dn L) M:=O5 hc h (cm _ _ (.c _) _ ht)
def Im[Tb P]{x:Operand}{p:Prop}{i:Decidable p}(hc:ev (dn L) x=some (.bool (@decide p i)))(h:¬p)(hf:gM P n Q0 M 3000 K (.c b) L):XC P n (.cond x a b) (kF P Q0 K) (dn L) M:=O6 hc h (cm _ _ (.c _) _ hf)
def agV[Tb P]{x:Operand}{t:Bool}(hc:ev (dn L) x=some (.bool t))(h:t=true)(ht:gM P n Q0 M 3000 K (.c a) L):XC P n (.cond x a b) (kF P Q0 K) (dn L) M:=B1 hc h (cm _ _ (.c _) _ ht)
def agW[Tb P]{x:Operand}{t:Bool}(hc:ev (dn L) x=some (.bool t))(h:t=false)(hf:gM P n Q0 M 3000 K (.c b) L):XC P n (.cond x a b) (kF P Q0 K) (dn L) M:=B2 hc h (cm _ _ (.c _) _ hf)
def sp[Tb P](d:Nat){p:Prop}{i:Decidable p}(hl:lk (dn L) d=some (.bool (@decide p i)))(ht:p->gM P n Q0 M 3000 K (.o md l) ((d,.one .tt)::L))(hf:¬p->gM P n Q0 M 3000 K (.o md l) ((d,.one .ff)::L)):XO P n md (kF P Q0 K) l (dn L) M:=
 XO.aaG hl (fun h=>cm _ _ (.o _ _) ((d,.one .tt)::L) (ht h)) fun h=>cm _ _ (.o _ _) ((d,.one .ff)::L) (hf h)
def Pt[Tb P](d:Nat){t:Bool}(hl:lk (dn L) d=some (.bool t))(ht:t=true->gM P n Q0 M 3000 K (.o md l) ((d,.one .tt)::L))(hf:t=false->gM P n Q0 M 3000 K (.o md l) ((d,.one .ff)::L)):XO P n md (kF P Q0 K) l (dn L) M:=
 XO.split hl (fun h=>cm _ _ (.o _ _) ((d,.one .tt)::L) (ht h)) fun h=>cm _ _ (.o _ _) ((d,.one .ff)::L) (hf h)
def spT[Tb P](d:Nat){p:Prop}{i:Decidable p}(hl:lk (dn L) d=some (.bool (@decide p i)))(h:p)(ht:gM P n Q0 M 3000 K (.o md l) ((d,.one .tt)::L)):XO P n md (kF P Q0 K) l (dn L) M:=XO.aaH hl h (cm _ _ (.o _ _) ((d,.one .tt)::L) ht)
def W2[Tb P](d:Nat){p:Prop}{i:Decidable p}(hl:lk (dn L) d=some (.bool (@decide p i)))(h:¬p)(hf:gM P n Q0 M 3000 K (.o md l) ((d,.one .ff)::L)):XO P n md (kF P Q0 K) l (dn L) M:=XO.aaI hl h (cm _ _ (.o _ _) ((d,.one .ff)::L) hf)
def lp{σ:Type}(m:σ->Nat)(V:σ->Prop)(I:σ->PF)(J:σ->World->Prop)(x₀:σ)(hv:V x₀)(h₀:Sub (dn L) (I x₀))(hj:∀ w,M w->J x₀ w)
  (round:∀ x,V x->XC P n c (kF P Q0 (.th (fun a' w'=>∃ x',m x'<m x/\V x'/\nR n (I x') a'/\J x' w')::K)) (I x) (J x)):XC P n (.loop c) (kF P Q0 K) (dn L) M:=XC.loop m V I J x₀ hv h₀ hj round
def ag{σ:Type}{m:σ->Nat}{V:σ->Prop}{I:σ->PF}{J:σ->World->Prop}{x:σ}(x':σ)(hm:m x'<m x)(hv:V x')(hs:Sub L' (I x'))(hj:∀ w,M w->J x' w):
  XE n (kF P Q0 (.th (fun a' w'=>∃ x',m x'<m x/\V x'/\nR n (I x') a'/\J x' w')::K)) .normal L' M:=XE.again x' hm hv hs hj
def ct(K':PF)(M':World->Prop)[Tb P](hc:gM P n Q0 M 3000 (.th (fun a w=>nR n K' a/\M' w)::K) (.c a) L)(hd:XC P n b (kF P Q0 K) K' M'):XC P n (.seq a b) (kF P Q0 K) (dn L) M:=XC.cut K' M' (cm _ (_::K) (.c _) _ hc) hd
def mt{K':PF}(hs:Sub L' K')(hm:∀ w,M w->M' w):XE n (kF P Q0 (.th (fun a w=>nR n K' a/\M' w)::K)) .normal L' M:=WD hs hm
def ZV{σ:Type}(V:σ->Prop)(I:σ->PF)(J:σ->World->Prop)[Tb P](hc:gM P n Q0 M 3000 (.th (fun a w=>∃ x,V x/\nR n (I x) a/\J x w)::K) (.c a) L)(hd:∀ x,V x->XC P n b (kF P Q0 K) (I x) (J x)):XC P n (.seq a b) (kF P Q0 K) (dn L) M:=XC.agA V I J (cm _ (_::K) (.c _) _ hc) hd
def nm{σ:Type}{V:σ->Prop}{I:σ->PF}{J:σ->World->Prop}(x:σ)(hv:V x)(hs:Sub L' (I x))(hj:∀ w,M w->J x w):XE n (kF P Q0 (.th (fun a w=>∃ x,V x/\nR n (I x) a/\J x w)::K)) .normal L' M:=RP x hv hs hj
end
section
variable {P:Program} {n:Fr} {Q0:Exit->Act->World->Prop} {M M':World->Prop} {K:List Fm} {L:SF} {W:World} {S:Nat->Nat->Prop} {H:List aK} {f:Nat} {s:St}
theorem XR.mono[Tb P](hm:∀ w,M w->M' w)(h:gM P n Q0 M' f K s L):gM P n Q0 M f K s L:=oI hm f K s L h
def bH[Tb P]{k cap sz:Nat}{e:TypeId}{xs:List Value}(hH:kR H (.row (.slice p k cap) e sz k xs))(hk:0<k)(h:∀ g,p=some ⟨g,0,none⟩->gM P n Q0 (XM W S H) f K s L):gM P n Q0 (XM W S H) f K s L:=
 xh (φ:=∃ g,p=some ⟨g,0,none⟩) (fun w hw=>by
  rcases(hw.eT.1 _ hH.mem).2 with⟨_,h0⟩ | ⟨g,cL,cur,hv,_⟩
  ·omega
  ·simp only[Value.slice.injEq]at hv;exact⟨g,hv.1⟩) fun ⟨g,hg⟩=>h g hg
def qm[Tb P]{k cap sz:Nat}{e:TypeId}{xs:List Value}(hH:kR H (.row (.slice p k cap) e sz k xs))
  (h:k<=cap->gM P n Q0 (XM W S H) f K s L):gM P n Q0 (XM W S H) f K s L:=xh (fun w hw=>B9 (hw.eT.1 _ hH.mem)) h
def XR.fc[Tb P](e:TypeId)(sz:Nat)(h:gM P n Q0 (XM W S (.row (.slice none 0 0) e sz 0 []::H)) f K s L):gM P n Q0 (XM W S H) f K s L:=oI (fun _ hw=>hw.fc e sz) f K s L h
def Pu[Tb P]{k cap sz:Nat}{e:TypeId}{xs:List Value}(hH:kR H (.row (.slice none k cap) e sz k xs))
  (h:k=0->gM P n Q0 (XM W S H) f K s L):gM P n Q0 (XM W S H) f K s L:=xh (fun w hw=>by
 rcases(hw.eT.1 _ hH.mem).2 with⟨_,h0⟩ | ⟨g,cL,cur,hv,_⟩
 ·exact h0
 ·simp at hv) h
def Sy[Tb P]{k cap sz:Nat}{e:TypeId}{xs:List Value}(hH:kR H (.row (.slice p k cap) e sz k xs))(hp:¬p=none)(h:∀ g,p=some ⟨g,0,none⟩->gM P n Q0 (XM W S H) f K s L):gM P n Q0 (XM W S H) f K s L:=
 xh (φ:=∃ g,p=some ⟨g,0,none⟩) (fun w hw=>by
  rcases(hw.eT.1 _ hH.mem).2 with⟨hv,_⟩ | ⟨g,cL,cur,hv,_⟩
  ·simp only[Value.slice.injEq]at hv;exact absurd hv.1 hp
  ·simp only[Value.slice.injEq]at hv;exact⟨g,hv.1⟩) fun ⟨g,hg⟩=>h g hg
end
section
variable {P:Program} {n:Fr} {Q0:Exit->Act->World->Prop} {M:World->Prop} {K:List Fm} {md:Md} {r:List Oper} {L:SF} {W:World} {S:Nat->Nat->Prop} {H H':List aK}
variable {t:TypeId} {d:Nat} {x y:Operand} {ty:TypeId} {pos:String} {af:Array Edge} {b o i k m:Nat} {C C':Nat->Value} {v:Value} {s:SV}
def sd{q R X:Prop}(kk:R)(h:q:=by omega):Sd q R X:=.inl ⟨h,kk⟩
def oV{q R X:Prop}(h:X):Sd q R X:=.inr h
def hd3{t:TypeId}(h:Nat.blt d n.sz=true):(Nat.blt d n.sz&&(!cx (.load t x)&&isR (.load t x)))=true:=by rw[h];rfl
def oL(h:XO P n md (kF P Q0 K) (⟨some d,.load t x,ty,pos,af,none⟩::r) (dn L) M):LdG P n Q0 M K md r L t d x ty pos af b o i:=fun _ _ _=>h
def oS(h:XO P n md (kF P Q0 K) (⟨none,.store t x y,ty,pos,af,none⟩::r) (dn L) M):StG P n Q0 M K md r L t x y ty pos af b o i k s:=fun _ _ _=>h
def ldV[Tb P][h:Rf v s](hv:∀ {t:TypeId},ev (dn L) x=some (aC b o i)->jw P t=true->bd P n (dn L) M ⟨some d,.load t x,ty,pos,af,none⟩ v)(kk:gM P n Q0 M 3000 K (.o md r) ((d,.one s)::L)):LdG P n Q0 M K md r L t d x ty pos af b o i:=fun hx ht hd=>
 XO.l (hv hx ht) (hd3 hd) (by have:=cm _ _ (.o _ _) _ kk;rw[<-h.h];exact this)
theorem ldW[Tb P][h:Rf v s](hv:∀ {t:TypeId},ev (dn L) x=some (aC b o i)->nq P t=true->fk P t=some k->bd P n (dn L) M ⟨some d,.load t x,ty,pos,af,none⟩ v)(kk:gM P n Q0 M 3000 K (.o md r) ((d,.one s)::L)):LdA P n Q0 M K md r L t d x ty pos af b o i k:=fun hx ht hs hd=>
 XO.l (hv hx ht hs) (hd3 hd) (by have:=cm _ _ (.o _ _) _ kk;rw[<-h.h];exact this)
def ld[Tb P][Rf v s](hH:kR H (.cells b o m C))(hv:i<m/\C i=v)(kk:gM P n Q0 (XM W S H) 3000 K (.o md r) ((d,.one s)::L)):LdG P n Q0 (XM W S H) K md r L t d x ty pos af b o i:=ldV (fun hx ht=>V.load hx (eD hH) hv ht) kk
def W3[Tb P][Rf v s](hH:kR H (.ro b o m C))(hv:i<m/\C i=v)(kk:gM P n Q0 (XM W S H) 3000 K (.o md r) ((d,.one s)::L)):LdG P n Q0 (XM W S H) K md r L t d x ty pos af b o i:=ldV (fun hx ht=>R1 hx (eD hH) hv ht) kk
def W4[Tb P][Rf v s]{cap sz:Nat}{e:TypeId}(hH:kR H (aS (some ⟨b,0,none⟩) cap e sz k C))(hv:i<k*sz/\C i=v)(kk:gM P n Q0 (XM W S H) 3000 K (.o md r) ((d,.one s)::L)):LdG P n Q0 (XM W S H) K md r L t d x ty pos af b 0 i:=ldV (fun hx ht=>WS hx (eD hH) hv ht) kk
def q9[Tb P][Rf v s]{cap sz:Nat}{e:TypeId}{xs:List Value}(hH:kR H (.row (.slice (some ⟨b,0,none⟩) k cap) e sz k xs))(hv:xs[i]? =some v)(kk:gM P n Q0 (XM W S H) 3000 K (.o md r) ((d,.one s)::L)):LdG P n Q0 (XM W S H) K md r L t d x ty pos af b 0 i:=ldV (fun hx ht=>ze hx (eD hH) hv ht) kk
def lZ[Tb P][Rf v s](hH:kR H (.cells b o m C))(hv:i+k<=m/\dc C i k=v)(kk:gM P n Q0 (XM W S H) 3000 K (.o md r) ((d,.one s)::L)):LdA P n Q0 (XM W S H) K md r L t d x ty pos af b o i k:=by grind [ldW,eB,eD]
def aen[Tb P][Rf v s](hH:kR H (.ro b o m C))(hv:i+k<=m/\dc C i k=v)(kk:gM P n Q0 (XM W S H) 3000 K (.o md r) ((d,.one s)::L)):LdA P n Q0 (XM W S H) K md r L t d x ty pos af b o i k:=by grind [ldW,Iz,eD]
def qn[Tb P][Rf v s]{cap sz l:Nat}{e:TypeId}(hH:kR H (aS (some ⟨b,0,none⟩) cap e sz l C))(hv:i+k<=l*sz/\dc C i k=v)(kk:gM P n Q0 (XM W S H) 3000 K (.o md r) ((d,.one s)::L)):LdA P n Q0 (XM W S H) K md r L t d x ty pos af b 0 i k:=ldW (fun hx ht hs=>Sa hx (eD hH) hv ht hs) kk
theorem st[Tb P](hH:nK H (.cells b o m C) (.cells b o m C') H')(hi:i<m/\dE C i (aJ s)=C')(hv:one (aJ s)=true)(kk:gM P n Q0 (XM W S H') 3000 K (.o md r) L):StG P n Q0 (XM W S H) K md r L t x y ty pos af b o i 1 s:=fun hx hy hs=>XO.store hx hy hH hi hv hs (cm _ _ (.o _ _) _ kk)
def gD[Tb P]{cs:Array Value}(hH:nK H (.cells b o m C) (.cells b o m C') H')(hi:i+k<=m/\cB C i cs.toList=C')(hs':(aJ s)= .agg cs)(hv:cs.toList.all one=true/\cs.size=k)(kk:gM P n Q0 (XM W S H') 3000 K (.o md r) L):StG P n Q0 (XM W S H) K md r L t x y ty pos af b o i k s:=fun hx hy hs=>XO.fP hx (hs'▸hy) hH hi hv hs (cm _ _ (.o _ _) _ kk)
def stF[Tb P]{cap sz l:Nat}{e:TypeId}(hH:nK H (aS (some ⟨b,0,none⟩) cap e sz l C) (aS (some ⟨b,0,none⟩) cap e sz l C') H')(hi:i<l*sz/\dE C i (aJ s)=C')(hv:one (aJ s)=true)(kk:gM P n Q0 (XM W S H') 3000 K (.o md r) L):StG P n Q0 (XM W S H) K md r L t x y ty pos af b 0 i 1 s:=fun hx hy hs=>XO.aaK hx hy hH hi hv hs (cm _ _ (.o _ _) _ kk)
def agZ[Tb P]{cap sz l:Nat}{e:TypeId}{cs:Array Value}(hH:nK H (aS (some ⟨b,0,none⟩) cap e sz l C) (aS (some ⟨b,0,none⟩) cap e sz l C') H')(hi:i+k<=l*sz/\cB C i cs.toList=C')(hs':(aJ s)= .agg cs)(hv:cs.toList.all one=true/\cs.size=k)(kk:gM P n Q0 (XM W S H') 3000 K (.o md r) L):StG P n Q0 (XM W S H) K md r L t x y ty pos af b 0 i k s:=fun hx hy hs=>XO.WR hx (hs'▸hy) hH hi hv hs (cm _ _ (.o _ _) _ kk)
def ca{f:FuncId}{xs:List Operand}{n9:Array TypeId}{vs:List Value}{pre F:List aK}{post:Value->List aK->Prop}(hs:Spec P f vs pre post)(hp:cI H pre F)(kk:∀ v H1,post v H1->XO P n md (kF P Q0 K) r ((d,v)::dn L) (XM W S (H1++F))):CaG P n Q0 (XM W S H) K md r L d f xs n9 ty pos af vs:=fun he hc hd=>XO.call he hs hp hc hd kk
def xj{f:FuncId}{xs:List Operand}{n9:Array TypeId}{vs:List Value}{pre F:List aK}{post:Value->List aK->Prop}(j:Nat)(hs:Spec P f vs pre post)(hp:cI H pre F)(hR:(pre.drop j).all (fun e=> !e.wr)=true)(kk:∀ v H1,post v H1->XO P n md (kF P Q0 K) r ((d,v)::dn L) (XM W S (H1++(pre.drop j++F)))):CaG P n Q0 (XM W S H) K md r L d f xs n9 ty pos af vs:=fun he hc hd=>XO.ad2 j he hs hp hR hc hd kk
def cq[Tb P]{f:FuncId}{xs:List Operand}{n9:Array TypeId}{vs:List Value}{pre F E:List aK}{V:Value}{L2:SF}(hs:Spec P f vs pre fun v H1=>v=V/\H1=E)(hp:cI H pre F)[h:ND ((d,V)::dn L) L2](kk:gM P n Q0 (XM W S (E++F)) 3000 K (.o md r) L2):CaG P n Q0 (XM W S H) K md r L d f xs n9 ty pos af vs:=ca hs hp (by rintro _ _ ⟨rfl,rfl⟩;exact gO kk)
def Io[Tb P]{f:FuncId}{xs:List Operand}{n9:Array TypeId}{vs:List Value}{pre F E:List aK}{V:Value}{L2:SF}(j:Nat)(hs:Spec P f vs pre fun v H1=>v=V/\H1=E)(hp:cI H pre F)(hR:(pre.drop j).all (fun e=> !e.wr)=true)[h:ND ((d,V)::dn L) L2](kk:gM P n Q0 (XM W S (E++(pre.drop j++F))) 3000 K (.o md r) L2):CaG P n Q0 (XM W S H) K md r L d f xs n9 ty pos af vs:=xj j hs hp hR (by rintro _ _ ⟨rfl,rfl⟩;exact gO kk)
end
section
variable {L:PF} {a1 a2 a3 a4 a5 a6 a7 a8:Nat} {v1 v2 v3 v4 v5 v6 v7 v8:Value} {R:PF}
def S1(h1:lk L a1=some v1):Sub L [(a1,v1)]:=.cons h1 (.nil _)
def S2(h1:lk L a1=some v1)(h2:lk L a2=some v2):Sub L [(a1,v1),(a2,v2)]:=.cons h1 (S1 h2)
def S3(h1:lk L a1=some v1)(h2:lk L a2=some v2)(h3:lk L a3=some v3):Sub L [(a1,v1),(a2,v2),(a3,v3)]:=.cons h1 (S2 h2 h3)
def S4(h1:lk L a1=some v1)(h2:lk L a2=some v2)(h3:lk L a3=some v3)(h4:lk L a4=some v4):Sub L [(a1,v1),(a2,v2),(a3,v3),(a4,v4)]:=.cons h1 (S3 h2 h3 h4)
def S5(h1:lk L a1=some v1)(h2:lk L a2=some v2)(h3:lk L a3=some v3)(h4:lk L a4=some v4)(h5:lk L a5=some v5):Sub L [(a1,v1),(a2,v2),(a3,v3),(a4,v4),(a5,v5)]:=.cons h1 (S4 h2 h3 h4 h5)
def S6(h1:lk L a1=some v1)(h2:lk L a2=some v2)(h3:lk L a3=some v3)(h4:lk L a4=some v4)(h5:lk L a5=some v5)(h6:lk L a6=some v6):Sub L [(a1,v1),(a2,v2),(a3,v3),(a4,v4),(a5,v5),(a6,v6)]:=.cons h1 (S5 h2 h3 h4 h5 h6)
end
def kR.t2{H:List aK}{e:aK}{x0 x1:aK}(h:kR H e):kR (x0::x1::H) e:=.av (.av h)
def kR.t3{H:List aK}{e:aK}{x0 x1 x2:aK}(h:kR H e):kR (x0::x1::x2::H) e:=.av (.t2 h)
def kR.t4{H:List aK}{e:aK}{x0 x1 x2 x3:aK}(h:kR H e):kR (x0::x1::x2::x3::H) e:=.av (.t3 h)
def kR.t5{H:List aK}{e:aK}{x0 x1 x2 x3 x4:aK}(h:kR H e):kR (x0::x1::x2::x3::x4::H) e:=.av (.t4 h)
def kR.t6{H:List aK}{e:aK}{x0 x1 x2 x3 x4 x5:aK}(h:kR H e):kR (x0::x1::x2::x3::x4::x5::H) e:=.av (.t5 h)
def kR.t7{H:List aK}{e:aK}{x0 x1 x2 x3 x4 x5 x6:aK}(h:kR H e):kR (x0::x1::x2::x3::x4::x5::x6::H) e:=.av (.t6 h)
def kR.t8{H:List aK}{e:aK}{x0 x1 x2 x3 x4 x5 x6 x7:aK}(h:kR H e):kR (x0::x1::x2::x3::x4::x5::x6::x7::H) e:=.av (.t7 h)
def kR.t9{H:List aK}{e:aK}{x0 x1 x2 x3 x4 x5 x6 x7 x8:aK}(h:kR H e):kR (x0::x1::x2::x3::x4::x5::x6::x7::x8::H) e:=.av (.t8 h)
def kR.W5{H:List aK}{e:aK}{x0 x1 x2 x3 x4 x5 x6 x7 x8 x9:aK}(h:kR H e):kR (x0::x1::x2::x3::x4::x5::x6::x7::x8::x9::H) e:=.av (.t9 h)
def kR.ZW{H:List aK}{e:aK}{x0 x1 x2 x3 x4 x5 x6 x7 x8 x9 pf:aK}(h:kR H e):kR (x0::x1::x2::x3::x4::x5::x6::x7::x8::x9::pf::H) e:=.av (.W5 h)
def kR.nT{H:List aK}{e:aK}{x0 x1 x2 x3 x4 x5 x6 x7 x8 x9 pf uE:aK}(h:kR H e):kR (x0::x1::x2::x3::x4::x5::x6::x7::x8::x9::pf::uE::H) e:=.av (.ZW h)
def mT.t2{H H2:List aK}{e:aK}{x0 x1:aK}(h:mT H e H2):mT (x0::x1::H) e (x0::x1::H2):=.av (.av h)
def mT.t3{H H2:List aK}{e:aK}{x0 x1 x2:aK}(h:mT H e H2):mT (x0::x1::x2::H) e (x0::x1::x2::H2):=.av (.t2 h)
def mT.t4{H H2:List aK}{e:aK}{x0 x1 x2 x3:aK}(h:mT H e H2):mT (x0::x1::x2::x3::H) e (x0::x1::x2::x3::H2):=.av (.t3 h)
def mT.t5{H H2:List aK}{e:aK}{x0 x1 x2 x3 x4:aK}(h:mT H e H2):mT (x0::x1::x2::x3::x4::H) e (x0::x1::x2::x3::x4::H2):=.av (.t4 h)
def mT.t6{H H2:List aK}{e:aK}{x0 x1 x2 x3 x4 x5:aK}(h:mT H e H2):mT (x0::x1::x2::x3::x4::x5::H) e (x0::x1::x2::x3::x4::x5::H2):=.av (.t5 h)
def mT.t7{H H2:List aK}{e:aK}{x0 x1 x2 x3 x4 x5 x6:aK}(h:mT H e H2):mT (x0::x1::x2::x3::x4::x5::x6::H) e (x0::x1::x2::x3::x4::x5::x6::H2):=.av (.t6 h)
def mT.t8{H H2:List aK}{e:aK}{x0 x1 x2 x3 x4 x5 x6 x7:aK}(h:mT H e H2):mT (x0::x1::x2::x3::x4::x5::x6::x7::H) e (x0::x1::x2::x3::x4::x5::x6::x7::H2):=.av (.t7 h)
def mT.t9{H H2:List aK}{e:aK}{x0 x1 x2 x3 x4 x5 x6 x7 x8:aK}(h:mT H e H2):mT (x0::x1::x2::x3::x4::x5::x6::x7::x8::H) e (x0::x1::x2::x3::x4::x5::x6::x7::x8::H2):=.av (.t8 h)
def mT.W5{H H2:List aK}{e:aK}{x0 x1 x2 x3 x4 x5 x6 x7 x8 x9:aK}(h:mT H e H2):mT (x0::x1::x2::x3::x4::x5::x6::x7::x8::x9::H) e (x0::x1::x2::x3::x4::x5::x6::x7::x8::x9::H2):=.av (.t9 h)
def mT.ZW{H H2:List aK}{e:aK}{x0 x1 x2 x3 x4 x5 x6 x7 x8 x9 pf:aK}(h:mT H e H2):mT (x0::x1::x2::x3::x4::x5::x6::x7::x8::x9::pf::H) e (x0::x1::x2::x3::x4::x5::x6::x7::x8::x9::pf::H2):=.av (.W5 h)
def mT.nT{H H2:List aK}{e:aK}{x0 x1 x2 x3 x4 x5 x6 x7 x8 x9 pf uE:aK}(h:mT H e H2):mT (x0::x1::x2::x3::x4::x5::x6::x7::x8::x9::pf::uE::H) e (x0::x1::x2::x3::x4::x5::x6::x7::x8::x9::pf::uE::H2):=.av (.ZW h)
def nK.t2{H H2:List aK}{e e2:aK}{x0 x1:aK}(h:nK H e e2 H2):nK (x0::x1::H) e e2 (x0::x1::H2):=.av (.av h)
def nK.t3{H H2:List aK}{e e2:aK}{x0 x1 x2:aK}(h:nK H e e2 H2):nK (x0::x1::x2::H) e e2 (x0::x1::x2::H2):=.av (.t2 h)
def nK.t4{H H2:List aK}{e e2:aK}{x0 x1 x2 x3:aK}(h:nK H e e2 H2):nK (x0::x1::x2::x3::H) e e2 (x0::x1::x2::x3::H2):=.av (.t3 h)
def nK.t5{H H2:List aK}{e e2:aK}{x0 x1 x2 x3 x4:aK}(h:nK H e e2 H2):nK (x0::x1::x2::x3::x4::H) e e2 (x0::x1::x2::x3::x4::H2):=.av (.t4 h)
def nK.t6{H H2:List aK}{e e2:aK}{x0 x1 x2 x3 x4 x5:aK}(h:nK H e e2 H2):nK (x0::x1::x2::x3::x4::x5::H) e e2 (x0::x1::x2::x3::x4::x5::H2):=.av (.t5 h)
def nK.t7{H H2:List aK}{e e2:aK}{x0 x1 x2 x3 x4 x5 x6:aK}(h:nK H e e2 H2):nK (x0::x1::x2::x3::x4::x5::x6::H) e e2 (x0::x1::x2::x3::x4::x5::x6::H2):=.av (.t6 h)
def nK.t8{H H2:List aK}{e e2:aK}{x0 x1 x2 x3 x4 x5 x6 x7:aK}(h:nK H e e2 H2):nK (x0::x1::x2::x3::x4::x5::x6::x7::H) e e2 (x0::x1::x2::x3::x4::x5::x6::x7::H2):=.av (.t7 h)
def nK.t9{H H2:List aK}{e e2:aK}{x0 x1 x2 x3 x4 x5 x6 x7 x8:aK}(h:nK H e e2 H2):nK (x0::x1::x2::x3::x4::x5::x6::x7::x8::H) e e2 (x0::x1::x2::x3::x4::x5::x6::x7::x8::H2):=.av (.t8 h)
def nK.W5{H H2:List aK}{e e2:aK}{x0 x1 x2 x3 x4 x5 x6 x7 x8 x9:aK}(h:nK H e e2 H2):nK (x0::x1::x2::x3::x4::x5::x6::x7::x8::x9::H) e e2 (x0::x1::x2::x3::x4::x5::x6::x7::x8::x9::H2):=.av (.t9 h)
def nK.ZW{H H2:List aK}{e e2:aK}{x0 x1 x2 x3 x4 x5 x6 x7 x8 x9 pf:aK}(h:nK H e e2 H2):nK (x0::x1::x2::x3::x4::x5::x6::x7::x8::x9::pf::H) e e2 (x0::x1::x2::x3::x4::x5::x6::x7::x8::x9::pf::H2):=.av (.W5 h)
def nK.nT{H H2:List aK}{e e2:aK}{x0 x1 x2 x3 x4 x5 x6 x7 x8 x9 pf uE:aK}(h:nK H e e2 H2):nK (x0::x1::x2::x3::x4::x5::x6::x7::x8::x9::pf::uE::H) e e2 (x0::x1::x2::x3::x4::x5::x6::x7::x8::x9::pf::uE::H2):=.av (.ZW h)
theorem cI.h1{H:List aK}{x0:aK} :cI (x0::H) [x0] H:=.cons .aa .nil
theorem cI.h2{H:List aK}{x0 x1:aK} :cI (x0::x1::H) [x0,x1] H:=.cons .aa .h1
theorem cI.h3{H:List aK}{x0 x1 x2:aK} :cI (x0::x1::x2::H) [x0,x1,x2] H:=.cons .aa .h2
theorem cI.h4{H:List aK}{x0 x1 x2 x3:aK} :cI (x0::x1::x2::x3::H) [x0,x1,x2,x3] H:=.cons .aa .h3
theorem cI.h5{H:List aK}{x0 x1 x2 x3 x4:aK} :cI (x0::x1::x2::x3::x4::H) [x0,x1,x2,x3,x4] H:=.cons .aa .h4
theorem cI.h6{H:List aK}{x0 x1 x2 x3 x4 x5:aK} :cI (x0::x1::x2::x3::x4::x5::H) [x0,x1,x2,x3,x4,x5] H:=.cons .aa .h5
theorem cI.h7{H:List aK}{x0 x1 x2 x3 x4 x5 x6:aK} :cI (x0::x1::x2::x3::x4::x5::x6::H) [x0,x1,x2,x3,x4,x5,x6] H:=.cons .aa .h6
theorem cI.h8{H:List aK}{x0 x1 x2 x3 x4 x5 x6 x7:aK} :cI (x0::x1::x2::x3::x4::x5::x6::x7::H) [x0,x1,x2,x3,x4,x5,x6,x7] H:=.cons .aa .h7
theorem cI.h9{H:List aK}{x0 x1 x2 x3 x4 x5 x6 x7 x8:aK} :cI (x0::x1::x2::x3::x4::x5::x6::x7::x8::H) [x0,x1,x2,x3,x4,x5,x6,x7,x8] H:=.cons .aa .h8
def cI.RH{H:List aK}{x0 x1 x2 x3 x4 x5 x6 x7 x8 x9:aK} :cI (x0::x1::x2::x3::x4::x5::x6::x7::x8::x9::H) [x0,x1,x2,x3,x4,x5,x6,x7,x8,x9] H:=.cons .aa .h9
def cI.ZX{H:List aK}{x0 x1 x2 x3 x4 x5 x6 x7 x8 x9 pf:aK} :cI (x0::x1::x2::x3::x4::x5::x6::x7::x8::x9::pf::H) [x0,x1,x2,x3,x4,x5,x6,x7,x8,x9,pf] H:=.cons .aa .RH
def cI.h12{H:List aK}{x0 x1 x2 x3 x4 x5 x6 x7 x8 x9 pf uE:aK} :cI (x0::x1::x2::x3::x4::x5::x6::x7::x8::x9::pf::uE::H) [x0,x1,x2,x3,x4,x5,x6,x7,x8,x9,pf,uE] H:=.cons .aa .ZX
def cI.h13{H:List aK}{x0 x1 x2 x3 x4 x5 x6 x7 x8 x9 pf uE Ck:aK} :cI (x0::x1::x2::x3::x4::x5::x6::x7::x8::x9::pf::uE::Ck::H) [x0,x1,x2,x3,x4,x5,x6,x7,x8,x9,pf,uE,Ck] H:=.cons .aa .h12
def cI.h14{H:List aK}{x0 x1 x2 x3 x4 x5 x6 x7 x8 x9 pf uE Ck Ff:aK} :cI (x0::x1::x2::x3::x4::x5::x6::x7::x8::x9::pf::uE::Ck::Ff::H) [x0,x1,x2,x3,x4,x5,x6,x7,x8,x9,pf,uE,Ck,Ff] H:=.cons .aa .h13
end Go.X

namespace Go.X
open Go
variable{H:List aK}
section
variable {P:Program} {ops:Array Oper} {Q:Exit->Act->World->Prop}
variable {n:Fr} {L:PF} {M:World->Prop}
def XQ(P:Program)(n:Fr)(ops:Array Oper)(Q:Exit->Act->World->Prop)(B:Ax)(f:Nat)(l:Array Bool)(L:PF)(M:World->Prop):Prop:=
 np ops l->∀ a w,nR n L a->M w->JL B l w->GJ P ops Q B f l a w
def XM.iY{W:World}{S:Nat->Nat->Prop}(w:World)(k:Nat)(h:XM W S H w):XM W S H {w with drawn:=w.drawn+k} :=h.drawn k
def XC.fI{i:Nat}{os:List Oper}{f:Nat}{l:Array Bool}(hm:P.follows .mixedOrders=true)(hf:os.length=f)(hl:Array.replicate f false=l)(hM:∀ w k,M w->M {w with drawn:=w.drawn+k})(h:XQ P n os.toArray Q [] f l L M):XC P n (.region i os.toArray true) Q L M:=fun a w ha hw=>by
 subst hf;subst hl;refine wp_region_any hm ?_;have:=re _ _ _ _ (h (sR _ _) a _ ha (hM w 1 hw) trivial);omega
theorem XQ.E4{B:Ax}{f i d:Nat}{l l':Array Bool}{o:Oper}{v:Value}(T:List Nat)(φ:World->Prop)(ho:ops[i]? =some o)(hk:zb ops l i=true)(hT:T.all (fun s=>Iv ops i ops.size s&& !(Nat.beq s i))=true)(hB:B.all (fun p=> !p.1.contains i)=true)(hl:l.setIfInBounds i true=l')(vT:o.dst=some d)(hd:Nat.blt d n.sz=true)(hφ:∀ w,M w->φ w)(hv:∀ a,nR n L a->YF P ops φ o v a)(h:XQ P n ops Q ((T,φ)::B) f l' ((d,v)::L) M):XQ P n ops Q B (f+1) l L M:=by
 subst hl;intro hc a w ha hw hJ;simp only[zb,Bool.and_eq_true]at hk;obtain⟨⟨h1,h2⟩,h3⟩:=hk;have hr:i∈Region.ready .any ops l:=by simpa using h3
 refine za (T:=T) (φ:=φ) ho (Region.noSelect_spec h1) (fun s hs=>⟨ops.size,?_⟩) ?_ ?_ f l a w hc (Region.free_spec ho h2) hr (hv a ha) ?_
 ·simp_all
 ·intro hi;have:=List.all_eq_true.1 hT i hi;simp_all
 ·grind
 ·rw[vT];exact h (jJ hc hr) _ w (ha.put hd v) hw ⟨fun _=>hφ w hw,JL.ka B hJ⟩
def XQ.step{B:Ax}{f i:Nat}{l:Array Bool}{o:Oper}(ho:ops[i]? =some o)(hg:o.guard=none)(hk:Region.ready .any ops l=[i])(h:np ops (l.setIfInBounds i true)->∀ a w,nR n L a->M w->JL B l w->o.wp P a w (GJ P ops Q B f (l.setIfInBounds i true)) (Lo Q)):XQ P n ops Q B (f+1) l L M:=by
 intro hc a w ha hw hJ;have hr:i∈Region.ready .any ops l:=by rw[hk];simp
 refine⟨hJ,fun h0=>(by rw[hk]at h0;cases h0),fun j hj=> ?_⟩;rw[hk]at hj;have:j=i:=by simpa using hj
 subst this;unfold wpOp;simp only[ho];rw[if_pos (by simp[Region.wanted,hg])];grind [jJ]
theorem XQ.done{B:Ax}{f:Nat}{l:Array Bool}(hk:Region.ready .any ops l=[])(h:XE n Q .normal L M):XQ P n ops Q B f l L M:=by
 intro hc a w ha hw hJ;cases f with
 | zero=>exact⟨hJ,hk,h a w ha hw⟩
 | succ f=>exact⟨hJ,fun _=>h a w ha hw,fun j hj=>by rw[hk]at hj;cases hj⟩
theorem XQ.split{B:Ax}{f d:Nat}{l:Array Bool}{t:Bool}(hl:lk L d=some (.bool t))(ht:t=true->XQ P n ops Q B f l ((d,.bool true)::L) M)(hf:t=false->XQ P n ops Q B f l ((d,.bool false)::L) M):XQ P n ops Q B f l L M:=by
 cases t
 ·exact fun hc a w ha hw hJ=>hf rfl hc a w ((Sub.cons hl fun i v h=>h).WC ha) hw hJ
 ·exact fun hc a w ha hw hJ=>ht rfl hc a w ((Sub.cons hl fun i v h=>h).WC ha) hw hJ
def AF{B:Ax} :∀ (f:Nat) (l:Array Bool) (a:Act) (w:World),GJ P ops Q B f l a w->GJ P ops Q (([],fun _=>True)::B) f l a w
 | 0,_,_,_,h=>⟨⟨fun _=>trivial,h.1⟩,h.2.1,h.2.2⟩
 | f+1,_,_,_,h=>⟨⟨fun _=>trivial,h.1⟩,h.2.1,fun j hj=>wpOp_mono (fun a' w'=>AF f _ a' w') (h.2.2 j hj)⟩
variable {op:Op} {ty:TypeId} {pos:String} {af:Array Edge} {d f i:Nat} {v:Value} {B:Ax} {l l':Array Bool}
theorem ZY{φ:World->Prop}(hv:bd P n L φ ⟨some d,op,ty,pos,af,none⟩ v)(a:Act)(ha:nR n L a):YF P ops φ ⟨some d,op,ty,pos,af,none⟩ v a:=
 .inl ⟨by simp[Region.wanted],fun w hw=>hv a w ha hw⟩
def XQ.pv(ho:ops[i]? =some ⟨some d,op,ty,pos,af,none⟩)(hk:zb ops l i=true)(hl:l.setIfInBounds i true=l')(hv:bd P n L (fun _=>True) ⟨some d,op,ty,pos,af,none⟩ v)(hd:Nat.blt d n.sz=true)(hB:B.all (fun p=> !p.1.contains i)=true)(h:XQ P n ops Q B f l' ((d,v)::L) M):XQ P n ops Q B (f+1) l L M:=
 XQ.E4 [] (fun _=>True) ho hk rfl hB hl rfl hd (fun _ _=>trivial) (ZY hv) fun hc a w ha hw hJ=>AF _ _ _ _ (h hc a w ha hw hJ.2)
theorem XQ.load{W:World}{S:Nat->Nat->Prop}(e:aK)(T:List Nat)(ho:ops[i]? =some ⟨some d,op,ty,pos,af,none⟩)(hk:zb ops l i=true)(hl:l.setIfInBounds i true=l')
  (hH:kR H e) (hv:bd P n L (fun w=>e.holds w) ⟨some d,op,ty,pos,af,none⟩ v) (hd:Nat.blt d n.sz=true) (hT:T.all (fun s=>Iv ops i ops.size s&& !(Nat.beq s i))=true)
  (hB:B.all (fun p=> !p.1.contains i)=true) (h:XQ P n ops Q ((T,fun w=>e.holds w)::B) f l' ((d,v)::L) (XM W S H)):XQ P n ops Q B (f+1) l L (XM W S H):=by grind [XQ.E4,eD,ZY]
theorem XQ.store{W:World}{S:Nat->Nat->Prop}{H H':List aK}{t:TypeId}{x y:Operand}{b o i' m:Nat}{C C':Nat->Value}(ho:ops[i]? =some ⟨none,.store t x y,ty,pos,af,none⟩)(hk:Region.ready .any ops l=[i])(hl:l.setIfInBounds i true=l')(hx:ev L x=some (aC b o i'))(hy:ev L y=some v)(hH:nK H (.cells b o m C) (.cells b o m C') H')(hi:i'<m/\dE C i' v=C')(hv:one v=true)(hs:fk P t=some 1)(IW:∀ w,XM W S H' w->JL B l' w)(h:XQ P n ops Q B f l' L (XM W S H')):XQ P n ops Q B (f+1) l L (XM W S H):=by
 subst hl;refine XQ.step ho rfl hk fun hc a w ha hw hJ=> ?_;obtain⟨H1,hd,hp⟩:=hH.ZM;have h2:=hw.setCell hd hi.1 v;rw[hi.2]at h2;have dG:=hw.b8 hd.b8;have hr:=nr (P:=P) (show(aK.cells b o m C).holds w from dG.eT.1 _ sq) hi.1 hv;unfold Oper.wp;have:(execOp a.eval ⟨none,.store t x y,ty,pos,af,none⟩).run P w= .ok .skip (w.setCell ⟨b,o+i',none⟩ v):=by
  have hz:(⟨b,o+i',none⟩:Addr).add 0=⟨b,o+i',none⟩:=rfl;simp[execOp,ay ha hx,ay ha hy,Instr.storeAt,Instr.sureAddr,aC,storeVar,zd hv,run_sizeOf hs,storeCells,hz,hr]
 rw[this];exact h hc _ _ ha (h2.b8 hp) (IW _ (h2.b8 hp))
def XQ.fP{W:World}{S:Nat->Nat->Prop}{H':List aK}{t:TypeId}{x y:Operand}{b o i' m sz:Nat}{C C':Nat->Value}{cs:Array Value}(ho:ops[i]? =some ⟨none,.store t x y,ty,pos,af,none⟩)(hk:Region.ready .any ops l=[i])(hl:l.setIfInBounds i true=l')(hx:ev L x=some (aC b o i'))(hy:ev L y=some (.agg cs))(hH:nK H (.cells b o m C) (.cells b o m C') H')(hi:i'+sz<=m/\cB C i' cs.toList=C')(hv:cs.toList.all one=true/\cs.size=sz)(hs:fk P t=some sz)(IW:∀ w,XM W S H' w->JL B l' w)(h:XQ P n ops Q B f l' L (XM W S H')):XQ P n ops Q B (f+1) l L (XM W S H):=by
 subst hl;refine XQ.step ho rfl hk fun hc a w ha hw hJ=> ?_;obtain⟨H1,hd,hp⟩:=hH.ZM;obtain⟨w',hr,nL⟩:=lC (P:=P) cs.toList i' 0 C w (hw.b8 hd.b8) (by simp;omega) hv.1;simp only[Nat.add_zero]at nL;rw[hi.2]at nL;unfold Oper.wp;have:(execOp a.eval ⟨none,.store t x y,ty,pos,af,none⟩).run P w= .ok .skip w':=by
  simp[execOp,ay ha hx,ay ha hy,Instr.storeAt,Instr.sureAddr,aC,storeVar,Value.cells,run_sizeOf hs,hv.2,hr]
 rw[this];exact h hc _ _ ha (nL.b8 hp) (IW _ (nL.b8 hp))
def XQ.call{W:World}{S:Nat->Nat->Prop}{g:FuncId}{xs:List Operand}{vs:List Value}{n9:Array TypeId}{pre F:List aK}{post:Value->List aK->Prop}(ho:ops[i]? =some ⟨some d,.call ⟨.value (.func g),xs.toArray,n9⟩,ty,pos,af,none⟩)(hk:Region.ready .any ops l=[i])(hl:l.setIfInBounds i true=l')(he:Pd L xs=some vs)(hs:Spec P g vs pre post)(hp:cI H pre F)(hc:cV P g=true)(hd:Nat.blt d n.sz=true)(IW:∀ v H1,post v H1->∀ w,XM W S (H1++F) w->JL B l' w)(h:∀ v H1,post v H1->XQ P n ops Q B f l' ((d,v)::L) (XM W S (H1++F))):XQ P n ops Q B (f+1) l L (XM W S H):=by
 subst hl;refine XQ.step ho rfl hk fun Fg a w ha hw hJ=> ?_;unfold Oper.wp;rw[xa hc (qh ha xs vs he)];show Calls P g vs.toArray w _;refine(hs w (hw.pick hp).eT).mono ?_;rintro e w' ⟨v,H1,rfl,sS,Lb,hx⟩;have nL:=hw.zc hp hx fun e he=>List.all_eq_true.1 Lb e he;exact h v H1 sS Fg _ _ (ha.put hd v) nL (IW v H1 sS _ nL)
theorem XQ.box{W:World}{S:Nat->Nat->Prop}{H:List aK}{t:TypeId}{x:Operand}{m:Nat}{C:Nat->Value}(ho:ops[i]? =some ⟨some d,.box t x,ty,pos,af,none⟩)(hk:Region.ready .any ops l=[i])(hl:l.setIfInBounds i true=l')(hx:ev L x=some v)(hm:v.cells.size=m)(hC:∀ i,i<m->cellsOf v.cells i=C i)(hd:Nat.blt d n.sz=true)(IW:∀ b w,XM W S (.cells b 0 m C::H) w->JL B l' w)(h:∀ b,XQ P n ops Q B f l' ((d,aC b 0 0)::L) (XM W S (.cells b 0 m C::H))):XQ P n ops Q B (f+1) l L (XM W S H):=by
 subst hl;refine XQ.step ho rfl hk fun Fg a w ha hw hJ=> ?_;have nL:=hw.alloc v.cells t C fun i hi=>by rw[gV _ _ hi,hC i (hm▸hi)]
 rw[hm]at nL;unfold Oper.wp;have:(execOp a.eval ⟨some d,.box t x,ty,pos,af,none⟩).run P w= .ok (.value (aC w.heap.size 0 0)) (w.alloc (.cells v.cells t)):=by
  simp[execOp,ay ha hx,Instr.box,newVar,newRow,newObj,Sem.run,aC]
 rw[this];exact h _ Fg _ _ (ha.put hd _) nL (IW _ _ nL)
def XQ.bN{W:World}{S:Nat->Nat->Prop}{t:TypeId}{z:Value}{m:Nat}{C:Nat->Value}(ho:ops[i]? =some ⟨some d,.alloc t,ty,pos,af,none⟩)(hk:Region.ready .any ops l=[i])(hl:l.setIfInBounds i true=l')(hz:B5 P t=some z)(hm:z.cells.size=m)(hC:∀ i,i<m->cellsOf z.cells i=C i)(hd:Nat.blt d n.sz=true)(IW:∀ b w,XM W S (.cells b 0 m C::H) w->JL B l' w)(h:∀ b,XQ P n ops Q B f l' ((d,aC b 0 0)::L) (XM W S (.cells b 0 m C::H))):XQ P n ops Q B (f+1) l L (XM W S H):=by
 subst hl;refine XQ.step ho rfl hk fun Fg a w ha hw hJ=> ?_;have hx:=hw.alloc z.cells t C fun i hi=>by rw[gV _ _ hi,hC i (hm▸hi)]
 rw[hm]at hx;unfold Oper.wp;have:(execOp a.eval ⟨some d,.alloc t,ty,pos,af,none⟩).run P w= .ok (.value (aC w.heap.size 0 0)) (w.alloc (.cells z.cells t)):=by
  simp[execOp,Instr.alloc,pR hz,newVar,newRow,newObj,Sem.run,aC]
 rw[this];exact h _ Fg _ _ (ha.put hd _) hx (IW _ _ hx)
end
section
variable {P:Program} {n:Fr} {L:PF} {ops:Array Oper} {Q:Exit->Act->World->Prop} {ty:TypeId} {pos:String} {af:Array Edge} {f i:Nat} {B:Ax} {l l':Array Bool}
end
end Go.X
