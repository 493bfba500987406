import Derived.Test.YthdinakloheinaaGreatDoorXFam
import Derived.Test.YthdinakloheinaaGreatDoorXRun
set_option linter.all false
namespace Go.X
open Go
variable{fn:Func}{p:Option Addr}
class Rf (v:Value) (s:outParam SV):Prop where
 h:(aJ s)=v
class RfW (v:Value) (s:outParam SW):Prop where
 h:(aK s)=v
class RfA (l:List Value) (r:outParam (List SV)):Prop where
 h:aG r=l
class M8 (L:PF) (r:outParam SF):Prop where
 h:dn r=L
instance (priority:=low) (v:Value):Rf v (.val v):=⟨rfl⟩
instance (k:IntKind) (z:Int):Rf (.int k z) (.int k z):=⟨rfl⟩
instance (s:ByteArray):Rf (.string s) (.str s):=⟨rfl⟩
instance (b o i:Nat):Rf (aA b o i) (.aA b o i):=⟨rfl⟩
instance:Rf .nilIface .nil:=⟨rfl⟩
instance (T:TypeId) (e:Int):Rf (az T e) (.err T e):=⟨rfl⟩
instance (T:TypeId) (v:Value):Rf (.iface T v) (.ifc T v):=⟨rfl⟩
instance:Rf (.pointer none) .pn:=⟨rfl⟩
instance (priority:=high):Rf (.bool true) .tt:=⟨rfl⟩
instance (priority:=high):Rf (.bool false) .ff:=⟨rfl⟩
instance (p:Prop) (i:Decidable p):Rf (.bool (@decide p i)) (@SV.M2 p i):=⟨rfl⟩
instance (priority:=900) (b:Bool):Rf (.bool b) (.bool b):=⟨rfl⟩
instance (p:Option Addr) (n c:Nat):Rf (.slice p n c) (.slc p n c):=⟨rfl⟩
instance:Rf undef .un:=⟨rfl⟩
instance (priority:=high) (s:SV):Rf (aJ s) s:=⟨rfl⟩
instance (priority:=low) (v:Value) (s:SV) [h:Rf v s]:RfW v (.one s):=⟨h.h⟩
instance:RfA [] []:=⟨rfl⟩
instance (v:Value) (s:SV) (l:List Value) (r:List SV) [h:Rf v s] [k:RfA l r]:RfA (v::l) (s::r):=⟨by rw[aG,h.h,k.h]⟩
instance (l:List Value) (r:List SV) [h:RfA l r]:RfW (.tuple l.toArray) (.tup r):=⟨by rw[aK,h.h]⟩
instance (priority:=high) (s:SW):RfW (aK s) s:=⟨rfl⟩
instance:M8 [] []:=⟨rfl⟩
instance (i:Nat) (v:Value) (s:SW) (L:PF) (r:SF) [h:RfW v s] [k:M8 L r]:M8 ((i,v)::L) ((i,s)::r):=⟨by rw[dn,h.h,k.h]⟩
instance (priority:=high) (r:SF):M8 (dn r) r:=⟨rfl⟩
instance (i:Nat):M8 (oD i []) []:=⟨rfl⟩
instance (i:Nat) (v:Value) (s:SW) (l:List Value) (r:SF) [h:RfW v s] [k:M8 (oD (i+1) l) r]:M8 (oD i (v::l)) ((i,s)::r):=⟨by rw[dn,h.h,k.h];rfl⟩
section
variable {P:Program} {n:Fr} {Q0:Exit->Act->World->Prop} {M M':World->Prop} {K:List Fm} {L:SF} {L':PF} {md:Md} {l:List Oper} {c a b:Code}
def gO[Tb P][h:M8 L' L](k:gD P n Q0 M 3000 K (.o md l) L):XO P n md (kI P Q0 K) l L' M:=by
 rw[<-h.h];exact cg _ _ (.o _ _) _ k
def gC[Tb P][h:M8 L' L](k:gD P n Q0 M 3000 K (.c c) L):XC P n c (kI P Q0 K) L' M:=by
 rw[<-h.h];exact cg _ _ (.c _) _ k
def gE[Tb P]{x:Exit}[h:M8 L' L](k:gD P n Q0 M 3000 K (.e x) L):XE n (kI P Q0 K) x L' M:=by
 rw[<-h.h];exact cg _ _ (.e _) _ k
theorem gS[Tb P](k:gD P n Q0 M 3000 (.sq b::K) (.c a) L):XC P n (.seq a b) (kI P Q0 K) (dn L) M:=XC.seq (cg _ _ (.c _) _ k)
def Spec.go[Tb P]{f:FuncId}{args:List Value}{pre:List aB}{post:Value->List aB->Prop}(k:Nat)(ps:List Nat)(cs:List (Nat×Nat))(hf:P.funcs[f]? =some fn)[r:M8 (oD 0 args) L](h:∀ W,gD P (fr k ps cs) (bodyPost P fn fun e w'=>∃ v H',e= .returned v/\post v H'/\H'.all aB.wr=true/\XM W (ck pre) H' w') (XM W (ck pre) pre) 3000 [] (.c c) L)(hb:fn.body=some c:=by exact rfl)(hk:fn.ntmps=k:=by exact rfl)(hn:Nat.ble args.length fn.ntmps=true:=by exact rfl):Spec P f args pre post:=by
 subst hk;intro w hg;refine enter (ps:=ps) (cs:=cs) hf hb hn ?_ (kJ hg);rw[<-r.h];exact cg _ [] (.c _) _ (h w)
def rq[Tb P]{i:Nat}{os:List Oper}{W:World}{S:Nat->Nat->Prop}{H:List aB}(r:List Nat)(hm:P.follows .mixedOrders=true)(k:gD P n Q0 (XM W S H) 3000 K (.o (.op os.toArray) (MR os r)) L)(hz:(Wj os.toArray (Array.replicate os.length false) r&&Nat.beq r.length os.length&&r.all (Nat.blt · os.length))=true:=by kernel_rfl):XC P n (.region i os.toArray true) (kI P Q0 K) (dn L) (XM W S H):=XC.rq r hm hz (fun w k h=>h.drawn k) (cg _ _ (.o _ _) _ k)
def cd[Tb P]{x:Operand}{p:Prop}{i:Decidable p}(hc:ev (dn L) x=some (.bool (@decide p i)))(ht:p->gD P n Q0 M 3000 K (.c a) L)(hf:¬p->gD P n Q0 M 3000 K (.c b) L):XC P n (.cond x a b) (kI P Q0 K) (dn L) M:=
 XC.MN hc (fun h=>cg _ _ (.c _) _ (ht h)) fun h=>cg _ _ (.c _) _ (hf h)
def yW[Tb P]{x:Operand}{t:Bool}(ht:t=true->gD P n Q0 M 3000 K (.c a) L)(hf:t=false->gD P n Q0 M 3000 K (.c b) L)(hc:ev (dn L) x=some (.bool t):=by exact rfl):XC P n (.cond x a b) (kI P Q0 K) (dn L) M:=
 XC.cond hc (fun h=>cg _ _ (.c _) _ (ht h)) fun h=>cg _ _ (.c _) _ (hf h)
def V0[Tb P]{x:Operand}{p:Prop}{i:Decidable p}(hc:ev (dn L) x=some (.bool (@decide p i)))(h:p)(ht:gD P n Q0 M 3000 K (.c a) L):XC P n (.cond x a b) (kI P Q0 K) (dn L) M:=OD hc h (cg _ _ (.c _) _ ht)
def AZ[Tb P]{x:Operand}{p:Prop}{i:Decidable p}(hc:ev (dn L) x=some (.bool (@decide p i)))(h:¬p)(hf:gD P n Q0 M 3000 K (.c b) L):XC P n (.cond x a b) (kI P Q0 K) (dn L) M:=OE hc h (cg _ _ (.c _) _ hf)
def agH[Tb P]{x:Operand}{t:Bool}(hc:ev (dn L) x=some (.bool t))(h:t=true)(ht:gD P n Q0 M 3000 K (.c a) L):XC P n (.cond x a b) (kI P Q0 K) (dn L) M:=BG hc h (cg _ _ (.c _) _ ht)
def agI[Tb P]{x:Operand}{t:Bool}(hc:ev (dn L) x=some (.bool t))(h:t=false)(hf:gD P n Q0 M 3000 K (.c b) L):XC P n (.cond x a b) (kI P Q0 K) (dn L) M:=BH hc h (cg _ _ (.c _) _ hf)
def sp[Tb P](d:Nat){p:Prop}{i:Decidable p}(hl:lk (dn L) d=some (.bool (@decide p i)))(ht:p->gD P n Q0 M 3000 K (.o md l) ((d,.one .tt)::L))(hf:¬p->gD P n Q0 M 3000 K (.o md l) ((d,.one .ff)::L)):XO P n md (kI P Q0 K) l (dn L) M:=
 XO.aaj hl (fun h=>cg _ _ (.o _ _) ((d,.one .tt)::L) (ht h)) fun h=>cg _ _ (.o _ _) ((d,.one .ff)::L) (hf h)
def M9[Tb P](d:Nat){t:Bool}(hl:lk (dn L) d=some (.bool t))(ht:t=true->gD P n Q0 M 3000 K (.o md l) ((d,.one .tt)::L))(hf:t=false->gD P n Q0 M 3000 K (.o md l) ((d,.one .ff)::L)):XO P n md (kI P Q0 K) l (dn L) M:=
 XO.split hl (fun h=>cg _ _ (.o _ _) ((d,.one .tt)::L) (ht h)) fun h=>cg _ _ (.o _ _) ((d,.one .ff)::L) (hf h)
def WJ[Tb P](d:Nat){p:Prop}{i:Decidable p}(hl:lk (dn L) d=some (.bool (@decide p i)))(h:p)(ht:gD P n Q0 M 3000 K (.o md l) ((d,.one .tt)::L)):XO P n md (kI P Q0 K) l (dn L) M:=XO.aak hl h (cg _ _ (.o _ _) ((d,.one .tt)::L) ht)
def spF[Tb P](d:Nat){p:Prop}{i:Decidable p}(hl:lk (dn L) d=some (.bool (@decide p i)))(h:¬p)(hf:gD P n Q0 M 3000 K (.o md l) ((d,.one .ff)::L)):XO P n md (kI P Q0 K) l (dn L) M:=XO.aal hl h (cg _ _ (.o _ _) ((d,.one .ff)::L) hf)
def lp{σ:Type}(m:σ->Nat)(V:σ->Prop)(I:σ->PF)(J:σ->World->Prop)(x₀:σ)(hv:V x₀)(h₀:Sub (dn L) (I x₀))(hj:∀ w,M w->J x₀ w)
  (round:∀ x,V x->XC P n c (kI P Q0 (.th (fun a' w'=>∃ x',m x'<m x/\V x'/\pd n (I x') a'/\J x' w')::K)) (I x) (J x)):XC P n (.loop c) (kI P Q0 K) (dn L) M:=XC.loop m V I J x₀ hv h₀ hj round
def ag{σ:Type}{m:σ->Nat}{V:σ->Prop}{I:σ->PF}{J:σ->World->Prop}{x:σ}(x':σ)(hm:m x'<m x)(hv:V x')(hs:Sub L' (I x'))(hj:∀ w,M w->J x' w):
  XE n (kI P Q0 (.th (fun a' w'=>∃ x',m x'<m x/\V x'/\pd n (I x') a'/\J x' w')::K)) .normal L' M:=XE.again x' hm hv hs hj
def ct(K':PF)(M':World->Prop)[Tb P](hc:gD P n Q0 M 3000 (.th (fun a w=>pd n K' a/\M' w)::K) (.c a) L)(hd:XC P n b (kI P Q0 K) K' M'):XC P n (.seq a b) (kI P Q0 K) (dn L) M:=XC.cut K' M' (cg _ (_::K) (.c _) _ hc) hd
def mt{K':PF}(hs:Sub L' K')(hm:∀ w,M w->M' w):XE n (kI P Q0 (.th (fun a w=>pd n K' a/\M' w)::K)) .normal L' M:=Wg hs hm
def Zt{σ:Type}(V:σ->Prop)(I:σ->PF)(J:σ->World->Prop)[Tb P](hc:gD P n Q0 M 3000 (.th (fun a w=>∃ x,V x/\pd n (I x) a/\J x w)::K) (.c a) L)(hd:∀ x,V x->XC P n b (kI P Q0 K) (I x) (J x)):XC P n (.seq a b) (kI P Q0 K) (dn L) M:=XC.agj V I J (cg _ (_::K) (.c _) _ hc) hd
def pT{σ:Type}{V:σ->Prop}{I:σ->PF}{J:σ->World->Prop}(x:σ)(hv:V x)(hs:Sub L' (I x))(hj:∀ w,M w->J x w):XE n (kI P Q0 (.th (fun a w=>∃ x,V x/\pd n (I x) a/\J x w)::K)) .normal L' M:=Rk x hv hs hj
end
section
variable {P:Program} {n:Fr} {Q0:Exit->Act->World->Prop} {M M':World->Prop} {K:List Fm} {L:SF} {W:World} {S:Nat->Nat->Prop} {H:List aB} {f:Nat} {s:St}
theorem XR.mono[Tb P](hm:∀ w,M w->M' w)(h:gD P n Q0 M' f K s L):gD P n Q0 M f K s L:=oJ hm f K s L h
def bL[Tb P]{k cap sz:Nat}{e:TypeId}{xs:List Value}(hH:kR H (.row (.slice p k cap) e sz k xs))(hk:0<k)(h:∀ g,p=some ⟨g,0,none⟩->gD P n Q0 (XM W S H) f K s L):gD P n Q0 (XM W S H) f K s L:=
 wP (φ:=∃ g,p=some ⟨g,0,none⟩) (fun w hw=>by
  rcases(hw.eY.1 _ hH.mem).2 with⟨_,h0⟩ | ⟨g,cJ,cur,hv,_⟩
  ·omega
  ·simp only[Value.slice.injEq]at hv;exact⟨g,hv.1⟩) fun ⟨g,hg⟩=>h g hg
def qq[Tb P]{k cap sz:Nat}{e:TypeId}{xs:List Value}(hH:kR H (.row (.slice p k cap) e sz k xs))
  (h:k<=cap->gD P n Q0 (XM W S H) f K s L):gD P n Q0 (XM W S H) f K s L:=wP (fun w hw=>BP (hw.eY.1 _ hH.mem)) h
def XR.ft[Tb P](e:TypeId)(sz:Nat)(h:gD P n Q0 (XM W S (.row (.slice none 0 0) e sz 0 []::H)) f K s L):gD P n Q0 (XM W S H) f K s L:=oJ (fun _ hw=>hw.ft e sz) f K s L h
def OZ[Tb P]{k cap sz:Nat}{e:TypeId}{xs:List Value}(hH:kR H (.row (.slice none k cap) e sz k xs))
  (h:k=0->gD P n Q0 (XM W S H) f K s L):gD P n Q0 (XM W S H) f K s L:=wP (fun w hw=>by
 rcases(hw.eY.1 _ hH.mem).2 with⟨_,h0⟩ | ⟨g,cJ,cur,hv,_⟩
 ·exact h0
 ·simp at hv) h
def R8[Tb P]{k cap sz:Nat}{e:TypeId}{xs:List Value}(hH:kR H (.row (.slice p k cap) e sz k xs))(hp:¬p=none)(h:∀ g,p=some ⟨g,0,none⟩->gD P n Q0 (XM W S H) f K s L):gD P n Q0 (XM W S H) f K s L:=
 wP (φ:=∃ g,p=some ⟨g,0,none⟩) (fun w hw=>by
  rcases(hw.eY.1 _ hH.mem).2 with⟨hv,_⟩ | ⟨g,cJ,cur,hv,_⟩
  ·simp only[Value.slice.injEq]at hv;exact absurd hv.1 hp
  ·simp only[Value.slice.injEq]at hv;exact⟨g,hv.1⟩) fun ⟨g,hg⟩=>h g hg
end
section
variable {P:Program} {n:Fr} {Q0:Exit->Act->World->Prop} {M:World->Prop} {K:List Fm} {md:Md} {r:List Oper} {L:SF} {W:World} {S:Nat->Nat->Prop} {H H':List aB}
variable {t:TypeId} {d:Nat} {x y:Operand} {ty:TypeId} {pos:String} {af:Array Edge} {b o i k m:Nat} {C C':Nat->Value} {v:Value} {s:SV}
def sd{q R X:Prop}(kk:R)(h:q:=by omega):Sd q R X:=.inl ⟨h,kk⟩
def oV{q R X:Prop}(h:X):Sd q R X:=.inr h
def hd3{t:TypeId}(h:Nat.blt d n.sz=true):(Nat.blt d n.sz&&(!cI (.load t x)&&isR (.load t x)))=true:=by rw[h];rfl
def oL(h:XO P n md (kI P Q0 K) (⟨some d,.load t x,ty,pos,af,none⟩::r) (dn L) M):LdG P n Q0 M K md r L t d x ty pos af b o i:=fun _ _ _=>h
def oS(h:XO P n md (kI P Q0 K) (⟨none,.store t x y,ty,pos,af,none⟩::r) (dn L) M):StG P n Q0 M K md r L t x y ty pos af b o i k s:=fun _ _ _=>h
def ldV[Tb P][h:Rf v s](hv:∀ {t:TypeId},ev (dn L) x=some (aA b o i)->jD P t=true->aZ P n (dn L) M ⟨some d,.load t x,ty,pos,af,none⟩ v)(kk:gD P n Q0 M 3000 K (.o md r) ((d,.one s)::L)):LdG P n Q0 M K md r L t d x ty pos af b o i:=fun hx ht hd=>
 XO.l (hv hx ht) (hd3 hd) (by have:=cg _ _ (.o _ _) _ kk;rw[<-h.h];exact this)
def ldW[Tb P][h:Rf v s](hv:∀ {t:TypeId},ev (dn L) x=some (aA b o i)->ny P t=true->fb P t=some k->aZ P n (dn L) M ⟨some d,.load t x,ty,pos,af,none⟩ v)(kk:gD P n Q0 M 3000 K (.o md r) ((d,.one s)::L)):LdA P n Q0 M K md r L t d x ty pos af b o i k:=fun hx ht hs hd=>
 XO.l (hv hx ht hs) (hd3 hd) (by have:=cg _ _ (.o _ _) _ kk;rw[<-h.h];exact this)
def ld[Tb P][Rf v s](hH:kR H (.cells b o m C))(hv:i<m/\C i=v)(kk:gD P n Q0 (XM W S H) 3000 K (.o md r) ((d,.one s)::L)):LdG P n Q0 (XM W S H) K md r L t d x ty pos af b o i:=ldV (fun hx ht=>V.load hx (fc hH) hv ht) kk
def WK[Tb P][Rf v s](hH:kR H (.ro b o m C))(hv:i<m/\C i=v)(kk:gD P n Q0 (XM W S H) 3000 K (.o md r) ((d,.one s)::L)):LdG P n Q0 (XM W S H) K md r L t d x ty pos af b o i:=ldV (fun hx ht=>Rw hx (fc hH) hv ht) kk
def WL[Tb P][Rf v s]{cap sz:Nat}{e:TypeId}(hH:kR H (aM (some ⟨b,0,none⟩) cap e sz k C))(hv:i<k*sz/\C i=v)(kk:gD P n Q0 (XM W S H) 3000 K (.o md r) ((d,.one s)::L)):LdG P n Q0 (XM W S H) K md r L t d x ty pos af b 0 i:=ldV (fun hx ht=>Wv hx (fc hH) hv ht) kk
def Ak[Tb P][Rf v s]{cap sz:Nat}{e:TypeId}{xs:List Value}(hH:kR H (.row (.slice (some ⟨b,0,none⟩) k cap) e sz k xs))(hv:xs[i]? =some v)(kk:gD P n Q0 (XM W S H) 3000 K (.o md r) ((d,.one s)::L)):LdG P n Q0 (XM W S H) K md r L t d x ty pos af b 0 i:=ldV (fun hx ht=>yP hx (fc hH) hv ht) kk
def lM[Tb P][Rf v s](hH:kR H (.cells b o m C))(hv:i+k<=m/\cZ C i k=v)(kk:gD P n Q0 (XM W S H) 3000 K (.o md r) ((d,.one s)::L)):LdA P n Q0 (XM W S H) K md r L t d x ty pos af b o i k:=ldW (fun hx ht hs=>eB hx (fc hH) hv ht hs) kk
def aec[Tb P][Rf v s](hH:kR H (.ro b o m C))(hv:i+k<=m/\cZ C i k=v)(kk:gD P n Q0 (XM W S H) 3000 K (.o md r) ((d,.one s)::L)):LdA P n Q0 (XM W S H) K md r L t d x ty pos af b o i k:=ldW (fun hx ht hs=>H4 hx (fc hH) hv ht hs) kk
def qs[Tb P][Rf v s]{cap sz l:Nat}{e:TypeId}(hH:kR H (aM (some ⟨b,0,none⟩) cap e sz l C))(hv:i+k<=l*sz/\cZ C i k=v)(kk:gD P n Q0 (XM W S H) 3000 K (.o md r) ((d,.one s)::L)):LdA P n Q0 (XM W S H) K md r L t d x ty pos af b 0 i k:=ldW (fun hx ht hs=>RH hx (fc hH) hv ht hs) kk
theorem st[Tb P](hH:nL H (.cells b o m C) (.cells b o m C') H')(hi:i<m/\dL C i (aJ s)=C')(hv:one (aJ s)=true)(kk:gD P n Q0 (XM W S H') 3000 K (.o md r) L):StG P n Q0 (XM W S H) K md r L t x y ty pos af b o i 1 s:=fun hx hy hs=>XO.store hx hy hH hi hv hs (cg _ _ (.o _ _) _ kk)
def fW[Tb P]{cs:Array Value}(hH:nL H (.cells b o m C) (.cells b o m C') H')(hi:i+k<=m/\cC C i cs.toList=C')(hs':(aJ s)= .agg cs)(hv:cs.toList.all one=true/\cs.size=k)(kk:gD P n Q0 (XM W S H') 3000 K (.o md r) L):StG P n Q0 (XM W S H) K md r L t x y ty pos af b o i k s:=fun hx hy hs=>XO.gM hx (hs'▸hy) hH hi hv hs (cg _ _ (.o _ _) _ kk)
def stF[Tb P]{cap sz l:Nat}{e:TypeId}(hH:nL H (aM (some ⟨b,0,none⟩) cap e sz l C) (aM (some ⟨b,0,none⟩) cap e sz l C') H')(hi:i<l*sz/\dL C i (aJ s)=C')(hv:one (aJ s)=true)(kk:gD P n Q0 (XM W S H') 3000 K (.o md r) L):StG P n Q0 (XM W S H) K md r L t x y ty pos af b 0 i 1 s:=fun hx hy hs=>XO.aan hx hy hH hi hv hs (cg _ _ (.o _ _) _ kk)
def agK[Tb P]{cap sz l:Nat}{e:TypeId}{cs:Array Value}(hH:nL H (aM (some ⟨b,0,none⟩) cap e sz l C) (aM (some ⟨b,0,none⟩) cap e sz l C') H')(hi:i+k<=l*sz/\cC C i cs.toList=C')(hs':(aJ s)= .agg cs)(hv:cs.toList.all one=true/\cs.size=k)(kk:gD P n Q0 (XM W S H') 3000 K (.o md r) L):StG P n Q0 (XM W S H) K md r L t x y ty pos af b 0 i k s:=fun hx hy hs=>XO.Wu hx (hs'▸hy) hH hi hv hs (cg _ _ (.o _ _) _ kk)
def ca{f:FuncId}{xs:List Operand}{oc:Array TypeId}{vs:List Value}{pre F:List aB}{post:Value->List aB->Prop}(hs:Spec P f vs pre post)(hp:cO H pre F)(kk:∀ v H1,post v H1->XO P n md (kI P Q0 K) r ((d,v)::dn L) (XM W S (H1++F))):CaG P n Q0 (XM W S H) K md r L d f xs oc ty pos af vs:=fun he hc hd=>XO.call he hs hp hc hd kk
def vl{f:FuncId}{xs:List Operand}{oc:Array TypeId}{vs:List Value}{pre F:List aB}{post:Value->List aB->Prop}(j:Nat)(hs:Spec P f vs pre post)(hp:cO H pre F)(hR:(pre.drop j).all (fun e=> !e.wr)=true)(kk:∀ v H1,post v H1->XO P n md (kI P Q0 K) r ((d,v)::dn L) (XM W S (H1++(pre.drop j++F)))):CaG P n Q0 (XM W S H) K md r L d f xs oc ty pos af vs:=fun he hc hd=>XO.adQ j he hs hp hR hc hd kk
def cq[Tb P]{f:FuncId}{xs:List Operand}{oc:Array TypeId}{vs:List Value}{pre F E:List aB}{V:Value}{L2:SF}(hs:Spec P f vs pre fun v H1=>v=V/\H1=E)(hp:cO H pre F)[h:M8 ((d,V)::dn L) L2](kk:gD P n Q0 (XM W S (E++F)) 3000 K (.o md r) L2):CaG P n Q0 (XM W S H) K md r L d f xs oc ty pos af vs:=ca hs hp (by rintro _ _ ⟨rfl,rfl⟩;exact gO kk)
def HQ[Tb P]{f:FuncId}{xs:List Operand}{oc:Array TypeId}{vs:List Value}{pre F E:List aB}{V:Value}{L2:SF}(j:Nat)(hs:Spec P f vs pre fun v H1=>v=V/\H1=E)(hp:cO H pre F)(hR:(pre.drop j).all (fun e=> !e.wr)=true)[h:M8 ((d,V)::dn L) L2](kk:gD P n Q0 (XM W S (E++(pre.drop j++F))) 3000 K (.o md r) L2):CaG P n Q0 (XM W S H) K md r L d f xs oc ty pos af vs:=vl j hs hp hR (by rintro _ _ ⟨rfl,rfl⟩;exact gO kk)
end
section
variable {L:PF} {a1 a2 a3 a4 a5 a6 a7 a8:Nat} {v1 v2 v3 v4 v5 v6 v7 v8:Value} {R:PF}
def S1(h1:lk L a1=some v1:=by exact rfl):Sub L [(a1,v1)]:=.cons h1 (.nil _)
def S2(h1:lk L a1=some v1:=by exact rfl)(h2:lk L a2=some v2:=by exact rfl):Sub L [(a1,v1),(a2,v2)]:=.cons h1 (S1 h2)
def S3(h1:lk L a1=some v1:=by exact rfl)(h2:lk L a2=some v2:=by exact rfl)(h3:lk L a3=some v3:=by exact rfl):Sub L [(a1,v1),(a2,v2),(a3,v3)]:=.cons h1 (S2 h2 h3)
def S4(h1:lk L a1=some v1:=by exact rfl)(h2:lk L a2=some v2:=by exact rfl)(h3:lk L a3=some v3:=by exact rfl)(h4:lk L a4=some v4:=by exact rfl):Sub L [(a1,v1),(a2,v2),(a3,v3),(a4,v4)]:=.cons h1 (S3 h2 h3 h4)
def S5(h1:lk L a1=some v1:=by exact rfl)(h2:lk L a2=some v2:=by exact rfl)(h3:lk L a3=some v3:=by exact rfl)(h4:lk L a4=some v4:=by exact rfl)(h5:lk L a5=some v5:=by exact rfl):Sub L [(a1,v1),(a2,v2),(a3,v3),(a4,v4),(a5,v5)]:=.cons h1 (S4 h2 h3 h4 h5)
def S6(h1:lk L a1=some v1:=by exact rfl)(h2:lk L a2=some v2:=by exact rfl)(h3:lk L a3=some v3:=by exact rfl)(h4:lk L a4=some v4:=by exact rfl)(h5:lk L a5=some v5:=by exact rfl)(h6:lk L a6=some v6:=by exact rfl):Sub L [(a1,v1),(a2,v2),(a3,v3),(a4,v4),(a5,v5),(a6,v6)]:=.cons h1 (S5 h2 h3 h4 h5 h6)
end
def kR.t2{H:List aB}{e:aB}{x0 x1:aB}(h:kR H e):kR (x0::x1::H) e:=.ao (.ao h)
def kR.t3{H:List aB}{e:aB}{x0 x1 x2:aB}(h:kR H e):kR (x0::x1::x2::H) e:=.ao (.t2 h)
def kR.t4{H:List aB}{e:aB}{x0 x1 x2 x3:aB}(h:kR H e):kR (x0::x1::x2::x3::H) e:=.ao (.t3 h)
def kR.t5{H:List aB}{e:aB}{x0 x1 x2 x3 x4:aB}(h:kR H e):kR (x0::x1::x2::x3::x4::H) e:=.ao (.t4 h)
def kR.t6{H:List aB}{e:aB}{x0 x1 x2 x3 x4 x5:aB}(h:kR H e):kR (x0::x1::x2::x3::x4::x5::H) e:=.ao (.t5 h)
def kR.t7{H:List aB}{e:aB}{x0 x1 x2 x3 x4 x5 x6:aB}(h:kR H e):kR (x0::x1::x2::x3::x4::x5::x6::H) e:=.ao (.t6 h)
def kR.t8{H:List aB}{e:aB}{x0 x1 x2 x3 x4 x5 x6 x7:aB}(h:kR H e):kR (x0::x1::x2::x3::x4::x5::x6::x7::H) e:=.ao (.t7 h)
def kR.t9{H:List aB}{e:aB}{x0 x1 x2 x3 x4 x5 x6 x7 x8:aB}(h:kR H e):kR (x0::x1::x2::x3::x4::x5::x6::x7::x8::H) e:=.ao (.t8 h)
def kR.WM{H:List aB}{e:aB}{x0 x1 x2 x3 x4 x5 x6 x7 x8 x9:aB}(h:kR H e):kR (x0::x1::x2::x3::x4::x5::x6::x7::x8::x9::H) e:=.ao (.t9 h)
def kR.Zu{H:List aB}{e:aB}{x0 x1 x2 x3 x4 x5 x6 x7 x8 x9 vd:aB}(h:kR H e):kR (x0::x1::x2::x3::x4::x5::x6::x7::x8::x9::vd::H) e:=.ao (.WM h)
def kR.oq{H:List aB}{e:aB}{x0 x1 x2 x3 x4 x5 x6 x7 x8 x9 vd D0:aB}(h:kR H e):kR (x0::x1::x2::x3::x4::x5::x6::x7::x8::x9::vd::D0::H) e:=.ao (.Zu h)
def nc.t2{H H2:List aB}{e:aB}{x0 x1:aB}(h:nc H e H2):nc (x0::x1::H) e (x0::x1::H2):=.ao (.ao h)
def nc.t3{H H2:List aB}{e:aB}{x0 x1 x2:aB}(h:nc H e H2):nc (x0::x1::x2::H) e (x0::x1::x2::H2):=.ao (.t2 h)
def nc.t4{H H2:List aB}{e:aB}{x0 x1 x2 x3:aB}(h:nc H e H2):nc (x0::x1::x2::x3::H) e (x0::x1::x2::x3::H2):=.ao (.t3 h)
def nc.t5{H H2:List aB}{e:aB}{x0 x1 x2 x3 x4:aB}(h:nc H e H2):nc (x0::x1::x2::x3::x4::H) e (x0::x1::x2::x3::x4::H2):=.ao (.t4 h)
def nc.t6{H H2:List aB}{e:aB}{x0 x1 x2 x3 x4 x5:aB}(h:nc H e H2):nc (x0::x1::x2::x3::x4::x5::H) e (x0::x1::x2::x3::x4::x5::H2):=.ao (.t5 h)
def nc.t7{H H2:List aB}{e:aB}{x0 x1 x2 x3 x4 x5 x6:aB}(h:nc H e H2):nc (x0::x1::x2::x3::x4::x5::x6::H) e (x0::x1::x2::x3::x4::x5::x6::H2):=.ao (.t6 h)
def nc.t8{H H2:List aB}{e:aB}{x0 x1 x2 x3 x4 x5 x6 x7:aB}(h:nc H e H2):nc (x0::x1::x2::x3::x4::x5::x6::x7::H) e (x0::x1::x2::x3::x4::x5::x6::x7::H2):=.ao (.t7 h)
def nc.t9{H H2:List aB}{e:aB}{x0 x1 x2 x3 x4 x5 x6 x7 x8:aB}(h:nc H e H2):nc (x0::x1::x2::x3::x4::x5::x6::x7::x8::H) e (x0::x1::x2::x3::x4::x5::x6::x7::x8::H2):=.ao (.t8 h)
def nc.WM{H H2:List aB}{e:aB}{x0 x1 x2 x3 x4 x5 x6 x7 x8 x9:aB}(h:nc H e H2):nc (x0::x1::x2::x3::x4::x5::x6::x7::x8::x9::H) e (x0::x1::x2::x3::x4::x5::x6::x7::x8::x9::H2):=.ao (.t9 h)
def nc.Zu{H H2:List aB}{e:aB}{x0 x1 x2 x3 x4 x5 x6 x7 x8 x9 vd:aB}(h:nc H e H2):nc (x0::x1::x2::x3::x4::x5::x6::x7::x8::x9::vd::H) e (x0::x1::x2::x3::x4::x5::x6::x7::x8::x9::vd::H2):=.ao (.WM h)
def nc.oq{H H2:List aB}{e:aB}{x0 x1 x2 x3 x4 x5 x6 x7 x8 x9 vd D0:aB}(h:nc H e H2):nc (x0::x1::x2::x3::x4::x5::x6::x7::x8::x9::vd::D0::H) e (x0::x1::x2::x3::x4::x5::x6::x7::x8::x9::vd::D0::H2):=.ao (.Zu h)
def nL.t2{H H2:List aB}{e e2:aB}{x0 x1:aB}(h:nL H e e2 H2):nL (x0::x1::H) e e2 (x0::x1::H2):=.ao (.ao h)
def nL.t3{H H2:List aB}{e e2:aB}{x0 x1 x2:aB}(h:nL H e e2 H2):nL (x0::x1::x2::H) e e2 (x0::x1::x2::H2):=.ao (.t2 h)
def nL.t4{H H2:List aB}{e e2:aB}{x0 x1 x2 x3:aB}(h:nL H e e2 H2):nL (x0::x1::x2::x3::H) e e2 (x0::x1::x2::x3::H2):=.ao (.t3 h)
def nL.t5{H H2:List aB}{e e2:aB}{x0 x1 x2 x3 x4:aB}(h:nL H e e2 H2):nL (x0::x1::x2::x3::x4::H) e e2 (x0::x1::x2::x3::x4::H2):=.ao (.t4 h)
def nL.t6{H H2:List aB}{e e2:aB}{x0 x1 x2 x3 x4 x5:aB}(h:nL H e e2 H2):nL (x0::x1::x2::x3::x4::x5::H) e e2 (x0::x1::x2::x3::x4::x5::H2):=.ao (.t5 h)
def nL.t7{H H2:List aB}{e e2:aB}{x0 x1 x2 x3 x4 x5 x6:aB}(h:nL H e e2 H2):nL (x0::x1::x2::x3::x4::x5::x6::H) e e2 (x0::x1::x2::x3::x4::x5::x6::H2):=.ao (.t6 h)
def nL.t8{H H2:List aB}{e e2:aB}{x0 x1 x2 x3 x4 x5 x6 x7:aB}(h:nL H e e2 H2):nL (x0::x1::x2::x3::x4::x5::x6::x7::H) e e2 (x0::x1::x2::x3::x4::x5::x6::x7::H2):=.ao (.t7 h)
def nL.t9{H H2:List aB}{e e2:aB}{x0 x1 x2 x3 x4 x5 x6 x7 x8:aB}(h:nL H e e2 H2):nL (x0::x1::x2::x3::x4::x5::x6::x7::x8::H) e e2 (x0::x1::x2::x3::x4::x5::x6::x7::x8::H2):=.ao (.t8 h)
def nL.WM{H H2:List aB}{e e2:aB}{x0 x1 x2 x3 x4 x5 x6 x7 x8 x9:aB}(h:nL H e e2 H2):nL (x0::x1::x2::x3::x4::x5::x6::x7::x8::x9::H) e e2 (x0::x1::x2::x3::x4::x5::x6::x7::x8::x9::H2):=.ao (.t9 h)
def nL.Zu{H H2:List aB}{e e2:aB}{x0 x1 x2 x3 x4 x5 x6 x7 x8 x9 vd:aB}(h:nL H e e2 H2):nL (x0::x1::x2::x3::x4::x5::x6::x7::x8::x9::vd::H) e e2 (x0::x1::x2::x3::x4::x5::x6::x7::x8::x9::vd::H2):=.ao (.WM h)
def nL.oq{H H2:List aB}{e e2:aB}{x0 x1 x2 x3 x4 x5 x6 x7 x8 x9 vd D0:aB}(h:nL H e e2 H2):nL (x0::x1::x2::x3::x4::x5::x6::x7::x8::x9::vd::D0::H) e e2 (x0::x1::x2::x3::x4::x5::x6::x7::x8::x9::vd::D0::H2):=.ao (.Zu h)
theorem cO.h1{H:List aB}{x0:aB} :cO (x0::H) [x0] H:=.cons .aa .nil
theorem cO.h2{H:List aB}{x0 x1:aB} :cO (x0::x1::H) [x0,x1] H:=.cons .aa .h1
theorem cO.h3{H:List aB}{x0 x1 x2:aB} :cO (x0::x1::x2::H) [x0,x1,x2] H:=.cons .aa .h2
theorem cO.h4{H:List aB}{x0 x1 x2 x3:aB} :cO (x0::x1::x2::x3::H) [x0,x1,x2,x3] H:=.cons .aa .h3
theorem cO.h5{H:List aB}{x0 x1 x2 x3 x4:aB} :cO (x0::x1::x2::x3::x4::H) [x0,x1,x2,x3,x4] H:=.cons .aa .h4
theorem cO.h6{H:List aB}{x0 x1 x2 x3 x4 x5:aB} :cO (x0::x1::x2::x3::x4::x5::H) [x0,x1,x2,x3,x4,x5] H:=.cons .aa .h5
theorem cO.h7{H:List aB}{x0 x1 x2 x3 x4 x5 x6:aB} :cO (x0::x1::x2::x3::x4::x5::x6::H) [x0,x1,x2,x3,x4,x5,x6] H:=.cons .aa .h6
theorem cO.h8{H:List aB}{x0 x1 x2 x3 x4 x5 x6 x7:aB} :cO (x0::x1::x2::x3::x4::x5::x6::x7::H) [x0,x1,x2,x3,x4,x5,x6,x7] H:=.cons .aa .h7
theorem cO.h9{H:List aB}{x0 x1 x2 x3 x4 x5 x6 x7 x8:aB} :cO (x0::x1::x2::x3::x4::x5::x6::x7::x8::H) [x0,x1,x2,x3,x4,x5,x6,x7,x8] H:=.cons .aa .h8
def cO.V1{H:List aB}{x0 x1 x2 x3 x4 x5 x6 x7 x8 x9:aB} :cO (x0::x1::x2::x3::x4::x5::x6::x7::x8::x9::H) [x0,x1,x2,x3,x4,x5,x6,x7,x8,x9] H:=.cons .aa .h9
def cO.h11{H:List aB}{x0 x1 x2 x3 x4 x5 x6 x7 x8 x9 vd:aB} :cO (x0::x1::x2::x3::x4::x5::x6::x7::x8::x9::vd::H) [x0,x1,x2,x3,x4,x5,x6,x7,x8,x9,vd] H:=.cons .aa .V1
def cO.h12{H:List aB}{x0 x1 x2 x3 x4 x5 x6 x7 x8 x9 vd D0:aB} :cO (x0::x1::x2::x3::x4::x5::x6::x7::x8::x9::vd::D0::H) [x0,x1,x2,x3,x4,x5,x6,x7,x8,x9,vd,D0] H:=.cons .aa .h11
def cO.h13{H:List aB}{x0 x1 x2 x3 x4 x5 x6 x7 x8 x9 vd D0 R9:aB} :cO (x0::x1::x2::x3::x4::x5::x6::x7::x8::x9::vd::D0::R9::H) [x0,x1,x2,x3,x4,x5,x6,x7,x8,x9,vd,D0,R9] H:=.cons .aa .h12
def cO.h14{H:List aB}{x0 x1 x2 x3 x4 x5 x6 x7 x8 x9 vd D0 R9 Zv:aB} :cO (x0::x1::x2::x3::x4::x5::x6::x7::x8::x9::vd::D0::R9::Zv::H) [x0,x1,x2,x3,x4,x5,x6,x7,x8,x9,vd,D0,R9,Zv] H:=.cons .aa .h13
def bS{P:Program}{k:Nat}{ps:List Nat}{cs:List (Nat×Nat)}{t:Nat}{v:Value}{L:PF}{W:World}{S:Nat->Nat->Prop}{post:Value->List aB->Prop}{H H1 F:List aB}(hp:cO H H1 F)(h:post v H1)(hr:fn.results= #[.tmp t]:=by exact rfl)(hv:lk L t=some v:=by exact rfl)(hw:H1.all aB.wr=true:=by exact rfl):XE (fr k ps cs) (bodyPost P fn fun e w=>∃ v' H',e= .returned v'/\post v' H'/\H'.all aB.wr=true/\XM W S H' w) .ret L (XM W S H):=bh hr hv (ai hp hw h)
def eH{P:Program}{k:Nat}{ps:List Nat}{cs:List (Nat×Nat)}{t u:Nat}{v v2:Value}{L:PF}{W:World}{S:Nat->Nat->Prop}{post:Value->List aB->Prop}{H H1 F:List aB}(hp:cO H H1 F)(h:post (.tuple #[v,v2]) H1)(hr:fn.results= #[.tmp t,.tmp u]:=by exact rfl)(hv:lk L t=some v:=by exact rfl)(hu:lk L u=some v2:=by exact rfl)(hw:H1.all aB.wr=true:=by exact rfl):XE (fr k ps cs) (bodyPost P fn fun e w=>∃ v' H',e= .returned v'/\post v' H'/\H'.all aB.wr=true/\XM W S H' w) .ret L (XM W S H):=bC hr hv hu (ai hp hw h)
def rt3{P:Program}{k:Nat}{ps:List Nat}{cs:List (Nat×Nat)}{t u x:Nat}{v v2 v3:Value}{L:PF}{W:World}{S:Nat->Nat->Prop}{post:Value->List aB->Prop}{H H1 F:List aB}(hp:cO H H1 F)(h:post (.tuple #[v,v2,v3]) H1)(hr:fn.results= #[.tmp t,.tmp u,.tmp x]:=by exact rfl)(hv:lk L t=some v:=by exact rfl)(hu:lk L u=some v2:=by exact rfl)(hx:lk L x=some v3:=by exact rfl)(hw:H1.all aB.wr=true:=by exact rfl):XE (fr k ps cs) (bodyPost P fn fun e w=>∃ v' H',e= .returned v'/\post v' H'/\H'.all aB.wr=true/\XM W S H' w) .ret L (XM W S H):=wJ hr hv hu hx (ai hp hw h)
def rt0{P:Program}{k:Nat}{ps:List Nat}{cs:List (Nat×Nat)}{L:PF}{W:World}{S:Nat->Nat->Prop}{post:Value->List aB->Prop}{H H1 F:List aB}(hp:cO H H1 F)(h:post (.tuple #[]) H1)(hr:fn.results= #[]:=by exact rfl)(hw:H1.all aB.wr=true:=by exact rfl):XE (fr k ps cs) (bodyPost P fn fun e w=>∃ v' H',e= .returned v'/\post v' H'/\H'.all aB.wr=true/\XM W S H' w) .ret L (XM W S H):=MO hr (ai hp hw h)
def xq{W:World}{S:Nat->Nat->Prop}{H E F:List aB}(h:cO H E F):∀ w,XM W S H w->XM W S E w:=fun _ q=>XM.pick h q
end Go.X

namespace Go.X
open Go
variable{H:List aB}
section
variable {P:Program} {ops:Array Oper} {Q:Exit->Act->World->Prop}
variable {n:Fr} {L:PF} {M:World->Prop}
def XQ(P:Program)(n:Fr)(ops:Array Oper)(Q:Exit->Act->World->Prop)(B:Ae)(f:Nat)(l:Array Bool)(L:PF)(M:World->Prop):Prop:=
 nx ops l->∀ a w,pd n L a->M w->JL B l w->HM P ops Q B f l a w
def XM.kD{W:World}{S:Nat->Nat->Prop}(w:World)(k:Nat)(h:XM W S H w):XM W S H {w with drawn:=w.drawn+k} :=h.drawn k
def XC.gR{i:Nat}{os:List Oper}{f:Nat}{l:Array Bool}(hm:P.follows .mixedOrders=true)(hf:os.length=f)(hl:Array.replicate f false=l)(hM:∀ w k,M w->M {w with drawn:=w.drawn+k})(h:XQ P n os.toArray Q [] f l L M):XC P n (.region i os.toArray true) Q L M:=fun a w ha hw=>by
 subst hf;subst hl;refine wp_region_any hm ?_;have:=re _ _ _ _ (h (sR _ _) a _ ha (hM w 1 hw) trivial);simpa using this
def XQ.EM{B:Ae}{f i d:Nat}{l l':Array Bool}{o:Oper}{v:Value}(T:List Nat)(φ:World->Prop)(ho:ops[i]? =some o)(hk:yM ops l i=true)(hT:T.all (fun s=>HX ops i ops.size s&& !(Nat.beq s i))=true)(hB:B.all (fun p=> !p.1.contains i)=true)(hl:l.setIfInBounds i true=l')(va:o.dst=some d)(hd:Nat.blt d n.sz=true)(hφ:∀ w,M w->φ w)(hv:∀ a,pd n L a->YF P ops φ o v a)(h:XQ P n ops Q ((T,φ)::B) f l' ((d,v)::L) M):XQ P n ops Q B (f+1) l L M:=by
 subst hl;intro hc a w ha hw hJ;simp only[yM,Bool.and_eq_true]at hk;obtain⟨⟨h1,h2⟩,h3⟩:=hk;have hr:i∈Region.ready .any ops l:=by simpa using h3
 refine yL (T:=T) (φ:=φ) ho (Region.noSelect_spec h1) (fun s hs=>⟨ops.size,?_⟩) ?_ ?_ f l a w hc (Region.free_spec ho h2) hr (hv a ha) ?_
 ·have h4:=List.all_eq_true.1 hT s hs;simp only[Bool.and_eq_true]at h4;exact h4.1
 ·intro hi;have:=List.all_eq_true.1 hT i hi;simp at this
 ·intro p hp hi;have:=List.all_eq_true.1 hB p hp;simp at this;exact this hi
 ·rw[va];exact h (jO hc hr) _ w (ha.put hd v) hw ⟨fun _=>hφ w hw,JL.kh B hJ⟩
def XQ.step{B:Ae}{f i:Nat}{l:Array Bool}{o:Oper}(ho:ops[i]? =some o)(hg:o.guard=none)(hk:Region.ready .any ops l=[i])(h:nx ops (l.setIfInBounds i true)->∀ a w,pd n L a->M w->JL B l w->o.wp P a w (HM P ops Q B f (l.setIfInBounds i true)) (MP Q)):XQ P n ops Q B (f+1) l L M:=by
 intro hc a w ha hw hJ;have hr:i∈Region.ready .any ops l:=by rw[hk];simp
 refine⟨hJ,fun h0=>(by rw[hk]at h0;cases h0),fun j hj=> ?_⟩;rw[hk]at hj;have:j=i:=by simpa using hj
 subst this;unfold wpOp;simp only[ho];rw[if_pos (by simp[Region.wanted,hg])];exact .inl (h (jO hc hr) a w ha hw hJ)
theorem XQ.done{B:Ae}{f:Nat}{l:Array Bool}(hk:Region.ready .any ops l=[])(h:XE n Q .normal L M):XQ P n ops Q B f l L M:=by
 intro hc a w ha hw hJ;cases f with
 | zero=>exact⟨hJ,hk,h a w ha hw⟩
 | succ f=>exact⟨hJ,fun _=>h a w ha hw,fun j hj=>by rw[hk]at hj;cases hj⟩
theorem XQ.split{B:Ae}{f d:Nat}{l:Array Bool}{t:Bool}(hl:lk L d=some (.bool t))(ht:t=true->XQ P n ops Q B f l ((d,.bool true)::L) M)(hf:t=false->XQ P n ops Q B f l ((d,.bool false)::L) M):XQ P n ops Q B f l L M:=by
 cases t
 ·exact fun hc a w ha hw hJ=>hf rfl hc a w ((Sub.cons hl fun i v h=>h).Wf ha) hw hJ
 ·exact fun hc a w ha hw hJ=>ht rfl hc a w ((Sub.cons hl fun i v h=>h).Wf ha) hw hJ
def Al{B:Ae} :∀ (f:Nat) (l:Array Bool) (a:Act) (w:World),HM P ops Q B f l a w->HM P ops Q (([],fun _=>True)::B) f l a w
 | 0,_,_,_,h=>⟨⟨fun _=>trivial,h.1⟩,h.2.1,h.2.2⟩
 | f+1,_,_,_,h=>⟨⟨fun _=>trivial,h.1⟩,h.2.1,fun j hj=>wpOp_mono (fun a' w'=>Al f _ a' w') (h.2.2 j hj)⟩
variable {op:Op} {ty:TypeId} {pos:String} {af:Array Edge} {d f i:Nat} {v:Value} {B:Ae} {l l':Array Bool}
def Zw{φ:World->Prop}(hv:aZ P n L φ ⟨some d,op,ty,pos,af,none⟩ v)(a:Act)(ha:pd n L a):YF P ops φ ⟨some d,op,ty,pos,af,none⟩ v a:=
 .inl ⟨by simp[Region.wanted],fun w hw=>hv a w ha hw⟩
def XQ.pv(ho:ops[i]? =some ⟨some d,op,ty,pos,af,none⟩)(hk:yM ops l i=true)(hl:l.setIfInBounds i true=l')(hv:aZ P n L (fun _=>True) ⟨some d,op,ty,pos,af,none⟩ v)(hd:Nat.blt d n.sz=true)(hB:B.all (fun p=> !p.1.contains i)=true)(h:XQ P n ops Q B f l' ((d,v)::L) M):XQ P n ops Q B (f+1) l L M:=
 XQ.EM [] (fun _=>True) ho hk rfl hB hl rfl hd (fun _ _=>trivial) (Zw hv) fun hc a w ha hw hJ=>Al _ _ _ _ (h hc a w ha hw hJ.2)
theorem XQ.load{W:World}{S:Nat->Nat->Prop}(e:aB)(T:List Nat)(ho:ops[i]? =some ⟨some d,op,ty,pos,af,none⟩)(hk:yM ops l i=true)(hl:l.setIfInBounds i true=l')(hH:kR H e)(hv:aZ P n L (fun w=>e.holds w) ⟨some d,op,ty,pos,af,none⟩ v)(hd:Nat.blt d n.sz=true)(hT:T.all (fun s=>HX ops i ops.size s&& !(Nat.beq s i))=true)(hB:B.all (fun p=> !p.1.contains i)=true)(h:XQ P n ops Q ((T,fun w=>e.holds w)::B) f l' ((d,v)::L) (XM W S H)):XQ P n ops Q B (f+1) l L (XM W S H):=
 XQ.EM T _ ho hk hT hB hl rfl hd (fc hH) (Zw hv) h
theorem XQ.store{W:World}{S:Nat->Nat->Prop}{H H':List aB}{t:TypeId}{x y:Operand}{b o i' m:Nat}{C C':Nat->Value}(ho:ops[i]? =some ⟨none,.store t x y,ty,pos,af,none⟩)(hk:Region.ready .any ops l=[i])(hl:l.setIfInBounds i true=l')(hx:ev L x=some (aA b o i'))(hy:ev L y=some v)(hH:nL H (.cells b o m C) (.cells b o m C') H')(hi:i'<m/\dL C i' v=C')(hv:one v=true)(hs:fb P t=some 1)(Ir:∀ w,XM W S H' w->JL B l' w)(h:XQ P n ops Q B f l' L (XM W S H')):XQ P n ops Q B (f+1) l L (XM W S H):=by
 subst hl;refine XQ.step ho rfl hk fun hc a w ha hw hJ=> ?_;obtain⟨H1,hd,hp⟩:=hH.Zm;have h2:=hw.setCell hd hi.1 v;rw[hi.2]at h2;have dP:=hw.b8 hd.b8;have hr:=nA (P:=P) (show(aB.cells b o m C).holds w from dP.eY.1 _ sq) hi.1 hv;unfold Oper.wp;have:(execOp a.eval ⟨none,.store t x y,ty,pos,af,none⟩).run P w= .ok .skip (w.setCell ⟨b,o+i',none⟩ v):=by
  have hz:(⟨b,o+i',none⟩:Addr).add 0=⟨b,o+i',none⟩:=rfl;simp[execOp,au ha hx,au ha hy,Instr.storeAt,Instr.sureAddr,aA,storeVar,yO hv,run_sizeOf hs,storeCells,hz,hr]
 rw[this];exact h hc _ _ ha (h2.b8 hp) (Ir _ (h2.b8 hp))
def XQ.gM{W:World}{S:Nat->Nat->Prop}{H':List aB}{t:TypeId}{x y:Operand}{b o i' m sz:Nat}{C C':Nat->Value}{cs:Array Value}(ho:ops[i]? =some ⟨none,.store t x y,ty,pos,af,none⟩)(hk:Region.ready .any ops l=[i])(hl:l.setIfInBounds i true=l')(hx:ev L x=some (aA b o i'))(hy:ev L y=some (.agg cs))(hH:nL H (.cells b o m C) (.cells b o m C') H')(hi:i'+sz<=m/\cC C i' cs.toList=C')(hv:cs.toList.all one=true/\cs.size=sz)(hs:fb P t=some sz)(Ir:∀ w,XM W S H' w->JL B l' w)(h:XQ P n ops Q B f l' L (XM W S H')):XQ P n ops Q B (f+1) l L (XM W S H):=by
 subst hl;refine XQ.step ho rfl hk fun hc a w ha hw hJ=> ?_;obtain⟨H1,hd,hp⟩:=hH.Zm;obtain⟨w',hr,mz⟩:=lI (P:=P) cs.toList i' 0 C w (hw.b8 hd.b8) (by simp;omega) hv.1;simp only[Nat.add_zero]at mz;rw[hi.2]at mz;unfold Oper.wp;have:(execOp a.eval ⟨none,.store t x y,ty,pos,af,none⟩).run P w= .ok .skip w':=by
  simp[execOp,au ha hx,au ha hy,Instr.storeAt,Instr.sureAddr,aA,storeVar,Value.cells,run_sizeOf hs,hv.2,hr]
 rw[this];exact h hc _ _ ha (mz.b8 hp) (Ir _ (mz.b8 hp))
def XQ.call{W:World}{S:Nat->Nat->Prop}{g:FuncId}{xs:List Operand}{vs:List Value}{oc:Array TypeId}{pre F:List aB}{post:Value->List aB->Prop}(ho:ops[i]? =some ⟨some d,.call ⟨.value (.func g),xs.toArray,oc⟩,ty,pos,af,none⟩)(hk:Region.ready .any ops l=[i])(hl:l.setIfInBounds i true=l')(he:OK L xs=some vs)(hs:Spec P g vs pre post)(hp:cO H pre F)(hc:c9 P g=true)(hd:Nat.blt d n.sz=true)(Ir:∀ v H1,post v H1->∀ w,XM W S (H1++F) w->JL B l' w)(h:∀ v H1,post v H1->XQ P n ops Q B f l' ((d,v)::L) (XM W S (H1++F))):XQ P n ops Q B (f+1) l L (XM W S H):=by
 subst hl;refine XQ.step ho rfl hk fun EX a w ha hw hJ=> ?_;unfold Oper.wp;rw[wM hc (ql ha xs vs he)];show Calls P g vs.toArray w _;refine(hs w (hw.pick hp).eY).mono ?_;rintro e w' ⟨v,H1,rfl,sS,KG,hx⟩;have mz:=hw.yN hp hx fun e he=>List.all_eq_true.1 KG e he;exact h v H1 sS EX _ _ (ha.put hd v) mz (Ir v H1 sS _ mz)
theorem XQ.box{W:World}{S:Nat->Nat->Prop}{H:List aB}{t:TypeId}{x:Operand}{m:Nat}{C:Nat->Value}(ho:ops[i]? =some ⟨some d,.box t x,ty,pos,af,none⟩)(hk:Region.ready .any ops l=[i])(hl:l.setIfInBounds i true=l')(hx:ev L x=some v)(hm:v.cells.size=m)(hC:∀ i,i<m->cellsOf v.cells i=C i)(hd:Nat.blt d n.sz=true)(Ir:∀ b w,XM W S (.cells b 0 m C::H) w->JL B l' w)(h:∀ b,XQ P n ops Q B f l' ((d,aA b 0 0)::L) (XM W S (.cells b 0 m C::H))):XQ P n ops Q B (f+1) l L (XM W S H):=by
 subst hl;refine XQ.step ho rfl hk fun EX a w ha hw hJ=> ?_;have mz:=hw.alloc v.cells t C fun i hi=>by rw[gN _ _ hi,hC i (hm▸hi)]
 rw[hm]at mz;unfold Oper.wp;have:(execOp a.eval ⟨some d,.box t x,ty,pos,af,none⟩).run P w= .ok (.value (aA w.heap.size 0 0)) (w.alloc (.cells v.cells t)):=by
  simp[execOp,au ha hx,Instr.box,newVar,newRow,newObj,Sem.run,aA]
 rw[this];exact h _ EX _ _ (ha.put hd _) mz (Ir _ _ mz)
def XQ.bJ{W:World}{S:Nat->Nat->Prop}{t:TypeId}{z:Value}{m:Nat}{C:Nat->Value}(ho:ops[i]? =some ⟨some d,.alloc t,ty,pos,af,none⟩)(hk:Region.ready .any ops l=[i])(hl:l.setIfInBounds i true=l')(hz:BK P t=some z)(hm:z.cells.size=m)(hC:∀ i,i<m->cellsOf z.cells i=C i)(hd:Nat.blt d n.sz=true)(Ir:∀ b w,XM W S (.cells b 0 m C::H) w->JL B l' w)(h:∀ b,XQ P n ops Q B f l' ((d,aA b 0 0)::L) (XM W S (.cells b 0 m C::H))):XQ P n ops Q B (f+1) l L (XM W S H):=by
 subst hl;refine XQ.step ho rfl hk fun EX a w ha hw hJ=> ?_;have hx:=hw.alloc z.cells t C fun i hi=>by rw[gN _ _ hi,hC i (hm▸hi)]
 rw[hm]at hx;unfold Oper.wp;have:(execOp a.eval ⟨some d,.alloc t,ty,pos,af,none⟩).run P w= .ok (.value (aA w.heap.size 0 0)) (w.alloc (.cells z.cells t)):=by
  simp[execOp,Instr.alloc,pR hz,newVar,newRow,newObj,Sem.run,aA]
 rw[this];exact h _ EX _ _ (ha.put hd _) hx (Ir _ _ hx)
end
section
variable {P:Program} {n:Fr} {L:PF} {ops:Array Oper} {Q:Exit->Act->World->Prop} {ty:TypeId} {pos:String} {af:Array Edge} {f i:Nat} {B:Ae} {l l':Array Bool}
end
end Go.X
