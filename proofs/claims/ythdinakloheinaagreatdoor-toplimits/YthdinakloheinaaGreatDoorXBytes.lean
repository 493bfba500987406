import Derived.Test.YthdinakloheinaaGreatDoorXRun
import Derived.Shelf.Slices.Cells
import Derived.Shelf.Slices.Empties
import Derived.Shelf.Slices.Clone
import Derived.Shelf.Spec.SearchS
import Derived.Shelf.Spec.SlicesInsertGrow
import Derived.Laws.MakeOwn
import Derived.Lib.SlBytesRow
set_option linter.all false
namespace Go.X
open Go
variable{fn:Func}{p:Option Addr}
class Rf (v:Value) (s:outParam SV):Prop where
 h:(aR s)=v
class RfW (v:Value) (s:outParam SW):Prop where
 h:(aS s)=v
class RfA (l:List Value) (r:outParam (List SV)):Prop where
 h:bI r=l
class N4 (L:PF) (r:outParam SF):Prop where
 h:dn r=L
instance (priority:=low) (v:Value):Rf v (.val v):=⟨rfl⟩
instance (k:IntKind) (z:Int):Rf (.int k z) (.int k z):=⟨rfl⟩
instance (s:ByteArray):Rf (.string s) (.str s):=⟨rfl⟩
instance (b o i:Nat):Rf (ay b o i) (.ay b o i):=⟨rfl⟩
instance:Rf .nilIface .nil:=⟨rfl⟩
instance (T:TypeId) (e:Int):Rf (ax T e) (.err T e):=⟨rfl⟩
instance (T:TypeId) (v:Value):Rf (.iface T v) (.ifc T v):=⟨rfl⟩
instance:Rf (.pointer none) .pn:=⟨rfl⟩
instance (priority:=high):Rf (.bool true) .tt:=⟨rfl⟩
instance (priority:=high):Rf (.bool false) .ff:=⟨rfl⟩
instance (p:Prop) (i:Decidable p):Rf (.bool (@decide p i)) (@SV.NZ p i):=⟨rfl⟩
instance (priority:=900) (b:Bool):Rf (.bool b) (.bool b):=⟨rfl⟩
instance (p:Option Addr) (n c:Nat):Rf (.slice p n c) (.slc p n c):=⟨rfl⟩
instance:Rf undef .un:=⟨rfl⟩
instance (priority:=high) (s:SV):Rf (aR s) s:=⟨rfl⟩
instance (priority:=low) (v:Value) (s:SV) [h:Rf v s]:RfW v (.one s):=⟨h.h⟩
instance:RfA [] []:=⟨rfl⟩
instance (v:Value) (s:SV) (l:List Value) (r:List SV) [h:Rf v s] [k:RfA l r]:RfA (v::l) (s::r):=⟨by rw[bI,h.h,k.h]⟩
instance (l:List Value) (r:List SV) [h:RfA l r]:RfW (.tuple l.toArray) (.tup r):=⟨by rw[aS,h.h]⟩
instance (priority:=high) (s:SW):RfW (aS s) s:=⟨rfl⟩
instance:N4 [] []:=⟨rfl⟩
instance (i:Nat) (v:Value) (s:SW) (L:PF) (r:SF) [h:RfW v s] [k:N4 L r]:N4 ((i,v)::L) ((i,s)::r):=⟨by rw[dn,h.h,k.h]⟩
instance (priority:=high) (r:SF):N4 (dn r) r:=⟨rfl⟩
instance (i:Nat):N4 (oW i []) []:=⟨rfl⟩
instance (i:Nat) (v:Value) (s:SW) (l:List Value) (r:SF) [h:RfW v s] [k:N4 (oW (i+1) l) r]:N4 (oW i (v::l)) ((i,s)::r):=⟨by rw[dn,h.h,k.h];rfl⟩
section
variable {P:Program} {n:Fr} {Q0:Exit->Act->World->Prop} {M M':World->Prop} {K:List Fm} {L:SF} {L':PF} {md:Md} {l:List Oper} {c a b:Code}
def gO[Tb P][h:N4 L' L](k:ic P n Q0 M 3000 K (.o md l) L):XO P n md (kV P Q0 K) l L' M:=by
 rw[<-h.h];exact cx _ _ (.o _ _) _ k
def gC[Tb P][h:N4 L' L](k:ic P n Q0 M 3000 K (.c c) L):XC P n c (kV P Q0 K) L' M:=by
 rw[<-h.h];exact cx _ _ (.c _) _ k
def gE[Tb P]{x:Exit}[h:N4 L' L](k:ic P n Q0 M 3000 K (.e x) L):XE n (kV P Q0 K) x L' M:=by
 rw[<-h.h];exact cx _ _ (.e _) _ k
theorem gS[Tb P](k:ic P n Q0 M 3000 (.sq b::K) (.c a) L):XC P n (.seq a b) (kV P Q0 K) (dn L) M:=XC.seq (cx _ _ (.c _) _ k)
def Spec.go[Tb P]{f:FuncId}{args:List Value}{pre:List aG}{post:Value->List aG->Prop}(k:Nat)(ps:List Nat)(cs:List (Nat×Nat))(hf:P.funcs[f]? =some fn)[r:N4 (oW 0 args) L](h:∀ W,ic P (fr k ps cs) (bodyPost P fn fun e w'=>∃ v H',e= .returned v/\post v H'/\H'.all aG.wr=true/\XM W (bX pre) H' w') (XM W (bX pre) pre) 3000 [] (.c c) L)(hb:fn.body=some c:=by exact rfl)(hk:fn.ntmps=k:=by exact rfl)(hn:Nat.ble args.length fn.ntmps=true:=by exact rfl):Spec P f args pre post:=by
 subst hk;intro w hg;refine enter (ps:=ps) (cs:=cs) hf hb hn ?_ (kW hg);rw[<-r.h];exact cx _ [] (.c _) _ (h w)
def rq[Tb P]{i:Nat}{os:List Oper}{W:World}{S:Nat->Nat->Prop}{H:List aG}(r:List Nat)(hm:P.follows .mixedOrders=true)(k:ic P n Q0 (XM W S H) 3000 K (.o (.op os.toArray) (NQ os r)) L)(hz:(Xj os.toArray (Array.replicate os.length false) r&&Nat.beq r.length os.length&&r.all (Nat.blt · os.length))=true:=by kernel_rfl):XC P n (.region i os.toArray true) (kV P Q0 K) (dn L) (XM W S H):=XC.rq r hm hz (fun w k h=>h.drawn k) (cx _ _ (.o _ _) _ k)
def cd[Tb P]{x:Operand}{p:Prop}{i:Decidable p}(ht:p->ic P n Q0 M 3000 K (.c a) L)(hf:¬p->ic P n Q0 M 3000 K (.c b) L)(hc:ev (dn L) x=some (.bool (@decide p i)):=by exact rfl):XC P n (.cond x a b) (kV P Q0 K) (dn L) M:=
 XC.NM hc (fun h=>cx _ _ (.c _) _ (ht h)) fun h=>cx _ _ (.c _) _ (hf h)
def wM[Tb P]{x:Operand}{t:Bool}(ht:t=true->ic P n Q0 M 3000 K (.c a) L)(hf:t=false->ic P n Q0 M 3000 K (.c b) L)(hc:ev (dn L) x=some (.bool t):=by exact rfl):XC P n (.cond x a b) (kV P Q0 K) (dn L) M:=
 XC.cond hc (fun h=>cx _ _ (.c _) _ (ht h)) fun h=>cx _ _ (.c _) _ (hf h)
def XF[Tb P]{x:Operand}{p:Prop}{i:Decidable p}(hc:ev (dn L) x=some (.bool (@decide p i)))(h:p)(ht:ic P n Q0 M 3000 K (.c a) L):XC P n (.cond x a b) (kV P Q0 K) (dn L) M:=PH hc h (cx _ _ (.c _) _ ht)
def Hb[Tb P]{x:Operand}{p:Prop}{i:Decidable p}(hc:ev (dn L) x=some (.bool (@decide p i)))(h:¬p)(hf:ic P n Q0 M 3000 K (.c b) L):XC P n (.cond x a b) (kV P Q0 K) (dn L) M:=PJ hc h (cx _ _ (.c _) _ hf)
def ahg[Tb P]{x:Operand}{t:Bool}(hc:ev (dn L) x=some (.bool t))(h:t=true)(ht:ic P n Q0 M 3000 K (.c a) L):XC P n (.cond x a b) (kV P Q0 K) (dn L) M:=Cm hc h (cx _ _ (.c _) _ ht)
def ahh[Tb P]{x:Operand}{t:Bool}(hc:ev (dn L) x=some (.bool t))(h:t=false)(hf:ic P n Q0 M 3000 K (.c b) L):XC P n (.cond x a b) (kV P Q0 K) (dn L) M:=Cn hc h (cx _ _ (.c _) _ hf)
def sp[Tb P](d:Nat){p:Prop}{i:Decidable p}(hl:lk (dn L) d=some (.bool (@decide p i)))(ht:p->ic P n Q0 M 3000 K (.o md l) ((d,.one .tt)::L))(hf:¬p->ic P n Q0 M 3000 K (.o md l) ((d,.one .ff)::L)):XO P n md (kV P Q0 K) l (dn L) M:=
 XO.abc hl (fun h=>cx _ _ (.o _ _) ((d,.one .tt)::L) (ht h)) fun h=>cx _ _ (.o _ _) ((d,.one .ff)::L) (hf h)
def P5[Tb P](d:Nat){t:Bool}(hl:lk (dn L) d=some (.bool t))(ht:t=true->ic P n Q0 M 3000 K (.o md l) ((d,.one .tt)::L))(hf:t=false->ic P n Q0 M 3000 K (.o md l) ((d,.one .ff)::L)):XO P n md (kV P Q0 K) l (dn L) M:=
 XO.split hl (fun h=>cx _ _ (.o _ _) ((d,.one .tt)::L) (ht h)) fun h=>cx _ _ (.o _ _) ((d,.one .ff)::L) (hf h)
def spT[Tb P](d:Nat){p:Prop}{i:Decidable p}(hl:lk (dn L) d=some (.bool (@decide p i)))(h:p)(ht:ic P n Q0 M 3000 K (.o md l) ((d,.one .tt)::L)):XO P n md (kV P Q0 K) l (dn L) M:=XO.abd hl h (cx _ _ (.o _ _) ((d,.one .tt)::L) ht)
def spF[Tb P](d:Nat){p:Prop}{i:Decidable p}(hl:lk (dn L) d=some (.bool (@decide p i)))(h:¬p)(hf:ic P n Q0 M 3000 K (.o md l) ((d,.one .ff)::L)):XO P n md (kV P Q0 K) l (dn L) M:=XO.abe hl h (cx _ _ (.o _ _) ((d,.one .ff)::L) hf)
def lp{σ:Type}(m:σ->Nat)(V:σ->Prop)(I:σ->PF)(J:σ->World->Prop)(x₀:σ)(hv:V x₀)(h₀:Sub (dn L) (I x₀))(hj:∀ w,M w->J x₀ w)
  (round:∀ x,V x->XC P n c (kV P Q0 (.th (fun a' w'=>∃ x',m x'<m x/\V x'/\qg n (I x') a'/\J x' w')::K)) (I x) (J x)):XC P n (.loop c) (kV P Q0 K) (dn L) M:=XC.loop m V I J x₀ hv h₀ hj round
def ag{σ:Type}{m:σ->Nat}{V:σ->Prop}{I:σ->PF}{J:σ->World->Prop}{x:σ}(x':σ)(hm:m x'<m x)(hv:V x')(hs:Sub L' (I x'))(hj:∀ w,M w->J x' w):
  XE n (kV P Q0 (.th (fun a' w'=>∃ x',m x'<m x/\V x'/\qg n (I x') a'/\J x' w')::K)) .normal L' M:=XE.again x' hm hv hs hj
def ct(K':PF)(M':World->Prop)[Tb P](hc:ic P n Q0 M 3000 (.th (fun a w=>qg n K' a/\M' w)::K) (.c a) L)(hd:XC P n b (kV P Q0 K) K' M'):XC P n (.seq a b) (kV P Q0 K) (dn L) M:=XC.cut K' M' (cx _ (_::K) (.c _) _ hc) hd
def mt{K':PF}(hs:Sub L' K')(hm:∀ w,M w->M' w):XE n (kV P Q0 (.th (fun a w=>qg n K' a/\M' w)::K)) .normal L' M:=Xh hs hm
def ctG{σ:Type}(V:σ->Prop)(I:σ->PF)(J:σ->World->Prop)[Tb P](hc:ic P n Q0 M 3000 (.th (fun a w=>∃ x,V x/\qg n (I x) a/\J x w)::K) (.c a) L)(hd:∀ x,V x->XC P n b (kV P Q0 K) (I x) (J x)):XC P n (.seq a b) (kV P Q0 K) (dn L) M:=XC.agV V I J (cx _ (_::K) (.c _) _ hc) hd
def nR{σ:Type}{V:σ->Prop}{I:σ->PF}{J:σ->World->Prop}(x:σ)(hv:V x)(hs:Sub L' (I x))(hj:∀ w,M w->J x w):XE n (kV P Q0 (.th (fun a w=>∃ x,V x/\qg n (I x) a/\J x w)::K)) .normal L' M:=Sz x hv hs hj
end
section
variable {P:Program} {n:Fr} {Q0:Exit->Act->World->Prop} {M M':World->Prop} {K:List Fm} {L:SF} {W:World} {S:Nat->Nat->Prop} {H:List aG} {f:Nat} {s:St}
theorem XR.mono[Tb P](hm:∀ w,M w->M' w)(h:ic P n Q0 M' f K s L):ic P n Q0 M f K s L:=o4 hm f K s L h
def bP[Tb P]{k cap sz:Nat}{e:TypeId}{xs:List Value}(hH:lu H (.row (.slice p k cap) e sz k xs))(hk:0<k)(h:∀ g,p=some ⟨g,0,none⟩->ic P n Q0 (XM W S H) f K s L):ic P n Q0 (XM W S H) f K s L:=
 xJ (φ:=∃ g,p=some ⟨g,0,none⟩) (fun w hw=>by
  rcases(hw.fa.1 _ hH.mem).2 with⟨_,h0⟩ | ⟨g,cU,cur,hv,_⟩
  ·omega
  ·simp only[Value.slice.injEq]at hv;exact⟨g,hv.1⟩) fun ⟨g,hg⟩=>h g hg
def qI[Tb P]{k cap sz:Nat}{e:TypeId}{xs:List Value}(hH:lu H (.row (.slice p k cap) e sz k xs))
  (h:k<=cap->ic P n Q0 (XM W S H) f K s L):ic P n Q0 (XM W S H) f K s L:=xJ (fun w hw=>Cv (hw.fa.1 _ hH.mem)) h
def XR.fH[Tb P](e:TypeId)(sz:Nat)(h:ic P n Q0 (XM W S (.row (.slice none 0 0) e sz 0 []::H)) f K s L):ic P n Q0 (XM W S H) f K s L:=o4 (fun _ hw=>hw.fH e sz) f K s L h
def P6[Tb P]{k cap sz:Nat}{e:TypeId}{xs:List Value}(hH:lu H (.row (.slice none k cap) e sz k xs))
  (h:k=0->ic P n Q0 (XM W S H) f K s L):ic P n Q0 (XM W S H) f K s L:=xJ (fun w hw=>by
 rcases(hw.fa.1 _ hH.mem).2 with⟨_,h0⟩ | ⟨g,cU,cur,hv,_⟩
 ·exact h0
 ·simp at hv) h
def Tt[Tb P]{k cap sz:Nat}{e:TypeId}{xs:List Value}(hH:lu H (.row (.slice p k cap) e sz k xs))(hp:¬p=none)(h:∀ g,p=some ⟨g,0,none⟩->ic P n Q0 (XM W S H) f K s L):ic P n Q0 (XM W S H) f K s L:=
 xJ (φ:=∃ g,p=some ⟨g,0,none⟩) (fun w hw=>by
  rcases(hw.fa.1 _ hH.mem).2 with⟨hv,_⟩ | ⟨g,cU,cur,hv,_⟩
  ·simp only[Value.slice.injEq]at hv;exact absurd hv.1 hp
  ·simp only[Value.slice.injEq]at hv;exact⟨g,hv.1⟩) fun ⟨g,hg⟩=>h g hg
end
section
variable {P:Program} {n:Fr} {Q0:Exit->Act->World->Prop} {M:World->Prop} {K:List Fm} {md:Md} {r:List Oper} {L:SF} {W:World} {S:Nat->Nat->Prop} {H H':List aG}
variable {t:TypeId} {d:Nat} {x y:Operand} {ty:TypeId} {pos:String} {af:Array Edge} {b o i k m:Nat} {C C':Nat->Value} {v:Value} {s:SV}
def sd{q R X:Prop}(kk:R)(h:q:=by omega):Sd q R X:=.inl ⟨h,kk⟩
def oV{q R X:Prop}(h:X):Sd q R X:=.inr h
def hd3{t:TypeId}(h:Nat.blt d n.sz=true):(Nat.blt d n.sz&&(!cC (.load t x)&&isR (.load t x)))=true:=by rw[h];rfl
def oL(h:XO P n md (kV P Q0 K) (⟨some d,.load t x,ty,pos,af,none⟩::r) (dn L) M):LdG P n Q0 M K md r L t d x ty pos af b o i:=fun _ _ _=>h
def oS(h:XO P n md (kV P Q0 K) (⟨none,.store t x y,ty,pos,af,none⟩::r) (dn L) M):StG P n Q0 M K md r L t x y ty pos af b o i k s:=fun _ _ _=>h
def ldV[Tb P][h:Rf v s](hv:∀ {t:TypeId},ev (dn L) x=some (ay b o i)->jU P t=true->bd P n (dn L) M ⟨some d,.load t x,ty,pos,af,none⟩ v)(kk:ic P n Q0 M 3000 K (.o md r) ((d,.one s)::L)):LdG P n Q0 M K md r L t d x ty pos af b o i:=fun hx ht hd=>
 XO.l (hv hx ht) (hd3 hd) (by have:=cx _ _ (.o _ _) _ kk;rw[<-h.h];exact this)
def ldW[Tb P][h:Rf v s](hv:∀ {t:TypeId},ev (dn L) x=some (ay b o i)->nT P t=true->fp P t=some k->bd P n (dn L) M ⟨some d,.load t x,ty,pos,af,none⟩ v)(kk:ic P n Q0 M 3000 K (.o md r) ((d,.one s)::L)):LdA P n Q0 M K md r L t d x ty pos af b o i k:=fun hx ht hs hd=>
 XO.l (hv hx ht hs) (hd3 hd) (by have:=cx _ _ (.o _ _) _ kk;rw[<-h.h];exact this)
def ld[Tb P][Rf v s](hH:lu H (.cells b o m C))(hv:i<m/\C i=v)(kk:ic P n Q0 (XM W S H) 3000 K (.o md r) ((d,.one s)::L)):LdG P n Q0 (XM W S H) K md r L t d x ty pos af b o i:=ldV (fun hx ht=>V.load hx (fb hH) hv ht) kk
def XG[Tb P][Rf v s](hH:lu H (.ro b o m C))(hv:i<m/\C i=v)(kk:ic P n Q0 (XM W S H) 3000 K (.o md r) ((d,.one s)::L)):LdG P n Q0 (XM W S H) K md r L t d x ty pos af b o i:=ldV (fun hx ht=>SN hx (fb hH) hv ht) kk
def XH[Tb P][Rf v s]{cap sz:Nat}{e:TypeId}(hH:lu H (aL (some ⟨b,0,none⟩) cap e sz k C))(hv:i<k*sz/\C i=v)(kk:ic P n Q0 (XM W S H) 3000 K (.o md r) ((d,.one s)::L)):LdG P n Q0 (XM W S H) K md r L t d x ty pos af b 0 i:=ldV (fun hx ht=>Xs hx (fb hH) hv ht) kk
def zC[Tb P][Rf v s]{cap sz:Nat}{e:TypeId}{xs:List Value}(hH:lu H (.row (.slice (some ⟨b,0,none⟩) k cap) e sz k xs))(hv:xs[i]? =some v)(kk:ic P n Q0 (XM W S H) 3000 K (.o md r) ((d,.one s)::L)):LdG P n Q0 (XM W S H) K md r L t d x ty pos af b 0 i:=ldV (fun hx ht=>zx hx (fb hH) hv ht) kk
def lW[Tb P][Rf v s](hH:lu H (.cells b o m C))(hv:i+k<=m/\dv C i k=v)(kk:ic P n Q0 (XM W S H) 3000 K (.o md r) ((d,.one s)::L)):LdA P n Q0 (XM W S H) K md r L t d x ty pos af b o i k:=ldW (fun hx ht hs=>eJ hx (fb hH) hv ht hs) kk
def aeV[Tb P][Rf v s](hH:lu H (.ro b o m C))(hv:i+k<=m/\dv C i k=v)(kk:ic P n Q0 (XM W S H) 3000 K (.o md r) ((d,.one s)::L)):LdA P n Q0 (XM W S H) K md r L t d x ty pos af b o i k:=ldW (fun hx ht hs=>IT hx (fb hH) hv ht hs) kk
def qJ[Tb P][Rf v s]{cap sz l:Nat}{e:TypeId}(hH:lu H (aL (some ⟨b,0,none⟩) cap e sz l C))(hv:i+k<=l*sz/\dv C i k=v)(kk:ic P n Q0 (XM W S H) 3000 K (.o md r) ((d,.one s)::L)):LdA P n Q0 (XM W S H) K md r L t d x ty pos af b 0 i k:=ldW (fun hx ht hs=>S7 hx (fb hH) hv ht hs) kk
theorem st[Tb P](hH:ou H (.cells b o m C) (.cells b o m C') H')(hi:i<m/\dP C i (aR s)=C')(hv:one (aR s)=true)(kk:ic P n Q0 (XM W S H') 3000 K (.o md r) L):StG P n Q0 (XM W S H) K md r L t x y ty pos af b o i 1 s:=fun hx hy hs=>XO.store hx hy hH hi hv hs (cx _ _ (.o _ _) _ kk)
def fW[Tb P]{cs:Array Value}(hH:ou H (.cells b o m C) (.cells b o m C') H')(hi:i+k<=m/\cD C i cs.toList=C')(hs':(aR s)= .agg cs)(hv:cs.toList.all one=true/\cs.size=k)(kk:ic P n Q0 (XM W S H') 3000 K (.o md r) L):StG P n Q0 (XM W S H) K md r L t x y ty pos af b o i k s:=fun hx hy hs=>XO.gi hx (hs'▸hy) hH hi hv hs (cx _ _ (.o _ _) _ kk)
def stF[Tb P]{cap sz l:Nat}{e:TypeId}(hH:ou H (aL (some ⟨b,0,none⟩) cap e sz l C) (aL (some ⟨b,0,none⟩) cap e sz l C') H')(hi:i<l*sz/\dP C i (aR s)=C')(hv:one (aR s)=true)(kk:ic P n Q0 (XM W S H') 3000 K (.o md r) L):StG P n Q0 (XM W S H) K md r L t x y ty pos af b 0 i 1 s:=fun hx hy hs=>XO.abg hx hy hH hi hv hs (cx _ _ (.o _ _) _ kk)
def ahj[Tb P]{cap sz l:Nat}{e:TypeId}{cs:Array Value}(hH:ou H (aL (some ⟨b,0,none⟩) cap e sz l C) (aL (some ⟨b,0,none⟩) cap e sz l C') H')(hi:i+k<=l*sz/\cD C i cs.toList=C')(hs':(aR s)= .agg cs)(hv:cs.toList.all one=true/\cs.size=k)(kk:ic P n Q0 (XM W S H') 3000 K (.o md r) L):StG P n Q0 (XM W S H) K md r L t x y ty pos af b 0 i k s:=fun hx hy hs=>XO.Xr hx (hs'▸hy) hH hi hv hs (cx _ _ (.o _ _) _ kk)
def ca{f:FuncId}{xs:List Operand}{oH:Array TypeId}{vs:List Value}{pre F:List aG}{post:Value->List aG->Prop}(hs:Spec P f vs pre post)(hp:cG H pre F)(kk:∀ v H1,post v H1->XO P n md (kV P Q0 K) r ((d,v)::dn L) (XM W S (H1++F))):CaG P n Q0 (XM W S H) K md r L d f xs oH ty pos af vs:=fun he hc hd=>XO.call he hs hp hc hd kk
def xK{f:FuncId}{xs:List Operand}{oH:Array TypeId}{vs:List Value}{pre F:List aG}{post:Value->List aG->Prop}(j:Nat)(hs:Spec P f vs pre post)(hp:cG H pre F)(hR:(pre.drop j).all (fun e=> !e.wr)=true)(kk:∀ v H1,post v H1->XO P n md (kV P Q0 K) r ((d,v)::dn L) (XM W S (H1++(pre.drop j++F)))):CaG P n Q0 (XM W S H) K md r L d f xs oH ty pos af vs:=fun he hc hd=>XO.aeC j he hs hp hR hc hd kk
def cq[Tb P]{f:FuncId}{xs:List Operand}{oH:Array TypeId}{vs:List Value}{pre F E:List aG}{V:Value}{L2:SF}(hs:Spec P f vs pre fun v H1=>v=V/\H1=E)(hp:cG H pre F)[h:N4 ((d,V)::dn L) L2](kk:ic P n Q0 (XM W S (E++F)) 3000 K (.o md r) L2):CaG P n Q0 (XM W S H) K md r L d f xs oH ty pos af vs:=ca hs hp (by rintro _ _ ⟨rfl,rfl⟩;exact gO kk)
def IE[Tb P]{f:FuncId}{xs:List Operand}{oH:Array TypeId}{vs:List Value}{pre F E:List aG}{V:Value}{L2:SF}(j:Nat)(hs:Spec P f vs pre fun v H1=>v=V/\H1=E)(hp:cG H pre F)(hR:(pre.drop j).all (fun e=> !e.wr)=true)[h:N4 ((d,V)::dn L) L2](kk:ic P n Q0 (XM W S (E++(pre.drop j++F))) 3000 K (.o md r) L2):CaG P n Q0 (XM W S H) K md r L d f xs oH ty pos af vs:=xK j hs hp hR (by rintro _ _ ⟨rfl,rfl⟩;exact gO kk)
end
section
variable {L:PF} {a1 a2 a3 a4 a5 a6 a7 a8:Nat} {v1 v2 v3 v4 v5 v6 v7 v8:Value} {R:PF}
def S1(h1:lk L a1=some v1:=by exact rfl):Sub L [(a1,v1)]:=.cons h1 (.nil _)
def S2(h1:lk L a1=some v1:=by exact rfl)(h2:lk L a2=some v2:=by exact rfl):Sub L [(a1,v1),(a2,v2)]:=.cons h1 (S1 h2)
def S3(h1:lk L a1=some v1:=by exact rfl)(h2:lk L a2=some v2:=by exact rfl)(h3:lk L a3=some v3:=by exact rfl):Sub L [(a1,v1),(a2,v2),(a3,v3)]:=.cons h1 (S2 h2 h3)
def S4(h1:lk L a1=some v1:=by exact rfl)(h2:lk L a2=some v2:=by exact rfl)(h3:lk L a3=some v3:=by exact rfl)(h4:lk L a4=some v4:=by exact rfl):Sub L [(a1,v1),(a2,v2),(a3,v3),(a4,v4)]:=.cons h1 (S3 h2 h3 h4)
def S5(h1:lk L a1=some v1:=by exact rfl)(h2:lk L a2=some v2:=by exact rfl)(h3:lk L a3=some v3:=by exact rfl)(h4:lk L a4=some v4:=by exact rfl)(h5:lk L a5=some v5:=by exact rfl):Sub L [(a1,v1),(a2,v2),(a3,v3),(a4,v4),(a5,v5)]:=.cons h1 (S4 h2 h3 h4 h5)
def S6(h1:lk L a1=some v1:=by exact rfl)(h2:lk L a2=some v2:=by exact rfl)(h3:lk L a3=some v3:=by exact rfl)(h4:lk L a4=some v4:=by exact rfl)(h5:lk L a5=some v5:=by exact rfl)(h6:lk L a6=some v6:=by exact rfl):Sub L [(a1,v1),(a2,v2),(a3,v3),(a4,v4),(a5,v5),(a6,v6)]:=.cons h1 (S5 h2 h3 h4 h5 h6)
end
def lu.t2{H:List aG}{e:aG}{x0 x1:aG}(h:lu H e):lu (x0::x1::H) e:=.ao (.ao h)
def lu.t3{H:List aG}{e:aG}{x0 x1 x2:aG}(h:lu H e):lu (x0::x1::x2::H) e:=.ao (.t2 h)
def lu.t4{H:List aG}{e:aG}{x0 x1 x2 x3:aG}(h:lu H e):lu (x0::x1::x2::x3::H) e:=.ao (.t3 h)
def lu.t5{H:List aG}{e:aG}{x0 x1 x2 x3 x4:aG}(h:lu H e):lu (x0::x1::x2::x3::x4::H) e:=.ao (.t4 h)
def lu.t6{H:List aG}{e:aG}{x0 x1 x2 x3 x4 x5:aG}(h:lu H e):lu (x0::x1::x2::x3::x4::x5::H) e:=.ao (.t5 h)
def lu.t7{H:List aG}{e:aG}{x0 x1 x2 x3 x4 x5 x6:aG}(h:lu H e):lu (x0::x1::x2::x3::x4::x5::x6::H) e:=.ao (.t6 h)
def lu.t8{H:List aG}{e:aG}{x0 x1 x2 x3 x4 x5 x6 x7:aG}(h:lu H e):lu (x0::x1::x2::x3::x4::x5::x6::x7::H) e:=.ao (.t7 h)
def lu.t9{H:List aG}{e:aG}{x0 x1 x2 x3 x4 x5 x6 x7 x8:aG}(h:lu H e):lu (x0::x1::x2::x3::x4::x5::x6::x7::x8::H) e:=.ao (.t8 h)
def lu.XJ{H:List aG}{e:aG}{x0 x1 x2 x3 x4 x5 x6 x7 x8 x9:aG}(h:lu H e):lu (x0::x1::x2::x3::x4::x5::x6::x7::x8::x9::H) e:=.ao (.t9 h)
def lu.t11{H:List aG}{e:aG}{x0 x1 x2 x3 x4 x5 x6 x7 x8 x9 pL:aG}(h:lu H e):lu (x0::x1::x2::x3::x4::x5::x6::x7::x8::x9::pL::H) e:=.ao (.XJ h)
def lu.ov{H:List aG}{e:aG}{x0 x1 x2 x3 x4 x5 x6 x7 x8 x9 pL u9:aG}(h:lu H e):lu (x0::x1::x2::x3::x4::x5::x6::x7::x8::x9::pL::u9::H) e:=.ao (.t11 h)
def nr.t2{H H2:List aG}{e:aG}{x0 x1:aG}(h:nr H e H2):nr (x0::x1::H) e (x0::x1::H2):=.ao (.ao h)
def nr.t3{H H2:List aG}{e:aG}{x0 x1 x2:aG}(h:nr H e H2):nr (x0::x1::x2::H) e (x0::x1::x2::H2):=.ao (.t2 h)
def nr.t4{H H2:List aG}{e:aG}{x0 x1 x2 x3:aG}(h:nr H e H2):nr (x0::x1::x2::x3::H) e (x0::x1::x2::x3::H2):=.ao (.t3 h)
def nr.t5{H H2:List aG}{e:aG}{x0 x1 x2 x3 x4:aG}(h:nr H e H2):nr (x0::x1::x2::x3::x4::H) e (x0::x1::x2::x3::x4::H2):=.ao (.t4 h)
def nr.t6{H H2:List aG}{e:aG}{x0 x1 x2 x3 x4 x5:aG}(h:nr H e H2):nr (x0::x1::x2::x3::x4::x5::H) e (x0::x1::x2::x3::x4::x5::H2):=.ao (.t5 h)
def nr.t7{H H2:List aG}{e:aG}{x0 x1 x2 x3 x4 x5 x6:aG}(h:nr H e H2):nr (x0::x1::x2::x3::x4::x5::x6::H) e (x0::x1::x2::x3::x4::x5::x6::H2):=.ao (.t6 h)
def nr.t8{H H2:List aG}{e:aG}{x0 x1 x2 x3 x4 x5 x6 x7:aG}(h:nr H e H2):nr (x0::x1::x2::x3::x4::x5::x6::x7::H) e (x0::x1::x2::x3::x4::x5::x6::x7::H2):=.ao (.t7 h)
def nr.t9{H H2:List aG}{e:aG}{x0 x1 x2 x3 x4 x5 x6 x7 x8:aG}(h:nr H e H2):nr (x0::x1::x2::x3::x4::x5::x6::x7::x8::H) e (x0::x1::x2::x3::x4::x5::x6::x7::x8::H2):=.ao (.t8 h)
def nr.XJ{H H2:List aG}{e:aG}{x0 x1 x2 x3 x4 x5 x6 x7 x8 x9:aG}(h:nr H e H2):nr (x0::x1::x2::x3::x4::x5::x6::x7::x8::x9::H) e (x0::x1::x2::x3::x4::x5::x6::x7::x8::x9::H2):=.ao (.t9 h)
def nr.t11{H H2:List aG}{e:aG}{x0 x1 x2 x3 x4 x5 x6 x7 x8 x9 pL:aG}(h:nr H e H2):nr (x0::x1::x2::x3::x4::x5::x6::x7::x8::x9::pL::H) e (x0::x1::x2::x3::x4::x5::x6::x7::x8::x9::pL::H2):=.ao (.XJ h)
def nr.ov{H H2:List aG}{e:aG}{x0 x1 x2 x3 x4 x5 x6 x7 x8 x9 pL u9:aG}(h:nr H e H2):nr (x0::x1::x2::x3::x4::x5::x6::x7::x8::x9::pL::u9::H) e (x0::x1::x2::x3::x4::x5::x6::x7::x8::x9::pL::u9::H2):=.ao (.t11 h)
def ou.t2{H H2:List aG}{e e2:aG}{x0 x1:aG}(h:ou H e e2 H2):ou (x0::x1::H) e e2 (x0::x1::H2):=.ao (.ao h)
def ou.t3{H H2:List aG}{e e2:aG}{x0 x1 x2:aG}(h:ou H e e2 H2):ou (x0::x1::x2::H) e e2 (x0::x1::x2::H2):=.ao (.t2 h)
def ou.t4{H H2:List aG}{e e2:aG}{x0 x1 x2 x3:aG}(h:ou H e e2 H2):ou (x0::x1::x2::x3::H) e e2 (x0::x1::x2::x3::H2):=.ao (.t3 h)
def ou.t5{H H2:List aG}{e e2:aG}{x0 x1 x2 x3 x4:aG}(h:ou H e e2 H2):ou (x0::x1::x2::x3::x4::H) e e2 (x0::x1::x2::x3::x4::H2):=.ao (.t4 h)
def ou.t6{H H2:List aG}{e e2:aG}{x0 x1 x2 x3 x4 x5:aG}(h:ou H e e2 H2):ou (x0::x1::x2::x3::x4::x5::H) e e2 (x0::x1::x2::x3::x4::x5::H2):=.ao (.t5 h)
def ou.t7{H H2:List aG}{e e2:aG}{x0 x1 x2 x3 x4 x5 x6:aG}(h:ou H e e2 H2):ou (x0::x1::x2::x3::x4::x5::x6::H) e e2 (x0::x1::x2::x3::x4::x5::x6::H2):=.ao (.t6 h)
def ou.t8{H H2:List aG}{e e2:aG}{x0 x1 x2 x3 x4 x5 x6 x7:aG}(h:ou H e e2 H2):ou (x0::x1::x2::x3::x4::x5::x6::x7::H) e e2 (x0::x1::x2::x3::x4::x5::x6::x7::H2):=.ao (.t7 h)
def ou.t9{H H2:List aG}{e e2:aG}{x0 x1 x2 x3 x4 x5 x6 x7 x8:aG}(h:ou H e e2 H2):ou (x0::x1::x2::x3::x4::x5::x6::x7::x8::H) e e2 (x0::x1::x2::x3::x4::x5::x6::x7::x8::H2):=.ao (.t8 h)
def ou.XJ{H H2:List aG}{e e2:aG}{x0 x1 x2 x3 x4 x5 x6 x7 x8 x9:aG}(h:ou H e e2 H2):ou (x0::x1::x2::x3::x4::x5::x6::x7::x8::x9::H) e e2 (x0::x1::x2::x3::x4::x5::x6::x7::x8::x9::H2):=.ao (.t9 h)
def ou.t11{H H2:List aG}{e e2:aG}{x0 x1 x2 x3 x4 x5 x6 x7 x8 x9 pL:aG}(h:ou H e e2 H2):ou (x0::x1::x2::x3::x4::x5::x6::x7::x8::x9::pL::H) e e2 (x0::x1::x2::x3::x4::x5::x6::x7::x8::x9::pL::H2):=.ao (.XJ h)
def ou.ov{H H2:List aG}{e e2:aG}{x0 x1 x2 x3 x4 x5 x6 x7 x8 x9 pL u9:aG}(h:ou H e e2 H2):ou (x0::x1::x2::x3::x4::x5::x6::x7::x8::x9::pL::u9::H) e e2 (x0::x1::x2::x3::x4::x5::x6::x7::x8::x9::pL::u9::H2):=.ao (.t11 h)
theorem cG.h1{H:List aG}{x0:aG} :cG (x0::H) [x0] H:=.cons .aa .nil
theorem cG.h2{H:List aG}{x0 x1:aG} :cG (x0::x1::H) [x0,x1] H:=.cons .aa .h1
theorem cG.h3{H:List aG}{x0 x1 x2:aG} :cG (x0::x1::x2::H) [x0,x1,x2] H:=.cons .aa .h2
theorem cG.h4{H:List aG}{x0 x1 x2 x3:aG} :cG (x0::x1::x2::x3::H) [x0,x1,x2,x3] H:=.cons .aa .h3
theorem cG.h5{H:List aG}{x0 x1 x2 x3 x4:aG} :cG (x0::x1::x2::x3::x4::H) [x0,x1,x2,x3,x4] H:=.cons .aa .h4
theorem cG.h6{H:List aG}{x0 x1 x2 x3 x4 x5:aG} :cG (x0::x1::x2::x3::x4::x5::H) [x0,x1,x2,x3,x4,x5] H:=.cons .aa .h5
def cG.h7{H:List aG}{x0 x1 x2 x3 x4 x5 x6:aG} :cG (x0::x1::x2::x3::x4::x5::x6::H) [x0,x1,x2,x3,x4,x5,x6] H:=.cons .aa .h6
theorem cG.h8{H:List aG}{x0 x1 x2 x3 x4 x5 x6 x7:aG} :cG (x0::x1::x2::x3::x4::x5::x6::x7::H) [x0,x1,x2,x3,x4,x5,x6,x7] H:=.cons .aa .h7
theorem cG.h9{H:List aG}{x0 x1 x2 x3 x4 x5 x6 x7 x8:aG} :cG (x0::x1::x2::x3::x4::x5::x6::x7::x8::H) [x0,x1,x2,x3,x4,x5,x6,x7,x8] H:=.cons .aa .h8
def cG.Tu{H:List aG}{x0 x1 x2 x3 x4 x5 x6 x7 x8 x9:aG} :cG (x0::x1::x2::x3::x4::x5::x6::x7::x8::x9::H) [x0,x1,x2,x3,x4,x5,x6,x7,x8,x9] H:=.cons .aa .h9
def cG.h11{H:List aG}{x0 x1 x2 x3 x4 x5 x6 x7 x8 x9 pL:aG} :cG (x0::x1::x2::x3::x4::x5::x6::x7::x8::x9::pL::H) [x0,x1,x2,x3,x4,x5,x6,x7,x8,x9,pL] H:=.cons .aa .Tu
def cG.h12{H:List aG}{x0 x1 x2 x3 x4 x5 x6 x7 x8 x9 pL u9:aG} :cG (x0::x1::x2::x3::x4::x5::x6::x7::x8::x9::pL::u9::H) [x0,x1,x2,x3,x4,x5,x6,x7,x8,x9,pL,u9] H:=.cons .aa .h11
def cG.h13{H:List aG}{x0 x1 x2 x3 x4 x5 x6 x7 x8 x9 pL u9 CF:aG} :cG (x0::x1::x2::x3::x4::x5::x6::x7::x8::x9::pL::u9::CF::H) [x0,x1,x2,x3,x4,x5,x6,x7,x8,x9,pL,u9,CF] H:=.cons .aa .h12
def cG.h14{H:List aG}{x0 x1 x2 x3 x4 x5 x6 x7 x8 x9 pL u9 CF FE:aG} :cG (x0::x1::x2::x3::x4::x5::x6::x7::x8::x9::pL::u9::CF::FE::H) [x0,x1,x2,x3,x4,x5,x6,x7,x8,x9,pL,u9,CF,FE] H:=.cons .aa .h13
def bL{P:Program}{k:Nat}{ps:List Nat}{cs:List (Nat×Nat)}{t:Nat}{v:Value}{L:PF}{W:World}{S:Nat->Nat->Prop}{post:Value->List aG->Prop}{H H1 F:List aG}(hp:cG H H1 F)(h:post v H1)(hr:fn.results= #[.tmp t]:=by exact rfl)(hv:lk L t=some v:=by exact rfl)(hw:H1.all aG.wr=true:=by exact rfl):XE (fr k ps cs) (bodyPost P fn fun e w=>∃ v' H',e= .returned v'/\post v' H'/\H'.all aG.wr=true/\XM W S H' w) .ret L (XM W S H):=aM hr hv (ah hp hw h)
def er{P:Program}{k:Nat}{ps:List Nat}{cs:List (Nat×Nat)}{t u:Nat}{v v2:Value}{L:PF}{W:World}{S:Nat->Nat->Prop}{post:Value->List aG->Prop}{H H1 F:List aG}(hp:cG H H1 F)(h:post (.tuple #[v,v2]) H1)(hr:fn.results= #[.tmp t,.tmp u]:=by exact rfl)(hv:lk L t=some v:=by exact rfl)(hu:lk L u=some v2:=by exact rfl)(hw:H1.all aG.wr=true:=by exact rfl):XE (fr k ps cs) (bodyPost P fn fun e w=>∃ v' H',e= .returned v'/\post v' H'/\H'.all aG.wr=true/\XM W S H' w) .ret L (XM W S H):=aW hr hv hu (ah hp hw h)
def rt3{P:Program}{k:Nat}{ps:List Nat}{cs:List (Nat×Nat)}{t u x:Nat}{v v2 v3:Value}{L:PF}{W:World}{S:Nat->Nat->Prop}{post:Value->List aG->Prop}{H H1 F:List aG}(hp:cG H H1 F)(h:post (.tuple #[v,v2,v3]) H1)(hr:fn.results= #[.tmp t,.tmp u,.tmp x]:=by exact rfl)(hv:lk L t=some v:=by exact rfl)(hu:lk L u=some v2:=by exact rfl)(hx:lk L x=some v3:=by exact rfl)(hw:H1.all aG.wr=true:=by exact rfl):XE (fr k ps cs) (bodyPost P fn fun e w=>∃ v' H',e= .returned v'/\post v' H'/\H'.all aG.wr=true/\XM W S H' w) .ret L (XM W S H):=xC hr hv hu hx (ah hp hw h)
def rt0{P:Program}{k:Nat}{ps:List Nat}{cs:List (Nat×Nat)}{L:PF}{W:World}{S:Nat->Nat->Prop}{post:Value->List aG->Prop}{H H1 F:List aG}(hp:cG H H1 F)(h:post (.tuple #[]) H1)(hr:fn.results= #[]:=by exact rfl)(hw:H1.all aG.wr=true:=by exact rfl):XE (fr k ps cs) (bodyPost P fn fun e w=>∃ v' H',e= .returned v'/\post v' H'/\H'.all aG.wr=true/\XM W S H' w) .ret L (XM W S H):=NN hr (ah hp hw h)
def xq{W:World}{S:Nat->Nat->Prop}{H E F:List aG}(h:cG H E F):∀ w,XM W S H w->XM W S E w:=fun _ q=>XM.pick h q
end Go.X

namespace Go.X
open Go
variable{H:List aG}
section
variable {P:Program} {ops:Array Oper} {Q:Exit->Act->World->Prop}
variable {n:Fr} {L:PF} {M:World->Prop}
def XQ(P:Program)(n:Fr)(ops:Array Oper)(Q:Exit->Act->World->Prop)(B:Cp)(f:Nat)(l:Array Bool)(L:PF)(M:World->Prop):Prop:=
 nS ops l->∀ a w,qg n L a->M w->JL B l w->Iz P ops Q B f l a w
def XM.kN{W:World}{S:Nat->Nat->Prop}(w:World)(k:Nat)(h:XM W S H w):XM W S H {w with drawn:=w.drawn+k} :=h.drawn k
def XC.im{i:Nat}{os:List Oper}{f:Nat}{l:Array Bool}(hm:P.follows .mixedOrders=true)(hf:os.length=f)(hl:Array.replicate f false=l)(hM:∀ w k,M w->M {w with drawn:=w.drawn+k})(h:XQ P n os.toArray Q [] f l L M):XC P n (.region i os.toArray true) Q L M:=fun a w ha hw=>by
 subst hf;subst hl;refine wp_region_any hm ?_;have:=rK _ _ _ _ (h (tD _ _) a _ ha (hM w 1 hw) trivial);simpa using this
def XQ.Fs{B:Cp}{f i d:Nat}{l l':Array Bool}{o:Oper}{v:Value}(T:List Nat)(φ:World->Prop)(ho:ops[i]? =some o)(hk:zu ops l i=true)(hT:T.all (fun s=>IM ops i ops.size s&& !(Nat.beq s i))=true)(hB:B.all (fun p=> !p.1.contains i)=true)(hl:l.setIfInBounds i true=l')(vI:o.dst=some d)(hd:Nat.blt d n.sz=true)(hφ:∀ w,M w->φ w)(hv:∀ a,qg n L a->YF P ops φ o v a)(h:XQ P n ops Q ((T,φ)::B) f l' ((d,v)::L) M):XQ P n ops Q B (f+1) l L M:=by
 subst hl;intro hc a w ha hw hJ;simp only[zu,Bool.and_eq_true]at hk;obtain⟨⟨h1,h2⟩,h3⟩:=hk;have hr:i∈Region.ready .any ops l:=by simpa using h3
 refine zt (T:=T) (φ:=φ) ho (Region.noSelect_spec h1) (fun s hs=>⟨ops.size,?_⟩) ?_ ?_ f l a w hc (Region.free_spec ho h2) hr (hv a ha) ?_
 ·have h4:=List.all_eq_true.1 hT s hs;simp only[Bool.and_eq_true]at h4;exact h4.1
 ·intro hi;have:=List.all_eq_true.1 hT i hi;simp at this
 ·intro p hp hi;have:=List.all_eq_true.1 hB p hp;simp at this;exact this hi
 ·rw[vI];exact h (jZ hc hr) _ w (ha.put hd v) hw ⟨fun _=>hφ w hw,JL.kA B hJ⟩
def XQ.step{B:Cp}{f i:Nat}{l:Array Bool}{o:Oper}(ho:ops[i]? =some o)(hg:o.guard=none)(hk:Region.ready .any ops l=[i])(h:nS ops (l.setIfInBounds i true)->∀ a w,qg n L a->M w->JL B l w->o.wp P a w (Iz P ops Q B f (l.setIfInBounds i true)) (NO Q)):XQ P n ops Q B (f+1) l L M:=by
 intro hc a w ha hw hJ;have hr:i∈Region.ready .any ops l:=by rw[hk];simp
 refine⟨hJ,fun h0=>(by rw[hk]at h0;cases h0),fun j hj=> ?_⟩;rw[hk]at hj;have:j=i:=by simpa using hj
 subst this;unfold wpOp;simp only[ho];rw[if_pos (by simp[Region.wanted,hg])];exact .inl (h (jZ hc hr) a w ha hw hJ)
def XQ.done{B:Cp}{f:Nat}{l:Array Bool}(hk:Region.ready .any ops l=[])(h:XE n Q .normal L M):XQ P n ops Q B f l L M:=by
 intro hc a w ha hw hJ;cases f with
 | zero=>exact⟨hJ,hk,h a w ha hw⟩
 | succ f=>exact⟨hJ,fun _=>h a w ha hw,fun j hj=>by rw[hk]at hj;cases hj⟩
def A2{B:Cp} :∀ (f:Nat) (l:Array Bool) (a:Act) (w:World),Iz P ops Q B f l a w->Iz P ops Q (([],fun _=>True)::B) f l a w
 | 0,_,_,_,h=>⟨⟨fun _=>trivial,h.1⟩,h.2.1,h.2.2⟩
 | f+1,_,_,_,h=>⟨⟨fun _=>trivial,h.1⟩,h.2.1,fun j hj=>wpOp_mono (fun a' w'=>A2 f _ a' w') (h.2.2 j hj)⟩
variable {op:Op} {ty:TypeId} {pos:String} {af:Array Edge} {d f i:Nat} {v:Value} {B:Cp} {l l':Array Bool}
def aaq{φ:World->Prop}(hv:bd P n L φ ⟨some d,op,ty,pos,af,none⟩ v)(a:Act)(ha:qg n L a):YF P ops φ ⟨some d,op,ty,pos,af,none⟩ v a:=
 .inl ⟨by simp[Region.wanted],fun w hw=>hv a w ha hw⟩
def XQ.pv(ho:ops[i]? =some ⟨some d,op,ty,pos,af,none⟩)(hk:zu ops l i=true)(hl:l.setIfInBounds i true=l')(hv:bd P n L (fun _=>True) ⟨some d,op,ty,pos,af,none⟩ v)(hd:Nat.blt d n.sz=true)(hB:B.all (fun p=> !p.1.contains i)=true)(h:XQ P n ops Q B f l' ((d,v)::L) M):XQ P n ops Q B (f+1) l L M:=
 XQ.Fs [] (fun _=>True) ho hk rfl hB hl rfl hd (fun _ _=>trivial) (aaq hv) fun hc a w ha hw hJ=>A2 _ _ _ _ (h hc a w ha hw hJ.2)
theorem XQ.load{W:World}{S:Nat->Nat->Prop}(e:aG)(T:List Nat)(ho:ops[i]? =some ⟨some d,op,ty,pos,af,none⟩)(hk:zu ops l i=true)(hl:l.setIfInBounds i true=l')(hH:lu H e)(hv:bd P n L (fun w=>e.holds w) ⟨some d,op,ty,pos,af,none⟩ v)(hd:Nat.blt d n.sz=true)(hT:T.all (fun s=>IM ops i ops.size s&& !(Nat.beq s i))=true)(hB:B.all (fun p=> !p.1.contains i)=true)(h:XQ P n ops Q ((T,fun w=>e.holds w)::B) f l' ((d,v)::L) (XM W S H)):XQ P n ops Q B (f+1) l L (XM W S H):=
 XQ.Fs T _ ho hk hT hB hl rfl hd (fb hH) (aaq hv) h
theorem XQ.store{W:World}{S:Nat->Nat->Prop}{H H':List aG}{t:TypeId}{x y:Operand}{b o i' m:Nat}{C C':Nat->Value}(ho:ops[i]? =some ⟨none,.store t x y,ty,pos,af,none⟩)(hk:Region.ready .any ops l=[i])(hl:l.setIfInBounds i true=l')(hx:ev L x=some (ay b o i'))(hy:ev L y=some v)(hH:ou H (.cells b o m C) (.cells b o m C') H')(hi:i'<m/\dP C i' v=C')(hv:one v=true)(hs:fp P t=some 1)(LR:∀ w,XM W S H' w->JL B l' w)(h:XQ P n ops Q B f l' L (XM W S H')):XQ P n ops Q B (f+1) l L (XM W S H):=by
 subst hl;refine XQ.step ho rfl hk fun hc a w ha hw hJ=> ?_;obtain⟨H1,hd,hp⟩:=hH.del;have h2:=hw.setCell hd hi.1 v;rw[hi.2]at h2;have dZ:=hw.cb hd.cb;have hr:=nU (P:=P) (show(aG.cells b o m C).holds w from dZ.fa.1 _ sq) hi.1 hv;unfold Oper.wp;have:(execOp a.eval ⟨none,.store t x y,ty,pos,af,none⟩).run P w= .ok .skip (w.setCell ⟨b,o+i',none⟩ v):=by
  have hz:(⟨b,o+i',none⟩:Addr).add 0=⟨b,o+i',none⟩:=rfl;simp[execOp,av ha hx,av ha hy,Instr.storeAt,Instr.sureAddr,ay,storeVar,zw hv,run_sizeOf hs,storeCells,hz,hr]
 rw[this];exact h hc _ _ ha (h2.cb hp) (LR _ (h2.cb hp))
def XQ.gi{W:World}{S:Nat->Nat->Prop}{H':List aG}{t:TypeId}{x y:Operand}{b o i' m sz:Nat}{C C':Nat->Value}{cs:Array Value}(ho:ops[i]? =some ⟨none,.store t x y,ty,pos,af,none⟩)(hk:Region.ready .any ops l=[i])(hl:l.setIfInBounds i true=l')(hx:ev L x=some (ay b o i'))(hy:ev L y=some (.agg cs))(hH:ou H (.cells b o m C) (.cells b o m C') H')(hi:i'+sz<=m/\cD C i' cs.toList=C')(hv:cs.toList.all one=true/\cs.size=sz)(hs:fp P t=some sz)(LR:∀ w,XM W S H' w->JL B l' w)(h:XQ P n ops Q B f l' L (XM W S H')):XQ P n ops Q B (f+1) l L (XM W S H):=by
 subst hl;refine XQ.step ho rfl hk fun hc a w ha hw hJ=> ?_;obtain⟨H1,hd,hp⟩:=hH.del;obtain⟨w',hr,mK⟩:=lS (P:=P) cs.toList i' 0 C w (hw.cb hd.cb) eW hv.1;simp only[Nat.add_zero]at mK;rw[hi.2]at mK;unfold Oper.wp;have:(execOp a.eval ⟨none,.store t x y,ty,pos,af,none⟩).run P w= .ok .skip w':=by
  simp[execOp,av ha hx,av ha hy,Instr.storeAt,Instr.sureAddr,ay,storeVar,Value.cells,run_sizeOf hs,hv.2,hr]
 rw[this];exact h hc _ _ ha (mK.cb hp) (LR _ (mK.cb hp))
def XQ.call{W:World}{S:Nat->Nat->Prop}{g:FuncId}{xs:List Operand}{vs:List Value}{oH:Array TypeId}{pre F:List aG}{post:Value->List aG->Prop}(ho:ops[i]? =some ⟨some d,.call ⟨.value (.func g),xs.toArray,oH⟩,ty,pos,af,none⟩)(hk:Region.ready .any ops l=[i])(hl:l.setIfInBounds i true=l')(he:PO L xs=some vs)(hs:Spec P g vs pre post)(hp:cG H pre F)(hc:dc P g=true)(hd:Nat.blt d n.sz=true)(LR:∀ v H1,post v H1->∀ w,XM W S (H1++F) w->JL B l' w)(h:∀ v H1,post v H1->XQ P n ops Q B f l' ((d,v)::L) (XM W S (H1++F))):XQ P n ops Q B (f+1) l L (XM W S H):=by
 subst hl;refine XQ.step ho rfl hk fun IG a w ha hw hJ=> ?_;unfold Oper.wp;rw[xE hc (qC ha xs vs he)];show Calls P g vs.toArray w _;refine(hs w (hw.pick hp).fa).mono ?_;rintro e w' ⟨v,H1,rfl,tE,Lt,hx⟩;have mK:=hw.zv hp hx fun e he=>List.all_eq_true.1 Lt e he;exact h v H1 tE IG _ _ (ha.put hd v) mK (LR v H1 tE _ mK)
theorem XQ.box{W:World}{S:Nat->Nat->Prop}{H:List aG}{t:TypeId}{x:Operand}{m:Nat}{C:Nat->Value}(ho:ops[i]? =some ⟨some d,.box t x,ty,pos,af,none⟩)(hk:Region.ready .any ops l=[i])(hl:l.setIfInBounds i true=l')(hx:ev L x=some v)(hm:v.cells.size=m)(hC:∀ i,i<m->cellsOf v.cells i=C i)(hd:Nat.blt d n.sz=true)(LR:∀ b w,XM W S (.cells b 0 m C::H) w->JL B l' w)(h:∀ b,XQ P n ops Q B f l' ((d,ay b 0 0)::L) (XM W S (.cells b 0 m C::H))):XQ P n ops Q B (f+1) l L (XM W S H):=by
 subst hl;refine XQ.step ho rfl hk fun IG a w ha hw hJ=> ?_;have mK:=hw.alloc v.cells t C fun i hi=>by rw[il _ _ hi,hC i (hm▸hi)]
 rw[hm]at mK;unfold Oper.wp;have:(execOp a.eval ⟨some d,.box t x,ty,pos,af,none⟩).run P w= .ok (.value (ay w.heap.size 0 0)) (w.alloc (.cells v.cells t)):=by
  simp[execOp,av ha hx,Instr.box,newVar,newRow,newObj,Sem.run,ay]
 rw[this];exact h _ IG _ _ (ha.put hd _) mK (LR _ _ mK)
def XQ.bG{W:World}{S:Nat->Nat->Prop}{t:TypeId}{z:Value}{m:Nat}{C:Nat->Value}(ho:ops[i]? =some ⟨some d,.alloc t,ty,pos,af,none⟩)(hk:Region.ready .any ops l=[i])(hl:l.setIfInBounds i true=l')(hz:Cr P t=some z)(hm:z.cells.size=m)(hC:∀ i,i<m->cellsOf z.cells i=C i)(hd:Nat.blt d n.sz=true)(LR:∀ b w,XM W S (.cells b 0 m C::H) w->JL B l' w)(h:∀ b,XQ P n ops Q B f l' ((d,ay b 0 0)::L) (XM W S (.cells b 0 m C::H))):XQ P n ops Q B (f+1) l L (XM W S H):=by
 subst hl;refine XQ.step ho rfl hk fun IG a w ha hw hJ=> ?_;have hx:=hw.alloc z.cells t C fun i hi=>by rw[il _ _ hi,hC i (hm▸hi)]
 rw[hm]at hx;unfold Oper.wp;have:(execOp a.eval ⟨some d,.alloc t,ty,pos,af,none⟩).run P w= .ok (.value (ay w.heap.size 0 0)) (w.alloc (.cells z.cells t)):=by
  simp[execOp,Instr.alloc,qi hz,newVar,newRow,newObj,Sem.run,ay]
 rw[this];exact h _ IG _ _ (ha.put hd _) hx (LR _ _ hx)
end
section
variable {P:Program} {n:Fr} {L:PF} {ops:Array Oper} {Q:Exit->Act->World->Prop} {ty:TypeId} {pos:String} {af:Array Edge} {f i:Nat} {B:Cp} {l l':Array Bool}
end
end Go.X

namespace Go.X
open Go Go.Proofs Go.Shelf
variable{cur:Array Value}{xs:List Value}{cap g i j k:Nat}{w:World}
def strs(l:List ByteArray):List Value:=l.map Value.string
def kB(l:List ByteArray)(z:Int):ByteArray:=l.getD z.toNat ByteArray.empty
def rQ{l:List ByteArray}{z:Int}(h:0<=z/\z<l.length:=by omega):(strs l)[0+z.toNat*1]? =some (.string (kB l z)):=by
 have h2:z.toNat<l.length:=og;simp[strs,kB,List.getD,h2]
abbrev j9(p:Option Addr)(cap:Nat)(e:TypeId)(l:List ByteArray):aG:=.row (.slice p l.length cap) e 1 l.length (strs l)
def Je(A:Array Value):Nat->List Value->Array Value
 | _,[]=>A
 | o,v::r=>Je (A.setIfInBounds o v) (o+1) r
theorem iX:∀ (vs:List Value) (A:Array Value) (o:Nat),(Je A o vs).size=A.size
 | [],A,o=>rfl
 | v::r,A,o=>by rw[Je,iX r];simp
theorem pT:∀ (vs:List Value) (A:Array Value) (o i:Nat),o+vs.length<=A.size->(Je A o vs)[i]? =if o<=i/\i<o+vs.length then vs[i-o]? else A[i]?
 | [],A,o,i,_=>by rw[Je,if_neg (by simp only[List.length_nil];omega)]
 | v::r,A,o,i,h=>by
  simp only[List.length_cons]at h ⊢;rw[Je,pT r _ (o+1) i eW];by_cases c:i=o
  ·subst c;rw[if_neg og,if_pos og,Array.getElem?_setIfInBounds];simp;try omega
  ·by_cases q:o<=i/\i<o+(r.length+1)
   ·rw[if_pos og,if_pos q,show i-o=(i-(o+1))+1 by omega,List.getElem?_cons_succ]
   ·rw[if_neg og,if_neg q,Array.getElem?_setIfInBounds,if_neg fun e=>c e.symm]
def eD{g:Nat}{t:TypeId}{fz:Nat×Nat} :∀ (vs:List Value) (o:Nat) (w:World) (cur:Array Value),w.heap[g]? =some (.cells cur t fz)->(w.setCells g o vs).heap[g]? =some (.cells (Je cur o vs) t fz)
 | [],o,w,cur,h=>h
 | v::r,o,w,cur,h=>by
  rw[World.setCells,Je];exact eD r (o+1) _ _ (by simp[World.setCell,Array.getElem?_modify,h])
def gy{g:Nat}{t:TypeId}{fz:Nat×Nat}{S:Nat->Nat->Prop}(hS:∀ o,S g o):∀ (vs:List Value) (o:Nat) (w:World) (cur:Array Value),w.heap[g]? =some (.cells cur t fz)->gW w (w.setCells g o vs) S
 | [],o,w,cur,h=>gW.refl _ _
 | v::r,o,w,cur,h=>by
  rw[World.setCells];have h1:gW w (w.setCell ⟨g,o,none⟩ v) S:=by
   have:=gW.setCell (i:=0) (o:=o) h v (S:=S) (hS _);rwa[Nat.add_zero]at this
  have h2:(w.setCell ⟨g,o,none⟩ v).heap[g]? =some (.cells (cur.setIfInBounds o v) t fz):=by simp[World.setCell,Array.getElem?_modify,h]
  exact h1.trans (gy hS r (o+1) _ _ h2) (fun _ _ q _=>q) fun _ _ q _=>q
theorem gW.kA{a b:World}{S T:Nat->Nat->Prop}(h:gW a b S)(hST:∀ x o,S x o->T x o):gW a b T:=
 ⟨h.os,h.tape,h.output,h.size,fun b hb hn=>h.same b hb fun o q=>hn o (hST b o q),fun b A t fz hA=>by
  obtain⟨A',h1,h2,h3⟩:=h.part b A t fz hA
  exact⟨A',h1,h2,fun o hn=>h3 o fun q=>hn (hST b o q)⟩⟩
section
variable {P:Program} {ρ:Ren}
structure Left (w w':World) (v v':Value) (e:TypeId) (k':Nat) (xs':List Value):Prop where
 row:(aG.row v' e 1 k' xs').holds w'
 fE:gW w w' fun b _=>v.ownBlock=some b
 bH:∀ b,v'.ownBlock=some b->v.ownBlock=some b\/w.heap.size<=b
def Left.xm{w':World}{v v':Value}{e:TypeId}{k':Nat}{xs':List Value}{H:List aG}(h:Left w w' v v' e k' xs')(hg:Good (.row v e 1 k xs::H) w):XM w (bX (.row v e 1 k xs::H)) (.row v' e 1 k' xs'::H) w':=
 (kW hg).cm .aa rfl (fun b o ha=>h.bH b ha) (h.fE.kA fun _ _ q=>q) h.row
def qK{p:Option Addr}{e:TypeId}(h:(aG.row (.slice p k cap) e 1 k xs).holds w):(p=none/\cap=0/\k=0/\xs=[])\/∃ g cur,p=some ⟨g,0,none⟩/\w.heap[g]? =some (.cells cur e (0,0))/\k<=cap/\cap<=maxLen/\cur.size=cap/\xs.length=k/\cur.toList.take k=xs:=by
 rcases h.2 with⟨hv,rfl⟩ | ⟨g,cU,cur,hv,_,h1,h2,h3,h4,h5⟩
 ·simp only[Value.slice.injEq]at hv;obtain⟨rfl,_,rfl⟩:=hv;exact .inl ⟨rfl,rfl,rfl,List.eq_nil_of_length_eq_zero (by simpa using h.1)⟩
 ·simp only[Value.slice.injEq,true_and]at hv;obtain⟨rfl,rfl⟩:=hv;exact .inr ⟨g,cur,rfl,h1,h2,h3,by simpa using h4,by simpa using h.1,by simpa using h5⟩
def iH{e:TypeId}(h:w.heap[g]? =some (.cells cur e (0,0)))(j:Nat):w.frozen? ⟨g,j,none⟩=false:=by
 simp[World.frozen?,h]
def xL{e:TypeId}(h:w.heap[g]? =some (.cells cur e (0,0)))(hj:j<cur.size:=by omega):(w.cell? ⟨g,j,none⟩).isSome=true:=by
 simp[World.cell?,h,hj]
theorem Tv(h:cur.toList.take k=xs)(hk:k<=cur.size)(hi:i<k):cur[i]? =xs[i]? :=by
 rw[<-h,List.getElem?_take_of_lt hi,Array.getElem?_toList]
theorem qL(xs:List Value)(x:Value)(i j:Nat)(hi:i<=xs.length:=by omega):(xs.take i++x::xs.drop i)[j]? =if j<i then xs[j]? else if j=i then some x else xs[j-1]? :=by
 by_cases c:j<i
 ·rw[if_pos c,List.getElem?_append_left eW,List.getElem?_take_of_lt c]
 ·rw[if_neg c,List.getElem?_append_right eW];simp only[List.length_take,Nat.min_eq_left hi];by_cases q:j=i
  ·subst q;rw[if_pos rfl];simp
  ·rw[if_neg q,show j-i=(j-i-1)+1 by omega,List.getElem?_cons_succ,List.getElem?_drop,show i+(j-i-1)=j-1 by omega]
def rS{e:TypeId}{x:Value}(h1:w.heap[g]? =some (.cells cur e (0,0)))(h2:k+1<=cap)(h3:cap<=maxLen)(h4:cur.size=cap)(h5:cur.toList.take k=xs)(h6:xs.length=k)(hi:i<=k)(q:Nat):Left w ((((w.drewN q).setCells g (0+(i+1)) (xs.drop i))).setCells g (0+i) [x]) (.slice (some ⟨g,0,none⟩) k cap) (.slice (some ⟨g,0,none⟩) (k+1) cap) e (k+1) (xs.take i++x::xs.drop i):=by
 have a0:(w.drewN q).heap[g]? =some (.cells cur e (0,0)):=h1;have a1:=eD (xs.drop i) (0+(i+1)) _ _ a0;have a2:=eD [x] (0+i) _ _ a1;have hl:(xs.drop i).length=k-i:=by simp[h6]
 refine⟨⟨by simp[h6];omega,.inr ⟨g,cap,_,rfl,Nat.zero_le _,a2,h2,h3,by rw[iX,iX,h4];simp,?_⟩⟩,?_,fun b hb=>.inl hb⟩
 ·apply List.ext_getElem?;intro j;rw[qL _ _ _ _,Nat.mul_one];by_cases hj:j<k+1
  ·rw[List.getElem?_take_of_lt hj,Array.getElem?_toList,pT _ _ _ _ (by rw[iX];simp;omega),pT _ _ _ _ (by rw[hl];omega)];by_cases c:j<i
   ·rw[if_neg eW,if_neg og,if_pos c,Tv h5 og og]
   ·rw[if_neg c];by_cases q2:j=i
    ·subst q2;rw[if_pos sq,if_pos rfl];simp
    ·rw[if_neg eW,if_pos (by rw[hl];omega),if_neg q2,List.getElem?_drop];congr 1;omega
  ·rw[List.getElem?_take_eq_none og,if_neg og,if_neg og,List.getElem?_eq_none og]
 ·have k1:gW w (w.drewN q) (fun b _=>(Value.slice (some ⟨g,0,none⟩) k cap).ownBlock=some b):=⟨rfl,rfl,rfl,Nat.le_refl _,fun _ _ _=>rfl,fun _ A _ _ h=>⟨A,h,rfl,fun _ _=>rfl⟩⟩;have k2:=gy (S:=fun b _=>(Value.slice (some ⟨g,0,none⟩) k cap).ownBlock=some b) (fun _=>rfl) (xs.drop i) (0+(i+1)) _ _ a0;have k3:=gy (S:=fun b _=>(Value.slice (some ⟨g,0,none⟩) k cap).ownBlock=some b) (fun _=>rfl) [x] (0+i) _ _ a1;exact(k1.trans k2 (fun _ _ q _=>q) fun _ _ q _=>q).trans k3 (fun _ _ q _=>q) fun _ _ q _=>q
def FG{w':World}{p:Option Addr}{C:Nat}{e:TypeId}{x:Value}(hk:gW w w' fun _ _=>False)(h1:w'.heap[w.heap.size]? =some (.cells cur e (0,0)))(h2:k+1<=C)(h3:C<=maxLen)(h4:cur.size=C)(h6:xs.length=k)(hi:i<=k)(h5:∀ j,j<k+1->cur[j]? =(xs.take i++x::xs.drop i)[j]?):Left w w' (.slice p k cap) (.slice (some ⟨w.heap.size,0,none⟩) (k+1) C) e (k+1) (xs.take i++x::xs.drop i):=by
 have hl:(xs.take i++x::xs.drop i).length=k+1:=eW;refine⟨⟨by rw[hl];omega,.inr ⟨w.heap.size,C,cur,rfl,Nat.zero_le _,h1,h2,h3,by rw[h4];omega,?_⟩⟩,hk.kA fun _ _ q=>q.elim,fun b hb=>.inr (by simp only[Value.ownBlock,Option.some.injEq]at hb;omega)⟩;apply List.ext_getElem?;intro j;by_cases hj:j<k+1
 ·rw[List.getElem?_take_of_lt og,Array.getElem?_toList];exact h5 j hj
 ·rw[List.getElem?_take_eq_none og,List.getElem?_eq_none og]
set_option maxHeartbeats 1000000 in
def ET(L:Lays2.n22 P ρ)(p:Option Addr)(cap:Nat)(l:List ByteArray)(i:Nat)(hi:i<=l.length)(x:ByteArray)(vb:Nat)(e2:TypeId)(hl:l.length<=1000000):Spec P (ρ.f 22) [.slice p l.length cap,.int .i64 i,.slice (some ⟨vb,0,none⟩) 1 1] [j9 p cap (ρ.t 9) l,.row (.slice (some ⟨vb,0,none⟩) 1 1) e2 1 1 [.string x]] (fun v H1=>∃ p' cU,v= .slice p' (l.length+1) cU/\H1=[.row (.slice p' (l.length+1) cU) (ρ.t 9) 1 (l.length+1) (strs (l.insertIdx i x)),.row (.slice (some ⟨vb,0,none⟩) 1 1) e2 1 1 [.string x]]):=by
 intro w hw;have ib:(j9 p cap (ρ.t 9) l).holds w:=hw.1 _ sq;have Tw:(aG.row (.slice (some ⟨vb,0,none⟩) 1 1) e2 1 1 [.string x]).holds w:=hw.1 _ sq;obtain⟨XK,q1,_,_,q4,q5⟩:=oJ Tw;have XL:∀ j v,([.string x]:List Value)[j]? =some v->w.cell? ⟨vb,0+j,none⟩=some v:=fun j v hj=>cell_of_row Tw hj;have XN:∀ v∈([.string x]:List Value),v.oneCell'=true:=fun v hv=>by
  simp only[List.mem_singleton]at hv;subst hv;rfl
 have abB:strs (l.insertIdx i x)=(strs l).take i++ .string x::(strs l).drop i:=by
  unfold strs;apply List.ext_getElem?;intro j;rw[qL _ _ _ _ (by simpa using hi),List.getElem?_map,List.getElem?_insertIdx];by_cases c:j<i
  ·rw[if_pos c,if_pos c,List.getElem?_map]
  ·rw[if_neg c,if_neg c];by_cases q:j=i
   ·subst q;rw[if_pos rfl,if_pos rfl,if_pos (by simpa using hi)];rfl
   ·rw[if_neg q,if_neg q,List.getElem?_map]
 have hlen:(strs l).length=l.length:=by simp[strs]
 have fin:∀ {ee:Ending} {w':World} {p':Option Addr} {cU:Nat},ee= .returned (.slice p' (l.length+1) cU)->Left w w' (.slice p l.length cap) (.slice p' (l.length+1) cU) (ρ.t 9) (l.length+1) ((strs l).take i++ .string x::(strs l).drop i)->
   ∃ v H',ee= .returned v/\(∃ p' cU,v= .slice p' (l.length+1) cU/\H'=[aG.row (.slice p' (l.length+1) cU) (ρ.t 9) 1 (l.length+1) (strs (l.insertIdx i x)),.row (.slice (some ⟨vb,0,none⟩) 1 1) e2 1 1 [.string x]])/\H'.all aG.wr=true/\XM w (bX [j9 p cap (ρ.t 9) l,.row (.slice (some ⟨vb,0,none⟩) 1 1) e2 1 1 [.string x]]) H' w':=fun he hL=>
  ⟨_,_,he,⟨_,_,rfl,rfl⟩,rfl,by rw[abB];exact hL.xm hw⟩
 have hzero:∀ k,(Builtin.zeroCells (Value.string ⟨#[]⟩).cells k).size=k:=fun k=>by rw[size_zeroCells];simp[Value.cells]
 have grown:∀ (w':World) (C:Nat) (cur:Array Value),gW w w' (fun _ _=>False)->w'.heap[w.heap.size]? =some (.cells cur (ρ.t 9) (0,0))->l.length+1<=C->C<=maxLen->cur.size=C->(∀ j,j<l.length+1->cur[j]? =((strs l).take i++ .string x::(strs l).drop i)[j]?)->
   Left w w' (.slice p l.length cap) (.slice (some ⟨w.heap.size,0,none⟩) (l.length+1) C) (ρ.t 9) (l.length+1) ((strs l).take i++ .string x::(strs l).drop i):=fun w' C cur a1 a2 a3 a4 a5 a6=>FG a1 a2 a3 a4 a5 hlen hi a6
 have xM:i=l.length->cap<l.length+1->l.length<=cap->(p=none->l.length=0)->(∀ a,p=some a->∀ j v,(strs l)[j]? =some v->w.cell? (a.add j)=some v)->Calls P (ρ.f 22) #[.slice p l.length cap,.int .i64 i,.slice (some ⟨vb,0,none⟩) 1 1] w fun e w'=>∃ v H',e= .returned v/\(∃ p' cU,v= .slice p' (l.length+1) cU/\H'=[aG.row (.slice p' (l.length+1) cU) (ρ.t 9) 1 (l.length+1) (strs (l.insertIdx i x)),.row (.slice (some ⟨vb,0,none⟩) 1 1) e2 1 1 [.string x]])/\H'.all aG.wr=true/\XM w (bX [j9 p cap (ρ.t 9) l,.row (.slice (some ⟨vb,0,none⟩) 1 1) e2 1 1 [.string x]]) H' w':=by
  intro Tx lT Hc XP BU;subst Tx;refine(Any2.slices_Insert_string_end_grow L p l.length cap vb 0 1 1 (strs l) [.string x] w og Hc lT og hlen rfl XP BU XL XN).mono fun ee w' ⟨he,dZ⟩=> ?_;subst dZ;have LK:=grownCap_ge w (l.length+1) cap (ρ.t 9);have PW:grownCap w (l.length+1) cap (ρ.t 9)<=maxLen:=grownCap_le_maxLen w (l.length+1) cap (ρ.t 9) (by simp only[maxLen];omega);refine fin he (grown _ _ _ (uX (j8 w.drew _ _)) (heap_alloc_new w.drew _) LK PW ?_ fun j hj=> ?_)
  ·rw[Array.size_append,hzero];simp[hlen];omega
  ·rw[Array.getElem?_append_left (by simp[hlen];omega),List.getElem?_toArray,List.take_of_length_le og,List.drop_of_length_le og]
 rcases qK ib with⟨rfl,rfl,hk,hx⟩ | ⟨g,cur,rfl,h1,h2,h3,h4,h5,h6⟩
 ·exact xM og og og (fun _=>hk) fun a ha=>by cases ha
 ·have gY:vb≠g:=fun e=>by
   have hp:=List.pairwise_cons.1 hw.2;exact hp.1 (aG.row (.slice (some ⟨vb,0,none⟩) 1 1) e2 1 1 [.string x]) sq rfl g 0 rfl (by simp only[aG.gp,Value.ownBlock];rw[e])
  have BU:∀ j v,(strs l)[j]? =some v->w.cell? ⟨g,0+j,none⟩=some v:=fun j v hj=>cell_of_row ib hj;have h1c:∀ v∈strs l,v.oneCell'=true:=fun v hv=>by
   obtain⟨y,_,rfl⟩:=List.mem_map.1 hv;rfl
  have Hd:cap<=9223372036854775807:=by simp only[maxLen]at h3;omega
  by_cases lT:l.length+1<=cap
  ·by_cases Tx:i=l.length
   ·subst Tx;refine(Any2.slices_Insert_string_end_room L g 0 l.length cap vb 0 1 1 [.string x] w og lT Hd rfl (fun j hj=>xL h1) (fun j _=>iH h1 _) XL XN).mono fun ee w' ⟨he,dZ⟩=> ?_;subst dZ;have hL:=rS (i:=l.length) (x:=.string x) h1 lT h3 h4 h6 h5 og 0;rw[List.drop_of_length_le (show(strs l).length<=l.length by omega)]at hL;rw[List.drop_of_length_le (show(strs l).length<=l.length by omega)]at fin;exact fin he hL
   ·refine(Any2.slices_Insert_string_shift L g 0 l.length cap i vb 0 1 1 (strs l) [.string x] w og og lT Hd gY hlen rfl BU (fun j hj=>xL h1) (fun j _=>iH h1 _) XL h1c XN e2 (ρ.t 9) XK.size cur.size
     (by simp[World.shape?,q1]) (by simp[World.shape?,h1]) og (iH q1 _) (iH q1 _)).mono fun ee w' ⟨he,dZ⟩=> ?_
    subst dZ;exact fin he (rS (i:=i) (x:=.string x) h1 lT h3 h4 h6 h5 og 1)
  ·by_cases Tx:i=l.length
   ·refine xM Tx og h2 (fun q=>by cases q) (fun a ha j v hj=> ?_);obtain rfl:a=⟨g,0,none⟩:=(Option.some.inj ha).symm;have:=BU j v hj;have e0:(⟨g,0,none⟩:Addr).add j=⟨g,0+j,none⟩:=by cases j<;>simp[Addr.add]
    rw[e0];exact this
   ·refine(Any2.slices_Insert_string_grow L g 0 l.length cap i vb 0 1 1 (strs l) [.string x] w og og h2 og og hlen rfl BU XL h1c XN).mono fun ee w' ⟨he,dZ⟩=> ?_;have LK:=grownCap_ge w (l.length+1) cap (ρ.t 9);have PW:grownCap w (l.length+1) cap (ρ.t 9)<=maxLen:=grownCap_le_maxLen w (l.length+1) cap (ρ.t 9) (by simp only[maxLen];omega);generalize hA:((strs l).take i).toArray++Builtin.zeroCells (Value.string ⟨#[]⟩).cells (l.length+1-i)++Builtin.zeroCells (Value.string ⟨#[]⟩).cells (grownCap w (l.length+1) cap (ρ.t 9)-(l.length+1))=A0 at dZ;have hAs:A0.size=grownCap w (l.length+1) cap (ρ.t 9):=by
     rw[<-hA,Array.size_append,Array.size_append,hzero,hzero];simp[hlen];omega
    have b0:(w.alloc (.cells A0 (ρ.t 9))).drew.heap[w.heap.size]? =some (.cells A0 (ρ.t 9) (0,0)):=heap_alloc_new w _;have b1:=eD [.string x] i _ _ b0;have b2:(((w.alloc (.cells A0 (ρ.t 9))).drew.setCells w.heap.size i [.string x]).drew).heap[w.heap.size]? =_:=b1;have b3:=eD ((strs l).drop i) (i+1) _ _ b2;subst dZ;refine fin he (grown _ _ _ ?_ b3 LK PW (by rw[iX,iX,hAs]) fun j hj=> ?_)
    ·have k0:gW w (w.alloc (.cells A0 (ρ.t 9))).drew (fun _ _=>False):=by
      have:=j8 w (.cells A0 (ρ.t 9)) fun _ _=>False;exact⟨this.os,this.tape,this.output,this.size,this.same,this.part⟩
     have k1:=gy (S:=fun b _=>b=w.heap.size) (fun _=>rfl) [.string x] i _ _ b0;have k1':gW (w.alloc (.cells A0 (ρ.t 9))).drew (((w.alloc (.cells A0 (ρ.t 9))).drew.setCells w.heap.size i [.string x]).drew) (fun b _=>b=w.heap.size):=⟨k1.os,k1.tape,k1.output,k1.size,k1.same,k1.part⟩;have k2:=gy (S:=fun b _=>b=w.heap.size) (fun _=>rfl) ((strs l).drop i) (i+1) _ _ b2;exact k0.trans (k1'.trans k2 (fun _ _ q _=>q) fun _ _ q _=>q) (fun _ _ q _=>q) fun y o q hy=>og
    ·have hd:((strs l).drop i).length=l.length-i:=by simp[hlen]
     rw[qL _ _ _ _,pT _ _ _ _ (by rw[iX,hAs,hd];omega),pT _ _ _ _ (by rw[hAs];simp;omega)];by_cases c:j<i
     ·rw[if_neg og,if_neg eW,if_pos c,<-hA,Array.getElem?_append_left (by rw[Array.size_append,hzero];simp[hlen];omega),Array.getElem?_append_left (by simp[hlen];omega),List.getElem?_toArray,List.getElem?_take_of_lt c]
     ·rw[if_neg c];by_cases q:j=i
      ·subst q;rw[if_neg og,if_pos sq,if_pos rfl];simp
      ·rw[if_pos (by rw[hd];omega),if_neg q,List.getElem?_drop];congr 1;omega
set_option maxHeartbeats 1000000 in
def LS(L:Lays2.n21 P ρ)(p:Option Addr)(cap:Nat)(l:List Int)(i:Nat)(hi:i<=l.length)(x:Int)(vb:Nat)(e2:TypeId)(hl:l.length<=1000000):Spec P (ρ.f 21) [.slice p l.length cap,.int .i64 i,.slice (some ⟨vb,0,none⟩) 1 1] [dy p cap (ρ.t 3) l,.row (.slice (some ⟨vb,0,none⟩) 1 1) e2 1 1 [.int .i64 x]] (fun v H1=>∃ p' cU,v= .slice p' (l.length+1) cU/\H1=[.row (.slice p' (l.length+1) cU) (ρ.t 3) 1 (l.length+1) (fS (l.insertIdx i x)),.row (.slice (some ⟨vb,0,none⟩) 1 1) e2 1 1 [.int .i64 x]]):=by
 intro w hw;have ib:(dy p cap (ρ.t 3) l).holds w:=hw.1 _ sq;have Tw:(aG.row (.slice (some ⟨vb,0,none⟩) 1 1) e2 1 1 [.int .i64 x]).holds w:=hw.1 _ sq;obtain⟨XK,q1,_,_,q4,q5⟩:=oJ Tw;have XL:∀ j v,([.int .i64 x]:List Value)[j]? =some v->w.cell? ⟨vb,0+j,none⟩=some v:=fun j v hj=>cell_of_row Tw hj;have XN:∀ v∈([.int .i64 x]:List Value),v.oneCell'=true:=fun v hv=>by
  simp only[List.mem_singleton]at hv;subst hv;rfl
 have abB:fS (l.insertIdx i x)=(fS l).take i++ .int .i64 x::(fS l).drop i:=by
  unfold fS;apply List.ext_getElem?;intro j;rw[qL _ _ _ _ (by simpa using hi),List.getElem?_map,List.getElem?_insertIdx];by_cases c:j<i
  ·rw[if_pos c,if_pos c,List.getElem?_map]
  ·rw[if_neg c,if_neg c];by_cases q:j=i
   ·subst q;rw[if_pos rfl,if_pos rfl,if_pos (by simpa using hi)];rfl
   ·rw[if_neg q,if_neg q,List.getElem?_map]
 have hlen:(fS l).length=l.length:=by simp[fS]
 have fin:∀ {ee:Ending} {w':World} {p':Option Addr} {cU:Nat},ee= .returned (.slice p' (l.length+1) cU)->Left w w' (.slice p l.length cap) (.slice p' (l.length+1) cU) (ρ.t 3) (l.length+1) ((fS l).take i++ .int .i64 x::(fS l).drop i)->
   ∃ v H',ee= .returned v/\(∃ p' cU,v= .slice p' (l.length+1) cU/\H'=[aG.row (.slice p' (l.length+1) cU) (ρ.t 3) 1 (l.length+1) (fS (l.insertIdx i x)),.row (.slice (some ⟨vb,0,none⟩) 1 1) e2 1 1 [.int .i64 x]])/\H'.all aG.wr=true/\XM w (bX [dy p cap (ρ.t 3) l,.row (.slice (some ⟨vb,0,none⟩) 1 1) e2 1 1 [.int .i64 x]]) H' w':=fun he hL=>
  ⟨_,_,he,⟨_,_,rfl,rfl⟩,rfl,by rw[abB];exact hL.xm hw⟩
 have hzero:∀ k,(Builtin.zeroCells (Value.int .i64 0).cells k).size=k:=fun k=>by rw[size_zeroCells];simp[Value.cells]
 have grown:∀ (w':World) (C:Nat) (cur:Array Value),gW w w' (fun _ _=>False)->w'.heap[w.heap.size]? =some (.cells cur (ρ.t 3) (0,0))->l.length+1<=C->C<=maxLen->cur.size=C->(∀ j,j<l.length+1->cur[j]? =((fS l).take i++ .int .i64 x::(fS l).drop i)[j]?)->
   Left w w' (.slice p l.length cap) (.slice (some ⟨w.heap.size,0,none⟩) (l.length+1) C) (ρ.t 3) (l.length+1) ((fS l).take i++ .int .i64 x::(fS l).drop i):=fun w' C cur a1 a2 a3 a4 a5 a6=>FG a1 a2 a3 a4 a5 hlen hi a6
 have xM:i=l.length->cap<l.length+1->l.length<=cap->(p=none->l.length=0)->(∀ a,p=some a->∀ j v,(fS l)[j]? =some v->w.cell? (a.add j)=some v)->Calls P (ρ.f 21) #[.slice p l.length cap,.int .i64 i,.slice (some ⟨vb,0,none⟩) 1 1] w fun e w'=>∃ v H',e= .returned v/\(∃ p' cU,v= .slice p' (l.length+1) cU/\H'=[aG.row (.slice p' (l.length+1) cU) (ρ.t 3) 1 (l.length+1) (fS (l.insertIdx i x)),.row (.slice (some ⟨vb,0,none⟩) 1 1) e2 1 1 [.int .i64 x]])/\H'.all aG.wr=true/\XM w (bX [dy p cap (ρ.t 3) l,.row (.slice (some ⟨vb,0,none⟩) 1 1) e2 1 1 [.int .i64 x]]) H' w':=by
  intro Tx lT Hc XP BU;subst Tx;refine(Any2.slices_Insert_int_end_grow L p l.length cap vb 0 1 1 (fS l) [.int .i64 x] w og Hc lT og hlen rfl XP BU XL XN).mono fun ee w' ⟨he,dZ⟩=> ?_;subst dZ;have LK:=grownCap_ge w (l.length+1) cap (ρ.t 3);have PW:grownCap w (l.length+1) cap (ρ.t 3)<=maxLen:=grownCap_le_maxLen w (l.length+1) cap (ρ.t 3) (by simp only[maxLen];omega);refine fin he (grown _ _ _ (uX (j8 w.drew _ _)) (heap_alloc_new w.drew _) LK PW ?_ fun j hj=> ?_)
  ·rw[Array.size_append,hzero];simp[hlen];omega
  ·rw[Array.getElem?_append_left (by simp[hlen];omega),List.getElem?_toArray,List.take_of_length_le og,List.drop_of_length_le og]
 rcases qK ib with⟨rfl,rfl,hk,hx⟩ | ⟨g,cur,rfl,h1,h2,h3,h4,h5,h6⟩
 ·exact xM og og og (fun _=>hk) fun a ha=>by cases ha
 ·have gY:vb≠g:=fun e=>by
   have hp:=List.pairwise_cons.1 hw.2;exact hp.1 (aG.row (.slice (some ⟨vb,0,none⟩) 1 1) e2 1 1 [.int .i64 x]) sq rfl g 0 rfl (by simp only[aG.gp,Value.ownBlock];rw[e])
  have BU:∀ j v,(fS l)[j]? =some v->w.cell? ⟨g,0+j,none⟩=some v:=fun j v hj=>cell_of_row ib hj;have h1c:∀ v∈fS l,v.oneCell'=true:=fun v hv=>by
   obtain⟨y,_,rfl⟩:=List.mem_map.1 hv;rfl
  have Hd:cap<=9223372036854775807:=by simp only[maxLen]at h3;omega
  by_cases lT:l.length+1<=cap
  ·by_cases Tx:i=l.length
   ·subst Tx;refine(Any2.slices_Insert_int_end_room L g 0 l.length cap vb 0 1 1 [.int .i64 x] w og lT Hd rfl (fun j hj=>xL h1) (fun j _=>iH h1 _) XL XN).mono fun ee w' ⟨he,dZ⟩=> ?_;subst dZ;have hL:=rS (i:=l.length) (x:=.int .i64 x) h1 lT h3 h4 h6 h5 og 0;rw[List.drop_of_length_le (show(fS l).length<=l.length by omega)]at hL;rw[List.drop_of_length_le (show(fS l).length<=l.length by omega)]at fin;exact fin he hL
   ·refine(Any2.slices_Insert_int_shift L g 0 l.length cap i vb 0 1 1 (fS l) [.int .i64 x] w og og lT Hd gY hlen rfl BU (fun j hj=>xL h1) (fun j _=>iH h1 _) XL h1c XN e2 (ρ.t 3) XK.size cur.size
     (by simp[World.shape?,q1]) (by simp[World.shape?,h1]) og (iH q1 _) (iH q1 _)).mono fun ee w' ⟨he,dZ⟩=> ?_
    subst dZ;exact fin he (rS (i:=i) (x:=.int .i64 x) h1 lT h3 h4 h6 h5 og 1)
  ·by_cases Tx:i=l.length
   ·refine xM Tx og h2 (fun q=>by cases q) (fun a ha j v hj=> ?_);obtain rfl:a=⟨g,0,none⟩:=(Option.some.inj ha).symm;have:=BU j v hj;have e0:(⟨g,0,none⟩:Addr).add j=⟨g,0+j,none⟩:=by cases j<;>simp[Addr.add]
    rw[e0];exact this
   ·refine(Any2.slices_Insert_int_grow L g 0 l.length cap i vb 0 1 1 (fS l) [.int .i64 x] w og og h2 og og hlen rfl BU XL h1c XN).mono fun ee w' ⟨he,dZ⟩=> ?_;have LK:=grownCap_ge w (l.length+1) cap (ρ.t 3);have PW:grownCap w (l.length+1) cap (ρ.t 3)<=maxLen:=grownCap_le_maxLen w (l.length+1) cap (ρ.t 3) (by simp only[maxLen];omega);generalize hA:((fS l).take i).toArray++Builtin.zeroCells (Value.int .i64 0).cells (l.length+1-i)++Builtin.zeroCells (Value.int .i64 0).cells (grownCap w (l.length+1) cap (ρ.t 3)-(l.length+1))=A0 at dZ;have hAs:A0.size=grownCap w (l.length+1) cap (ρ.t 3):=by
     rw[<-hA,Array.size_append,Array.size_append,hzero,hzero];simp[hlen];omega
    have b0:(w.alloc (.cells A0 (ρ.t 3))).drew.heap[w.heap.size]? =some (.cells A0 (ρ.t 3) (0,0)):=heap_alloc_new w _;have b1:=eD [.int .i64 x] i _ _ b0;have b2:(((w.alloc (.cells A0 (ρ.t 3))).drew.setCells w.heap.size i [.int .i64 x]).drew).heap[w.heap.size]? =_:=b1;have b3:=eD ((fS l).drop i) (i+1) _ _ b2;subst dZ;refine fin he (grown _ _ _ ?_ b3 LK PW (by rw[iX,iX,hAs]) fun j hj=> ?_)
    ·have k0:gW w (w.alloc (.cells A0 (ρ.t 3))).drew (fun _ _=>False):=by
      have:=j8 w (.cells A0 (ρ.t 3)) fun _ _=>False;exact⟨this.os,this.tape,this.output,this.size,this.same,this.part⟩
     have k1:=gy (S:=fun b _=>b=w.heap.size) (fun _=>rfl) [.int .i64 x] i _ _ b0;have k1':gW (w.alloc (.cells A0 (ρ.t 3))).drew (((w.alloc (.cells A0 (ρ.t 3))).drew.setCells w.heap.size i [.int .i64 x]).drew) (fun b _=>b=w.heap.size):=⟨k1.os,k1.tape,k1.output,k1.size,k1.same,k1.part⟩;have k2:=gy (S:=fun b _=>b=w.heap.size) (fun _=>rfl) ((fS l).drop i) (i+1) _ _ b2;exact k0.trans (k1'.trans k2 (fun _ _ q _=>q) fun _ _ q _=>q) (fun _ _ q _=>q) fun y o q hy=>og
    ·have hd:((fS l).drop i).length=l.length-i:=by simp[hlen]
     rw[qL _ _ _ _,pT _ _ _ _ (by rw[iX,hAs,hd];omega),pT _ _ _ _ (by rw[hAs];simp;omega)];by_cases c:j<i
     ·rw[if_neg og,if_neg eW,if_pos c,<-hA,Array.getElem?_append_left (by rw[Array.size_append,hzero];simp[hlen];omega),Array.getElem?_append_left (by simp[hlen];omega),List.getElem?_toArray,List.getElem?_take_of_lt c]
     ·rw[if_neg c];by_cases q:j=i
      ·subst q;rw[if_neg og,if_pos sq,if_pos rfl];simp
      ·rw[if_pos (by rw[hd];omega),if_neg q,List.getElem?_drop];congr 1;omega
def bsS(l:List ByteArray)(x:ByteArray):Nat:=Lib.bsGo (fun t=>Op.bytesLess (l.getD t ByteArray.empty).toList x.toList) l.length 0 l.length
def Jf(l:List ByteArray)(x:ByteArray):Bool:=decide (bsS l x<l.length/\l.getD (bsS l x) ByteArray.empty=x)
theorem xN{l:List ByteArray}(h:j<l.length):(strs l)[j]? =some (.string (l.getD j ByteArray.empty)):=by simp[strs,List.getD,h]
def Ty{l:List Int}(h:j<l.length):(fS l)[j]? =some (.int .i64 (l.getD j 0)):=by simp[fS,List.getD,h]
def LU(L:Lays2.n26 P ρ)(p:Option Addr)(cap:Nat)(e:TypeId)(l:List ByteArray)(x:ByteArray)(hl:l.length<=1000000):Spec P (ρ.f 26) [.slice p l.length cap,.string x] [j9 p cap e l] (fun v H1=>v= .tuple #[.int .i64 (bsS l x),.bool (Jf l x)]/\H1=[j9 p cap e l]):=by
 intro w hw;have ib:(j9 p cap e l).holds w:=hw.1 _ sq;have nil:l=[]->Calls P (ρ.f 26) [.slice p l.length cap,.string x].toArray w fun ee w'=>∃ v H',ee= .returned v/\(v= .tuple #[.int .i64 (bsS l x),.bool (Jf l x)]/\H'=[j9 p cap e l])/\H'.all aG.wr=true/\XM w (bX [j9 p cap e l]) H' w':=fun h=>by
  subst h;refine(Any2.slices_BinarySearch_string_empty L p cap x w).mono fun ee w' ⟨he,dZ⟩=>⟨_,_,he,⟨rfl,rfl⟩,rfl,?_⟩;subst dZ;exact kW hw
 rcases qK ib with⟨rfl,rfl,hk,hx⟩ | ⟨g,cur,rfl,h1,h2,h3,h4,h5,h6⟩
 ·exact nil (List.eq_nil_of_length_eq_zero hk)
 ·refine(Any2.slices_BinarySearch_string L g 0 l.length cap (fun t=>l.getD t ByteArray.empty) x w og fun j hj=>cell_of_row ib (xN hj)).mono fun ee w' ⟨he,q,dZ⟩=>⟨_,_,he,⟨rfl,rfl⟩,rfl,?_⟩;subst dZ;exact(kW hw).drawn q
def Jg{q:Nat}{e:TypeId}{ys:List Value}(h1:w.heap[g]? =some (.cells cur e (0,0)))(h2:k<=cap)(h3:cap<=maxLen)(h4:cur.size=cap)(h6:xs.length=k)(hi:i<k)(hy:ys.length=k)(ht:ys.take (k-1)=xs.eraseIdx i):Left w ((w.drewN q).setCells g 0 ys) (.slice (some ⟨g,0,none⟩) k cap) (.slice (some ⟨g,0,none⟩) (k-1) cap) e (k-1) (xs.eraseIdx i):=by
 have a0:(w.drewN q).heap[g]? =some (.cells cur e (0,0)):=h1;have a1:=eD ys 0 _ _ a0;have hl:(xs.eraseIdx i).length=k-1:=by rw[List.length_eraseIdx,if_pos og,h6]
 refine⟨⟨by rw[hl];omega,.inr ⟨g,cap,_,rfl,Nat.zero_le _,a1,og,h3,by rw[iX,h4];omega,?_⟩⟩,?_,fun b hb=>.inl hb⟩
 ·rw[<-ht,Nat.mul_one];apply List.ext_getElem?;intro j;by_cases hj:j<k-1
  ·rw[List.getElem?_take_of_lt hj,List.getElem?_take_of_lt hj,Array.getElem?_toList,pT _ _ _ _ og,if_pos og,Nat.sub_zero]
  ·rw[List.getElem?_take_eq_none og,List.getElem?_take_eq_none og]
 ·have k1:gW w (w.drewN q) (fun b _=>(Value.slice (some ⟨g,0,none⟩) k cap).ownBlock=some b):=⟨rfl,rfl,rfl,Nat.le_refl _,fun _ _ _=>rfl,fun _ A _ _ h=>⟨A,h,rfl,fun _ _=>rfl⟩⟩;exact k1.trans (gy (S:=fun b _=>(Value.slice (some ⟨g,0,none⟩) k cap).ownBlock=some b) (fun _=>rfl) ys 0 _ _ a0) (fun _ _ q _=>q) fun _ _ q _=>q
def LV(L:Lays2.n23 P ρ)(p:Option Addr)(cap:Nat)(l:List Int)(i:Nat)(hi:i<l.length)(e:TypeId)(hl:l.length<=1000000):Spec P (ρ.f 23) [.slice p l.length cap,.int .i64 i,.int .i64 (i+1)] [dy p cap e l] (fun v H1=>v= .slice p (l.length-1) cap/\H1=[.row (.slice p (l.length-1) cap) e 1 (l.length-1) (fS (l.eraseIdx i))]):=by
 intro w hw;have ib:(dy p cap e l).holds w:=hw.1 _ sq;rcases qK ib with⟨rfl,rfl,hk,hx⟩ | ⟨g,cur,rfl,h1,h2,h3,h4,h5,h6⟩
 ·omega
 ·have Hd:cap<=9223372036854775807:=by simp only[maxLen]at h3;omega
  refine(Any.slices_Delete_int_cells L g 0 l.length cap i (i+1) l w (Nat.le_refl _) h2 Hd og og (fun j hj=>cell_of_row ib (Ty hj)) fun j _=>iH h1 _).mono fun ee w' ⟨he,q,dZ⟩=>⟨_,_,(by rw[he];congr 2;omega),⟨rfl,rfl⟩,rfl,?_⟩;subst dZ;have LW:fS (l.eraseIdx i)=(fS l).eraseIdx i:=by unfold fS;simp[List.eraseIdx_eq_take_drop_succ,List.map_take,List.map_drop]
  rw[LW];refine Left.xm (Jg h1 h2 h3 h4 (by simp[fS]) hi ?_ ?_) hw
  ·simp;omega
  ·rw[<-LW,List.take_length,List.eraseIdx_eq_take_drop_succ];unfold fS;rw[<-List.map_take,List.take_append_of_le_length eW,List.take_of_length_le eW]
def EU(L:Lays2.n24 P ρ)(p:Option Addr)(cap:Nat)(l:List ByteArray)(i:Nat)(hi:i<l.length)(e:TypeId)(hl:l.length<=1000000):Spec P (ρ.f 24) [.slice p l.length cap,.int .i64 i,.int .i64 (i+1)] [j9 p cap e l] (fun v H1=>v= .slice p (l.length-1) cap/\H1=[.row (.slice p (l.length-1) cap) e 1 (l.length-1) (strs (l.eraseIdx i))]):=by
 intro w hw;have ib:(j9 p cap e l).holds w:=hw.1 _ sq;rcases qK ib with⟨rfl,rfl,hk,hx⟩ | ⟨g,cur,rfl,h1,h2,h3,h4,h5,h6⟩
 ·omega
 ·have Hd:cap<=9223372036854775807:=by simp only[maxLen]at h3;omega
  refine(Any.slices_Delete_string_cells L g 0 l.length cap i (i+1) (fun t=>l.getD t ByteArray.empty) w h2 Hd og og (fun j hj=>cell_of_row ib (xN hj)) fun j _=>iH h1 _).mono fun ee w' ⟨he,q,dZ⟩=>⟨_,_,(by rw[he];congr 2;omega),⟨rfl,rfl⟩,rfl,?_⟩;subst dZ;have LW:strs (l.eraseIdx i)=(strs l).eraseIdx i:=by unfold strs;simp[List.eraseIdx_eq_take_drop_succ,List.map_take,List.map_drop]
  have hso:(Lib.strsOf (fun t=>l.getD t ByteArray.empty) l.length).map encStr=strs l:=by
   apply List.ext_getElem?;intro j;by_cases hj:j<l.length
   ·rw[xN hj];simp[Lib.strsOf,hj,encStr]
   ·rw[List.getElem?_eq_none (by simp[Lib.strsOf];omega),List.getElem?_eq_none (by simp[strs];omega)]
  have CG:=Lib.strsOf_length (fun t=>l.getD t ByteArray.empty) l.length;generalize Lib.strsOf (fun t=>l.getD t ByteArray.empty) l.length=Z at hso CG ⊢;rw[LW];refine Left.xm (Jg h1 h2 h3 h4 (by simp[strs]) hi ?_ ?_) hw
  ·simp[CG];omega
  ·rw[List.eraseIdx_eq_take_drop_succ,<-hso,<-List.map_take,List.take_append_of_le_length (by simp[CG];omega),List.take_of_length_le (by simp[CG];omega)];simp[List.map_take,List.map_drop]
def P7{base:Nat}{e:TypeId}{sz n:Nat}{v:Value}(h:w.ownsRow base e sz v n xs):w.ownsRow 0 e sz v n xs:=
 ⟨h.1,h.2.imp id fun ⟨g,cap,cur,h1,_,h2⟩=>⟨g,cap,cur,h1,Nat.zero_le _,h2⟩⟩
def He(L:Lays2.n16 P ρ)(p:Option Addr)(cap:Nat)(e:TypeId)(l:List ByteArray)(hl:l.length<=1000000):Spec P (ρ.f 16) [.slice p l.length cap] [j9 p cap e l] (fun v H1=>∃ p' cU,v= .slice p' l.length cU/\H1=[j9 p' cU (ρ.t 9) l,j9 p cap e l]):=by
 intro w hw;have ib:(j9 p cap e l).holds w:=hw.1 _ sq;rcases qK ib with⟨rfl,rfl,hk,hx⟩ | ⟨g,cur,rfl,h1,h2,h3,h4,h5,h6⟩
 ·have hn:=List.eq_nil_of_length_eq_zero hk;subst hn;refine(Any.slices_Clone_string_nil L 0 0 w).mono fun ee w' ⟨he,dZ⟩=>⟨_,_,he,⟨_,_,rfl,rfl⟩,rfl,?_⟩;subst dZ;exact(kW hw).fH _ _
 ·refine(Any.slices_Clone_string L g 0 l.length cap l w (Nat.le_refl _) og fun j hj=>cell_of_row ib (xN hj)).mono fun ee w' ⟨v',he,abD,hnn,hb⟩=> ?_;rcases abD.2 with⟨hv,_⟩ | ⟨g2,wD,XK,rfl,hg2,rest⟩
  ·exact absurd hv hnn
  ·rw[List.take_length]at abD;refine⟨_,_,he,⟨_,_,rfl,rfl⟩,rfl,(kW hw).fresh (fun b o Cy=>by simp only[aG.gp,Value.ownBlock,Option.some.injEq]at Cy;omega) ?_ (P7 abD)⟩;exact⟨hb.os,hb.tape,hb.output,hb.size,fun b Cy _=>hb.block b Cy,fun b A t fz hA=>⟨A,by rw[hb.block b (dH hA)];exact hA,rfl,fun _ _=>rfl⟩⟩
end
end Go.X

namespace Go.X
open Go Go.Proofs
variable{x y:Operand}
def CH(P:Program)(t:TypeId):Bool:=match P.underlying t with
 | some (.slice e)=>(match P.underlying e with
   | some (.int .u8)=>true
   | _=>false)&&(match P.info? e with
   | some i=>Nat.beq i.size 1&&Nat.ble i.bytes 1000&&(match i.zero with
     | some (.int .u8 z)=>decide (z=0)
     | _=>false)
   | none=>false)
 | _=>false
def rU{P:Program}{t:TypeId}(h:CH P t=true):∃ e i,P.underlying t=some (.slice e)/\P.underlying e=some (.int .u8)/\P.info? e=some i/\i.size=1/\i.bytes<=1000/\i.zero=some (.int .u8 0):=by
 unfold CH at h;split at h
 ·rename_i e ht;simp only[Bool.and_eq_true]at h;obtain⟨h1,h2⟩:=h;split at h1
  ·rename_i he;split at h2
   ·rename_i i hi;simp only[Bool.and_eq_true]at h2;obtain⟨⟨h3,h4⟩,h5⟩:=h2;split at h5
    ·rename_i z hz;have:z=0:=of_decide_eq_true h5;subst this;exact⟨e,i,ht,he,hi,Nat.eq_of_beq_eq_true h3,Nat.le_of_ble_eq_true h4,hz⟩
    ·cases h5
   ·cases h2
  ·cases h1
 ·cases h
def bv(b:UInt8):Value:=.int .u8 (b.toNat:Int)
section
variable {P:Program} {n:Fr} {Q:Exit->Act->World->Prop} {L:PF} {ops:Md} {rest:List Oper} {ty:TypeId} {pos:String} {af:Array Edge} {d:Nat} {W:World} {S:Nat->Nat->Prop} {H H':List aG} {φ:World->Prop} {gd:Option (Nat×Bool)}
def XO.P8{t:TypeId}{kl kc:IntKind}{l:Int}(hx:ev L x=some (.int kl l))(hy:ev L y=some (.int kc l))(hl:0<=l/\l<=1000000)(ht:CH P t=true)(hd:Nat.blt d n.sz=true)(h:∀ b,XO P n ops Q rest ((d,.slice (some ⟨b,0,none⟩) l.toNat l.toNat)::L) (XM W S (.cells b 0 l.toNat (fun _=>bv 0)::H))):XO P n ops Q (⟨some d,.makeSlice t x y,ty,pos,af,none⟩::rest) L (XM W S H):=
 XO.op rfl fun a w ha hw=>by
  obtain⟨e,i,h1,h2,h3,h4,h5,h6⟩:=rU ht;have Sm:(madeCells (Value.int .u8 0).cells (l.toNat*i.size)).size=l.toNat:=by rw[size_madeCells,h4,Nat.mul_one]
  have mK:=hw.alloc (madeCells (Value.int .u8 0).cells (l.toNat*i.size)) e (fun _=>bv 0) (fun j hj=>by
   have hc:(Value.int IntKind.u8 0).cells= #[Value.int .u8 0]:=rfl
   rw[size_madeCells]at hj
   unfold madeCells
   rw[hc,Array.getElem?_map,Array.getElem?_range,if_pos hj]
   simp[bv,Nat.mod_one])
  rw[Sm]at mK;have hb:(i.bytes:Int)*l<=281474976710656:=by
   have:(i.bytes:Int)*l<=1000*1000000:=Int.mul_le_mul og hl.2 hl.1 og;omega
  have hr:=run_make (P:=P) w t e i _ h1 h3 h6 kl kc l l hl.1 (Int.le_refl _) hb og;unfold Oper.wp;have:(execOp a.eval ⟨some d,.makeSlice t x y,ty,pos,af,none⟩).run P w= .ok (.value (.slice (some ⟨w.heap.size,0,none⟩) l.toNat l.toNat)) (w.alloc (.cells (madeCells (Value.int .u8 0).cells (l.toNat*i.size)) e)):=by
   simp[execOp,av ha hx,av ha hy,hr]
  rw[this];exact h _ _ _ (ha.put hd _) mK
def XO.N5{dT sT:TypeId}{b m k c o:Nat}{s:ByteArray}{C C':Nat->Value}(hx:ev L x=some (.slice (some ⟨b,o,none⟩) k c))(hy:ev L y=some (.string s))(ht:CH P dT=true)(hk:s.size<=k)(ho:o+s.size<=m)(hH:ou H (.cells b 0 m C) (.cells b 0 m C') H')(hC:cD C o (s.data.toList.map bv)=C')(hd:Nat.blt d n.sz=true)(h:XO P n ops Q rest ((d,.int .i64 (s.size:Int))::L) (XM W S H')):XO P n ops Q (⟨some d,.call ⟨.builtin .copy,#[x,y],#[dT,sT]⟩,ty,pos,af,none⟩::rest) L (XM W S H):=
 XO.op rfl fun a w ha hw=>by
  obtain⟨e,i,h1,h2,h3,h4,h5,h6⟩:=rU ht;obtain⟨H1,hdl,hp⟩:=hH.del;have hlen:(s.data.toList.map bv).length=s.size:=by rw[List.length_map,<-ByteArray.size_data];simp
  obtain⟨w',hr,mK⟩:=lS (P:=P) (s.data.toList.map bv) o 0 C w (hw.cb hdl.cb) (by rw[hlen];omega) (by
   rw[List.all_eq_true]
   intro v hv
   simp only[List.mem_map]at hv
   obtain⟨u,_,rfl⟩:=hv
   rfl)
  simp only[Nat.add_zero,Nat.zero_add]at mK hr;rw[hC]at mK;unfold Oper.wp;have XT:Nat.min s.size k=s.size:=Nat.min_eq_left hk;have htk:List.take s.size (List.map (fun b:UInt8=>Value.int IntKind.u8 (b.toNat:Int)) s.data.toList)=s.data.toList.map bv:=by
   rw[List.take_of_length_le (by rw[List.length_map,<-ByteArray.size_data];simp)];rfl
  have:(execOp a.eval ⟨some d,.call ⟨.builtin .copy,#[x,y],#[dT,sT]⟩,ty,pos,af,none⟩).run P w= .ok (.value (.int .i64 (s.size:Int))) w':=by
   simp[execOp,resolve,invoke,builtin,av ha hx,av ha hy,Builtin.copy_,run_underlying h1,Builtin.lenOf,Builtin.firstCells,sizeOf,typeInfo,h3,XT];rw[htk,hr];simp[Result.andThen,goInt]
  rw[this];exact h _ _ (ha.put hd _) (mK.cb hp)
def P9{t:TypeId}{b m c:Nat}{kk:IntKind}{z:Int}(hx:ev L x=some (.slice (some ⟨b,0,none⟩) m c))(hy:ev L y=some (.int kk z))(ht:CH P t=true)(hz:0<=z/\z<m/\m<=c):bd P n L φ ⟨some d,.slice t x (some y) none none,ty,pos,af,gd⟩ (.slice (some ⟨b,z.toNat,none⟩) (m-z.toNat) (c-z.toNat)):=fun a w ha _=>by
 obtain⟨e,i,h1,h2,h3,h4,h5,h6⟩:=rU ht;obtain⟨k,rfl⟩:∃ k:Nat,z=(k:Int):=⟨z.toNat,og⟩;have hs:fp P e=some 1:=by unfold fp;rw[h3];simp[h4]
 have hk1:k<=m:=og;have BV:¬c-k=0:=og;simp[execOp,av ha hx,av ha hy,Instr.sliceAt,run_underlying h1,Instr.slice,Instr.sliceBounds,Instr.sliceBound,asIntOf,hk1,run_sizeOf hs,BV,Addr.add,hz.2.2];rw[if_neg og];split
 ·rename_i q;rw[q]
 ·rfl
def XU{s t:TypeId}{b m k c:Nat}{C:Nat->Value}{B:ByteArray}(hx:ev L x=some (.slice (some ⟨b,0,none⟩) k c))(hk:k=B.size)(hH:∀ w,φ w->(aG.cells b 0 m C).holds w)(hC:B.size<=m/\∀ (i:Nat) (h:i<B.size),C i=bv B[i])(hs:CH P s=true)(ht:P.underlying t=some .string):bd P n L φ ⟨some d,.convert s t x,ty,pos,af,gd⟩ (.string B):=fun a w ha hw=>by
 subst hk;obtain⟨e,i,h1,h2,h3,h4,h5,h6⟩:=rU hs;have hb:Go.Lib.Bytes w b 0 B:=fun j hj=>by
  have:=ef (hH w hw) (i:=j);rw[this,hC.2 j hj];rfl
 have hr:=Go.Lib.run_convert_whole (P:=P) w s e t h1 h2 ht b 0 B hb c;simp[execOp,av ha hx,hr]
end
end Go.X
