import Derived.Test.YthdinakloheinaaGreatDoorXRun
import Derived.Shelf.Slices.Cells
import Derived.Shelf.Slices.Empties
import Derived.Shelf.Slices.Clone
import Derived.Shelf.Spec.SearchS
import Derived.Shelf.Spec.SlicesInsertGrow
import Derived.Laws.MakeOwn
import Derived.Lib.SlBytesRow
set_option linter.all false
namespace Go.X
open Go
variable{fn:Func}{p:Option Addr}
class Rf(v:Value)(s:outParam SV):Prop where
 h:(aQ s)=v
class RfW(v:Value)(s:outParam SW):Prop where
 h:(aR s)=v
class RfA(l:List Value)(r:outParam (List SV)):Prop where
 h:bH r=l
class QA(L:PF)(r:outParam SF):Prop where
 h:dn r=L
instance(priority:=low)(v:Value):Rf v (.val v):=⟨rfl⟩
instance(k:IntKind)(z:Int):Rf (.int k z) (.int k z):=⟨rfl⟩
instance(s:ByteArray):Rf (.string s) (.str s):=⟨rfl⟩
instance(b o i:Nat):Rf (ay b o i) (.ay b o i):=⟨rfl⟩
instance:Rf .nilIface .nil:=⟨rfl⟩
instance(T:TypeId)(e:Int):Rf (ax T e) (.err T e):=⟨rfl⟩
instance(T:TypeId)(v:Value):Rf (.iface T v) (.ifc T v):=⟨rfl⟩
instance:Rf (.pointer none) .pn:=⟨rfl⟩
instance(priority:=high):Rf (.bool true) .tt:=⟨rfl⟩
instance(priority:=high):Rf (.bool false) .ff:=⟨rfl⟩
instance(p:Prop)(i:Decidable p):Rf (.bool (@decide p i)) (@SV.Qv p i):=⟨rfl⟩
instance(priority:=900)(b:Bool):Rf (.bool b) (.bool b):=⟨rfl⟩
instance(p:Option Addr)(n c:Nat):Rf (.slice p n c) (.slc p n c):=⟨rfl⟩
instance:Rf undef .un:=⟨rfl⟩
instance(priority:=high)(s:SV):Rf (aQ s) s:=⟨rfl⟩
instance(priority:=low)(v:Value)(s:SV)[h:Rf v s]:RfW v (.one s):=⟨h.h⟩
instance:RfA [] []:=⟨rfl⟩
instance(v:Value)(s:SV)(l:List Value)(r:List SV)[h:Rf v s][k:RfA l r]:RfA (v::l) (s::r):=⟨by rw[bH,h.h,k.h]⟩
instance(l:List Value)(r:List SV)[h:RfA l r]:RfW (.tuple l.toArray) (.tup r):=⟨by rw[aR,h.h]⟩
instance(priority:=high)(s:SW):RfW (aR s) s:=⟨rfl⟩
instance:QA [] []:=⟨rfl⟩
instance(i:Nat)(v:Value)(s:SW)(L:PF)(r:SF)[h:RfW v s][k:QA L r]:QA ((i,v)::L) ((i,s)::r):=⟨by rw[dn,h.h,k.h]⟩
instance(priority:=high)(r:SF):QA (dn r) r:=⟨rfl⟩
instance(i:Nat):QA (pT i []) []:=⟨rfl⟩
instance(i:Nat)(v:Value)(s:SW)(l:List Value)(r:SF)[h:RfW v s][k:QA (pT (i+1) l) r]:QA (pT i (v::l)) ((i,s)::r):=⟨by rw[dn,h.h,k.h];rfl⟩
section
variable{P:Program}{n:Fr}{Q0:Exit->Act->World->Prop}{M M':World->Prop}{K:List Fm}{L:SF}{L':PF}{md:Md}{l:List Oper}{c a b:Code}
def gO[Tb P][h:QA L' L](k:iB P n Q0 M 3000 K (.o md l) L):XO P n md (lJ P Q0 K) l L' M:=by
 rw[<-h.h];exact cK _ _ (.o _ _) _ k
def gC[Tb P][h:QA L' L](k:iB P n Q0 M 3000 K (.c c) L):XC P n c (lJ P Q0 K) L' M:=by
 rw[<-h.h];exact cK _ _ (.c _) _ k
def gE[Tb P]{x:Exit}[h:QA L' L](k:iB P n Q0 M 3000 K (.e x) L):XE n (lJ P Q0 K) x L' M:=by
 rw[<-h.h];exact cK _ _ (.e _) _ k
theorem gS[Tb P](k:iB P n Q0 M 3000 (.sq b::K) (.c a) L):XC P n (.seq a b) (lJ P Q0 K) (dn L) M:=XC.seq (cK _ _ (.c _) _ k)
def Spec.go[Tb P]{f:FuncId}{args:List Value}{pre:List aG}{post:Value->List aG->Prop}(k:Nat)(ps:List Nat)(cs:List (Nat×Nat))(hf:P.funcs[f]? =some fn)[r:QA (pT 0 args) L](h:∀ W,iB P (fr k ps cs) (bodyPost P fn fun e w'=>∃ v H',e= .returned v/\post v H'/\H'.all aG.wr=true/\XM W (cx pre) H' w') (XM W (cx pre) pre) 3000 [] (.c c) L)(hb:fn.body=some c:=by exact rfl)(hk:fn.ntmps=k:=by exact rfl)(hn:Nat.ble args.length fn.ntmps=true:=by exact rfl):Spec P f args pre post:=by
 subst hk;intro w hg;refine enter (ps:=ps) (cs:=cs) hf hb hn ?_ (lK hg);rw[<-r.h];exact cK _ [] (.c _) _ (h w)
def Spec.g[Tb P]{f:FuncId}{args:List Value}{pre:List aG}{post:Value->List aG->Prop}(k:Nat)(ps:List Nat)(hf:P.funcs[f]? =some fn)[r:QA (pT 0 args) L](h:∀ W,iB P (fr k ps []) (bodyPost P fn fun e w'=>∃ v H',e= .returned v/\post v H'/\H'.all aG.wr=true/\XM W (cx pre) H' w') (XM W (cx pre) pre) 3000 [] (.c c) L)(hb:fn.body=some c:=by exact rfl)(hk:fn.ntmps=k:=by exact rfl)(hn:Nat.ble args.length fn.ntmps=true:=by exact rfl):Spec P f args pre post:=Spec.go k ps [] hf h hb hk hn
def rq[Tb P]{i:Nat}{os:List Oper}{W:World}{S:Nat->Nat->Prop}{H:List aG}(r:List Nat)(hm:P.follows .mixedOrders=true)(k:iB P n Q0 (XM W S H) 3000 K (.o (.op os.toArray) (Qm os r)) L)(hz:(zOk os.toArray (Array.replicate os.length false) r&&Nat.beq r.length os.length&&r.all (Nat.blt · os.length))=true:=by kernel_rfl):XC P n (.region i os.toArray true) (lJ P Q0 K) (dn L) (XM W S H):=XC.rq r hm hz (fun w k h=>h.drawn k) (cK _ _ (.o _ _) _ k)
def cd[Tb P]{x:Operand}{p:Prop}{i:Decidable p}(ht:p->iB P n Q0 M 3000 K (.c a) L)(hf:¬p->iB P n Q0 M 3000 K (.c b) L)(hc:ev (dn L) x=some (.bool (@decide p i)):=by exact rfl):XC P n (.cond x a b) (lJ P Q0 K) (dn L) M:=
 XC.Qi hc (fun h=>cK _ _ (.c _) _ (ht h)) fun h=>cK _ _ (.c _) _ (hf h)
def yx[Tb P]{x:Operand}{t:Bool}(ht:t=true->iB P n Q0 M 3000 K (.c a) L)(hf:t=false->iB P n Q0 M 3000 K (.c b) L)(hc:ev (dn L) x=some (.bool t):=by exact rfl):XC P n (.cond x a b) (lJ P Q0 K) (dn L) M:=
 XC.cond hc (fun h=>cK _ _ (.c _) _ (ht h)) fun h=>cK _ _ (.c _) _ (hf h)
def cdT[Tb P]{x:Operand}{p:Prop}{i:Decidable p}(hc:ev (dn L) x=some (.bool (@decide p i)))(h:p)(ht:iB P n Q0 M 3000 K (.c a) L):XC P n (.cond x a b) (lJ P Q0 K) (dn L) M:=Sf hc h (cK _ _ (.c _) _ ht)
def KJ[Tb P]{x:Operand}{p:Prop}{i:Decidable p}(hc:ev (dn L) x=some (.bool (@decide p i)))(h:¬p)(hf:iB P n Q0 M 3000 K (.c b) L):XC P n (.cond x a b) (lJ P Q0 K) (dn L) M:=Si hc h (cK _ _ (.c _) _ hf)
def akL[Tb P]{x:Operand}{t:Bool}(hc:ev (dn L) x=some (.bool t))(h:t=true)(ht:iB P n Q0 M 3000 K (.c a) L):XC P n (.cond x a b) (lJ P Q0 K) (dn L) M:=DP hc h (cK _ _ (.c _) _ ht)
def akM[Tb P]{x:Operand}{t:Bool}(hc:ev (dn L) x=some (.bool t))(h:t=false)(hf:iB P n Q0 M 3000 K (.c b) L):XC P n (.cond x a b) (lJ P Q0 K) (dn L) M:=DQ hc h (cK _ _ (.c _) _ hf)
def sp[Tb P](d:Nat){p:Prop}{i:Decidable p}(hl:lk (dn L) d=some (.bool (@decide p i)))(ht:p->iB P n Q0 M 3000 K (.o md l) ((d,.one .tt)::L))(hf:¬p->iB P n Q0 M 3000 K (.o md l) ((d,.one .ff)::L)):XO P n md (lJ P Q0 K) l (dn L) M:=
 XO.aek hl (fun h=>cK _ _ (.o _ _) ((d,.one .tt)::L) (ht h)) fun h=>cK _ _ (.o _ _) ((d,.one .ff)::L) (hf h)
def UV[Tb P](d:Nat){p:Prop}{i:Decidable p}(ht:p->iB P n Q0 M 3000 K (.o md l) ((d,.one .tt)::L))(hf:¬p->iB P n Q0 M 3000 K (.o md l) ((d,.one .ff)::L))(hl:lk (dn L) d=some (.bool (@decide p i)):=by exact rfl):XO P n md (lJ P Q0 K) l (dn L) M:=sp d hl ht hf
def SG[Tb P](d:Nat){t:Bool}(hl:lk (dn L) d=some (.bool t))(ht:t=true->iB P n Q0 M 3000 K (.o md l) ((d,.one .tt)::L))(hf:t=false->iB P n Q0 M 3000 K (.o md l) ((d,.one .ff)::L)):XO P n md (lJ P Q0 K) l (dn L) M:=
 XO.split hl (fun h=>cK _ _ (.o _ _) ((d,.one .tt)::L) (ht h)) fun h=>cK _ _ (.o _ _) ((d,.one .ff)::L) (hf h)
def SH[Tb P](d:Nat){p:Prop}{i:Decidable p}(hl:lk (dn L) d=some (.bool (@decide p i)))(h:p)(ht:iB P n Q0 M 3000 K (.o md l) ((d,.one .tt)::L)):XO P n md (lJ P Q0 K) l (dn L) M:=XO.ael hl h (cK _ _ (.o _ _) ((d,.one .tt)::L) ht)
def spF[Tb P](d:Nat){p:Prop}{i:Decidable p}(hl:lk (dn L) d=some (.bool (@decide p i)))(h:¬p)(hf:iB P n Q0 M 3000 K (.o md l) ((d,.one .ff)::L)):XO P n md (lJ P Q0 K) l (dn L) M:=XO.aem hl h (cK _ _ (.o _ _) ((d,.one .ff)::L) hf)
def lp{σ:Type}(m:σ->Nat)(V:σ->Prop)(I:σ->PF)(J:σ->World->Prop)(x₀:σ)(hv:V x₀)(h₀:Sub (dn L) (I x₀))(hj:∀ w,M w->J x₀ w)
  (round:∀ x,V x->XC P n c (lJ P Q0 (.th (fun a' w'=>∃ x',m x'<m x/\V x'/\ra n (I x') a'/\J x' w')::K)) (I x) (J x)):XC P n (.loop c) (lJ P Q0 K) (dn L) M:=XC.loop m V I J x₀ hv h₀ hj round
def ag{σ:Type}{m:σ->Nat}{V:σ->Prop}{I:σ->PF}{J:σ->World->Prop}{x:σ}(x':σ)(hm:m x'<m x)(hv:V x')(hs:Sub L' (I x'))(hj:∀ w,M w->J x' w):
  XE n (lJ P Q0 (.th (fun a' w'=>∃ x',m x'<m x/\V x'/\ra n (I x') a'/\J x' w')::K)) .normal L' M:=XE.again x' hm hv hs hj
def ct(K':PF)(M':World->Prop)[Tb P](hc:iB P n Q0 M 3000 (.th (fun a w=>ra n K' a/\M' w)::K) (.c a) L)(hd:XC P n b (lJ P Q0 K) K' M'):XC P n (.seq a b) (lJ P Q0 K) (dn L) M:=XC.cut K' M' (cK _ (_::K) (.c _) _ hc) hd
def mt{K':PF}(hs:Sub L' K')(hm:∀ w,M w->M' w):XE n (lJ P Q0 (.th (fun a w=>ra n K' a/\M' w)::K)) .normal L' M:=aac hs hm
def ctG{σ:Type}(V:σ->Prop)(I:σ->PF)(J:σ->World->Prop)[Tb P](hc:iB P n Q0 M 3000 (.th (fun a w=>∃ x,V x/\ra n (I x) a/\J x w)::K) (.c a) L)(hd:∀ x,V x->XC P n b (lJ P Q0 K) (I x) (J x)):XC P n (.seq a b) (lJ P Q0 K) (dn L) M:=XC.akp V I J (cK _ (_::K) (.c _) _ hc) hd
def oJ{σ:Type}{V:σ->Prop}{I:σ->PF}{J:σ->World->Prop}(x:σ)(hv:V x)(hs:Sub L' (I x))(hj:∀ w,M w->J x w):XE n (lJ P Q0 (.th (fun a w=>∃ x,V x/\ra n (I x) a/\J x w)::K)) .normal L' M:=Vi x hv hs hj
def wl{σ:Type}{W:World}{S:Nat->Nat->Prop}{H F:List aG}(m:σ->Nat)(V:σ->Prop)(I:σ->PF)(R:σ->List aG)(x₀:σ)(hv:V x₀)(hj:cX H (R x₀) F)
  (round:∀ x,V x->XC P n c (lJ P Q0 (.th (fun a' w'=>∃ x',m x'<m x/\V x'/\ra n (I x') a'/\XM W S (R x') w')::K)) (I x) (XM W S (R x)))(h₀:Sub (dn L) (I x₀):=by exact li):XC P n (.loop c) (lJ P Q0 K) (dn L) (XM W S H):=lp m V I (fun x=>XM W S (R x)) x₀ hv h₀ (fun _ q=>XM.pick hj q) round
def wn{σ:Type}{m:σ->Nat}{V:σ->Prop}{I:σ->PF}{W:World}{S:Nat->Nat->Prop}{H F:List aG}{R:σ->List aG}{x:σ}(x':σ)(hm:m x'<m x)(hv:V x')(hj:cX H (R x') F)(hs:Sub L' (I x'):=by exact li):
  XE n (lJ P Q0 (.th (fun a' w'=>∃ x',m x'<m x/\V x'/\ra n (I x') a'/\XM W S (R x') w')::K)) .normal L' (XM W S H):=ag (J:=fun x=>XM W S (R x)) x' hm hv hs fun _ q=>XM.pick hj q
def ww{σ:Type}{W:World}{S:Nat->Nat->Prop}{H:List aG}(V:σ->Prop)(I:σ->PF)(R:σ->List aG)[Tb P](hc:iB P n Q0 (XM W S H) 3000 (.th (fun a w=>∃ x,V x/\ra n (I x) a/\XM W S (R x) w)::K) (.c a) L)(hd:∀ x,V x->XC P n b (lJ P Q0 K) (I x) (XM W S (R x))):XC P n (.seq a b) (lJ P Q0 K) (dn L) (XM W S H):=ctG V I (fun x=>XM W S (R x)) hc hd
def wd{σ:Type}{V:σ->Prop}{I:σ->PF}{W:World}{S:Nat->Nat->Prop}{H F:List aG}{R:σ->List aG}(x:σ)(hv:V x)(hj:cX H (R x) F)(hs:Sub L' (I x):=by exact li):XE n (lJ P Q0 (.th (fun a w=>∃ x,V x/\ra n (I x) a/\XM W S (R x) w)::K)) .normal L' (XM W S H):=oJ (J:=fun x=>XM W S (R x)) x hv hs fun _ q=>XM.pick hj q
end
section
variable{P:Program}{n:Fr}{Q0:Exit->Act->World->Prop}{M M':World->Prop}{K:List Fm}{L:SF}{W:World}{S:Nat->Nat->Prop}{H:List aG}{f:Nat}{s:St}
theorem XR.mono[Tb P](hm:∀ w,M w->M' w)(h:iB P n Q0 M' f K s L):iB P n Q0 M f K s L:=pY hm f K s L h
def bV[Tb P]{k cap sz:Nat}{e:TypeId}{xs:List Value}(hH:lR H (.row (.slice p k cap) e sz k xs))(hk:0<k)(h:∀ g,p=some ⟨g,0,none⟩->iB P n Q0 (XM W S H) f K s L):iB P n Q0 (XM W S H) f K s L:=
 zu (φ:=∃ g,p=some ⟨g,0,none⟩) (fun w hw=>by
  rcases(hw.fB.1 _ hH.mem).2 with⟨_,h0⟩ | ⟨g,dv,cur,hv,_⟩
  ·omega
  ·simp only[Value.slice.injEq]at hv;exact⟨g,hv.1⟩) fun ⟨g,hg⟩=>h g hg
def rW[Tb P]{k cap sz:Nat}{e:TypeId}{xs:List Value}(hH:lR H (.row (.slice p k cap) e sz k xs))
  (h:k<=cap->iB P n Q0 (XM W S H) f K s L):iB P n Q0 (XM W S H) f K s L:=zu (fun w hw=>DY (hw.fB.1 _ hH.mem)) h
def XR.fU[Tb P](e:TypeId)(sz:Nat)(h:iB P n Q0 (XM W S (.row (.slice none 0 0) e sz 0 []::H)) f K s L):iB P n Q0 (XM W S H) f K s L:=pY (fun _ hw=>hw.fU e sz) f K s L h
def SI[Tb P]{k cap sz:Nat}{e:TypeId}{xs:List Value}(hH:lR H (.row (.slice none k cap) e sz k xs))
  (h:k=0->iB P n Q0 (XM W S H) f K s L):iB P n Q0 (XM W S H) f K s L:=zu (fun w hw=>by
 rcases(hw.fB.1 _ hH.mem).2 with⟨_,h0⟩ | ⟨g,dv,cur,hv,_⟩
 ·exact h0
 ·simp at hv) h
def VZ[Tb P]{k cap sz:Nat}{e:TypeId}{xs:List Value}(hH:lR H (.row (.slice p k cap) e sz k xs))(hp:¬p=none)(h:∀ g,p=some ⟨g,0,none⟩->iB P n Q0 (XM W S H) f K s L):iB P n Q0 (XM W S H) f K s L:=
 zu (φ:=∃ g,p=some ⟨g,0,none⟩) (fun w hw=>by
  rcases(hw.fB.1 _ hH.mem).2 with⟨hv,_⟩ | ⟨g,dv,cur,hv,_⟩
  ·simp only[Value.slice.injEq]at hv;exact absurd hv.1 hp
  ·simp only[Value.slice.injEq]at hv;exact⟨g,hv.1⟩) fun ⟨g,hg⟩=>h g hg
end
section
variable{P:Program}{n:Fr}{Q0:Exit->Act->World->Prop}{M:World->Prop}{K:List Fm}{md:Md}{r:List Oper}{L:SF}{W:World}{S:Nat->Nat->Prop}{H H':List aG}
variable{t:TypeId}{d:Nat}{x y:Operand}{ty:TypeId}{pos:String}{af:Array Edge}{b o i k m:Nat}{C C':Nat->Value}{v:Value}{s:SV}
def sd{q R X:Prop}(kk:R)(h:q:=by omega):Sd q R X:=.inl ⟨h,kk⟩
def oV{q R X:Prop}(h:X):Sd q R X:=.inr h
def hd3{t:TypeId}(h:Nat.blt d n.sz=true):(Nat.blt d n.sz&&(!cQ (.load t x)&&isR (.load t x)))=true:=by rw[h];rfl
def oL(h:XO P n md (lJ P Q0 K) (⟨some d,.load t x,ty,pos,af,none⟩::r) (dn L) M):LdG P n Q0 M K md r L t d x ty pos af b o i:=fun _ _ _=>h
def oS(h:XO P n md (lJ P Q0 K) (⟨none,.store t x y,ty,pos,af,none⟩::r) (dn L) M):StG P n Q0 M K md r L t x y ty pos af b o i k s:=fun _ _ _=>h
def ldV[Tb P][h:Rf v s](hv:∀ {t:TypeId},ev (dn L) x=some (ay b o i)->jL P t=true->bj P n (dn L) M ⟨some d,.load t x,ty,pos,af,none⟩ v)(kk:iB P n Q0 M 3000 K (.o md r) ((d,.one s)::L)):LdG P n Q0 M K md r L t d x ty pos af b o i:=fun hx ht hd=>
 XO.l (hv hx ht) (hd3 hd) (by have:=cK _ _ (.o _ _) _ kk;rw[<-h.h];exact this)
def ldW[Tb P][h:Rf v s](hv:∀ {t:TypeId},ev (dn L) x=some (ay b o i)->oM P t=true->fE P t=some k->bj P n (dn L) M ⟨some d,.load t x,ty,pos,af,none⟩ v)(kk:iB P n Q0 M 3000 K (.o md r) ((d,.one s)::L)):LdA P n Q0 M K md r L t d x ty pos af b o i k:=fun hx ht hs hd=>
 XO.l (hv hx ht hs) (hd3 hd) (by have:=cK _ _ (.o _ _) _ kk;rw[<-h.h];exact this)
def ld[Tb P][Rf v s](hH:lR H (.cells b o m C))(hv:i<m/\C i=v)(kk:iB P n Q0 (XM W S H) 3000 K (.o md r) ((d,.one s)::L)):LdG P n Q0 (XM W S H) K md r L t d x ty pos af b o i:=ldV (fun hx ht=>V.load hx (fp hH) hv ht) kk
def aay[Tb P][Rf v s](hH:lR H (.ro b o m C))(hv:i<m/\C i=v)(kk:iB P n Q0 (XM W S H) 3000 K (.o md r) ((d,.one s)::L)):LdG P n Q0 (XM W S H) K md r L t d x ty pos af b o i:=ldV (fun hx ht=>Vv hx (fp hH) hv ht) kk
def ldF[Tb P][Rf v s]{cap sz:Nat}{e:TypeId}(hH:lR H (aN (some ⟨b,0,none⟩) cap e sz k C))(hv:i<k*sz/\C i=v)(kk:iB P n Q0 (XM W S H) 3000 K (.o md r) ((d,.one s)::L)):LdG P n Q0 (XM W S H) K md r L t d x ty pos af b 0 i:=ldV (fun hx ht=>aao hx (fp hH) hv ht) kk
def Cx[Tb P][Rf v s]{cap sz:Nat}{e:TypeId}{xs:List Value}(hH:lR H (.row (.slice (some ⟨b,0,none⟩) k cap) e sz k xs))(hv:xs[i]? =some v)(kk:iB P n Q0 (XM W S H) 3000 K (.o md r) ((d,.one s)::L)):LdG P n Q0 (XM W S H) K md r L t d x ty pos af b 0 i:=ldV (fun hx ht=>Ba hx (fp hH) hv ht) kk
def mP[Tb P][Rf v s](hH:lR H (.cells b o m C))(hv:i+k<=m/\dB C i k=v)(kk:iB P n Q0 (XM W S H) 3000 K (.o md r) ((d,.one s)::L)):LdA P n Q0 (XM W S H) K md r L t d x ty pos af b o i k:=ldW (fun hx ht hs=>fj hx (fp hH) hv ht hs) kk
def aic[Tb P][Rf v s](hH:lR H (.ro b o m C))(hv:i+k<=m/\dB C i k=v)(kk:iB P n Q0 (XM W S H) 3000 K (.o md r) ((d,.one s)::L)):LdA P n Q0 (XM W S H) K md r L t d x ty pos af b o i k:=ldW (fun hx ht hs=>KX hx (fp hH) hv ht hs) kk
def rX[Tb P][Rf v s]{cap sz l:Nat}{e:TypeId}(hH:lR H (aN (some ⟨b,0,none⟩) cap e sz l C))(hv:i+k<=l*sz/\dB C i k=v)(kk:iB P n Q0 (XM W S H) 3000 K (.o md r) ((d,.one s)::L)):LdA P n Q0 (XM W S H) K md r L t d x ty pos af b 0 i k:=ldW (fun hx ht hs=>VG hx (fp hH) hv ht hs) kk
theorem st[Tb P](hH:o5 H (.cells b o m C) (.cells b o m C') H')(hi:i<m/\ep C i (aQ s)=C')(hv:one (aQ s)=true)(kk:iB P n Q0 (XM W S H') 3000 K (.o md r) L):StG P n Q0 (XM W S H) K md r L t x y ty pos af b o i 1 s:=fun hx hy hs=>XO.store hx hy hH hi hv hs (cK _ _ (.o _ _) _ kk)
def gu[Tb P]{cs:Array Value}(hH:o5 H (.cells b o m C) (.cells b o m C') H')(hi:i+k<=m/\cY C i cs.toList=C')(hs':(aQ s)= .agg cs)(hv:cs.toList.all one=true/\cs.size=k)(kk:iB P n Q0 (XM W S H') 3000 K (.o md r) L):StG P n Q0 (XM W S H) K md r L t x y ty pos af b o i k s:=fun hx hy hs=>XO.gz hx (hs'▸hy) hH hi hv hs (cK _ _ (.o _ _) _ kk)
def stF[Tb P]{cap sz l:Nat}{e:TypeId}(hH:o5 H (aN (some ⟨b,0,none⟩) cap e sz l C) (aN (some ⟨b,0,none⟩) cap e sz l C') H')(hi:i<l*sz/\ep C i (aQ s)=C')(hv:one (aQ s)=true)(kk:iB P n Q0 (XM W S H') 3000 K (.o md r) L):StG P n Q0 (XM W S H) K md r L t x y ty pos af b 0 i 1 s:=fun hx hy hs=>XO.aeo hx hy hH hi hv hs (cK _ _ (.o _ _) _ kk)
def akO[Tb P]{cap sz l:Nat}{e:TypeId}{cs:Array Value}(hH:o5 H (aN (some ⟨b,0,none⟩) cap e sz l C) (aN (some ⟨b,0,none⟩) cap e sz l C') H')(hi:i+k<=l*sz/\cY C i cs.toList=C')(hs':(aQ s)= .agg cs)(hv:cs.toList.all one=true/\cs.size=k)(kk:iB P n Q0 (XM W S H') 3000 K (.o md r) L):StG P n Q0 (XM W S H) K md r L t x y ty pos af b 0 i k s:=fun hx hy hs=>XO.aan hx (hs'▸hy) hH hi hv hs (cK _ _ (.o _ _) _ kk)
def ca{f:FuncId}{xs:List Operand}{pG:Array TypeId}{vs:List Value}{pre F:List aG}{post:Value->List aG->Prop}(hs:Spec P f vs pre post)(hp:cX H pre F)(kk:∀ v H1,post v H1->XO P n md (lJ P Q0 K) r ((d,v)::dn L) (XM W S (H1++F))):CaG P n Q0 (XM W S H) K md r L d f xs pG ty pos af vs:=fun he hc hd=>XO.call he hs hp hc hd kk
def yy{f:FuncId}{xs:List Operand}{pG:Array TypeId}{vs:List Value}{pre F:List aG}{post:Value->List aG->Prop}(j:Nat)(hs:Spec P f vs pre post)(hp:cX H pre F)(hR:(pre.drop j).all (fun e=> !e.wr)=true)(kk:∀ v H1,post v H1->XO P n md (lJ P Q0 K) r ((d,v)::dn L) (XM W S (H1++(pre.drop j++F)))):CaG P n Q0 (XM W S H) K md r L d f xs pG ty pos af vs:=fun he hc hd=>XO.ahT j he hs hp hR hc hd kk
def cq[Tb P]{f:FuncId}{xs:List Operand}{pG:Array TypeId}{vs:List Value}{pre F E:List aG}{V:Value}{L2:SF}(hs:Spec P f vs pre fun v H1=>v=V/\H1=E)(hp:cX H pre F)[h:QA ((d,V)::dn L) L2](kk:iB P n Q0 (XM W S (E++F)) 3000 K (.o md r) L2):CaG P n Q0 (XM W S H) K md r L d f xs pG ty pos af vs:=ca hs hp (by rintro _ _ ⟨rfl,rfl⟩;exact gO kk)
def KK[Tb P]{f:FuncId}{xs:List Operand}{pG:Array TypeId}{vs:List Value}{pre F E:List aG}{V:Value}{L2:SF}(j:Nat)(hs:Spec P f vs pre fun v H1=>v=V/\H1=E)(hp:cX H pre F)(hR:(pre.drop j).all (fun e=> !e.wr)=true)[h:QA ((d,V)::dn L) L2](kk:iB P n Q0 (XM W S (E++(pre.drop j++F))) 3000 K (.o md r) L2):CaG P n Q0 (XM W S H) K md r L d f xs pG ty pos af vs:=yy j hs hp hR (by rintro _ _ ⟨rfl,rfl⟩;exact gO kk)
end
section
variable{L:PF}{a1 a2 a3 a4 a5 a6 a7 a8:Nat}{v1 v2 v3 v4 v5 v6 v7 v8:Value}{R:PF}
def S1(h1:lk L a1=some v1:=by exact rfl):Sub L [(a1,v1)]:=.cons h1 (.nil _)
def S2(h1:lk L a1=some v1:=by exact rfl)(h2:lk L a2=some v2:=by exact rfl):Sub L [(a1,v1),(a2,v2)]:=.cons h1 (S1 h2)
def S3(h1:lk L a1=some v1:=by exact rfl)(h2:lk L a2=some v2:=by exact rfl)(h3:lk L a3=some v3:=by exact rfl):Sub L [(a1,v1),(a2,v2),(a3,v3)]:=.cons h1 (S2 h2 h3)
def S4(h1:lk L a1=some v1:=by exact rfl)(h2:lk L a2=some v2:=by exact rfl)(h3:lk L a3=some v3:=by exact rfl)(h4:lk L a4=some v4:=by exact rfl):Sub L [(a1,v1),(a2,v2),(a3,v3),(a4,v4)]:=.cons h1 (S3 h2 h3 h4)
def S5(h1:lk L a1=some v1:=by exact rfl)(h2:lk L a2=some v2:=by exact rfl)(h3:lk L a3=some v3:=by exact rfl)(h4:lk L a4=some v4:=by exact rfl)(h5:lk L a5=some v5:=by exact rfl):Sub L [(a1,v1),(a2,v2),(a3,v3),(a4,v4),(a5,v5)]:=.cons h1 (S4 h2 h3 h4 h5)
def S6(h1:lk L a1=some v1:=by exact rfl)(h2:lk L a2=some v2:=by exact rfl)(h3:lk L a3=some v3:=by exact rfl)(h4:lk L a4=some v4:=by exact rfl)(h5:lk L a5=some v5:=by exact rfl)(h6:lk L a6=some v6:=by exact rfl):Sub L [(a1,v1),(a2,v2),(a3,v3),(a4,v4),(a5,v5),(a6,v6)]:=.cons h1 (S5 h2 h3 h4 h5 h6)
end
def lR.t2{H:List aG}{e:aG}{x0 x1:aG}(h:lR H e):lR (x0::x1::H) e:=.ao (.ao h)
def lR.t3{H:List aG}{e:aG}{x0 x1 x2:aG}(h:lR H e):lR (x0::x1::x2::H) e:=.ao (.t2 h)
def lR.t4{H:List aG}{e:aG}{x0 x1 x2 x3:aG}(h:lR H e):lR (x0::x1::x2::x3::H) e:=.ao (.t3 h)
def lR.t5{H:List aG}{e:aG}{x0 x1 x2 x3 x4:aG}(h:lR H e):lR (x0::x1::x2::x3::x4::H) e:=.ao (.t4 h)
def lR.t6{H:List aG}{e:aG}{x0 x1 x2 x3 x4 x5:aG}(h:lR H e):lR (x0::x1::x2::x3::x4::x5::H) e:=.ao (.t5 h)
def lR.t7{H:List aG}{e:aG}{x0 x1 x2 x3 x4 x5 x6:aG}(h:lR H e):lR (x0::x1::x2::x3::x4::x5::x6::H) e:=.ao (.t6 h)
def lR.t8{H:List aG}{e:aG}{x0 x1 x2 x3 x4 x5 x6 x7:aG}(h:lR H e):lR (x0::x1::x2::x3::x4::x5::x6::x7::H) e:=.ao (.t7 h)
def lR.t9{H:List aG}{e:aG}{x0 x1 x2 x3 x4 x5 x6 x7 x8:aG}(h:lR H e):lR (x0::x1::x2::x3::x4::x5::x6::x7::x8::H) e:=.ao (.t8 h)
def lR.t10{H:List aG}{e:aG}{x0 x1 x2 x3 x4 x5 x6 x7 x8 x9:aG}(h:lR H e):lR (x0::x1::x2::x3::x4::x5::x6::x7::x8::x9::H) e:=.ao (.t9 h)
def lR.t11{H:List aG}{e:aG}{x0 x1 x2 x3 x4 x5 x6 x7 x8 x9 qy:aG}(h:lR H e):lR (x0::x1::x2::x3::x4::x5::x6::x7::x8::x9::qy::H) e:=.ao (.t10 h)
def lR.ph{H:List aG}{e:aG}{x0 x1 x2 x3 x4 x5 x6 x7 x8 x9 qy wH:aG}(h:lR H e):lR (x0::x1::x2::x3::x4::x5::x6::x7::x8::x9::qy::wH::H) e:=.ao (.t11 h)
def ox.t2{H H2:List aG}{e:aG}{x0 x1:aG}(h:ox H e H2):ox (x0::x1::H) e (x0::x1::H2):=.ao (.ao h)
def ox.t3{H H2:List aG}{e:aG}{x0 x1 x2:aG}(h:ox H e H2):ox (x0::x1::x2::H) e (x0::x1::x2::H2):=.ao (.t2 h)
def ox.t4{H H2:List aG}{e:aG}{x0 x1 x2 x3:aG}(h:ox H e H2):ox (x0::x1::x2::x3::H) e (x0::x1::x2::x3::H2):=.ao (.t3 h)
def ox.t5{H H2:List aG}{e:aG}{x0 x1 x2 x3 x4:aG}(h:ox H e H2):ox (x0::x1::x2::x3::x4::H) e (x0::x1::x2::x3::x4::H2):=.ao (.t4 h)
def ox.t6{H H2:List aG}{e:aG}{x0 x1 x2 x3 x4 x5:aG}(h:ox H e H2):ox (x0::x1::x2::x3::x4::x5::H) e (x0::x1::x2::x3::x4::x5::H2):=.ao (.t5 h)
def ox.t7{H H2:List aG}{e:aG}{x0 x1 x2 x3 x4 x5 x6:aG}(h:ox H e H2):ox (x0::x1::x2::x3::x4::x5::x6::H) e (x0::x1::x2::x3::x4::x5::x6::H2):=.ao (.t6 h)
def ox.t8{H H2:List aG}{e:aG}{x0 x1 x2 x3 x4 x5 x6 x7:aG}(h:ox H e H2):ox (x0::x1::x2::x3::x4::x5::x6::x7::H) e (x0::x1::x2::x3::x4::x5::x6::x7::H2):=.ao (.t7 h)
def ox.t9{H H2:List aG}{e:aG}{x0 x1 x2 x3 x4 x5 x6 x7 x8:aG}(h:ox H e H2):ox (x0::x1::x2::x3::x4::x5::x6::x7::x8::H) e (x0::x1::x2::x3::x4::x5::x6::x7::x8::H2):=.ao (.t8 h)
def ox.t10{H H2:List aG}{e:aG}{x0 x1 x2 x3 x4 x5 x6 x7 x8 x9:aG}(h:ox H e H2):ox (x0::x1::x2::x3::x4::x5::x6::x7::x8::x9::H) e (x0::x1::x2::x3::x4::x5::x6::x7::x8::x9::H2):=.ao (.t9 h)
def ox.t11{H H2:List aG}{e:aG}{x0 x1 x2 x3 x4 x5 x6 x7 x8 x9 qy:aG}(h:ox H e H2):ox (x0::x1::x2::x3::x4::x5::x6::x7::x8::x9::qy::H) e (x0::x1::x2::x3::x4::x5::x6::x7::x8::x9::qy::H2):=.ao (.t10 h)
def ox.ph{H H2:List aG}{e:aG}{x0 x1 x2 x3 x4 x5 x6 x7 x8 x9 qy wH:aG}(h:ox H e H2):ox (x0::x1::x2::x3::x4::x5::x6::x7::x8::x9::qy::wH::H) e (x0::x1::x2::x3::x4::x5::x6::x7::x8::x9::qy::wH::H2):=.ao (.t11 h)
def o5.t2{H H2:List aG}{e e2:aG}{x0 x1:aG}(h:o5 H e e2 H2):o5 (x0::x1::H) e e2 (x0::x1::H2):=.ao (.ao h)
def o5.t3{H H2:List aG}{e e2:aG}{x0 x1 x2:aG}(h:o5 H e e2 H2):o5 (x0::x1::x2::H) e e2 (x0::x1::x2::H2):=.ao (.t2 h)
def o5.t4{H H2:List aG}{e e2:aG}{x0 x1 x2 x3:aG}(h:o5 H e e2 H2):o5 (x0::x1::x2::x3::H) e e2 (x0::x1::x2::x3::H2):=.ao (.t3 h)
def o5.t5{H H2:List aG}{e e2:aG}{x0 x1 x2 x3 x4:aG}(h:o5 H e e2 H2):o5 (x0::x1::x2::x3::x4::H) e e2 (x0::x1::x2::x3::x4::H2):=.ao (.t4 h)
def o5.t6{H H2:List aG}{e e2:aG}{x0 x1 x2 x3 x4 x5:aG}(h:o5 H e e2 H2):o5 (x0::x1::x2::x3::x4::x5::H) e e2 (x0::x1::x2::x3::x4::x5::H2):=.ao (.t5 h)
def o5.t7{H H2:List aG}{e e2:aG}{x0 x1 x2 x3 x4 x5 x6:aG}(h:o5 H e e2 H2):o5 (x0::x1::x2::x3::x4::x5::x6::H) e e2 (x0::x1::x2::x3::x4::x5::x6::H2):=.ao (.t6 h)
def o5.t8{H H2:List aG}{e e2:aG}{x0 x1 x2 x3 x4 x5 x6 x7:aG}(h:o5 H e e2 H2):o5 (x0::x1::x2::x3::x4::x5::x6::x7::H) e e2 (x0::x1::x2::x3::x4::x5::x6::x7::H2):=.ao (.t7 h)
def o5.t9{H H2:List aG}{e e2:aG}{x0 x1 x2 x3 x4 x5 x6 x7 x8:aG}(h:o5 H e e2 H2):o5 (x0::x1::x2::x3::x4::x5::x6::x7::x8::H) e e2 (x0::x1::x2::x3::x4::x5::x6::x7::x8::H2):=.ao (.t8 h)
def o5.t10{H H2:List aG}{e e2:aG}{x0 x1 x2 x3 x4 x5 x6 x7 x8 x9:aG}(h:o5 H e e2 H2):o5 (x0::x1::x2::x3::x4::x5::x6::x7::x8::x9::H) e e2 (x0::x1::x2::x3::x4::x5::x6::x7::x8::x9::H2):=.ao (.t9 h)
def o5.t11{H H2:List aG}{e e2:aG}{x0 x1 x2 x3 x4 x5 x6 x7 x8 x9 qy:aG}(h:o5 H e e2 H2):o5 (x0::x1::x2::x3::x4::x5::x6::x7::x8::x9::qy::H) e e2 (x0::x1::x2::x3::x4::x5::x6::x7::x8::x9::qy::H2):=.ao (.t10 h)
def o5.ph{H H2:List aG}{e e2:aG}{x0 x1 x2 x3 x4 x5 x6 x7 x8 x9 qy wH:aG}(h:o5 H e e2 H2):o5 (x0::x1::x2::x3::x4::x5::x6::x7::x8::x9::qy::wH::H) e e2 (x0::x1::x2::x3::x4::x5::x6::x7::x8::x9::qy::wH::H2):=.ao (.t11 h)
theorem cX.h1{H:List aG}{x0:aG} :cX (x0::H) [x0] H:=.cons .aa .nil
theorem cX.h2{H:List aG}{x0 x1:aG} :cX (x0::x1::H) [x0,x1] H:=.cons .aa .h1
theorem cX.h3{H:List aG}{x0 x1 x2:aG} :cX (x0::x1::x2::H) [x0,x1,x2] H:=.cons .aa .h2
theorem cX.h4{H:List aG}{x0 x1 x2 x3:aG} :cX (x0::x1::x2::x3::H) [x0,x1,x2,x3] H:=.cons .aa .h3
theorem cX.h5{H:List aG}{x0 x1 x2 x3 x4:aG} :cX (x0::x1::x2::x3::x4::H) [x0,x1,x2,x3,x4] H:=.cons .aa .h4
theorem cX.h6{H:List aG}{x0 x1 x2 x3 x4 x5:aG} :cX (x0::x1::x2::x3::x4::x5::H) [x0,x1,x2,x3,x4,x5] H:=.cons .aa .h5
theorem cX.h7{H:List aG}{x0 x1 x2 x3 x4 x5 x6:aG} :cX (x0::x1::x2::x3::x4::x5::x6::H) [x0,x1,x2,x3,x4,x5,x6] H:=.cons .aa .h6
theorem cX.h8{H:List aG}{x0 x1 x2 x3 x4 x5 x6 x7:aG} :cX (x0::x1::x2::x3::x4::x5::x6::x7::H) [x0,x1,x2,x3,x4,x5,x6,x7] H:=.cons .aa .h7
theorem cX.h9{H:List aG}{x0 x1 x2 x3 x4 x5 x6 x7 x8:aG} :cX (x0::x1::x2::x3::x4::x5::x6::x7::x8::H) [x0,x1,x2,x3,x4,x5,x6,x7,x8] H:=.cons .aa .h8
def cX.Vb{H:List aG}{x0 x1 x2 x3 x4 x5 x6 x7 x8 x9:aG} :cX (x0::x1::x2::x3::x4::x5::x6::x7::x8::x9::H) [x0,x1,x2,x3,x4,x5,x6,x7,x8,x9] H:=.cons .aa .h9
def cX.h11{H:List aG}{x0 x1 x2 x3 x4 x5 x6 x7 x8 x9 qy:aG} :cX (x0::x1::x2::x3::x4::x5::x6::x7::x8::x9::qy::H) [x0,x1,x2,x3,x4,x5,x6,x7,x8,x9,qy] H:=.cons .aa .Vb
def cX.h12{H:List aG}{x0 x1 x2 x3 x4 x5 x6 x7 x8 x9 qy wH:aG} :cX (x0::x1::x2::x3::x4::x5::x6::x7::x8::x9::qy::wH::H) [x0,x1,x2,x3,x4,x5,x6,x7,x8,x9,qy,wH] H:=.cons .aa .h11
def cX.h13{H:List aG}{x0 x1 x2 x3 x4 x5 x6 x7 x8 x9 qy wH D8:aG} :cX (x0::x1::x2::x3::x4::x5::x6::x7::x8::x9::qy::wH::D8::H) [x0,x1,x2,x3,x4,x5,x6,x7,x8,x9,qy,wH,D8] H:=.cons .aa .h12
def cX.h14{H:List aG}{x0 x1 x2 x3 x4 x5 x6 x7 x8 x9 qy wH D8 Hi:aG} :cX (x0::x1::x2::x3::x4::x5::x6::x7::x8::x9::qy::wH::D8::Hi::H) [x0,x1,x2,x3,x4,x5,x6,x7,x8,x9,qy,wH,D8,Hi] H:=.cons .aa .h13
def bL{P:Program}{k:Nat}{ps:List Nat}{cs:List (Nat×Nat)}{t:Nat}{v:Value}{L:PF}{W:World}{S:Nat->Nat->Prop}{post:Value->List aG->Prop}{H H1 F:List aG}(hp:cX H H1 F)(h:post v H1)(hr:fn.results= #[.tmp t]:=by exact rfl)(hv:lk L t=some v:=by exact rfl)(hw:H1.all aG.wr=true:=by exact rfl):XE (fr k ps cs) (bodyPost P fn fun e w=>∃ v' H',e= .returned v'/\post v' H'/\H'.all aG.wr=true/\XM W S H' w) .ret L (XM W S H):=aO hr hv (ai hp hw h)
def fg{P:Program}{k:Nat}{ps:List Nat}{cs:List (Nat×Nat)}{t u:Nat}{v v2:Value}{L:PF}{W:World}{S:Nat->Nat->Prop}{post:Value->List aG->Prop}{H H1 F:List aG}(hp:cX H H1 F)(h:post (.tuple #[v,v2]) H1)(hr:fn.results= #[.tmp t,.tmp u]:=by exact rfl)(hv:lk L t=some v:=by exact rfl)(hu:lk L u=some v2:=by exact rfl)(hw:H1.all aG.wr=true:=by exact rfl):XE (fr k ps cs) (bodyPost P fn fun e w=>∃ v' H',e= .returned v'/\post v' H'/\H'.all aG.wr=true/\XM W S H' w) .ret L (XM W S H):=bC hr hv hu (ai hp hw h)
def rt3{P:Program}{k:Nat}{ps:List Nat}{cs:List (Nat×Nat)}{t u x:Nat}{v v2 v3:Value}{L:PF}{W:World}{S:Nat->Nat->Prop}{post:Value->List aG->Prop}{H H1 F:List aG}(hp:cX H H1 F)(h:post (.tuple #[v,v2,v3]) H1)(hr:fn.results= #[.tmp t,.tmp u,.tmp x]:=by exact rfl)(hv:lk L t=some v:=by exact rfl)(hu:lk L u=some v2:=by exact rfl)(hx:lk L x=some v3:=by exact rfl)(hw:H1.all aG.wr=true:=by exact rfl):XE (fr k ps cs) (bodyPost P fn fun e w=>∃ v' H',e= .returned v'/\post v' H'/\H'.all aG.wr=true/\XM W S H' w) .ret L (XM W S H):=wy hr hv hu hx (ai hp hw h)
def rt0{P:Program}{k:Nat}{ps:List Nat}{cs:List (Nat×Nat)}{L:PF}{W:World}{S:Nat->Nat->Prop}{post:Value->List aG->Prop}{H H1 F:List aG}(hp:cX H H1 F)(h:post (.tuple #[]) H1)(hr:fn.results= #[]:=by exact rfl)(hw:H1.all aG.wr=true:=by exact rfl):XE (fr k ps cs) (bodyPost P fn fun e w=>∃ v' H',e= .returned v'/\post v' H'/\H'.all aG.wr=true/\XM W S H' w) .ret L (XM W S H):=Qj hr (ai hp hw h)
def xq{W:World}{S:Nat->Nat->Prop}{H E F:List aG}(h:cX H E F):∀ w,XM W S H w->XM W S E w:=fun _ q=>XM.pick h q
end Go.X

namespace Go.X
open Go
variable{H:List aG}
section
variable{P:Program}{ops:Array Oper}{Q:Exit->Act->World->Prop}
variable{n:Fr}{L:PF}{M:World->Prop}
def XQ(P:Program)(n:Fr)(ops:Array Oper)(Q:Exit->Act->World->Prop)(B:DS)(f:Nat)(l:Array Bool)(L:PF)(M:World->Prop):Prop:=
 oK ops l->∀ a w,ra n L a->M w->JL B l w->KE P ops Q B f l a w
def XM.kQ{W:World}{S:Nat->Nat->Prop}(w:World)(k:Nat)(h:XM W S H w):XM W S H {w with drawn:=w.drawn+k} :=h.drawn k
def XC.ir{i:Nat}{os:List Oper}{f:Nat}{l:Array Bool}(hm:P.follows .mixedOrders=true)(hf:os.length=f)(hl:Array.replicate f false=l)(hM:∀ w k,M w->M {w with drawn:=w.drawn+k})(h:XQ P n os.toArray Q [] f l L M):XC P n (.region i os.toArray true) Q L M:=fun a w ha hw=>by
 subst hf;subst hl;refine wp_region_any hm ?_;have:=sY _ _ _ _ (h (uZ _ _) a _ ha (hM w 1 hw) trivial);simpa using this
def XQ.G8{B:DS}{f i d:Nat}{l l':Array Bool}{o:Oper}{v:Value}(T:List Nat)(φ:World->Prop)(ho:ops[i]? =some o)(hk:A7 ops l i=true)(hT:T.all (fun s=>KT ops i ops.size s&& !(Nat.beq s i))=true)(hB:B.all (fun p=> !p.1.contains i)=true)(hl:l.setIfInBounds i true=l')(xF:o.dst=some d)(hd:Nat.blt d n.sz=true)(hφ:∀ w,M w->φ w)(hv:∀ a,ra n L a->YF P ops φ o v a)(h:XQ P n ops Q ((T,φ)::B) f l' ((d,v)::L) M):XQ P n ops Q B (f+1) l L M:=by
 subst hl;intro hc a w ha hw hJ;simp only[A7,Bool.and_eq_true]at hk;obtain⟨⟨h1,h2⟩,h3⟩:=hk;have hr:i∈Region.ready .any ops l:=by simpa using h3
 refine A6 (T:=T) (φ:=φ) ho (Region.noSelect_spec h1) (fun s hs=>⟨ops.size,?_⟩) ?_ ?_ f l a w hc (Region.free_spec ho h2) hr (hv a ha) ?_
 ·have h4:=List.all_eq_true.1 hT s hs;simp only[Bool.and_eq_true]at h4;exact h4.1
 ·intro hi;have:=List.all_eq_true.1 hT i hi;simp at this
 ·intro p hp hi;have:=List.all_eq_true.1 hB p hp;simp at this;exact this hi
 ·rw[xF];exact h (kM hc hr) _ w (ha.put hd v) hw ⟨fun _=>hφ w hw,JL.lq B hJ⟩
def XQ.step{B:DS}{f i:Nat}{l:Array Bool}{o:Oper}(ho:ops[i]? =some o)(hg:o.guard=none)(hk:Region.ready .any ops l=[i])(h:oK ops (l.setIfInBounds i true)->∀ a w,ra n L a->M w->JL B l w->o.wp P a w (KE P ops Q B f (l.setIfInBounds i true)) (Qk Q)):XQ P n ops Q B (f+1) l L M:=by
 intro hc a w ha hw hJ;have hr:i∈Region.ready .any ops l:=by rw[hk];simp
 refine⟨hJ,fun h0=>(by rw[hk]at h0;cases h0),fun j hj=> ?_⟩;rw[hk]at hj;have:j=i:=by simpa using hj
 subst this;unfold wpOp;simp only[ho];rw[if_pos (by simp[Region.wanted,hg])];exact .inl (h (kM hc hr) a w ha hw hJ)
def XQ.done{B:DS}{f:Nat}{l:Array Bool}(hk:Region.ready .any ops l=[])(h:XE n Q .normal L M):XQ P n ops Q B f l L M:=by
 intro hc a w ha hw hJ;cases f with
 | zero=>exact⟨hJ,hk,h a w ha hw⟩
 | succ f=>exact⟨hJ,fun _=>h a w ha hw,fun j hj=>by rw[hk]at hj;cases hj⟩
def Cy{B:DS} :∀ (f:Nat) (l:Array Bool) (a:Act) (w:World),KE P ops Q B f l a w->KE P ops Q (([],fun _=>True)::B) f l a w
 | 0,_,_,_,h=>⟨⟨fun _=>trivial,h.1⟩,h.2.1,h.2.2⟩
 | f+1,_,_,_,h=>⟨⟨fun _=>trivial,h.1⟩,h.2.1,fun j hj=>wpOp_mono (fun a' w'=>Cy f _ a' w') (h.2.2 j hj)⟩
variable{op:Op}{ty:TypeId}{pos:String}{af:Array Edge}{d f i:Nat}{v:Value}{B:DS}{l l':Array Bool}
def adw{φ:World->Prop}(hv:bj P n L φ ⟨some d,op,ty,pos,af,none⟩ v)(a:Act)(ha:ra n L a):YF P ops φ ⟨some d,op,ty,pos,af,none⟩ v a:=
 .inl ⟨by simp[Region.wanted],fun w hw=>hv a w ha hw⟩
def XQ.pv(ho:ops[i]? =some ⟨some d,op,ty,pos,af,none⟩)(hk:A7 ops l i=true)(hl:l.setIfInBounds i true=l')(hv:bj P n L (fun _=>True) ⟨some d,op,ty,pos,af,none⟩ v)(hd:Nat.blt d n.sz=true)(hB:B.all (fun p=> !p.1.contains i)=true)(h:XQ P n ops Q B f l' ((d,v)::L) M):XQ P n ops Q B (f+1) l L M:=
 XQ.G8 [] (fun _=>True) ho hk rfl hB hl rfl hd (fun _ _=>trivial) (adw hv) fun hc a w ha hw hJ=>Cy _ _ _ _ (h hc a w ha hw hJ.2)
theorem XQ.load{W:World}{S:Nat->Nat->Prop}(e:aG)(T:List Nat)(ho:ops[i]? =some ⟨some d,op,ty,pos,af,none⟩)(hk:A7 ops l i=true)(hl:l.setIfInBounds i true=l')(hH:lR H e)(hv:bj P n L (fun w=>e.holds w) ⟨some d,op,ty,pos,af,none⟩ v)(hd:Nat.blt d n.sz=true)(hT:T.all (fun s=>KT ops i ops.size s&& !(Nat.beq s i))=true)(hB:B.all (fun p=> !p.1.contains i)=true)(h:XQ P n ops Q ((T,fun w=>e.holds w)::B) f l' ((d,v)::L) (XM W S H)):XQ P n ops Q B (f+1) l L (XM W S H):=
 XQ.G8 T _ ho hk hT hB hl rfl hd (fp hH) (adw hv) h
def XQ.pw(i:Nat)(ho:ops[i]? =some ⟨some d,op,ty,pos,af,none⟩)(hl:l.setIfInBounds i true=l')(hv:bj P n L (fun _=>True) ⟨some d,op,ty,pos,af,none⟩ v)(h:XQ P n ops Q B f l' ((d,v)::L) M)(hk:A7 ops l i=true:=by exact kq)(hd:Nat.blt d n.sz=true:=by exact rfl)(hB:B.all (fun p=> !p.1.contains i)=true:=by exact rfl):XQ P n ops Q B (f+1) l L M:=XQ.pv ho hk hl hv hd hB h
def XQ.mv(i:Nat){x:Operand}(ho:ops[i]? =some ⟨some d,.move x,ty,pos,af,none⟩)(hl:l.setIfInBounds i true=l')(hx:ev L x=some v)(h:XQ P n ops Q B f l' ((d,v)::L) M)(hk:A7 ops l i=true:=by exact kq)(hd:Nat.blt d n.sz=true:=by exact rfl)(hB:B.all (fun p=> !p.1.contains i)=true:=by exact rfl):XQ P n ops Q B (f+1) l L M:=XQ.pv ho hk hl (V.move hx) hd hB h
def XQ.nc(i:Nat){x:Operand}{b o j:Nat}(ho:ops[i]? =some ⟨some d,.nilCheck x,ty,pos,af,none⟩)(hl:l.setIfInBounds i true=l')(hx:ev L x=some (ay b o j))(h:XQ P n ops Q B f l' ((d,ay b o j)::L) M)(hk:A7 ops l i=true:=by exact kq)(hd:Nat.blt d n.sz=true:=by exact rfl)(hB:B.all (fun p=> !p.1.contains i)=true:=by exact rfl):XQ P n ops Q B (f+1) l L M:=XQ.pv ho hk hl (aX hx) hd hB h
def XQ.ll(i:Nat)(T:List Nat){W:World}{S:Nat->Nat->Prop}{t:TypeId}{x:Operand}{b o j m:Nat}{C:Nat->Value}(ho:ops[i]? =some ⟨some d,.load t x,ty,pos,af,none⟩)(hl:l.setIfInBounds i true=l')(hH:lR H (.cells b o m C))(hx:ev L x=some (ay b o j))(hv:j<m/\C j=v)(h:XQ P n ops Q ((T,fun w=>(aG.cells b o m C).holds w)::B) f l' ((d,v)::L) (XM W S H))(ht:jL P t=true:=by exact kq)(hk:A7 ops l i=true:=by exact kq)(hd:Nat.blt d n.sz=true:=by exact rfl)(hT:T.all (fun s=>KT ops i ops.size s&& !(Nat.beq s i))=true:=by exact kq)(hB:B.all (fun p=> !p.1.contains i)=true:=by exact rfl):XQ P n ops Q B (f+1) l L (XM W S H):=XQ.load (.cells b o m C) T ho hk hl hH (V.load hx eA hv ht) hd hT hB h
def XQ.lf(i:Nat)(T:List Nat){W:World}{S:Nat->Nat->Prop}{t:TypeId}{x:Operand}{b o j m sz:Nat}{C:Nat->Value}(ho:ops[i]? =some ⟨some d,.load t x,ty,pos,af,none⟩)(hl:l.setIfInBounds i true=l')(hH:lR H (.cells b o m C))(hx:ev L x=some (ay b o j))(hv:j+sz<=m/\dB C j sz=v)(h:XQ P n ops Q ((T,fun w=>(aG.cells b o m C).holds w)::B) f l' ((d,v)::L) (XM W S H))(ht:oM P t=true:=by exact kq)(hs:fE P t=some sz:=by exact kq)(hk:A7 ops l i=true:=by exact kq)(hd:Nat.blt d n.sz=true:=by exact rfl)(hT:T.all (fun s=>KT ops i ops.size s&& !(Nat.beq s i))=true:=by exact kq)(hB:B.all (fun p=> !p.1.contains i)=true:=by exact rfl):XQ P n ops Q B (f+1) l L (XM W S H):=XQ.load (.cells b o m C) T ho hk hl hH (fj hx eA hv ht hs) hd hT hB h
theorem JL.fa{T:List Nat}{φ:World->Prop}{r:DS}{l:Array Bool}{w:World}(h:φ w)(k:JL r l w):JL ((T,φ)::r) l w:=⟨fun _=>h,k⟩
theorem JL.fb{T:List Nat}{φ:World->Prop}{r:DS}{l:Array Bool}{w:World}(h:T.any (fun s=>l.getD s false)=true)(k:JL r l w):JL ((T,φ)::r) l w:=⟨fun q=>by obtain⟨s,a,b⟩:=List.any_eq_true.1 h;exact (q s a b).elim,k⟩
theorem ut{p:Prop}(h:p:=by intros;rename_i er;repeat first | exact trivial | refine JL.fb rfl ?_ | refine JL.fa (fp (by repeat first | exact lR.aa | refine lR.ao ?_) _ er) ?_):p:=h
theorem XQ.store{W:World}{S:Nat->Nat->Prop}{H H':List aG}{t:TypeId}{x y:Operand}{b o i' m:Nat}{C C':Nat->Value}(ho:ops[i]? =some ⟨none,.store t x y,ty,pos,af,none⟩)(hk:Region.ready .any ops l=[i])(hl:l.setIfInBounds i true=l')(hx:ev L x=some (ay b o i'))(hy:ev L y=some v)(hH:o5 H (.cells b o m C) (.cells b o m C') H')(hi:i'<m/\ep C i' v=C')(hv:one v=true)(hs:fE P t=some 1)(N2:∀ w,XM W S H' w->JL B l' w)(h:XQ P n ops Q B f l' L (XM W S H')):XQ P n ops Q B (f+1) l L (XM W S H):=by
 subst hl;refine XQ.step ho rfl hk fun hc a w ha hw hJ=> ?_;obtain⟨H1,hd,hp⟩:=hH.del;have h2:=hw.setCell hd hi.1 v;rw[hi.2]at h2;have er:=hw.cG hd.cG;have hr:=oN (P:=P) (show(aG.cells b o m C).holds w from er.fB.1 _ sq) hi.1 hv;unfold Oper.wp;have:(execOp a.eval ⟨none,.store t x y,ty,pos,af,none⟩).run P w= .ok .skip (w.setCell ⟨b,o+i',none⟩ v):=by
  have hz:(⟨b,o+i',none⟩:Addr).add 0=⟨b,o+i',none⟩:=rfl;simp[execOp,av ha hx,av ha hy,Instr.storeAt,Instr.sureAddr,ay,storeVar,A9 hv,run_sizeOf hs,storeCells,hz,hr]
 rw[this];exact h hc _ _ ha (h2.cG hp) (N2 _ (h2.cG hp))
def XQ.gz{W:World}{S:Nat->Nat->Prop}{H':List aG}{t:TypeId}{x y:Operand}{b o i' m sz:Nat}{C C':Nat->Value}{cs:Array Value}(ho:ops[i]? =some ⟨none,.store t x y,ty,pos,af,none⟩)(hk:Region.ready .any ops l=[i])(hl:l.setIfInBounds i true=l')(hx:ev L x=some (ay b o i'))(hy:ev L y=some (.agg cs))(hH:o5 H (.cells b o m C) (.cells b o m C') H')(hi:i'+sz<=m/\cY C i' cs.toList=C')(hv:cs.toList.all one=true/\cs.size=sz)(hs:fE P t=some sz)(N2:∀ w,XM W S H' w->JL B l' w)(h:XQ P n ops Q B f l' L (XM W S H')):XQ P n ops Q B (f+1) l L (XM W S H):=by
 subst hl;refine XQ.step ho rfl hk fun hc a w ha hw hJ=> ?_;obtain⟨H1,hd,hp⟩:=hH.del;obtain⟨w',hr,nH⟩:=mL (P:=P) cs.toList i' 0 C w (hw.cG hd.cG) eI hv.1;simp only[Nat.add_zero]at nH;rw[hi.2]at nH;unfold Oper.wp;have:(execOp a.eval ⟨none,.store t x y,ty,pos,af,none⟩).run P w= .ok .skip w':=by
  simp[execOp,av ha hx,av ha hy,Instr.storeAt,Instr.sureAddr,ay,storeVar,Value.cells,run_sizeOf hs,hv.2,hr]
 rw[this];exact h hc _ _ ha (nH.cG hp) (N2 _ (nH.cG hp))
def XQ.call{W:World}{S:Nat->Nat->Prop}{g:FuncId}{xs:List Operand}{vs:List Value}{pG:Array TypeId}{pre F:List aG}{post:Value->List aG->Prop}(ho:ops[i]? =some ⟨some d,.call ⟨.value (.func g),xs.toArray,pG⟩,ty,pos,af,none⟩)(hk:Region.ready .any ops l=[i])(hl:l.setIfInBounds i true=l')(he:Sn L xs=some vs)(hs:Spec P g vs pre post)(hp:cX H pre F)(hc:dg P g=true)(hd:Nat.blt d n.sz=true)(N2:∀ v H1,post v H1->∀ w,XM W S (H1++F) w->JL B l' w)(h:∀ v H1,post v H1->XQ P n ops Q B f l' ((d,v)::L) (XM W S (H1++F))):XQ P n ops Q B (f+1) l L (XM W S H):=by
 subst hl;refine XQ.step ho rfl hk fun KL a w ha hw hJ=> ?_;unfold Oper.wp;rw[zo hc (rO ha xs vs he)];show Calls P g vs.toArray w _;refine(hs w (hw.pick hp).fB).mono ?_;rintro e w' ⟨v,H1,rfl,u5,NF,hx⟩;have nH:=hw.A8 hp hx fun e he=>List.all_eq_true.1 NF e he;exact h v H1 u5 KL _ _ (ha.put hd v) nH (N2 v H1 u5 _ nH)
theorem XQ.box{W:World}{S:Nat->Nat->Prop}{H:List aG}{t:TypeId}{x:Operand}{m:Nat}{C:Nat->Value}(ho:ops[i]? =some ⟨some d,.box t x,ty,pos,af,none⟩)(hk:Region.ready .any ops l=[i])(hl:l.setIfInBounds i true=l')(hx:ev L x=some v)(hm:v.cells.size=m)(hC:∀ i,i<m->cellsOf v.cells i=C i)(hd:Nat.blt d n.sz=true)(N2:∀ b w,XM W S (.cells b 0 m C::H) w->JL B l' w)(h:∀ b,XQ P n ops Q B f l' ((d,ay b 0 0)::L) (XM W S (.cells b 0 m C::H))):XQ P n ops Q B (f+1) l L (XM W S H):=by
 subst hl;refine XQ.step ho rfl hk fun KL a w ha hw hJ=> ?_;have nH:=hw.alloc v.cells t C fun i hi=>by rw[iJ _ _ hi,hC i (hm▸hi)]
 rw[hm]at nH;unfold Oper.wp;have:(execOp a.eval ⟨some d,.box t x,ty,pos,af,none⟩).run P w= .ok (.value (ay w.heap.size 0 0)) (w.alloc (.cells v.cells t)):=by
  simp[execOp,av ha hx,Instr.box,newVar,newRow,newObj,Sem.run,ay]
 rw[this];exact h _ KL _ _ (ha.put hd _) nH (N2 _ _ nH)
def XQ.bP{W:World}{S:Nat->Nat->Prop}{t:TypeId}{z:Value}{m:Nat}{C:Nat->Value}(ho:ops[i]? =some ⟨some d,.alloc t,ty,pos,af,none⟩)(hk:Region.ready .any ops l=[i])(hl:l.setIfInBounds i true=l')(hz:DU P t=some z)(hm:z.cells.size=m)(hC:∀ i,i<m->cellsOf z.cells i=C i)(hd:Nat.blt d n.sz=true)(N2:∀ b w,XM W S (.cells b 0 m C::H) w->JL B l' w)(h:∀ b,XQ P n ops Q B f l' ((d,ay b 0 0)::L) (XM W S (.cells b 0 m C::H))):XQ P n ops Q B (f+1) l L (XM W S H):=by
 subst hl;refine XQ.step ho rfl hk fun KL a w ha hw hJ=> ?_;have hx:=hw.alloc z.cells t C fun i hi=>by rw[iJ _ _ hi,hC i (hm▸hi)]
 rw[hm]at hx;unfold Oper.wp;have:(execOp a.eval ⟨some d,.alloc t,ty,pos,af,none⟩).run P w= .ok (.value (ay w.heap.size 0 0)) (w.alloc (.cells z.cells t)):=by
  simp[execOp,Instr.alloc,rh hz,newVar,newRow,newObj,Sem.run,ay]
 rw[this];exact h _ KL _ _ (ha.put hd _) hx (N2 _ _ hx)
end
section
variable{P:Program}{n:Fr}{L:PF}{ops:Array Oper}{Q:Exit->Act->World->Prop}{ty:TypeId}{pos:String}{af:Array Edge}{f i:Nat}{B:DS}{l l':Array Bool}
end
end Go.X

namespace Go.X
open Go Go.Proofs Go.Shelf
variable{cur:Array Value}{xs:List Value}{cap g i j k:Nat}{w:World}
def strs(l:List ByteArray):List Value:=l.map Value.string
def lr(l:List ByteArray)(z:Int):ByteArray:=l.getD z.toNat ByteArray.empty
def te{l:List ByteArray}{z:Int}(h:0<=z/\z<l.length:=by omega):(strs l)[0+z.toNat*1]? =some (.string (lr l z)):=by
 have h2:z.toNat<l.length:=og;simp[strs,lr,List.getD,h2]
abbrev kR(p:Option Addr)(cap:Nat)(e:TypeId)(l:List ByteArray):aG:=.row (.slice p l.length cap) e 1 l.length (strs l)
def Li(A:Array Value):Nat->List Value->Array Value
 | _,[]=>A
 | o,v::r=>Li (A.setIfInBounds o v) (o+1) r
theorem jy:∀ (vs:List Value) (A:Array Value) (o:Nat),(Li A o vs).size=A.size
 | [],A,o=>rfl
 | v::r,A,o=>by rw[Li,jy r];simp
theorem qJ:∀ (vs:List Value) (A:Array Value) (o i:Nat),o+vs.length<=A.size->(Li A o vs)[i]? =if o<=i/\i<o+vs.length then vs[i-o]? else A[i]?
 | [],A,o,i,_=>by rw[Li,if_neg (by simp only[List.length_nil];omega)]
 | v::r,A,o,i,h=>by
  simp only[List.length_cons]at h ⊢;rw[Li,qJ r _ (o+1) i eI];by_cases c:i=o
  ·subst c;rw[if_neg og,if_pos og,Array.getElem?_setIfInBounds];simp;try omega
  ·by_cases q:o<=i/\i<o+(r.length+1)
   ·rw[if_pos og,if_pos q,show i-o=(i-(o+1))+1 by omega,List.getElem?_cons_succ]
   ·rw[if_neg og,if_neg q,Array.getElem?_setIfInBounds,if_neg fun e=>c e.symm]
def fe{g:Nat}{t:TypeId}{fz:Nat×Nat} :∀ (vs:List Value) (o:Nat) (w:World) (cur:Array Value),w.heap[g]? =some (.cells cur t fz)->(w.setCells g o vs).heap[g]? =some (.cells (Li cur o vs) t fz)
 | [],o,w,cur,h=>h
 | v::r,o,w,cur,h=>by
  rw[World.setCells,Li];exact fe r (o+1) _ _ (by simp[World.setCell,Array.getElem?_modify,h])
def gW{g:Nat}{t:TypeId}{fz:Nat×Nat}{S:Nat->Nat->Prop}(hS:∀ o,S g o):∀ (vs:List Value) (o:Nat) (w:World) (cur:Array Value),w.heap[g]? =some (.cells cur t fz)->ix w (w.setCells g o vs) S
 | [],o,w,cur,h=>ix.refl _ _
 | v::r,o,w,cur,h=>by
  rw[World.setCells];have h1:ix w (w.setCell ⟨g,o,none⟩ v) S:=by
   have:=ix.setCell (i:=0) (o:=o) h v (S:=S) (hS _);rwa[Nat.add_zero]at this
  have h2:(w.setCell ⟨g,o,none⟩ v).heap[g]? =some (.cells (cur.setIfInBounds o v) t fz):=by simp[World.setCell,Array.getElem?_modify,h]
  exact h1.trans (gW hS r (o+1) _ _ h2) (fun _ _ q _=>q) fun _ _ q _=>q
theorem ix.lq{a b:World}{S T:Nat->Nat->Prop}(h:ix a b S)(hST:∀ x o,S x o->T x o):ix a b T:=
 ⟨h.os,h.tape,h.output,h.size,fun b hb hn=>h.same b hb fun o q=>hn o (hST b o q),fun b A t fz hA=>by
  obtain⟨A',h1,h2,h3⟩:=h.part b A t fz hA
  exact⟨A',h1,h2,fun o hn=>h3 o fun q=>hn (hST b o q)⟩⟩
section
variable{P:Program}{ρ:Ren}
structure Left(w w':World)(v v':Value)(e:TypeId)(k':Nat)(xs':List Value):Prop where
 row:(aG.row v' e 1 k' xs').holds w'
 fq:ix w w' fun b _=>v.ownBlock=some b
 aU:∀ b,v'.ownBlock=some b->v.ownBlock=some b\/w.heap.size<=b
def Left.xm{w':World}{v v':Value}{e:TypeId}{k':Nat}{xs':List Value}{H:List aG}(h:Left w w' v v' e k' xs')(hg:Good (.row v e 1 k xs::H) w):XM w (cx (.row v e 1 k xs::H)) (.row v' e 1 k' xs'::H) w':=
 (lK hg).cC .aa rfl (fun b o ha=>h.aU b ha) (h.fq.lq fun _ _ q=>q) h.row
def rY{p:Option Addr}{e:TypeId}(h:(aG.row (.slice p k cap) e 1 k xs).holds w):(p=none/\cap=0/\k=0/\xs=[])\/∃ g cur,p=some ⟨g,0,none⟩/\w.heap[g]? =some (.cells cur e (0,0))/\k<=cap/\cap<=maxLen/\cur.size=cap/\xs.length=k/\cur.toList.take k=xs:=by
 rcases h.2 with⟨hv,rfl⟩ | ⟨g,dv,cur,hv,_,h1,h2,h3,h4,h5⟩
 ·simp only[Value.slice.injEq]at hv;obtain⟨rfl,_,rfl⟩:=hv;exact .inl ⟨rfl,rfl,rfl,List.eq_nil_of_length_eq_zero (by simpa using h.1)⟩
 ·simp only[Value.slice.injEq,true_and]at hv;obtain⟨rfl,rfl⟩:=hv;exact .inr ⟨g,cur,rfl,h1,h2,h3,by simpa using h4,by simpa using h.1,by simpa using h5⟩
def jd{e:TypeId}(h:w.heap[g]? =some (.cells cur e (0,0)))(j:Nat):w.frozen? ⟨g,j,none⟩=false:=by
 simp[World.frozen?,h]
def zv{e:TypeId}(h:w.heap[g]? =some (.cells cur e (0,0)))(hj:j<cur.size:=by omega):(w.cell? ⟨g,j,none⟩).isSome=true:=by
 simp[World.cell?,h,hj]
theorem V0(h:cur.toList.take k=xs)(hk:k<=cur.size)(hi:i<k):cur[i]? =xs[i]? :=by
 rw[<-h,List.getElem?_take_of_lt hi,Array.getElem?_toList]
theorem rZ(xs:List Value)(x:Value)(i j:Nat)(hi:i<=xs.length:=by omega):(xs.take i++x::xs.drop i)[j]? =if j<i then xs[j]? else if j=i then some x else xs[j-1]? :=by
 by_cases c:j<i
 ·rw[if_pos c,List.getElem?_append_left eI,List.getElem?_take_of_lt c]
 ·rw[if_neg c,List.getElem?_append_right eI];simp only[List.length_take,Nat.min_eq_left hi];by_cases q:j=i
  ·subst q;rw[if_pos rfl];simp
  ·rw[if_neg q,show j-i=(j-i-1)+1 by omega,List.getElem?_cons_succ,List.getElem?_drop,show i+(j-i-1)=j-1 by omega]
def tf{e:TypeId}{x:Value}(h1:w.heap[g]? =some (.cells cur e (0,0)))(h2:k+1<=cap)(h3:cap<=maxLen)(h4:cur.size=cap)(h5:cur.toList.take k=xs)(h6:xs.length=k)(hi:i<=k)(q:Nat):Left w ((((w.drewN q).setCells g (0+(i+1)) (xs.drop i))).setCells g (0+i) [x]) (.slice (some ⟨g,0,none⟩) k cap) (.slice (some ⟨g,0,none⟩) (k+1) cap) e (k+1) (xs.take i++x::xs.drop i):=by
 have a0:(w.drewN q).heap[g]? =some (.cells cur e (0,0)):=h1;have a1:=fe (xs.drop i) (0+(i+1)) _ _ a0;have a2:=fe [x] (0+i) _ _ a1;have hl:(xs.drop i).length=k-i:=by simp[h6]
 refine⟨⟨by simp[h6];omega,.inr ⟨g,cap,_,rfl,Nat.zero_le _,a2,h2,h3,by rw[jy,jy,h4];simp,?_⟩⟩,?_,fun b hb=>.inl hb⟩
 ·apply List.ext_getElem?;intro j;rw[rZ _ _ _ _,Nat.mul_one];by_cases hj:j<k+1
  ·rw[List.getElem?_take_of_lt hj,Array.getElem?_toList,qJ _ _ _ _ (by rw[jy];simp;omega),qJ _ _ _ _ (by rw[hl];omega)];by_cases c:j<i
   ·rw[if_neg eI,if_neg og,if_pos c,V0 h5 og og]
   ·rw[if_neg c];by_cases q2:j=i
    ·subst q2;rw[if_pos sq,if_pos rfl];simp
    ·rw[if_neg eI,if_pos (by rw[hl];omega),if_neg q2,List.getElem?_drop];congr 1;omega
  ·rw[List.getElem?_take_eq_none og,if_neg og,if_neg og,List.getElem?_eq_none og]
 ·have k1:ix w (w.drewN q) (fun b _=>(Value.slice (some ⟨g,0,none⟩) k cap).ownBlock=some b):=⟨rfl,rfl,rfl,Nat.le_refl _,fun _ _ _=>rfl,fun _ A _ _ h=>⟨A,h,rfl,fun _ _=>rfl⟩⟩;have k2:=gW (S:=fun b _=>(Value.slice (some ⟨g,0,none⟩) k cap).ownBlock=some b) (fun _=>rfl) (xs.drop i) (0+(i+1)) _ _ a0;have k3:=gW (S:=fun b _=>(Value.slice (some ⟨g,0,none⟩) k cap).ownBlock=some b) (fun _=>rfl) [x] (0+i) _ _ a1;exact(k1.trans k2 (fun _ _ q _=>q) fun _ _ q _=>q).trans k3 (fun _ _ q _=>q) fun _ _ q _=>q
def Hj{w':World}{p:Option Addr}{C:Nat}{e:TypeId}{x:Value}(hk:ix w w' fun _ _=>False)(h1:w'.heap[w.heap.size]? =some (.cells cur e (0,0)))(h2:k+1<=C)(h3:C<=maxLen)(h4:cur.size=C)(h6:xs.length=k)(hi:i<=k)(h5:∀ j,j<k+1->cur[j]? =(xs.take i++x::xs.drop i)[j]?):Left w w' (.slice p k cap) (.slice (some ⟨w.heap.size,0,none⟩) (k+1) C) e (k+1) (xs.take i++x::xs.drop i):=by
 have hl:(xs.take i++x::xs.drop i).length=k+1:=eI;refine⟨⟨by rw[hl];omega,.inr ⟨w.heap.size,C,cur,rfl,Nat.zero_le _,h1,h2,h3,by rw[h4];omega,?_⟩⟩,hk.lq fun _ _ q=>q.elim,fun b hb=>.inr (by simp only[Value.ownBlock,Option.some.injEq]at hb;omega)⟩;apply List.ext_getElem?;intro j;by_cases hj:j<k+1
 ·rw[List.getElem?_take_of_lt og,Array.getElem?_toList];exact h5 j hj
 ·rw[List.getElem?_take_eq_none og,List.getElem?_eq_none og]
set_option maxHeartbeats 1000000 in
def Gq(L:Lays2.n22 P ρ)(p:Option Addr)(cap:Nat)(l:List ByteArray)(i:Nat)(hi:i<=l.length)(x:ByteArray)(vb:Nat)(e2:TypeId)(hl:l.length<=1000000):Spec P (ρ.f 22) [.slice p l.length cap,.int .i64 i,.slice (some ⟨vb,0,none⟩) 1 1] [kR p cap (ρ.t 9) l,.row (.slice (some ⟨vb,0,none⟩) 1 1) e2 1 1 [.string x]] (fun v H1=>∃ p' dv,v= .slice p' (l.length+1) dv/\H1=[.row (.slice p' (l.length+1) dv) (ρ.t 9) 1 (l.length+1) (strs (l.insertIdx i x)),.row (.slice (some ⟨vb,0,none⟩) 1 1) e2 1 1 [.string x]]):=by
 intro w hw;have iA:(kR p cap (ρ.t 9) l).holds w:=hw.1 _ sq;have V1:(aG.row (.slice (some ⟨vb,0,none⟩) 1 1) e2 1 1 [.string x]).holds w:=hw.1 _ sq;obtain⟨aaB,q1,_,_,q4,q5⟩:=pH V1;have hvs:∀ j v,([.string x]:List Value)[j]? =some v->w.cell? ⟨vb,0+j,none⟩=some v:=fun j v hj=>cell_of_row V1 hj;have h1v:∀ v∈([.string x]:List Value),v.oneCell'=true:=fun v hv=>by
  simp only[List.mem_singleton]at hv;subst hv;rfl
 have aeF:strs (l.insertIdx i x)=(strs l).take i++ .string x::(strs l).drop i:=by
  unfold strs;apply List.ext_getElem?;intro j;rw[rZ _ _ _ _ (by simpa using hi),List.getElem?_map,List.getElem?_insertIdx];by_cases c:j<i
  ·rw[if_pos c,if_pos c,List.getElem?_map]
  ·rw[if_neg c,if_neg c];by_cases q:j=i
   ·subst q;rw[if_pos rfl,if_pos rfl,if_pos (by simpa using hi)];rfl
   ·rw[if_neg q,if_neg q,List.getElem?_map]
 have hlen:(strs l).length=l.length:=by simp[strs]
 have fin:∀ {ee:Ending} {w':World} {p':Option Addr} {dv:Nat},ee= .returned (.slice p' (l.length+1) dv)->Left w w' (.slice p l.length cap) (.slice p' (l.length+1) dv) (ρ.t 9) (l.length+1) ((strs l).take i++ .string x::(strs l).drop i)->
   ∃ v H',ee= .returned v/\(∃ p' dv,v= .slice p' (l.length+1) dv/\H'=[aG.row (.slice p' (l.length+1) dv) (ρ.t 9) 1 (l.length+1) (strs (l.insertIdx i x)),.row (.slice (some ⟨vb,0,none⟩) 1 1) e2 1 1 [.string x]])/\H'.all aG.wr=true/\XM w (cx [kR p cap (ρ.t 9) l,.row (.slice (some ⟨vb,0,none⟩) 1 1) e2 1 1 [.string x]]) H' w':=fun he hL=>
  ⟨_,_,he,⟨_,_,rfl,rfl⟩,rfl,by rw[aeF];exact hL.xm hw⟩
 have hzero:∀ k,(Builtin.zeroCells (Value.string ⟨#[]⟩).cells k).size=k:=fun k=>by rw[size_zeroCells];simp[Value.cells]
 have grown:∀ (w':World) (C:Nat) (cur:Array Value),ix w w' (fun _ _=>False)->w'.heap[w.heap.size]? =some (.cells cur (ρ.t 9) (0,0))->l.length+1<=C->C<=maxLen->cur.size=C->(∀ j,j<l.length+1->cur[j]? =((strs l).take i++ .string x::(strs l).drop i)[j]?)->
   Left w w' (.slice p l.length cap) (.slice (some ⟨w.heap.size,0,none⟩) (l.length+1) C) (ρ.t 9) (l.length+1) ((strs l).take i++ .string x::(strs l).drop i):=fun w' C cur a1 a2 a3 a4 a5 a6=>Hj a1 a2 a3 a4 a5 hlen hi a6
 have zw:i=l.length->cap<l.length+1->l.length<=cap->(p=none->l.length=0)->(∀ a,p=some a->∀ j v,(strs l)[j]? =some v->w.cell? (a.add j)=some v)->Calls P (ρ.f 22) #[.slice p l.length cap,.int .i64 i,.slice (some ⟨vb,0,none⟩) 1 1] w fun e w'=>∃ v H',e= .returned v/\(∃ p' dv,v= .slice p' (l.length+1) dv/\H'=[aG.row (.slice p' (l.length+1) dv) (ρ.t 9) 1 (l.length+1) (strs (l.insertIdx i x)),.row (.slice (some ⟨vb,0,none⟩) 1 1) e2 1 1 [.string x]])/\H'.all aG.wr=true/\XM w (cx [kR p cap (ρ.t 9) l,.row (.slice (some ⟨vb,0,none⟩) 1 1) e2 1 1 [.string x]]) H' w':=by
  intro V2 mM I5 aaE Dq;subst V2;refine(Any2.slices_Insert_string_end_grow L p l.length cap vb 0 1 1 (strs l) [.string x] w og I5 mM og hlen rfl aaE Dq hvs h1v).mono fun ee w' ⟨he,er⟩=> ?_;subst er;have NW:=grownCap_ge w (l.length+1) cap (ρ.t 9);have Sv:grownCap w (l.length+1) cap (ρ.t 9)<=maxLen:=grownCap_le_maxLen w (l.length+1) cap (ρ.t 9) (by simp only[maxLen];omega);refine fin he (grown _ _ _ (wA (kO w.drew _ _)) (heap_alloc_new w.drew _) NW Sv ?_ fun j hj=> ?_)
  ·rw[Array.size_append,hzero];simp[hlen];omega
  ·rw[Array.getElem?_append_left (by simp[hlen];omega),List.getElem?_toArray,List.take_of_length_le og,List.drop_of_length_le og]
 rcases rY iA with⟨rfl,rfl,hk,hx⟩ | ⟨g,cur,rfl,h1,h2,h3,h4,h5,h6⟩
 ·exact zw og og og (fun _=>hk) fun a ha=>by cases ha
 ·have gJ:vb≠g:=fun e=>by
   have hp:=List.pairwise_cons.1 hw.2;exact hp.1 (aG.row (.slice (some ⟨vb,0,none⟩) 1 1) e2 1 1 [.string x]) sq rfl g 0 rfl (by simp only[aG.gL,Value.ownBlock];rw[e])
  have Dq:∀ j v,(strs l)[j]? =some v->w.cell? ⟨g,0+j,none⟩=some v:=fun j v hj=>cell_of_row iA hj;have h1c:∀ v∈strs l,v.oneCell'=true:=fun v hv=>by
   obtain⟨y,_,rfl⟩:=List.mem_map.1 hv;rfl
  have I6:cap<=9223372036854775807:=by simp only[maxLen]at h3;omega
  by_cases mM:l.length+1<=cap
  ·by_cases V2:i=l.length
   ·subst V2;refine(Any2.slices_Insert_string_end_room L g 0 l.length cap vb 0 1 1 [.string x] w og mM I6 rfl (fun j hj=>zv h1) (fun j _=>jd h1 _) hvs h1v).mono fun ee w' ⟨he,er⟩=> ?_;subst er;have hL:=tf (i:=l.length) (x:=.string x) h1 mM h3 h4 h6 h5 og 0;rw[List.drop_of_length_le (show(strs l).length<=l.length by omega)]at hL;rw[List.drop_of_length_le (show(strs l).length<=l.length by omega)]at fin;exact fin he hL
   ·refine(Any2.slices_Insert_string_shift L g 0 l.length cap i vb 0 1 1 (strs l) [.string x] w og og mM I6 gJ hlen rfl Dq (fun j hj=>zv h1) (fun j _=>jd h1 _) hvs h1c h1v e2 (ρ.t 9) aaB.size cur.size
     (by simp[World.shape?,q1]) (by simp[World.shape?,h1]) og (jd q1 _) (jd q1 _)).mono fun ee w' ⟨he,er⟩=> ?_
    subst er;exact fin he (tf (i:=i) (x:=.string x) h1 mM h3 h4 h6 h5 og 1)
  ·by_cases V2:i=l.length
   ·refine zw V2 og h2 (fun q=>by cases q) (fun a ha j v hj=> ?_);obtain rfl:a=⟨g,0,none⟩:=(Option.some.inj ha).symm;have:=Dq j v hj;have e0:(⟨g,0,none⟩:Addr).add j=⟨g,0+j,none⟩:=by cases j<;>simp[Addr.add]
    rw[e0];exact this
   ·refine(Any2.slices_Insert_string_grow L g 0 l.length cap i vb 0 1 1 (strs l) [.string x] w og og h2 og og hlen rfl Dq hvs h1c h1v).mono fun ee w' ⟨he,er⟩=> ?_;have NW:=grownCap_ge w (l.length+1) cap (ρ.t 9);have Sv:grownCap w (l.length+1) cap (ρ.t 9)<=maxLen:=grownCap_le_maxLen w (l.length+1) cap (ρ.t 9) (by simp only[maxLen];omega);generalize hA:((strs l).take i).toArray++Builtin.zeroCells (Value.string ⟨#[]⟩).cells (l.length+1-i)++Builtin.zeroCells (Value.string ⟨#[]⟩).cells (grownCap w (l.length+1) cap (ρ.t 9)-(l.length+1))=A0 at er;have hAs:A0.size=grownCap w (l.length+1) cap (ρ.t 9):=by
     rw[<-hA,Array.size_append,Array.size_append,hzero,hzero];simp[hlen];omega
    have b0:(w.alloc (.cells A0 (ρ.t 9))).drew.heap[w.heap.size]? =some (.cells A0 (ρ.t 9) (0,0)):=heap_alloc_new w _;have b1:=fe [.string x] i _ _ b0;have b2:(((w.alloc (.cells A0 (ρ.t 9))).drew.setCells w.heap.size i [.string x]).drew).heap[w.heap.size]? =_:=b1;have b3:=fe ((strs l).drop i) (i+1) _ _ b2;subst er;refine fin he (grown _ _ _ ?_ b3 NW Sv (by rw[jy,jy,hAs]) fun j hj=> ?_)
    ·have k0:ix w (w.alloc (.cells A0 (ρ.t 9))).drew (fun _ _=>False):=by
      have:=kO w (.cells A0 (ρ.t 9)) fun _ _=>False;exact⟨this.os,this.tape,this.output,this.size,this.same,this.part⟩
     have k1:=gW (S:=fun b _=>b=w.heap.size) (fun _=>rfl) [.string x] i _ _ b0;have k1':ix (w.alloc (.cells A0 (ρ.t 9))).drew (((w.alloc (.cells A0 (ρ.t 9))).drew.setCells w.heap.size i [.string x]).drew) (fun b _=>b=w.heap.size):=⟨k1.os,k1.tape,k1.output,k1.size,k1.same,k1.part⟩;have k2:=gW (S:=fun b _=>b=w.heap.size) (fun _=>rfl) ((strs l).drop i) (i+1) _ _ b2;exact k0.trans (k1'.trans k2 (fun _ _ q _=>q) fun _ _ q _=>q) (fun _ _ q _=>q) fun y o q hy=>og
    ·have hd:((strs l).drop i).length=l.length-i:=by simp[hlen]
     rw[rZ _ _ _ _,qJ _ _ _ _ (by rw[jy,hAs,hd];omega),qJ _ _ _ _ (by rw[hAs];simp;omega)];by_cases c:j<i
     ·rw[if_neg og,if_neg eI,if_pos c,<-hA,Array.getElem?_append_left (by rw[Array.size_append,hzero];simp[hlen];omega),Array.getElem?_append_left (by simp[hlen];omega),List.getElem?_toArray,List.getElem?_take_of_lt c]
     ·rw[if_neg c];by_cases q:j=i
      ·subst q;rw[if_neg og,if_pos sq,if_pos rfl];simp
      ·rw[if_pos (by rw[hd];omega),if_neg q,List.getElem?_drop];congr 1;omega
set_option maxHeartbeats 1000000 in
def N3(L:Lays2.n21 P ρ)(p:Option Addr)(cap:Nat)(l:List Int)(i:Nat)(hi:i<=l.length)(x:Int)(vb:Nat)(e2:TypeId)(hl:l.length<=1000000):Spec P (ρ.f 21) [.slice p l.length cap,.int .i64 i,.slice (some ⟨vb,0,none⟩) 1 1] [dH p cap (ρ.t 3) l,.row (.slice (some ⟨vb,0,none⟩) 1 1) e2 1 1 [.int .i64 x]] (fun v H1=>∃ p' dv,v= .slice p' (l.length+1) dv/\H1=[.row (.slice p' (l.length+1) dv) (ρ.t 3) 1 (l.length+1) (gi (l.insertIdx i x)),.row (.slice (some ⟨vb,0,none⟩) 1 1) e2 1 1 [.int .i64 x]]):=by
 intro w hw;have iA:(dH p cap (ρ.t 3) l).holds w:=hw.1 _ sq;have V1:(aG.row (.slice (some ⟨vb,0,none⟩) 1 1) e2 1 1 [.int .i64 x]).holds w:=hw.1 _ sq;obtain⟨aaB,q1,_,_,q4,q5⟩:=pH V1;have hvs:∀ j v,([.int .i64 x]:List Value)[j]? =some v->w.cell? ⟨vb,0+j,none⟩=some v:=fun j v hj=>cell_of_row V1 hj;have h1v:∀ v∈([.int .i64 x]:List Value),v.oneCell'=true:=fun v hv=>by
  simp only[List.mem_singleton]at hv;subst hv;rfl
 have aeF:gi (l.insertIdx i x)=(gi l).take i++ .int .i64 x::(gi l).drop i:=by
  unfold gi;apply List.ext_getElem?;intro j;rw[rZ _ _ _ _ (by simpa using hi),List.getElem?_map,List.getElem?_insertIdx];by_cases c:j<i
  ·rw[if_pos c,if_pos c,List.getElem?_map]
  ·rw[if_neg c,if_neg c];by_cases q:j=i
   ·subst q;rw[if_pos rfl,if_pos rfl,if_pos (by simpa using hi)];rfl
   ·rw[if_neg q,if_neg q,List.getElem?_map]
 have hlen:(gi l).length=l.length:=by simp[gi]
 have fin:∀ {ee:Ending} {w':World} {p':Option Addr} {dv:Nat},ee= .returned (.slice p' (l.length+1) dv)->Left w w' (.slice p l.length cap) (.slice p' (l.length+1) dv) (ρ.t 3) (l.length+1) ((gi l).take i++ .int .i64 x::(gi l).drop i)->
   ∃ v H',ee= .returned v/\(∃ p' dv,v= .slice p' (l.length+1) dv/\H'=[aG.row (.slice p' (l.length+1) dv) (ρ.t 3) 1 (l.length+1) (gi (l.insertIdx i x)),.row (.slice (some ⟨vb,0,none⟩) 1 1) e2 1 1 [.int .i64 x]])/\H'.all aG.wr=true/\XM w (cx [dH p cap (ρ.t 3) l,.row (.slice (some ⟨vb,0,none⟩) 1 1) e2 1 1 [.int .i64 x]]) H' w':=fun he hL=>
  ⟨_,_,he,⟨_,_,rfl,rfl⟩,rfl,by rw[aeF];exact hL.xm hw⟩
 have hzero:∀ k,(Builtin.zeroCells (Value.int .i64 0).cells k).size=k:=fun k=>by rw[size_zeroCells];simp[Value.cells]
 have grown:∀ (w':World) (C:Nat) (cur:Array Value),ix w w' (fun _ _=>False)->w'.heap[w.heap.size]? =some (.cells cur (ρ.t 3) (0,0))->l.length+1<=C->C<=maxLen->cur.size=C->(∀ j,j<l.length+1->cur[j]? =((gi l).take i++ .int .i64 x::(gi l).drop i)[j]?)->
   Left w w' (.slice p l.length cap) (.slice (some ⟨w.heap.size,0,none⟩) (l.length+1) C) (ρ.t 3) (l.length+1) ((gi l).take i++ .int .i64 x::(gi l).drop i):=fun w' C cur a1 a2 a3 a4 a5 a6=>Hj a1 a2 a3 a4 a5 hlen hi a6
 have zw:i=l.length->cap<l.length+1->l.length<=cap->(p=none->l.length=0)->(∀ a,p=some a->∀ j v,(gi l)[j]? =some v->w.cell? (a.add j)=some v)->Calls P (ρ.f 21) #[.slice p l.length cap,.int .i64 i,.slice (some ⟨vb,0,none⟩) 1 1] w fun e w'=>∃ v H',e= .returned v/\(∃ p' dv,v= .slice p' (l.length+1) dv/\H'=[aG.row (.slice p' (l.length+1) dv) (ρ.t 3) 1 (l.length+1) (gi (l.insertIdx i x)),.row (.slice (some ⟨vb,0,none⟩) 1 1) e2 1 1 [.int .i64 x]])/\H'.all aG.wr=true/\XM w (cx [dH p cap (ρ.t 3) l,.row (.slice (some ⟨vb,0,none⟩) 1 1) e2 1 1 [.int .i64 x]]) H' w':=by
  intro V2 mM I5 aaE Dq;subst V2;refine(Any2.slices_Insert_int_end_grow L p l.length cap vb 0 1 1 (gi l) [.int .i64 x] w og I5 mM og hlen rfl aaE Dq hvs h1v).mono fun ee w' ⟨he,er⟩=> ?_;subst er;have NW:=grownCap_ge w (l.length+1) cap (ρ.t 3);have Sv:grownCap w (l.length+1) cap (ρ.t 3)<=maxLen:=grownCap_le_maxLen w (l.length+1) cap (ρ.t 3) (by simp only[maxLen];omega);refine fin he (grown _ _ _ (wA (kO w.drew _ _)) (heap_alloc_new w.drew _) NW Sv ?_ fun j hj=> ?_)
  ·rw[Array.size_append,hzero];simp[hlen];omega
  ·rw[Array.getElem?_append_left (by simp[hlen];omega),List.getElem?_toArray,List.take_of_length_le og,List.drop_of_length_le og]
 rcases rY iA with⟨rfl,rfl,hk,hx⟩ | ⟨g,cur,rfl,h1,h2,h3,h4,h5,h6⟩
 ·exact zw og og og (fun _=>hk) fun a ha=>by cases ha
 ·have gJ:vb≠g:=fun e=>by
   have hp:=List.pairwise_cons.1 hw.2;exact hp.1 (aG.row (.slice (some ⟨vb,0,none⟩) 1 1) e2 1 1 [.int .i64 x]) sq rfl g 0 rfl (by simp only[aG.gL,Value.ownBlock];rw[e])
  have Dq:∀ j v,(gi l)[j]? =some v->w.cell? ⟨g,0+j,none⟩=some v:=fun j v hj=>cell_of_row iA hj;have h1c:∀ v∈gi l,v.oneCell'=true:=fun v hv=>by
   obtain⟨y,_,rfl⟩:=List.mem_map.1 hv;rfl
  have I6:cap<=9223372036854775807:=by simp only[maxLen]at h3;omega
  by_cases mM:l.length+1<=cap
  ·by_cases V2:i=l.length
   ·subst V2;refine(Any2.slices_Insert_int_end_room L g 0 l.length cap vb 0 1 1 [.int .i64 x] w og mM I6 rfl (fun j hj=>zv h1) (fun j _=>jd h1 _) hvs h1v).mono fun ee w' ⟨he,er⟩=> ?_;subst er;have hL:=tf (i:=l.length) (x:=.int .i64 x) h1 mM h3 h4 h6 h5 og 0;rw[List.drop_of_length_le (show(gi l).length<=l.length by omega)]at hL;rw[List.drop_of_length_le (show(gi l).length<=l.length by omega)]at fin;exact fin he hL
   ·refine(Any2.slices_Insert_int_shift L g 0 l.length cap i vb 0 1 1 (gi l) [.int .i64 x] w og og mM I6 gJ hlen rfl Dq (fun j hj=>zv h1) (fun j _=>jd h1 _) hvs h1c h1v e2 (ρ.t 3) aaB.size cur.size
     (by simp[World.shape?,q1]) (by simp[World.shape?,h1]) og (jd q1 _) (jd q1 _)).mono fun ee w' ⟨he,er⟩=> ?_
    subst er;exact fin he (tf (i:=i) (x:=.int .i64 x) h1 mM h3 h4 h6 h5 og 1)
  ·by_cases V2:i=l.length
   ·refine zw V2 og h2 (fun q=>by cases q) (fun a ha j v hj=> ?_);obtain rfl:a=⟨g,0,none⟩:=(Option.some.inj ha).symm;have:=Dq j v hj;have e0:(⟨g,0,none⟩:Addr).add j=⟨g,0+j,none⟩:=by cases j<;>simp[Addr.add]
    rw[e0];exact this
   ·refine(Any2.slices_Insert_int_grow L g 0 l.length cap i vb 0 1 1 (gi l) [.int .i64 x] w og og h2 og og hlen rfl Dq hvs h1c h1v).mono fun ee w' ⟨he,er⟩=> ?_;have NW:=grownCap_ge w (l.length+1) cap (ρ.t 3);have Sv:grownCap w (l.length+1) cap (ρ.t 3)<=maxLen:=grownCap_le_maxLen w (l.length+1) cap (ρ.t 3) (by simp only[maxLen];omega);generalize hA:((gi l).take i).toArray++Builtin.zeroCells (Value.int .i64 0).cells (l.length+1-i)++Builtin.zeroCells (Value.int .i64 0).cells (grownCap w (l.length+1) cap (ρ.t 3)-(l.length+1))=A0 at er;have hAs:A0.size=grownCap w (l.length+1) cap (ρ.t 3):=by
     rw[<-hA,Array.size_append,Array.size_append,hzero,hzero];simp[hlen];omega
    have b0:(w.alloc (.cells A0 (ρ.t 3))).drew.heap[w.heap.size]? =some (.cells A0 (ρ.t 3) (0,0)):=heap_alloc_new w _;have b1:=fe [.int .i64 x] i _ _ b0;have b2:(((w.alloc (.cells A0 (ρ.t 3))).drew.setCells w.heap.size i [.int .i64 x]).drew).heap[w.heap.size]? =_:=b1;have b3:=fe ((gi l).drop i) (i+1) _ _ b2;subst er;refine fin he (grown _ _ _ ?_ b3 NW Sv (by rw[jy,jy,hAs]) fun j hj=> ?_)
    ·have k0:ix w (w.alloc (.cells A0 (ρ.t 3))).drew (fun _ _=>False):=by
      have:=kO w (.cells A0 (ρ.t 3)) fun _ _=>False;exact⟨this.os,this.tape,this.output,this.size,this.same,this.part⟩
     have k1:=gW (S:=fun b _=>b=w.heap.size) (fun _=>rfl) [.int .i64 x] i _ _ b0;have k1':ix (w.alloc (.cells A0 (ρ.t 3))).drew (((w.alloc (.cells A0 (ρ.t 3))).drew.setCells w.heap.size i [.int .i64 x]).drew) (fun b _=>b=w.heap.size):=⟨k1.os,k1.tape,k1.output,k1.size,k1.same,k1.part⟩;have k2:=gW (S:=fun b _=>b=w.heap.size) (fun _=>rfl) ((gi l).drop i) (i+1) _ _ b2;exact k0.trans (k1'.trans k2 (fun _ _ q _=>q) fun _ _ q _=>q) (fun _ _ q _=>q) fun y o q hy=>og
    ·have hd:((gi l).drop i).length=l.length-i:=by simp[hlen]
     rw[rZ _ _ _ _,qJ _ _ _ _ (by rw[jy,hAs,hd];omega),qJ _ _ _ _ (by rw[hAs];simp;omega)];by_cases c:j<i
     ·rw[if_neg og,if_neg eI,if_pos c,<-hA,Array.getElem?_append_left (by rw[Array.size_append,hzero];simp[hlen];omega),Array.getElem?_append_left (by simp[hlen];omega),List.getElem?_toArray,List.getElem?_take_of_lt c]
     ·rw[if_neg c];by_cases q:j=i
      ·subst q;rw[if_neg og,if_pos sq,if_pos rfl];simp
      ·rw[if_pos (by rw[hd];omega),if_neg q,List.getElem?_drop];congr 1;omega
def bsS(l:List ByteArray)(x:ByteArray):Nat:=Lib.bsGo (fun t=>Op.bytesLess (l.getD t ByteArray.empty).toList x.toList) l.length 0 l.length
def Lj(l:List ByteArray)(x:ByteArray):Bool:=decide (bsS l x<l.length/\l.getD (bsS l x) ByteArray.empty=x)
theorem zy{l:List ByteArray}(h:j<l.length):(strs l)[j]? =some (.string (l.getD j ByteArray.empty)):=by simp[strs,List.getD,h]
def V3{l:List Int}(h:j<l.length):(gi l)[j]? =some (.int .i64 (l.getD j 0)):=by simp[gi,List.getD,h]
def N4(L:Lays2.n26 P ρ)(p:Option Addr)(cap:Nat)(e:TypeId)(l:List ByteArray)(x:ByteArray)(hl:l.length<=1000000):Spec P (ρ.f 26) [.slice p l.length cap,.string x] [kR p cap e l] (ap (.tuple #[.int .i64 (bsS l x),.bool (Lj l x)]) [kR p cap e l]):=by
 intro w hw;have iA:(kR p cap e l).holds w:=hw.1 _ sq;have nil:l=[]->Calls P (ρ.f 26) [.slice p l.length cap,.string x].toArray w fun ee w'=>∃ v H',ee= .returned v/\(v= .tuple #[.int .i64 (bsS l x),.bool (Lj l x)]/\H'=[kR p cap e l])/\H'.all aG.wr=true/\XM w (cx [kR p cap e l]) H' w':=fun h=>by
  subst h;refine(Any2.slices_BinarySearch_string_empty L p cap x w).mono fun ee w' ⟨he,er⟩=>⟨_,_,he,⟨rfl,rfl⟩,rfl,?_⟩;subst er;exact lK hw
 rcases rY iA with⟨rfl,rfl,hk,hx⟩ | ⟨g,cur,rfl,h1,h2,h3,h4,h5,h6⟩
 ·exact nil (List.eq_nil_of_length_eq_zero hk)
 ·refine(Any2.slices_BinarySearch_string L g 0 l.length cap (fun t=>l.getD t ByteArray.empty) x w og fun j hj=>cell_of_row iA (zy hj)).mono fun ee w' ⟨he,q,er⟩=>⟨_,_,he,⟨rfl,rfl⟩,rfl,?_⟩;subst er;exact(lK hw).drawn q
def Lk{q:Nat}{e:TypeId}{ys:List Value}(h1:w.heap[g]? =some (.cells cur e (0,0)))(h2:k<=cap)(h3:cap<=maxLen)(h4:cur.size=cap)(h6:xs.length=k)(hi:i<k)(hy:ys.length=k)(ht:ys.take (k-1)=xs.eraseIdx i):Left w ((w.drewN q).setCells g 0 ys) (.slice (some ⟨g,0,none⟩) k cap) (.slice (some ⟨g,0,none⟩) (k-1) cap) e (k-1) (xs.eraseIdx i):=by
 have a0:(w.drewN q).heap[g]? =some (.cells cur e (0,0)):=h1;have a1:=fe ys 0 _ _ a0;have hl:(xs.eraseIdx i).length=k-1:=by rw[List.length_eraseIdx,if_pos og,h6]
 refine⟨⟨by rw[hl];omega,.inr ⟨g,cap,_,rfl,Nat.zero_le _,a1,og,h3,by rw[jy,h4];omega,?_⟩⟩,?_,fun b hb=>.inl hb⟩
 ·rw[<-ht,Nat.mul_one];apply List.ext_getElem?;intro j;by_cases hj:j<k-1
  ·rw[List.getElem?_take_of_lt hj,List.getElem?_take_of_lt hj,Array.getElem?_toList,qJ _ _ _ _ og,if_pos og,Nat.sub_zero]
  ·rw[List.getElem?_take_eq_none og,List.getElem?_take_eq_none og]
 ·have k1:ix w (w.drewN q) (fun b _=>(Value.slice (some ⟨g,0,none⟩) k cap).ownBlock=some b):=⟨rfl,rfl,rfl,Nat.le_refl _,fun _ _ _=>rfl,fun _ A _ _ h=>⟨A,h,rfl,fun _ _=>rfl⟩⟩;exact k1.trans (gW (S:=fun b _=>(Value.slice (some ⟨g,0,none⟩) k cap).ownBlock=some b) (fun _=>rfl) ys 0 _ _ a0) (fun _ _ q _=>q) fun _ _ q _=>q
def N5(L:Lays2.n23 P ρ)(p:Option Addr)(cap:Nat)(l:List Int)(i:Nat)(hi:i<l.length)(e:TypeId)(hl:l.length<=1000000):Spec P (ρ.f 23) [.slice p l.length cap,.int .i64 i,.int .i64 (i+1)] [dH p cap e l] (ap (.slice p (l.length-1) cap) [.row (.slice p (l.length-1) cap) e 1 (l.length-1) (gi (l.eraseIdx i))]):=by
 intro w hw;have iA:(dH p cap e l).holds w:=hw.1 _ sq;rcases rY iA with⟨rfl,rfl,hk,hx⟩ | ⟨g,cur,rfl,h1,h2,h3,h4,h5,h6⟩
 ·omega
 ·have I6:cap<=9223372036854775807:=by simp only[maxLen]at h3;omega
  refine(Any.slices_Delete_int_cells L g 0 l.length cap i (i+1) l w (Nat.le_refl _) h2 I6 og og (fun j hj=>cell_of_row iA (V3 hj)) fun j _=>jd h1 _).mono fun ee w' ⟨he,q,er⟩=>⟨_,_,(by rw[he];congr 2;omega),⟨rfl,rfl⟩,rfl,?_⟩;subst er;have N6:gi (l.eraseIdx i)=(gi l).eraseIdx i:=by unfold gi;simp[List.eraseIdx_eq_take_drop_succ,List.map_take,List.map_drop]
  rw[N6];refine Left.xm (Lk h1 h2 h3 h4 (by simp[gi]) hi ?_ ?_) hw
  ·simp;omega
  ·rw[<-N6,List.take_length,List.eraseIdx_eq_take_drop_succ];unfold gi;rw[<-List.map_take,List.take_append_of_le_length eI,List.take_of_length_le eI]
def Gs(L:Lays2.n24 P ρ)(p:Option Addr)(cap:Nat)(l:List ByteArray)(i:Nat)(hi:i<l.length)(e:TypeId)(hl:l.length<=1000000):Spec P (ρ.f 24) [.slice p l.length cap,.int .i64 i,.int .i64 (i+1)] [kR p cap e l] (ap (.slice p (l.length-1) cap) [.row (.slice p (l.length-1) cap) e 1 (l.length-1) (strs (l.eraseIdx i))]):=by
 intro w hw;have iA:(kR p cap e l).holds w:=hw.1 _ sq;rcases rY iA with⟨rfl,rfl,hk,hx⟩ | ⟨g,cur,rfl,h1,h2,h3,h4,h5,h6⟩
 ·omega
 ·have I6:cap<=9223372036854775807:=by simp only[maxLen]at h3;omega
  refine(Any.slices_Delete_string_cells L g 0 l.length cap i (i+1) (fun t=>l.getD t ByteArray.empty) w h2 I6 og og (fun j hj=>cell_of_row iA (zy hj)) fun j _=>jd h1 _).mono fun ee w' ⟨he,q,er⟩=>⟨_,_,(by rw[he];congr 2;omega),⟨rfl,rfl⟩,rfl,?_⟩;subst er;have N6:strs (l.eraseIdx i)=(strs l).eraseIdx i:=by unfold strs;simp[List.eraseIdx_eq_take_drop_succ,List.map_take,List.map_drop]
  have hso:(Lib.strsOf (fun t=>l.getD t ByteArray.empty) l.length).map encStr=strs l:=by
   apply List.ext_getElem?;intro j;by_cases hj:j<l.length
   ·rw[zy hj];simp[Lib.strsOf,hj,encStr]
   ·rw[List.getElem?_eq_none (by simp[Lib.strsOf];omega),List.getElem?_eq_none (by simp[strs];omega)]
  have D9:=Lib.strsOf_length (fun t=>l.getD t ByteArray.empty) l.length;generalize Lib.strsOf (fun t=>l.getD t ByteArray.empty) l.length=Z at hso D9 ⊢;rw[N6];refine Left.xm (Lk h1 h2 h3 h4 (by simp[strs]) hi ?_ ?_) hw
  ·simp[D9];omega
  ·rw[List.eraseIdx_eq_take_drop_succ,<-hso,<-List.map_take,List.take_append_of_le_length (by simp[D9];omega),List.take_of_length_le (by simp[D9];omega)];simp[List.map_take,List.map_drop]
def SJ{base:Nat}{e:TypeId}{sz n:Nat}{v:Value}(h:w.ownsRow base e sz v n xs):w.ownsRow 0 e sz v n xs:=
 ⟨h.1,h.2.imp id fun ⟨g,cap,cur,h1,_,h2⟩=>⟨g,cap,cur,h1,Nat.zero_le _,h2⟩⟩
def I7(L:Lays2.n16 P ρ)(p:Option Addr)(cap:Nat)(e:TypeId)(l:List ByteArray)(hl:l.length<=1000000):Spec P (ρ.f 16) [.slice p l.length cap] [kR p cap e l] (fun v H1=>∃ p' dv,v= .slice p' l.length dv/\H1=[kR p' dv (ρ.t 9) l,kR p cap e l]):=by
 intro w hw;have iA:(kR p cap e l).holds w:=hw.1 _ sq;rcases rY iA with⟨rfl,rfl,hk,hx⟩ | ⟨g,cur,rfl,h1,h2,h3,h4,h5,h6⟩
 ·have hn:=List.eq_nil_of_length_eq_zero hk;subst hn;refine(Any.slices_Clone_string_nil L 0 0 w).mono fun ee w' ⟨he,er⟩=>⟨_,_,he,⟨_,_,rfl,rfl⟩,rfl,?_⟩;subst er;exact(lK hw).fU _ _
 ·refine(Any.slices_Clone_string L g 0 l.length cap l w (Nat.le_refl _) og fun j hj=>cell_of_row iA (zy hj)).mono fun ee w' ⟨v',he,aeH,hnn,hb⟩=> ?_;rcases aeH.2 with⟨hv,_⟩ | ⟨g2,qx,aaB,rfl,hg2,rest⟩
  ·exact absurd hv hnn
  ·rw[List.take_length]at aeH;refine⟨_,_,he,⟨_,_,rfl,rfl⟩,rfl,(lK hw).fresh (fun b o D1=>by simp only[aG.gL,Value.ownBlock,Option.some.injEq]at D1;omega) ?_ (SJ aeH)⟩;exact⟨hb.os,hb.tape,hb.output,hb.size,fun b D1 _=>hb.block b D1,fun b A t fz hA=>⟨A,by rw[hb.block b (dV hA)];exact hA,rfl,fun _ _=>rfl⟩⟩
end
end Go.X

namespace Go.X
open Go Go.Proofs
variable{x y:Operand}
def Ea(P:Program)(t:TypeId):Bool:=match P.underlying t with
 | some (.slice e)=>(match P.underlying e with
   | some (.int .u8)=>true
   | _=>false)&&(match P.info? e with
   | some i=>Nat.beq i.size 1&&Nat.ble i.bytes 1000&&(match i.zero with
     | some (.int .u8 z)=>decide (z=0)
     | _=>false)
   | none=>false)
 | _=>false
def tg{P:Program}{t:TypeId}(h:Ea P t=true):∃ e i,P.underlying t=some (.slice e)/\P.underlying e=some (.int .u8)/\P.info? e=some i/\i.size=1/\i.bytes<=1000/\i.zero=some (.int .u8 0):=by
 unfold Ea at h;split at h
 ·rename_i e ht;simp only[Bool.and_eq_true]at h;obtain⟨h1,h2⟩:=h;split at h1
  ·rename_i he;split at h2
   ·rename_i i hi;simp only[Bool.and_eq_true]at h2;obtain⟨⟨h3,h4⟩,h5⟩:=h2;split at h5
    ·rename_i z hz;have:z=0:=of_decide_eq_true h5;subst this;exact⟨e,i,ht,he,hi,Nat.eq_of_beq_eq_true h3,Nat.le_of_ble_eq_true h4,hz⟩
    ·cases h5
   ·cases h2
  ·cases h1
 ·cases h
def bv(b:UInt8):Value:=.int .u8 (b.toNat:Int)
section
variable{P:Program}{n:Fr}{Q:Exit->Act->World->Prop}{L:PF}{ops:Md}{rest:List Oper}{ty:TypeId}{pos:String}{af:Array Edge}{d:Nat}{W:World}{S:Nat->Nat->Prop}{H H':List aG}{φ:World->Prop}{gd:Option (Nat×Bool)}
def XO.SK{t:TypeId}{kl kc:IntKind}{l:Int}(hx:ev L x=some (.int kl l))(hy:ev L y=some (.int kc l))(hl:0<=l/\l<=1000000)(ht:Ea P t=true)(hd:Nat.blt d n.sz=true)(h:∀ b,XO P n ops Q rest ((d,.slice (some ⟨b,0,none⟩) l.toNat l.toNat)::L) (XM W S (.cells b 0 l.toNat (fun _=>bv 0)::H))):XO P n ops Q (⟨some d,.makeSlice t x y,ty,pos,af,none⟩::rest) L (XM W S H):=
 XO.op rfl fun a w ha hw=>by
  obtain⟨e,i,h1,h2,h3,h4,h5,h6⟩:=tg ht;have ND:(madeCells (Value.int .u8 0).cells (l.toNat*i.size)).size=l.toNat:=by rw[size_madeCells,h4,Nat.mul_one]
  have nH:=hw.alloc (madeCells (Value.int .u8 0).cells (l.toNat*i.size)) e (fun _=>bv 0) (fun j hj=>by
   have hc:(Value.int IntKind.u8 0).cells= #[Value.int .u8 0]:=rfl
   rw[size_madeCells]at hj
   unfold madeCells
   rw[hc,Array.getElem?_map,Array.getElem?_range,if_pos hj]
   simp[bv,Nat.mod_one])
  rw[ND]at nH;have hb:(i.bytes:Int)*l<=281474976710656:=by
   have:(i.bytes:Int)*l<=1000*1000000:=Int.mul_le_mul og hl.2 hl.1 og;omega
  have hr:=run_make (P:=P) w t e i _ h1 h3 h6 kl kc l l hl.1 (Int.le_refl _) hb og;unfold Oper.wp;have:(execOp a.eval ⟨some d,.makeSlice t x y,ty,pos,af,none⟩).run P w= .ok (.value (.slice (some ⟨w.heap.size,0,none⟩) l.toNat l.toNat)) (w.alloc (.cells (madeCells (Value.int .u8 0).cells (l.toNat*i.size)) e)):=by
   simp[execOp,av ha hx,av ha hy,hr]
  rw[this];exact h _ _ _ (ha.put hd _) nH
def XO.QB{dT sT:TypeId}{b m k c o:Nat}{s:ByteArray}{C C':Nat->Value}(hx:ev L x=some (.slice (some ⟨b,o,none⟩) k c))(hy:ev L y=some (.string s))(ht:Ea P dT=true)(hk:s.size<=k)(ho:o+s.size<=m)(hH:o5 H (.cells b 0 m C) (.cells b 0 m C') H')(hC:cY C o (s.data.toList.map bv)=C')(hd:Nat.blt d n.sz=true)(h:XO P n ops Q rest ((d,.int .i64 (s.size:Int))::L) (XM W S H')):XO P n ops Q (⟨some d,.call ⟨.builtin .copy,#[x,y],#[dT,sT]⟩,ty,pos,af,none⟩::rest) L (XM W S H):=
 XO.op rfl fun a w ha hw=>by
  obtain⟨e,i,h1,h2,h3,h4,h5,h6⟩:=tg ht;obtain⟨H1,hdl,hp⟩:=hH.del;have hlen:(s.data.toList.map bv).length=s.size:=by rw[List.length_map,<-ByteArray.size_data];simp
  obtain⟨w',hr,nH⟩:=mL (P:=P) (s.data.toList.map bv) o 0 C w (hw.cG hdl.cG) (by rw[hlen];omega) (by
   rw[List.all_eq_true]
   intro v hv
   simp only[List.mem_map]at hv
   obtain⟨u,_,rfl⟩:=hv
   rfl)
  simp only[Nat.add_zero,Nat.zero_add]at nH hr;rw[hC]at nH;unfold Oper.wp;have Ll:Nat.min s.size k=s.size:=Nat.min_eq_left hk;have htk:List.take s.size (List.map (fun b:UInt8=>Value.int IntKind.u8 (b.toNat:Int)) s.data.toList)=s.data.toList.map bv:=by
   rw[List.take_of_length_le (by rw[List.length_map,<-ByteArray.size_data];simp)];rfl
  have:(execOp a.eval ⟨some d,.call ⟨.builtin .copy,#[x,y],#[dT,sT]⟩,ty,pos,af,none⟩).run P w= .ok (.value (.int .i64 (s.size:Int))) w':=by
   simp[execOp,resolve,invoke,builtin,av ha hx,av ha hy,Builtin.copy_,run_underlying h1,Builtin.lenOf,Builtin.firstCells,sizeOf,typeInfo,h3,Ll];rw[htk,hr];simp[Result.andThen,goInt]
  rw[this];exact h _ _ (ha.put hd _) (nH.cG hp)
def SL{t:TypeId}{b m c:Nat}{kk:IntKind}{z:Int}(hx:ev L x=some (.slice (some ⟨b,0,none⟩) m c))(hy:ev L y=some (.int kk z))(ht:Ea P t=true)(hz:0<=z/\z<m/\m<=c):bj P n L φ ⟨some d,.slice t x (some y) none none,ty,pos,af,gd⟩ (.slice (some ⟨b,z.toNat,none⟩) (m-z.toNat) (c-z.toNat)):=fun a w ha _=>by
 obtain⟨e,i,h1,h2,h3,h4,h5,h6⟩:=tg ht;obtain⟨k,rfl⟩:∃ k:Nat,z=(k:Int):=⟨z.toNat,og⟩;have hs:fE P e=some 1:=by unfold fE;rw[h3];simp[h4]
 have hk1:k<=m:=og;have Dr:¬c-k=0:=og;simp[execOp,av ha hx,av ha hy,Instr.sliceAt,run_underlying h1,Instr.slice,Instr.sliceBounds,Instr.sliceBound,asIntOf,hk1,run_sizeOf hs,Dr,Addr.add,hz.2.2];rw[if_neg og];split
 ·rename_i q;rw[q]
 ·rfl
def aaF{s t:TypeId}{b m k c:Nat}{C:Nat->Value}{B:ByteArray}(hx:ev L x=some (.slice (some ⟨b,0,none⟩) k c))(hk:k=B.size)(hH:∀ w,φ w->(aG.cells b 0 m C).holds w)(hC:B.size<=m/\∀ (i:Nat) (h:i<B.size),C i=bv B[i])(hs:Ea P s=true)(ht:P.underlying t=some .string):bj P n L φ ⟨some d,.convert s t x,ty,pos,af,gd⟩ (.string B):=fun a w ha hw=>by
 subst hk;obtain⟨e,i,h1,h2,h3,h4,h5,h6⟩:=tg hs;have hb:Go.Lib.Bytes w b 0 B:=fun j hj=>by
  have:=eS (hH w hw) (i:=j);rw[this,hC.2 j hj];rfl
 have hr:=Go.Lib.run_convert_whole (P:=P) w s e t h1 h2 ht b 0 B hb c;simp[execOp,av ha hx,hr]
end
end Go.X
