import Derived.Test.YthdinakloheinaaGreatDoorXMore
import Derived.Test.YthdinakloheinaaGreatDoorXRun
import Derived.Shelf.Slices.Cells
import Derived.Shelf.Slices.Empties
import Derived.Shelf.Slices.Clone
import Derived.Shelf.Spec.SearchS
import Derived.Shelf.Spec.SlicesInsertGrow
import Derived.Laws.MakeOwn
import Derived.Lib.SlBytesRow
namespace Go.X
open Go
class Rf (v:Value) (s:outParam SV):Prop where
 h:s.den=v
class Nw (v:Value) (s:outParam SW):Prop where
 h:s.den=v
class NF (l:List Value) (r:outParam (List SV)):Prop where
 h:aj r=l
class Dx (L:PF) (r:outParam SF):Prop where
 h:dn r=L
instance (priority:=low) (v:Value):Rf v (.val v):=⟨rfl⟩
instance (k:IntKind) (z:Int):Rf (.int k z) (.int k z):=⟨rfl⟩
instance (s:ByteArray):Rf (.string s) (.str s):=⟨rfl⟩
instance (b o i:Nat):Rf (ptr b o i) (.ptr b o i):=⟨rfl⟩
instance:Rf .nilIface .nil:=⟨rfl⟩
instance (T:TypeId) (e:Int):Rf (bM T e) (.err T e):=⟨rfl⟩
instance (T:TypeId) (v:Value):Rf (.iface T v) (.ifc T v):=⟨rfl⟩
instance:Rf (.pointer none) .pn:=⟨rfl⟩
instance (priority:=high):Rf (.bool true) .tt:=⟨rfl⟩
instance (priority:=high):Rf (.bool false) .ff:=⟨rfl⟩
instance (p:Prop) (i:Decidable p):Rf (.bool (@decide p i)) (@SV.dec p i):=⟨rfl⟩
instance (priority:=900) (b:Bool):Rf (.bool b) (.bool b):=⟨rfl⟩
instance (p:Option Addr) (n c:Nat):Rf (.slice p n c) (.slc p n c):=⟨rfl⟩
instance:Rf undef .un:=⟨rfl⟩
instance (priority:=high) (s:SV):Rf s.den s:=⟨rfl⟩
instance (priority:=low) (v:Value) (s:SV) [h:Rf v s]:Nw v (.one s):=⟨h.h⟩
instance:NF [] []:=⟨rfl⟩
instance (v:Value) (s:SV) (l:List Value) (r:List SV) [h:Rf v s] [k:NF l r]:NF (v::l) (s::r):=⟨by rw[aj,h.h,k.h]⟩
instance (l:List Value) (r:List SV) [h:NF l r]:Nw (.tuple l.toArray) (.tup r):=⟨by rw[SW.den,h.h]⟩
instance (priority:=high) (s:SW):Nw s.den s:=⟨rfl⟩
instance:Dx [] []:=⟨rfl⟩
instance (i:Nat) (v:Value) (s:SW) (L:PF) (r:SF) [h:Nw v s] [k:Dx L r]:Dx ((i,v)::L) ((i,s)::r):=⟨by rw[dn,h.h,k.h]⟩
instance (priority:=high) (r:SF):Dx (dn r) r:=⟨rfl⟩
instance (i:Nat):Dx (ic i []) []:=⟨rfl⟩
instance (i:Nat) (v:Value) (s:SW) (l:List Value) (r:SF) [h:Nw v s] [k:Dx (ic (i+1) l) r]:Dx (ic i (v::l)) ((i,s)::r):=⟨by rw[dn,h.h,k.h];rfl⟩
section
variable {P:Program} {n:Fr} {Q0:Exit→Act→World→Prop} {M M':World→Prop} {K:List Fm} {L:SF} {L':PF} {md:Md} {l:List Oper} {c a b:Code}
theorem gO[Tb P][h:Dx L' L](k:ef P n Q0 M 3000 K (.o md l) L):XO P n md (den P Q0 K) l L' M:=by
 rw[←h.h];exact bG _ _ (.o _ _) _ k
theorem gC[Tb P][h:Dx L' L](k:ef P n Q0 M 3000 K (.c c) L):XC P n c (den P Q0 K) L' M:=by
 rw[←h.h];exact bG _ _ (.c _) _ k
theorem gE[Tb P]{x:Exit}[h:Dx L' L](k:ef P n Q0 M 3000 K (.e x) L):XE n (den P Q0 K) x L' M:=by
 rw[←h.h];exact bG _ _ (.e _) _ k
theorem gS[Tb P](k:ef P n Q0 M 3000 (.sq b::K) (.c a) L):XC P n (.seq a b) (den P Q0 K) (dn L) M:=XC.seq (bG _ _ (.c _) _ k)
theorem Spec.go[Tb P]{f:FuncId}{fn:Func}{args:List Value}{pre:List ax}{post:Value→List ax→Prop}(k:Nat)(ps:List Nat)(cs:List (Nat×Nat))(hf:P.funcs[f]? =some fn)(hb:fn.body=some c)(hk:fn.ntmps=k)(hn:Nat.ble args.length fn.ntmps=true)[r:Dx (ic 0 args) L](h:∀ W,ef P (fr k ps cs) (bodyPost P fn fun e w'=>∃ v H',e= .returned v∧post v H'∧H'.all ax.wr=true∧XM W (bS pre) H' w') (XM W (bS pre) pre) 3000 [] (.c c) L):Spec P f args pre post:=by
 subst hk
 intro w hg
 refine enter (ps:=ps) (cs:=cs) hf hb hn ?_ (XM.start hg)
 rw[←r.h]
 exact bG _ [] (.c _) _ (h w)
theorem rq[Tb P]{i:Nat}{os:List Oper}{W:World}{S:Nat→Nat→Prop}{H:List ax}(r:List Nat)(hm:P.follows .mixedOrders=true)(hz:(Im os.toArray (Array.replicate os.length false) r&&Nat.beq r.length os.length&&r.all (Nat.blt · os.length))=true)
  (k:ef P n Q0 (XM W S H) 3000 K (.o (.op os.toArray) (An os r)) L):XC P n (.region i os.toArray true) (den P Q0 K) (dn L) (XM W S H):=XC.rq r hm hz (fun w k h=>h.drawn k) (bG _ _ (.o _ _) _ k)
theorem cd[Tb P]{x:Operand}{p:Prop}{i:Decidable p}(hc:ev (dn L) x=some (.bool (@decide p i)))(ht:p→ef P n Q0 M 3000 K (.c a) L)(hf:¬p→ef P n Q0 M 3000 K (.c b) L):XC P n (.cond x a b) (den P Q0 K) (dn L) M:=
 XC.JY hc (fun h=>bG _ _ (.c _) _ (ht h)) (fun h=>bG _ _ (.c _) _ (hf h))
theorem Dy[Tb P]{x:Operand}{t:Bool}(hc:ev (dn L) x=some (.bool t))(ht:t=true→ef P n Q0 M 3000 K (.c a) L)(hf:t=false→ef P n Q0 M 3000 K (.c b) L):XC P n (.cond x a b) (den P Q0 K) (dn L) M:=
 XC.cond hc (fun h=>bG _ _ (.c _) _ (ht h)) (fun h=>bG _ _ (.c _) _ (hf h))
theorem Ju[Tb P]{x:Operand}{p:Prop}{i:Decidable p}(hc:ev (dn L) x=some (.bool (@decide p i)))(h:p)(ht:ef P n Q0 M 3000 K (.c a) L):XC P n (.cond x a b) (den P Q0 K) (dn L) M:=XC.LA hc h (bG _ _ (.c _) _ ht)
theorem uu[Tb P]{x:Operand}{p:Prop}{i:Decidable p}(hc:ev (dn L) x=some (.bool (@decide p i)))(h:¬p)(hf:ef P n Q0 M 3000 K (.c b) L):XC P n (.cond x a b) (den P Q0 K) (dn L) M:=XC.LL hc h (bG _ _ (.c _) _ hf)
theorem sp[Tb P](d:Nat){p:Prop}{i:Decidable p}(hl:lk (dn L) d=some (.bool (@decide p i)))(ht:p→ef P n Q0 M 3000 K (.o md l) ((d,.one .tt)::L))(hf:¬p→ef P n Q0 M 3000 K (.o md l) ((d,.one .ff)::L)):XO P n md (den P Q0 K) l (dn L) M:=
 XO.Ld hl (fun h=>bG _ _ (.o _ _) ((d,.one .tt)::L) (ht h)) (fun h=>bG _ _ (.o _ _) ((d,.one .ff)::L) (hf h))
theorem uE[Tb P](d:Nat){t:Bool}(hl:lk (dn L) d=some (.bool t))(ht:t=true→ef P n Q0 M 3000 K (.o md l) ((d,.one .tt)::L))(hf:t=false→ef P n Q0 M 3000 K (.o md l) ((d,.one .ff)::L)):XO P n md (den P Q0 K) l (dn L) M:=
 XO.split hl (fun h=>bG _ _ (.o _ _) ((d,.one .tt)::L) (ht h)) (fun h=>bG _ _ (.o _ _) ((d,.one .ff)::L) (hf h))
theorem Lj[Tb P](d:Nat){p:Prop}{i:Decidable p}(hl:lk (dn L) d=some (.bool (@decide p i)))(h:p)(ht:ef P n Q0 M 3000 K (.o md l) ((d,.one .tt)::L)):XO P n md (den P Q0 K) l (dn L) M:=XO.Li hl h (bG _ _ (.o _ _) ((d,.one .tt)::L) ht)
theorem Dg[Tb P](d:Nat){p:Prop}{i:Decidable p}(hl:lk (dn L) d=some (.bool (@decide p i)))(h:¬p)(hf:ef P n Q0 M 3000 K (.o md l) ((d,.one .ff)::L)):XO P n md (den P Q0 K) l (dn L) M:=XO.L2 hl h (bG _ _ (.o _ _) ((d,.one .ff)::L) hf)
theorem lp{σ:Type}(m:σ→Nat)(V:σ→Prop)(I:σ→PF)(J:σ→World→Prop)(x₀:σ)(hv:V x₀)(h₀:Sub (dn L) (I x₀))(hj:∀ w,M w→J x₀ w)
  (round:∀ x,V x→XC P n c (den P Q0 (.th (fun a' w'=>∃ x',m x'<m x∧V x'∧Sat n (I x') a'∧J x' w')::K)) (I x) (J x)):XC P n (.loop c) (den P Q0 K) (dn L) M:=XC.loop m V I J x₀ hv h₀ hj round
theorem ag{σ:Type}{m:σ→Nat}{V:σ→Prop}{I:σ→PF}{J:σ→World→Prop}{x:σ}(x':σ)(hm:m x'<m x)(hv:V x')(hs:Sub L' (I x'))(hj:∀ w,M w→J x' w):
  XE n (den P Q0 (.th (fun a' w'=>∃ x',m x'<m x∧V x'∧Sat n (I x') a'∧J x' w')::K)) .normal L' M:=XE.again x' hm hv hs hj
theorem ct(K':PF)(M':World→Prop)[Tb P](hc:ef P n Q0 M 3000 (.th (fun a w=>Sat n K' a∧M' w)::K) (.c a) L)(hd:XC P n b (den P Q0 K) K' M'):XC P n (.seq a b) (den P Q0 K) (dn L) M:=XC.cut K' M' (bG _ (_::K) (.c _) _ hc) hd
theorem mt{K':PF}(hs:Sub L' K')(hm:∀ w,M w→M' w):XE n (den P Q0 (.th (fun a w=>Sat n K' a∧M' w)::K)) .normal L' M:=XE.meet hs hm
theorem JO{σ:Type}(V:σ→Prop)(I:σ→PF)(J:σ→World→Prop)[Tb P](hc:ef P n Q0 M 3000 (.th (fun a w=>∃ x,V x∧Sat n (I x) a∧J x w)::K) (.c a) L)(hd:∀ x,V x→XC P n b (den P Q0 K) (I x) (J x)):XC P n (.seq a b) (den P Q0 K) (dn L) M:=XC.NQ V I J (bG _ (_::K) (.c _) _ hc) hd
theorem Br{σ:Type}{V:σ→Prop}{I:σ→PF}{J:σ→World→Prop}(x:σ)(hv:V x)(hs:Sub L' (I x))(hj:∀ w,M w→J x w):XE n (den P Q0 (.th (fun a w=>∃ x,V x∧Sat n (I x) a∧J x w)::K)) .normal L' M:=XE.Nv x hv hs hj
end
section
variable {P:Program} {n:Fr} {Q0:Exit→Act→World→Prop} {M M':World→Prop} {K:List Fm} {L:SF} {W:World} {S:Nat→Nat→Prop} {H:List ax} {f:Nat} {s:St}
theorem XR.mono[Tb P](hm:∀ w,M w→M' w)(h:ef P n Q0 M' f K s L):ef P n Q0 M f K s L:=iR hm f K s L h
theorem XR.db[Tb P]{p:Option Addr}{k cap sz:Nat}{e:TypeId}{xs:List Value}(hH:Has H (.row (.slice p k cap) e sz k xs))(hk:0<k)(h:∀ g,p=some ⟨g,0,none⟩→ef P n Q0 (XM W S H) f K s L):ef P n Q0 (XM W S H) f K s L:=
 nE (φ:=∃ g,p=some ⟨g,0,none⟩) (fun w hw=>by
  rcases(hw.good.1 _ hH.mem).2 with⟨_,h0⟩ | ⟨g,cap',cur,hv,_⟩
  ·omega
  ·simp only[Value.slice.injEq]at hv;exact⟨g,hv.1⟩) (fun ⟨g,hg⟩=>h g hg)
theorem XR.L0[Tb P]{p:Option Addr}{k cap sz:Nat}{e:TypeId}{xs:List Value}(hH:Has H (.row (.slice p k cap) e sz k xs))
  (h:k≤cap→ef P n Q0 (XM W S H) f K s L):ef P n Q0 (XM W S H) f K s L:=nE (fun w hw=>sx (hw.good.1 _ hH.mem)) h
theorem XR.dH[Tb P](e:TypeId)(sz:Nat)(h:ef P n Q0 (XM W S (.row (.slice none 0 0) e sz 0 []::H)) f K s L):ef P n Q0 (XM W S H) f K s L:=iR (fun _ hw=>hw.dH e sz) f K s L h
theorem XR.LC[Tb P]{k cap sz:Nat}{e:TypeId}{xs:List Value}(hH:Has H (.row (.slice none k cap) e sz k xs))
  (h:k=0→ef P n Q0 (XM W S H) f K s L):ef P n Q0 (XM W S H) f K s L:=nE (fun w hw=>by
 rcases(hw.good.1 _ hH.mem).2 with⟨_,h0⟩ | ⟨g,cap',cur,hv,_⟩
 ·exact h0
 ·simp at hv) h
theorem XR.rowAt[Tb P]{p:Option Addr}{k cap sz:Nat}{e:TypeId}{xs:List Value}(hH:Has H (.row (.slice p k cap) e sz k xs))(hp:¬p=none)(h:∀ g,p=some ⟨g,0,none⟩→ef P n Q0 (XM W S H) f K s L):ef P n Q0 (XM W S H) f K s L:=
 nE (φ:=∃ g,p=some ⟨g,0,none⟩) (fun w hw=>by
  rcases(hw.good.1 _ hH.mem).2 with⟨hv,_⟩ | ⟨g,cap',cur,hv,_⟩
  ·simp only[Value.slice.injEq]at hv;exact absurd hv.1 hp
  ·simp only[Value.slice.injEq]at hv;exact⟨g,hv.1⟩) (fun ⟨g,hg⟩=>h g hg)
end
section
variable {P:Program} {n:Fr} {Q0:Exit→Act→World→Prop} {M:World→Prop} {K:List Fm} {md:Md} {r:List Oper} {L:SF} {W:World} {S:Nat→Nat→Prop} {H H':List ax}
variable {t:TypeId} {d:Nat} {x y:Operand} {ty:TypeId} {pos:String} {af:Array Edge} {b o i k m:Nat} {C C':Nat→Value} {v:Value} {s:SV}
theorem sd{q R X:Prop}(h:q)(kk:R):Sd q R X:=.inl ⟨h,kk⟩
theorem oV{q R X:Prop}(h:X):Sd q R X:=.inr h
theorem Oh{t:TypeId}(h:Nat.blt d n.sz=true):(Nat.blt d n.sz&&(!cI (.load t x)&&Mi (.load t x)))=true:=by rw[h];rfl
theorem oL(h:XO P n md (den P Q0 K) (⟨some d,.load t x,ty,pos,af,none⟩::r) (dn L) M):K2 P n Q0 M K md r L t d x ty pos af b o i:=fun _ _ _=>h
theorem oS(h:XO P n md (den P Q0 K) (⟨none,.store t x y,ty,pos,af,none⟩::r) (dn L) M):Mj P n Q0 M K md r L t x y ty pos af b o i k s:=fun _ _ _=>h
theorem Nz[Tb P][h:Rf v s](hv:∀ {t:TypeId},ev (dn L) x=some (ptr b o i)→fT P t=true→bh P n (dn L) M ⟨some d,.load t x,ty,pos,af,none⟩ v)(kk:ef P n Q0 M 3000 K (.o md r) ((d,.one s)::L)):K2 P n Q0 M K md r L t d x ty pos af b o i:=fun hx ht hd=>
 XO.l (hv hx ht) (Oh hd) (by have:=bG _ _ (.o _ _) _ kk;rw[←h.h];exact this)
theorem Og[Tb P][h:Rf v s](hv:∀ {t:TypeId},ev (dn L) x=some (ptr b o i)→jW P t=true→dx P t=some k→bh P n (dn L) M ⟨some d,.load t x,ty,pos,af,none⟩ v)(kk:ef P n Q0 M 3000 K (.o md r) ((d,.one s)::L)):NC P n Q0 M K md r L t d x ty pos af b o i k:=fun hx ht hs hd=>
 XO.l (hv hx ht hs) (Oh hd) (by have:=bG _ _ (.o _ _) _ kk;rw[←h.h];exact this)
theorem ld[Tb P][Rf v s](hH:Has H (.cells b o m C))(hv:i<m∧C i=v)(kk:ef P n Q0 (XM W S H) 3000 K (.o md r) ((d,.one s)::L)):K2 P n Q0 (XM W S H) K md r L t d x ty pos af b o i:=Nz (fun hx ht=>V.load hx (dm hH) hv ht) kk
theorem NJ[Tb P][Rf v s](hH:Has H (.ro b o m C))(hv:i<m∧C i=v)(kk:ef P n Q0 (XM W S H) 3000 K (.o md r) ((d,.one s)::L)):K2 P n Q0 (XM W S H) K md r L t d x ty pos af b o i:=Nz (fun hx ht=>V.La hx (dm hH) hv ht) kk
theorem Jw[Tb P][Rf v s]{cap sz:Nat}{e:TypeId}(hH:Has H (bj (some ⟨b,0,none⟩) cap e sz k C))(hv:i<k*sz∧C i=v)(kk:ef P n Q0 (XM W S H) 3000 K (.o md r) ((d,.one s)::L)):K2 P n Q0 (XM W S H) K md r L t d x ty pos af b 0 i:=Nz (fun hx ht=>V.MW hx (dm hH) hv ht) kk
theorem Fq[Tb P][Rf v s]{cap sz:Nat}{e:TypeId}{xs:List Value}(hH:Has H (.row (.slice (some ⟨b,0,none⟩) k cap) e sz k xs))(hv:xs[i]? =some v)(kk:ef P n Q0 (XM W S H) 3000 K (.o md r) ((d,.one s)::L)):K2 P n Q0 (XM W S H) K md r L t d x ty pos af b 0 i:=Nz (fun hx ht=>V.Ao hx (dm hH) hv ht) kk
theorem nc[Tb P][Rf v s](hH:Has H (.cells b o m C))(hv:i+k≤m∧cq C i k=v)(kk:ef P n Q0 (XM W S H) 3000 K (.o md r) ((d,.one s)::L)):NC P n Q0 (XM W S H) K md r L t d x ty pos af b o i k:=Og (fun hx ht hs=>V.fW hx (dm hH) hv ht hs) kk
theorem px[Tb P][Rf v s]{cap sz l:Nat}{e:TypeId}(hH:Has H (bj (some ⟨b,0,none⟩) cap e sz l C))(hv:i+k≤l*sz∧cq C i k=v)(kk:ef P n Q0 (XM W S H) 3000 K (.o md r) ((d,.one s)::L)):NC P n Q0 (XM W S H) K md r L t d x ty pos af b 0 i k:=Og (fun hx ht hs=>V.Kw hx (dm hH) hv ht hs) kk
theorem st[Tb P](hH:ed H (.cells b o m C) (.cells b o m C') H')(hi:i<m∧cH C i s.den=C')(hv:one s.den=true)(kk:ef P n Q0 (XM W S H') 3000 K (.o md r) L):Mj P n Q0 (XM W S H) K md r L t x y ty pos af b o i 1 s:=fun hx hy hs=>XO.store hx hy hH hi hv hs (bG _ _ (.o _ _) _ kk)
theorem jA[Tb P]{cs:Array Value}(hH:ed H (.cells b o m C) (.cells b o m C') H')(hi:i+k≤m∧bQ C i cs.toList=C')(hs':s.den= .agg cs)(hv:cs.toList.all one=true∧cs.size=k)(kk:ef P n Q0 (XM W S H') 3000 K (.o md r) L):Mj P n Q0 (XM W S H) K md r L t x y ty pos af b o i k s:=fun hx hy hs=>XO.eX hx (hs'▸hy) hH hi hv hs (bG _ _ (.o _ _) _ kk)
theorem Oy[Tb P]{cap sz l:Nat}{e:TypeId}(hH:ed H (bj (some ⟨b,0,none⟩) cap e sz l C) (bj (some ⟨b,0,none⟩) cap e sz l C') H')(hi:i<l*sz∧cH C i s.den=C')(hv:one s.den=true)(kk:ef P n Q0 (XM W S H') 3000 K (.o md r) L):Mj P n Q0 (XM W S H) K md r L t x y ty pos af b 0 i 1 s:=fun hx hy hs=>XO.LP hx hy hH hi hv hs (bG _ _ (.o _ _) _ kk)
theorem NO[Tb P]{cap sz l:Nat}{e:TypeId}{cs:Array Value}(hH:ed H (bj (some ⟨b,0,none⟩) cap e sz l C) (bj (some ⟨b,0,none⟩) cap e sz l C') H')(hi:i+k≤l*sz∧bQ C i cs.toList=C')(hs':s.den= .agg cs)(hv:cs.toList.all one=true∧cs.size=k)(kk:ef P n Q0 (XM W S H') 3000 K (.o md r) L):Mj P n Q0 (XM W S H) K md r L t x y ty pos af b 0 i k s:=fun hx hy hs=>XO.Jg hx (hs'▸hy) hH hi hv hs (bG _ _ (.o _ _) _ kk)
theorem ca{f:FuncId}{xs:List Operand}{ji:Array TypeId}{vs:List Value}{pre F:List ax}{post:Value→List ax→Prop}(hs:Spec P f vs pre post)(hp:bF H pre F)(kk:∀ v H1,post v H1→XO P n md (den P Q0 K) r ((d,v)::dn L) (XM W S (H1++F))):NN P n Q0 (XM W S H) K md r L d f xs ji ty pos af vs:=fun he hc hd=>XO.call he hs hp hc hd kk
theorem kW{f:FuncId}{xs:List Operand}{ji:Array TypeId}{vs:List Value}{pre F:List ax}{post:Value→List ax→Prop}(j:Nat)(hs:Spec P f vs pre post)(hp:bF H pre F)(hR:(pre.drop j).all (fun e=> !e.wr)=true)(kk:∀ v H1,post v H1→XO P n md (den P Q0 K) r ((d,v)::dn L) (XM W S (H1++(pre.drop j++F)))):NN P n Q0 (XM W S H) K md r L d f xs ji ty pos af vs:=fun he hc hd=>XO.Nj j he hs hp hR hc hd kk
end
section
variable {L:PF} {a1 a2 a3 a4 a5 a6 a7 a8:Nat} {v1 v2 v3 v4 v5 v6 v7 v8:Value} {R:PF}
theorem S1(h1:lk L a1=some v1):Sub L [(a1,v1)]:=.cons h1 (.nil _)
theorem S2(h1:lk L a1=some v1)(h2:lk L a2=some v2):Sub L [(a1,v1),(a2,v2)]:=.cons h1 (S1 h2)
theorem S3(h1:lk L a1=some v1)(h2:lk L a2=some v2)(h3:lk L a3=some v3):Sub L [(a1,v1),(a2,v2),(a3,v3)]:=.cons h1 (S2 h2 h3)
theorem S4(h1:lk L a1=some v1)(h2:lk L a2=some v2)(h3:lk L a3=some v3)(h4:lk L a4=some v4):Sub L [(a1,v1),(a2,v2),(a3,v3),(a4,v4)]:=.cons h1 (S3 h2 h3 h4)
theorem S5(h1:lk L a1=some v1)(h2:lk L a2=some v2)(h3:lk L a3=some v3)(h4:lk L a4=some v4)(h5:lk L a5=some v5):Sub L [(a1,v1),(a2,v2),(a3,v3),(a4,v4),(a5,v5)]:=.cons h1 (S4 h2 h3 h4 h5)
theorem S6(h1:lk L a1=some v1)(h2:lk L a2=some v2)(h3:lk L a3=some v3)(h4:lk L a4=some v4)(h5:lk L a5=some v5)(h6:lk L a6=some v6):Sub L [(a1,v1),(a2,v2),(a3,v3),(a4,v4),(a5,v5),(a6,v6)]:=.cons h1 (S5 h2 h3 h4 h5 h6)
end
theorem Has.t2{H:List ax}{e:ax}{x0 x1:ax}(h:Has H e):Has (x0::x1::H) e:=.there (.there h)
theorem Has.t3{H:List ax}{e:ax}{x0 x1 x2:ax}(h:Has H e):Has (x0::x1::x2::H) e:=.there (.t2 h)
theorem Has.t4{H:List ax}{e:ax}{x0 x1 x2 x3:ax}(h:Has H e):Has (x0::x1::x2::x3::H) e:=.there (.t3 h)
theorem Has.t5{H:List ax}{e:ax}{x0 x1 x2 x3 x4:ax}(h:Has H e):Has (x0::x1::x2::x3::x4::H) e:=.there (.t4 h)
theorem Has.t6{H:List ax}{e:ax}{x0 x1 x2 x3 x4 x5:ax}(h:Has H e):Has (x0::x1::x2::x3::x4::x5::H) e:=.there (.t5 h)
theorem Has.t7{H:List ax}{e:ax}{x0 x1 x2 x3 x4 x5 x6:ax}(h:Has H e):Has (x0::x1::x2::x3::x4::x5::x6::H) e:=.there (.t6 h)
theorem Has.t8{H:List ax}{e:ax}{x0 x1 x2 x3 x4 x5 x6 x7:ax}(h:Has H e):Has (x0::x1::x2::x3::x4::x5::x6::x7::H) e:=.there (.t7 h)
theorem Has.t9{H:List ax}{e:ax}{x0 x1 x2 x3 x4 x5 x6 x7 x8:ax}(h:Has H e):Has (x0::x1::x2::x3::x4::x5::x6::x7::x8::H) e:=.there (.t8 h)
theorem Has.t10{H:List ax}{e:ax}{x0 x1 x2 x3 x4 x5 x6 x7 x8 x9:ax}(h:Has H e):Has (x0::x1::x2::x3::x4::x5::x6::x7::x8::x9::H) e:=.there (.t9 h)
theorem Has.t11{H:List ax}{e:ax}{x0 x1 x2 x3 x4 x5 x6 x7 x8 x9 x10:ax}(h:Has H e):Has (x0::x1::x2::x3::x4::x5::x6::x7::x8::x9::x10::H) e:=.there (.t10 h)
theorem Has.t12{H:List ax}{e:ax}{x0 x1 x2 x3 x4 x5 x6 x7 x8 x9 x10 x11:ax}(h:Has H e):Has (x0::x1::x2::x3::x4::x5::x6::x7::x8::x9::x10::x11::H) e:=.there (.t11 h)
theorem dX.t2{H H2:List ax}{e:ax}{x0 x1:ax}(h:dX H e H2):dX (x0::x1::H) e (x0::x1::H2):=.there (.there h)
theorem dX.t3{H H2:List ax}{e:ax}{x0 x1 x2:ax}(h:dX H e H2):dX (x0::x1::x2::H) e (x0::x1::x2::H2):=.there (.t2 h)
theorem dX.t4{H H2:List ax}{e:ax}{x0 x1 x2 x3:ax}(h:dX H e H2):dX (x0::x1::x2::x3::H) e (x0::x1::x2::x3::H2):=.there (.t3 h)
theorem dX.t5{H H2:List ax}{e:ax}{x0 x1 x2 x3 x4:ax}(h:dX H e H2):dX (x0::x1::x2::x3::x4::H) e (x0::x1::x2::x3::x4::H2):=.there (.t4 h)
theorem dX.t6{H H2:List ax}{e:ax}{x0 x1 x2 x3 x4 x5:ax}(h:dX H e H2):dX (x0::x1::x2::x3::x4::x5::H) e (x0::x1::x2::x3::x4::x5::H2):=.there (.t5 h)
theorem dX.t7{H H2:List ax}{e:ax}{x0 x1 x2 x3 x4 x5 x6:ax}(h:dX H e H2):dX (x0::x1::x2::x3::x4::x5::x6::H) e (x0::x1::x2::x3::x4::x5::x6::H2):=.there (.t6 h)
theorem dX.t8{H H2:List ax}{e:ax}{x0 x1 x2 x3 x4 x5 x6 x7:ax}(h:dX H e H2):dX (x0::x1::x2::x3::x4::x5::x6::x7::H) e (x0::x1::x2::x3::x4::x5::x6::x7::H2):=.there (.t7 h)
theorem dX.t9{H H2:List ax}{e:ax}{x0 x1 x2 x3 x4 x5 x6 x7 x8:ax}(h:dX H e H2):dX (x0::x1::x2::x3::x4::x5::x6::x7::x8::H) e (x0::x1::x2::x3::x4::x5::x6::x7::x8::H2):=.there (.t8 h)
theorem dX.t10{H H2:List ax}{e:ax}{x0 x1 x2 x3 x4 x5 x6 x7 x8 x9:ax}(h:dX H e H2):dX (x0::x1::x2::x3::x4::x5::x6::x7::x8::x9::H) e (x0::x1::x2::x3::x4::x5::x6::x7::x8::x9::H2):=.there (.t9 h)
theorem dX.t11{H H2:List ax}{e:ax}{x0 x1 x2 x3 x4 x5 x6 x7 x8 x9 x10:ax}(h:dX H e H2):dX (x0::x1::x2::x3::x4::x5::x6::x7::x8::x9::x10::H) e (x0::x1::x2::x3::x4::x5::x6::x7::x8::x9::x10::H2):=.there (.t10 h)
theorem dX.t12{H H2:List ax}{e:ax}{x0 x1 x2 x3 x4 x5 x6 x7 x8 x9 x10 x11:ax}(h:dX H e H2):dX (x0::x1::x2::x3::x4::x5::x6::x7::x8::x9::x10::x11::H) e (x0::x1::x2::x3::x4::x5::x6::x7::x8::x9::x10::x11::H2):=.there (.t11 h)
theorem ed.t2{H H2:List ax}{e e2:ax}{x0 x1:ax}(h:ed H e e2 H2):ed (x0::x1::H) e e2 (x0::x1::H2):=.there (.there h)
theorem ed.t3{H H2:List ax}{e e2:ax}{x0 x1 x2:ax}(h:ed H e e2 H2):ed (x0::x1::x2::H) e e2 (x0::x1::x2::H2):=.there (.t2 h)
theorem ed.t4{H H2:List ax}{e e2:ax}{x0 x1 x2 x3:ax}(h:ed H e e2 H2):ed (x0::x1::x2::x3::H) e e2 (x0::x1::x2::x3::H2):=.there (.t3 h)
theorem ed.t5{H H2:List ax}{e e2:ax}{x0 x1 x2 x3 x4:ax}(h:ed H e e2 H2):ed (x0::x1::x2::x3::x4::H) e e2 (x0::x1::x2::x3::x4::H2):=.there (.t4 h)
theorem ed.t6{H H2:List ax}{e e2:ax}{x0 x1 x2 x3 x4 x5:ax}(h:ed H e e2 H2):ed (x0::x1::x2::x3::x4::x5::H) e e2 (x0::x1::x2::x3::x4::x5::H2):=.there (.t5 h)
theorem ed.t7{H H2:List ax}{e e2:ax}{x0 x1 x2 x3 x4 x5 x6:ax}(h:ed H e e2 H2):ed (x0::x1::x2::x3::x4::x5::x6::H) e e2 (x0::x1::x2::x3::x4::x5::x6::H2):=.there (.t6 h)
theorem ed.t8{H H2:List ax}{e e2:ax}{x0 x1 x2 x3 x4 x5 x6 x7:ax}(h:ed H e e2 H2):ed (x0::x1::x2::x3::x4::x5::x6::x7::H) e e2 (x0::x1::x2::x3::x4::x5::x6::x7::H2):=.there (.t7 h)
theorem ed.t9{H H2:List ax}{e e2:ax}{x0 x1 x2 x3 x4 x5 x6 x7 x8:ax}(h:ed H e e2 H2):ed (x0::x1::x2::x3::x4::x5::x6::x7::x8::H) e e2 (x0::x1::x2::x3::x4::x5::x6::x7::x8::H2):=.there (.t8 h)
theorem ed.t10{H H2:List ax}{e e2:ax}{x0 x1 x2 x3 x4 x5 x6 x7 x8 x9:ax}(h:ed H e e2 H2):ed (x0::x1::x2::x3::x4::x5::x6::x7::x8::x9::H) e e2 (x0::x1::x2::x3::x4::x5::x6::x7::x8::x9::H2):=.there (.t9 h)
theorem ed.t11{H H2:List ax}{e e2:ax}{x0 x1 x2 x3 x4 x5 x6 x7 x8 x9 x10:ax}(h:ed H e e2 H2):ed (x0::x1::x2::x3::x4::x5::x6::x7::x8::x9::x10::H) e e2 (x0::x1::x2::x3::x4::x5::x6::x7::x8::x9::x10::H2):=.there (.t10 h)
theorem ed.t12{H H2:List ax}{e e2:ax}{x0 x1 x2 x3 x4 x5 x6 x7 x8 x9 x10 x11:ax}(h:ed H e e2 H2):ed (x0::x1::x2::x3::x4::x5::x6::x7::x8::x9::x10::x11::H) e e2 (x0::x1::x2::x3::x4::x5::x6::x7::x8::x9::x10::x11::H2):=.there (.t11 h)
theorem bF.h1{H:List ax}{x0:ax} :bF (x0::H) [x0] H:=.cons .here .nil
theorem bF.h2{H:List ax}{x0 x1:ax} :bF (x0::x1::H) [x0,x1] H:=.cons .here .h1
theorem bF.h3{H:List ax}{x0 x1 x2:ax} :bF (x0::x1::x2::H) [x0,x1,x2] H:=.cons .here .h2
theorem bF.h4{H:List ax}{x0 x1 x2 x3:ax} :bF (x0::x1::x2::x3::H) [x0,x1,x2,x3] H:=.cons .here .h3
theorem bF.h5{H:List ax}{x0 x1 x2 x3 x4:ax} :bF (x0::x1::x2::x3::x4::H) [x0,x1,x2,x3,x4] H:=.cons .here .h4
theorem bF.h6{H:List ax}{x0 x1 x2 x3 x4 x5:ax} :bF (x0::x1::x2::x3::x4::x5::H) [x0,x1,x2,x3,x4,x5] H:=.cons .here .h5
theorem bF.h7{H:List ax}{x0 x1 x2 x3 x4 x5 x6:ax} :bF (x0::x1::x2::x3::x4::x5::x6::H) [x0,x1,x2,x3,x4,x5,x6] H:=.cons .here .h6
theorem bF.h8{H:List ax}{x0 x1 x2 x3 x4 x5 x6 x7:ax} :bF (x0::x1::x2::x3::x4::x5::x6::x7::H) [x0,x1,x2,x3,x4,x5,x6,x7] H:=.cons .here .h7
theorem bF.h9{H:List ax}{x0 x1 x2 x3 x4 x5 x6 x7 x8:ax} :bF (x0::x1::x2::x3::x4::x5::x6::x7::x8::H) [x0,x1,x2,x3,x4,x5,x6,x7,x8] H:=.cons .here .h8
theorem bF.Dw{H:List ax}{x0 x1 x2 x3 x4 x5 x6 x7 x8 x9:ax} :bF (x0::x1::x2::x3::x4::x5::x6::x7::x8::x9::H) [x0,x1,x2,x3,x4,x5,x6,x7,x8,x9] H:=.cons .here .h9
theorem bF.Ob{H:List ax}{x0 x1 x2 x3 x4 x5 x6 x7 x8 x9 x10:ax} :bF (x0::x1::x2::x3::x4::x5::x6::x7::x8::x9::x10::H) [x0,x1,x2,x3,x4,x5,x6,x7,x8,x9,x10] H:=.cons .here .Dw
theorem bF.H6{H:List ax}{x0 x1 x2 x3 x4 x5 x6 x7 x8 x9 x10 x11:ax} :bF (x0::x1::x2::x3::x4::x5::x6::x7::x8::x9::x10::x11::H) [x0,x1,x2,x3,x4,x5,x6,x7,x8,x9,x10,x11] H:=.cons .here .Ob
theorem bF.Np{H:List ax}{x0 x1 x2 x3 x4 x5 x6 x7 x8 x9 x10 x11 x12:ax} :bF (x0::x1::x2::x3::x4::x5::x6::x7::x8::x9::x10::x11::x12::H) [x0,x1,x2,x3,x4,x5,x6,x7,x8,x9,x10,x11,x12] H:=.cons .here .H6
theorem bF.L9{H:List ax}{x0 x1 x2 x3 x4 x5 x6 x7 x8 x9 x10 x11 x12 x13:ax} :bF (x0::x1::x2::x3::x4::x5::x6::x7::x8::x9::x10::x11::x12::x13::H) [x0,x1,x2,x3,x4,x5,x6,x7,x8,x9,x10,x11,x12,x13] H:=.cons .here .Np
end Go.X

namespace Go.X
open Go
section
variable {P:Program} {ops:Array Oper} {Q:Exit→Act→World→Prop}
variable {n:Fr} {L:PF} {M:World→Prop}
def XQ(P:Program)(n:Fr)(ops:Array Oper)(Q:Exit→Act→World→Prop)(B:pD)(f:Nat)(l:Array Bool)(L:PF)(M:World→Prop):Prop:=
 ig ops l→∀ a w,Sat n L a→M w→JL B l w→sL P ops Q B f l a w
theorem XM.ko{W:World}{S:Nat→Nat→Prop}{H:List ax}(w:World)(k:Nat)(h:XM W S H w):XM W S H {w with drawn:=w.drawn+k} :=h.drawn k
theorem XC.gJ{i:Nat}{os:List Oper}{f:Nat}{l:Array Bool}(hm:P.follows .mixedOrders=true)(hf:os.length=f)(hl:Array.replicate f false=l)(hM:∀ w k,M w→M {w with drawn:=w.drawn+k})(h:XQ P n os.toArray Q [] f l L M):XC P n (.region i os.toArray true) Q L M:=fun a w ha hw=>by
 subst hf;subst hl
 refine wp_region_any hm ?_
 have:=ka _ _ _ _ (h (lB _ _) a _ ha (hM w 1 hw) trivial)
 simpa using this
theorem XQ.hoist{B:pD}{f i d:Nat}{l l':Array Bool}{o:Oper}{v:Value}(T:List Nat)(φ:World→Prop)(ho:ops[i]? =some o)(hk:mX ops l i=true)(hT:T.all (fun s=>wM ops i ops.size s&& !(Nat.beq s i))=true)(hB:B.all (fun p=> !p.1.contains i)=true)(hl:l.setIfInBounds i true=l')(hdst:o.dst=some d)(hd:Nat.blt d n.sz=true)(hφ:∀ w,M w→φ w)(hv:∀ a,Sat n L a→YF P ops φ o v a)(h:XQ P n ops Q ((T,φ)::B) f l' ((d,v)::L) M):XQ P n ops Q B (f+1) l L M:=by
 subst hl
 intro hc a w ha hw hJ
 simp only[mX,Bool.and_eq_true]at hk
 obtain⟨⟨h1,h2⟩,h3⟩:=hk
 have hr:i∈Region.ready .any ops l:=by simpa using h3
 refine oG (T:=T) (φ:=φ) ho (Region.noSelect_spec h1) (fun s hs=>⟨ops.size,?_⟩) ?_ ?_ f l a w hc (Region.free_spec ho h2) hr (hv a ha) ?_
 ·have h4:=List.all_eq_true.1 hT s hs
  simp only[Bool.and_eq_true]at h4;exact h4.1
 ·intro hi
  have:=List.all_eq_true.1 hT i hi
  simp at this
 ·intro p hp hi
  have:=List.all_eq_true.1 hB p hp
  simp at this
  exact this hi
 ·rw[hdst]
  exact h (e6 hc hr) _ w (ha.put hd v) hw ⟨fun _=>hφ w hw,JL.more B hJ⟩
theorem XQ.step{B:pD}{f i:Nat}{l:Array Bool}{o:Oper}(ho:ops[i]? =some o)(hg:o.guard=none)(hk:Region.ready .any ops l=[i])(h:ig ops (l.setIfInBounds i true)→∀ a w,Sat n L a→M w→JL B l w→o.wp P a w (sL P ops Q B f (l.setIfInBounds i true)) (Bo Q)):XQ P n ops Q B (f+1) l L M:=by
 intro hc a w ha hw hJ
 have hr:i∈Region.ready .any ops l:=by rw[hk];simp
 refine⟨hJ,fun h0=>(by rw[hk]at h0;cases h0),fun j hj=> ?_⟩
 rw[hk]at hj
 have:j=i:=by simpa using hj
 subst this
 unfold wpOp
 simp only[ho]
 rw[if_pos (by simp[Region.wanted,hg])]
 exact .inl (h (e6 hc hr) a w ha hw hJ)
theorem XQ.done{B:pD}{f:Nat}{l:Array Bool}(hk:Region.ready .any ops l=[])(h:XE n Q .normal L M):XQ P n ops Q B f l L M:=by
 intro hc a w ha hw hJ
 cases f with
 | zero=>exact⟨hJ,hk,h a w ha hw⟩
 | succ f=>exact⟨hJ,fun _=>h a w ha hw,fun j hj=>by rw[hk]at hj;cases hj⟩
theorem XQ.split{B:pD}{f d:Nat}{l:Array Bool}{t:Bool}(hl:lk L d=some (.bool t))(ht:t=true→XQ P n ops Q B f l ((d,.bool true)::L) M)(hf:t=false→XQ P n ops Q B f l ((d,.bool false)::L) M):XQ P n ops Q B f l L M:=by
 cases t
 ·exact fun hc a w ha hw hJ=>hf rfl hc a w ((Sub.cons hl (fun i v h=>h)).sat ha) hw hJ
 ·exact fun hc a w ha hw hJ=>ht rfl hc a w ((Sub.cons hl (fun i v h=>h)).sat ha) hw hJ
theorem sL.vr{B:pD} :∀ (f:Nat) (l:Array Bool) (a:Act) (w:World),sL P ops Q B f l a w→sL P ops Q (([],fun _=>True)::B) f l a w
 | 0,_,_,_,h=>⟨⟨fun _=>trivial,h.1⟩,h.2.1,h.2.2⟩
 | f+1,_,_,_,h=>⟨⟨fun _=>trivial,h.1⟩,h.2.1,fun j hj=>wpOp_mono (fun a' w'=>sL.vr f _ a' w') (h.2.2 j hj)⟩
variable {op:Op} {ty:TypeId} {pos:String} {af:Array Edge} {d f i:Nat} {v:Value} {B:pD} {l l':Array Bool}
theorem JC{φ:World→Prop}(hv:bh P n L φ ⟨some d,op,ty,pos,af,none⟩ v)(a:Act)(ha:Sat n L a):YF P ops φ ⟨some d,op,ty,pos,af,none⟩ v a:=
 .inl ⟨by simp[Region.wanted],fun w hw=>hv a w ha hw⟩
theorem XQ.pv(ho:ops[i]? =some ⟨some d,op,ty,pos,af,none⟩)(hk:mX ops l i=true)(hl:l.setIfInBounds i true=l')(hv:bh P n L (fun _=>True) ⟨some d,op,ty,pos,af,none⟩ v)(hd:Nat.blt d n.sz=true)(hB:B.all (fun p=> !p.1.contains i)=true)(h:XQ P n ops Q B f l' ((d,v)::L) M):XQ P n ops Q B (f+1) l L M:=
 XQ.hoist [] (fun _=>True) ho hk rfl hB hl rfl hd (fun _ _=>trivial) (JC hv) (fun hc a w ha hw hJ=>sL.vr _ _ _ _ (h hc a w ha hw hJ.2))
theorem XQ.load{W:World}{S:Nat→Nat→Prop}{H:List ax}(e:ax)(T:List Nat)(ho:ops[i]? =some ⟨some d,op,ty,pos,af,none⟩)(hk:mX ops l i=true)(hl:l.setIfInBounds i true=l')(hH:Has H e)(hv:bh P n L (fun w=>e.holds w) ⟨some d,op,ty,pos,af,none⟩ v)(hd:Nat.blt d n.sz=true)(hT:T.all (fun s=>wM ops i ops.size s&& !(Nat.beq s i))=true)(hB:B.all (fun p=> !p.1.contains i)=true)(h:XQ P n ops Q ((T,fun w=>e.holds w)::B) f l' ((d,v)::L) (XM W S H)):XQ P n ops Q B (f+1) l L (XM W S H):=
 XQ.hoist T _ ho hk hT hB hl rfl hd (dm hH) (JC hv) h
theorem XQ.skip{o:Oper}{j dj:Nat}{want:Bool}(ho:ops[i]? =some o)(hg:o.guard=some (j,want))(hdst:o.dst=some d)(hj:(ops[j]?).bind (·.dst)=some dj)(hlk:lk L dj=some (.bool (!want)))(hk:mX ops l i=true)(hl:l.setIfInBounds i true=l')(hd:Nat.blt d n.sz=true)(hB:B.all (fun p=> !p.1.contains i)=true)(h:XQ P n ops Q B f l' ((d,undef)::L) M):XQ P n ops Q B (f+1) l L M:=
 XQ.hoist [] (fun _=>True) ho hk rfl hB hl hdst hd (fun _ _=>trivial) (fun a ha=>.inr ⟨by
  have hy:=ha.2.2 dj _ hlk
  simp only[Region.wanted,hg,yielded,hj]
  simp only[Array.getD_eq_getD_getElem?]at hy
  cases hx:a.tmps[dj]? with
  | none=>rw[hx]at hy;simp[undef]at hy
  | some u=>rw[hx]at hy;simp at hy;subst hy;simp[hx],rfl⟩) (fun hc a w ha hw hJ=>sL.vr _ _ _ _ (h hc a w ha hw hJ.2))
theorem XQ.store{W:World}{S:Nat→Nat→Prop}{H H':List ax}{t:TypeId}{x y:Operand}{b o i' m:Nat}{C C':Nat→Value}(ho:ops[i]? =some ⟨none,.store t x y,ty,pos,af,none⟩)(hk:Region.ready .any ops l=[i])(hl:l.setIfInBounds i true=l')(hx:ev L x=some (ptr b o i'))(hy:ev L y=some v)(hH:ed H (.cells b o m C) (.cells b o m C') H')(hi:i'<m∧cH C i' v=C')(hv:one v=true)(hs:dx P t=some 1)(hob:∀ w,XM W S H' w→JL B l' w)(h:XQ P n ops Q B f l' L (XM W S H')):XQ P n ops Q B (f+1) l L (XM W S H):=by
 subst hl
 refine XQ.step ho rfl hk fun hc a w ha hw hJ=> ?_
 obtain⟨H1,hd,hp⟩:=hH.del
 have h2:=hw.setCell hd hi.1 v
 rw[hi.2]at h2
 have hw':=hw.perm hd.perm
 have hr:=il (P:=P) (show(ax.cells b o m C).holds w from hw'.good.1 _ (by simp)) hi.1 hv
 unfold Oper.wp
 have:(execOp a.eval ⟨none,.store t x y,ty,pos,af,none⟩).run P w= .ok .skip (w.setCell ⟨b,o+i',none⟩ v):=by
  have hz:(⟨b,o+i',none⟩:Addr).add 0=⟨b,o+i',none⟩:=rfl
  simp[execOp,az ha hx,az ha hy,Instr.storeAt,Instr.sureAddr,ptr,storeVar,o8 hv,run_sizeOf hs,storeCells,hz,hr]
 rw[this]
 exact h hc _ _ ha (h2.perm hp) (hob _ (h2.perm hp))
theorem XQ.eX{W:World}{S:Nat→Nat→Prop}{H H':List ax}{t:TypeId}{x y:Operand}{b o i' m sz:Nat}{C C':Nat→Value}{cs:Array Value}(ho:ops[i]? =some ⟨none,.store t x y,ty,pos,af,none⟩)(hk:Region.ready .any ops l=[i])(hl:l.setIfInBounds i true=l')(hx:ev L x=some (ptr b o i'))(hy:ev L y=some (.agg cs))(hH:ed H (.cells b o m C) (.cells b o m C') H')(hi:i'+sz≤m∧bQ C i' cs.toList=C')(hv:cs.toList.all one=true∧cs.size=sz)(hs:dx P t=some sz)(hob:∀ w,XM W S H' w→JL B l' w)(h:XQ P n ops Q B f l' L (XM W S H')):XQ P n ops Q B (f+1) l L (XM W S H):=by
 subst hl
 refine XQ.step ho rfl hk fun hc a w ha hw hJ=> ?_
 obtain⟨H1,hd,hp⟩:=hH.del
 obtain⟨w',hr,hx'⟩:=gh (P:=P) cs.toList i' 0 C w (hw.perm hd.perm) (by simp;omega) hv.1
 simp only[Nat.add_zero]at hx'
 rw[hi.2]at hx'
 unfold Oper.wp
 have:(execOp a.eval ⟨none,.store t x y,ty,pos,af,none⟩).run P w= .ok .skip w':=by
  simp[execOp,az ha hx,az ha hy,Instr.storeAt,Instr.sureAddr,ptr,storeVar,Value.cells,run_sizeOf hs,hv.2,hr]
 rw[this]
 exact h hc _ _ ha (hx'.perm hp) (hob _ (hx'.perm hp))
theorem XQ.call{W:World}{S:Nat→Nat→Prop}{H:List ax}{g:FuncId}{xs:List Operand}{vs:List Value}{ji:Array TypeId}{pre F:List ax}{post:Value→List ax→Prop}(ho:ops[i]? =some ⟨some d,.call ⟨.value (.func g),xs.toArray,ji⟩,ty,pos,af,none⟩)(hk:Region.ready .any ops l=[i])(hl:l.setIfInBounds i true=l')(he:Dt L xs=some vs)(hs:Spec P g vs pre post)(hp:bF H pre F)(hc:cX P g=true)(hd:Nat.blt d n.sz=true)(hob:∀ v H1,post v H1→∀ w,XM W S (H1++F) w→JL B l' w)(h:∀ v H1,post v H1→XQ P n ops Q B f l' ((d,v)::L) (XM W S (H1++F))):XQ P n ops Q B (f+1) l L (XM W S H):=by
 subst hl
 refine XQ.step ho rfl hk fun hcl a w ha hw hJ=> ?_
 unfold Oper.wp
 rw[oc hc (lD ha xs vs he)]
 show Calls P g vs.toArray w _
 refine(hs w (hw.pick hp).good).mono ?_
 rintro e w' ⟨v,H1,rfl,hpost,hwr,hx⟩
 have hx':=hw.called hp hx (fun e he=>List.all_eq_true.1 hwr e he)
 exact h v H1 hpost hcl _ _ (ha.put hd v) hx' (hob v H1 hpost _ hx')
theorem XQ.box{W:World}{S:Nat→Nat→Prop}{H:List ax}{t:TypeId}{x:Operand}{m:Nat}{C:Nat→Value}(ho:ops[i]? =some ⟨some d,.box t x,ty,pos,af,none⟩)(hk:Region.ready .any ops l=[i])(hl:l.setIfInBounds i true=l')(hx:ev L x=some v)(hm:v.cells.size=m)(hC:∀ i,i<m→cellsOf v.cells i=C i)(hd:Nat.blt d n.sz=true)(hob:∀ b w,XM W S (.cells b 0 m C::H) w→JL B l' w)(h:∀ b,XQ P n ops Q B f l' ((d,ptr b 0 0)::L) (XM W S (.cells b 0 m C::H))):XQ P n ops Q B (f+1) l L (XM W S H):=by
 subst hl
 refine XQ.step ho rfl hk fun hcl a w ha hw hJ=> ?_
 have hx':=hw.alloc v.cells t C (fun i hi=>by rw[dW _ _ hi,hC i (hm▸hi)])
 rw[hm]at hx'
 unfold Oper.wp
 have:(execOp a.eval ⟨some d,.box t x,ty,pos,af,none⟩).run P w= .ok (.value (ptr w.heap.size 0 0)) (w.alloc (.cells v.cells t)):=by
  simp[execOp,az ha hx,Instr.box,newVar,newRow,newObj,Sem.run,ptr]
 rw[this]
 exact h _ hcl _ _ (ha.put hd _) hx' (hob _ _ hx')
theorem XQ.cY{W:World}{S:Nat→Nat→Prop}{H:List ax}{t:TypeId}{z:Value}{m:Nat}{C:Nat→Value}(ho:ops[i]? =some ⟨some d,.alloc t,ty,pos,af,none⟩)(hk:Region.ready .any ops l=[i])(hl:l.setIfInBounds i true=l')(hz:zeroOf P t=some z)(hm:z.cells.size=m)(hC:∀ i,i<m→cellsOf z.cells i=C i)(hd:Nat.blt d n.sz=true)(hob:∀ b w,XM W S (.cells b 0 m C::H) w→JL B l' w)(h:∀ b,XQ P n ops Q B f l' ((d,ptr b 0 0)::L) (XM W S (.cells b 0 m C::H))):XQ P n ops Q B (f+1) l L (XM W S H):=by
 subst hl
 refine XQ.step ho rfl hk fun hcl a w ha hw hJ=> ?_
 have hx:=hw.alloc z.cells t C (fun i hi=>by rw[dW _ _ hi,hC i (hm▸hi)])
 rw[hm]at hx
 unfold Oper.wp
 have:(execOp a.eval ⟨some d,.alloc t,ty,pos,af,none⟩).run P w= .ok (.value (ptr w.heap.size 0 0)) (w.alloc (.cells z.cells t)):=by
  simp[execOp,Instr.alloc,jq hz,newVar,newRow,newObj,Sem.run,ptr]
 rw[this]
 exact h _ hcl _ _ (ha.put hd _) hx (hob _ _ hx)
end
section
variable {P:Program} {n:Fr} {L:PF} {ops:Array Oper} {Q:Exit→Act→World→Prop} {ty:TypeId} {pos:String} {af:Array Edge} {f i:Nat} {B:pD} {l l':Array Bool}
end
end Go.X

namespace Go.X
open Go Go.Proofs Go.Shelf
def strs(l:List ByteArray):List Value:=l.map Value.string
abbrev uO(p:Option Addr)(cap:Nat)(e:TypeId)(l:List ByteArray):ax:=.row (.slice p l.length cap) e 1 l.length (strs l)
section
variable {P:Program} {ρ:Ren}
structure Left (w w':World) (v v':Value) (e:TypeId) (k':Nat) (xs':List Value):Prop where
 row:(ax.row v' e 1 k' xs').holds w'
 keep:fU w w' (fun b _=>v.ownBlock=some b)
 own:∀ b,v'.ownBlock=some b→v.ownBlock=some b∨w.heap.size≤b
theorem D8{w:World}{p:Option Addr}{cap k:Nat}{e:TypeId}{xs:List Value}(h:(ax.row (.slice p k cap) e 1 k xs).holds w):(p=none∧cap=0∧k=0∧xs=[])∨∃ g cur,p=some ⟨g,0,none⟩∧w.heap[g]? =some (.cells cur e (0,0))∧k≤cap∧cap≤maxLen∧cur.size=cap∧xs.length=k∧cur.toList.take k=xs:=by
 rcases h.2 with⟨hv,rfl⟩ | ⟨g,cap',cur,hv,_,h1,h2,h3,h4,h5⟩
 ·simp only[Value.slice.injEq]at hv
  obtain⟨rfl,_,rfl⟩:=hv
  exact .inl ⟨rfl,rfl,rfl,List.eq_nil_of_length_eq_zero (by simpa using h.1)⟩
 ·simp only[Value.slice.injEq,true_and]at hv
  obtain⟨rfl,rfl⟩:=hv
  exact .inr ⟨g,cur,rfl,h1,h2,h3,by simpa using h4,by simpa using h.1,by simpa using h5⟩
def Mk(l:List ByteArray)(x:ByteArray):Nat:=Lib.bsGo (fun t=>Op.bytesLess (l.getD t ByteArray.empty).toList x.toList) l.length 0 l.length
def wY(l:List ByteArray)(x:ByteArray):Bool:=decide (Mk l x<l.length∧l.getD (Mk l x) ByteArray.empty=x)
theorem E3{l:List ByteArray}{j:Nat}(h:j<l.length):(strs l)[j]? =some (.string (l.getD j ByteArray.empty)):=by simp[strs,List.getD,h]
theorem yZ(L:Lays2.n26 P ρ)(p:Option Addr)(cap:Nat)(e:TypeId)(l:List ByteArray)(x:ByteArray)(hl:l.length≤1000000):Spec P (ρ.f 26) [.slice p l.length cap,.string x] [uO p cap e l] (fun v H1=>v= .tuple #[.int .i64 (Mk l x),.bool (wY l x)]∧H1=[uO p cap e l]):=by
 intro w hw
 have hrow:(uO p cap e l).holds w:=hw.1 _ (by simp)
 have nil:l=[]→Calls P (ρ.f 26) [.slice p l.length cap,.string x].toArray w fun ee w'=>∃ v H',ee= .returned v∧(v= .tuple #[.int .i64 (Mk l x),.bool (wY l x)]∧H'=[uO p cap e l])∧H'.all ax.wr=true∧XM w (bS [uO p cap e l]) H' w':=fun h=>by
  subst h
  refine(Any2.slices_BinarySearch_string_empty L p cap x w).mono fun ee w' ⟨he,hw'⟩=>⟨_,_,he,⟨rfl,rfl⟩,rfl,?_⟩
  subst hw'
  exact XM.start hw
 rcases D8 hrow with⟨rfl,rfl,hk,hx⟩ | ⟨g,cur,rfl,h1,h2,h3,h4,h5,h6⟩
 ·exact nil (List.eq_nil_of_length_eq_zero hk)
 ·refine(Any2.slices_BinarySearch_string L g 0 l.length cap (fun t=>l.getD t ByteArray.empty) x w (by omega) (fun j hj=>cell_of_row hrow (E3 hj))).mono fun ee w' ⟨he,q,hw'⟩=>⟨_,_,he,⟨rfl,rfl⟩,rfl,?_⟩
  subst hw'
  exact(XM.start hw).drawn q
end
end Go.X

namespace Go.X
open Go Go.Proofs
def sf(P:Program)(t:TypeId):Bool:=match P.underlying t with
 | some (.slice e)=>(match P.underlying e with
   | some (.int .u8)=>true
   | _=>false)&&(match P.info? e with
   | some i=>Nat.beq i.size 1&&Nat.ble i.bytes 1000&&(match i.zero with
     | some (.int .u8 z)=>decide (z=0)
     | _=>false)
   | none=>false)
 | _=>false
theorem kF{P:Program}{t:TypeId}(h:sf P t=true):∃ e i,P.underlying t=some (.slice e)∧P.underlying e=some (.int .u8)∧P.info? e=some i∧i.size=1∧i.bytes≤1000∧i.zero=some (.int .u8 0):=by
 unfold sf at h
 split at h
 ·rename_i e ht
  simp only[Bool.and_eq_true]at h
  obtain⟨h1,h2⟩:=h
  split at h1
  ·rename_i he
   split at h2
   ·rename_i i hi
    simp only[Bool.and_eq_true]at h2
    obtain⟨⟨h3,h4⟩,h5⟩:=h2
    split at h5
    ·rename_i z hz
     have:z=0:=of_decide_eq_true h5
     subst this
     exact⟨e,i,ht,he,hi,Nat.eq_of_beq_eq_true h3,Nat.le_of_ble_eq_true h4,hz⟩
    ·cases h5
   ·cases h2
  ·cases h1
 ·cases h
def bv(b:UInt8):Value:=.int .u8 (b.toNat:Int)
section
variable {P:Program} {n:Fr} {Q:Exit→Act→World→Prop} {L:PF} {ops:Md} {rest:List Oper} {ty:TypeId} {pos:String} {af:Array Edge} {d:Nat} {W:World} {S:Nat→Nat→Prop} {H H':List ax} {φ:World→Prop} {gd:Option (Nat×Bool)}
theorem XO.BG{t:TypeId}{x y:Operand}{kl kc:IntKind}{l:Int}(hx:ev L x=some (.int kl l))(hy:ev L y=some (.int kc l))(hl:0≤l∧l≤1000000)(ht:sf P t=true)(hd:Nat.blt d n.sz=true)(h:∀ b,XO P n ops Q rest ((d,.slice (some ⟨b,0,none⟩) l.toNat l.toNat)::L) (XM W S (.cells b 0 l.toNat (fun _=>bv 0)::H))):XO P n ops Q (⟨some d,.makeSlice t x y,ty,pos,af,none⟩::rest) L (XM W S H):=
 XO.op rfl fun a w ha hw=>by
  obtain⟨e,i,h1,h2,h3,h4,h5,h6⟩:=kF ht
  have hsz:(madeCells (Value.int .u8 0).cells (l.toNat*i.size)).size=l.toNat:=by rw[size_madeCells,h4,Nat.mul_one]
  have hx':=hw.alloc (madeCells (Value.int .u8 0).cells (l.toNat*i.size)) e (fun _=>bv 0) (fun j hj=>by
   have hc:(Value.int IntKind.u8 0).cells= #[Value.int .u8 0]:=rfl
   rw[size_madeCells]at hj
   unfold madeCells
   rw[hc,Array.getElem?_map,Array.getElem?_range,if_pos hj]
   simp[bv,Nat.mod_one])
  rw[hsz]at hx'
  have hb:(i.bytes:Int)*l≤281474976710656:=by
   have:(i.bytes:Int)*l≤1000*1000000:=Int.mul_le_mul (by omega) hl.2 hl.1 (by omega)
   omega
  have hr:=run_make (P:=P) w t e i _ h1 h3 h6 kl kc l l hl.1 (Int.le_refl _) hb (by omega)
  unfold Oper.wp
  have:(execOp a.eval ⟨some d,.makeSlice t x y,ty,pos,af,none⟩).run P w= .ok (.value (.slice (some ⟨w.heap.size,0,none⟩) l.toNat l.toNat)) (w.alloc (.cells (madeCells (Value.int .u8 0).cells (l.toNat*i.size)) e)):=by
   simp[execOp,az ha hx,az ha hy,hr]
  rw[this]
  exact h _ _ _ (ha.put hd _) hx'
theorem XO.AY{dT sT:TypeId}{x y:Operand}{b m k c o:Nat}{s:ByteArray}{C C':Nat→Value}(hx:ev L x=some (.slice (some ⟨b,o,none⟩) k c))(hy:ev L y=some (.string s))(ht:sf P dT=true)(hk:s.size≤k)(ho:o+s.size≤m)(hH:ed H (.cells b 0 m C) (.cells b 0 m C') H')(hC:bQ C o (s.data.toList.map bv)=C')(hd:Nat.blt d n.sz=true)(h:XO P n ops Q rest ((d,.int .i64 (s.size:Int))::L) (XM W S H')):XO P n ops Q (⟨some d,.call ⟨.builtin .copy,#[x,y],#[dT,sT]⟩,ty,pos,af,none⟩::rest) L (XM W S H):=
 XO.op rfl fun a w ha hw=>by
  obtain⟨e,i,h1,h2,h3,h4,h5,h6⟩:=kF ht
  obtain⟨H1,hdl,hp⟩:=hH.del
  have hlen:(s.data.toList.map bv).length=s.size:=by rw[List.length_map,←ByteArray.size_data];simp
  obtain⟨w',hr,hx'⟩:=gh (P:=P) (s.data.toList.map bv) o 0 C w (hw.perm hdl.perm) (by rw[hlen];omega) (by
   rw[List.all_eq_true]
   intro v hv
   simp only[List.mem_map]at hv
   obtain⟨u,_,rfl⟩:=hv
   rfl)
  simp only[Nat.add_zero,Nat.zero_add]at hx' hr
  rw[hC]at hx'
  unfold Oper.wp
  have hmin:Nat.min s.size k=s.size:=Nat.min_eq_left hk
  have htk:List.take s.size (List.map (fun b:UInt8=>Value.int IntKind.u8 (b.toNat:Int)) s.data.toList)=s.data.toList.map bv:=by
   rw[List.take_of_length_le (by rw[List.length_map,←ByteArray.size_data];simp)]
   rfl
  have:(execOp a.eval ⟨some d,.call ⟨.builtin .copy,#[x,y],#[dT,sT]⟩,ty,pos,af,none⟩).run P w= .ok (.value (.int .i64 (s.size:Int))) w':=by
   simp[execOp,resolve,invoke,builtin,az ha hx,az ha hy,Builtin.copy_,run_underlying h1,Builtin.lenOf,Builtin.firstCells,sizeOf,typeInfo,h3,hmin]
   rw[htk,hr]
   simp[Result.andThen,goInt]
  rw[this]
  exact h _ _ (ha.put hd _) (hx'.perm hp)
theorem V.It{t:TypeId}{x y:Operand}{b m c:Nat}{kk:IntKind}{z:Int}(hx:ev L x=some (.slice (some ⟨b,0,none⟩) m c))(hy:ev L y=some (.int kk z))(ht:sf P t=true)(hz:0≤z∧z<m∧m≤c):bh P n L φ ⟨some d,.slice t x (some y) none none,ty,pos,af,gd⟩ (.slice (some ⟨b,z.toNat,none⟩) (m-z.toNat) (c-z.toNat)):=fun a w ha _=>by
 obtain⟨e,i,h1,h2,h3,h4,h5,h6⟩:=kF ht
 obtain⟨k,rfl⟩:∃ k:Nat,z=(k:Int):=⟨z.toNat,by omega⟩
 have hs:dx P e=some 1:=by unfold dx;rw[h3];simp[h4]
 have hk1:k≤m:=by omega
 have hk2:¬c-k=0:=by omega
 simp[execOp,az ha hx,az ha hy,Instr.sliceAt,run_underlying h1,Instr.slice,Instr.sliceBounds,Instr.sliceBound,asIntOf,hk1,run_sizeOf hs,hk2,Addr.add,hz.2.2]
 rw[if_neg (by omega)]
 split
 ·rename_i q;rw[q]
 ·rfl
theorem V.MH{s t:TypeId}{x:Operand}{b m k c:Nat}{C:Nat→Value}{B:ByteArray}(hx:ev L x=some (.slice (some ⟨b,0,none⟩) k c))(hk:k=B.size)(hH:∀ w,φ w→(ax.cells b 0 m C).holds w)(hC:B.size≤m∧∀ (i:Nat) (h:i<B.size),C i=bv B[i])(hs:sf P s=true)(ht:P.underlying t=some .string):bh P n L φ ⟨some d,.convert s t x,ty,pos,af,gd⟩ (.string B):=fun a w ha hw=>by
 subst hk
 obtain⟨e,i,h1,h2,h3,h4,h5,h6⟩:=kF hs
 have hb:Go.Lib.Bytes w b 0 B:=fun j hj=>by
  have:=cB (hH w hw) (i:=j) (by omega)
  rw[this,hC.2 j hj];rfl
 have hr:=Go.Lib.run_convert_whole (P:=P) w s e t h1 h2 ht b 0 B hb c
 simp[execOp,az ha hx,hr]
end
end Go.X
