import Derived.Test.YthdinakloheinaaGreatDoorXBytes
import Derived.Test.YthdinakloheinaaGreatDoorXBits
namespace Go.X.Vm
open Go Go.X
def gp(f:Int→Bool):Nat→Nat
 | 0=>0
 | n+1=>gp f n|||(if f n then 2^n else 0)
theorem cQ(f:Int→Bool)(n j:Nat):(gp f n).testBit j=(decide (j<n)&&f j):=by
 induction n with
 | zero=>simp[gp]
 | succ n ih=>
  simp only[gp,Nat.testBit_or,ih]
  by_cases h:j=n
  ·subst h
   cases hf:f (j:Int)<;>simp
  ·have:(if f (n:Int)=true then 2^n else 0).testBit j=false:=by
    split
    ·rw[Nat.testBit_two_pow];simp;omega
    ·simp
   rw[this]
   by_cases h2:j<n
   ·simp[h2];omega
   ·have:¬j<n+1:=by omega
    simp[h2,this]
theorem DY(f:Int→Bool)(n:Nat):gp f n<2^n:=by
 apply Nat.lt_pow_two_of_testBit
 intro i hi
 rw[cQ]
 have:¬i<n:=by omega
 simp[this]
theorem pQ{f g:Int→Bool}{n:Nat}(h:∀ i:Int,0≤i→i<n→f i=g i):gp f n=gp g n:=by
 apply Nat.eq_of_testBit_eq
 intro j
 rw[cQ,cQ]
 by_cases hj:j<n
 ·rw[h j (by omega) (by omega)]
 ·simp[hj]
theorem B1{f g:Int→Bool}{n a:Nat}(ha:a<n)(hg:g a=true)(h:∀ i:Int,0≤i→i<n→¬i=a→g i=f i):gp f n|||2^a=gp g n:=by
 apply Nat.eq_of_testBit_eq
 intro j
 rw[Nat.testBit_or,cQ,cQ,Nat.testBit_two_pow]
 by_cases hj:a=j
 ·subst hj;simp[ha,hg]
 ·by_cases hj2:j<n
  ·rw[h j (by omega) (by omega) (by omega)];simp[hj]
  ·simp[hj,hj2]
theorem xt{f g:Int→Bool}{n a:Nat}(ha:a<n)(hg:g a=false)(h:∀ i:Int,0≤i→i<n→¬i=a→g i=f i):iq (gp f n) (2^a)=gp g n:=by
 apply Nat.eq_of_testBit_eq
 intro j
 rw[fH,cQ,cQ,Nat.testBit_two_pow]
 by_cases hj:a=j
 ·subst hj;simp[ha,hg]
 ·by_cases hj2:j<n
  ·rw[h j (by omega) (by omega) (by omega)];simp[hj]
  ·simp[hj2]
structure BB where
 ord:Int→Int
 tk:Int→Bool
def p2(k:Int):Int:=((2^k.toNat:Nat):Int)
def BB.at_(b:BB)(k i:Int):Bool:=decide (0≤k)&&decide (b.ord i=k+1)&& !b.tk i
def BB.mask(b:BB)(k:Int):Nat:=gp (b.at_ k) 64
structure PB where
 b:BB
 u:Int→Int
def BB.cJ(b:BB):Int→Int:=fun i=>if b.tk i then b.ord i else 0
def BB.bA(b:BB):PB:=⟨b,b.cJ⟩
def BB.eM(b:BB)(a:Int):BB:= {b with tk:=aa b.tk a true}
def BB.bare(b:BB)(a:Int):BB:= {b with tk:=aa b.tk a false}
def BB.split(b:BB)(a:Int):BB:= {b with ord:=aa (aa b.ord a (b.ord a-1)) (a+p2 (b.ord a-2)) (b.ord a-1)}
def BB.splits:Nat→BB→Int→BB
 | 0,b,_=>b
 | n+1,b,a=>BB.splits n (b.split a) a
def iT(a k:Int):Int:=if(a/p2 k)%2=1 then a-p2 k else a+p2 k
def BB.bH(b:BB)(a:Int):Int:=iT a (b.ord a-1)
def BB.ft(b:BB)(a:Int):BB:= {b with ord:=aa (aa b.ord (max a (b.bH a)) 0) (min a (b.bH a)) (b.ord a+1)}
def BB.fh(b:BB)(a:Int):Prop:=b.ord a<7∧b.ord (b.bH a)=b.ord a∧b.tk (b.bH a)=false
instance (b:BB) (a:Int):Decidable (b.fh a):=by unfold BB.fh;infer_instance
def BB.fC:Nat→BB→Int→BB
 | 0,b,_=>b
 | n+1,b,a=>if b.fh a then BB.fC n (b.ft a) (min a (b.bH a))else b
def BB.low(b:BB)(k:Int):Option Nat:=ck (b.at_ k) 64
def BB.pick(b:BB)(o:Int):Option (Nat×Nat):=match ck (fun k=>decide (o≤k)&&(b.low k).isSome) 7 with
 | none=>none
 | some k=>(b.low k).map fun i=>(k,i)
def BB.take(b:BB)(o:Int):Int×Int×BB:=if o<0∨6<o then(0,1,b)else match b.pick o with
 | none=>(0,4,b)
 | some (k,i)=>(i,0,BB.splits ((k:Int)-o).toNat (b.eM i) i)
def BB.is(b:BB)(a:Int):Int:=if a<0∨63<a then 1 else if b.tk a then 0 else 2
def BB.kI(b:BB)(a:Int):Int×BB:=if b.is a≠0 then(b.is a,b)else(0,BB.fC (7-b.ord a).toNat (b.bare a) a)
def fg(f:Int→Bool):Nat→List Int
 | 0=>[]
 | k+1=>fg f k++(if f k then [(k:Int)]else [])
theorem fS(f:Int→Bool):∀ k,(fg f k).length≤k
 | 0=>by simp[fg]
 | k+1=>by
  have:=fS f k
  simp only[fg,List.length_append]
  split<;>simp<;>omega
theorem oJ(f:Int→Bool){k:Int}(h:0≤k):(f k=true→fg f (k+1).toNat=fg f k.toNat++[k])∧(f k=false→fg f (k+1).toNat=fg f k.toNat):=by
 have e:((k.toNat:Nat):Int)=k:=by omega
 rw[show(k+1).toNat=k.toNat+1 from by omega]
 refine⟨fun q=> ?_,fun q=> ?_⟩<;>simp[fg,e,q]
def cL(f:Int→Int):Nat→Int
 | 0=>0
 | n+1=>cL f n+f n
def BB.room(b:BB)(i:Int):Int:=if 0<b.ord i∧b.tk i=false then p2 (b.ord i-1)else 0
def BB.left(b:BB):Int:=cL b.room 64
def BB.init:BB:=⟨aa (fun _=>0) 0 7,fun _=>false⟩
structure BB.Inv (b:BB):Prop where
 gL:∀ i,0≤b.ord i∧b.ord i≤7
 out:∀ i,i<0∨64≤i→b.ord i=0
 tk:∀ i,b.tk i=true→0<b.ord i
 al:∀ i,0<b.ord i→i%p2 (b.ord i-1)=0
 dis:∀ i j,0<b.ord i→i<j→j<i+p2 (b.ord i-1)→b.ord j=0
theorem q8(k:Int):0<p2 k:=by
 have:=Nat.two_pow_pos k.toNat
 unfold p2;omega
theorem yF:p2 0=1:=rfl
theorem zR:p2 1=2:=rfl
theorem y6:p2 2=4:=rfl
theorem yH:p2 3=8:=rfl
theorem zg:p2 4=16:=rfl
theorem zQ:p2 5=32:=rfl
theorem wW:p2 6=64:=rfl
theorem lG{k:Int}(h:0≤k):p2 (k+1)=2*p2 k:=by
 unfold p2
 rw[show(k+1).toNat=k.toNat+1 from by omega,Nat.pow_succ]
 omega
theorem mm{v:Int}(h:0<v)(h7:v≤7):v=1∨v=2∨v=3∨v=4∨v=5∨v=6∨v=7:=by omega
theorem HC{i v:Int}(h1:1<v)(h7:v≤7)(h:i%p2 (v-1)=0):i%p2 (v-2)=0∧(i+p2 (v-2))%p2 (v-2)=0:=by
 rcases mm (by omega) h7 with rfl | rfl | rfl | rfl | rfl | rfl | rfl
 ·omega
 all_goals(simp only[Int.reduceSub,yF,zR,y6,yH,zg,zQ,wW]at h ⊢;omega)
theorem Ku{i v:Int}(h1:0<v)(h7:v≤7)(h:i%p2 (v-1)=0)(hi:0≤i∧i<64):i+p2 (v-1)≤64:=by
 rcases mm h1 h7 with rfl | rfl | rfl | rfl | rfl | rfl | rfl
 all_goals(simp only[Int.reduceSub,yF,zR,y6,yH,zg,zQ,wW]at h ⊢;omega)
theorem qT{a v:Int}(h1:0<v)(h7:v<7)(h:a%p2 (v-1)=0)(hi:0≤a∧a<64):∃ l,0≤l∧l+p2 v≤64∧l%p2 v=0∧((a=l∧iT a (v-1)=l+p2 (v-1))∨(a=l+p2 (v-1)∧iT a (v-1)=l)):=by
 have e:=lG (k:=v-1) (by omega)
 rw[show v-1+1=v from by omega]at e
 unfold iT
 by_cases c:(a/p2 (v-1))%2=1
 ·rw[if_pos c]
  refine⟨a-p2 (v-1),?_,?_,?_,.inr ⟨by omega,rfl⟩⟩
  all_goals
   rcases mm h1 (by omega)with rfl | rfl | rfl | rfl | rfl | rfl | rfl
   all_goals(simp only[Int.reduceSub,yF,zR,y6,yH,zg,zQ,wW]at h c ⊢;omega)
 ·rw[if_neg c]
  refine⟨a,?_,?_,?_,.inl ⟨rfl,rfl⟩⟩
  all_goals
   rcases mm h1 (by omega)with rfl | rfl | rfl | rfl | rfl | rfl | rfl
   all_goals(simp only[Int.reduceSub,yF,zR,y6,yH,zg,zQ,wW]at h c ⊢;omega)
theorem BB.Inv.qX{b:BB}(h:b.Inv){i:Int}(hi:0<b.ord i):0≤i∧i<64:=by
 apply Classical.byContradiction
 intro c
 have:=h.out i (by omega)
 omega
theorem BB.Inv.fit{b:BB}(h:b.Inv){i:Int}(hi:0<b.ord i):i+p2 (b.ord i-1)≤64:=Ku hi (h.gL i).2 (h.al i hi) (h.qX hi)
theorem BB.Inv.init:BB.init.Inv where
 gL:=fun i=>by
  show 0≤(if i=0 then(7:Int)else 0)∧(if i=0 then(7:Int)else 0)≤7
  split<;>omega
 out:=fun i hi=>by show aa (fun _=>0) 0 7 i=0;rw[ad _ _ (by omega)]
 tk:=fun i hi=>by cases hi
 al:=fun i hi=>by
  have:i=0:=by
   apply Classical.byContradiction;intro c
   rw[show BB.init.ord i=aa (fun _=>(0:Int)) 0 7 i from rfl,ad _ _ c]at hi;omega
  subst this;exact Int.zero_emod _
 dis:=fun i j hi h1 h2=>by
  have:i=0:=by
   apply Classical.byContradiction;intro c
   rw[show BB.init.ord i=aa (fun _=>(0:Int)) 0 7 i from rfl,ad _ _ c]at hi;omega
  subst this
  show aa (fun _=>(0:Int)) 0 7 j=0
  rw[ad _ _ (by omega)]
theorem BB.Inv.eM{b:BB}(h:b.Inv){a:Int}(ha:0<b.ord a):(b.eM a).Inv:=
 ⟨h.gL,h.out,fun i hi=>by
  have:aa b.tk a true i=true:=hi
  by_cases c:i=a
  ·rw[c];exact ha
  ·rw[ad _ _ c]at this;exact h.tk i this,h.al,h.dis⟩
theorem BB.Inv.bare{b:BB}(h:b.Inv)(a:Int):(b.bare a).Inv:=
 ⟨h.gL,h.out,fun i hi=>by
  have:aa b.tk a false i=true:=hi
  by_cases c:i=a
  ·rw[c,ae]at this;cases this
  ·rw[ad _ _ c]at this;exact h.tk i this,h.al,h.dis⟩
theorem BB.Inv.apart{b:BB}(h:b.Inv){i j:Int}(hi:0<b.ord i)(hj:0<b.ord j)(hne:¬i=j){x:Int}(h1:i≤x∧x<i+p2 (b.ord i-1))(h2:j≤x∧x<j+p2 (b.ord j-1)):False:=by
 by_cases c:i<j
 ·have:=h.dis i j hi c (by omega);omega
 ·have:=h.dis j i hj (by omega) (by omega);omega
theorem BB.Inv.split{b:BB}(h:b.Inv){a:Int}(ha:1<b.ord a):(b.split a).Inv∧a+p2 (b.ord a-2)<64∧b.ord (a+p2 (b.ord a-2))=0∧(b.split a).ord a=b.ord a-1:=by
 have hal:=h.al a (by omega)
 have hrn:=h.gL a
 have hin:=h.qX (i:=a) (by omega)
 have hfit:=h.fit (i:=a) (by omega)
 have e2:=lG (k:=b.ord a-2) (by omega)
 rw[show b.ord a-2+1=b.ord a-1 from by omega]at e2
 have hp:=q8 (b.ord a-2)
 have hz:=h.dis a (a+p2 (b.ord a-2)) (by omega) (by omega) (by omega)
 have hne:¬a=a+p2 (b.ord a-2):=by omega
 have hal2:=HC ha hrn.2 hal
 have o1:∀ i,(b.split a).ord i=if i=a+p2 (b.ord a-2)then b.ord a-1 else if i=a then b.ord a-1 else b.ord i:=fun i=>rfl
 have oa:(b.split a).ord a=b.ord a-1:=by rw[o1,if_neg hne,if_pos rfl]
 refine⟨⟨fun i=> ?_,fun i hi=> ?_,fun i hi=> ?_,fun i hi=> ?_,fun i j hi h1 h2=> ?_⟩,by omega,hz,oa⟩
 ·rw[o1];have:=h.gL i;split
  ·omega
  ·split<;>omega
 ·rw[o1,if_neg (by omega),if_neg (by omega)];exact h.out i hi
 ·rw[o1];split
  ·omega
  ·split
   ·omega
   ·exact h.tk i hi
 ·rw[o1]at hi ⊢
  by_cases c1:i=a+p2 (b.ord a-2)
  ·rw[if_pos c1,show b.ord a-1-1=b.ord a-2 from by omega,c1];exact hal2.2
  ·rw[if_neg c1]at hi ⊢
   by_cases c2:i=a
   ·rw[if_pos c2,show b.ord a-1-1=b.ord a-2 from by omega,c2];exact hal2.1
   ·rw[if_neg c2]at hi ⊢;exact h.al i hi
 ·rw[o1]at hi h2
  by_cases c1:i=a+p2 (b.ord a-2)
  ·rw[if_pos c1,show b.ord a-1-1=b.ord a-2 from by omega]at h2
   rw[o1,if_neg (by omega),if_neg (by omega)]
   exact h.dis a j (by omega) (by omega) (by omega)
  ·rw[if_neg c1]at hi h2
   by_cases c2:i=a
   ·rw[if_pos c2,show b.ord a-1-1=b.ord a-2 from by omega]at h2
    rw[o1,if_neg (by omega),if_neg (by omega)]
    exact h.dis a j (by omega) (by omega) (by omega)
   ·rw[if_neg c2]at hi h2
    have n1:¬j=a+p2 (b.ord a-2):=fun e=>h.apart (i:=i) (j:=a) hi (by omega) c2 (x:=j) ⟨by omega,h2⟩ ⟨by omega,by omega⟩
    have n2:¬j=a:=fun e=>h.apart (i:=i) (j:=a) hi (by omega) c2 (x:=j) ⟨by omega,h2⟩ ⟨by omega,by omega⟩
    rw[o1,if_neg n1,if_neg n2]
    exact h.dis i j hi h1 h2
theorem BB.Inv.splits:∀ (n:Nat) {b:BB} {a:Int},b.Inv→(n:Int)<b.ord a→(BB.splits n b a).Inv
 | 0,_,_,h,_=>h
 | n+1,b,a,h,ha=>by
  obtain⟨h1,_,_,h4⟩:=h.split (a:=a) (by omega)
  exact BB.Inv.splits n h1 (by rw[h4];omega)
theorem BB.Inv.ft {b : BB} (h : b.Inv) {a : Int} (ha : 0 < b.ord a) (hta : b.tk a = false) (hj : b.fh a) : (b.ft a).Inv ∧ 0 ≤ b.bH a ∧ b.bH a < 64 ∧ ¬ b.bH a = a ∧ (b.ft a).ord (min a (b.bH a)) = b.ord a + 1 ∧ (b.ft a).tk (min a (b.bH a)) = false := by
  obtain ⟨j1, j2, j3⟩ := hj
  have hal := h.al a ha
  have hin := h.qX ha
  obtain ⟨l, l1, l2, l3, l4⟩ := qT ha j1 hal hin
  rw [show iT a (b.ord a - 1) = b.bH a from rfl] at l4
  have e2 := lG (k := b.ord a - 1) (by omega)
  rw [show b.ord a - 1 + 1 = b.ord a from by omega] at e2
  have hp := q8 (b.ord a - 1)
  have hmin : min a (b.bH a) = l := by omega
  have hmax : max a (b.bH a) = l + p2 (b.ord a - 1) := by omega
  have ol : b.ord l = b.ord a := by rcases l4 with ⟨q, _⟩ | ⟨_, q⟩; · rw [← q]
                                    · rw [← q]; exact j2
  have oh : b.ord (l + p2 (b.ord a - 1)) = b.ord a := by rcases l4 with ⟨_, q⟩ | ⟨q, _⟩; · rw [← q]; exact j2
                                                         · rw [← q]
  have tl : b.tk l = false := by rcases l4 with ⟨q, _⟩ | ⟨_, q⟩; · rw [← q]; exact hta
                                 · rw [← q]; exact j3
  have th : b.tk (l + p2 (b.ord a - 1)) = false := by rcases l4 with ⟨_, q⟩ | ⟨q, _⟩; · rw [← q]; exact j3
                                                      · rw [← q]; exact hta
  have o1 : ∀ i, (b.ft a).ord i = if i = l then b.ord a + 1 else if i = l + p2 (b.ord a - 1) then 0 else b.ord i := fun i => by
    show aa (aa b.ord (max a (b.bH a)) 0) (min a (b.bH a)) (b.ord a + 1) i = _
    rw [hmin, hmax]; rfl
  have t1 : (b.ft a).tk = b.tk := rfl
  refine ⟨⟨fun i => ?_, fun i hi => ?_, fun i hi => ?_, fun i hi => ?_, fun i j hi h1 h2 => ?_⟩, by omega, by omega, by omega, by rw [hmin, o1, if_pos rfl], by rw [hmin, t1, tl]⟩
  · rw [o1]; have := h.gL i; split
    · omega
    · split <;> omega
  · rw [o1, if_neg (by omega), if_neg (by omega)]; exact h.out i hi
  · rw [t1] at hi
    rw [o1]; split
    · omega
    · split
      · rename_i q1 q2; rw [q2, th] at hi; cases hi
      · exact h.tk i hi
  · rw [o1] at hi ⊢
    by_cases c1 : i = l
    · rw [if_pos c1, show b.ord a + 1 - 1 = b.ord a from by omega, c1]; exact l3
    · rw [if_neg c1] at hi ⊢
      by_cases c2 : i = l + p2 (b.ord a - 1)
      · rw [if_pos c2] at hi; omega
      · rw [if_neg c2] at hi ⊢; exact h.al i hi
  · rw [o1] at hi h2
    by_cases c1 : i = l
    · rw [if_pos c1, show b.ord a + 1 - 1 = b.ord a from by omega] at h2
      rw [o1, if_neg (by omega)]
      by_cases c2 : j = l + p2 (b.ord a - 1)
      · rw [if_pos c2]
      · rw [if_neg c2]
        by_cases c3 : j < l + p2 (b.ord a - 1)
        · exact h.dis l j (by omega) (by omega) (by rw [ol]; omega)
        · exact h.dis (l + p2 (b.ord a - 1)) j (by omega) (by omega) (by rw [oh]; omega)
    · rw [if_neg c1] at hi h2
      by_cases c2 : i = l + p2 (b.ord a - 1)
      · rw [if_pos c2] at hi; omega
      · rw [if_neg c2] at hi h2
        have n1 : ¬ j = l := fun e => h.apart (i := i) (j := l) hi (by omega) c1 (x := j) ⟨by omega, h2⟩ ⟨by omega, by rw [ol]; omega⟩
        rw [o1, if_neg n1]
        by_cases c3 : j = l + p2 (b.ord a - 1)
        · rw [if_pos c3]
        · rw [if_neg c3]; exact h.dis i j hi h1 h2
theorem BB.Inv.fC:∀ (n:Nat) {b:BB} {a:Int},b.Inv→0<b.ord a→b.tk a=false→(BB.fC n b a).Inv
 | 0,_,_,h,_,_=>h
 | n+1,b,a,h,ha,ht=>by
  rw[BB.fC]
  by_cases c:b.fh a
  ·rw[if_pos c]
   obtain⟨h1,_,_,_,h5,h6⟩:=h.ft ha ht c
   exact BB.Inv.fC n h1 (by rw[h5];omega) h6
  ·rw[if_neg c];exact h
theorem fO{p:Int→Bool}{m k:Nat}(h:ck p m=some k):k<m∧p k=true∧∀ j:Int,0≤j→j<k→p j=false:=by
 unfold ck at h
 have h1:=List.find?_some h
 have h2:=List.mem_range.1 (List.mem_of_find?_eq_some h)
 refine⟨h2,h1,fun j j0 jk=> ?_⟩
 cases hp:p j with
 | false=>rfl
 | true=>
  exfalso
  obtain⟨xs,ys,hs,hn⟩:=(List.find?_eq_some_iff_append.1 h).2
  have hlen:xs.length=k:=by
   have h3:(List.range m)[xs.length]? =some k:=by rw[hs];simp
   have h4:=List.getElem?_eq_some_iff.1 h3
   obtain⟨h5,h6⟩:=h4
   simpa using h6
  have hj:j.toNat∈xs:=by
   have h3:xs=List.range k:=by
    have h4:xs=(List.range m).take xs.length:=by rw[hs];simp
    rw[h4,hlen,List.take_range]
    congr 1
    omega
   rw[h3];exact List.mem_range.2 (by omega)
  have:=hn j.toNat hj
  rw[show((j.toNat:Nat):Int)=j from by omega,hp]at this
  simp at this
theorem jX{p:Int→Bool}{m:Nat}(h:ck p m=none):∀ j:Int,0≤j→j<m→p j=false:=fun j h0 h1=>by
 unfold ck at h
 have:=List.find?_eq_none.1 h j.toNat (List.mem_range.2 (by omega))
 rw[show((j.toNat:Nat):Int)=j from by omega]at this
 simpa using this
theorem BB.o9{b:BB}{k i:Int}(hk:0≤k):b.at_ k i=true↔b.ord i=k+1∧b.tk i=false:=by
 unfold BB.at_;simp[hk]
theorem BB.mh{b:BB}{o:Int}{k i:Nat}(h:b.pick o=some (k,i)):o≤k∧k<7∧i<64∧b.ord i=k+1∧b.tk i=false:=by
 unfold BB.pick at h
 cases hf:ck (fun k=>decide (o≤k)&&(b.low k).isSome) 7 with
 | none=>rw[hf]at h;cases h
 | some k'=>
  rw[hf]at h
  simp only[Option.map_eq_some_iff]at h
  obtain⟨i',h1,h2⟩:=h
  simp only[Prod.mk.injEq]at h2
  obtain⟨rfl,rfl⟩:=h2
  obtain⟨a1,a2,_⟩:=fO hf
  obtain⟨b1,b2,_⟩:=fO (show ck (b.at_ k') 64=some i' from h1)
  simp only[Bool.and_eq_true,decide_eq_true_eq]at a2
  have:=(BB.o9 (by omega)).1 b2
  exact⟨a2.1,a1,b1,this.1,this.2⟩
theorem BB.Inv.take{b:BB}(h:b.Inv)(o:Int):(b.take o).2.2.Inv:=by
 unfold BB.take
 split
 ·exact h
 ·rename_i ho
  split
  ·exact h
  ·rename_i k i hp
   obtain⟨h1,h2,h3,h4,h5⟩:=BB.mh hp
   have hh:=h.eM (a:=i) (by omega)
   exact BB.Inv.splits _ hh (by show _<b.ord i;omega)
theorem BB.vd{b:BB}{a:Int}(h:b.is a=0):0≤a∧a<64∧b.tk a=true:=by
 unfold BB.is at h
 split at h
 ·omega
 ·split at h
  ·exact⟨by omega,by omega,by assumption⟩
  ·omega
theorem BB.Inv.kI{b:BB}(h:b.Inv)(a:Int):(b.kI a).2.Inv:=by
 unfold BB.kI
 by_cases c:b.is a=0
 ·rw[if_neg (by simp[c])]
  obtain⟨h1,h2,h3⟩:=BB.vd c
  exact BB.Inv.fC _ (h.bare a) (h.tk a h3) (ae _ _ _)
 ·rw[if_pos c];exact h
theorem BB.ql(b:BB)(k:Int):b.mask k<18446744073709551616:=DY _ 64
theorem BB.Ed(b:BB)(k:Int)(j:Nat):(b.mask k).testBit j=(decide (j<64)&&b.at_ k j):=cQ _ _ _
theorem BB.zq{b:BB}{o:Int}(h:o<0∨6<o):b.take o=(0,1,b):=by unfold BB.take;rw[if_pos h]
theorem BB.Dr{b:BB}{o:Int}(h:¬(o<0∨6<o))(hz:b.pick o=none):b.take o=(0,4,b):=by unfold BB.take;rw[if_neg h,hz]
theorem BB.l6{b:BB}{o:Int}{k i:Nat}(h:¬(o<0∨6<o))(hz:b.pick o=some (k,i)):b.take o=((i:Int),0,BB.splits ((k:Int)-o).toNat (b.eM i) i):=by unfold BB.take;rw[if_neg h,hz]
theorem tL{b:BB}{m i:Int}(h:¬(b.ord i=m+1∧b.tk i=false)):b.at_ m i=false:=by
 unfold BB.at_
 cases ht:b.tk i<;>simp_all
theorem BB.uU{b:BB}{a m i:Int}(h:¬i=a):(b.eM a).at_ m i=b.at_ m i:=by
 show(decide (0≤m)&&decide (b.ord i=m+1)&& !aa b.tk a true i)=(decide (0≤m)&&decide (b.ord i=m+1)&& !b.tk i)
 rw[ad _ _ h]
theorem BB.vu(b:BB)(m a:Int):(b.eM a).at_ m a=false:=tL (by
 rintro⟨_,q⟩
 have:aa b.tk a true a=false:=q
 rw[ae]at this;cases this)
theorem BB.uw:∀ (n:Nat) (b:BB) (a:Int),(BB.splits n b a).tk=b.tk
 | 0,_,_=>rfl
 | n+1,b,a=>by rw[BB.splits,BB.uw n];rfl
theorem BB.Inv.mN:∀ (n:Nat) {b:BB} {a:Int},b.Inv→(n:Int)<b.ord a→(BB.splits n b a).ord a=b.ord a-n∧∀ i,¬i=a→0<b.ord i→(BB.splits n b a).ord i=b.ord i
 | 0,_,_,h,_=>⟨by simp[BB.splits],fun _ _ _=>rfl⟩
 | n+1,b,a,h,ha=>by
  obtain⟨h1,h2,h3,h4⟩:=h.split (a:=a) (by omega)
  obtain⟨i1,i2⟩:=BB.Inv.mN n h1 (by rw[h4];omega)
  rw[BB.splits]
  refine⟨by rw[i1,h4];omega,fun i hi h0=> ?_⟩
  have e:(b.split a).ord i=b.ord i:=by
   show aa (aa b.ord a (b.ord a-1)) (a+p2 (b.ord a-2)) (b.ord a-1) i=b.ord i
   rw[ad _ _ (by rintro rfl;omega),ad _ _ hi]
  rw[i2 i hi (by omega),e]
theorem BB.Inv.Cd{b:BB}(h:b.Inv){o:Int}(ho:¬(o<0∨6<o)){k i:Nat}(hp:b.pick o=some (k,i)):(⟨BB.splits ((k:Int)-o).toNat (b.eM i) i,aa b.cJ i (o+1)⟩:PB)=(b.take o).2.2.bA:=by
 obtain⟨h1,h2,h3,h4,h5⟩:=BB.mh hp
 have hh:=h.eM (a:=i) (by omega)
 obtain⟨s1,s2⟩:=hh.mN ((k:Int)-o).toNat (a:=i) (by show _<b.ord i;omega)
 rw[BB.l6 ho hp]
 unfold BB.bA
 congr 1
 funext j
 unfold BB.cJ
 rw[BB.uw]
 show aa b.cJ i (o+1) j=if aa b.tk i true j=true then _ else 0
 by_cases c:j=i
 ·subst c
  rw[ae,ae,if_pos rfl,s1]
  show o+1=b.ord i-_
  omega
 ·rw[ad _ _ c,ad _ _ c]
  unfold BB.cJ
  by_cases q:b.tk j=true
  ·rw[if_pos q,if_pos q,s2 j c (h.tk j q)];rfl
  ·rw[if_neg q,if_neg q]
theorem F0:∀ a:Nat,a<64→∀ k:Nat,k<6→((a^^^2^k:Nat):Int)=(if((a/2^k:Nat):Int)%2=1 then(a:Int)-(2^k:Nat)else(a:Int)+(2^k:Nat))∧((iq a (2^k):Nat):Int)=min (a:Int) (if((a/2^k:Nat):Int)%2=1 then(a:Int)-(2^k:Nat)else(a:Int)+(2^k:Nat)):=by decide+kernel
theorem FZ{a k:Int}(ha:0≤a∧a<64)(hk:0≤k∧k<6):((a.toNat^^^2^k.toNat:Nat):Int)=iT a k∧((iq a.toNat (2^k.toNat):Nat):Int)=min a (iT a k):=by
 have:=F0 a.toNat (by omega) k.toNat (by omega)
 have e:((a.toNat/2^k.toNat:Nat):Int)=a/p2 k:=by
  unfold p2
  rw[Int.natCast_ediv,show((a.toNat:Nat):Int)=a from by omega]
 rw[e,show((a.toNat:Nat):Int)=a from by omega]at this
 exact this
theorem BB.Inv.oO{b:BB}(h:b.Inv){a:Int}(ha:0<b.ord a)(h7:b.ord a<7):0≤b.bH a∧b.bH a<64∧¬b.bH a=a:=by
 obtain⟨l,l1,l2,l3,l4⟩:=qT ha h7 (h.al a ha) (h.qX ha)
 rw[show iT a (b.ord a-1)=b.bH a from rfl]at l4
 have e2:=lG (k:=b.ord a-1) (by omega)
 rw[show b.ord a-1+1=b.ord a from by omega]at e2
 have hp:=q8 (b.ord a-1)
 omega
theorem BB.Inv.BV{b:BB}(h:b.Inv){a:Int}(ha:0<b.ord a)(h7:b.ord a<7):((b.eM a).mask (b.ord a-1)).testBit (b.bH a).toNat=decide (b.fh a):=by
 obtain⟨r1,r2,r3⟩:=h.oO ha h7
 rw[BB.Ed,show(((b.bH a).toNat:Nat):Int)=b.bH a from by omega]
 have h1:(b.bH a).toNat<64:=by omega
 have h2:0≤b.ord a-1:=by omega
 have h3:b.ord a-1+1=b.ord a:=by omega
 rw[BB.uU r3,Bool.eq_iff_iff,Bool.and_eq_true,decide_eq_true_eq,decide_eq_true_eq,BB.o9 h2,h3]
 unfold BB.fh
 exact⟨fun q=>⟨h7,q.2⟩,fun q=>⟨h1,q.2⟩⟩
theorem BB.Inv.Cn{b:BB}(h:b.Inv){a:Int}(ha:0<b.ord a)(hj:b.fh a):iq ((b.eM a).mask (b.ord a-1)) (2^(b.bH a).toNat)=((b.ft a).eM (min a (b.bH a))).mask (b.ord a-1)∧∀ m,0≤m→m<7→¬m=b.ord a-1→((b.ft a).eM (min a (b.bH a))).mask m=(b.eM a).mask m:=by
 obtain⟨r1,r2,r3⟩:=h.oO ha hj.1
 have key:∀ m i,0≤m→((b.ft a).eM (min a (b.bH a))).at_ m i=(!decide (i=b.bH a)&&(b.eM a).at_ m i):=fun m i m0=>by
  rw[Bool.eq_iff_iff,Bool.and_eq_true,BB.o9 m0,BB.o9 m0]
  have o1:((b.ft a).eM (min a (b.bH a))).ord i=aa (aa b.ord (max a (b.bH a)) 0) (min a (b.bH a)) (b.ord a+1) i:=rfl
  have t1:((b.ft a).eM (min a (b.bH a))).tk i=aa b.tk (min a (b.bH a)) true i:=rfl
  have o2:(b.eM a).ord i=b.ord i:=rfl
  have t2:(b.eM a).tk i=aa b.tk a true i:=rfl
  rw[o1,t1,o2,t2]
  by_cases c1:i=min a (b.bH a)
  ·rw[c1,ae,ae]
   by_cases c2:min a (b.bH a)=b.bH a
   ·simp[c2]
   ·have c3:min a (b.bH a)=a:=by omega
    rw[c3,ae];simp
  ·rw[ad _ _ c1,ad _ _ c1]
   by_cases c2:i=max a (b.bH a)
   ·rw[c2,ae]
    by_cases c3:max a (b.bH a)=b.bH a
    ·simp[c3];omega
    ·have c4:max a (b.bH a)=a:=by omega
     rw[c4,ae];simp;omega
   ·have c3:¬i=a:=by omega
    have c4:¬i=b.bH a:=by omega
    rw[ad _ _ c2,ad _ _ c3]
    simp[c4]
 refine⟨xt (by omega) ?_ (fun i _ _ hi=> ?_),fun m m0 _ hm=>pQ fun i _ _=> ?_⟩
 ·rw[key _ _ (by omega)]
  have:(((b.bH a).toNat:Nat):Int)=b.bH a:=by omega
  simp[this]
 ·have:¬i=b.bH a:=by omega
  rw[key _ _ (by omega)];simp[this]
 ·rw[key _ _ m0]
  by_cases c:i=b.bH a
  ·subst c
   rw[tL (b:=b.eM a) (by rintro⟨q,_⟩;have:b.ord (b.bH a)=m+1:=q;have:=hj.2.1;omega)]
   simp
  ·simp[c]
theorem BB.ux{b:BB}{a:Int}(ha:0<b.ord a)(hr:0≤a∧a<64)(ht:b.tk a=false):(b.eM a).mask (b.ord a-1)|||2^a.toNat=b.mask (b.ord a-1)∧∀ m,0≤m→m<7→¬m=b.ord a-1→b.mask m=(b.eM a).mask m:=by
 refine⟨B1 (by omega) ?_ (fun i _ _ hi=> ?_),fun m m0 _ hm=>pQ fun i _ _=> ?_⟩
 ·rw[show((a.toNat:Nat):Int)=a from by omega]
  exact(BB.o9 (by omega)).2 ⟨by omega,ht⟩
 ·exact(BB.uU (by omega)).symm
 ·by_cases c:i=a
  ·subst c
   rw[BB.vu,tL (by omega)]
  ·exact(BB.uU c).symm
theorem BB.qS:∀ (n:Nat) (b:BB) (a:Int),(BB.fC n b a).tk=b.tk
 | 0,_,_=>rfl
 | n+1,b,a=>by
  rw[BB.fC]
  split
  ·rw[BB.qS n];rfl
  ·rfl
theorem BB.Inv.tV:∀ (n:Nat) {b:BB} {a:Int},b.Inv→0<b.ord a→b.tk a=false→∀ i,b.tk i=true→(BB.fC n b a).ord i=b.ord i
 | 0,_,_,_,_,_,_,_=>rfl
 | n+1,b,a,h,ha,ht,i,hi=>by
  rw[BB.fC]
  by_cases c:b.fh a
  ·rw[if_pos c]
   obtain⟨h1,_,_,_,h5,h6⟩:=h.ft ha ht c
   rw[BB.Inv.tV n h1 (by rw[h5];omega) h6 i hi]
   show aa (aa b.ord (max a (b.bH a)) 0) (min a (b.bH a)) (b.ord a+1) i=b.ord i
   have n1:¬i=a:=by rintro rfl;rw[ht]at hi;cases hi
   have n2:¬i=b.bH a:=by rintro rfl;rw[c.2.2]at hi;cases hi
   rw[ad _ _ (by omega),ad _ _ (by omega)]
  ·rw[if_neg c]
theorem BB.CJ{b:BB}{a:Int}(ht:b.tk a=true):(b.bare a).eM a=b:=by
 unfold BB.bare BB.eM
 simp only[]
 have:aa (aa b.tk a false) a true=b.tk:=by
  funext i
  by_cases c:i=a
  ·rw[c,ae,ht]
  ·rw[ad _ _ c,ad _ _ c]
 rw[this]
theorem BB.Inv.oC{b:BB}(h:b.Inv){a:Int}(hi:b.is a=0):(⟨BB.fC (7-b.ord a).toNat (b.bare a) a,aa b.cJ a 0⟩:PB)=(b.kI a).2.bA:=by
 obtain⟨h1,h2,h3⟩:=BB.vd hi
 have ho:=h.tk a h3
 have hk:=(h.bare a).tV (7-b.ord a).toNat (a:=a) ho (ae _ _ _)
 unfold BB.kI
 rw[if_neg (by simp[hi])]
 unfold BB.bA
 congr 1
 funext j
 unfold BB.cJ
 rw[BB.qS]
 show aa b.cJ a 0 j=if aa b.tk a false j=true then _ else 0
 by_cases c:j=a
 ·rw[c,ae,ae];simp
 ·rw[ad _ _ c,ad _ _ c]
  unfold BB.cJ
  by_cases q:b.tk j=true
  ·rw[if_pos q,if_pos q,hk j (by show aa b.tk a false j=true;rw[ad _ _ c];exact q)];rfl
  ·rw[if_neg q,if_neg q]
theorem BB.nt{b:BB}{a:Int}(h:b.is a≠0):b.kI a=(b.is a,b):=by unfold BB.kI;rw[if_pos h]
theorem BB.qk{b:BB}{a:Int}(h:b.is a=0):b.kI a=(0,BB.fC (7-b.ord a).toNat (b.bare a) a):=by unfold BB.kI;rw[if_neg (by simp[h])]
theorem BB.jT{b:BB}{a:Int}(h:a<0∨63<a):b.is a=1:=by unfold BB.is;rw[if_pos h]
theorem BB.nh{b:BB}{a:Int}(h:¬(a<0∨63<a))(ht:b.tk a=false):b.is a=2:=by unfold BB.is;rw[if_neg h,if_neg (by simp[ht])]
theorem BB.rj{b:BB}{a:Int}(h:¬(a<0∨63<a))(ht:b.tk a=true):b.is a=0:=by unfold BB.is;rw[if_neg h,if_pos ht]
theorem BB.Inv.ti{b:BB}(h:b.Inv)(a:Int):(b.cJ a=0→b.tk a=false)∧(¬b.cJ a=0→b.tk a=true∧b.cJ a=b.ord a):=by
 unfold BB.cJ
 cases q:b.tk a with
 | false=>simp
 | true=>have:=h.tk a q;simp;omega
theorem wi(k:Int):(p2 k).toNat=2^k.toNat:=rfl
theorem BB.zJ:∀ (n:Nat) {b:BB} {a:Int},¬b.fh a→BB.fC n b a=b
 | 0,_,_,_=>rfl
 | n+1,b,a,h=>by rw[BB.fC,if_neg h]
theorem ll(f g:Int→Int):∀ n,cL (fun i=>f i+g i) n=cL f n+cL g n
 | 0=>rfl
 | n+1=>by simp only[cL,ll f g n];omega
theorem iD:∀ n,cL (fun _=>0) n=0
 | 0=>rfl
 | n+1=>by simp only[cL,iD n];rfl
theorem eW{f g:Int→Int} :∀ {n:Nat},(∀ i:Int,0≤i→i<n→f i=g i)→cL f n=cL g n
 | 0,_=>rfl
 | n+1,h=>by simp only[cL,eW (n:=n) (fun i h0 h1=>h i h0 (by omega)),h n (by omega) (by omega)]
def BB.Jc(b:BB)(q j:Int):Prop:=b.ord j>q∧b.tk j=false
def BB.vq(b:BB)(q i cW:Int):Prop:=(cW= -1∧∀ j,i<j→j<64→¬b.Jc q j)∨
 (i<cW∧cW<64∧b.Jc q cW∧∀ j,i<j→j<64→b.Jc q j→b.ord cW<b.ord j∨(b.ord cW=b.ord j∧cW≤j))
theorem BB.vq.start(b:BB)(q:Int):b.vq q 63 (-1):=.inl ⟨rfl,fun j h1 h2=>by omega⟩
theorem BB.vq.take{b:BB}{q i cW:Int}(h:b.vq q i cW)(hi:i<64)(hc:b.Jc q i)(hle:cW<0∨b.ord i≤b.ord cW)(h0: -1≤i):b.vq q (i-1) i:=by
 refine .inr ⟨by omega,hi,hc,fun j h1 h2 h3=> ?_⟩
 by_cases c:j=i
 ·subst c;exact .inr ⟨rfl,by omega⟩
 ·rcases h with⟨_,h4⟩ | ⟨h4,h5,h6,h7⟩
  ·exact absurd h3 (h4 j (by omega) h2)
  ·have:=h7 j (by omega) h2 h3
   rcases hle with hle | hle
   ·omega
   ·rcases this with t | t<;>omega
theorem BB.vq.none{b:BB}{q cW:Int}(hq:0≤q)(h:b.vq q (-1) cW)(hb:cW<0):b.pick q=none:=by
 rcases h with⟨_,h2⟩ | ⟨h4,_⟩
 ·unfold BB.pick
  rw[cF (fun k k0 k1=>by
   by_cases c:q≤k
   ·have:b.low k= .none:=cF fun j j0 j1=>tL fun e=>h2 j (by omega) (by omega) ⟨by omega,e.2⟩
    rw[this];simp
   ·simp[c])]
 ·omega
theorem BB.vq.some{b:BB}{q cW:Int}(hq:0≤q)(hI:b.Inv)(h:b.vq q (-1) cW)(hb:¬cW<0):b.pick q=some ((b.ord cW-1).toNat,cW.toNat)∧cW<64∧b.ord cW>q∧b.tk cW=false:=by
 rcases h with⟨h1,_⟩ | ⟨h4,h5,h6,h7⟩
 ·omega
 ·have hr:=hI.gL cW
  have hc:=h6.1
  have e:(((b.ord cW-1).toNat:Nat):Int)=b.ord cW-1:=by omega
  have hl:b.low (b.ord cW-1)=Option.some cW.toNat:=cU (by omega) (by omega) ((BB.o9 (by omega)).2 ⟨by omega,h6.2⟩) (fun j j0 j1=>tL fun e=>by
   have:=h7 j (by omega) (by omega) ⟨by omega,e.2⟩
   omega)
  refine⟨?_,h5,h6.1,h6.2⟩
  unfold BB.pick
  rw[cU (k:=b.ord cW-1) (by omega) (by omega) (by
   rw[hl];simp;omega) (fun k k0 k1=>by
   by_cases c:q≤k
   ·have:b.low k= .none:=cF fun j j0 j1=>tL fun e=>by
     have:=h7 j (by omega) (by omega) ⟨by omega,e.2⟩
     omega
    rw[this];simp
   ·simp[c])]
  simp only[]
  rw[e,hl]
  rfl
def kH(f:Int→Bool):Nat→Int
 | 0=>0
 | n+1=>kH f n+if f n then 1 else 0
theorem Bp(f:Int→Bool)(n:Nat):0≤kH f n∧kH f n≤n:=by
 induction n with
 | zero=>simp[kH]
 | succ n ih=>simp only[kH];split<;>omega
theorem KE(x n:Nat):x >>> n≤x:=by rw[Nat.shiftRight_eq_div_pow];exact Nat.div_le_self _ _
def aq(s:PB)(i:Nat):Value:=
 if i%1=0∧i/1<7 then .int .u64 (((s.b.mask ((i/1:Nat):Int)):Nat):Int)else
 if 7≤i∧(i-7)%1=0∧(i-7)/1<64 then .int .i64 (s.u (((i-7)/1:Nat):Int))else
 undef
theorem aq.fQ(s:PB)(z0:Int)(q0:0≤z0∧z0<7):((0+0)+z0.toNat*1)<71∧aq s ((0+0)+z0.toNat*1)= .int .u64 (((s.b.mask z0):Nat):Int):=by
 refine⟨by omega,?_⟩
 unfold aq
 rw[if_pos (by omega)]
 rw[show((((0+0)+z0.toNat*1)/1:Nat):Int)=z0 from by omega]
theorem aq.lX(s:PB)(z0:Int)(q0:0≤z0∧z0<64):((0+7)+z0.toNat*1)<71∧aq s ((0+7)+z0.toNat*1)= .int .i64 (s.u z0):=by
 refine⟨by omega,?_⟩
 unfold aq
 rw[if_neg (by omega)]
 rw[if_pos (by omega)]
 rw[show(((((0+7)+z0.toNat*1)-7)/1:Nat):Int)=z0 from by omega]
theorem aq.CQ(s:PB)(z0:Int)(q0:0≤z0∧z0<64)(v:Int):((0+7)+z0.toNat*1)<71∧cH (aq s) ((0+7)+z0.toNat*1) (.int .i64 (v))=aq ({s with u:=aa s.u z0 v}):=by
 refine⟨by omega,?_⟩
 funext j
 unfold cH
 by_cases hj:j=((0+7)+z0.toNat*1)
 ·rw[if_pos hj,hj,(aq.lX ({s with u:=aa s.u z0 v}) z0 q0).2]
  all_goals simp[aa,aX]
 ·rw[if_neg hj]
  unfold aq
  refine au (fun c0=> ?_) (fun c0=> ?_)
  ·first | rfl | simp[aa,aX]
  refine au (fun c1=> ?_) (fun c1=> ?_)
  ·have hne:¬((((j-7)/1:Nat):Int)=z0):=by omega
   simp only[aa,aX,hne,if_false,and_true,true_and]
  rfl
def Mu:List Int:=[0,1,56,2,57,49,28,3,61,58,42,50,38,29,17,4,62,47,59,36,45,43,51,22,53,39,33,30,24,18,12,5,63,55,48,27,60,41,37,16,46,35,44,21,52,32,23,11,54,26,40,15,34,20,31,10,25,14,19,9,13,8,7,6]
def Mv(i:Nat):Value:=.int .u8 (Mu.getD i 0)
theorem Kp:∀ t:Nat,t<64→IntKind.u64.wrap (((2^t:Nat):Int)*285870213051353865)=((2^t*285870213051353865%18446744073709551616:Nat):Int)∧
  (((2^t*285870213051353865%18446744073709551616:Nat):Int)).fdiv (2^(min (58:Int).toNat IntKind.u64.bits))=((2^t*285870213051353865%18446744073709551616/288230376151711744:Nat):Int)∧
  (2^t*285870213051353865%18446744073709551616/288230376151711744)<64∧IntKind.i64.wrap (t:Int)=t∧
  Mu.getD (2^t*285870213051353865%18446744073709551616/288230376151711744) 0=(t:Int):=by decide+kernel
theorem FI{t:Nat}(ht:t<64):0+(((2^t*285870213051353865%18446744073709551616/288230376151711744:Nat):Int)).toNat*1<64∧Mv (0+(((2^t*285870213051353865%18446744073709551616/288230376151711744:Nat):Int)).toNat*1)= .int .u8 (t:Int):=by
 obtain⟨_,_,z3,_,z5⟩:=Kp t ht
 have e:0+(((2^t*285870213051353865%18446744073709551616/288230376151711744:Nat):Int)).toNat*1=2^t*285870213051353865%18446744073709551616/288230376151711744:=by omega
 rw[e]
 exact⟨z3,congrArg (Value.int .u8) z5⟩
theorem Ia{n:Int}(h:0≤n∧n<64)(x:Nat):(x:Int).fdiv (2^(min n.toNat IntKind.u64.bits))=((x >>> n.toNat:Nat):Int):=by
 have:min n.toNat IntKind.u64.bits=n.toNat:=by show min n.toNat 64=_;omega
 rw[this,Nat.shiftRight_eq_div_pow,Int.fdiv_eq_ediv_of_nonneg _ (by exact Int.le_of_lt (Int.pow_pos (by omega)))]
 simp
theorem Ji:∀ n:Nat,n<64→IntKind.u64.wrap (1*2^(min n IntKind.u64.bits))=((2^n:Nat):Int):=by decide+kernel
theorem vl{n:Int}(h:0≤n∧n<64):IntKind.u64.wrap (1*2^(min n.toNat IntKind.u64.bits))=((2^n.toNat:Nat):Int):=Ji _ (by omega)
theorem G2:∀ n:Nat,n<62→IntKind.i64.wrap (1*2^(min n IntKind.i64.bits))=((2^n:Nat):Int):=by decide+kernel
theorem A8{n:Int}(h:0≤n∧n<62):IntKind.i64.wrap (1*2^(min n.toNat IntKind.i64.bits))=p2 n:=G2 _ (by omega)
theorem eN{n:Nat}(h:n<64):2^n<18446744073709551616:=Nat.pow_lt_pow_right (a:=2) (n:=64) (by omega) h
theorem re(x:Nat)(k:Nat):(((x >>> k)&&&1:Nat):Int)=if x.testBit k then 1 else 0:=by
 rw[Nat.testBit_eq_decide_div_mod_eq,Nat.shiftRight_eq_div_pow,Nat.and_one_is_mod]
 by_cases h:x/2^k%2=1
 ·simp[h]
 ·have:x/2^k%2=0:=by omega
  simp[this]
theorem M3{k:Int}(h:0≤k∧k≤6):1≤p2 k∧p2 k≤64:=by
 have:k=0∨k=1∨k=2∨k=3∨k=4∨k=5∨k=6:=by omega
 rcases this with rfl | rfl | rfl | rfl | rfl | rfl | rfl<;>decide
theorem lL(s:PB)(b':BB)(k:Int)(q:0≤k∧k<7){v:Nat}(hv:v=b'.mask k∧∀ m,0≤m→m<7→¬m=k→b'.mask m=s.b.mask m):0+0+k.toNat*1<71∧cH (aq s) (0+0+k.toNat*1) (.int .u64 (v:Int))=aq {s with b:=b'} :=by
 refine⟨by omega,?_⟩
 funext i
 unfold cH
 by_cases h:i=0+0+k.toNat*1
 ·rw[if_pos h,h,(aq.fQ {s with b:=b'} k q).2,hv.1]
 ·rw[if_neg h]
  by_cases h2:i<7
  ·have e1:=(aq.fQ s (i:Int) (by omega)).2
   have e2:=(aq.fQ {s with b:=b'} (i:Int) (by omega)).2
   rw[show 0+0+(i:Int).toNat*1=i from by omega]at e1 e2
   rw[e1,e2]
   rw[hv.2 i (by omega) (by omega) (by omega)]
  ·have c:¬(i%1=0∧i/1<7):=by omega
   unfold aq
   simp only[if_neg c]
theorem BB.tY:BB.init.mask 6=1∧∀ m:Int,0≤m→m<7→¬m=6→BB.init.mask m=0:=by
 refine⟨by decide+kernel,fun m h0 h1 h2=> ?_⟩
 have:m=0∨m=1∨m=2∨m=3∨m=4∨m=5:=by omega
 rcases this with rfl | rfl | rfl | rfl | rfl | rfl<;>decide+kernel
def BB.void:BB:=⟨fun _=>0,fun _=>false⟩
theorem BB.uL:∀ m:Int,0≤m→m<7→BB.void.mask m=0:=fun m h0 h1=>by
 have:m=0∨m=1∨m=2∨m=3∨m=4∨m=5∨m=6:=by omega
 rcases this with rfl | rfl | rfl | rfl | rfl | rfl | rfl<;>decide+kernel
theorem oY:∀ i,i<71→cellsOf #[.int .u64 0,.int .u64 0,.int .u64 0,.int .u64 0,.int .u64 0,.int .u64 0,.int .u64 0,.int .i64 0,.int .i64 0,.int .i64 0,.int .i64 0,.int .i64 0,.int .i64 0,.int .i64 0,.int .i64 0,.int .i64 0,.int .i64 0,.int .i64 0,.int .i64 0,.int .i64 0,.int .i64 0,.int .i64 0,.int .i64 0,.int .i64 0,.int .i64 0,.int .i64 0,.int .i64 0,.int .i64 0,.int .i64 0,.int .i64 0,.int .i64 0,.int .i64 0,.int .i64 0,.int .i64 0,.int .i64 0,.int .i64 0,.int .i64 0,.int .i64 0,.int .i64 0,.int .i64 0,.int .i64 0,.int .i64 0,.int .i64 0,.int .i64 0,.int .i64 0,.int .i64 0,.int .i64 0,.int .i64 0,.int .i64 0,.int .i64 0,.int .i64 0,.int .i64 0,.int .i64 0,.int .i64 0,.int .i64 0,.int .i64 0,.int .i64 0,.int .i64 0,.int .i64 0,.int .i64 0,.int .i64 0,.int .i64 0,.int .i64 0,.int .i64 0,.int .i64 0,.int .i64 0,.int .i64 0,.int .i64 0,.int .i64 0,.int .i64 0,.int .i64 0] i=aq ⟨BB.void,fun _=>0⟩ i:=fun i hi=>by
 by_cases h2:i<7
 ·have e2:=(aq.fQ ⟨BB.void,fun _=>0⟩ (i:Int) (by omega)).2
  rw[show 0+0+(i:Int).toNat*1=i from by omega]at e2
  rw[e2,BB.uL _ (by omega) (by omega)]
  have:i=0∨i=1∨i=2∨i=3∨i=4∨i=5∨i=6:=by omega
  rcases this with rfl | rfl | rfl | rfl | rfl | rfl | rfl<;>rfl
 ·have e2:=(aq.lX ⟨BB.void,fun _=>0⟩ ((i-7:Nat):Int) (by omega)).2
  rw[show 0+7+((i-7:Nat):Int).toNat*1=i from by omega]at e2
  rw[e2]
  exact match i,hi,h2 with
  | 0,_,h=>absurd (by omega) h
  | 1,_,h=>absurd (by omega) h
  | 2,_,h=>absurd (by omega) h
  | 3,_,h=>absurd (by omega) h
  | 4,_,h=>absurd (by omega) h
  | 5,_,h=>absurd (by omega) h
  | 6,_,h=>absurd (by omega) h
  | 7,_,_=>rfl
  | 8,_,_=>rfl
  | 9,_,_=>rfl
  | 10,_,_=>rfl
  | 11,_,_=>rfl
  | 12,_,_=>rfl
  | 13,_,_=>rfl
  | 14,_,_=>rfl
  | 15,_,_=>rfl
  | 16,_,_=>rfl
  | 17,_,_=>rfl
  | 18,_,_=>rfl
  | 19,_,_=>rfl
  | 20,_,_=>rfl
  | 21,_,_=>rfl
  | 22,_,_=>rfl
  | 23,_,_=>rfl
  | 24,_,_=>rfl
  | 25,_,_=>rfl
  | 26,_,_=>rfl
  | 27,_,_=>rfl
  | 28,_,_=>rfl
  | 29,_,_=>rfl
  | 30,_,_=>rfl
  | 31,_,_=>rfl
  | 32,_,_=>rfl
  | 33,_,_=>rfl
  | 34,_,_=>rfl
  | 35,_,_=>rfl
  | 36,_,_=>rfl
  | 37,_,_=>rfl
  | 38,_,_=>rfl
  | 39,_,_=>rfl
  | 40,_,_=>rfl
  | 41,_,_=>rfl
  | 42,_,_=>rfl
  | 43,_,_=>rfl
  | 44,_,_=>rfl
  | 45,_,_=>rfl
  | 46,_,_=>rfl
  | 47,_,_=>rfl
  | 48,_,_=>rfl
  | 49,_,_=>rfl
  | 50,_,_=>rfl
  | 51,_,_=>rfl
  | 52,_,_=>rfl
  | 53,_,_=>rfl
  | 54,_,_=>rfl
  | 55,_,_=>rfl
  | 56,_,_=>rfl
  | 57,_,_=>rfl
  | 58,_,_=>rfl
  | 59,_,_=>rfl
  | 60,_,_=>rfl
  | 61,_,_=>rfl
  | 62,_,_=>rfl
  | 63,_,_=>rfl
  | 64,_,_=>rfl
  | 65,_,_=>rfl
  | 66,_,_=>rfl
  | 67,_,_=>rfl
  | 68,_,_=>rfl
  | 69,_,_=>rfl
  | 70,_,_=>rfl
  | k+71,h,_=>absurd h (by omega)
end Go.X.Vm
