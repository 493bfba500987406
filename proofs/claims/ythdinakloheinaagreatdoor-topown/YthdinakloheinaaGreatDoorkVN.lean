import Derived.Test.YthdinakloheinaaGreatDoorXBytes
set_option linter.all false
namespace Go.X.Vm
open Go Go.X
variable{a i k o v z:Int}{g:Int->Bool}
def mA(f:Int->Bool):Nat->Nat
 | 0=>0
 | n+1=>mA f n|||(if f n then 2^n else 0)
theorem iH(f:Int->Bool)(n j:Nat):(mA f n).testBit j=(decide (j<n)&&f j):=by
 induction n with
 | zero=>simp[mA]
 | succ n ih=>
  simp only[mA,Nat.testBit_or,ih];by_cases h:j=n
  ·grind
  ·grind
def Us(f:Int->Bool)(n:Nat):mA f n<2^n:=by
 apply Nat.lt_pow_two_of_testBit;grind [iH]
theorem pR{f:Int->Bool}{n:Nat}(h:∀ i:Int,0<=i->i<n->f i=g i):mA f n=mA g n:=by
 apply Nat.eq_of_testBit_eq;grind [iH]
theorem FM{f:Int->Bool}{n a:Nat}(ha:a<n)(hg:g a=true)(h:∀ i:Int,0<=i->i<n->¬i=a->g i=f i):mA f n|||2^a=mA g n:=by
 apply Nat.eq_of_testBit_eq;grind [iH]
theorem A4{f:Int->Bool}{n a:Nat}(ha:a<n)(hg:g a=false)(h:∀ i:Int,0<=i->i<n->¬i=a->g i=f i):lS (mA f n) (2^a)=mA g n:=by
 apply Nat.eq_of_testBit_eq;grind [iH,lS]
structure BB where
 bP:Int->Int
 tk:Int->Bool
def p2(k:Int):Int:=((2^k.toNat:Nat):Int)
def BB.at_(b:BB)(k i:Int):Bool:=decide (0<=k)&&decide (b.bP i=k+1)&& !b.tk i
def BB.gV(b:BB)(k:Int):Nat:=mA (b.at_ k) 64
structure PB where
 b:BB
 u:Int->Int
def BB.ep(b:BB):Int->Int:=fun i=>if b.tk i then b.bP i else 0
def BB.fp(b:BB):PB:=⟨b,b.ep⟩
def BB.ia(b:BB)(a:Int):BB:= {b with tk:=ad b.tk a true}
def BB.bare(b:BB)(a:Int):BB:= {b with tk:=ad b.tk a false}
def BB.split(b:BB)(a:Int):BB:= {b with bP:=ad (ad b.bP a (b.bP a-1)) (a+p2 (b.bP a-2)) (b.bP a-1)}
def BB.ib:Nat->BB->Int->BB
 | 0,b,_=>b
 | n+1,b,a=>BB.ib n (b.split a) a
def mE(a k:Int):Int:=if(a/p2 k)%2=1 then a-p2 k else a+p2 k
def BB.cE(b:BB)(a:Int):Int:=mE a (b.bP a-1)
def BB.gK(b:BB)(a:Int):BB:= {b with bP:=ad (ad b.bP (max a (b.cE a)) 0) (min a (b.cE a)) (b.bP a+1)}
def BB.fV(b:BB)(a:Int):Prop:=b.bP a<7/\b.bP (b.cE a)=b.bP a/\b.tk (b.cE a)=false
instance (b:BB) (a:Int):Decidable (b.fV a):=by unfold BB.fV;infer_instance
def BB.ke:Nat->BB->Int->BB
 | 0,b,_=>b
 | n+1,b,a=>if b.fV a then BB.ke n (b.gK a) (min a (b.cE a))else b
def BB.low(b:BB)(k:Int):Option Nat:=dS (b.at_ k) 64
def BB.pick(b:BB)(o:Int):Option (Nat×Nat):=match dS (fun k=>decide (o<=k)&&(b.low k).isSome) 7 with
 | none=>none
 | some k=>(b.low k).map fun i=>(k,i)
def BB.take(b:BB)(o:Int):Int×Int×BB:=if o<0\/6<o then(0,1,b)else match b.pick o with
 | none=>(0,4,b)
 | some (k,i)=>(i,0,BB.ib ((k:Int)-o).toNat (b.ia i) i)
def BB.is(b:BB)(a:Int):Int:=if a<0\/63<a then 1 else if b.tk a then 0 else 2
def BB.o8(b:BB)(a:Int):Int×BB:=if b.is a≠0 then(b.is a,b)else(0,BB.ke (7-b.bP a).toNat (b.bare a) a)
def gB(f:Int->Bool):Nat->List Int
 | 0=>[]
 | k+1=>gB f k++(if f k then [(k:Int)]else [])
def j9(f:Int->Bool):∀ k,(gB f k).length<=k
 | 0=>by simp[gB]
 | k+1=>by
  have:=j9 f k;grind [gB]
def zT(f:Int->Bool)(h:0<=k):(f k=true->gB f (k+1).toNat=gB f k.toNat++[k])/\(f k=false->gB f (k+1).toNat=gB f k.toNat):=by
 have e:((k.toNat:Nat):Int)=k:=og;rw[show(k+1).toNat=k.toNat+1 from og];grind [gB]
def BB.cC:BB:=⟨ad (fun _=>0) 0 7,fun _=>false⟩
structure BB.Inv (b:BB):Prop where
 ng:∀ i,0<=b.bP i/\b.bP i<=7
 out:∀ i,i<0\/64<=i->b.bP i=0
 tk:∀ i,b.tk i=true->0<b.bP i
 al:∀ i,0<b.bP i->i%p2 (b.bP i-1)=0
 dis:∀ i j,0<b.bP i->i<j->j<i+p2 (b.bP i-1)->b.bP j=0
def r8(k:Int):0<p2 k:=by
 have:=Nat.two_pow_pos k.toNat;unfold p2;omega
theorem aif:p2 0=1:=rfl
theorem afv:p2 1=2:=rfl
theorem Yo:p2 2=4:=rfl
theorem afw:p2 3=8:=rfl
theorem Yp:p2 4=16:=rfl
theorem afx:p2 5=32:=rfl
theorem afy:p2 6=64:=rfl
def r9(h:0<=k:=by omega):p2 (k+1)=2*p2 k:=by
 unfold p2;rw[show(k+1).toNat=k.toNat+1 from og,Nat.pow_succ];omega
theorem FN(h:0<v)(h7:v<=7):v=1\/v=2\/v=3\/v=4\/v=5\/v=6\/v=7:=og
def Yq(h1:1<v)(h7:v<=7)(h:i%p2 (v-1)=0):i%p2 (v-2)=0/\(i+p2 (v-2))%p2 (v-2)=0:=by
 rcases FN og h7 with rfl | rfl | rfl | rfl | rfl | rfl | rfl;all_goals grind [p2]
def acg(h1:0<v)(h7:v<=7)(h:i%p2 (v-1)=0)(hi:0<=i/\i<64):i+p2 (v-1)<=64:=by
 grind [afv,Yo,afw,Yp,afx,p2]
def sa(h1:0<v)(h7:v<7)(h:a%p2 (v-1)=0)(hi:0<=a/\a<64):∃ l,0<=l/\l+p2 v<=64/\l%p2 v=0/\((a=l/\mE a (v-1)=l+p2 (v-1))\/(a=l+p2 (v-1)/\mE a (v-1)=l)):=by
 have e:=r9 (k:=v-1);rw[show v-1+1=v from og]at e;unfold mE;by_cases c:(a/p2 (v-1))%2=1
 ·rw[if_pos c];refine⟨a-p2 (v-1),?_,?_,?_,.inr ⟨og,rfl⟩⟩;all_goals grind [FN,p2]
 ·rw[if_neg c];refine⟨a,?_,?_,?_,.inl ⟨rfl,rfl⟩⟩;all_goals grind [Yo,Yp,p2]
def BB.Inv.ua{b:BB}(h:b.Inv)(hi:0<b.bP i:=by omega):0<=i/\i<64:=by
 grind [Inv]
def BB.Inv.fit{b:BB}(h:b.Inv)(hi:0<b.bP i):i+p2 (b.bP i-1)<=64:=acg hi (h.ng i).2 (h.al i hi) (h.ua hi)
theorem BB.Inv.cC:BB.cC.Inv where
 ng:=fun i=>by
  show 0<=(if i=0 then(7:Int)else 0)/\(if i=0 then(7:Int)else 0)<=7
  omega
 out:=fun i hi=>by show ad (fun _=>0) 0 7 i=0;rw[ae _ _ og]
 tk:=fun i hi=>by cases hi
 al:=fun i hi=>by
  have:i=0:=by
   apply Classical.byContradiction;intro c
   simp_all[BB.cC,ae]
  simp_all
 dis:=fun i j hi h1 h2=>by
  have:i=0:=by
   apply Classical.byContradiction;intro c
   simp_all[BB.cC,ae]
  subst this
  show ad (fun _=>(0:Int)) 0 7 j=0
  grind [ae]
theorem BB.Inv.ia{b:BB}(h:b.Inv){a:Int}(ha:0<b.bP a):(b.ia a).Inv:=
 ⟨h.ng,h.out,fun i hi=>by
  have:ad b.tk a true i=true:=hi
  by_cases c:i=a
  ·rw[c];exact ha
  ·rw[ae _ _ c]at this;exact h.tk i this,h.al,h.dis⟩
theorem BB.Inv.bare{b:BB}(h:b.Inv)(a:Int):(b.bare a).Inv:=
 ⟨h.ng,h.out,fun i hi=>by
  have:ad b.tk a false i=true:=hi
  by_cases c:i=a
  ·rw[c,aj]at this;cases this
  ·rw[ae _ _ c]at this;exact h.tk i this,h.al,h.dis⟩
def BB.Inv.apart{b:BB}(h:b.Inv){j:Int}(hi:0<b.bP i)(hj:0<b.bP j)(fN:¬i=j){x:Int}(h1:i<=x/\x<i+p2 (b.bP i-1))(h2:j<=x/\x<j+p2 (b.bP j-1)):False:=by
 by_cases c:i<j
 ·grind [Inv]
 ·have:=h.dis j i hj og og;omega
theorem BB.Inv.split{b:BB}(h:b.Inv){a:Int}(ha:1<b.bP a):(b.split a).Inv/\a+p2 (b.bP a-2)<64/\b.bP (a+p2 (b.bP a-2))=0/\(b.split a).bP a=b.bP a-1:=by
 have hal:=h.al a og;have hrn:=h.ng a;have vV:=h.ua (i:=a);have aeR:=h.fit (i:=a) og;have e2:=r9 (k:=b.bP a-2);rw[show b.bP a-2+1=b.bP a-1 from og]at e2;have hp:=r8 (b.bP a-2);have hz:=h.dis a (a+p2 (b.bP a-2)) og og og;have fN:¬a=a+p2 (b.bP a-2):=og;have alg:=Yq ha hrn.2 hal;have o1:∀ i,(b.split a).bP i=if i=a+p2 (b.bP a-2)then b.bP a-1 else if i=a then b.bP a-1 else b.bP i:=fun i=>rfl
 have oa:(b.split a).bP a=b.bP a-1:=by rw[o1,if_neg fN,if_pos rfl]
 refine⟨⟨fun i=> ?_,fun i hi=> ?_,fun i hi=> ?_,fun i hi=> ?_,fun i j hi h1 h2=> ?_⟩,og,hz,oa⟩
 ·rw[o1];have:=h.ng i;split;all_goals omega
 ·grind [Inv]
 ·grind [BB.split,Inv]
 ·rw[o1]at hi ⊢;by_cases c1:i=a+p2 (b.bP a-2);all_goals grind [Inv]
 ·rw[o1]at hi h2;by_cases c1:i=a+p2 (b.bP a-2)
  ·rw[if_pos c1,show b.bP a-1-1=b.bP a-2 from og]at h2;rw[o1,if_neg og,if_neg og];grind [BB.Inv.dis,Inv]
  ·rw[if_neg c1]at hi h2;by_cases c2:i=a
   ·rw[if_pos c2,show b.bP a-1-1=b.bP a-2 from og]at h2;rw[o1,if_neg og,if_neg og];grind [Inv]
   ·rw[if_neg c2]at hi h2;have n1:¬j=a+p2 (b.bP a-2):=fun e=>h.apart (i:=i) (j:=a) hi og c2 (x:=j) ⟨og,h2⟩ ⟨og,og⟩;have n2:¬j=a:=fun e=>h.apart (i:=i) (j:=a) hi og c2 (x:=j) ⟨og,h2⟩ ⟨og,og⟩;grind [Inv]
theorem BB.Inv.ib:∀ (n:Nat) {b:BB} {a:Int},b.Inv->(n:Int)<b.bP a->(BB.ib n b a).Inv
 | 0,_,_,h,_=>h
 | n+1,b,a,h,ha=>by
  obtain⟨h1,_,_,h4⟩:=h.split (a:=a) og;exact BB.Inv.ib n h1 (by rw[h4];omega)
theorem BB.Inv.gK{b:BB}(h:b.Inv){a:Int}(ha:0<b.bP a)(hta:b.tk a=false)(hj:b.fV a):(b.gK a).Inv/\0<=b.cE a/\b.cE a<64/\¬b.cE a=a/\(b.gK a).bP (min a (b.cE a))=b.bP a+1/\(b.gK a).tk (min a (b.cE a))=false:=by
 obtain⟨j1,j2,j3⟩:=hj;have hal:=h.al a ha;have vV:=h.ua ha;obtain⟨l,l1,l2,l3,l4⟩:=sa ha j1 hal vV;rw[show mE a (b.bP a-1)=b.cE a from rfl]at l4;have e2:=r9 (k:=b.bP a-1);rw[show b.bP a-1+1=b.bP a from og]at e2;have hp:=r8 (b.bP a-1);have I8:min a (b.cE a)=l:=og;have sY:max a (b.cE a)=l+p2 (b.bP a-1):=og;have ol:b.bP l=b.bP a:=by
  grind
 have oh:b.bP (l+p2 (b.bP a-1))=b.bP a:=by
  grind
 have tl:b.tk l=false:=by
  grind
 have th:b.tk (l+p2 (b.bP a-1))=false:=by
  grind
 have o1:∀ i,(b.gK a).bP i=if i=l then b.bP a+1 else if i=l+p2 (b.bP a-1)then 0 else b.bP i:=fun i=>by
  simp_all[ad,BB.gK]
 have t1:(b.gK a).tk=b.tk:=rfl;refine⟨⟨fun i=> ?_,fun i hi=> ?_,fun i hi=> ?_,fun i hi=> ?_,fun i j hi h1 h2=> ?_⟩,og,og,og,by rw[I8,o1,if_pos rfl],by rw[I8,t1,tl]⟩
 ·rw[o1];have:=h.ng i;split;all_goals omega
 ·rw[o1,if_neg og,if_neg og];exact h.out i hi
 ·rw[t1]at hi;rw[o1];split;all_goals grind [Inv]
 ·rw[o1]at hi ⊢;by_cases c1:i=l
  ·simp_all
  ·rw[if_neg c1]at hi ⊢;by_cases c2:i=l+p2 (b.bP a-1);all_goals grind [Inv]
 ·rw[o1]at hi h2;by_cases c1:i=l
  ·rw[if_pos c1,show b.bP a+1-1=b.bP a from og]at h2;rw[o1,if_neg og];by_cases c2:j=l+p2 (b.bP a-1)
   ·omega
   ·rw[if_neg c2];by_cases c3:j<l+p2 (b.bP a-1);all_goals grind [BB.Inv.dis]
  ·rw[if_neg c1]at hi h2;by_cases c2:i=l+p2 (b.bP a-1)
   ·omega
   ·rw[if_neg c2]at hi h2;have n1:¬j=l:=fun e=>h.apart (i:=i) (j:=l) hi og c1 (x:=j) ⟨og,h2⟩ ⟨og,by rw[ol];omega⟩;rw[o1,if_neg n1];by_cases c3:j=l+p2 (b.bP a-1);all_goals grind [Inv]
theorem BB.Inv.ke:∀ (n:Nat) {b:BB} {a:Int},b.Inv->0<b.bP a->b.tk a=false->(BB.ke n b a).Inv
 | 0,_,_,h,_,_=>h
 | n+1,b,a,h,ha,ht=>by
  rw[BB.ke];by_cases c:b.fV a
  ·rw[if_pos c];obtain⟨h1,_,_,_,h5,h6⟩:=h.gK ha ht c;exact BB.Inv.ke n h1 (by rw[h5];omega) h6
  simp_all
def JI{p:Int->Bool}{m k:Nat}(h:dS p m=some k):k<m/\p k=true/\∀ j:Int,0<=j->j<k->p j=false:=by
 unfold dS at h;have h1:=List.find?_some h;have h2:=List.mem_range.1 (List.mem_of_find?_eq_some h);refine⟨h2,h1,fun j j0 jk=> ?_⟩;cases hp:p j with
 | false=>rfl
 | true=>
  exfalso;obtain⟨xs,ys,hs,hn⟩:=(List.find?_eq_some_iff_append.1 h).2;have hlen:xs.length=k:=by
   have h3:(List.range m)[xs.length]? =some k:=by rw[hs];simp
   grind
  have hj:j.toNat∈xs:=by
   have h3:xs=List.range k:=by
    have h4:xs=(List.range m).take xs.length:=by rw[hs];simp
    grind
   simp_all
  have:=hn j.toNat hj;rw[show((j.toNat:Nat):Int)=j from og,hp]at this;simp at this
def qV{p:Int->Bool}{m:Nat}(h:dS p m=none):∀ j:Int,0<=j->j<m->p j=false:=fun j h0 h1=>by
 unfold dS at h;have:=List.find?_eq_none.1 h j.toNat (List.mem_range.2 og);grind
theorem mQ{b:BB}(hk:0<=k):b.at_ k i=true↔b.bP i=k+1/\b.tk i=false:=by
 grind [BB.at_]
def od{b:BB}{k i:Nat}(h:b.pick o=some (k,i)):o<=k/\k<7/\i<64/\b.bP i=k+1/\b.tk i=false:=by
 grind [BB.pick,dS,BB.low,Option.map_eq_some_iff,mQ]
theorem BB.Inv.take{b:BB}(h:b.Inv)(o:Int):(b.take o).2.2.Inv:=by
 unfold BB.take;split
 ·omega
 ·rename_i ho;split
  ·omega
  ·rename_i k i hp;obtain⟨h1,h2,h3,h4,h5⟩:=od hp;have hh:=h.ia (a:=i) og;exact BB.Inv.ib _ hh (by show _<b.bP i;omega)
def sc{b:BB}(h:b.is a=0):0<=a/\a<64/\b.tk a=true:=by
 grind [BB.is]
theorem BB.Inv.o8{b:BB}(h:b.Inv)(a:Int):(b.o8 a).2.Inv:=by
 unfold BB.o8;by_cases c:b.is a=0
 ·rw[if_neg (by simp[c])];obtain⟨h1,h2,h3⟩:=sc c;exact BB.Inv.ke _ (h.bare a) (h.tk a h3) (aj _ _ _)
 simp_all
theorem BB.vk(b:BB)(o:Int):0<=(b.take o).2.1:=by
 grind [BB.take]
def lA(b:BB)(k:Int):b.gV k<18446744073709551616:=Us _ 64
theorem BB.yb(b:BB)(k:Int)(j:Nat):(b.gV k).testBit j=(decide (j<64)&&b.at_ k j):=iH _ _ _
theorem Hh{b:BB}(h:b.gV k=0):∀ i:Int,0<=i->i<64->b.at_ k i=false:=fun i h0 h1=>by
 have:=b.yb k i.toNat;grind
theorem A5{b:BB}(h:b.gV k=0):b.low k=none:=by grind [ft,Hh,BB.low]
def A6{b:BB}{t:Nat}(ht:(b.gV k).testBit t=true)(hl:∀ j,j<t->(b.gV k).testBit j=false):b.low k=some t/\t<64/\b.at_ k t=true:=by
 rw[BB.yb]at ht;simp only[Bool.and_eq_true,decide_eq_true_eq]at ht;refine⟨?_,ht.1,ht.2⟩;have:=fq (p:=b.at_ k) (m:=64) (k:=(t:Int)) og og ht.2 (fun j h0 h1=>by
  have h2:=hl j.toNat og
  rw[BB.yb,show((j.toNat:Nat):Int)=j from og]at h2
  have h3:j.toNat<64:=og
  simpa [h3]using h2)
 unfold BB.low;simpa using this
def Hi{b:BB}{t:Nat}(ho:0<=o)(hk:o<=k/\k<7)(hz:∀ j:Int,o<=j->j<k->b.gV j=0)(ht:(b.gV k).testBit t=true)(hl:∀ j,j<t->(b.gV k).testBit j=false):b.pick o=some (k.toNat,t):=by
 obtain⟨l1,_,_⟩:=A6 ht hl;grind [BB.pick,fq,A5]
theorem Hj{b:BB}(hz:∀ j:Int,o<=j->j<7->b.gV j=0):b.pick o=none:=by
 grind [BB.pick,ft,A5]
theorem qc{b:BB}(h:o<0\/6<o):b.take o=(0,1,b):=by unfold BB.take;rw[if_pos h]
theorem yc{b:BB}(h:¬(o<0\/6<o))(hz:b.pick o=none):b.take o=(0,4,b):=by grind [BB.take]
theorem BB.lq{b:BB}{k i:Nat}(h:¬(o<0\/6<o))(hz:b.pick o=some (k,i)):b.take o=((i:Int),0,BB.ib ((k:Int)-o).toNat (b.ia i) i):=by grind [BB.take]
theorem Ut{b:BB}{m:Int}(h:¬(b.bP i=m+1/\b.tk i=false)):b.at_ m i=false:=by
 grind [BB.at_]
theorem wX{b:BB}{m:Int}(h:¬i=a):(b.ia a).at_ m i=b.at_ m i:=by
 show(decide (0<=m)&&decide (b.bP i=m+1)&& !ad b.tk a true i)=(decide (0<=m)&&decide (b.bP i=m+1)&& !b.tk i);grind [ae]
theorem sQ(b:BB)(m a:Int):(b.ia a).at_ m a=false:=Ut (by
 rintro⟨_,q⟩
 have:ad b.tk a true a=false:=q
 rw[aj]at this;cases this)
def Hk{b:BB}{t:Nat}(hk:0<=k)(ht:t<64)(h1:b.bP t=k+1)(h2:b.tk t=false):lS (b.gV k) (2^t)=(b.ia t).gV k/\∀ m,0<=m->m<7->¬m=k->(b.ia t).gV m=b.gV m:=by
 grind [A4,pR,sQ,wX,Ut,BB.gV]
def BB.Inv.Mp{b:BB}(h:b.Inv)(ha:1<b.bP a)(ht:b.tk a=true):b.gV (b.bP a-2)|||2^(a+p2 (b.bP a-2)).toNat=(b.split a).gV (b.bP a-2)/\∀ m,0<=m->m<7->¬m=b.bP a-2->(b.split a).gV m=b.gV m:=by
 obtain⟨_,s2,s3,_⟩:=h.split ha;have vV:=h.ua (i:=a);have hp:=r8 (b.bP a-2);have fN:¬a=a+p2 (b.bP a-2):=og;have o1:∀ i,(b.split a).bP i=if i=a+p2 (b.bP a-2)then b.bP a-1 else if i=a then b.bP a-1 else b.bP i:=fun i=>rfl
 have t1:∀ i,(b.split a).tk i=b.tk i:=fun _=>rfl;have t2:b.tk (a+p2 (b.bP a-2))=false:=by
  grind [Inv]
 refine⟨FM og ?_ fun i _ _ hi=> ?_,fun m m0 _ hm=>pR fun i _ _=> ?_⟩
 ·rw[show(((a+p2 (b.bP a-2)).toNat:Nat):Int)=a+p2 (b.bP a-2)from og];grind [mQ]
 ·have P7:¬i=a+p2 (b.bP a-2):=og;unfold BB.at_;grind
 ·unfold BB.at_;grind
theorem ye:∀ (n:Nat) (b:BB) (a:Int),(BB.ib n b a).tk=b.tk
 | 0,_,_=>rfl
 | n+1,b,a=>by rw[BB.ib,ye n];rfl
def BB.Inv.wY:∀ (n:Nat) {b:BB} {a:Int},b.Inv->(n:Int)<b.bP a->(BB.ib n b a).bP a=b.bP a-n/\∀ i,¬i=a->0<b.bP i->(BB.ib n b a).bP i=b.bP i
 | 0,_,_,h,_=>⟨by simp[BB.ib],fun _ _ _=>rfl⟩
 | n+1,b,a,h,ha=>by
  obtain⟨h1,h2,h3,h4⟩:=h.split (a:=a) og;obtain⟨i1,i2⟩:=BB.Inv.wY n h1 (by rw[h4];omega);rw[BB.ib];refine⟨by rw[i1,h4];omega,fun i hi h0=> ?_⟩;have e:(b.split a).bP i=b.bP i:=by
   show ad (ad b.bP a (b.bP a-1)) (a+p2 (b.bP a-2)) (b.bP a-1) i=b.bP i;grind [ae]
  simp_all
def BB.Inv.FO{b:BB}(h:b.Inv)(ho:¬(o<0\/6<o)){k i:Nat}(hp:b.pick o=some (k,i)):(⟨BB.ib ((k:Int)-o).toNat (b.ia i) i,ad b.ep i (o+1)⟩:PB)=(b.take o).2.2.fp:=by
 obtain⟨h1,h2,h3,h4,h5⟩:=od hp;have hh:=h.ia (a:=i) og;obtain⟨s1,s2⟩:=hh.wY ((k:Int)-o).toNat (a:=i) (by show _<b.bP i;omega);rw[BB.lq ho hp];unfold BB.fp;congr 1;funext j;unfold BB.ep;rw[ye];show ad b.ep i (o+1) j=if ad b.tk i true j=true then _ else 0
 by_cases c:j=i
 ·subst c;rw[aj,aj,if_pos rfl,s1];show o+1=b.bP i-_;omega
 ·rw[ae _ _ c,ae _ _ c];unfold BB.ep;by_cases q:b.tk j=true
  ·rw[if_pos q,if_pos q,s2 j c (h.tk j q)];rfl
  simp_all
theorem Uu:∀ a:Nat,a<64->∀ k:Nat,k<6->((a^^^2^k:Nat):Int)=(if((a/2^k:Nat):Int)%2=1 then(a:Int)-(2^k:Nat)else(a:Int)+(2^k:Nat))/\((lS a (2^k):Nat):Int)=min (a:Int) (if((a/2^k:Nat):Int)%2=1 then(a:Int)-(2^k:Nat)else(a:Int)+(2^k:Nat)):=dk
def Uv(ha:0<=a/\a<64)(hk:0<=k/\k<6):((a.toNat^^^2^k.toNat:Nat):Int)=mE a k/\((lS a.toNat (2^k.toNat):Nat):Int)=min a (mE a k):=by
 grind [Uu,p2,mE]
def BB.Inv.zY{b:BB}(h:b.Inv)(ha:0<b.bP a)(h7:b.bP a<7):0<=b.cE a/\b.cE a<64/\¬b.cE a=a:=by
 obtain⟨l,l1,l2,l3,l4⟩:=sa ha h7 (h.al a ha) (h.ua ha);rw[show mE a (b.bP a-1)=b.cE a from rfl]at l4;have e2:=r9 (k:=b.bP a-1);rw[show b.bP a-1+1=b.bP a from og]at e2;have hp:=r8 (b.bP a-1);omega
def BB.Inv.QE{b:BB}(h:b.Inv)(ha:0<b.bP a)(h7:b.bP a<7):((b.ia a).gV (b.bP a-1)).testBit (b.cE a).toNat=decide (b.fV a):=by
 obtain⟨r1,r2,r3⟩:=h.zY ha h7;grind [BB.yb,wX,mQ,BB.fV]
def BB.Inv.QF{b:BB}(h:b.Inv)(ha:0<b.bP a)(hj:b.fV a):lS ((b.ia a).gV (b.bP a-1)) (2^(b.cE a).toNat)=((b.gK a).ia (min a (b.cE a))).gV (b.bP a-1)/\∀ m,0<=m->m<7->¬m=b.bP a-1->((b.gK a).ia (min a (b.cE a))).gV m=(b.ia a).gV m:=by
 obtain⟨r1,r2,r3⟩:=h.zY ha hj.1;have iD:∀ m i,0<=m->((b.gK a).ia (min a (b.cE a))).at_ m i=(!decide (i=b.cE a)&&(b.ia a).at_ m i):=fun m i m0=>by
  rw[Bool.eq_iff_iff,Bool.and_eq_true,mQ m0,mQ m0];have o1:((b.gK a).ia (min a (b.cE a))).bP i=ad (ad b.bP (max a (b.cE a)) 0) (min a (b.cE a)) (b.bP a+1) i:=rfl;have t1:((b.gK a).ia (min a (b.cE a))).tk i=ad b.tk (min a (b.cE a)) true i:=rfl;have o2:(b.ia a).bP i=b.bP i:=rfl;have t2:(b.ia a).tk i=ad b.tk a true i:=rfl;grind [aj,ae]
 refine⟨A4 og ?_ fun i _ _ hi=> ?_,fun m m0 _ hm=>pR fun i _ _=> ?_⟩;all_goals grind [Ut,BB.ia,BB.fV]
def yf{b:BB}(ha:0<b.bP a)(hr:0<=a/\a<64)(ht:b.tk a=false):(b.ia a).gV (b.bP a-1)|||2^a.toNat=b.gV (b.bP a-1)/\∀ m,0<=m->m<7->¬m=b.bP a-1->b.gV m=(b.ia a).gV m:=by
 grind [FM,pR,mQ,wX,sQ,BB.gV]
theorem BB.CY:∀ (n:Nat) (b:BB) (a:Int),(BB.ke n b a).tk=b.tk
 | 0,_,_=>rfl
 | n+1,b,a=>by
  rw[BB.ke];split
  ·rw[BB.CY n];rfl
  ·rfl
theorem BB.Inv.FP:∀ (n:Nat) {b:BB} {a:Int},b.Inv->0<b.bP a->b.tk a=false->∀ i,b.tk i=true->(BB.ke n b a).bP i=b.bP i
 | 0,_,_,_,_,_,_,_=>rfl
 | n+1,b,a,h,ha,ht,i,hi=>by
  rw[BB.ke];by_cases c:b.fV a
  ·rw[if_pos c];obtain⟨h1,_,_,_,h5,h6⟩:=h.gK ha ht c;rw[BB.Inv.FP n h1 (by rw[h5];omega) h6 i hi];show ad (ad b.bP (max a (b.cE a)) 0) (min a (b.cE a)) (b.bP a+1) i=b.bP i;have n1:¬i=a:=by rintro rfl;rw[ht]at hi;cases hi
   have n2:¬i=b.cE a:=by rintro rfl;rw[c.2.2]at hi;cases hi
   grind [ae]
  simp_all
def Hl{b:BB}(ht:b.tk a=true):(b.bare a).ia a=b:=by
 unfold BB.bare BB.ia;simp only[];have:ad (ad b.tk a false) a true=b.tk:=by
  grind [aj,ae]
 rw[this]
def BB.Inv.zZ{b:BB}(h:b.Inv)(hi:b.is a=0):(⟨BB.ke (7-b.bP a).toNat (b.bare a) a,ad b.ep a 0⟩:PB)=(b.o8 a).2.fp:=by
 obtain⟨h1,h2,h3⟩:=sc hi;have ho:=h.tk a h3;have hk:=(h.bare a).FP (7-b.bP a).toNat (a:=a) ho (aj _ _ _);unfold BB.o8;rw[if_neg (by simp[hi])];unfold BB.fp;congr 1;funext j;unfold BB.ep;rw[BB.CY];show ad b.ep a 0 j=if ad b.tk a false j=true then _ else 0
 by_cases c:j=a;all_goals simp_all[BB.ep,ad,BB.bare]
theorem pS{b:BB}(h:b.is a≠0):b.o8 a=(b.is a,b):=by grind [BB.o8]
theorem se{b:BB}(h:b.is a=0):b.o8 a=(0,BB.ke (7-b.bP a).toNat (b.bare a) a):=by grind [BB.o8]
theorem BB.qK{b:BB}(h:a<0\/63<a):b.is a=1:=by unfold BB.is;rw[if_pos h]
theorem BB.xP{b:BB}(h:¬(a<0\/63<a))(ht:b.tk a=false):b.is a=2:=by grind [BB.is]
theorem BB.CP{b:BB}(h:¬(a<0\/63<a))(ht:b.tk a=true):b.is a=0:=by grind [BB.is]
def BB.Inv.FQ{b:BB}(h:b.Inv)(a:Int):(b.ep a=0->b.tk a=false)/\(¬b.ep a=0->b.tk a=true/\b.ep a=b.bP a):=by
 grind [BB.ep,Inv]
theorem JJ(k:Int):(p2 k).toNat=2^k.toNat:=rfl
def EU:∀ (n:Nat) {b:BB} {a:Int},¬b.fV a->BB.ke n b a=b
 | 0,_,_,_=>rfl
 | n+1,b,a,h=>by rw[BB.ke,if_neg h]
def ach(x n:Nat):x >>> n<=x:=by rw[Nat.shiftRight_eq_div_pow];exact Nat.div_le_self _ _
def bO(s:PB)(i:Nat):Value:=
 if i%1=0/\i/1<7 then .int .u64 (((s.b.gV ((i/1:Nat):Int)):Nat):Int)else
 if 7<=i/\(i-7)%1=0/\(i-7)/1<64 then iI (s.u (((i-7)/1:Nat):Int))else
 undef
theorem dH(s:PB)(z0:Int)(q0:0<=z0/\z0<7:=by omega):((0+0)+z0.toNat*1)<71/\bO s ((0+0)+z0.toNat*1)= .int .u64 (((s.b.gV z0):Nat):Int):=by
 refine⟨og,?_⟩;unfold bO;rw[if_pos og];rw[show((((0+0)+z0.toNat*1)/1:Nat):Int)=z0 from og]
theorem lZ(s:PB)(z0:Int)(q0:0<=z0/\z0<64:=by omega):((0+7)+z0.toNat*1)<71/\bO s ((0+7)+z0.toNat*1)=iI (s.u z0):=by
 refine⟨og,?_⟩;unfold bO;rw[if_neg og];rw[if_pos og];rw[show(((((0+7)+z0.toNat*1)-7)/1:Nat):Int)=z0 from og]
def ub(s:PB)(z0:Int)(q0:0<=z0/\z0<64)(v:Int):((0+7)+z0.toNat*1)<71/\dJ (bO s) ((0+7)+z0.toNat*1) (iI (v))=bO ({s with u:=ad s.u z0 v}):=by
 refine⟨og,?_⟩;funext j;unfold dJ;by_cases hj:j=((0+7)+z0.toNat*1)
 ·rw[if_pos hj,hj,(lZ ({s with u:=ad s.u z0 v}) z0 q0).2];all_goals simp[ad,cI]
 ·rw[if_neg hj];unfold bO;refine ij (fun c0=> ?_) fun c0=> ?_
  ·first | rfl | simp[ad,cI]
  refine ij (fun c1=> ?_) fun c1=> ?_
  ·have fN:¬((((j-7)/1:Nat):Int)=z0):=og;simp only[ad,cI,fN,if_false,and_true,true_and]
  rfl
def afA:List Int:=[0,1,56,2,57,49,28,3,61,58,42,50,38,29,17,4,62,47,59,36,45,43,51,22,53,39,33,30,24,18,12,5,63,55,48,27,60,41,37,16,46,35,44,21,52,32,23,11,54,26,40,15,34,20,31,10,25,14,19,9,13,8,7,6]
def gL(i:Nat):Value:=.int .u8 (afA.getD i 0)
def Uw:∀ t:Nat,t<64->IntKind.u64.wrap (((2^t:Nat):Int)*285870213051353865)=((2^t*285870213051353865%18446744073709551616:Nat):Int)/\
  (((2^t*285870213051353865%18446744073709551616:Nat):Int)).fdiv (2^(min (58:Int).toNat IntKind.u64.bits))=((2^t*285870213051353865%18446744073709551616/288230376151711744:Nat):Int)/\
  (2^t*285870213051353865%18446744073709551616/288230376151711744)<64/\IntKind.i64.wrap (t:Int)=t/\
  afA.getD (2^t*285870213051353865%18446744073709551616/288230376151711744) 0=(t:Int):=dk
def Mg{t:Nat}(ht:t<64):0+(((2^t*285870213051353865%18446744073709551616/288230376151711744:Nat):Int)).toNat*1<64/\gL (0+(((2^t*285870213051353865%18446744073709551616/288230376151711744:Nat):Int)).toNat*1)= .int .u8 (t:Int):=by
 obtain⟨_,_,z3,_,z5⟩:=Uw t ht;have e:0+(((2^t*285870213051353865%18446744073709551616/288230376151711744:Nat):Int)).toNat*1=2^t*285870213051353865%18446744073709551616/288230376151711744:=og;rw[e];exact⟨z3,congrArg (Value.int .u8) z5⟩
def Yr{x:Nat}(h:0<x/\x<18446744073709551616):IntKind.u64.wrap (0-(x:Int))=((2^64-x:Nat):Int):=by
 have:((0-(x:Int))%(2^64:Int))=((2^64-x:Nat):Int):=by
  have h2:(2:Int)^64=18446744073709551616:=dq;have h3:(2:Nat)^64=18446744073709551616:=dq;rw[h2,h3];omega
 simpa [IntKind.wrap,IntKind.signed,IntKind.bits]using this
def Ys{n:Int}(h:0<=n/\n<64)(x:Nat):(x:Int).fdiv (2^(min n.toNat IntKind.u64.bits))=((x >>> n.toNat:Nat):Int):=by
 have:min n.toNat IntKind.u64.bits=n.toNat:=by show min n.toNat 64=_;omega
 rw[this,Nat.shiftRight_eq_div_pow,Int.fdiv_eq_ediv_of_nonneg _ (by exact Int.le_of_lt (Int.pow_pos og))];simp
def Yt:∀ n:Nat,n<64->IntKind.u64.wrap (1*2^(min n IntKind.u64.bits))=((2^n:Nat):Int):=dk
def yg{n:Int}(h:0<=n/\n<64:=by omega):IntKind.u64.wrap (1*2^(min n.toNat IntKind.u64.bits))=((2^n.toNat:Nat):Int):=Yt _ og
def Ux:∀ n:Nat,n<62->IntKind.i64.wrap (1*2^(min n IntKind.i64.bits))=((2^n:Nat):Int):=dk
def Hm{n:Int}(h:0<=n/\n<62:=by omega):IntKind.i64.wrap (1*2^(min n.toNat IntKind.i64.bits))=p2 n:=Ux _ og
def iX{n:Nat}(h:n<64):2^n<18446744073709551616:=Nat.pow_lt_pow_right (a:=2) (n:=64) og h
def Mq(x:Nat)(k:Nat):(((x >>> k)&&&1:Nat):Int)=if x.testBit k then 1 else 0:=by
 rw[Nat.testBit_eq_decide_div_mod_eq,Nat.shiftRight_eq_div_pow,Nat.and_one_is_mod];by_cases h:x/2^k%2=1
 ·simp[h]
 ·have:x/2^k%2=0:=og;simp[this]
def afB(h:0<=k/\k<=6):1<=p2 k/\p2 k<=64:=by
 have:k=0\/k=1\/k=2\/k=3\/k=4\/k=5\/k=6:=og;rcases this with rfl | rfl | rfl | rfl | rfl | rfl | rfl<;>decide
def oD(s:PB)(b':BB)(k:Int)(q:0<=k/\k<7){v:Nat}(hv:v=b'.gV k/\∀ m,0<=m->m<7->¬m=k->b'.gV m=s.b.gV m):0+0+k.toNat*1<71/\dJ (bO s) (0+0+k.toNat*1) (.int .u64 (v:Int))=bO {s with b:=b'} :=by
 refine⟨og,?_⟩;funext i;unfold dJ;by_cases h:i=0+0+k.toNat*1
 ·rw[if_pos h,h,(dH {s with b:=b'} k q).2,hv.1]
 ·rw[if_neg h];by_cases h2:i<7
  ·have e1:=(dH s (i:Int)).2;have e2:=(dH {s with b:=b'} (i:Int)).2;rw[show 0+0+(i:Int).toNat*1=i from og]at e1 e2;rw[e1,e2];rw[hv.2 i og og og]
  ·have c:¬(i%1=0/\i/1<7):=og;unfold bO;simp only[if_neg c]
def yh:BB.cC.gV 6=1/\∀ m:Int,0<=m->m<7->¬m=6->BB.cC.gV m=0:=by
 refine⟨dk,fun m h0 h1 h2=> ?_⟩;have:m=0\/m=1\/m=2\/m=3\/m=4\/m=5:=og;rcases this with rfl | rfl | rfl | rfl | rfl | rfl<;>decide+kernel
def BB.du:BB:=⟨fun _=>0,fun _=>false⟩
theorem yi:∀ m:Int,0<=m->m<7->BB.du.gV m=0:=fun m h0 h1=>by
 have:m=0\/m=1\/m=2\/m=3\/m=4\/m=5\/m=6:=og;rcases this with rfl | rfl | rfl | rfl | rfl | rfl | rfl<;>decide+kernel
def z8:∀ i,i<71->cellsOf #[.int .u64 0,.int .u64 0,.int .u64 0,.int .u64 0,.int .u64 0,.int .u64 0,.int .u64 0,iI 0,iI 0,iI 0,iI 0,iI 0,iI 0,iI 0,iI 0,iI 0,iI 0,iI 0,iI 0,iI 0,iI 0,iI 0,iI 0,iI 0,iI 0,iI 0,iI 0,iI 0,iI 0,iI 0,iI 0,iI 0,iI 0,iI 0,iI 0,iI 0,iI 0,iI 0,iI 0,iI 0,iI 0,iI 0,iI 0,iI 0,iI 0,iI 0,iI 0,iI 0,iI 0,iI 0,iI 0,iI 0,iI 0,iI 0,iI 0,iI 0,iI 0,iI 0,iI 0,iI 0,iI 0,iI 0,iI 0,iI 0,iI 0,iI 0,iI 0,iI 0,iI 0,iI 0,iI 0] i=bO ⟨BB.du,fun _=>0⟩ i:=fun i hi=>by
 by_cases h2:i<7
 ·have e2:=(dH ⟨BB.du,fun _=>0⟩ (i:Int)).2;rw[show 0+0+(i:Int).toNat*1=i from og]at e2;rw[e2,yi _ og og];have:i=0\/i=1\/i=2\/i=3\/i=4\/i=5\/i=6:=og;rcases this with rfl | rfl | rfl | rfl | rfl | rfl | rfl<;>rfl
 ·have e2:=(lZ ⟨BB.du,fun _=>0⟩ ((i-7:Nat):Int)).2;rw[show 0+7+((i-7:Nat):Int).toNat*1=i from og]at e2;rw[e2];exact match i,hi,h2 with
  | 0,_,h=>absurd og h
  | 1,_,h=>absurd og h
  | 2,_,h=>absurd og h
  | 3,_,h=>absurd og h
  | 4,_,h=>absurd og h
  | 5,_,h=>absurd og h
  | 6,_,h=>absurd og h
  | 7,_,_=>rfl
  | 8,_,_=>rfl
  | 9,_,_=>rfl
  | 10,_,_=>rfl
  | 11,_,_=>rfl
  | 12,_,_=>rfl
  | 13,_,_=>rfl
  | 14,_,_=>rfl
  | 15,_,_=>rfl
  | 16,_,_=>rfl
  | 17,_,_=>rfl
  | 18,_,_=>rfl
  | 19,_,_=>rfl
  | 20,_,_=>rfl
  | 21,_,_=>rfl
  | 22,_,_=>rfl
  | 23,_,_=>rfl
  | 24,_,_=>rfl
  | 25,_,_=>rfl
  | 26,_,_=>rfl
  | 27,_,_=>rfl
  | 28,_,_=>rfl
  | 29,_,_=>rfl
  | 30,_,_=>rfl
  | 31,_,_=>rfl
  | 32,_,_=>rfl
  | 33,_,_=>rfl
  | 34,_,_=>rfl
  | 35,_,_=>rfl
  | 36,_,_=>rfl
  | 37,_,_=>rfl
  | 38,_,_=>rfl
  | 39,_,_=>rfl
  | 40,_,_=>rfl
  | 41,_,_=>rfl
  | 42,_,_=>rfl
  | 43,_,_=>rfl
  | 44,_,_=>rfl
  | 45,_,_=>rfl
  | 46,_,_=>rfl
  | 47,_,_=>rfl
  | 48,_,_=>rfl
  | 49,_,_=>rfl
  | 50,_,_=>rfl
  | 51,_,_=>rfl
  | 52,_,_=>rfl
  | 53,_,_=>rfl
  | 54,_,_=>rfl
  | 55,_,_=>rfl
  | 56,_,_=>rfl
  | 57,_,_=>rfl
  | 58,_,_=>rfl
  | 59,_,_=>rfl
  | 60,_,_=>rfl
  | 61,_,_=>rfl
  | 62,_,_=>rfl
  | 63,_,_=>rfl
  | 64,_,_=>rfl
  | 65,_,_=>rfl
  | 66,_,_=>rfl
  | 67,_,_=>rfl
  | 68,_,_=>rfl
  | 69,_,_=>rfl
  | 70,_,_=>rfl
  | k+71,h,_=>absurd h og
structure RG where
 fr:Int
 n:Int
 w:Bool
def RG.nil:RG:=⟨0,0,false⟩
def RG.cR(r:RG):Array Value:= #[iI r.fr,iI r.n,.bool r.w]
def RG.cell(r:RG)(j:Nat):Value:=match j with
 | 0=>iI r.fr
 | 1=>iI r.n
 | 2=>.bool r.w
 | _=>undef
def bD(l:List RG)(z:Int):RG:=l.getD z.toNat RG.nil
def fh(l:List RG)(i:Nat):Value:=(l.getD (i/3) RG.nil).cell (i%3)
def pE(r:RG)(i:Nat):Value:=r.cell i
def pE.agg(r:RG):0+3<=3/\de (pE r) 0 3= .agg r.cR:=⟨og,rfl⟩
theorem pE.box(r:RG):∀ i,i<3->cellsOf r.cR i=pE r i:=fun i h=>by
 match i,h with
 | 0,_=>rfl
 | 1,_=>rfl
 | 2,_=>rfl
 | k+3,h=>omega
theorem pE.f(r:RG):0+0<3/\pE r (0+0)=iI r.fr:=⟨og,rfl⟩
theorem pE.n(r:RG):0+1<3/\pE r (0+1)=iI r.n:=⟨og,rfl⟩
theorem pE.w(r:RG):0+2<3/\pE r (0+2)= .bool r.w:=⟨og,rfl⟩
theorem pE.st(r q:RG):0+3<=3/\cD (pE q) 0 r.cR.toList=pE r:=⟨og,by
 funext i
 match i with
 | 0=>rfl
 | 1=>rfl
 | 2=>rfl
 | k+3=>simp[cD,dJ,RG.cR,pE,RG.cell]⟩
theorem Aa(l:List RG)(h:0<=z/\z<l.length)(j:Nat)(hj:j<3:=by omega):fh l (0+z.toNat*3+j)=(bD l z).cell j:=by
 grind [fh,bD]
def fh.agg{l:List RG}{z:Int}(h:0<=z/\z<l.length):0+z.toNat*3+3<=l.length*3/\de (fh l) (0+z.toNat*3) 3= .agg (bD l z).cR:=by
 refine⟨og,?_⟩;simp only[de,List.range,List.range.loop,List.map_cons,List.map_nil];rw[Aa l h 0,Aa l h 1,Aa l h 2];rfl
theorem fh.f{l:List RG}(h:0<=z/\z<l.length):0+z.toNat*3+0<l.length*3/\fh l (0+z.toNat*3+0)=iI (bD l z).fr:=⟨og,Aa l h 0⟩
theorem fh.n{l:List RG}{z:Int}(h:0<=z/\z<l.length):0+z.toNat*3+1<l.length*3/\fh l (0+z.toNat*3+1)=iI (bD l z).n:=⟨og,Aa l h 1⟩
theorem fh.w{l:List RG}{z:Int}(h:0<=z/\z<l.length):0+z.toNat*3+2<l.length*3/\fh l (0+z.toNat*3+2)= .bool (bD l z).w:=⟨og,Aa l h 2⟩
def fh.app(l:List RG)(r:RG)(C1:Nat->Value)(hC:∀ i,i<3->C1 i=r.cell i):∀ i,i<(l.length+1)*3->fh (l++[r]) i=if i<l.length*3 then fh l i else C1 (i-l.length*3):=fun i hi=>by
 grind [fh]
def Hn(l:List RG)(r:RG):List RG:=l.dropLast++[r]
theorem A7{l:List RG}{r:RG}(h:0<l.length):(Hn l r).length=l.length:=by grind [Hn]
theorem fh.grow{l:List RG}(h:0<l.length)(m:Int):0+((l.length:Int)-1).toNat*3+1<l.length*3/\dJ (fh l) (0+((l.length:Int)-1).toNat*3+1) (iI m)=fh (Hn l {bD l ((l.length:Int)-1)with n:=m}):=by
 refine⟨og,?_⟩;funext i;unfold dJ fh Hn;simp only[List.getD_eq_getElem?_getD];by_cases c:i/3<l.length-1
 ·rw[if_neg og,List.getElem?_append_left (by simp;omega),List.getElem?_dropLast,if_pos c]
 ·by_cases c2:i/3=l.length-1
  ·rw[List.getElem?_append_right (by simp;omega),show i/3-l.dropLast.length=0 from by simp;omega];have e:l[i/3]?.getD RG.nil=bD l ((l.length:Int)-1):=by
    simp_all[bD]
   rw[e];have:i%3=0\/i%3=1\/i%3=2:=og;rcases this with q | q | q
   ·rw[if_neg og,q];rfl
   ·rw[if_pos og,q];rfl
   ·rw[if_neg og,q];rfl
  ·rw[if_neg og,List.getElem?_append_right (by simp;omega),List.getElem?_eq_none og,List.getElem?_eq_none (by simp;omega)]
def Eu(l:List RG)(r:RG):List RG:=match l.getLast? with
 | some q=>if q.fr+q.n=r.fr/\q.w=r.w then l.dropLast++[{q with n:=q.n+r.n}]else l++[r]
 | none=>[r]
theorem Ow(r:RG):Eu [] r=[r]:=rfl
theorem JK(l:List RG)(q r:RG):Eu (l++[q]) r=if q.fr+q.n=r.fr/\q.w=r.w then l++[{q with n:=q.n+r.n}]else l++[q,r]:=by
 simp[Eu]
theorem Uy(l:List RG)(q:RG):bD (l++[q]) (((l++[q]).length:Int)-1)=q:=by
 simp_all[bD]
theorem vl{l:List RG}(h:0<l.length):∃ l' q,l=l'++[q]:=⟨l.dropLast,l.getLast (by intro e;rw[e]at h;simp at h),(List.dropLast_concat_getLast _).symm⟩
theorem Yu{l:List RG}{r:RG}(h:0<l.length)(h1:(bD l ((l.length:Int)-1)).fr+(bD l ((l.length:Int)-1)).n=r.fr)(h2:(bD l ((l.length:Int)-1)).w=r.w):Eu l r=Hn l {bD l ((l.length:Int)-1)with n:=(bD l ((l.length:Int)-1)).n+r.n} :=by
 obtain⟨l',q,rfl⟩:=vl h;grind [Uy,Hn,Eu]
theorem CZ{l:List RG}{r:RG}(h:0<l.length->¬((bD l ((l.length:Int)-1)).fr+(bD l ((l.length:Int)-1)).n=r.fr/\(bD l ((l.length:Int)-1)).w=r.w)):Eu l r=l++[r]:=by
 rcases Nat.eq_zero_or_pos l.length with q | q
 ·grind [Eu]
 ·obtain⟨l',x,rfl⟩:=vl q;simp_all[bD,Eu]
def QG(l:List RG)(a n m:Int)(w:Bool)(_:0<n):Eu (Eu l ⟨a,n,w⟩) ⟨a+n,m,w⟩=Eu l ⟨a,n+m,w⟩:=by
 rcases Nat.eq_zero_or_pos l.length with q | q
 ·grind [Eu]
 grind [Eu]
def mg(l:List RG):List RG:=l.foldl Eu []
def qd(a:Int)(w:Bool):Nat->List RG
 | 0=>[]
 | k+1=>qd a w k++[⟨a+k,1,w⟩]
theorem A8(l:List RG)(a:Int)(w:Bool):∀ k:Nat,0<k->(qd a w k).foldl Eu l=Eu l ⟨a,k,w⟩
 | 0,h=>og
 | 1,_=>by simp[qd]
 | k+2,_=>by
  rw[qd,List.foldl_append,A8 l a w (k+1) og];have:=QG l a ((k+1:Nat):Int) 1 w og;simp only[List.foldl_cons,List.foldl_nil];rw[this];congr 1
def RG.Uz(r:RG):List RG:=qd r.fr r.w r.n.toNat
theorem JM:∀ (l:List RG) (ja:List RG),(∀ r∈l,0<r.n)->(l.flatMap RG.Uz).foldl Eu ja=l.foldl Eu ja
 | [],_,_=>rfl
 | r::l,ja,h=>by
  have h1:=h r sq;simp only[List.flatMap_cons,List.foldl_append,List.foldl_cons];rw[RG.Uz,A8 ja r.fr r.w r.n.toNat og,JM l _ fun x hx=>h x (by simp[hx])];congr 2;cases r;simp only[RG.mk.injEq,true_and,and_true];simp at h1;omega
theorem oE{a:Int}{w:Bool}{u:RG} :∀ {k:Nat},u∈qd a w k↔∃ i:Int,a<=i/\i<a+k/\u=⟨i,1,w⟩
 | 0=>by simp only[qd,List.not_mem_nil,false_iff];rintro⟨i,h1,h2,_⟩;simp at h2;omega
 | k+1=>by
  rw[qd,List.mem_append,oE (k:=k),List.mem_singleton];grind
def yj{a:Int}{w:Bool} :∀ k:Nat,(qd a w k).Pairwise (fun x y=>x.fr<y.fr)
 | 0=>.nil
 | k+1=>by
  rw[qd,List.pairwise_append];refine⟨yj k,sq,fun x hx y hy=> ?_⟩;obtain⟨i,h1,h2,rfl⟩:=oE.1 hx;simp only[List.mem_singleton]at hy;subst hy;exact h2
def si{α:Type}(f:α->Int):∀ {l m:List α},l.Pairwise (fun x y=>f x<f y)->m.Pairwise (fun x y=>f x<f y)->(∀ x,x∈l↔x∈m)->l=m
 | [],[],_,_,_=>rfl
 | [],y::m,_,_,h=>absurd ((h y).2 sq) sq
 | x::l,[],_,_,h=>absurd ((h x).1 sq) sq
 | x::l,y::m,hl,hm,h=>by
  rw[List.pairwise_cons]at hl hm;have e:x=y:=by
   grind
  subst e;congr 1;refine si f hl.2 hm.2 fun z=> ?_;grind
def kd(w:Bool):Int:=if w then 2 else 1
structure Sx (f:Int->Int):Prop where
 v:∀ i,f i=0\/f i=1\/f i=2
 out:∀ i,i<0\/16<=i->f i=0
def mR(f:Int->Int):Nat->List RG
 | 0=>[]
 | k+1=>mR f k++(if f k=0 then []else [⟨k,1,decide (f k=2)⟩])
def qW(f:Int->Int)(k:Nat):List RG:=mg (mR f k)
def ai(f:Int->Int):List RG:=qW f 16
theorem C4(f:Int->Int)(k:Nat):qW f (k+1)=if f k=0 then qW f k else Eu (qW f k) ⟨k,1,decide (f k=2)⟩:=by
 grind [qW,mg,mR]
theorem wZ{f:Int->Int}{u:RG} :∀ {k:Nat},u∈mR f k↔∃ i:Int,0<=i/\i<k/\f i≠0/\u=⟨i,1,decide (f i=2)⟩
 | 0=>by simp only[mR,List.not_mem_nil,false_iff];rintro⟨i,h1,h2,_⟩;simp at h2;omega
 | k+1=>by
  rw[mR,List.mem_append,wZ (k:=k)];grind
def wg{f:Int->Int} :∀ k:Nat,(mR f k).Pairwise (fun x y=>x.fr<y.fr)
 | 0=>.nil
 | k+1=>by
  rw[mR,List.pairwise_append];refine⟨wg k,by split<;>simp,fun x hx y hy=> ?_⟩;obtain⟨i,h1,h2,_,rfl⟩:=wZ.1 hx;split at hy
  ·simp at hy
  ·simp only[List.mem_singleton]at hy;subst hy;exact h2
structure GL (l:List RG):Prop where
 b:∀ r∈l,0<=r.fr/\0<r.n/\r.fr+r.n<=16
 p:l.Pairwise fun x y=>x.fr+x.n<=y.fr\/y.fr+y.n<=x.fr
def RG.has(r:RG)(i:Int):Prop:=r.fr<=i/\i<r.fr+r.n
structure Sy (l:List RG) (f:Int->Int):Prop where
 h1:∀ r∈l,∀ i,r.has i->f i=kd r.w
 h2:∀ i,f i≠0->∃ r∈l,r.has i
def GL.b8{l m:List RG}(h:GL l)(hp:l.Perm m):GL m:=
 ⟨fun r hr=>h.b r (hp.mem_iff.2 hr),(hp.pairwise_iff fun hxy=>hxy.symm).1 h.p⟩
def Sy.b8{l m:List RG}{f:Int->Int}(h:Sy l f)(hp:l.Perm m):Sy m f:=
 ⟨fun r hr=>h.h1 r (hp.mem_iff.2 hr),fun i hi=>by obtain⟨r,hr,h2⟩:=h.h2 i hi;exact⟨r,hp.mem_iff.1 hr,h2⟩⟩
theorem UA(w:Bool):decide (kd w=2)=w:=by cases w<;>rfl
theorem Ox(w:Bool):kd w≠0:=by cases w<;>decide
def Yv{l:List RG}{f:Int->Int}(hg:GL l)(hc:Sy l f)(hf:Sx f)(hs:l.Pairwise fun x y=>x.fr<=y.fr):mg l=ai f:=by
 unfold ai qW;have e:l.flatMap RG.Uz=mR f 16:=by
  refine si (fun r=>r.fr) ?_ (wg 16) fun u=> ?_
  ·rw[List.pairwise_flatMap];refine⟨fun r _=>yj _,?_⟩;have hq:=hs.and hg.p;refine hq.imp_of_mem ?_;rintro x y hx hy ⟨h1,h2⟩ u hu v hv;obtain⟨i,i1,i2,rfl⟩:=oE.1 hu;obtain⟨j,j1,j2,rfl⟩:=oE.1 hv;grind
  ·rw[List.mem_flatMap,wZ];constructor
   ·rintro⟨r,hr,hu⟩;obtain⟨i,i1,i2,rfl⟩:=oE.1 hu;have hb:=hg.b r hr;have:=hc.h1 r hr i ⟨i1,og⟩;grind [Ox,UA]
   ·rintro⟨i,i1,i2,i3,rfl⟩;obtain⟨r,hr,h⟩:=hc.h2 i i3;have hb:=hg.b r hr;refine⟨r,hr,oE.2 ⟨i,h.1,?_,?_⟩⟩
    ·have:=h.2;omega
    grind [Sy.h1,UA]
 rw[<-e];exact(JM l [] fun r hr=>(hg.b r hr).2.1).symm
structure o9 (l:List RG) (f:Int->Int) (k:Nat):Prop where
 b:∀ r∈l,0<=r.fr/\0<r.n/\r.fr+r.n<=k
 s:l.Pairwise fun x y=>x.fr+x.n<=y.fr
 h1:∀ r∈l,∀ i,r.has i->f i=kd r.w
 h2:∀ i:Int,0<=i->i<k->f i≠0->∃ r∈l,r.has i
def JN{f:Int->Int}(hf:Sx f):∀ k:Nat,o9 (qW f k) f k
 | 0=>⟨by intro r h;simp[qW,mR,mg]at h,by simp[qW,mR,mg],by intro r h;simp[qW,mR,mg]at h,fun i a b=>by simp at b;omega⟩
 | k+1=>by
  have ih:=JN hf k;rw[C4];split
  ·rename_i c;refine⟨fun r hr=> ?_,ih.s,ih.h1,fun i a b d=> ?_⟩
   ·have:=ih.b r hr;omega
   grind [o9.h2]
  ·rename_i c;have hk:f k=kd (decide (f k=2)):=by
    rcases hf.v k with q | q | q
    ·omega
    ·rw[q];rfl
    ·rw[q];rfl
   rcases Nat.eq_zero_or_pos (qW f k).length with q | q
   ·rw[List.length_eq_zero_iff]at q;rw[q,Ow];rw[q]at ih;refine⟨fun r hr=> ?_,sq,fun r hr i hi=> ?_,fun i a b d=> ?_⟩
    ·grind
    ·simp only[List.mem_singleton]at hr;subst hr;have:i=k:=by have:=hi.1;have:=hi.2;simp at*;omega
     grind
    ·by_cases e:i=k
     ·subst e;exact⟨_,List.mem_singleton.2 rfl,sq,by simp;omega⟩
     grind [o9.h2]
   ·obtain⟨l',x,hx⟩:=vl q;rw[hx]at ih ⊢;rw[JK];have hbx:=ih.b x sq;have hsx:=(List.pairwise_append.1 ih.s).2.2;split
    ·rename_i d;obtain⟨d1,d2⟩:=d;refine⟨fun r hr=> ?_,?_,fun r hr i hi=> ?_,fun i a b e=> ?_⟩
     ·rcases List.mem_append.1 hr with hr | hr
      ·have:=ih.b r (by simp[hr]);omega
      grind
     ·rw[List.pairwise_append];refine⟨(List.pairwise_append.1 ih.s).1,sq,fun y hy z hz=> ?_⟩;grind
     ·rcases List.mem_append.1 hr with hr | hr
      ·grind [o9.h1]
      ·simp only[List.mem_singleton]at hr;subst hr;have h1:=hi.1;have h2:=hi.2;simp at h1 h2 d1;by_cases e:i=k
       ·grind
       ·exact ih.h1 x sq i ⟨h1,og⟩
     ·by_cases e2:i=k
      ·refine⟨_,List.mem_append.2 (.inr (List.mem_singleton.2 rfl)),?_,?_⟩;all_goals grind
      ·obtain⟨r,hr,hh⟩:=ih.h2 i a og e;rcases List.mem_append.1 hr with hr | hr
       ·grind
       ·simp only[List.mem_singleton]at hr;subst hr;exact⟨_,List.mem_append.2 (.inr (List.mem_singleton.2 rfl)),hh.1,by have:=hh.2;simp;omega⟩
    ·rename_i d;have lO:∀ r,r∈l'++[x,⟨(k:Int),1,decide (f k=2)⟩]↔r∈l'++[x]\/r=⟨(k:Int),1,decide (f k=2)⟩:=fun r=>by simp[or_assoc]
     refine⟨fun r hr=> ?_,?_,fun r hr i hi=> ?_,fun i a b e=> ?_⟩
     ·rcases(lO r).1 hr with hr | hr
      ·have:=ih.b r hr;omega
      grind
     ·rw[show l'++[x,(⟨(k:Int),1,decide (f k=2)⟩:RG)]=(l'++[x])++[⟨(k:Int),1,decide (f k=2)⟩]from sq,List.pairwise_append];refine⟨ih.s,sq,fun y hy z hz=> ?_⟩;simp only[List.mem_singleton]at hz;subst hz;exact(ih.b y hy).2.2
     ·rcases(lO r).1 hr with hr | hr
      ·grind [o9.h1]
      ·subst hr;have:i=k:=by have:=hi.1;have:=hi.2;simp at*;omega
       grind
     ·by_cases e2:i=k
      ·subst e2;exact⟨_,(lO _).2 (.inr rfl),sq,by simp;omega⟩
      grind [o9.h2]
def jM{f:Int->Int}(hf:Sx f):o9 (ai f) f 16:=JN hf 16
def Yw{f:Int->Int}(hf:Sx f):GL (ai f):=⟨(jM hf).b,(jM hf).s.imp fun h=>.inl h⟩
def pd{f:Int->Int}(hf:Sx f):Sy (ai f) f:=⟨(jM hf).h1,fun i hi=>by
 refine(jM hf).h2 i ?_ ?_ hi
 ·by_cases q:i<0
  ·exact absurd (hf.out i (.inl q)) hi
  ·omega
 ·by_cases q:i<16
  ·exact q
  ·exact absurd (hf.out i (.inr og)) hi⟩
theorem Oy(l:List RG)(r:RG):(Eu l r).length<=l.length+1:=by
 grind [Eu]
def FR(f:Int->Int):∀ k,(qW f k).length<=k
 | 0=>by simp[qW,mR,mg]
 | k+1=>by
  rw[C4];have:=FR f k;grind [Oy]
def qX(f:Int->Int):(ai f).length<=16:=FR f 16
def ym{l:List RG}(h:0<=z/\z<l.length:=by omega):bD l z∈l:=by
 grind [bD]
def Yx{l:List RG}{r:RG}(h:r∈l):∃ z:Int,(0<=z/\z<l.length)/\bD l z=r:=by
 obtain⟨k,hk,rfl⟩:=List.mem_iff_getElem.1 h;refine⟨k,og,?_⟩;grind [bD]
def atP(l:List RG)(n:Int)(k:Int):Prop:=(k= -1/\∀ r∈l,¬r.has n)\/((0<=k/\k<l.length)/\(bD l k).has n)
def uc{f:Int->Int}(hf:Sx f){n:Int}(h:atP (ai f) n k):(k<0↔f n=0)/\(0<=k->k<(ai f).length/\f n=kd (bD (ai f) k).w):=by
 rcases h with⟨rfl,h⟩ | ⟨h1,h2⟩
 ·refine⟨⟨fun _=> ?_,fun _=>og⟩,fun q=>og⟩;by_cases c:f n=0
  ·omega
  ·obtain⟨r,hr,hh⟩:=(pd hf).h2 n c;simp_all
 ·have e:=(pd hf).h1 _ (ym h1) n h2;grind [kd]
structure MS where
 ax:Int->Int
 fr:Int->Int
 aX:Int->Bool
structure VB where
 bb:BB
 fR:Int->Int->Int
 rf:Int->Int
def oe(b:Int->Int->Int)(f:Int)(row:Int->Int):Int->Int->Int:=fun x j=>if x=f then row j else b x j
def df{α:Type}(f:Int->α)(a m:Int)(v:α):Int->α:=fun i=>if a<=i/\i<a+m then v else f i
def VB.take(v:VB):Int×Int×VB:=if(v.bb.take 0).2.1≠0 then(0,(v.bb.take 0).2.1,v)else((v.bb.take 0).1,0,⟨(v.bb.take 0).2.2,oe v.fR (v.bb.take 0).1 fun _=>0,ad v.rf (v.bb.take 0).1 1⟩)
def VB.drop(v:VB)(f:Int):VB:=if v.rf f-1=0 then⟨(v.bb.o8 f).2,v.fR,ad v.rf f (v.rf f-1)⟩else⟨v.bb,v.fR,ad v.rf f (v.rf f-1)⟩
def VB.copy(v:VB)(f g:Int):VB:=⟨v.bb,oe v.fR f (v.fR g),v.rf⟩
def fT(a m:Int):Prop:=a<0\/15<a\/m<1\/16-a<m
instance (a m:Int):Decidable (fT a m):=by unfold fT;infer_instance
def Mr(p:Int->Bool)(a:Int):Nat->Bool
 | 0=>false
 | k+1=>Mr p a k||p (a+k)
theorem w6{p:Int->Bool}{a:Int} :∀ {k:Nat},(∀ i:Int,a<=i->i<a+k->p i=false)->Mr p a k=false
 | 0,_=>rfl
 | k+1,h=>by rw[Mr,w6 (k:=k) fun i h1 h2=>h i h1 og,h _ og og];rfl
theorem Ab{p:Int->Bool}{a i:Int} :∀ {k:Nat},a<=i->i<a+k->p i=true->Mr p a k=true
 | 0,h1,h2,_=>by simp at h2;omega
 | k+1,h1,h2,h3=>by
  rw[Mr];by_cases c:i=a+k
  ·rw[<-c,h3];simp
  ·rw[Ab (k:=k) h1 og h3];rfl
def MS.qe(m:MS)(a n:Int):Int:=if fT a n then 1 else if Mr (fun i=>m.ax i != 0) a n.toNat then 3 else 0
def MS.kV(m:MS)(a n:Int):Int:=if fT a n then 1 else if Mr (fun i=>m.ax i==0) a n.toNat then 10 else 0
def MS.lay(m:MS)(a n:Int)(w:Bool):MS:= {m with ax:=df m.ax a n (kd w)}
def MS.map(m:MS)(a n:Int)(w:Bool):MS:=if m.qe a n=0 then m.lay a n w else m
def MS.mz(m:MS)(a n:Int)(w:Bool):MS:=if m.kV a n=0 then m.lay a n w else m
def UB(fr:Int->Int)(x:Int×VB)(i:Int):Int×VB:=if 0<fr i then(x.1+1,x.2.drop (fr i-1))else x
def kW(p:Int->Bool)(a:Int):Nat->List Int
 | 0=>[]
 | k+1=>kW p a k++(if p (a+k)then [a+k]else [])
def A9(v:VB)(fr:Int->Int)(a:Int):Nat->Int×VB
 | 0=>(0,v)
 | k+1=>UB fr (A9 v fr a k) (a+k)
def ud(v:VB)(fr:Int->Int)(l:List Int):Int×VB:=l.foldl (UB fr) (0,v)
theorem JO(v:VB){fr:Int->Int}{p:Int->Bool}(hp:∀ i,p i=false->fr i=0)(a:Int):∀ k,A9 v fr a k=ud v fr (kW p a k)
 | 0=>rfl
 | k+1=>by
  rw[A9,JO v hp a k,kW,ud,ud,List.foldl_append];cases h:p (a+k)with
  | true=>simp
  | false=>simp[UB,hp _ h]
theorem oF{p:Int->Bool}{a i:Int} :∀ {k:Nat},i∈kW p a k↔(a<=i/\i<a+k)/\p i=true
 | 0=>by simp only[kW,List.not_mem_nil,false_iff];rintro⟨⟨h1,h2⟩,_⟩;simp at h2;omega
 | k+1=>by
  rw[kW,List.mem_append,oF (k:=k)];grind
def sj{p:Int->Bool}{a:Int} :∀ k,(kW p a k).Pairwise (fun x y=>x<y)
 | 0=>.nil
 | k+1=>by
  rw[kW,List.pairwise_append];refine⟨sj k,by split<;>simp,fun x hx y hy=> ?_⟩;have:=oF.1 hx;split at hy
  ·simp only[List.mem_singleton]at hy;omega
  ·simp at hy
def MS.cS(v:VB)(m:MS)(a n:Int):Int×Int×VB×MS:=if fT a n then(0,1,v,m)else
 ((A9 v m.fr a n.toNat).1,0,(A9 v m.fr a n.toNat).2,⟨df m.ax a n 0,df m.fr a n 0,df m.aX a n false⟩)
def MS.sm(m:MS)(a:Int)(w:Bool):Bool:=decide (0<=a/\a<128)&&(m.ax (a/8)==2||(m.ax (a/8)==1&& !w))
def MS.l5(m:MS)(a:Int):Bool:=m.sm a false&&m.fr (a/8)==0
def MS.tf(m:MS)(n f:Int):MS:= {m with fr:=ad m.fr n (f+1),aX:=ad m.aX n true}
def MS.bF(v:VB)(m:MS)(a:Int)(w:Bool):Int×Int×VB×MS:=
 if m.sm a w=false then(0,10,v,m)
 else if m.fr (a/8)=0 then(if v.take.2.1≠0 then(0,v.take.2.1,v,m)else(v.take.1,0,v.take.2.2,m.tf (a/8) v.take.1))
 else if w=false\/m.aX (a/8)=true then(m.fr (a/8)-1,0,v,m)
 else if v.rf (m.fr (a/8)-1)<=1 then(m.fr (a/8)-1,0,v,{m with aX:=ad m.aX (a/8) true})
 else if v.take.2.1≠0 then(0,v.take.2.1,v,m)
 else(v.take.1,0,(v.take.2.2.copy v.take.1 (m.fr (a/8)-1)).drop (m.fr (a/8)-1),m.tf (a/8) v.take.1)
def MS.load(v:VB)(m:MS)(a:Int):Int×Int×VB×MS:=let t:=m.bF v a false
 if t.2.1≠0 then(0,t.2.1,t.2.2)else(t.2.2.1.fR t.1 (a%8),0,t.2.2)
def MS.store(v:VB)(m:MS)(a b:Int):Int×VB×MS:=let t:=m.bF v a true
 if t.2.1≠0 then(t.2.1,t.2.2)else(0,⟨t.2.2.1.bb,cI t.2.2.1.fR t.1 (a%8) b,t.2.2.1.rf⟩,t.2.2.2)
def yo(rf fr:Int->Int):Nat->Int->Int
 | 0=>rf
 | k+1=>if 0<fr k then ad (yo rf fr k) (fr k-1) (yo rf fr k (fr k-1)+1)else yo rf fr k
def MS.bare(m:MS):MS:= {m with aX:=fun _=>false}
def VB.im(v:VB)(m:MS):VB:= {v with rf:=yo v.rf m.fr 16}
def tg(fr:Int->Int):Nat->Int
 | 0=>0
 | k+1=>tg fr k+(if 0<fr k then 1 else 0)
def MS.gk(m:MS):Int:=tg m.fr 16
def MS.nil:MS:=⟨fun _=>0,fun _=>0,fun _=>false⟩
def Ho(fr:Int->Int):∀ k:Nat,0<=tg fr k/\tg fr k<=k
 | 0=>by simp[tg]
 | k+1=>by have:=Ho fr k;rw[tg];split<;>omega
theorem FT(fr:Int->Int)(h:0<=i):tg fr (i+1).toNat=tg fr i.toNat+(if 0<fr i then 1 else 0):=by
 rw[show(i+1).toNat=i.toNat+1 from og,tg,show((i.toNat:Nat):Int)=i from og]
structure MS.Ok (m:MS):Prop where
 f:Sx m.ax
 lo:∀ i,0<=m.fr i/\m.fr i<=64
 un:∀ i,m.ax i=0->m.fr i=0
 ow:∀ i,m.fr i=0->m.aX i=false
 inj:∀ i j,0<m.fr i->m.fr i=m.fr j->i=j
structure VB.Ok (v:VB):Prop where
 bb:v.bb.Inv
 rf:∀ f,0<=v.rf f/\v.rf f<=100000
 fR:∀ f j,0<=v.fR f j/\v.fR f j<256
def MS.In(m:MS)(v:VB):Prop:=∀ i,0<m.fr i->1<=v.rf (m.fr i-1)
theorem Sx.df{f:Int->Int}(h:Sx f){a n:Int}(hb:¬fT a n){v:Int}(hv:v=0\/v=1\/v=2):Sx (Go.X.Vm.df f a n v):=by
 unfold fT at hb;refine⟨fun i=> ?_,fun i hi=> ?_⟩
 ·unfold Go.X.Vm.df;split
  ·exact hv
  ·exact h.v i
 ·unfold Go.X.Vm.df;rw[if_neg og];exact h.out i hi
def UC(w:Bool):kd w=0\/kd w=1\/kd w=2:=by cases w<;>simp[kd]
theorem MS.Ok.nil:MS.nil.Ok:=⟨⟨fun _=>.inl rfl,fun _ _=>rfl⟩,fun _=>by simp[MS.nil],fun _ _=>rfl,fun _ _=>rfl,fun i j h=>by simp[MS.nil]at h⟩
theorem MS.Ok.lay{m:MS}(h:m.Ok){a n:Int}(hb:¬fT a n)(w:Bool):(m.lay a n w).Ok:=
 ⟨h.f.df hb (UC w),h.lo,fun i hi=>h.un i (by
  simp only[MS.lay,df]at hi
  split at hi
  ·exact absurd hi (Ox w)
  ·exact hi),h.ow,h.inj⟩
theorem Yy{m:MS}{n:Int}(h:m.qe a n=0):¬fT a n:=by
 grind [MS.qe]
theorem UD{m:MS}{n:Int}(h:m.kV a n=0):¬fT a n:=by
 grind [MS.kV]
theorem MS.Ok.map{m:MS}(h:m.Ok)(a n:Int)(w:Bool):(m.map a n w).Ok:=by
 grind [MS.map,MS.Ok.lay,Yy]
theorem MS.Ok.mz{m:MS}(h:m.Ok)(a n:Int)(w:Bool):(m.mz a n w).Ok:=by
 grind [MS.mz,MS.Ok.lay,UD]
theorem MS.Hp(m:MS)(a n:Int)(w:Bool):(m.map a n w).fr=m.fr/\(m.map a n w).aX=m.aX:=by unfold MS.map;split<;>exact⟨rfl,rfl⟩
theorem MS.B0(m:MS)(a n:Int)(w:Bool):(m.mz a n w).fr=m.fr/\(m.mz a n w).aX=m.aX:=by unfold MS.mz;split<;>exact⟨rfl,rfl⟩
def mr(a n:Int)(r:RG):List RG:=if min (r.fr+r.n) (a+n)<=max r.fr a then [r]else
 (if r.fr<max r.fr a then [⟨r.fr,max r.fr a-r.fr,r.w⟩]else [])++(if min (r.fr+r.n) (a+n)<r.fr+r.n then [⟨min (r.fr+r.n) (a+n),r.fr+r.n-min (r.fr+r.n) (a+n),r.w⟩]else [])
def jD(a:Int):Nat->List Int
 | 0=>[]
 | k+1=>jD a k++[a+k]
def vm(a n:Int)(r:RG):List Int:=jD (max r.fr a) (min (r.fr+r.n) (a+n)-max r.fr a).toNat
theorem qY{a i:Int} :∀ {k:Nat},i∈jD a k↔a<=i/\i<a+k
 | 0=>by simp only[jD,List.not_mem_nil,false_iff];rintro⟨h1,h2⟩;simp at h2;omega
 | k+1=>by
  rw[jD,List.mem_append,qY (k:=k),List.mem_singleton];omega
def yp{a:Int} :∀ k,(jD a k).Pairwise (fun x y=>x<y)
 | 0=>.nil
 | k+1=>by
  rw[jD,List.pairwise_append];refine⟨yp k,sq,fun x hx y hy=> ?_⟩;have:=qY.1 hx;simp only[List.mem_singleton]at hy;omega
theorem Ac(a:Int):∀ k,(jD a k).length=k
 | 0=>rfl
 | k+1=>by rw[jD,List.length_append,Ac a k];rfl
def Oz{n:Int}{r q:RG}(hn:0<n)(hr:0<r.n)(h:q∈mr a n r):0<q.n/\r.fr<=q.fr/\q.fr+q.n<=r.fr+r.n/\q.w=r.w/\(q.fr+q.n<=a\/a+n<=q.fr):=by
 grind [mr]
theorem Yz{a n:Int}{r:RG}{i:Int}(hr:r.has i)(h:i<a\/a+n<=i):∃ q∈mr a n r,q.has i:=by
 obtain⟨h1,h2⟩:=hr;unfold mr;split
 ·simp_all[RG.has]
 ·rename_i c;by_cases d:i<max r.fr a
  ·refine⟨⟨r.fr,max r.fr a-r.fr,r.w⟩,List.mem_append.2 (.inl ?_),h1,?_⟩;all_goals grind
  ·refine⟨⟨min (r.fr+r.n) (a+n),r.fr+r.n-min (r.fr+r.n) (a+n),r.w⟩,List.mem_append.2 (.inr ?_),?_,?_⟩;all_goals grind
def UE{n:Int}{r:RG} :(mr a n r).Pairwise (fun x y=>x.fr+x.n<=y.fr):=by
 unfold mr;split
 ·simp
 ·rw[List.pairwise_append];refine⟨by split<;>simp,by split<;>simp,fun x hx y hy=> ?_⟩;grind
def Ms{l:List RG}{f:Int->Int}{n:Int}(hl:o9 l f 16)(hn:0<n):(l.flatMap (mr a n)).Pairwise (fun x y=>x.fr+x.n<=y.fr)/\(∀ r∈l.flatMap (mr a n),(0<=r.fr/\0<r.n/\r.fr+r.n<=16)/\(r.fr+r.n<=a\/a+n<=r.fr)):=by
 constructor
 ·rw[List.pairwise_flatMap];refine⟨fun _ _=>UE,hl.s.imp_of_mem ?_⟩;grind [mr]
 ·intro r hr;obtain⟨x,hx,h⟩:=List.mem_flatMap.1 hr;have h1:=Oz hn (hl.b x hx).2.1 h;have:=hl.b x hx;omega
def C5{l:List RG}{f:Int->Int}{a n:Int}(hl:o9 l f 16)(hc:Sy l f)(hn:0<n):Sy (l.flatMap (mr a n)) (df f a n 0):=by
 refine⟨fun r hr i hi=> ?_,fun i hi=> ?_⟩
 ·obtain⟨x,hx,h⟩:=List.mem_flatMap.1 hr;obtain⟨h1,h2,h3,h4,h5⟩:=Oz hn (hl.b x hx).2.1 h;have Sz:=hi.1;have P7:=hi.2;unfold df;rw[if_neg og,hc.h1 x hx i ⟨og,og⟩,h4]
 ·unfold df at hi;split at hi
  ·omega
  ·obtain⟨r,hr,hh⟩:=hc.h2 i hi;grind [Yz]
def FU{l:List RG}{f:Int->Int}{n:Int}(hl:o9 l f 16)(hn:0<n):GL (l.flatMap (mr a n)):=by
 obtain⟨h1,h2⟩:=Ms (a:=a) hl hn;exact⟨fun r hr=>(h2 r hr).1,h1.imp fun h=>.inl h⟩
def OA{l:List RG}{n:Int}{w:Bool}(hl:GL l)(hb:¬fT a n)(h:∀ r∈l,r.fr+r.n<=a\/a+n<=r.fr):GL (l++[⟨a,n,w⟩]):=by
 unfold fT at hb;refine⟨fun r hr=> ?_,?_⟩
 ·rcases List.mem_append.1 hr with hr | hr
  ·exact hl.b r hr
  grind
 grind [GL.p]
def JP{l:List RG}{f g:Int->Int}{n:Int}{w:Bool}(hc:Sy l f)(h:∀ r∈l,r.fr+r.n<=a\/a+n<=r.fr)(hg:∀ i,¬(a<=i/\i<a+n)->g i=f i):Sy (l++[⟨a,n,w⟩]) (df g a n (kd w)):=by
 refine⟨fun r hr i hi=> ?_,fun i hi=> ?_⟩
 ·have h1:=hi.1;have h2:=hi.2;grind [df,Sy.h1]
 ·by_cases c:a<=i/\i<a+n
  ·exact⟨_,List.mem_append.2 (.inr (List.mem_singleton.2 rfl)),c.1,c.2⟩
  ·unfold df at hi;rw[if_neg c,hg i c]at hi;obtain⟨r,hr,hh⟩:=hc.h2 i hi;grind
theorem QH{f:Int->Int}(hf:Sx f){n:Int}(hb:¬fT a n):(ai f).flatMap (vm a n)=kW (fun i=>f i != 0) a n.toNat:=by
 unfold fT at hb;have hl:=jM hf;refine si (fun i=>i) ?_ (sj _) fun i=> ?_
 ·rw[List.pairwise_flatMap];refine⟨fun r _=>yp _,hl.s.imp_of_mem ?_⟩;grind [qY,vm]
 ·rw[List.mem_flatMap,oF];constructor
  ·rintro⟨r,hr,h⟩;have h1:=qY.1 h;have e:=(pd hf).h1 r hr i ⟨og,og⟩;grind [Ox]
  ·rintro⟨h1,h2⟩;simp only[bne_iff_ne,ne_eq]at h2;obtain⟨r,hr,hh⟩:=(pd hf).h2 i h2;have a1:=hh.1;have a2:=hh.2;grind [qY,vm]
def FV{p:Int->Bool}{a:Int} :∀ k,(kW p a k).length<=k
 | 0=>by simp[kW]
 | k+1=>by
  have:=FV (p:=p) (a:=a) k;grind [kW]
theorem YA{l:List RG}(h:0<=i/\i<l.length):l[i.toNat]? =some (bD l i):=by
 grind [bD]
def aci(q:Prop)[Decidable q](r:RG):(if q then [r]else []).length<=1:=by split<;>simp
def dM(pb:Nat)(bs:Int->Int->Int)(rf:Int->Int)(i:Nat):Value:=
 if i=0 then az pb 0 0 else
 if 1<=i/\(i-1)/8<64/\((i-1)%8)%1=0/\((i-1)%8)/1<8 then .int .u8 (bs (((i-1)/8:Nat):Int) ((((i-1)%8)/1:Nat):Int))else
 if 513<=i/\(i-513)%1=0/\(i-513)/1<64 then iI (rf (((i-513)/1:Nat):Int))else
 undef
def dM.JQ(pb:Nat)(bs:Int->Int->Int)(rf:Int->Int):(0+0)<577/\dM pb bs rf (0+0)=az pb 0 0:=by
 grind [dM]
def EV(pb:Nat)(bs:Int->Int->Int)(rf:Int->Int)(z0:Int)(z1:Int)(q0:0<=z0/\z0<64)(q1:0<=z1/\z1<8):(((0+1)+z0.toNat*8)+z1.toNat*1)<577/\dM pb bs rf (((0+1)+z0.toNat*8)+z1.toNat*1)= .int .u8 (bs z0 z1):=by
 grind [dM]
def wh(pb:Nat)(bs:Int->Int->Int)(rf:Int->Int)(z0:Int)(z1:Int)(q0:0<=z0/\z0<64)(q1:0<=z1/\z1<8)(v:Int):(((0+1)+z0.toNat*8)+z1.toNat*1)<577/\dJ (dM pb bs rf) (((0+1)+z0.toNat*8)+z1.toNat*1) (.int .u8 (v))=dM pb (cI bs z0 z1 v) rf:=by
 grind [dJ,cI,dM]
def iY(pb:Nat)(bs:Int->Int->Int)(rf:Int->Int)(z0:Int)(q0:0<=z0/\z0<64:=by omega):((0+513)+z0.toNat*1)<577/\dM pb bs rf ((0+513)+z0.toNat*1)=iI (rf z0):=by
 grind [dM]
def l6(pb:Nat)(bs:Int->Int->Int)(rf:Int->Int)(z0:Int)(q0:0<=z0/\z0<64)(v:Int):((0+513)+z0.toNat*1)<577/\dJ (dM pb bs rf) ((0+513)+z0.toNat*1) (iI (v))=dM pb bs (ad rf z0 v):=by
 grind [dJ,ad,dM]
def b6(kb:Nat)(p:Option Addr)(n:Nat)(c:Nat)(fr:Int->Int)(aX:Int->Bool)(i:Nat):Value:=
 if i=0 then az kb 0 0 else
 if i=1 then .slice p n c else
 if 2<=i/\(i-2)%2=0/\(i-2)/2<16 then iI (fr (((i-2)/2:Nat):Int)-1)else
 if 3<=i/\(i-3)%2=0/\(i-3)/2<16 then .bool (aX (((i-3)/2:Nat):Int))else
 undef
def b6.Ad(kb:Nat)(p:Option Addr)(n:Nat)(c:Nat)(fr:Int->Int)(aX:Int->Bool):(0+0)<34/\b6 kb p n c fr aX (0+0)=az kb 0 0:=by
 grind [b6]
def lI(kb:Nat)(p:Option Addr)(n:Nat)(c:Nat)(fr:Int->Int)(aX:Int->Bool):(0+1)<34/\b6 kb p n c fr aX (0+1)= .slice p n c:=by
 grind [b6]
def bS(kb:Nat)(p:Option Addr)(n:Nat)(c:Nat)(fr:Int->Int)(aX:Int->Bool)(z0:Int)(q0:0<=z0/\z0<16:=by omega):(((0+2)+z0.toNat*2)+0)<34/\b6 kb p n c fr aX (((0+2)+z0.toNat*2)+0)=iI (fr z0-1):=by
 grind [b6]
def pT(kb:Nat)(p:Option Addr)(n:Nat)(c:Nat)(fr:Int->Int)(aX:Int->Bool)(z0:Int)(q0:0<=z0/\z0<16)(v:Int):(((0+2)+z0.toNat*2)+0)<34/\dJ (b6 kb p n c fr aX) (((0+2)+z0.toNat*2)+0) (iI (v))=b6 kb p n c (ad fr z0 (v+1)) aX:=by
 grind [dJ,ad,b6]
def yq(kb:Nat)(p:Option Addr)(n:Nat)(c:Nat)(fr:Int->Int)(aX:Int->Bool)(z0:Int)(q0:0<=z0/\z0<16):(((0+2)+z0.toNat*2)+1)<34/\b6 kb p n c fr aX (((0+2)+z0.toNat*2)+1)= .bool (aX z0):=by
 grind [b6]
theorem iw(kb:Nat)(p:Option Addr)(n:Nat)(c:Nat)(fr:Int->Int)(aX:Int->Bool)(z0:Int)(q0:0<=z0/\z0<16)(v:Bool):(((0+2)+z0.toNat*2)+1)<34/\dJ (b6 kb p n c fr aX) (((0+2)+z0.toNat*2)+1) (.bool (v))=b6 kb p n c fr (ad aX z0 v):=by
 grind [dJ,ad,b6]
def UF(row:Int->Int):Array Value:=((List.range 8).map fun (j:Nat)=>Value.int .u8 (row (j:Int))).toArray
def UG(pb:Nat)(bs:Int->Int->Int)(rf:Int->Int)(f:Int)(h:0<=f/\f<64):0+1+f.toNat*8+8<=577/\de (dM pb bs rf) (0+1+f.toNat*8) 8= .agg (UF (bs f)):=by
 refine⟨og,?_⟩;unfold de UF;congr 2;apply List.map_congr_left;grind [dM]
def FW(pb:Nat)(bs:Int->Int->Int)(rf:Int->Int)(f:Int)(row:Int->Int)(h:0<=f/\f<64:=by omega):0+1+f.toNat*8+8<=577/\cD (dM pb bs rf) (0+1+f.toNat*8) (UF row).toList=dM pb (oe bs f row) rf:=by
 refine⟨og,?_⟩;have e:(UF row).toList=[.int .u8 (row 0),.int .u8 (row 1),.int .u8 (row 2),.int .u8 (row 3),.int .u8 (row 4),.int .u8 (row 5),.int .u8 (row 6),.int .u8 (row 7)]:=rfl;rw[e];simp only[cD];have st:∀ (bs:Int->Int->Int) (j:Nat) (v:Int),j<8->dJ (dM pb bs rf) (0+1+f.toNat*8+j) (.int .u8 v)=dM pb (cI bs f j v) rf:=fun bs j v hj=>by
  have:=(wh pb bs rf f (j:Int) h og v).2;simp_all
 have s0:=st bs 0 (row 0) og;rw[show 0+1+f.toNat*8+0=0+1+f.toNat*8 from rfl]at s0;rw[s0,st _ 1 _ og,show 0+1+f.toNat*8+1+1=0+1+f.toNat*8+2 from rfl,st _ 2 _ og,show 0+1+f.toNat*8+2+1=0+1+f.toNat*8+3 from rfl,st _ 3 _ og,show 0+1+f.toNat*8+3+1=0+1+f.toNat*8+4 from rfl,st _ 4 _ og,
  show 0+1+f.toNat*8+4+1=0+1+f.toNat*8+5 from rfl,st _ 5 _ og,show 0+1+f.toNat*8+5+1=0+1+f.toNat*8+6 from rfl,st _ 6 _ og,show 0+1+f.toNat*8+6+1=0+1+f.toNat*8+7 from rfl,st _ 7 _ og]
 funext i;unfold dM;refine ij (fun _=>rfl) fun _=>ij (fun c=> ?_) fun _=>rfl;congr 1;simp only[oe,cI];grind
def QI(kb:Nat)(p:Option Addr)(n c:Nat)(fr:Int->Int)(aX:Int->Bool)(i:Int)(h:0<=i/\i<16):0+2+i.toNat*2+2<=34/\de (b6 kb p n c fr aX) (0+2+i.toNat*2) 2= .agg #[iI (fr i-1),.bool (aX i)]:=by
 grind [de,List.range,List.range.loop,b6]
def sn(kb:Nat)(p:Option Addr)(n c:Nat)(fr:Int->Int)(aX:Int->Bool)(i:Int)(f:Int)(w:Bool)(h:0<=i/\i<16:=by omega):0+2+i.toNat*2+2<=34/\cD (b6 kb p n c fr aX) (0+2+i.toNat*2) [iI f,.bool w]=b6 kb p n c (ad fr i (f+1)) (ad aX i w):=by
 refine⟨og,?_⟩;simp only[cD];have h1:=(pT kb p n c fr aX i h f).2;simp_all[iw]
def Hq(kb:Nat)(p:Option Addr)(n c:Nat)(fr:Int->Int)(aX:Int->Bool)(p2:Option Addr)(n2 c2:Nat):0+1<34/\dJ (b6 kb p n c fr aX) (0+1) (.slice p2 n2 c2)=b6 kb p2 n2 c2 fr aX:=by
 grind [dJ,b6]
theorem FX(hk:0<=k/\k<=6):mE (mE i k) k=i:=by
 grind [mE,aif,afv,Yo,afw,Yp,afx,afy]
def YB(hk:0<=k/\k<=5)(h:a%p2 (k+1)=0):mE (a+p2 k) k=a:=by
 grind [p2,Yo,Yp,mE]
structure BB.kX (b:BB):Prop where
 inv:b.Inv
 cov:∀ j,0<=j->j<64->∃ i,i<=j/\0<b.bP i/\j<i+p2 (b.bP i-1)
 nb:∀ i,0<b.bP i->b.tk i=false->¬b.fV i
theorem BB.kX.cC:BB.cC.kX where
 inv:=BB.Inv.cC
 cov:=fun j h0 h1=>⟨0,h0,dq,by show j<0+p2 6;rw[afy];omega⟩
 nb:=fun i hi _ hc=>by
  have h1:=hc.1
  have:i=0:=by
   apply Classical.byContradiction;intro c
   rw[show BB.cC.bP i=ad (fun _=>(0:Int)) 0 7 i from rfl,ae _ _ c]at hi;omega
  subst this
  have:BB.cC.bP 0=7:=rfl
  omega
def Hr{b:BB}(h:b.Inv)(ha:1<b.bP a)(hc:∀ j,0<=j->j<64->∃ i,i<=j/\0<b.bP i/\j<i+p2 (b.bP i-1)):∀ j,0<=j->j<64->∃ i,i<=j/\0<(b.split a).bP i/\j<i+p2 ((b.split a).bP i-1):=fun j h0 h1=>by
 obtain⟨s1,s2,s3,s4⟩:=h.split ha;have e2:=r9 (k:=b.bP a-2);rw[show b.bP a-2+1=b.bP a-1 from og]at e2;have hp:=r8 (b.bP a-2);have fN:¬a=a+p2 (b.bP a-2):=og;have o1:∀ i,(b.split a).bP i=if i=a+p2 (b.bP a-2)then b.bP a-1 else if i=a then b.bP a-1 else b.bP i:=fun i=>rfl
 grind
def JR{b:BB}(h:b.Inv)(ha:0<b.bP a)(hj:b.fV a)(hc:∀ j,0<=j->j<64->∃ i,i<=j/\0<b.bP i/\j<i+p2 (b.bP i-1)):∀ j,0<=j->j<64->∃ i,i<=j/\0<(b.gK a).bP i/\j<i+p2 ((b.gK a).bP i-1):=fun j h0 h1=>by
 obtain⟨l,l1,l2,l3,l4⟩:=sa ha hj.1 (h.al a ha) (h.ua ha);rw[show mE a (b.bP a-1)=b.cE a from rfl]at l4;have e2:=r9 (k:=b.bP a-1);rw[show b.bP a-1+1=b.bP a from og]at e2;have hp:=r8 (b.bP a-1);have I8:min a (b.cE a)=l:=og;have sY:max a (b.cE a)=l+p2 (b.bP a-1):=og;have o1:∀ i,(b.gK a).bP i=if i=l then b.bP a+1 else if i=l+p2 (b.bP a-1)then 0 else b.bP i:=fun i=>by
  simp_all[ad,BB.gK]
 have ob:=hj.2.1;grind
theorem BB.kX.ib:∀ (n:Nat) {b:BB} {a:Int},b.kX->(n:Int)<b.bP a->b.tk a=true->(BB.ib n b a).kX
 | 0,_,_,h,_,_=>h
 | n+1,b,a,h,ha,ht=>by
  obtain⟨s1,s2,s3,s4⟩:=h.inv.split (a:=a) og;have Iy:=h.inv.ng a;have e2:=r9 (k:=b.bP a-2);rw[show b.bP a-2+1=b.bP a-1 from og]at e2;have hp:=r8 (b.bP a-2);have fN:¬a=a+p2 (b.bP a-2):=og;have o1:∀ i,(b.split a).bP i=if i=a+p2 (b.bP a-2)then b.bP a-1 else if i=a then b.bP a-1 else b.bP i:=fun i=>rfl
  have Ly:mE (a+p2 (b.bP a-2)) (b.bP a-2)=a:=YB og (by rw[show b.bP a-2+1=b.bP a-1 from og];exact h.inv.al a og);refine BB.kX.ib n ⟨s1,Hr h.inv og h.cov,fun i hi YC YD=> ?_⟩ (by rw[s4];omega) ht;have acj:b.tk i=false:=YC;have hna:¬i=a:=by rintro rfl;rw[ht]at acj;cases acj
  obtain⟨c1,c2,c3⟩:=YD;by_cases c:i=a+p2 (b.bP a-2)
  ·have hb:(b.split a).cE i=a:=by
    unfold BB.cE;rw[o1,if_pos c,show b.bP a-1-1=b.bP a-2 from og,c];exact Ly
   rw[hb]at c3;rw[show(b.split a).tk a=b.tk a from rfl,ht]at c3;cases c3
  ·have oi:(b.split a).bP i=b.bP i:=by rw[o1,if_neg c,if_neg hna]
   have hb:(b.split a).cE i=b.cE i:=by unfold BB.cE;rw[oi]
   rw[hb,oi]at c2;rw[hb]at c3;rw[oi]at hi c1;have hba:¬b.cE i=a:=fun e=>by
    rw[e]at c3;rw[show(b.split a).tk a=b.tk a from rfl,ht]at c3;cases c3
   by_cases d:b.cE i=a+p2 (b.bP a-2)
   ·rw[d,o1,if_pos rfl]at c2;have e3:mE (b.cE i) (b.bP i-1)=i:=FX og;rw[d,<-c2,show b.bP a-1-1=b.bP a-2 from og,Ly]at e3;exact hna e3.symm
   ·rw[o1,if_neg d,if_neg hba]at c2;exact h.nb i hi acj ⟨c1,c2,c3⟩
theorem BB.kX.ia{b:BB}(h:b.kX){a:Int}(ha:0<b.bP a):(b.ia a).kX:=by
 refine⟨h.inv.ia ha,h.cov,fun i hi YC YD=> ?_⟩;have t1:∀ j,(b.ia a).tk j=false->b.tk j=false:=fun j hj=>by
  have:ad b.tk a true j=false:=hj;grind [aj,ae]
 obtain⟨c1,c2,c3⟩:=YD;exact h.nb i hi (t1 i YC) ⟨c1,c2,t1 _ c3⟩
theorem BB.kX.take{b:BB}(h:b.kX)(o:Int):(b.take o).2.2.kX:=by
 unfold BB.take;split
 ·omega
 ·rename_i ho;split
  ·omega
  ·rename_i k i hp;obtain⟨h1,h2,h3,h4,h5⟩:=od hp;have hh:=h.ia (a:=i) og;exact BB.kX.ib _ hh (by show _<b.bP i;omega) (aj _ _ _)
def EW:∀ (n:Nat) {b:BB} {a:Int},b.Inv->(∀ j,0<=j->j<64->∃ i,i<=j/\0<b.bP i/\j<i+p2 (b.bP i-1))->0<b.bP a->b.tk a=false->7<=b.bP a+n->(∀ i,0<b.bP i->b.tk i=false->b.fV i->i=a\/b.cE i=a)->(BB.ke n b a).kX:=by
 have stop:∀ {b:BB} {a:Int},b.Inv->(∀ j,0<=j->j<64->∃ i,i<=j/\0<b.bP i/\j<i+p2 (b.bP i-1))->0<b.bP a->b.tk a=false->¬b.fV a->(∀ i,0<b.bP i->b.tk i=false->b.fV i->i=a\/b.cE i=a)->b.kX:=by
  intro b a h hc ha ht hn hv;refine⟨h,hc,fun i hi YC YD=> ?_⟩;rcases hv i hi YC YD with e | e;all_goals grind [BB.cE,FX,BB.fV]
 intro n;induction n with
 | zero=>
  intro b a h hc ha ht h7 hv;exact stop (b:=b) (a:=a) h hc ha ht (fun q=>by have:=q.1;omega) hv
 | succ n ih=>
  intro b a h hc ha ht h7 hv;rw[BB.ke];by_cases c:b.fV a
  ·rw[if_pos c];obtain⟨j1,_,_,_,j5,j6⟩:=h.gK ha ht c;obtain⟨l,l1,l2,l3,l4⟩:=sa ha c.1 (h.al a ha) (h.ua ha);rw[show mE a (b.bP a-1)=b.cE a from rfl]at l4;have hp:=r8 (b.bP a-1);have I8:min a (b.cE a)=l:=og;have sY:max a (b.cE a)=l+p2 (b.bP a-1):=og;have o1:∀ i,(b.gK a).bP i=if i=l then b.bP a+1 else if i=l+p2 (b.bP a-1)then 0 else b.bP i:=fun i=>by
    show ad (ad b.bP (max a (b.cE a)) 0) (min a (b.cE a)) (b.bP a+1) i=_;rw[I8,sY];rfl
   refine ih j1 (JR h ha c hc) (by rw[j5];omega) j6 (by rw[j5];omega) fun i hi YC YD=> ?_;rw[I8];apply Classical.byContradiction;intro sW;obtain⟨n1,n2⟩:=not_or.1 sW;obtain⟨c1,c2,c3⟩:=YD;have n3:¬i=l+p2 (b.bP a-1):=by
    grind
   have oi:(b.gK a).bP i=b.bP i:=by rw[o1,if_neg n1,if_neg n3]
   have hb:(b.gK a).cE i=b.cE i:=by unfold BB.cE;rw[oi]
   rw[hb]at n2 c2 c3;rw[oi]at hi c1 c2;have n4:¬b.cE i=l+p2 (b.bP a-1):=fun e=>by
    simp_all
   rw[o1,if_neg n2,if_neg n4]at c2;rcases hv i hi YC ⟨c1,c2,c3⟩with e | e<;>omega
  ·grind
theorem BB.kX.o8{b:BB}(h:b.kX)(a:Int):(b.o8 a).2.kX:=by
 unfold BB.o8;by_cases c:b.is a=0
 ·rw[if_neg (by simp[c])];obtain⟨h1,h2,h3⟩:=sc c;have ho:=h.inv.tk a h3;refine EW _ (h.inv.bare a) h.cov ho (aj _ _ _) (by show 7<=b.bP a+_;omega) fun i hi YC YD=> ?_;apply Classical.byContradiction;intro sW;obtain⟨n1,n2⟩:=not_or.1 sW;obtain⟨c1,c2,c3⟩:=YD;have t1:ad b.tk a false i=false:=YC;have t2:ad b.tk a false (b.cE i)=false:=c3;rw[ae _ _ n1]at t1;rw[ae _ _ (show ¬b.cE i=a from n2)]at t2;exact h.nb i hi t1 ⟨c1,c2,t2⟩
 simp_all
theorem C6{f:Int->Bool} :∀ {k:Nat} {a:Int},a∈gB f k↔0<=a/\a<k/\f a=true
 | 0,a=>by simp[gB];omega
 | k+1,a=>by
  simp only[gB,List.mem_append,C6 (k:=k)];grind
def Hs{b:BB}(h:¬(b.take o).2.1=0):(b.take o).2.2=b:=by
 grind [BB.take]
def BB.Inv.C7{b:BB}(h:b.Inv)(he:(b.take o).2.1=0):(0<=o/\o<=6)/\(0<=(b.take o).1/\(b.take o).1<64)/\b.ep (b.take o).1=0/\(b.take o).1%p2 o=0/\(b.take o).2.2.ep=ad b.ep (b.take o).1 (o+1):=by
 by_cases ho:o<0\/6<o
 ·grind [qc]
 ·cases hp:b.pick o with
  | none=>rw[yc ho hp]at he;simp at he
  | some x=>
   obtain⟨k,i⟩:=x;obtain⟨h1,h2,h3,h4,h5⟩:=od hp;have hu:=congrArg PB.u (h.FO ho hp);have hi:=h.take o;have hh:=h.ia (a:=i) og;obtain⟨s1,_⟩:=hh.wY ((k:Int)-o).toNat (a:=i) (by show _<b.bP i;omega);have e1:(b.take o).1=i:=by rw[BB.lq ho hp]
   have e2:(b.take o).2.2.bP i=o+1:=by
    rw[BB.lq ho hp];show(BB.ib _ _ _).bP i=_;rw[s1];show b.bP i-_=_;omega
   have ha:=hi.al i (by rw[e2];omega);rw[e2,show o+1-1=o from og]at ha;rw[e1];exact⟨og,og,by unfold BB.ep;rw[if_neg (by simp[h5])],ha,hu.symm⟩
theorem C8(b:BB)(a:Int):(b.o8 a).1=b.is a:=by
 grind [se,pS]
def BB.Inv.UH{b:BB}(h:b.Inv)(he:(b.o8 a).1=0):(0<=a/\a<64)/\¬b.ep a=0/\(b.o8 a).2.ep=ad b.ep a 0/\(b.o8 a).2.tk=ad b.tk a false:=by
 rw[C8]at he;obtain⟨h1,h2,h3⟩:=sc he;have hu:=congrArg PB.u (h.zZ he);refine⟨⟨h1,h2⟩,?_,hu.symm,?_⟩
 ·grind [BB.ep,Inv]
 ·rw[se he];exact BB.CY _ _ _
def zKl(b:Nat):List Value:=az b 0 0::(List.replicate 512 (Value.int .u8 0)++List.replicate 64 (Value.int .i64 0))
def VB.cC:VB:=⟨BB.cC,fun _ _=>0,fun _=>0⟩
theorem VB.Ok.cC:VB.cC.Ok:=⟨BB.Inv.cC,fun _=>by simp[VB.cC],fun _ _=>by simp[VB.cC]⟩
def ack(b:Nat):∀ i,i<577->cellsOf (zKl b).toArray i=dM b VB.cC.fR VB.cC.rf i:=fun i hi=>by
 unfold cellsOf zKl dM;rw[Array.getD_eq_getD_getElem?,List.getElem?_toArray];by_cases h0:i=0
 ·grind
 ·rw[if_neg h0,show i=(i-1)+1 from og,List.getElem?_cons_succ];by_cases h1:i-1<512
  ·rw[List.getElem?_append_left (by rw[List.length_replicate];exact h1),List.getElem?_replicate,if_pos h1];rw[if_pos og];rfl
  ·rw[List.getElem?_append_right (by rw[List.length_replicate];omega),List.length_replicate,List.getElem?_replicate,if_pos og];rw[if_neg og,if_pos og];rfl
def zNl(b:Nat):List Value:=az b 0 0:: .slice none 0 0::(List.replicate 16 [Value.int .i64 0,Value.bool false]).flatten
def UI(b:Nat):∀ i,i<34->cellsOf (zNl b).toArray i=b6 b none 0 0 (fun _=>1) (fun _=>false) i:=fun i hi=>by
 unfold cellsOf zNl b6;rw[Array.getD_eq_getD_getElem?,List.getElem?_toArray];by_cases h0:i=0
 ·simp_all
 ·rw[if_neg h0];by_cases h1:i=1
  ·simp_all
  ·rw[if_neg h1];have h:∀ k,k<32->((List.replicate 16 [Value.int .i64 0,Value.bool false]).flatten)[k]? =some (if k%2=0 then Value.int .i64 0 else .bool false):=fun k hk=>match k,hk with
    | 0,_=>rfl
    | 1,_=>rfl
    | 2,_=>rfl
    | 3,_=>rfl
    | 4,_=>rfl
    | 5,_=>rfl
    | 6,_=>rfl
    | 7,_=>rfl
    | 8,_=>rfl
    | 9,_=>rfl
    | 10,_=>rfl
    | 11,_=>rfl
    | 12,_=>rfl
    | 13,_=>rfl
    | 14,_=>rfl
    | 15,_=>rfl
    | 16,_=>rfl
    | 17,_=>rfl
    | 18,_=>rfl
    | 19,_=>rfl
    | 20,_=>rfl
    | 21,_=>rfl
    | 22,_=>rfl
    | 23,_=>rfl
    | 24,_=>rfl
    | 25,_=>rfl
    | 26,_=>rfl
    | 27,_=>rfl
    | 28,_=>rfl
    | 29,_=>rfl
    | 30,_=>rfl
    | 31,_=>rfl
    | k+32,h=>absurd h og
   grind
theorem so{kb:Nat}{p:Option Addr}{n c:Nat}{f f':Int->Int}{o o':Int->Bool}(h:∀ i:Int,0<=i->i<16->f i=f' i/\o i=o' i):b6 kb p n c f o=b6 kb p n c f' o':=by
 grind [b6]
def frI(i:Int):Int->Int:=fun j=>if 0<=j/\j<i then 0 else 1
theorem UJ(h:0<=i):ad (frI i) i (-1+1)=frI (i+1):=by
 grind [ad,frI]
theorem UK:ai MS.nil.ax=[]:=dk
theorem VB.lq{v:VB}(h:(v.bb.take 0).2.1=0):v.take=((v.bb.take 0).1,0,⟨(v.bb.take 0).2.2,oe v.fR (v.bb.take 0).1 fun _=>0,ad v.rf (v.bb.take 0).1 1⟩):=by grind [VB.take]
theorem lB{v:VB}(h:¬(v.bb.take 0).2.1=0):v.take=(0,(v.bb.take 0).2.1,v):=by grind [VB.take]
def ny{v:VB}(hv:v.Ok)(h:v.take.2.1=0):0<=v.take.1/\v.take.1<64:=by
 by_cases c:(v.bb.take 0).2.1=0
 ·rw[VB.lq c];exact(hv.bb.C7 c).2.1
 grind [lB]
theorem VB.Ok.take{v:VB}(hv:v.Ok):v.take.2.2.Ok:=by
 by_cases c:(v.bb.take 0).2.1=0
 ·rw[VB.lq c];refine⟨hv.bb.take 0,fun f=> ?_,fun f j=> ?_⟩
  ·show 0<=ad v.rf _ 1 f/\ad v.rf _ 1 f<=100000;unfold ad;split
   ·omega
   ·exact hv.rf f
  ·show 0<=oe v.fR (v.bb.take 0).1 (fun _=>0) f j/\oe v.fR (v.bb.take 0).1 (fun _=>0) f j<256;unfold oe;split
   ·simp
   ·exact hv.fR f j
 grind [lB]
theorem VB.vk(v:VB):0<=v.take.2.1:=by
 unfold VB.take;split;all_goals simp_all[BB.vk]
theorem VB.Ok.drop{v:VB}(hv:v.Ok){f:Int}(h:1<=v.rf f):(v.drop f).Ok:=by
 have hr:∀ g,0<=ad v.rf f (v.rf f-1) g/\ad v.rf f (v.rf f-1) g<=100000:=fun g=>by
  unfold ad;split
  ·have:=hv.rf f;omega
  ·exact hv.rf g
 unfold VB.drop;split
 ·exact⟨hv.bb.o8 f,hr,hv.fR⟩
 ·exact⟨hv.bb,hr,hv.fR⟩
theorem C9(v:VB)(f:Int):(v.drop f).rf=ad v.rf f (v.rf f-1)/\(v.drop f).fR=v.fR:=by grind [VB.drop]
theorem vn{v:VB}{f:Int}(h:v.rf f-1=0):v.drop f=⟨(v.bb.o8 f).2,v.fR,ad v.rf f (v.rf f-1)⟩:=by grind [VB.drop]
theorem vo{v:VB}{f:Int}(h:¬v.rf f-1=0):v.drop f=⟨v.bb,v.fR,ad v.rf f (v.rf f-1)⟩:=by grind [VB.drop]
def RG.UL(r:RG)(i:Int):Bool:=decide (r.fr<=i)&&decide (i<r.fr+r.n)
theorem Ba(r:RG)(i:Int):r.UL i=true↔r.has i:=by unfold RG.UL RG.has;simp
def pgA(fr:Int->Int)(aX:Int->Bool):Array Value:=((List.range 32).map fun (j:Nat)=>if j%2=0 then Value.int .i64 (fr ((j/2:Nat):Int)-1)else .bool (aX ((j/2:Nat):Int))).toArray
def Mt(kb:Nat)(p:Option Addr)(n c:Nat)(fr:Int->Int)(aX:Int->Bool):0+2+32<=34/\de (b6 kb p n c fr aX) (0+2) 32= .agg (pgA fr aX):=by
 refine⟨og,?_⟩;rfl
def acn{fr:Int->Int}{aX:Int->Bool}(h:0<=z/\z<16):(pgA fr aX).extract (z.toNat*2) (z.toNat*2+2)= #[iI (fr z-1),.bool (aX z)]:=by
 have hs:(pgA fr aX).size=32:=by simp[pgA]
 apply Array.ext
 ·grind
 ·intro i h1 h2;have h3:i=0\/i=1:=by simp at h2;omega
  rw[Array.getElem_extract];rcases h3 with rfl | rfl
  ·simp only[pgA,List.getElem_toArray,List.getElem_map,List.getElem_range,Nat.add_zero];grind
  ·simp only[pgA,List.getElem_toArray,List.getElem_map,List.getElem_range];grind
def QJ{l:List RG} :(bZ (fh l) (l.length*3)).all one=true:=by
 rw[List.all_eq_true];intro v hv;simp only[bZ,List.mem_map,List.mem_range]at hv;obtain⟨j,hj,rfl⟩:=hv;unfold fh RG.cell;grind [one]
def SA(f:Int)(w:Bool)(i:Nat):Value:=if i=0 then iI f else if i=1 then .bool w else undef
theorem SA.f(f:Int)(w:Bool):0+0<2/\SA f w (0+0)=iI f:=⟨og,rfl⟩
theorem SA.box(f:Int)(w:Bool):∀ i,i<2->cellsOf #[iI f,.bool w] i=SA f w i:=fun i h=>by
 match i,h with
 | 0,_=>rfl
 | 1,_=>rfl
 | k+2,h=>omega
theorem SA.st(f g:Int)(w u:Bool):0+2<=2/\cD (SA g u) 0 [iI f,.bool w]=SA f w:=⟨og,by
 funext i
 match i with
 | 0=>rfl
 | 1=>rfl
 | k+2=>simp[cD,dJ,SA]⟩
def QK{l:List RG}(h:GL l):∀ r∈l,0<=r.fr/\r.fr<=16:=fun r hr=>by have:=h.b r hr;omega
section
variable {P:Program} {n:Fr} {Q:Exit->Act->World->Prop} {L:PF} {ops:Md} {rest:List Oper} {ty:TypeId} {pos:String} {af:Array Edge} {d:Nat} {W:World} {S:Nat->Nat->Prop} {H H':List aF}
def je{t e:TypeId}{x y:Operand}{p:Option Addr}{cap c b:Nat}{ja:List RG}{r:RG}(hx:ev L x=some (.slice p ja.length cap))(hy:ev L y=some (.slice (some ⟨b,0,none⟩) 1 c))(ht:P.underlying t=some (.slice e))(hr:rF P e 3=true)(hH:nr H (aM p cap e 3 ja.length (fh ja)) H')(hN:lh H (.cells b 0 3 (cellsOf r.cR)))(hk:ja.length+1<=100000000000)(hd:Nat.blt d n.sz=true)(h:∀ p' cQ,XO P n ops Q rest ((d,.slice p' (ja++[r]).length cQ)::L) (XM W S (aM p' cQ e 3 (ja++[r]).length (fh (ja++[r]))::H'))):XO P n ops Q (⟨some d,.call ⟨.builtin .append,#[x,y],#[t,t]⟩,ty,pos,af,none⟩::rest) L (XM W S H):=
 wG (C2:=fh (ja++[r])) hx hy ht hr hH hN rfl rfl og hk (fh.app ja r _ (fun i hi=>by
  match i,hi with
  | 0,_=>rfl
  | 1,_=>rfl
  | 2,_=>rfl
  | k+3,hi=>omega)) hd (fun p' cQ=>by
  have e1:ja.length+1=(ja++[r]).length:=sq
  rw[e1]
  exact h p' cQ)
end
def UM{l:List RG}{m:Nat}(hm:m=l.length)(h:0<=z/\z<m):0+z.toNat*3+3<=m*3/\de (fh l) (0+z.toNat*3) 3= .agg (bD l z).cR:=by
 subst hm;exact fh.agg h
def OB(a n:Int)(r:RG):(mr a n r).length<=2:=by
 grind [mr]
theorem vq(l:List RG)(r:RG):mg (l++[r])=Eu (mg l) r:=by grind [mg]
def UN:∀ (k:Nat) (l:List RG),l.length=k->(mg l).length<=k
 | 0,l,h=>by rw[List.length_eq_zero_iff]at h;subst h;simp[mg]
 | k+1,l,h=>by
  obtain⟨l',x,rfl⟩:=vl (l:=l) og;rw[vq];have h1:=Oy (mg l') x;have h2:=UN k l' (by simp at h;exact h);omega
def afE:∀ (k:Nat) (l:List RG),l.length=k->(∀ r∈l,0<=r.fr/\0<r.n/\r.fr+r.n<=16)->∀ r∈mg l,0<=r.fr/\0<r.n/\r.fr+r.n<=16
 | 0,l,h,_=>by rw[List.length_eq_zero_iff]at h;subst h;intro r hr;simp[mg]at hr
 | k+1,l,h,hb=>by
  obtain⟨l',x,rfl⟩:=vl (l:=l) og;have ih:=afE k l' (by simp at h;exact h) fun r hr=>hb r (by simp[hr]);have hx:=hb x sq;rw[vq];intro r hr;rcases Nat.eq_zero_or_pos (mg l').length with q | q;all_goals grind [Ow,vl,JK]
theorem qZ{l:List RG}(h:0<=i/\i<l.length):l.take (i+1).toNat=l.take i.toNat++[bD l i]:=by
 rw[show(i+1).toNat=i.toNat+1 from og,List.take_add_one,YA h];rfl
theorem vr{β:Type}(f:RG->List β){l:List RG}(h:0<=i/\i<l.length):(l.take (i+1).toNat).flatMap f=(l.take i.toNat).flatMap f++f (bD l i):=by
 grind [qZ]
def aco{n:Int}{r:RG}(h:¬min (r.fr+r.n) (a+n)<=max r.fr a):mr a n r=(if r.fr<max r.fr a then [⟨r.fr,max r.fr a-r.fr,r.w⟩]else [])++(if min (r.fr+r.n) (a+n)<r.fr+r.n then [⟨min (r.fr+r.n) (a+n),r.fr+r.n-min (r.fr+r.n) (a+n),r.w⟩]else []):=by grind [mr]
def YE{n:Int}{r:RG}(h:min (r.fr+r.n) (a+n)<=max r.fr a):mr a n r=[r]/\vm a n r=[]:=by
 unfold mr vm;rw[if_pos h,show(min (r.fr+r.n) (a+n)-max r.fr a).toNat=0 from og];exact⟨rfl,rfl⟩
theorem Mu(a:Int)(h:0<=k):jD a (k+1).toNat=jD a k.toNat++[a+k]:=by
 rw[show(k+1).toNat=k.toNat+1 from og,jD,show((k.toNat:Nat):Int)=k from og]
theorem Da(v:VB)(fr:Int->Int)(l:List Int)(i:Int):ud v fr (l++[i])=UB fr (ud v fr l) i:=by grind [ud]
def QL{l:List Int}(h:0<l.length):∃ l' i,l=l'++[i]:=⟨l.dropLast,l.getLast (by intro e;rw[e]at h;simp at h),(List.dropLast_concat_getLast _).symm⟩
def UO{v:VB}{m:MS}(hv:v.Ok)(hm:m.Ok)(hi:m.In v):∀ (k:Nat) (l:List Int),l.length=k->l.Nodup->(ud v m.fr l).2.Ok/\(0<=(ud v m.fr l).1/\(ud v m.fr l).1<=k)/\∀ g,(∀ i∈l,m.fr i≠g+1)->(ud v m.fr l).2.rf g=v.rf g
 | 0,l,h,_=>by rw[List.length_eq_zero_iff]at h;subst h;exact⟨hv,by simp[ud],fun _ _=>rfl⟩
 | k+1,l,h,hn=>by
  obtain⟨l',i,rfl⟩:=QL (l:=l) og;rw[List.nodup_append]at hn;obtain⟨i1,i2,i3⟩:=UO hv hm hi k l' (by simp at h;exact h) hn.1;rw[Da];unfold UB;split
  ·rename_i c;have e:(ud v m.fr l').2.rf (m.fr i-1)=v.rf (m.fr i-1):=i3 _ (fun j hj q=>by
    have:=hm.inj i j c og
    subst this
    exact hn.2.2 i hj i sq rfl)
   refine⟨i1.drop (by rw[e];exact hi i c),⟨by show 0<=(ud v m.fr l').1+1;omega,by show(ud v m.fr l').1+1<=_;omega⟩,fun g hg=> ?_⟩;show((ud v m.fr l').2.drop (m.fr i-1)).rf g=_;rw[(C9 _ _).1,ae _ _ (by have:=hg i sq;omega)];exact i3 g fun j hj=>hg j (by simp[hj])
  ·exact⟨i1,⟨i2.1,og⟩,fun g hg=>i3 g fun j hj=>hg j (by simp[hj])⟩
def om(f:Int->Int)(l:List Int):Int->Int:=fun i=>if i∈l then 0 else f i
def ew(f:Int->Bool)(l:List Int):Int->Bool:=fun i=>if i∈l then false else f i
theorem QM(f:Int->Int)(l:List Int)(i:Int):om f (l++[i])=ad (om f l) i (-1+1):=by
 grind [om,ad]
theorem QN(f:Int->Bool)(l:List Int)(i:Int):ew f (l++[i])=ad (ew f l) i false:=by
 grind [ew,ad]
theorem QO{f:Int->Int}{l:List Int}(h:f i=0):om f (l++[i])=om f l:=by
 grind [om]
theorem QP{f:Int->Bool}{l:List Int}(h:f i=false):ew f (l++[i])=ew f l:=by
 grind [ew]
def aaM{l:List Int}(h:0<=i/\i<l.length):l.take (i+1).toNat=l.take i.toNat++[jc l i]:=by
 rw[show(i+1).toNat=i.toNat+1 from og,List.take_add_one];grind [jc]
def r6{l:List Int}(h:0<=i/\i<l.length):jc l i∈l:=by
 grind [jc]
def YG{l:List Int}(hs:l.Pairwise fun x y=>x<y)(h:0<=i/\i<l.length):jc l i∉l.take i.toNat:=by
 grind [List.mem_iff_getElem,List.pairwise_iff_getElem,jc]
theorem UP{l:List Int}(hs:l.Pairwise fun x y=>x<y):l.Nodup:=hs.imp fun h e=>og
def Mv{l:List Int}(hs:l.Pairwise fun x y=>x<y)(k:Nat):(l.take k).Nodup:=by grind [UP]
theorem MS.Ok.cS{v:VB}{m:MS}(h:m.Ok)(a n:Int):(m.cS v a n).2.2.2.Ok:=by
 unfold MS.cS;split
 ·omega
 ·rename_i hb;refine⟨h.f.df hb (.inl rfl),fun i=> ?_,fun i hi=> ?_,fun i hi=> ?_,fun i j hi IB=> ?_⟩
  ·show 0<=df m.fr a n 0 i/\df m.fr a n 0 i<=64;unfold df;split
   ·omega
   ·exact h.lo i
  ·grind [df,MS.Ok.un]
  all_goals grind [df,MS.Ok.ow,MS.Ok.inj]
end Go.X.Vm
