import Derived.Test.YthdinakloheinaaGreatDoorkVBM
namespace Go.X.Vm
open Go Go.X
structure RG where
 fr:Int
 n:Int
 w:Bool
def RG.nil:RG:=⟨0,0,false⟩
def RG.arr(r:RG):Array Value:= #[.int .i64 r.fr,.int .i64 r.n,.bool r.w]
def RG.cell(r:RG)(j:Nat):Value:=match j with
 | 0=>.int .i64 r.fr
 | 1=>.int .i64 r.n
 | 2=>.bool r.w
 | _=>undef
def rat(l:List RG)(z:Int):RG:=l.getD z.toNat RG.nil
def dy(l:List RG)(i:Nat):Value:=(l.getD (i/3) RG.nil).cell (i%3)
def jZ(r:RG)(i:Nat):Value:=r.cell i
theorem jZ.agg(r:RG):0+3≤3∧bW (jZ r) 0 3= .agg r.arr:=⟨by omega,rfl⟩
theorem jZ.box(r:RG):∀ i,i<3→cellsOf r.arr i=jZ r i:=fun i h=>by
 match i,h with
 | 0,_=>rfl
 | 1,_=>rfl
 | 2,_=>rfl
 | k+3,h=>omega
theorem jZ.f(r:RG):0+0<3∧jZ r (0+0)= .int .i64 r.fr:=⟨by omega,rfl⟩
theorem jZ.n(r:RG):0+1<3∧jZ r (0+1)= .int .i64 r.n:=⟨by omega,rfl⟩
theorem jZ.w(r:RG):0+2<3∧jZ r (0+2)= .bool r.w:=⟨by omega,rfl⟩
theorem jZ.st(r q:RG):0+3≤3∧bL (jZ q) 0 r.arr.toList=jZ r:=⟨by omega,by
 funext i
 match i with
 | 0=>rfl
 | 1=>rfl
 | 2=>rfl
 | k+3=>simp[bL,cH,RG.arr,jZ,RG.cell]⟩
theorem oU(l:List RG){z:Int}(h:0≤z∧z<l.length)(j:Nat)(hj:j<3):dy l (0+z.toNat*3+j)=(rat l z).cell j:=by
 unfold dy rat
 rw[show(0+z.toNat*3+j)/3=z.toNat from by omega,show(0+z.toNat*3+j)%3=j from by omega]
theorem dy.agg{l:List RG}{z:Int}(h:0≤z∧z<l.length):0+z.toNat*3+3≤l.length*3∧bW (dy l) (0+z.toNat*3) 3= .agg (rat l z).arr:=by
 refine⟨by omega,?_⟩
 simp only[bW,List.range,List.range.loop,List.map_cons,List.map_nil]
 rw[oU l h 0 (by omega),oU l h 1 (by omega),oU l h 2 (by omega)]
 rfl
theorem dy.f{l:List RG}{z:Int}(h:0≤z∧z<l.length):0+z.toNat*3+0<l.length*3∧dy l (0+z.toNat*3+0)= .int .i64 (rat l z).fr:=⟨by omega,oU l h 0 (by omega)⟩
theorem dy.n{l:List RG}{z:Int}(h:0≤z∧z<l.length):0+z.toNat*3+1<l.length*3∧dy l (0+z.toNat*3+1)= .int .i64 (rat l z).n:=⟨by omega,oU l h 1 (by omega)⟩
theorem dy.w{l:List RG}{z:Int}(h:0≤z∧z<l.length):0+z.toNat*3+2<l.length*3∧dy l (0+z.toNat*3+2)= .bool (rat l z).w:=⟨by omega,oU l h 2 (by omega)⟩
theorem dy.app(l:List RG)(r:RG)(C1:Nat→Value)(hC:∀ i,i<3→C1 i=r.cell i):∀ i,i<(l.length+1)*3→dy (l++[r]) i=if i<l.length*3 then dy l i else C1 (i-l.length*3):=fun i hi=>by
 unfold dy
 by_cases h:i<l.length*3
 ·rw[if_pos h]
  simp only[List.getD_eq_getElem?_getD]
  rw[List.getElem?_append_left (by omega)]
 ·rw[if_neg h,hC _ (by omega)]
  simp only[List.getD_eq_getElem?_getD]
  rw[List.getElem?_append_right (by omega),show i/3-l.length=0 from by omega,show i-l.length*3=i%3 from by omega]
  rfl
def sU(l:List RG)(r:RG):List RG:=l.dropLast++[r]
theorem pB{l:List RG}{r:RG}(h:0<l.length):(sU l r).length=l.length:=by unfold sU;simp;omega
theorem dy.grow{l:List RG}(h:0<l.length)(m:Int):0+((l.length:Int)-1).toNat*3+1<l.length*3∧cH (dy l) (0+((l.length:Int)-1).toNat*3+1) (.int .i64 m)=dy (sU l {rat l ((l.length:Int)-1)with n:=m}):=by
 refine⟨by omega,?_⟩
 funext i
 unfold cH dy sU
 simp only[List.getD_eq_getElem?_getD]
 by_cases c:i/3<l.length-1
 ·rw[if_neg (by omega),List.getElem?_append_left (by simp;omega),List.getElem?_dropLast,if_pos c]
 ·by_cases c2:i/3=l.length-1
  ·rw[List.getElem?_append_right (by simp;omega),show i/3-l.dropLast.length=0 from by simp;omega]
   have e:l[i/3]?.getD RG.nil=rat l ((l.length:Int)-1):=by
    unfold rat
    rw[show((l.length:Int)-1).toNat=i/3 from by omega]
    simp[List.getD_eq_getElem?_getD]
   rw[e]
   have:i%3=0∨i%3=1∨i%3=2:=by omega
   rcases this with q | q | q
   ·rw[if_neg (by omega),q];rfl
   ·rw[if_pos (by omega),q];rfl
   ·rw[if_neg (by omega),q];rfl
  ·rw[if_neg (by omega),List.getElem?_append_right (by simp;omega),List.getElem?_eq_none (by omega),List.getElem?_eq_none (by simp;omega)]
def xQ(l:List RG)(r:RG):List RG:=match l.getLast? with
 | some q=>if q.fr+q.n=r.fr∧q.w=r.w then l.dropLast++[{q with n:=q.n+r.n}]else l++[r]
 | none=>[r]
theorem nt(r:RG):xQ [] r=[r]:=rfl
theorem fx(l:List RG)(q r:RG):xQ (l++[q]) r=if q.fr+q.n=r.fr∧q.w=r.w then l++[{q with n:=q.n+r.n}]else l++[q,r]:=by
 simp[xQ]
theorem w8(l:List RG)(q:RG):rat (l++[q]) (((l++[q]).length:Int)-1)=q:=by
 unfold rat
 rw[show(((l++[q]).length:Int)-1).toNat=l.length from by simp]
 simp
theorem jl{l:List RG}(h:0<l.length):∃ l' q,l=l'++[q]:=⟨l.dropLast,l.getLast (by intro e;rw[e]at h;simp at h),(List.dropLast_concat_getLast _).symm⟩
theorem HS{l:List RG}{r:RG}(h:0<l.length)(h1:(rat l ((l.length:Int)-1)).fr+(rat l ((l.length:Int)-1)).n=r.fr)(h2:(rat l ((l.length:Int)-1)).w=r.w):xQ l r=sU l {rat l ((l.length:Int)-1)with n:=(rat l ((l.length:Int)-1)).n+r.n} :=by
 obtain⟨l',q,rfl⟩:=jl h
 rw[w8]at*
 rw[fx,if_pos ⟨h1,h2⟩]
 simp[sU]
theorem qh{l:List RG}{r:RG}(h:0<l.length→¬((rat l ((l.length:Int)-1)).fr+(rat l ((l.length:Int)-1)).n=r.fr∧(rat l ((l.length:Int)-1)).w=r.w)):xQ l r=l++[r]:=by
 rcases Nat.eq_zero_or_pos l.length with q | q
 ·rw[List.length_eq_zero_iff]at q;subst q;rfl
 ·obtain⟨l',x,rfl⟩:=jl q
  have h1:=h q
  rw[w8]at h1
  rw[fx,if_neg h1];simp
theorem BQ(l:List RG)(a n m:Int)(w:Bool)(_:0<n):xQ (xQ l ⟨a,n,w⟩) ⟨a+n,m,w⟩=xQ l ⟨a,n+m,w⟩:=by
 rcases Nat.eq_zero_or_pos l.length with q | q
 ·rw[List.length_eq_zero_iff]at q;subst q
  rw[nt,nt]
  have:=fx [] ⟨a,n,w⟩ ⟨a+n,m,w⟩
  simpa using this
 ·obtain⟨l',x,rfl⟩:=jl q
  rw[fx,fx]
  by_cases c:x.fr+x.n=a∧x.w=w
  ·simp only[c,and_self,if_true]
   rw[fx,if_pos ⟨by simp;omega,by simp⟩]
   simp;omega
  ·simp only[c,if_false]
   have:=fx (l'++[x]) ⟨a,n,w⟩ ⟨a+n,m,w⟩
   simpa using this
def mg(l:List RG):List RG:=l.foldl xQ []
def jD(a:Int)(w:Bool):Nat→List RG
 | 0=>[]
 | k+1=>jD a w k++[⟨a+k,1,w⟩]
theorem px(l:List RG)(a:Int)(w:Bool):∀ k:Nat,0<k→(jD a w k).foldl xQ l=xQ l ⟨a,k,w⟩
 | 0,h=>by omega
 | 1,_=>by simp[jD]
 | k+2,_=>by
  rw[jD,List.foldl_append,px l a w (k+1) (by omega)]
  have:=BQ l a ((k+1:Nat):Int) 1 w (by omega)
  simp only[List.foldl_cons,List.foldl_nil]
  rw[this]
  congr 1
def RG.Dk(r:RG):List RG:=jD r.fr r.w r.n.toNat
theorem vP:∀ (l:List RG) (acc:List RG),(∀ r∈l,0<r.n)→(l.flatMap RG.Dk).foldl xQ acc=l.foldl xQ acc
 | [],_,_=>rfl
 | r::l,acc,h=>by
  have h1:=h r (by simp)
  simp only[List.flatMap_cons,List.foldl_append,List.foldl_cons]
  rw[RG.Dk,px acc r.fr r.w r.n.toNat (by omega),vP l _ (fun x hx=>h x (by simp[hx]))]
  congr 2
  cases r;simp only[RG.mk.injEq,true_and,and_true];simp at h1;omega
theorem iy{a:Int}{w:Bool}{u:RG} :∀ {k:Nat},u∈jD a w k↔∃ i:Int,a≤i∧i<a+k∧u=⟨i,1,w⟩
 | 0=>by simp only[jD,List.not_mem_nil,false_iff];rintro⟨i,h1,h2,_⟩;simp at h2;omega
 | k+1=>by
  rw[jD,List.mem_append,iy (k:=k),List.mem_singleton]
  constructor
  ·rintro(⟨i,h1,h2,h3⟩ | h)
   ·exact⟨i,h1,by omega,h3⟩
   ·exact⟨a+k,by omega,by omega,h⟩
  ·rintro⟨i,h1,h2,h3⟩
   by_cases c:i<a+k
   ·exact .inl ⟨i,h1,c,h3⟩
   ·right;rw[h3];congr 1;omega
theorem nc{a:Int}{w:Bool} :∀ k:Nat,(jD a w k).Pairwise (fun x y=>x.fr<y.fr)
 | 0=>.nil
 | k+1=>by
  rw[jD,List.pairwise_append]
  refine⟨nc k,by simp,fun x hx y hy=> ?_⟩
  obtain⟨i,h1,h2,rfl⟩:=iy.1 hx
  simp only[List.mem_singleton]at hy;subst hy
  exact h2
theorem kx{α:Type}(f:α→Int):∀ {l m:List α},l.Pairwise (fun x y=>f x<f y)→m.Pairwise (fun x y=>f x<f y)→(∀ x,x∈l↔x∈m)→l=m
 | [],[],_,_,_=>rfl
 | [],y::m,_,_,h=>absurd ((h y).2 (by simp)) (by simp)
 | x::l,[],_,_,h=>absurd ((h x).1 (by simp)) (by simp)
 | x::l,y::m,hl,hm,h=>by
  rw[List.pairwise_cons]at hl hm
  have e:x=y:=by
   rcases List.mem_cons.1 ((h x).1 (by simp))with q | q
   ·exact q
   ·rcases List.mem_cons.1 ((h y).2 (by simp))with q2 | q2
    ·exact q2.symm
    ·have:=hl.1 y q2;have:=hm.1 x q;omega
  subst e
  congr 1
  refine kx f hl.2 hm.2 fun z=> ?_
  constructor
  ·intro hz
   rcases List.mem_cons.1 ((h z).1 (by simp[hz]))with q | q
   ·subst q;have:=hl.1 z hz;omega
   ·exact q
  ·intro hz
   rcases List.mem_cons.1 ((h z).2 (by simp[hz]))with q | q
   ·subst q;have:=hm.1 z hz;omega
   ·exact q
def kd(w:Bool):Int:=if w then 2 else 1
structure GU (f:Int→Int):Prop where
 v:∀ i,f i=0∨f i=1∨f i=2
 out:∀ i,i<0∨16≤i→f i=0
def gH(f:Int→Int):Nat→List RG
 | 0=>[]
 | k+1=>gH f k++(if f k=0 then []else [⟨k,1,decide (f k=2)⟩])
def jr(f:Int→Int)(k:Nat):List RG:=mg (gH f k)
def runs(f:Int→Int):List RG:=jr f 16
theorem rn(f:Int→Int)(k:Nat):jr f (k+1)=if f k=0 then jr f k else xQ (jr f k) ⟨k,1,decide (f k=2)⟩:=by
 unfold jr mg
 rw[gH,List.foldl_append]
 split<;>simp
theorem mO{f:Int→Int}{u:RG} :∀ {k:Nat},u∈gH f k↔∃ i:Int,0≤i∧i<k∧f i≠0∧u=⟨i,1,decide (f i=2)⟩
 | 0=>by simp only[gH,List.not_mem_nil,false_iff];rintro⟨i,h1,h2,_⟩;simp at h2;omega
 | k+1=>by
  rw[gH,List.mem_append,mO (k:=k)]
  constructor
  ·rintro(⟨i,h1,h2,h3⟩ | h)
   ·exact⟨i,h1,by omega,h3⟩
   ·split at h
    ·simp at h
    ·rename_i c
     simp only[List.mem_singleton]at h
     exact⟨k,by omega,by omega,c,h⟩
  ·rintro⟨i,h1,h2,h3,h4⟩
   by_cases c:i<k
   ·exact .inl ⟨i,h1,c,h3,h4⟩
   ·have e:i=k:=by omega
    subst e
    right;rw[if_neg h3,h4];simp
theorem mr{f:Int→Int} :∀ k:Nat,(gH f k).Pairwise (fun x y=>x.fr<y.fr)
 | 0=>.nil
 | k+1=>by
  rw[gH,List.pairwise_append]
  refine⟨mr k,by split<;>simp,fun x hx y hy=> ?_⟩
  obtain⟨i,h1,h2,_,rfl⟩:=mO.1 hx
  split at hy
  ·simp at hy
  ·simp only[List.mem_singleton]at hy;subst hy;exact h2
structure GL (l:List RG):Prop where
 b:∀ r∈l,0≤r.fr∧0<r.n∧r.fr+r.n≤16
 p:l.Pairwise (fun x y=>x.fr+x.n≤y.fr∨y.fr+y.n≤x.fr)
def RG.has(r:RG)(i:Int):Prop:=r.fr≤i∧i<r.fr+r.n
structure Js (l:List RG) (f:Int→Int):Prop where
 h1:∀ r∈l,∀ i,r.has i→f i=kd r.w
 h2:∀ i,f i≠0→∃ r∈l,r.has i
theorem GL.perm{l m:List RG}(h:GL l)(hp:l.Perm m):GL m:=
 ⟨fun r hr=>h.b r (hp.mem_iff.2 hr),(hp.pairwise_iff (fun hxy=>hxy.symm)).1 h.p⟩
theorem Js.perm{l m:List RG}{f:Int→Int}(h:Js l f)(hp:l.Perm m):Js m f:=
 ⟨fun r hr=>h.h1 r (hp.mem_iff.2 hr),fun i hi=>by obtain⟨r,hr,h2⟩:=h.h2 i hi;exact⟨r,hp.mem_iff.1 hr,h2⟩⟩
theorem Ee(w:Bool):decide (kd w=2)=w:=by cases w<;>rfl
theorem EP(w:Bool):kd w≠0:=by cases w<;>decide
theorem Ig{l:List RG}{f:Int→Int}(hg:GL l)(hc:Js l f)(hf:GU f)(hs:l.Pairwise (fun x y=>x.fr≤y.fr)):mg l=runs f:=by
 unfold runs jr
 have e:l.flatMap RG.Dk=gH f 16:=by
  refine kx (fun r=>r.fr) ?_ (mr 16) fun u=> ?_
  ·rw[List.pairwise_flatMap]
   refine⟨fun r _=>nc _,?_⟩
   have hq:=hs.and hg.p
   refine hq.imp_of_mem ?_
   rintro x y hx hy ⟨h1,h2⟩ u hu v hv
   obtain⟨i,i1,i2,rfl⟩:=iy.1 hu
   obtain⟨j,j1,j2,rfl⟩:=iy.1 hv
   have:=hg.b x hx;have:=hg.b y hy
   show i<j
   omega
  ·rw[List.mem_flatMap,mO]
   constructor
   ·rintro⟨r,hr,hu⟩
    obtain⟨i,i1,i2,rfl⟩:=iy.1 hu
    have hb:=hg.b r hr
    have:=hc.h1 r hr i ⟨i1,by omega⟩
    exact⟨i,by omega,by omega,by rw[this];exact EP _,by rw[this,Ee]⟩
   ·rintro⟨i,i1,i2,i3,rfl⟩
    obtain⟨r,hr,h⟩:=hc.h2 i i3
    have hb:=hg.b r hr
    refine⟨r,hr,iy.2 ⟨i,h.1,?_,?_⟩⟩
    ·have:=h.2;omega
    ·rw[hc.h1 r hr i h,Ee]
 rw[←e]
 exact(vP l [] (fun r hr=>(hg.b r hr).2.1)).symm
structure qY (l:List RG) (f:Int→Int) (k:Nat):Prop where
 b:∀ r∈l,0≤r.fr∧0<r.n∧r.fr+r.n≤k
 s:l.Pairwise (fun x y=>x.fr+x.n≤y.fr)
 h1:∀ r∈l,∀ i,r.has i→f i=kd r.w
 h2:∀ i:Int,0≤i→i<k→f i≠0→∃ r∈l,r.has i
theorem wO{f:Int→Int}(hf:GU f):∀ k:Nat,qY (jr f k) f k
 | 0=>⟨by intro r h;simp[jr,gH,mg]at h,by simp[jr,gH,mg],by intro r h;simp[jr,gH,mg]at h,fun i a b=>by simp at b;omega⟩
 | k+1=>by
  have ih:=wO hf k
  rw[rn]
  split
  ·rename_i c
   refine⟨fun r hr=> ?_,ih.s,ih.h1,fun i a b d=> ?_⟩
   ·have:=ih.b r hr;omega
   ·refine ih.h2 i a ?_ d
    by_cases e:i=k
    ·subst e;contradiction
    ·omega
  ·rename_i c
   have hk:f k=kd (decide (f k=2)):=by
    rcases hf.v k with q | q | q
    ·contradiction
    ·rw[q];rfl
    ·rw[q];rfl
   rcases Nat.eq_zero_or_pos (jr f k).length with q | q
   ·rw[List.length_eq_zero_iff]at q
    rw[q,nt]
    rw[q]at ih
    refine⟨fun r hr=> ?_,by simp,fun r hr i hi=> ?_,fun i a b d=> ?_⟩
    ·simp only[List.mem_singleton]at hr;subst hr;simp
    ·simp only[List.mem_singleton]at hr;subst hr
     have:i=k:=by have:=hi.1;have:=hi.2;simp at*;omega
     subst this;exact hk
    ·by_cases e:i=k
     ·subst e;exact⟨_,List.mem_singleton.2 rfl,by simp,by simp;omega⟩
     ·obtain⟨r,hr,_⟩:=ih.h2 i a (by omega) d
      simp at hr
   ·obtain⟨l',x,hx⟩:=jl q
    rw[hx]at ih ⊢
    rw[fx]
    have hbx:=ih.b x (by simp)
    have hsx:=(List.pairwise_append.1 ih.s).2.2
    split
    ·rename_i d
     obtain⟨d1,d2⟩:=d
     refine⟨fun r hr=> ?_,?_,fun r hr i hi=> ?_,fun i a b e=> ?_⟩
     ·rcases List.mem_append.1 hr with hr | hr
      ·have:=ih.b r (by simp[hr]);omega
      ·simp only[List.mem_singleton]at hr;subst hr;simp;simp at d1;omega
     ·rw[List.pairwise_append]
      refine⟨(List.pairwise_append.1 ih.s).1,by simp,fun y hy z hz=> ?_⟩
      simp only[List.mem_singleton]at hz;subst hz
      exact hsx y hy x (by simp)
     ·rcases List.mem_append.1 hr with hr | hr
      ·exact ih.h1 r (by simp[hr]) i hi
      ·simp only[List.mem_singleton]at hr;subst hr
       have h1:=hi.1;have h2:=hi.2
       simp at h1 h2 d1
       by_cases e:i=k
       ·subst e;rw[hk];simp only;rw[d2]
       ·exact ih.h1 x (by simp) i ⟨h1,by omega⟩
     ·by_cases e2:i=k
      ·refine⟨_,List.mem_append.2 (.inr (List.mem_singleton.2 rfl)),?_,?_⟩
       ·simp;simp at d1;omega
       ·simp;simp at d1;omega
      ·obtain⟨r,hr,hh⟩:=ih.h2 i a (by omega) e
       rcases List.mem_append.1 hr with hr | hr
       ·exact⟨r,List.mem_append.2 (.inl hr),hh⟩
       ·simp only[List.mem_singleton]at hr;subst hr
        exact⟨_,List.mem_append.2 (.inr (List.mem_singleton.2 rfl)),hh.1,by have:=hh.2;simp;omega⟩
    ·rename_i d
     have hmem:∀ r,r∈l'++[x,⟨(k:Int),1,decide (f k=2)⟩]↔r∈l'++[x]∨r=⟨(k:Int),1,decide (f k=2)⟩:=fun r=>by simp[or_assoc]
     refine⟨fun r hr=> ?_,?_,fun r hr i hi=> ?_,fun i a b e=> ?_⟩
     ·rcases(hmem r).1 hr with hr | hr
      ·have:=ih.b r hr;omega
      ·subst hr;simp
     ·rw[show l'++[x,(⟨(k:Int),1,decide (f k=2)⟩:RG)]=(l'++[x])++[⟨(k:Int),1,decide (f k=2)⟩]from by simp,List.pairwise_append]
      refine⟨ih.s,by simp,fun y hy z hz=> ?_⟩
      simp only[List.mem_singleton]at hz;subst hz
      exact(ih.b y hy).2.2
     ·rcases(hmem r).1 hr with hr | hr
      ·exact ih.h1 r hr i hi
      ·subst hr
       have:i=k:=by have:=hi.1;have:=hi.2;simp at*;omega
       subst this;exact hk
     ·by_cases e2:i=k
      ·subst e2;exact⟨_,(hmem _).2 (.inr rfl),by simp,by simp;omega⟩
      ·obtain⟨r,hr,hh⟩:=ih.h2 i a (by omega) e
       exact⟨r,(hmem _).2 (.inl hr),hh⟩
theorem l8{f:Int→Int}(hf:GU f):qY (runs f) f 16:=wO hf 16
theorem qt{f:Int→Int}(hf:GU f):Js (runs f) f:=⟨(l8 hf).h1,fun i hi=>by
 refine(l8 hf).h2 i ?_ ?_ hi
 ·by_cases q:i<0
  ·exact absurd (hf.out i (.inl q)) hi
  ·omega
 ·by_cases q:i<16
  ·exact q
  ·exact absurd (hf.out i (.inr (by omega))) hi⟩
theorem zI(l:List RG)(r:RG):(xQ l r).length≤l.length+1:=by
 rcases Nat.eq_zero_or_pos l.length with q | q
 ·rw[List.length_eq_zero_iff]at q;subst q;simp[nt]
 ·obtain⟨l',x,rfl⟩:=jl q
  rw[fx];split<;>simp
theorem ui(f:Int→Int):∀ k,(jr f k).length≤k
 | 0=>by simp[jr,gH,mg]
 | k+1=>by
  rw[rn]
  have:=ui f k
  split
  ·omega
  ·have:=zI (jr f k) ⟨k,1,decide (f k=2)⟩;omega
theorem rG(f:Int→Int):(runs f).length≤16:=ui f 16
theorem uE{l:List RG}{z:Int}(h:0≤z∧z<l.length):rat l z∈l:=by
 unfold rat
 rw[List.getD_eq_getElem?_getD,List.getElem?_eq_getElem (by omega)]
 simp
structure MS where
 aA:Int→Int
 fr:Int→Int
 own:Int→Bool
structure VB where
 bb:BB
 by_:Int→Int→Int
 rf:Int→Int
def DP(b:Int→Int→Int)(f:Int)(row:Int→Int):Int→Int→Int:=fun x j=>if x=f then row j else b x j
def dq{α:Type}(f:Int→α)(a m:Int)(v:α):Int→α:=fun i=>if a≤i∧i<a+m then v else f i
def VB.take(v:VB):Int×Int×VB:=if(v.bb.take 0).2.1≠0 then(0,(v.bb.take 0).2.1,v)else((v.bb.take 0).1,0,⟨(v.bb.take 0).2.2,DP v.by_ (v.bb.take 0).1 (fun _=>0),aa v.rf (v.bb.take 0).1 1⟩)
def VB.drop(v:VB)(f:Int):VB:=if v.rf f-1=0 then⟨(v.bb.ku f).2,v.by_,aa v.rf f (v.rf f-1)⟩else⟨v.bb,v.by_,aa v.rf f (v.rf f-1)⟩
def fw(a m:Int):Prop:=a<0∨15<a∨m<1∨16-a<m
instance (a m:Int):Decidable (fw a m):=by unfold fw;infer_instance
def Nn(p:Int→Bool)(a:Int):Nat→Bool
 | 0=>false
 | k+1=>Nn p a k||p (a+k)
def MS.JZ(m:MS)(a n:Int):Int:=if fw a n then 1 else if Nn (fun i=>m.aA i != 0) a n.toNat then 3 else 0
def MS.lay(m:MS)(a n:Int)(w:Bool):MS:= {m with aA:=dq m.aA a n (kd w)}
def MS.map(m:MS)(a n:Int)(w:Bool):MS:=if m.JZ a n=0 then m.lay a n w else m
def Jf(fr:Int→Int)(x:Int×VB)(i:Int):Int×VB:=if 0<fr i then(x.1+1,x.2.drop (fr i-1))else x
def eR(p:Int→Bool)(a:Int):Nat→List Int
 | 0=>[]
 | k+1=>eR p a k++(if p (a+k)then [a+k]else [])
def GR(v:VB)(fr:Int→Int)(a:Int):Nat→Int×VB
 | 0=>(0,v)
 | k+1=>Jf fr (GR v fr a k) (a+k)
def kZ(v:VB)(fr:Int→Int)(l:List Int):Int×VB:=l.foldl (Jf fr) (0,v)
theorem wz(v:VB){fr:Int→Int}{p:Int→Bool}(hp:∀ i,p i=false→fr i=0)(a:Int):∀ k,GR v fr a k=kZ v fr (eR p a k)
 | 0=>rfl
 | k+1=>by
  rw[GR,wz v hp a k,eR,kZ,kZ,List.foldl_append]
  cases h:p (a+k)with
  | true=>simp
  | false=>simp[Jf,hp _ h]
theorem iH{p:Int→Bool}{a i:Int} :∀ {k:Nat},i∈eR p a k↔(a≤i∧i<a+k)∧p i=true
 | 0=>by simp only[eR,List.not_mem_nil,false_iff];rintro⟨⟨h1,h2⟩,_⟩;simp at h2;omega
 | k+1=>by
  rw[eR,List.mem_append,iH (k:=k)]
  constructor
  ·rintro(⟨h1,h2⟩ | h)
   ·exact⟨by omega,h2⟩
   ·split at h
    ·rename_i c;simp only[List.mem_singleton]at h;subst h;exact⟨by omega,c⟩
    ·simp at h
  ·rintro⟨h1,h2⟩
   by_cases c:i=a+k
   ·right;rw[←c,h2];simp[c]
   ·left;exact⟨by omega,h2⟩
theorem kE{p:Int→Bool}{a:Int} :∀ k,(eR p a k).Pairwise (fun x y=>x<y)
 | 0=>.nil
 | k+1=>by
  rw[eR,List.pairwise_append]
  refine⟨kE k,by split<;>simp,fun x hx y hy=> ?_⟩
  have:=iH.1 hx
  split at hy
  ·simp only[List.mem_singleton]at hy;omega
  ·simp at hy
def MS.ey(v:VB)(m:MS)(a n:Int):Int×Int×VB×MS:=if fw a n then(0,1,v,m)else
 ((GR v m.fr a n.toNat).1,0,(GR v m.fr a n.toNat).2,⟨dq m.aA a n 0,dq m.fr a n 0,dq m.own a n false⟩)
def ng(rf fr:Int→Int):Nat→Int→Int
 | 0=>rf
 | k+1=>if 0<fr k then aa (ng rf fr k) (fr k-1) (ng rf fr k (fr k-1)+1)else ng rf fr k
def MS.bare(m:MS):MS:= {m with own:=fun _=>false}
def VB.fork(v:VB)(m:MS):VB:= {v with rf:=ng v.rf m.fr 16}
def sJ(fr:Int→Int):Nat→Int
 | 0=>0
 | k+1=>sJ fr k+(if 0<fr k then 1 else 0)
def MS.res(m:MS):Int:=sJ m.fr 16
def MS.nil:MS:=⟨fun _=>0,fun _=>0,fun _=>false⟩
theorem Al(fr:Int→Int):∀ k:Nat,0≤sJ fr k∧sJ fr k≤k
 | 0=>by simp[sJ]
 | k+1=>by have:=Al fr k;rw[sJ];split<;>omega
theorem tY(fr:Int→Int){i:Int}(h:0≤i):sJ fr (i+1).toNat=sJ fr i.toNat+(if 0<fr i then 1 else 0):=by
 rw[show(i+1).toNat=i.toNat+1 from by omega,sJ,show((i.toNat:Nat):Int)=i from by omega]
structure MS.Ok (m:MS):Prop where
 f:GU m.aA
 lo:∀ i,0≤m.fr i∧m.fr i≤64
 un:∀ i,m.aA i=0→m.fr i=0
 ow:∀ i,m.fr i=0→m.own i=false
 inj:∀ i j,0<m.fr i→m.fr i=m.fr j→i=j
structure VB.Ok (v:VB):Prop where
 bb:v.bb.Inv
 rf:∀ f,0≤v.rf f∧v.rf f≤100000
 by_:∀ f j,0≤v.by_ f j∧v.by_ f j<256
def MS.In(m:MS)(v:VB):Prop:=∀ i,0<m.fr i→1≤v.rf (m.fr i-1)
theorem GU.dq{f:Int→Int}(h:GU f){a n:Int}(hb:¬fw a n){v:Int}(hv:v=0∨v=1∨v=2):GU (Go.X.Vm.dq f a n v):=by
 unfold fw at hb
 refine⟨fun i=> ?_,fun i hi=> ?_⟩
 ·unfold Go.X.Vm.dq;split
  ·exact hv
  ·exact h.v i
 ·unfold Go.X.Vm.dq;rw[if_neg (by omega)];exact h.out i hi
theorem Mu(w:Bool):kd w=0∨kd w=1∨kd w=2:=by cases w<;>simp[kd]
theorem MS.Ok.nil:MS.nil.Ok:=⟨⟨fun _=>.inl rfl,fun _ _=>rfl⟩,fun _=>by simp[MS.nil],fun _ _=>rfl,fun _ _=>rfl,fun i j h=>by simp[MS.nil]at h⟩
theorem MS.Ok.lay{m:MS}(h:m.Ok){a n:Int}(hb:¬fw a n)(w:Bool):(m.lay a n w).Ok:=
 ⟨h.f.dq hb (Mu w),h.lo,fun i hi=>h.un i (by
  simp only[MS.lay,dq]at hi
  split at hi
  ·exact absurd hi (EP w)
  ·exact hi),h.ow,h.inj⟩
theorem I5{m:MS}{a n:Int}(h:m.JZ a n=0):¬fw a n:=by
 unfold MS.JZ at h;split at h
 ·cases h
 ·assumption
theorem MS.Ok.map{m:MS}(h:m.Ok)(a n:Int)(w:Bool):(m.map a n w).Ok:=by
 unfold MS.map;split
 ·exact h.lay (I5 (by assumption)) w
 ·exact h
def gw(a n:Int)(r:RG):List RG:=if min (r.fr+r.n) (a+n)≤max r.fr a then [r]else
 (if r.fr<max r.fr a then [⟨r.fr,max r.fr a-r.fr,r.w⟩]else [])++(if min (r.fr+r.n) (a+n)<r.fr+r.n then [⟨min (r.fr+r.n) (a+n),r.fr+r.n-min (r.fr+r.n) (a+n),r.w⟩]else [])
def eB(a:Int):Nat→List Int
 | 0=>[]
 | k+1=>eB a k++[a+k]
def mi(a n:Int)(r:RG):List Int:=eB (max r.fr a) (min (r.fr+r.n) (a+n)-max r.fr a).toNat
theorem iF{a i:Int} :∀ {k:Nat},i∈eB a k↔a≤i∧i<a+k
 | 0=>by simp only[eB,List.not_mem_nil,false_iff];rintro⟨h1,h2⟩;simp at h2;omega
 | k+1=>by
  rw[eB,List.mem_append,iF (k:=k),List.mem_singleton];omega
theorem n5{a:Int} :∀ k,(eB a k).Pairwise (fun x y=>x<y)
 | 0=>.nil
 | k+1=>by
  rw[eB,List.pairwise_append]
  refine⟨n5 k,by simp,fun x hx y hy=> ?_⟩
  have:=iF.1 hx
  simp only[List.mem_singleton]at hy;omega
theorem oD(a:Int):∀ k,(eB a k).length=k
 | 0=>rfl
 | k+1=>by rw[eB,List.length_append,oD a k];rfl
theorem pS{a n:Int}{r q:RG}(hn:0<n)(hr:0<r.n)(h:q∈gw a n r):0<q.n∧r.fr≤q.fr∧q.fr+q.n≤r.fr+r.n∧q.w=r.w∧(q.fr+q.n≤a∨a+n≤q.fr):=by
 unfold gw at h
 split at h
 ·simp only[List.mem_singleton]at h;subst h
  refine⟨hr,by omega,by omega,rfl,by omega⟩
 ·rcases List.mem_append.1 h with h | h
  ·split at h
   ·simp only[List.mem_singleton]at h;subst h;simp;omega
   ·simp at h
  ·split at h
   ·simp only[List.mem_singleton]at h;subst h;simp;omega
   ·simp at h
theorem H8{a n:Int}{r:RG}{i:Int}(hr:r.has i)(h:i<a∨a+n≤i):∃ q∈gw a n r,q.has i:=by
 obtain⟨h1,h2⟩:=hr
 unfold gw
 split
 ·exact⟨r,by simp,h1,h2⟩
 ·rename_i c
  by_cases d:i<max r.fr a
  ·refine⟨⟨r.fr,max r.fr a-r.fr,r.w⟩,List.mem_append.2 (.inl ?_),h1,?_⟩
   ·rw[if_pos (by omega)];simp
   ·show i<r.fr+(max r.fr a-r.fr);omega
  ·refine⟨⟨min (r.fr+r.n) (a+n),r.fr+r.n-min (r.fr+r.n) (a+n),r.w⟩,List.mem_append.2 (.inr ?_),?_,?_⟩
   ·rw[if_pos (by omega)];simp
   ·show min (r.fr+r.n) (a+n)≤i;omega
   ·show i<min (r.fr+r.n) (a+n)+(r.fr+r.n-min (r.fr+r.n) (a+n));omega
theorem FO{a n:Int}{r:RG} :(gw a n r).Pairwise (fun x y=>x.fr+x.n≤y.fr):=by
 unfold gw
 split
 ·simp
 ·rw[List.pairwise_append]
  refine⟨by split<;>simp,by split<;>simp,fun x hx y hy=> ?_⟩
  split at hx
  ·simp only[List.mem_singleton]at hx;subst hx
   split at hy
   ·simp only[List.mem_singleton]at hy;subst hy;simp;omega
   ·simp at hy
  ·simp at hx
theorem J0{l:List RG}{f:Int→Int}{a n:Int}(hl:qY l f 16)(hn:0<n):(l.flatMap (gw a n)).Pairwise (fun x y=>x.fr+x.n≤y.fr)∧(∀ r∈l.flatMap (gw a n),(0≤r.fr∧0<r.n∧r.fr+r.n≤16)∧(r.fr+r.n≤a∨a+n≤r.fr)):=by
 constructor
 ·rw[List.pairwise_flatMap]
  refine⟨fun _ _=>FO,hl.s.imp_of_mem ?_⟩
  intro x y hx hy h u hu v hv
  have h1:=pS hn (hl.b x hx).2.1 hu
  have h2:=pS hn (hl.b y hy).2.1 hv
  omega
 ·intro r hr
  obtain⟨x,hx,h⟩:=List.mem_flatMap.1 hr
  have h1:=pS hn (hl.b x hx).2.1 h
  have:=hl.b x hx
  omega
theorem zB{l:List RG}{f:Int→Int}{a n:Int}(hl:qY l f 16)(hc:Js l f)(hn:0<n):Js (l.flatMap (gw a n)) (dq f a n 0):=by
 refine⟨fun r hr i hi=> ?_,fun i hi=> ?_⟩
 ·obtain⟨x,hx,h⟩:=List.mem_flatMap.1 hr
  obtain⟨h1,h2,h3,h4,h5⟩:=pS hn (hl.b x hx).2.1 h
  have hi1:=hi.1;have hi2:=hi.2
  unfold dq
  rw[if_neg (by omega),hc.h1 x hx i ⟨by omega,by omega⟩,h4]
 ·unfold dq at hi
  split at hi
  ·exact absurd rfl hi
  ·obtain⟨r,hr,hh⟩:=hc.h2 i hi
   obtain⟨q,hq,h⟩:=H8 (a:=a) (n:=n) hh (by omega)
   exact⟨q,List.mem_flatMap.2 ⟨r,hr,hq⟩,h⟩
theorem BP{l:List RG}{f:Int→Int}{a n:Int}(hl:qY l f 16)(hn:0<n):GL (l.flatMap (gw a n)):=by
 obtain⟨h1,h2⟩:=J0 (a:=a) hl hn
 exact⟨fun r hr=>(h2 r hr).1,h1.imp (fun h=>.inl h)⟩
theorem Bz{f:Int→Int}(hf:GU f){a n:Int}(hb:¬fw a n):(runs f).flatMap (mi a n)=eR (fun i=>f i != 0) a n.toNat:=by
 unfold fw at hb
 have hl:=l8 hf
 refine kx (fun i=>i) ?_ (kE _) fun i=> ?_
 ·rw[List.pairwise_flatMap]
  refine⟨fun r _=>n5 _,hl.s.imp_of_mem ?_⟩
  intro x y hx hy h u hu v hv
  have h1:=iF.1 hu
  have h2:=iF.1 hv
  show u<v
  omega
 ·rw[List.mem_flatMap,iH]
  constructor
  ·rintro⟨r,hr,h⟩
   have h1:=iF.1 h
   have e:=(qt hf).h1 r hr i ⟨by omega,by omega⟩
   refine⟨by omega,?_⟩
   simp only[bne_iff_ne,ne_eq]
   rw[e];exact EP _
  ·rintro⟨h1,h2⟩
   simp only[bne_iff_ne,ne_eq]at h2
   obtain⟨r,hr,hh⟩:=(qt hf).h2 i h2
   have a1:=hh.1;have a2:=hh.2
   refine⟨r,hr,iF.2 ⟨by omega,?_⟩⟩
   omega
theorem tu{p:Int→Bool}{a:Int} :∀ k,(eR p a k).length≤k
 | 0=>by simp[eR]
 | k+1=>by
  have:=tu (p:=p) (a:=a) k
  rw[eR,List.length_append];split<;>simp<;>omega
theorem G6{l:List RG}{i:Int}(h:0≤i∧i<l.length):l[i.toNat]? =some (rat l i):=by
 unfold rat
 rw[List.getD_eq_getElem?_getD,List.getElem?_eq_getElem (by omega)]
 simp
theorem LH(q:Prop)[Decidable q](r:RG):(if q then [r]else []).length≤1:=by split<;>simp
end Go.X.Vm

namespace Go.X.Vm
open Go Go.X
def bz(pb:Nat)(bs:Int→Int→Int)(rf:Int→Int)(i:Nat):Value:=
 if i=0 then ptr pb 0 0 else
 if 1≤i∧(i-1)/8<64∧((i-1)%8)%1=0∧((i-1)%8)/1<8 then .int .u8 (bs (((i-1)/8:Nat):Int) ((((i-1)%8)/1:Nat):Int))else
 if 513≤i∧(i-513)%1=0∧(i-513)/1<64 then .int .i64 (rf (((i-513)/1:Nat):Int))else
 undef
theorem bz.CU(pb:Nat)(bs:Int→Int→Int)(rf:Int→Int):(0+0)<577∧bz pb bs rf (0+0)=ptr pb 0 0:=by
 refine⟨by omega,?_⟩
 unfold bz
 rw[if_pos (by omega)]
theorem bz.lF(pb:Nat)(bs:Int→Int→Int)(rf:Int→Int)(z0:Int)(q0:0≤z0∧z0<64):((0+513)+z0.toNat*1)<577∧bz pb bs rf ((0+513)+z0.toNat*1)= .int .i64 (rf z0):=by
 refine⟨by omega,?_⟩
 unfold bz
 rw[if_neg (by omega)]
 rw[if_neg (by omega)]
 rw[if_pos (by omega)]
 rw[show(((((0+513)+z0.toNat*1)-513)/1:Nat):Int)=z0 from by omega]
theorem bz.tA(pb:Nat)(bs:Int→Int→Int)(rf:Int→Int)(z0:Int)(q0:0≤z0∧z0<64)(v:Int):((0+513)+z0.toNat*1)<577∧cH (bz pb bs rf) ((0+513)+z0.toNat*1) (.int .i64 (v))=bz pb bs (aa rf z0 v):=by
 refine⟨by omega,?_⟩
 funext j
 unfold cH
 by_cases hj:j=((0+513)+z0.toNat*1)
 ·rw[if_pos hj,hj,(bz.lF pb bs (aa rf z0 v) z0 q0).2]
  all_goals simp[aa,aI]
 ·rw[if_neg hj]
  unfold bz
  refine ao (fun c0=> ?_) (fun c0=> ?_)
  ·first | rfl | simp[aa,aI]
  refine ao (fun c1=> ?_) (fun c1=> ?_)
  ·first | rfl | simp[aa,aI]
  refine ao (fun c2=> ?_) (fun c2=> ?_)
  ·have hne:¬((((j-513)/1:Nat):Int)=z0):=by omega
   simp only[aa,aI,hne,if_false,and_true,true_and]
  rfl
def bA(kb:Nat)(p:Option Addr)(n:Nat)(c:Nat)(fr:Int→Int)(own:Int→Bool)(i:Nat):Value:=
 if i=0 then ptr kb 0 0 else
 if i=1 then .slice p n c else
 if 2≤i∧(i-2)%2=0∧(i-2)/2<16 then .int .i64 (fr (((i-2)/2:Nat):Int)-1)else
 if 3≤i∧(i-3)%2=0∧(i-3)/2<16 then .bool (own (((i-3)/2:Nat):Int))else
 undef
theorem bA.FR(kb:Nat)(p:Option Addr)(n:Nat)(c:Nat)(fr:Int→Int)(own:Int→Bool):(0+0)<34∧bA kb p n c fr own (0+0)=ptr kb 0 0:=by
 refine⟨by omega,?_⟩
 unfold bA
 rw[if_pos (by omega)]
theorem bA.IJ(kb:Nat)(p:Option Addr)(n:Nat)(c:Nat)(fr:Int→Int)(own:Int→Bool):(0+1)<34∧bA kb p n c fr own (0+1)= .slice p n c:=by
 refine⟨by omega,?_⟩
 unfold bA
 rw[if_neg (by omega)]
 rw[if_pos (by omega)]
theorem bA.fl(kb:Nat)(p:Option Addr)(n:Nat)(c:Nat)(fr:Int→Int)(own:Int→Bool)(z0:Int)(q0:0≤z0∧z0<16):(((0+2)+z0.toNat*2)+0)<34∧bA kb p n c fr own (((0+2)+z0.toNat*2)+0)= .int .i64 (fr z0-1):=by
 refine⟨by omega,?_⟩
 unfold bA
 rw[if_neg (by omega)]
 rw[if_neg (by omega)]
 rw[if_pos (by omega)]
 rw[show((((((0+2)+z0.toNat*2)+0)-2)/2:Nat):Int)=z0 from by omega]
theorem bA.nZ(kb:Nat)(p:Option Addr)(n:Nat)(c:Nat)(fr:Int→Int)(own:Int→Bool)(z0:Int)(q0:0≤z0∧z0<16)(v:Int):(((0+2)+z0.toNat*2)+0)<34∧cH (bA kb p n c fr own) (((0+2)+z0.toNat*2)+0) (.int .i64 (v))=bA kb p n c (aa fr z0 (v+1)) own:=by
 refine⟨by omega,?_⟩
 funext j
 unfold cH
 by_cases hj:j=(((0+2)+z0.toNat*2)+0)
 ·rw[if_pos hj,hj,(bA.fl kb p n c (aa fr z0 (v+1)) own z0 q0).2]
  all_goals simp[aa,aI]
 ·rw[if_neg hj]
  unfold bA
  refine ao (fun c0=> ?_) (fun c0=> ?_)
  ·first | rfl | simp[aa,aI]
  refine ao (fun c1=> ?_) (fun c1=> ?_)
  ·first | rfl | simp[aa,aI]
  refine ao (fun c2=> ?_) (fun c2=> ?_)
  ·have hne:¬((((j-2)/2:Nat):Int)=z0):=by omega
   simp only[aa,aI,hne,if_false,and_true,true_and]
  refine ao (fun c3=> ?_) (fun c3=> ?_)
  ·first | rfl | simp[aa,aI]
  rfl
theorem bA.mT(kb:Nat)(p:Option Addr)(n:Nat)(c:Nat)(fr:Int→Int)(own:Int→Bool)(z0:Int)(q0:0≤z0∧z0<16):(((0+2)+z0.toNat*2)+1)<34∧bA kb p n c fr own (((0+2)+z0.toNat*2)+1)= .bool (own z0):=by
 refine⟨by omega,?_⟩
 unfold bA
 rw[if_neg (by omega)]
 rw[if_neg (by omega)]
 rw[if_neg (by omega)]
 rw[if_pos (by omega)]
 rw[show((((((0+2)+z0.toNat*2)+1)-3)/2:Nat):Int)=z0 from by omega]
theorem bA.nS(kb:Nat)(p:Option Addr)(n:Nat)(c:Nat)(fr:Int→Int)(own:Int→Bool)(z0:Int)(q0:0≤z0∧z0<16)(v:Bool):(((0+2)+z0.toNat*2)+1)<34∧cH (bA kb p n c fr own) (((0+2)+z0.toNat*2)+1) (.bool (v))=bA kb p n c fr (aa own z0 v):=by
 refine⟨by omega,?_⟩
 funext j
 unfold cH
 by_cases hj:j=(((0+2)+z0.toNat*2)+1)
 ·rw[if_pos hj,hj,(bA.mT kb p n c fr (aa own z0 v) z0 q0).2]
  all_goals simp[aa,aI]
 ·rw[if_neg hj]
  unfold bA
  refine ao (fun c0=> ?_) (fun c0=> ?_)
  ·first | rfl | simp[aa,aI]
  refine ao (fun c1=> ?_) (fun c1=> ?_)
  ·first | rfl | simp[aa,aI]
  refine ao (fun c2=> ?_) (fun c2=> ?_)
  ·first | rfl | simp[aa,aI]
  refine ao (fun c3=> ?_) (fun c3=> ?_)
  ·have hne:¬((((j-3)/2:Nat):Int)=z0):=by omega
   simp only[aa,aI,hne,if_false,and_true,true_and]
  rfl
theorem Co(kb:Nat)(p:Option Addr)(n c:Nat)(fr:Int→Int)(own:Int→Bool)(i:Int)(h:0≤i∧i<16):0+2+i.toNat*2+2≤34∧bW (bA kb p n c fr own) (0+2+i.toNat*2) 2= .agg #[.int .i64 (fr i-1),.bool (own i)]:=by
 refine⟨by omega,?_⟩
 have h1:=(bA.fl kb p n c fr own i h).2
 have h2:=(bA.mT kb p n c fr own i h).2
 simp only[bW,List.range,List.range.loop,List.map_cons,List.map_nil]
 rw[h1,h2]
theorem qJ(kb:Nat)(p:Option Addr)(n c:Nat)(fr:Int→Int)(own:Int→Bool)(i:Int)(f:Int)(w:Bool)(h:0≤i∧i<16):0+2+i.toNat*2+2≤34∧bL (bA kb p n c fr own) (0+2+i.toNat*2) [.int .i64 f,.bool w]=bA kb p n c (aa fr i (f+1)) (aa own i w):=by
 refine⟨by omega,?_⟩
 simp only[bL]
 have h1:=(bA.nZ kb p n c fr own i h f).2
 rw[show 0+2+i.toNat*2+0=0+2+i.toNat*2 from rfl]at h1
 rw[h1]
 exact(bA.nS _ _ _ _ _ _ i h w).2
theorem FD(kb:Nat)(p:Option Addr)(n c:Nat)(fr:Int→Int)(own:Int→Bool)(p2:Option Addr)(n2 c2:Nat):0+1<34∧cH (bA kb p n c fr own) (0+1) (.slice p2 n2 c2)=bA kb p2 n2 c2 fr own:=by
 refine⟨by omega,?_⟩
 funext j
 unfold cH bA
 by_cases hj:j=0+1
 ·subst hj;rfl
 ·rw[if_neg hj]
  refine ao (fun _=>rfl) (fun _=>ao (fun c=> ?_) (fun _=>rfl))
  omega
end Go.X.Vm

namespace Go.X.Vm
open Go Go.X
theorem BE{i k:Int}(hk:0≤k∧k≤6):iV (iV i k) k=i:=by
 have hc:k=0∨k=1∨k=2∨k=3∨k=4∨k=5∨k=6:=by omega
 unfold iV
 by_cases c:(i/p2 k)%2=1
 ·have d:¬((i-p2 k)/p2 k)%2=1:=by
   rcases hc with rfl | rfl | rfl | rfl | rfl | rfl | rfl
   all_goals(simp only[ze,yV,yB,zu,yg,yh,yM]at c ⊢;omega)
  rw[if_pos c,if_neg d];omega
 ·have d:((i+p2 k)/p2 k)%2=1:=by
   rcases hc with rfl | rfl | rfl | rfl | rfl | rfl | rfl
   all_goals(simp only[ze,yV,yB,zu,yg,yh,yM]at c ⊢;omega)
  rw[if_neg c,if_pos d];omega
theorem Hw{a k:Int}(hk:0≤k∧k≤5)(h:a%p2 (k+1)=0):iV (a+p2 k) k=a:=by
 have hc:k=0∨k=1∨k=2∨k=3∨k=4∨k=5:=by omega
 have d:((a+p2 k)/p2 k)%2=1:=by
  rcases hc with rfl | rfl | rfl | rfl | rfl | rfl
  all_goals(simp only[Int.reduceAdd,ze,yV,yB,zu,yg,yh,yM]at h ⊢;omega)
 unfold iV
 rw[if_pos d];omega
structure BB.Full (b:BB):Prop where
 inv:b.Inv
 cov:∀ j,0≤j→j<64→∃ i,i≤j∧0<b.ord i∧j<i+p2 (b.ord i-1)
 nb:∀ i,0<b.ord i→b.tk i=false→¬b.fk i
theorem BB.CZ{b:BB}(h:b.Inv){a:Int}(ha:1<b.ord a)(hc:∀ j,0≤j→j<64→∃ i,i≤j∧0<b.ord i∧j<i+p2 (b.ord i-1)):∀ j,0≤j→j<64→∃ i,i≤j∧0<(b.split a).ord i∧j<i+p2 ((b.split a).ord i-1):=fun j h0 h1=>by
 obtain⟨s1,s2,s3,s4⟩:=h.split ha
 have e2:=lH (k:=b.ord a-2) (by omega)
 rw[show b.ord a-2+1=b.ord a-1 from by omega]at e2
 have hp:=q8 (b.ord a-2)
 have hne:¬a=a+p2 (b.ord a-2):=by omega
 have o1:∀ i,(b.split a).ord i=if i=a+p2 (b.ord a-2)then b.ord a-1 else if i=a then b.ord a-1 else b.ord i:=fun i=>rfl
 obtain⟨i,i1,i2,i3⟩:=hc j h0 h1
 by_cases c:i=a
 ·subst c
  by_cases c2:j<i+p2 (b.ord i-2)
  ·refine⟨i,i1,by omega,?_⟩
   rw[s4,show b.ord i-1-1=b.ord i-2 from by omega];exact c2
  ·refine⟨i+p2 (b.ord i-2),by omega,?_,?_⟩
   ·rw[o1,if_pos rfl];omega
   ·rw[o1,if_pos rfl,show b.ord i-1-1=b.ord i-2 from by omega];omega
 ·have c3:¬i=a+p2 (b.ord a-2):=by rintro rfl;omega
  refine⟨i,i1,?_,?_⟩
  ·rw[o1,if_neg c3,if_neg c];exact i2
  ·rw[o1,if_neg c3,if_neg c];exact i3
theorem BB.Full.splits:∀ (n:Nat) {b:BB} {a:Int},b.Full→(n:Int)<b.ord a→b.tk a=true→(BB.splits n b a).Full
 | 0,_,_,h,_,_=>h
 | n+1,b,a,h,ha,ht=>by
  obtain⟨s1,s2,s3,s4⟩:=h.inv.split (a:=a) (by omega)
  have hrg:=h.inv.gg a
  have e2:=lH (k:=b.ord a-2) (by omega)
  rw[show b.ord a-2+1=b.ord a-1 from by omega]at e2
  have hp:=q8 (b.ord a-2)
  have hne:¬a=a+p2 (b.ord a-2):=by omega
  have o1:∀ i,(b.split a).ord i=if i=a+p2 (b.ord a-2)then b.ord a-1 else if i=a then b.ord a-1 else b.ord i:=fun i=>rfl
  have hup:iV (a+p2 (b.ord a-2)) (b.ord a-2)=a:=Hw (by omega) (by rw[show b.ord a-2+1=b.ord a-1 from by omega];exact h.inv.al a (by omega))
  refine BB.Full.splits n ⟨s1,BB.CZ h.inv (by omega) h.cov,fun i hi hti hcj=> ?_⟩ (by rw[s4];omega) ht
  have hti2:b.tk i=false:=hti
  have hna:¬i=a:=by rintro rfl;rw[ht]at hti2;cases hti2
  obtain⟨c1,c2,c3⟩:=hcj
  by_cases c:i=a+p2 (b.ord a-2)
  ·have hb:(b.split a).bD i=a:=by
    unfold BB.bD
    rw[o1,if_pos c,show b.ord a-1-1=b.ord a-2 from by omega,c];exact hup
   rw[hb]at c3
   rw[show(b.split a).tk a=b.tk a from rfl,ht]at c3;cases c3
  ·have oi:(b.split a).ord i=b.ord i:=by rw[o1,if_neg c,if_neg hna]
   have hb:(b.split a).bD i=b.bD i:=by unfold BB.bD;rw[oi]
   rw[hb,oi]at c2
   rw[hb]at c3
   rw[oi]at hi c1
   have hba:¬b.bD i=a:=fun e=>by
    rw[e]at c3
    rw[show(b.split a).tk a=b.tk a from rfl,ht]at c3;cases c3
   by_cases d:b.bD i=a+p2 (b.ord a-2)
   ·rw[d,o1,if_pos rfl]at c2
    have e3:iV (b.bD i) (b.ord i-1)=i:=BE (by omega)
    rw[d,←c2,show b.ord a-1-1=b.ord a-2 from by omega,hup]at e3
    exact hna e3.symm
   ·rw[o1,if_neg d,if_neg hba]at c2
    exact h.nb i hi hti2 ⟨c1,c2,c3⟩
theorem BB.Full.eJ{b:BB}(h:b.Full){a:Int}(ha:0<b.ord a):(b.eJ a).Full:=by
 refine⟨h.inv.eJ ha,h.cov,fun i hi hti hcj=> ?_⟩
 have t1:∀ j,(b.eJ a).tk j=false→b.tk j=false:=fun j hj=>by
  have:aa b.tk a true j=false:=hj
  by_cases c:j=a
  ·rw[c,ae]at this;cases this
  ·rwa[ad _ _ c]at this
 obtain⟨c1,c2,c3⟩:=hcj
 exact h.nb i hi (t1 i hti) ⟨c1,c2,t1 _ c3⟩
theorem BB.Full.take{b:BB}(h:b.Full)(o:Int):(b.take o).2.2.Full:=by
 unfold BB.take
 split
 ·exact h
 ·rename_i ho
  split
  ·exact h
  ·rename_i k i hp
   obtain⟨h1,h2,h3,h4,h5⟩:=BB.l5 hp
   have hh:=h.eJ (a:=i) (by omega)
   exact BB.Full.splits _ hh (by show _<b.ord i;omega) (ae _ _ _)
def BB.over(b:BB)(i j:Int):Bool:=decide (0<b.ord i)&&decide (i≤j)&&decide (j<i+p2 (b.ord i-1))
theorem BB.Inv.Dw{b:BB}(h:b.Inv){o:Int}(he:(b.take o).2.1=0):(0≤o∧o≤6)∧(0≤(b.take o).1∧(b.take o).1<64)∧b.cE (b.take o).1=0∧(b.take o).1%p2 o=0∧(b.take o).2.2.cE=aa b.cE (b.take o).1 (o+1):=by
 by_cases ho:o<0∨6<o
 ·rw[BB.yy ho]at he;simp at he
 ·cases hp:b.pick o with
  | none=>rw[BB.B2 ho hp]at he;simp at he
  | some x=>
   obtain⟨k,i⟩:=x
   obtain⟨h1,h2,h3,h4,h5⟩:=BB.l5 hp
   have hu:=congrArg PB.u (h.B8 ho hp)
   have hi:=h.take o
   have hh:=h.eJ (a:=i) (by omega)
   obtain⟨s1,_⟩:=hh.mF ((k:Int)-o).toNat (a:=i) (by show _<b.ord i;omega)
   have e1:(b.take o).1=i:=by rw[BB.lK ho hp]
   have e2:(b.take o).2.2.ord i=o+1:=by
    rw[BB.lK ho hp]
    show(BB.splits _ _ _).ord i=_
    rw[s1]
    show b.ord i-_=_
    omega
   have ha:=hi.al i (by rw[e2];omega)
   rw[e2,show o+1-1=o from by omega]at ha
   rw[e1]
   exact⟨by omega,by omega,by unfold BB.cE;rw[if_neg (by simp[h5])],ha,hu.symm⟩
theorem BB.A6(b:BB)(a:Int):(b.ku a).1=b.is a:=by
 by_cases h:b.is a=0
 ·rw[BB.pR h,h]
 ·rw[BB.nk h]
theorem BB.Inv.Ev{b:BB}(h:b.Inv){a:Int}(he:(b.ku a).1=0):(0≤a∧a<64)∧¬b.cE a=0∧(b.ku a).2.cE=aa b.cE a 0∧(b.ku a).2.tk=aa b.tk a false:=by
 rw[BB.A6]at he
 obtain⟨h1,h2,h3⟩:=BB.vx he
 have hu:=congrArg PB.u (h.oB he)
 refine⟨⟨h1,h2⟩,?_,hu.symm,?_⟩
 ·have:=h.tk a h3
  unfold BB.cE;rw[if_pos h3];omega
 ·rw[BB.pR he]
  exact BB.qn _ _ _
end Go.X.Vm
