import Derived.Test.YthdinakloheinaaGreatDoorkVBM
namespace Go.X.Vm
open Go Go.X
structure RG where
 fr:Int
 n:Int
 w:Bool
def RG.nil:RG:=⟨0,0,false⟩
def RG.arr(r:RG):Array Value:= #[.int .i64 r.fr,.int .i64 r.n,.bool r.w]
def RG.cell(r:RG)(j:Nat):Value:=match j with
 | 0=>.int .i64 r.fr
 | 1=>.int .i64 r.n
 | 2=>.bool r.w
 | _=>undef
def rat(l:List RG)(z:Int):RG:=l.getD z.toNat RG.nil
def dD(l:List RG)(i:Nat):Value:=(l.getD (i/3) RG.nil).cell (i%3)
def jO(r:RG)(i:Nat):Value:=r.cell i
theorem jO.agg(r:RG):0+3≤3∧cq (jO r) 0 3= .agg r.arr:=⟨by omega,rfl⟩
theorem jO.box(r:RG):∀ i,i<3→cellsOf r.arr i=jO r i:=fun i h=>by
 match i,h with
 | 0,_=>rfl
 | 1,_=>rfl
 | 2,_=>rfl
 | k+3,h=>omega
theorem jO.f(r:RG):0+0<3∧jO r (0+0)= .int .i64 r.fr:=⟨by omega,rfl⟩
theorem jO.n(r:RG):0+1<3∧jO r (0+1)= .int .i64 r.n:=⟨by omega,rfl⟩
theorem jO.w(r:RG):0+2<3∧jO r (0+2)= .bool r.w:=⟨by omega,rfl⟩
theorem jO.st(r q:RG):0+3≤3∧bQ (jO q) 0 r.arr.toList=jO r:=⟨by omega,by
 funext i
 match i with
 | 0=>rfl
 | 1=>rfl
 | 2=>rfl
 | k+3=>simp[bQ,cH,RG.arr,jO,RG.cell]⟩
theorem o4(l:List RG){z:Int}(h:0≤z∧z<l.length)(j:Nat)(hj:j<3):dD l (0+z.toNat*3+j)=(rat l z).cell j:=by
 unfold dD rat
 rw[show(0+z.toNat*3+j)/3=z.toNat from by omega,show(0+z.toNat*3+j)%3=j from by omega]
theorem dD.agg{l:List RG}{z:Int}(h:0≤z∧z<l.length):0+z.toNat*3+3≤l.length*3∧cq (dD l) (0+z.toNat*3) 3= .agg (rat l z).arr:=by
 refine⟨by omega,?_⟩
 simp only[cq,List.range,List.range.loop,List.map_cons,List.map_nil]
 rw[o4 l h 0 (by omega),o4 l h 1 (by omega),o4 l h 2 (by omega)]
 rfl
theorem dD.f{l:List RG}{z:Int}(h:0≤z∧z<l.length):0+z.toNat*3+0<l.length*3∧dD l (0+z.toNat*3+0)= .int .i64 (rat l z).fr:=⟨by omega,o4 l h 0 (by omega)⟩
theorem dD.n{l:List RG}{z:Int}(h:0≤z∧z<l.length):0+z.toNat*3+1<l.length*3∧dD l (0+z.toNat*3+1)= .int .i64 (rat l z).n:=⟨by omega,o4 l h 1 (by omega)⟩
theorem dD.w{l:List RG}{z:Int}(h:0≤z∧z<l.length):0+z.toNat*3+2<l.length*3∧dD l (0+z.toNat*3+2)= .bool (rat l z).w:=⟨by omega,o4 l h 2 (by omega)⟩
theorem dD.app(l:List RG)(r:RG)(C1:Nat→Value)(hC:∀ i,i<3→C1 i=r.cell i):∀ i,i<(l.length+1)*3→dD (l++[r]) i=if i<l.length*3 then dD l i else C1 (i-l.length*3):=fun i hi=>by
 unfold dD
 by_cases h:i<l.length*3
 ·rw[if_pos h]
  simp only[List.getD_eq_getElem?_getD]
  rw[List.getElem?_append_left (by omega)]
 ·rw[if_neg h,hC _ (by omega)]
  simp only[List.getD_eq_getElem?_getD]
  rw[List.getElem?_append_right (by omega),show i/3-l.length=0 from by omega,show i-l.length*3=i%3 from by omega]
  rfl
def sQ(l:List RG)(r:RG):List RG:=l.dropLast++[r]
theorem pI{l:List RG}{r:RG}(h:0<l.length):(sQ l r).length=l.length:=by unfold sQ;simp;omega
theorem dD.grow{l:List RG}(h:0<l.length)(m:Int):0+((l.length:Int)-1).toNat*3+1<l.length*3∧cH (dD l) (0+((l.length:Int)-1).toNat*3+1) (.int .i64 m)=dD (sQ l {rat l ((l.length:Int)-1)with n:=m}):=by
 refine⟨by omega,?_⟩
 funext i
 unfold cH dD sQ
 simp only[List.getD_eq_getElem?_getD]
 by_cases c:i/3<l.length-1
 ·rw[if_neg (by omega),List.getElem?_append_left (by simp;omega),List.getElem?_dropLast,if_pos c]
 ·by_cases c2:i/3=l.length-1
  ·rw[List.getElem?_append_right (by simp;omega),show i/3-l.dropLast.length=0 from by simp;omega]
   have e:l[i/3]?.getD RG.nil=rat l ((l.length:Int)-1):=by
    unfold rat
    rw[show((l.length:Int)-1).toNat=i/3 from by omega]
    simp[List.getD_eq_getElem?_getD]
   rw[e]
   have:i%3=0∨i%3=1∨i%3=2:=by omega
   rcases this with q | q | q
   ·rw[if_neg (by omega),q];rfl
   ·rw[if_pos (by omega),q];rfl
   ·rw[if_neg (by omega),q];rfl
  ·rw[if_neg (by omega),List.getElem?_append_right (by simp;omega),List.getElem?_eq_none (by omega),List.getElem?_eq_none (by simp;omega)]
def yz(l:List RG)(r:RG):List RG:=match l.getLast? with
 | some q=>if q.fr+q.n=r.fr∧q.w=r.w then l.dropLast++[{q with n:=q.n+r.n}]else l++[r]
 | none=>[r]
theorem ng(r:RG):yz [] r=[r]:=rfl
theorem fy(l:List RG)(q r:RG):yz (l++[q]) r=if q.fr+q.n=r.fr∧q.w=r.w then l++[{q with n:=q.n+r.n}]else l++[q,r]:=by
 simp[yz]
theorem we(l:List RG)(q:RG):rat (l++[q]) (((l++[q]).length:Int)-1)=q:=by
 unfold rat
 rw[show(((l++[q]).length:Int)-1).toNat=l.length from by simp]
 simp
theorem iY{l:List RG}(h:0<l.length):∃ l' q,l=l'++[q]:=⟨l.dropLast,l.getLast (by intro e;rw[e]at h;simp at h),(List.dropLast_concat_getLast _).symm⟩
theorem Ht{l:List RG}{r:RG}(h:0<l.length)(h1:(rat l ((l.length:Int)-1)).fr+(rat l ((l.length:Int)-1)).n=r.fr)(h2:(rat l ((l.length:Int)-1)).w=r.w):yz l r=sQ l {rat l ((l.length:Int)-1)with n:=(rat l ((l.length:Int)-1)).n+r.n} :=by
 obtain⟨l',q,rfl⟩:=iY h
 rw[we]at*
 rw[fy,if_pos ⟨h1,h2⟩]
 simp[sQ]
theorem qY{l:List RG}{r:RG}(h:0<l.length→¬((rat l ((l.length:Int)-1)).fr+(rat l ((l.length:Int)-1)).n=r.fr∧(rat l ((l.length:Int)-1)).w=r.w)):yz l r=l++[r]:=by
 rcases Nat.eq_zero_or_pos l.length with q | q
 ·rw[List.length_eq_zero_iff]at q;subst q;rfl
 ·obtain⟨l',x,rfl⟩:=iY q
  have h1:=h q
  rw[we]at h1
  rw[fy,if_neg h1];simp
theorem Cv(l:List RG)(a n m:Int)(w:Bool)(_:0<n):yz (yz l ⟨a,n,w⟩) ⟨a+n,m,w⟩=yz l ⟨a,n+m,w⟩:=by
 rcases Nat.eq_zero_or_pos l.length with q | q
 ·rw[List.length_eq_zero_iff]at q;subst q
  rw[ng,ng]
  have:=fy [] ⟨a,n,w⟩ ⟨a+n,m,w⟩
  simpa using this
 ·obtain⟨l',x,rfl⟩:=iY q
  rw[fy,fy]
  by_cases c:x.fr+x.n=a∧x.w=w
  ·simp only[c,and_self,if_true]
   rw[fy,if_pos ⟨by simp;omega,by simp⟩]
   simp;omega
  ·simp only[c,if_false]
   have:=fy (l'++[x]) ⟨a,n,w⟩ ⟨a+n,m,w⟩
   simpa using this
def mg(l:List RG):List RG:=l.foldl yz []
def jm(a:Int)(w:Bool):Nat→List RG
 | 0=>[]
 | k+1=>jm a w k++[⟨a+k,1,w⟩]
theorem pz(l:List RG)(a:Int)(w:Bool):∀ k:Nat,0<k→(jm a w k).foldl yz l=yz l ⟨a,k,w⟩
 | 0,h=>by omega
 | 1,_=>by simp[jm]
 | k+2,_=>by
  rw[jm,List.foldl_append,pz l a w (k+1) (by omega)]
  have:=Cv l a ((k+1:Nat):Int) 1 w (by omega)
  simp only[List.foldl_cons,List.foldl_nil]
  rw[this]
  congr 1
def RG.G4(r:RG):List RG:=jm r.fr r.w r.n.toNat
theorem xe:∀ (l:List RG) (acc:List RG),(∀ r∈l,0<r.n)→(l.flatMap RG.G4).foldl yz acc=l.foldl yz acc
 | [],_,_=>rfl
 | r::l,acc,h=>by
  have h1:=h r (by simp)
  simp only[List.flatMap_cons,List.foldl_append,List.foldl_cons]
  rw[RG.G4,pz acc r.fr r.w r.n.toNat (by omega),xe l _ (fun x hx=>h x (by simp[hx]))]
  congr 2
  cases r;simp only[RG.mk.injEq,true_and,and_true];simp at h1;omega
theorem iz{a:Int}{w:Bool}{u:RG} :∀ {k:Nat},u∈jm a w k↔∃ i:Int,a≤i∧i<a+k∧u=⟨i,1,w⟩
 | 0=>by simp only[jm,List.not_mem_nil,false_iff];rintro⟨i,h1,h2,_⟩;simp at h2;omega
 | k+1=>by
  rw[jm,List.mem_append,iz (k:=k),List.mem_singleton]
  constructor
  ·rintro(⟨i,h1,h2,h3⟩ | h)
   ·exact⟨i,h1,by omega,h3⟩
   ·exact⟨a+k,by omega,by omega,h⟩
  ·rintro⟨i,h1,h2,h3⟩
   by_cases c:i<a+k
   ·exact .inl ⟨i,h1,c,h3⟩
   ·right;rw[h3];congr 1;omega
theorem nB{a:Int}{w:Bool} :∀ k:Nat,(jm a w k).Pairwise (fun x y=>x.fr<y.fr)
 | 0=>.nil
 | k+1=>by
  rw[jm,List.pairwise_append]
  refine⟨nB k,by simp,fun x hx y hy=> ?_⟩
  obtain⟨i,h1,h2,rfl⟩:=iz.1 hx
  simp only[List.mem_singleton]at hy;subst hy
  exact h2
theorem ke{α:Type}(f:α→Int):∀ {l m:List α},l.Pairwise (fun x y=>f x<f y)→m.Pairwise (fun x y=>f x<f y)→(∀ x,x∈l↔x∈m)→l=m
 | [],[],_,_,_=>rfl
 | [],y::m,_,_,h=>absurd ((h y).2 (by simp)) (by simp)
 | x::l,[],_,_,h=>absurd ((h x).1 (by simp)) (by simp)
 | x::l,y::m,hl,hm,h=>by
  rw[List.pairwise_cons]at hl hm
  have e:x=y:=by
   rcases List.mem_cons.1 ((h x).1 (by simp))with q | q
   ·exact q
   ·rcases List.mem_cons.1 ((h y).2 (by simp))with q2 | q2
    ·exact q2.symm
    ·have:=hl.1 y q2;have:=hm.1 x q;omega
  subst e
  congr 1
  refine ke f hl.2 hm.2 fun z=> ?_
  constructor
  ·intro hz
   rcases List.mem_cons.1 ((h z).1 (by simp[hz]))with q | q
   ·subst q;have:=hl.1 z hz;omega
   ·exact q
  ·intro hz
   rcases List.mem_cons.1 ((h z).2 (by simp[hz]))with q | q
   ·subst q;have:=hm.1 z hz;omega
   ·exact q
def kd(w:Bool):Int:=if w then 2 else 1
structure Hd (f:Int→Int):Prop where
 v:∀ i,f i=0∨f i=1∨f i=2
 out:∀ i,i<0∨16≤i→f i=0
def gB(f:Int→Int):Nat→List RG
 | 0=>[]
 | k+1=>gB f k++(if f k=0 then []else [⟨k,1,decide (f k=2)⟩])
def jf(f:Int→Int)(k:Nat):List RG:=mg (gB f k)
def runs(f:Int→Int):List RG:=jf f 16
theorem qy(f:Int→Int)(k:Nat):jf f (k+1)=if f k=0 then jf f k else yz (jf f k) ⟨k,1,decide (f k=2)⟩:=by
 unfold jf mg
 rw[gB,List.foldl_append]
 split<;>simp
theorem mY{f:Int→Int}{u:RG} :∀ {k:Nat},u∈gB f k↔∃ i:Int,0≤i∧i<k∧f i≠0∧u=⟨i,1,decide (f i=2)⟩
 | 0=>by simp only[gB,List.not_mem_nil,false_iff];rintro⟨i,h1,h2,_⟩;simp at h2;omega
 | k+1=>by
  rw[gB,List.mem_append,mY (k:=k)]
  constructor
  ·rintro(⟨i,h1,h2,h3⟩ | h)
   ·exact⟨i,h1,by omega,h3⟩
   ·split at h
    ·simp at h
    ·rename_i c
     simp only[List.mem_singleton]at h
     exact⟨k,by omega,by omega,c,h⟩
  ·rintro⟨i,h1,h2,h3,h4⟩
   by_cases c:i<k
   ·exact .inl ⟨i,h1,c,h3,h4⟩
   ·have e:i=k:=by omega
    subst e
    right;rw[if_neg h3,h4];simp
theorem mB{f:Int→Int} :∀ k:Nat,(gB f k).Pairwise (fun x y=>x.fr<y.fr)
 | 0=>.nil
 | k+1=>by
  rw[gB,List.pairwise_append]
  refine⟨mB k,by split<;>simp,fun x hx y hy=> ?_⟩
  obtain⟨i,h1,h2,_,rfl⟩:=mY.1 hx
  split at hy
  ·simp at hy
  ·simp only[List.mem_singleton]at hy;subst hy;exact h2
structure GL (l:List RG):Prop where
 b:∀ r∈l,0≤r.fr∧0<r.n∧r.fr+r.n≤16
 p:l.Pairwise (fun x y=>x.fr+x.n≤y.fr∨y.fr+y.n≤x.fr)
def RG.has(r:RG)(i:Int):Prop:=r.fr≤i∧i<r.fr+r.n
structure JG (l:List RG) (f:Int→Int):Prop where
 h1:∀ r∈l,∀ i,r.has i→f i=kd r.w
 h2:∀ i,f i≠0→∃ r∈l,r.has i
theorem GL.perm{l m:List RG}(h:GL l)(hp:l.Perm m):GL m:=
 ⟨fun r hr=>h.b r (hp.mem_iff.2 hr),(hp.pairwise_iff (fun hxy=>hxy.symm)).1 h.p⟩
theorem JG.perm{l m:List RG}{f:Int→Int}(h:JG l f)(hp:l.Perm m):JG m f:=
 ⟨fun r hr=>h.h1 r (hp.mem_iff.2 hr),fun i hi=>by obtain⟨r,hr,h2⟩:=h.h2 i hi;exact⟨r,hp.mem_iff.1 hr,h2⟩⟩
theorem EL(w:Bool):decide (kd w=2)=w:=by cases w<;>rfl
theorem DE(w:Bool):kd w≠0:=by cases w<;>decide
theorem HZ{l:List RG}{f:Int→Int}(hg:GL l)(hc:JG l f)(hf:Hd f)(hs:l.Pairwise (fun x y=>x.fr≤y.fr)):mg l=runs f:=by
 unfold runs jf
 have e:l.flatMap RG.G4=gB f 16:=by
  refine ke (fun r=>r.fr) ?_ (mB 16) fun u=> ?_
  ·rw[List.pairwise_flatMap]
   refine⟨fun r _=>nB _,?_⟩
   have hq:=hs.and hg.p
   refine hq.imp_of_mem ?_
   rintro x y hx hy ⟨h1,h2⟩ u hu v hv
   obtain⟨i,i1,i2,rfl⟩:=iz.1 hu
   obtain⟨j,j1,j2,rfl⟩:=iz.1 hv
   have:=hg.b x hx;have:=hg.b y hy
   show i<j
   omega
  ·rw[List.mem_flatMap,mY]
   constructor
   ·rintro⟨r,hr,hu⟩
    obtain⟨i,i1,i2,rfl⟩:=iz.1 hu
    have hb:=hg.b r hr
    have:=hc.h1 r hr i ⟨i1,by omega⟩
    exact⟨i,by omega,by omega,by rw[this];exact DE _,by rw[this,EL]⟩
   ·rintro⟨i,i1,i2,i3,rfl⟩
    obtain⟨r,hr,h⟩:=hc.h2 i i3
    have hb:=hg.b r hr
    refine⟨r,hr,iz.2 ⟨i,h.1,?_,?_⟩⟩
    ·have:=h.2;omega
    ·rw[hc.h1 r hr i h,EL]
 rw[←e]
 exact(xe l [] (fun r hr=>(hg.b r hr).2.1)).symm
structure qI (l:List RG) (f:Int→Int) (k:Nat):Prop where
 b:∀ r∈l,0≤r.fr∧0<r.n∧r.fr+r.n≤k
 s:l.Pairwise (fun x y=>x.fr+x.n≤y.fr)
 h1:∀ r∈l,∀ i,r.has i→f i=kd r.w
 h2:∀ i:Int,0≤i→i<k→f i≠0→∃ r∈l,r.has i
theorem wK{f:Int→Int}(hf:Hd f):∀ k:Nat,qI (jf f k) f k
 | 0=>⟨by intro r h;simp[jf,gB,mg]at h,by simp[jf,gB,mg],by intro r h;simp[jf,gB,mg]at h,fun i a b=>by simp at b;omega⟩
 | k+1=>by
  have ih:=wK hf k
  rw[qy]
  split
  ·rename_i c
   refine⟨fun r hr=> ?_,ih.s,ih.h1,fun i a b d=> ?_⟩
   ·have:=ih.b r hr;omega
   ·refine ih.h2 i a ?_ d
    by_cases e:i=k
    ·subst e;contradiction
    ·omega
  ·rename_i c
   have hk:f k=kd (decide (f k=2)):=by
    rcases hf.v k with q | q | q
    ·contradiction
    ·rw[q];rfl
    ·rw[q];rfl
   rcases Nat.eq_zero_or_pos (jf f k).length with q | q
   ·rw[List.length_eq_zero_iff]at q
    rw[q,ng]
    rw[q]at ih
    refine⟨fun r hr=> ?_,by simp,fun r hr i hi=> ?_,fun i a b d=> ?_⟩
    ·simp only[List.mem_singleton]at hr;subst hr;simp
    ·simp only[List.mem_singleton]at hr;subst hr
     have:i=k:=by have:=hi.1;have:=hi.2;simp at*;omega
     subst this;exact hk
    ·by_cases e:i=k
     ·subst e;exact⟨_,List.mem_singleton.2 rfl,by simp,by simp;omega⟩
     ·obtain⟨r,hr,_⟩:=ih.h2 i a (by omega) d
      simp at hr
   ·obtain⟨l',x,hx⟩:=iY q
    rw[hx]at ih ⊢
    rw[fy]
    have hbx:=ih.b x (by simp)
    have hsx:=(List.pairwise_append.1 ih.s).2.2
    split
    ·rename_i d
     obtain⟨d1,d2⟩:=d
     refine⟨fun r hr=> ?_,?_,fun r hr i hi=> ?_,fun i a b e=> ?_⟩
     ·rcases List.mem_append.1 hr with hr | hr
      ·have:=ih.b r (by simp[hr]);omega
      ·simp only[List.mem_singleton]at hr;subst hr;simp;simp at d1;omega
     ·rw[List.pairwise_append]
      refine⟨(List.pairwise_append.1 ih.s).1,by simp,fun y hy z hz=> ?_⟩
      simp only[List.mem_singleton]at hz;subst hz
      exact hsx y hy x (by simp)
     ·rcases List.mem_append.1 hr with hr | hr
      ·exact ih.h1 r (by simp[hr]) i hi
      ·simp only[List.mem_singleton]at hr;subst hr
       have h1:=hi.1;have h2:=hi.2
       simp at h1 h2 d1
       by_cases e:i=k
       ·subst e;rw[hk];simp only;rw[d2]
       ·exact ih.h1 x (by simp) i ⟨h1,by omega⟩
     ·by_cases e2:i=k
      ·refine⟨_,List.mem_append.2 (.inr (List.mem_singleton.2 rfl)),?_,?_⟩
       ·simp;simp at d1;omega
       ·simp;simp at d1;omega
      ·obtain⟨r,hr,hh⟩:=ih.h2 i a (by omega) e
       rcases List.mem_append.1 hr with hr | hr
       ·exact⟨r,List.mem_append.2 (.inl hr),hh⟩
       ·simp only[List.mem_singleton]at hr;subst hr
        exact⟨_,List.mem_append.2 (.inr (List.mem_singleton.2 rfl)),hh.1,by have:=hh.2;simp;omega⟩
    ·rename_i d
     have hmem:∀ r,r∈l'++[x,⟨(k:Int),1,decide (f k=2)⟩]↔r∈l'++[x]∨r=⟨(k:Int),1,decide (f k=2)⟩:=fun r=>by simp[or_assoc]
     refine⟨fun r hr=> ?_,?_,fun r hr i hi=> ?_,fun i a b e=> ?_⟩
     ·rcases(hmem r).1 hr with hr | hr
      ·have:=ih.b r hr;omega
      ·subst hr;simp
     ·rw[show l'++[x,(⟨(k:Int),1,decide (f k=2)⟩:RG)]=(l'++[x])++[⟨(k:Int),1,decide (f k=2)⟩]from by simp,List.pairwise_append]
      refine⟨ih.s,by simp,fun y hy z hz=> ?_⟩
      simp only[List.mem_singleton]at hz;subst hz
      exact(ih.b y hy).2.2
     ·rcases(hmem r).1 hr with hr | hr
      ·exact ih.h1 r hr i hi
      ·subst hr
       have:i=k:=by have:=hi.1;have:=hi.2;simp at*;omega
       subst this;exact hk
     ·by_cases e2:i=k
      ·subst e2;exact⟨_,(hmem _).2 (.inr rfl),by simp,by simp;omega⟩
      ·obtain⟨r,hr,hh⟩:=ih.h2 i a (by omega) e
       exact⟨r,(hmem _).2 (.inl hr),hh⟩
theorem mi{f:Int→Int}(hf:Hd f):qI (runs f) f 16:=wK hf 16
theorem rA{f:Int→Int}(hf:Hd f):JG (runs f) f:=⟨(mi hf).h1,fun i hi=>by
 refine(mi hf).h2 i ?_ ?_ hi
 ·by_cases q:i<0
  ·exact absurd (hf.out i (.inl q)) hi
  ·omega
 ·by_cases q:i<16
  ·exact q
  ·exact absurd (hf.out i (.inr (by omega))) hi⟩
theorem Az(l:List RG)(r:RG):(yz l r).length≤l.length+1:=by
 rcases Nat.eq_zero_or_pos l.length with q | q
 ·rw[List.length_eq_zero_iff]at q;subst q;simp[ng]
 ·obtain⟨l',x,rfl⟩:=iY q
  rw[fy];split<;>simp
theorem uB(f:Int→Int):∀ k,(jf f k).length≤k
 | 0=>by simp[jf,gB,mg]
 | k+1=>by
  rw[qy]
  have:=uB f k
  split
  ·omega
  ·have:=Az (jf f k) ⟨k,1,decide (f k=2)⟩;omega
theorem rh(f:Int→Int):(runs f).length≤16:=uB f 16
theorem vi{l:List RG}{z:Int}(h:0≤z∧z<l.length):rat l z∈l:=by
 unfold rat
 rw[List.getD_eq_getElem?_getD,List.getElem?_eq_getElem (by omega)]
 simp
structure MS where
 aI:Int→Int
 fr:Int→Int
 own:Int→Bool
structure VB where
 bb:BB
 by_:Int→Int→Int
 rf:Int→Int
def Ea(b:Int→Int→Int)(f:Int)(row:Int→Int):Int→Int→Int:=fun x j=>if x=f then row j else b x j
def dy{α:Type}(f:Int→α)(a m:Int)(v:α):Int→α:=fun i=>if a≤i∧i<a+m then v else f i
def VB.take(v:VB):Int×Int×VB:=if(v.bb.take 0).2.1≠0 then(0,(v.bb.take 0).2.1,v)else((v.bb.take 0).1,0,⟨(v.bb.take 0).2.2,Ea v.by_ (v.bb.take 0).1 (fun _=>0),aa v.rf (v.bb.take 0).1 1⟩)
def VB.drop(v:VB)(f:Int):VB:=if v.rf f-1=0 then⟨(v.bb.kI f).2,v.by_,aa v.rf f (v.rf f-1)⟩else⟨v.bb,v.by_,aa v.rf f (v.rf f-1)⟩
def fB(a m:Int):Prop:=a<0∨15<a∨m<1∨16-a<m
instance (a m:Int):Decidable (fB a m):=by unfold fB;infer_instance
def Ms(p:Int→Bool)(a:Int):Nat→Bool
 | 0=>false
 | k+1=>Ms p a k||p (a+k)
def MS.K3(m:MS)(a n:Int):Int:=if fB a n then 1 else if Ms (fun i=>m.aI i != 0) a n.toNat then 3 else 0
def MS.lay(m:MS)(a n:Int)(w:Bool):MS:= {m with aI:=dy m.aI a n (kd w)}
def MS.map(m:MS)(a n:Int)(w:Bool):MS:=if m.K3 a n=0 then m.lay a n w else m
def JV(fr:Int→Int)(x:Int×VB)(i:Int):Int×VB:=if 0<fr i then(x.1+1,x.2.drop (fr i-1))else x
def fa(p:Int→Bool)(a:Int):Nat→List Int
 | 0=>[]
 | k+1=>fa p a k++(if p (a+k)then [a+k]else [])
def Hc(v:VB)(fr:Int→Int)(a:Int):Nat→Int×VB
 | 0=>(0,v)
 | k+1=>JV fr (Hc v fr a k) (a+k)
def kY(v:VB)(fr:Int→Int)(l:List Int):Int×VB:=l.foldl (JV fr) (0,v)
theorem xj(v:VB){fr:Int→Int}{p:Int→Bool}(hp:∀ i,p i=false→fr i=0)(a:Int):∀ k,Hc v fr a k=kY v fr (fa p a k)
 | 0=>rfl
 | k+1=>by
  rw[Hc,xj v hp a k,fa,kY,kY,List.foldl_append]
  cases h:p (a+k)with
  | true=>simp
  | false=>simp[JV,hp _ h]
theorem iE{p:Int→Bool}{a i:Int} :∀ {k:Nat},i∈fa p a k↔(a≤i∧i<a+k)∧p i=true
 | 0=>by simp only[fa,List.not_mem_nil,false_iff];rintro⟨⟨h1,h2⟩,_⟩;simp at h2;omega
 | k+1=>by
  rw[fa,List.mem_append,iE (k:=k)]
  constructor
  ·rintro(⟨h1,h2⟩ | h)
   ·exact⟨by omega,h2⟩
   ·split at h
    ·rename_i c;simp only[List.mem_singleton]at h;subst h;exact⟨by omega,c⟩
    ·simp at h
  ·rintro⟨h1,h2⟩
   by_cases c:i=a+k
   ·right;rw[←c,h2];simp[c]
   ·left;exact⟨by omega,h2⟩
theorem j9{p:Int→Bool}{a:Int} :∀ k,(fa p a k).Pairwise (fun x y=>x<y)
 | 0=>.nil
 | k+1=>by
  rw[fa,List.pairwise_append]
  refine⟨j9 k,by split<;>simp,fun x hx y hy=> ?_⟩
  have:=iE.1 hx
  split at hy
  ·simp only[List.mem_singleton]at hy;omega
  ·simp at hy
def MS.ew(v:VB)(m:MS)(a n:Int):Int×Int×VB×MS:=if fB a n then(0,1,v,m)else
 ((Hc v m.fr a n.toNat).1,0,(Hc v m.fr a n.toNat).2,⟨dy m.aI a n 0,dy m.fr a n 0,dy m.own a n false⟩)
def oe(rf fr:Int→Int):Nat→Int→Int
 | 0=>rf
 | k+1=>if 0<fr k then aa (oe rf fr k) (fr k-1) (oe rf fr k (fr k-1)+1)else oe rf fr k
def MS.bare(m:MS):MS:= {m with own:=fun _=>false}
def VB.fork(v:VB)(m:MS):VB:= {v with rf:=oe v.rf m.fr 16}
def sS(fr:Int→Int):Nat→Int
 | 0=>0
 | k+1=>sS fr k+(if 0<fr k then 1 else 0)
def MS.res(m:MS):Int:=sS m.fr 16
def MS.nil:MS:=⟨fun _=>0,fun _=>0,fun _=>false⟩
theorem Aw(fr:Int→Int):∀ k:Nat,0≤sS fr k∧sS fr k≤k
 | 0=>by simp[sS]
 | k+1=>by have:=Aw fr k;rw[sS];split<;>omega
theorem uD(fr:Int→Int){i:Int}(h:0≤i):sS fr (i+1).toNat=sS fr i.toNat+(if 0<fr i then 1 else 0):=by
 rw[show(i+1).toNat=i.toNat+1 from by omega,sS,show((i.toNat:Nat):Int)=i from by omega]
structure MS.Ok (m:MS):Prop where
 f:Hd m.aI
 lo:∀ i,0≤m.fr i∧m.fr i≤64
 un:∀ i,m.aI i=0→m.fr i=0
 ow:∀ i,m.fr i=0→m.own i=false
 inj:∀ i j,0<m.fr i→m.fr i=m.fr j→i=j
structure VB.Ok (v:VB):Prop where
 bb:v.bb.Inv
 rf:∀ f,0≤v.rf f∧v.rf f≤100000
 by_:∀ f j,0≤v.by_ f j∧v.by_ f j<256
def MS.In(m:MS)(v:VB):Prop:=∀ i,0<m.fr i→1≤v.rf (m.fr i-1)
theorem Hd.dy{f:Int→Int}(h:Hd f){a n:Int}(hb:¬fB a n){v:Int}(hv:v=0∨v=1∨v=2):Hd (Go.X.Vm.dy f a n v):=by
 unfold fB at hb
 refine⟨fun i=> ?_,fun i hi=> ?_⟩
 ·unfold Go.X.Vm.dy;split
  ·exact hv
  ·exact h.v i
 ·unfold Go.X.Vm.dy;rw[if_neg (by omega)];exact h.out i hi
theorem MJ(w:Bool):kd w=0∨kd w=1∨kd w=2:=by cases w<;>simp[kd]
theorem MS.Ok.nil:MS.nil.Ok:=⟨⟨fun _=>.inl rfl,fun _ _=>rfl⟩,fun _=>by simp[MS.nil],fun _ _=>rfl,fun _ _=>rfl,fun i j h=>by simp[MS.nil]at h⟩
theorem MS.Ok.lay{m:MS}(h:m.Ok){a n:Int}(hb:¬fB a n)(w:Bool):(m.lay a n w).Ok:=
 ⟨h.f.dy hb (MJ w),h.lo,fun i hi=>h.un i (by
  simp only[MS.lay,dy]at hi
  split at hi
  ·exact absurd hi (DE w)
  ·exact hi),h.ow,h.inj⟩
theorem IB{m:MS}{a n:Int}(h:m.K3 a n=0):¬fB a n:=by
 unfold MS.K3 at h;split at h
 ·cases h
 ·assumption
theorem MS.Ok.map{m:MS}(h:m.Ok)(a n:Int)(w:Bool):(m.map a n w).Ok:=by
 unfold MS.map;split
 ·exact h.lay (IB (by assumption)) w
 ·exact h
def gn(a n:Int)(r:RG):List RG:=if min (r.fr+r.n) (a+n)≤max r.fr a then [r]else
 (if r.fr<max r.fr a then [⟨r.fr,max r.fr a-r.fr,r.w⟩]else [])++(if min (r.fr+r.n) (a+n)<r.fr+r.n then [⟨min (r.fr+r.n) (a+n),r.fr+r.n-min (r.fr+r.n) (a+n),r.w⟩]else [])
def eC(a:Int):Nat→List Int
 | 0=>[]
 | k+1=>eC a k++[a+k]
def mr(a n:Int)(r:RG):List Int:=eC (max r.fr a) (min (r.fr+r.n) (a+n)-max r.fr a).toNat
theorem iH{a i:Int} :∀ {k:Nat},i∈eC a k↔a≤i∧i<a+k
 | 0=>by simp only[eC,List.not_mem_nil,false_iff];rintro⟨h1,h2⟩;simp at h2;omega
 | k+1=>by
  rw[eC,List.mem_append,iH (k:=k),List.mem_singleton];omega
theorem nk{a:Int} :∀ k,(eC a k).Pairwise (fun x y=>x<y)
 | 0=>.nil
 | k+1=>by
  rw[eC,List.pairwise_append]
  refine⟨nk k,by simp,fun x hx y hy=> ?_⟩
  have:=iH.1 hx
  simp only[List.mem_singleton]at hy;omega
theorem pk(a:Int):∀ k,(eC a k).length=k
 | 0=>rfl
 | k+1=>by rw[eC,List.length_append,pk a k];rfl
theorem qh{a n:Int}{r q:RG}(hn:0<n)(hr:0<r.n)(h:q∈gn a n r):0<q.n∧r.fr≤q.fr∧q.fr+q.n≤r.fr+r.n∧q.w=r.w∧(q.fr+q.n≤a∨a+n≤q.fr):=by
 unfold gn at h
 split at h
 ·simp only[List.mem_singleton]at h;subst h
  refine⟨hr,by omega,by omega,rfl,by omega⟩
 ·rcases List.mem_append.1 h with h | h
  ·split at h
   ·simp only[List.mem_singleton]at h;subst h;simp;omega
   ·simp at h
  ·split at h
   ·simp only[List.mem_singleton]at h;subst h;simp;omega
   ·simp at h
theorem Hq{a n:Int}{r:RG}{i:Int}(hr:r.has i)(h:i<a∨a+n≤i):∃ q∈gn a n r,q.has i:=by
 obtain⟨h1,h2⟩:=hr
 unfold gn
 split
 ·exact⟨r,by simp,h1,h2⟩
 ·rename_i c
  by_cases d:i<max r.fr a
  ·refine⟨⟨r.fr,max r.fr a-r.fr,r.w⟩,List.mem_append.2 (.inl ?_),h1,?_⟩
   ·rw[if_pos (by omega)];simp
   ·show i<r.fr+(max r.fr a-r.fr);omega
  ·refine⟨⟨min (r.fr+r.n) (a+n),r.fr+r.n-min (r.fr+r.n) (a+n),r.w⟩,List.mem_append.2 (.inr ?_),?_,?_⟩
   ·rw[if_pos (by omega)];simp
   ·show min (r.fr+r.n) (a+n)≤i;omega
   ·show i<min (r.fr+r.n) (a+n)+(r.fr+r.n-min (r.fr+r.n) (a+n));omega
theorem Ge{a n:Int}{r:RG} :(gn a n r).Pairwise (fun x y=>x.fr+x.n≤y.fr):=by
 unfold gn
 split
 ·simp
 ·rw[List.pairwise_append]
  refine⟨by split<;>simp,by split<;>simp,fun x hx y hy=> ?_⟩
  split at hx
  ·simp only[List.mem_singleton]at hx;subst hx
   split at hy
   ·simp only[List.mem_singleton]at hy;subst hy;simp;omega
   ·simp at hy
  ·simp at hx
theorem Kr{l:List RG}{f:Int→Int}{a n:Int}(hl:qI l f 16)(hn:0<n):(l.flatMap (gn a n)).Pairwise (fun x y=>x.fr+x.n≤y.fr)∧(∀ r∈l.flatMap (gn a n),(0≤r.fr∧0<r.n∧r.fr+r.n≤16)∧(r.fr+r.n≤a∨a+n≤r.fr)):=by
 constructor
 ·rw[List.pairwise_flatMap]
  refine⟨fun _ _=>Ge,hl.s.imp_of_mem ?_⟩
  intro x y hx hy h u hu v hv
  have h1:=qh hn (hl.b x hx).2.1 hu
  have h2:=qh hn (hl.b y hy).2.1 hv
  omega
 ·intro r hr
  obtain⟨x,hx,h⟩:=List.mem_flatMap.1 hr
  have h1:=qh hn (hl.b x hx).2.1 h
  have:=hl.b x hx
  omega
theorem y5{l:List RG}{f:Int→Int}{a n:Int}(hl:qI l f 16)(hc:JG l f)(hn:0<n):JG (l.flatMap (gn a n)) (dy f a n 0):=by
 refine⟨fun r hr i hi=> ?_,fun i hi=> ?_⟩
 ·obtain⟨x,hx,h⟩:=List.mem_flatMap.1 hr
  obtain⟨h1,h2,h3,h4,h5⟩:=qh hn (hl.b x hx).2.1 h
  have hi1:=hi.1;have hi2:=hi.2
  unfold dy
  rw[if_neg (by omega),hc.h1 x hx i ⟨by omega,by omega⟩,h4]
 ·unfold dy at hi
  split at hi
  ·exact absurd rfl hi
  ·obtain⟨r,hr,hh⟩:=hc.h2 i hi
   obtain⟨q,hq,h⟩:=Hq (a:=a) (n:=n) hh (by omega)
   exact⟨q,List.mem_flatMap.2 ⟨r,hr,hq⟩,h⟩
theorem Cz{l:List RG}{f:Int→Int}{a n:Int}(hl:qI l f 16)(hn:0<n):GL (l.flatMap (gn a n)):=by
 obtain⟨h1,h2⟩:=Kr (a:=a) hl hn
 exact⟨fun r hr=>(h2 r hr).1,h1.imp (fun h=>.inl h)⟩
theorem Cm{f:Int→Int}(hf:Hd f){a n:Int}(hb:¬fB a n):(runs f).flatMap (mr a n)=fa (fun i=>f i != 0) a n.toNat:=by
 unfold fB at hb
 have hl:=mi hf
 refine ke (fun i=>i) ?_ (j9 _) fun i=> ?_
 ·rw[List.pairwise_flatMap]
  refine⟨fun r _=>nk _,hl.s.imp_of_mem ?_⟩
  intro x y hx hy h u hu v hv
  have h1:=iH.1 hu
  have h2:=iH.1 hv
  show u<v
  omega
 ·rw[List.mem_flatMap,iE]
  constructor
  ·rintro⟨r,hr,h⟩
   have h1:=iH.1 h
   have e:=(rA hf).h1 r hr i ⟨by omega,by omega⟩
   refine⟨by omega,?_⟩
   simp only[bne_iff_ne,ne_eq]
   rw[e];exact DE _
  ·rintro⟨h1,h2⟩
   simp only[bne_iff_ne,ne_eq]at h2
   obtain⟨r,hr,hh⟩:=(rA hf).h2 i h2
   have a1:=hh.1;have a2:=hh.2
   refine⟨r,hr,iH.2 ⟨by omega,?_⟩⟩
   omega
theorem tP{p:Int→Bool}{a:Int} :∀ k,(fa p a k).length≤k
 | 0=>by simp[fa]
 | k+1=>by
  have:=tP (p:=p) (a:=a) k
  rw[fa,List.length_append];split<;>simp<;>omega
theorem IA{l:List RG}{i:Int}(h:0≤i∧i<l.length):l[i.toNat]? =some (rat l i):=by
 unfold rat
 rw[List.getD_eq_getElem?_getD,List.getElem?_eq_getElem (by omega)]
 simp
theorem LY(q:Prop)[Decidable q](r:RG):(if q then [r]else []).length≤1:=by split<;>simp
end Go.X.Vm

namespace Go.X.Vm
open Go Go.X
def bu(pb:Nat)(bs:Int→Int→Int)(rf:Int→Int)(i:Nat):Value:=
 if i=0 then ptr pb 0 0 else
 if 1≤i∧(i-1)/8<64∧((i-1)%8)%1=0∧((i-1)%8)/1<8 then .int .u8 (bs (((i-1)/8:Nat):Int) ((((i-1)%8)/1:Nat):Int))else
 if 513≤i∧(i-513)%1=0∧(i-513)/1<64 then .int .i64 (rf (((i-513)/1:Nat):Int))else
 undef
theorem bu.Gv(pb:Nat)(bs:Int→Int→Int)(rf:Int→Int):(0+0)<577∧bu pb bs rf (0+0)=ptr pb 0 0:=by
 refine⟨by omega,?_⟩
 unfold bu
 rw[if_pos (by omega)]
theorem bu.lP(pb:Nat)(bs:Int→Int→Int)(rf:Int→Int)(z0:Int)(q0:0≤z0∧z0<64):((0+513)+z0.toNat*1)<577∧bu pb bs rf ((0+513)+z0.toNat*1)= .int .i64 (rf z0):=by
 refine⟨by omega,?_⟩
 unfold bu
 rw[if_neg (by omega)]
 rw[if_neg (by omega)]
 rw[if_pos (by omega)]
 rw[show(((((0+513)+z0.toNat*1)-513)/1:Nat):Int)=z0 from by omega]
theorem bu.uM(pb:Nat)(bs:Int→Int→Int)(rf:Int→Int)(z0:Int)(q0:0≤z0∧z0<64)(v:Int):((0+513)+z0.toNat*1)<577∧cH (bu pb bs rf) ((0+513)+z0.toNat*1) (.int .i64 (v))=bu pb bs (aa rf z0 v):=by
 refine⟨by omega,?_⟩
 funext j
 unfold cH
 by_cases hj:j=((0+513)+z0.toNat*1)
 ·rw[if_pos hj,hj,(bu.lP pb bs (aa rf z0 v) z0 q0).2]
  all_goals simp[aa,aX]
 ·rw[if_neg hj]
  unfold bu
  refine au (fun c0=> ?_) (fun c0=> ?_)
  ·first | rfl | simp[aa,aX]
  refine au (fun c1=> ?_) (fun c1=> ?_)
  ·first | rfl | simp[aa,aX]
  refine au (fun c2=> ?_) (fun c2=> ?_)
  ·have hne:¬((((j-513)/1:Nat):Int)=z0):=by omega
   simp only[aa,aX,hne,if_false,and_true,true_and]
  rfl
def bE(kb:Nat)(p:Option Addr)(n:Nat)(c:Nat)(fr:Int→Int)(own:Int→Bool)(i:Nat):Value:=
 if i=0 then ptr kb 0 0 else
 if i=1 then .slice p n c else
 if 2≤i∧(i-2)%2=0∧(i-2)/2<16 then .int .i64 (fr (((i-2)/2:Nat):Int)-1)else
 if 3≤i∧(i-3)%2=0∧(i-3)/2<16 then .bool (own (((i-3)/2:Nat):Int))else
 undef
theorem bE.Gi(kb:Nat)(p:Option Addr)(n:Nat)(c:Nat)(fr:Int→Int)(own:Int→Bool):(0+0)<34∧bE kb p n c fr own (0+0)=ptr kb 0 0:=by
 refine⟨by omega,?_⟩
 unfold bE
 rw[if_pos (by omega)]
theorem bE.Io(kb:Nat)(p:Option Addr)(n:Nat)(c:Nat)(fr:Int→Int)(own:Int→Bool):(0+1)<34∧bE kb p n c fr own (0+1)= .slice p n c:=by
 refine⟨by omega,?_⟩
 unfold bE
 rw[if_neg (by omega)]
 rw[if_pos (by omega)]
theorem bE.fi(kb:Nat)(p:Option Addr)(n:Nat)(c:Nat)(fr:Int→Int)(own:Int→Bool)(z0:Int)(q0:0≤z0∧z0<16):(((0+2)+z0.toNat*2)+0)<34∧bE kb p n c fr own (((0+2)+z0.toNat*2)+0)= .int .i64 (fr z0-1):=by
 refine⟨by omega,?_⟩
 unfold bE
 rw[if_neg (by omega)]
 rw[if_neg (by omega)]
 rw[if_pos (by omega)]
 rw[show((((((0+2)+z0.toNat*2)+0)-2)/2:Nat):Int)=z0 from by omega]
theorem bE.og(kb:Nat)(p:Option Addr)(n:Nat)(c:Nat)(fr:Int→Int)(own:Int→Bool)(z0:Int)(q0:0≤z0∧z0<16)(v:Int):(((0+2)+z0.toNat*2)+0)<34∧cH (bE kb p n c fr own) (((0+2)+z0.toNat*2)+0) (.int .i64 (v))=bE kb p n c (aa fr z0 (v+1)) own:=by
 refine⟨by omega,?_⟩
 funext j
 unfold cH
 by_cases hj:j=(((0+2)+z0.toNat*2)+0)
 ·rw[if_pos hj,hj,(bE.fi kb p n c (aa fr z0 (v+1)) own z0 q0).2]
  all_goals simp[aa,aX]
 ·rw[if_neg hj]
  unfold bE
  refine au (fun c0=> ?_) (fun c0=> ?_)
  ·first | rfl | simp[aa,aX]
  refine au (fun c1=> ?_) (fun c1=> ?_)
  ·first | rfl | simp[aa,aX]
  refine au (fun c2=> ?_) (fun c2=> ?_)
  ·have hne:¬((((j-2)/2:Nat):Int)=z0):=by omega
   simp only[aa,aX,hne,if_false,and_true,true_and]
  refine au (fun c3=> ?_) (fun c3=> ?_)
  ·first | rfl | simp[aa,aX]
  rfl
theorem bE.nY(kb:Nat)(p:Option Addr)(n:Nat)(c:Nat)(fr:Int→Int)(own:Int→Bool)(z0:Int)(q0:0≤z0∧z0<16):(((0+2)+z0.toNat*2)+1)<34∧bE kb p n c fr own (((0+2)+z0.toNat*2)+1)= .bool (own z0):=by
 refine⟨by omega,?_⟩
 unfold bE
 rw[if_neg (by omega)]
 rw[if_neg (by omega)]
 rw[if_neg (by omega)]
 rw[if_pos (by omega)]
 rw[show((((((0+2)+z0.toNat*2)+1)-3)/2:Nat):Int)=z0 from by omega]
theorem bE.od(kb:Nat)(p:Option Addr)(n:Nat)(c:Nat)(fr:Int→Int)(own:Int→Bool)(z0:Int)(q0:0≤z0∧z0<16)(v:Bool):(((0+2)+z0.toNat*2)+1)<34∧cH (bE kb p n c fr own) (((0+2)+z0.toNat*2)+1) (.bool (v))=bE kb p n c fr (aa own z0 v):=by
 refine⟨by omega,?_⟩
 funext j
 unfold cH
 by_cases hj:j=(((0+2)+z0.toNat*2)+1)
 ·rw[if_pos hj,hj,(bE.nY kb p n c fr (aa own z0 v) z0 q0).2]
  all_goals simp[aa,aX]
 ·rw[if_neg hj]
  unfold bE
  refine au (fun c0=> ?_) (fun c0=> ?_)
  ·first | rfl | simp[aa,aX]
  refine au (fun c1=> ?_) (fun c1=> ?_)
  ·first | rfl | simp[aa,aX]
  refine au (fun c2=> ?_) (fun c2=> ?_)
  ·first | rfl | simp[aa,aX]
  refine au (fun c3=> ?_) (fun c3=> ?_)
  ·have hne:¬((((j-3)/2:Nat):Int)=z0):=by omega
   simp only[aa,aX,hne,if_false,and_true,true_and]
  rfl
theorem CU(kb:Nat)(p:Option Addr)(n c:Nat)(fr:Int→Int)(own:Int→Bool)(i:Int)(h:0≤i∧i<16):0+2+i.toNat*2+2≤34∧cq (bE kb p n c fr own) (0+2+i.toNat*2) 2= .agg #[.int .i64 (fr i-1),.bool (own i)]:=by
 refine⟨by omega,?_⟩
 have h1:=(bE.fi kb p n c fr own i h).2
 have h2:=(bE.nY kb p n c fr own i h).2
 simp only[cq,List.range,List.range.loop,List.map_cons,List.map_nil]
 rw[h1,h2]
theorem r8(kb:Nat)(p:Option Addr)(n c:Nat)(fr:Int→Int)(own:Int→Bool)(i:Int)(f:Int)(w:Bool)(h:0≤i∧i<16):0+2+i.toNat*2+2≤34∧bQ (bE kb p n c fr own) (0+2+i.toNat*2) [.int .i64 f,.bool w]=bE kb p n c (aa fr i (f+1)) (aa own i w):=by
 refine⟨by omega,?_⟩
 simp only[bQ]
 have h1:=(bE.og kb p n c fr own i h f).2
 rw[show 0+2+i.toNat*2+0=0+2+i.toNat*2 from rfl]at h1
 rw[h1]
 exact(bE.od _ _ _ _ _ _ i h w).2
theorem EK(kb:Nat)(p:Option Addr)(n c:Nat)(fr:Int→Int)(own:Int→Bool)(p2:Option Addr)(n2 c2:Nat):0+1<34∧cH (bE kb p n c fr own) (0+1) (.slice p2 n2 c2)=bE kb p2 n2 c2 fr own:=by
 refine⟨by omega,?_⟩
 funext j
 unfold cH bE
 by_cases hj:j=0+1
 ·subst hj;rfl
 ·rw[if_neg hj]
  refine au (fun _=>rfl) (fun _=>au (fun c=> ?_) (fun _=>rfl))
  omega
end Go.X.Vm

namespace Go.X.Vm
open Go Go.X
theorem CY{i k:Int}(hk:0≤k∧k≤6):iT (iT i k) k=i:=by
 have hc:k=0∨k=1∨k=2∨k=3∨k=4∨k=5∨k=6:=by omega
 unfold iT
 by_cases c:(i/p2 k)%2=1
 ·have d:¬((i-p2 k)/p2 k)%2=1:=by
   rcases hc with rfl | rfl | rfl | rfl | rfl | rfl | rfl
   all_goals(simp only[yF,zR,y6,yH,zg,zQ,wW]at c ⊢;omega)
  rw[if_pos c,if_neg d];omega
 ·have d:((i+p2 k)/p2 k)%2=1:=by
   rcases hc with rfl | rfl | rfl | rfl | rfl | rfl | rfl
   all_goals(simp only[yF,zR,y6,yH,zg,zQ,wW]at c ⊢;omega)
  rw[if_neg c,if_pos d];omega
theorem Hu{a k:Int}(hk:0≤k∧k≤5)(h:a%p2 (k+1)=0):iT (a+p2 k) k=a:=by
 have hc:k=0∨k=1∨k=2∨k=3∨k=4∨k=5:=by omega
 have d:((a+p2 k)/p2 k)%2=1:=by
  rcases hc with rfl | rfl | rfl | rfl | rfl | rfl
  all_goals(simp only[Int.reduceAdd,yF,zR,y6,yH,zg,zQ,wW]at h ⊢;omega)
 unfold iT
 rw[if_pos d];omega
structure BB.Full (b:BB):Prop where
 inv:b.Inv
 cov:∀ j,0≤j→j<64→∃ i,i≤j∧0<b.ord i∧j<i+p2 (b.ord i-1)
 nb:∀ i,0<b.ord i→b.tk i=false→¬b.fh i
theorem BB.Full.init:BB.init.Full where
 inv:=BB.Inv.init
 cov:=fun j h0 h1=>⟨0,h0,by decide,by show j<0+p2 6;rw[wW];omega⟩
 nb:=fun i hi _ hc=>by
  have h1:=hc.1
  have:i=0:=by
   apply Classical.byContradiction;intro c
   rw[show BB.init.ord i=aa (fun _=>(0:Int)) 0 7 i from rfl,ad _ _ c]at hi;omega
  subst this
  have:BB.init.ord 0=7:=rfl
  omega
theorem BB.C6{b:BB}(h:b.Inv){a:Int}(ha:1<b.ord a)(hc:∀ j,0≤j→j<64→∃ i,i≤j∧0<b.ord i∧j<i+p2 (b.ord i-1)):∀ j,0≤j→j<64→∃ i,i≤j∧0<(b.split a).ord i∧j<i+p2 ((b.split a).ord i-1):=fun j h0 h1=>by
 obtain⟨s1,s2,s3,s4⟩:=h.split ha
 have e2:=lG (k:=b.ord a-2) (by omega)
 rw[show b.ord a-2+1=b.ord a-1 from by omega]at e2
 have hp:=q8 (b.ord a-2)
 have hne:¬a=a+p2 (b.ord a-2):=by omega
 have o1:∀ i,(b.split a).ord i=if i=a+p2 (b.ord a-2)then b.ord a-1 else if i=a then b.ord a-1 else b.ord i:=fun i=>rfl
 obtain⟨i,i1,i2,i3⟩:=hc j h0 h1
 by_cases c:i=a
 ·subst c
  by_cases c2:j<i+p2 (b.ord i-2)
  ·refine⟨i,i1,by omega,?_⟩
   rw[s4,show b.ord i-1-1=b.ord i-2 from by omega];exact c2
  ·refine⟨i+p2 (b.ord i-2),by omega,?_,?_⟩
   ·rw[o1,if_pos rfl];omega
   ·rw[o1,if_pos rfl,show b.ord i-1-1=b.ord i-2 from by omega];omega
 ·have c3:¬i=a+p2 (b.ord a-2):=by rintro rfl;omega
  refine⟨i,i1,?_,?_⟩
  ·rw[o1,if_neg c3,if_neg c];exact i2
  ·rw[o1,if_neg c3,if_neg c];exact i3
theorem BB.Full.splits:∀ (n:Nat) {b:BB} {a:Int},b.Full→(n:Int)<b.ord a→b.tk a=true→(BB.splits n b a).Full
 | 0,_,_,h,_,_=>h
 | n+1,b,a,h,ha,ht=>by
  obtain⟨s1,s2,s3,s4⟩:=h.inv.split (a:=a) (by omega)
  have hrg:=h.inv.gL a
  have e2:=lG (k:=b.ord a-2) (by omega)
  rw[show b.ord a-2+1=b.ord a-1 from by omega]at e2
  have hp:=q8 (b.ord a-2)
  have hne:¬a=a+p2 (b.ord a-2):=by omega
  have o1:∀ i,(b.split a).ord i=if i=a+p2 (b.ord a-2)then b.ord a-1 else if i=a then b.ord a-1 else b.ord i:=fun i=>rfl
  have hup:iT (a+p2 (b.ord a-2)) (b.ord a-2)=a:=Hu (by omega) (by rw[show b.ord a-2+1=b.ord a-1 from by omega];exact h.inv.al a (by omega))
  refine BB.Full.splits n ⟨s1,BB.C6 h.inv (by omega) h.cov,fun i hi hti hcj=> ?_⟩ (by rw[s4];omega) ht
  have hti2:b.tk i=false:=hti
  have hna:¬i=a:=by rintro rfl;rw[ht]at hti2;cases hti2
  obtain⟨c1,c2,c3⟩:=hcj
  by_cases c:i=a+p2 (b.ord a-2)
  ·have hb:(b.split a).bH i=a:=by
    unfold BB.bH
    rw[o1,if_pos c,show b.ord a-1-1=b.ord a-2 from by omega,c];exact hup
   rw[hb]at c3
   rw[show(b.split a).tk a=b.tk a from rfl,ht]at c3;cases c3
  ·have oi:(b.split a).ord i=b.ord i:=by rw[o1,if_neg c,if_neg hna]
   have hb:(b.split a).bH i=b.bH i:=by unfold BB.bH;rw[oi]
   rw[hb,oi]at c2
   rw[hb]at c3
   rw[oi]at hi c1
   have hba:¬b.bH i=a:=fun e=>by
    rw[e]at c3
    rw[show(b.split a).tk a=b.tk a from rfl,ht]at c3;cases c3
   by_cases d:b.bH i=a+p2 (b.ord a-2)
   ·rw[d,o1,if_pos rfl]at c2
    have e3:iT (b.bH i) (b.ord i-1)=i:=CY (by omega)
    rw[d,←c2,show b.ord a-1-1=b.ord a-2 from by omega,hup]at e3
    exact hna e3.symm
   ·rw[o1,if_neg d,if_neg hba]at c2
    exact h.nb i hi hti2 ⟨c1,c2,c3⟩
theorem BB.Full.eM{b:BB}(h:b.Full){a:Int}(ha:0<b.ord a):(b.eM a).Full:=by
 refine⟨h.inv.eM ha,h.cov,fun i hi hti hcj=> ?_⟩
 have t1:∀ j,(b.eM a).tk j=false→b.tk j=false:=fun j hj=>by
  have:aa b.tk a true j=false:=hj
  by_cases c:j=a
  ·rw[c,ae]at this;cases this
  ·rwa[ad _ _ c]at this
 obtain⟨c1,c2,c3⟩:=hcj
 exact h.nb i hi (t1 i hti) ⟨c1,c2,t1 _ c3⟩
theorem BB.Full.take{b:BB}(h:b.Full)(o:Int):(b.take o).2.2.Full:=by
 unfold BB.take
 split
 ·exact h
 ·rename_i ho
  split
  ·exact h
  ·rename_i k i hp
   obtain⟨h1,h2,h3,h4,h5⟩:=BB.mh hp
   have hh:=h.eM (a:=i) (by omega)
   exact BB.Full.splits _ hh (by show _<b.ord i;omega) (ae _ _ _)
def BB.over(b:BB)(i j:Int):Bool:=decide (0<b.ord i)&&decide (i≤j)&&decide (j<i+p2 (b.ord i-1))
theorem BB.Inv.Fz{b:BB}(h:b.Inv){o:Int}(he:(b.take o).2.1=0):(0≤o∧o≤6)∧(0≤(b.take o).1∧(b.take o).1<64)∧b.cJ (b.take o).1=0∧(b.take o).1%p2 o=0∧(b.take o).2.2.cJ=aa b.cJ (b.take o).1 (o+1):=by
 by_cases ho:o<0∨6<o
 ·rw[BB.zq ho]at he;simp at he
 ·cases hp:b.pick o with
  | none=>rw[BB.Dr ho hp]at he;simp at he
  | some x=>
   obtain⟨k,i⟩:=x
   obtain⟨h1,h2,h3,h4,h5⟩:=BB.mh hp
   have hu:=congrArg PB.u (h.Cd ho hp)
   have hi:=h.take o
   have hh:=h.eM (a:=i) (by omega)
   obtain⟨s1,_⟩:=hh.mN ((k:Int)-o).toNat (a:=i) (by show _<b.ord i;omega)
   have e1:(b.take o).1=i:=by rw[BB.l6 ho hp]
   have e2:(b.take o).2.2.ord i=o+1:=by
    rw[BB.l6 ho hp]
    show(BB.splits _ _ _).ord i=_
    rw[s1]
    show b.ord i-_=_
    omega
   have ha:=hi.al i (by rw[e2];omega)
   rw[e2,show o+1-1=o from by omega]at ha
   rw[e1]
   exact⟨by omega,by omega,by unfold BB.cJ;rw[if_neg (by simp[h5])],ha,hu.symm⟩
theorem BB.As(b:BB)(a:Int):(b.kI a).1=b.is a:=by
 by_cases h:b.is a=0
 ·rw[BB.qk h,h]
 ·rw[BB.nt h]
theorem BB.Inv.D4{b:BB}(h:b.Inv){a:Int}(he:(b.kI a).1=0):(0≤a∧a<64)∧¬b.cJ a=0∧(b.kI a).2.cJ=aa b.cJ a 0∧(b.kI a).2.tk=aa b.tk a false:=by
 rw[BB.As]at he
 obtain⟨h1,h2,h3⟩:=BB.vd he
 have hu:=congrArg PB.u (h.oC he)
 refine⟨⟨h1,h2⟩,?_,hu.symm,?_⟩
 ·have:=h.tk a h3
  unfold BB.cJ;rw[if_pos h3];omega
 ·rw[BB.qk he]
  exact BB.qS _ _ _
end Go.X.Vm
