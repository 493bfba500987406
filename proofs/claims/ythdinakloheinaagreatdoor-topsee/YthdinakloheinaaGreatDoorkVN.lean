import Derived.Test.YthdinakloheinaaGreatDoorkVBM
set_option linter.all false
namespace Go.X.Vm
open Go Go.X
variable{a i k z:Int}
structure RG where
 fr:Int
 n:Int
 w:Bool
def RG.nil:RG:=⟨0,0,false⟩
def RG.cO(r:RG):Array Value:= #[iI r.fr,iI r.n,.bool r.w]
def RG.cell(r:RG)(j:Nat):Value:=match j with
 | 0=>iI r.fr
 | 1=>iI r.n
 | 2=>.bool r.w
 | _=>undef
def bD(l:List RG)(z:Int):RG:=l.getD z.toNat RG.nil
def fb(l:List RG)(i:Nat):Value:=(l.getD (i/3) RG.nil).cell (i%3)
def pe(r:RG)(i:Nat):Value:=r.cell i
def pe.agg(r:RG):0+3<=3/\dc (pe r) 0 3= .agg r.cO:=⟨og,rfl⟩
theorem pe.box(r:RG):∀ i,i<3->cellsOf r.cO i=pe r i:=fun i h=>by
 match i,h with
 | 0,_=>rfl
 | 1,_=>rfl
 | 2,_=>rfl
 | k+3,h=>omega
theorem pe.f(r:RG):0+0<3/\pe r (0+0)=iI r.fr:=⟨og,rfl⟩
theorem pe.n(r:RG):0+1<3/\pe r (0+1)=iI r.n:=⟨og,rfl⟩
theorem pe.w(r:RG):0+2<3/\pe r (0+2)= .bool r.w:=⟨og,rfl⟩
theorem pe.st(r q:RG):0+3<=3/\cB (pe q) 0 r.cO.toList=pe r:=⟨og,by
 funext i
 match i with
 | 0=>rfl
 | 1=>rfl
 | 2=>rfl
 | k+3=>simp[cB,dE,RG.cO,pe,RG.cell]⟩
theorem zK(l:List RG)(h:0<=z/\z<l.length)(j:Nat)(hj:j<3:=by omega):fb l (0+z.toNat*3+j)=(bD l z).cell j:=by
 grind [fb,bD]
def fb.agg{l:List RG}{z:Int}(h:0<=z/\z<l.length):0+z.toNat*3+3<=l.length*3/\dc (fb l) (0+z.toNat*3) 3= .agg (bD l z).cO:=by
 refine⟨og,?_⟩;simp only[dc,List.range,List.range.loop,List.map_cons,List.map_nil];rw[zK l h 0,zK l h 1,zK l h 2];rfl
theorem fb.f{l:List RG}(h:0<=z/\z<l.length):0+z.toNat*3+0<l.length*3/\fb l (0+z.toNat*3+0)=iI (bD l z).fr:=⟨og,zK l h 0⟩
theorem fb.n{l:List RG}{z:Int}(h:0<=z/\z<l.length):0+z.toNat*3+1<l.length*3/\fb l (0+z.toNat*3+1)=iI (bD l z).n:=⟨og,zK l h 1⟩
theorem fb.w{l:List RG}{z:Int}(h:0<=z/\z<l.length):0+z.toNat*3+2<l.length*3/\fb l (0+z.toNat*3+2)= .bool (bD l z).w:=⟨og,zK l h 2⟩
def fb.app(l:List RG)(r:RG)(C1:Nat->Value)(hC:∀ i,i<3->C1 i=r.cell i):∀ i,i<(l.length+1)*3->fb (l++[r]) i=if i<l.length*3 then fb l i else C1 (i-l.length*3):=fun i hi=>by
 grind [fb]
def Hk(l:List RG)(r:RG):List RG:=l.dropLast++[r]
theorem AS{l:List RG}{r:RG}(h:0<l.length):(Hk l r).length=l.length:=by grind [Hk]
def fb.grow{l:List RG}(h:0<l.length)(m:Int):0+((l.length:Int)-1).toNat*3+1<l.length*3/\dE (fb l) (0+((l.length:Int)-1).toNat*3+1) (iI m)=fb (Hk l {bD l ((l.length:Int)-1)with n:=m}):=by
 refine⟨og,?_⟩;funext i;unfold dE fb Hk;simp only[List.getD_eq_getElem?_getD];by_cases c:i/3<l.length-1
 ·rw[if_neg og,List.getElem?_append_left (by simp;omega),List.getElem?_dropLast,if_pos c]
 ·by_cases c2:i/3=l.length-1
  ·rw[List.getElem?_append_right (by simp;omega),show i/3-l.dropLast.length=0 from by simp;omega];have e:l[i/3]?.getD RG.nil=bD l ((l.length:Int)-1):=by
    simp_all[bD]
   rw[e];have:i%3=0\/i%3=1\/i%3=2:=og;rcases this with q | q | q
   ·rw[if_neg og,q];rfl
   ·rw[if_pos og,q];rfl
   ·rw[if_neg og,q];rfl
  ·rw[if_neg og,List.getElem?_append_right (by simp;omega),List.getElem?_eq_none og,List.getElem?_eq_none (by simp;omega)]
def Ei(l:List RG)(r:RG):List RG:=match l.getLast? with
 | some q=>if q.fr+q.n=r.fr/\q.w=r.w then l.dropLast++[{q with n:=q.n+r.n}]else l++[r]
 | none=>[r]
theorem N1(r:RG):Ei [] r=[r]:=rfl
theorem JC(l:List RG)(q r:RG):Ei (l++[q]) r=if q.fr+q.n=r.fr/\q.w=r.w then l++[{q with n:=q.n+r.n}]else l++[q,r]:=by
 simp[Ei]
theorem TJ(l:List RG)(q:RG):bD (l++[q]) (((l++[q]).length:Int)-1)=q:=by
 simp_all[bD]
theorem uT{l:List RG}(h:0<l.length):∃ l' q,l=l'++[q]:=⟨l.dropLast,l.getLast (by intro e;rw[e]at h;simp at h),(List.dropLast_concat_getLast _).symm⟩
theorem XL{l:List RG}{r:RG}(h:0<l.length)(h1:(bD l ((l.length:Int)-1)).fr+(bD l ((l.length:Int)-1)).n=r.fr)(h2:(bD l ((l.length:Int)-1)).w=r.w):Ei l r=Hk l {bD l ((l.length:Int)-1)with n:=(bD l ((l.length:Int)-1)).n+r.n} :=by
 obtain⟨l',q,rfl⟩:=uT h;grind [TJ,Hk,Ei]
theorem CK{l:List RG}{r:RG}(h:0<l.length->¬((bD l ((l.length:Int)-1)).fr+(bD l ((l.length:Int)-1)).n=r.fr/\(bD l ((l.length:Int)-1)).w=r.w)):Ei l r=l++[r]:=by
 rcases Nat.eq_zero_or_pos l.length with q | q
 ·grind [Ei]
 ·obtain⟨l',x,rfl⟩:=uT q;simp_all[bD,Ei]
def P8(l:List RG)(a n m:Int)(w:Bool)(_:0<n):Ei (Ei l ⟨a,n,w⟩) ⟨a+n,m,w⟩=Ei l ⟨a,n+m,w⟩:=by
 rcases Nat.eq_zero_or_pos l.length with q | q
 ·grind [Ei]
 grind [Ei]
def mg(l:List RG):List RG:=l.foldl Ei []
def pY(a:Int)(w:Bool):Nat->List RG
 | 0=>[]
 | k+1=>pY a w k++[⟨a+k,1,w⟩]
theorem AU(l:List RG)(a:Int)(w:Bool):∀ k:Nat,0<k->(pY a w k).foldl Ei l=Ei l ⟨a,k,w⟩
 | 0,h=>og
 | 1,_=>by simp[pY]
 | k+2,_=>by
  rw[pY,List.foldl_append,AU l a w (k+1) og];have:=P8 l a ((k+1:Nat):Int) 1 w og;simp only[List.foldl_cons,List.foldl_nil];rw[this];congr 1
def RG.TK(r:RG):List RG:=pY r.fr r.w r.n.toNat
theorem JD:∀ (l:List RG) (jI:List RG),(∀ r∈l,0<r.n)->(l.flatMap RG.TK).foldl Ei jI=l.foldl Ei jI
 | [],_,_=>rfl
 | r::l,jI,h=>by
  have h1:=h r sq;simp only[List.flatMap_cons,List.foldl_append,List.foldl_cons];rw[RG.TK,AU jI r.fr r.w r.n.toNat og,JD l _ fun x hx=>h x (by simp[hx])];congr 2;cases r;simp only[RG.mk.injEq,true_and,and_true];simp at h1;omega
theorem ou{a:Int}{w:Bool}{u:RG} :∀ {k:Nat},u∈pY a w k↔∃ i:Int,a<=i/\i<a+k/\u=⟨i,1,w⟩
 | 0=>by simp only[pY,List.not_mem_nil,false_iff];rintro⟨i,h1,h2,_⟩;simp at h2;omega
 | k+1=>by
  rw[pY,List.mem_append,ou (k:=k),List.mem_singleton];grind
def xT{a:Int}{w:Bool} :∀ k:Nat,(pY a w k).Pairwise (fun x y=>x.fr<y.fr)
 | 0=>.nil
 | k+1=>by
  rw[pY,List.pairwise_append];refine⟨xT k,sq,fun x hx y hy=> ?_⟩;obtain⟨i,h1,h2,rfl⟩:=ou.1 hx;simp only[List.mem_singleton]at hy;subst hy;exact h2
def rK{α:Type}(f:α->Int):∀ {l m:List α},l.Pairwise (fun x y=>f x<f y)->m.Pairwise (fun x y=>f x<f y)->(∀ x,x∈l↔x∈m)->l=m
 | [],[],_,_,_=>rfl
 | [],y::m,_,_,h=>absurd ((h y).2 sq) sq
 | x::l,[],_,_,h=>absurd ((h x).1 sq) sq
 | x::l,y::m,hl,hm,h=>by
  rw[List.pairwise_cons]at hl hm;have e:x=y:=by
   grind
  subst e;congr 1;refine rK f hl.2 hm.2 fun z=> ?_;grind
def kd(w:Bool):Int:=if w then 2 else 1
structure RL (f:Int->Int):Prop where
 v:∀ i,f i=0\/f i=1\/f i=2
 out:∀ i,i<0\/16<=i->f i=0
def mz(f:Int->Int):Nat->List RG
 | 0=>[]
 | k+1=>mz f k++(if f k=0 then []else [⟨k,1,decide (f k=2)⟩])
def qH(f:Int->Int)(k:Nat):List RG:=mg (mz f k)
def aj(f:Int->Int):List RG:=qH f 16
theorem CL(f:Int->Int)(k:Nat):qH f (k+1)=if f k=0 then qH f k else Ei (qH f k) ⟨k,1,decide (f k=2)⟩:=by
 grind [qH,mg,mz]
theorem wE{f:Int->Int}{u:RG} :∀ {k:Nat},u∈mz f k↔∃ i:Int,0<=i/\i<k/\f i≠0/\u=⟨i,1,decide (f i=2)⟩
 | 0=>by simp only[mz,List.not_mem_nil,false_iff];rintro⟨i,h1,h2,_⟩;simp at h2;omega
 | k+1=>by
  rw[mz,List.mem_append,wE (k:=k)];grind
def vH{f:Int->Int} :∀ k:Nat,(mz f k).Pairwise (fun x y=>x.fr<y.fr)
 | 0=>.nil
 | k+1=>by
  rw[mz,List.pairwise_append];refine⟨vH k,by split<;>simp,fun x hx y hy=> ?_⟩;obtain⟨i,h1,h2,_,rfl⟩:=wE.1 hx;split at hy
  ·simp at hy
  ·simp only[List.mem_singleton]at hy;subst hy;exact h2
structure GL (l:List RG):Prop where
 b:∀ r∈l,0<=r.fr/\0<r.n/\r.fr+r.n<=16
 p:l.Pairwise fun x y=>x.fr+x.n<=y.fr\/y.fr+y.n<=x.fr
def RG.has(r:RG)(i:Int):Prop:=r.fr<=i/\i<r.fr+r.n
structure RM (l:List RG) (f:Int->Int):Prop where
 h1:∀ r∈l,∀ i,r.has i->f i=kd r.w
 h2:∀ i,f i≠0->∃ r∈l,r.has i
def GL.b8{l m:List RG}(h:GL l)(hp:l.Perm m):GL m:=
 ⟨fun r hr=>h.b r (hp.mem_iff.2 hr),(hp.pairwise_iff fun hxy=>hxy.symm).1 h.p⟩
def RM.b8{l m:List RG}{f:Int->Int}(h:RM l f)(hp:l.Perm m):RM m f:=
 ⟨fun r hr=>h.h1 r (hp.mem_iff.2 hr),fun i hi=>by obtain⟨r,hr,h2⟩:=h.h2 i hi;exact⟨r,hp.mem_iff.1 hr,h2⟩⟩
theorem TL(w:Bool):decide (kd w=2)=w:=by cases w<;>rfl
theorem N2(w:Bool):kd w≠0:=by cases w<;>decide
def XN{l:List RG}{f:Int->Int}(hg:GL l)(hc:RM l f)(hf:RL f)(hs:l.Pairwise fun x y=>x.fr<=y.fr):mg l=aj f:=by
 unfold aj qH;have e:l.flatMap RG.TK=mz f 16:=by
  refine rK (fun r=>r.fr) ?_ (vH 16) fun u=> ?_
  ·rw[List.pairwise_flatMap];refine⟨fun r _=>xT _,?_⟩;have hq:=hs.and hg.p;apply hq.imp_of_mem;rintro x y hx hy ⟨h1,h2⟩ u hu v hv;obtain⟨i,i1,i2,rfl⟩:=ou.1 hu;obtain⟨j,j1,j2,rfl⟩:=ou.1 hv;grind
  ·rw[List.mem_flatMap,wE];constructor
   ·rintro⟨r,hr,hu⟩;obtain⟨i,i1,i2,rfl⟩:=ou.1 hu;have hb:=hg.b r hr;have:=hc.h1 r hr i ⟨i1,og⟩;grind [N2,TL]
   ·rintro⟨i,i1,i2,i3,rfl⟩;obtain⟨r,hr,h⟩:=hc.h2 i i3;have hb:=hg.b r hr;refine⟨r,hr,ou.2 ⟨i,h.1,?_,?_⟩⟩
    ·have:=h.2;omega
    grind [RM.h1,TL]
 rw[<-e];exact(JD l [] fun r hr=>(hg.b r hr).2.1).symm
structure oQ (l:List RG) (f:Int->Int) (k:Nat):Prop where
 b:∀ r∈l,0<=r.fr/\0<r.n/\r.fr+r.n<=k
 s:l.Pairwise fun x y=>x.fr+x.n<=y.fr
 h1:∀ r∈l,∀ i,r.has i->f i=kd r.w
 h2:∀ i:Int,0<=i->i<k->f i≠0->∃ r∈l,r.has i
def JE{f:Int->Int}(hf:RL f):∀ k:Nat,oQ (qH f k) f k
 | 0=>⟨by intro r h;simp[qH,mz,mg]at h,by simp[qH,mz,mg],by intro r h;simp[qH,mz,mg]at h,fun i a b=>by simp at b;omega⟩
 | k+1=>by
  have ih:=JE hf k;rw[CL];split
  ·rename_i c;refine⟨fun r hr=> ?_,ih.s,ih.h1,fun i a b d=> ?_⟩
   ·have:=ih.b r hr;omega
   grind [oQ.h2]
  ·rename_i c;have hk:f k=kd (decide (f k=2)):=by
    rcases hf.v k with q | q | q
    ·omega
    ·rw[q];rfl
    ·rw[q];rfl
   rcases Nat.eq_zero_or_pos (qH f k).length with q | q
   ·rw[List.length_eq_zero_iff]at q;rw[q,N1];rw[q]at ih;refine⟨fun r hr=> ?_,sq,fun r hr i hi=> ?_,fun i a b d=> ?_⟩
    ·grind
    ·simp only[List.mem_singleton]at hr;subst hr;have:i=k:=by have:=hi.1;have:=hi.2;simp at*;omega
     grind
    ·by_cases e:i=k
     ·subst e;exact⟨_,List.mem_singleton.2 rfl,sq,by simp;omega⟩
     grind [oQ.h2]
   ·obtain⟨l',x,hx⟩:=uT q;rw[hx]at ih ⊢;rw[JC];have hbx:=ih.b x sq;have hsx:=(List.pairwise_append.1 ih.s).2.2;split
    ·rename_i d;obtain⟨d1,d2⟩:=d;refine⟨fun r hr=> ?_,?_,fun r hr i hi=> ?_,fun i a b e=> ?_⟩
     ·rcases List.mem_append.1 hr with hr | hr
      ·have:=ih.b r (by simp[hr]);omega
      grind
     ·rw[List.pairwise_append];refine⟨(List.pairwise_append.1 ih.s).1,sq,fun y hy z hz=> ?_⟩;grind
     ·rcases List.mem_append.1 hr with hr | hr
      ·grind [oQ.h1]
      ·simp only[List.mem_singleton]at hr;subst hr;have h1:=hi.1;have h2:=hi.2;simp at h1 h2 d1;by_cases e:i=k
       ·grind
       ·exact ih.h1 x sq i ⟨h1,og⟩
     ·by_cases e2:i=k
      ·refine⟨_,List.mem_append.2 (.inr (List.mem_singleton.2 rfl)),?_,?_⟩;all_goals grind
      ·obtain⟨r,hr,hh⟩:=ih.h2 i a og e;rcases List.mem_append.1 hr with hr | hr
       ·grind
       ·simp only[List.mem_singleton]at hr;subst hr;exact⟨_,List.mem_append.2 (.inr (List.mem_singleton.2 rfl)),hh.1,by have:=hh.2;simp;omega⟩
    ·rename_i d;have lB:∀ r,r∈l'++[x,⟨(k:Int),1,decide (f k=2)⟩]↔r∈l'++[x]\/r=⟨(k:Int),1,decide (f k=2)⟩:=fun r=>by simp[or_assoc]
     refine⟨fun r hr=> ?_,?_,fun r hr i hi=> ?_,fun i a b e=> ?_⟩
     ·rcases(lB r).1 hr with hr | hr
      ·have:=ih.b r hr;omega
      grind
     ·rw[show l'++[x,(⟨(k:Int),1,decide (f k=2)⟩:RG)]=(l'++[x])++[⟨(k:Int),1,decide (f k=2)⟩]from sq,List.pairwise_append];refine⟨ih.s,sq,fun y hy z hz=> ?_⟩;simp only[List.mem_singleton]at hz;subst hz;exact(ih.b y hy).2.2
     ·rcases(lB r).1 hr with hr | hr
      ·grind [oQ.h1]
      ·subst hr;have:i=k:=by have:=hi.1;have:=hi.2;simp at*;omega
       grind
     ·by_cases e2:i=k
      ·subst e2;exact⟨_,(lB _).2 (.inr rfl),sq,by simp;omega⟩
      grind [oQ.h2]
def jD{f:Int->Int}(hf:RL f):oQ (aj f) f 16:=JE hf 16
def XP{f:Int->Int}(hf:RL f):GL (aj f):=⟨(jD hf).b,(jD hf).s.imp fun h=>.inl h⟩
def oT{f:Int->Int}(hf:RL f):RM (aj f) f:=⟨(jD hf).h1,fun i hi=>by
 refine(jD hf).h2 i ?_ ?_ hi
 ·by_cases q:i<0
  ·exact absurd (hf.out i (.inl q)) hi
  ·omega
 ·by_cases q:i<16
  ·exact q
  ·exact absurd (hf.out i (.inr og)) hi⟩
theorem N3(l:List RG)(r:RG):(Ei l r).length<=l.length+1:=by
 grind [Ei]
def FK(f:Int->Int):∀ k,(qH f k).length<=k
 | 0=>by simp[qH,mz,mg]
 | k+1=>by
  rw[CL];have:=FK f k;grind [N3]
def qI(f:Int->Int):(aj f).length<=16:=FK f 16
def xU{l:List RG}(h:0<=z/\z<l.length:=by omega):bD l z∈l:=by
 grind [bD]
def XT{l:List RG}{r:RG}(h:r∈l):∃ z:Int,(0<=z/\z<l.length)/\bD l z=r:=by
 obtain⟨k,hk,rfl⟩:=List.mem_iff_getElem.1 h;refine⟨k,og,?_⟩;grind [bD]
def atP(l:List RG)(n:Int)(k:Int):Prop:=(k= -1/\∀ r∈l,¬r.has n)\/((0<=k/\k<l.length)/\(bD l k).has n)
def tG{f:Int->Int}(hf:RL f){n:Int}(h:atP (aj f) n k):(k<0↔f n=0)/\(0<=k->k<(aj f).length/\f n=kd (bD (aj f) k).w):=by
 rcases h with⟨rfl,h⟩ | ⟨h1,h2⟩
 ·refine⟨⟨fun _=> ?_,fun _=>og⟩,fun q=>og⟩;by_cases c:f n=0
  ·omega
  ·obtain⟨r,hr,hh⟩:=(oT hf).h2 n c;simp_all
 ·have e:=(oT hf).h1 _ (xU h1) n h2;grind [kd]
structure MS where
 aB:Int->Int
 fr:Int->Int
 bu:Int->Bool
structure VB where
 bb:BB
 iq:Int->Int->Int
 rf:Int->Int
def Bm(b:Int->Int->Int)(f:Int)(row:Int->Int):Int->Int->Int:=fun x j=>if x=f then row j else b x j
def gR{α:Type}(f:Int->α)(a m:Int)(v:α):Int->α:=fun i=>if a<=i/\i<a+m then v else f i
def VB.take(v:VB):Int×Int×VB:=if(v.bb.take 0).2.1≠0 then(0,(v.bb.take 0).2.1,v)else((v.bb.take 0).1,0,⟨(v.bb.take 0).2.2,Bm v.iq (v.bb.take 0).1 fun _=>0,ae v.rf (v.bb.take 0).1 1⟩)
def VB.drop(v:VB)(f:Int):VB:=if v.rf f-1=0 then⟨(v.bb.rI f).2,v.iq,ae v.rf f (v.rf f-1)⟩else⟨v.bb,v.iq,ae v.rf f (v.rf f-1)⟩
def VB.copy(v:VB)(f g:Int):VB:=⟨v.bb,Bm v.iq f (v.iq g),v.rf⟩
def gw(a m:Int):Prop:=a<0\/15<a\/m<1\/16-a<m
instance (a m:Int):Decidable (gw a m):=by unfold gw;infer_instance
def LZ(p:Int->Bool)(a:Int):Nat->Bool
 | 0=>false
 | k+1=>LZ p a k||p (a+k)
theorem wF{p:Int->Bool}{a:Int} :∀ {k:Nat},(∀ i:Int,a<=i->i<a+k->p i=false)->LZ p a k=false
 | 0,_=>rfl
 | k+1,h=>by rw[LZ,wF (k:=k) fun i h1 h2=>h i h1 og,h _ og og];rfl
theorem zL{p:Int->Bool}{a i:Int} :∀ {k:Nat},a<=i->i<a+k->p i=true->LZ p a k=true
 | 0,h1,h2,_=>by simp at h2;omega
 | k+1,h1,h2,h3=>by
  rw[LZ];by_cases c:i=a+k
  ·rw[<-c,h3];simp
  ·rw[zL (k:=k) h1 og h3];rfl
def MS.pZ(m:MS)(a n:Int):Int:=if gw a n then 1 else if LZ (fun i=>m.aB i != 0) a n.toNat then 3 else 0
def MS.kL(m:MS)(a n:Int):Int:=if gw a n then 1 else if LZ (fun i=>m.aB i==0) a n.toNat then 10 else 0
def MS.lay(m:MS)(a n:Int)(w:Bool):MS:= {m with aB:=gR m.aB a n (kd w)}
def MS.map(m:MS)(a n:Int)(w:Bool):MS:=if m.pZ a n=0 then m.lay a n w else m
def MS.nA(m:MS)(a n:Int)(w:Bool):MS:=if m.kL a n=0 then m.lay a n w else m
def unS(fr:Int->Int)(x:Int×VB)(i:Int):Int×VB:=if 0<fr i then(x.1+1,x.2.drop (fr i-1))else x
def kM(p:Int->Bool)(a:Int):Nat->List Int
 | 0=>[]
 | k+1=>kM p a k++(if p (a+k)then [a+k]else [])
def Wu(v:VB)(fr:Int->Int)(a:Int):Nat->Int×VB
 | 0=>(0,v)
 | k+1=>unS fr (Wu v fr a k) (a+k)
def tH(v:VB)(fr:Int->Int)(l:List Int):Int×VB:=l.foldl (unS fr) (0,v)
theorem JF(v:VB){fr:Int->Int}{p:Int->Bool}(hp:∀ i,p i=false->fr i=0)(a:Int):∀ k,Wu v fr a k=tH v fr (kM p a k)
 | 0=>rfl
 | k+1=>by
  rw[Wu,JF v hp a k,kM,tH,tH,List.foldl_append];cases h:p (a+k)with
  | true=>simp
  | false=>simp[unS,hp _ h]
theorem ov{p:Int->Bool}{a i:Int} :∀ {k:Nat},i∈kM p a k↔(a<=i/\i<a+k)/\p i=true
 | 0=>by simp only[kM,List.not_mem_nil,false_iff];rintro⟨⟨h1,h2⟩,_⟩;simp at h2;omega
 | k+1=>by
  rw[kM,List.mem_append,ov (k:=k)];grind
def rL{p:Int->Bool}{a:Int} :∀ k,(kM p a k).Pairwise (fun x y=>x<y)
 | 0=>.nil
 | k+1=>by
  rw[kM,List.pairwise_append];refine⟨rL k,by split<;>simp,fun x hx y hy=> ?_⟩;have:=ov.1 hx;split at hy
  ·simp only[List.mem_singleton]at hy;omega
  ·simp at hy
def MS.fJ(v:VB)(m:MS)(a n:Int):Int×Int×VB×MS:=if gw a n then(0,1,v,m)else
 ((Wu v m.fr a n.toNat).1,0,(Wu v m.fr a n.toNat).2,⟨gR m.aB a n 0,gR m.fr a n 0,gR m.bu a n false⟩)
def MS.y8(m:MS)(a:Int)(w:Bool):Bool:=decide (0<=a/\a<128)&&(m.aB (a/8)==2||(m.aB (a/8)==1&& !w))
def MS.tJ(m:MS)(a:Int):Bool:=m.y8 a false&&m.fr (a/8)==0
def MS.CM(m:MS)(n f:Int):MS:= {m with fr:=ae m.fr n (f+1),bu:=ae m.bu n true}
def MS.cw(v:VB)(m:MS)(a:Int)(w:Bool):Int×Int×VB×MS:=
 if m.y8 a w=false then(0,10,v,m)
 else if m.fr (a/8)=0 then(if v.take.2.1≠0 then(0,v.take.2.1,v,m)else(v.take.1,0,v.take.2.2,m.CM (a/8) v.take.1))
 else if w=false\/m.bu (a/8)=true then(m.fr (a/8)-1,0,v,m)
 else if v.rf (m.fr (a/8)-1)<=1 then(m.fr (a/8)-1,0,v,{m with bu:=ae m.bu (a/8) true})
 else if v.take.2.1≠0 then(0,v.take.2.1,v,m)
 else(v.take.1,0,(v.take.2.2.copy v.take.1 (m.fr (a/8)-1)).drop (m.fr (a/8)-1),m.CM (a/8) v.take.1)
def MS.load(v:VB)(m:MS)(a:Int):Int×Int×VB×MS:=let t:=m.cw v a false
 if t.2.1≠0 then(0,t.2.1,t.2.2)else(t.2.2.1.iq t.1 (a%8),0,t.2.2)
def MS.store(v:VB)(m:MS)(a b:Int):Int×VB×MS:=let t:=m.cw v a true
 if t.2.1≠0 then(t.2.1,t.2.2)else(0,⟨t.2.2.1.bb,cr t.2.2.1.iq t.1 (a%8) b,t.2.2.1.rf⟩,t.2.2.2)
def xV(rf fr:Int->Int):Nat->Int->Int
 | 0=>rf
 | k+1=>if 0<fr k then ae (xV rf fr k) (fr k-1) (xV rf fr k (fr k-1)+1)else xV rf fr k
def MS.bare(m:MS):MS:= {m with bu:=fun _=>false}
def VB.jO(v:VB)(m:MS):VB:= {v with rf:=xV v.rf m.fr 16}
def EL(fr:Int->Int):Nat->Int
 | 0=>0
 | k+1=>EL fr k+(if 0<fr k then 1 else 0)
def MS.CN(m:MS):Int:=EL m.fr 16
def MS.nil:MS:=⟨fun _=>0,fun _=>0,fun _=>false⟩
def N4(fr:Int->Int):∀ k:Nat,0<=EL fr k/\EL fr k<=k
 | 0=>by simp[EL]
 | k+1=>by have:=N4 fr k;rw[EL];split<;>omega
theorem FL(fr:Int->Int)(h:0<=i):EL fr (i+1).toNat=EL fr i.toNat+(if 0<fr i then 1 else 0):=by
 rw[show(i+1).toNat=i.toNat+1 from og,EL,show((i.toNat:Nat):Int)=i from og]
structure MS.Ok (m:MS):Prop where
 f:RL m.aB
 lo:∀ i,0<=m.fr i/\m.fr i<=64
 un:∀ i,m.aB i=0->m.fr i=0
 ow:∀ i,m.fr i=0->m.bu i=false
 inj:∀ i j,0<m.fr i->m.fr i=m.fr j->i=j
structure VB.Ok (v:VB):Prop where
 bb:v.bb.Inv
 rf:∀ f,0<=v.rf f/\v.rf f<=100000
 iq:∀ f j,0<=v.iq f j/\v.iq f j<256
def MS.In(m:MS)(v:VB):Prop:=∀ i,0<m.fr i->1<=v.rf (m.fr i-1)
theorem RL.gR{f:Int->Int}(h:RL f){a n:Int}(hb:¬gw a n){v:Int}(hv:v=0\/v=1\/v=2):RL (Go.X.Vm.gR f a n v):=by
 unfold gw at hb;refine⟨fun i=> ?_,fun i hi=> ?_⟩
 ·unfold Go.X.Vm.gR;split
  ·exact hv
  ·exact h.v i
 ·unfold Go.X.Vm.gR;rw[if_neg og];exact h.out i hi
def TM(w:Bool):kd w=0\/kd w=1\/kd w=2:=by cases w<;>simp[kd]
theorem MS.Ok.nil:MS.nil.Ok:=⟨⟨fun _=>.inl rfl,fun _ _=>rfl⟩,fun _=>by simp[MS.nil],fun _ _=>rfl,fun _ _=>rfl,fun i j h=>by simp[MS.nil]at h⟩
theorem MS.Ok.lay{m:MS}(h:m.Ok){a n:Int}(hb:¬gw a n)(w:Bool):(m.lay a n w).Ok:=
 ⟨h.f.gR hb (TM w),h.lo,fun i hi=>h.un i (by
  simp only[MS.lay,gR]at hi
  split at hi
  ·exact absurd hi (N2 w)
  ·exact hi),h.ow,h.inj⟩
theorem XU{m:MS}{n:Int}(h:m.pZ a n=0):¬gw a n:=by
 grind [MS.pZ]
theorem TN{m:MS}{n:Int}(h:m.kL a n=0):¬gw a n:=by
 grind [MS.kL]
theorem MS.Ok.map{m:MS}(h:m.Ok)(a n:Int)(w:Bool):(m.map a n w).Ok:=by
 grind [MS.map,MS.Ok.lay,XU]
theorem MS.Ok.nA{m:MS}(h:m.Ok)(a n:Int)(w:Bool):(m.nA a n w).Ok:=by
 grind [MS.nA,MS.Ok.lay,TN]
def MS.abE(m:MS)(a n:Int)(w:Bool):(m.map a n w).fr=m.fr/\(m.map a n w).bu=m.bu:=by unfold MS.map;split<;>exact⟨rfl,rfl⟩
def MS.XV(m:MS)(a n:Int)(w:Bool):(m.nA a n w).fr=m.fr/\(m.nA a n w).bu=m.bu:=by unfold MS.nA;split<;>exact⟨rfl,rfl⟩
def lY(a n:Int)(r:RG):List RG:=if min (r.fr+r.n) (a+n)<=max r.fr a then [r]else
 (if r.fr<max r.fr a then [⟨r.fr,max r.fr a-r.fr,r.w⟩]else [])++(if min (r.fr+r.n) (a+n)<r.fr+r.n then [⟨min (r.fr+r.n) (a+n),r.fr+r.n-min (r.fr+r.n) (a+n),r.w⟩]else [])
def jq(a:Int):Nat->List Int
 | 0=>[]
 | k+1=>jq a k++[a+k]
def uU(a n:Int)(r:RG):List Int:=jq (max r.fr a) (min (r.fr+r.n) (a+n)-max r.fr a).toNat
theorem qJ{a i:Int} :∀ {k:Nat},i∈jq a k↔a<=i/\i<a+k
 | 0=>by simp only[jq,List.not_mem_nil,false_iff];rintro⟨h1,h2⟩;simp at h2;omega
 | k+1=>by
  rw[jq,List.mem_append,qJ (k:=k),List.mem_singleton];omega
def xW{a:Int} :∀ k,(jq a k).Pairwise (fun x y=>x<y)
 | 0=>.nil
 | k+1=>by
  rw[jq,List.pairwise_append];refine⟨xW k,sq,fun x hx y hy=> ?_⟩;have:=qJ.1 hx;simp only[List.mem_singleton]at hy;omega
theorem zM(a:Int):∀ k,(jq a k).length=k
 | 0=>rfl
 | k+1=>by rw[jq,List.length_append,zM a k];rfl
def N5{n:Int}{r q:RG}(hn:0<n)(hr:0<r.n)(h:q∈lY a n r):0<q.n/\r.fr<=q.fr/\q.fr+q.n<=r.fr+r.n/\q.w=r.w/\(q.fr+q.n<=a\/a+n<=q.fr):=by
 grind [lY]
theorem XW{a n:Int}{r:RG}{i:Int}(hr:r.has i)(h:i<a\/a+n<=i):∃ q∈lY a n r,q.has i:=by
 obtain⟨h1,h2⟩:=hr;unfold lY;split
 ·simp_all[RG.has]
 ·rename_i c;by_cases d:i<max r.fr a
  ·refine⟨⟨r.fr,max r.fr a-r.fr,r.w⟩,List.mem_append.2 (.inl ?_),h1,?_⟩;all_goals grind
  ·refine⟨⟨min (r.fr+r.n) (a+n),r.fr+r.n-min (r.fr+r.n) (a+n),r.w⟩,List.mem_append.2 (.inr ?_),?_,?_⟩;all_goals grind
def TO{n:Int}{r:RG} :(lY a n r).Pairwise (fun x y=>x.fr+x.n<=y.fr):=by
 unfold lY;split
 ·simp
 ·rw[List.pairwise_append];refine⟨by split<;>simp,by split<;>simp,fun x hx y hy=> ?_⟩;grind
def L0{l:List RG}{f:Int->Int}{n:Int}(hl:oQ l f 16)(hn:0<n):(l.flatMap (lY a n)).Pairwise (fun x y=>x.fr+x.n<=y.fr)/\(∀ r∈l.flatMap (lY a n),(0<=r.fr/\0<r.n/\r.fr+r.n<=16)/\(r.fr+r.n<=a\/a+n<=r.fr)):=by
 constructor
 ·rw[List.pairwise_flatMap];refine⟨fun _ _=>TO,hl.s.imp_of_mem ?_⟩;grind [lY]
 ·intro r hr;obtain⟨x,hx,h⟩:=List.mem_flatMap.1 hr;have h1:=N5 hn (hl.b x hx).2.1 h;have:=hl.b x hx;omega
def CO{l:List RG}{f:Int->Int}{a n:Int}(hl:oQ l f 16)(hc:RM l f)(hn:0<n):RM (l.flatMap (lY a n)) (gR f a n 0):=by
 refine⟨fun r hr i hi=> ?_,fun i hi=> ?_⟩
 ·obtain⟨x,hx,h⟩:=List.mem_flatMap.1 hr;obtain⟨h1,h2,h3,h4,h5⟩:=N5 hn (hl.b x hx).2.1 h;have hi1:=hi.1;have Pr:=hi.2;unfold gR;rw[if_neg og,hc.h1 x hx i ⟨og,og⟩,h4]
 ·unfold gR at hi;split at hi
  ·omega
  ·obtain⟨r,hr,hh⟩:=hc.h2 i hi;grind [XW]
def FM{l:List RG}{f:Int->Int}{n:Int}(hl:oQ l f 16)(hn:0<n):GL (l.flatMap (lY a n)):=by
 obtain⟨h1,h2⟩:=L0 (a:=a) hl hn;exact⟨fun r hr=>(h2 r hr).1,h1.imp fun h=>.inl h⟩
def N6{l:List RG}{n:Int}{w:Bool}(hl:GL l)(hb:¬gw a n)(h:∀ r∈l,r.fr+r.n<=a\/a+n<=r.fr):GL (l++[⟨a,n,w⟩]):=by
 unfold gw at hb;refine⟨fun r hr=> ?_,?_⟩
 ·rcases List.mem_append.1 hr with hr | hr
  ·exact hl.b r hr
  grind
 grind [GL.p]
def JG{l:List RG}{f g:Int->Int}{n:Int}{w:Bool}(hc:RM l f)(h:∀ r∈l,r.fr+r.n<=a\/a+n<=r.fr)(hg:∀ i,¬(a<=i/\i<a+n)->g i=f i):RM (l++[⟨a,n,w⟩]) (gR g a n (kd w)):=by
 refine⟨fun r hr i hi=> ?_,fun i hi=> ?_⟩
 ·have h1:=hi.1;have h2:=hi.2;grind [gR,RM.h1]
 ·by_cases c:a<=i/\i<a+n
  ·exact⟨_,List.mem_append.2 (.inr (List.mem_singleton.2 rfl)),c.1,c.2⟩
  ·unfold gR at hi;rw[if_neg c,hg i c]at hi;obtain⟨r,hr,hh⟩:=hc.h2 i hi;grind
theorem P9{f:Int->Int}(hf:RL f){n:Int}(hb:¬gw a n):(aj f).flatMap (uU a n)=kM (fun i=>f i != 0) a n.toNat:=by
 unfold gw at hb;have hl:=jD hf;refine rK (fun i=>i) ?_ (rL _) fun i=> ?_
 ·rw[List.pairwise_flatMap];refine⟨fun r _=>xW _,hl.s.imp_of_mem ?_⟩;grind [qJ,uU]
 ·rw[List.mem_flatMap,ov];constructor
  ·rintro⟨r,hr,h⟩;have h1:=qJ.1 h;have e:=(oT hf).h1 r hr i ⟨og,og⟩;grind [N2]
  ·rintro⟨h1,h2⟩;simp only[bne_iff_ne,ne_eq]at h2;obtain⟨r,hr,hh⟩:=(oT hf).h2 i h2;have a1:=hh.1;have a2:=hh.2;grind [qJ,uU]
def FN{p:Int->Bool}{a:Int} :∀ k,(kM p a k).length<=k
 | 0=>by simp[kM]
 | k+1=>by
  have:=FN (p:=p) (a:=a) k;grind [kM]
theorem XX{l:List RG}(h:0<=i/\i<l.length):l[i.toNat]? =some (bD l i):=by
 grind [bD]
def abF(q:Prop)[Decidable q](r:RG):(if q then [r]else []).length<=1:=by split<;>simp
def dD(pb:Nat)(bs:Int->Int->Int)(rf:Int->Int)(i:Nat):Value:=
 if i=0 then aC pb 0 0 else
 if 1<=i/\(i-1)/8<64/\((i-1)%8)%1=0/\((i-1)%8)/1<8 then .int .u8 (bs (((i-1)/8:Nat):Int) ((((i-1)%8)/1:Nat):Int))else
 if 513<=i/\(i-513)%1=0/\(i-513)/1<64 then iI (rf (((i-513)/1:Nat):Int))else
 undef
def dD.JH(pb:Nat)(bs:Int->Int->Int)(rf:Int->Int):(0+0)<577/\dD pb bs rf (0+0)=aC pb 0 0:=by
 grind [dD]
def EM(pb:Nat)(bs:Int->Int->Int)(rf:Int->Int)(z0:Int)(z1:Int)(q0:0<=z0/\z0<64)(q1:0<=z1/\z1<8):(((0+1)+z0.toNat*8)+z1.toNat*1)<577/\dD pb bs rf (((0+1)+z0.toNat*8)+z1.toNat*1)= .int .u8 (bs z0 z1):=by
 grind [dD]
def vI(pb:Nat)(bs:Int->Int->Int)(rf:Int->Int)(z0:Int)(z1:Int)(q0:0<=z0/\z0<64)(q1:0<=z1/\z1<8)(v:Int):(((0+1)+z0.toNat*8)+z1.toNat*1)<577/\dE (dD pb bs rf) (((0+1)+z0.toNat*8)+z1.toNat*1) (.int .u8 (v))=dD pb (cr bs z0 z1 v) rf:=by
 grind [dE,cr,dD]
def iP(pb:Nat)(bs:Int->Int->Int)(rf:Int->Int)(z0:Int)(q0:0<=z0/\z0<64:=by omega):((0+513)+z0.toNat*1)<577/\dD pb bs rf ((0+513)+z0.toNat*1)=iI (rf z0):=by
 grind [dD]
def lL(pb:Nat)(bs:Int->Int->Int)(rf:Int->Int)(z0:Int)(q0:0<=z0/\z0<64)(v:Int):((0+513)+z0.toNat*1)<577/\dE (dD pb bs rf) ((0+513)+z0.toNat*1) (iI (v))=dD pb bs (ae rf z0 v):=by
 grind [dE,ae,dD]
def b6(kb:Nat)(p:Option Addr)(n:Nat)(c:Nat)(fr:Int->Int)(bu:Int->Bool)(i:Nat):Value:=
 if i=0 then aC kb 0 0 else
 if i=1 then .slice p n c else
 if 2<=i/\(i-2)%2=0/\(i-2)/2<16 then iI (fr (((i-2)/2:Nat):Int)-1)else
 if 3<=i/\(i-3)%2=0/\(i-3)/2<16 then .bool (bu (((i-3)/2:Nat):Int))else
 undef
def b6.zN(kb:Nat)(p:Option Addr)(n:Nat)(c:Nat)(fr:Int->Int)(bu:Int->Bool):(0+0)<34/\b6 kb p n c fr bu (0+0)=aC kb 0 0:=by
 grind [b6]
def lr(kb:Nat)(p:Option Addr)(n:Nat)(c:Nat)(fr:Int->Int)(bu:Int->Bool):(0+1)<34/\b6 kb p n c fr bu (0+1)= .slice p n c:=by
 grind [b6]
def bO(kb:Nat)(p:Option Addr)(n:Nat)(c:Nat)(fr:Int->Int)(bu:Int->Bool)(z0:Int)(q0:0<=z0/\z0<16:=by omega):(((0+2)+z0.toNat*2)+0)<34/\b6 kb p n c fr bu (((0+2)+z0.toNat*2)+0)=iI (fr z0-1):=by
 grind [b6]
def pE(kb:Nat)(p:Option Addr)(n:Nat)(c:Nat)(fr:Int->Int)(bu:Int->Bool)(z0:Int)(q0:0<=z0/\z0<16)(v:Int):(((0+2)+z0.toNat*2)+0)<34/\dE (b6 kb p n c fr bu) (((0+2)+z0.toNat*2)+0) (iI (v))=b6 kb p n c (ae fr z0 (v+1)) bu:=by
 grind [dE,ae,b6]
def xX(kb:Nat)(p:Option Addr)(n:Nat)(c:Nat)(fr:Int->Int)(bu:Int->Bool)(z0:Int)(q0:0<=z0/\z0<16):(((0+2)+z0.toNat*2)+1)<34/\b6 kb p n c fr bu (((0+2)+z0.toNat*2)+1)= .bool (bu z0):=by
 grind [b6]
theorem ib(kb:Nat)(p:Option Addr)(n:Nat)(c:Nat)(fr:Int->Int)(bu:Int->Bool)(z0:Int)(q0:0<=z0/\z0<16)(v:Bool):(((0+2)+z0.toNat*2)+1)<34/\dE (b6 kb p n c fr bu) (((0+2)+z0.toNat*2)+1) (.bool (v))=b6 kb p n c fr (ae bu z0 v):=by
 grind [dE,ae,b6]
def TP(row:Int->Int):Array Value:=((List.range 8).map fun (j:Nat)=>Value.int .u8 (row (j:Int))).toArray
def TQ(pb:Nat)(bs:Int->Int->Int)(rf:Int->Int)(f:Int)(h:0<=f/\f<64):0+1+f.toNat*8+8<=577/\dc (dD pb bs rf) (0+1+f.toNat*8) 8= .agg (TP (bs f)):=by
 refine⟨og,?_⟩;unfold dc TP;congr 2;apply List.map_congr_left;grind [dD]
def FO(pb:Nat)(bs:Int->Int->Int)(rf:Int->Int)(f:Int)(row:Int->Int)(h:0<=f/\f<64:=by omega):0+1+f.toNat*8+8<=577/\cB (dD pb bs rf) (0+1+f.toNat*8) (TP row).toList=dD pb (Bm bs f row) rf:=by
 refine⟨og,?_⟩;have e:(TP row).toList=[.int .u8 (row 0),.int .u8 (row 1),.int .u8 (row 2),.int .u8 (row 3),.int .u8 (row 4),.int .u8 (row 5),.int .u8 (row 6),.int .u8 (row 7)]:=rfl;rw[e];simp only[cB];have st:∀ (bs:Int->Int->Int) (j:Nat) (v:Int),j<8->dE (dD pb bs rf) (0+1+f.toNat*8+j) (.int .u8 v)=dD pb (cr bs f j v) rf:=fun bs j v hj=>by
  have:=(vI pb bs rf f (j:Int) h og v).2;simp_all
 have s0:=st bs 0 (row 0) og;rw[show 0+1+f.toNat*8+0=0+1+f.toNat*8 from rfl]at s0;rw[s0,st _ 1 _ og,show 0+1+f.toNat*8+1+1=0+1+f.toNat*8+2 from rfl,st _ 2 _ og,show 0+1+f.toNat*8+2+1=0+1+f.toNat*8+3 from rfl,st _ 3 _ og,show 0+1+f.toNat*8+3+1=0+1+f.toNat*8+4 from rfl,st _ 4 _ og,
  show 0+1+f.toNat*8+4+1=0+1+f.toNat*8+5 from rfl,st _ 5 _ og,show 0+1+f.toNat*8+5+1=0+1+f.toNat*8+6 from rfl,st _ 6 _ og,show 0+1+f.toNat*8+6+1=0+1+f.toNat*8+7 from rfl,st _ 7 _ og]
 funext i;unfold dD;refine gW (fun _=>rfl) fun _=>gW (fun c=> ?_) fun _=>rfl;congr 1;simp only[Bm,cr];grind
def Qa(kb:Nat)(p:Option Addr)(n c:Nat)(fr:Int->Int)(bu:Int->Bool)(i:Int)(h:0<=i/\i<16):0+2+i.toNat*2+2<=34/\dc (b6 kb p n c fr bu) (0+2+i.toNat*2) 2= .agg #[iI (fr i-1),.bool (bu i)]:=by
 grind [dc,List.range,List.range.loop,b6]
def rM(kb:Nat)(p:Option Addr)(n c:Nat)(fr:Int->Int)(bu:Int->Bool)(i:Int)(f:Int)(w:Bool)(h:0<=i/\i<16:=by omega):0+2+i.toNat*2+2<=34/\cB (b6 kb p n c fr bu) (0+2+i.toNat*2) [iI f,.bool w]=b6 kb p n c (ae fr i (f+1)) (ae bu i w):=by
 refine⟨og,?_⟩;simp only[cB];have h1:=(pE kb p n c fr bu i h f).2;simp_all[ib]
def Hl(kb:Nat)(p:Option Addr)(n c:Nat)(fr:Int->Int)(bu:Int->Bool)(p2:Option Addr)(n2 c2:Nat):0+1<34/\dE (b6 kb p n c fr bu) (0+1) (.slice p2 n2 c2)=b6 kb p2 n2 c2 fr bu:=by
 grind [dE,b6]
def Qb(hk:0<=k/\k<=6):nO (nO i k) k=i:=by
 grind [nO,ahA,aeK,XA,aeL,XD,aeM,ahB]
def XY(hk:0<=k/\k<=5)(h:a%p2 (k+1)=0):nO (a+p2 k) k=a:=by
 grind [p2,XA,XD,nO]
structure BB.CP (b:BB):Prop where
 dS:b.Inv
 cov:∀ j,0<=j->j<64->∃ i,i<=j/\0<b.bS i/\j<i+p2 (b.bS i-1)
 nb:∀ i,0<b.bS i->b.tk i=false->¬b.jC i
def Hm{b:BB}(h:b.Inv)(ha:1<b.bS a)(hc:∀ j,0<=j->j<64->∃ i,i<=j/\0<b.bS i/\j<i+p2 (b.bS i-1)):∀ j,0<=j->j<64->∃ i,i<=j/\0<(b.split a).bS i/\j<i+p2 ((b.split a).bS i-1):=fun j h0 h1=>by
 obtain⟨s1,s2,s3,s4⟩:=h.split ha;have e2:=uS (k:=b.bS a-2);rw[show b.bS a-2+1=b.bS a-1 from og]at e2;have hp:=wz (b.bS a-2);have gK:¬a=a+p2 (b.bS a-2):=og;have o1:∀ i,(b.split a).bS i=if i=a+p2 (b.bS a-2)then b.bS a-1 else if i=a then b.bS a-1 else b.bS i:=fun i=>rfl
 grind
theorem BB.CP.gQ:∀ (n:Nat) {b:BB} {a:Int},b.CP->(n:Int)<b.bS a->b.tk a=true->(BB.gQ n b a).CP
 | 0,_,_,h,_,_=>h
 | n+1,b,a,h,ha,ht=>by
  obtain⟨s1,s2,s3,s4⟩:=h.dS.split (a:=a) og;have Li:=h.dS.kv a;have e2:=uS (k:=b.bS a-2);rw[show b.bS a-2+1=b.bS a-1 from og]at e2;have hp:=wz (b.bS a-2);have gK:¬a=a+p2 (b.bS a-2):=og;have o1:∀ i,(b.split a).bS i=if i=a+p2 (b.bS a-2)then b.bS a-1 else if i=a then b.bS a-1 else b.bS i:=fun i=>rfl
  have FP:nO (a+p2 (b.bS a-2)) (b.bS a-2)=a:=XY og (by rw[show b.bS a-2+1=b.bS a-1 from og];exact h.dS.al a og);refine BB.CP.gQ n ⟨s1,Hm h.dS og h.cov,fun i hi hti hcj=> ?_⟩ (by rw[s4];omega) ht;have abG:b.tk i=false:=hti;have hna:¬i=a:=by rintro rfl;rw[ht]at abG;cases abG
  obtain⟨c1,c2,c3⟩:=hcj;by_cases c:i=a+p2 (b.bS a-2)
  ·have hb:(b.split a).dB i=a:=by
    unfold BB.dB;rw[o1,if_pos c,show b.bS a-1-1=b.bS a-2 from og,c];exact FP
   rw[hb]at c3;rw[show(b.split a).tk a=b.tk a from rfl,ht]at c3;cases c3
  ·have oi:(b.split a).bS i=b.bS i:=by rw[o1,if_neg c,if_neg hna]
   have hb:(b.split a).dB i=b.dB i:=by unfold BB.dB;rw[oi]
   rw[hb,oi]at c2;rw[hb]at c3;rw[oi]at hi c1;have hba:¬b.dB i=a:=fun e=>by
    rw[e]at c3;rw[show(b.split a).tk a=b.tk a from rfl,ht]at c3;cases c3
   by_cases d:b.dB i=a+p2 (b.bS a-2)
   ·rw[d,o1,if_pos rfl]at c2;have e3:nO (b.dB i) (b.bS i-1)=i:=Qb og;rw[d,<-c2,show b.bS a-1-1=b.bS a-2 from og,FP]at e3;exact hna e3.symm
   ·rw[o1,if_neg d,if_neg hba]at c2;exact h.nb i hi abG ⟨c1,c2,c3⟩
theorem BB.CP.gP{b:BB}(h:b.CP){a:Int}(ha:0<b.bS a):(b.gP a).CP:=by
 refine⟨h.dS.gP ha,h.cov,fun i hi hti hcj=> ?_⟩;have t1:∀ j,(b.gP a).tk j=false->b.tk j=false:=fun j hj=>by
  have:ae b.tk a true j=false:=hj;grind [au,ai]
 obtain⟨c1,c2,c3⟩:=hcj;exact h.nb i hi (t1 i hti) ⟨c1,c2,t1 _ c3⟩
theorem BB.CP.take{b:BB}(h:b.CP)(o:Int):(b.take o).2.2.CP:=by
 unfold BB.take;split
 ·omega
 ·rename_i ho;split
  ·omega
  ·rename_i k i hp;obtain⟨h1,h2,h3,h4,h5⟩:=nW hp;have hh:=h.gP (a:=i) og;exact BB.CP.gQ _ hh (by show _<b.bS i;omega) (au _ _ _)
theorem qB{f:Int->Bool} :∀ {k:Nat} {a:Int},a∈fl f k↔0<=a/\a<k/\f a=true
 | 0,a=>by simp[fl];omega
 | k+1,a=>by
  simp only[fl,List.mem_append,qB (k:=k)];grind
def CQ{f:Int->Bool} :∀ k:Nat,(fl f k).Nodup
 | 0=>List.nodup_nil
 | k+1=>by
  rw[fl,List.nodup_append];refine⟨CQ k,?_,?_⟩
  ·split<;>simp
  ·intro a ha c hc;by_cases q:f k=true
   ·rw[if_pos q]at hc;have:c=k:=by simpa using hc
    have:=(qB.1 ha).2.1;omega
   ·rw[if_neg q]at hc;cases hc
def Hn{b:BB}{o:Int}(h:¬(b.take o).2.1=0):(b.take o).2.2=b:=by
 grind [BB.take]
def BB.Inv.CR{b:BB}(h:b.Inv){o:Int}(he:(b.take o).2.1=0):(0<=o/\o<=6)/\(0<=(b.take o).1/\(b.take o).1<64)/\b.ej (b.take o).1=0/\(b.take o).1%p2 o=0/\(b.take o).2.2.ej=ae b.ej (b.take o).1 (o+1):=by
 by_cases ho:o<0\/6<o
 ·grind [pX]
 ·cases hp:b.pick o with
  | none=>rw[xL ho hp]at he;simp at he
  | some x=>
   obtain⟨k,i⟩:=x;obtain⟨h1,h2,h3,h4,h5⟩:=nW hp;have hu:=congrArg PB.u (h.FH ho hp);have hi:=h.take o;have hh:=h.gP (a:=i) og;obtain⟨s1,_⟩:=hh.wD ((k:Int)-o).toNat (a:=i) (by show _<b.bS i;omega);have e1:(b.take o).1=i:=by rw[BB.lJ ho hp]
   have e2:(b.take o).2.2.bS i=o+1:=by
    rw[BB.lJ ho hp];show(BB.gQ _ _ _).bS i=_;rw[s1];show b.bS i-_=_;omega
   have ha:=hi.al i (by rw[e2];omega);rw[e2,show o+1-1=o from og]at ha;rw[e1];exact⟨og,og,by unfold BB.ej;rw[if_neg (by simp[h5])],ha,hu.symm⟩
theorem CS(b:BB)(a:Int):(b.rI a).1=b.is a:=by
 grind [rJ,pD]
def BB.Inv.TR{b:BB}(h:b.Inv)(he:(b.rI a).1=0):(0<=a/\a<64)/\¬b.ej a=0/\(b.rI a).2.ej=ae b.ej a 0/\(b.rI a).2.tk=ae b.tk a false:=by
 rw[CS]at he;obtain⟨h1,h2,h3⟩:=wA he;have hu:=congrArg PB.u (h.zI he);refine⟨⟨h1,h2⟩,?_,hu.symm,?_⟩
 ·grind [BB.ej,Inv]
 ·rw[rJ he];exact BB.CJ _ _ _
def zKl(b:Nat):List Value:=aC b 0 0::(List.replicate 512 (Value.int .u8 0)++List.replicate 64 (Value.int .i64 0))
def VB.cP:VB:=⟨BB.cP,fun _ _=>0,fun _=>0⟩
theorem VB.Ok.cP:VB.cP.Ok:=⟨BB.Inv.cP,fun _=>by simp[VB.cP],fun _ _=>by simp[VB.cP]⟩
def abH(b:Nat):∀ i,i<577->cellsOf (zKl b).toArray i=dD b VB.cP.iq VB.cP.rf i:=fun i hi=>by
 unfold cellsOf zKl dD;rw[Array.getD_eq_getD_getElem?,List.getElem?_toArray];by_cases h0:i=0
 ·grind
 ·rw[if_neg h0,show i=(i-1)+1 from og,List.getElem?_cons_succ];by_cases h1:i-1<512
  ·rw[List.getElem?_append_left (by rw[List.length_replicate];exact h1),List.getElem?_replicate,if_pos h1];rw[if_pos og];rfl
  ·rw[List.getElem?_append_right (by rw[List.length_replicate];omega),List.length_replicate,List.getElem?_replicate,if_pos og];rw[if_neg og,if_pos og];rfl
def zNl(b:Nat):List Value:=aC b 0 0:: .slice none 0 0::(List.replicate 16 [Value.int .i64 0,Value.bool false]).flatten
def TT(b:Nat):∀ i,i<34->cellsOf (zNl b).toArray i=b6 b none 0 0 (fun _=>1) (fun _=>false) i:=fun i hi=>by
 unfold cellsOf zNl b6;rw[Array.getD_eq_getD_getElem?,List.getElem?_toArray];by_cases h0:i=0
 ·simp_all
 ·rw[if_neg h0];by_cases h1:i=1
  ·simp_all
  ·rw[if_neg h1];have h:∀ k,k<32->((List.replicate 16 [Value.int .i64 0,Value.bool false]).flatten)[k]? =some (if k%2=0 then Value.int .i64 0 else .bool false):=fun k hk=>match k,hk with
    | 0,_=>rfl
    | 1,_=>rfl
    | 2,_=>rfl
    | 3,_=>rfl
    | 4,_=>rfl
    | 5,_=>rfl
    | 6,_=>rfl
    | 7,_=>rfl
    | 8,_=>rfl
    | 9,_=>rfl
    | 10,_=>rfl
    | 11,_=>rfl
    | 12,_=>rfl
    | 13,_=>rfl
    | 14,_=>rfl
    | 15,_=>rfl
    | 16,_=>rfl
    | 17,_=>rfl
    | 18,_=>rfl
    | 19,_=>rfl
    | 20,_=>rfl
    | 21,_=>rfl
    | 22,_=>rfl
    | 23,_=>rfl
    | 24,_=>rfl
    | 25,_=>rfl
    | 26,_=>rfl
    | 27,_=>rfl
    | 28,_=>rfl
    | 29,_=>rfl
    | 30,_=>rfl
    | 31,_=>rfl
    | k+32,h=>absurd h og
   grind
theorem rO{kb:Nat}{p:Option Addr}{n c:Nat}{f f':Int->Int}{o o':Int->Bool}(h:∀ i:Int,0<=i->i<16->f i=f' i/\o i=o' i):b6 kb p n c f o=b6 kb p n c f' o':=by
 grind [b6]
def frI(i:Int):Int->Int:=fun j=>if 0<=j/\j<i then 0 else 1
theorem TU(h:0<=i):ae (frI i) i (-1+1)=frI (i+1):=by
 grind [ae,frI]
theorem TV:aj MS.nil.aB=[]:=dk
theorem VB.lJ{v:VB}(h:(v.bb.take 0).2.1=0):v.take=((v.bb.take 0).1,0,⟨(v.bb.take 0).2.2,Bm v.iq (v.bb.take 0).1 fun _=>0,ae v.rf (v.bb.take 0).1 1⟩):=by grind [VB.take]
theorem mA{v:VB}(h:¬(v.bb.take 0).2.1=0):v.take=(0,(v.bb.take 0).2.1,v):=by grind [VB.take]
def pF{v:VB}(hv:v.Ok)(h:v.take.2.1=0):0<=v.take.1/\v.take.1<64:=by
 by_cases c:(v.bb.take 0).2.1=0
 ·rw[VB.lJ c];exact(hv.bb.CR c).2.1
 grind [mA]
theorem VB.Ok.take{v:VB}(hv:v.Ok):v.take.2.2.Ok:=by
 by_cases c:(v.bb.take 0).2.1=0
 ·rw[VB.lJ c];refine⟨hv.bb.take 0,fun f=> ?_,fun f j=> ?_⟩
  ·show 0<=ae v.rf _ 1 f/\ae v.rf _ 1 f<=100000;unfold ae;split
   ·omega
   ·exact hv.rf f
  ·show 0<=Bm v.iq (v.bb.take 0).1 (fun _=>0) f j/\Bm v.iq (v.bb.take 0).1 (fun _=>0) f j<256;unfold Bm;split
   ·simp
   ·exact hv.iq f j
 grind [mA]
theorem VB.Ok.drop{v:VB}(hv:v.Ok){f:Int}(h:1<=v.rf f):(v.drop f).Ok:=by
 have hr:∀ g,0<=ae v.rf f (v.rf f-1) g/\ae v.rf f (v.rf f-1) g<=100000:=fun g=>by
  unfold ae;split
  ·have:=hv.rf f;omega
  ·exact hv.rf g
 unfold VB.drop;split
 ·exact⟨hv.bb.rI f,hr,hv.iq⟩
 ·exact⟨hv.bb,hr,hv.iq⟩
theorem CT(v:VB)(f:Int):(v.drop f).rf=ae v.rf f (v.rf f-1)/\(v.drop f).iq=v.iq:=by grind [VB.drop]
theorem zO{v:VB}{f:Int}(h:v.rf f-1=0):v.drop f=⟨(v.bb.rI f).2,v.iq,ae v.rf f (v.rf f-1)⟩:=by grind [VB.drop]
theorem zP{v:VB}{f:Int}(h:¬v.rf f-1=0):v.drop f=⟨v.bb,v.iq,ae v.rf f (v.rf f-1)⟩:=by grind [VB.drop]
def RG.TW(r:RG)(i:Int):Bool:=decide (r.fr<=i)&&decide (i<r.fr+r.n)
theorem AV(r:RG)(i:Int):r.TW i=true↔r.has i:=by unfold RG.TW RG.has;simp
def pgA(fr:Int->Int)(bu:Int->Bool):Array Value:=((List.range 32).map fun (j:Nat)=>if j%2=0 then Value.int .i64 (fr ((j/2:Nat):Int)-1)else .bool (bu ((j/2:Nat):Int))).toArray
def L3(kb:Nat)(p:Option Addr)(n c:Nat)(fr:Int->Int)(bu:Int->Bool):0+2+32<=34/\dc (b6 kb p n c fr bu) (0+2) 32= .agg (pgA fr bu):=by
 refine⟨og,?_⟩;rfl
def abJ{fr:Int->Int}{bu:Int->Bool}(h:0<=z/\z<16):(pgA fr bu).extract (z.toNat*2) (z.toNat*2+2)= #[iI (fr z-1),.bool (bu z)]:=by
 have hs:(pgA fr bu).size=32:=by simp[pgA]
 apply Array.ext
 ·grind
 ·intro i h1 h2;have h3:i=0\/i=1:=by simp at h2;omega
  rw[Array.getElem_extract];rcases h3 with rfl | rfl
  ·simp only[pgA,List.getElem_toArray,List.getElem_map,List.getElem_range,Nat.add_zero];grind
  ·simp only[pgA,List.getElem_toArray,List.getElem_map,List.getElem_range];grind
def Qc{l:List RG} :(bV (fb l) (l.length*3)).all one=true:=by
 rw[List.all_eq_true];intro v hv;simp only[bV,List.mem_map,List.mem_range]at hv;obtain⟨j,hj,rfl⟩:=hv;unfold fb RG.cell;grind [one]
def N7(f:Int)(w:Bool)(i:Nat):Value:=if i=0 then iI f else if i=1 then .bool w else undef
theorem N7.f(f:Int)(w:Bool):0+0<2/\N7 f w (0+0)=iI f:=⟨og,rfl⟩
theorem N7.w(f:Int)(w:Bool):0+1<2/\N7 f w (0+1)= .bool w:=⟨og,rfl⟩
theorem N7.box(f:Int)(w:Bool):∀ i,i<2->cellsOf #[iI f,.bool w] i=N7 f w i:=fun i h=>by
 match i,h with
 | 0,_=>rfl
 | 1,_=>rfl
 | k+2,h=>omega
theorem N7.st(f g:Int)(w u:Bool):0+2<=2/\cB (N7 g u) 0 [iI f,.bool w]=N7 f w:=⟨og,by
 funext i
 match i with
 | 0=>rfl
 | 1=>rfl
 | k+2=>simp[cB,dE,N7]⟩
def Qd{l:List RG}(h:GL l):∀ r∈l,0<=r.fr/\r.fr<=16:=fun r hr=>by have:=h.b r hr;omega
section
variable {P:Program} {n:Fr} {Q:Exit->Act->World->Prop} {L:PF} {ops:Md} {bU:List Oper} {ty:TypeId} {pos:String} {af:Array Edge} {d:Nat} {W:World} {S:Nat->Nat->Prop} {H H':List aK}
def iT{t e:TypeId}{x y:Operand}{p:Option Addr}{cap c b:Nat}{jI:List RG}{r:RG}(hx:ev L x=some (.slice p jI.length cap))(hy:ev L y=some (.slice (some ⟨b,0,none⟩) 1 c))(ht:P.underlying t=some (.slice e))(hr:rh P e 3=true)(hH:mT H (aS p cap e 3 jI.length (fb jI)) H')(hN:kR H (.cells b 0 3 (cellsOf r.cO)))(hk:jI.length+1<=100000000000)(hd:Nat.blt d n.sz=true)(h:∀ p' cL,XO P n ops Q bU ((d,.slice p' (jI++[r]).length cL)::L) (XM W S (aS p' cL e 3 (jI++[r]).length (fb (jI++[r]))::H'))):XO P n ops Q (⟨some d,.call ⟨.builtin .append,#[x,y],#[t,t]⟩,ty,pos,af,none⟩::bU) L (XM W S H):=
 vY (C2:=fb (jI++[r])) hx hy ht hr hH hN rfl rfl og hk (fb.app jI r _ (fun i hi=>by
  match i,hi with
  | 0,_=>rfl
  | 1,_=>rfl
  | 2,_=>rfl
  | k+3,hi=>omega)) hd (fun p' cL=>by
  have e1:jI.length+1=(jI++[r]).length:=sq
  rw[e1]
  exact h p' cL)
end
def TX{l:List RG}{m:Nat}(hm:m=l.length)(h:0<=z/\z<m):0+z.toNat*3+3<=m*3/\dc (fb l) (0+z.toNat*3) 3= .agg (bD l z).cO:=by
 subst hm;exact fb.agg h
def N8(a n:Int)(r:RG):(lY a n r).length<=2:=by
 grind [lY]
theorem uV(l:List RG)(r:RG):mg (l++[r])=Ei (mg l) r:=by grind [mg]
def TY:∀ (k:Nat) (l:List RG),l.length=k->(mg l).length<=k
 | 0,l,h=>by rw[List.length_eq_zero_iff]at h;subst h;simp[mg]
 | k+1,l,h=>by
  obtain⟨l',x,rfl⟩:=uT (l:=l) og;rw[uV];have h1:=N3 (mg l') x;have h2:=TY k l' (by simp at h;exact h);omega
def aeS:∀ (k:Nat) (l:List RG),l.length=k->(∀ r∈l,0<=r.fr/\0<r.n/\r.fr+r.n<=16)->∀ r∈mg l,0<=r.fr/\0<r.n/\r.fr+r.n<=16
 | 0,l,h,_=>by rw[List.length_eq_zero_iff]at h;subst h;intro r hr;simp[mg]at hr
 | k+1,l,h,hb=>by
  obtain⟨l',x,rfl⟩:=uT (l:=l) og;have ih:=aeS k l' (by simp at h;exact h) fun r hr=>hb r (by simp[hr]);have hx:=hb x sq;rw[uV];intro r hr;rcases Nat.eq_zero_or_pos (mg l').length with q | q;all_goals grind [N1,uT,JC]
theorem ox{l:List RG}(h:0<=i/\i<l.length):l.take (i+1).toNat=l.take i.toNat++[bD l i]:=by
 rw[show(i+1).toNat=i.toNat+1 from og,List.take_add_one,XX h];rfl
theorem uW{β:Type}(f:RG->List β){l:List RG}(h:0<=i/\i<l.length):(l.take (i+1).toNat).flatMap f=(l.take i.toNat).flatMap f++f (bD l i):=by
 grind [ox]
def abK{n:Int}{r:RG}(h:¬min (r.fr+r.n) (a+n)<=max r.fr a):lY a n r=(if r.fr<max r.fr a then [⟨r.fr,max r.fr a-r.fr,r.w⟩]else [])++(if min (r.fr+r.n) (a+n)<r.fr+r.n then [⟨min (r.fr+r.n) (a+n),r.fr+r.n-min (r.fr+r.n) (a+n),r.w⟩]else []):=by grind [lY]
def XZ{n:Int}{r:RG}(h:min (r.fr+r.n) (a+n)<=max r.fr a):lY a n r=[r]/\uU a n r=[]:=by
 unfold lY uU;rw[if_pos h,show(min (r.fr+r.n) (a+n)-max r.fr a).toNat=0 from og];exact⟨rfl,rfl⟩
theorem L4(a:Int)(h:0<=k):jq a (k+1).toNat=jq a k.toNat++[a+k]:=by
 rw[show(k+1).toNat=k.toNat+1 from og,jq,show((k.toNat:Nat):Int)=k from og]
theorem CU(v:VB)(fr:Int->Int)(l:List Int)(i:Int):tH v fr (l++[i])=unS fr (tH v fr l) i:=by grind [tH]
def Qe{l:List Int}(h:0<l.length):∃ l' i,l=l'++[i]:=⟨l.dropLast,l.getLast (by intro e;rw[e]at h;simp at h),(List.dropLast_concat_getLast _).symm⟩
def TZ{v:VB}{m:MS}(hv:v.Ok)(hm:m.Ok)(hi:m.In v):∀ (k:Nat) (l:List Int),l.length=k->l.Nodup->(tH v m.fr l).2.Ok/\(0<=(tH v m.fr l).1/\(tH v m.fr l).1<=k)/\∀ g,(∀ i∈l,m.fr i≠g+1)->(tH v m.fr l).2.rf g=v.rf g
 | 0,l,h,_=>by rw[List.length_eq_zero_iff]at h;subst h;exact⟨hv,by simp[tH],fun _ _=>rfl⟩
 | k+1,l,h,hn=>by
  obtain⟨l',i,rfl⟩:=Qe (l:=l) og;rw[List.nodup_append]at hn;obtain⟨i1,i2,i3⟩:=TZ hv hm hi k l' (by simp at h;exact h) hn.1;rw[CU];unfold unS;split
  ·rename_i c;have e:(tH v m.fr l').2.rf (m.fr i-1)=v.rf (m.fr i-1):=i3 _ (fun j hj q=>by
    have:=hm.inj i j c og
    subst this
    exact hn.2.2 i hj i sq rfl)
   refine⟨i1.drop (by rw[e];exact hi i c),⟨by show 0<=(tH v m.fr l').1+1;omega,by show(tH v m.fr l').1+1<=_;omega⟩,fun g hg=> ?_⟩;show((tH v m.fr l').2.drop (m.fr i-1)).rf g=_;rw[(CT _ _).1,ai _ _ (by have:=hg i sq;omega)];exact i3 g fun j hj=>hg j (by simp[hj])
  ·exact⟨i1,⟨i2.1,og⟩,fun g hg=>i3 g fun j hj=>hg j (by simp[hj])⟩
def nX(f:Int->Int)(l:List Int):Int->Int:=fun i=>if i∈l then 0 else f i
def ek(f:Int->Bool)(l:List Int):Int->Bool:=fun i=>if i∈l then false else f i
theorem Qf(f:Int->Int)(l:List Int)(i:Int):nX f (l++[i])=ae (nX f l) i (-1+1):=by
 grind [nX,ae]
theorem Qg(f:Int->Bool)(l:List Int)(i:Int):ek f (l++[i])=ae (ek f l) i false:=by
 grind [ek,ae]
theorem Qh{f:Int->Int}{l:List Int}(h:f i=0):nX f (l++[i])=nX f l:=by
 grind [nX]
theorem Qi{f:Int->Bool}{l:List Int}(h:f i=false):ek f (l++[i])=ek f l:=by
 grind [ek]
def aac{l:List Int}(h:0<=i/\i<l.length):l.take (i+1).toNat=l.take i.toNat++[dg l i]:=by
 rw[show(i+1).toNat=i.toNat+1 from og,List.take_add_one];grind [dg]
def rH{l:List Int}(h:0<=i/\i<l.length):dg l i∈l:=by
 grind [dg]
def X0{l:List Int}(hs:l.Pairwise fun x y=>x<y)(h:0<=i/\i<l.length):dg l i∉l.take i.toNat:=by
 grind [List.mem_iff_getElem,List.pairwise_iff_getElem,dg]
theorem T1{l:List Int}(hs:l.Pairwise fun x y=>x<y):l.Nodup:=hs.imp fun h e=>og
def L5{l:List Int}(hs:l.Pairwise fun x y=>x<y)(k:Nat):(l.take k).Nodup:=by grind [T1]
theorem MS.Ok.fJ{v:VB}{m:MS}(h:m.Ok)(a n:Int):(m.fJ v a n).2.2.2.Ok:=by
 unfold MS.fJ;split
 ·omega
 ·rename_i hb;refine⟨h.f.gR hb (.inl rfl),fun i=> ?_,fun i hi=> ?_,fun i hi=> ?_,fun i j hi RO=> ?_⟩
  ·show 0<=gR m.fr a n 0 i/\gR m.fr a n 0 i<=64;unfold gR;split
   ·omega
   ·exact h.lo i
  ·grind [gR,MS.Ok.un]
  all_goals grind [gR,MS.Ok.ow,MS.Ok.inj]
end Go.X.Vm
