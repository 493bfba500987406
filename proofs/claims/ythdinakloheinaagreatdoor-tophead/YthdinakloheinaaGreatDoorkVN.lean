import Derived.Test.YthdinakloheinaaGreatDoorkVBM
set_option linter.all false
namespace Go.X.Vm
open Go Go.X
variable{a i k z:Int}
structure RG where
 fr:Int
 n:Int
 w:Bool
def RG.nil:RG:=⟨0,0,false⟩
def RG.cQ(r:RG):Array Value:= #[iI r.fr,iI r.n,.bool r.w]
def RG.cell(r:RG)(j:Nat):Value:=match j with
 | 0=>iI r.fr
 | 1=>iI r.n
 | 2=>.bool r.w
 | _=>undef
def bB(l:List RG)(z:Int):RG:=l.getD z.toNat RG.nil
def fa(l:List RG)(i:Nat):Value:=(l.getD (i/3) RG.nil).cell (i%3)
def pe(r:RG)(i:Nat):Value:=r.cell i
def pe.agg(r:RG):0+3<=3/\cZ (pe r) 0 3= .agg r.cQ:=⟨og,rfl⟩
theorem pe.box(r:RG):∀ i,i<3->cellsOf r.cQ i=pe r i:=fun i h=>by
 match i,h with
 | 0,_=>rfl
 | 1,_=>rfl
 | 2,_=>rfl
 | k+3,h=>omega
theorem pe.f(r:RG):0+0<3/\pe r (0+0)=iI r.fr:=⟨og,rfl⟩
theorem pe.n(r:RG):0+1<3/\pe r (0+1)=iI r.n:=⟨og,rfl⟩
theorem pe.w(r:RG):0+2<3/\pe r (0+2)= .bool r.w:=⟨og,rfl⟩
theorem pe.st(r q:RG):0+3<=3/\cC (pe q) 0 r.cQ.toList=pe r:=⟨og,by
 funext i
 match i with
 | 0=>rfl
 | 1=>rfl
 | 2=>rfl
 | k+3=>simp[cC,dL,RG.cQ,pe,RG.cell]⟩
theorem zp(l:List RG)(h:0<=z/\z<l.length)(j:Nat)(hj:j<3:=by omega):fa l (0+z.toNat*3+j)=(bB l z).cell j:=by
 grind [fa,bB]
def fa.agg{l:List RG}{z:Int}(h:0<=z/\z<l.length):0+z.toNat*3+3<=l.length*3/\cZ (fa l) (0+z.toNat*3) 3= .agg (bB l z).cQ:=by
 refine⟨og,?_⟩;simp only[cZ,List.range,List.range.loop,List.map_cons,List.map_nil];rw[zp l h 0,zp l h 1,zp l h 2];rfl
theorem fa.f{l:List RG}(h:0<=z/\z<l.length):0+z.toNat*3+0<l.length*3/\fa l (0+z.toNat*3+0)=iI (bB l z).fr:=⟨og,zp l h 0⟩
theorem fa.n{l:List RG}{z:Int}(h:0<=z/\z<l.length):0+z.toNat*3+1<l.length*3/\fa l (0+z.toNat*3+1)=iI (bB l z).n:=⟨og,zp l h 1⟩
theorem fa.w{l:List RG}{z:Int}(h:0<=z/\z<l.length):0+z.toNat*3+2<l.length*3/\fa l (0+z.toNat*3+2)= .bool (bB l z).w:=⟨og,zp l h 2⟩
def fa.app(l:List RG)(r:RG)(C1:Nat->Value)(hC:∀ i,i<3->C1 i=r.cell i):∀ i,i<(l.length+1)*3->fa (l++[r]) i=if i<l.length*3 then fa l i else C1 (i-l.length*3):=fun i hi=>by
 grind [fa]
def GH(l:List RG)(r:RG):List RG:=l.dropLast++[r]
theorem AB{l:List RG}{r:RG}(h:0<l.length):(GH l r).length=l.length:=by grind [GH]
theorem fa.grow{l:List RG}(h:0<l.length)(m:Int):0+((l.length:Int)-1).toNat*3+1<l.length*3/\dL (fa l) (0+((l.length:Int)-1).toNat*3+1) (iI m)=fa (GH l {bB l ((l.length:Int)-1)with n:=m}):=by
 refine⟨og,?_⟩;funext i;unfold dL fa GH;simp only[List.getD_eq_getElem?_getD];by_cases c:i/3<l.length-1
 ·rw[if_neg og,List.getElem?_append_left (by simp;omega),List.getElem?_dropLast,if_pos c]
 ·by_cases c2:i/3=l.length-1
  ·rw[List.getElem?_append_right (by simp;omega),show i/3-l.dropLast.length=0 from by simp;omega];have e:l[i/3]?.getD RG.nil=bB l ((l.length:Int)-1):=by
    simp_all[bB]
   rw[e];have:i%3=0\/i%3=1\/i%3=2:=og;rcases this with q | q | q
   ·rw[if_neg og,q];rfl
   ·rw[if_pos og,q];rfl
   ·rw[if_neg og,q];rfl
  ·rw[if_neg og,List.getElem?_append_right (by simp;omega),List.getElem?_eq_none og,List.getElem?_eq_none (by simp;omega)]
def D3(l:List RG)(r:RG):List RG:=match l.getLast? with
 | some q=>if q.fr+q.n=r.fr/\q.w=r.w then l.dropLast++[{q with n:=q.n+r.n}]else l++[r]
 | none=>[r]
theorem Nv(r:RG):D3 [] r=[r]:=rfl
theorem Jb(l:List RG)(q r:RG):D3 (l++[q]) r=if q.fr+q.n=r.fr/\q.w=r.w then l++[{q with n:=q.n+r.n}]else l++[q,r]:=by
 simp[D3]
theorem Tl(l:List RG)(q:RG):bB (l++[q]) (((l++[q]).length:Int)-1)=q:=by
 simp_all[bB]
theorem uI{l:List RG}(h:0<l.length):∃ l' q,l=l'++[q]:=⟨l.dropLast,l.getLast (by intro e;rw[e]at h;simp at h),(List.dropLast_concat_getLast _).symm⟩
theorem Xr{l:List RG}{r:RG}(h:0<l.length)(h1:(bB l ((l.length:Int)-1)).fr+(bB l ((l.length:Int)-1)).n=r.fr)(h2:(bB l ((l.length:Int)-1)).w=r.w):D3 l r=GH l {bB l ((l.length:Int)-1)with n:=(bB l ((l.length:Int)-1)).n+r.n} :=by
 obtain⟨l',q,rfl⟩:=uI h;grind [Tl,GH,D3]
theorem Cr{l:List RG}{r:RG}(h:0<l.length->¬((bB l ((l.length:Int)-1)).fr+(bB l ((l.length:Int)-1)).n=r.fr/\(bB l ((l.length:Int)-1)).w=r.w)):D3 l r=l++[r]:=by
 rcases Nat.eq_zero_or_pos l.length with q | q
 ·grind [D3]
 ·obtain⟨l',x,rfl⟩:=uI q;simp_all[bB,D3]
def Py(l:List RG)(a n m:Int)(w:Bool)(_:0<n):D3 (D3 l ⟨a,n,w⟩) ⟨a+n,m,w⟩=D3 l ⟨a,n+m,w⟩:=by
 rcases Nat.eq_zero_or_pos l.length with q | q
 ·grind [D3]
 grind [D3]
def mg(l:List RG):List RG:=l.foldl D3 []
def pY(a:Int)(w:Bool):Nat->List RG
 | 0=>[]
 | k+1=>pY a w k++[⟨a+k,1,w⟩]
theorem AD(l:List RG)(a:Int)(w:Bool):∀ k:Nat,0<k->(pY a w k).foldl D3 l=D3 l ⟨a,k,w⟩
 | 0,h=>og
 | 1,_=>by simp[pY]
 | k+2,_=>by
  rw[pY,List.foldl_append,AD l a w (k+1) og];have:=Py l a ((k+1:Nat):Int) 1 w og;simp only[List.foldl_cons,List.foldl_nil];rw[this];congr 1
def RG.Tm(r:RG):List RG:=pY r.fr r.w r.n.toNat
theorem Jc:∀ (l:List RG) (jL:List RG),(∀ r∈l,0<r.n)->(l.flatMap RG.Tm).foldl D3 jL=l.foldl D3 jL
 | [],_,_=>rfl
 | r::l,jL,h=>by
  have h1:=h r sq;simp only[List.flatMap_cons,List.foldl_append,List.foldl_cons];rw[RG.Tm,AD jL r.fr r.w r.n.toNat og,Jc l _ fun x hx=>h x (by simp[hx])];congr 2;cases r;simp only[RG.mk.injEq,true_and,and_true];simp at h1;omega
theorem ov{a:Int}{w:Bool}{u:RG} :∀ {k:Nat},u∈pY a w k↔∃ i:Int,a<=i/\i<a+k/\u=⟨i,1,w⟩
 | 0=>by simp only[pY,List.not_mem_nil,false_iff];rintro⟨i,h1,h2,_⟩;simp at h2;omega
 | k+1=>by
  rw[pY,List.mem_append,ov (k:=k),List.mem_singleton];grind
def xw{a:Int}{w:Bool} :∀ k:Nat,(pY a w k).Pairwise (fun x y=>x.fr<y.fr)
 | 0=>.nil
 | k+1=>by
  rw[pY,List.pairwise_append];refine⟨xw k,sq,fun x hx y hy=> ?_⟩;obtain⟨i,h1,h2,rfl⟩:=ov.1 hx;simp only[List.mem_singleton]at hy;subst hy;exact h2
def rK{α:Type}(f:α->Int):∀ {l m:List α},l.Pairwise (fun x y=>f x<f y)->m.Pairwise (fun x y=>f x<f y)->(∀ x,x∈l↔x∈m)->l=m
 | [],[],_,_,_=>rfl
 | [],y::m,_,_,h=>absurd ((h y).2 sq) sq
 | x::l,[],_,_,h=>absurd ((h x).1 sq) sq
 | x::l,y::m,hl,hm,h=>by
  rw[List.pairwise_cons]at hl hm;have e:x=y:=by
   grind
  subst e;congr 1;refine rK f hl.2 hm.2 fun z=> ?_;grind
def kd(w:Bool):Int:=if w then 2 else 1
structure Rg (f:Int->Int):Prop where
 v:∀ i,f i=0\/f i=1\/f i=2
 out:∀ i,i<0\/16<=i->f i=0
def mG(f:Int->Int):Nat->List RG
 | 0=>[]
 | k+1=>mG f k++(if f k=0 then []else [⟨k,1,decide (f k=2)⟩])
def qK(f:Int->Int)(k:Nat):List RG:=mg (mG f k)
def ah(f:Int->Int):List RG:=qK f 16
theorem Cs(f:Int->Int)(k:Nat):qK f (k+1)=if f k=0 then qK f k else D3 (qK f k) ⟨k,1,decide (f k=2)⟩:=by
 grind [qK,mg,mG]
theorem we{f:Int->Int}{u:RG} :∀ {k:Nat},u∈mG f k↔∃ i:Int,0<=i/\i<k/\f i≠0/\u=⟨i,1,decide (f i=2)⟩
 | 0=>by simp only[mG,List.not_mem_nil,false_iff];rintro⟨i,h1,h2,_⟩;simp at h2;omega
 | k+1=>by
  rw[mG,List.mem_append,we (k:=k)];grind
def vx{f:Int->Int} :∀ k:Nat,(mG f k).Pairwise (fun x y=>x.fr<y.fr)
 | 0=>.nil
 | k+1=>by
  rw[mG,List.pairwise_append];refine⟨vx k,by split<;>simp,fun x hx y hy=> ?_⟩;obtain⟨i,h1,h2,_,rfl⟩:=we.1 hx;split at hy
  ·simp at hy
  ·simp only[List.mem_singleton]at hy;subst hy;exact h2
structure GL (l:List RG):Prop where
 b:∀ r∈l,0<=r.fr/\0<r.n/\r.fr+r.n<=16
 p:l.Pairwise fun x y=>x.fr+x.n<=y.fr\/y.fr+y.n<=x.fr
def RG.has(r:RG)(i:Int):Prop:=r.fr<=i/\i<r.fr+r.n
structure Rh (l:List RG) (f:Int->Int):Prop where
 h1:∀ r∈l,∀ i,r.has i->f i=kd r.w
 h2:∀ i,f i≠0->∃ r∈l,r.has i
def GL.b8{l m:List RG}(h:GL l)(hp:l.Perm m):GL m:=
 ⟨fun r hr=>h.b r (hp.mem_iff.2 hr),(hp.pairwise_iff fun hxy=>hxy.symm).1 h.p⟩
def Rh.b8{l m:List RG}{f:Int->Int}(h:Rh l f)(hp:l.Perm m):Rh m f:=
 ⟨fun r hr=>h.h1 r (hp.mem_iff.2 hr),fun i hi=>by obtain⟨r,hr,h2⟩:=h.h2 i hi;exact⟨r,hp.mem_iff.1 hr,h2⟩⟩
theorem Tn(w:Bool):decide (kd w=2)=w:=by cases w<;>rfl
theorem Nw(w:Bool):kd w≠0:=by cases w<;>decide
def Xs{l:List RG}{f:Int->Int}(hg:GL l)(hc:Rh l f)(hf:Rg f)(hs:l.Pairwise fun x y=>x.fr<=y.fr):mg l=ah f:=by
 unfold ah qK;have e:l.flatMap RG.Tm=mG f 16:=by
  refine rK (fun r=>r.fr) ?_ (vx 16) fun u=> ?_
  ·rw[List.pairwise_flatMap];refine⟨fun r _=>xw _,?_⟩;have hq:=hs.and hg.p;refine hq.imp_of_mem ?_;rintro x y hx hy ⟨h1,h2⟩ u hu v hv;obtain⟨i,i1,i2,rfl⟩:=ov.1 hu;obtain⟨j,j1,j2,rfl⟩:=ov.1 hv;grind
  ·rw[List.mem_flatMap,we];constructor
   ·rintro⟨r,hr,hu⟩;obtain⟨i,i1,i2,rfl⟩:=ov.1 hu;have hb:=hg.b r hr;have:=hc.h1 r hr i ⟨i1,og⟩;grind [Nw,Tn]
   ·rintro⟨i,i1,i2,i3,rfl⟩;obtain⟨r,hr,h⟩:=hc.h2 i i3;have hb:=hg.b r hr;refine⟨r,hr,ov.2 ⟨i,h.1,?_,?_⟩⟩
    ·have:=h.2;omega
    grind [Rh.h1,Tn]
 rw[<-e];exact(Jc l [] fun r hr=>(hg.b r hr).2.1).symm
structure oP (l:List RG) (f:Int->Int) (k:Nat):Prop where
 b:∀ r∈l,0<=r.fr/\0<r.n/\r.fr+r.n<=k
 s:l.Pairwise fun x y=>x.fr+x.n<=y.fr
 h1:∀ r∈l,∀ i,r.has i->f i=kd r.w
 h2:∀ i:Int,0<=i->i<k->f i≠0->∃ r∈l,r.has i
def Jd{f:Int->Int}(hf:Rg f):∀ k:Nat,oP (qK f k) f k
 | 0=>⟨by intro r h;simp[qK,mG,mg]at h,by simp[qK,mG,mg],by intro r h;simp[qK,mG,mg]at h,fun i a b=>by simp at b;omega⟩
 | k+1=>by
  have ih:=Jd hf k;rw[Cs];split
  ·rename_i c;refine⟨fun r hr=> ?_,ih.s,ih.h1,fun i a b d=> ?_⟩
   ·have:=ih.b r hr;omega
   grind [oP.h2]
  ·rename_i c;have hk:f k=kd (decide (f k=2)):=by
    rcases hf.v k with q | q | q
    ·omega
    ·rw[q];rfl
    ·rw[q];rfl
   rcases Nat.eq_zero_or_pos (qK f k).length with q | q
   ·rw[List.length_eq_zero_iff]at q;rw[q,Nv];rw[q]at ih;refine⟨fun r hr=> ?_,sq,fun r hr i hi=> ?_,fun i a b d=> ?_⟩
    ·grind
    ·simp only[List.mem_singleton]at hr;subst hr;have:i=k:=by have:=hi.1;have:=hi.2;simp at*;omega
     grind
    ·by_cases e:i=k
     ·subst e;exact⟨_,List.mem_singleton.2 rfl,sq,by simp;omega⟩
     grind [oP.h2]
   ·obtain⟨l',x,hx⟩:=uI q;rw[hx]at ih ⊢;rw[Jb];have hbx:=ih.b x sq;have hsx:=(List.pairwise_append.1 ih.s).2.2;split
    ·rename_i d;obtain⟨d1,d2⟩:=d;refine⟨fun r hr=> ?_,?_,fun r hr i hi=> ?_,fun i a b e=> ?_⟩
     ·rcases List.mem_append.1 hr with hr | hr
      ·have:=ih.b r (by simp[hr]);omega
      grind
     ·rw[List.pairwise_append];refine⟨(List.pairwise_append.1 ih.s).1,sq,fun y hy z hz=> ?_⟩;grind
     ·rcases List.mem_append.1 hr with hr | hr
      ·grind [oP.h1]
      ·simp only[List.mem_singleton]at hr;subst hr;have h1:=hi.1;have h2:=hi.2;simp at h1 h2 d1;by_cases e:i=k
       ·grind
       ·exact ih.h1 x sq i ⟨h1,og⟩
     ·by_cases e2:i=k
      ·refine⟨_,List.mem_append.2 (.inr (List.mem_singleton.2 rfl)),?_,?_⟩;all_goals grind
      ·obtain⟨r,hr,hh⟩:=ih.h2 i a og e;rcases List.mem_append.1 hr with hr | hr
       ·grind
       ·simp only[List.mem_singleton]at hr;subst hr;exact⟨_,List.mem_append.2 (.inr (List.mem_singleton.2 rfl)),hh.1,by have:=hh.2;simp;omega⟩
    ·rename_i d;have mj:∀ r,r∈l'++[x,⟨(k:Int),1,decide (f k=2)⟩]↔r∈l'++[x]\/r=⟨(k:Int),1,decide (f k=2)⟩:=fun r=>by simp[or_assoc]
     refine⟨fun r hr=> ?_,?_,fun r hr i hi=> ?_,fun i a b e=> ?_⟩
     ·rcases(mj r).1 hr with hr | hr
      ·have:=ih.b r hr;omega
      grind
     ·rw[show l'++[x,(⟨(k:Int),1,decide (f k=2)⟩:RG)]=(l'++[x])++[⟨(k:Int),1,decide (f k=2)⟩]from sq,List.pairwise_append];refine⟨ih.s,sq,fun y hy z hz=> ?_⟩;simp only[List.mem_singleton]at hz;subst hz;exact(ih.b y hy).2.2
     ·rcases(mj r).1 hr with hr | hr
      ·grind [oP.h1]
      ·subst hr;have:i=k:=by have:=hi.1;have:=hi.2;simp at*;omega
       grind
     ·by_cases e2:i=k
      ·subst e2;exact⟨_,(mj _).2 (.inr rfl),sq,by simp;omega⟩
      grind [oP.h2]
def jI{f:Int->Int}(hf:Rg f):oP (ah f) f 16:=Jd hf 16
def Xt{f:Int->Int}(hf:Rg f):GL (ah f):=⟨(jI hf).b,(jI hf).s.imp fun h=>.inl h⟩
def oQ{f:Int->Int}(hf:Rg f):Rh (ah f) f:=⟨(jI hf).h1,fun i hi=>by
 refine(jI hf).h2 i ?_ ?_ hi
 ·by_cases q:i<0
  ·exact absurd (hf.out i (.inl q)) hi
  ·omega
 ·by_cases q:i<16
  ·exact q
  ·exact absurd (hf.out i (.inr og)) hi⟩
theorem Nx(l:List RG)(r:RG):(D3 l r).length<=l.length+1:=by
 grind [D3]
def Fp(f:Int->Int):∀ k,(qK f k).length<=k
 | 0=>by simp[qK,mG,mg]
 | k+1=>by
  rw[Cs];have:=Fp f k;grind [Nx]
def qL(f:Int->Int):(ah f).length<=16:=Fp f 16
def xx{l:List RG}(h:0<=z/\z<l.length:=by omega):bB l z∈l:=by
 grind [bB]
def Xu{l:List RG}{r:RG}(h:r∈l):∃ z:Int,(0<=z/\z<l.length)/\bB l z=r:=by
 obtain⟨k,hk,rfl⟩:=List.mem_iff_getElem.1 h;refine⟨k,og,?_⟩;grind [bB]
def atP(l:List RG)(n:Int)(k:Int):Prop:=(k= -1/\∀ r∈l,¬r.has n)\/((0<=k/\k<l.length)/\(bB l k).has n)
def tD{f:Int->Int}(hf:Rg f){n:Int}(h:atP (ah f) n k):(k<0↔f n=0)/\(0<=k->k<(ah f).length/\f n=kd (bB (ah f) k).w):=by
 rcases h with⟨rfl,h⟩ | ⟨h1,h2⟩
 ·refine⟨⟨fun _=> ?_,fun _=>og⟩,fun q=>og⟩;by_cases c:f n=0
  ·omega
  ·obtain⟨r,hr,hh⟩:=(oQ hf).h2 n c;simp_all
 ·have e:=(oQ hf).h1 _ (xx h1) n h2;grind [kd]
structure MS where
 ay:Int->Int
 fr:Int->Int
 aS:Int->Bool
structure VB where
 bb:BB
 iD:Int->Int->Int
 rf:Int->Int
def A7(b:Int->Int->Int)(f:Int)(row:Int->Int):Int->Int->Int:=fun x j=>if x=f then row j else b x j
def gH{α:Type}(f:Int->α)(a m:Int)(v:α):Int->α:=fun i=>if a<=i/\i<a+m then v else f i
def VB.take(v:VB):Int×Int×VB:=if(v.bb.take 0).2.1≠0 then(0,(v.bb.take 0).2.1,v)else((v.bb.take 0).1,0,⟨(v.bb.take 0).2.2,A7 v.iD (v.bb.take 0).1 fun _=>0,ad v.rf (v.bb.take 0).1 1⟩)
def VB.drop(v:VB)(f:Int):VB:=if v.rf f-1=0 then⟨(v.bb.rI f).2,v.iD,ad v.rf f (v.rf f-1)⟩else⟨v.bb,v.iD,ad v.rf f (v.rf f-1)⟩
def VB.copy(v:VB)(f g:Int):VB:=⟨v.bb,A7 v.iD f (v.iD g),v.rf⟩
def gn(a m:Int):Prop:=a<0\/15<a\/m<1\/16-a<m
instance (a m:Int):Decidable (gn a m):=by unfold gn;infer_instance
def Ly(p:Int->Bool)(a:Int):Nat->Bool
 | 0=>false
 | k+1=>Ly p a k||p (a+k)
theorem wg{p:Int->Bool}{a:Int} :∀ {k:Nat},(∀ i:Int,a<=i->i<a+k->p i=false)->Ly p a k=false
 | 0,_=>rfl
 | k+1,h=>by rw[Ly,wg (k:=k) fun i h1 h2=>h i h1 og,h _ og og];rfl
theorem zq{p:Int->Bool}{a i:Int} :∀ {k:Nat},a<=i->i<a+k->p i=true->Ly p a k=true
 | 0,h1,h2,_=>by simp at h2;omega
 | k+1,h1,h2,h3=>by
  rw[Ly];by_cases c:i=a+k
  ·rw[<-c,h3];simp
  ·rw[zq (k:=k) h1 og h3];rfl
def MS.pZ(m:MS)(a n:Int):Int:=if gn a n then 1 else if Ly (fun i=>m.ay i != 0) a n.toNat then 3 else 0
def MS.kM(m:MS)(a n:Int):Int:=if gn a n then 1 else if Ly (fun i=>m.ay i==0) a n.toNat then 10 else 0
def MS.lay(m:MS)(a n:Int)(w:Bool):MS:= {m with ay:=gH m.ay a n (kd w)}
def MS.map(m:MS)(a n:Int)(w:Bool):MS:=if m.pZ a n=0 then m.lay a n w else m
def MS.nh(m:MS)(a n:Int)(w:Bool):MS:=if m.kM a n=0 then m.lay a n w else m
def ZF(fr:Int->Int)(x:Int×VB)(i:Int):Int×VB:=if 0<fr i then(x.1+1,x.2.drop (fr i-1))else x
def kN(p:Int->Bool)(a:Int):Nat->List Int
 | 0=>[]
 | k+1=>kN p a k++(if p (a+k)then [a+k]else [])
def V7(v:VB)(fr:Int->Int)(a:Int):Nat->Int×VB
 | 0=>(0,v)
 | k+1=>ZF fr (V7 v fr a k) (a+k)
def tE(v:VB)(fr:Int->Int)(l:List Int):Int×VB:=l.foldl (ZF fr) (0,v)
theorem Je(v:VB){fr:Int->Int}{p:Int->Bool}(hp:∀ i,p i=false->fr i=0)(a:Int):∀ k,V7 v fr a k=tE v fr (kN p a k)
 | 0=>rfl
 | k+1=>by
  rw[V7,Je v hp a k,kN,tE,tE,List.foldl_append];cases h:p (a+k)with
  | true=>simp
  | false=>simp[ZF,hp _ h]
theorem ox{p:Int->Bool}{a i:Int} :∀ {k:Nat},i∈kN p a k↔(a<=i/\i<a+k)/\p i=true
 | 0=>by simp only[kN,List.not_mem_nil,false_iff];rintro⟨⟨h1,h2⟩,_⟩;simp at h2;omega
 | k+1=>by
  rw[kN,List.mem_append,ox (k:=k)];grind
def rL{p:Int->Bool}{a:Int} :∀ k,(kN p a k).Pairwise (fun x y=>x<y)
 | 0=>.nil
 | k+1=>by
  rw[kN,List.pairwise_append];refine⟨rL k,by split<;>simp,fun x hx y hy=> ?_⟩;have:=ox.1 hx;split at hy
  ·simp only[List.mem_singleton]at hy;omega
  ·simp at hy
def MS.fE(v:VB)(m:MS)(a n:Int):Int×Int×VB×MS:=if gn a n then(0,1,v,m)else
 ((V7 v m.fr a n.toNat).1,0,(V7 v m.fr a n.toNat).2,⟨gH m.ay a n 0,gH m.fr a n 0,gH m.aS a n false⟩)
def MS.xy(m:MS)(a:Int)(w:Bool):Bool:=decide (0<=a/\a<128)&&(m.ay (a/8)==2||(m.ay (a/8)==1&& !w))
def MS.sD(m:MS)(a:Int):Bool:=m.xy a false&&m.fr (a/8)==0
def MS.Ct(m:MS)(n f:Int):MS:= {m with fr:=ad m.fr n (f+1),aS:=ad m.aS n true}
def MS.cx(v:VB)(m:MS)(a:Int)(w:Bool):Int×Int×VB×MS:=
 if m.xy a w=false then(0,10,v,m)
 else if m.fr (a/8)=0 then(if v.take.2.1≠0 then(0,v.take.2.1,v,m)else(v.take.1,0,v.take.2.2,m.Ct (a/8) v.take.1))
 else if w=false\/m.aS (a/8)=true then(m.fr (a/8)-1,0,v,m)
 else if v.rf (m.fr (a/8)-1)<=1 then(m.fr (a/8)-1,0,v,{m with aS:=ad m.aS (a/8) true})
 else if v.take.2.1≠0 then(0,v.take.2.1,v,m)
 else(v.take.1,0,(v.take.2.2.copy v.take.1 (m.fr (a/8)-1)).drop (m.fr (a/8)-1),m.Ct (a/8) v.take.1)
def MS.load(v:VB)(m:MS)(a:Int):Int×Int×VB×MS:=let t:=m.cx v a false
 if t.2.1≠0 then(0,t.2.1,t.2.2)else(t.2.2.1.iD t.1 (a%8),0,t.2.2)
def MS.store(v:VB)(m:MS)(a b:Int):Int×VB×MS:=let t:=m.cx v a true
 if t.2.1≠0 then(t.2.1,t.2.2)else(0,⟨t.2.2.1.bb,cv t.2.2.1.iD t.1 (a%8) b,t.2.2.1.rf⟩,t.2.2.2)
def xz(rf fr:Int->Int):Nat->Int->Int
 | 0=>rf
 | k+1=>if 0<fr k then ad (xz rf fr k) (fr k-1) (xz rf fr k (fr k-1)+1)else xz rf fr k
def MS.bare(m:MS):MS:= {m with aS:=fun _=>false}
def VB.iA(v:VB)(m:MS):VB:= {v with rf:=xz v.rf m.fr 16}
def Ew(fr:Int->Int):Nat->Int
 | 0=>0
 | k+1=>Ew fr k+(if 0<fr k then 1 else 0)
def MS.Cu(m:MS):Int:=Ew m.fr 16
def MS.nil:MS:=⟨fun _=>0,fun _=>0,fun _=>false⟩
def Ny(fr:Int->Int):∀ k:Nat,0<=Ew fr k/\Ew fr k<=k
 | 0=>by simp[Ew]
 | k+1=>by have:=Ny fr k;rw[Ew];split<;>omega
theorem Fq(fr:Int->Int)(h:0<=i):Ew fr (i+1).toNat=Ew fr i.toNat+(if 0<fr i then 1 else 0):=by
 rw[show(i+1).toNat=i.toNat+1 from og,Ew,show((i.toNat:Nat):Int)=i from og]
structure MS.Ok (m:MS):Prop where
 f:Rg m.ay
 lo:∀ i,0<=m.fr i/\m.fr i<=64
 un:∀ i,m.ay i=0->m.fr i=0
 ow:∀ i,m.fr i=0->m.aS i=false
 inj:∀ i j,0<m.fr i->m.fr i=m.fr j->i=j
structure VB.Ok (v:VB):Prop where
 bb:v.bb.Inv
 rf:∀ f,0<=v.rf f/\v.rf f<=100000
 iD:∀ f j,0<=v.iD f j/\v.iD f j<256
def MS.In(m:MS)(v:VB):Prop:=∀ i,0<m.fr i->1<=v.rf (m.fr i-1)
theorem Rg.gH{f:Int->Int}(h:Rg f){a n:Int}(hb:¬gn a n){v:Int}(hv:v=0\/v=1\/v=2):Rg (Go.X.Vm.gH f a n v):=by
 unfold gn at hb;refine⟨fun i=> ?_,fun i hi=> ?_⟩
 ·unfold Go.X.Vm.gH;split
  ·exact hv
  ·exact h.v i
 ·unfold Go.X.Vm.gH;rw[if_neg og];exact h.out i hi
def To(w:Bool):kd w=0\/kd w=1\/kd w=2:=by cases w<;>simp[kd]
theorem MS.Ok.nil:MS.nil.Ok:=⟨⟨fun _=>.inl rfl,fun _ _=>rfl⟩,fun _=>by simp[MS.nil],fun _ _=>rfl,fun _ _=>rfl,fun i j h=>by simp[MS.nil]at h⟩
theorem MS.Ok.lay{m:MS}(h:m.Ok){a n:Int}(hb:¬gn a n)(w:Bool):(m.lay a n w).Ok:=
 ⟨h.f.gH hb (To w),h.lo,fun i hi=>h.un i (by
  simp only[MS.lay,gH]at hi
  split at hi
  ·exact absurd hi (Nw w)
  ·exact hi),h.ow,h.inj⟩
theorem Xv{m:MS}{n:Int}(h:m.pZ a n=0):¬gn a n:=by
 grind [MS.pZ]
theorem Tp{m:MS}{n:Int}(h:m.kM a n=0):¬gn a n:=by
 grind [MS.kM]
theorem MS.Ok.map{m:MS}(h:m.Ok)(a n:Int)(w:Bool):(m.map a n w).Ok:=by
 grind [MS.map,MS.Ok.lay,Xv]
theorem MS.Ok.nh{m:MS}(h:m.Ok)(a n:Int)(w:Bool):(m.nh a n w).Ok:=by
 grind [MS.nh,MS.Ok.lay,Tp]
def MS.abf(m:MS)(a n:Int)(w:Bool):(m.map a n w).fr=m.fr/\(m.map a n w).aS=m.aS:=by unfold MS.map;split<;>exact⟨rfl,rfl⟩
def MS.Xw(m:MS)(a n:Int)(w:Bool):(m.nh a n w).fr=m.fr/\(m.nh a n w).aS=m.aS:=by unfold MS.nh;split<;>exact⟨rfl,rfl⟩
def mf(a n:Int)(r:RG):List RG:=if min (r.fr+r.n) (a+n)<=max r.fr a then [r]else
 (if r.fr<max r.fr a then [⟨r.fr,max r.fr a-r.fr,r.w⟩]else [])++(if min (r.fr+r.n) (a+n)<r.fr+r.n then [⟨min (r.fr+r.n) (a+n),r.fr+r.n-min (r.fr+r.n) (a+n),r.w⟩]else [])
def jy(a:Int):Nat->List Int
 | 0=>[]
 | k+1=>jy a k++[a+k]
def uJ(a n:Int)(r:RG):List Int:=jy (max r.fr a) (min (r.fr+r.n) (a+n)-max r.fr a).toNat
theorem qM{a i:Int} :∀ {k:Nat},i∈jy a k↔a<=i/\i<a+k
 | 0=>by simp only[jy,List.not_mem_nil,false_iff];rintro⟨h1,h2⟩;simp at h2;omega
 | k+1=>by
  rw[jy,List.mem_append,qM (k:=k),List.mem_singleton];omega
def xA{a:Int} :∀ k,(jy a k).Pairwise (fun x y=>x<y)
 | 0=>.nil
 | k+1=>by
  rw[jy,List.pairwise_append];refine⟨xA k,sq,fun x hx y hy=> ?_⟩;have:=qM.1 hx;simp only[List.mem_singleton]at hy;omega
theorem zt(a:Int):∀ k,(jy a k).length=k
 | 0=>rfl
 | k+1=>by rw[jy,List.length_append,zt a k];rfl
def Nz{n:Int}{r q:RG}(hn:0<n)(hr:0<r.n)(h:q∈mf a n r):0<q.n/\r.fr<=q.fr/\q.fr+q.n<=r.fr+r.n/\q.w=r.w/\(q.fr+q.n<=a\/a+n<=q.fr):=by
 grind [mf]
theorem Xx{a n:Int}{r:RG}{i:Int}(hr:r.has i)(h:i<a\/a+n<=i):∃ q∈mf a n r,q.has i:=by
 obtain⟨h1,h2⟩:=hr;unfold mf;split
 ·simp_all[RG.has]
 ·rename_i c;by_cases d:i<max r.fr a
  ·refine⟨⟨r.fr,max r.fr a-r.fr,r.w⟩,List.mem_append.2 (.inl ?_),h1,?_⟩;all_goals grind
  ·refine⟨⟨min (r.fr+r.n) (a+n),r.fr+r.n-min (r.fr+r.n) (a+n),r.w⟩,List.mem_append.2 (.inr ?_),?_,?_⟩;all_goals grind
def Tq{n:Int}{r:RG} :(mf a n r).Pairwise (fun x y=>x.fr+x.n<=y.fr):=by
 unfold mf;split
 ·simp
 ·rw[List.pairwise_append];refine⟨by split<;>simp,by split<;>simp,fun x hx y hy=> ?_⟩;grind
def LA{l:List RG}{f:Int->Int}{n:Int}(hl:oP l f 16)(hn:0<n):(l.flatMap (mf a n)).Pairwise (fun x y=>x.fr+x.n<=y.fr)/\(∀ r∈l.flatMap (mf a n),(0<=r.fr/\0<r.n/\r.fr+r.n<=16)/\(r.fr+r.n<=a\/a+n<=r.fr)):=by
 constructor
 ·rw[List.pairwise_flatMap];refine⟨fun _ _=>Tq,hl.s.imp_of_mem ?_⟩;grind [mf]
 ·intro r hr;obtain⟨x,hx,h⟩:=List.mem_flatMap.1 hr;have h1:=Nz hn (hl.b x hx).2.1 h;have:=hl.b x hx;omega
def Cv{l:List RG}{f:Int->Int}{a n:Int}(hl:oP l f 16)(hc:Rh l f)(hn:0<n):Rh (l.flatMap (mf a n)) (gH f a n 0):=by
 refine⟨fun r hr i hi=> ?_,fun i hi=> ?_⟩
 ·obtain⟨x,hx,h⟩:=List.mem_flatMap.1 hr;obtain⟨h1,h2,h3,h4,h5⟩:=Nz hn (hl.b x hx).2.1 h;have hi1:=hi.1;have OX:=hi.2;unfold gH;rw[if_neg og,hc.h1 x hx i ⟨og,og⟩,h4]
 ·unfold gH at hi;split at hi
  ·omega
  ·obtain⟨r,hr,hh⟩:=hc.h2 i hi;grind [Xx]
def Fs{l:List RG}{f:Int->Int}{n:Int}(hl:oP l f 16)(hn:0<n):GL (l.flatMap (mf a n)):=by
 obtain⟨h1,h2⟩:=LA (a:=a) hl hn;exact⟨fun r hr=>(h2 r hr).1,h1.imp fun h=>.inl h⟩
def NA{l:List RG}{n:Int}{w:Bool}(hl:GL l)(hb:¬gn a n)(h:∀ r∈l,r.fr+r.n<=a\/a+n<=r.fr):GL (l++[⟨a,n,w⟩]):=by
 unfold gn at hb;refine⟨fun r hr=> ?_,?_⟩
 ·rcases List.mem_append.1 hr with hr | hr
  ·exact hl.b r hr
  grind
 grind [GL.p]
def Jf{l:List RG}{f g:Int->Int}{n:Int}{w:Bool}(hc:Rh l f)(h:∀ r∈l,r.fr+r.n<=a\/a+n<=r.fr)(hg:∀ i,¬(a<=i/\i<a+n)->g i=f i):Rh (l++[⟨a,n,w⟩]) (gH g a n (kd w)):=by
 refine⟨fun r hr i hi=> ?_,fun i hi=> ?_⟩
 ·have h1:=hi.1;have h2:=hi.2;grind [gH,Rh.h1]
 ·by_cases c:a<=i/\i<a+n
  ·exact⟨_,List.mem_append.2 (.inr (List.mem_singleton.2 rfl)),c.1,c.2⟩
  ·unfold gH at hi;rw[if_neg c,hg i c]at hi;obtain⟨r,hr,hh⟩:=hc.h2 i hi;grind
theorem PC{f:Int->Int}(hf:Rg f){n:Int}(hb:¬gn a n):(ah f).flatMap (uJ a n)=kN (fun i=>f i != 0) a n.toNat:=by
 unfold gn at hb;have hl:=jI hf;refine rK (fun i=>i) ?_ (rL _) fun i=> ?_
 ·rw[List.pairwise_flatMap];refine⟨fun r _=>xA _,hl.s.imp_of_mem ?_⟩;grind [qM,uJ]
 ·rw[List.mem_flatMap,ox];constructor
  ·rintro⟨r,hr,h⟩;have h1:=qM.1 h;have e:=(oQ hf).h1 r hr i ⟨og,og⟩;grind [Nw]
  ·rintro⟨h1,h2⟩;simp only[bne_iff_ne,ne_eq]at h2;obtain⟨r,hr,hh⟩:=(oQ hf).h2 i h2;have a1:=hh.1;have a2:=hh.2;grind [qM,uJ]
def Ft{p:Int->Bool}{a:Int} :∀ k,(kN p a k).length<=k
 | 0=>by simp[kN]
 | k+1=>by
  have:=Ft (p:=p) (a:=a) k;grind [kN]
theorem Xy{l:List RG}(h:0<=i/\i<l.length):l[i.toNat]? =some (bB l i):=by
 grind [bB]
def abg(q:Prop)[Decidable q](r:RG):(if q then [r]else []).length<=1:=by split<;>simp
def dM(pb:Nat)(bs:Int->Int->Int)(rf:Int->Int)(i:Nat):Value:=
 if i=0 then aA pb 0 0 else
 if 1<=i/\(i-1)/8<64/\((i-1)%8)%1=0/\((i-1)%8)/1<8 then .int .u8 (bs (((i-1)/8:Nat):Int) ((((i-1)%8)/1:Nat):Int))else
 if 513<=i/\(i-513)%1=0/\(i-513)/1<64 then iI (rf (((i-513)/1:Nat):Int))else
 undef
def dM.Jg(pb:Nat)(bs:Int->Int->Int)(rf:Int->Int):(0+0)<577/\dM pb bs rf (0+0)=aA pb 0 0:=by
 grind [dM]
def Ex(pb:Nat)(bs:Int->Int->Int)(rf:Int->Int)(z0:Int)(z1:Int)(q0:0<=z0/\z0<64)(q1:0<=z1/\z1<8):(((0+1)+z0.toNat*8)+z1.toNat*1)<577/\dM pb bs rf (((0+1)+z0.toNat*8)+z1.toNat*1)= .int .u8 (bs z0 z1):=by
 grind [dM]
def vy(pb:Nat)(bs:Int->Int->Int)(rf:Int->Int)(z0:Int)(z1:Int)(q0:0<=z0/\z0<64)(q1:0<=z1/\z1<8)(v:Int):(((0+1)+z0.toNat*8)+z1.toNat*1)<577/\dL (dM pb bs rf) (((0+1)+z0.toNat*8)+z1.toNat*1) (.int .u8 (v))=dM pb (cv bs z0 z1 v) rf:=by
 grind [dL,cv,dM]
def iP(pb:Nat)(bs:Int->Int->Int)(rf:Int->Int)(z0:Int)(q0:0<=z0/\z0<64:=by omega):((0+513)+z0.toNat*1)<577/\dM pb bs rf ((0+513)+z0.toNat*1)=iI (rf z0):=by
 grind [dM]
def lT(pb:Nat)(bs:Int->Int->Int)(rf:Int->Int)(z0:Int)(q0:0<=z0/\z0<64)(v:Int):((0+513)+z0.toNat*1)<577/\dL (dM pb bs rf) ((0+513)+z0.toNat*1) (iI (v))=dM pb bs (ad rf z0 v):=by
 grind [dL,ad,dM]
def b6(kb:Nat)(p:Option Addr)(n:Nat)(c:Nat)(fr:Int->Int)(aS:Int->Bool)(i:Nat):Value:=
 if i=0 then aA kb 0 0 else
 if i=1 then .slice p n c else
 if 2<=i/\(i-2)%2=0/\(i-2)/2<16 then iI (fr (((i-2)/2:Nat):Int)-1)else
 if 3<=i/\(i-3)%2=0/\(i-3)/2<16 then .bool (aS (((i-3)/2:Nat):Int))else
 undef
def b6.zu(kb:Nat)(p:Option Addr)(n:Nat)(c:Nat)(fr:Int->Int)(aS:Int->Bool):(0+0)<34/\b6 kb p n c fr aS (0+0)=aA kb 0 0:=by
 grind [b6]
def lu(kb:Nat)(p:Option Addr)(n:Nat)(c:Nat)(fr:Int->Int)(aS:Int->Bool):(0+1)<34/\b6 kb p n c fr aS (0+1)= .slice p n c:=by
 grind [b6]
def bP(kb:Nat)(p:Option Addr)(n:Nat)(c:Nat)(fr:Int->Int)(aS:Int->Bool)(z0:Int)(q0:0<=z0/\z0<16:=by omega):(((0+2)+z0.toNat*2)+0)<34/\b6 kb p n c fr aS (((0+2)+z0.toNat*2)+0)=iI (fr z0-1):=by
 grind [b6]
def pF(kb:Nat)(p:Option Addr)(n:Nat)(c:Nat)(fr:Int->Int)(aS:Int->Bool)(z0:Int)(q0:0<=z0/\z0<16)(v:Int):(((0+2)+z0.toNat*2)+0)<34/\dL (b6 kb p n c fr aS) (((0+2)+z0.toNat*2)+0) (iI (v))=b6 kb p n c (ad fr z0 (v+1)) aS:=by
 grind [dL,ad,b6]
def xB(kb:Nat)(p:Option Addr)(n:Nat)(c:Nat)(fr:Int->Int)(aS:Int->Bool)(z0:Int)(q0:0<=z0/\z0<16):(((0+2)+z0.toNat*2)+1)<34/\b6 kb p n c fr aS (((0+2)+z0.toNat*2)+1)= .bool (aS z0):=by
 grind [b6]
theorem gX(kb:Nat)(p:Option Addr)(n:Nat)(c:Nat)(fr:Int->Int)(aS:Int->Bool)(z0:Int)(q0:0<=z0/\z0<16)(v:Bool):(((0+2)+z0.toNat*2)+1)<34/\dL (b6 kb p n c fr aS) (((0+2)+z0.toNat*2)+1) (.bool (v))=b6 kb p n c fr (ad aS z0 v):=by
 grind [dL,ad,b6]
def Ts(row:Int->Int):Array Value:=((List.range 8).map fun (j:Nat)=>Value.int .u8 (row (j:Int))).toArray
def Tt(pb:Nat)(bs:Int->Int->Int)(rf:Int->Int)(f:Int)(h:0<=f/\f<64):0+1+f.toNat*8+8<=577/\cZ (dM pb bs rf) (0+1+f.toNat*8) 8= .agg (Ts (bs f)):=by
 refine⟨og,?_⟩;unfold cZ Ts;congr 2;apply List.map_congr_left;grind [dM]
def Fu(pb:Nat)(bs:Int->Int->Int)(rf:Int->Int)(f:Int)(row:Int->Int)(h:0<=f/\f<64:=by omega):0+1+f.toNat*8+8<=577/\cC (dM pb bs rf) (0+1+f.toNat*8) (Ts row).toList=dM pb (A7 bs f row) rf:=by
 refine⟨og,?_⟩;have e:(Ts row).toList=[.int .u8 (row 0),.int .u8 (row 1),.int .u8 (row 2),.int .u8 (row 3),.int .u8 (row 4),.int .u8 (row 5),.int .u8 (row 6),.int .u8 (row 7)]:=rfl;rw[e];simp only[cC];have st:∀ (bs:Int->Int->Int) (j:Nat) (v:Int),j<8->dL (dM pb bs rf) (0+1+f.toNat*8+j) (.int .u8 v)=dM pb (cv bs f j v) rf:=fun bs j v hj=>by
  have:=(vy pb bs rf f (j:Int) h og v).2;simp_all
 have s0:=st bs 0 (row 0) og;rw[show 0+1+f.toNat*8+0=0+1+f.toNat*8 from rfl]at s0;rw[s0,st _ 1 _ og,show 0+1+f.toNat*8+1+1=0+1+f.toNat*8+2 from rfl,st _ 2 _ og,show 0+1+f.toNat*8+2+1=0+1+f.toNat*8+3 from rfl,st _ 3 _ og,show 0+1+f.toNat*8+3+1=0+1+f.toNat*8+4 from rfl,st _ 4 _ og,
  show 0+1+f.toNat*8+4+1=0+1+f.toNat*8+5 from rfl,st _ 5 _ og,show 0+1+f.toNat*8+5+1=0+1+f.toNat*8+6 from rfl,st _ 6 _ og,show 0+1+f.toNat*8+6+1=0+1+f.toNat*8+7 from rfl,st _ 7 _ og]
 funext i;unfold dM;refine gP (fun _=>rfl) fun _=>gP (fun c=> ?_) fun _=>rfl;congr 1;simp only[A7,cv];grind
def PD(kb:Nat)(p:Option Addr)(n c:Nat)(fr:Int->Int)(aS:Int->Bool)(i:Int)(h:0<=i/\i<16):0+2+i.toNat*2+2<=34/\cZ (b6 kb p n c fr aS) (0+2+i.toNat*2) 2= .agg #[iI (fr i-1),.bool (aS i)]:=by
 grind [cZ,List.range,List.range.loop,b6]
def rM(kb:Nat)(p:Option Addr)(n c:Nat)(fr:Int->Int)(aS:Int->Bool)(i:Int)(f:Int)(w:Bool)(h:0<=i/\i<16:=by omega):0+2+i.toNat*2+2<=34/\cC (b6 kb p n c fr aS) (0+2+i.toNat*2) [iI f,.bool w]=b6 kb p n c (ad fr i (f+1)) (ad aS i w):=by
 refine⟨og,?_⟩;simp only[cC];have h1:=(pF kb p n c fr aS i h f).2;simp_all[gX]
def GI(kb:Nat)(p:Option Addr)(n c:Nat)(fr:Int->Int)(aS:Int->Bool)(p2:Option Addr)(n2 c2:Nat):0+1<34/\dL (b6 kb p n c fr aS) (0+1) (.slice p2 n2 c2)=b6 kb p2 n2 c2 fr aS:=by
 grind [dL,b6]
def PE(hk:0<=k/\k<=6):nN (nN i k) k=i:=by
 grind [nN,ahl,aex,Xk,aey,Xl,aez,ahm]
def Xz(hk:0<=k/\k<=5)(h:a%p2 (k+1)=0):nN (a+p2 k) k=a:=by
 grind [p2,Xk,Xl,nN]
structure BB.Cw (b:BB):Prop where
 ec:b.Inv
 cov:∀ j,0<=j->j<64->∃ i,i<=j/\0<b.bV i/\j<i+p2 (b.bV i-1)
 nb:∀ i,0<b.bV i->b.tk i=false->¬b.jH i
def GJ{b:BB}(h:b.Inv)(ha:1<b.bV a)(hc:∀ j,0<=j->j<64->∃ i,i<=j/\0<b.bV i/\j<i+p2 (b.bV i-1)):∀ j,0<=j->j<64->∃ i,i<=j/\0<(b.split a).bV i/\j<i+p2 ((b.split a).bV i-1):=fun j h0 h1=>by
 obtain⟨s1,s2,s3,s4⟩:=h.split ha;have e2:=uH (k:=b.bV a-2);rw[show b.bV a-2+1=b.bV a-1 from og]at e2;have hp:=vZ (b.bV a-2);have fM:¬a=a+p2 (b.bV a-2):=og;have o1:∀ i,(b.split a).bV i=if i=a+p2 (b.bV a-2)then b.bV a-1 else if i=a then b.bV a-1 else b.bV i:=fun i=>rfl
 grind
theorem BB.Cw.gG:∀ (n:Nat) {b:BB} {a:Int},b.Cw->(n:Int)<b.bV a->b.tk a=true->(BB.gG n b a).Cw
 | 0,_,_,h,_,_=>h
 | n+1,b,a,h,ha,ht=>by
  obtain⟨s1,s2,s3,s4⟩:=h.ec.split (a:=a) og;have KN:=h.ec.jA a;have e2:=uH (k:=b.bV a-2);rw[show b.bV a-2+1=b.bV a-1 from og]at e2;have hp:=vZ (b.bV a-2);have fM:¬a=a+p2 (b.bV a-2):=og;have o1:∀ i,(b.split a).bV i=if i=a+p2 (b.bV a-2)then b.bV a-1 else if i=a then b.bV a-1 else b.bV i:=fun i=>rfl
  have KQ:nN (a+p2 (b.bV a-2)) (b.bV a-2)=a:=Xz og (by rw[show b.bV a-2+1=b.bV a-1 from og];exact h.ec.al a og);refine BB.Cw.gG n ⟨s1,GJ h.ec og h.cov,fun i hi hti hcj=> ?_⟩ (by rw[s4];omega) ht;have abh:b.tk i=false:=hti;have hna:¬i=a:=by rintro rfl;rw[ht]at abh;cases abh
  obtain⟨c1,c2,c3⟩:=hcj;by_cases c:i=a+p2 (b.bV a-2)
  ·have hb:(b.split a).dw i=a:=by
    unfold BB.dw;rw[o1,if_pos c,show b.bV a-1-1=b.bV a-2 from og,c];exact KQ
   rw[hb]at c3;rw[show(b.split a).tk a=b.tk a from rfl,ht]at c3;cases c3
  ·have oi:(b.split a).bV i=b.bV i:=by rw[o1,if_neg c,if_neg hna]
   have hb:(b.split a).dw i=b.dw i:=by unfold BB.dw;rw[oi]
   rw[hb,oi]at c2;rw[hb]at c3;rw[oi]at hi c1;have hba:¬b.dw i=a:=fun e=>by
    rw[e]at c3;rw[show(b.split a).tk a=b.tk a from rfl,ht]at c3;cases c3
   by_cases d:b.dw i=a+p2 (b.bV a-2)
   ·rw[d,o1,if_pos rfl]at c2;have e3:nN (b.dw i) (b.bV i-1)=i:=PE og;rw[d,<-c2,show b.bV a-1-1=b.bV a-2 from og,KQ]at e3;exact hna e3.symm
   ·rw[o1,if_neg d,if_neg hba]at c2;exact h.nb i hi abh ⟨c1,c2,c3⟩
theorem BB.Cw.gF{b:BB}(h:b.Cw){a:Int}(ha:0<b.bV a):(b.gF a).Cw:=by
 refine⟨h.ec.gF ha,h.cov,fun i hi hti hcj=> ?_⟩;have t1:∀ j,(b.gF a).tk j=false->b.tk j=false:=fun j hj=>by
  have:ad b.tk a true j=false:=hj;grind [aj,ae]
 obtain⟨c1,c2,c3⟩:=hcj;exact h.nb i hi (t1 i hti) ⟨c1,c2,t1 _ c3⟩
theorem BB.Cw.take{b:BB}(h:b.Cw)(o:Int):(b.take o).2.2.Cw:=by
 unfold BB.take;split
 ·omega
 ·rename_i ho;split
  ·omega
  ·rename_i k i hp;obtain⟨h1,h2,h3,h4,h5⟩:=nV hp;have hh:=h.gF (a:=i) og;exact BB.Cw.gG _ hh (by show _<b.bV i;omega) (aj _ _ _)
def GK{b:BB}{o:Int}(h:¬(b.take o).2.1=0):(b.take o).2.2=b:=by
 grind [BB.take]
def BB.Inv.Cx{b:BB}(h:b.Inv){o:Int}(he:(b.take o).2.1=0):(0<=o/\o<=6)/\(0<=(b.take o).1/\(b.take o).1<64)/\b.ed (b.take o).1=0/\(b.take o).1%p2 o=0/\(b.take o).2.2.ed=ad b.ed (b.take o).1 (o+1):=by
 by_cases ho:o<0\/6<o
 ·grind [pX]
 ·cases hp:b.pick o with
  | none=>rw[xh ho hp]at he;simp at he
  | some x=>
   obtain⟨k,i⟩:=x;obtain⟨h1,h2,h3,h4,h5⟩:=nV hp;have hu:=congrArg PB.u (h.Fk ho hp);have hi:=h.take o;have hh:=h.gF (a:=i) og;obtain⟨s1,_⟩:=hh.wc ((k:Int)-o).toNat (a:=i) (by show _<b.bV i;omega);have e1:(b.take o).1=i:=by rw[BB.lR ho hp]
   have e2:(b.take o).2.2.bV i=o+1:=by
    rw[BB.lR ho hp];show(BB.gG _ _ _).bV i=_;rw[s1];show b.bV i-_=_;omega
   have ha:=hi.al i (by rw[e2];omega);rw[e2,show o+1-1=o from og]at ha;rw[e1];exact⟨og,og,by unfold BB.ed;rw[if_neg (by simp[h5])],ha,hu.symm⟩
theorem Cy(b:BB)(a:Int):(b.rI a).1=b.is a:=by
 grind [rJ,pE]
def BB.Inv.Tu{b:BB}(h:b.Inv)(he:(b.rI a).1=0):(0<=a/\a<64)/\¬b.ed a=0/\(b.rI a).2.ed=ad b.ed a 0/\(b.rI a).2.tk=ad b.tk a false:=by
 rw[Cy]at he;obtain⟨h1,h2,h3⟩:=wa he;have hu:=congrArg PB.u (h.zn he);refine⟨⟨h1,h2⟩,?_,hu.symm,?_⟩
 ·grind [BB.ed,Inv]
 ·rw[rJ he];exact BB.Cq _ _ _
def zKl(b:Nat):List Value:=aA b 0 0::(List.replicate 512 (Value.int .u8 0)++List.replicate 64 (Value.int .i64 0))
def VB.cK:VB:=⟨BB.cK,fun _ _=>0,fun _=>0⟩
theorem VB.Ok.cK:VB.cK.Ok:=⟨BB.Inv.cK,fun _=>by simp[VB.cK],fun _ _=>by simp[VB.cK]⟩
def abi(b:Nat):∀ i,i<577->cellsOf (zKl b).toArray i=dM b VB.cK.iD VB.cK.rf i:=fun i hi=>by
 unfold cellsOf zKl dM;rw[Array.getD_eq_getD_getElem?,List.getElem?_toArray];by_cases h0:i=0
 ·grind
 ·rw[if_neg h0,show i=(i-1)+1 from og,List.getElem?_cons_succ];by_cases h1:i-1<512
  ·rw[List.getElem?_append_left (by rw[List.length_replicate];exact h1),List.getElem?_replicate,if_pos h1];rw[if_pos og];rfl
  ·rw[List.getElem?_append_right (by rw[List.length_replicate];omega),List.length_replicate,List.getElem?_replicate,if_pos og];rw[if_neg og,if_pos og];rfl
def zNl(b:Nat):List Value:=aA b 0 0:: .slice none 0 0::(List.replicate 16 [Value.int .i64 0,Value.bool false]).flatten
def Tv(b:Nat):∀ i,i<34->cellsOf (zNl b).toArray i=b6 b none 0 0 (fun _=>1) (fun _=>false) i:=fun i hi=>by
 unfold cellsOf zNl b6;rw[Array.getD_eq_getD_getElem?,List.getElem?_toArray];by_cases h0:i=0
 ·simp_all
 ·rw[if_neg h0];by_cases h1:i=1
  ·simp_all
  ·rw[if_neg h1];have h:∀ k,k<32->((List.replicate 16 [Value.int .i64 0,Value.bool false]).flatten)[k]? =some (if k%2=0 then Value.int .i64 0 else .bool false):=fun k hk=>match k,hk with
    | 0,_=>rfl
    | 1,_=>rfl
    | 2,_=>rfl
    | 3,_=>rfl
    | 4,_=>rfl
    | 5,_=>rfl
    | 6,_=>rfl
    | 7,_=>rfl
    | 8,_=>rfl
    | 9,_=>rfl
    | 10,_=>rfl
    | 11,_=>rfl
    | 12,_=>rfl
    | 13,_=>rfl
    | 14,_=>rfl
    | 15,_=>rfl
    | 16,_=>rfl
    | 17,_=>rfl
    | 18,_=>rfl
    | 19,_=>rfl
    | 20,_=>rfl
    | 21,_=>rfl
    | 22,_=>rfl
    | 23,_=>rfl
    | 24,_=>rfl
    | 25,_=>rfl
    | 26,_=>rfl
    | 27,_=>rfl
    | 28,_=>rfl
    | 29,_=>rfl
    | 30,_=>rfl
    | 31,_=>rfl
    | k+32,h=>absurd h og
   grind
theorem rO{kb:Nat}{p:Option Addr}{n c:Nat}{f f':Int->Int}{o o':Int->Bool}(h:∀ i:Int,0<=i->i<16->f i=f' i/\o i=o' i):b6 kb p n c f o=b6 kb p n c f' o':=by
 grind [b6]
def ZG(i:Int):Int->Int:=fun j=>if 0<=j/\j<i then 0 else 1
theorem Tw(h:0<=i):ad (ZG i) i (-1+1)=ZG (i+1):=by
 grind [ad,ZG]
theorem Tx:ah MS.nil.ay=[]:=dk
theorem VB.lR{v:VB}(h:(v.bb.take 0).2.1=0):v.take=((v.bb.take 0).1,0,⟨(v.bb.take 0).2.2,A7 v.iD (v.bb.take 0).1 fun _=>0,ad v.rf (v.bb.take 0).1 1⟩):=by grind [VB.take]
theorem mH{v:VB}(h:¬(v.bb.take 0).2.1=0):v.take=(0,(v.bb.take 0).2.1,v):=by grind [VB.take]
def pG{v:VB}(hv:v.Ok)(h:v.take.2.1=0):0<=v.take.1/\v.take.1<64:=by
 by_cases c:(v.bb.take 0).2.1=0
 ·rw[VB.lR c];exact(hv.bb.Cx c).2.1
 grind [mH]
theorem VB.Ok.take{v:VB}(hv:v.Ok):v.take.2.2.Ok:=by
 by_cases c:(v.bb.take 0).2.1=0
 ·rw[VB.lR c];refine⟨hv.bb.take 0,fun f=> ?_,fun f j=> ?_⟩
  ·show 0<=ad v.rf _ 1 f/\ad v.rf _ 1 f<=100000;unfold ad;split
   ·omega
   ·exact hv.rf f
  ·show 0<=A7 v.iD (v.bb.take 0).1 (fun _=>0) f j/\A7 v.iD (v.bb.take 0).1 (fun _=>0) f j<256;unfold A7;split
   ·simp
   ·exact hv.iD f j
 grind [mH]
theorem VB.Ok.drop{v:VB}(hv:v.Ok){f:Int}(h:1<=v.rf f):(v.drop f).Ok:=by
 have hr:∀ g,0<=ad v.rf f (v.rf f-1) g/\ad v.rf f (v.rf f-1) g<=100000:=fun g=>by
  unfold ad;split
  ·have:=hv.rf f;omega
  ·exact hv.rf g
 unfold VB.drop;split
 ·exact⟨hv.bb.rI f,hr,hv.iD⟩
 ·exact⟨hv.bb,hr,hv.iD⟩
theorem Cz(v:VB)(f:Int):(v.drop f).rf=ad v.rf f (v.rf f-1)/\(v.drop f).iD=v.iD:=by grind [VB.drop]
theorem zv{v:VB}{f:Int}(h:v.rf f-1=0):v.drop f=⟨(v.bb.rI f).2,v.iD,ad v.rf f (v.rf f-1)⟩:=by grind [VB.drop]
theorem zw{v:VB}{f:Int}(h:¬v.rf f-1=0):v.drop f=⟨v.bb,v.iD,ad v.rf f (v.rf f-1)⟩:=by grind [VB.drop]
def RG.Ty(r:RG)(i:Int):Bool:=decide (r.fr<=i)&&decide (i<r.fr+r.n)
theorem AE(r:RG)(i:Int):r.Ty i=true↔r.has i:=by unfold RG.Ty RG.has;simp
def pgA(fr:Int->Int)(aS:Int->Bool):Array Value:=((List.range 32).map fun (j:Nat)=>if j%2=0 then Value.int .i64 (fr ((j/2:Nat):Int)-1)else .bool (aS ((j/2:Nat):Int))).toArray
def LB(kb:Nat)(p:Option Addr)(n c:Nat)(fr:Int->Int)(aS:Int->Bool):0+2+32<=34/\cZ (b6 kb p n c fr aS) (0+2) 32= .agg (pgA fr aS):=by
 refine⟨og,?_⟩;rfl
def abk{fr:Int->Int}{aS:Int->Bool}(h:0<=z/\z<16):(pgA fr aS).extract (z.toNat*2) (z.toNat*2+2)= #[iI (fr z-1),.bool (aS z)]:=by
 have hs:(pgA fr aS).size=32:=by simp[pgA]
 apply Array.ext
 ·grind
 ·intro i h1 h2;have h3:i=0\/i=1:=by simp at h2;omega
  rw[Array.getElem_extract];rcases h3 with rfl | rfl
  ·simp only[pgA,List.getElem_toArray,List.getElem_map,List.getElem_range,Nat.add_zero];grind
  ·simp only[pgA,List.getElem_toArray,List.getElem_map,List.getElem_range];grind
def PG{l:List RG} :(bZ (fa l) (l.length*3)).all one=true:=by
 rw[List.all_eq_true];intro v hv;simp only[bZ,List.mem_map,List.mem_range]at hv;obtain⟨j,hj,rfl⟩:=hv;unfold fa RG.cell;grind [one]
def NB(f:Int)(w:Bool)(i:Nat):Value:=if i=0 then iI f else if i=1 then .bool w else undef
theorem NB.f(f:Int)(w:Bool):0+0<2/\NB f w (0+0)=iI f:=⟨og,rfl⟩
theorem NB.w(f:Int)(w:Bool):0+1<2/\NB f w (0+1)= .bool w:=⟨og,rfl⟩
theorem NB.box(f:Int)(w:Bool):∀ i,i<2->cellsOf #[iI f,.bool w] i=NB f w i:=fun i h=>by
 match i,h with
 | 0,_=>rfl
 | 1,_=>rfl
 | k+2,h=>omega
theorem NB.st(f g:Int)(w u:Bool):0+2<=2/\cC (NB g u) 0 [iI f,.bool w]=NB f w:=⟨og,by
 funext i
 match i with
 | 0=>rfl
 | 1=>rfl
 | k+2=>simp[cC,dL,NB]⟩
def PH{l:List RG}(h:GL l):∀ r∈l,0<=r.fr/\r.fr<=16:=fun r hr=>by have:=h.b r hr;omega
section
variable {P:Program} {n:Fr} {Q:Exit->Act->World->Prop} {L:PF} {ops:Md} {bU:List Oper} {ty:TypeId} {pos:String} {af:Array Edge} {d:Nat} {W:World} {S:Nat->Nat->Prop} {H H':List aB}
def iY{t e:TypeId}{x y:Operand}{p:Option Addr}{cap c b:Nat}{jL:List RG}{r:RG}(hx:ev L x=some (.slice p jL.length cap))(hy:ev L y=some (.slice (some ⟨b,0,none⟩) 1 c))(ht:P.underlying t=some (.slice e))(hr:rh P e 3=true)(hH:nc H (aM p cap e 3 jL.length (fa jL)) H')(hN:kR H (.cells b 0 3 (cellsOf r.cQ)))(hk:jL.length+1<=100000000000)(hd:Nat.blt d n.sz=true)(h:∀ p' cJ,XO P n ops Q bU ((d,.slice p' (jL++[r]).length cJ)::L) (XM W S (aM p' cJ e 3 (jL++[r]).length (fa (jL++[r]))::H'))):XO P n ops Q (⟨some d,.call ⟨.builtin .append,#[x,y],#[t,t]⟩,ty,pos,af,none⟩::bU) L (XM W S H):=
 vK (C2:=fa (jL++[r])) hx hy ht hr hH hN rfl rfl og hk (fa.app jL r _ (fun i hi=>by
  match i,hi with
  | 0,_=>rfl
  | 1,_=>rfl
  | 2,_=>rfl
  | k+3,hi=>omega)) hd (fun p' cJ=>by
  have e1:jL.length+1=(jL++[r]).length:=sq
  rw[e1]
  exact h p' cJ)
end
def Tz{l:List RG}{m:Nat}(hm:m=l.length)(h:0<=z/\z<m):0+z.toNat*3+3<=m*3/\cZ (fa l) (0+z.toNat*3) 3= .agg (bB l z).cQ:=by
 subst hm;exact fa.agg h
def NC(a n:Int)(r:RG):(mf a n r).length<=2:=by
 grind [mf]
theorem uK(l:List RG)(r:RG):mg (l++[r])=D3 (mg l) r:=by grind [mg]
def TA:∀ (k:Nat) (l:List RG),l.length=k->(mg l).length<=k
 | 0,l,h=>by rw[List.length_eq_zero_iff]at h;subst h;simp[mg]
 | k+1,l,h=>by
  obtain⟨l',x,rfl⟩:=uI (l:=l) og;rw[uK];have h1:=Nx (mg l') x;have h2:=TA k l' (by simp at h;exact h);omega
def aeF:∀ (k:Nat) (l:List RG),l.length=k->(∀ r∈l,0<=r.fr/\0<r.n/\r.fr+r.n<=16)->∀ r∈mg l,0<=r.fr/\0<r.n/\r.fr+r.n<=16
 | 0,l,h,_=>by rw[List.length_eq_zero_iff]at h;subst h;intro r hr;simp[mg]at hr
 | k+1,l,h,hb=>by
  obtain⟨l',x,rfl⟩:=uI (l:=l) og;have ih:=aeF k l' (by simp at h;exact h) fun r hr=>hb r (by simp[hr]);have hx:=hb x sq;rw[uK];intro r hr;rcases Nat.eq_zero_or_pos (mg l').length with q | q;all_goals grind [Nv,uI,Jb]
theorem oy{l:List RG}(h:0<=i/\i<l.length):l.take (i+1).toNat=l.take i.toNat++[bB l i]:=by
 rw[show(i+1).toNat=i.toNat+1 from og,List.take_add_one,Xy h];rfl
theorem uL{β:Type}(f:RG->List β){l:List RG}(h:0<=i/\i<l.length):(l.take (i+1).toNat).flatMap f=(l.take i.toNat).flatMap f++f (bB l i):=by
 grind [oy]
def abl{n:Int}{r:RG}(h:¬min (r.fr+r.n) (a+n)<=max r.fr a):mf a n r=(if r.fr<max r.fr a then [⟨r.fr,max r.fr a-r.fr,r.w⟩]else [])++(if min (r.fr+r.n) (a+n)<r.fr+r.n then [⟨min (r.fr+r.n) (a+n),r.fr+r.n-min (r.fr+r.n) (a+n),r.w⟩]else []):=by grind [mf]
def XA{n:Int}{r:RG}(h:min (r.fr+r.n) (a+n)<=max r.fr a):mf a n r=[r]/\uJ a n r=[]:=by
 unfold mf uJ;rw[if_pos h,show(min (r.fr+r.n) (a+n)-max r.fr a).toNat=0 from og];exact⟨rfl,rfl⟩
theorem LC(a:Int)(h:0<=k):jy a (k+1).toNat=jy a k.toNat++[a+k]:=by
 rw[show(k+1).toNat=k.toNat+1 from og,jy,show((k.toNat:Nat):Int)=k from og]
theorem CA(v:VB)(fr:Int->Int)(l:List Int)(i:Int):tE v fr (l++[i])=ZF fr (tE v fr l) i:=by grind [tE]
def PJ{l:List Int}(h:0<l.length):∃ l' i,l=l'++[i]:=⟨l.dropLast,l.getLast (by intro e;rw[e]at h;simp at h),(List.dropLast_concat_getLast _).symm⟩
def TC{v:VB}{m:MS}(hv:v.Ok)(hm:m.Ok)(hi:m.In v):∀ (k:Nat) (l:List Int),l.length=k->l.Nodup->(tE v m.fr l).2.Ok/\(0<=(tE v m.fr l).1/\(tE v m.fr l).1<=k)/\∀ g,(∀ i∈l,m.fr i≠g+1)->(tE v m.fr l).2.rf g=v.rf g
 | 0,l,h,_=>by rw[List.length_eq_zero_iff]at h;subst h;exact⟨hv,by simp[tE],fun _ _=>rfl⟩
 | k+1,l,h,hn=>by
  obtain⟨l',i,rfl⟩:=PJ (l:=l) og;rw[List.nodup_append]at hn;obtain⟨i1,i2,i3⟩:=TC hv hm hi k l' (by simp at h;exact h) hn.1;rw[CA];unfold ZF;split
  ·rename_i c;have e:(tE v m.fr l').2.rf (m.fr i-1)=v.rf (m.fr i-1):=i3 _ (fun j hj q=>by
    have:=hm.inj i j c og
    subst this
    exact hn.2.2 i hj i sq rfl)
   refine⟨i1.drop (by rw[e];exact hi i c),⟨by show 0<=(tE v m.fr l').1+1;omega,by show(tE v m.fr l').1+1<=_;omega⟩,fun g hg=> ?_⟩;show((tE v m.fr l').2.drop (m.fr i-1)).rf g=_;rw[(Cz _ _).1,ae _ _ (by have:=hg i sq;omega)];exact i3 g fun j hj=>hg j (by simp[hj])
  ·exact⟨i1,⟨i2.1,og⟩,fun g hg=>i3 g fun j hj=>hg j (by simp[hj])⟩
def nW(f:Int->Int)(l:List Int):Int->Int:=fun i=>if i∈l then 0 else f i
def ef(f:Int->Bool)(l:List Int):Int->Bool:=fun i=>if i∈l then false else f i
theorem PK(f:Int->Int)(l:List Int)(i:Int):nW f (l++[i])=ad (nW f l) i (-1+1):=by
 grind [nW,ad]
theorem PL(f:Int->Bool)(l:List Int)(i:Int):ef f (l++[i])=ad (ef f l) i false:=by
 grind [ef,ad]
theorem PM{f:Int->Int}{l:List Int}(h:f i=0):nW f (l++[i])=nW f l:=by
 grind [nW]
theorem PN{f:Int->Bool}{l:List Int}(h:f i=false):ef f (l++[i])=ef f l:=by
 grind [ef]
def ZH{l:List Int}(h:0<=i/\i<l.length):l.take (i+1).toNat=l.take i.toNat++[il l i]:=by
 rw[show(i+1).toNat=i.toNat+1 from og,List.take_add_one];grind [il]
def rH{l:List Int}(h:0<=i/\i<l.length):il l i∈l:=by
 grind [il]
def XD{l:List Int}(hs:l.Pairwise fun x y=>x<y)(h:0<=i/\i<l.length):il l i∉l.take i.toNat:=by
 grind [List.mem_iff_getElem,List.pairwise_iff_getElem,il]
theorem TE{l:List Int}(hs:l.Pairwise fun x y=>x<y):l.Nodup:=hs.imp fun h e=>og
def LD{l:List Int}(hs:l.Pairwise fun x y=>x<y)(k:Nat):(l.take k).Nodup:=by grind [TE]
theorem MS.Ok.fE{v:VB}{m:MS}(h:m.Ok)(a n:Int):(m.fE v a n).2.2.2.Ok:=by
 unfold MS.fE;split
 ·omega
 ·rename_i hb;refine⟨h.f.gH hb (.inl rfl),fun i=> ?_,fun i hi=> ?_,fun i hi=> ?_,fun i j hi HW=> ?_⟩
  ·show 0<=gH m.fr a n 0 i/\gH m.fr a n 0 i<=64;unfold gH;split
   ·omega
   ·exact h.lo i
  ·grind [gH,MS.Ok.un]
  all_goals grind [gH,MS.Ok.ow,MS.Ok.inj]
end Go.X.Vm
