import Derived.Test.YthdinakloheinaaGreatDoorkJY0
import Derived.Test.YthdinakloheinaaGreatDoorProg
set_option linter.all false
set_option maxRecDepth 20000
set_option maxHeartbeats 16000000
open Go.Proofs.Tryz
namespace Go.X.Kn
open Go Go.X
variable{T n:Int}
def Lv(Q:Int->Prop)(b:KA):Prop:=∀ p,(b.u p).st=1->Q p
def Uy(Q:Int->Prop):dm (Lv Q) where
 rest:=fun h hu p q=>h p (by rw[<-(hu p).1];exact q)
 end_:=fun {a T n} co w hn hl h p q=>by
  by_cases c:p=n
  ·subst c;rw[lX]at q;exact absurd q dq
  ·rw[ni _ _ c]at q;exact h p q
 za:=fun {a T n} w hn hs h p q=>by
  by_cases c:p=n
  ·subst c;rw[show(a.dD p).u p=PA.nil from ah _ _ _]at q;exact absurd (show(0:Int)=1 from q) dq
  ·rw[ll _ c]at q;exact h p q
 spc:=fun _ h=>h
def dm.Yy{I:KA->Prop}(S:dm I){a:KA}(w:a.Wk T)(hl:(a.u n).st=1)(co:Int)(h1:I (a.cH n co)):I (a.db n co):=by
 have hn:=w.jV (n:=n) og;have h2:I (a.gG n co):=by
  unfold KA.gG;split
  ·refine S.dS (S.Vh n (w.cH hn hl co) (pA (w.cH hn hl co).sI _) (fun m hm=>(w.cH hn hl co).y9 _ hm) h1) 4
  ·exact h1
 exact S.gK (S.kY h2 _ _) _
def ID{a:KA}(ok:a.Ok T){Q:Int->Prop}(h:Lv Q a)(n1:1<=n)(n20:n<20):Lv (fun p=>Q p/\p≠n) (a.fA n 3):=by
 unfold KA.fA;split
 ·rename_i c;obtain⟨hl,_⟩:=ui c;obtain⟨hn,hs⟩:=bE hl;refine(Uy _).Yy ok.wk hs 3 fun p q=> ?_;by_cases e:p=n
  ·subst e;rw[lX]at q;exact absurd q dq
  ·rw[ni _ _ e]at q;exact⟨h p q,e⟩
 ·rename_i c;intro p q;refine⟨h p q,fun e=>c ?_⟩;subst e;unfold KA.uG;rw[if_neg (by rw[KA.tX ⟨og,n20⟩ q];decide),if_neg og,if_neg og]
def KA.nn(a:KA):Int:=Gr.bU (fun p=>if(a.u p).st≠0 then 1 else 0) 20
def Uz{a:KA}(al:Lv (fun p=>p=0) a)(pw:a.Pw)(ok:a.zk T){p:Int}(p0:p≠0)(hs:(a.u p).st≠0):(a.u p).aA=0/\(a.u p).st=2/\(0<=p/\p<20)/\(a.s.js p (a.sz 0)).2=0:=by
 obtain⟨k1,k2,_⟩:=pw.aA p p0 hs;have e:=al _ k1;rw[e,ok.r0.loc]at k2;obtain⟨q,hq⟩:=k2;obtain⟨z1,z2⟩:=sz0 ok;have hr:=ok.wk.jV (n:=p) hs;refine⟨e,?_,hr,by rw[z1,afY ok z2 hr.1 hq]⟩;rcases ok.wk.st p with s | s | s
 ·exact absurd s hs
 ·exact absurd (al p s) p0
 ·exact s
def C6{a:KA}{T:Int}(al:Lv (fun p=>p=0) a)(pw:a.Pw)(ok:a.zk T):∀ k:Nat,((a.dG 0 k).kids=0/\(a.dG 0 k).aW<0/\∀ p:Int,p≠0->0<=p->p<k->(a.u p).st=0)\/(0<(a.dG 0 k).kids/\(a.dG 0 k).aW≠0/\0<=(a.dG 0 k).aW)
 | 0=>.inl ⟨rfl,by show(-1:Int)<0;omega,fun p _ b c=>og⟩
 | k+1=>by
  have ih:=C6 al pw ok k;unfold KA.dG;by_cases k0:(k:Int)=0
  ·rw[if_pos (.inr (by rw[k0,pw.zero];decide))];rcases ih with⟨i1,i3,i2⟩ | ih
   ·exact .inl ⟨i1,i3,fun p a b c=>i2 p a b og⟩
   ·exact .inr ih
  ·by_cases hs:(a.u (k:Int)).st=0
   ·rw[if_pos (.inl hs)];rcases ih with⟨i1,i3,i2⟩ | ih
    ·refine .inl ⟨i1,i3,fun p a b c=> ?_⟩;by_cases e:p=k
     ·subst e;exact hs
     ·exact i2 p a b og
    ·exact .inr ih
   ·obtain⟨e1,e2,e3,e4⟩:=Uz al pw ok k0 hs;rw[if_neg (by rw[e1];exact fun q=>q.elim hs fun r=>r rfl)];refine .inr ?_;have kn:0<=(a.dG 0 k).kids:=by rcases ih with i | i<;>omega
    split
    ·exact⟨by show 0<(a.dG 0 k).kids+1;omega,k0,by show 0<=(k:Int);omega⟩
    ·rename_i c;rcases ih with⟨i1,i3,i2⟩ | ⟨i1,i2,i3⟩
     ·exact absurd ⟨e4,e2,.inl i3⟩ c
     ·exact⟨by show 0<(a.dG 0 k).kids+1;omega,i2,i3⟩
def zg{a:KA}(al:Lv (fun p=>p=0) a)(pw:a.Pw)(ok:a.zk T):(a.nl 0=0/\(a.dG 0 20).aW≠0)\/(a.nl 0=2/\∀ p,p≠0->(a.u p).st=0):=by
 have l:a.aF 0=0:=KA.tX og ok.r0.st;unfold KA.nl;rw[if_neg og];rcases C6 al pw ok 20 with⟨i1,i3,i2⟩ | ⟨i1,i2,i3⟩
 ·rw[if_pos i1];refine .inr ⟨rfl,fun p p0=> ?_⟩;by_cases c:0<=p/\p<20
  ·exact i2 p p0 c.1 c.2
  ·rw[ok.wk.out p og];rfl
 ·rw[if_neg og,if_neg og];exact .inl ⟨rfl,i2⟩
def Yz(a:KA):a.nn<=20:=by
 have:=IC (f:=fun p=>if(a.u p).st≠0 then 1 else 0) (g:=fun _=>1) 20 (fun j _ _=>by split<;>omega);rw[Yx]at this;exact this
def xv{a:KA}(al:Lv (fun p=>p=0) a)(pw:a.Pw)(ok:a.zk T):Lv (fun p=>p=0) (a.eT 0)/\((a.eT 0).nn<a.nn\/∀ p,p≠0->((a.eT 0).u p).st=0):=by
 rcases zg al pw ok with⟨e,c0⟩ | ⟨e,z⟩
 ·obtain⟨k1,k2⟩:=Fy ok e;obtain⟨_,hr,hs,hp,_⟩:=pQ e;generalize (a.dG 0 20).aW=x at*;refine⟨fun p q=> ?_,.inl ?_⟩
  ·by_cases c:p=x
   ·rw[c,k2]at q;exact absurd (show(0:Int)=1 from q) dq
   ·rw[(k1 p c).1]at q;exact al p q
  ·have u:=iY (f:=fun p=>if(a.u p).st≠0 then 1 else 0) (f':=fun p=>if((a.eT 0).u p).st≠0 then 1 else 0) (n:=x) (k:=20) og og (fun j _ _ c=>by rw[(k1 j c).1]);have e1:(if((a.eT 0).u x).st≠0 then(1:Int)else 0)=0:=by rw[k2];rfl
   have e2:(if(a.u x).st≠0 then(1:Int)else 0)=1:=if_pos og;simp only[e1,e2]at u;show Gr.bU _ 20<Gr.bU _ 20;omega
 ·have ew:a.eT 0=a:=by unfold KA.eT;rw[if_neg (by rw[e];decide)]
  rw[ew];exact⟨al,.inr z⟩
def YA{a:KA}(ok:a.zk T):1<=a.nn:=by
 have:=uo (f:=fun p=>if(a.u p).st≠0 then 1 else 0) (n:=0) (k:=20) og og (fun j _ _=>by split<;>omega);simp only[if_pos (show(a.u 0).st≠0 by rw[ok.r0.st];decide)]at this;exact this
open Go.X.Gr Go.X.Vm
theorem IE{O:Tr.OS}(h:∀ z:Int,0<=z->z<24->O.aY z=0):∀ k:Nat,k<=24->O.ub k=0
 | 0,_=>rfl
 | k+1,hk=>by
  show O.ub k+(if 0<O.aY (k:Int)then 1 else 0)=0;rw[IE h k og,h k og og];rfl
theorem IG{f:Int->Bool} :∀ k:Nat,(∀ j:Int,0<=j->j<k->f j=false)->Tr.fh f k=0
 | 0,_=>rfl
 | k+1,h=>by
  show Tr.fh f k+(if f k then 1 else 0)=0;rw[IG k fun j a b=>h j a og,h k og og];rfl
theorem KA.FI.none{a:KA}(h:a.FI)(z0:∀ p i,0<=i->i<6->(a.u p).fd i=0):a.O.opens=0/\a.P.open=0:=by
 have r:∀ z:Int,0<=z->z<24->a.O.aY z=0:=fun z a0 a1=>by
  rw[h.h z a0 a1];exact Gr.dx 20 fun p _ _=>sN (z0 p) a0
 have e:∀ k w,uI a.O k w=0:=fun k w=>Gr.dx 24 fun z q0 q1=>if_neg fun q=>q.1 (r z q0 q1);refine⟨IE r 24 (Nat.le_refl _),IG 8 fun k k0 k1=> ?_⟩;rw[h.io.e0 k k0 k1,h.io.e1 k k0 k1,e,e];rfl
theorem IH(a:KA)(n i p:Int):((a.gh n i).u p).st=(a.u p).st:=by
 unfold KA.gh;split
 ·rfl
 ·exact(jI _ _ _ _ p).1
def FL{a:KA}(hl:(a.u 0).st=1){i:Int}(i0:0<=i)(i6:i<6)(h:∀ j,0<=j->j<i->(a.u 0).fd j=0):∀ j,0<=j->j<i+1->((a.gh 0 i).u 0).fd j=0:=fun j j0 j1=>by
 unfold KA.gh;split
 ·rename_i c;by_cases e:j=i
  ·subst e;unfold KA.eY at c;rw[if_neg (by rw[KA.tX og hl];decide),if_neg og]at c;by_cases d:(a.u 0).fd j=0
   ·exact d
   ·rw[if_neg d]at c;exact absurd rfl c
  ·exact h j j0 og
 ·show(rG a.u 0 i 0 0).fd j=0;unfold rG;rw[ah];show ad (a.u 0).fd i 0 j=0;by_cases e:j=i
  ·subst e;exact ah _ _ _
  ·rw[ae _ _ e];exact h j j0 og
def FM{v:VB}(h:v.bb.iG)(m:Vm.MS)(x:Int)(w:Bool):(m.cD v x w).2.2.1.bb.iG:=by
 unfold Vm.MS.cD;split
 ·exact h
 ·split
  ·split
   ·exact h
   ·exact VB.iG.take h
  ·split
   ·exact h
   ·split
    ·exact h
    ·split
     ·exact h
     ·exact VB.iG.drop (v:=VB.copy _ _ _) (VB.iG.take h) _
def Fu(b:KA):Prop:=b.v.bb.iG
def AW{v:VB}(h:v.bb.iG)(m:Vm.MS)(x n:Int):(m.dM v x n).2.2.1.bb.iG:=by
 unfold Vm.MS.dM;split
 ·exact h
 ·exact FE _ h
def lF:dm Fu where
 rest:=fun h _=>h
 end_:=fun co _ _ _ h=>AW h _ 0 16
 za:=fun _ _ _ h=>h
 spc:=fun _ h=>h
def Fu.Rr{a:KA}(h:Fu a)(ok:a.Ok T)(hT:T<=900000){x:Int}{w:Bool}{D:TD}{y0:Int}(hD:∀ c:0<=n,Uv n x D)(hA:∀ b:KA,Fu b->Fu (D.A b)):Fu (a.iX n x w D y0).2.1:=by
 by_cases c:0<=n
 ·rcases B8 (w:=w) (y0:=y0) ok hT (hD c) lF h with⟨e,q1,q2,q3⟩ | ⟨q1,q2,q3⟩ | ⟨b,hb,uX,hk,q1,q2,q3,q4,q5⟩
  ·exact q3
  ·rw[q3];exact hA _ h
  ·rw[q5];have ZU:Fu ({b with v:=b.v,f:=b.f,g:=b.g.bI (b.u n).cO 0 1} :KA):=hb;show Fu (if _ then KA.Z5 _ n else _:KA);split
   ·exact hA _ ZU
   ·exact hA _ ZU
 ·unfold KA.iX;rw[if_pos (by rw[Nc c];decide)];exact h
def Fu.B6{a a1:KA}{F:Tr.FF}{x:jA}(h:Fu a)(ok:a.Ok T)(hT:T<=800000)(s:a.o3 F x a1):Fu a1:=by
 have S:=lF;have q:∀ {b:KA} {P:Prop} [Decidable P],Fu b->Fu (if P then a else b):=fun hb=>by
  split
  ·exact h
  ·exact hb
 cases s with
 | same=>exact h
 | dc=>exact S.dc ok.wk _ h
 | nj=>exact S.nj ok.wk _ _ _ h
 | dX=>exact S.dX ok.wk _ _ _ h
 | kt=>exact S.kt ok.wk _ _ _ h
 | take=>exact S.take _ h
 | map=>unfold KA.Dm;split<;>exact h
 | mW=>unfold KA.uH;split<;>exact h
 | drop=>exact h
 | It o=>
  rcases o with rfl | ⟨_,_,_,_,_,rfl⟩
  ·exact h
  ·exact h
 | close=>exact(show Fu (a.gh x.a x.b)from q h)
 | Z4=>exact(show Fu (a.zb x.a x.b)from q h)
 | Aw=>
  refine(show Fu (a.o9 x.a)from q ?_);split<;>exact h
 | mh=>exact(show Fu (a.yi F x.a x.b x.c)from q h)
 | cC=>
  have h1:Fu (a.rH F x.a x.b x.s):=h;refine(show Fu (a.nX F x.a x.b x.s)from q ?_);split
  ·exact S.send (ok.yj og F _ _ _).wk _ _ _ h1
  ·exact h1
 | GY=>exact(show Fu (a.wc x.a x.b x.c)from q h)
def Fu.step{a a1:KA}{c c1:KC}{x:jA}{e:Int}(h:Fu a)(ok:a.Ok T)(hT:T<=800000)(s:a.sH c c1 x a1 n e):Fu a1:=by
 cases s with
 | jo _=>
  unfold KA.gH;split
  ·exact h
  ·split<;>exact h
 | exit _=>exact lF.fA ok.wk _ _ h
 | dM _=>
  unfold KA.aP;split
  ·exact h
  ·exact AW h _ _ _
 | load _=>exact h.Rr ok og (fun c=>Py c) (fun b hb=>by
   show((b.f x.a.toNat).load b.v x.b).2.2.1.bb.iG
   unfold Vm.MS.load;dsimp only
   split<;>exact FM hb _ _ _)
 | store _=>exact h.Rr ok og (fun c=>PC c) (fun b hb=>by
   show((b.f x.a.toNat).store b.v x.b _).2.1.bb.iG
   unfold Vm.MS.store;dsimp only
   split<;>exact FM hb _ _ _)
 | l8 _ _ _=>exact h
 | Z7 _=>exact h
 | Bf _ _ _=>unfold KA.pd;split<;>exact h
 | add _ _ _=>unfold KA.nG;split<;>exact h
 | qE _ r _ _=>exact h.B6 ok hT r
structure KA.PG (a:KA):Prop where
 no:∀ p,p≠0->(a.u p).st=0
 gk:∀ j:Nat,j<20->∀ i:Int,0<=i->i<16->(a.f j).fr i=0
theorem RA{fr:Int->Int}{g:Int}(g0:0<=g):∀ k:Nat,(∀ i:Int,0<=i->i<k->fr i=0)->cM fr g k=0
 | 0,_=>rfl
 | k+1,h=>by
  show cM fr g k+(if fr k=g+1 then 1 else 0)=0;rw[RA g0 k fun i a b=>h i a og,h k og og,if_neg og];rfl
theorem Ni{f:Nat->Vm.MS}{g:Int}(g0:0<=g):∀ k:Nat,(∀ j:Nat,j<k->∀ i:Int,0<=i->i<16->(f j).fr i=0)->vI f g k=0
 | 0,_=>rfl
 | k+1,h=>by
  show vI f g k+cM (f k).fr g 16=0;rw[Ni g0 k fun j a=>h j og,RA g0 16 (h k og)];rfl
theorem KA.PG.left{a:KA}{T:Int}(h:a.PG)(ok:a.Ok T)(F:Fu a):a.v.bb.left=64:=by
 rw[ok.wk.sys.left F];have:∀ k:Nat,k<=64->Vm.fh (fun g=>decide (a.v.rf g=0)) k=k:=fun k=>by
  induction k with
  | zero=>intro _;rfl
  | succ k ih=>
   intro hk;have e:a.v.rf (k:Int)=0:=by rw[ok.wk.sys.jM.rf k og og];exact Ni og 20 h.gk
   show Vm.fh _ k+(if decide (a.v.rf (k:Int)=0)=true then 1 else 0)=_;rw[ih og,if_pos (decide_eq_true e)];omega
 exact this 64 (Nat.le_refl _)
theorem II{fr:Int->Int} :∀ k:Nat,(∀ i:Int,0<=i->i<k->fr i=0)->sy fr k=0
 | 0,_=>rfl
 | k+1,h=>by
  unfold sy;rw[II k fun i a b=>h i a og,h k og og];rfl
theorem YB{s:Gr.TG}(h:s.Ok):s.cU 0=[0]:=by
 have w:=(h.cU (n:=0) og og h.pq.1).1;cases e:s.cU 0 with
 | nil=>rw[e]at w;exact absurd (show(0:Int)<0 from w) dq
 | cons z r=>
  rw[e]at w;obtain⟨z0,_,_,w2⟩:=w;rw[h.pq.2]at w2;cases r with
  | nil=>rw[z0]
  | cons y t=>exact absurd w2.2.1 og
def Nj{s:Gr.TG}(h:s.Ok):∀ {l:List Int} {x:Int},mU s.aA x l->0<=x->x<10->s.aa x=true->(0:Int)∈l
 | [],x,w,x0,_,_=>absurd (show x<0 from w) og
 | z::r,x,w,x0,x1,x2=>by
  obtain⟨e,_,_,w2⟩:=w;by_cases c:x=0
  ·rw[e,c];exact List.mem_cons_self
  ·obtain⟨k1,k2,k3⟩:=h.Ab x0 x1 x2 c;exact List.mem_cons_of_mem _ (Nj h w2 k1 k2 k3)
theorem Ao{s:Gr.TG}(h:s.Ok){x:Int}(x0:0<=x)(x1:x<10)(x2:s.aa x=true):s.o7 0 x=1:=by
 have a:=h.JO x0 x1 x2 0;have b:0<(s.cU x).count 0:=List.count_pos_iff.2 (Nj h (h.cU x0 x1 x2).1 x0 x1 x2);unfold Gr.TG.o7 at a ⊢;omega
theorem KA.PG.Uu{a:KA}(h:a.PG){j:Int}(j0:0<=j)(j1:j<20):a.gk j=0:=II 16 (h.gk j.toNat og)
theorem KA.PG.cO{a:KA}{T:Int}(h:a.PG)(g:a.GI)(ok:a.Ok T){n:Int}(n0:0<=n)(n1:n<10)(n2:a.g.aa n=true):a.g.pr n=a.cw n 0/\a.g.pg n=0:=by
 constructor
 ·rw[<-KA.Nh ok.wk.gI (v:=a.uU) (fun y y0 y1 y2=>(g.aU y y0 y1 y2).1) n0 n1 n2];have e:J8 a.g.o7 a.uU a.g.all n=Gr.bU (fun j=>a.cw n j*(if(a.u j).st≠0 then 1 else 0)) 20:=by
   refine KA.Ng g (r:=a.pc) n (fun y j=> ?_) fun j _ _ q=>if_neg og;unfold KA.pc;by_cases c:(a.u j).cO=y
   ·simp[c]
   ·simp[c]
  rw[e,Gr.ck 20 (g:=fun j=>if j=0 then a.cw n 0 else 0) (fun j _ _=>by
   by_cases c:j=0
   ·subst c;rw[if_pos (by rw[ok.r0.st];decide),if_pos rfl,Int.mul_one]
   ·rw[if_neg (by rw[h.no j c];exact fun q=>q rfl),if_neg c,Int.mul_zero]),mA _ _ og,if_pos og]
 ·rw[<-KA.Nh ok.wk.gI (v:=a.sK) (fun y y0 y1 y2=>(g.aU y y0 y1 y2).2) n0 n1 n2];show J8 a.g.o7 (fun y=>Gr.bU (a.rc y) 20) a.g.all n=0;rw[KA.Ng g (r:=a.rc) n (v:=a.gk) (fun _ _=>rfl) fun j j0 j1 q=>h.Uu j0 j1];exact Gr.dx 20 fun j j0 j1=>by rw[h.Uu j0 og,Int.mul_zero]
theorem KA.PG.g0{a:KA}(h:a.PG)(g:a.GI)(ok:a.Ok T):a.g.cQ 0=0/\a.g.pr 0=1/\a.g.pg 0=0:=by
 have r:=ok.wk.gI.ok.pq.1;obtain⟨h1,h2⟩:=h.cO g ok (n:=0) og og r;obtain⟨x0,x1,x2⟩:=Gr.TG.ky (g.cO 0 og og (by rw[ok.r0.st];decide));exact⟨Gr.TG.Jk og og r,by rw[h1];exact Ao ok.wk.gI.ok x0 x1 x2,h2⟩
def KA.PG.gn{a:KA}(h:a.PG)(g:a.GI)(ok:a.Ok T)(n1:1<=n)(e:a.g.cQ n=0):a.g.pg n=0/\a.g.pr n<=1/\((a.u 0).cO=0->a.g.pr n=0):=by
 obtain⟨y0,y1,y2⟩:=Gr.TG.ky e;obtain⟨h1,h2⟩:=h.cO g ok y0 y1 y2;refine⟨h2,by rw[h1];exact(Ux g ok.wk.gI og og (by rw[ok.r0.st];decide)).2,fun q=> ?_⟩;rw[h1];unfold KA.cw Gr.TG.o7;rw[q,YB ok.wk.gI.ok,List.count_singleton];rw[if_neg eI];rfl
theorem KA.PG.Fx{a:KA}{T:Int}(h:a.PG)(ok:a.Ok T):a.Fx=[0]:=by
 have e:a.Fx=Vm.fF (fun n=>decide (n=0)) 20:=Fz 20 fun n n0 n1=>by
  by_cases c0:n=0
  ·subst c0;rw[ok.r0.st];rfl
  ·rw[h.no n c0,decide_eq_false c0];rfl
 rw[e];decide
theorem KA.PG.YC{a:KA}(h:a.PG)(pw:a.Pw)(ok:a.Ok T):Sp.fF a.s.aa 6=[0]:=by
 have e:Sp.fF a.s.aa 6=Sp.fF (fun n=>decide (n=0)) 6:=FA 6 fun z z0 z1=>by
  by_cases c:z=0
  ·subst c;exact SS.Inv.jK ok.wk.sI ok.r0.loc
  ·rw[decide_eq_false c];cases q:a.s.aa z with
   | false=>rfl
   | true=>
    obtain⟨k1,k2,k3,_⟩:=pw.hd z z0 og q;exfalso;by_cases d0:a.s.b8 z 1=0
    ·rw[d0,ok.r0.loc]at k3;omega
    ·exact k2 (h.no _ d0)
 rw[e];decide
def IJ{a:KA}(ok:a.Ok T)(g:a.GI)(no:∀ p,p≠0->(a.u p).st=0):a.nY 0 0 16=0/\(a.aP 0 0 16).PG:=by
 have l:a.aF 0=0:=KA.tX og ok.r0.st;have b:¬gQ 0 16:=by unfold gQ;omega
 have u:a.xo 0 0 16=((a.f 0).dM a.v 0 16):=rfl;have u2:(a.f 0).dM a.v 0 16=((Ju a.v (a.f 0).fr 0 (16:Int).toNat).1,0,(Ju a.v (a.f 0).fr 0 (16:Int).toNat).2,⟨fR (a.f 0).az 0 16 0,fR (a.f 0).fr 0 16 0,fR (a.f 0).aU 0 16 false⟩):=if_neg b;refine⟨by rw[(g.dM ok.o0 0 0 16).2,if_neg og,u,u2],?_⟩;unfold KA.aP;rw[if_neg og];refine⟨no,fun j hj i i0 i1=> ?_⟩;show(bD a.f 0 (a.xo 0 0 16).2.2.2 j).fr i=0;by_cases c:j=0
 ·subst c;rw[ly,u,u2];show fR (a.f 0).fr 0 16 0 i=0;unfold fR;rw[if_pos og]
 ·rw[iu _ _ c];have:=ok.wk.ud (j:Int) og og (by rw[no _ og];decide);rw[show((j:Int)).toNat=j by omega]at this;rw[this];rfl
def xw{a:KA}(ok:a.zk T)(z:∀ p,p≠0->(a.u p).st=0):∀ p,p≠0->((a.eT 0).u p).st=0:=fun p p0=>by
 by_cases e:a.nl 0=0
 ·obtain⟨k1,k2⟩:=Fy ok e;by_cases c:p=(a.dG 0 20).aW
  ·rw[c,k2];rfl
  ·rw[(k1 p c).1];exact z p p0
 ·rw[show a.eT 0=a by unfold KA.eT;rw[if_neg e]];exact z p p0
def ad3:A0.FI:=by
 have z:∀ p i,(A0.u p).fd i=0:=fun p i=>by rw[AS];split<;>rfl
 refine⟨fun y a b=> ?_,⟨fun k a b=> ?_,fun k a b=> ?_,fun z a b r=>absurd rfl r⟩,fun p i _ _ _=>z p i⟩
 ·exact(Gr.dx 20 fun p _ _=>sN (fun i _ _=>z p i) a).symm
 ·exact(Gr.dx 24 fun j _ _=>if_neg fun q=>q.1 rfl).symm
 ·exact(Gr.dx 24 fun j _ _=>if_neg fun q=>q.1 rfl).symm
def ad4:Fu A0:=BB.iG.cR
def zx(n i:Int):jA:=⟨⟨#[]⟩,n,i,0,0,false,⟨#[]⟩,⟨#[]⟩⟩
end Go.X.Kn

namespace Go.X
open Go Go.Proofs Go.X
abbrev Fn:=Spec Tryz.prog
instance:Tb Tryz.prog:=⟨⟨(.nd 10432 [0,1] (.nd 5696 [0,1,2,3,4,5,11] (.nd 2432 [0,1] (.nd 1152 [0] (.nd 832 [0,1] (.nd 512 [0,1,2,3] (.nd 448 [0,1,2,3] .lf .lf) .lf) (.nd 896 [0,1] .lf .lf)) (.nd 1920 [0,1,2,3,4,5,6,7] (.nd 1216 [0] .lf .lf) (.nd 1984 [0,1,2,3,4,5,6,7] .lf .lf))) (.nd 4224 [0,1,2,3,4] (.nd 3712 [0,1,2,3] (.nd 3648 [0,1,2,3] (.nd 2496 [0,1] .lf .lf) .lf) (.nd 4160 [0,1,2,3,4] .lf .lf)) (.nd 5568 [0,1,2] (.nd 5504 [0,1,2] .lf .lf) (.nd 5632 [0,1,2,3,4,5,11] .lf .lf)))) (.nd 9216 [0,1,2] (.nd 8512 [0] (.nd 8320 [0,1,2] (.nd 6464 [0,440,441,442,443,444,445,446,447] (.nd 6400 [0,440,441,442,443,444,445,446,447] .lf .lf) .lf) (.nd 8384 [0,1,2] .lf .lf)) (.nd 9024 [0,1] (.nd 8576 [0] .lf .lf) (.nd 9088 [0,1] .lf .lf))) (.nd 9920 [0,1,2] (.nd 9664 [0,50] (.nd 9600 [0,50] (.nd 9280 [0,1,2] .lf .lf) .lf) (.nd 9856 [0,1,2] .lf .lf)) (.nd 10176 [0,138] (.nd 10112 [0,138] .lf .lf) (.nd 10368 [0,1] .lf .lf))))) (.nd 12544 [0,1,2] (.nd 11584 [0,1,2,3,4] (.nd 10880 [0,1,2] (.nd 10688 [0,2] (.nd 10624 [0,1,3] (.nd 10560 [0,1,3] .lf .lf) .lf) (.nd 10752 [0,2] .lf .lf)) (.nd 11264 [0,1,513] (.nd 10944 [0,1,2] .lf .lf) (.nd 11328 [0,1,513] .lf .lf))) (.nd 11968 [0,1,2,3,4,5,6,71,72,73,74,75] (.nd 11840 [0,1] (.nd 11776 [0,1] (.nd 11648 [0,1,2,3,4] .lf .lf) .lf) (.nd 11904 [0,1,2,3,4,5,6,71,72,73,74,75] .lf .lf)) (.nd 12160 [0,2280] (.nd 12096 [0,2280] .lf .lf) (.nd 12480 [0,1,2] .lf .lf)))) (.nd 16192 [0,1] (.nd 13952 [0,320] (.nd 13760 [0,1,2,3,4,5,6,7] (.nd 13504 [0,1,2,3] (.nd 13440 [0,1,2,3] .lf .lf) .lf) (.nd 13824 [0,1,2,3,4,5,6,7] .lf .lf)) (.nd 15808 [0,7] (.nd 14016 [0,320] .lf .lf) (.nd 15872 [0,7] .lf .lf))) (.nd 20352 [0,1,2,3] (.nd 19968 [0,1] (.nd 16256 [0,1] .lf .lf) (.nd 20032 [0,1] .lf .lf)) (.nd 21056 [0,1,2,3,4,5,6,7,8,9,10] (.nd 20416 [0,1,2,3] .lf .lf) (.nd 21120 [0,1,2,3,4,5,6,7,8,9,10] .lf .lf)))))),(.nd 207 [4] (.nd 124 [7] (.nd 57 [7,7] (.nd 38 [7,7] (.nd 27 [7,7,6,7,7,1,1] (.nd 2 [6,6,5,6,6,7,7,3,3,3,6,7,7,2,2,2,7,7,1,6,4,2] .lf .lf) .lf) (.nd 53 [7,7,4] .lf .lf)) (.nd 82 [2,7,6,7,7,7,7,7,7,2,2,2,2,2,2,2,2,7,7,7,6] (.nd 79 [2] (.nd 64 [7,7,7,7] .lf .lf) .lf) (.nd 106 [2] .lf .lf))) (.nd 162 [7,7,4,7,7,7,7] (.nd 149 [7,7,7] (.nd 140 [4,7,7,7,7,7] (.nd 130 [7,7,7,7,7] .lf .lf) .lf) (.nd 154 [7,7,7,7,7,7] .lf .lf)) (.nd 181 [7,7,4,7,7,7,7,7,7,7,2] (.nd 170 [7,7,2,7,7,7,7,7,2] .lf .lf) (.nd 194 [7,7,7] .lf .lf)))) (.nd 266 [2] (.nd 246 [7,7,7] (.nd 228 [2] (.nd 215 [7,7,7,7,7] (.nd 210 [7,7] .lf .lf) .lf) (.nd 231 [4,2] .lf .lf)) (.nd 256 [7,6,6] (.nd 252 [2,7,7] .lf .lf) (.nd 262 [2] .lf .lf))) (.nd 302 [2] (.nd 294 [6] (.nd 282 [6] (.nd 269 [4] .lf .lf) .lf) (.nd 299 [7] .lf .lf)) (.nd 318 [7,7,7,7,7,6,6] (.nd 311 [7,7,7,7] .lf .lf) (.nd 326 [2,6,6,7,7] .lf .lf))))),(.nd 207 [1] (.nd 124 [10] (.nd 57 [4,4] (.nd 38 [2,2] (.nd 27 [21,21,1,8,8,1,1] (.nd 2 [1,1,1,1,1,4,4,1,1,1,1,2,2,1,1,1,1,1,1,1,1,1] .lf .lf) .lf) (.nd 53 [128,2560,1] .lf .lf)) (.nd 82 [1,6,1,9,11,11,22,22,440,1,1,1,1,1,1,1,1,6,453,453,1] (.nd 79 [1] (.nd 64 [20,5,5,50] .lf .lf) .lf) (.nd 106 [1] .lf .lf))) (.nd 162 [2,2,1,4,4,4,4] (.nd 149 [10,60,60] (.nd 140 [1,2,2,32,34,34] (.nd 130 [3,3,24,24,24] .lf .lf) .lf) (.nd 154 [23,23,138,20,158,158] .lf .lf)) (.nd 181 [5,5,1,65,65,76,76,2280,2281,2281,1] (.nd 170 [3,3,1,8,512,64,577,577,1] .lf .lf) (.nd 194 [120,122,122] .lf .lf)))) (.nd 269 [1] (.nd 246 [7,71,71] (.nd 228 [1] (.nd 215 [8,8,320,321,321] (.nd 210 [4,4] .lf .lf) .lf) (.nd 231 [1,1] .lf .lf)) (.nd 262 [1] (.nd 256 [32,1,1] (.nd 252 [1,2,2] .lf .lf) .lf) (.nd 266 [1] .lf .lf))) (.nd 311 [256,2,2,32] (.nd 299 [64] (.nd 294 [1] (.nd 282 [1] .lf .lf) .lf) (.nd 302 [1] .lf .lf)) (.nd 323 [1,1] (.nd 318 [4,4] .lf .lf) (.nd 326 [1,1,1,11,11] .lf .lf))))),(.nd 149 [10] (.nd 85 [9] (.nd 64 [20] (.nd 53 [128,20] (.nd 27 [21,21] .lf .lf) .lf) (.nd 83 [6] (.nd 67 [10] .lf .lf) .lf)) (.nd 124 [10] (.nd 99 [6] (.nd 90 [20] .lf .lf) .lf) (.nd 143 [16] (.nd 132 [8] .lf .lf) .lf))) (.nd 246 [7] (.nd 188 [30] (.nd 173 [8,64,64] (.nd 156 [6,20] .lf .lf) .lf) (.nd 217 [40] (.nd 194 [24] .lf .lf) .lf)) (.nd 311 [256] (.nd 299 [64] (.nd 256 [32] .lf .lf) .lf) (.nd 320 [0] (.nd 314 [16] .lf .lf) .lf)))),(.nd 149 [1] (.nd 85 [1] (.nd 64 [1] (.nd 53 [1,128] (.nd 27 [1,1] .lf .lf) .lf) (.nd 83 [1] (.nd 67 [5] .lf .lf) .lf)) (.nd 124 [1] (.nd 99 [1] (.nd 90 [22] .lf .lf) .lf) (.nd 143 [2] (.nd 132 [3] .lf .lf) .lf))) (.nd 246 [1] (.nd 188 [76] (.nd 173 [1,8,1] (.nd 156 [23,1] .lf .lf) .lf) (.nd 217 [8] (.nd 194 [5] .lf .lf) .lf)) (.nd 311 [1] (.nd 299 [1] (.nd 256 [1] .lf .lf) .lf) (.nd 320 [1] (.nd 314 [2] .lf .lf) .lf)))),(.nd 183 [2] (.nd 140 [3] (.nd 55 [1] (.nd 22 [8] .lf .lf) .lf) (.nd 164 [4] .lf .lf)) (.nd 231 [1] (.nd 207 [1] .lf .lf) (.nd 269 [2] .lf .lf))),(.nd 287 [0,0,0,0,0] (.nd 269 [0] (.nd 2 [0,0,0,0,0,0,0,0,0,0,0,0,0,0,0,0,0,0,0,0,0,0,0,0,0,0,0,0,0,0,0,0,0,0,0,0,0,0,0,0,0,0,0,0,0,0,0,0,0,0,0,0,0,0,0,0,0,0,0,0,0,0,0,0,0,0,0,0,0,0,0,0,0,0,0,0,0,0,0,0,0,0,0,0,0,0,0,0,0,0,0,0,0,0,0,0,0,0,0,0,0,0,0,0,0,0,0,0,0,0,0,0,0,0,0,0,0,0,0,0,0,0,0,0,0,0,0,0,0,0,0,0,0,0,0,0,0,0,0,0,0,0,0,0,0,0,0,0,0,0,0,0,0,0,0,0,0,0,0,0,0,0,0,0,0,0,0,0,0,0,0,0,0,0,0,0,0,0,0,0,0,0,0,0,0,0,0,0,0,0,0,0,0,0,0,0,0,0,0,0,0,0,0,0,0,0,0,0,0,0,0,0,0,0,0,0,0,0,0,0,0,0,0,0,0,0,0,0,0,0,0,0,0,0,0,0,0,0,0,0,0,0,0,0,0,0,0,0,0,0,0,0,0,0,0,0,0,0,0,0,0,0,0,0,0,0] .lf .lf) (.nd 271 [0,0,0,0,0,0,0,0,0,0,0,0,0,0,0] .lf .lf)) (.nd 296 [0] (.nd 293 [0,0] .lf .lf) (.nd 321 [0] .lf .lf)))⟩,kq⟩
def mixed:Tryz.prog.follows .mixedOrders=true:=kq
theorem mm(T:TypeId):ax T 0= .nilIface:=rfl
theorem Ca(T:TypeId):ax T 1= .iface T (iI 1):=rfl
theorem Cb(T:TypeId):ax T 2= .iface T (iI 2):=rfl
theorem Cc(T:TypeId):ax T 3= .iface T (iI 3):=rfl
theorem Cd(T:TypeId):ax T 4= .iface T (iI 4):=rfl
theorem Ce(T:TypeId):ax T 5= .iface T (iI 5):=rfl
theorem Cf(T:TypeId):ax T 6= .iface T (iI 6):=rfl
theorem Cg(T:TypeId):ax T 7= .iface T (iI 7):=rfl
theorem Ci(T:TypeId):ax T 8= .iface T (iI 8):=rfl
theorem Cj(T:TypeId):ax T 9= .iface T (iI 9):=rfl
theorem xx(T:TypeId):ax T 10= .iface T (iI 10):=rfl
theorem xy(T:TypeId):ax T 11= .iface T (iI 11):=rfl
theorem xz(T:TypeId):ax T 12= .iface T (iI 12):=rfl
theorem xA(T:TypeId):ax T 13= .iface T (iI 13):=rfl
end Go.X

namespace Go.X.Sp
open Go Go.Proofs Go.X
def wm(z:Int):∀ w,(Instr.buildSlice 55 1 #[(0,iI z)]).run Tryz.prog w= .ok (.slice (some ⟨w.heap.size,0,none⟩) 1 1) (w.alloc (.cells #[iI z] 3)):=fun w=>kq
def UA:fE Tryz.prog 155=some 23:=kq
def o4:fE Tryz.prog 3=some 1:=kq
def xB(p:Int):Fn 121 [iI p] [] (ap (.agg (Td p)) []):=by
 refine Spec.g 15 [0,2,3,4,7,8] func121 fun W=> ?_;apply XO.bP (z:=.agg tB) (m:=23) (C:=cellsOf tB) fun _ _=>rfl;intro br;apply gO;refine XO.v (V.build (vs:= #[(0,.bool true),(1,iI p)]) rfl (v:=.agg #[.bool true,iI p,iI 0,iI 0,iI 0,iI 0,iI 0,iI 0,iI 0,iI 0,iI 0,iI 0,iI 0,iI 0,iI 0,iI 0,iI 0,iI 0,iI 0,iI 0,iI 0,iI 0,iI 0]) fun _=>kq) rfl (gO ?_);apply XO.bP (z:=.agg tB) (m:=23) (C:=cellsOf tB) fun _ _=>rfl;intro bx;apply gO;apply gu .aa (Wz p _ LK) rfl ⟨rfl,rfl⟩;refine wl (σ:=Int) (fun k=>(21-k).toNat) (fun k=>0<=k/\k<=21) (fun k=>[(7,iI k),(2,ay br 0 0),(3,ay bx 0 0)]) (fun k=>[.cells br 0 23 (cellsOf tB),.cells bx 0 23 (xX ⟨p,GC k⟩)]) (0) ?_ (pk [1,0]) ?_
 ·omega
 intro k hk;apply gC;apply (cd)<;>intro h1
 ·refine sd (st (.ao .aa) (En _ _ og _) rfl (sd (ag (k+1) ?_ ?_ S3 fun _ hw=>by rw[<-LJ k];exact XM.pick (pz 2) hw)));all_goals omega
 ·obtain rfl:k=21:=og;refine mP (.ao .aa) (Wx p) (gu .aa (afc _ LK p) rfl ⟨rfl,rfl⟩ (aam rfl rfl .aa (Wx p) kq UA (ai .nil rfl ?_)));simp_all
def Ck(b o:Nat)(s:SS)(n:Int):Fn 119 [ay b o 0,iI n] [bY b o s] (fun v H1=>((s.is n=0/\0<=n/\n<6/\s.aa n=true)/\v= .nilIface/\H1=[bY b o s])\/(s.is n≠0/\v= .iface 102 (iI (s.is n))/\H1=[bY b o s])):=by
 refine Spec.g 21 [0,1,4,10,19] func119 fun W=> ?_;apply UV 7<;>intro h1
 refine bL .h1 ?_;try dsimp only[aR,aQ,bH,bQ]
 rotate_left
 apply (cd)<;>intro h2
 refine bL .h1 ?_;try dsimp only[aR,aQ,bH,bQ]
 rotate_left
 refine sd (ld .aa (lv _ _) ?_);apply (yx)<;>intro h3
 try simp only[sb]at h3
 refine bL .h1 ?_;try dsimp only[aR,aQ,bH,bQ]
 rotate_left
 try simp only[sb]at h3
 refine bL .h1 ?_;rotate_left;all_goals rcases s.kg n with⟨q,q1,q2,q3⟩ | ⟨q,q1⟩ | ⟨q,q1,q2,q3⟩<;>first | (exfalso;omega) | (exfalso;simp_all;done) | exact .inl ⟨⟨q,q1,q2,q3⟩,rfl,rfl⟩ | exact .inr ⟨og,by rw[q],rfl⟩
def af1(b o:Nat)(s:SS)(aK:Int->Nat)(hD:s.Deep aK)(n:Int)(hn:0<=n/\n<6/\s.aa n=true):Fn 120 [ay b o 0,iI n] [bY b o s] (fun v H1=>∃ p cap,v= .slice p (s.cU aK n).length cap/\H1=[dH p cap 3 (s.cU aK n),bY b o s]):=by
 refine Spec.g 22 [0,1,4,5,6,9] func120 fun W=> ?_;apply XR.fU 3 1;refine wl (σ:=Int×List Int×Option Addr×Nat) (fun x=>if x.1= -1 then 0 else aK x.1) (fun x=>(x.1= -1/\x.2.1=s.cU aK n)\/((0<=x.1/\x.1<6/\s.aa x.1=true)/\x.2.1++s.jW (aK x.1) x.1=s.cU aK n)) (fun x=>[(5,.slice x.2.2.1 x.2.1.length x.2.2.2),(6,iI x.1),(0,ay b o 0)]) (fun x=>[dH x.2.2.1 x.2.2.2 3 x.2.1,bY b o s]) ((n,[],none,0)) ?_ (pz 2) ?_
 ·exact .inr ⟨hn,rfl⟩
 intro x hx;apply gC;apply (cd)<;>intro h1
 ·obtain⟨hx,hw⟩:=hx.resolve_left og;have hlen:x.2.1.length<=4:=by
   have h9:=congrArg List.length hw;rw[List.length_append,SS.cU,SS.qL,SS.qL]at h9;have:=(hD.d n hn.1 hn.2.1 hn.2.2).2.1;omega
  obtain⟨KI,yp,Z8⟩:=id hx;apply XO.buildSlice (A:= #[iI _]) (vs:= #[(0,iI _)]) rfl (wm _) rfl rfl;intro h2;apply gO;apply lY (e:=3) rfl rfl underlying55 kq (.ao .aa) .aa og rfl;intro h3 h4;apply gO;refine sd (ld (.t2 .aa) (l9 _ _) (wn ((s.aA x.1,x.2.1++[x.1],_,_)) ?_ ?_ (pk [0,1])))
  ·show(if s.aA x.1= -1 then 0 else aK (s.aA x.1))<(if x.1= -1 then 0 else aK x.1);obtain⟨h1,h2,h3⟩:=hx;by_cases q:s.aA x.1= -1
   ·have:=(hD.d x.1 h1 h2 h3).1;grind
   grind [SS.LO]
  grind [SS.aaV,SS.LO]
 ·refine bL (pz 2) ?_;simp_all[aR,aQ]
def IK(b o:Nat)(s:SS)(n:Int)(hn:0<=n/\n<6)(hh:s.aa n=true):Fn 192 [ay b o 0,iI n] [bY b o s] (fun v H1=>∃ p cap,v= .slice p (s.dY n).length cap/\H1=[dH p cap 3 (s.dY n),bY b o s]):=by
 refine Spec.g 26 [0,1,4,5,7,14,15,16,19] func192 fun W=> ?_;refine XR.fU 3 1 (sd (mP (.ao .aa) (Eo _ _ og aq) ?_));refine wl (σ:=Int×List Int×Option Addr×Nat) (fun x=>(21-x.1).toNat) (fun x=>(0<=x.1/\x.1<=21)/\x.2.1=eB (s.b8 n) x.1.toNat) (fun x=>[(5,.slice x.2.2.1 x.2.1.length x.2.2.2),(15,iI x.1),(14,.agg (IZ (s.b8 n) 21))]) (fun x=>[dH x.2.2.1 x.2.2.2 3 x.2.1,bY b o s]) ((0,[],none,0)) ?_ (pz 2) ?_
 ·exact⟨og,rfl⟩
 intro x hx;obtain⟨hx,hL⟩:=hx;have hlen:=oQ (s.b8 n) x.1.toNat;rw[<-hL]at hlen;have hnx:=GF (s.b8 n) hx.1;apply gC;apply (cd)<;>intro h1
 ·refine XO.v (mu rfl rfl underlying27 o4 kq) rfl (gO ?_);apply (cd)<;>intro h2
  ·apply XO.buildSlice (A:= #[iI _]) (vs:= #[(0,iI _)]) rfl (wm _) rfl rfl;intro h3;apply gO;apply lY (e:=3) rfl rfl underlying55 kq (.ao .aa) .aa og rfl;intro h4 h5;apply gO;refine sd (wn ((x.1+1,x.2.1++[s.b8 n x.1],_,_)) ?_ ?_ (pk [0,1]));all_goals grind
  ·refine sd (wn ((x.1+1,x.2.1,_,_)) ?_ ?_ (pz 2));all_goals grind
 ·refine bL (pz 2) ?_;have af2:x.1=21:=og;rw[af2]at hL;exact⟨_,_,by rw[hL];rfl,by rw[hL];rfl⟩
def PH(b o:Nat)(s:SS)(p:Int):Fn 118 [ay b o 0,iI p] [bY b o s] (fun v H1=>(v= .tuple #[iI (s.bZ p).1,ax 102 (s.bZ p).2]/\((s.bZ p).2=0->(0<=p/\p<20)/\0<=s.loc p/\(s.bZ p).1=s.loc p))/\H1=[bY b o s]):=by
 refine Spec.g 27 [0,1,4,5,11,19] func118 fun W=> ?_;apply UV 8<;>intro h1;rotate_left
 apply (cd)<;>intro h2;rotate_left
 refine sd (ld .aa (tv _ _) ?_);apply (cd)<;>intro h3;rotate_left
 ·refine sd (ld .aa (tv _ _) (bC rfl rfl rfl (ai .h1 rfl ?_)));grind [aR,aQ,bQ,SS.bZ,ax]
 all_goals refine fg .h1 ?_;grind [aR,aQ,bQ,SS.bZ,ax]
def UB(b o:Nat)(s:SS)(n:Int):Fn 191 [ay b o 0,iI n] [bY b o s] (fun v H1=>∃ p cap,v= .tuple #[.slice p (s.mem n).1.length cap,ax 102 (s.mem n).2]/\H1=[dH p cap 3 (s.mem n).1,bY b o s]):=by
 refine Spec.g 16 [0,1,4,5,6,11] func191 fun W=> ?_
 refine ca (Ck _ _ _ _) .h1 ?_
 rintro _ _ (⟨h1,rfl,rfl⟩ | ⟨h1,rfl,rfl⟩)
 skip
 obtain⟨i0,i1,i2,i3⟩:=h1
 apply gO
 refine ca (IK _ _ _ _ og aq) .h1 ?_
 rintro _ _ ⟨pl,cl,rfl,rfl⟩
 apply gO
 refine fg (pz 2) ?_;rotate_left
 skip
 have i0:=h1
 apply gO
 refine XR.fU 3 1 (bC rfl rfl rfl (ai (pz 2) rfl ?_));rotate_left;all_goals
  first
  | (have hm:s.mem n=([],s.is n):=by unfold SS.mem;rw[if_pos aq]
     rw[hm];exact⟨none,0,by rw[aL _ aq];rfl,rfl⟩)
  | (have hm:s.mem n=(s.dY n,0):=by unfold SS.mem;rw[if_neg jw]
     rw[hm];exact⟨_,_,rfl,rfl⟩)
def ad5(b o:Nat)(s:SS):Fn 91 [ay b o 0] [bY b o s] (fun v H1=>∃ p cap,v= .slice p (fF s.aa 6).length cap/\H1=[dH p cap 3 (fF s.aa 6),bY b o s]):=by
 refine Spec.g 21 [0,2,3,4,5,6,14] func91 fun W=> ?_;refine XR.fU 3 1 ?_;refine wl (σ:=Int×List Int×Option Addr×Nat) (fun x=>(6-x.1).toNat) (fun x=>(0<=x.1/\x.1<=6)/\x.2.1=fF s.aa x.1.toNat) (fun x=>[(3,.slice x.2.2.1 x.2.1.length x.2.2.2),(5,iI x.1),(0,ay b o 0)]) (fun x=>[dH x.2.2.1 x.2.2.2 3 x.2.1,bY b o s]) ((0,[],none,0)) ?_ (pz 2) ?_
 ·grind [fF]
 intro x hx;obtain⟨hx,hL⟩:=hx;have hlen:=mw s.aa x.1.toNat;rw[<-hL]at hlen;have hnx:=Bw s.aa hx.1;apply gC;apply (cd)<;>intro h1
 ·refine sd (ld (.ao .aa) (lv _ _) ?_);apply (yx)<;>intro h2
  ·try simp only[sb]at h2
   refine XO.buildSlice (A:= #[iI _]) (vs:= #[(0,iI _)]) rfl (wm _) rfl rfl ?_;intro h3;apply gO;refine lY (e:=3) rfl rfl underlying55 kq (.ao .aa) .aa og rfl ?_;intro h4 h5;apply gO;refine sd (wn ((x.1+1,x.2.1++[x.1],_,_)) ?_ ?_ (pk [0,1]));all_goals grind
  ·try simp only[sb]at h2
   refine sd (wn ((x.1+1,x.2.1,_,_)) ?_ ?_ (pz 2));all_goals grind
 ·refine bL (pz 2) ?_;try dsimp only[aR,aQ,bH,bQ]
  have af2:x.1=6:=og;simp_all
def RC(b o:Nat)(s:SS)(p n:Int):Fn 62 [ay b o 0,iI p,iI n] [bY b o s] (ap (.tuple #[iI (s.js p n).1,ax 102 (s.js p n).2]) [bY b o s]):=by
 refine Spec.g 41 [0,1,2,6,7,8,9,10,15,22,30,31,32,37] func62 fun W=> ?_;refine ca (Ck _ _ _ _) .h1 ?_;rintro _ _ (⟨h1,rfl,rfl⟩ | ⟨h1,rfl,rfl⟩)
 ·obtain⟨i0,i1,i2,i3⟩:=h1;apply gO;apply UV 19<;>intro h2
  ·refine fg .h1 ?_;grind [aR,aQ,bQ,aL,tC]
  ·apply (cd)<;>intro h3
   ·refine fg .h1 ?_;grind [aR,aQ,bQ,aL,tC]
   ·refine sd (mP .aa (Eo _ _ og aq) ?_);refine wl (σ:=Int) (fun k=>(21-k).toNat) (fun k=>(0<=k/\k<=21)/\∀ j:Int,0<=j->j<k->s.b8 n j≠p) (fun k=>[(31,iI k),(1,iI p),(30,.agg (IZ (s.b8 n) 21))]) (fun k=>[bY b o s]) (0) ?_ .h1 ?_
    ·grind
    intro k hk;obtain⟨hk,Dr⟩:=hk;apply gC;apply (cd)<;>intro h4
    ·refine XO.v (mu rfl rfl underlying27 o4 kq) rfl (gO ?_);apply (cd)<;>intro h5
     ·refine fg .h1 ?_;first
      | (rw[Er aq];exact⟨by show _=Value.tuple #[_,ax 102 (s.is n)];rw[aL _ aq],rfl⟩)
      | (rw[tC aq og];exact⟨rfl,rfl⟩)
      | (rw[SS.Ep (q:=k) aq og og og Dr];exact⟨rfl,rfl⟩)
      | (rw[CG aq og fun j h1 h2=>Dr j h1 og];exact⟨rfl,rfl⟩)
     ·refine sd (wn (k+1) ?_ ?_ .h1);all_goals grind
    ·refine fg .h1 ?_;grind [aR,aQ,bQ,aL,CG]
 ·have i0:=h1;apply gO;refine fg .h1 ?_;grind [aR,aQ,bQ,Er,aL]
def zh(b o:Nat)(s:SS)(n q:Int):Fn 66 [ay b o 0,iI n,iI q] [bY b o s] (ap (.tuple #[iI (s.find n q).1,ax 102 (s.find n q).2]) [bY b o s]):=by
 refine Spec.g 43 [0,1,2,6,7,8,13,32] func66 fun W=> ?_;refine ca (Ck _ _ _ _) .h1 ?_;rintro _ _ (⟨h1,rfl,rfl⟩ | ⟨h1,rfl,rfl⟩)
 obtain⟨i0,i1,i2,i3⟩:=h1;apply gO;apply UV 17<;>intro h2;rotate_left
 apply UV 21<;>intro h3;rotate_left
 refine sd (sd (ld .aa (ma _ _ _ og og KR) ?_));apply (cd)<;>intro h4;rotate_left
 ·refine sd (sd (ld .aa (ma _ _ _ og og KR) (bC rfl rfl rfl (ai .h1 rfl ?_))));grind [aR,aQ,bQ,ax,Oo]
 ·have i0:=h1;apply gO;refine fg .h1 ?_;grind [aR,aQ,bQ,LL,aL]
 all_goals refine fg .h1 ?_;grind [aR,aQ,bQ,aL,tD]
def ai6(b o:Nat)(s:SS)(aK:Int->Nat)(hD:s.Deep aK)(hA:∀ k,s.aa k=false->∀ j,s.b8 k j= -1)(n:Int):Fn 53 [ay b o 0,iI n] [bY b o s] (ap (.tuple #[iI (s.add aK n).1,ax 102 (s.add aK n).2.1]) [bY b o (s.add aK n).2.2]):=by
 refine Spec.g 41 [0,1,4,5,6,7,12,18,20,21,30] func53 fun W=> ?_;refine ca (Ck _ _ _ _) .h1 ?_;rintro _ _ (⟨h1,rfl,rfl⟩ | ⟨h1,rfl,rfl⟩)
 ·obtain⟨i0,i1,i2,i3⟩:=h1;apply gO;refine ca (af1 _ _ _ aK hD _ ⟨og,og,aq⟩) .h1 ?_;rintro _ _ ⟨pl,cl,rfl,rfl⟩;apply gO;apply (cd)<;>intro h2
  ·have hdp:=s.Du aK n;refine fg (pk [1]) ?_;grind [aR,aQ,bQ,SS.Es,ax]
  ·have hdp:=s.Du aK n;refine wl (σ:=Int) (fun k=>(6-k).toNat) (fun k=>(0<=k/\k<=6)/\∀ j:Int,0<=j->j<k->s.aa j=true) (fun k=>[(20,iI k),(0,ay b o 0),(1,iI n)]) (fun k=>[bY b o s]) (0) ?_ (pk [1]) ?_
   ·grind
   intro k hk;obtain⟨hk,Dr⟩:=hk;apply gC;apply (cd)<;>intro h3
   ·refine sd (ld .aa (lv _ _) ?_);apply (yx)<;>intro h4
    ·try simp only[sb]at h4
     refine rq [0,1,2,4,5,3,6,7] mixed ?_;refine cq (xB _) .nil ?_;refine sd (gu .aa (Eu _ _ _ og (hA _ aq)) rfl ⟨rfl,rfl⟩ (bC rfl rfl rfl (ai .h1 rfl ?_)));grind [aR,aQ,bQ,SS.Et,ax]
    ·try simp only[sb]at h4
     refine sd (wn (k+1) ?_ ?_ .h1);all_goals grind
   ·refine fg .h1 ?_;grind [aR,aQ,bQ,LP,ax]
 ·have i0:=h1;apply gO;refine fg .h1 ?_;grind [aR,aQ,bQ,SS.Ji,ax]
def YD(b o:Nat)(s:SS)(n:Int):Fn 132 [ay b o 0,iI n] [bY b o s] (ap (ax 102 (s.drop n).1) [bY b o (s.drop n).2]):=by
 refine Spec.g 52 [0,1,4,5,6,11,21,23,24,43] func132 fun W=> ?_;refine ca (Ck _ _ _ _) .h1 ?_;rintro _ _ (⟨h1,rfl,rfl⟩ | ⟨h1,rfl,rfl⟩)
 ·obtain⟨i0,i1,i2,i3⟩:=h1;apply gO;apply UV 15<;>intro h2
  ·refine bL .h1 ?_;grind [aR,aQ,bQ,zK,ax]
  ·refine ca (IK _ _ _ _ og aq) .h1 ?_;rintro _ _ ⟨pl,cl,rfl,rfl⟩;apply gO;apply (cd)<;>intro h3
   ·refine bL (pk [1]) ?_;grind [aR,aQ,bQ,zK,ax]
   ·refine wl (σ:=Int) (fun k=>(6-k).toNat) (fun k=>(0<=k/\k<=6)/\∀ j:Int,0<=j->j<k->¬(s.aa j=true/\s.aA j=n)) (fun k=>[(23,iI k),(0,ay b o 0),(1,iI n)]) (fun k=>[bY b o s]) (0) ?_ (pk [1]) ?_
    ·grind
    intro k hk;obtain⟨hk,Dr⟩:=hk;apply gC;apply (cd)<;>intro h4
    ·refine sd (ld .aa (lv _ _) ?_);refine SG 33 rfl ?_ ?_<;>intro h5
     ·try simp only[sb]at h5
      refine sd (ld .aa (l9 _ _) ?_);apply (cd)<;>intro h6
      ·refine bL .h1 ?_;grind [aR,aQ,bQ,LR,ax]
      ·refine sd (wn (k+1) ?_ ?_ .h1);all_goals grind
     ·try simp only[sb]at h5
      refine sd (wn (k+1) ?_ ?_ .h1);all_goals grind
    ·refine XO.v (V.build (vs:= #[]) rfl (v:=.agg tB) fun _=>kq) rfl (gO ?_);refine sd (gu .aa (Oq _ _ og) rfl ⟨rfl,rfl⟩ (aO rfl rfl (ai .h1 rfl ?_)));grind [aR,aQ,bQ,SS.aaW,ax]
 ·have i0:=h1;apply gO;refine bL .h1 ?_;grind [aR,aQ,LQ,ax]
def YE:Fn 96 [] [] (fun v H1=>∃ b,v=ay b 0 0/\H1=[bY b 0 SS.cR]):=by
 refine Spec.g 20 [0,1,2,10,11] func96 fun W=> ?_;refine XO.v (V.build (vs:= #[]) rfl (v:=.agg adE) fun _=>kq) rfl (gO ?_);refine XO.box (m:=158) (C:=aM SS.zero) rfl rfl Te rfl ?_;intro bs;apply gO;refine rq [0,2,3,1,4,5] mixed ?_;refine cq (xB _) .nil ?_;refine sd (gu .aa (Eu _ _ _ og fun _=>rfl) rfl ⟨rfl,rfl⟩ ?_);refine lp (σ:=Int) (fun k=>(20-k).toNat) (fun k=>0<=k/\k<=20) (fun k=>[(10,iI k),(1,ay bs 0 0)]) (fun k=>XM W (cx []) [bY bs 0 {SS.pq with loc:=GC k}]) (0) ?_ S2 (fun _ hw=>by rw[WA];exact XM.pick .h1 hw) ?_
 ·omega
 intro k hk;apply gC;apply (cd)<;>intro h1
 ·refine sd (st .aa (tA _ _ og _) rfl (sd (ag (k+1) ?_ ?_ S2 fun _ hw=>by rw[<-LJ k];exact XM.pick .h1 hw)));all_goals omega
 ·refine bL .h1 ?_;try dsimp only[aR,aQ,bH,bQ]
  grind [SS.cR]
def Kc(b o:Nat)(s:SS)(aK:Int->Nat)(hD:s.Deep aK)(n p:Int):Fn 56 [ay b o 0,iI n,iI p] [bY b o s] (ap (.tuple #[iI (s.enter aK n p).1,ax 102 (s.enter aK n p).2.1]) [bY b o (s.enter aK n p).2.2]):=by
 refine Spec.g 77 [0,1,2,6,7,8,10,11,16,23,31,41,42,43,44,48,60] func56 fun W=> ?_;refine ca (Ck _ _ _ _) .h1 ?_;rintro _ _ (⟨h1,rfl,rfl⟩ | ⟨h1,rfl,rfl⟩)
 ·obtain⟨i0,i1,i2,i3⟩:=h1;apply gO;apply UV 20<;>intro h2
  ·refine fg .h1 ?_;grind [aR,aQ,bQ,qd,ax]
  ·apply (cd)<;>intro h3
   ·refine fg .h1 ?_;grind [aR,aQ,bQ,qd,ax]
   ·refine sd (ld .aa (tv _ _) ?_);apply (cd)<;>intro h4
    ·refine fg .h1 ?_;grind [aR,aQ,bQ,vw,ax]
    ·refine sd (st .aa (tA _ _ og _) rfl ?_);have hD1:({s with loc:=ad s.loc p n} :SS).Deep aK:=⟨hD.d⟩;have hay:=({s with loc:=ad s.loc p n} :SS).Du aK n;have hdn:=(hD.d n i1 i2 i3).2.1;refine ca (af1 _ _ ({s with loc:=ad s.loc p n} :SS) aK hD1 n ⟨i1,i2,i3⟩) .h1 ?_;rintro _ _ ⟨pl,cl,rfl,rfl⟩;apply gO;refine wl (σ:=Int×(Int->Int->Int)) (fun x=>((({s with loc:=ad s.loc p n} :SS).cU aK n).length-x.1).toNat) (fun x=>(0<=x.1/\x.1<=(({s with loc:=ad s.loc p n} :SS).cU aK n).length)/\jg x.2 p ((({s with loc:=ad s.loc p n} :SS).cU aK n).drop x.1.toNat)=jg s.b8 p (({s with loc:=ad s.loc p n} :SS).cU aK n)) (fun x=>[(43,iI x.1),(0,ay b o 0),(1,iI n),(2,iI p),(41,.slice pl (({s with loc:=ad s.loc p n} :SS).cU aK n).length cl),(42,iI (({s with loc:=ad s.loc p n} :SS).cU aK n).length)]) (fun x=>[dH pl cl 3 (({s with loc:=ad s.loc p n} :SS).cU aK n),bY b o {s with loc:=ad s.loc p n,b8:=x.2}]) ((0,s.b8)) ?_ (pz 2) ?_
     ·simp_all
     intro x hx;obtain⟨hx,hw⟩:=hx;apply gC;apply (cd)<;>intro h5
     ·obtain⟨a0,a1,a2⟩:=Hy hD1 (n:=n) ⟨i1,i2,i3⟩ (z:=x.1) ⟨hx.1,og⟩;apply bV .aa og;intro gA h6;subst h6;refine sd (Cx .aa (ints_at) ?_);refine wl (σ:=Int) (fun k=>(21-k).toNat) (fun k=>(1<=k/\k<=21)/\∀ j:Int,1<=j->j<k->¬x.2 (jK (({s with loc:=ad s.loc p n} :SS).cU aK n) x.1) j<0) (fun k=>[(11,iI k),(0,ay b o 0),(1,iI n),(2,iI p),(10,iI (jK (({s with loc:=ad s.loc p n} :SS).cU aK n) x.1)),(41,.slice (some ⟨gA,0,none⟩) (({s with loc:=ad s.loc p n} :SS).cU aK n).length cl),(42,iI (({s with loc:=ad s.loc p n} :SS).cU aK n).length),(43,iI x.1)]) (fun k=>[dH (some ⟨gA,0,none⟩) cl 3 (({s with loc:=ad s.loc p n} :SS).cU aK n),bY b o {s with loc:=ad s.loc p n,b8:=x.2}]) (1) ?_ (pz 2) ?_
      ·grind
      intro k hk;obtain⟨hk,Dr⟩:=hk;apply gC;apply (cd)<;>intro h7
      ·refine sd (sd (ld (.ao .aa) (ma _ _ _ og og KR) ?_));apply (cd)<;>intro h8
       ·have sW:x.2 (jK (({s with loc:=ad s.loc p n} :SS).cU aK n) x.1) k<0:=h8;refine sd (sd (st (.ao .aa) (qM _ _ _ og og KR _) rfl (sd (wn ((x.1+1,bW x.2 (jK (({s with loc:=ad s.loc p n} :SS).cU aK n) x.1) k p)) ?_ ?_ (pz 2)))));all_goals grind [LU,jg,Tf]
       ·refine sd (wn (k+1) ?_ ?_ (pz 2));all_goals grind
      ·refine sd (wn ((x.1+1,x.2)) ?_ ?_ (pz 2));all_goals grind [LU,jg,Tg]
     ·refine cq (RC _ _ _ _ _) (pk [1]) ?_;refine fg .h1 ?_;try dsimp only[aR,aQ,bH,bQ]
      have YG:x.1=(({s with loc:=ad s.loc p n} :SS).cU aK n).length:=og;have he:x.2=jg s.b8 p (s.cU aK n):=by
       rw[YG]at hw;simp at hw;exact(show x.2=jg x.2 p []from rfl).trans (hw.trans (congrArg (jg s.b8 p) (SS.nN (s:=s) (s':= {s with loc:=ad s.loc p n}) rfl _ _)))
      grind [SS.zM,SS.fI]
 ·have i0:=h1;apply gO;refine fg .h1 ?_;grind [aR,aQ,bQ,zL,ax]
def ab8(b o:Nat)(s:SS)(aK:Int->Nat)(hD:s.Deep aK)(p:Int)(hl:0<=p->p<20->0<=s.loc p->s.loc p<6/\s.aa (s.loc p)=true)(hW:0<=p->∀ n q,s.b8 n q=p->n∈s.cU aK (s.loc p)/\0<=q/\q<21):Fn 131 [ay b o 0,iI p] [bY b o s] (ap (ax 102 (s.fL p).1) [bY b o (s.fL p).2]):=by
 refine Spec.g 57 [0,1,4,5,6,8,9,10,18,22,23,24,25,34,35,36,41] func131 fun W=> ?_;refine ca (PH _ _ _ _) .h1 ?_;rintro _ _ ⟨⟨rfl,xH⟩,rfl⟩;apply gO;apply (cd)<;>intro h1
 ·refine bL .h1 ?_;grind [aR,aQ,SS.fL]
 ·obtain⟨⟨p0,p20⟩,l0,hN⟩:=xH og;have hl2:=hl p0 p20 l0;have NN:0<=(s.bZ p).1/\(s.bZ p).1<6/\s.aa (s.bZ p).1=true:=by rw[hN];exact⟨l0,hl2.1,hl2.2⟩
  have hay:=s.Du aK (s.bZ p).1;have hdn:=(hD.d _ NN.1 NN.2.1 NN.2.2).2.1;refine ca (af1 _ _ s aK hD (s.bZ p).1 NN) .h1 ?_;rintro _ _ ⟨pl,cl,rfl,rfl⟩;apply gO;refine wl (σ:=Int×(Int->Int->Int)) (fun x=>((s.cU aK (s.bZ p).1).length-x.1).toNat) (fun x=>(0<=x.1/\x.1<=(s.cU aK (s.bZ p).1).length)/\x.2=Ot s.b8 ((s.cU aK (s.bZ p).1).take x.1.toNat) p) (fun x=>[(24,iI x.1),(0,ay b o 0),(1,iI p),(22,.slice pl (s.cU aK (s.bZ p).1).length cl),(23,iI (s.cU aK (s.bZ p).1).length)]) (fun x=>[dH pl cl 3 (s.cU aK (s.bZ p).1),bY b o {s with b8:=x.2}]) ((0,s.b8)) ?_ (pz 2) ?_
  ·grind [WB]
  intro x hx;obtain⟨hx,hw⟩:=hx;apply gC;apply (cd)<;>intro h2
  ·obtain⟨a0,a1,a2⟩:=Hy hD (n:=(s.bZ p).1) NN (z:=x.1) ⟨hx.1,og⟩;apply bV .aa og;intro gA h3;subst h3;apply (sd);apply Cx .aa (ints_at);apply (sd);apply mP (.ao .aa) (Eo _ _ og aq);refine lp (σ:=Int) (fun k=>(21-k).toNat) (fun k=>0<=k/\k<=21) (fun k=>[(35,iI k),(0,ay b o 0),(1,iI p),(8,iI (jK (s.cU aK (s.bZ p).1) x.1)),(22,.slice (some ⟨gA,0,none⟩) (s.cU aK (s.bZ p).1).length cl),(23,iI (s.cU aK (s.bZ p).1).length),(24,iI x.1),(34,.agg (IZ (x.2 (jK (s.cU aK (s.bZ p).1) x.1)) 21))]) (fun k=>XM W (cx [bY b o s]) [dH (some ⟨gA,0,none⟩) cl 3 (s.cU aK (s.bZ p).1),bY b o {s with b8:=De x.2 (jK (s.cU aK (s.bZ p).1) x.1) p k}]) (0) ?_ (.cons rfl (.cons rfl S6)) (fun _ mK=>by rw[Th];exact XM.pick (pz 2) mK) ?_
   ·omega
   intro k hk;apply gC;apply (cd)<;>intro h4
   ·refine XO.v (mu rfl rfl underlying27 o4 kq) rfl (gO ?_);apply (cd)<;>intro h5
    ·apply (sd);apply (sd);apply st (.ao .aa) (qM _ _ _ og og KR _) rfl;apply (sd);refine ag (k+1) ?_ ?_ (.cons rfl (.cons rfl S6)) fun _ mK=>by first | (rw[<-LV og aq];exact XM.pick (pz 2) mK) | (rw[<-Hz aq];exact XM.pick (pz 2) mK)
     all_goals omega
    ·apply (sd);refine ag (k+1) ?_ ?_ (.cons rfl (.cons rfl S6)) fun _ mK=>by first | (rw[<-LV og aq];exact XM.pick (pz 2) mK) | (rw[<-Hz aq];exact XM.pick (pz 2) mK)
     all_goals omega
   ·obtain rfl:k=21:=og;apply (sd);refine wn ((x.1+1,De x.2 (jK (s.cU aK (s.bZ p).1) x.1) p 21)) ?_ ?_ (pz 2);all_goals grind [Ti]
  ·apply (sd);apply st (.ao .aa) (tA _ _ og _) rfl;refine bL (pk [1]) ?_;try dsimp only[aR,aQ,bH,bQ]
   have YG:x.1=(s.cU aK (s.bZ p).1).length:=og;rw[YG]at hw;simp at hw;have hv:s.fL p=(0,s.left p):=by unfold SS.fL;rw[if_neg og]
   rw[hv];unfold SS.left;rw[<-WC (l:=(s.cU aK (s.bZ p).1)) (by rw[hN];exact hW p0),<-hw];grind [ax]
end Go.X.Sp

namespace Go.X.Kn
open Go Go.Proofs Go.X
def Nk:ey Tryz.prog 101 2=some 441:=kq
def fm(kb:Nat)(k:KP)(n:Int):Fn 49 [ay kb 0 0,iI n] [dO kb k] (fun v H1=>((k.aF n=0/\v= .tuple #[ay kb 0 (0+0+n.toNat*22),.nilIface])\/(k.aF n≠0/\v= .tuple #[.pointer none,.iface 102 (iI (k.aF n))]))/\H1=[dO kb k]):=by
 refine Spec.g 27 [0,1,4,5,11,20] func49 fun W=> ?_;apply UV 8<;>intro h1;rotate_left
 apply (cd)<;>intro h2;rotate_left
 refine sd (ld .aa (gY _) ?_);apply (cd)<;>intro h3;rotate_left
 ·refine sd (bC rfl rfl rfl (ai .h1 rfl ?_));grind [aR,aQ,bQ,KP.aF]
 all_goals refine fg .h1 ?_;grind [aR,aQ,bQ,KP.aF]
def kH(kb:Nat)(k:KP)(s:Sp.SS)(n:Int):Fn 52 [ay kb 0 0,iI n] [dO kb k,Sp.bY k.sb 0 s] (ap (iI (s.bZ n).1) [dO kb k,Sp.bY k.sb 0 s]):=by
 refine Spec.g 17 [0,1,4,5] func52 fun W=> ?_;apply ld .aa (aB.uS _);refine ca (Sp.PH _ _ s _) (pk [1]) ?_;rintro _ _ ⟨⟨rfl,hof⟩,rfl⟩;apply gO;refine bL (pk [1,0]) ?_;grind [aR,aQ]
def Cl(kb:Nat)(k:KP)(s:Sp.SS)(z:Int):Fn 104 [ay kb 0 0,iI z] [dO kb k,Sp.bY k.sb 0 s] (ap (iI (s.find z 1).1) [dO kb k,Sp.bY k.sb 0 s]):=by
 refine Spec.g 17 [0,1,4,5] func104 fun W=> ?_;apply ld .aa (aB.uS _);refine cq (Sp.zh _ _ s _ _) (pk [1]) ?_;refine bL (pk [1,0]) ?_;grind [aR,aQ]
def ai9(kb:Nat)(k:KP)(s:Sp.SS)(aK:Int->Nat)(hI:s.Inv aK)(n q:Int):Fn 18 [ay kb 0 0,iI n,iI q] [dO kb k,Sp.bY k.sb 0 s] (ap (.tuple #[iI (k.GQ s n q).1,ax 102 (k.GQ s n q).2]) [dO kb k,Sp.bY k.sb 0 s]):=by
 refine Spec.g 45 [0,1,2,6,7,9,10,18,33,42] func18 fun W=> ?_;refine ca (fm kb _ _) .h1 ?_;rintro _ _ ⟨⟨hl,rfl⟩ | ⟨hl,rfl⟩,rfl⟩
 ·obtain⟨kL,iw⟩:=bM hl;apply gO;refine XC.ir mixed (f:=14) (l:= #[qF,qF,qF,qF,qF,qF,qF,qF,qF,qF,qF,qF,qF,qF]) rfl rfl XM.kQ (XQ.mv 0 rfl rfl rfl (XQ.nc 1 rfl rfl rfl (XQ.pw 2 rfl rfl (V.fieldAddr rfl Nk) (XQ.ll 3 [8] rfl rfl .aa rfl (aB.uS _) (XQ.mv 4 rfl rfl rfl (XQ.mv 5 rfl rfl rfl (XQ.mv 7 rfl rfl rfl (XQ.call (i:=6) rfl kq rfl rfl (kH kb _ s n) (pz 2) kq rfl (by rintro _ _ ⟨rfl,rfl⟩<;>exact ut) ?_))))))));rintro _ _ ⟨rfl,rfl⟩;apply XQ.call (i:=8) rfl kq rfl rfl (Sp.zh _ _ s _ _) (pk [1]) kq rfl (by rintro _ _ ⟨rfl,rfl⟩<;>exact ut);rintro _ _ ⟨rfl,rfl⟩;refine XQ.mv 9 rfl rfl rfl (XQ.pw 10 rfl rfl (V.extract rfl rfl) (XQ.pw 11 rfl rfl (V.extract rfl rfl) (XQ.pw 12 rfl rfl (V.assign rfl) (XQ.pw 13 rfl rfl (V.assign rfl) (XQ.done kq (gE ?_))))));apply (cd)<;>intro h1
  ·have e:k.GQ s n q=(0,(s.find (s.bZ n).1 q).2):=by unfold KP.GQ;rw[if_neg og,if_pos og]
   refine fg (pk [1,0]) ?_;grind [aR,aQ,bQ]
  ·have hf:(s.find (s.bZ n).1 q).2=0:=og;have hfr:=vF hI hf;refine sd (ld (.ao .aa) (gY _) ?_);apply (cd)<;>intro h2
   ·refine fg (pk [1,0]) ?_;grind [aR,aQ,bQ,KP.GQ,ax]
   ·refine fg (pk [1,0]) ?_;grind [aR,aQ,bQ,KP.GQ,ax]
 ·apply gO;refine fg (pz 2) ?_;grind [aR,aQ,bQ,KP.GQ,ax]
end Go.X.Kn

namespace Go.X.Sg
open Go Go.Proofs Go.X
def af3:xN Tryz.prog 256=some (32,1):=kq
def AX(n:Int):Fn 141 [iI n] [] (fun v H1=>((1<=n/\n<=8)/\v= .nilIface/\H1=[])\/((n<1\/n>8)/\v= .iface 102 (iI 1)/\H1=[])):=by
 refine Spec.g 10 [0,2,8] func141 fun W=> ?_;apply UV 5<;>intro h1
 ·refine bL .nil ?_;grind [aR,aQ,bQ]
 ·apply (cd)<;>intro h2
  ·refine bL .nil ?_;grind [aR,aQ,bQ]
  ·refine bL .nil ?_;grind [aR,aQ,bQ]
def YH(b o:Nat)(s:BS)(n:Int)(hn:1<=n/\n<=8:=by omega):Fn 142 [ay b o 0,iI n] [f7 b o s] (ap (iI (s.Bu n)) [f7 b o s]):=by
 refine Spec.g 22 [0,1,4,15] func142 fun W=> ?_;apply UV 7<;>intro h1
 refine sd (ld .aa (od _ _) ?_);apply (cd)<;>intro h2
 ·refine bL .h1 ?_;grind [aR,aQ,bQ,BS.Bu]
 rotate_left;rotate_left;all_goals refine sd (ld .aa (od _ _) (aO rfl rfl (ai .h1 rfl ?_)));grind [aR,aQ,BS.Bu]
def YI(b o:Nat)(s:BS)(n:Int):Fn 138 [ay b o 0,iI n] [f7 b o s] (ap (ax 102 (s.send n).1) [f7 b o (s.send n).2]):=by
 refine Spec.g 26 [0,1,4,5,15] func138 fun W=> ?_;refine ca (AX _) .nil ?_;rintro _ _ (⟨h1,rfl,rfl⟩ | ⟨h1,rfl,rfl⟩)
 ·apply gO;refine cq (YH _ _ _ _) .h1 ?_;apply (cd)<;>intro h2
  ·refine rq [0,1,2,3,4,5,6,7,8,9] mixed (ld .aa (pj _) (XO.v (V.shl rfl rfl og _ (wP)) rfl (gO ?_)));refine XO.v (V.bits rfl rfl rfl (by first | exact kD _ | exact jE og | (rw[IntKind.bits];omega)) (by first | exact kD _ | exact jE og | (rw[IntKind.bits];omega)) rfl) rfl (gO ?_);refine st .aa (wQ _ (LG _)) rfl (aO rfl rfl (ai .h1 rfl ?_));grind [aR,aQ,BS.aaT,ax]
  ·refine bL .h1 ?_;grind [aR,aQ,LH,ax]
 ·apply gO;refine bL .h1 ?_;grind [aR,aQ,Ol,ax]
def Nl(b o:Nat)(s:BS)(n:Int):Fn 75 [ay b o 0,iI n,.bool true] [f7 b o s] (ap (ax 102 (s.dX n true).1) [f7 b o (s.dX n true).2]):=by
 refine Spec.g 35 [0,1,2,6,7,11,14,25] func75 fun W=> ?_;refine ca (AX _) .nil ?_;rintro _ _ (⟨h1,rfl,rfl⟩ | ⟨h1,rfl,rfl⟩)
 ·apply gO;apply (cd)<;>intro h2
  ·refine bL .h1 ?_;grind [aR,aQ,bQ,vu,ax]
  ·refine rq [0,1,2,3,4,5,6,7,8,9] mixed (ld .aa (po _) (XO.v (V.shl rfl rfl og _ (wP)) rfl (gO ?_)));refine XO.v (V.bits rfl rfl rfl (by first | exact kD _ | exact jE og | (rw[IntKind.bits];omega)) (by first | exact kD _ | exact jE og | (rw[IntKind.bits];omega)) rfl) rfl (gO ?_);refine st .aa (Bv _ (tu _)) rfl (rq [0,1,2,3,4,5,6,7,8,9] mixed (ld .aa (po _) (XO.v (V.shl rfl rfl og _ (wP)) rfl (gO ?_))));refine XO.v (V.bits rfl rfl rfl (by first | exact kD _ | exact jE og | (rw[IntKind.bits];omega)) (by first | exact kD _ | exact jE og | (rw[IntKind.bits];omega)) rfl) rfl (gO ?_);refine st .aa (Bv _ (LG _)) rfl (aO rfl rfl (ai .h1 rfl ?_));first
   | (rw[yE og];exact⟨rfl,rfl⟩)
   | (rw[vu og];exact⟨rfl,rfl⟩)
   | (rw[BS.QO og og];refine⟨rfl,?_⟩;first | rfl | exact congrArg (fun f=>[aG.cells b o 11 (fQ {s with bu:=f})]) (by funext j;simp only[ad];split<;>rfl))
 ·apply gO;refine bL .h1 ?_;grind [aR,aQ,yE,ax]
def Kd(b o:Nat)(s:BS)(n:Int):Fn 75 [ay b o 0,iI n,.bool false] [f7 b o s] (ap (ax 102 (s.dX n false).1) [f7 b o (s.dX n false).2]):=by
 refine Spec.g 35 [0,1,2,6,7,11,14,25] func75 fun W=> ?_;refine ca (AX _) .nil ?_;rintro _ _ (⟨h1,rfl,rfl⟩ | ⟨h1,rfl,rfl⟩)
 ·apply gO;apply (cd)<;>intro h2
  ·refine bL .h1 ?_;grind [aR,aQ,bQ,vu,ax]
  ·refine rq [0,1,2,3,4,5,6,7,8,9] mixed (ld .aa (po _) (XO.v (V.shl rfl rfl og _ (wP)) rfl (gO ?_)));refine XO.v (V.bits rfl rfl rfl (by first | exact kD _ | exact jE og | (rw[IntKind.bits];omega)) (by first | exact kD _ | exact jE og | (rw[IntKind.bits];omega)) rfl) rfl (gO ?_);refine st .aa (Bv _ (tu _)) rfl (aO rfl rfl (ai .h1 rfl ?_));grind [aR,aQ,bQ,BS.QO,ax]
 ·apply gO;refine bL .h1 ?_;grind [aR,aQ,yE,ax]
def aja(b o:Nat)(s:BS)(n h:Int):Fn 73 [ay b o 0,iI n,iI h] [f7 b o s] (ap (ax 102 (s.set n h).1) [f7 b o (s.set n h).2]):=by
 refine Spec.g 42 [0,1,2,6,7,11,18,21,32] func73 fun W=> ?_;refine ca (AX _) .nil ?_;rintro _ _ (⟨h1,rfl,rfl⟩ | ⟨h1,rfl,rfl⟩)
 ·apply gO;apply UV 15<;>intro h2
  ·refine bL .h1 ?_;grind [aR,aQ,bQ,ax,BS.set]
  ·apply (cd)<;>intro h3
   ·refine bL .h1 ?_;grind [aR,aQ,bQ,ax,BS.set]
   ·apply (cd)<;>intro h4
    ·refine bL .h1 ?_;grind [aR,aQ,bQ,Om,ax]
    ·refine sd (st .aa (Gz _ _ og _) rfl ?_);refine cq (YH _ _ _ _) .h1 ?_;apply (cd)<;>intro h5
     ·refine rq [0,1,2,3,4,5,6,7,8,9] mixed (ld .aa (pj _) (XO.v (V.shl rfl rfl og _ (wP)) rfl (gO ?_)));refine XO.v (V.bits rfl rfl rfl (by first | exact kD _ | exact jE og | (rw[IntKind.bits];omega)) (by first | exact kD _ | exact jE og | (rw[IntKind.bits];omega)) rfl) rfl (gO ?_);refine st .aa (wQ _ (tu _)) rfl (aO rfl rfl (ai .h1 rfl ?_));grind [aR,aQ,bQ,BS.aaU,ax]
     ·refine bL .h1 ?_;grind [aR,aQ,bQ,BS.afb,ax]
 ·apply gO;refine bL .h1 ?_;grind [aR,aQ,Tc,ax]
def alP(x t:Nat)(hx:x<65536)(ht:x.testBit t=true)(hl:∀ j,j<t->x.testBit j=false)(af4:t<16):Fn 197 [.int .u16 (x:Int)] [g8] (ap (iI (t:Int)) []):=by
 have q8:0<x:=by
  grind
 obtain⟨z1,z2,z3,z4,z5⟩:=aiu af4;refine Spec.g 15 [0,2,4] func197 fun W=> ?_;refine KJ rfl eI (XO.v (V.neg rfl _ (aaR ⟨q8,hx⟩)) rfl (gO ?_));refine XO.v (V.bits (r:=2^t) rfl rfl rfl hx (Nat.sub_lt dq q8) (congrArg some (Qq (w:=16) ht hl hx af4))) rfl (gO ?_);refine XO.v (nI rfl underlying84 underlying257 _ z1) rfl (gO ?_);refine XO.v (V.mul rfl rfl _ z2) rfl (gO ?_);refine XO.v (V.shr rfl rfl og _ z3) rfl (gO ?_);refine XO.v (Hb rfl rfl af3 og) rfl (gO ?_);refine aay .aa (Oj af4) (XO.v (nI rfl underlying5 underlying3 _ z5) rfl (gO ?_));refine bL .nil ?_;grind [aR,aQ]
def RD(b o:Nat)(s:BS)(hz:s.dc 0=false)(h:Int):Fn 146 [ay b o 0,iI h] [f7 b o s,g8] (ap (.tuple #[iI (s.first h),.bool (decide (s.first h≠0))]) [f7 b o s]):=by
 refine Spec.g 34 [0,1,4,5,6,7,18,32] func146 fun W=> ?_;refine rq [0,1,2,3,4,5,6,7,8,9] mixed ?_;apply ld .aa (pj _);apply ld .aa (po _);refine XO.v (V.bits rfl rfl rfl (by first | exact kD _ | exact jE og | (rw[IntKind.bits];omega)) (by first | exact kD _ | exact jE og | (rw[IntKind.bits];omega)) rfl) rfl (gO ?_);refine wl (σ:=Nat×Nat) (fun x=>9-x.2) (fun x=>x.1<512/\x.2<=9/\(∀ j:Nat,x.1.testBit j=(decide (x.2<=j)&&(decide (j<9)&&s.dc j&& !s.bu j)))/\∀ j:Int,0<=j->j<x.2->¬(s.dc j=true/\s.bu j=false/\s.kt j=h)) (fun x=>[(6,.int .u16 (x.1:Int)),(0,ay b o 0),(1,iI h)]) (fun x=>[f7 b o s,g8]) ((mN (qz s.dc) (qz s.bu),0)) ?_ (pz 2) ?_
 ·grind [VI,Ww,ri,mT]
 intro x hx;obtain⟨KI,yp,Z8,hx4⟩:=hx;apply gC;apply (cd)<;>intro h1
 have gJ:x.1≠0:=og;obtain⟨t,ht,hl⟩:=DZ gJ;have hb:=ht;rw[Z8]at hb;simp only[Bool.and_eq_true,decide_eq_true_eq,Bool.not_eq_true']at hb;obtain⟨hb1,⟨D1,hb3⟩,hb4⟩:=hb;refine KK 0 (alP x.1 t og ht hl og) (pk [1]) rfl ?_;apply (sd);apply ld (.ao .aa) (od _ _);apply (cd)<;>intro h2
 refine fg (pk [1]) ?_;try dsimp only[aR,aQ,bH,bQ]
 rw[GA (k:=(t:Int)) og hb3 hb4 aq fun j h1 h2=> ?_]
 ·have ht0:(t:Int)≠0:=by
   grind
  simp_all
 by_cases q2:j<x.2
 ·simp_all
 rotate_left
 refine XO.v (V.sub rfl rfl _ (aaS ⟨og,og⟩)) rfl (gO ?_);refine XO.v (V.bits rfl rfl rfl (show x.1<65536 by omega) (show x.1-1<65536 by omega) rfl) rfl (gO ?_);refine wn ((x.1&&&(x.1-1),t+1)) ?_ ?_ (pk [1,0])
 ·omega
 refine⟨Nat.lt_of_le_of_lt Nat.and_le_left KI,eI,fun j=> ?_,fun j h1 h2=> ?_⟩
 ·show(x.1&&&(x.1-1)).testBit j=_;rw[Sx ht hl,Z8];by_cases q1:j<t
  ·grind
  ·by_cases q2:j=t
   ·simp_all
   ·have q3:t+1<=j:=og;have q4:x.2<=j:=og;simp_all
 by_cases q1:j=t
 ·simp_all
 by_cases q2:j<x.2
 ·simp_all
 have q3:j<t:=by simp at h2;omega
 rotate_left
 ·refine fg .h1 ?_;try dsimp only[aR,aQ,bH,bQ]
  have q8:x.1=0:=og;rw[GB fun j h1 h2=> ?_]
  ·simp_all
  ·by_cases q2:j<x.2
   ·simp_all
   ·have q4:=Z8 j.toNat;rw[q8,show((j.toNat:Nat):Int)=j from og]at q4;simp_all
 all_goals have q4:=hl j.toNat og;rw[Z8,show((j.toNat:Nat):Int)=j from og]at q4;have q5:x.2<=j.toNat:=og;have q6:j.toNat<9:=og;simp_all
def FN(b o:Nat)(s:BS)(hz:s.dc 0=false):Fn 143 [ay b o 0] [f7 b o s,g8] (ap (.tuple #[iI (s.first 0),.bool (decide (s.first 0≠0))]) [f7 b o s]):=by
 refine Spec.g 8 [0,2,3] func143 fun W=> ?_;refine KK 1 (RD _ _ _ hz _) (pz 2) rfl ?_;refine fg .h1 ?_;grind [aR,aQ]
def af5(b o:Nat)(s:BS)(hz:s.dc 0=false):Fn 77 [ay b o 0] [f7 b o s,g8] (ap (.tuple #[iI s.take.1,.bool (decide (s.take.1≠0))]) [f7 b o s.take.2]):=by
 have hc:=s.vt 2 hz;refine Spec.g 23 [0,2,3,4,5,11] func77 fun W=> ?_;refine KK 1 (RD _ _ _ hz _) (pz 2) rfl ?_;apply (cd)<;>intro h1
 ·refine rq [0,1,2,3,4,5,6,7,8,9] mixed (ld .aa (pj _) (XO.v (V.shl rfl rfl og _ (wP)) rfl (gO ?_)));refine XO.v (V.bits rfl rfl rfl (by first | exact kD _ | exact jE og | (rw[IntKind.bits];omega)) (by first | exact kD _ | exact jE og | (rw[IntKind.bits];omega)) rfl) rfl (gO ?_);refine st .aa (wQ _ (tu _)) rfl (bC rfl rfl rfl (ai .h1 rfl ?_));grind [aR,aQ,BS.take]
 ·refine fg .h1 ?_;grind [aR,aQ,Jg]
end Go.X.Sg

namespace Go.X.Gr
open Go Go.RowKit Go.Proofs Go.X
def FO:xN Tryz.prog 67=some (10,5):=kq
def qu:ey Tryz.prog 151 0=some 0:=kq
def ab9:ey Tryz.prog 66 0=some 0:=kq
def sQ(p o b1 b2:Nat)(n:Int)(aA:Int->Int):List (Addr×Value):=
 (⟨b1,0,none⟩,iI n)::(⟨b2,0,none⟩,ay p o 0)::(List.range 10).map (fun k=>(⟨p,o+(0+0+k*5+0),none⟩,iI (aA (k:Int))))
def lQ{p o b1 b2:Nat}{n:Int}{aA:Int->Int}{s':TG}(hp:s'.aA=aA){H:List aG}{w:World}(hg:Go.X.Good H w)(h1:lR H (ce b1 (iI n)))(h2:lR H (ce b2 (ay p o 0)))(h3:lR H (dl p o s')):∀ y∈sQ p o b1 b2 n aA,w.cell? y.1=some y.2:=fun y hy=>by
 simp only[sQ,List.mem_cons,List.mem_map,List.mem_range]at hy;rcases hy with rfl | rfl | ⟨k,hk,rfl⟩
 ·exact eS (i:=0) (hg.1 _ h1.mem)
 ·exact eS (i:=0) (hg.1 _ h2.mem)
 ·have h4:=eS (hg.1 _ h3.mem) (gF s' (k:Int)).1;simp_all[bJ]
def UC{p o b1 b2:Nat}{n:Int}{aA:Int->Int}{w:World}(h:∀ y∈sQ p o b1 b2 n aA,w.cell? y.1=some y.2){z:Int}(h0:0<=z/\z<10):w.cell? ⟨p,o+(0+0+z.toNat*5+0),none⟩=some (iI (aA z)):=by
 have:=h (⟨p,o+(0+0+z.toNat*5+0),none⟩,iI (aA (z.toNat:Int))) (by
  simp only[sQ,List.mem_cons,List.mem_map,List.mem_range]
  exact .inr (.inr ⟨z.toNat,og,rfl⟩))
 rw[show((z.toNat:Nat):Int)=z from og]at this;exact this
set_option maxHeartbeats 1000000 in def wo(p o b1 b2:Nat)(n:Int)(aA:Int->Int)(xs:List Tj)(me:mU aA n (nu xs))(w:World)(hR:∀ y∈sQ p o b1 b2 n aA,w.cell? y.1=some y.2):SeqStopsK Fence.wide 2 Tryz.prog 184 #[ay b1 0 0,ay b2 0 0] (fun x:Tj=> #[iI x.1]) (U9 (sQ p o b1 b2 n aA)) (· =xs) (· <+:xs) xs.length w:=by
 intro l J Jx W hW hJ hJx hY h0;have hR0:∀ y∈sQ p o b1 b2 n aA,W.cell? y.1=some y.2:=fun y hy=>by
  rw[hW.cell (aaq (hR y hy))];exact hR y hy
 have e:(#[.func (.yield l) #[] #[]]++ #[ay b1 0 0,ay b2 0 0]:Array Value)=[.func (.yield l) #[] #[],ay b1 0 0,ay b2 0 0].toArray:=rfl;rw[e];refine callsIn_wide.2 (enter (ps:=[]) (cs:=[]) (M:=fun w=>J [] w/\∀ y∈sQ p o b1 b2 n aA,w.cell? y.1=some y.2) func184 rfl rfl ?_ ⟨h0,hR0⟩);apply XC.seq;apply XC.region;apply XO.l (yv (b:=b1) (o:=0) (v:=iI n) rfl (fun w hw=>hw.2 (⟨b1,0,none⟩,iI n) (by simp[sQ])) kq) rfl;apply XO.v (V.assign rfl) rfl;apply XO.nil;apply XE.next;apply XC.fq [(0,_),(2,_),(4,_)] (Sub.cons rfl (Sub.cons rfl (Sub.cons rfl (Sub.nil _))));apply XC.block;apply XC.loop (σ:=List Tj×List Tj×Int) (fun x=>x.2.1.length) (fun x=>x.1++x.2.1=xs/\mU aA x.2.2 (nu x.2.1)) (fun x=>[(0,.func (.yield l) #[] #[]),(2,ay b2 0 0),(4,iI x.2.2)]) (fun x w=>J x.1 w/\∀ y∈sQ p o b1 b2 n aA,w.cell? y.1=some y.2) ([],xs,n) ⟨rfl,me⟩ (Sub.cons rfl (Sub.cons rfl (Sub.cons rfl (Sub.nil _)))) fun _ hw=>hw;rintro⟨pre,rest,q⟩ ⟨hx,hq⟩;apply XC.seq;apply XC.seq;apply XC.region;apply XO.v (V.move rfl) rfl;apply XO.v (Vt rfl rfl rfl) rfl;apply XO.nil;apply XE.next;refine XC.Qi rfl (fun UD=> ?_) fun UD=> ?_
 ·have NP:q>=0:=UD;match rest,hq with
  | [],hq=>exact absurd hq (by show ¬q<0;omega)
  | x::rest,hq=>
   obtain⟨e1,e2,e3,e4⟩:=hq;have e1':x.1=q:=e1;subst e1';apply XC.skip;apply XE.next;apply XC.fq [(0,_),(2,_),(4,_)] (Sub.cons rfl (Sub.cons rfl (Sub.cons rfl (Sub.nil _))));apply XC.seq;apply XC.block;apply XC.seq;apply N0;apply XI.v (V.move rfl) rfl;apply XI.v (V.move rfl) rfl;refine XI.yield (R:=fun e w'=>(e= .returned (.bool true)/\J (pre++[x]) w'/\∀ y∈sQ p o b1 b2 n aA,w'.cell? y.1=some y.2)\/(e= .returned (.bool false)/\Jx (pre++[x]) w')) rfl rfl (fun w hw=>YieldAt.weak (hY pre x w hw.1 (by rw[<-hx];simp)) fun e w' h=> ?_) rfl fun e w' h=> ?_
   ·rcases h with⟨h1,h2,h3⟩ | h
    ·exact .inl ⟨h1,h2,fun y hy=>h3 y hy (hw.2 y hy)⟩
    ·exact .inr h
   ·rcases h with⟨rfl,h2⟩ | ⟨rfl,h2⟩
    ·refine⟨true,rfl,?_⟩;apply XI.v (V.not rfl) rfl;apply XI.nil;apply XE.next;apply DQ rfl rfl;apply XC.skip;apply ib;apply XE.next;apply XC.fq [(0,_),(2,_),(4,_)] (Sub.cons rfl (Sub.cons rfl (Sub.cons rfl (Sub.nil _))));refine XC.mono (M':=fun w'=>J (pre++[x]) w'/\∀ y∈sQ p o b1 b2 n aA,w'.cell? y.1=some y.2) (fun w' er=>by
      rcases er with⟨_,h⟩ | ⟨h,_⟩
      ·exact h
      ·simp at h) ?_
     apply XC.region;apply XO.l (yv (b:=b2) (o:=0) (v:=ay p o 0) rfl (fun w hw=>hw.2 (⟨b2,0,none⟩,ay p o 0) (by simp[sQ])) kq) rfl;apply XO.v (V.move rfl) rfl;apply XO.v (aX rfl) rfl;apply XO.v (V.fieldAddr rfl qu) rfl;apply XO.v (jR rfl rfl FO ⟨e2,e3⟩) rfl;apply XO.v (V.fieldAddr rfl ab9) rfl;apply XO.l (yv rfl (fun w hw=>UC hw.2 ⟨e2,e3⟩) kq) rfl;apply XO.v (V.assign rfl) rfl;apply XO.nil;refine XE.again (pre++[x],rest,aA x.1) sq ⟨by rw[<-hx];simp,e4⟩ (Sub.cons rfl (Sub.cons rfl (Sub.cons rfl (Sub.nil _)))) fun _ hw=>hw
    ·refine⟨false,rfl,?_⟩;apply XI.v (V.not rfl) rfl;apply XI.nil;apply XE.next;apply DP rfl rfl;apply XC.ret;apply mn;apply sX;apply sX;apply mn;refine Qj rfl fun w' er=>⟨⟨_,rfl⟩,.inr ⟨pre++[x],?_,?_⟩⟩
     ·exact⟨rest,by rw[<-hx];simp⟩
     ·rcases er with⟨h,_⟩ | ⟨_,h⟩
      ·simp at h
      ·exact h
 ·apply XC.exit;apply qG;apply qG;apply zl;refine dy rfl fun w' er=>⟨⟨_,rfl⟩,.inl ⟨pre,?_,er.1⟩⟩;match rest,hq with
  | [],_=>rw[<-hx];simp
  | x::rest,hq=>
   have NP:¬q>=0:=UD;exact absurd hq.2.1 NP
end Go.X.Gr

namespace Go.X.Gr
open Go Go.Proofs Go.X
def o4:fE Tryz.prog 3=some 1:=kq
def Ke(p o:Nat)(s:TG)(n:Int):Fn 113 [ay p o 0,iI n] [dl p o s] (fun v H1=>((s.cQ n=0/\0<=n/\n<10/\s.aa n=true)/\v= .nilIface/\H1=[dl p o s])\/(s.cQ n≠0/\v= .iface 102 (iI (s.cQ n))/\H1=[dl p o s])):=by
 refine Spec.g 20 [0,1,4,10,18] func113 fun W=> ?_;apply UV 7<;>intro h1;rotate_left
 apply (cd)<;>intro h2;rotate_left
 ·refine sd (ld .aa (Df _ _ og) ?_);apply (yx)<;>intro h3
  ·try simp only[sb]at h3
   refine bL .h1 ?_;try dsimp only[aR,aQ,bH,bQ]
   have e:s.cQ n=2:=by unfold TG.cQ;rw[if_neg og,if_neg jw]
   simp_all
  ·try simp only[sb]at h3
   refine bL .h1 ?_;try dsimp only[aR,aQ,bH,bQ]
   have e:s.cQ n=0:=by unfold TG.cQ;rw[if_neg og,if_pos jw]
   simp_all
 all_goals
  refine bL .h1 ?_;try dsimp only[aR,aQ,bH,bQ]
  have e:s.cQ n=1:=by unfold TG.cQ;rw[if_pos og]
  simp_all
def FR(q m:Int):Fn 114 [iI q,iI m] [] (fun v H1=>((0<=q/\q<=20/\0<=m/\m<=64)/\v= .nilIface/\H1=[])\/(TG.ZZ q m=1/\v= .iface 102 (iI 1)/\H1=[])):=by
 refine Spec.g 20 [0,1,4,18] func114 fun W=> ?_;apply UV 7<;>intro h1;rotate_left
 apply UV 11<;>intro h2;rotate_left
 apply UV 15<;>intro h3;rotate_left
 apply (cd)<;>intro h4;rotate_left
 ·refine bL .nil ?_;grind [aR,aQ,bQ]
 all_goals
  refine bL .nil ?_;first
  | exact .inr ⟨by unfold TG.ZZ;rw[if_pos og],rfl,rfl⟩
  | exact .inl ⟨og,rfl,rfl⟩
def YJ(g:GV)(q m:Int)(h0: -9223372036854775808<=g.pr+q/\g.pr+q<=9223372036854775807)(h1: -9223372036854775808<=g.pg+m/\g.pg+m<=9223372036854775807):Fn 116 [.agg g.c9,iI q,iI m] [] (ap (.bool (g.room q m)) []):=by
 refine Spec.g 41 [1,2,3,6] func116 fun W=> ?_;refine XO.box (m:=5) (C:=oU g) rfl rfl (qe g) rfl ?_;intro bg;apply gO;apply UV 9<;>intro h1
 apply UV 26<;>intro h2;rotate_left
 apply ld .aa (hQ _);apply UV 31<;>intro h3;rotate_left;rotate_left
 apply ld .aa (sr _);apply UV 14<;>intro h4
 apply UV 26<;>intro h5;rotate_left
 apply ld .aa (hQ _);apply UV 31<;>intro h6;rotate_left;rotate_left
 apply ld .aa (jh _);apply (sd);apply ld .aa (sr _);apply UV 23<;>intro h7
 apply UV 26<;>intro h8;rotate_left
 apply ld .aa (hQ _);apply UV 31<;>intro h9;rotate_left;rotate_left;rotate_left;all_goals first | (refine bL .nil ?_;grind [aR,aQ,bQ,GV.room]) | (apply ld .aa (ji _);apply (sd);apply ld .aa (hQ _);refine bL .nil ?_;grind [aR,aQ,GV.room])
def FT(p o:Nat)(n:Int):Fn 115 [ay p o 0,iI n] [] (fun v H1=>∃ b1 b2,v= .func (.func 184) #[] #[ay b1 0 0,ay b2 0 0]/\H1=[ce b1 (iI n),ce b2 (ay p o 0)]):=by
 refine Spec.g 6 [2,3,4] func115 fun W=> ?_;apply XO.box (m:=1) (C:=aD (ay p o 0)) rfl rfl (fun _ _=>rfl) rfl;intro b2;apply gO;apply XO.box (m:=1) (C:=aD (iI n)) rfl rfl (fun _ _=>rfl) rfl;intro b1;apply gO;apply XO.v (qI rfl rfl) rfl;apply gO;refine bL (pz 2) ?_;grind [aR,aQ]
def af6(p o:Nat)(s:TG)(hO:s.Ok)(n:Int)(hn:0<=n/\n<10/\s.aa n=true):Fn 203 [ay p o 0,iI n] [dl p o s] (ap (iI ((s.cU n).length:Int)) [dl p o s]):=by
 have me:=hO.cU hn.1 hn.2.1 hn.2.2;obtain⟨xs,NG⟩:=so _ me.1.range;have RE:xs.length<=4:=by
  grind [nu]
 refine vd 13 [0,1,4,5,8] [] func203 rfl rfl rfl ?_;intro W;refine XO.bP (z:=iI 0) (m:=1) (C:=aD (iI 0)) (fun _ _=>rfl) ?_;intro bk;apply gO;refine st .aa (aD.st _ _) rfl ?_;refine ca (FT _ _ _) .nil ?_;rintro _ _ ⟨b1,b2,rfl,rfl⟩;apply gO;refine SA (xs:=xs) (fun x:Tj=>iI x.1) (fun pre=>pre.length<=xs.length) (fun _=>False) (fun pre=>[ce b1 (iI n),ce b2 (ay p o 0),dl p o s,ce bk (iI (pre.length:Int))]) (fun pre=>[ce b1 (iI n),ce b2 (ay p o 0),dl p o s,ce bk (iI (pre.length:Int))]) rfl (oA kq) rfl (fun w hw=>wo p o b1 b2 n s.aA xs (by rw[NG];exact me.1) w (lQ (by rfl) hw.fB .aa (.ao .aa) (.t3 .aa))) ?_ (xq (pk [0,0,1,0])) (fun _=>rfl) (fun _=>rfl) ?_ ?_ ?_
 ·simp_all
 ·intro pre x w hV hlen hx;refine XB.block ?_;refine XB.region ?_;refine XO.l (V.load rfl (fp (.t3 .aa)) (aD.ld _) kq) rfl ?_;refine XO.v (V.add rfl rfl _ (IntWalk.i64_in _ og)) rfl ?_;refine XO.store rfl rfl (.t3 .aa) (aD.st _ _) rfl o4 ?_;refine XO.nil ?_;refine ib ?_;refine zp hx ?_ rfl (fun w2 hg=>lQ (by rfl) hg .aa (.ao .aa) (.t2 .aa)) fun w2 mK=> ?_;all_goals grind
 ·intro hV D hD;refine gE ?_;refine ld (.t4 .aa) (aD.ld _) ?_;refine oz (.inr rfl) .aa rfl hD ?_;refine bL (pk [2]) ?_;grind [aR,aQ,nu]
 ·intro pre hp hV D hD;exact hV.elim
end Go.X.Gr
