import Derived.Test.YthdinakloheinaaGreatDoorkVT
import Derived.Test.YthdinakloheinaaGreatDoorProg
set_option linter.all false
namespace Go.X.Kn
open Go Go.X Go.X.Vm
variable{T e n:Int}{c c1:KC}{fl:Nat->Int->Int}{x:iU}
def OW(fl:Nat->Int->Int)(b:KA):Prop:=∃ Xk,TV b.v b.f 20 Xk/\∀ z:Int,0<=z->z<20->(b.u z).st=1->Xk z.toNat=fl z.toNat
theorem OW.same{a a':KA}(h:OW fl a)(hv:a'.v=a.v)(hf:a'.f=a.f)(hu:∀ p,(a'.u p).st=1->(a.u p).st=1):OW fl a':=by
 obtain⟨Xk,t,e⟩:=h;exact⟨Xk,by rw[hv,hf];exact t,fun z z0 z1 q=>e z z0 z1 (hu z q)⟩
def vC(fl:Nat->Int->Int):da (OW fl) where
 rest:=fun h hu=>h.same rfl rfl fun p q=>by rw[<-(hu p).1];exact q
 end_:=fun {a T n} co w hn hl h=>by
  obtain⟨Xk,t,e⟩:=h
  refine⟨_,t.cS (z:=n.toNat) og (a:=0) (n:=16) (by unfold fT;omega),fun z z0 z1 q=> ?_⟩
  have c:z≠n:=by rintro rfl;rw[ml]at q;exact absurd q dq
  rw[ov _ _ c]at q
  rw[Vm.b7 _ _ og];exact e z z0 z1 q
 Ap:=fun {a T n} w hn hs h=>h.same rfl rfl (fun p q=>by
  by_cases c:p=n
  ·rw[c,show(a.eY n).u n=PA.nil from aj _ _ _]at q;exact absurd (show(0:Int)=1 from q) dq
  ·rw[mj _ c]at q;exact q)
 spc:=fun s h=>h.same rfl rfl fun _ q=>q
def RE{v:VB}{f:Nat->Vm.MS}{k z c:Nat}(h:TV v f k fl)(hz:z<k)(hc:c<k)(fN:c≠z)(hn:f c=Vm.MS.nil)(hk:k<=60):TV (v.im (f z)) (aJ (aJ f z (f z).bare) c (f z).bare) k (aJ fl c (fl z)):=by
 refine⟨DU h.sys hz hc fN hn hk,h.ED,fun j hj i hi=> ?_,fun j hj x a b=> ?_⟩
 ·by_cases e:j=c
  ·subst e;rw[bW]at hi;cases hi
  ·rw[b7 _ _ e]at hi ⊢;by_cases d:j=z
   ·subst d;rw[bW]at hi;cases hi
   ·rw[b7 _ _ d]at hi ⊢;have h1:=h.aX j hj i hi;obtain⟨hg,h2,_⟩:=h.sys.has hj ((h.sys.mo j hj).Nk hi);have h3:=O7 f hg.1 hj hz d;have h4:=Bi (f z).fr ((f j).fr i-1) 16;have e1:(Vm.aJ f z (f z).bare) c=Vm.MS.nil:=by rw[Vm.b7 _ _ fN];exact hn
    have e2:=Nj ((f j).fr i-1) hg.1 16;show mT (Vm.aJ (Vm.aJ f z (f z).bare) c (f z).bare) ((f j).fr i-1) k=1;rw[jN _ _ hc,jN f _ hz,e1];show mT f ((f j).fr i-1) k-cM (f z).fr ((f j).fr i-1) 16+cM (f z).fr ((f j).fr i-1) 16-_+cM (f z).fr ((f j).fr i-1) 16=1;rw[e2];omega
 ·by_cases e:j=c
  ·subst e;rw[bW,bW];exact h.fl z hz x a b
  ·rw[b7 _ _ e,b7 _ _ e];by_cases d:j=z
   ·subst d;rw[bW];exact h.fl j hz x a b
   ·rw[b7 _ _ d];exact h.fl j hj x a b
theorem OW.im{a:KA}(h:OW fl a)(ok:a.Zf T){aX:Bool}(e:a.gX n aX=0):OW (aJ fl a.free.toNat (fl n.toNat)) (a.ej n aX):=by
 obtain⟨Xk,t,q⟩:=h;have e1:a.aA n=0/\a.free≠20/\a.gE n=0/\a.Zd n aX=0:=by
  unfold KA.gX at e;split at e
  ·omega
  ·split at e
   ·omega
   ·split at e
    ·omega
    ·exact⟨og,aq,og,e⟩
 obtain⟨hl,hf,hg,hi⟩:=e1;have ef:a.ej n aX=a.c9 n aX:=by unfold KA.ej;rw[if_neg og,if_neg og]
 rw[ef];obtain⟨hn,hs⟩:=aR hl;have hr:=a.free_spec.resolve_left hf;have fN:n≠a.free:=by rintro e;rw[<-e]at hr;omega
 have Qb:a.f a.free.toNat=Vm.MS.nil:=ok.wk.sx _ hr.1.1 hr.1.2 og;refine⟨_,RE t (z:=n.toNat) (c:=a.free.toNat) og og og Qb og,fun z z0 z1 w=> ?_⟩;by_cases c:z=a.free
 ·rw[c,bW,bW];exact q n hn.1 hn.2 hs
 ·rw[b7 _ _ og,b7 _ _ og];rw[show(a.c9 n aX).u z=a.u z from ae _ _ c]at w;exact q z z0 z1 w
def OW.ac0{a:KA}(h:OW fl a){aX:Bool}(e:a.gX n aX≠0):OW fl (a.ej n aX):=by
 unfold KA.ej;split
 ·exact h
 ·rename_i c;split
  ·exact h.same rfl rfl fun _ q=>q
  ·rename_i d;exfalso;apply e;unfold KA.gX;rw[if_neg og,if_neg og,if_neg og];omega
def KA.KY{a:KA}(g:a.GI)(ok:a.Zf T){x m:Int}(e:a.jx n x m=0):a.aA n=0/\(a.rA n x m).2.1=0/\¬fT x m:=by
 rw[(g.cS ok n x m).2]at e;split at e
 ·omega
 ·refine⟨og,e,fun b=> ?_⟩;unfold KA.rA at e;rw[Vm.MS.vt b]at e;exact absurd (show(1:Int)=0 from e) dq
theorem OW.cS{fl:Nat->Int->Int}{a:KA}{T:Int}(h:OW fl a)(g:a.GI)(ok:a.Zf T){n x m:Int}(e:a.jx n x m=0):OW (aJ fl n.toNat (df (fl n.toNat) (8*x) (8*m) 0)) (a.dC n x m):=by
 obtain⟨Xk,t,q⟩:=h;obtain⟨hl,e1,hb⟩:=KA.KY g ok e;obtain⟨hn,hs⟩:=aR hl;have ef:a.dC n x m= {a with v:=(a.rA n x m).2.2.1,f:=aJ a.f n.toNat (a.rA n x m).2.2.2,g:=a.g.dz (a.u n).cL 0 (a.rA n x m).1} :=by
  unfold KA.dC;rw[if_neg og,if_neg og]
 rw[ef];refine⟨_,t.cS (z:=n.toNat) og hb,fun z z0 z1 w=> ?_⟩;have w:(a.u z).st=1:=w;by_cases c:z=n
 ·subst c;rw[Vm.bW,bW,q z z0 z1 w]
 ·rw[Vm.b7 _ _ og,b7 _ _ og];exact q z z0 z1 w
def OW.Zi{a:KA}(h:OW fl a)(g:a.GI)(ok:a.Zf T){x m:Int}(e:a.jx n x m≠0):OW fl (a.dC n x m):=by
 by_cases c:a.aA n≠0
 ·unfold KA.dC;rw[if_pos c];exact h
 ·rw[(g.cS ok n x m).2,if_neg c]at e;have em:a.rA n x m=(0,1,a.v,a.f n.toNat):=by
   unfold KA.rA Vm.MS.cS at e ⊢;split at e
   ·rename_i q;rw[if_pos q]
   ·exact absurd rfl e
  unfold KA.dC;rw[if_neg c,em];exact h.same rfl (fJ _ _) fun _ q=>q
def O8{a b:KA}(hn:0<=n/\n<20){v:VB}{m:Vm.MS}{fl1:Nat->Int->Int}(hu:b.u=a.u)(hv:b.v=v)(hf:b.f=aJ a.f n.toNat m)(t:TV v (Vm.aJ a.f n.toNat m) 20 fl1)(q:∀ z:Int,0<=z->z<20->(a.u z).st=1->fl1 z.toNat=fl z.toNat):OW fl b:=
 ⟨fl1,by rw[hv,hf];exact t,fun z z0 z1 w=>q z z0 z1 (by rw[<-hu];exact w)⟩
def OW.ld{b:KA}(h:OW fl b)(c:b.aA n=0)(x:Int):OW fl (b.lP n x)/\((b.zp n x).2.1=0->(0<=x/\x<128)/\(b.zp n x).1=fl n.toNat x):=by
 obtain⟨Xk,t,q⟩:=h;obtain⟨hn,hs⟩:=aR c;refine⟨O8 (a:=b) hn rfl rfl rfl (t.load (z:=n.toNat) og x) q,fun e=> ?_⟩;obtain⟨h1,h2⟩:=t.VU (z:=n.toNat) og e;rw[q n hn.1 hn.2 hs]at h2;exact⟨h1,h2⟩
def OW.sf{b:KA}{S:Int}(h:OW fl b)(ok:b.Ok S)(c:b.aA n=0)(x:Int){y:Int}(hy:0<=y/\y<256):((b.sfR n x y).1=0->(0<=x/\x<128)/\OW (aJ fl n.toNat (ad (fl n.toNat) x y)) (b.sfA n x y))/\((b.sfR n x y).1≠0->OW fl (b.sfA n x y)):=by
 obtain⟨Xk,t,q⟩:=h;obtain⟨hn,hs⟩:=aR c;refine⟨fun e=>⟨Vm.MS.RD (ok.wk.sys.mo n.toNat og) e,O8 (a:=b) hn rfl rfl rfl (t.store (z:=n.toNat) og hy e) fun z z0 z1 w=> ?_⟩,fun e=>O8 (a:=b) hn rfl rfl rfl (t.VV (z:=n.toNat) og e) q⟩;by_cases d:z=n
 ·subst d;rw[Vm.bW,bW,q z z0 z1 w]
 ·rw[Vm.b7 _ _ og,b7 _ _ og];exact q z z0 z1 w
theorem zj{a:KA}(h:¬ 0<=n):a.aA n=1:=if_pos (.inl og)
theorem OW.load{a:KA}(h:OW fl a)(ok:a.Ok T)(hT:T<=900000)(n x:Int):OW fl (a.eM n x).2.1/\((a.eM n x).1=0->(0<=n/\n<20)/\(0<=x/\x<128)/\(a.eM n x).2.2=fl n.toNat x):=by
 by_cases c:0<=n
 ·rcases Av (w:=false) (y0:=0) ok hT (VS (x:=x) c) (vC fl) h with⟨e,q1,q2,q3⟩ | ⟨q1,q2,q3⟩ | ⟨b,hb,tq,hk,q1,q2,q3,q4,q5⟩
  ·exact⟨q3,fun z=>absurd (q1.symm.trans z) q2⟩
  ·unfold KA.eM;rw[q3];obtain⟨k1,k2⟩:=h.ld q1 x;exact⟨k1,fun e=>⟨(aR q1).1,k2 e⟩⟩
  ·have e5:a.eM n x=_:=q5;rw[e5];generalize hd:({b with v:=b.v,f:=b.f,g:=b.g.bE (b.u n).cL 0 1} :KA)=d at*;have Xb:OW fl d:=by rw[<-hd];exact hb.same rfl rfl fun _ q=>q
   have q1':d.aA n=0:=by rw[<-hd];exact q1
   obtain⟨k1,k2⟩:=Xb.ld q1' x;refine⟨?_,fun e=>⟨(aR q1').1,k2 e⟩⟩;show OW fl (if(Rv n x).e d≠0 then((Rv n x).A d).Xj n else(Rv n x).A d);split
   ·exact k1.same rfl rfl fun _ q=>q
   ·exact k1
 ·unfold KA.eM KA.iP;rw[if_pos (by rw[zj c];decide)];exact⟨h,fun e=>by rw[show(a.aA n,a,(0:Int)).1=a.aA n from rfl,zj c]at e;exact absurd e dq⟩
theorem OW.store{a:KA}(h:OW fl a)(ok:a.Ok T)(hT:T<=900000)(n x:Int){y:Int}(hy:0<=y/\y<256):((a.dW n x y).1=0->(0<=n/\n<20)/\(0<=x/\x<128)/\OW (aJ fl n.toNat (ad (fl n.toNat) x y)) (a.dW n x y).2.1)/\((a.dW n x y).1≠0->OW fl (a.dW n x y).2.1):=by
 by_cases c:0<=n
 ·rcases Av (w:=true) (y0:=y) ok hT (VT (x:=x) (y:=y) c) (vC fl) h with⟨e,q1,q2,q3⟩ | ⟨q1,q2,q3⟩ | ⟨b,hb,tq,hk,q1,q2,q3,q4,q5⟩
  ·exact⟨fun z=>absurd (q1.symm.trans z) q2,fun _=>q3⟩
  ·unfold KA.dW;rw[q3];obtain⟨k1,k2⟩:=h.sf ok q1 x hy;exact⟨fun e=>⟨(aR q1).1,k1 e⟩,k2⟩
  ·have e5:a.dW n x y=_:=q5;rw[e5];generalize hd:({b with v:=b.v,f:=b.f,g:=b.g.bE (b.u n).cL 0 1} :KA)=d at*;have Xb:OW fl d:=by rw[<-hd];exact hb.same rfl rfl fun _ q=>q
   have q1':d.aA n=0:=by rw[<-hd];exact q1
   obtain⟨k1,k2⟩:=Xb.sf q4 q1' x hy;refine⟨fun e=> ?_,fun e=> ?_⟩
   ·have e:(LC n x y).e d=0:=e;show _/\_/\OW _ (if(LC n x y).e d≠0 then((LC n x y).A d).Xj n else(LC n x y).A d);rw[if_neg fun q=>q e];exact⟨(aR q1').1,k1 e⟩
   ·have e:(LC n x y).e d≠0:=e;show OW _ (if(LC n x y).e d≠0 then((LC n x y).A d).Xj n else(LC n x y).A d);rw[if_pos e];exact(k2 e).same rfl rfl fun _ q=>q
 ·unfold KA.dW KA.iP;rw[if_pos (by rw[zj c];decide)];exact⟨fun e=>by rw[show(a.aA n,a,y).1=a.aA n from rfl,zj c]at e;exact absurd e dq,fun _=>h⟩
theorem OW.mem{a:KA}(h:OW fl a)(c:a.aA n=0){m:Vm.MS}(hm:m.Ok)(e:m.fr=(a.f n.toNat).fr)(o:m.aX=(a.f n.toNat).aX):OW fl {a with v:=a.v,f:=aJ a.f n.toNat m,g:=a.g} :=by
 obtain⟨Xk,t,q⟩:=h;obtain⟨hn,hs⟩:=aR c;exact O8 (a:=a) hn rfl rfl rfl (t.same (z:=n.toNat) og hm e o) q
def OW.acY{a a1:KA}{F:Tr.FF}(h:OW fl a)(ok:a.Ok T)(hT:T<=800000)(s:a.qn F x a1):OW fl a1:=by
 have S:=vC fl;have q:∀ {b:KA} {P:Prop} [Decidable P],OW fl b->OW fl (if P then a else b):=fun hb=>by
  split
  ·exact h
  ·exact hb
 have io:∀ {u:Int->PA} (O:Tr.OS) (P:Tr.PS),(∀ p,(u p).st=(a.u p).st)->OW fl {a with u:=u,O:=O,P:=P} :=fun O P hu=>h.same rfl rfl fun p q=>by rw[<-hu p];exact q
 cases s with
 | same=>exact h
 | dU=>exact S.dU ok.wk _ h
 | sD=>exact S.sD ok.wk _ _ _ h
 | dZ=>exact S.dZ ok.wk _ _ _ h
 | jm=>exact S.jm ok.wk _ _ _ h
 | take=>exact S.take _ h
 | map=>
  unfold KA.DZ;split
  ·exact h
  ·rename_i c;have c:a.aA x.a=0:=og;exact h.mem c ((ok.wk.sys.mo _ (by have:=(aR c).1;omega)).map _ _ _) (Vm.MS.Hp _ _ _ _).1 (Vm.MS.Hp _ _ _ _).2
 | mz=>
  unfold KA.uL;split
  ·exact h
  ·rename_i c;have c:a.aA x.a=0:=og;exact h.mem c ((ok.wk.sys.mo _ (by have:=(aR c).1;omega)).mz _ _ _) (Vm.MS.B0 _ _ _ _).1 (Vm.MS.B0 _ _ _ _).2
 | drop=>exact h.same rfl rfl fun _ q=>q
 | O3 o=>
  rcases o with rfl | ⟨_,_,_,_,_,rfl⟩
  ·exact h
  ·exact io _ a.P fun p=>(np _ _ _ _ p).1
 | close=>exact q (io _ _ fun p=>(np _ _ _ _ p).1)
 | dup=>exact q (io _ a.P fun p=>(np _ _ _ _ p).1)
 | Kq=>
  refine q ?_;split
  ·exact io _ _ fun p=>((np _ _ _ _ p).1).trans (np _ _ _ _ p).1
  ·exact h.same rfl rfl fun _ q=>q
 | mU=>exact q (h.same rfl rfl fun _ q=>q)
 | cb=>
  have h1:OW fl (a.uK F x.a x.b x.s):=h.same rfl rfl fun _ q=>q;refine q ?_;split
  ·exact S.send (ok.Gn og F _ _ _).wk _ _ _ h1
  ·exact h1
 | Kr=>exact q (h.same rfl rfl fun _ q=>q)
def OW.mJ{fl:Nat->Int->Int}{a:KA}(h:OW fl a)(n z:Int):OW fl (a.mJ n z):=by
 unfold KA.mJ;split
 ·exact h
 ·exact h.same rfl rfl fun p q=>by rw[<-(uM a.u n z p).1];exact q
def OW.step{a a1:KA}(h:OW fl a)(g:a.GI)(ok:a.Ok T)(hT:T<=800000)(s:a.pI c c1 x a1 n e)(hk:e≠0\/(x.aN≠wA/\x.aN≠E5/\x.aN≠qm)):OW fl a1:=by
 cases s with
 | im k=>
  rcases hk with q | q
  ·exact h.ac0 q
  ·exact absurd k q.1
 | exit _=>exact(vC fl).mH ok.wk _ _ h
 | cS k=>
  rcases hk with q | q
  ·exact h.Zi g ok.o0 q
  ·exact absurd k q.2.1
 | load _=>exact(h.load ok og _ _).1
 | store k=>
  rcases hk with q | q
  ·exact(h.store ok og _ _ (B4 _)).2 q
  ·exact absurd k q.2.2
 | kM _ _ _=>exact h
 | SD _=>exact h.same rfl rfl fun _ q=>q
 | wL _ _ _=>exact h.mJ _ _
 | add _ _ _=>
  unfold KA.nH;split
  ·exact h
  ·exact h.same rfl rfl fun _ q=>q
 | pA _ r _ _=>exact h.acY ok hT r
def RF{a a1:KA}(s:a.pI c c1 x a1 n e)(hk:x.aN=wA):a1=a.ej x.a x.on/\n=a.kK x.a x.on/\e=a.gX x.a x.on:=by
 cases s with
 | im _=>exact⟨rfl,rfl,rfl⟩
 | pA o=>exact absurd (by rw[hk];exact .head _) o
 | exit k=>rw[hk]at k;exact absurd k dq
 | cS k=>rw[hk]at k;exact absurd k dq
 | load k=>rw[hk]at k;exact absurd k dq
 | store k=>rw[hk]at k;exact absurd k dq
 | kM k _ _=>rw[hk]at k;exact absurd k dq
 | SD k=>rw[hk]at k;exact absurd k dq
 | wL k _ _=>rw[hk]at k;exact absurd k dq
 | add k _ _=>rw[hk]at k;exact absurd k dq
def Nl{a a1:KA}(s:a.pI c c1 x a1 n e)(hk:x.aN=E5):a1=a.dC x.a x.b x.c/\e=a.jx x.a x.b x.c:=by
 cases s with
 | cS _=>exact⟨rfl,rfl⟩
 | pA o=>exact absurd (by rw[hk];exact .tail _ (.tail _ (.head _))) o
 | exit k=>rw[hk]at k;exact absurd k dq
 | im k=>rw[hk]at k;exact absurd k dq
 | load k=>rw[hk]at k;exact absurd k dq
 | store k=>rw[hk]at k;exact absurd k dq
 | kM k _ _=>rw[hk]at k;exact absurd k dq
 | SD k=>rw[hk]at k;exact absurd k dq
 | wL k _ _=>rw[hk]at k;exact absurd k dq
 | add k _ _=>rw[hk]at k;exact absurd k dq
def RH{a a1:KA}(s:a.pI c c1 x a1 n e)(hk:x.aN=Bt):a1=(a.eM x.a x.b).2.1/\n=(a.eM x.a x.b).2.2/\e=(a.eM x.a x.b).1:=by
 cases s with
 | load _=>exact⟨rfl,rfl,rfl⟩
 | pA o=>exact absurd (by rw[hk];exact .tail _ (.tail _ (.tail _ (.head _)))) o
 | exit k=>rw[hk]at k;exact absurd k dq
 | im k=>rw[hk]at k;exact absurd k dq
 | cS k=>rw[hk]at k;exact absurd k dq
 | store k=>rw[hk]at k;exact absurd k dq
 | kM k _ _=>rw[hk]at k;exact absurd k dq
 | SD k=>rw[hk]at k;exact absurd k dq
 | wL k _ _=>rw[hk]at k;exact absurd k dq
 | add k _ _=>rw[hk]at k;exact absurd k dq
def Nn{a a1:KA}(s:a.pI c c1 x a1 n e)(hk:x.aN=qm):a1=(a.dW x.a x.b (IntKind.u8.wrap x.c)).2.1/\e=(a.dW x.a x.b (IntKind.u8.wrap x.c)).1:=by
 cases s with
 | store _=>exact⟨rfl,rfl⟩
 | pA o=>exact absurd (by rw[hk];exact .tail _ (.tail _ (.tail _ (.tail _ (.head _))))) o
 | exit k=>rw[hk]at k;exact absurd k dq
 | im k=>rw[hk]at k;exact absurd k dq
 | cS k=>rw[hk]at k;exact absurd k dq
 | load k=>rw[hk]at k;exact absurd k dq
 | kM k _ _=>rw[hk]at k;exact absurd k dq
 | SD k=>rw[hk]at k;exact absurd k dq
 | wL k _ _=>rw[hk]at k;exact absurd k dq
 | add k _ _=>rw[hk]at k;exact absurd k dq
end Go.X.Kn

namespace Go.X
open Go Go.Proofs Go.X
instance:Tb Tryz.prog:=⟨⟨(.nd 10432 [0,1] (.nd 5696 [0,1,2,3,4,5,11] (.nd 2432 [0,1] (.nd 1152 [0] (.nd 832 [0,1] (.nd 512 [0,1,2,3] (.nd 448 [0,1,2,3] .lf .lf) .lf) (.nd 896 [0,1] .lf .lf)) (.nd 1920 [0,1,2,3,4,5,6,7] (.nd 1216 [0] .lf .lf) (.nd 1984 [0,1,2,3,4,5,6,7] .lf .lf))) (.nd 4224 [0,1,2,3,4] (.nd 3712 [0,1,2,3] (.nd 3648 [0,1,2,3] (.nd 2496 [0,1] .lf .lf) .lf) (.nd 4160 [0,1,2,3,4] .lf .lf)) (.nd 5568 [0,1,2] (.nd 5504 [0,1,2] .lf .lf) (.nd 5632 [0,1,2,3,4,5,11] .lf .lf)))) (.nd 9216 [0,1,2] (.nd 8512 [0] (.nd 8320 [0,1,2] (.nd 6464 [0,440,441,442,443,444,445,446,447] (.nd 6400 [0,440,441,442,443,444,445,446,447] .lf .lf) .lf) (.nd 8384 [0,1,2] .lf .lf)) (.nd 9024 [0,1] (.nd 8576 [0] .lf .lf) (.nd 9088 [0,1] .lf .lf))) (.nd 9920 [0,1,2] (.nd 9664 [0,50] (.nd 9600 [0,50] (.nd 9280 [0,1,2] .lf .lf) .lf) (.nd 9856 [0,1,2] .lf .lf)) (.nd 10176 [0,138] (.nd 10112 [0,138] .lf .lf) (.nd 10368 [0,1] .lf .lf))))) (.nd 12544 [0,1,2] (.nd 11584 [0,1,2,3,4] (.nd 10880 [0,1,2] (.nd 10688 [0,2] (.nd 10624 [0,1,3] (.nd 10560 [0,1,3] .lf .lf) .lf) (.nd 10752 [0,2] .lf .lf)) (.nd 11264 [0,1,513] (.nd 10944 [0,1,2] .lf .lf) (.nd 11328 [0,1,513] .lf .lf))) (.nd 11968 [0,1,2,3,4,5,6,71,72,73,74,75] (.nd 11840 [0,1] (.nd 11776 [0,1] (.nd 11648 [0,1,2,3,4] .lf .lf) .lf) (.nd 11904 [0,1,2,3,4,5,6,71,72,73,74,75] .lf .lf)) (.nd 12160 [0,2280] (.nd 12096 [0,2280] .lf .lf) (.nd 12480 [0,1,2] .lf .lf)))) (.nd 16192 [0,1] (.nd 13952 [0,320] (.nd 13760 [0,1,2,3,4,5,6,7] (.nd 13504 [0,1,2,3] (.nd 13440 [0,1,2,3] .lf .lf) .lf) (.nd 13824 [0,1,2,3,4,5,6,7] .lf .lf)) (.nd 15808 [0,7] (.nd 14016 [0,320] .lf .lf) (.nd 15872 [0,7] .lf .lf))) (.nd 20352 [0,1,2,3] (.nd 19968 [0,1] (.nd 16256 [0,1] .lf .lf) (.nd 20032 [0,1] .lf .lf)) (.nd 21056 [0,1,2,3,4,5,6,7,8,9,10] (.nd 20416 [0,1,2,3] .lf .lf) (.nd 21120 [0,1,2,3,4,5,6,7,8,9,10] .lf .lf)))))),(.nd 207 [4] (.nd 124 [7] (.nd 57 [7,7] (.nd 38 [7,7] (.nd 27 [7,7,6,7,7,1,1] (.nd 2 [6,6,5,6,6,7,7,3,3,3,6,7,7,2,2,2,7,7,1,6,4,2] .lf .lf) .lf) (.nd 53 [7,7,4] .lf .lf)) (.nd 82 [2,7,6,7,7,7,7,7,7,2,2,2,2,2,2,2,2,7,7,7,6] (.nd 79 [2] (.nd 64 [7,7,7,7] .lf .lf) .lf) (.nd 106 [2] .lf .lf))) (.nd 162 [7,7,4,7,7,7,7] (.nd 149 [7,7,7] (.nd 140 [4,7,7,7,7,7] (.nd 130 [7,7,7,7,7] .lf .lf) .lf) (.nd 154 [7,7,7,7,7,7] .lf .lf)) (.nd 181 [7,7,4,7,7,7,7,7,7,7,2] (.nd 170 [7,7,2,7,7,7,7,7,2] .lf .lf) (.nd 194 [7,7,7] .lf .lf)))) (.nd 266 [2] (.nd 246 [7,7,7] (.nd 228 [2] (.nd 215 [7,7,7,7,7] (.nd 210 [7,7] .lf .lf) .lf) (.nd 231 [4,2] .lf .lf)) (.nd 256 [7,6,6] (.nd 252 [2,7,7] .lf .lf) (.nd 262 [2] .lf .lf))) (.nd 302 [2] (.nd 294 [6] (.nd 282 [6] (.nd 269 [4] .lf .lf) .lf) (.nd 299 [7] .lf .lf)) (.nd 318 [7,7,7,7,7,6,6] (.nd 311 [7,7,7,7] .lf .lf) (.nd 326 [2,6,6,7,7] .lf .lf))))),(.nd 207 [1] (.nd 124 [10] (.nd 57 [4,4] (.nd 38 [2,2] (.nd 27 [21,21,1,8,8,1,1] (.nd 2 [1,1,1,1,1,4,4,1,1,1,1,2,2,1,1,1,1,1,1,1,1,1] .lf .lf) .lf) (.nd 53 [128,2560,1] .lf .lf)) (.nd 82 [1,6,1,9,11,11,22,22,440,1,1,1,1,1,1,1,1,6,453,453,1] (.nd 79 [1] (.nd 64 [20,5,5,50] .lf .lf) .lf) (.nd 106 [1] .lf .lf))) (.nd 162 [2,2,1,4,4,4,4] (.nd 149 [10,60,60] (.nd 140 [1,2,2,32,34,34] (.nd 130 [3,3,24,24,24] .lf .lf) .lf) (.nd 154 [23,23,138,20,158,158] .lf .lf)) (.nd 181 [5,5,1,65,65,76,76,2280,2281,2281,1] (.nd 170 [3,3,1,8,512,64,577,577,1] .lf .lf) (.nd 194 [120,122,122] .lf .lf)))) (.nd 269 [1] (.nd 246 [7,71,71] (.nd 228 [1] (.nd 215 [8,8,320,321,321] (.nd 210 [4,4] .lf .lf) .lf) (.nd 231 [1,1] .lf .lf)) (.nd 262 [1] (.nd 256 [32,1,1] (.nd 252 [1,2,2] .lf .lf) .lf) (.nd 266 [1] .lf .lf))) (.nd 311 [256,2,2,32] (.nd 299 [64] (.nd 294 [1] (.nd 282 [1] .lf .lf) .lf) (.nd 302 [1] .lf .lf)) (.nd 323 [1,1] (.nd 318 [4,4] .lf .lf) (.nd 326 [1,1,1,11,11] .lf .lf))))),(.nd 149 [10] (.nd 85 [9] (.nd 64 [20] (.nd 53 [128,20] (.nd 27 [21,21] .lf .lf) .lf) (.nd 83 [6] (.nd 67 [10] .lf .lf) .lf)) (.nd 124 [10] (.nd 99 [6] (.nd 90 [20] .lf .lf) .lf) (.nd 143 [16] (.nd 132 [8] .lf .lf) .lf))) (.nd 246 [7] (.nd 188 [30] (.nd 173 [8,64,64] (.nd 156 [6,20] .lf .lf) .lf) (.nd 217 [40] (.nd 194 [24] .lf .lf) .lf)) (.nd 311 [256] (.nd 299 [64] (.nd 256 [32] .lf .lf) .lf) (.nd 320 [0] (.nd 314 [16] .lf .lf) .lf)))),(.nd 149 [1] (.nd 85 [1] (.nd 64 [1] (.nd 53 [1,128] (.nd 27 [1,1] .lf .lf) .lf) (.nd 83 [1] (.nd 67 [5] .lf .lf) .lf)) (.nd 124 [1] (.nd 99 [1] (.nd 90 [22] .lf .lf) .lf) (.nd 143 [2] (.nd 132 [3] .lf .lf) .lf))) (.nd 246 [1] (.nd 188 [76] (.nd 173 [1,8,1] (.nd 156 [23,1] .lf .lf) .lf) (.nd 217 [8] (.nd 194 [5] .lf .lf) .lf)) (.nd 311 [1] (.nd 299 [1] (.nd 256 [1] .lf .lf) .lf) (.nd 320 [1] (.nd 314 [2] .lf .lf) .lf)))),(.nd 183 [2] (.nd 140 [3] (.nd 55 [1] (.nd 22 [8] .lf .lf) .lf) (.nd 164 [4] .lf .lf)) (.nd 231 [1] (.nd 207 [1] .lf .lf) (.nd 269 [2] .lf .lf))),(.nd 287 [0,0,0,0,0] (.nd 269 [0] (.nd 2 [0,0,0,0,0,0,0,0,0,0,0,0,0,0,0,0,0,0,0,0,0,0,0,0,0,0,0,0,0,0,0,0,0,0,0,0,0,0,0,0,0,0,0,0,0,0,0,0,0,0,0,0,0,0,0,0,0,0,0,0,0,0,0,0,0,0,0,0,0,0,0,0,0,0,0,0,0,0,0,0,0,0,0,0,0,0,0,0,0,0,0,0,0,0,0,0,0,0,0,0,0,0,0,0,0,0,0,0,0,0,0,0,0,0,0,0,0,0,0,0,0,0,0,0,0,0,0,0,0,0,0,0,0,0,0,0,0,0,0,0,0,0,0,0,0,0,0,0,0,0,0,0,0,0,0,0,0,0,0,0,0,0,0,0,0,0,0,0,0,0,0,0,0,0,0,0,0,0,0,0,0,0,0,0,0,0,0,0,0,0,0,0,0,0,0,0,0,0,0,0,0,0,0,0,0,0,0,0,0,0,0,0,0,0,0,0,0,0,0,0,0,0,0,0,0,0,0,0,0,0,0,0,0,0,0,0,0,0,0,0,0,0,0,0,0,0,0,0,0,0,0,0,0,0,0,0,0,0,0,0,0,0,0,0,0,0] .lf .lf) (.nd 271 [0,0,0,0,0,0,0,0,0,0,0,0,0,0,0] .lf .lf)) (.nd 296 [0] (.nd 293 [0,0] .lf .lf) (.nd 321 [0] .lf .lf)))⟩,kq⟩
def mixed:Tryz.prog.follows .mixedOrders=true:=kq
theorem qo(T:TypeId):ay T 0= .nilIface:=rfl
theorem Aw(T:TypeId):ay T 1= .iface T (iI 1):=rfl
theorem Ax(T:TypeId):ay T 2= .iface T (iI 2):=rfl
theorem Ay(T:TypeId):ay T 3= .iface T (iI 3):=rfl
theorem Az(T:TypeId):ay T 4= .iface T (iI 4):=rfl
theorem AB(T:TypeId):ay T 5= .iface T (iI 5):=rfl
theorem AD(T:TypeId):ay T 6= .iface T (iI 6):=rfl
theorem AE(T:TypeId):ay T 7= .iface T (iI 7):=rfl
theorem AF(T:TypeId):ay T 8= .iface T (iI 8):=rfl
theorem AG(T:TypeId):ay T 9= .iface T (iI 9):=rfl
theorem vD(T:TypeId):ay T 10= .iface T (iI 10):=rfl
theorem vE(T:TypeId):ay T 11= .iface T (iI 11):=rfl
theorem vF(T:TypeId):ay T 12= .iface T (iI 12):=rfl
theorem vG(T:TypeId):ay T 13= .iface T (iI 13):=rfl
end Go.X

namespace Go.X.Sp
open Go Go.Proofs Go.X
set_option maxRecDepth 20000
set_option maxHeartbeats 4000000
def ac1:n5 Tryz.prog 155=true:=kq
def uP(z:Int):∀ w,(Instr.buildSlice 55 1 #[(0,iI z)]).run Tryz.prog w= .ok (.slice (some ⟨w.heap.size,0,none⟩) 1 1) (w.alloc (.cells #[iI z] 3)):=fun w=>kq
def qp:rF Tryz.prog 3 1=true:=kq
def la:jR Tryz.prog 3=true:=kq
def RJ:fm Tryz.prog 155=some 23:=kq
def nW:fm Tryz.prog 3=some 1:=kq
def vH(p:Int):Spec Tryz.prog 121 [iI p] [] (fun v H1=>v= .agg (Qu p)/\H1=[]):=by
 refine Spec.go 15 [0,2,3,4,7,8] [] Tryz.func121 fun W=> ?_;apply XO.bQ (z:=.agg rX) (m:=23) (C:=cellsOf rX) fun _ _=>rfl;intro br;apply gO;refine XO.v (V.build (vs:= #[(0,.bool true),(1,iI p)]) rfl (v:=.agg #[.bool true,iI p,iI 0,iI 0,iI 0,iI 0,iI 0,iI 0,iI 0,iI 0,iI 0,iI 0,iI 0,iI 0,iI 0,iI 0,iI 0,iI 0,iI 0,iI 0,iI 0,iI 0,iI 0]) fun _=>kq) rfl (gO ?_);apply XO.bQ (z:=.agg rX) (m:=23) (C:=cellsOf rX) fun _ _=>rfl;intro bx;apply gO;apply gn .aa (Uf p _ Ju) rfl ⟨rfl,rfl⟩;refine lp (σ:=Int) (fun k=>(21-k).toNat) (fun k=>0<=k/\k<=21) (fun k=>[(7,iI k),(2,az br 0 0),(3,az bx 0 0)]) (fun k=>XM W (cm []) [.cells br 0 23 (cellsOf rX),.cells bx 0 23 (wc ⟨p,EN k⟩)]) (0) ?_ S3 (xq (pk [1,0])) ?_
 ·omega
 intro k hk;apply gC;refine cd ?_ ?_<;>intro h1
 ·refine sd (st (.ao .aa) (CR _ _ og _) rfl (sd (ag (k+1) ?_ ?_ S3 fun _ hw=>by rw[<-Jt k];exact XM.pick (pz 2) hw)));all_goals omega
 ·obtain rfl:k=21:=og;refine lP (.ao .aa) (Ud p) (gn .aa (acb _ Ju p) rfl ⟨rfl,rfl⟩ (Xy rfl rfl .aa (Ud p) ac1 RJ (ah .nil rfl ?_)));simp_all
def AH(b o:Nat)(s:SS)(n:Int):Spec Tryz.prog 119 [az b o 0,iI n] [.cells b o 158 (aL s)] (fun v H1=>((s.is n=0/\0<=n/\n<6/\s.aa n=true)/\v= .nilIface/\H1=[.cells b o 158 (aL s)])\/(s.is n≠0/\v= .iface 102 (iI (s.is n))/\H1=[.cells b o 158 (aL s)])):=by
 refine Spec.go 21 [0,1,4,10,19] [] Tryz.func119 fun W=> ?_;refine sp 7 rfl ?_ ?_<;>intro h1
 ·refine bI .h1 ?_;try dsimp only[aU,aS,bG,bN]
  rcases s.jB n with⟨q,q1,q2,q3⟩ | ⟨q,q1⟩ | ⟨q,q1,q2,q3⟩<;>first | (exfalso;omega) | (exfalso;simp_all;done) | exact .inl ⟨⟨q,q1,q2,q3⟩,rfl,rfl⟩ | exact .inr ⟨og,by rw[q],rfl⟩
 ·refine cd ?_ ?_<;>intro h2
  ·refine bI .h1 ?_;try dsimp only[aU,aS,bG,bN]
   rcases s.jB n with⟨q,q1,q2,q3⟩ | ⟨q,q1⟩ | ⟨q,q1,q2,q3⟩<;>first | (exfalso;omega) | (exfalso;simp_all;done) | exact .inl ⟨⟨q,q1,q2,q3⟩,rfl,rfl⟩ | exact .inr ⟨og,by rw[q],rfl⟩
  ·refine sd (ld .aa (kz _ _) ?_);refine wM ?_ ?_<;>intro h3
   ·try simp only[sb]at h3
    refine bI .h1 ?_;try dsimp only[aU,aS,bG,bN]
    rcases s.jB n with⟨q,q1,q2,q3⟩ | ⟨q,q1⟩ | ⟨q,q1,q2,q3⟩<;>first | (exfalso;omega) | (exfalso;simp_all;done) | exact .inl ⟨⟨q,q1,q2,q3⟩,rfl,rfl⟩ | exact .inr ⟨og,by rw[q],rfl⟩
   ·try simp only[sb]at h3
    refine bI .h1 ?_;rcases s.jB n with⟨q,q1,q2,q3⟩ | ⟨q,q1⟩ | ⟨q,q1,q2,q3⟩<;>first | (exfalso;omega) | (exfalso;simp_all;done) | exact .inl ⟨⟨q,q1,q2,q3⟩,rfl,rfl⟩ | exact .inr ⟨og,by rw[q],rfl⟩
def ac2(b o:Nat)(s:SS)(aQ:Int->Nat)(hD:s.Deep aQ)(n:Int)(hn:0<=n/\n<6/\s.aa n=true):Spec Tryz.prog 120 [az b o 0,iI n] [.cells b o 158 (aL s)] (fun v H1=>∃ p cap,v= .slice p (s.dm aQ n).length cap/\H1=[dh p cap 3 (s.dm aQ n),.cells b o 158 (aL s)]):=by
 refine Spec.go 22 [0,1,4,5,6,9] [] Tryz.func120 fun W=> ?_;apply XR.fF 3 1;refine lp (σ:=Int×List Int×Option Addr×Nat) (fun x=>if x.1= -1 then 0 else aQ x.1) (fun x=>(x.1= -1/\x.2.1=s.dm aQ n)\/((0<=x.1/\x.1<6/\s.aa x.1=true)/\x.2.1++s.jo (aQ x.1) x.1=s.dm aQ n)) (fun x=>[(5,.slice x.2.2.1 x.2.1.length x.2.2.2),(6,iI x.1),(0,az b o 0)]) (fun x=>XM W (cm [.cells b o 158 (aL s)]) [dh x.2.2.1 x.2.2.2 3 x.2.1,.cells b o 158 (aL s)]) ((n,[],none,0)) ?_ S3 (xq (pz 2)) ?_
 ·exact .inr ⟨hn,rfl⟩
 intro x hx;apply gC;refine cd ?_ ?_<;>intro h1
 ·obtain⟨hx,hw⟩:=hx.resolve_left og;have hlen:x.2.1.length<=4:=by
   have h9:=congrArg List.length hw;rw[List.length_append,SS.dm,SS.pP,SS.pP]at h9;have:=(hD.d n hn.1 hn.2.1 hn.2.2).2.1;omega
  obtain⟨Iu,wE,Xl⟩:=id hx;apply XO.buildSlice (A:= #[iI _]) (vs:= #[(0,iI _)]) rfl (uP _) rfl rfl;intro h2;apply gO;apply lv (e:=3) rfl rfl Tryz.underlying55 qp (.ao .aa) .aa og rfl;intro h3 h4;apply gO;refine sd (ld (.t2 .aa) (ly _ _) (ag ((s.aD x.1,x.2.1++[x.1],_,_)) ?_ ?_ S3 (xq (pk [0,1]))))
  ·show(if s.aD x.1= -1 then 0 else aQ (s.aD x.1))<(if x.1= -1 then 0 else aQ x.1);obtain⟨h1,h2,h3⟩:=hx;by_cases q:s.aD x.1= -1
   ·have:=(hD.d x.1 h1 h2 h3).1;grind
   grind [SS.Jz]
  grind [SS.Ye,SS.Jz]
 ·refine bI (pz 2) ?_;simp_all[aU,aS]
def GD(b o:Nat)(s:SS)(n:Int)(hn:0<=n/\n<6)(hh:s.aa n=true):Spec Tryz.prog 192 [az b o 0,iI n] [.cells b o 158 (aL s)] (fun v H1=>∃ p cap,v= .slice p (s.fU n).length cap/\H1=[dh p cap 3 (s.fU n),.cells b o 158 (aL s)]):=by
 refine Spec.go 26 [0,1,4,5,7,14,15,16,19] [] Tryz.func192 fun W=> ?_;refine XR.fF 3 1 (sd (lP (.ao .aa) (CS _ _ og aq) ?_));refine lp (σ:=Int×List Int×Option Addr×Nat) (fun x=>(21-x.1).toNat) (fun x=>(0<=x.1/\x.1<=21)/\x.2.1=eo (s.dv n) x.1.toNat) (fun x=>[(5,.slice x.2.2.1 x.2.1.length x.2.2.2),(15,iI x.1),(14,.agg (GR (s.dv n) 21))]) (fun x=>XM W (cm [.cells b o 158 (aL s)]) [dh x.2.2.1 x.2.2.2 3 x.2.1,.cells b o 158 (aL s)]) ((0,[],none,0)) ?_ S3 (xq (pz 2)) ?_
 ·exact⟨og,rfl⟩
 intro x hx;obtain⟨hx,hL⟩:=hx;have hlen:=nO (s.dv n) x.1.toNat;rw[<-hL]at hlen;have hnx:=EP (s.dv n) hx.1;apply gC;refine cd ?_ ?_<;>intro h1
 ·refine XO.v (lF rfl rfl Tryz.underlying27 nW la) rfl (gO ?_);refine cd ?_ ?_<;>intro h2
  ·apply XO.buildSlice (A:= #[iI _]) (vs:= #[(0,iI _)]) rfl (uP _) rfl rfl;intro h3;apply gO;apply lv (e:=3) rfl rfl Tryz.underlying55 qp (.ao .aa) .aa og rfl;intro h4 h5;apply gO;refine sd (ag ((x.1+1,x.2.1++[s.dv n x.1],_,_)) ?_ ?_ S3 (xq (pk [0,1])));all_goals grind
  ·refine sd (ag ((x.1+1,x.2.1,_,_)) ?_ ?_ S3 (xq (pz 2)));all_goals grind
 ·refine bI (pz 2) ?_;have ac3:x.1=21:=og;rw[ac3]at hL;exact⟨_,_,by rw[hL];rfl,by rw[hL];rfl⟩
def No(b o:Nat)(s:SS)(p:Int):Spec Tryz.prog 118 [az b o 0,iI p] [.cells b o 158 (aL s)] (fun v H1=>(v= .tuple #[iI (s.bU p).1,ay 102 (s.bU p).2]/\((s.bU p).2=0->(0<=p/\p<20)/\0<=s.loc p/\(s.bU p).1=s.loc p))/\H1=[.cells b o 158 (aL s)]):=by
 refine Spec.go 27 [0,1,4,5,11,19] [] Tryz.func118 fun W=> ?_;refine sp 8 rfl ?_ ?_<;>intro h1
 ·refine eH .h1 ?_;grind [aU,aS,bN,SS.bU,ay]
 ·refine cd ?_ ?_<;>intro h2
  ·refine eH .h1 ?_;grind [aU,aS,bN,SS.bU,ay]
  ·refine sd (ld .aa (rV _ _) ?_);refine cd ?_ ?_<;>intro h3
   ·refine eH .h1 ?_;grind [aU,aS,bN,SS.bU,ay]
   ·refine sd (ld .aa (rV _ _) (bA rfl rfl rfl (ah .h1 rfl ?_)));grind [aU,aS,bN,SS.bU,ay]
def RL(b o:Nat)(s:SS)(n:Int):Spec Tryz.prog 191 [az b o 0,iI n] [.cells b o 158 (aL s)] (fun v H1=>∃ p cap,v= .tuple #[.slice p (s.mem n).1.length cap,ay 102 (s.mem n).2]/\H1=[dh p cap 3 (s.mem n).1,.cells b o 158 (aL s)]):=by
  refine Spec.go 16 [0,1,4,5,6,11] [] Tryz.func191 fun W=> ?_
  refine ca (AH _ _ _ _) .h1 ?_
  rintro _ _ (⟨h1,rfl,rfl⟩ | ⟨h1,rfl,rfl⟩)
  · skip
    obtain⟨i0,i1,i2,i3⟩:=h1
    apply gO
    refine ca (GD _ _ _ _ og aq) .h1 ?_
    rintro _ _ ⟨pl,cl,rfl,rfl⟩
    apply gO
    refine eH (pz 2) ?_
    first
    | (have hm:s.mem n=([],s.is n):=by unfold SS.mem;rw[if_pos aq]
       rw[hm];exact⟨none,0,by rw[aK _ aq];rfl,rfl⟩)
    | (have hm:s.mem n=(s.fU n,0):=by unfold SS.mem;rw[if_neg (by simp_all)]
       rw[hm];exact⟨_,_,rfl,rfl⟩)
  · skip
    have i0:=h1
    apply gO
    refine XR.fF 3 1 (bA rfl rfl rfl (ah (pz 2) rfl ?_))
    first
    | (have hm:s.mem n=([],s.is n):=by unfold SS.mem;rw[if_pos aq]
       rw[hm];exact⟨none,0,by rw[aK _ aq];rfl,rfl⟩)
    | (have hm:s.mem n=(s.fU n,0):=by unfold SS.mem;rw[if_neg (by simp_all)]
       rw[hm];exact⟨_,_,rfl,rfl⟩)
def af3(b o:Nat)(s:SS):Spec Tryz.prog 91 [az b o 0] [.cells b o 158 (aL s)] (fun v H1=>∃ p cap,v= .slice p (gB s.aa 6).length cap/\H1=[dh p cap 3 (gB s.aa 6),.cells b o 158 (aL s)]):=by
 refine Spec.go 21 [0,2,3,4,5,6,14] [] Tryz.func91 fun W=> ?_;refine XR.fF 3 1 ?_;refine lp (σ:=Int×List Int×Option Addr×Nat) (fun x=>(6-x.1).toNat) (fun x=>(0<=x.1/\x.1<=6)/\x.2.1=gB s.aa x.1.toNat) (fun x=>[(3,.slice x.2.2.1 x.2.1.length x.2.2.2),(5,iI x.1),(0,az b o 0)]) (fun x=>XM W (cm [.cells b o 158 (aL s)]) [dh x.2.2.1 x.2.2.2 3 x.2.1,.cells b o 158 (aL s)]) ((0,[],none,0)) ?_ S3 (xq (pz 2)) ?_
 ·grind [gB]
 intro x hx;obtain⟨hx,hL⟩:=hx;have hlen:=j9 s.aa x.1.toNat;rw[<-hL]at hlen;have hnx:=zT s.aa hx.1;refine gC ?_;refine cd ?_ ?_<;>intro h1
 ·refine sd (ld (.ao .aa) (kz _ _) ?_);refine wM ?_ ?_<;>intro h2
  ·try simp only[sb]at h2
   refine XO.buildSlice (A:= #[iI _]) (vs:= #[(0,iI _)]) rfl (uP _) rfl rfl ?_;intro h3;refine gO ?_;refine lv (e:=3) rfl rfl Tryz.underlying55 qp (.ao .aa) .aa og rfl ?_;intro h4 h5;refine gO ?_;refine sd (ag ((x.1+1,x.2.1++[x.1],_,_)) ?_ ?_ S3 (xq (pk [0,1])));all_goals grind
  ·try simp only[sb]at h2
   refine sd (ag ((x.1+1,x.2.1,_,_)) ?_ ?_ S3 (xq (pz 2)));all_goals grind
 ·refine bI (pz 2) ?_;try dsimp only[aU,aS,bG,bN]
  have ac3:x.1=6:=og;simp_all
def O9(b o:Nat)(s:SS)(p n:Int):Spec Tryz.prog 62 [az b o 0,iI p,iI n] [.cells b o 158 (aL s)] (fun v H1=>v= .tuple #[iI (s.jq p n).1,ay 102 (s.jq p n).2]/\H1=[.cells b o 158 (aL s)]):=by
 refine Spec.go 41 [0,1,2,6,7,8,9,10,15,22,30,31,32,37] [] Tryz.func62 fun W=> ?_;refine ca (AH _ _ _ _) .h1 ?_;rintro _ _ (⟨h1,rfl,rfl⟩ | ⟨h1,rfl,rfl⟩)
 ·obtain⟨i0,i1,i2,i3⟩:=h1;apply gO;refine sp 19 rfl ?_ ?_<;>intro h2
  ·refine eH .h1 ?_;grind [aU,aS,bN,aK,rY]
  ·refine cd ?_ ?_<;>intro h3
   ·refine eH .h1 ?_;grind [aU,aS,bN,aK,rY]
   ·refine sd (lP .aa (CS _ _ og aq) ?_);refine lp (σ:=Int) (fun k=>(21-k).toNat) (fun k=>(0<=k/\k<=21)/\∀ j:Int,0<=j->j<k->s.dv n j≠p) (fun k=>[(31,iI k),(1,iI p),(30,.agg (GR (s.dv n) 21))]) (fun k=>XM W (cm [.cells b o 158 (aL s)]) [.cells b o 158 (aL s)]) (0) ?_ S3 (xq .h1) ?_
    ·grind
    intro k hk;obtain⟨hk,BU⟩:=hk;apply gC;refine cd ?_ ?_<;>intro h4
    ·refine XO.v (lF rfl rfl Tryz.underlying27 nW la) rfl (gO ?_);refine cd ?_ ?_<;>intro h5
     ·refine eH .h1 ?_;first
      | (rw[CT aq];exact⟨by show _=Value.tuple #[_,ay 102 (s.is n)];rw[aK _ aq],rfl⟩)
      | (rw[rY aq og];exact⟨rfl,rfl⟩)
      | (rw[SS.Jv (q:=k) aq og og og BU];exact⟨rfl,rfl⟩)
      | (rw[A2 aq og fun j h1 h2=>BU j h1 og];exact⟨rfl,rfl⟩)
     ·refine sd (ag (k+1) ?_ ?_ S3 (xq .h1));all_goals grind
    ·refine eH .h1 ?_;grind [aU,aS,bN,aK,A2]
 ·have i0:=h1;apply gO;refine eH .h1 ?_;grind [aU,aS,bN,CT,aK]
def xw(b o:Nat)(s:SS)(n q:Int):Spec Tryz.prog 66 [az b o 0,iI n,iI q] [.cells b o 158 (aL s)] (fun v H1=>v= .tuple #[iI (s.find n q).1,ay 102 (s.find n q).2]/\H1=[.cells b o 158 (aL s)]):=by
 refine Spec.go 43 [0,1,2,6,7,8,13,32] [] Tryz.func66 fun W=> ?_;refine ca (AH _ _ _ _) .h1 ?_;rintro _ _ (⟨h1,rfl,rfl⟩ | ⟨h1,rfl,rfl⟩)
 ·obtain⟨i0,i1,i2,i3⟩:=h1;apply gO;refine sp 17 rfl ?_ ?_<;>intro h2
  ·refine eH .h1 ?_;grind [aU,aS,bN,aK,rZ]
  ·refine sp 21 rfl ?_ ?_<;>intro h3
   ·refine eH .h1 ?_;grind [aU,aS,bN,aK,rZ]
   ·refine sd (sd (ld .aa (lz _ _ _ og og (by first | assumption | (simp_all;done))) ?_));refine cd ?_ ?_<;>intro h4
    ·refine eH .h1 ?_;grind [aU,aS,bN,aK,rZ]
    ·refine sd (sd (ld .aa (lz _ _ _ og og (by first | assumption | (simp_all;done))) (bA rfl rfl rfl (ah .h1 rfl ?_))));grind [aU,aS,bN,ay,SS.Hd]
 ·have i0:=h1;apply gO;refine eH .h1 ?_;grind [aU,aS,bN,Jw,aK]
def af4(b o:Nat)(s:SS)(aQ:Int->Nat)(hD:s.Deep aQ)(hA:∀ k,s.aa k=false->∀ j,s.dv k j= -1)(n:Int):Spec Tryz.prog 53 [az b o 0,iI n] [.cells b o 158 (aL s)] (fun v H1=>v= .tuple #[iI (s.add aQ n).1,ay 102 (s.add aQ n).2.1]/\H1=[.cells b o 158 (aL (s.add aQ n).2.2)]):=by
 refine Spec.go 41 [0,1,4,5,6,7,12,18,20,21,30] [] Tryz.func53 fun W=> ?_;refine ca (AH _ _ _ _) .h1 ?_;rintro _ _ (⟨h1,rfl,rfl⟩ | ⟨h1,rfl,rfl⟩)
 ·obtain⟨i0,i1,i2,i3⟩:=h1;apply gO;refine ca (ac2 _ _ _ aQ hD _ ⟨og,og,aq⟩) .h1 ?_;rintro _ _ ⟨pl,cl,rfl,rfl⟩;apply gO;refine cd ?_ ?_<;>intro h2
  ·have hdp:=s.BZ aQ n;refine eH (pk [1]) ?_;grind [aU,aS,bN,SS.CU,ay]
  ·have hdp:=s.BZ aQ n;refine lp (σ:=Int) (fun k=>(6-k).toNat) (fun k=>(0<=k/\k<=6)/\∀ j:Int,0<=j->j<k->s.aa j=true) (fun k=>[(20,iI k),(0,az b o 0),(1,iI n)]) (fun k=>XM W (cm [.cells b o 158 (aL s)]) [.cells b o 158 (aL s)]) (0) ?_ S3 (xq (pk [1])) ?_
   ·grind
   intro k hk;obtain⟨hk,BU⟩:=hk;apply gC;refine cd ?_ ?_<;>intro h3
   ·refine sd (ld .aa (kz _ _) ?_);refine wM ?_ ?_<;>intro h4
    ·try simp only[sb]at h4
     refine rq [0,1,2,4,5,3,6,7] mixed ?_;refine cq (vH _) .nil ?_;refine sd (gn .aa (CW _ _ _ og (hA _ aq)) rfl ⟨rfl,rfl⟩ (bA rfl rfl rfl (ah .h1 rfl ?_)));grind [aU,aS,bN,SS.CV,ay]
    ·try simp only[sb]at h4
     refine sd (ag (k+1) ?_ ?_ S3 (xq .h1));all_goals grind
   ·refine eH .h1 ?_;grind [aU,aS,bN,JA,ay]
 ·have i0:=h1;apply gO;refine eH .h1 ?_;grind [aU,aS,bN,SS.He,ay]
def VW(b o:Nat)(s:SS)(n:Int):Spec Tryz.prog 132 [az b o 0,iI n] [.cells b o 158 (aL s)] (fun v H1=>v=ay 102 (s.drop n).1/\H1=[.cells b o 158 (aL (s.drop n).2)]):=by
 refine Spec.go 52 [0,1,4,5,6,11,21,23,24,43] [] Tryz.func132 fun W=> ?_;refine ca (AH _ _ _ _) .h1 ?_;rintro _ _ (⟨h1,rfl,rfl⟩ | ⟨h1,rfl,rfl⟩)
 ·obtain⟨i0,i1,i2,i3⟩:=h1;apply gO;refine sp 15 rfl ?_ ?_<;>intro h2
  ·refine bI .h1 ?_;grind [aU,aS,bN,xX,ay]
  ·refine ca (GD _ _ _ _ og aq) .h1 ?_;rintro _ _ ⟨pl,cl,rfl,rfl⟩;apply gO;refine cd ?_ ?_<;>intro h3
   ·refine bI (pk [1]) ?_;grind [aU,aS,bN,xX,ay]
   ·refine lp (σ:=Int) (fun k=>(6-k).toNat) (fun k=>(0<=k/\k<=6)/\∀ j:Int,0<=j->j<k->¬(s.aa j=true/\s.aD j=n)) (fun k=>[(23,iI k),(0,az b o 0),(1,iI n)]) (fun k=>XM W (cm [.cells b o 158 (aL s)]) [.cells b o 158 (aL s)]) (0) ?_ S3 (xq (pk [1])) ?_
    ·grind
    intro k hk;obtain⟨hk,BU⟩:=hk;apply gC;refine cd ?_ ?_<;>intro h4
    ·refine sd (ld .aa (kz _ _) ?_);refine P9 33 rfl ?_ ?_<;>intro h5
     ·try simp only[sb]at h5
      refine sd (ld .aa (ly _ _) ?_);refine cd ?_ ?_<;>intro h6
      ·refine bI .h1 ?_;grind [aU,aS,bN,JC,ay]
      ·refine sd (ag (k+1) ?_ ?_ S3 (xq .h1));all_goals grind
     ·try simp only[sb]at h5
      refine sd (ag (k+1) ?_ ?_ S3 (xq .h1));all_goals grind
    ·refine XO.v (V.build (vs:= #[]) rfl (v:=.agg rX) fun _=>kq) rfl (gO ?_);refine sd (gn .aa (Mk _ _ og) rfl ⟨rfl,rfl⟩ (aO rfl rfl (ah .h1 rfl ?_)));grind [aU,aS,bN,SS.Yf,ay]
 ·have i0:=h1;apply gO;refine bI .h1 ?_;grind [aU,aS,JB,ay]
def VX:Spec Tryz.prog 96 [] [] (fun v H1=>∃ b,v=az b 0 0/\H1=[.cells b 0 158 (aL SS.cC)]):=by
 refine Spec.go 20 [0,1,2,10,11] [] Tryz.func96 fun W=> ?_;refine XO.v (V.build (vs:= #[]) rfl (v:=.agg aaG) fun _=>kq) rfl (gO ?_);refine XO.box (m:=158) (C:=aL SS.zero) rfl rfl Qv rfl ?_;intro bs;apply gO;refine rq [0,2,3,1,4,5] mixed ?_;refine cq (vH _) .nil ?_;refine sd (gn .aa (CW _ _ _ og fun _=>rfl) rfl ⟨rfl,rfl⟩ ?_);refine lp (σ:=Int) (fun k=>(20-k).toNat) (fun k=>0<=k/\k<=20) (fun k=>[(10,iI k),(1,az bs 0 0)]) (fun k=>XM W (cm []) [.cells bs 0 158 (aL {SS.tW with loc:=EN k})]) (0) ?_ S2 (fun _ hw=>by rw[Ug];exact XM.pick .h1 hw) ?_
 ·omega
 intro k hk;apply gC;refine cd ?_ ?_<;>intro h1
 ·refine sd (st .aa (rW _ _ og _) rfl (sd (ag (k+1) ?_ ?_ S2 fun _ hw=>by rw[<-Jt k];exact XM.pick .h1 hw)));all_goals omega
 ·refine bI .h1 ?_;try dsimp only[aU,aS,bG,bN]
  grind [SS.cC]
def HZ(b o:Nat)(s:SS)(aQ:Int->Nat)(hD:s.Deep aQ)(n p:Int):Spec Tryz.prog 56 [az b o 0,iI n,iI p] [.cells b o 158 (aL s)] (fun v H1=>v= .tuple #[iI (s.enter aQ n p).1,ay 102 (s.enter aQ n p).2.1]/\H1=[.cells b o 158 (aL (s.enter aQ n p).2.2)]):=by
 refine Spec.go 77 [0,1,2,6,7,8,10,11,16,23,31,41,42,43,44,48,60] [] Tryz.func56 fun W=> ?_;refine ca (AH _ _ _ _) .h1 ?_;rintro _ _ (⟨h1,rfl,rfl⟩ | ⟨h1,rfl,rfl⟩)
 ·obtain⟨i0,i1,i2,i3⟩:=h1;apply gO;refine sp 20 rfl ?_ ?_<;>intro h2
  ·refine eH .h1 ?_;grind [aU,aS,bN,o6,ay]
  ·refine cd ?_ ?_<;>intro h3
   ·refine eH .h1 ?_;grind [aU,aS,bN,o6,ay]
   ·refine sd (ld .aa (rV _ _) ?_);refine cd ?_ ?_<;>intro h4
    ·refine eH .h1 ?_;grind [aU,aS,bN,tX,ay]
    ·refine sd (st .aa (rW _ _ og _) rfl ?_);have hD1:({s with loc:=ad s.loc p n} :SS).Deep aQ:=⟨hD.d⟩;have hay:=({s with loc:=ad s.loc p n} :SS).BZ aQ n;have hdn:=(hD.d n i1 i2 i3).2.1;refine ca (ac2 _ _ ({s with loc:=ad s.loc p n} :SS) aQ hD1 n ⟨i1,i2,i3⟩) .h1 ?_;rintro _ _ ⟨pl,cl,rfl,rfl⟩;apply gO;refine lp (σ:=Int×(Int->Int->Int)) (fun x=>((({s with loc:=ad s.loc p n} :SS).dm aQ n).length-x.1).toNat) (fun x=>(0<=x.1/\x.1<=(({s with loc:=ad s.loc p n} :SS).dm aQ n).length)/\kN x.2 p ((({s with loc:=ad s.loc p n} :SS).dm aQ n).drop x.1.toNat)=kN s.dv p (({s with loc:=ad s.loc p n} :SS).dm aQ n)) (fun x=>[(43,iI x.1),(0,az b o 0),(1,iI n),(2,iI p),(41,.slice pl (({s with loc:=ad s.loc p n} :SS).dm aQ n).length cl),(42,iI (({s with loc:=ad s.loc p n} :SS).dm aQ n).length)]) (fun x=>XM W (cm [.cells b o 158 (aL s)]) [dh pl cl 3 (({s with loc:=ad s.loc p n} :SS).dm aQ n),.cells b o 158 (aL {s with loc:=ad s.loc p n,dv:=x.2})]) ((0,s.dv)) ?_ S6 (xq (pz 2)) ?_
     ·simp_all
     intro x hx;obtain⟨hx,hw⟩:=hx;apply gC;refine cd ?_ ?_<;>intro h5
     ·obtain⟨a0,a1,a2⟩:=FJ hD1 (n:=n) ⟨i1,i2,i3⟩ (z:=x.1) ⟨hx.1,og⟩;apply bR .aa og;intro gA h6;subst h6;refine sd (zp .aa (ints_at) ?_);refine lp (σ:=Int) (fun k=>(21-k).toNat) (fun k=>(1<=k/\k<=21)/\∀ j:Int,1<=j->j<k->¬x.2 (jc (({s with loc:=ad s.loc p n} :SS).dm aQ n) x.1) j<0) (fun k=>[(11,iI k),(0,az b o 0),(1,iI n),(2,iI p),(10,iI (jc (({s with loc:=ad s.loc p n} :SS).dm aQ n) x.1)),(41,.slice (some ⟨gA,0,none⟩) (({s with loc:=ad s.loc p n} :SS).dm aQ n).length cl),(42,iI (({s with loc:=ad s.loc p n} :SS).dm aQ n).length),(43,iI x.1)]) (fun k=>XM W (cm [.cells b o 158 (aL s)]) [dh (some ⟨gA,0,none⟩) cl 3 (({s with loc:=ad s.loc p n} :SS).dm aQ n),.cells b o 158 (aL {s with loc:=ad s.loc p n,dv:=x.2})]) (1) ?_ (.cons rfl (.cons rfl S6)) (xq (pz 2)) ?_
      ·grind
      intro k hk;obtain⟨hk,BU⟩:=hk;apply gC;refine cd ?_ ?_<;>intro h7
      ·refine sd (sd (ld (.ao .aa) (lz _ _ _ og og (by first | assumption | (simp_all;done))) ?_));refine cd ?_ ?_<;>intro h8
       ·have rz:x.2 (jc (({s with loc:=ad s.loc p n} :SS).dm aQ n) x.1) k<0:=h8;refine sd (sd (st (.ao .aa) (pQ _ _ _ og og (by first | assumption | (simp_all;done)) _) rfl (sd (ag ((x.1+1,cI x.2 (jc (({s with loc:=ad s.loc p n} :SS).dm aQ n) x.1) k p)) ?_ ?_ S6 (xq (pz 2))))));all_goals grind [JE,kN,Qw]
       ·refine sd (ag (k+1) ?_ ?_ (.cons rfl (.cons rfl S6)) (xq (pz 2)));all_goals grind
      ·refine sd (ag ((x.1+1,x.2)) ?_ ?_ S6 (xq (pz 2)));all_goals grind [JE,kN,Qx]
     ·refine cq (O9 _ _ _ _ _) (pk [1]) ?_;refine eH .h1 ?_;try dsimp only[aU,aS,bG,bN]
      have VY:x.1=(({s with loc:=ad s.loc p n} :SS).dm aQ n).length:=og;have he:x.2=kN s.dv p (s.dm aQ n):=by
       rw[VY]at hw;simp at hw;exact(show x.2=kN x.2 p []from rfl).trans (hw.trans (congrArg (kN s.dv p) (SS.o5 (s:=s) (s':= {s with loc:=ad s.loc p n}) rfl _ _)))
      grind [SS.xZ,SS.fj]
 ·have i0:=h1;apply gO;refine eH .h1 ?_;grind [aU,aS,bN,xY,ay]
def Zj(b o:Nat)(s:SS)(aQ:Int->Nat)(hD:s.Deep aQ)(p:Int)(hl:0<=p->p<20->0<=s.loc p->s.loc p<6/\s.aa (s.loc p)=true)(hW:0<=p->∀ n q,s.dv n q=p->n∈s.dm aQ (s.loc p)/\0<=q/\q<21):Spec Tryz.prog 131 [az b o 0,iI p] [.cells b o 158 (aL s)] (fun v H1=>v=ay 102 (s.gw p).1/\H1=[.cells b o 158 (aL (s.gw p).2)]):=by
 refine Spec.go 57 [0,1,4,5,6,8,9,10,18,22,23,24,25,34,35,36,41] [] Tryz.func131 fun W=> ?_;refine ca (No _ _ _ _) .h1 ?_;rintro _ _ ⟨⟨rfl,vV⟩,rfl⟩;apply gO;refine cd ?_ ?_<;>intro h1
 ·refine bI .h1 ?_;grind [aU,aS,SS.gw]
 ·obtain⟨⟨p0,p20⟩,l0,hN⟩:=vV og;have hl2:=hl p0 p20 l0;have Ly:0<=(s.bU p).1/\(s.bU p).1<6/\s.aa (s.bU p).1=true:=by rw[hN];exact⟨l0,hl2.1,hl2.2⟩
  have hay:=s.BZ aQ (s.bU p).1;have hdn:=(hD.d _ Ly.1 Ly.2.1 Ly.2.2).2.1;refine ca (ac2 _ _ s aQ hD (s.bU p).1 Ly) .h1 ?_;rintro _ _ ⟨pl,cl,rfl,rfl⟩;apply gO;refine lp (σ:=Int×(Int->Int->Int)) (fun x=>((s.dm aQ (s.bU p).1).length-x.1).toNat) (fun x=>(0<=x.1/\x.1<=(s.dm aQ (s.bU p).1).length)/\x.2=Ml s.dv ((s.dm aQ (s.bU p).1).take x.1.toNat) p) (fun x=>[(24,iI x.1),(0,az b o 0),(1,iI p),(22,.slice pl (s.dm aQ (s.bU p).1).length cl),(23,iI (s.dm aQ (s.bU p).1).length)]) (fun x=>XM W (cm [.cells b o 158 (aL s)]) [dh pl cl 3 (s.dm aQ (s.bU p).1),.cells b o 158 (aL {s with dv:=x.2})]) ((0,s.dv)) ?_ S5 (xq (pz 2)) ?_
  ·grind [Uh]
  intro x hx;obtain⟨hx,hw⟩:=hx;apply gC;refine cd ?_ ?_<;>intro h2
  ·obtain⟨a0,a1,a2⟩:=FJ hD (n:=(s.bU p).1) Ly (z:=x.1) ⟨hx.1,og⟩;apply bR .aa og;intro gA h3;subst h3;refine sd ?_;apply zp .aa (ints_at);refine sd ?_;apply lP (.ao .aa) (CS _ _ og aq);refine lp (σ:=Int) (fun k=>(21-k).toNat) (fun k=>0<=k/\k<=21) (fun k=>[(35,iI k),(0,az b o 0),(1,iI p),(8,iI (jc (s.dm aQ (s.bU p).1) x.1)),(22,.slice (some ⟨gA,0,none⟩) (s.dm aQ (s.bU p).1).length cl),(23,iI (s.dm aQ (s.bU p).1).length),(24,iI x.1),(34,.agg (GR (x.2 (jc (s.dm aQ (s.bU p).1) x.1)) 21))]) (fun k=>XM W (cm [.cells b o 158 (aL s)]) [dh (some ⟨gA,0,none⟩) cl 3 (s.dm aQ (s.bU p).1),.cells b o 158 (aL {s with dv:=BF x.2 (jc (s.dm aQ (s.bU p).1) x.1) p k})]) (0) ?_ (.cons rfl (.cons rfl S6)) (fun _ lG=>by rw[Qy];exact XM.pick (pz 2) lG) ?_
   ·omega
   intro k hk;apply gC;refine cd ?_ ?_<;>intro h4
   ·refine XO.v (lF rfl rfl Tryz.underlying27 nW la) rfl (gO ?_);refine cd ?_ ?_<;>intro h5
    ·refine sd ?_;refine sd ?_;apply st (.ao .aa) (pQ _ _ _ og og (by first | assumption | (simp_all;done)) _) rfl;refine sd ?_;refine ag (k+1) ?_ ?_ (.cons rfl (.cons rfl S6)) fun _ lG=>by first | (rw[<-JF og aq];exact XM.pick (pz 2) lG) | (rw[<-FK aq];exact XM.pick (pz 2) lG)
     all_goals omega
    ·refine sd ?_;refine ag (k+1) ?_ ?_ (.cons rfl (.cons rfl S6)) fun _ lG=>by first | (rw[<-JF og aq];exact XM.pick (pz 2) lG) | (rw[<-FK aq];exact XM.pick (pz 2) lG)
     all_goals omega
   ·obtain rfl:k=21:=og;refine sd ?_;refine ag ((x.1+1,BF x.2 (jc (s.dm aQ (s.bU p).1) x.1) p 21)) ?_ ?_ S5 (xq (pz 2));all_goals grind [Qz]
  ·refine sd ?_;apply st (.ao .aa) (rW _ _ og _) rfl;refine bI (pk [1]) ?_;try dsimp only[aU,aS,bG,bN]
   have VY:x.1=(s.dm aQ (s.bU p).1).length:=og;rw[VY]at hw;simp at hw;have hv:s.gw p=(0,s.left p):=by unfold SS.gw;rw[if_neg og]
   rw[hv];unfold SS.left;rw[<-Ui (l:=(s.dm aQ (s.bU p).1)) (by rw[hN];exact hW p0),<-hw];grind [ay]
end Go.X.Sp

namespace Go.X.Kn
open Go Go.Proofs Go.X
set_option maxRecDepth 20000
set_option maxHeartbeats 4000000
def aa0:cX Tryz.prog 52=true:=kq
def af5:cX Tryz.prog 62=true:=kq
def af6:cX Tryz.prog 66=true:=kq
def K0:eI Tryz.prog 101 2=some 441:=kq
def aa1:jR Tryz.prog 92=true:=kq
def eW(kb:Nat)(k:KP)(n:Int):Spec Tryz.prog 49 [az kb 0 0,iI n] [.cells kb 0 453 (aG k)] (fun v H1=>((k.aA n=0/\v= .tuple #[az kb 0 (0+0+n.toNat*22),.nilIface])\/(k.aA n≠0/\v= .tuple #[.pointer none,.iface 102 (iI (k.aA n))]))/\H1=[.cells kb 0 453 (aG k)]):=by
 refine Spec.go 27 [0,1,4,5,11,20] [] Tryz.func49 fun W=> ?_;refine sp 8 rfl ?_ ?_<;>intro h1
 ·refine eH .h1 ?_;grind [aU,aS,bN,KP.aA]
 ·refine cd ?_ ?_<;>intro h2
  ·refine eH .h1 ?_;grind [aU,aS,bN,KP.aA]
  ·refine sd (ld .aa (gy _) ?_);refine cd ?_ ?_<;>intro h3
   ·refine eH .h1 ?_;grind [aU,aS,bN,KP.aA]
   ·refine sd (bA rfl rfl rfl (ah .h1 rfl ?_));grind [aU,aS,bN,KP.aA]
def jQ(kb:Nat)(k:KP)(s:Sp.SS)(n:Int):Spec Tryz.prog 52 [az kb 0 0,iI n] [.cells kb 0 453 (aG k),.cells k.sb 0 158 (Sp.aL s)] (fun v H1=>v=iI (s.bU n).1/\H1=[.cells kb 0 453 (aG k),.cells k.sb 0 158 (Sp.aL s)]):=by
 refine Spec.go 17 [0,1,4,5] [] Tryz.func52 fun W=> ?_;apply ld .aa (aG.ug _);refine ca (Sp.No _ _ s _) (pk [1]) ?_;rintro _ _ ⟨⟨rfl,hof⟩,rfl⟩;apply gO;refine bI (pk [1,0]) ?_;grind [aU,aS]
def AI(kb:Nat)(k:KP)(s:Sp.SS)(z:Int):Spec Tryz.prog 104 [az kb 0 0,iI z] [.cells kb 0 453 (aG k),.cells k.sb 0 158 (Sp.aL s)] (fun v H1=>v=iI (s.find z 1).1/\H1=[.cells kb 0 453 (aG k),.cells k.sb 0 158 (Sp.aL s)]):=by
 refine Spec.go 17 [0,1,4,5] [] Tryz.func104 fun W=> ?_;apply ld .aa (aG.ug _);refine cq (Sp.xw _ _ s _ _) (pk [1]) ?_;refine bI (pk [1,0]) ?_;grind [aU,aS]
def af7(kb:Nat)(k:KP)(s:Sp.SS)(aQ:Int->Nat)(hI:s.Inv aQ)(n q:Int):Spec Tryz.prog 18 [az kb 0 0,iI n,iI q] [.cells kb 0 453 (aG k),.cells k.sb 0 158 (Sp.aL s)] (fun v H1=>v= .tuple #[iI (k.BI s n q).1,ay 102 (k.BI s n q).2]/\H1=[.cells kb 0 453 (aG k),.cells k.sb 0 158 (Sp.aL s)]):=by
 refine Spec.go 45 [0,1,2,6,7,9,10,18,33,42] [] Tryz.func18 fun W=> ?_;refine ca (eW kb _ _) .h1 ?_;rintro _ _ ⟨⟨hl,rfl⟩ | ⟨hl,rfl⟩,rfl⟩
 ·obtain⟨jV,ic⟩:=bJ hl;apply gO;refine XC.il mixed (f:=14) (l:= #[qF,qF,qF,qF,qF,qF,qF,qF,qF,qF,qF,qF,qF,qF]) rfl rfl XM.kL (XQ.pv (i:=0) rfl kq rfl (V.move rfl) rfl rfl (XQ.pv (i:=1) rfl kq rfl (bC rfl) rfl rfl (XQ.pv (i:=2) rfl kq rfl (V.fieldAddr rfl K0) rfl rfl (XQ.load (i:=3) (.cells _ _ _ _) [8] rfl kq rfl .aa (V.load rfl eh (aG.ug _) aa1) rfl kq rfl (XQ.pv (i:=4) rfl kq rfl (V.move rfl) rfl rfl (XQ.pv (i:=5) rfl kq rfl (V.move rfl) rfl rfl (XQ.pv (i:=7) rfl kq rfl (V.move rfl) rfl rfl (XQ.call (i:=6) rfl kq rfl rfl (jQ kb _ s n) (pz 2) aa0 rfl (by rintro _ _ ⟨rfl,rfl⟩;all_goals(intro _ dX;exact⟨fun _=>fb .aa _ dX,trivial⟩)) ?_))))))));rintro _ _ ⟨rfl,rfl⟩;apply XQ.call (i:=8) rfl kq rfl rfl (Sp.xw _ _ s _ _) (pk [1]) af6 rfl (by rintro _ _ ⟨rfl,rfl⟩;all_goals(intro _ dX;exact⟨fun hs=>(hs 8 (by first | (simp;done) | (simp;rfl)) rfl).elim,trivial⟩));rintro _ _ ⟨rfl,rfl⟩;refine XQ.pv (i:=9) rfl kq rfl (V.move rfl) rfl rfl (XQ.pv (i:=10) rfl kq rfl (V.extract rfl rfl) rfl rfl (XQ.pv (i:=11) rfl kq rfl (V.extract rfl rfl) rfl rfl (XQ.pv (i:=12) rfl kq rfl (V.assign rfl) rfl rfl (XQ.pv (i:=13) rfl kq rfl (V.assign rfl) rfl rfl (XQ.done kq (gE ?_))))));refine cd ?_ ?_<;>intro h1
  ·have e:k.BI s n q=(0,(s.find (s.bU n).1 q).2):=by unfold KP.BI;rw[if_neg og,if_pos og]
   refine eH (pk [1,0]) ?_;grind [aU,aS,bN]
  ·have hf:(s.find (s.bU n).1 q).2=0:=og;have hfr:=Be hI hf;refine sd (ld (.ao .aa) (gy _) ?_);refine cd ?_ ?_<;>intro h2
   ·refine eH (pk [1,0]) ?_;grind [aU,aS,bN,KP.BI,ay]
   ·refine eH (pk [1,0]) ?_;grind [aU,aS,bN,KP.BI,ay]
 ·apply gO;refine eH (pz 2) ?_;grind [aU,aS,bN,KP.BI,ay]
end Go.X.Kn

namespace Go.X.Sg
open Go Go.Proofs Go.X
set_option maxRecDepth 20000
set_option maxHeartbeats 4000000
def ac4:vS Tryz.prog 256=some (32,1):=kq
def zk(n:Int):Spec Tryz.prog 141 [iI n] [] (fun v H1=>((1<=n/\n<=8)/\v= .nilIface/\H1=[])\/((n<1\/n>8)/\v= .iface 102 (iI 1)/\H1=[])):=by
 refine Spec.go 10 [0,2,8] [] Tryz.func141 fun W=> ?_;refine sp 5 rfl ?_ ?_<;>intro h1
 ·refine bI .nil ?_;grind [aU,aS,bN]
 ·refine cd ?_ ?_<;>intro h2
  ·refine bI .nil ?_;grind [aU,aS,bN]
  ·refine bI .nil ?_;grind [aU,aS,bN]
def VZ(b o:Nat)(s:BS)(n:Int)(hn:1<=n/\n<=8:=by omega):Spec Tryz.prog 142 [az b o 0,iI n] [.cells b o 11 (fC s)] (fun v H1=>v=iI (s.zR n)/\H1=[.cells b o 11 (fC s)]):=by
 refine Spec.go 22 [0,1,4,15] [] Tryz.func142 fun W=> ?_;refine sp 7 rfl ?_ ?_<;>intro h1
 ·refine sd (ld .aa (ni _ _) ?_);refine cd ?_ ?_<;>intro h2
  ·refine bI .h1 ?_;grind [aU,aS,bN,BS.zR]
  ·refine sd (ld .aa (ni _ _) (aO rfl rfl (ah .h1 rfl ?_)));grind [aU,aS,BS.zR]
 ·refine sd (ld .aa (ni _ _) (aO rfl rfl (ah .h1 rfl ?_)));grind [aU,aS,BS.zR]
def V0(b o:Nat)(s:BS)(n:Int):Spec Tryz.prog 138 [az b o 0,iI n] [.cells b o 11 (fC s)] (fun v H1=>v=ay 102 (s.send n).1/\H1=[.cells b o 11 (fC (s.send n).2)]):=by
 refine Spec.go 26 [0,1,4,5,15] [] Tryz.func138 fun W=> ?_;refine ca (zk _) .nil ?_;rintro _ _ (⟨h1,rfl,rfl⟩ | ⟨h1,rfl,rfl⟩)
 ·apply gO;refine cq (VZ _ _ _ _) .h1 ?_;refine cd ?_ ?_<;>intro h2
  ·refine rq [0,1,2,3,4,5,6,7,8,9] mixed (ld .aa (n9 _) (XO.v (V.shl rfl rfl og _ (vh)) rfl (gO ?_)));refine XO.v (V.bits rfl rfl rfl (by first | exact jL _ | exact iX og | (rw[IntKind.bits];omega)) (by first | exact jL _ | exact iX og | (rw[IntKind.bits];omega)) rfl) rfl (gO ?_);refine st .aa (vi _ (Jq _)) rfl (aO rfl rfl (ah .h1 rfl ?_));grind [aU,aS,BS.Yc,ay]
  ·refine bI .h1 ?_;grind [aU,aS,Jr,ay]
 ·apply gO;refine bI .h1 ?_;grind [aU,aS,Mh,ay]
def K1(b o:Nat)(s:BS)(n:Int):Spec Tryz.prog 75 [az b o 0,iI n,.bool true] [.cells b o 11 (fC s)] (fun v H1=>v=ay 102 (s.dZ n true).1/\H1=[.cells b o 11 (fC (s.dZ n true).2)]):=by
 refine Spec.go 35 [0,1,2,6,7,11,14,25] [] Tryz.func75 fun W=> ?_;refine ca (zk _) .nil ?_;rintro _ _ (⟨h1,rfl,rfl⟩ | ⟨h1,rfl,rfl⟩)
 ·apply gO;refine cd ?_ ?_<;>intro h2
  ·refine bI .h1 ?_;grind [aU,aS,bN,tV,ay]
  ·refine rq [0,1,2,3,4,5,6,7,8,9] mixed (ld .aa (oc _) (XO.v (V.shl rfl rfl og _ (vh)) rfl (gO ?_)));refine XO.v (V.bits rfl rfl rfl (by first | exact jL _ | exact iX og | (rw[IntKind.bits];omega)) (by first | exact jL _ | exact iX og | (rw[IntKind.bits];omega)) rfl) rfl (gO ?_);refine st .aa (zS _ (rU _)) rfl (rq [0,1,2,3,4,5,6,7,8,9] mixed (ld .aa (oc _) (XO.v (V.shl rfl rfl og _ (vh)) rfl (gO ?_))));refine XO.v (V.bits rfl rfl rfl (by first | exact jL _ | exact iX og | (rw[IntKind.bits];omega)) (by first | exact jL _ | exact iX og | (rw[IntKind.bits];omega)) rfl) rfl (gO ?_);refine st .aa (zS _ (Jq _)) rfl (aO rfl rfl (ah .h1 rfl ?_));first
   | (rw[wS og];exact⟨rfl,rfl⟩)
   | (rw[tV og];exact⟨rfl,rfl⟩)
   | (rw[BS.Om og og];refine⟨rfl,?_⟩;first | rfl | exact congrArg (fun f=>[aF.cells b o 11 (fC {s with bj:=f})]) (by funext j;simp only[ad];split<;>rfl))
 ·apply gO;refine bI .h1 ?_;grind [aU,aS,wS,ay]
def H3(b o:Nat)(s:BS)(n:Int):Spec Tryz.prog 75 [az b o 0,iI n,.bool false] [.cells b o 11 (fC s)] (fun v H1=>v=ay 102 (s.dZ n false).1/\H1=[.cells b o 11 (fC (s.dZ n false).2)]):=by
 refine Spec.go 35 [0,1,2,6,7,11,14,25] [] Tryz.func75 fun W=> ?_;refine ca (zk _) .nil ?_;rintro _ _ (⟨h1,rfl,rfl⟩ | ⟨h1,rfl,rfl⟩)
 ·apply gO;refine cd ?_ ?_<;>intro h2
  ·refine bI .h1 ?_;grind [aU,aS,bN,tV,ay]
  ·refine rq [0,1,2,3,4,5,6,7,8,9] mixed (ld .aa (oc _) (XO.v (V.shl rfl rfl og _ (vh)) rfl (gO ?_)));refine XO.v (V.bits rfl rfl rfl (by first | exact jL _ | exact iX og | (rw[IntKind.bits];omega)) (by first | exact jL _ | exact iX og | (rw[IntKind.bits];omega)) rfl) rfl (gO ?_);refine st .aa (zS _ (rU _)) rfl (aO rfl rfl (ah .h1 rfl ?_));grind [aU,aS,bN,BS.Om,ay]
 ·apply gO;refine bI .h1 ?_;grind [aU,aS,wS,ay]
def af8(b o:Nat)(s:BS)(n h:Int):Spec Tryz.prog 73 [az b o 0,iI n,iI h] [.cells b o 11 (fC s)] (fun v H1=>v=ay 102 (s.set n h).1/\H1=[.cells b o 11 (fC (s.set n h).2)]):=by
 refine Spec.go 42 [0,1,2,6,7,11,18,21,32] [] Tryz.func73 fun W=> ?_;refine ca (zk _) .nil ?_;rintro _ _ (⟨h1,rfl,rfl⟩ | ⟨h1,rfl,rfl⟩)
 ·apply gO;refine sp 15 rfl ?_ ?_<;>intro h2
  ·refine bI .h1 ?_;grind [aU,aS,bN,ay,BS.set]
  ·refine cd ?_ ?_<;>intro h3
   ·refine bI .h1 ?_;grind [aU,aS,bN,ay,BS.set]
   ·refine cd ?_ ?_<;>intro h4
    ·refine bI .h1 ?_;grind [aU,aS,bN,Mi,ay]
    ·refine sd (st .aa (EK _ _ og _) rfl ?_);refine cq (VZ _ _ _ _) .h1 ?_;refine cd ?_ ?_<;>intro h5
     ·refine rq [0,1,2,3,4,5,6,7,8,9] mixed (ld .aa (n9 _) (XO.v (V.shl rfl rfl og _ (vh)) rfl (gO ?_)));refine XO.v (V.bits rfl rfl rfl (by first | exact jL _ | exact iX og | (rw[IntKind.bits];omega)) (by first | exact jL _ | exact iX og | (rw[IntKind.bits];omega)) rfl) rfl (gO ?_);refine st .aa (vi _ (rU _)) rfl (aO rfl rfl (ah .h1 rfl ?_));grind [aU,aS,bN,BS.Yd,ay]
     ·refine bI .h1 ?_;grind [aU,aS,bN,BS.aca,ay]
 ·apply gO;refine bI .h1 ?_;grind [aU,aS,Qt,ay]
def aiB(x t:Nat)(hx:x<65536)(ht:x.testBit t=true)(hl:∀ j,j<t->x.testBit j=false)(ac5:t<16):Spec Tryz.prog 197 [.int .u16 (x:Int)] [.ro 0 0 32 dw] (fun v H1=>v=iI (t:Int)/\H1=[]):=by
 have rB:0<x:=by
  grind
 obtain⟨z1,z2,z3,z4,z5⟩:=afr ac5;refine Spec.go 15 [0,2,4] [] Tryz.func197 fun W=> ?_;refine LU rfl (by simp;omega) (XO.v (V.neg rfl _ (Ya ⟨rB,hx⟩)) rfl (gO ?_));refine XO.v (V.bits (r:=2^t) rfl rfl rfl hx (Nat.sub_lt dq rB) (congrArg some (NZ (w:=16) ht hl hx ac5))) rfl (gO ?_);refine XO.v (lE rfl Tryz.underlying84 Tryz.underlying257 _ z1) rfl (gO ?_);refine XO.v (V.mul rfl rfl _ z2) rfl (gO ?_);refine XO.v (V.shr rfl rfl og _ z3) rfl (gO ?_);refine XO.v (Fi rfl rfl ac4 og) rfl (gO ?_);refine XU .aa (Mg ac5) (XO.v (lE rfl Tryz.underlying5 Tryz.underlying3 _ z5) rfl (gO ?_));refine bI .nil ?_;grind [aU,aS]
def Pb(b o:Nat)(s:BS)(hz:s.dU 0=false)(h:Int):Spec Tryz.prog 146 [az b o 0,iI h] [.cells b o 11 (fC s),.ro 0 0 32 dw] (fun v H1=>v= .tuple #[iI (s.first h),.bool (decide (s.first h≠0))]/\H1=[.cells b o 11 (fC s)]):=by
 refine Spec.go 34 [0,1,4,5,6,7,18,32] [] Tryz.func146 fun W=> ?_;refine rq [0,1,2,3,4,5,6,7,8,9] mixed ?_;apply ld .aa (n9 _);apply ld .aa (oc _);refine XO.v (V.bits rfl rfl rfl (by first | exact jL _ | exact iX og | (rw[IntKind.bits];omega)) (by first | exact jL _ | exact iX og | (rw[IntKind.bits];omega)) rfl) rfl (gO ?_);refine lp (σ:=Nat×Nat) (fun x=>9-x.2) (fun x=>x.1<512/\x.2<=9/\(∀ j:Nat,x.1.testBit j=(decide (x.2<=j)&&(decide (j<9)&&s.dU j&& !s.bj j)))/\∀ j:Int,0<=j->j<x.2->¬(s.dU j=true/\s.bj j=false/\s.jm j=h)) (fun x=>[(6,.int .u16 (x.1:Int)),(0,az b o 0),(1,iI h)]) (fun x=>XM W (cm [.cells b o 11 (fC s),.ro 0 0 32 dw]) [.cells b o 11 (fC s),.ro 0 0 32 dw]) ((lS (pH s.dU) (pH s.bj),0)) ?_ S3 (xq (pz 2)) ?_
 ·grind [Ti,Uc,p7,lX]
 intro x hx;obtain⟨Iu,wE,Xl,hx4⟩:=hx;apply gC;refine cd ?_ ?_<;>intro h1
 ·have fN:x.1≠0:=og;obtain⟨t,ht,hl⟩:=Ct fN;have hb:=ht;rw[Xl]at hb;simp only[Bool.and_eq_true,decide_eq_true_eq,Bool.not_eq_true']at hb;obtain⟨hb1,⟨Cv,hb3⟩,hb4⟩:=hb;refine Iv 0 (aiB x.1 t og ht hl og) (pk [1]) rfl ?_;refine sd ?_;apply ld (.ao .aa) (ni _ _);refine cd ?_ ?_<;>intro h2
  ·refine eH (pk [1]) ?_;try dsimp only[aU,aS,bG,bN]
   rw[EL (k:=(t:Int)) og hb3 hb4 aq fun j h1 h2=> ?_]
   ·have ht0:(t:Int)≠0:=by
     grind
    simp_all
   ·by_cases q2:j<x.2
    ·simp_all
    ·have q4:=hl j.toNat og;rw[Xl,show((j.toNat:Nat):Int)=j from og]at q4;have q5:x.2<=j.toNat:=og;have q6:j.toNat<9:=og;simp_all
  ·refine XO.v (V.sub rfl rfl _ (Yb ⟨og,og⟩)) rfl (gO ?_);refine XO.v (V.bits rfl rfl rfl (show x.1<65536 by omega) (show x.1-1<65536 by omega) rfl) rfl (gO ?_);refine ag ((x.1&&&(x.1-1),t+1)) ?_ ?_ S3 (xq (pk [1,0]))
   ·omega
   ·refine⟨Nat.lt_of_le_of_lt Nat.and_le_left Iu,by simp;omega,fun j=> ?_,fun j h1 h2=> ?_⟩
    ·show(x.1&&&(x.1-1)).testBit j=_;rw[P2 ht hl,Xl];by_cases q1:j<t
     ·grind
     ·by_cases q2:j=t
      ·simp_all
      ·have q3:t+1<=j:=og;have q4:x.2<=j:=og;simp_all
    ·by_cases q1:j=t
     ·simp_all
     ·by_cases q2:j<x.2
      ·simp_all
      ·have q3:j<t:=by simp at h2;omega
       have q4:=hl j.toNat og;rw[Xl,show((j.toNat:Nat):Int)=j from og]at q4;have q5:x.2<=j.toNat:=og;have q6:j.toNat<9:=og;simp_all
 ·refine eH .h1 ?_;try dsimp only[aU,aS,bG,bN]
  have rB:x.1=0:=og;rw[EM fun j h1 h2=> ?_]
  ·simp_all
  ·by_cases q2:j<x.2
   ·simp_all
   ·have q4:=Xl j.toNat;rw[rB,show((j.toNat:Nat):Int)=j from og]at q4;simp_all
def D7(b o:Nat)(s:BS)(hz:s.dU 0=false):Spec Tryz.prog 143 [az b o 0] [.cells b o 11 (fC s),.ro 0 0 32 dw] (fun v H1=>v= .tuple #[iI (s.first 0),.bool (decide (s.first 0≠0))]/\H1=[.cells b o 11 (fC s)]):=by
 refine Spec.go 8 [0,2,3] [] Tryz.func143 fun W=> ?_;refine Iv 1 (Pb _ _ _ hz _) (pz 2) rfl ?_;refine eH .h1 ?_;grind [aU,aS]
def ac6(b o:Nat)(s:BS)(hz:s.dU 0=false):Spec Tryz.prog 77 [az b o 0] [.cells b o 11 (fC s),.ro 0 0 32 dw] (fun v H1=>v= .tuple #[iI s.take.1,.bool (decide (s.take.1≠0))]/\H1=[.cells b o 11 (fC s.take.2)]):=by
 have hc:=s.tU 2 hz;refine Spec.go 23 [0,2,3,4,5,11] [] Tryz.func77 fun W=> ?_;refine Iv 1 (Pb _ _ _ hz _) (pz 2) rfl ?_;refine cd ?_ ?_<;>intro h1
 ·refine rq [0,1,2,3,4,5,6,7,8,9] mixed (ld .aa (n9 _) (XO.v (V.shl rfl rfl og _ (vh)) rfl (gO ?_)));refine XO.v (V.bits rfl rfl rfl (by first | exact jL _ | exact iX og | (rw[IntKind.bits];omega)) (by first | exact jL _ | exact iX og | (rw[IntKind.bits];omega)) rfl) rfl (gO ?_);refine st .aa (vi _ (rU _)) rfl (bA rfl rfl rfl (ah .h1 rfl ?_));grind [aU,aS,BS.take]
 ·refine eH .h1 ?_;grind [aU,aS,Ha]
end Go.X.Sg

namespace Go.X.Gr
open Go Go.RowKit Go.Proofs Go.X
def D8:vS Tryz.prog 67=some (10,5):=kq
def pC:eI Tryz.prog 151 0=some 0:=kq
def Zk:eI Tryz.prog 66 0=some 0:=kq
def la:jR Tryz.prog 3=true:=kq
def D9:jR Tryz.prog 91=true:=kq
def rm(p o b1 b2:Nat)(n:Int)(aD:Int->Int):List (Addr×Value):=
 (⟨b1,0,none⟩,iI n)::(⟨b2,0,none⟩,az p o 0)::(List.range 10).map (fun k=>(⟨p,o+(0+0+k*5+0),none⟩,iI (aD (k:Int))))
def lg{p o b1 b2:Nat}{n:Int}{aD:Int->Int}{s':TG}(hp:s'.aD=aD){H:List aF}{w:World}(hg:Go.X.Good H w)(h1:lh H (.cells b1 0 1 (aB (iI n))))(h2:lh H (.cells b2 0 1 (aB (az p o 0))))(h3:lh H (.cells p o 60 (bH s'))):∀ y∈rm p o b1 b2 n aD,w.cell? y.1=some y.2:=fun y hy=>by
 simp only[rm,List.mem_cons,List.mem_map,List.mem_range]at hy;rcases hy with rfl | rfl | ⟨k,hk,rfl⟩
 ·exact ed (i:=0) (hg.1 _ h1.mem)
 ·exact ed (i:=0) (hg.1 _ h2.mem)
 ·have h4:=ed (hg.1 _ h3.mem) (gi s' (k:Int)).1;simp_all[bH]
def RM{p o b1 b2:Nat}{n:Int}{aD:Int->Int}{w:World}(h:∀ y∈rm p o b1 b2 n aD,w.cell? y.1=some y.2){z:Int}(h0:0<=z/\z<10):w.cell? ⟨p,o+(0+0+z.toNat*5+0),none⟩=some (iI (aD z)):=by
 have:=h (⟨p,o+(0+0+z.toNat*5+0),none⟩,iI (aD (z.toNat:Int))) (by
  simp only[rm,List.mem_cons,List.mem_map,List.mem_range]
  exact .inr (.inr ⟨z.toNat,og,rfl⟩))
 rw[show((z.toNat:Nat):Int)=z from og]at this;exact this
set_option maxHeartbeats 1000000 in def uQ(p o b1 b2:Nat)(n:Int)(aD:Int->Int)(xs:List QA)(mw:tY aD n (my xs))(w:World)(hR:∀ y∈rm p o b1 b2 n aD,w.cell? y.1=some y.2):SeqStopsK Fence.wide 2 Tryz.prog 184 #[az b1 0 0,az b2 0 0] (fun x:QA=> #[iI x.1]) (Sn (rm p o b1 b2 n aD)) (· =xs) (· <+:xs) xs.length w:=by
 intro l J Jx W hW hJ hJx hY h0;have hR0:∀ y∈rm p o b1 b2 n aD,W.cell? y.1=some y.2:=fun y hy=>by
  rw[hW.cell (XG (hR y hy))];exact hR y hy
 have e:(#[.func (.yield l) #[] #[]]++ #[az b1 0 0,az b2 0 0]:Array Value)=[.func (.yield l) #[] #[],az b1 0 0,az b2 0 0].toArray:=rfl;rw[e];refine callsIn_wide.2 (enter (ps:=[]) (cs:=[]) (M:=fun w=>J [] w/\∀ y∈rm p o b1 b2 n aD,w.cell? y.1=some y.2) Tryz.func184 rfl rfl ?_ ⟨h0,hR0⟩);apply XC.seq;apply XC.region;apply XO.l (wJ (b:=b1) (o:=0) (v:=iI n) rfl (fun w hw=>hw.2 (⟨b1,0,none⟩,iI n) (by simp[rm])) la) rfl;apply XO.v (V.assign rfl) rfl;apply XO.nil;apply XE.next;apply XC.fA [(0,_),(2,_),(4,_)] (Sub.cons rfl (Sub.cons rfl (Sub.cons rfl (Sub.nil _))));apply XC.block;apply XC.loop (σ:=List QA×List QA×Int) (fun x=>x.2.1.length) (fun x=>x.1++x.2.1=xs/\tY aD x.2.2 (my x.2.1)) (fun x=>[(0,.func (.yield l) #[] #[]),(2,az b2 0 0),(4,iI x.2.2)]) (fun x w=>J x.1 w/\∀ y∈rm p o b1 b2 n aD,w.cell? y.1=some y.2) ([],xs,n) ⟨rfl,mw⟩ (Sub.cons rfl (Sub.cons rfl (Sub.cons rfl (Sub.nil _)))) fun _ hw=>hw;rintro⟨pre,rest,q⟩ ⟨hx,hq⟩;apply XC.seq;apply XC.seq;apply XC.region;apply XO.v (V.move rfl) rfl;apply XO.v (SU rfl rfl rfl) rfl;apply XO.nil;apply XE.next;refine XC.NP rfl (fun hq0=> ?_) fun hq0=> ?_
 ·have LD:q>=0:=hq0;match rest,hq with
  | [],hq=>exact absurd hq (by show ¬q<0;omega)
  | x::rest,hq=>
   obtain⟨e1,e2,e3,e4⟩:=hq;have e1':x.1=q:=e1;subst e1';apply XC.skip;apply XE.next;apply XC.fA [(0,_),(2,_),(4,_)] (Sub.cons rfl (Sub.cons rfl (Sub.cons rfl (Sub.nil _))));apply XC.seq;apply XC.block;apply XC.seq;apply LQ;apply XI.v (V.move rfl) rfl;apply XI.v (V.move rfl) rfl;refine XI.yield (R:=fun e w'=>(e= .returned (.bool true)/\J (pre++[x]) w'/\∀ y∈rm p o b1 b2 n aD,w'.cell? y.1=some y.2)\/(e= .returned (.bool false)/\Jx (pre++[x]) w')) rfl rfl (fun w hw=>YieldAt.weak (hY pre x w hw.1 (by rw[<-hx];simp)) fun e w' h=> ?_) rfl fun e w' h=> ?_
   ·rcases h with⟨h1,h2,h3⟩ | h
    ·exact .inl ⟨h1,h2,fun y hy=>h3 y hy (hw.2 y hy)⟩
    ·exact .inr h
   ·rcases h with⟨rfl,h2⟩ | ⟨rfl,h2⟩
    ·refine⟨true,rfl,?_⟩;apply XI.v (V.not rfl) rfl;apply XI.nil;apply XE.next;apply Ck rfl rfl;apply XC.skip;apply gF;apply XE.next;apply XC.fA [(0,_),(2,_),(4,_)] (Sub.cons rfl (Sub.cons rfl (Sub.cons rfl (Sub.nil _))));refine XC.mono (M':=fun w'=>J (pre++[x]) w'/\∀ y∈rm p o b1 b2 n aD,w'.cell? y.1=some y.2) (fun w' dX=>by
      rcases dX with⟨_,h⟩ | ⟨h,_⟩
      ·exact h
      ·simp at h) ?_
     apply XC.region;apply XO.l (wJ (b:=b2) (o:=0) (v:=az p o 0) rfl (fun w hw=>hw.2 (⟨b2,0,none⟩,az p o 0) (by simp[rm])) D9) rfl;apply XO.v (V.move rfl) rfl;apply XO.v (bC rfl) rfl;apply XO.v (V.fieldAddr rfl pC) rfl;apply XO.v (jh rfl rfl D8 ⟨e2,e3⟩) rfl;apply XO.v (V.fieldAddr rfl Zk) rfl;apply XO.l (wJ rfl (fun w hw=>RM hw.2 ⟨e2,e3⟩) la) rfl;apply XO.v (V.assign rfl) rfl;apply XO.nil;refine XE.again (pre++[x],rest,aD x.1) sq ⟨by rw[<-hx];simp,e4⟩ (Sub.cons rfl (Sub.cons rfl (Sub.cons rfl (Sub.nil _)))) fun _ hw=>hw
    ·refine⟨false,rfl,?_⟩;apply XI.v (V.not rfl) rfl;apply XI.nil;apply XE.next;apply Cj rfl rfl;apply XC.ret;apply lD;apply rD;apply rD;apply lD;refine NQ rfl fun w' dX=>⟨⟨_,rfl⟩,.inr ⟨pre++[x],?_,?_⟩⟩
     ·exact⟨rest,by rw[<-hx];simp⟩
     ·rcases dX with⟨h,_⟩ | ⟨_,h⟩
      ·simp at h
      ·exact h
 ·apply XC.exit;apply pJ;apply pJ;apply xy;refine cU rfl fun w' dX=>⟨⟨_,rfl⟩,.inl ⟨pre,?_,dX.1⟩⟩;match rest,hq with
  | [],_=>rw[<-hx];simp
  | x::rest,hq=>
   have LD:¬q>=0:=hq0;exact absurd hq.2.1 LD
end Go.X.Gr

namespace Go.X.Gr
open Go Go.Proofs Go.X
set_option maxRecDepth 20000
set_option maxHeartbeats 4000000
def Ea:cX Tryz.prog 184=true:=kq
def nW:fm Tryz.prog 3=some 1:=kq
def K2(p o:Nat)(s:TG)(n:Int):Spec Tryz.prog 113 [az p o 0,iI n] [.cells p o 60 (bH s)] (fun v H1=>((s.cF n=0/\0<=n/\n<10/\s.aa n=true)/\v= .nilIface/\H1=[.cells p o 60 (bH s)])\/(s.cF n≠0/\v= .iface 102 (iI (s.cF n))/\H1=[.cells p o 60 (bH s)])):=by
 refine Spec.go 20 [0,1,4,10,18] [] Tryz.func113 fun W=> ?_;refine sp 7 rfl ?_ ?_<;>intro h1
 ·refine bI .h1 ?_;try dsimp only[aU,aS,bG,bN]
  have e:s.cF n=1:=by unfold TG.cF;rw[if_pos og]
  simp_all
 ·refine cd ?_ ?_<;>intro h2
  ·refine bI .h1 ?_;try dsimp only[aU,aS,bG,bN]
   have e:s.cF n=1:=by unfold TG.cF;rw[if_pos og]
   simp_all
  ·refine sd (ld .aa (BG _ _ og) ?_);refine wM ?_ ?_<;>intro h3
   ·try simp only[sb]at h3
    refine bI .h1 ?_;try dsimp only[aU,aS,bG,bN]
    have e:s.cF n=2:=by unfold TG.cF;rw[if_neg og,if_neg (by simp_all)]
    simp_all
   ·try simp only[sb]at h3
    refine bI .h1 ?_;try dsimp only[aU,aS,bG,bN]
    have e:s.cF n=0:=by unfold TG.cF;rw[if_neg og,if_pos (by simp_all)]
    simp_all
def Eb(q m:Int):Spec Tryz.prog 114 [iI q,iI m] [] (fun v H1=>((0<=q/\q<=20/\0<=m/\m<=64)/\v= .nilIface/\H1=[])\/(TG.Sw q m=1/\v= .iface 102 (iI 1)/\H1=[])):=by
 refine Spec.go 20 [0,1,4,18] [] Tryz.func114 fun W=> ?_;refine sp 7 rfl ?_ ?_<;>intro h1
 ·refine bI .nil ?_;first
  | exact .inr ⟨by unfold TG.Sw;rw[if_pos og],rfl,rfl⟩
  | exact .inl ⟨og,rfl,rfl⟩
 ·refine sp 11 rfl ?_ ?_<;>intro h2
  ·refine bI .nil ?_;first
   | exact .inr ⟨by unfold TG.Sw;rw[if_pos og],rfl,rfl⟩
   | exact .inl ⟨og,rfl,rfl⟩
  ·refine sp 15 rfl ?_ ?_<;>intro h3
   ·refine bI .nil ?_;first
    | exact .inr ⟨by unfold TG.Sw;rw[if_pos og],rfl,rfl⟩
    | exact .inl ⟨og,rfl,rfl⟩
   ·refine cd ?_ ?_<;>intro h4
    ·refine bI .nil ?_;first
     | exact .inr ⟨by unfold TG.Sw;rw[if_pos og],rfl,rfl⟩
     | exact .inl ⟨og,rfl,rfl⟩
    ·refine bI .nil ?_;grind [aU,aS,bN]
def V1(g:GV)(q m:Int)(h0: -9223372036854775808<=g.pr+q/\g.pr+q<=9223372036854775807)(h1: -9223372036854775808<=g.pg+m/\g.pg+m<=9223372036854775807):Spec Tryz.prog 116 [.agg g.cR,iI q,iI m] [] (fun v H1=>v= .bool (g.room q m)/\H1=[]):=by
 refine Spec.go 41 [1,2,3,6] [] Tryz.func116 fun W=> ?_;refine XO.box (m:=5) (C:=ES g) rfl rfl (Ur g) rfl ?_;intro bg;apply gO;refine sp 9 rfl ?_ ?_<;>intro h1
 ·refine sp 26 rfl ?_ ?_<;>intro h2
  ·refine bI .nil ?_;grind [aU,aS,bN,GV.room]
  ·apply ld .aa (gD _);refine sp 31 rfl ?_ ?_<;>intro h3
   ·refine bI .nil ?_;grind [aU,aS,bN,GV.room]
   ·apply ld .aa (qa _);refine sd ?_;apply ld .aa (gD _);refine bI .nil ?_;grind [aU,aS,GV.room]
 ·apply ld .aa (qU _);refine sp 14 rfl ?_ ?_<;>intro h4
  ·refine sp 26 rfl ?_ ?_<;>intro h5
   ·refine bI .nil ?_;grind [aU,aS,bN,GV.room]
   ·apply ld .aa (gD _);refine sp 31 rfl ?_ ?_<;>intro h6
    ·refine bI .nil ?_;grind [aU,aS,bN,GV.room]
    ·apply ld .aa (qa _);refine sd ?_;apply ld .aa (gD _);refine bI .nil ?_;grind [aU,aS,GV.room]
  ·apply ld .aa (ET _);refine sd ?_;apply ld .aa (qU _);refine sp 23 rfl ?_ ?_<;>intro h7
   ·refine sp 26 rfl ?_ ?_<;>intro h8
    ·refine bI .nil ?_;grind [aU,aS,bN,GV.room]
    ·apply ld .aa (gD _);refine sp 31 rfl ?_ ?_<;>intro h9
     ·refine bI .nil ?_;grind [aU,aS,bN,GV.room]
     ·apply ld .aa (qa _);refine sd ?_;apply ld .aa (gD _);refine bI .nil ?_;grind [aU,aS,GV.room]
   ·refine bI .nil ?_;grind [aU,aS,bN,GV.room]
def Ec(p o:Nat)(n:Int):Spec Tryz.prog 115 [az p o 0,iI n] [] (fun v H1=>∃ b1 b2,v= .func (.func 184) #[] #[az b1 0 0,az b2 0 0]/\H1=[.cells b1 0 1 (aB (iI n)),.cells b2 0 1 (aB (az p o 0))]):=by
 refine Spec.go 6 [2,3,4] [] Tryz.func115 fun W=> ?_;apply XO.box (m:=1) (C:=aB (az p o 0)) rfl rfl (fun _ _=>rfl) rfl;intro b2;apply gO;apply XO.box (m:=1) (C:=aB (iI n)) rfl rfl (fun _ _=>rfl) rfl;intro b1;apply gO;apply XO.v (pM rfl rfl) rfl;apply gO;refine bI (pz 2) ?_;grind [aU,aS]
def ac8(p o:Nat)(s:TG)(hO:s.Ok)(n:Int)(hn:0<=n/\n<10/\s.aa n=true):Spec Tryz.prog 203 [az p o 0,iI n] [.cells p o 60 (bH s)] (fun v H1=>v=iI ((s.dm n).length:Int)/\H1=[.cells p o 60 (bH s)]):=by
 have mw:=hO.dm hn.1 hn.2.1 hn.2.2;obtain⟨xs,Ls⟩:=qS _ mw.1.range;have Pc:xs.length<=4:=by
  grind [my]
 refine tF 13 [0,1,4,5,8] [] Tryz.func203 rfl rfl rfl ?_;intro W;refine XO.bQ (z:=iI 0) (m:=1) (C:=aB (iI 0)) (fun _ _=>rfl) ?_;intro bk;refine gO ?_;refine st .aa (aB.st _ _) rfl ?_;refine ca (Ec _ _ _) .nil ?_;rintro _ _ ⟨b1,b2,rfl,rfl⟩;refine gO ?_;refine P5 (xs:=xs) (fun x:QA=>iI x.1) (fun pre=>pre.length<=xs.length) (fun _=>False) (fun pre=>[.cells b1 0 1 (aB (iI n)),.cells b2 0 1 (aB (az p o 0)),.cells p o 60 (bH s),.cells bk 0 1 (aB (iI (pre.length:Int)))]) (fun pre=>[.cells b1 0 1 (aB (iI n)),.cells b2 0 1 (aB (az p o 0)),.cells p o 60 (bH s),.cells bk 0 1 (aB (iI (pre.length:Int)))]) rfl (nw Ea) rfl (fun w hw=>uQ p o b1 b2 n s.aD xs (by rw[Ls];exact mw.1) w (lg (by rfl) hw.fa .aa (.ao .aa) (.t3 .aa))) ?_ (xq (pk [0,0,1,0])) (fun _=>rfl) (fun _=>rfl) ?_ ?_ ?_
 ·simp_all
 ·intro pre x w hV hlen hx;refine XB.block ?_;refine XB.region ?_;refine XO.l (V.load rfl (fb (.t3 .aa)) (aB.ld _) la) rfl ?_;refine XO.v (V.add rfl rfl _ (IntWalk.i64_in _ og)) rfl ?_;refine XO.store rfl rfl (.t3 .aa) (aB.st _ _) rfl nW ?_;refine XO.nil ?_;refine gF ?_;refine xC hx ?_ rfl (fun w2 hg=>lg (by rfl) hg .aa (.ao .aa) (.t2 .aa)) fun w2 lG=> ?_;all_goals grind
 ·intro hV D hD;refine gE ?_;refine ld (.t4 .aa) (aB.ld _) ?_;refine nu (.inr rfl) .aa rfl hD ?_;refine bI (pk [2]) ?_;grind [aU,aS,my]
 ·intro pre hp hV D hD;exact hV.elim
end Go.X.Gr
