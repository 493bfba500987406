import Derived.Test.YthdinakloheinaaGreatDoorkJBG
import Derived.Test.YthdinakloheinaaGreatDoorkJN1
namespace Go.X.Kn
open Go Go.X
theorem qW{f g:Int→Bool} :∀ (k:Nat),(∀ j:Int,0≤j→j<k→f j=g j)→Tr.jc f k=Tr.jc g k
 | 0,_=>rfl
 | k+1,h=>by
  unfold Tr.jc
  rw[qW k (fun j a b=>h j a (by omega)),h (k:Int) (by omega) (by omega)]
theorem nW{f g:Int→Bool}{n:Int}(hf:f n=true)(hg:g n=false)(he:∀ j,j≠n→g j=f j):∀ (k:Nat),0≤n→n<k→Tr.jc f k=Tr.jc g k+1
 | 0,h0,h1=>by omega
 | k+1,h0,h1=>by
  unfold Tr.jc
  by_cases e:(k:Int)=n
  ·rw[e,hf,hg,qW k (fun j a b=>(he j (by omega)).symm)];simp
  ·rw[nW hf hg he k h0 (by omega),he _ e];omega
theorem r7{f:Int→Bool}{n:Int}(hf:f n=true):∀ (k:Nat),0≤n→n<k→1≤Tr.jc f k
 | 0,h0,h1=>by omega
 | k+1,h0,h1=>by
  unfold Tr.jc
  by_cases e:(k:Int)=n
  ·rw[e,hf];have:=Tr.Bg f k;simp;omega
  ·have:=r7 hf k h0 (by omega)
   split<;>omega
def KA.vD(a:KA):Int→Bool:=fun j=>decide ((a.u j).st=1)
def KA.il(a:KA):Int:=Tr.jc a.vD 20
structure TK (a:KA):Prop where
 bx:∀ n,(a.u n).bx=Sg.BS.init
 f0:∀ n,(a.u n).st=1→(a.u n).fd 0=1
 f1:∀ n,(a.u n).st=1→(a.u n).fd 1=2
 f2:∀ n i,(a.u n).st=1→2≤i→i<6→(a.u n).fd i=0
 k0:a.O.kind 0=2
 k1:a.O.kind 1=3
 n0:a.O.n 0=0
 n1:a.O.n 1=0
 r0:a.O.refs 0=a.il
 r1:a.O.refs 1=a.il
 e0:a.P.e 0 0=1
 e1:a.P.e 0 1=1
 s0:(a.u 0).st=1
theorem TK.NI{a:KA}(h:TK a):1≤a.il:=r7 (n:=0) (by unfold KA.vD;rw[h.s0];rfl) 20 (by omega) (by omega)
theorem TK.NQ{a:KA}(h:TK a){n:Int}(hn:0≤n∧n<20)(h0:n≠0)(hs:(a.u n).st=1):2≤a.il:=by
 have e1:=nW (f:=a.vD) (g:=aa a.vD n false) (n:=n) (by unfold KA.vD;rw[hs];rfl) (ae _ _ _) (fun j hj=>ad _ _ hj) 20 hn.1 (by omega)
 have e2:=r7 (f:=aa a.vD n false) (n:=0) (by rw[ad _ _ (by omega)];unfold KA.vD;rw[h.s0];rfl) 20 (by omega) (by omega)
 unfold KA.il;omega
theorem TK.same{a a':KA}(h:TK a)(hb:∀ n,(a'.u n).bx=Sg.BS.init)(hs:∀ n,(a'.u n).st=1↔(a.u n).st=1)(hf:∀ n,(a'.u n).st=1→(a'.u n).fd=(a.u n).fd)(hO:a'.O=a.O)(hP:a'.P=a.P):TK a':=by
 have hc:a'.il=a.il:=qW 20 (fun j _ _=>by unfold KA.vD;rw[decide_eq_decide];exact hs j)
 exact⟨hb,fun n q=>by rw[hf n q];exact h.f0 n ((hs n).1 q),fun n q=>by rw[hf n q];exact h.f1 n ((hs n).1 q),fun n i q=>by rw[hf n q];exact h.f2 n i ((hs n).1 q),by rw[hO];exact h.k0,by rw[hO];exact h.k1,by rw[hO];exact h.n0,by rw[hO];exact h.n1,by rw[hO,hc];exact h.r0,by rw[hO,hc];exact h.r1,by rw[hP];exact h.e0,by rw[hP];exact h.e1,(hs 0).2 h.s0⟩
theorem TK.aA{a:KA}(h:TK a):a.O.is 0=0∧a.O.is 1=0:=by
 have:=h.NI
 unfold Tr.OS.is
 rw[h.r0,h.r1]
 exact⟨by rw[if_neg (by omega),if_neg (by omega)],by rw[if_neg (by omega),if_neg (by omega)]⟩
theorem pW{O:Tr.OS}{P:Tr.PS}{n:Int}(h:O.is n=0)(hr:0<O.refs n-1):Tr.eh O n=Tr.gq O n∧Tr.eK P O n=P:=by
 unfold Tr.eh Tr.eK
 rw[if_neg (by omega),if_pos hr,if_neg (fun q=>q.1.2 hr)];exact⟨rfl,rfl⟩
theorem TK.OD{a:KA}(h:TK a){n:Int}(hs:(a.u n).st=1)(hc:2≤a.il):mf (a.u n).fd a.O a.P 6=(Tr.gq (Tr.gq a.O 0) 1,a.P):=by
 obtain⟨i0,i1⟩:=h.aA
 have g0:=h.f0 n hs
 have g1:=h.f1 n hs
 have s0:mf (a.u n).fd a.O a.P 1=(Tr.gq a.O 0,a.P):=by
  show(if(a.u n).fd ((0:Nat):Int)>0 then _ else _)=_
  rw[show(((0:Nat):Int))=0 from rfl,g0,if_pos (by omega)]
  show(Tr.eh a.O (1-1),Tr.eK a.P a.O (1-1))=_
  rw[show(1:Int)-1=0 from rfl,(pW (P:=a.P) i0 (by rw[h.r0];omega)).1,(pW (P:=a.P) i0 (by rw[h.r0];omega)).2]
 have s1:mf (a.u n).fd a.O a.P 2=(Tr.gq (Tr.gq a.O 0) 1,a.P):=by
  show(if(a.u n).fd ((1:Nat):Int)>0 then(Tr.eh (mf (a.u n).fd a.O a.P 1).1 _,Tr.eK (mf (a.u n).fd a.O a.P 1).2 (mf (a.u n).fd a.O a.P 1).1 _)else _)=_
  rw[s0,show(((1:Nat):Int))=1 from rfl,g1,if_pos (by omega)]
  have er:(Tr.gq a.O 0).refs 1=a.O.refs 1:=by
   show aa a.O.refs 0 (a.O.refs 0-1) 1=_
   rw[ad _ _ (by decide)]
  have ei:(Tr.gq a.O 0).is 1=0:=by
   unfold Tr.OS.is at i1 ⊢
   rw[er];exact i1
  show(Tr.eh (Tr.gq a.O 0) (2-1),Tr.eK a.P (Tr.gq a.O 0) (2-1))=_
  rw[show(2:Int)-1=1 from rfl,(pW (P:=a.P) ei (by rw[er,h.r1];omega)).1,(pW (P:=a.P) ei (by rw[er,h.r1];omega)).2]
 have sk:∀ k:Nat,2≤k→k≤6→mf (a.u n).fd a.O a.P k=(Tr.gq (Tr.gq a.O 0) 1,a.P):=fun k=>by
  induction k with
  | zero=>intro h2;omega
  | succ k ih=>
   intro h2 h6
   by_cases e:k=1
   ·subst e;exact s1
   ·have:=ih (by omega) (by omega)
    show(if(a.u n).fd ((k:Nat):Int)>0 then _ else mf (a.u n).fd a.O a.P k)=_
    rw[h.f2 n k hs (by omega) (by omega),if_neg (by omega)];exact this
 exact sk 6 (by omega) (by omega)
theorem TK.end_{a:KA}(h:TK a){n:Int}(hn:0≤n∧n<20)(h0:n≠0)(hs:(a.u n).st=1)(co:Int):TK (a.bG n co)∧(a.bG n co).P=a.P:=by
 have hc:=h.NQ hn h0 hs
 have he:=h.OD hs hc
 have hO:(a.bG n co).O=Tr.gq (Tr.gq a.O 0) 1:=by show(mf _ _ _ 6).1=_;rw[he]
 have hP:(a.bG n co).P=a.P:=by show(mf _ _ _ 6).2=_;rw[he]
 have hu:∀ m,m≠n→(a.bG n co).u m=a.u m:=fun m hm=>nE _ _ hm
 have hcn:(a.bG n co).il=a.il-1:=by
  have:=nW (f:=a.vD) (g:=(a.bG n co).vD) (n:=n) (by unfold KA.vD;rw[hs];rfl) (by unfold KA.vD;rw[jm];rfl) (fun j hj=>by unfold KA.vD;rw[hu j hj]) 20 hn.1 (by omega)
  unfold KA.il;omega
 have hl:∀ m,((a.bG n co).u m).st=1→m≠n∧(a.u m).st=1:=fun m q=>by
  have hm:m≠n:=by rintro rfl;rw[jm]at q;exact absurd q (by decide)
  rw[hu m hm]at q;exact⟨hm,q⟩
 refine⟨⟨fun m=> ?_,fun m q=> ?_,fun m q=> ?_,fun m i q=> ?_,by rw[hO];exact h.k0,by rw[hO];exact h.k1,by rw[hO];exact h.n0,by rw[hO];exact h.n1,?_,?_,by rw[hP];exact h.e0,by rw[hP];exact h.e1,by rw[hu 0 (Ne.symm h0)];exact h.s0⟩,hP⟩
 ·exact fG a.u n m _ (Q:=fun z=>z.bx=Sg.BS.init) (fun _=>h.bx n) (fun _=>h.bx m)
 ·obtain⟨q1,q2⟩:=hl m q;rw[hu m q1];exact h.f0 m q2
 ·obtain⟨q1,q2⟩:=hl m q;rw[hu m q1];exact h.f1 m q2
 ·obtain⟨q1,q2⟩:=hl m q;rw[hu m q1];exact h.f2 m i q2
 ·rw[hO,hcn,←h.r0]
  show aa (aa a.O.refs 0 (a.O.refs 0-1)) 1 (aa a.O.refs 0 (a.O.refs 0-1) 1-1) 0=_
  rw[ad _ _ (by decide),ae]
 ·rw[hO,hcn,←h.r1]
  show aa (aa a.O.refs 0 (a.O.refs 0-1)) 1 (aa a.O.refs 0 (a.O.refs 0-1) 1-1) 1=_
  rw[ae,ad _ _ (by decide)]
theorem TK.vL{a:KA}(h:TK a){n:Int}(hs:(a.u n).st≠1):TK (a.cr n):=by
 have hst:∀ m,((a.cr n).u m).st=1↔(a.u m).st=1:=fun m=>by
  by_cases e:m=n
  ·subst e
   rw[show(a.cr m).u m=PA.nil from ae _ _ _]
   exact⟨fun q=>absurd (show(0:Int)=1 from q) (by decide),fun q=>absurd q hs⟩
  ·rw[lg _ e]
 refine h.same (fun m=> ?_) hst (fun m q=> ?_) rfl rfl
 ·exact fG a.u n m _ (Q:=fun z=>z.bx=Sg.BS.init) (fun _=>rfl) (fun _=>h.bx m)
 ·have:m≠n:=by rintro rfl;exact hs ((hst m).1 q)
  rw[lg _ this]
theorem TK.shut{a:KA}(h:TK a)(z:Int):TK (a.bw z):=h.same h.bx (fun _=>Iff.rfl) (fun _ _=>rfl) rfl rfl
theorem TK.Ge(k:Int):∀ {l:List Int} {a:KA},TK a→(∀ m∈l,0≤m∧m<20)→(0∉l)→TK (l.foldl (KA.dC k) a)∧(l.foldl (KA.dC k) a).P=a.P
 | [],_,w,_,_=>⟨w,rfl⟩
 | x::r,a,w,hr,hl=>by
  have hx0:x≠0:=by rintro rfl;exact hl (.head _)
  have hs:TK (a.dC k x)∧(a.dC k x).P=a.P:=by
   unfold KA.dC
   split
   ·exact⟨w,rfl⟩
   ·split
    ·rename_i c
     obtain⟨h1,h2⟩:=w.end_ (hr x (.head _)) hx0 c 0
     exact⟨h1.vL (by rw[jm];decide),h2⟩
    ·rename_i c;exact⟨w.vL c,rfl⟩
  obtain⟨h1,h2⟩:=TK.Ge k (l:=r) hs.1 (fun m hm=>hr m (.tail _ hm)) (fun q=>hl (.tail _ q))
  exact⟨h1,h2.trans hs.2⟩
theorem TK.lC:∀ {l:List Int} {a:KA},TK a→TK (l.foldl KA.bw a)∧(l.foldl KA.bw a).P=a.P
 | [],_,w=>⟨w,rfl⟩
 | x::r,a,w=>by
  obtain⟨h1,h2⟩:=TK.lC (l:=r) (w.shut x)
  exact⟨h1,h2⟩
theorem TK.rounds{a:KA}(w:TK a):∀ k,TK (a.rounds k)∧(a.rounds k).P=a.P
 | 0=>⟨w,rfl⟩
 | k+1=>by
  obtain⟨h1,h2⟩:=TK.rounds w k
  obtain⟨h3,h4⟩:=TK.lC (l:=Sp.eN (a.rounds k).s.here 6) h1
  exact⟨h3,h4.trans h2⟩
theorem Fw:(Sg.BS.init.send 3).2=Sg.BS.init:=Quiet.init.eb
theorem TK.eT{a:KA}(h:TK a)(n p:Int):TK (a.bZ n p):=h.same (fun m=>by rw[(b8 _ _ _ _).2.1];exact h.bx m) (fun m=>by rw[(b8 _ _ _ _).1]) (fun m _=>(b8 _ _ _ _).2.2.2.2) rfl rfl
theorem TK.eb{a:KA}(h:TK a)(p:Int):TK (a.dx p)∧(a.dx p).P=a.P:=by
 unfold KA.dx;split
 ·refine⟨h.same (fun m=> ?_) (fun m=>by rw[fF]) (fun m _=> ?_) rfl rfl,rfl⟩
  ·by_cases e:m=p
   ·subst e;rw[mW,h.bx];exact Fw
   ·rw[kH _ _ e];exact h.bx m
  ·by_cases e:m=p
   ·subst e;rw[mW]
   ·rw[kH _ _ e]
 ·exact⟨h,rfl⟩
theorem Ox{a:KA}{T:Int}(w:a.Wk T)(r0:a.R0)(hd:a.dep 0=1){n:Int}(hn:n≠0)(hs:(a.u n).st≠0)(hh:a.head n=n):0∉(a.s.mem (a.s.bU n).1).1:=fun q=>by
 have hr:=w.gg hs
 obtain⟨j,_,_,e,_⟩:=SS.uX q
 have hz:=SS.Inv.Oh w.sI r0.loc hd e
 have hw:=qz w r0 hs hh
 have h1:=(w.lc n hr.1 hr.2).1 hs
 have e1:a.s.bU n=(a.s.loc n,0):=by unfold Sp.SS.bU;rw[if_neg (by omega),if_neg (by omega)]
 rw[e1]at hz
 have hz:a.s.loc n=0:=hz
 rw[hz,r0.bV]at hw
 exact hn hw.symm
theorem TK.exit{a:KA}{T:Int}(h:TK a)(ok:a.Ok T)(n co:Int):TK (a.cm n co)∧(a.cm n co).P=a.P:=by
 unfold KA.cm;split
 ·rename_i c
  obtain⟨c1,c2⟩:=KA.z8 c
  obtain⟨hr,hs⟩:=KA.iQ c1
  obtain⟨h1,h2⟩:=h.end_ hr c2 hs co
  have h3:TK (a.dB n co)∧(a.dB n co).P=a.P:=by
   unfold KA.dB;split
   ·rename_i hh
    have hw1:=ok.wk.bG hr hs co
    obtain⟨g1,g2⟩:=TK.Ge n (l:=((a.bG n co).s.mem (a.s.bU n).1).1) h1 (fun m hm=>(SS.mem_range hw1.sI hm).1) (Ox ok.wk ok.r0 ok.d0 c2 (by omega) hh)
    obtain⟨g3,g4⟩:=TK.rounds (a:=(a.bG n co).members (a.s.bU n).1 n) g1 4
    exact⟨g3,g4.trans (g2.trans h2)⟩
   ·exact⟨h1,h2⟩
  obtain⟨k1,k2⟩:=(h3.1.eT n (a.head n)).eb (((a.dB n co).bZ n (a.head n)).u n).par
  exact⟨k1,k2.trans h3.2⟩
 ·exact⟨h,rfl⟩
theorem TK.wait{a:KA}(h:TK a)(n:Int):TK (a.dL n)∧(a.dL n).P=a.P:=by
 unfold KA.dL;split
 ·rename_i c
  obtain⟨_,_,h3,_⟩:=KA.yK c
  exact⟨(h.vL (by rw[h3];decide)).shut _,rfl⟩
 ·exact⟨h,rfl⟩
theorem wh{O:Tr.OS}{n:Int}(h:O.is n=0):Tr.jx O n= {O with refs:=aa O.refs n (O.refs n+1)} :=if_pos h
theorem TK.Ou{a:KA}(h:TK a){n:Int}(hs:(a.u n).st=1):sC (a.u n).fd a.O 6= {a.O with refs:=aa (aa a.O.refs 0 (a.il+1)) 1 (a.il+1)} :=by
 obtain⟨i0,i1⟩:=h.aA
 have g0:=h.f0 n hs
 have g1:=h.f1 n hs
 have s0:sC (a.u n).fd a.O 1= {a.O with refs:=aa a.O.refs 0 (a.il+1)} :=by
  show(if(a.u n).fd ((0:Nat):Int)>0 then Tr.jx a.O _ else _)=_
  rw[show(((0:Nat):Int))=0 from rfl,g0,if_pos (by omega),show(1:Int)-1=0 from rfl,wh i0,h.r0]
 have s1:sC (a.u n).fd a.O 2= {a.O with refs:=aa (aa a.O.refs 0 (a.il+1)) 1 (a.il+1)} :=by
  show(if(a.u n).fd ((1:Nat):Int)>0 then Tr.jx (sC (a.u n).fd a.O 1) _ else _)=_
  rw[s0,show(((1:Nat):Int))=1 from rfl,g1,if_pos (by omega),show(2:Int)-1=1 from rfl]
  have er:aa a.O.refs 0 (a.il+1) 1=a.O.refs 1:=ad _ _ (by decide)
  have ei:Tr.OS.is {a.O with refs:=aa a.O.refs 0 (a.il+1)} 1=0:=by
   unfold Tr.OS.is at i1 ⊢
   show(if(1:Int)<0∨24≤(1:Int)then 1 else if aa a.O.refs 0 (a.il+1) 1=0 then 2 else 0)=0
   rw[er];exact i1
  rw[wh ei]
  show({a.O with refs:=aa (aa a.O.refs 0 (a.il+1)) 1 (aa a.O.refs 0 (a.il+1) 1+1)} :Tr.OS)=_
  rw[er,h.r1]
 have sk:∀ k:Nat,2≤k→k≤6→sC (a.u n).fd a.O k= {a.O with refs:=aa (aa a.O.refs 0 (a.il+1)) 1 (a.il+1)} :=fun k=>by
  induction k with
  | zero=>intro h2;omega
  | succ k ih=>
   intro h2 h6
   by_cases e:k=1
   ·subst e;exact s1
   ·have:=ih (by omega) (by omega)
    show(if(a.u n).fd ((k:Nat):Int)>0 then _ else sC (a.u n).fd a.O k)=_
    rw[h.f2 n k hs (by omega) (by omega),if_neg (by omega)];exact this
 exact sk 6 (by omega) (by omega)
theorem TK.fork{a:KA}{T:Int}(h:TK a)(ok:a.Ok T)(n:Int)(own:Bool):TK (a.bE n own)∧(a.bE n own).P=a.P:=by
 unfold KA.bE;split
 ·exact⟨h,rfl⟩
 ·rename_i c
  split
  ·exact⟨h.same h.bx (fun _=>Iff.rfl) (fun _ _=>rfl) rfl rfl,rfl⟩
  ·obtain⟨hn,hs⟩:=KA.iQ (show a.live n=0 by omega)
   have hfr:=a.free_spec.resolve_left (fun q=>c (.inr (.inl q)))
   have hu:∀ m,m≠a.free→(a.cG n own).u m=a.u m:=fun m hm=>ad _ _ hm
   have huc:(a.cG n own).u a.free=a.CI n:=ae _ _ _
   have hO:(a.cG n own).O= {a.O with refs:=aa (aa a.O.refs 0 (a.il+1)) 1 (a.il+1)} :=h.Ou hs
   have hcn:(a.cG n own).il=a.il+1:=by
    have:=nW (f:=(a.cG n own).vD) (g:=a.vD) (n:=a.free) (by unfold KA.vD;rw[huc];rfl) (by unfold KA.vD;rw[hfr.2];rfl) (fun j hj=>by unfold KA.vD;rw[hu j hj]) 20 hfr.1.1 (by omega)
    exact this
   refine⟨⟨fun m=> ?_,fun m q=> ?_,fun m q=> ?_,fun m i q=> ?_,by rw[hO];exact h.k0,by rw[hO];exact h.k1,by rw[hO];exact h.n0,by rw[hO];exact h.n1,by rw[hO,hcn];show aa (aa a.O.refs 0 (a.il+1)) 1 (a.il+1) 0=_;rw[ad _ _ (by decide),ae],by rw[hO,hcn];show aa (aa a.O.refs 0 (a.il+1)) 1 (a.il+1) 1=_;rw[ae],h.e0,h.e1,?_⟩,rfl⟩
   ·by_cases e:m=a.free
    ·subst e;rw[huc];show(a.u n).bx.child=_;rw[h.bx];rfl
    ·rw[hu m e];exact h.bx m
   ·by_cases e:m=a.free
    ·subst e;rw[huc];exact h.f0 n hs
    ·rw[hu m e]at q ⊢;exact h.f0 m q
   ·by_cases e:m=a.free
    ·subst e;rw[huc];exact h.f1 n hs
    ·rw[hu m e]at q ⊢;exact h.f1 m q
   ·by_cases e:m=a.free
    ·subst e;rw[huc];exact h.f2 n i hs
    ·rw[hu m e]at q ⊢;exact h.f2 m i q
   ·rw[hu 0 (by rintro e;have:=hfr.2;rw[←e,h.s0]at this;exact absurd this (by decide))];exact h.s0
theorem TK.open_{a:KA}(h:TK a){n:Int} :(a.cI n 0=0→a.cn n 0=0)∧(a.cI n 1=0→a.cn n 1=1):=by
 refine⟨fun q=> ?_,fun q=> ?_⟩
 ·obtain⟨_,hs,_,_,e⟩:=KA.k7 q
  rw[e,h.f0 n hs];rfl
 ·obtain⟨_,hs,_,_,e⟩:=KA.k7 q
  rw[e,h.f1 n hs];rfl
theorem TK.Oi{a:KA}(h:TK a):a.P.is 0=0:=by
 unfold Tr.PS.is;rw[if_neg (by omega),h.e0,h.e1,if_neg (by omega)]
theorem TK.Fo{a:KA}(h:TK a){P:Tr.PS}(he:P.e=a.P.e):TK {a with O:=a.O,P:=P} :=⟨h.bx,h.f0,h.f1,h.f2,h.k0,h.k1,h.n0,h.n1,h.r0,h.r1,by show P.e 0 0=1;rw[he];exact h.e0,by show P.e 0 1=1;rw[he];exact h.e1,h.s0⟩
theorem TK.write{a:KA}(h:TK a)(hl:(a.P.b 0).size≤12)(F:Tr.FF)(n:Int)(x:ByteArray):TK (a.cD F n 1 x)∧((a.b7 F n 1 x=0∧0≤a.fI F n 1 x∧a.fI F n 1 x≤12∧a.fI F n 1 x≤x.size∧(a.cD F n 1 x).P.b 0=a.P.b 0++x.extract 0 (a.fI F n 1 x).toNat)∨(a.b7 F n 1 x≠0∧(a.cD F n 1 x).P.b 0=a.P.b 0)):=by
 by_cases c:a.cI n 1=0
 ·have hv:=h.open_.2 c
  obtain⟨_,i1⟩:=h.aA
  have hE:Tr.dh F a.P a.O (a.cn n 1) x=(a.P.write 0 x).2.1:=by unfold Tr.dh;rw[hv,if_neg (by omega),if_pos h.k1,h.n1]
  have hV:Tr.dt F a.P a.O (a.cn n 1) x=(a.P.write 0 x).1:=by unfold Tr.dt;rw[hv,if_pos ⟨i1,h.k1⟩,h.n1]
  have hO:Tr.dv F a.O (a.cn n 1) x=a.O:=by unfold Tr.dv;rw[hv,if_neg (fun q=>q.1.2.1 h.k1)]
  have hP:Tr.du a.P a.O (a.cn n 1) x=(a.P.write 0 x).2.2:=by unfold Tr.du;rw[hv,if_pos ⟨i1,h.k1⟩,h.n1]
  have hw:a.P.write 0 x=if min (x.size:Int) (12-(a.P.b 0).size)=0∧x.size>0 then(0,13,a.P)else(min (x.size:Int) (12-(a.P.b 0).size),0,{a.P with b:=aa a.P.b 0 (a.P.b 0++x.extract 0 (min (x.size:Int) (12-(a.P.b 0).size)).toNat)}):=by
   unfold Tr.PS.write
   rw[if_neg (by rw[h.Oi];decide),if_neg (by rw[h.e1];decide),if_neg (by rw[h.e0];decide)]
  have hne:(a.P.write 0 x).2.1≠12:=by
   rw[hw]
   split
   ·exact(by decide:(13:Int)≠12)
   ·exact(by decide:(0:Int)≠12)
  have hA:a.cD F n 1 x= {a with O:=a.O,P:=(a.P.write 0 x).2.2} :=by
   unfold KA.cD KA.lu
   rw[if_neg (fun q=>q c),hE,if_neg hne,hO,hP]
  have e1:a.b7 F n 1 x=(a.P.write 0 x).2.1:=by unfold KA.b7;rw[if_neg (fun q=>q c),hE]
  have e2:a.fI F n 1 x=(a.P.write 0 x).1:=by unfold KA.fI;rw[if_neg (fun q=>q c),hV]
  rw[hA,e1,e2,hw]
  split
  ·exact⟨h.Fo rfl,.inr ⟨(by decide:(13:Int)≠0),rfl⟩⟩
  ·rename_i d
   exact⟨h.Fo rfl,.inl ⟨rfl,by show 0≤min _ _;omega,by show min _ _≤_;omega,by show min _ _≤_;omega,(ae a.P.b 0 (a.P.b 0++x.extract 0 (min (x.size:Int) (12-(a.P.b 0).size)).toNat))⟩⟩
 ·have hA:a.cD F n 1 x=a:=by unfold KA.cD;rw[if_pos c]
  rw[hA]
  exact⟨h,.inr ⟨by unfold KA.b7;rw[if_pos c];exact c,rfl⟩⟩
theorem TK.read{a:KA}(h:TK a)(F:Tr.FF)(n m:Int):TK (a.dz F n 0 m)∧((a.ew F n 0 m=0∧a.ek F n 0 m++(a.dz F n 0 m).P.b 0=a.P.b 0)∨(a.ew F n 0 m≠0∧(a.dz F n 0 m).P.b 0=a.P.b 0)):=by
 by_cases c:a.cI n 0=0
 ·have hv:=h.open_.1 c
  obtain⟨i1,_⟩:=h.aA
  have k3:¬a.O.kind 0=3:=by rw[h.k0];decide
  have hE:Tr.gF F a.P a.O (a.cn n 0) m=(a.P.read 0 m).2.1:=by unfold Tr.gF;rw[hv,if_neg (by omega),if_neg k3,if_pos h.k0,h.n0]
  have hV:Tr.gJ F a.P a.O (a.cn n 0) m=(a.P.read 0 m).1:=by unfold Tr.gJ;rw[hv,if_neg (by omega),if_neg k3,if_pos h.k0,h.n0]
  have hO:Tr.fM F a.O (a.cn n 0) m=a.O:=by unfold Tr.fM;rw[hv,if_neg (fun q=>q.2.2 h.k0)]
  have hP:Tr.fL a.P a.O (a.cn n 0) m=(a.P.read 0 m).2.2:=by unfold Tr.fL;rw[hv,if_pos ⟨i1,h.k0⟩,h.n0]
  have hA:a.dz F n 0 m= {a with O:=a.O,P:=(a.P.read 0 m).2.2} :=by
   unfold KA.dz
   rw[if_neg (fun q=>q c),hO,hP]
  have e1:a.ew F n 0 m=(a.P.read 0 m).2.1:=by unfold KA.ew;rw[if_neg (fun q=>q c),hE]
  have e2:a.ek F n 0 m=(a.P.read 0 m).1:=by unfold KA.ek;rw[if_neg (fun q=>q c),hV]
  rw[hA,e1,e2]
  unfold Tr.PS.read
  rw[if_neg (by rw[h.Oi];decide),if_neg (by rw[h.e0];decide)]
  split
  ·exact⟨h.Fo rfl,.inr ⟨(by decide:(1:Int)≠0),rfl⟩⟩
  ·split
   ·exact⟨h.Fo rfl,.inr ⟨(by decide:(13:Int)≠0),rfl⟩⟩
   ·refine⟨h.Fo rfl,.inl ⟨rfl,?_⟩⟩
    show(a.P.b 0).extract 0 _++aa a.P.b 0 ((a.P.b 0).extract (min m (a.P.b 0).size).toNat (a.P.b 0).size) 0=a.P.b 0
    rw[ae]
    rw[←ByteArray.extract_eq_extract_append_extract _ (by omega) (by omega),ByteArray.extract_zero_size]
 ·have hA:a.dz F n 0 m=a:=by unfold KA.dz;rw[if_pos c]
  rw[hA]
  exact⟨h,.inr ⟨by unfold KA.ew;rw[if_pos c];exact c,rfl⟩⟩
end Go.X.Kn

namespace Go.X.Kn
open Go Go.X
theorem MQ:A0.jg 0=0:=by decide+kernel
theorem MX:A0.kK 0=0:=by decide+kernel
theorem MY:A0.kM 0=1:=by decide+kernel
def A1:KA:=A0.dI 0
theorem N2:A1.u=sN (sN A0.u 0 0 1) 0 1 2:=by
 have e1:A0.slot 0=0:=by decide+kernel
 have e2:A0.pJ 0=1:=by decide+kernel
 have e3:Tr.fH A0.P A0.O=0:=by decide+kernel
 have e4:Tr.gl A0.P A0.O=1:=by decide+kernel
 unfold A1 KA.dI
 rw[if_neg (by decide+kernel),if_pos (by decide+kernel),e1,e2,e3,e4]
 rfl
theorem Er(n:Int):A1.u n=if n=0 then⟨1,-1,0,0,aa (aa (fun _=>0) 0 1) 1 2,Sg.BS.init⟩else PA.nil:=by
 rw[N2]
 by_cases e:n=0
 ·subst e;rw[if_pos rfl];rfl
 ·rw[if_neg e];unfold sN;rw[ad _ _ e,ad _ _ e,vt,if_neg e]
theorem Me:TK A1:=by
 have h:∀ n,(A1.u n).st=1→A1.u n=⟨1,-1,0,0,aa (aa (fun _=>0) 0 1) 1 2,Sg.BS.init⟩:=fun n q=>by
  rw[Er]at q ⊢
  split
  ·rfl
  ·rename_i c;rw[if_neg c]at q;exact absurd (show(0:Int)=1 from q) (by decide)
 refine⟨fun n=>by rw[Er];split<;>rfl,fun n q=>by rw[h n q];rfl,fun n q=>by rw[h n q];rfl,fun n i q i2 i6=> ?_,by decide+kernel,by decide+kernel,by decide+kernel,by decide+kernel,by decide+kernel,by decide+kernel,by decide+kernel,by decide+kernel,by rw[Er];rfl⟩
 rw[h n q]
 show aa (aa (fun _=>0) 0 1) 1 2 i=0
 rw[ad _ _ (by omega),ad _ _ (by omega)]
theorem NX:A1.P.b 0=⟨#[]⟩:=by decide+kernel
structure TL where
 a:KA
 c:KC
 inn:ByteArray
 out:ByteArray
structure TL.Ok (x:TL) (i:Int):Prop where
 i0:0≤i∧i≤1000
 ok:x.a.Ok (10+30*i)
 tk:TK x.a
 con:eQ x.a x.c (1+i.toNat) (10+30*i)
 io:x.inn=x.out++x.a.P.b 0
 sz:(x.inn.size:Int)≤12*i
theorem TL.Ok.facts{x:TL}{i:Int}(h:x.Ok i):x.out.size≤x.inn.size∧x.out=x.inn.extract 0 x.out.size∧x.inn.size-x.out.size≤12:=by
 have h1:=h.io
 have h2:=h.ok.wk.PI.len 0
 have h3:x.inn.size=x.out.size+(x.a.P.b 0).size:=by rw[h1,ByteArray.size_append]
 refine⟨by omega,?_,by omega⟩
 rw[h1]
 apply ByteArray.ext
 simp[ByteArray.data_extract,ByteArray.data_append]
 rw[show x.out.size=x.out.data.size from rfl,Array.extract_size]
theorem TL.Ok.step{x:TL}{i:Int}(h:x.Ok i)(hi:i<1000){a:KA}{c:KC}{T:Int}{N:Nat}(ok:a.Ok T)(tk:TK a)(hT:T≤10+30*(i+1))(con:eQ a c N T)(hN:N≤1+i.toNat+1)(hP:a.P.b 0=x.a.P.b 0):TL.Ok ⟨a,c,x.inn,x.out⟩ (i+1):=
 ⟨by have:=h.i0;omega,ok.up hT (by have:=h.i0;omega),tk,con.up (by have:=h.i0;omega) hT,by rw[show(⟨a,c,x.inn,x.out⟩:TL).inn=x.inn from rfl,h.io,←hP],by have:=h.sz;show(x.inn.size:Int)≤_;omega⟩
theorem TL.Ok.wrote{x:TL}{i:Int}(h:x.Ok i)(hi:i<1000){a:KA}{c:KC}{T:Int}{N:Nat}(ok:a.Ok T)(tk:TK a)(hT:T≤10+30*(i+1))(con:eQ a c N T)(hN:N≤1+i.toNat+1){t:ByteArray}{k:Int}(k0:0≤k∧k≤12∧k≤t.size)(hP:a.P.b 0=x.a.P.b 0++t.extract 0 k.toNat):TL.Ok ⟨a,c,x.inn++t.extract 0 k.toNat,x.out⟩ (i+1):=
 ⟨by have:=h.i0;omega,ok.up hT (by have:=h.i0;omega),tk,con.up (by have:=h.i0;omega) hT,by show x.inn++_=x.out++a.P.b 0;rw[hP,h.io,ByteArray.append_assoc],by
  have:=h.sz
  show((x.inn++t.extract 0 k.toNat).size:Int)≤_
  rw[ByteArray.size_append,ByteArray.size_extract];omega⟩
theorem TL.Ok.Ot{x:TL}{i:Int}(h:x.Ok i)(hi:i<1000){a:KA}{c:KC}{T:Int}{N:Nat}(ok:a.Ok T)(tk:TK a)(hT:T≤10+30*(i+1))(con:eQ a c N T)(hN:N≤1+i.toNat+1){v:ByteArray}(hP:v++a.P.b 0=x.a.P.b 0):TL.Ok ⟨a,c,x.inn,x.out++v⟩ (i+1):=
 ⟨by have:=h.i0;omega,ok.up hT (by have:=h.i0;omega),tk,con.up (by have:=h.i0;omega) hT,by show x.inn=(x.out++v)++a.P.b 0;rw[ByteArray.append_assoc,hP];exact h.io,by have:=h.sz;show(x.inn.size:Int)≤_;omega⟩
theorem TL.Ok.next{x:TL}{i:Int}(h:x.Ok i)(hi:i<1000):x.Ok (i+1):=h.step hi h.ok h.tk (by omega) h.con (by omega) rfl
theorem TL.begun{c:KC}(hc:eQ A1 c 1 (2+1)):TL.Ok ⟨A1,c,⟨#[]⟩,⟨#[]⟩⟩ 0:=
 ⟨by omega,(Eb.pipe (by omega) (by omega) 0).up (by omega) (by omega),Me,hc.up (by omega) (by omega),by rw[show(⟨A1,c,⟨#[]⟩,⟨#[]⟩⟩:TL).a=A1 from rfl,NX];rfl,by show(0:Int)≤_;omega⟩
end Go.X.Kn

namespace Go.X.Kn
open Go Go.Proofs Go.X
set_option maxRecDepth 20000
set_option maxHeartbeats 4000000
attribute [local irreducible] KA.aS KA.bS
set_option maxHeartbeats 8000000 in
theorem H7(a:KA)(b:KZ)(c:KC)(N:Nat)(T:Int)(ho:a.Ok T)(hc:eQ a c N T)(hT:T≤800000)(n:Int):Spec Tryz.prog 17 [ptr b.kb 0 0,.int .i64 n] [.cells b.kb 0 453 (ah (kp a b c)),.cells b.gb 0 60 (Gr.aC a.g),.cells b.sb 0 158 (Sp.aB a.s),.cells b.qb 0 2281 (Fa.aq c.q),.fam Fa.aH (Fa.SC.rows 254 c.q),.cells b.bb 0 577 (Vm.bz b.vp a.v.by_ a.v.rf),.cells b.vp 0 71 (Vm.au a.v.bb.bJ),.cfam (bN a) c.mb 34 (cN b.bb a.f c.pp c.cc),.fam (bN a) (rN 171 a.f c.pp c.cc),.cells b.tb 0 321 (Tr.ay c.F),.fam Tr.ai (Tr.FC.aD 9 c.F),.fam Tr.ai (Tr.FC.aF 3 c.F),aZ c.rp c.rc 3 c.rl,.cells b.pi 0 24 (Tr.au a.P),.cells b.ob 0 122 (Tr.az b.tb b.pi a.O),.cfam (bO a) (fun z=>(c.t z).b) 4 (cT b.tb c.t),.fam (bO a) (rT 168 c.t)] (fun v H1=>v= .tuple #[.agg #[.int .i64 (a.nM n),.int .i64 (a.mR n)],bH 102 (a.ji n)]∧∃ c1:KC,eQ (a.dL n) c1 N T∧H1=[.cells b.kb 0 453 (ah (kp (a.dL n) b c1)),.cells b.gb 0 60 (Gr.aC (a.dL n).g),.cells b.sb 0 158 (Sp.aB (a.dL n).s),.cells b.qb 0 2281 (Fa.aq c1.q),.fam Fa.aH (Fa.SC.rows 254 c1.q),.cells b.bb 0 577 (Vm.bz b.vp (a.dL n).v.by_ (a.dL n).v.rf),.cells b.vp 0 71 (Vm.au (a.dL n).v.bb.bJ),.cfam (bN (a.dL n)) c1.mb 34 (cN b.bb (a.dL n).f c1.pp c1.cc),.fam (bN (a.dL n)) (rN 171 (a.dL n).f c1.pp c1.cc),.cells b.tb 0 321 (Tr.ay c1.F),.fam Tr.ai (Tr.FC.aD 9 c1.F),.fam Tr.ai (Tr.FC.aF 3 c1.F),aZ c1.rp c1.rc 3 c1.rl,.cells b.pi 0 24 (Tr.au (a.dL n).P),.cells b.ob 0 122 (Tr.az b.tb b.pi (a.dL n).O),.cfam (bO (a.dL n)) (fun z=>(c1.t z).b) 4 (cT b.tb c1.t),.fam (bO (a.dL n)) (rT 168 c1.t)]):=by
 refine Spec.go 115 [0,1,4,5,7,8,9,10,11,12,13,14,22,26,27,47,83,95,100] [] Tryz.func17 rfl rfl rfl ?_
 intro W
 refine XO.cY (z:=.agg #[.int .i64 0,.int .i64 0]) (m:=2) (C:=nK 0 0) (by kernel_rfl) rfl nK.box rfl ?_
 intro b4
 refine gO ?_
 refine ca (lD b.kb (kp a b c) n) (.cons (.there .here) .nil) ?_
 rintro _ _ ⟨⟨hl,rfl⟩ | ⟨hl,rfl⟩,rfl⟩
 ·
  try dsimp only[aT,aV,bu,bj,bk,bd,aW,bh,aY,aX,aP,aN,aQ,aO]
  obtain⟨hlr,hls⟩:=KP.gi hl
  have hl:a.live n=0:=hl
  have hls:(a.u n).st=1:=hls
  refine gO ?_
  refine XO.v (V.build (vs:= #[]) rfl (v:=.agg #[.int .i64 0,.int .i64 0]) (fun _=>by kernel_rfl)) rfl (gO ?_)
  refine XO.cY (z:=.agg #[.int .i64 0,.int .i64 0]) (m:=2) (C:=nK 0 0) (by kernel_rfl) rfl nK.box rfl ?_
  intro b10
  refine gO ?_
  refine jV .here (nK.st _ _ _ _) rfl ⟨rfl,rfl⟩ ?_
  refine lp (σ:=Int×WF) (fun x=>(20-x.1).toNat) (fun x=>(0≤x.1∧x.1≤20)∧x.2=a.cB n x.1.toNat) (fun x=>[(26,.int .i64 x.1),(9,.int .i64 x.2.kids),(8,.int .i64 x.2.child),(0,ptr b.kb 0 0),(1,.int .i64 n),(4,ptr b4 0 0),(10,ptr b10 0 0)]) (fun x=>XM W (bR [.cells b.kb 0 453 (ah (kp a b c)),.cells b.gb 0 60 (Gr.aC a.g),.cells b.sb 0 158 (Sp.aB a.s),.cells b.qb 0 2281 (Fa.aq c.q),.fam Fa.aH (Fa.SC.rows 254 c.q),.cells b.bb 0 577 (Vm.bz b.vp a.v.by_ a.v.rf),.cells b.vp 0 71 (Vm.au a.v.bb.bJ),.cfam (bN a) c.mb 34 (cN b.bb a.f c.pp c.cc),.fam (bN a) (rN 171 a.f c.pp c.cc),.cells b.tb 0 321 (Tr.ay c.F),.fam Tr.ai (Tr.FC.aD 9 c.F),.fam Tr.ai (Tr.FC.aF 3 c.F),aZ c.rp c.rc 3 c.rl,.cells b.pi 0 24 (Tr.au a.P),.cells b.ob 0 122 (Tr.az b.tb b.pi a.O),.cfam (bO a) (fun z=>(c.t z).b) 4 (cT b.tb c.t),.fam (bO a) (rT 168 c.t)]) [.cells b.kb 0 453 (ah (kp a b c)),.cells b.sb 0 158 (Sp.aB a.s),.cells b10 0 2 (nK x.2.pid x.2.code),.cells b4 0 2 (nK 0 0),.cells b.gb 0 60 (Gr.aC a.g),.cells b.qb 0 2281 (Fa.aq c.q),.fam Fa.aH (Fa.SC.rows 254 c.q),.cells b.bb 0 577 (Vm.bz b.vp a.v.by_ a.v.rf),.cells b.vp 0 71 (Vm.au a.v.bb.bJ),.cfam (bN a) c.mb 34 (cN b.bb a.f c.pp c.cc),.fam (bN a) (rN 171 a.f c.pp c.cc),.cells b.tb 0 321 (Tr.ay c.F),.fam Tr.ai (Tr.FC.aD 9 c.F),.fam Tr.ai (Tr.FC.aF 3 c.F),aZ c.rp c.rc 3 c.rl,.cells b.pi 0 24 (Tr.au a.P),.cells b.ob 0 122 (Tr.az b.tb b.pi a.O),.cfam (bO a) (fun z=>(c.t z).b) 4 (cT b.tb c.t),.fam (bO a) (rT 168 c.t)]) ((0,⟨0,-1,0,0⟩)) ?_ (.cons rfl (S6 rfl rfl rfl rfl rfl rfl)) (fun _ hw=>XM.pick (.cons (.there .here) (.cons (.t3 .here) .la)) hw) ?_
  ·
   exact⟨by simp,rfl⟩
  intro x hx
  obtain⟨hi,hx2⟩:=hx
  have hwi:=a.vu n x.1.toNat
  rw[←hx2]at hwi
  obtain⟨hk,hwc⟩:=hwi
  refine gC ?_
  refine cd rfl ?_ ?_<;>intro h1
  ·
   refine sd (by omega) ?_
   refine ld .here (ah.nL _ (by omega)) ?_
   refine sp 37 rfl ?_ ?_<;>intro h2
   ·
    have h8:(a.u x.1).st=0:=h2
    refine sd (by omega) ?_
    refine ag ((x.1+1,x.2)) ?_ ?_ (.cons rfl (S6 rfl rfl rfl rfl rfl rfl)) (fun _ hw=>XM.pick .Mt hw)
    ·
     (show(20-(x.1+1)).toNat<(20-x.1).toNat;omega)
    ·
     exact⟨(by show 0≤x.1+1∧x.1+1≤20;omega),(by show x.2=a.cB n (x.1+1).toNat;rw[KA.fJ a n hi.1,←hx2,if_pos (by first | exact .inl h8 | exact .inr h9)])⟩
   ·
    have h8:¬(a.u x.1).st=0:=h2
    refine sd (by omega) ?_
    refine ld .here (ah.qT _ (by omega)) ?_
    refine cd rfl ?_ ?_<;>intro h3
    ·
     have h9:(a.u x.1).par≠n:=h3
     refine sd (by omega) ?_
     refine ag ((x.1+1,x.2)) ?_ ?_ (.cons rfl (S6 rfl rfl rfl rfl rfl rfl)) (fun _ hw=>XM.pick .Mt hw)
     ·
      (show(20-(x.1+1)).toNat<(20-x.1).toNat;omega)
     ·
      exact⟨(by show 0≤x.1+1∧x.1+1≤20;omega),(by show x.2=a.cB n (x.1+1).toNat;rw[KA.fJ a n hi.1,←hx2,if_pos (by first | exact .inl h8 | exact .inr h9)])⟩
    ·
     have h9:¬(a.u x.1).par≠n:=h3
     refine sd (by omega) ?_
     refine XC.iu mixed (f:=14) (l:= #[false,false,false,false,false,false,false,false,false,false,false,false,false,false]) rfl rfl XM.lj ?_
     refine XQ.pv (i:=0) (l':= #[true,false,false,false,false,false,false,false,false,false,false,false,false,false]) rfl (by kernel_rfl) rfl (V.move rfl) rfl rfl ?_
     refine XQ.pv (i:=1) (l':= #[true,true,false,false,false,false,false,false,false,false,false,false,false,false]) rfl (by kernel_rfl) rfl (V.bI rfl) rfl rfl ?_
     refine XQ.pv (i:=2) (l':= #[true,true,true,false,false,false,false,false,false,false,false,false,false,false]) rfl (by kernel_rfl) rfl (V.fieldAddr rfl DM) rfl rfl ?_
     refine XQ.load (i:=3) (l':= #[true,true,true,true,false,false,false,false,false,false,false,false,false,false]) (.cells _ _ _ _) [8] rfl (by kernel_rfl) rfl .here (V.load rfl ea (ah.nN _) MO) rfl (by kernel_rfl) rfl ?_
     refine XQ.pv (i:=4) (l':= #[true,true,true,true,true,false,false,false,false,false,false,false,false,false]) rfl (by kernel_rfl) rfl (V.move rfl) rfl rfl ?_
     refine XQ.pv (i:=5) (l':= #[true,true,true,true,true,true,false,false,false,false,false,false,false,false]) rfl (by kernel_rfl) rfl (V.move rfl) rfl rfl ?_
     refine XQ.pv (i:=6) (l':= #[true,true,true,true,true,true,true,false,false,false,false,false,false,false]) rfl (by kernel_rfl) rfl (V.move rfl) rfl rfl ?_
     refine XQ.call (i:=7) (l':= #[true,true,true,true,true,true,true,true,false,false,false,false,false,false]) rfl (by kernel_rfl) rfl rfl (iw b.kb (kp a b c) a.s n) .h2 ME rfl (by rintro _ _ ⟨rfl,rfl⟩;all_goals(intro _ hw';exact⟨fun _=>dm .here _ hw',trivial⟩)) ?_
     rintro _ _ ⟨rfl,rfl⟩
     refine XQ.call (i:=8) (l':= #[true,true,true,true,true,true,true,true,true,false,false,false,false,false]) rfl (by kernel_rfl) rfl rfl (Sp.Bb _ _ a.s x.1 (a.s.bU n).1) (.cons (.there .here) .nil) Ml rfl (by rintro _ _ ⟨rfl,rfl⟩;all_goals(intro _ hw';exact⟨fun hs=>(hs 8 (by first | (simp;done) | (simp;rfl)) rfl).elim,trivial⟩)) ?_
     rintro _ _ ⟨rfl,rfl⟩
     refine XQ.pv (i:=9) (l':= #[true,true,true,true,true,true,true,true,true,true,false,false,false,false]) rfl (by kernel_rfl) rfl (V.move rfl) rfl rfl ?_
     refine XQ.pv (i:=10) (l':= #[true,true,true,true,true,true,true,true,true,true,true,false,false,false]) rfl (by kernel_rfl) rfl (V.extract rfl rfl) rfl rfl ?_
     refine XQ.pv (i:=11) (l':= #[true,true,true,true,true,true,true,true,true,true,true,true,false,false]) rfl (by kernel_rfl) rfl (V.extract rfl rfl) rfl rfl ?_
     refine XQ.pv (i:=12) (l':= #[true,true,true,true,true,true,true,true,true,true,true,true,true,false]) rfl (by kernel_rfl) rfl (V.assign rfl) rfl rfl ?_
     refine XQ.pv (i:=13) (l':= #[true,true,true,true,true,true,true,true,true,true,true,true,true,true]) rfl (by kernel_rfl) rfl (V.assign rfl) rfl rfl ?_
     refine XQ.done (by kernel_rfl) ?_
     refine gE ?_
     refine sp 64 rfl ?_ ?_<;>intro h4
     ·
      have hpe:(a.s.pid x.1 (a.sz n)).2=0:=h4
      refine sd (by omega) ?_
      refine ld (.there .here) (ah.nL _ (by omega)) ?_
      refine sp 74 rfl ?_ ?_<;>intro h5
      ·
       have h2:(a.u x.1).st=2:=h5
       refine sp 77 rfl ?_ ?_<;>intro h6
       ·
        have hcn:x.2.child<0:=h6
        refine rq [0,1,2,3,4,5,6,7,8,9,10,11] mixed (by kernel_rfl) ?_
        refine sd (by omega) ?_
        refine ld (.there .here) (ah.zR _ (by omega)) ?_
        refine XO.v (V.build (vs:= #[(0,.int .i64 (a.s.pid x.1 (a.s.bU n).1).1),(1,.int .i64 (a.u x.1).code)]) rfl (v:=.agg #[.int .i64 (a.s.pid x.1 (a.s.bU n).1).1,.int .i64 (a.u x.1).code]) (fun _=>by kernel_rfl)) rfl (gO ?_)
        refine jV (.t2 .here) (nK.st _ _ _ _) rfl ⟨rfl,rfl⟩ ?_
        refine sd (by omega) ?_
        refine ag ((x.1+1,⟨x.2.kids+1,x.1,(a.s.pid x.1 (a.s.bU n).1).1,(a.u x.1).code⟩)) ?_ ?_ (.cons rfl (S6 rfl rfl rfl rfl rfl rfl)) (fun _ hw=>XM.pick (.cons (.there .here) .vF) hw)
        ·
         (show(20-(x.1+1)).toNat<(20-x.1).toNat;omega)
        ·
         exact⟨(by show 0≤x.1+1∧x.1+1≤20;omega),(by show(⟨x.2.kids+1,x.1,(a.s.pid x.1 (a.s.bU n).1).1,(a.u x.1).code⟩:WF)=a.cB n (x.1+1).toNat;rw[KA.fJ a n hi.1,←hx2,if_neg (by rintro(q | q);exact h8 q;exact h9 q),if_pos ⟨hpe,h2,.inl hcn⟩];rfl)⟩
       ·
        have hcn:¬x.2.child<0:=h6
        refine ld (.t2 .here) (nK.G5 _ _) ?_
        refine cd rfl ?_ ?_<;>intro h7
        ·
         have hlt:(a.s.pid x.1 (a.s.bU n).1).1<x.2.pid:=h7
         refine rq [0,1,2,3,4,5,6,7,8,9,10,11] mixed (by kernel_rfl) ?_
         refine sd (by omega) ?_
         refine ld (.there .here) (ah.zR _ (by omega)) ?_
         refine XO.v (V.build (vs:= #[(0,.int .i64 (a.s.pid x.1 (a.s.bU n).1).1),(1,.int .i64 (a.u x.1).code)]) rfl (v:=.agg #[.int .i64 (a.s.pid x.1 (a.s.bU n).1).1,.int .i64 (a.u x.1).code]) (fun _=>by kernel_rfl)) rfl (gO ?_)
         refine jV (.t2 .here) (nK.st _ _ _ _) rfl ⟨rfl,rfl⟩ ?_
         refine sd (by omega) ?_
         refine ag ((x.1+1,⟨x.2.kids+1,x.1,(a.s.pid x.1 (a.s.bU n).1).1,(a.u x.1).code⟩)) ?_ ?_ (.cons rfl (S6 rfl rfl rfl rfl rfl rfl)) (fun _ hw=>XM.pick (.cons (.there .here) .vF) hw)
         ·
          (show(20-(x.1+1)).toNat<(20-x.1).toNat;omega)
         ·
          exact⟨(by show 0≤x.1+1∧x.1+1≤20;omega),(by show(⟨x.2.kids+1,x.1,(a.s.pid x.1 (a.s.bU n).1).1,(a.u x.1).code⟩:WF)=a.cB n (x.1+1).toNat;rw[KA.fJ a n hi.1,←hx2,if_neg (by rintro(q | q);exact h8 q;exact h9 q),if_pos ⟨hpe,h2,.inr hlt⟩];rfl)⟩
        ·
         have hlt:¬(a.s.pid x.1 (a.s.bU n).1).1<x.2.pid:=h7
         refine sd (by omega) ?_
         refine ag ((x.1+1,⟨x.2.kids+1,x.2.child,x.2.pid,x.2.code⟩)) ?_ ?_ (.cons rfl (S6 rfl rfl rfl rfl rfl rfl)) (fun _ hw=>XM.pick (.cons (.there .here) .vF) hw)
         ·
          (show(20-(x.1+1)).toNat<(20-x.1).toNat;omega)
         ·
          exact⟨(by show 0≤x.1+1∧x.1+1≤20;omega),(by show(⟨x.2.kids+1,x.2.child,x.2.pid,x.2.code⟩:WF)=a.cB n (x.1+1).toNat;rw[KA.fJ a n hi.1,←hx2,if_neg (by rintro(q | q);exact h8 q;exact h9 q),if_neg (by rintro⟨q1,q2,q3⟩;rcases q3 with q | q;exact hcn q;exact hlt q)])⟩
      ·
       have h2:¬(a.u x.1).st=2:=h5
       refine sd (by omega) ?_
       refine ag ((x.1+1,⟨x.2.kids+1,x.2.child,x.2.pid,x.2.code⟩)) ?_ ?_ (.cons rfl (S6 rfl rfl rfl rfl rfl rfl)) (fun _ hw=>XM.pick (.cons (.there .here) .vF) hw)
       ·
        (show(20-(x.1+1)).toNat<(20-x.1).toNat;omega)
       ·
        exact⟨(by show 0≤x.1+1∧x.1+1≤20;omega),(by show(⟨x.2.kids+1,x.2.child,x.2.pid,x.2.code⟩:WF)=a.cB n (x.1+1).toNat;rw[KA.fJ a n hi.1,←hx2,if_neg (by rintro(q | q);exact h8 q;exact h9 q),if_neg (by rintro⟨q1,q2,q3⟩;exact h2 q2)])⟩
     ·
      have hpe:¬(a.s.pid x.1 (a.sz n)).2=0:=h4
      refine sd (by omega) ?_
      refine ag ((x.1+1,⟨x.2.kids+1,x.2.child,x.2.pid,x.2.code⟩)) ?_ ?_ (.cons rfl (S6 rfl rfl rfl rfl rfl rfl)) (fun _ hw=>XM.pick (.cons (.there .here) .vF) hw)
      ·
       (show(20-(x.1+1)).toNat<(20-x.1).toNat;omega)
      ·
       exact⟨(by show 0≤x.1+1∧x.1+1≤20;omega),(by show(⟨x.2.kids+1,x.2.child,x.2.pid,x.2.code⟩:WF)=a.cB n (x.1+1).toNat;rw[KA.fJ a n hi.1,←hx2,if_neg (by rintro(q | q);exact h8 q;exact h9 q),if_neg (by rintro⟨q1,q2,q3⟩;exact hpe q1)])⟩
  ·
   refine cd rfl ?_ ?_<;>intro h8
   ·
    have hkd:x.2.kids=0:=h8
    have hxw:x.2=a.cB n 20:=by
     have MK:x.1=20:=by omega
     rw[hx2,MK];rfl
    refine XO.v (V.build (vs:= #[]) rfl (v:=.agg #[.int .i64 0,.int .i64 0]) (fun _=>by kernel_rfl)) rfl (gO ?_)
    refine jV (.t3 .here) (nK.st _ _ _ _) rfl ⟨rfl,rfl⟩ ?_
    refine XE.ux rfl (.agg rfl (.t3 .here) (nK.agg _ _) Aa qg) (.tmp rfl) (ab (.cons .here (.cons (.t3 .here) (.cons .here (.cons (.t2 .here) (.cons (.t2 .here) (.cons (.t2 .here) (.cons (.t2 .here) (.cons (.t2 .here) (.cons (.t2 .here) (.cons (.t2 .here) (.cons (.t2 .here) (.cons (.t2 .here) (.cons (.t2 .here) (.cons (.t2 .here) (.cons (.t2 .here) (.cons (.t2 .here) (.cons (.t2 .here) .nil))))))))))))))))) rfl ?_)
    try dsimp only[SW.den,SV.den,aj,aL]
    have e1:a.ji n=2:=by unfold KA.ji;rw[←hxw,if_neg (by omega),if_pos hkd]
    have e2:a.nM n=0:=by unfold KA.nM;rw[if_neg (by omega)]
    have e3:a.mR n=0:=by unfold KA.mR;rw[if_neg (by omega)]
    have e4:a.dL n=a:=by unfold KA.dL;rw[if_neg (by omega)]
    rw[e1,e2,e3,e4];exact⟨rfl,c,hc,rfl⟩
   ·
    have hkd:¬x.2.kids=0:=h8
    have hxw:x.2=a.cB n 20:=by
     have MK:x.1=20:=by omega
     rw[hx2,MK];rfl
    refine cd rfl ?_ ?_<;>intro h9
    ·
     have hcd:x.2.child<0:=h9
     refine XO.v (V.build (vs:= #[]) rfl (v:=.agg #[.int .i64 0,.int .i64 0]) (fun _=>by kernel_rfl)) rfl (gO ?_)
     refine jV (.t3 .here) (nK.st _ _ _ _) rfl ⟨rfl,rfl⟩ ?_
     refine XE.ux rfl (.agg rfl (.t3 .here) (nK.agg _ _) Aa qg) (.tmp rfl) (ab (.cons .here (.cons (.t3 .here) (.cons .here (.cons (.t2 .here) (.cons (.t2 .here) (.cons (.t2 .here) (.cons (.t2 .here) (.cons (.t2 .here) (.cons (.t2 .here) (.cons (.t2 .here) (.cons (.t2 .here) (.cons (.t2 .here) (.cons (.t2 .here) (.cons (.t2 .here) (.cons (.t2 .here) (.cons (.t2 .here) (.cons (.t2 .here) .nil))))))))))))))))) rfl ?_)
     try dsimp only[SW.den,SV.den,aj,aL]
     have e1:a.ji n=8:=by unfold KA.ji;rw[←hxw,if_neg (by omega),if_neg hkd,if_pos hcd]
     have e2:a.nM n=0:=by unfold KA.nM;rw[if_neg (by omega)]
     have e3:a.mR n=0:=by unfold KA.mR;rw[if_neg (by omega)]
     have e4:a.dL n=a:=by unfold KA.dL;rw[if_neg (by omega)]
     rw[e1,e2,e3,e4];exact⟨rfl,c,hc,rfl⟩
    ·
     have hcd:¬x.2.child<0:=h9
     have e0:a.ji n=0:=by unfold KA.ji;rw[←hxw,if_neg (by omega),if_neg hkd,if_neg hcd]
     obtain⟨_,w1,w2,_,_,_⟩:=KA.yK e0
     rw[←hxw]at w1 w2
     refine ca (iw b.kb (kp a b c) a.s x.2.child) .h2 ?_
     rintro _ _ ⟨rfl,rfl⟩
     refine gO ?_
     refine ca (vg a b c N T ho.wk hc (by omega) x.2.child w1 (by omega)) (.cons .here (.cons (.t3 .here) (.cons .here (.cons (.t2 .here) (.cons (.t2 .here) (.cons (.t2 .here) (.cons (.t2 .here) (.cons (.t2 .here) (.cons (.t2 .here) (.cons (.t2 .here) (.cons (.t2 .here) (.cons (.t2 .here) (.cons (.t2 .here) (.cons (.t2 .here) (.cons (.t2 .here) (.cons (.t2 .here) (.cons (.t2 .here) .nil))))))))))))))))) ?_
     rintro _ _ rfl
     refine gO ?_
     refine ca (Ax (a.cr x.2.child) b c N T (ho.wk.cr w1 (by omega)) hc.Dq (by omega) _) .la ?_
     rintro _ _ ⟨c1,hc1,rfl⟩
     refine gO ?_
     refine mQ (.t12 (.t5 .here)) (nK.agg _ _) ?_
     refine jV (.t12 (.t6 .here)) (nK.st _ _ _ _) rfl ⟨rfl,rfl⟩ ?_
     refine XE.ux rfl (.agg rfl (.t12 (.t6 .here)) (nK.agg _ _) Aa qg) (.tmp rfl) (ab .la rfl ?_)
     try dsimp only[SW.den,SV.den,aj,aL]
     have e2:a.nM n=x.2.pid:=by unfold KA.nM;rw[if_pos e0,←hxw]
     have e3:a.mR n=x.2.code:=by unfold KA.mR;rw[if_pos e0,←hxw]
     have e4:a.dL n=(a.cr x.2.child).bw (a.s.bU x.2.child).1:=by unfold KA.dL;rw[if_pos e0,←hxw];rfl
     rw[e0,e2,e3,e4];exact⟨rfl,c1,hc1,rfl⟩
 ·
  try dsimp only[aT,aV,bu,bj,bk,bd,aW,bh,aY,aX,aP,aN,aQ,aO]
  have hl:a.live n≠0:=hl
  have hlk:(kp a b c).live n=a.live n:=rfl
  rw[hlk]
  refine gO ?_
  refine XO.v (V.build (vs:= #[]) rfl (v:=.agg #[.int .i64 0,.int .i64 0]) (fun _=>by kernel_rfl)) rfl (gO ?_)
  refine jV (.there .here) (nK.st _ _ _ _) rfl ⟨rfl,rfl⟩ ?_
  refine XE.ux rfl (.agg rfl (.there .here) (nK.agg _ _) Aa qg) (.tmp rfl) (ab (.cons .here (.cons (.there .here) (.cons (.there .here) (.cons (.there .here) (.cons (.there .here) (.cons (.there .here) (.cons (.there .here) (.cons (.there .here) (.cons (.there .here) (.cons (.there .here) (.cons (.there .here) (.cons (.there .here) (.cons (.there .here) (.cons (.there .here) (.cons (.there .here) (.cons (.there .here) (.cons (.there .here) .nil))))))))))))))))) rfl ?_)
  try dsimp only[SW.den,SV.den,aj,aL]
  have e1:a.ji n=a.live n:=by unfold KA.ji;rw[if_pos hl]
  have e2:a.nM n=0:=by unfold KA.nM;rw[if_neg (by omega)]
  have e3:a.mR n=0:=by unfold KA.mR;rw[if_neg (by omega)]
  have e4:a.dL n=a:=by unfold KA.dL;rw[if_neg (by omega)]
  rw[e1,e2,e3,e4,aJ _ hl];exact⟨rfl,c,hc,rfl⟩
end Go.X.Kn
