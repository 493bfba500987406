import Derived.Test.YthdinakloheinaaGreatDoorkJN1
import Derived.Test.YthdinakloheinaaGreatDoorkKW5
import Derived.Test.YthdinakloheinaaGreatDoorkJBG
import Derived.Test.YthdinakloheinaaGreatDoorLM
import Derived.Test.YthdinakloheinaaGreatDoorkJF0
namespace Go.X.Kn
open Go Go.Proofs Go.X
set_option maxRecDepth 20000
set_option maxHeartbeats 4000000
attribute [local irreducible] KA.aS KA.bS
theorem BW{a:KA}{b:KZ}{n:Int}(hI:a.xT n true)(hin:(a.s.add a.dep (a.s.bU n).1).2.1=0)(hh:a.s.here 0=true)(c c':KC){x:TB}(hc:c'.t=bF c.t (a.s.add a.dep (a.s.bU n).1).1.toNat x):aa (kp a b c).ms (a.s.add a.dep (a.s.bU n).1).1 (ptr x.b 0 0)=(kp (a.cG n true) b c').ms:=by
 have h1:=SS.vA hin
 show _=fun z=>if(a.cG n true).s.here z then ptr (c'.t z.toNat).b 0 0 else .pointer none
 rw[hI.qi,hc]
 have h2:(a.sA n true).here=aa a.s.here (a.s.add a.dep (a.s.bU n).1).1 true:=h1.2.2
 rw[h2]
 funext z
 by_cases e:z=(a.s.add a.dep (a.s.bU n).1).1
 ·subst e;rw[ae,ae,c9];rfl
 ·rw[ad _ _ e,ad _ _ e]
  show(if a.s.here z then _ else _)=_
  by_cases q:z.toNat=(a.s.add a.dep (a.s.bU n).1).1.toNat
  ·exfalso
   have:(a.s.add a.dep (a.s.bU n).1).1≠0:=by intro e0;have h3:=h1.2.1;rw[e0,hh]at h3;cases h3
   omega
  ·rw[cQ _ _ q]
set_option maxHeartbeats 16000000 in
theorem Im(a:KA)(b:KZ)(c:KC)(N:Nat)(T:Int)(ho:a.Ok T)(hc:eQ a c N T)(hT:T≤800000)(n:Int):Spec Tryz.prog 14 [ptr b.kb 0 0,.int .i64 n,.bool true] [.cells b.kb 0 453 (ah (kp a b c)),.cells b.gb 0 60 (Gr.aC a.g),.cells b.sb 0 158 (Sp.aB a.s),.cells b.qb 0 2281 (Fa.aq c.q),.fam Fa.aH (Fa.SC.rows 254 c.q),.cells b.bb 0 577 (Vm.bz b.vp a.v.by_ a.v.rf),.cells b.vp 0 71 (Vm.au a.v.bb.bJ),.cfam (bN a) c.mb 34 (cN b.bb a.f c.pp c.cc),.fam (bN a) (rN 171 a.f c.pp c.cc),.cells b.tb 0 321 (Tr.ay c.F),.fam Tr.ai (Tr.FC.aD 9 c.F),.fam Tr.ai (Tr.FC.aF 3 c.F),aZ c.rp c.rc 3 c.rl,.cells b.pi 0 24 (Tr.au a.P),.cells b.ob 0 122 (Tr.az b.tb b.pi a.O),.cfam (bO a) (fun z=>(c.t z).b) 4 (cT b.tb c.t),.fam (bO a) (rT 168 c.t)] (fun v H1=>v= .tuple #[.int .i64 (a.fE n true),bH 102 (a.fp n true)]∧∃ c1:KC,eQ (a.bE n true) c1 (N+1) (T+20)∧H1=[.cells b.kb 0 453 (ah (kp (a.bE n true) b c1)),.cells b.gb 0 60 (Gr.aC (a.bE n true).g),.cells b.sb 0 158 (Sp.aB (a.bE n true).s),.cells b.qb 0 2281 (Fa.aq c1.q),.fam Fa.aH (Fa.SC.rows 254 c1.q),.cells b.bb 0 577 (Vm.bz b.vp (a.bE n true).v.by_ (a.bE n true).v.rf),.cells b.vp 0 71 (Vm.au (a.bE n true).v.bb.bJ),.cfam (bN (a.bE n true)) c1.mb 34 (cN b.bb (a.bE n true).f c1.pp c1.cc),.fam (bN (a.bE n true)) (rN 171 (a.bE n true).f c1.pp c1.cc),.cells b.tb 0 321 (Tr.ay c1.F),.fam Tr.ai (Tr.FC.aD 9 c1.F),.fam Tr.ai (Tr.FC.aF 3 c1.F),aZ c1.rp c1.rc 3 c1.rl,.cells b.pi 0 24 (Tr.au (a.bE n true).P),.cells b.ob 0 122 (Tr.az b.tb b.pi (a.bE n true).O),.cfam (bO (a.bE n true)) (fun z=>(c1.t z).b) 4 (cT b.tb c1.t),.fam (bO (a.bE n true)) (rT 168 c1.t)]):=by
 refine Spec.go 177 [0,1,2,6,7,8,9,10,11,12,13,14,16,24,37,41,59,65,76,132,133,134,137] [(22,0)] Tryz.func14 rfl rfl rfl ?_
 intro W
 refine ca (lD b.kb (kp a b c) n) .h1 ?_
 rintro _ _ ⟨⟨hl,rfl⟩ | ⟨hl,rfl⟩,rfl⟩
 ·
  try dsimp only[aT,aV,bu,bj,bk,bd,aW,bh,aY,aX,aP,aN,aQ,aO]
  obtain⟨hlr,hls⟩:=KP.gi hl
  have hl:a.live n=0:=hl
  have hls:(a.u n).st=1:=hls
  have hmem:=yT a b c (n:=n) (by omega)
  refine gO ?_
  refine lp (σ:=Int) (fun ch=>(20-ch).toNat) (fun ch=>(0≤ch∧ch≤20)∧∀ j:Int,0≤j→j<ch→(a.u j).st≠0) (fun ch=>[(10,.int .i64 ch),(0,ptr b.kb 0 0),(1,.int .i64 n),(2,.bool true),(8,ptr b.kb 0 (0+0+n.toNat*22))]) (fun ch=>XM W (bR [.cells b.kb 0 453 (ah (kp a b c)),.cells b.gb 0 60 (Gr.aC a.g),.cells b.sb 0 158 (Sp.aB a.s),.cells b.qb 0 2281 (Fa.aq c.q),.fam Fa.aH (Fa.SC.rows 254 c.q),.cells b.bb 0 577 (Vm.bz b.vp a.v.by_ a.v.rf),.cells b.vp 0 71 (Vm.au a.v.bb.bJ),.cfam (bN a) c.mb 34 (cN b.bb a.f c.pp c.cc),.fam (bN a) (rN 171 a.f c.pp c.cc),.cells b.tb 0 321 (Tr.ay c.F),.fam Tr.ai (Tr.FC.aD 9 c.F),.fam Tr.ai (Tr.FC.aF 3 c.F),aZ c.rp c.rc 3 c.rl,.cells b.pi 0 24 (Tr.au a.P),.cells b.ob 0 122 (Tr.az b.tb b.pi a.O),.cfam (bO a) (fun z=>(c.t z).b) 4 (cT b.tb c.t),.fam (bO a) (rT 168 c.t)]) [.cells b.kb 0 453 (ah (kp a b c)),.cells b.gb 0 60 (Gr.aC a.g),.cells b.sb 0 158 (Sp.aB a.s),.cells b.qb 0 2281 (Fa.aq c.q),.fam Fa.aH (Fa.SC.rows 254 c.q),.cells b.bb 0 577 (Vm.bz b.vp a.v.by_ a.v.rf),.cells b.vp 0 71 (Vm.au a.v.bb.bJ),.cfam (bN a) c.mb 34 (cN b.bb a.f c.pp c.cc),.fam (bN a) (rN 171 a.f c.pp c.cc),.cells b.tb 0 321 (Tr.ay c.F),.fam Tr.ai (Tr.FC.aD 9 c.F),.fam Tr.ai (Tr.FC.aF 3 c.F),aZ c.rp c.rc 3 c.rl,.cells b.pi 0 24 (Tr.au a.P),.cells b.ob 0 122 (Tr.az b.tb b.pi a.O),.cfam (bO a) (fun z=>(c.t z).b) 4 (cT b.tb c.t),.fam (bO a) (rT 168 c.t)]) (0) ?_ (S5 rfl rfl rfl rfl rfl) (fun _ hw=>XM.pick .la hw) ?_
  ·
   exact⟨by omega,fun j j0 j1=>by omega⟩
  intro ch hch
  have hch1:=hch.1
  refine gC ?_
  refine sp 28 rfl ?_ ?_<;>intro h1
  ·
   refine sd (by omega) ?_
   refine ld .here (ah.nL _ (by omega)) ?_
   refine cd rfl ?_ ?_<;>intro h2
   ·
    have hst0:(a.u ch).st≠0:=h2
    refine sd (by omega) ?_
    refine ag (ch+1) ?_ ?_ (S5 rfl rfl rfl rfl rfl) (fun _ hw=>XM.pick .la hw)
    ·
     (first | omega | (simp;done) | (simp;omega))
    ·
     refine⟨by omega,fun j j0 j1=> ?_⟩
     by_cases e:j=ch
     ·subst e;assumption
     ·exact hch.2 j j0 (by omega)
   ·
    have hc0:(a.u ch).st=0:=by
     have h9:=h2
     have e9:((kp a b c).u ch).st=(a.u ch).st:=rfl
     omega
    refine xV rfl (by omega) ?_
    refine XR.mono (fun _ hw3=>XM.IW (z:=n.toNat) (jv hlr (by omega)) (.cons (.t7 .here) (.cons (.t7 .here) .nil)) hw3) ?_
    refine ld (.t4 .here) (ah.np _ (by omega) hmem) ?_
    refine ca (Vm.q9 b.bb _ _ _ (a.f n.toNat) (ho.wk.sys.mo n.toNat (by omega))) .h1 ?_
    rintro _ _ ⟨rfl,rfl⟩
    refine gO ?_
    refine rq [0,1,2,3,4,5,6,7,8,9,10] mixed (by kernel_rfl) ?_
    refine ld (.t4 .here) (ah.BZ _) ?_
    refine ld (.t4 .here) (ah.km _ (by omega)) ?_
    refine ca (Gr.re _ _ a.g ho.wk.gI.ok _ _ _ (1000*T) (by have:=ho.wk.T0;omega) ho.wk.gS) (.cons (.t5 .here) .nil) ?_
    rintro _ _ ⟨rfl,rfl⟩
    refine gO ?_
    refine cd rfl ?_ ?_<;>intro h3
    ·
     have hge:=h3
     refine XR.mono (fun _ hw3=>XM.DN (f:=a.f) (z:=n.toNat) (ps:=c.pp) (cs:=c.cc) (mb:=c.mb) (jv hlr (by omega)) (.cons (.there .here) (.cons (.there .here) (.cons (.there .here) (.cons (.there .here) .nil)))) hw3) ?_
     refine XE.aU rfl rfl rfl (ab (.cons (.t3 .here) (.cons (.t2 .here) (.cons (.t2 .here) (.cons (.t2 .here) (.cons (.t2 .here) (.cons (.t2 .here) (.cons (.t2 .here) .Hj))))))) rfl ?_)
     try dsimp only[SW.den,SV.den,aj,aL]
     have hfc:a.free=ch:=KA.je ⟨hch.1.1,by omega⟩ hc0 hch.2
     have hg0:a.gE n≠0:=hge
     have e1:a.fp n true=a.gE n:=by unfold KA.fp;rw[if_neg (by omega),if_neg (by omega),if_pos hg0]
     have e2:a.fE n true=0:=by unfold KA.fE;rw[if_neg (by omega)]
     have e3:a.bE n true=a:=by unfold KA.bE;rw[if_pos (by omega)]
     have hce:a.g.bY ((kp a b c).u n).grp 1 (a.f n.toNat).res=a.g:=qK hg0
     rw[e1,e2,e3]
     rw[hce]
     exact⟨rfl,c,hc.up (by omega) (by omega),rfl⟩
    ·
     have hge0:a.gE n=0:=by
      have h9:=h3
      have e9:a.g.bX (a.u n).grp 1 (a.f n.toNat).res=a.gE n:=rfl
      have e8:a.g.bX ((kp a b c).u n).grp 1 (a.f n.toNat).res=a.gE n:=rfl
      omega
     refine ca (iw b.kb (kp a b c) a.s n) (.cons (.t5 .here) (.cons (.t5 .here) .nil)) ?_
     rintro _ _ ⟨rfl,rfl⟩
     refine gO ?_
     refine ld .here (ah.nN _) ?_
     refine ca (Sp.MA _ _ a.s a.dep ho.wk.sI.D ho.wk.sI.A (a.s.bU n).1) (.cons (.there .here) .nil) ?_
     rintro _ _ ⟨rfl,rfl⟩
     refine gO ?_
     refine cd rfl ?_ ?_<;>intro h4
     ·
      have hin:(a.s.add a.dep (a.s.bU n).1).2.1≠0:=h4
      refine rq [0,1,2,3,4,5,6,7,8,9] mixed (by kernel_rfl) ?_
      refine ld (.there .here) (ah.BZ _) ?_
      refine ld (.there .here) (ah.km _ (by omega)) ?_
      refine ca (Gr.mP _ _ (a.gC n) (ho.wk.gI.bY _ _ _).ok _ _ _ (1000*T+320) (by have:=ho.wk.T0;omega) (ho.wk.gS.bY ho.wk.gI.ok _ _ _)) (.cons (.t2 .here) .nil) ?_
      rintro _ _ ⟨rfl,rfl⟩
      refine gO ?_
      refine XR.mono (fun _ hw3=>XM.DN (f:=a.f) (z:=n.toNat) (ps:=c.pp) (cs:=c.cc) (mb:=c.mb) (jv hlr (by omega)) (.cons (.t3 .here) (.cons (.t3 .here) (.cons (.t3 .here) (.cons (.t3 .here) .nil)))) hw3) ?_
      refine XE.aU rfl rfl rfl (ab (.cons (.t4 .here) (.cons (.t2 .here) (.cons (.t2 .here) (.cons (.t2 .here) (.cons (.t2 .here) (.cons (.t2 .here) (.cons (.t2 .here) .Hj))))))) rfl ?_)
      try dsimp only[SW.den,SV.den,aj,aL]
      have hg0:a.gE n=0:=hge0
      have hfc:a.free=ch:=KA.je ⟨hch.1.1,by omega⟩ hc0 hch.2
      have e1:a.fp n true=(a.s.add a.dep (a.s.bU n).1).2.1:=by unfold KA.fp;rw[if_neg (by omega),if_neg (by omega),if_neg (by omega)];show a.L6 n true=_;rw[show a.L6 n true=(a.s.add a.dep (a.s.bU n).1).2.1 from rfl]
      have e2:a.fE n true=0:=by unfold KA.fE;rw[if_neg (by omega)]
      have e3:a.bE n true= {a with g:=(a.gC n).dX (a.u n).grp 1 (a.res n)} :=by unfold KA.bE;rw[if_neg (by omega),if_pos (by exact hin)]
      have hse:(a.s.add a.dep (a.s.bU n).1).2.2=a.s:=by
       rcases a.s.iz a.dep (a.s.bU n).1 with⟨_,_,q⟩ | ⟨k,_,_,_,_,q5⟩
       ·exact q
       ·exact absurd (by rw[q5]) hin
      rw[e1,e2,e3,hse];exact⟨rfl,c,⟨hc.qO.mono (by omega) (by omega),hc.qR,FF.Ok.up hc.F (by omega),hc.rp,hc.rc,hc.rl,hc.tb⟩,rfl⟩
     ·
      have hin:(a.s.add a.dep (a.s.bU n).1).2.1=0:=by
       have h9:=h4
       omega
      have hfc:a.free=ch:=KA.je ⟨hch.1.1,by omega⟩ hc0 hch.2
      have hI:=ho.wk.N7 (n:=n) (own:=true) (SS.Inv.ep ho.wk.sI ho.r0.loc) hl (by omega) hin
      have hzr:(0≤(a.s.bU n).1∧(a.s.bU n).1<6)∧a.s.here (a.s.bU n).1=true:=⟨⟨hI.z.1,hI.z.2.1⟩,hI.z.2.2⟩
      have htb:=hc.tb _ hzr.1.1 hzr.1.2 hzr.2
      have hnz:=SS.vA hin
      refine XR.mono (fun _ hw3=>XM.MM (z:=(a.s.bU n).1.toNat) (yD hzr.1 hzr.2) (.cons (.t12 (.t5 .here)) (.cons (.t12 (.t5 .here)) .nil)) hw3) ?_
      refine rq [0,1,2,3,4,5,6,7,9,10,8,11,12] mixed (by kernel_rfl) ?_
      refine sd (by omega) ?_
      refine ld (.t5 .here) (ah.D5 _ hzr.1 (JN a b c hzr.2)) ?_
      refine ca (Tr.Kw _ _ _ _ _ _ _ _ _ htb.rv htb.mc htb.len c.F c.dF T hc.F (by omega)) (.cons .here (.cons .here (.cons (.t12 (.there .here)) (.cons (.t12 (.there .here)) (.cons (.t12 (.there .here)) .nil))))) ?_
      rintro _ _ ⟨bt2,p2,cap2,k2,c2,C2,F1,rfl,hv2,hC2,hF1,hO1,hp1,hr1,rfl⟩
      refine gO ?_
      refine sd (by omega) ?_
      refine st (.t10 .here) (ah.ET _ hnz.1 _) rfl ?_
      refine XR.mono (fun _ hw3=>XM.MG (z:=(a.s.bU n).1.toNat) (yD hzr.1 hzr.2) (.cons (.t2 .here) (.cons (.t2 .here) (.cons (.t5 .here) (.cons (.t5 .here) .nil)))) hw3) ?_
      refine XR.mono (fun _ hw3=>XM.J1 (z:=(a.s.add a.dep (a.s.bU n).1).1.toNat) ⟨bt2,(c.t (a.s.bU n).1.toNat).r,(c.t (a.s.bU n).1.toNat).l,p2,cap2,k2,c2,C2⟩ (JV hnz.1 hnz.2.1) (.cons (.t2 .here) (.cons (.t2 .here) .h2)) hw3) ?_
      refine ld (.t6 .here) (ah.nN _) ?_
      refine ca (Sp.uT _ _ (a.s.add a.dep (a.s.bU n).1).2.2 (a.dA n true) hI.inv.D (a.s.add a.dep (a.s.bU n).1).1 ch) (.cons (.t5 .here) .nil) ?_
      rintro _ _ ⟨rfl,rfl⟩
      refine gO ?_
      refine Mg (σ:=Nat×Nat×Option Addr×Nat×Nat×TB×Tr.FC) (fun y=>y.2.2.2.2.2.2.toFF.Ok c.dF (T+13)∧y.2.2.2.2.2.2.rP=c.F.rP∧y.2.2.2.2.2.2.rC=c.F.rC∧y.2.2.2.2.2.2.roots=c.F.roots∧y.2.2.2.2.2.1.Ok) (fun y=>[(0,ptr b.kb 0 0),(8,ptr b.kb 0 (0+0+n.toNat*22)),(10,.int .i64 ch),(12,.int .i64 (a.s.bU n).1),(14,ptr y.2.1 0 0)]) (fun y=>XM W (bR [.cells b.kb 0 453 (ah (kp a b c)),.cells b.gb 0 60 (Gr.aC a.g),.cells b.sb 0 158 (Sp.aB a.s),.cells b.qb 0 2281 (Fa.aq c.q),.fam Fa.aH (Fa.SC.rows 254 c.q),.cells b.bb 0 577 (Vm.bz b.vp a.v.by_ a.v.rf),.cells b.vp 0 71 (Vm.au a.v.bb.bJ),.cfam (bN a) c.mb 34 (cN b.bb a.f c.pp c.cc),.fam (bN a) (rN 171 a.f c.pp c.cc),.cells b.tb 0 321 (Tr.ay c.F),.fam Tr.ai (Tr.FC.aD 9 c.F),.fam Tr.ai (Tr.FC.aF 3 c.F),aZ c.rp c.rc 3 c.rl,.cells b.pi 0 24 (Tr.au a.P),.cells b.ob 0 122 (Tr.az b.tb b.pi a.O),.cfam (bO a) (fun z=>(c.t z).b) 4 (cT b.tb c.t),.fam (bO a) (rT 168 c.t)]) [.cells b.kb 0 453 (ah ({kp a b c with ms:=aa (kp a b c).ms (a.s.add a.dep (a.s.bU n).1).1 (ptr y.2.2.2.2.2.1.b 0 0)} :KP)),.cells b.gb 0 60 (Gr.aC (a.gC n)),.cells b.sb 0 158 (Sp.aB ((a.s.add a.dep (a.s.bU n).1).2.2.enter (a.dA n true) (a.s.add a.dep (a.s.bU n).1).1 ch).2.2),.cells b.qb 0 2281 (Fa.aq c.q),.fam Fa.aH (Fa.SC.rows 254 c.q),.cells b.bb 0 577 (Vm.bz b.vp (a.v.fork (a.f n.toNat)).by_ (a.v.fork (a.f n.toNat)).rf),.cells b.vp 0 71 (Vm.au (a.v.fork (a.f n.toNat)).bb.bJ),.cells (c.mb n.toNat) 0 34 (Vm.bA b.bb (c.pp n.toNat) (Vm.runs (a.f n.toNat).aA).length (c.cc n.toNat) (a.f n.toNat).fr (fun _=>false)),aR (c.pp n.toNat) (c.cc n.toNat) 171 3 (Vm.runs (a.f n.toNat).aA).length (Vm.dy (Vm.runs (a.f n.toNat).aA)),.cells y.1 0 34 (Vm.bA b.bb y.2.2.1 (Vm.runs (a.f n.toNat).aA).length y.2.2.2.1 (a.f n.toNat).fr (fun _=>false)),aR y.2.2.1 y.2.2.2.1 171 3 (Vm.runs (a.f n.toNat).aA).length (Vm.dy (Vm.runs (a.f n.toNat).aA)),.cfam (eA (bN a) n.toNat) c.mb 34 (cN b.bb a.f c.pp c.cc),.fam (eA (bN a) n.toNat) (rN 171 a.f c.pp c.cc),.cells b.tb 0 321 (Tr.ay y.2.2.2.2.2.2),.fam Tr.ai (Tr.FC.aD 9 y.2.2.2.2.2.2),.fam Tr.ai (Tr.FC.aF 3 y.2.2.2.2.2.2),aZ c.rp c.rc 3 c.rl,.cells b.pi 0 24 (Tr.au a.P),.cells b.ob 0 122 (Tr.az b.tb b.pi (sC (a.u n).fd a.O (0:Int).toNat)),.cfam (uy (bO a) (a.s.add a.dep (a.s.bU n).1).1.toNat) (fun z=>((bF c.t (a.s.add a.dep (a.s.bU n).1).1.toNat y.2.2.2.2.2.1) z).b) 4 (cT b.tb (bF c.t (a.s.add a.dep (a.s.bU n).1).1.toNat y.2.2.2.2.2.1)),.fam (uy (bO a) (a.s.add a.dep (a.s.bU n).1).1.toNat) (rT 168 (bF c.t (a.s.add a.dep (a.s.bU n).1).1.toNat y.2.2.2.2.2.1)),.cells y.2.1 0 22 (((kp a b c).eb n y.1).cell)]) ?_ ?_
      ·
       refine XC.iu mixed (f:=23) (l:= #[false,false,false,false,false,false,false,false,false,false,false,false,false,false,false,false,false,false,false,false,false,false,false]) rfl rfl XM.lj ?_
       refine XQ.pv (i:=0) (l':= #[true,false,false,false,false,false,false,false,false,false,false,false,false,false,false,false,false,false,false,false,false,false,false]) rfl (by kernel_rfl) rfl (V.move rfl) rfl rfl ?_
       refine XQ.pv (i:=1) (l':= #[true,true,false,false,false,false,false,false,false,false,false,false,false,false,false,false,false,false,false,false,false,false,false]) rfl (by kernel_rfl) rfl (V.move rfl) rfl rfl ?_
       refine XQ.pv (i:=2) (l':= #[true,true,true,false,false,false,false,false,false,false,false,false,false,false,false,false,false,false,false,false,false,false,false]) rfl (by kernel_rfl) rfl (V.bI rfl) rfl rfl ?_
       refine XQ.pv (i:=3) (l':= #[true,true,true,true,false,false,false,false,false,false,false,false,false,false,false,false,false,false,false,false,false,false,false]) rfl (by kernel_rfl) rfl (V.fieldAddr rfl zH) rfl rfl ?_
       refine XQ.load (i:=4) (l':= #[true,true,true,true,true,false,false,false,false,false,false,false,false,false,false,false,false,false,false,false,false,false,false]) (.cells _ _ _ _) [22] rfl (by kernel_rfl) rfl (.t6 .here) (V.load rfl ea (ah.km _ (by omega)) jd) rfl (by kernel_rfl) rfl ?_
       refine XQ.pv (i:=5) (l':= #[true,true,true,true,true,true,false,false,false,false,false,false,false,false,false,false,false,false,false,false,false,false,false]) rfl (by kernel_rfl) rfl (V.move rfl) rfl rfl ?_
       refine XQ.pv (i:=6) (l':= #[true,true,true,true,true,true,true,false,false,false,false,false,false,false,false,false,false,false,false,false,false,false,false]) rfl (by kernel_rfl) rfl (V.bI rfl) rfl rfl ?_
       refine XQ.pv (i:=7) (l':= #[true,true,true,true,true,true,true,true,false,false,false,false,false,false,false,false,false,false,false,false,false,false,false]) rfl (by kernel_rfl) rfl (V.fieldAddr rfl zT) rfl rfl ?_
       refine XQ.load (i:=8) (l':= #[true,true,true,true,true,true,true,true,true,false,false,false,false,false,false,false,false,false,false,false,false,false,false]) (.cells _ _ _ _) [9,17,22] rfl (by kernel_rfl) rfl (.t6 .here) (V.load rfl ea (ah.np _ (by omega) hmem) JH) rfl (by kernel_rfl) rfl ?_
       refine XQ.pv (i:=10) (l':= #[true,true,true,true,true,true,true,true,true,false,true,false,false,false,false,false,false,false,false,false,false,false,false]) rfl (by kernel_rfl) rfl (V.move rfl) rfl rfl ?_
       refine XQ.pv (i:=11) (l':= #[true,true,true,true,true,true,true,true,true,false,true,true,false,false,false,false,false,false,false,false,false,false,false]) rfl (by kernel_rfl) rfl (V.bI rfl) rfl rfl ?_
       refine XQ.pv (i:=12) (l':= #[true,true,true,true,true,true,true,true,true,false,true,true,true,false,false,false,false,false,false,false,false,false,false]) rfl (by kernel_rfl) rfl (V.fieldAddr rfl AP) rfl rfl ?_
       refine XQ.load (i:=13) (l':= #[true,true,true,true,true,true,true,true,true,false,true,true,true,true,false,false,false,false,false,false,false,false,false]) (.cells _ _ _ _) [22] rfl (by kernel_rfl) rfl (.t6 .here) (V.gu rfl ea (ah.yr _ (by omega)) Ju Ab) rfl (by kernel_rfl) rfl ?_
       refine XQ.pv (i:=14) (l':= #[true,true,true,true,true,true,true,true,true,false,true,true,true,true,true,false,false,false,false,false,false,false,false]) rfl (by kernel_rfl) rfl (V.move rfl) rfl rfl ?_
       refine XQ.pv (i:=15) (l':= #[true,true,true,true,true,true,true,true,true,false,true,true,true,true,true,true,false,false,false,false,false,false,false]) rfl (by kernel_rfl) rfl (V.bI rfl) rfl rfl ?_
       refine XQ.pv (i:=16) (l':= #[true,true,true,true,true,true,true,true,true,false,true,true,true,true,true,true,true,false,false,false,false,false,false]) rfl (by kernel_rfl) rfl (V.fieldAddr rfl AD) rfl rfl ?_
       refine XQ.fork (i:=9) (j:=21) (by kernel_rfl) ?_ ?_
       ·
        refine XS.call (i:=9) (l':= #[true,true,true,true,true,true,true,true,true,true,true,true,true,true,true,true,true,false,false,false,false,false,false]) rfl rfl rfl (Vm.u7 b.bb b.vp _ a.v ho.wk.sys.acc.ok _ _ (a.f n.toNat) (ho.wk.sys.mo n.toNat (by omega))) (.cons (.t12 (.t2 .here)) (.cons (.t8 .here) (.cons (.t8 .here) .nil))) Aw rfl (by rintro _ _ ⟨nb,p1,c1,rfl,rfl⟩;all_goals(intro _ hw';exact⟨fun _=>dm (.t11 .here) _ hw',fun hs=>(hs 9 (by first | (simp;done) | (simp;rfl)) rfl).elim,fun _=>dm (.t11 .here) _ hw',trivial⟩)) ?_
        rintro _ _ ⟨nb,p1,c1,rfl,rfl⟩
        refine XQ.fork (i:=17) (j:=21) (by kernel_rfl) ?_ ?_
        ·
         refine XS.call (i:=17) (l':= #[true,true,true,true,true,true,true,true,true,true,true,true,true,true,true,true,true,true,false,false,false,false,false]) rfl rfl rfl (lL b.kb ({kp a b c with ms:=aa (kp a b c).ms (a.s.add a.dep (a.s.bU n).1).1 (ptr bt2 0 0)} :KP) n hlr) (.cons (.t11 .here) .nil) uq rfl (by rintro _ _ ⟨bc,rfl,rfl⟩;all_goals(intro _ hw';exact⟨fun _=>dm (.there .here) _ hw',fun hs=>(hs 9 (by first | (simp;done) | (simp;rfl)) rfl).elim,fun _=>dm (.there .here) _ hw',trivial⟩)) ?_
         rintro _ _ ⟨bc,rfl,rfl⟩
         refine XQ.pv (i:=18) (l':= #[true,true,true,true,true,true,true,true,true,true,true,true,true,true,true,true,true,true,true,false,false,false,false]) rfl (by kernel_rfl) rfl (V.bI rfl) rfl rfl ?_
         refine XQ.load (i:=19) (l':= #[true,true,true,true,true,true,true,true,true,true,true,true,true,true,true,true,true,true,true,true,false,false,false]) (.cells _ _ _ _) [22] rfl (by kernel_rfl) rfl .here (V.gu rfl ea (Sg.gy _) tm jK) rfl (by kernel_rfl) rfl ?_
         refine XQ.pv (i:=20) (l':= #[true,true,true,true,true,true,true,true,true,true,true,true,true,true,true,true,true,true,true,true,true,false,false]) rfl (by kernel_rfl) rfl (V.build (vs:= #[(0,.int .i64 1),(1,.int .i64 n),(2,.int .i64 (a.u n).grp),(4,ptr nb 0 0),(5,.agg (Dg (a.u n).fd)),(6,.agg (IA (a.u n).bx.child))]) rfl (v:=.agg ((kp a b c).eb n nb).arr) (iG n _ nb _ _)) rfl rfl ?_
         refine XQ.cY (i:=21) (l':= #[true,true,true,true,true,true,true,true,true,true,true,true,true,true,true,true,true,true,true,true,true,true,false]) (z:=(.agg PU.nil.arr)) (m:=22) (C:=PU.nil.cell) rfl (by kernel_rfl) rfl (by kernel_rfl) rfl (PU.box PU.nil) rfl (fun _ _ hw'=>⟨fun _=>dm (.there .here) _ hw',fun _=>dm (.t2 .here) _ hw',fun hs=>(hs 9 (by first | (simp;done) | (simp;rfl)) rfl).elim,fun _=>dm (.t2 .here) _ hw',trivial⟩) ?_
         intro ba
         refine XQ.eZ (i:=22) (l':= #[true,true,true,true,true,true,true,true,true,true,true,true,true,true,true,true,true,true,true,true,true,true,true]) rfl (by kernel_rfl) rfl rfl rfl .here (PU.sa _ _) ⟨rfl,rfl⟩ jI (fun _ hw'=>⟨fun hs=>(hs 22 (by first | (simp;done) | (simp;rfl)) rfl).elim,fun hs=>(hs 22 (by first | (simp;done) | (simp;rfl)) rfl).elim,fun hs=>(hs 9 (by first | (simp;done) | (simp;rfl)) rfl).elim,fun hs=>(hs 22 (by first | (simp;done) | (simp;rfl)) rfl).elim,trivial⟩) ?_
         refine XQ.done (by kernel_rfl) ?_
         refine gE ?_
         refine vE ((nb,ba,p1,c1,0,⟨bt2,(c.t (a.s.bU n).1.toNat).r,(c.t (a.s.bU n).1.toNat).l,p2,cap2,k2,c2,C2⟩,F1)) ?_ (S5 rfl rfl rfl rfl rfl) (fun _ hw=>XM.pick (.cons (.t2 .here) (.cons (.t12 (.there .here)) (.cons (.t7 .here) (.cons (.t12 (.t2 .here)) (.cons (.t12 (.t2 .here)) (.cons (.t2 .here) (.cons (.t12 (.there .here)) (.cons (.t2 .here) (.cons (.t2 .here) (.cons (.t2 .here) (.cons (.t2 .here) (.cons (.t7 .here) (.cons (.t7 .here) (.cons (.t4 .here) (.cons (.t4 .here) (.cons (.t4 .here) (.cons (.t4 .here) (.cons (.t4 .here) (.cons (.t4 .here) (.cons (.t2 .here) (.cons (.t2 .here) .h1))))))))))))))))))))) hw)
         exact⟨hO1,hp1,hr1,(by show F1.toFF.roots=_;rw[hF1,kB]),⟨hv2,hC2,htb.len⟩⟩
        ·
         refine XS.cY (i:=21) (l':= #[true,true,true,true,true,true,true,true,true,true,true,true,true,true,true,true,true,false,false,false,false,true,false]) (z:=(.agg PU.nil.arr)) (m:=22) (C:=PU.nil.cell) rfl rfl (by kernel_rfl) rfl (PU.box PU.nil) rfl (fun _ _ hw'=>⟨fun _=>dm (.t12 .here) _ hw',fun hs=>(hs 9 (by first | (simp;done) | (simp;rfl)) rfl).elim,fun _=>dm (.t12 .here) _ hw',trivial⟩) ?_
         intro ba
         refine XQ.call (i:=17) (l':= #[true,true,true,true,true,true,true,true,true,true,true,true,true,true,true,true,true,true,false,false,false,true,false]) rfl (by kernel_rfl) rfl rfl (lL b.kb ({kp a b c with ms:=aa (kp a b c).ms (a.s.add a.dep (a.s.bU n).1).1 (ptr bt2 0 0)} :KP) n hlr) (.cons (.t12 .here) .nil) uq rfl (by rintro _ _ ⟨bc,rfl,rfl⟩;all_goals(intro _ hw';exact⟨fun _=>dm (.there .here) _ hw',fun hs=>(hs 9 (by first | (simp;done) | (simp;rfl)) rfl).elim,fun _=>dm (.there .here) _ hw',trivial⟩)) ?_
         rintro _ _ ⟨bc,rfl,rfl⟩
         refine XQ.pv (i:=18) (l':= #[true,true,true,true,true,true,true,true,true,true,true,true,true,true,true,true,true,true,true,false,false,true,false]) rfl (by kernel_rfl) rfl (V.bI rfl) rfl rfl ?_
         refine XQ.load (i:=19) (l':= #[true,true,true,true,true,true,true,true,true,true,true,true,true,true,true,true,true,true,true,true,false,true,false]) (.cells _ _ _ _) [22] rfl (by kernel_rfl) rfl .here (V.gu rfl ea (Sg.gy _) tm jK) rfl (by kernel_rfl) rfl ?_
         refine XQ.pv (i:=20) (l':= #[true,true,true,true,true,true,true,true,true,true,true,true,true,true,true,true,true,true,true,true,true,true,false]) rfl (by kernel_rfl) rfl (V.build (vs:= #[(0,.int .i64 1),(1,.int .i64 n),(2,.int .i64 (a.u n).grp),(4,ptr nb 0 0),(5,.agg (Dg (a.u n).fd)),(6,.agg (IA (a.u n).bx.child))]) rfl (v:=.agg ((kp a b c).eb n nb).arr) (iG n _ nb _ _)) rfl rfl ?_
         refine XQ.eZ (i:=22) (l':= #[true,true,true,true,true,true,true,true,true,true,true,true,true,true,true,true,true,true,true,true,true,true,true]) rfl (by kernel_rfl) rfl rfl rfl (.t2 .here) (PU.sa _ _) ⟨rfl,rfl⟩ jI (fun _ hw'=>⟨fun hs=>(hs 22 (by first | (simp;done) | (simp;rfl)) rfl).elim,fun hs=>(hs 22 (by first | (simp;done) | (simp;rfl)) rfl).elim,fun hs=>(hs 9 (by first | (simp;done) | (simp;rfl)) rfl).elim,fun hs=>(hs 22 (by first | (simp;done) | (simp;rfl)) rfl).elim,trivial⟩) ?_
         refine XQ.done (by kernel_rfl) ?_
         refine gE ?_
         refine vE ((nb,ba,p1,c1,0,⟨bt2,(c.t (a.s.bU n).1.toNat).r,(c.t (a.s.bU n).1.toNat).l,p2,cap2,k2,c2,C2⟩,F1)) ?_ (S5 rfl rfl rfl rfl rfl) (fun _ hw=>XM.pick (.cons (.there .here) (.cons (.t12 (.there .here)) (.cons (.t7 .here) (.cons (.t12 (.t2 .here)) (.cons (.t12 (.t2 .here)) (.cons (.t2 .here) (.cons (.t12 (.there .here)) (.cons (.t2 .here) (.cons (.t2 .here) (.cons (.t2 .here) (.cons (.t2 .here) (.cons (.t7 .here) (.cons (.t7 .here) (.cons (.t4 .here) (.cons (.t4 .here) (.cons (.t4 .here) (.cons (.t4 .here) (.cons (.t4 .here) (.cons (.t4 .here) (.cons (.t2 .here) (.cons (.t2 .here) (.cons (.there .here) .nil)))))))))))))))))))))) hw)
         exact⟨hO1,hp1,hr1,(by show F1.toFF.roots=_;rw[hF1,kB]),⟨hv2,hC2,htb.len⟩⟩
       ·
        refine XS.cY (i:=21) (l':= #[true,true,true,true,true,true,true,true,true,false,true,true,true,true,true,true,true,false,false,false,false,true,false]) (z:=(.agg PU.nil.arr)) (m:=22) (C:=PU.nil.cell) rfl rfl (by kernel_rfl) rfl (PU.box PU.nil) rfl (fun _ _ hw'=>⟨fun _=>dm (.t7 .here) _ hw',fun _=>dm (.t7 .here) _ hw',fun _=>dm (.t7 .here) _ hw',trivial⟩) ?_
        intro ba
        refine XQ.call (i:=9) (l':= #[true,true,true,true,true,true,true,true,true,true,true,true,true,true,true,true,true,false,false,false,false,true,false]) rfl (by kernel_rfl) rfl rfl (Vm.u7 b.bb b.vp _ a.v ho.wk.sys.acc.ok _ _ (a.f n.toNat) (ho.wk.sys.mo n.toNat (by omega))) (.cons (.t12 (.t3 .here)) (.cons (.t9 .here) (.cons (.t9 .here) .nil))) Aw rfl (by rintro _ _ ⟨nb,p1,c1,rfl,rfl⟩;all_goals(intro _ hw';exact⟨fun _=>dm (.t12 .here) _ hw',fun hs=>(hs 9 (by first | (simp;done) | (simp;rfl)) rfl).elim,fun _=>dm (.t12 .here) _ hw',trivial⟩)) ?_
        rintro _ _ ⟨nb,p1,c1,rfl,rfl⟩
        refine XQ.call (i:=17) (l':= #[true,true,true,true,true,true,true,true,true,true,true,true,true,true,true,true,true,true,false,false,false,true,false]) rfl (by kernel_rfl) rfl rfl (lL b.kb ({kp a b c with ms:=aa (kp a b c).ms (a.s.add a.dep (a.s.bU n).1).1 (ptr bt2 0 0)} :KP) n hlr) (.cons (.t12 .here) .nil) uq rfl (by rintro _ _ ⟨bc,rfl,rfl⟩;all_goals(intro _ hw';exact⟨fun _=>dm (.there .here) _ hw',fun hs=>(hs 9 (by first | (simp;done) | (simp;rfl)) rfl).elim,fun _=>dm (.there .here) _ hw',trivial⟩)) ?_
        rintro _ _ ⟨bc,rfl,rfl⟩
        refine XQ.pv (i:=18) (l':= #[true,true,true,true,true,true,true,true,true,true,true,true,true,true,true,true,true,true,true,false,false,true,false]) rfl (by kernel_rfl) rfl (V.bI rfl) rfl rfl ?_
        refine XQ.load (i:=19) (l':= #[true,true,true,true,true,true,true,true,true,true,true,true,true,true,true,true,true,true,true,true,false,true,false]) (.cells _ _ _ _) [22] rfl (by kernel_rfl) rfl .here (V.gu rfl ea (Sg.gy _) tm jK) rfl (by kernel_rfl) rfl ?_
        refine XQ.pv (i:=20) (l':= #[true,true,true,true,true,true,true,true,true,true,true,true,true,true,true,true,true,true,true,true,true,true,false]) rfl (by kernel_rfl) rfl (V.build (vs:= #[(0,.int .i64 1),(1,.int .i64 n),(2,.int .i64 (a.u n).grp),(4,ptr nb 0 0),(5,.agg (Dg (a.u n).fd)),(6,.agg (IA (a.u n).bx.child))]) rfl (v:=.agg ((kp a b c).eb n nb).arr) (iG n _ nb _ _)) rfl rfl ?_
        refine XQ.eZ (i:=22) (l':= #[true,true,true,true,true,true,true,true,true,true,true,true,true,true,true,true,true,true,true,true,true,true,true]) rfl (by kernel_rfl) rfl rfl rfl (.t7 .here) (PU.sa _ _) ⟨rfl,rfl⟩ jI (fun _ hw'=>⟨fun hs=>(hs 22 (by first | (simp;done) | (simp;rfl)) rfl).elim,fun hs=>(hs 22 (by first | (simp;done) | (simp;rfl)) rfl).elim,fun hs=>(hs 9 (by first | (simp;done) | (simp;rfl)) rfl).elim,fun hs=>(hs 22 (by first | (simp;done) | (simp;rfl)) rfl).elim,trivial⟩) ?_
        refine XQ.done (by kernel_rfl) ?_
        refine gE ?_
        refine vE ((nb,ba,p1,c1,0,⟨bt2,(c.t (a.s.bU n).1.toNat).r,(c.t (a.s.bU n).1.toNat).l,p2,cap2,k2,c2,C2⟩,F1)) ?_ (S5 rfl rfl rfl rfl rfl) (fun _ hw=>XM.pick (.cons (.there .here) (.cons (.t12 (.there .here)) (.cons (.t7 .here) (.cons (.t12 (.t2 .here)) (.cons (.t12 (.t2 .here)) (.cons (.there .here) (.cons (.t12 (.there .here)) (.cons (.there .here) (.cons (.there .here) (.cons (.there .here) (.cons (.there .here) (.cons (.t7 .here) (.cons (.t7 .here) (.cons (.t4 .here) (.cons (.t4 .here) (.cons (.t4 .here) (.cons (.t4 .here) (.cons (.t4 .here) (.cons (.t4 .here) (.cons (.t2 .here) (.cons (.t2 .here) (.cons (.there .here) .nil)))))))))))))))))))))) hw)
        exact⟨hO1,hp1,hr1,(by show F1.toFF.roots=_;rw[hF1,kB]),⟨hv2,hC2,htb.len⟩⟩
      intro y hy
      refine gC ?_
      refine mQ (.t12 (.t9 .here)) (PU.fds _) ?_
      refine lp (σ:=Int) (fun i=>(6-i).toNat) (fun i=>0≤i∧i≤6) (fun i=>[(133,.int .i64 i),(0,ptr b.kb 0 0),(8,ptr b.kb 0 (0+0+n.toNat*22)),(10,.int .i64 ch),(12,.int .i64 (a.s.bU n).1),(14,ptr y.2.1 0 0),(132,.agg (Dg (a.u n).fd))]) (fun i=>XM W (bR [.cells b.kb 0 453 (ah (kp a b c)),.cells b.gb 0 60 (Gr.aC a.g),.cells b.sb 0 158 (Sp.aB a.s),.cells b.qb 0 2281 (Fa.aq c.q),.fam Fa.aH (Fa.SC.rows 254 c.q),.cells b.bb 0 577 (Vm.bz b.vp a.v.by_ a.v.rf),.cells b.vp 0 71 (Vm.au a.v.bb.bJ),.cfam (bN a) c.mb 34 (cN b.bb a.f c.pp c.cc),.fam (bN a) (rN 171 a.f c.pp c.cc),.cells b.tb 0 321 (Tr.ay c.F),.fam Tr.ai (Tr.FC.aD 9 c.F),.fam Tr.ai (Tr.FC.aF 3 c.F),aZ c.rp c.rc 3 c.rl,.cells b.pi 0 24 (Tr.au a.P),.cells b.ob 0 122 (Tr.az b.tb b.pi a.O),.cfam (bO a) (fun z=>(c.t z).b) 4 (cT b.tb c.t),.fam (bO a) (rT 168 c.t)]) [.cells b.kb 0 453 (ah ({kp a b c with ms:=aa (kp a b c).ms (a.s.add a.dep (a.s.bU n).1).1 (ptr y.2.2.2.2.2.1.b 0 0)} :KP)),.cells b.gb 0 60 (Gr.aC (a.gC n)),.cells b.sb 0 158 (Sp.aB ((a.s.add a.dep (a.s.bU n).1).2.2.enter (a.dA n true) (a.s.add a.dep (a.s.bU n).1).1 ch).2.2),.cells b.qb 0 2281 (Fa.aq c.q),.fam Fa.aH (Fa.SC.rows 254 c.q),.cells b.bb 0 577 (Vm.bz b.vp (a.v.fork (a.f n.toNat)).by_ (a.v.fork (a.f n.toNat)).rf),.cells b.vp 0 71 (Vm.au (a.v.fork (a.f n.toNat)).bb.bJ),.cells (c.mb n.toNat) 0 34 (Vm.bA b.bb (c.pp n.toNat) (Vm.runs (a.f n.toNat).aA).length (c.cc n.toNat) (a.f n.toNat).fr (fun _=>false)),aR (c.pp n.toNat) (c.cc n.toNat) 171 3 (Vm.runs (a.f n.toNat).aA).length (Vm.dy (Vm.runs (a.f n.toNat).aA)),.cells y.1 0 34 (Vm.bA b.bb y.2.2.1 (Vm.runs (a.f n.toNat).aA).length y.2.2.2.1 (a.f n.toNat).fr (fun _=>false)),aR y.2.2.1 y.2.2.2.1 171 3 (Vm.runs (a.f n.toNat).aA).length (Vm.dy (Vm.runs (a.f n.toNat).aA)),.cfam (eA (bN a) n.toNat) c.mb 34 (cN b.bb a.f c.pp c.cc),.fam (eA (bN a) n.toNat) (rN 171 a.f c.pp c.cc),.cells b.tb 0 321 (Tr.ay y.2.2.2.2.2.2),.fam Tr.ai (Tr.FC.aD 9 y.2.2.2.2.2.2),.fam Tr.ai (Tr.FC.aF 3 y.2.2.2.2.2.2),aZ c.rp c.rc 3 c.rl,.cells b.pi 0 24 (Tr.au a.P),.cells b.ob 0 122 (Tr.az b.tb b.pi (sC (a.u n).fd a.O i.toNat)),.cfam (uy (bO a) (a.s.add a.dep (a.s.bU n).1).1.toNat) (fun z=>((bF c.t (a.s.add a.dep (a.s.bU n).1).1.toNat y.2.2.2.2.2.1) z).b) 4 (cT b.tb (bF c.t (a.s.add a.dep (a.s.bU n).1).1.toNat y.2.2.2.2.2.1)),.fam (uy (bO a) (a.s.add a.dep (a.s.bU n).1).1.toNat) (rT 168 (bF c.t (a.s.add a.dep (a.s.bU n).1).1.toNat y.2.2.2.2.2.1)),.cells y.2.1 0 22 (((kp a b c).eb n y.1).cell)]) (0) ?_ (.cons rfl (S6 rfl rfl rfl rfl rfl rfl)) (fun _ hw=>XM.pick .Nt hw) ?_
      ·
       omega
      intro i hi
      have hfdi:=ho.wk.fd n i
      refine gC ?_
      refine cd rfl ?_ ?_<;>intro h5
      ·
       refine XO.v (V.iA rfl rfl Tryz.underlying83 jG jd (by omega)) rfl (gO ?_)
       refine cd rfl ?_ ?_<;>intro h6
       ·
        have h26:(a.u n).fd i>0:=h6
        refine ld .here (ah.B7 _) ?_
        refine sd (by omega) ?_
        refine ca (Tr.A2 _ _ _ _ _ (T+6) (by omega) ((pU (f:=(a.u n).fd) ho.wk.OI i.toNat).mono (by omega)) _) (.cons (.t12 (.t6 .here)) .nil) ?_
        rintro _ _ ⟨rfl,rfl⟩
        refine gO ?_
        refine sd (by omega) ?_
        refine ag (i+1) ?_ ?_ (.cons rfl (S6 rfl rfl rfl rfl rfl rfl)) (fun _ hw2=>by rw[AI _ hi.1 h26];exact XM.pick (.cons (.there .here) (.cons (.there .here) (.cons (.there .here) (.cons (.there .here) (.cons (.there .here) (.cons (.there .here) (.cons (.there .here) (.cons (.there .here) (.cons (.there .here) (.cons (.there .here) (.cons (.there .here) (.cons (.there .here) (.cons (.there .here) (.cons (.there .here) (.cons (.there .here) (.cons (.there .here) (.cons (.there .here) (.cons (.there .here) .h4)))))))))))))))))) hw2)
        ·
         (first | omega | (simp;done) | (simp;omega))
        ·
         (first | omega | (simp;done) | (simp;omega))
       ·
        have h26:¬(a.u n).fd i>0:=h6
        refine sd (by omega) ?_
        refine ag (i+1) ?_ ?_ (.cons rfl (S6 rfl rfl rfl rfl rfl rfl)) (fun _ hw2=>by rw[vS _ hi.1 h26];exact XM.pick .Nt hw2)
        ·
         (first | omega | (simp;done) | (simp;omega))
        ·
         (first | omega | (simp;done) | (simp;omega))
      ·
       refine rq [0,1,2,3,4,5,6] mixed (by kernel_rfl) ?_
       refine mQ (.t12 (.t9 .here)) (PU.agg _) ?_
       refine sd (by omega) ?_
       refine jV .here (ah.sa _ (by omega) _) rfl ⟨rfl,rfl⟩ ?_
       refine rq [0,1,2,3,4,5,6,7,8,9] mixed (by kernel_rfl) ?_
       refine ld .here (ah.xJ _) ?_
       refine ld .here (ah.km _ (by omega)) ?_
       refine ca (Fa.oH _ _ c.q c.d hc.qO.inv hc.qR ch _ 100) (.cons (.t3 .here) (.cons (.t3 .here) .nil)) ?_
       rintro _ _ ⟨rfl,q1,hq1,hr1,rfl⟩
       obtain⟨d1,hok1⟩:∃ d1,q1.toSF.Ok d1 (N+1) N:=by rw[hq1];exact hc.qO.mH (by omega) _ _ _
       refine gO ?_
       refine ld (.t2 .here) (ah.xJ _) ?_
       refine ca (Fa.yq _ _ q1 d1 hok1.inv hr1 ch true) .h2 ?_
       rintro _ _ ⟨rfl,q2,hq2,hr2,rfl⟩
       have hok2:q2.toSF.Ok d1 (N+1) N:=by rw[hq2];exact hok1.ej _ _
       refine gO ?_
       refine ld (.t2 .here) (ah.nN _) ?_
       refine ca (Sp.Bb _ _ ((a.s.add a.dep (a.s.bU n).1).2.2.enter (a.dA n true) (a.s.add a.dep (a.s.bU n).1).1 ch).2.2 _ _) (.cons (.t4 .here) .nil) ?_
       rintro _ _ ⟨rfl,rfl⟩
       refine gO ?_
       refine XR.mono (fun _ hw3=>XM.Ar (f:=a.f) (a.f n.toNat).bare (jv hlr (by omega)) (.cons (.t7 .here) (.cons (.t7 .here) (.cons (.t9 .here) (.cons (.t9 .here) .nil)))) hw3) ?_
       refine XR.mono (fun _ hw3=>XM.I3 (a.f n.toNat).bare (Fy ⟨hch.1.1,by omega⟩ hc0) (.cons (.t9 .here) (.cons (.t9 .here) .h2)) hw3) ?_
       refine XE.aU rfl rfl rfl (ab (.cons (.t5 .here) (.cons (.t5 .here) (.cons (.t2 .here) (.cons (.t2 .here) (.cons (.t2 .here) (.cons (.t2 .here) (.cons (.t2 .here) .Hj))))))) rfl ?_)
       try dsimp only[SW.den,SV.den,aj,aL]
       have hi6:i=6:=by omega
       subst hi6
       have hfc:a.free=ch:=KA.je ⟨hch.1.1,by omega⟩ hc0 hch.2
       subst hfc
       have hg0:a.gE n=0:=hge0
       have e1:a.fp n true=0:=by unfold KA.fp;rw[if_neg (by omega),if_neg (by omega),if_neg (by omega)];exact hin
       have e2:a.fE n true=((a.cG n true).s.pid a.free (a.sz n)).1:=by unfold KA.fE;rw[if_pos e1]
       have e3:a.bE n true=a.cG n true:=by unfold KA.bE;rw[if_neg (by omega),if_neg (by exact fun q=>q hin)]
       have e4:((a.cG n true).s.pid a.free (a.sz n)).2=0:=hI.pid.1
       have hc2:eQ (a.cG n true) {c with mb:=bF c.mb a.free.toNat y.1,pp:=bF (bF c.pp n.toNat (c.pp n.toNat)) a.free.toNat y.2.2.1,cc:=bF (bF c.cc n.toNat (c.cc n.toNat)) a.free.toNat y.2.2.2.1,q:=q2,d:=d1,F:=y.2.2.2.2.2.2,t:=bF c.t (a.s.add a.dep (a.s.bU n).1).1.toNat y.2.2.2.2.2.1} (N+1) (T+20):=by
        refine⟨hok2.mono (Nat.le_refl _) (by omega),hr2,FF.Ok.up hy.1 (by omega),hy.2.1.trans hc.rp,hy.2.2.1.trans hc.rc,hy.2.2.2.1.trans hc.rl,fun z h0 h1 h2=> ?_⟩
        by_cases ez:z.toNat=(a.s.add a.dep (a.s.bU n).1).1.toNat
        ·show(bF c.t _ y.2.2.2.2.2.1 z.toNat).Ok
         rw[ez,c9];exact hy.2.2.2.2
        ·show(bF c.t _ y.2.2.2.2.2.1 z.toNat).Ok
         rw[cQ _ _ ez]
         refine hc.tb z h0 h1 ?_
         rw[hI.qi]at h2
         have h2:(a.s.add a.dep (a.s.bU n).1).2.2.here z=true:=h2
         rw[(SS.vA hin).2.2,ad _ _ (by omega)]at h2
         exact h2
       rw[e1,e2,e3]
       refine⟨?_,_,hc2,?_⟩
       ·rw[←e4];rfl
       ·rw[Ae (c':= {c with mb:=bF c.mb a.free.toNat y.1,pp:=bF (bF c.pp n.toNat (c.pp n.toNat)) a.free.toNat y.2.2.1,cc:=bF (bF c.cc n.toNat (c.cc n.toNat)) a.free.toNat y.2.2.2.1,q:=q2,d:=d1,F:=y.2.2.2.2.2.2,t:=bF c.t (a.s.add a.dep (a.s.bU n).1).1.toNat y.2.2.2.2.2.1}) (K:=({kp a b c with ms:=aa (kp a b c).ms (a.s.add a.dep (a.s.bU n).1).1 (ptr y.2.2.2.2.2.1.b 0 0)} :KP)) ho.wk hI rfl rfl ⟨⟨rfl,rfl,rfl,rfl⟩,rfl,rfl,rfl⟩ (BW hI hin (SS.Inv.ep ho.wk.sI ho.r0.loc) c _ rfl),xd hI,Cg hI hin]
        all_goals rfl
  ·
   refine L4 rfl (by omega) ?_
   refine XE.aU rfl rfl rfl (ab .la rfl ?_)
   try dsimp only[SW.den,SV.den,aj,aL]
   have hfc:a.free=20:=KA.zW (fun j j0 j1=>hch.2 j j0 (by omega))
   have e1:a.fp n true=4:=by unfold KA.fp;rw[if_neg (by omega),if_pos hfc]
   have e2:a.fE n true=0:=by unfold KA.fE;rw[if_neg (by omega)]
   have e3:a.bE n true=a:=by unfold KA.bE;rw[if_pos (by omega)]
   rw[e1,e2,e3];exact⟨rfl,c,hc.up (by omega) (by omega),rfl⟩
 ·
  try dsimp only[aT,aV,bu,bj,bk,bd,aW,bh,aY,aX,aP,aN,aQ,aO]
  have hl:a.live n≠0:=hl
  have hlk:(kp a b c).live n=a.live n:=rfl
  rw[hlk]
  refine gO ?_
  refine XE.aU rfl rfl rfl (ab .la rfl ?_)
  try dsimp only[SW.den,SV.den,aj,aL]
  have e1:a.fp n true=a.live n:=by unfold KA.fp;rw[if_pos hl]
  have e2:a.fE n true=0:=by unfold KA.fE;rw[if_neg (by omega)]
  have e3:a.bE n true=a:=by unfold KA.bE;rw[if_pos (by omega)]
  rw[e1,e2,e3,aJ _ hl];exact⟨rfl,c,hc.up (by omega) (by omega),rfl⟩
end Go.X.Kn

namespace Go.X.Kn
open Go Go.Proofs Go.X
set_option maxRecDepth 20000
set_option maxHeartbeats 4000000
theorem lr(z:Int):∀ w,(Instr.buildSlice 55 1 #[(0,.int .i64 z)]).run Tryz.prog w= .ok (.slice (some ⟨w.heap.size,0,none⟩) 1 1) (w.alloc (.cells #[.int .i64 z] 3)):=fun w=>by kernel_rfl
theorem jH:kV Tryz.prog 3 1=true:=by kernel_rfl
theorem td(p:Option Addr)(l c:Nat)(m:Int):Spec Tryz.prog 47 [.slice p l c,.int .i64 m] [] (fun v H1=>v= .bool (decide ((l:Int)≤m))∧H1=[]):=by
 refine Spec.go 9 [0,1,4] [] Tryz.func47 rfl rfl rfl ?_
 intro W
 refine XE.aK rfl rfl (ab .nil rfl ?_)
 try dsimp only[SW.den,SV.den,aj,aL]
 exact⟨rfl,rfl⟩
theorem CX(bl ol len cap:Nat)(hlen:len≤cap)(A:Int→iZ)(hA:∀ z:Int,0≤z→z<len→(A z).ok)(hL:len≤1000000)(m:Int):Spec Tryz.prog 48 [.slice (some ⟨bl,ol,none⟩) len cap,.int .i64 m] [.ro bl ol (8*len) (df A)] (fun v H1=>(∃ b,v= .bool b∧(b=true→∀ z:Int,0≤z→z<len→((A z).s.size:Int)≤m∧((A z).t.size:Int)≤m))∧H1=[]):=by
 refine Spec.go 30 [0,1,4,5,9,29] [] Tryz.func48 rfl rfl rfl ?_
 intro W
 refine lp (σ:=Int) (fun k=>(len-k).toNat) (fun k=>0≤k∧k≤len∧∀ z:Int,0≤z→z<k→((A z).s.size:Int)≤m∧((A z).t.size:Int)≤m) (fun k=>[(5,.int .i64 k),(0,.slice (some ⟨bl,ol,none⟩) len cap),(1,.int .i64 m)]) (fun k=>XM W (bR [.ro bl ol (8*len) (df A)]) [.ro bl ol (8*len) (df A)]) (0) ?_ (S3 rfl rfl rfl) (fun _ hw=>XM.pick .h1 hw) ?_
 ·
  exact⟨by omega,by omega,fun z h1 h2=>by omega⟩
 intro k hk
 obtain⟨hk0,hk1,hkk⟩:=hk
 refine gC ?_
 refine cd rfl ?_ ?_<;>intro h1
 ·
  refine sd (by omega) ?_
  refine KS .here (CT A len _ (by omega)) ?_
  refine sp 20 rfl ?_ ?_<;>intro h2
  ·
   refine XE.aK rfl rfl (ab .nil rfl ?_)
   try dsimp only[SW.den,SV.den,aj,aL]
   first
   | exact⟨⟨false,rfl,fun q=>by cases q⟩,rfl⟩
   | exact⟨⟨true,rfl,fun _ z h1 h2=>hkk z h1 (by omega)⟩,rfl⟩
  ·
   refine sd (by omega) ?_
   refine KS .here (By A len _ (by omega)) ?_
   refine cd rfl ?_ ?_<;>intro h3
   ·
    refine XE.aK rfl rfl (ab .nil rfl ?_)
    try dsimp only[SW.den,SV.den,aj,aL]
    first
    | exact⟨⟨false,rfl,fun q=>by cases q⟩,rfl⟩
    | exact⟨⟨true,rfl,fun _ z h1 h2=>hkk z h1 (by omega)⟩,rfl⟩
   ·
    refine sd (by omega) ?_
    refine ag (k+1) ?_ ?_ (S3 rfl rfl rfl) (fun _ hw=>XM.pick .h1 hw)
    ·
     (first | omega | (simp;done) | (simp;omega))
    ·
     refine⟨by omega,by omega,fun z h1 h2=> ?_⟩
     by_cases hz:z=k
     ·subst hz;exact⟨by omega,by omega⟩
     ·exact hkk z h1 (by omega)
 ·
  refine XE.aK rfl rfl (ab .nil rfl ?_)
  try dsimp only[SW.den,SV.den,aj,aL]
  first
  | exact⟨⟨false,rfl,fun q=>by cases q⟩,rfl⟩
  | exact⟨⟨true,rfl,fun _ z h1 h2=>hkk z h1 (by omega)⟩,rfl⟩
theorem Cb(p:Option Addr)(cap:Nat)(m:Int):Spec Tryz.prog 48 [.slice p 0 cap,.int .i64 m] [] (fun v H1=>v= .bool true∧H1=[]):=by
 refine Spec.go 30 [0,1,4,5,9] [] Tryz.func48 rfl rfl rfl ?_
 intro W
 refine lp (σ:=Int) (fun k=>0) (fun k=>0≤k) (fun k=>[(5,.int .i64 k),(0,.slice p 0 cap),(1,.int .i64 m)]) (fun k=>XM W (bR []) []) (0) ?_ (S3 rfl rfl rfl) (fun _ hw=>XM.pick .nil hw) ?_
 ·
  omega
 intro k hk
 refine gC ?_
 refine xV rfl (by simp;omega) ?_
 refine XE.aK rfl rfl (ab .nil rfl ?_)
 try dsimp only[SW.den,SV.den,aj,aL]
 exact⟨rfl,rfl⟩
theorem HT(p:Option Addr)(cap:Nat)(m:Int):Spec Tryz.prog 13 [.slice p 0 cap,.int .i64 m] [] (fun v H1=>(∃ b,v= .bool b∧(b=true→((0:Nat):Int)≤m))∧H1=[]):=by
 refine Spec.go 12 [0,1,4] [] Tryz.func13 rfl rfl rfl ?_
 intro W
 refine ca (td _ _ _ _) .nil ?_
 rintro _ _ ⟨rfl,rfl⟩
 refine gO ?_
 refine sp 8 rfl ?_ ?_<;>intro h1
 ·
  refine ca (Cb _ _ _) .nil ?_
  rintro _ _ ⟨rfl,rfl⟩
  refine gO ?_
  refine XE.aK rfl rfl (ab .nil rfl ?_)
  try dsimp only[SW.den,SV.den,aj,aL]
  exact⟨⟨true,rfl,fun _=>by omega⟩,rfl⟩
 ·
  refine XE.aK rfl rfl (ab .nil rfl ?_)
  try dsimp only[SW.den,SV.den,aj,aL]
  exact⟨⟨false,rfl,fun q=>by cases q⟩,rfl⟩
theorem HJ(kb:Nat)(k:KP)(q:Fa.SC)(hq:q.toSF=Q2)(hR:q.jB):Spec Tryz.prog 46 [ptr kb 0 0] [.cells kb 0 453 (ah k),.cells k.qb 0 2281 (Fa.aq q),.fam Fa.aH (Fa.SC.rows 254 q)] (fun v H1=>v= .int .i64 0∧∃ t:Fa.SC,t.toSF=(Q2.tick dK).2∧t.jB∧H1=[.cells kb 0 453 (ah k),.cells k.qb 0 2281 (Fa.aq t),.fam Fa.aH (Fa.SC.rows 254 t)]):=by
 refine Spec.go 8 [0,2] [] Tryz.func46 rfl rfl rfl ?_
 intro W
 refine ld .here (ah.xJ _) ?_
 refine ca (Fa.Kv _ _ q dK (by rw[hq];exact rE.inv) hR (fun n a b=>Nat.le_trans (rE.dep n a b) (by omega)) (2000000000*0) (by omega) (by rw[hq];exact rE.small) (by show 0≤q.toSF.now∧q.toSF.now≤2000000000*0;rw[hq];exact rE.now) (by rw[hq];exact(rE.jN (by omega)).set)) (.cons (.there .here) (.cons (.there .here) .nil)) ?_
 rintro _ _ ⟨rfl,t,ht,hr,rfl⟩
 rw[hq,HE]
 rw[hq]at ht
 refine gO ?_
 refine XE.aK rfl rfl (ab (.cons (.t2 .here) .h2) rfl ?_)
 try dsimp only[SW.den,SV.den,aj,aL]
 exact⟨rfl,t,ht,hr,rfl⟩
theorem G8(kb:Nat)(k:KP):Spec Tryz.prog 27 [ptr kb 0 0] [.cells kb 0 453 (ah k)] (fun v H1=>∃ p cap,v= .slice p (Vm.eN (fun n=>decide ((k.u n).st=1)) 20).length cap∧H1=[aZ p cap 3 (Vm.eN (fun n=>decide ((k.u n).st=1)) 20),.cells kb 0 453 (ah k)]):=by
 refine Spec.go 22 [0,2,3,4,5,6,15] [] Tryz.func27 rfl rfl rfl ?_
 intro W
 refine XR.dG 3 1 ?_
 refine lp (σ:=Int×List Int×Option Addr×Nat) (fun x=>(20-x.1).toNat) (fun x=>(0≤x.1∧x.1≤20)∧x.2.1=Vm.eN (fun n=>decide ((k.u n).st=1)) x.1.toNat) (fun x=>[(3,.slice x.2.2.1 x.2.1.length x.2.2.2),(5,.int .i64 x.1),(0,ptr kb 0 0)]) (fun x=>XM W (bR [.cells kb 0 453 (ah k)]) [aZ x.2.2.1 x.2.2.2 3 x.2.1,.cells kb 0 453 (ah k)]) ((0,[],none,0)) ?_ (S3 rfl rfl rfl) (fun _ hw=>XM.pick .h2 hw) ?_
 ·
  exact⟨by simp,rfl⟩
 intro x hx
 obtain⟨hx,hL⟩:=hx
 have hlen:=Vm.fS (fun n=>decide ((k.u n).st=1)) x.1.toNat
 rw[←hL]at hlen
 have hnx:=Vm.o7 (fun n=>decide ((k.u n).st=1)) hx.1
 refine gC ?_
 refine cd rfl ?_ ?_<;>intro h1
 ·
  refine sd (by omega) ?_
  refine ld (.there .here) (ah.nL _ (by omega)) ?_
  refine cd rfl ?_ ?_<;>intro h2
  ·
   have h52:=h2
   refine XO.buildSlice (A:= #[.int .i64 _]) (vs:= #[(0,.int .i64 _)]) rfl (lr _) rfl rfl ?_
   intro h3
   refine gO ?_
   refine XO.kt (e:=3) rfl rfl Tryz.underlying55 jH (.there .here) .here (by omega) rfl ?_
   intro h4 h5
   refine gO ?_
   refine sd (by omega) ?_
   refine ag ((x.1+1,x.2.1++[x.1],_,_)) ?_ ?_ (S3 rfl rfl rfl) (fun _ hw=>XM.pick (.cons .here (.cons (.there .here) .nil)) hw)
   ·
    (show(20-(x.1+1)).toNat<(20-x.1).toNat;omega)
   ·
    exact⟨(by show 0≤x.1+1∧x.1+1≤20;omega),(by show x.2.1++[x.1]=_;rw[hL];exact(hnx.1 (by simpa using h52)).symm)⟩
  ·
   have h52:=h2
   refine sd (by omega) ?_
   refine ag ((x.1+1,x.2.1,_,_)) ?_ ?_ (S3 rfl rfl rfl) (fun _ hw=>XM.pick .h2 hw)
   ·
    (show(20-(x.1+1)).toNat<(20-x.1).toNat;omega)
   ·
    exact⟨(by show 0≤x.1+1∧x.1+1≤20;omega),(by show x.2.1=_;rw[hL];exact(hnx.2 (by simpa using h52)).symm)⟩
 ·
  refine XE.aK rfl rfl (ab .h2 rfl ?_)
  try dsimp only[SW.den,SV.den,aj,aL]
  have hx21:x.1=20:=by omega
  rw[hx21]at hL
  exact⟨_,_,by rw[hL];rfl,by rw[hL];rfl⟩
theorem wR{k:KP}{mb:Nat}(h:JI k mb):Vm.eN (fun n=>decide ((k.u n).st=1)) 20=[0]:=by
 have e:(fun n=>decide ((k.u n).st=1))=fun n=>decide (n=0):=by
  funext n
  rw[h.u]
  by_cases c:n=0
  ·subst c;rw[ae];rfl
  ·rw[ad _ _ c,decide_eq_false c];rfl
 rw[e];decide
end Go.X.Kn

namespace Go.X.Kn
open Go Go.Proofs Go.X
set_option maxRecDepth 20000
set_option maxHeartbeats 4000000
theorem wS:Spec Tryz.prog 12 [] [] (fun x H1=>∃ (b:KZ) (c:KC),x= .tuple #[ptr b.kb 0 0,.bool true]∧c.q.toSF=(Q2.tick dK).2∧c.d=dK∧eQ A0 c 1 2∧H1=[.cells b.kb 0 453 (ah (kp A0 b c)),.cells b.gb 0 60 (Gr.aC A0.g),.cells b.sb 0 158 (Sp.aB A0.s),.cells b.qb 0 2281 (Fa.aq c.q),.fam Fa.aH (Fa.SC.rows 254 c.q),.cells b.bb 0 577 (Vm.bz b.vp A0.v.by_ A0.v.rf),.cells b.vp 0 71 (Vm.au A0.v.bb.bJ),.cfam (bN A0) c.mb 34 (cN b.bb A0.f c.pp c.cc),.fam (bN A0) (rN 171 A0.f c.pp c.cc),.cells b.tb 0 321 (Tr.ay c.F),.fam Tr.ai (Tr.FC.aD 9 c.F),.fam Tr.ai (Tr.FC.aF 3 c.F),aZ c.rp c.rc 3 c.rl,.cells b.pi 0 24 (Tr.au A0.P),.cells b.ob 0 122 (Tr.az b.tb b.pi A0.O),.cfam (bO A0) (fun z=>(c.t z).b) 4 (cT b.tb c.t),.fam (bO A0) (rT 168 c.t)]):=by
 refine Spec.go 18 [0,1,2,16] [] Tryz.func12 rfl rfl rfl ?_
 intro W
 refine ca (LJ) .nil ?_
 rintro _ _ ⟨b,c,rfl,hq,hd,hc,rfl⟩
 refine gO ?_
 refine ca (HJ b.kb (kp A0 b c) c.q hq hc.qR) (.cons .here (.cons (.t2 .here) (.cons (.t2 .here) .nil))) ?_
 rintro _ _ ⟨rfl,q2,hq2,hr2,rfl⟩
 refine gO ?_
 refine Jc 11 rfl (by simp) ?_
 refine ca (G8 b.kb (kp A0 b c)) .h1 ?_
 rintro _ _ ⟨pl,cl,rfl,rfl⟩
 rw[wR (Gc b c)]
 refine gO ?_
 refine xV rfl (by simp) ?_
 refine XE.aU rfl rfl rfl (ab (.cons (.there .here) (.cons (.t3 .here) (.cons (.t3 .here) (.cons (.there .here) (.cons (.there .here) (.cons (.there .here) (.cons (.there .here) (.cons (.there .here) (.cons (.there .here) (.cons (.there .here) (.cons (.there .here) (.cons (.there .here) (.cons (.there .here) (.cons (.there .here) (.cons (.there .here) (.cons (.there .here) (.cons (.there .here) .nil))))))))))))))))) rfl ?_)
 try dsimp only[SW.den,SV.den,aj,aL]
 exact⟨b,{c with q:=q2},rfl,hq2,hd,⟨(by show q2.toSF.Ok c.d 1 1;rw[hq2,hd];exact K6),hr2,hc.F,hc.rp,hc.rc,hc.rl,hc.tb⟩,rfl⟩
theorem IV(a:KA)(b:KZ)(c:KC)(N:Nat)(T:Int)(ho:a.Ok T)(hc:eQ a c N T)(hT:T≤800000)(n:Int)(o:Bool):Spec Tryz.prog 14 [ptr b.kb 0 0,.int .i64 n,.bool o] [.cells b.kb 0 453 (ah (kp a b c)),.cells b.gb 0 60 (Gr.aC a.g),.cells b.sb 0 158 (Sp.aB a.s),.cells b.qb 0 2281 (Fa.aq c.q),.fam Fa.aH (Fa.SC.rows 254 c.q),.cells b.bb 0 577 (Vm.bz b.vp a.v.by_ a.v.rf),.cells b.vp 0 71 (Vm.au a.v.bb.bJ),.cfam (bN a) c.mb 34 (cN b.bb a.f c.pp c.cc),.fam (bN a) (rN 171 a.f c.pp c.cc),.cells b.tb 0 321 (Tr.ay c.F),.fam Tr.ai (Tr.FC.aD 9 c.F),.fam Tr.ai (Tr.FC.aF 3 c.F),aZ c.rp c.rc 3 c.rl,.cells b.pi 0 24 (Tr.au a.P),.cells b.ob 0 122 (Tr.az b.tb b.pi a.O),.cfam (bO a) (fun z=>(c.t z).b) 4 (cT b.tb c.t),.fam (bO a) (rT 168 c.t)] (fun v H1=>v= .tuple #[.int .i64 (a.fE n o),bH 102 (a.fp n o)]∧∃ c1:KC,eQ (a.bE n o) c1 (N+1) (T+20)∧H1=[.cells b.kb 0 453 (ah (kp (a.bE n o) b c1)),.cells b.gb 0 60 (Gr.aC (a.bE n o).g),.cells b.sb 0 158 (Sp.aB (a.bE n o).s),.cells b.qb 0 2281 (Fa.aq c1.q),.fam Fa.aH (Fa.SC.rows 254 c1.q),.cells b.bb 0 577 (Vm.bz b.vp (a.bE n o).v.by_ (a.bE n o).v.rf),.cells b.vp 0 71 (Vm.au (a.bE n o).v.bb.bJ),.cfam (bN (a.bE n o)) c1.mb 34 (cN b.bb (a.bE n o).f c1.pp c1.cc),.fam (bN (a.bE n o)) (rN 171 (a.bE n o).f c1.pp c1.cc),.cells b.tb 0 321 (Tr.ay c1.F),.fam Tr.ai (Tr.FC.aD 9 c1.F),.fam Tr.ai (Tr.FC.aF 3 c1.F),aZ c1.rp c1.rc 3 c1.rl,.cells b.pi 0 24 (Tr.au (a.bE n o).P),.cells b.ob 0 122 (Tr.az b.tb b.pi (a.bE n o).O),.cfam (bO (a.bE n o)) (fun z=>(c1.t z).b) 4 (cT b.tb c1.t),.fam (bO (a.bE n o)) (rT 168 c1.t)]):=by
 cases o
 ·exact GX a b c N T ho hc hT n
 ·exact Im a b c N T ho hc hT n
end Go.X.Kn

namespace Go.X.Kn
open Go Go.Proofs Go.X
set_option maxRecDepth 20000
set_option maxHeartbeats 4000000
theorem IG(bl ol len cap:Nat)(hlen:len≤cap)(A:Int→iZ)(hA:∀ z:Int,0≤z→z<len→(A z).ok)(m:Int)(hm:m≤1000000):Spec Tryz.prog 13 [.slice (some ⟨bl,ol,none⟩) len cap,.int .i64 m] [.ro bl ol (8*len) (df A)] (fun v H1=>(∃ b,v= .bool b∧(b=true→(len:Int)≤m∧∀ z:Int,0≤z→z<len→((A z).s.size:Int)≤80∧((A z).t.size:Int)≤80))∧H1=[]):=by
 refine Spec.go 12 [0,1,4] [] Tryz.func13 rfl rfl rfl ?_
 intro W
 refine ca (td _ _ _ _) .nil ?_
 rintro _ _ ⟨rfl,rfl⟩
 refine gO ?_
 refine sp 8 rfl ?_ ?_<;>intro h1
 ·
  refine u9 0 (CX _ _ len cap hlen A hA (by omega) 80) .h1 rfl ?_
  rintro _ _ ⟨⟨bt,rfl,tx⟩,rfl⟩
  refine gO ?_
  refine XE.aK rfl rfl (ab .nil rfl ?_)
  try dsimp only[SW.den,SV.den,aj,aL]
  exact⟨⟨bt,rfl,fun q=>⟨by omega,tx q⟩⟩,rfl⟩
 ·
  refine XE.aK rfl rfl (ab .nil rfl ?_)
  try dsimp only[SW.den,SV.den,aj,aL]
  exact⟨⟨false,rfl,fun q=>by cases q⟩,rfl⟩
end Go.X.Kn
