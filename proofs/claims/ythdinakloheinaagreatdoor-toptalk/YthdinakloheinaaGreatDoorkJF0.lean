import Derived.Test.YthdinakloheinaaGreatDoorkJN1
namespace Go.X.Kn
open Go Go.Proofs Go.X
set_option maxRecDepth 20000
set_option maxHeartbeats 4000000
attribute [local irreducible] KA.aS KA.bS
set_option maxHeartbeats 16000000 in
theorem GX(a:KA)(b:KZ)(c:KC)(N:Nat)(T:Int)(ho:a.Ok T)(hc:eQ a c N T)(hT:T≤800000)(n:Int):Spec Tryz.prog 14 [ptr b.kb 0 0,.int .i64 n,.bool false] [.cells b.kb 0 453 (ah (kp a b c)),.cells b.gb 0 60 (Gr.aC a.g),.cells b.sb 0 158 (Sp.aB a.s),.cells b.qb 0 2281 (Fa.aq c.q),.fam Fa.aH (Fa.SC.rows 254 c.q),.cells b.bb 0 577 (Vm.bz b.vp a.v.by_ a.v.rf),.cells b.vp 0 71 (Vm.au a.v.bb.bJ),.cfam (bN a) c.mb 34 (cN b.bb a.f c.pp c.cc),.fam (bN a) (rN 171 a.f c.pp c.cc),.cells b.tb 0 321 (Tr.ay c.F),.fam Tr.ai (Tr.FC.aD 9 c.F),.fam Tr.ai (Tr.FC.aF 3 c.F),aZ c.rp c.rc 3 c.rl,.cells b.pi 0 24 (Tr.au a.P),.cells b.ob 0 122 (Tr.az b.tb b.pi a.O),.cfam (bO a) (fun z=>(c.t z).b) 4 (cT b.tb c.t),.fam (bO a) (rT 168 c.t)] (fun v H1=>v= .tuple #[.int .i64 (a.fE n false),bH 102 (a.fp n false)]∧∃ c1:KC,eQ (a.bE n false) c1 (N+1) (T+20)∧H1=[.cells b.kb 0 453 (ah (kp (a.bE n false) b c1)),.cells b.gb 0 60 (Gr.aC (a.bE n false).g),.cells b.sb 0 158 (Sp.aB (a.bE n false).s),.cells b.qb 0 2281 (Fa.aq c1.q),.fam Fa.aH (Fa.SC.rows 254 c1.q),.cells b.bb 0 577 (Vm.bz b.vp (a.bE n false).v.by_ (a.bE n false).v.rf),.cells b.vp 0 71 (Vm.au (a.bE n false).v.bb.bJ),.cfam (bN (a.bE n false)) c1.mb 34 (cN b.bb (a.bE n false).f c1.pp c1.cc),.fam (bN (a.bE n false)) (rN 171 (a.bE n false).f c1.pp c1.cc),.cells b.tb 0 321 (Tr.ay c1.F),.fam Tr.ai (Tr.FC.aD 9 c1.F),.fam Tr.ai (Tr.FC.aF 3 c1.F),aZ c1.rp c1.rc 3 c1.rl,.cells b.pi 0 24 (Tr.au (a.bE n false).P),.cells b.ob 0 122 (Tr.az b.tb b.pi (a.bE n false).O),.cfam (bO (a.bE n false)) (fun z=>(c1.t z).b) 4 (cT b.tb c1.t),.fam (bO (a.bE n false)) (rT 168 c1.t)]):=by
 refine Spec.go 177 [0,1,2,6,7,8,9,10,11,12,13,14,16,24,37,41,59,65,132,133,134,137] [(22,0)] Tryz.func14 rfl rfl rfl ?_
 intro W
 refine ca (lD b.kb (kp a b c) n) .h1 ?_
 rintro _ _ ⟨⟨hl,rfl⟩ | ⟨hl,rfl⟩,rfl⟩
 ·
  try dsimp only[aT,aV,bu,bj,bk,bd,aW,bh,aY,aX,aP,aN,aQ,aO]
  obtain⟨hlr,hls⟩:=KP.gi hl
  have hl:a.live n=0:=hl
  have hls:(a.u n).st=1:=hls
  have hmem:=yT a b c (n:=n) (by omega)
  refine gO ?_
  refine lp (σ:=Int) (fun ch=>(20-ch).toNat) (fun ch=>(0≤ch∧ch≤20)∧∀ j:Int,0≤j→j<ch→(a.u j).st≠0) (fun ch=>[(10,.int .i64 ch),(0,ptr b.kb 0 0),(1,.int .i64 n),(2,.bool false),(8,ptr b.kb 0 (0+0+n.toNat*22))]) (fun ch=>XM W (bR [.cells b.kb 0 453 (ah (kp a b c)),.cells b.gb 0 60 (Gr.aC a.g),.cells b.sb 0 158 (Sp.aB a.s),.cells b.qb 0 2281 (Fa.aq c.q),.fam Fa.aH (Fa.SC.rows 254 c.q),.cells b.bb 0 577 (Vm.bz b.vp a.v.by_ a.v.rf),.cells b.vp 0 71 (Vm.au a.v.bb.bJ),.cfam (bN a) c.mb 34 (cN b.bb a.f c.pp c.cc),.fam (bN a) (rN 171 a.f c.pp c.cc),.cells b.tb 0 321 (Tr.ay c.F),.fam Tr.ai (Tr.FC.aD 9 c.F),.fam Tr.ai (Tr.FC.aF 3 c.F),aZ c.rp c.rc 3 c.rl,.cells b.pi 0 24 (Tr.au a.P),.cells b.ob 0 122 (Tr.az b.tb b.pi a.O),.cfam (bO a) (fun z=>(c.t z).b) 4 (cT b.tb c.t),.fam (bO a) (rT 168 c.t)]) [.cells b.kb 0 453 (ah (kp a b c)),.cells b.gb 0 60 (Gr.aC a.g),.cells b.sb 0 158 (Sp.aB a.s),.cells b.qb 0 2281 (Fa.aq c.q),.fam Fa.aH (Fa.SC.rows 254 c.q),.cells b.bb 0 577 (Vm.bz b.vp a.v.by_ a.v.rf),.cells b.vp 0 71 (Vm.au a.v.bb.bJ),.cfam (bN a) c.mb 34 (cN b.bb a.f c.pp c.cc),.fam (bN a) (rN 171 a.f c.pp c.cc),.cells b.tb 0 321 (Tr.ay c.F),.fam Tr.ai (Tr.FC.aD 9 c.F),.fam Tr.ai (Tr.FC.aF 3 c.F),aZ c.rp c.rc 3 c.rl,.cells b.pi 0 24 (Tr.au a.P),.cells b.ob 0 122 (Tr.az b.tb b.pi a.O),.cfam (bO a) (fun z=>(c.t z).b) 4 (cT b.tb c.t),.fam (bO a) (rT 168 c.t)]) (0) ?_ (S5 rfl rfl rfl rfl rfl) (fun _ hw=>XM.pick .la hw) ?_
  ·
   exact⟨by omega,fun j j0 j1=>by omega⟩
  intro ch hch
  have hch1:=hch.1
  refine gC ?_
  refine sp 28 rfl ?_ ?_<;>intro h1
  ·
   refine sd (by omega) ?_
   refine ld .here (ah.nL _ (by omega)) ?_
   refine cd rfl ?_ ?_<;>intro h2
   ·
    have hst0:(a.u ch).st≠0:=h2
    refine sd (by omega) ?_
    refine ag (ch+1) ?_ ?_ (S5 rfl rfl rfl rfl rfl) (fun _ hw=>XM.pick .la hw)
    ·
     (first | omega | (simp;done) | (simp;omega))
    ·
     refine⟨by omega,fun j j0 j1=> ?_⟩
     by_cases e:j=ch
     ·subst e;assumption
     ·exact hch.2 j j0 (by omega)
   ·
    have hc0:(a.u ch).st=0:=by
     have h9:=h2
     have e9:((kp a b c).u ch).st=(a.u ch).st:=rfl
     omega
    refine xV rfl (by omega) ?_
    refine XR.mono (fun _ hw3=>XM.IW (z:=n.toNat) (jv hlr (by omega)) (.cons (.t7 .here) (.cons (.t7 .here) .nil)) hw3) ?_
    refine ld (.t4 .here) (ah.np _ (by omega) hmem) ?_
    refine ca (Vm.q9 b.bb _ _ _ (a.f n.toNat) (ho.wk.sys.mo n.toNat (by omega))) .h1 ?_
    rintro _ _ ⟨rfl,rfl⟩
    refine gO ?_
    refine rq [0,1,2,3,4,5,6,7,8,9,10] mixed (by kernel_rfl) ?_
    refine ld (.t4 .here) (ah.BZ _) ?_
    refine ld (.t4 .here) (ah.km _ (by omega)) ?_
    refine ca (Gr.re _ _ a.g ho.wk.gI.ok _ _ _ (1000*T) (by have:=ho.wk.T0;omega) ho.wk.gS) (.cons (.t5 .here) .nil) ?_
    rintro _ _ ⟨rfl,rfl⟩
    refine gO ?_
    refine cd rfl ?_ ?_<;>intro h3
    ·
     have hge:=h3
     refine XR.mono (fun _ hw3=>XM.DN (f:=a.f) (z:=n.toNat) (ps:=c.pp) (cs:=c.cc) (mb:=c.mb) (jv hlr (by omega)) (.cons (.there .here) (.cons (.there .here) (.cons (.there .here) (.cons (.there .here) .nil)))) hw3) ?_
     refine XE.aU rfl rfl rfl (ab (.cons (.t3 .here) (.cons (.t2 .here) (.cons (.t2 .here) (.cons (.t2 .here) (.cons (.t2 .here) (.cons (.t2 .here) (.cons (.t2 .here) .Hj))))))) rfl ?_)
     try dsimp only[SW.den,SV.den,aj,aL]
     have hfc:a.free=ch:=KA.je ⟨hch.1.1,by omega⟩ hc0 hch.2
     have hg0:a.gE n≠0:=hge
     have e1:a.fp n false=a.gE n:=by unfold KA.fp;rw[if_neg (by omega),if_neg (by omega),if_pos hg0]
     have e2:a.fE n false=0:=by unfold KA.fE;rw[if_neg (by omega)]
     have e3:a.bE n false=a:=by unfold KA.bE;rw[if_pos (by omega)]
     have hce:a.g.bY ((kp a b c).u n).grp 1 (a.f n.toNat).res=a.g:=qK hg0
     rw[e1,e2,e3]
     rw[hce]
     exact⟨rfl,c,hc.up (by omega) (by omega),rfl⟩
    ·
     have hge0:a.gE n=0:=by
      have h9:=h3
      have e9:a.g.bX (a.u n).grp 1 (a.f n.toNat).res=a.gE n:=rfl
      have e8:a.g.bX ((kp a b c).u n).grp 1 (a.f n.toNat).res=a.gE n:=rfl
      omega
     refine ca (iw b.kb (kp a b c) a.s n) (.cons (.t5 .here) (.cons (.t5 .here) .nil)) ?_
     rintro _ _ ⟨rfl,rfl⟩
     refine gO ?_
     refine ld .here (ah.nN _) ?_
     refine ca (Sp.uT _ _ a.s a.dep ho.wk.sI.D (a.s.bU n).1 ch) (.cons (.there .here) .nil) ?_
     rintro _ _ ⟨rfl,rfl⟩
     refine gO ?_
     refine Mg (σ:=Nat×Nat×Option Addr×Nat) (fun _=>True) (fun y=>[(0,ptr b.kb 0 0),(8,ptr b.kb 0 (0+0+n.toNat*22)),(10,.int .i64 ch),(12,.int .i64 (a.s.bU n).1),(14,ptr y.2.1 0 0)]) (fun y=>XM W (bR [.cells b.kb 0 453 (ah (kp a b c)),.cells b.gb 0 60 (Gr.aC a.g),.cells b.sb 0 158 (Sp.aB a.s),.cells b.qb 0 2281 (Fa.aq c.q),.fam Fa.aH (Fa.SC.rows 254 c.q),.cells b.bb 0 577 (Vm.bz b.vp a.v.by_ a.v.rf),.cells b.vp 0 71 (Vm.au a.v.bb.bJ),.cfam (bN a) c.mb 34 (cN b.bb a.f c.pp c.cc),.fam (bN a) (rN 171 a.f c.pp c.cc),.cells b.tb 0 321 (Tr.ay c.F),.fam Tr.ai (Tr.FC.aD 9 c.F),.fam Tr.ai (Tr.FC.aF 3 c.F),aZ c.rp c.rc 3 c.rl,.cells b.pi 0 24 (Tr.au a.P),.cells b.ob 0 122 (Tr.az b.tb b.pi a.O),.cfam (bO a) (fun z=>(c.t z).b) 4 (cT b.tb c.t),.fam (bO a) (rT 168 c.t)]) [.cells b.kb 0 453 (ah (kp a b c)),.cells b.gb 0 60 (Gr.aC (a.gC n)),.cells b.sb 0 158 (Sp.aB (a.s.enter a.dep (a.s.bU n).1 ch).2.2),.cells b.qb 0 2281 (Fa.aq c.q),.fam Fa.aH (Fa.SC.rows 254 c.q),.cells b.bb 0 577 (Vm.bz b.vp (a.v.fork (a.f n.toNat)).by_ (a.v.fork (a.f n.toNat)).rf),.cells b.vp 0 71 (Vm.au (a.v.fork (a.f n.toNat)).bb.bJ),.cells (c.mb n.toNat) 0 34 (Vm.bA b.bb (c.pp n.toNat) (Vm.runs (a.f n.toNat).aA).length (c.cc n.toNat) (a.f n.toNat).fr (fun _=>false)),aR (c.pp n.toNat) (c.cc n.toNat) 171 3 (Vm.runs (a.f n.toNat).aA).length (Vm.dy (Vm.runs (a.f n.toNat).aA)),.cells y.1 0 34 (Vm.bA b.bb y.2.2.1 (Vm.runs (a.f n.toNat).aA).length y.2.2.2 (a.f n.toNat).fr (fun _=>false)),aR y.2.2.1 y.2.2.2 171 3 (Vm.runs (a.f n.toNat).aA).length (Vm.dy (Vm.runs (a.f n.toNat).aA)),.cfam (eA (bN a) n.toNat) c.mb 34 (cN b.bb a.f c.pp c.cc),.fam (eA (bN a) n.toNat) (rN 171 a.f c.pp c.cc),.cells b.tb 0 321 (Tr.ay c.F),.fam Tr.ai (Tr.FC.aD 9 c.F),.fam Tr.ai (Tr.FC.aF 3 c.F),aZ c.rp c.rc 3 c.rl,.cells b.pi 0 24 (Tr.au a.P),.cells b.ob 0 122 (Tr.az b.tb b.pi (sC (a.u n).fd a.O (0:Int).toNat)),.cfam (bO a) (fun z=>(c.t z).b) 4 (cT b.tb c.t),.fam (bO a) (rT 168 c.t),.cells y.2.1 0 22 (((kp a b c).eb n y.1).cell)]) ?_ ?_
     ·
      refine XC.iu mixed (f:=23) (l:= #[false,false,false,false,false,false,false,false,false,false,false,false,false,false,false,false,false,false,false,false,false,false,false]) rfl rfl XM.lj ?_
      refine XQ.pv (i:=0) (l':= #[true,false,false,false,false,false,false,false,false,false,false,false,false,false,false,false,false,false,false,false,false,false,false]) rfl (by kernel_rfl) rfl (V.move rfl) rfl rfl ?_
      refine XQ.pv (i:=1) (l':= #[true,true,false,false,false,false,false,false,false,false,false,false,false,false,false,false,false,false,false,false,false,false,false]) rfl (by kernel_rfl) rfl (V.move rfl) rfl rfl ?_
      refine XQ.pv (i:=2) (l':= #[true,true,true,false,false,false,false,false,false,false,false,false,false,false,false,false,false,false,false,false,false,false,false]) rfl (by kernel_rfl) rfl (V.bI rfl) rfl rfl ?_
      refine XQ.pv (i:=3) (l':= #[true,true,true,true,false,false,false,false,false,false,false,false,false,false,false,false,false,false,false,false,false,false,false]) rfl (by kernel_rfl) rfl (V.fieldAddr rfl zH) rfl rfl ?_
      refine XQ.load (i:=4) (l':= #[true,true,true,true,true,false,false,false,false,false,false,false,false,false,false,false,false,false,false,false,false,false,false]) (.cells _ _ _ _) [22] rfl (by kernel_rfl) rfl (.there .here) (V.load rfl ea (ah.km _ (by omega)) jd) rfl (by kernel_rfl) rfl ?_
      refine XQ.pv (i:=5) (l':= #[true,true,true,true,true,true,false,false,false,false,false,false,false,false,false,false,false,false,false,false,false,false,false]) rfl (by kernel_rfl) rfl (V.move rfl) rfl rfl ?_
      refine XQ.pv (i:=6) (l':= #[true,true,true,true,true,true,true,false,false,false,false,false,false,false,false,false,false,false,false,false,false,false,false]) rfl (by kernel_rfl) rfl (V.bI rfl) rfl rfl ?_
      refine XQ.pv (i:=7) (l':= #[true,true,true,true,true,true,true,true,false,false,false,false,false,false,false,false,false,false,false,false,false,false,false]) rfl (by kernel_rfl) rfl (V.fieldAddr rfl zT) rfl rfl ?_
      refine XQ.load (i:=8) (l':= #[true,true,true,true,true,true,true,true,true,false,false,false,false,false,false,false,false,false,false,false,false,false,false]) (.cells _ _ _ _) [9,17,22] rfl (by kernel_rfl) rfl (.there .here) (V.load rfl ea (ah.np _ (by omega) hmem) JH) rfl (by kernel_rfl) rfl ?_
      refine XQ.pv (i:=10) (l':= #[true,true,true,true,true,true,true,true,true,false,true,false,false,false,false,false,false,false,false,false,false,false,false]) rfl (by kernel_rfl) rfl (V.move rfl) rfl rfl ?_
      refine XQ.pv (i:=11) (l':= #[true,true,true,true,true,true,true,true,true,false,true,true,false,false,false,false,false,false,false,false,false,false,false]) rfl (by kernel_rfl) rfl (V.bI rfl) rfl rfl ?_
      refine XQ.pv (i:=12) (l':= #[true,true,true,true,true,true,true,true,true,false,true,true,true,false,false,false,false,false,false,false,false,false,false]) rfl (by kernel_rfl) rfl (V.fieldAddr rfl AP) rfl rfl ?_
      refine XQ.load (i:=13) (l':= #[true,true,true,true,true,true,true,true,true,false,true,true,true,true,false,false,false,false,false,false,false,false,false]) (.cells _ _ _ _) [22] rfl (by kernel_rfl) rfl (.there .here) (V.gu rfl ea (ah.yr _ (by omega)) Ju Ab) rfl (by kernel_rfl) rfl ?_
      refine XQ.pv (i:=14) (l':= #[true,true,true,true,true,true,true,true,true,false,true,true,true,true,true,false,false,false,false,false,false,false,false]) rfl (by kernel_rfl) rfl (V.move rfl) rfl rfl ?_
      refine XQ.pv (i:=15) (l':= #[true,true,true,true,true,true,true,true,true,false,true,true,true,true,true,true,false,false,false,false,false,false,false]) rfl (by kernel_rfl) rfl (V.bI rfl) rfl rfl ?_
      refine XQ.pv (i:=16) (l':= #[true,true,true,true,true,true,true,true,true,false,true,true,true,true,true,true,true,false,false,false,false,false,false]) rfl (by kernel_rfl) rfl (V.fieldAddr rfl AD) rfl rfl ?_
      refine XQ.fork (i:=9) (j:=21) (by kernel_rfl) ?_ ?_
      ·
       refine XS.call (i:=9) (l':= #[true,true,true,true,true,true,true,true,true,true,true,true,true,true,true,true,true,false,false,false,false,false,false]) rfl rfl rfl (Vm.u7 b.bb b.vp _ a.v ho.wk.sys.acc.ok _ _ (a.f n.toNat) (ho.wk.sys.mo n.toNat (by omega))) (.cons (.t9 .here) (.cons (.t3 .here) (.cons (.t3 .here) .nil))) Aw rfl (by rintro _ _ ⟨nb,p1,c1,rfl,rfl⟩;all_goals(intro _ hw';exact⟨fun _=>dm (.t6 .here) _ hw',fun hs=>(hs 9 (by first | (simp;done) | (simp;rfl)) rfl).elim,fun _=>dm (.t6 .here) _ hw',trivial⟩)) ?_
       rintro _ _ ⟨nb,p1,c1,rfl,rfl⟩
       refine XQ.fork (i:=17) (j:=21) (by kernel_rfl) ?_ ?_
       ·
        refine XS.call (i:=17) (l':= #[true,true,true,true,true,true,true,true,true,true,true,true,true,true,true,true,true,true,false,false,false,false,false]) rfl rfl rfl (lL b.kb (kp a b c) n hlr) (.cons (.t6 .here) .nil) uq rfl (by rintro _ _ ⟨bc,rfl,rfl⟩;all_goals(intro _ hw';exact⟨fun _=>dm (.there .here) _ hw',fun hs=>(hs 9 (by first | (simp;done) | (simp;rfl)) rfl).elim,fun _=>dm (.there .here) _ hw',trivial⟩)) ?_
        rintro _ _ ⟨bc,rfl,rfl⟩
        refine XQ.pv (i:=18) (l':= #[true,true,true,true,true,true,true,true,true,true,true,true,true,true,true,true,true,true,true,false,false,false,false]) rfl (by kernel_rfl) rfl (V.bI rfl) rfl rfl ?_
        refine XQ.load (i:=19) (l':= #[true,true,true,true,true,true,true,true,true,true,true,true,true,true,true,true,true,true,true,true,false,false,false]) (.cells _ _ _ _) [22] rfl (by kernel_rfl) rfl .here (V.gu rfl ea (Sg.gy _) tm jK) rfl (by kernel_rfl) rfl ?_
        refine XQ.pv (i:=20) (l':= #[true,true,true,true,true,true,true,true,true,true,true,true,true,true,true,true,true,true,true,true,true,false,false]) rfl (by kernel_rfl) rfl (V.build (vs:= #[(0,.int .i64 1),(1,.int .i64 n),(2,.int .i64 (a.u n).grp),(4,ptr nb 0 0),(5,.agg (Dg (a.u n).fd)),(6,.agg (IA (a.u n).bx.child))]) rfl (v:=.agg ((kp a b c).eb n nb).arr) (iG n _ nb _ _)) rfl rfl ?_
        refine XQ.cY (i:=21) (l':= #[true,true,true,true,true,true,true,true,true,true,true,true,true,true,true,true,true,true,true,true,true,true,false]) (z:=(.agg PU.nil.arr)) (m:=22) (C:=PU.nil.cell) rfl (by kernel_rfl) rfl (by kernel_rfl) rfl (PU.box PU.nil) rfl (fun _ _ hw'=>⟨fun _=>dm (.there .here) _ hw',fun _=>dm (.t2 .here) _ hw',fun hs=>(hs 9 (by first | (simp;done) | (simp;rfl)) rfl).elim,fun _=>dm (.t2 .here) _ hw',trivial⟩) ?_
        intro ba
        refine XQ.eZ (i:=22) (l':= #[true,true,true,true,true,true,true,true,true,true,true,true,true,true,true,true,true,true,true,true,true,true,true]) rfl (by kernel_rfl) rfl rfl rfl .here (PU.sa _ _) ⟨rfl,rfl⟩ jI (fun _ hw'=>⟨fun hs=>(hs 22 (by first | (simp;done) | (simp;rfl)) rfl).elim,fun hs=>(hs 22 (by first | (simp;done) | (simp;rfl)) rfl).elim,fun hs=>(hs 9 (by first | (simp;done) | (simp;rfl)) rfl).elim,fun hs=>(hs 22 (by first | (simp;done) | (simp;rfl)) rfl).elim,trivial⟩) ?_
        refine XQ.done (by kernel_rfl) ?_
        refine gE ?_
        refine vE ((nb,ba,p1,c1)) ?_ (S5 rfl rfl rfl rfl rfl) (fun _ hw=>XM.pick (.cons (.t2 .here) (.cons (.t8 .here) (.cons (.t7 .here) (.cons (.t9 .here) (.cons (.t9 .here) (.cons (.t2 .here) (.cons (.t8 .here) (.cons (.t2 .here) (.cons (.t2 .here) (.cons (.t2 .here) (.cons (.t2 .here) (.cons (.t2 .here) (.cons (.t2 .here) (.cons (.t2 .here) (.cons (.t2 .here) (.cons (.t2 .here) (.cons (.t2 .here) (.cons (.t2 .here) (.cons (.t2 .here) (.cons (.t2 .here) (.cons (.t2 .here) .h1))))))))))))))))))))) hw)
        trivial
       ·
        refine XS.cY (i:=21) (l':= #[true,true,true,true,true,true,true,true,true,true,true,true,true,true,true,true,true,false,false,false,false,true,false]) (z:=(.agg PU.nil.arr)) (m:=22) (C:=PU.nil.cell) rfl rfl (by kernel_rfl) rfl (PU.box PU.nil) rfl (fun _ _ hw'=>⟨fun _=>dm (.t7 .here) _ hw',fun hs=>(hs 9 (by first | (simp;done) | (simp;rfl)) rfl).elim,fun _=>dm (.t7 .here) _ hw',trivial⟩) ?_
        intro ba
        refine XQ.call (i:=17) (l':= #[true,true,true,true,true,true,true,true,true,true,true,true,true,true,true,true,true,true,false,false,false,true,false]) rfl (by kernel_rfl) rfl rfl (lL b.kb (kp a b c) n hlr) (.cons (.t7 .here) .nil) uq rfl (by rintro _ _ ⟨bc,rfl,rfl⟩;all_goals(intro _ hw';exact⟨fun _=>dm (.there .here) _ hw',fun hs=>(hs 9 (by first | (simp;done) | (simp;rfl)) rfl).elim,fun _=>dm (.there .here) _ hw',trivial⟩)) ?_
        rintro _ _ ⟨bc,rfl,rfl⟩
        refine XQ.pv (i:=18) (l':= #[true,true,true,true,true,true,true,true,true,true,true,true,true,true,true,true,true,true,true,false,false,true,false]) rfl (by kernel_rfl) rfl (V.bI rfl) rfl rfl ?_
        refine XQ.load (i:=19) (l':= #[true,true,true,true,true,true,true,true,true,true,true,true,true,true,true,true,true,true,true,true,false,true,false]) (.cells _ _ _ _) [22] rfl (by kernel_rfl) rfl .here (V.gu rfl ea (Sg.gy _) tm jK) rfl (by kernel_rfl) rfl ?_
        refine XQ.pv (i:=20) (l':= #[true,true,true,true,true,true,true,true,true,true,true,true,true,true,true,true,true,true,true,true,true,true,false]) rfl (by kernel_rfl) rfl (V.build (vs:= #[(0,.int .i64 1),(1,.int .i64 n),(2,.int .i64 (a.u n).grp),(4,ptr nb 0 0),(5,.agg (Dg (a.u n).fd)),(6,.agg (IA (a.u n).bx.child))]) rfl (v:=.agg ((kp a b c).eb n nb).arr) (iG n _ nb _ _)) rfl rfl ?_
        refine XQ.eZ (i:=22) (l':= #[true,true,true,true,true,true,true,true,true,true,true,true,true,true,true,true,true,true,true,true,true,true,true]) rfl (by kernel_rfl) rfl rfl rfl (.t2 .here) (PU.sa _ _) ⟨rfl,rfl⟩ jI (fun _ hw'=>⟨fun hs=>(hs 22 (by first | (simp;done) | (simp;rfl)) rfl).elim,fun hs=>(hs 22 (by first | (simp;done) | (simp;rfl)) rfl).elim,fun hs=>(hs 9 (by first | (simp;done) | (simp;rfl)) rfl).elim,fun hs=>(hs 22 (by first | (simp;done) | (simp;rfl)) rfl).elim,trivial⟩) ?_
        refine XQ.done (by kernel_rfl) ?_
        refine gE ?_
        refine vE ((nb,ba,p1,c1)) ?_ (S5 rfl rfl rfl rfl rfl) (fun _ hw=>XM.pick (.cons (.there .here) (.cons (.t8 .here) (.cons (.t7 .here) (.cons (.t9 .here) (.cons (.t9 .here) (.cons (.t2 .here) (.cons (.t8 .here) (.cons (.t2 .here) (.cons (.t2 .here) (.cons (.t2 .here) (.cons (.t2 .here) (.cons (.t2 .here) (.cons (.t2 .here) (.cons (.t2 .here) (.cons (.t2 .here) (.cons (.t2 .here) (.cons (.t2 .here) (.cons (.t2 .here) (.cons (.t2 .here) (.cons (.t2 .here) (.cons (.t2 .here) (.cons (.there .here) .nil)))))))))))))))))))))) hw)
        trivial
      ·
       refine XS.cY (i:=21) (l':= #[true,true,true,true,true,true,true,true,true,false,true,true,true,true,true,true,true,false,false,false,false,true,false]) (z:=(.agg PU.nil.arr)) (m:=22) (C:=PU.nil.cell) rfl rfl (by kernel_rfl) rfl (PU.box PU.nil) rfl (fun _ _ hw'=>⟨fun _=>dm (.t2 .here) _ hw',fun _=>dm (.t2 .here) _ hw',fun _=>dm (.t2 .here) _ hw',trivial⟩) ?_
       intro ba
       refine XQ.call (i:=9) (l':= #[true,true,true,true,true,true,true,true,true,true,true,true,true,true,true,true,true,false,false,false,false,true,false]) rfl (by kernel_rfl) rfl rfl (Vm.u7 b.bb b.vp _ a.v ho.wk.sys.acc.ok _ _ (a.f n.toNat) (ho.wk.sys.mo n.toNat (by omega))) (.cons (.t10 .here) (.cons (.t4 .here) (.cons (.t4 .here) .nil))) Aw rfl (by rintro _ _ ⟨nb,p1,c1,rfl,rfl⟩;all_goals(intro _ hw';exact⟨fun _=>dm (.t7 .here) _ hw',fun hs=>(hs 9 (by first | (simp;done) | (simp;rfl)) rfl).elim,fun _=>dm (.t7 .here) _ hw',trivial⟩)) ?_
       rintro _ _ ⟨nb,p1,c1,rfl,rfl⟩
       refine XQ.call (i:=17) (l':= #[true,true,true,true,true,true,true,true,true,true,true,true,true,true,true,true,true,true,false,false,false,true,false]) rfl (by kernel_rfl) rfl rfl (lL b.kb (kp a b c) n hlr) (.cons (.t7 .here) .nil) uq rfl (by rintro _ _ ⟨bc,rfl,rfl⟩;all_goals(intro _ hw';exact⟨fun _=>dm (.there .here) _ hw',fun hs=>(hs 9 (by first | (simp;done) | (simp;rfl)) rfl).elim,fun _=>dm (.there .here) _ hw',trivial⟩)) ?_
       rintro _ _ ⟨bc,rfl,rfl⟩
       refine XQ.pv (i:=18) (l':= #[true,true,true,true,true,true,true,true,true,true,true,true,true,true,true,true,true,true,true,false,false,true,false]) rfl (by kernel_rfl) rfl (V.bI rfl) rfl rfl ?_
       refine XQ.load (i:=19) (l':= #[true,true,true,true,true,true,true,true,true,true,true,true,true,true,true,true,true,true,true,true,false,true,false]) (.cells _ _ _ _) [22] rfl (by kernel_rfl) rfl .here (V.gu rfl ea (Sg.gy _) tm jK) rfl (by kernel_rfl) rfl ?_
       refine XQ.pv (i:=20) (l':= #[true,true,true,true,true,true,true,true,true,true,true,true,true,true,true,true,true,true,true,true,true,true,false]) rfl (by kernel_rfl) rfl (V.build (vs:= #[(0,.int .i64 1),(1,.int .i64 n),(2,.int .i64 (a.u n).grp),(4,ptr nb 0 0),(5,.agg (Dg (a.u n).fd)),(6,.agg (IA (a.u n).bx.child))]) rfl (v:=.agg ((kp a b c).eb n nb).arr) (iG n _ nb _ _)) rfl rfl ?_
       refine XQ.eZ (i:=22) (l':= #[true,true,true,true,true,true,true,true,true,true,true,true,true,true,true,true,true,true,true,true,true,true,true]) rfl (by kernel_rfl) rfl rfl rfl (.t7 .here) (PU.sa _ _) ⟨rfl,rfl⟩ jI (fun _ hw'=>⟨fun hs=>(hs 22 (by first | (simp;done) | (simp;rfl)) rfl).elim,fun hs=>(hs 22 (by first | (simp;done) | (simp;rfl)) rfl).elim,fun hs=>(hs 9 (by first | (simp;done) | (simp;rfl)) rfl).elim,fun hs=>(hs 22 (by first | (simp;done) | (simp;rfl)) rfl).elim,trivial⟩) ?_
       refine XQ.done (by kernel_rfl) ?_
       refine gE ?_
       refine vE ((nb,ba,p1,c1)) ?_ (S5 rfl rfl rfl rfl rfl) (fun _ hw=>XM.pick (.cons (.there .here) (.cons (.t8 .here) (.cons (.t7 .here) (.cons (.t9 .here) (.cons (.t9 .here) (.cons (.there .here) (.cons (.t8 .here) (.cons (.there .here) (.cons (.there .here) (.cons (.there .here) (.cons (.there .here) (.cons (.t2 .here) (.cons (.t2 .here) (.cons (.t2 .here) (.cons (.t2 .here) (.cons (.t2 .here) (.cons (.t2 .here) (.cons (.t2 .here) (.cons (.t2 .here) (.cons (.t2 .here) (.cons (.t2 .here) (.cons (.there .here) .nil)))))))))))))))))))))) hw)
       trivial
     intro y hy
     refine gC ?_
     refine mQ (.t12 (.t9 .here)) (PU.fds _) ?_
     refine lp (σ:=Int) (fun i=>(6-i).toNat) (fun i=>0≤i∧i≤6) (fun i=>[(133,.int .i64 i),(0,ptr b.kb 0 0),(8,ptr b.kb 0 (0+0+n.toNat*22)),(10,.int .i64 ch),(12,.int .i64 (a.s.bU n).1),(14,ptr y.2.1 0 0),(132,.agg (Dg (a.u n).fd))]) (fun i=>XM W (bR [.cells b.kb 0 453 (ah (kp a b c)),.cells b.gb 0 60 (Gr.aC a.g),.cells b.sb 0 158 (Sp.aB a.s),.cells b.qb 0 2281 (Fa.aq c.q),.fam Fa.aH (Fa.SC.rows 254 c.q),.cells b.bb 0 577 (Vm.bz b.vp a.v.by_ a.v.rf),.cells b.vp 0 71 (Vm.au a.v.bb.bJ),.cfam (bN a) c.mb 34 (cN b.bb a.f c.pp c.cc),.fam (bN a) (rN 171 a.f c.pp c.cc),.cells b.tb 0 321 (Tr.ay c.F),.fam Tr.ai (Tr.FC.aD 9 c.F),.fam Tr.ai (Tr.FC.aF 3 c.F),aZ c.rp c.rc 3 c.rl,.cells b.pi 0 24 (Tr.au a.P),.cells b.ob 0 122 (Tr.az b.tb b.pi a.O),.cfam (bO a) (fun z=>(c.t z).b) 4 (cT b.tb c.t),.fam (bO a) (rT 168 c.t)]) [.cells b.kb 0 453 (ah (kp a b c)),.cells b.gb 0 60 (Gr.aC (a.gC n)),.cells b.sb 0 158 (Sp.aB (a.s.enter a.dep (a.s.bU n).1 ch).2.2),.cells b.qb 0 2281 (Fa.aq c.q),.fam Fa.aH (Fa.SC.rows 254 c.q),.cells b.bb 0 577 (Vm.bz b.vp (a.v.fork (a.f n.toNat)).by_ (a.v.fork (a.f n.toNat)).rf),.cells b.vp 0 71 (Vm.au (a.v.fork (a.f n.toNat)).bb.bJ),.cells (c.mb n.toNat) 0 34 (Vm.bA b.bb (c.pp n.toNat) (Vm.runs (a.f n.toNat).aA).length (c.cc n.toNat) (a.f n.toNat).fr (fun _=>false)),aR (c.pp n.toNat) (c.cc n.toNat) 171 3 (Vm.runs (a.f n.toNat).aA).length (Vm.dy (Vm.runs (a.f n.toNat).aA)),.cells y.1 0 34 (Vm.bA b.bb y.2.2.1 (Vm.runs (a.f n.toNat).aA).length y.2.2.2 (a.f n.toNat).fr (fun _=>false)),aR y.2.2.1 y.2.2.2 171 3 (Vm.runs (a.f n.toNat).aA).length (Vm.dy (Vm.runs (a.f n.toNat).aA)),.cfam (eA (bN a) n.toNat) c.mb 34 (cN b.bb a.f c.pp c.cc),.fam (eA (bN a) n.toNat) (rN 171 a.f c.pp c.cc),.cells b.tb 0 321 (Tr.ay c.F),.fam Tr.ai (Tr.FC.aD 9 c.F),.fam Tr.ai (Tr.FC.aF 3 c.F),aZ c.rp c.rc 3 c.rl,.cells b.pi 0 24 (Tr.au a.P),.cells b.ob 0 122 (Tr.az b.tb b.pi (sC (a.u n).fd a.O i.toNat)),.cfam (bO a) (fun z=>(c.t z).b) 4 (cT b.tb c.t),.fam (bO a) (rT 168 c.t),.cells y.2.1 0 22 (((kp a b c).eb n y.1).cell)]) (0) ?_ (.cons rfl (S6 rfl rfl rfl rfl rfl rfl)) (fun _ hw=>XM.pick .Nt hw) ?_
     ·
      omega
     intro i hi
     have hfdi:=ho.wk.fd n i
     refine gC ?_
     refine cd rfl ?_ ?_<;>intro h4
     ·
      refine XO.v (V.iA rfl rfl Tryz.underlying83 jG jd (by omega)) rfl (gO ?_)
      refine cd rfl ?_ ?_<;>intro h5
      ·
       have h26:(a.u n).fd i>0:=h5
       refine ld .here (ah.B7 _) ?_
       refine sd (by omega) ?_
       refine ca (Tr.A2 _ _ _ _ _ (T+6) (by omega) ((pU (f:=(a.u n).fd) ho.wk.OI i.toNat).mono (by omega)) _) (.cons (.t12 (.t6 .here)) .nil) ?_
       rintro _ _ ⟨rfl,rfl⟩
       refine gO ?_
       refine sd (by omega) ?_
       refine ag (i+1) ?_ ?_ (.cons rfl (S6 rfl rfl rfl rfl rfl rfl)) (fun _ hw2=>by rw[AI _ hi.1 h26];exact XM.pick (.cons (.there .here) (.cons (.there .here) (.cons (.there .here) (.cons (.there .here) (.cons (.there .here) (.cons (.there .here) (.cons (.there .here) (.cons (.there .here) (.cons (.there .here) (.cons (.there .here) (.cons (.there .here) (.cons (.there .here) (.cons (.there .here) (.cons (.there .here) (.cons (.there .here) (.cons (.there .here) (.cons (.there .here) (.cons (.there .here) .h4)))))))))))))))))) hw2)
       ·
        (first | omega | (simp;done) | (simp;omega))
       ·
        (first | omega | (simp;done) | (simp;omega))
      ·
       have h26:¬(a.u n).fd i>0:=h5
       refine sd (by omega) ?_
       refine ag (i+1) ?_ ?_ (.cons rfl (S6 rfl rfl rfl rfl rfl rfl)) (fun _ hw2=>by rw[vS _ hi.1 h26];exact XM.pick .Nt hw2)
       ·
        (first | omega | (simp;done) | (simp;omega))
       ·
        (first | omega | (simp;done) | (simp;omega))
     ·
      refine rq [0,1,2,3,4,5,6] mixed (by kernel_rfl) ?_
      refine mQ (.t12 (.t9 .here)) (PU.agg _) ?_
      refine sd (by omega) ?_
      refine jV .here (ah.sa _ (by omega) _) rfl ⟨rfl,rfl⟩ ?_
      refine rq [0,1,2,3,4,5,6,7,8,9] mixed (by kernel_rfl) ?_
      refine ld .here (ah.xJ _) ?_
      refine ld .here (ah.km _ (by omega)) ?_
      refine ca (Fa.oH _ _ c.q c.d hc.qO.inv hc.qR ch _ 100) (.cons (.t3 .here) (.cons (.t3 .here) .nil)) ?_
      rintro _ _ ⟨rfl,q1,hq1,hr1,rfl⟩
      obtain⟨d1,hok1⟩:∃ d1,q1.toSF.Ok d1 (N+1) N:=by rw[hq1];exact hc.qO.mH (by omega) _ _ _
      refine gO ?_
      refine ld (.t2 .here) (ah.xJ _) ?_
      refine ca (Fa.yq _ _ q1 d1 hok1.inv hr1 ch true) .h2 ?_
      rintro _ _ ⟨rfl,q2,hq2,hr2,rfl⟩
      have hok2:q2.toSF.Ok d1 (N+1) N:=by rw[hq2];exact hok1.ej _ _
      refine gO ?_
      refine ld (.t2 .here) (ah.nN _) ?_
      refine ca (Sp.Bb _ _ (a.s.enter a.dep (a.s.bU n).1 ch).2.2 _ _) (.cons (.t4 .here) .nil) ?_
      rintro _ _ ⟨rfl,rfl⟩
      refine gO ?_
      refine XR.mono (fun _ hw3=>XM.Ar (f:=a.f) (a.f n.toNat).bare (jv hlr (by omega)) (.cons (.t7 .here) (.cons (.t7 .here) (.cons (.t9 .here) (.cons (.t9 .here) .nil)))) hw3) ?_
      refine XR.mono (fun _ hw3=>XM.I3 (a.f n.toNat).bare (Fy ⟨hch.1.1,by omega⟩ hc0) (.cons (.t9 .here) (.cons (.t9 .here) .h2)) hw3) ?_
      refine XE.aU rfl rfl rfl (ab (.cons (.t5 .here) (.cons (.t5 .here) (.cons (.t2 .here) (.cons (.t2 .here) (.cons (.t2 .here) (.cons (.t2 .here) (.cons (.t2 .here) .Hj))))))) rfl ?_)
      try dsimp only[SW.den,SV.den,aj,aL]
      have hi6:i=6:=by omega
      subst hi6
      have hfc:a.free=ch:=KA.je ⟨hch.1.1,by omega⟩ hc0 hch.2
      subst hfc
      have hI:=ho.wk.N7 (n:=n) (own:=false) (SS.Inv.ep ho.wk.sI ho.r0.loc) hl (by omega) rfl
      have hg0:a.gE n=0:=hge0
      have e1:a.fp n false=0:=by unfold KA.fp;rw[if_neg (by omega),if_neg (by omega),if_neg (by omega)];rfl
      have e2:a.fE n false=((a.cG n false).s.pid a.free (a.sz n)).1:=by unfold KA.fE;rw[if_pos e1]
      have e3:a.bE n false=a.cG n false:=by unfold KA.bE;rw[if_neg (by omega),if_neg (by exact fun q=>q rfl)]
      have e4:((a.cG n false).s.pid a.free (a.sz n)).2=0:=hI.pid.1
      have hc2:eQ (a.cG n false) {c with mb:=bF c.mb a.free.toNat y.1,pp:=bF (bF c.pp n.toNat (c.pp n.toNat)) a.free.toNat y.2.2.1,cc:=bF (bF c.cc n.toNat (c.cc n.toNat)) a.free.toNat y.2.2.2,q:=q2,d:=d1} (N+1) (T+20):=by
       refine⟨hok2.mono (Nat.le_refl _) (by omega),hr2,FF.Ok.up hc.F (by omega),hc.rp,hc.rc,hc.rl,fun z h0 h1 h2=>hc.tb z h0 h1 (by rwa[hI.qi]at h2)⟩
      rw[e1,e2,e3]
      refine⟨?_,_,hc2,?_⟩
      ·rw[←e4];rfl
      ·rw[Ae (c':= {c with mb:=bF c.mb a.free.toNat y.1,pp:=bF (bF c.pp n.toNat (c.pp n.toNat)) a.free.toNat y.2.2.1,cc:=bF (bF c.cc n.toNat (c.cc n.toNat)) a.free.toNat y.2.2.2,q:=q2,d:=d1}) ho.wk hI rfl rfl ⟨⟨rfl,rfl,rfl,rfl⟩,rfl,rfl,rfl⟩ (by show _=(fun z=>if(a.cG n false).s.here z then ptr (c.t z.toNat).b 0 0 else .pointer none);rw[hI.qi];rfl),xd hI,Gp hI]
       all_goals rfl
  ·
   refine L4 rfl (by omega) ?_
   refine XE.aU rfl rfl rfl (ab .la rfl ?_)
   try dsimp only[SW.den,SV.den,aj,aL]
   have hfc:a.free=20:=KA.zW (fun j j0 j1=>hch.2 j j0 (by omega))
   have e1:a.fp n false=4:=by unfold KA.fp;rw[if_neg (by omega),if_pos hfc]
   have e2:a.fE n false=0:=by unfold KA.fE;rw[if_neg (by omega)]
   have e3:a.bE n false=a:=by unfold KA.bE;rw[if_pos (by omega)]
   rw[e1,e2,e3];exact⟨rfl,c,hc.up (by omega) (by omega),rfl⟩
 ·
  try dsimp only[aT,aV,bu,bj,bk,bd,aW,bh,aY,aX,aP,aN,aQ,aO]
  have hl:a.live n≠0:=hl
  have hlk:(kp a b c).live n=a.live n:=rfl
  rw[hlk]
  refine gO ?_
  refine XE.aU rfl rfl rfl (ab .la rfl ?_)
  try dsimp only[SW.den,SV.den,aj,aL]
  have e1:a.fp n false=a.live n:=by unfold KA.fp;rw[if_pos hl]
  have e2:a.fE n false=0:=by unfold KA.fE;rw[if_neg (by omega)]
  have e3:a.bE n false=a:=by unfold KA.bE;rw[if_pos (by omega)]
  rw[e1,e2,e3,aJ _ hl];exact⟨rfl,c,hc.up (by omega) (by omega),rfl⟩
end Go.X.Kn
