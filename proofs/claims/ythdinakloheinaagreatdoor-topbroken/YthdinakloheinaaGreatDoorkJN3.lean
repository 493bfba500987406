import Derived.Test.YthdinakloheinaaGreatDoorkJN1
import Derived.Test.YthdinakloheinaaGreatDoorkNW6
import Derived.Test.YthdinakloheinaaGreatDoorkJBG
import Derived.Test.YthdinakloheinaaGreatDoorXClose
import Derived.Test.YthdinakloheinaaGreatDoorkJF0
namespace Go.X.Kn
open Go Go.Proofs Go.X
set_option maxRecDepth 20000
set_option maxHeartbeats 4000000
attribute [local irreducible] KA.bn KA.bV
theorem B0{a:KA}{b:KZ}{n:Int}(hI:a.yx n true)(hin:(a.s.add a.dep (a.s.bZ n).1).2.1=0)(hh:a.s.here 0=true)(c c':KC){x:TB}(hc:c'.t=bJ c.t (a.s.add a.dep (a.s.bZ n).1).1.toNat x):aa (kp a b c).ms (a.s.add a.dep (a.s.bZ n).1).1 (ptr x.b 0 0)=(kp (a.cS n true) b c').ms:=by
 have h1:=SS.uS hin
 show _=fun z=>if(a.cS n true).s.here z then ptr (c'.t z.toNat).b 0 0 else .pointer none
 rw[hI.qV,hc]
 have h2:(a.sA n true).here=aa a.s.here (a.s.add a.dep (a.s.bZ n).1).1 true:=h1.2.2
 rw[h2]
 funext z
 by_cases e:z=(a.s.add a.dep (a.s.bZ n).1).1
 ·subst e;rw[ae,ae,da];rfl
 ·rw[ad _ _ e,ad _ _ e]
  show(if a.s.here z then _ else _)=_
  by_cases q:z.toNat=(a.s.add a.dep (a.s.bZ n).1).1.toNat
  ·exfalso
   have:(a.s.add a.dep (a.s.bZ n).1).1≠0:=by intro e0;have h3:=h1.2.1;rw[e0,hh]at h3;cases h3
   omega
  ·rw[cV _ _ q]
set_option maxHeartbeats 16000000 in
theorem HK(a:KA)(b:KZ)(c:KC)(N:Nat)(T:Int)(ho:a.Ok T)(hc:dq a c N T)(hT:T≤800000)(n:Int):Spec Tryz.prog 14 [ptr b.kb 0 0,.int .i64 n,.bool true] [.cells b.kb 0 453 (ah (kp a b c)),.cells b.gb 0 60 (Gr.ay a.g),.cells b.sb 0 158 (Sp.aA a.s),.cells b.qb 0 2281 (Fa.ao c.q),.fam Fa.aL (Fa.SC.rows 254 c.q),.cells b.bb 0 577 (Vm.bu b.vp a.v.by_ a.v.rf),.cells b.vp 0 71 (Vm.aq a.v.bb.bA),.cfam (bD a) c.mb 34 (cN b.bb a.f c.pp c.cc),.fam (bD a) (rN 171 a.f c.pp c.cc),.cells b.tb 0 321 (Tr.av c.F),.fam Tr.ai (Tr.FC.aJ 9 c.F),.fam Tr.ai (Tr.FC.aK 3 c.F),bk c.rp c.rc 3 c.rl,.cells b.pi 0 24 (Tr.aq a.P),.cells b.ob 0 122 (Tr.aD b.tb b.pi a.O),.cfam (bI a) (fun z=>(c.t z).b) 4 (cT b.tb c.t),.fam (bI a) (rT 168 c.t)] (fun v H1=>v= .tuple #[.int .i64 (a.fu n true),bM 102 (a.eH n true)]∧∃ c1:KC,dq (a.bK n true) c1 (N+1) (T+20)∧H1=[.cells b.kb 0 453 (ah (kp (a.bK n true) b c1)),.cells b.gb 0 60 (Gr.ay (a.bK n true).g),.cells b.sb 0 158 (Sp.aA (a.bK n true).s),.cells b.qb 0 2281 (Fa.ao c1.q),.fam Fa.aL (Fa.SC.rows 254 c1.q),.cells b.bb 0 577 (Vm.bu b.vp (a.bK n true).v.by_ (a.bK n true).v.rf),.cells b.vp 0 71 (Vm.aq (a.bK n true).v.bb.bA),.cfam (bD (a.bK n true)) c1.mb 34 (cN b.bb (a.bK n true).f c1.pp c1.cc),.fam (bD (a.bK n true)) (rN 171 (a.bK n true).f c1.pp c1.cc),.cells b.tb 0 321 (Tr.av c1.F),.fam Tr.ai (Tr.FC.aJ 9 c1.F),.fam Tr.ai (Tr.FC.aK 3 c1.F),bk c1.rp c1.rc 3 c1.rl,.cells b.pi 0 24 (Tr.aq (a.bK n true).P),.cells b.ob 0 122 (Tr.aD b.tb b.pi (a.bK n true).O),.cfam (bI (a.bK n true)) (fun z=>(c1.t z).b) 4 (cT b.tb c1.t),.fam (bI (a.bK n true)) (rT 168 c1.t)]):=by
 refine Spec.go 177 [0,1,2,6,7,8,9,10,11,12,13,14,16,24,37,41,59,65,76,132,133,134,137] [(22,0)] Tryz.func14 rfl rfl rfl ?_
 intro W
 refine ca (gu b.kb (kp a b c) n) .h1 ?_
 rintro _ _ ⟨⟨hl,rfl⟩ | ⟨hl,rfl⟩,rfl⟩
 ·
  try dsimp only[aC,aS,aM,aR,aN,aP,aQ,aU,aO,aT,aG,aH,aB,aF]
  obtain⟨hlr,hls⟩:=KP.dN hl
  have hl:a.live n=0:=hl
  have hls:(a.u n).st=1:=hls
  have hmem:=y8 a b c (n:=n) (by omega)
  refine gO ?_
  refine lp (σ:=Int) (fun ch=>(20-ch).toNat) (fun ch=>(0≤ch∧ch≤20)∧∀ j:Int,0≤j→j<ch→(a.u j).st≠0) (fun ch=>[(10,.int .i64 ch),(0,ptr b.kb 0 0),(1,.int .i64 n),(2,.bool true),(8,ptr b.kb 0 (0+0+n.toNat*22))]) (fun ch=>XM W (bS [.cells b.kb 0 453 (ah (kp a b c)),.cells b.gb 0 60 (Gr.ay a.g),.cells b.sb 0 158 (Sp.aA a.s),.cells b.qb 0 2281 (Fa.ao c.q),.fam Fa.aL (Fa.SC.rows 254 c.q),.cells b.bb 0 577 (Vm.bu b.vp a.v.by_ a.v.rf),.cells b.vp 0 71 (Vm.aq a.v.bb.bA),.cfam (bD a) c.mb 34 (cN b.bb a.f c.pp c.cc),.fam (bD a) (rN 171 a.f c.pp c.cc),.cells b.tb 0 321 (Tr.av c.F),.fam Tr.ai (Tr.FC.aJ 9 c.F),.fam Tr.ai (Tr.FC.aK 3 c.F),bk c.rp c.rc 3 c.rl,.cells b.pi 0 24 (Tr.aq a.P),.cells b.ob 0 122 (Tr.aD b.tb b.pi a.O),.cfam (bI a) (fun z=>(c.t z).b) 4 (cT b.tb c.t),.fam (bI a) (rT 168 c.t)]) [.cells b.kb 0 453 (ah (kp a b c)),.cells b.gb 0 60 (Gr.ay a.g),.cells b.sb 0 158 (Sp.aA a.s),.cells b.qb 0 2281 (Fa.ao c.q),.fam Fa.aL (Fa.SC.rows 254 c.q),.cells b.bb 0 577 (Vm.bu b.vp a.v.by_ a.v.rf),.cells b.vp 0 71 (Vm.aq a.v.bb.bA),.cfam (bD a) c.mb 34 (cN b.bb a.f c.pp c.cc),.fam (bD a) (rN 171 a.f c.pp c.cc),.cells b.tb 0 321 (Tr.av c.F),.fam Tr.ai (Tr.FC.aJ 9 c.F),.fam Tr.ai (Tr.FC.aK 3 c.F),bk c.rp c.rc 3 c.rl,.cells b.pi 0 24 (Tr.aq a.P),.cells b.ob 0 122 (Tr.aD b.tb b.pi a.O),.cfam (bI a) (fun z=>(c.t z).b) 4 (cT b.tb c.t),.fam (bI a) (rT 168 c.t)]) (0) ?_ (S5 rfl rfl rfl rfl rfl) (fun _ hw=>XM.pick .gq hw) ?_
  ·
   exact⟨by omega,fun j j0 j1=>by omega⟩
  intro ch hch
  have hch1:=hch.1
  refine gC ?_
  refine sp 28 rfl ?_ ?_<;>intro h1
  ·
   refine sd (by omega) ?_
   refine ld .here (ah.ot _ (by omega)) ?_
   refine cd rfl ?_ ?_<;>intro h2
   ·
    have hst0:(a.u ch).st≠0:=h2
    refine sd (by omega) ?_
    refine ag (ch+1) ?_ ?_ (S5 rfl rfl rfl rfl rfl) (fun _ hw=>XM.pick .gq hw)
    ·
     (first | omega | (simp;done) | (simp;omega))
    ·
     refine⟨by omega,fun j j0 j1=> ?_⟩
     by_cases e:j=ch
     ·subst e;assumption
     ·exact hch.2 j j0 (by omega)
   ·
    have hc0:(a.u ch).st=0:=by
     have h9:=h2
     have e9:((kp a b c).u ch).st=(a.u ch).st:=rfl
     omega
    refine uu rfl (by omega) ?_
    refine XR.mono (fun _ hw3=>XM.Ja (z:=n.toNat) (jx hlr (by omega)) (.cons (.t7 .here) (.cons (.t7 .here) .nil)) hw3) ?_
    refine ld (.t4 .here) (ah.oq _ (by omega) hmem) ?_
    refine ca (Vm.rH b.bb _ _ _ (a.f n.toNat) (ho.wk.sys.mo n.toNat (by omega))) .h1 ?_
    rintro _ _ ⟨rfl,rfl⟩
    refine gO ?_
    refine rq [0,1,2,3,4,5,6,7,8,9,10] mixed (by kernel_rfl) ?_
    refine ld (.t4 .here) (ah.Cb _) ?_
    refine ld (.t4 .here) (ah.kE _ (by omega)) ?_
    refine ca (Gr.sK _ _ a.g ho.wk.gI.ok _ _ _ (1000*T) (by have:=ho.wk.T0;omega) ho.wk.gS) (.cons (.t5 .here) .nil) ?_
    rintro _ _ ⟨rfl,rfl⟩
    refine gO ?_
    refine cd rfl ?_ ?_<;>intro h3
    ·
     have hge:=h3
     refine XR.mono (fun _ hw3=>XM.DL (f:=a.f) (z:=n.toNat) (ps:=c.pp) (cs:=c.cc) (mb:=c.mb) (jx hlr (by omega)) (.cons (.there .here) (.cons (.there .here) (.cons (.there .here) (.cons (.there .here) .nil)))) hw3) ?_
     refine XE.bC rfl rfl rfl (ab (.cons (.t3 .here) (.cons (.t2 .here) (.cons (.t2 .here) (.cons (.t2 .here) (.cons (.t2 .here) (.cons (.t2 .here) (.cons (.t2 .here) .Dw))))))) rfl ?_)
     try dsimp only[SW.den,SV.den,aj,aZ]
     have hfc:a.free=ch:=KA.iZ ⟨hch.1.1,by omega⟩ hc0 hch.2
     have hg0:a.gE n≠0:=hge
     have e1:a.eH n true=a.gE n:=by unfold KA.eH;rw[if_neg (by omega),if_neg (by omega),if_pos hg0]
     have e2:a.fu n true=0:=by unfold KA.fu;rw[if_neg (by omega)]
     have e3:a.bK n true=a:=by unfold KA.bK;rw[if_pos (by omega)]
     have hce:a.g.cg ((kp a b c).u n).grp 1 (a.f n.toNat).res=a.g:=so hg0
     rw[e1,e2,e3]
     rw[hce]
     exact⟨rfl,c,hc.up (by omega) (by omega),rfl⟩
    ·
     have hge0:a.gE n=0:=by
      have h9:=h3
      have e9:a.g.b8 (a.u n).grp 1 (a.f n.toNat).res=a.gE n:=rfl
      have e8:a.g.b8 ((kp a b c).u n).grp 1 (a.f n.toNat).res=a.gE n:=rfl
      omega
     refine ca (gN b.kb (kp a b c) a.s n) (.cons (.t5 .here) (.cons (.t5 .here) .nil)) ?_
     rintro _ _ ⟨rfl,rfl⟩
     refine gO ?_
     refine ld .here (ah.mT _) ?_
     refine ca (Sp.M0 _ _ a.s a.dep ho.wk.sI.D ho.wk.sI.A (a.s.bZ n).1) (.cons (.there .here) .nil) ?_
     rintro _ _ ⟨rfl,rfl⟩
     refine gO ?_
     refine cd rfl ?_ ?_<;>intro h4
     ·
      have hin:(a.s.add a.dep (a.s.bZ n).1).2.1≠0:=h4
      refine rq [0,1,2,3,4,5,6,7,8,9] mixed (by kernel_rfl) ?_
      refine ld (.there .here) (ah.Cb _) ?_
      refine ld (.there .here) (ah.kE _ (by omega)) ?_
      refine ca (Gr.mQ _ _ (a.gC n) (ho.wk.gI.cg _ _ _).ok _ _ _ (1000*T+320) (by have:=ho.wk.T0;omega) (ho.wk.gS.cg ho.wk.gI.ok _ _ _)) (.cons (.t2 .here) .nil) ?_
      rintro _ _ ⟨rfl,rfl⟩
      refine gO ?_
      refine XR.mono (fun _ hw3=>XM.DL (f:=a.f) (z:=n.toNat) (ps:=c.pp) (cs:=c.cc) (mb:=c.mb) (jx hlr (by omega)) (.cons (.t3 .here) (.cons (.t3 .here) (.cons (.t3 .here) (.cons (.t3 .here) .nil)))) hw3) ?_
      refine XE.bC rfl rfl rfl (ab (.cons (.t4 .here) (.cons (.t2 .here) (.cons (.t2 .here) (.cons (.t2 .here) (.cons (.t2 .here) (.cons (.t2 .here) (.cons (.t2 .here) .Dw))))))) rfl ?_)
      try dsimp only[SW.den,SV.den,aj,aZ]
      have hg0:a.gE n=0:=hge0
      have hfc:a.free=ch:=KA.iZ ⟨hch.1.1,by omega⟩ hc0 hch.2
      have e1:a.eH n true=(a.s.add a.dep (a.s.bZ n).1).2.1:=by unfold KA.eH;rw[if_neg (by omega),if_neg (by omega),if_neg (by omega)];show a.Mh n true=_;rw[show a.Mh n true=(a.s.add a.dep (a.s.bZ n).1).2.1 from rfl]
      have e2:a.fu n true=0:=by unfold KA.fu;rw[if_neg (by omega)]
      have e3:a.bK n true= {a with g:=(a.gC n).ea (a.u n).grp 1 (a.res n)} :=by unfold KA.bK;rw[if_neg (by omega),if_pos (by exact hin)]
      have hse:(a.s.add a.dep (a.s.bZ n).1).2.2=a.s:=by
       rcases a.s.iA a.dep (a.s.bZ n).1 with⟨_,_,q⟩ | ⟨k,_,_,_,_,q5⟩
       ·exact q
       ·exact absurd (by rw[q5]) hin
      rw[e1,e2,e3,hse];exact⟨rfl,c,⟨hc.qO.mono (by omega) (by omega),hc.qR,FF.Ok.up hc.F (by omega),hc.rp,hc.rc,hc.rl,hc.tb⟩,rfl⟩
     ·
      have hin:(a.s.add a.dep (a.s.bZ n).1).2.1=0:=by
       have h9:=h4
       omega
      have hfc:a.free=ch:=KA.iZ ⟨hch.1.1,by omega⟩ hc0 hch.2
      have hI:=ho.wk.N0 (n:=n) (own:=true) (SS.Inv.ep ho.wk.sI ho.r0.loc) hl (by omega) hin
      have hzr:(0≤(a.s.bZ n).1∧(a.s.bZ n).1<6)∧a.s.here (a.s.bZ n).1=true:=⟨⟨hI.z.1,hI.z.2.1⟩,hI.z.2.2⟩
      have htb:=hc.tb _ hzr.1.1 hzr.1.2 hzr.2
      have hnz:=SS.uS hin
      refine XR.mono (fun _ hw3=>XM.Mm (z:=(a.s.bZ n).1.toNat) (zP hzr.1 hzr.2) (.cons (.t12 (.t5 .here)) (.cons (.t12 (.t5 .here)) .nil)) hw3) ?_
      refine rq [0,1,2,3,4,5,6,7,9,10,8,11,12] mixed (by kernel_rfl) ?_
      refine sd (by omega) ?_
      refine ld (.t5 .here) (ah.D6 _ hzr.1 (JU a b c hzr.2)) ?_
      refine ca (Tr.KT _ _ _ _ _ _ _ _ _ htb.rv htb.mc htb.len c.F c.dF T hc.F (by omega)) (.cons .here (.cons .here (.cons (.t12 (.there .here)) (.cons (.t12 (.there .here)) (.cons (.t12 (.there .here)) .nil))))) ?_
      rintro _ _ ⟨bt2,p2,cap2,k2,c2,C2,F1,rfl,hv2,hC2,hF1,hO1,hp1,hr1,rfl⟩
      refine gO ?_
      refine sd (by omega) ?_
      refine st (.t10 .here) (ah.DN _ hnz.1 _) rfl ?_
      refine XR.mono (fun _ hw3=>XM.Mn (z:=(a.s.bZ n).1.toNat) (zP hzr.1 hzr.2) (.cons (.t2 .here) (.cons (.t2 .here) (.cons (.t5 .here) (.cons (.t5 .here) .nil)))) hw3) ?_
      refine XR.mono (fun _ hw3=>XM.LX (z:=(a.s.add a.dep (a.s.bZ n).1).1.toNat) ⟨bt2,(c.t (a.s.bZ n).1.toNat).r,(c.t (a.s.bZ n).1.toNat).l,p2,cap2,k2,c2,C2⟩ (LB hnz.1 hnz.2.1) (.cons (.t2 .here) (.cons (.t2 .here) .h2)) hw3) ?_
      refine ld (.t6 .here) (ah.mT _) ?_
      refine ca (Sp.vM _ _ (a.s.add a.dep (a.s.bZ n).1).2.2 (a.dA n true) hI.inv.D (a.s.add a.dep (a.s.bZ n).1).1 ch) (.cons (.t5 .here) .nil) ?_
      rintro _ _ ⟨rfl,rfl⟩
      refine gO ?_
      refine JO (σ:=Nat×Nat×Option Addr×Nat×Nat×TB×Tr.FC) (fun y=>y.2.2.2.2.2.2.toFF.Ok c.dF (T+13)∧y.2.2.2.2.2.2.rP=c.F.rP∧y.2.2.2.2.2.2.rC=c.F.rC∧y.2.2.2.2.2.2.roots=c.F.roots∧y.2.2.2.2.2.1.Ok) (fun y=>[(0,ptr b.kb 0 0),(8,ptr b.kb 0 (0+0+n.toNat*22)),(10,.int .i64 ch),(12,.int .i64 (a.s.bZ n).1),(14,ptr y.2.1 0 0)]) (fun y=>XM W (bS [.cells b.kb 0 453 (ah (kp a b c)),.cells b.gb 0 60 (Gr.ay a.g),.cells b.sb 0 158 (Sp.aA a.s),.cells b.qb 0 2281 (Fa.ao c.q),.fam Fa.aL (Fa.SC.rows 254 c.q),.cells b.bb 0 577 (Vm.bu b.vp a.v.by_ a.v.rf),.cells b.vp 0 71 (Vm.aq a.v.bb.bA),.cfam (bD a) c.mb 34 (cN b.bb a.f c.pp c.cc),.fam (bD a) (rN 171 a.f c.pp c.cc),.cells b.tb 0 321 (Tr.av c.F),.fam Tr.ai (Tr.FC.aJ 9 c.F),.fam Tr.ai (Tr.FC.aK 3 c.F),bk c.rp c.rc 3 c.rl,.cells b.pi 0 24 (Tr.aq a.P),.cells b.ob 0 122 (Tr.aD b.tb b.pi a.O),.cfam (bI a) (fun z=>(c.t z).b) 4 (cT b.tb c.t),.fam (bI a) (rT 168 c.t)]) [.cells b.kb 0 453 (ah ({kp a b c with ms:=aa (kp a b c).ms (a.s.add a.dep (a.s.bZ n).1).1 (ptr y.2.2.2.2.2.1.b 0 0)} :KP)),.cells b.gb 0 60 (Gr.ay (a.gC n)),.cells b.sb 0 158 (Sp.aA ((a.s.add a.dep (a.s.bZ n).1).2.2.enter (a.dA n true) (a.s.add a.dep (a.s.bZ n).1).1 ch).2.2),.cells b.qb 0 2281 (Fa.ao c.q),.fam Fa.aL (Fa.SC.rows 254 c.q),.cells b.bb 0 577 (Vm.bu b.vp (a.v.fork (a.f n.toNat)).by_ (a.v.fork (a.f n.toNat)).rf),.cells b.vp 0 71 (Vm.aq (a.v.fork (a.f n.toNat)).bb.bA),.cells (c.mb n.toNat) 0 34 (Vm.bE b.bb (c.pp n.toNat) (Vm.runs (a.f n.toNat).aI).length (c.cc n.toNat) (a.f n.toNat).fr (fun _=>false)),bj (c.pp n.toNat) (c.cc n.toNat) 171 3 (Vm.runs (a.f n.toNat).aI).length (Vm.dD (Vm.runs (a.f n.toNat).aI)),.cells y.1 0 34 (Vm.bE b.bb y.2.2.1 (Vm.runs (a.f n.toNat).aI).length y.2.2.2.1 (a.f n.toNat).fr (fun _=>false)),bj y.2.2.1 y.2.2.2.1 171 3 (Vm.runs (a.f n.toNat).aI).length (Vm.dD (Vm.runs (a.f n.toNat).aI)),.cfam (eA (bD a) n.toNat) c.mb 34 (cN b.bb a.f c.pp c.cc),.fam (eA (bD a) n.toNat) (rN 171 a.f c.pp c.cc),.cells b.tb 0 321 (Tr.av y.2.2.2.2.2.2),.fam Tr.ai (Tr.FC.aJ 9 y.2.2.2.2.2.2),.fam Tr.ai (Tr.FC.aK 3 y.2.2.2.2.2.2),bk c.rp c.rc 3 c.rl,.cells b.pi 0 24 (Tr.aq a.P),.cells b.ob 0 122 (Tr.aD b.tb b.pi (yw (a.u n).fd a.O (0:Int).toNat)),.cfam (tH (bI a) (a.s.add a.dep (a.s.bZ n).1).1.toNat) (fun z=>((bJ c.t (a.s.add a.dep (a.s.bZ n).1).1.toNat y.2.2.2.2.2.1) z).b) 4 (cT b.tb (bJ c.t (a.s.add a.dep (a.s.bZ n).1).1.toNat y.2.2.2.2.2.1)),.fam (tH (bI a) (a.s.add a.dep (a.s.bZ n).1).1.toNat) (rT 168 (bJ c.t (a.s.add a.dep (a.s.bZ n).1).1.toNat y.2.2.2.2.2.1)),.cells y.2.1 0 22 (((kp a b c).dI n y.1).cell)]) ?_ ?_
      ·
       refine XC.gJ mixed (f:=23) (l:= #[false,false,false,false,false,false,false,false,false,false,false,false,false,false,false,false,false,false,false,false,false,false,false]) rfl rfl XM.ko ?_
       refine XQ.pv (i:=0) (l':= #[true,false,false,false,false,false,false,false,false,false,false,false,false,false,false,false,false,false,false,false,false,false,false]) rfl (by kernel_rfl) rfl (V.move rfl) rfl rfl ?_
       refine XQ.pv (i:=1) (l':= #[true,true,false,false,false,false,false,false,false,false,false,false,false,false,false,false,false,false,false,false,false,false,false]) rfl (by kernel_rfl) rfl (V.move rfl) rfl rfl ?_
       refine XQ.pv (i:=2) (l':= #[true,true,true,false,false,false,false,false,false,false,false,false,false,false,false,false,false,false,false,false,false,false,false]) rfl (by kernel_rfl) rfl (V.bL rfl) rfl rfl ?_
       refine XQ.pv (i:=3) (l':= #[true,true,true,true,false,false,false,false,false,false,false,false,false,false,false,false,false,false,false,false,false,false,false]) rfl (by kernel_rfl) rfl (V.fieldAddr rfl AN) rfl rfl ?_
       refine XQ.load (i:=4) (l':= #[true,true,true,true,true,false,false,false,false,false,false,false,false,false,false,false,false,false,false,false,false,false,false]) (.cells _ _ _ _) [22] rfl (by kernel_rfl) rfl (.t6 .here) (V.load rfl dJ (ah.kE _ (by omega)) iX) rfl (by kernel_rfl) rfl ?_
       refine XQ.pv (i:=5) (l':= #[true,true,true,true,true,true,false,false,false,false,false,false,false,false,false,false,false,false,false,false,false,false,false]) rfl (by kernel_rfl) rfl (V.move rfl) rfl rfl ?_
       refine XQ.pv (i:=6) (l':= #[true,true,true,true,true,true,true,false,false,false,false,false,false,false,false,false,false,false,false,false,false,false,false]) rfl (by kernel_rfl) rfl (V.bL rfl) rfl rfl ?_
       refine XQ.pv (i:=7) (l':= #[true,true,true,true,true,true,true,true,false,false,false,false,false,false,false,false,false,false,false,false,false,false,false]) rfl (by kernel_rfl) rfl (V.fieldAddr rfl Ai) rfl rfl ?_
       refine XQ.load (i:=8) (l':= #[true,true,true,true,true,true,true,true,true,false,false,false,false,false,false,false,false,false,false,false,false,false,false]) (.cells _ _ _ _) [9,17,22] rfl (by kernel_rfl) rfl (.t6 .here) (V.load rfl dJ (ah.oq _ (by omega) hmem) JN) rfl (by kernel_rfl) rfl ?_
       refine XQ.pv (i:=10) (l':= #[true,true,true,true,true,true,true,true,true,false,true,false,false,false,false,false,false,false,false,false,false,false,false]) rfl (by kernel_rfl) rfl (V.move rfl) rfl rfl ?_
       refine XQ.pv (i:=11) (l':= #[true,true,true,true,true,true,true,true,true,false,true,true,false,false,false,false,false,false,false,false,false,false,false]) rfl (by kernel_rfl) rfl (V.bL rfl) rfl rfl ?_
       refine XQ.pv (i:=12) (l':= #[true,true,true,true,true,true,true,true,true,false,true,true,true,false,false,false,false,false,false,false,false,false,false]) rfl (by kernel_rfl) rfl (V.fieldAddr rfl AU) rfl rfl ?_
       refine XQ.load (i:=13) (l':= #[true,true,true,true,true,true,true,true,true,false,true,true,true,true,false,false,false,false,false,false,false,false,false]) (.cells _ _ _ _) [22] rfl (by kernel_rfl) rfl (.t6 .here) (V.fW rfl dJ (ah.yQ _ (by omega)) Js Ak) rfl (by kernel_rfl) rfl ?_
       refine XQ.pv (i:=14) (l':= #[true,true,true,true,true,true,true,true,true,false,true,true,true,true,true,false,false,false,false,false,false,false,false]) rfl (by kernel_rfl) rfl (V.move rfl) rfl rfl ?_
       refine XQ.pv (i:=15) (l':= #[true,true,true,true,true,true,true,true,true,false,true,true,true,true,true,true,false,false,false,false,false,false,false]) rfl (by kernel_rfl) rfl (V.bL rfl) rfl rfl ?_
       refine XQ.pv (i:=16) (l':= #[true,true,true,true,true,true,true,true,true,false,true,true,true,true,true,true,true,false,false,false,false,false,false]) rfl (by kernel_rfl) rfl (V.fieldAddr rfl Bx) rfl rfl ?_
       refine XQ.fork (i:=9) (j:=21) (by kernel_rfl) ?_ ?_
       ·
        refine XS.call (i:=9) (l':= #[true,true,true,true,true,true,true,true,true,true,true,true,true,true,true,true,true,false,false,false,false,false,false]) rfl rfl rfl (Vm.vg b.bb b.vp _ a.v ho.wk.sys.acc.ok _ _ (a.f n.toNat) (ho.wk.sys.mo n.toNat (by omega))) (.cons (.t12 (.t2 .here)) (.cons (.t8 .here) (.cons (.t8 .here) .nil))) Am rfl (by rintro _ _ ⟨nb,p1,c1,rfl,rfl⟩;all_goals(intro _ hw';exact⟨fun _=>dm (.t11 .here) _ hw',fun hs=>(hs 9 (by first | (simp;done) | (simp;rfl)) rfl).elim,fun _=>dm (.t11 .here) _ hw',trivial⟩)) ?_
        rintro _ _ ⟨nb,p1,c1,rfl,rfl⟩
        refine XQ.fork (i:=17) (j:=21) (by kernel_rfl) ?_ ?_
        ·
         refine XS.call (i:=17) (l':= #[true,true,true,true,true,true,true,true,true,true,true,true,true,true,true,true,true,true,false,false,false,false,false]) rfl rfl rfl (lU b.kb ({kp a b c with ms:=aa (kp a b c).ms (a.s.add a.dep (a.s.bZ n).1).1 (ptr bt2 0 0)} :KP) n hlr) (.cons (.t11 .here) .nil) tA rfl (by rintro _ _ ⟨bc,rfl,rfl⟩;all_goals(intro _ hw';exact⟨fun _=>dm (.there .here) _ hw',fun hs=>(hs 9 (by first | (simp;done) | (simp;rfl)) rfl).elim,fun _=>dm (.there .here) _ hw',trivial⟩)) ?_
         rintro _ _ ⟨bc,rfl,rfl⟩
         refine XQ.pv (i:=18) (l':= #[true,true,true,true,true,true,true,true,true,true,true,true,true,true,true,true,true,true,true,false,false,false,false]) rfl (by kernel_rfl) rfl (V.bL rfl) rfl rfl ?_
         refine XQ.load (i:=19) (l':= #[true,true,true,true,true,true,true,true,true,true,true,true,true,true,true,true,true,true,true,true,false,false,false]) (.cells _ _ _ _) [22] rfl (by kernel_rfl) rfl .here (V.fW rfl dJ (Sg.gx _) tm jG) rfl (by kernel_rfl) rfl ?_
         refine XQ.pv (i:=20) (l':= #[true,true,true,true,true,true,true,true,true,true,true,true,true,true,true,true,true,true,true,true,true,false,false]) rfl (by kernel_rfl) rfl (V.build (vs:= #[(0,.int .i64 1),(1,.int .i64 n),(2,.int .i64 (a.u n).grp),(4,ptr nb 0 0),(5,.agg (Dz (a.u n).fd)),(6,.agg (Is (a.u n).bx.child))]) rfl (v:=.agg ((kp a b c).dI n nb).arr) (iF n _ nb _ _)) rfl rfl ?_
         refine XQ.cY (i:=21) (l':= #[true,true,true,true,true,true,true,true,true,true,true,true,true,true,true,true,true,true,true,true,true,true,false]) (z:=(.agg PU.nil.arr)) (m:=22) (C:=PU.nil.cell) rfl (by kernel_rfl) rfl (by kernel_rfl) rfl (PU.box PU.nil) rfl (fun _ _ hw'=>⟨fun _=>dm (.there .here) _ hw',fun _=>dm (.t2 .here) _ hw',fun hs=>(hs 9 (by first | (simp;done) | (simp;rfl)) rfl).elim,fun _=>dm (.t2 .here) _ hw',trivial⟩) ?_
         intro ba
         refine XQ.eX (i:=22) (l':= #[true,true,true,true,true,true,true,true,true,true,true,true,true,true,true,true,true,true,true,true,true,true,true]) rfl (by kernel_rfl) rfl rfl rfl .here (PU.rE _ _) ⟨rfl,rfl⟩ jI (fun _ hw'=>⟨fun hs=>(hs 22 (by first | (simp;done) | (simp;rfl)) rfl).elim,fun hs=>(hs 22 (by first | (simp;done) | (simp;rfl)) rfl).elim,fun hs=>(hs 9 (by first | (simp;done) | (simp;rfl)) rfl).elim,fun hs=>(hs 22 (by first | (simp;done) | (simp;rfl)) rfl).elim,trivial⟩) ?_
         refine XQ.done (by kernel_rfl) ?_
         refine gE ?_
         refine Br ((nb,ba,p1,c1,0,⟨bt2,(c.t (a.s.bZ n).1.toNat).r,(c.t (a.s.bZ n).1.toNat).l,p2,cap2,k2,c2,C2⟩,F1)) ?_ (S5 rfl rfl rfl rfl rfl) (fun _ hw=>XM.pick (.cons (.t2 .here) (.cons (.t12 (.there .here)) (.cons (.t7 .here) (.cons (.t12 (.t2 .here)) (.cons (.t12 (.t2 .here)) (.cons (.t2 .here) (.cons (.t12 (.there .here)) (.cons (.t2 .here) (.cons (.t2 .here) (.cons (.t2 .here) (.cons (.t2 .here) (.cons (.t7 .here) (.cons (.t7 .here) (.cons (.t4 .here) (.cons (.t4 .here) (.cons (.t4 .here) (.cons (.t4 .here) (.cons (.t4 .here) (.cons (.t4 .here) (.cons (.t2 .here) (.cons (.t2 .here) .h1))))))))))))))))))))) hw)
         exact⟨hO1,hp1,hr1,(by show F1.toFF.roots=_;rw[hF1,kA]),⟨hv2,hC2,htb.len⟩⟩
        ·
         refine XS.cY (i:=21) (l':= #[true,true,true,true,true,true,true,true,true,true,true,true,true,true,true,true,true,false,false,false,false,true,false]) (z:=(.agg PU.nil.arr)) (m:=22) (C:=PU.nil.cell) rfl rfl (by kernel_rfl) rfl (PU.box PU.nil) rfl (fun _ _ hw'=>⟨fun _=>dm (.t12 .here) _ hw',fun hs=>(hs 9 (by first | (simp;done) | (simp;rfl)) rfl).elim,fun _=>dm (.t12 .here) _ hw',trivial⟩) ?_
         intro ba
         refine XQ.call (i:=17) (l':= #[true,true,true,true,true,true,true,true,true,true,true,true,true,true,true,true,true,true,false,false,false,true,false]) rfl (by kernel_rfl) rfl rfl (lU b.kb ({kp a b c with ms:=aa (kp a b c).ms (a.s.add a.dep (a.s.bZ n).1).1 (ptr bt2 0 0)} :KP) n hlr) (.cons (.t12 .here) .nil) tA rfl (by rintro _ _ ⟨bc,rfl,rfl⟩;all_goals(intro _ hw';exact⟨fun _=>dm (.there .here) _ hw',fun hs=>(hs 9 (by first | (simp;done) | (simp;rfl)) rfl).elim,fun _=>dm (.there .here) _ hw',trivial⟩)) ?_
         rintro _ _ ⟨bc,rfl,rfl⟩
         refine XQ.pv (i:=18) (l':= #[true,true,true,true,true,true,true,true,true,true,true,true,true,true,true,true,true,true,true,false,false,true,false]) rfl (by kernel_rfl) rfl (V.bL rfl) rfl rfl ?_
         refine XQ.load (i:=19) (l':= #[true,true,true,true,true,true,true,true,true,true,true,true,true,true,true,true,true,true,true,true,false,true,false]) (.cells _ _ _ _) [22] rfl (by kernel_rfl) rfl .here (V.fW rfl dJ (Sg.gx _) tm jG) rfl (by kernel_rfl) rfl ?_
         refine XQ.pv (i:=20) (l':= #[true,true,true,true,true,true,true,true,true,true,true,true,true,true,true,true,true,true,true,true,true,true,false]) rfl (by kernel_rfl) rfl (V.build (vs:= #[(0,.int .i64 1),(1,.int .i64 n),(2,.int .i64 (a.u n).grp),(4,ptr nb 0 0),(5,.agg (Dz (a.u n).fd)),(6,.agg (Is (a.u n).bx.child))]) rfl (v:=.agg ((kp a b c).dI n nb).arr) (iF n _ nb _ _)) rfl rfl ?_
         refine XQ.eX (i:=22) (l':= #[true,true,true,true,true,true,true,true,true,true,true,true,true,true,true,true,true,true,true,true,true,true,true]) rfl (by kernel_rfl) rfl rfl rfl (.t2 .here) (PU.rE _ _) ⟨rfl,rfl⟩ jI (fun _ hw'=>⟨fun hs=>(hs 22 (by first | (simp;done) | (simp;rfl)) rfl).elim,fun hs=>(hs 22 (by first | (simp;done) | (simp;rfl)) rfl).elim,fun hs=>(hs 9 (by first | (simp;done) | (simp;rfl)) rfl).elim,fun hs=>(hs 22 (by first | (simp;done) | (simp;rfl)) rfl).elim,trivial⟩) ?_
         refine XQ.done (by kernel_rfl) ?_
         refine gE ?_
         refine Br ((nb,ba,p1,c1,0,⟨bt2,(c.t (a.s.bZ n).1.toNat).r,(c.t (a.s.bZ n).1.toNat).l,p2,cap2,k2,c2,C2⟩,F1)) ?_ (S5 rfl rfl rfl rfl rfl) (fun _ hw=>XM.pick (.cons (.there .here) (.cons (.t12 (.there .here)) (.cons (.t7 .here) (.cons (.t12 (.t2 .here)) (.cons (.t12 (.t2 .here)) (.cons (.t2 .here) (.cons (.t12 (.there .here)) (.cons (.t2 .here) (.cons (.t2 .here) (.cons (.t2 .here) (.cons (.t2 .here) (.cons (.t7 .here) (.cons (.t7 .here) (.cons (.t4 .here) (.cons (.t4 .here) (.cons (.t4 .here) (.cons (.t4 .here) (.cons (.t4 .here) (.cons (.t4 .here) (.cons (.t2 .here) (.cons (.t2 .here) (.cons (.there .here) .nil)))))))))))))))))))))) hw)
         exact⟨hO1,hp1,hr1,(by show F1.toFF.roots=_;rw[hF1,kA]),⟨hv2,hC2,htb.len⟩⟩
       ·
        refine XS.cY (i:=21) (l':= #[true,true,true,true,true,true,true,true,true,false,true,true,true,true,true,true,true,false,false,false,false,true,false]) (z:=(.agg PU.nil.arr)) (m:=22) (C:=PU.nil.cell) rfl rfl (by kernel_rfl) rfl (PU.box PU.nil) rfl (fun _ _ hw'=>⟨fun _=>dm (.t7 .here) _ hw',fun _=>dm (.t7 .here) _ hw',fun _=>dm (.t7 .here) _ hw',trivial⟩) ?_
        intro ba
        refine XQ.call (i:=9) (l':= #[true,true,true,true,true,true,true,true,true,true,true,true,true,true,true,true,true,false,false,false,false,true,false]) rfl (by kernel_rfl) rfl rfl (Vm.vg b.bb b.vp _ a.v ho.wk.sys.acc.ok _ _ (a.f n.toNat) (ho.wk.sys.mo n.toNat (by omega))) (.cons (.t12 (.t3 .here)) (.cons (.t9 .here) (.cons (.t9 .here) .nil))) Am rfl (by rintro _ _ ⟨nb,p1,c1,rfl,rfl⟩;all_goals(intro _ hw';exact⟨fun _=>dm (.t12 .here) _ hw',fun hs=>(hs 9 (by first | (simp;done) | (simp;rfl)) rfl).elim,fun _=>dm (.t12 .here) _ hw',trivial⟩)) ?_
        rintro _ _ ⟨nb,p1,c1,rfl,rfl⟩
        refine XQ.call (i:=17) (l':= #[true,true,true,true,true,true,true,true,true,true,true,true,true,true,true,true,true,true,false,false,false,true,false]) rfl (by kernel_rfl) rfl rfl (lU b.kb ({kp a b c with ms:=aa (kp a b c).ms (a.s.add a.dep (a.s.bZ n).1).1 (ptr bt2 0 0)} :KP) n hlr) (.cons (.t12 .here) .nil) tA rfl (by rintro _ _ ⟨bc,rfl,rfl⟩;all_goals(intro _ hw';exact⟨fun _=>dm (.there .here) _ hw',fun hs=>(hs 9 (by first | (simp;done) | (simp;rfl)) rfl).elim,fun _=>dm (.there .here) _ hw',trivial⟩)) ?_
        rintro _ _ ⟨bc,rfl,rfl⟩
        refine XQ.pv (i:=18) (l':= #[true,true,true,true,true,true,true,true,true,true,true,true,true,true,true,true,true,true,true,false,false,true,false]) rfl (by kernel_rfl) rfl (V.bL rfl) rfl rfl ?_
        refine XQ.load (i:=19) (l':= #[true,true,true,true,true,true,true,true,true,true,true,true,true,true,true,true,true,true,true,true,false,true,false]) (.cells _ _ _ _) [22] rfl (by kernel_rfl) rfl .here (V.fW rfl dJ (Sg.gx _) tm jG) rfl (by kernel_rfl) rfl ?_
        refine XQ.pv (i:=20) (l':= #[true,true,true,true,true,true,true,true,true,true,true,true,true,true,true,true,true,true,true,true,true,true,false]) rfl (by kernel_rfl) rfl (V.build (vs:= #[(0,.int .i64 1),(1,.int .i64 n),(2,.int .i64 (a.u n).grp),(4,ptr nb 0 0),(5,.agg (Dz (a.u n).fd)),(6,.agg (Is (a.u n).bx.child))]) rfl (v:=.agg ((kp a b c).dI n nb).arr) (iF n _ nb _ _)) rfl rfl ?_
        refine XQ.eX (i:=22) (l':= #[true,true,true,true,true,true,true,true,true,true,true,true,true,true,true,true,true,true,true,true,true,true,true]) rfl (by kernel_rfl) rfl rfl rfl (.t7 .here) (PU.rE _ _) ⟨rfl,rfl⟩ jI (fun _ hw'=>⟨fun hs=>(hs 22 (by first | (simp;done) | (simp;rfl)) rfl).elim,fun hs=>(hs 22 (by first | (simp;done) | (simp;rfl)) rfl).elim,fun hs=>(hs 9 (by first | (simp;done) | (simp;rfl)) rfl).elim,fun hs=>(hs 22 (by first | (simp;done) | (simp;rfl)) rfl).elim,trivial⟩) ?_
        refine XQ.done (by kernel_rfl) ?_
        refine gE ?_
        refine Br ((nb,ba,p1,c1,0,⟨bt2,(c.t (a.s.bZ n).1.toNat).r,(c.t (a.s.bZ n).1.toNat).l,p2,cap2,k2,c2,C2⟩,F1)) ?_ (S5 rfl rfl rfl rfl rfl) (fun _ hw=>XM.pick (.cons (.there .here) (.cons (.t12 (.there .here)) (.cons (.t7 .here) (.cons (.t12 (.t2 .here)) (.cons (.t12 (.t2 .here)) (.cons (.there .here) (.cons (.t12 (.there .here)) (.cons (.there .here) (.cons (.there .here) (.cons (.there .here) (.cons (.there .here) (.cons (.t7 .here) (.cons (.t7 .here) (.cons (.t4 .here) (.cons (.t4 .here) (.cons (.t4 .here) (.cons (.t4 .here) (.cons (.t4 .here) (.cons (.t4 .here) (.cons (.t2 .here) (.cons (.t2 .here) (.cons (.there .here) .nil)))))))))))))))))))))) hw)
        exact⟨hO1,hp1,hr1,(by show F1.toFF.roots=_;rw[hF1,kA]),⟨hv2,hC2,htb.len⟩⟩
      intro y hy
      refine gC ?_
      refine nc (.t12 (.t9 .here)) (PU.fds _) ?_
      refine lp (σ:=Int) (fun i=>(6-i).toNat) (fun i=>0≤i∧i≤6) (fun i=>[(133,.int .i64 i),(0,ptr b.kb 0 0),(8,ptr b.kb 0 (0+0+n.toNat*22)),(10,.int .i64 ch),(12,.int .i64 (a.s.bZ n).1),(14,ptr y.2.1 0 0),(132,.agg (Dz (a.u n).fd))]) (fun i=>XM W (bS [.cells b.kb 0 453 (ah (kp a b c)),.cells b.gb 0 60 (Gr.ay a.g),.cells b.sb 0 158 (Sp.aA a.s),.cells b.qb 0 2281 (Fa.ao c.q),.fam Fa.aL (Fa.SC.rows 254 c.q),.cells b.bb 0 577 (Vm.bu b.vp a.v.by_ a.v.rf),.cells b.vp 0 71 (Vm.aq a.v.bb.bA),.cfam (bD a) c.mb 34 (cN b.bb a.f c.pp c.cc),.fam (bD a) (rN 171 a.f c.pp c.cc),.cells b.tb 0 321 (Tr.av c.F),.fam Tr.ai (Tr.FC.aJ 9 c.F),.fam Tr.ai (Tr.FC.aK 3 c.F),bk c.rp c.rc 3 c.rl,.cells b.pi 0 24 (Tr.aq a.P),.cells b.ob 0 122 (Tr.aD b.tb b.pi a.O),.cfam (bI a) (fun z=>(c.t z).b) 4 (cT b.tb c.t),.fam (bI a) (rT 168 c.t)]) [.cells b.kb 0 453 (ah ({kp a b c with ms:=aa (kp a b c).ms (a.s.add a.dep (a.s.bZ n).1).1 (ptr y.2.2.2.2.2.1.b 0 0)} :KP)),.cells b.gb 0 60 (Gr.ay (a.gC n)),.cells b.sb 0 158 (Sp.aA ((a.s.add a.dep (a.s.bZ n).1).2.2.enter (a.dA n true) (a.s.add a.dep (a.s.bZ n).1).1 ch).2.2),.cells b.qb 0 2281 (Fa.ao c.q),.fam Fa.aL (Fa.SC.rows 254 c.q),.cells b.bb 0 577 (Vm.bu b.vp (a.v.fork (a.f n.toNat)).by_ (a.v.fork (a.f n.toNat)).rf),.cells b.vp 0 71 (Vm.aq (a.v.fork (a.f n.toNat)).bb.bA),.cells (c.mb n.toNat) 0 34 (Vm.bE b.bb (c.pp n.toNat) (Vm.runs (a.f n.toNat).aI).length (c.cc n.toNat) (a.f n.toNat).fr (fun _=>false)),bj (c.pp n.toNat) (c.cc n.toNat) 171 3 (Vm.runs (a.f n.toNat).aI).length (Vm.dD (Vm.runs (a.f n.toNat).aI)),.cells y.1 0 34 (Vm.bE b.bb y.2.2.1 (Vm.runs (a.f n.toNat).aI).length y.2.2.2.1 (a.f n.toNat).fr (fun _=>false)),bj y.2.2.1 y.2.2.2.1 171 3 (Vm.runs (a.f n.toNat).aI).length (Vm.dD (Vm.runs (a.f n.toNat).aI)),.cfam (eA (bD a) n.toNat) c.mb 34 (cN b.bb a.f c.pp c.cc),.fam (eA (bD a) n.toNat) (rN 171 a.f c.pp c.cc),.cells b.tb 0 321 (Tr.av y.2.2.2.2.2.2),.fam Tr.ai (Tr.FC.aJ 9 y.2.2.2.2.2.2),.fam Tr.ai (Tr.FC.aK 3 y.2.2.2.2.2.2),bk c.rp c.rc 3 c.rl,.cells b.pi 0 24 (Tr.aq a.P),.cells b.ob 0 122 (Tr.aD b.tb b.pi (yw (a.u n).fd a.O i.toNat)),.cfam (tH (bI a) (a.s.add a.dep (a.s.bZ n).1).1.toNat) (fun z=>((bJ c.t (a.s.add a.dep (a.s.bZ n).1).1.toNat y.2.2.2.2.2.1) z).b) 4 (cT b.tb (bJ c.t (a.s.add a.dep (a.s.bZ n).1).1.toNat y.2.2.2.2.2.1)),.fam (tH (bI a) (a.s.add a.dep (a.s.bZ n).1).1.toNat) (rT 168 (bJ c.t (a.s.add a.dep (a.s.bZ n).1).1.toNat y.2.2.2.2.2.1)),.cells y.2.1 0 22 (((kp a b c).dI n y.1).cell)]) (0) ?_ (.cons rfl (S6 rfl rfl rfl rfl rfl rfl)) (fun _ hw=>XM.pick .JT hw) ?_
      ·
       omega
      intro i hi
      have hfdi:=ho.wk.fd n i
      refine gC ?_
      refine cd rfl ?_ ?_<;>intro h5
      ·
       refine XO.v (V.iG rfl rfl Tryz.underlying83 js iX (by omega)) rfl (gO ?_)
       refine cd rfl ?_ ?_<;>intro h6
       ·
        have h26:(a.u n).fd i>0:=h6
        refine ld .here (ah.CG _) ?_
        refine sd (by omega) ?_
        refine ca (Tr.z6 _ _ _ _ _ (T+6) (by omega) ((qs (f:=(a.u n).fd) ho.wk.OI i.toNat).mono (by omega)) _) (.cons (.t12 (.t6 .here)) .nil) ?_
        rintro _ _ ⟨rfl,rfl⟩
        refine gO ?_
        refine sd (by omega) ?_
        refine ag (i+1) ?_ ?_ (.cons rfl (S6 rfl rfl rfl rfl rfl rfl)) (fun _ hw2=>by rw[Bh _ hi.1 h26];exact XM.pick (.cons (.there .here) (.cons (.there .here) (.cons (.there .here) (.cons (.there .here) (.cons (.there .here) (.cons (.there .here) (.cons (.there .here) (.cons (.there .here) (.cons (.there .here) (.cons (.there .here) (.cons (.there .here) (.cons (.there .here) (.cons (.there .here) (.cons (.there .here) (.cons (.there .here) (.cons (.there .here) (.cons (.there .here) (.cons (.there .here) .h4)))))))))))))))))) hw2)
        ·
         (first | omega | (simp;done) | (simp;omega))
        ·
         (first | omega | (simp;done) | (simp;omega))
       ·
        have h26:¬(a.u n).fd i>0:=h6
        refine sd (by omega) ?_
        refine ag (i+1) ?_ ?_ (.cons rfl (S6 rfl rfl rfl rfl rfl rfl)) (fun _ hw2=>by rw[wZ _ hi.1 h26];exact XM.pick .JT hw2)
        ·
         (first | omega | (simp;done) | (simp;omega))
        ·
         (first | omega | (simp;done) | (simp;omega))
      ·
       refine rq [0,1,2,3,4,5,6] mixed (by kernel_rfl) ?_
       refine nc (.t12 (.t9 .here)) (PU.agg _) ?_
       refine sd (by omega) ?_
       refine jA .here (ah.rE _ (by omega) _) rfl ⟨rfl,rfl⟩ ?_
       refine rq [0,1,2,3,4,5,6,7,8,9] mixed (by kernel_rfl) ?_
       refine ld .here (ah.yr _) ?_
       refine ld .here (ah.kE _ (by omega)) ?_
       refine ca (Fa.oP _ _ c.q c.d hc.qO.inv hc.qR ch _ 100) (.cons (.t3 .here) (.cons (.t3 .here) .nil)) ?_
       rintro _ _ ⟨rfl,q1,hq1,hr1,rfl⟩
       obtain⟨d1,hok1⟩:∃ d1,q1.toSF.Ok d1 (N+1) N:=by rw[hq1];exact hc.qO.mV (by omega) _ _ _
       refine gO ?_
       refine ld (.t2 .here) (ah.yr _) ?_
       refine ca (Fa.zj _ _ q1 d1 hok1.inv hr1 ch true) .h2 ?_
       rintro _ _ ⟨rfl,q2,hq2,hr2,rfl⟩
       have hok2:q2.toSF.Ok d1 (N+1) N:=by rw[hq2];exact hok1.ei _ _
       refine gO ?_
       refine ld (.t2 .here) (ah.mT _) ?_
       refine ca (Sp.xv _ _ ((a.s.add a.dep (a.s.bZ n).1).2.2.enter (a.dA n true) (a.s.add a.dep (a.s.bZ n).1).1 ch).2.2 _ _) (.cons (.t4 .here) .nil) ?_
       rintro _ _ ⟨rfl,rfl⟩
       refine gO ?_
       refine XR.mono (fun _ hw3=>XM.zZ (f:=a.f) (a.f n.toNat).bare (jx hlr (by omega)) (.cons (.t7 .here) (.cons (.t7 .here) (.cons (.t9 .here) (.cons (.t9 .here) .nil)))) hw3) ?_
       refine XR.mono (fun _ hw3=>XM.Ip (a.f n.toNat).bare (Gu ⟨hch.1.1,by omega⟩ hc0) (.cons (.t9 .here) (.cons (.t9 .here) .h2)) hw3) ?_
       refine XE.bC rfl rfl rfl (ab (.cons (.t5 .here) (.cons (.t5 .here) (.cons (.t2 .here) (.cons (.t2 .here) (.cons (.t2 .here) (.cons (.t2 .here) (.cons (.t2 .here) .Dw))))))) rfl ?_)
       try dsimp only[SW.den,SV.den,aj,aZ]
       have hi6:i=6:=by omega
       subst hi6
       have hfc:a.free=ch:=KA.iZ ⟨hch.1.1,by omega⟩ hc0 hch.2
       subst hfc
       have hg0:a.gE n=0:=hge0
       have e1:a.eH n true=0:=by unfold KA.eH;rw[if_neg (by omega),if_neg (by omega),if_neg (by omega)];exact hin
       have e2:a.fu n true=((a.cS n true).s.pid a.free (a.sz n)).1:=by unfold KA.fu;rw[if_pos e1]
       have e3:a.bK n true=a.cS n true:=by unfold KA.bK;rw[if_neg (by omega),if_neg (by exact fun q=>q hin)]
       have e4:((a.cS n true).s.pid a.free (a.sz n)).2=0:=hI.pid.1
       have hc2:dq (a.cS n true) {c with mb:=bJ c.mb a.free.toNat y.1,pp:=bJ (bJ c.pp n.toNat (c.pp n.toNat)) a.free.toNat y.2.2.1,cc:=bJ (bJ c.cc n.toNat (c.cc n.toNat)) a.free.toNat y.2.2.2.1,q:=q2,d:=d1,F:=y.2.2.2.2.2.2,t:=bJ c.t (a.s.add a.dep (a.s.bZ n).1).1.toNat y.2.2.2.2.2.1} (N+1) (T+20):=by
        refine⟨hok2.mono (Nat.le_refl _) (by omega),hr2,FF.Ok.up hy.1 (by omega),hy.2.1.trans hc.rp,hy.2.2.1.trans hc.rc,hy.2.2.2.1.trans hc.rl,fun z h0 h1 h2=> ?_⟩
        by_cases ez:z.toNat=(a.s.add a.dep (a.s.bZ n).1).1.toNat
        ·show(bJ c.t _ y.2.2.2.2.2.1 z.toNat).Ok
         rw[ez,da];exact hy.2.2.2.2
        ·show(bJ c.t _ y.2.2.2.2.2.1 z.toNat).Ok
         rw[cV _ _ ez]
         refine hc.tb z h0 h1 ?_
         rw[hI.qV]at h2
         have h2:(a.s.add a.dep (a.s.bZ n).1).2.2.here z=true:=h2
         rw[(SS.uS hin).2.2,ad _ _ (by omega)]at h2
         exact h2
       rw[e1,e2,e3]
       refine⟨?_,_,hc2,?_⟩
       ·rw[←e4];rfl
       ·rw[A9 (c':= {c with mb:=bJ c.mb a.free.toNat y.1,pp:=bJ (bJ c.pp n.toNat (c.pp n.toNat)) a.free.toNat y.2.2.1,cc:=bJ (bJ c.cc n.toNat (c.cc n.toNat)) a.free.toNat y.2.2.2.1,q:=q2,d:=d1,F:=y.2.2.2.2.2.2,t:=bJ c.t (a.s.add a.dep (a.s.bZ n).1).1.toNat y.2.2.2.2.2.1}) (K:=({kp a b c with ms:=aa (kp a b c).ms (a.s.add a.dep (a.s.bZ n).1).1 (ptr y.2.2.2.2.2.1.b 0 0)} :KP)) ho.wk hI rfl rfl ⟨⟨rfl,rfl,rfl,rfl⟩,rfl,rfl,rfl⟩ (B0 hI hin (SS.Inv.ep ho.wk.sI ho.r0.loc) c _ rfl),xy hI,CP hI hin]
        all_goals rfl
  ·
   refine Ju rfl (by omega) ?_
   refine XE.bC rfl rfl rfl (ab .gq rfl ?_)
   try dsimp only[SW.den,SV.den,aj,aZ]
   have hfc:a.free=20:=KA.Ay (fun j j0 j1=>hch.2 j j0 (by omega))
   have e1:a.eH n true=4:=by unfold KA.eH;rw[if_neg (by omega),if_pos hfc]
   have e2:a.fu n true=0:=by unfold KA.fu;rw[if_neg (by omega)]
   have e3:a.bK n true=a:=by unfold KA.bK;rw[if_pos (by omega)]
   rw[e1,e2,e3];exact⟨rfl,c,hc.up (by omega) (by omega),rfl⟩
 ·
  try dsimp only[aC,aS,aM,aR,aN,aP,aQ,aU,aO,aT,aG,aH,aB,aF]
  have hl:a.live n≠0:=hl
  have hlk:(kp a b c).live n=a.live n:=rfl
  rw[hlk]
  refine gO ?_
  refine XE.bC rfl rfl rfl (ab .gq rfl ?_)
  try dsimp only[SW.den,SV.den,aj,aZ]
  have e1:a.eH n true=a.live n:=by unfold KA.eH;rw[if_pos hl]
  have e2:a.fu n true=0:=by unfold KA.fu;rw[if_neg (by omega)]
  have e3:a.bK n true=a:=by unfold KA.bK;rw[if_pos (by omega)]
  rw[e1,e2,e3,aW _ hl];exact⟨rfl,c,hc.up (by omega) (by omega),rfl⟩
end Go.X.Kn

namespace Go.X.Kn
open Go Go.Proofs Go.X
set_option maxRecDepth 20000
set_option maxHeartbeats 4000000
theorem lq(z:Int):∀ w,(Instr.buildSlice 55 1 #[(0,.int .i64 z)]).run Tryz.prog w= .ok (.slice (some ⟨w.heap.size,0,none⟩) 1 1) (w.alloc (.cells #[.int .i64 z] 3)):=fun w=>by kernel_rfl
theorem jl:kV Tryz.prog 3 1=true:=by kernel_rfl
theorem oH(e:Int):Spec Tryz.prog 19 [.iface 102 (.int .i64 e)] [] (fun v H1=>v= .int .i64 e∧H1=[]):=by
 refine Spec.go 15 [0,2,3,4,6,13] [] Tryz.func19 rfl rfl rfl ?_
 intro W
 refine XO.v (V.GO rfl Tryz.underlying102 (by simp)) rfl (gO ?_)
 refine XE.aV rfl rfl (ab .nil rfl ?_)
 try dsimp only[SW.den,SV.den,aj,aZ]
 exact⟨rfl,rfl⟩
theorem HV(kb:Nat)(k:KP)(q:Fa.SC)(hq:q.toSF=Q2)(hR:q.jy):Spec Tryz.prog 46 [ptr kb 0 0] [.cells kb 0 453 (ah k),.cells k.qb 0 2281 (Fa.ao q),.fam Fa.aL (Fa.SC.rows 254 q)] (fun v H1=>v= .int .i64 0∧∃ t:Fa.SC,t.toSF=(Q2.tick dK).2∧t.jy∧H1=[.cells kb 0 453 (ah k),.cells k.qb 0 2281 (Fa.ao t),.fam Fa.aL (Fa.SC.rows 254 t)]):=by
 refine Spec.go 8 [0,2] [] Tryz.func46 rfl rfl rfl ?_
 intro W
 refine ld .here (ah.yr _) ?_
 refine ca (Fa.Ky _ _ q dK (by rw[hq];exact r6.inv) hR (fun n a b=>Nat.le_trans (r6.dep n a b) (by omega)) (2000000000*0) (by omega) (by rw[hq];exact r6.small) (by show 0≤q.toSF.now∧q.toSF.now≤2000000000*0;rw[hq];exact r6.now) (by rw[hq];exact(r6.jV (by omega)).set)) (.cons (.there .here) (.cons (.there .here) .nil)) ?_
 rintro _ _ ⟨rfl,t,ht,hr,rfl⟩
 rw[hq,Ix]
 rw[hq]at ht
 refine gO ?_
 refine XE.aV rfl rfl (ab (.cons (.t2 .here) .h2) rfl ?_)
 try dsimp only[SW.den,SV.den,aj,aZ]
 exact⟨rfl,t,ht,hr,rfl⟩
theorem IW(kb:Nat)(k:KP):Spec Tryz.prog 27 [ptr kb 0 0] [.cells kb 0 453 (ah k)] (fun v H1=>∃ p cap,v= .slice p (Vm.fg (fun n=>decide ((k.u n).st=1)) 20).length cap∧H1=[bk p cap 3 (Vm.fg (fun n=>decide ((k.u n).st=1)) 20),.cells kb 0 453 (ah k)]):=by
 refine Spec.go 22 [0,2,3,4,5,6,15] [] Tryz.func27 rfl rfl rfl ?_
 intro W
 refine XR.dH 3 1 ?_
 refine lp (σ:=Int×List Int×Option Addr×Nat) (fun x=>(20-x.1).toNat) (fun x=>(0≤x.1∧x.1≤20)∧x.2.1=Vm.fg (fun n=>decide ((k.u n).st=1)) x.1.toNat) (fun x=>[(3,.slice x.2.2.1 x.2.1.length x.2.2.2),(5,.int .i64 x.1),(0,ptr kb 0 0)]) (fun x=>XM W (bS [.cells kb 0 453 (ah k)]) [bk x.2.2.1 x.2.2.2 3 x.2.1,.cells kb 0 453 (ah k)]) ((0,[],none,0)) ?_ (S3 rfl rfl rfl) (fun _ hw=>XM.pick .h2 hw) ?_
 ·
  exact⟨by simp,rfl⟩
 intro x hx
 obtain⟨hx,hL⟩:=hx
 have hlen:=Vm.fS (fun n=>decide ((k.u n).st=1)) x.1.toNat
 rw[←hL]at hlen
 have hnx:=Vm.oJ (fun n=>decide ((k.u n).st=1)) hx.1
 refine gC ?_
 refine cd rfl ?_ ?_<;>intro h1
 ·
  refine sd (by omega) ?_
  refine ld (.there .here) (ah.ot _ (by omega)) ?_
  refine cd rfl ?_ ?_<;>intro h2
  ·
   have h52:=h2
   refine XO.buildSlice (A:= #[.int .i64 _]) (vs:= #[(0,.int .i64 _)]) rfl (lq _) rfl rfl ?_
   intro h3
   refine gO ?_
   refine XO.kr (e:=3) rfl rfl Tryz.underlying55 jl (.there .here) .here (by omega) rfl ?_
   intro h4 h5
   refine gO ?_
   refine sd (by omega) ?_
   refine ag ((x.1+1,x.2.1++[x.1],_,_)) ?_ ?_ (S3 rfl rfl rfl) (fun _ hw=>XM.pick (.cons .here (.cons (.there .here) .nil)) hw)
   ·
    (show(20-(x.1+1)).toNat<(20-x.1).toNat;omega)
   ·
    exact⟨(by show 0≤x.1+1∧x.1+1≤20;omega),(by show x.2.1++[x.1]=_;rw[hL];exact(hnx.1 (by simpa using h52)).symm)⟩
  ·
   have h52:=h2
   refine sd (by omega) ?_
   refine ag ((x.1+1,x.2.1,_,_)) ?_ ?_ (S3 rfl rfl rfl) (fun _ hw=>XM.pick .h2 hw)
   ·
    (show(20-(x.1+1)).toNat<(20-x.1).toNat;omega)
   ·
    exact⟨(by show 0≤x.1+1∧x.1+1≤20;omega),(by show x.2.1=_;rw[hL];exact(hnx.2 (by simpa using h52)).symm)⟩
 ·
  refine XE.aV rfl rfl (ab .h2 rfl ?_)
  try dsimp only[SW.den,SV.den,aj,aZ]
  have hx21:x.1=20:=by omega
  rw[hx21]at hL
  exact⟨_,_,by rw[hL];rfl,by rw[hL];rfl⟩
theorem ym{k:KP}{mb:Nat}(h:Jp k mb):Vm.fg (fun n=>decide ((k.u n).st=1)) 20=[0]:=by
 have e:(fun n=>decide ((k.u n).st=1))=fun n=>decide (n=0):=by
  funext n
  rw[h.u]
  by_cases c:n=0
  ·subst c;rw[ae];rfl
  ·rw[ad _ _ c,decide_eq_false c];rfl
 rw[e];decide
end Go.X.Kn

namespace Go.X.Kn
open Go Go.Proofs Go.X
set_option maxRecDepth 20000
set_option maxHeartbeats 4000000
theorem wJ:Spec Tryz.prog 12 [] [] (fun x H1=>∃ (b:KZ) (c:KC),x= .tuple #[ptr b.kb 0 0,.bool true]∧c.q.toSF=(Q2.tick dK).2∧c.d=dK∧dq A0 c 1 2∧H1=[.cells b.kb 0 453 (ah (kp A0 b c)),.cells b.gb 0 60 (Gr.ay A0.g),.cells b.sb 0 158 (Sp.aA A0.s),.cells b.qb 0 2281 (Fa.ao c.q),.fam Fa.aL (Fa.SC.rows 254 c.q),.cells b.bb 0 577 (Vm.bu b.vp A0.v.by_ A0.v.rf),.cells b.vp 0 71 (Vm.aq A0.v.bb.bA),.cfam (bD A0) c.mb 34 (cN b.bb A0.f c.pp c.cc),.fam (bD A0) (rN 171 A0.f c.pp c.cc),.cells b.tb 0 321 (Tr.av c.F),.fam Tr.ai (Tr.FC.aJ 9 c.F),.fam Tr.ai (Tr.FC.aK 3 c.F),bk c.rp c.rc 3 c.rl,.cells b.pi 0 24 (Tr.aq A0.P),.cells b.ob 0 122 (Tr.aD b.tb b.pi A0.O),.cfam (bI A0) (fun z=>(c.t z).b) 4 (cT b.tb c.t),.fam (bI A0) (rT 168 c.t)]):=by
 refine Spec.go 18 [0,1,2,16] [] Tryz.func12 rfl rfl rfl ?_
 intro W
 refine ca (Mc) .nil ?_
 rintro _ _ ⟨b,c,rfl,hq,hd,hc,rfl⟩
 refine gO ?_
 refine ca (HV b.kb (kp A0 b c) c.q hq hc.qR) (.cons .here (.cons (.t2 .here) (.cons (.t2 .here) .nil))) ?_
 rintro _ _ ⟨rfl,q2,hq2,hr2,rfl⟩
 refine gO ?_
 refine Dg 11 rfl (by simp) ?_
 refine ca (IW b.kb (kp A0 b c)) .h1 ?_
 rintro _ _ ⟨pl,cl,rfl,rfl⟩
 rw[ym (Ga b c)]
 refine gO ?_
 refine uu rfl (by simp) ?_
 refine XE.bC rfl rfl rfl (ab (.cons (.there .here) (.cons (.t3 .here) (.cons (.t3 .here) (.cons (.there .here) (.cons (.there .here) (.cons (.there .here) (.cons (.there .here) (.cons (.there .here) (.cons (.there .here) (.cons (.there .here) (.cons (.there .here) (.cons (.there .here) (.cons (.there .here) (.cons (.there .here) (.cons (.there .here) (.cons (.there .here) (.cons (.there .here) .nil))))))))))))))))) rfl ?_)
 try dsimp only[SW.den,SV.den,aj,aZ]
 exact⟨b,{c with q:=q2},rfl,hq2,hd,⟨(by show q2.toSF.Ok c.d 1 1;rw[hq2,hd];exact Lr),hr2,hc.F,hc.rp,hc.rc,hc.rl,hc.tb⟩,rfl⟩
theorem qo(a:KA)(b:KZ)(c:KC)(N:Nat)(T:Int)(ho:a.Ok T)(hc:dq a c N T)(hT:T≤800000)(n:Int)(o:Bool):Spec Tryz.prog 14 [ptr b.kb 0 0,.int .i64 n,.bool o] [.cells b.kb 0 453 (ah (kp a b c)),.cells b.gb 0 60 (Gr.ay a.g),.cells b.sb 0 158 (Sp.aA a.s),.cells b.qb 0 2281 (Fa.ao c.q),.fam Fa.aL (Fa.SC.rows 254 c.q),.cells b.bb 0 577 (Vm.bu b.vp a.v.by_ a.v.rf),.cells b.vp 0 71 (Vm.aq a.v.bb.bA),.cfam (bD a) c.mb 34 (cN b.bb a.f c.pp c.cc),.fam (bD a) (rN 171 a.f c.pp c.cc),.cells b.tb 0 321 (Tr.av c.F),.fam Tr.ai (Tr.FC.aJ 9 c.F),.fam Tr.ai (Tr.FC.aK 3 c.F),bk c.rp c.rc 3 c.rl,.cells b.pi 0 24 (Tr.aq a.P),.cells b.ob 0 122 (Tr.aD b.tb b.pi a.O),.cfam (bI a) (fun z=>(c.t z).b) 4 (cT b.tb c.t),.fam (bI a) (rT 168 c.t)] (fun v H1=>v= .tuple #[.int .i64 (a.fu n o),bM 102 (a.eH n o)]∧∃ c1:KC,dq (a.bK n o) c1 (N+1) (T+20)∧H1=[.cells b.kb 0 453 (ah (kp (a.bK n o) b c1)),.cells b.gb 0 60 (Gr.ay (a.bK n o).g),.cells b.sb 0 158 (Sp.aA (a.bK n o).s),.cells b.qb 0 2281 (Fa.ao c1.q),.fam Fa.aL (Fa.SC.rows 254 c1.q),.cells b.bb 0 577 (Vm.bu b.vp (a.bK n o).v.by_ (a.bK n o).v.rf),.cells b.vp 0 71 (Vm.aq (a.bK n o).v.bb.bA),.cfam (bD (a.bK n o)) c1.mb 34 (cN b.bb (a.bK n o).f c1.pp c1.cc),.fam (bD (a.bK n o)) (rN 171 (a.bK n o).f c1.pp c1.cc),.cells b.tb 0 321 (Tr.av c1.F),.fam Tr.ai (Tr.FC.aJ 9 c1.F),.fam Tr.ai (Tr.FC.aK 3 c1.F),bk c1.rp c1.rc 3 c1.rl,.cells b.pi 0 24 (Tr.aq (a.bK n o).P),.cells b.ob 0 122 (Tr.aD b.tb b.pi (a.bK n o).O),.cfam (bI (a.bK n o)) (fun z=>(c1.t z).b) 4 (cT b.tb c1.t),.fam (bI (a.bK n o)) (rT 168 c1.t)]):=by
 cases o
 ·exact Jd a b c N T ho hc hT n
 ·exact HK a b c N T ho hc hT n
end Go.X.Kn

namespace Go.X.Kn
open Go Go.Proofs Go.X
set_option maxRecDepth 20000
set_option maxHeartbeats 4000000
end Go.X.Kn
