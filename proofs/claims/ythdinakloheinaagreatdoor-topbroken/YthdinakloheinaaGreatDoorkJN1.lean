import Derived.Test.YthdinakloheinaaGreatDoorkJB7
import Derived.Test.YthdinakloheinaaGreatDoorkJBG
import Derived.Test.YthdinakloheinaaGreatDoorXClose
import Derived.Test.YthdinakloheinaaGreatDoorkVW
import Derived.Test.YthdinakloheinaaGreatDoorkGPl
import Derived.Test.YthdinakloheinaaGreatDoorkNOP
import Derived.Test.YthdinakloheinaaGreatDoorkNW6
import Derived.Test.YthdinakloheinaaGreatDoorkNKW3
import Derived.Test.YthdinakloheinaaGreatDoorkJB4
namespace Go.X.Kn
open Go Go.Proofs Go.X
set_option maxRecDepth 20000
set_option maxHeartbeats 4000000
attribute [local irreducible] KA.bn KA.bV
theorem Bv(a:KA)(b:KZ)(c:KC)(N:Nat)(T:Int)(ho:a.Ok T)(hc:dq a c N T)(hT:T≤800000)(n co:Int):Spec Tryz.prog 16 [ptr b.kb 0 0,.int .i64 n,.int .i64 co] [.cells b.kb 0 453 (ah (kp a b c)),.cells b.gb 0 60 (Gr.ay a.g),.cells b.sb 0 158 (Sp.aA a.s),.cells b.qb 0 2281 (Fa.ao c.q),.fam Fa.aL (Fa.SC.rows 254 c.q),.cells b.bb 0 577 (Vm.bu b.vp a.v.by_ a.v.rf),.cells b.vp 0 71 (Vm.aq a.v.bb.bA),.cfam (bD a) c.mb 34 (cN b.bb a.f c.pp c.cc),.fam (bD a) (rN 171 a.f c.pp c.cc),.cells b.tb 0 321 (Tr.av c.F),.fam Tr.ai (Tr.FC.aJ 9 c.F),.fam Tr.ai (Tr.FC.aK 3 c.F),bk c.rp c.rc 3 c.rl,.cells b.pi 0 24 (Tr.aq a.P),.cells b.ob 0 122 (Tr.aD b.tb b.pi a.O),.cfam (bI a) (fun z=>(c.t z).b) 4 (cT b.tb c.t),.fam (bI a) (rT 168 c.t),.ro 0 0 32 Sg.b6] (fun v H1=>v=bM 102 (a.du n co)∧∃ c1:KC,dq (a.cD n co) c1 N T∧H1=[.cells b.kb 0 453 (ah (kp (a.cD n co) b c1)),.cells b.gb 0 60 (Gr.ay (a.cD n co).g),.cells b.sb 0 158 (Sp.aA (a.cD n co).s),.cells b.qb 0 2281 (Fa.ao c1.q),.fam Fa.aL (Fa.SC.rows 254 c1.q),.cells b.bb 0 577 (Vm.bu b.vp (a.cD n co).v.by_ (a.cD n co).v.rf),.cells b.vp 0 71 (Vm.aq (a.cD n co).v.bb.bA),.cfam (bD (a.cD n co)) c1.mb 34 (cN b.bb (a.cD n co).f c1.pp c1.cc),.fam (bD (a.cD n co)) (rN 171 (a.cD n co).f c1.pp c1.cc),.cells b.tb 0 321 (Tr.av c1.F),.fam Tr.ai (Tr.FC.aJ 9 c1.F),.fam Tr.ai (Tr.FC.aK 3 c1.F),bk c1.rp c1.rc 3 c1.rl,.cells b.pi 0 24 (Tr.aq (a.cD n co).P),.cells b.ob 0 122 (Tr.aD b.tb b.pi (a.cD n co).O),.cfam (bI (a.cD n co)) (fun z=>(c1.t z).b) 4 (cT b.tb c1.t),.fam (bI (a.cD n co)) (rT 168 c1.t)]):=by
  refine Spec.go 32 [0,1,2,6,8,16,23,26] [] Tryz.func16 rfl rfl rfl ?_
  intro W
  refine ca (gu b.kb (kp a b c) n) .h1 ?_
  rintro _ _ ⟨⟨hl,rfl⟩ | ⟨hl,rfl⟩,rfl⟩
  · skip
    try dsimp only[aC,aS,aM,aR,aN,aP,aQ,aU,aO,aT,aG,aH,aB,aF]
    obtain⟨hlr,hls⟩:=KP.dN hl
    have hl:a.live n=0:=hl
    have hls:(a.u n).st=1:=hls
    refine gO ?_
    refine sp 20 rfl ?_ ?_<;>intro h1
    · skip
      refine XE.aV rfl rfl (ab .gq rfl ?_)
      try dsimp only[SW.den,SV.den,aj,aZ]
      first
        | (have e1:a.du n co=0:=by unfold KA.du;rw[if_neg (by omega),if_neg (by omega),if_neg (by omega)]
           have e2:a.cD n co=a.bn n co:=by unfold KA.cD;rw[if_pos e1]
           rw[e1,e2];exact⟨rfl,c1,hc1,rfl⟩)
        | (have e1:a.du n co=8:=by unfold KA.du;rw[if_neg (by omega),if_neg (by omega),if_pos (by omega)]
           have e2:a.cD n co=a:=by unfold KA.cD;rw[if_neg (by omega)]
           rw[e1,e2];exact⟨rfl,c,hc,rfl⟩)
        | (have e1:a.du n co=1:=by unfold KA.du;rw[if_neg (by omega),if_pos (by omega)]
           have e2:a.cD n co=a:=by unfold KA.cD;rw[if_neg (by omega)]
           rw[e1,e2];exact⟨rfl,c,hc,rfl⟩)
    · skip
      refine cd rfl ?_ ?_<;>intro h2
      · skip
        refine XE.aV rfl rfl (ab .gq rfl ?_)
        try dsimp only[SW.den,SV.den,aj,aZ]
        first
          | (have e1:a.du n co=0:=by unfold KA.du;rw[if_neg (by omega),if_neg (by omega),if_neg (by omega)]
             have e2:a.cD n co=a.bn n co:=by unfold KA.cD;rw[if_pos e1]
             rw[e1,e2];exact⟨rfl,c1,hc1,rfl⟩)
          | (have e1:a.du n co=8:=by unfold KA.du;rw[if_neg (by omega),if_neg (by omega),if_pos (by omega)]
             have e2:a.cD n co=a:=by unfold KA.cD;rw[if_neg (by omega)]
             rw[e1,e2];exact⟨rfl,c,hc,rfl⟩)
          | (have e1:a.du n co=1:=by unfold KA.du;rw[if_neg (by omega),if_pos (by omega)]
             have e2:a.cD n co=a:=by unfold KA.cD;rw[if_neg (by omega)]
             rw[e1,e2];exact⟨rfl,c,hc,rfl⟩)
      · skip
        refine cd rfl ?_ ?_<;>intro h3
        · skip
          refine XE.aV rfl rfl (ab .gq rfl ?_)
          try dsimp only[SW.den,SV.den,aj,aZ]
          first
            | (have e1:a.du n co=0:=by unfold KA.du;rw[if_neg (by omega),if_neg (by omega),if_neg (by omega)]
               have e2:a.cD n co=a.bn n co:=by unfold KA.cD;rw[if_pos e1]
               rw[e1,e2];exact⟨rfl,c1,hc1,rfl⟩)
            | (have e1:a.du n co=8:=by unfold KA.du;rw[if_neg (by omega),if_neg (by omega),if_pos (by omega)]
               have e2:a.cD n co=a:=by unfold KA.cD;rw[if_neg (by omega)]
               rw[e1,e2];exact⟨rfl,c,hc,rfl⟩)
            | (have e1:a.du n co=1:=by unfold KA.du;rw[if_neg (by omega),if_pos (by omega)]
               have e2:a.cD n co=a:=by unfold KA.cD;rw[if_neg (by omega)]
               rw[e1,e2];exact⟨rfl,c,hc,rfl⟩)
        · skip
          refine kW 17 (vw a b c N T ho.wk hc (by omega) n co hls (ho.hx.any n)) .jo rfl ?_
          rintro _ _ ⟨c1,hc1,rfl⟩
          refine gO ?_
          refine XE.aV rfl rfl (ab .gq rfl ?_)
          try dsimp only[SW.den,SV.den,aj,aZ]
          first
            | (have e1:a.du n co=0:=by unfold KA.du;rw[if_neg (by omega),if_neg (by omega),if_neg (by omega)]
               have e2:a.cD n co=a.bn n co:=by unfold KA.cD;rw[if_pos e1]
               rw[e1,e2];exact⟨rfl,c1,hc1,rfl⟩)
            | (have e1:a.du n co=8:=by unfold KA.du;rw[if_neg (by omega),if_neg (by omega),if_pos (by omega)]
               have e2:a.cD n co=a:=by unfold KA.cD;rw[if_neg (by omega)]
               rw[e1,e2];exact⟨rfl,c,hc,rfl⟩)
            | (have e1:a.du n co=1:=by unfold KA.du;rw[if_neg (by omega),if_pos (by omega)]
               have e2:a.cD n co=a:=by unfold KA.cD;rw[if_neg (by omega)]
               rw[e1,e2];exact⟨rfl,c,hc,rfl⟩)
  · skip
    try dsimp only[aC,aS,aM,aR,aN,aP,aQ,aU,aO,aT,aG,aH,aB,aF]
    have hl:a.live n≠0:=hl
    have hlk:(kp a b c).live n=a.live n:=rfl
    rw[hlk]
    refine gO ?_
    refine XE.aV rfl rfl (ab .gq rfl ?_)
    try dsimp only[SW.den,SV.den,aj,aZ]
    have e1:a.du n co=a.live n:=by unfold KA.du;rw[if_pos hl]
    have e2:a.cD n co=a:=by unfold KA.cD;rw[if_neg (by omega)]
    rw[e1,e2,aW _ hl];exact⟨rfl,c,hc,rfl⟩
theorem EU(a:KA)(b:KZ)(c:KC)(N:Nat)(T:Int)(ho:a.Ok T)(hc:dq a c N T)(hT:T≤800000)(n sg y:Int):Spec Tryz.prog 23 [ptr b.kb 0 0,.int .i64 n,.int .i64 sg,.int .i64 y] [.cells b.kb 0 453 (ah (kp a b c)),.cells b.gb 0 60 (Gr.ay a.g),.cells b.sb 0 158 (Sp.aA a.s),.cells b.qb 0 2281 (Fa.ao c.q),.fam Fa.aL (Fa.SC.rows 254 c.q),.cells b.bb 0 577 (Vm.bu b.vp a.v.by_ a.v.rf),.cells b.vp 0 71 (Vm.aq a.v.bb.bA),.cfam (bD a) c.mb 34 (cN b.bb a.f c.pp c.cc),.fam (bD a) (rN 171 a.f c.pp c.cc),.cells b.tb 0 321 (Tr.av c.F),.fam Tr.ai (Tr.FC.aJ 9 c.F),.fam Tr.ai (Tr.FC.aK 3 c.F),bk c.rp c.rc 3 c.rl,.cells b.pi 0 24 (Tr.aq a.P),.cells b.ob 0 122 (Tr.aD b.tb b.pi a.O),.cfam (bI a) (fun z=>(c.t z).b) 4 (cT b.tb c.t),.fam (bI a) (rT 168 c.t),.ro 0 0 32 Sg.b6] (fun v H1=>v=bM 102 (a.vF n sg y)∧∃ c1:KC,dq (a.iw n sg y) c1 N T∧H1=[.cells b.kb 0 453 (ah (kp (a.iw n sg y) b c1)),.cells b.gb 0 60 (Gr.ay (a.iw n sg y).g),.cells b.sb 0 158 (Sp.aA (a.iw n sg y).s),.cells b.qb 0 2281 (Fa.ao c1.q),.fam Fa.aL (Fa.SC.rows 254 c1.q),.cells b.bb 0 577 (Vm.bu b.vp (a.iw n sg y).v.by_ (a.iw n sg y).v.rf),.cells b.vp 0 71 (Vm.aq (a.iw n sg y).v.bb.bA),.cfam (bD (a.iw n sg y)) c1.mb 34 (cN b.bb (a.iw n sg y).f c1.pp c1.cc),.fam (bD (a.iw n sg y)) (rN 171 (a.iw n sg y).f c1.pp c1.cc),.cells b.tb 0 321 (Tr.av c1.F),.fam Tr.ai (Tr.FC.aJ 9 c1.F),.fam Tr.ai (Tr.FC.aK 3 c1.F),bk c1.rp c1.rc 3 c1.rl,.cells b.pi 0 24 (Tr.aq (a.iw n sg y).P),.cells b.ob 0 122 (Tr.aD b.tb b.pi (a.iw n sg y).O),.cfam (bI (a.iw n sg y)) (fun z=>(c1.t z).b) 4 (cT b.tb c1.t),.fam (bI (a.iw n sg y)) (rT 168 c1.t)]):=by
 refine Spec.go 31 [0,1,2,3,8,9,10,18,26] [] Tryz.func23 rfl rfl rfl ?_
 intro W
 refine ca (gu b.kb (kp a b c) n) .h1 ?_
 rintro _ _ ⟨⟨hl,rfl⟩ | ⟨hl,rfl⟩,rfl⟩
 ·
  try dsimp only[aC,aS,aM,aR,aN,aP,aQ,aU,aO,aT,aG,aH,aB,aF]
  obtain⟨hlr,hls⟩:=KP.dN hl
  have hl:a.live n=0:=hl
  have hls:(a.u n).st=1:=hls
  refine gO ?_
  refine XR.mono (fun _ hw3=>XM.k8 (k:=kp a b c) (n:=n) (by omega) .h1 hw3) ?_
  refine ca (Sg.M5 b.kb (0+ey n) (a.u n).bx sg y) .h1 ?_
  rintro _ _ ⟨rfl,rfl⟩
  by_cases hx0:((a.u n).bx.set sg y).1=0
  ·
   try dsimp only[aC,aS,aM,aR,aN,aP,aQ,aU,aO,aT,aG,aH,aB,aF]
   rw[hx0,aC]
   refine gO ?_
   refine XR.mono (fun _ hw3=>XM.mL (k:=kp a b c) (n:=n) (by omega) .h3 hw3) ?_
   rw[oz]
   rw[←lO a n ((a.u n).bx.set sg y).2,←nu a n ((a.u n).bx.set sg y).2]
   refine kW 17 (nH (a.eT n ((a.u n).bx.set sg y).2) b c N T (ho.wk.eT hlr (ua _ _ _ (ho.wk.bx n))) (hc.box _ _) (by omega) n hlr false (by rw[eB];exact hls) ((ho.hx.any n).box _)) .jo rfl ?_
   rintro _ _ ⟨c1,hc1,rfl⟩
   refine gO ?_
   refine XE.aV rfl rfl (ab .gq rfl ?_)
   try dsimp only[SW.den,SV.den,aj,aZ]
   have e1:a.vF n sg y=0:=by unfold KA.vF;rw[if_neg (by omega),hx0]
   have e2:a.iw n sg y=(a.eT n ((a.u n).bx.set sg y).2).bV n false:=by unfold KA.iw;rw[if_neg (by omega),if_pos hx0]
   rw[e1,e2];exact⟨rfl,c1,hc1,rfl⟩
  ·
   try dsimp only[aC,aS,aM,aR,aN,aP,aQ,aU,aO,aT,aG,aH,aB,aF]
   rw[aW _ hx0]
   refine gO ?_
   rw[Jf hx0]
   refine XR.mono (fun _ hw3=>XM.pH (k:=kp a b c) (n:=n) (by omega) .h3 hw3) ?_
   refine XE.aV rfl rfl (ab .gq rfl ?_)
   try dsimp only[SW.den,SV.den,aj,aZ]
   have e1:a.vF n sg y=((a.u n).bx.set sg y).1:=by unfold KA.vF;rw[if_neg (by omega)]
   have e2:a.iw n sg y=a:=by unfold KA.iw;rw[if_neg (by omega),if_neg hx0]
   rw[e1,e2,aW _ hx0];exact⟨rfl,c,hc,rfl⟩
 ·
  try dsimp only[aC,aS,aM,aR,aN,aP,aQ,aU,aO,aT,aG,aH,aB,aF]
  have hl:a.live n≠0:=hl
  have hlk:(kp a b c).live n=a.live n:=rfl
  rw[hlk]
  refine gO ?_
  refine XE.aV rfl rfl (ab .gq rfl ?_)
  try dsimp only[SW.den,SV.den,aj,aZ]
  have e1:a.vF n sg y=a.live n:=by unfold KA.vF;rw[if_pos hl]
  have e2:a.iw n sg y=a:=by unfold KA.iw;rw[if_pos hl]
  rw[e1,e2,aW _ hl];exact⟨rfl,c,hc,rfl⟩
theorem vo(a:KA)(b:KZ)(c:KC)(N:Nat)(T:Int)(ho:a.Ok T)(hc:dq a c N T)(hT:T≤800000)(n sg:Int):Spec Tryz.prog 24 [ptr b.kb 0 0,.int .i64 n,.int .i64 sg,.bool true] [.cells b.kb 0 453 (ah (kp a b c)),.cells b.gb 0 60 (Gr.ay a.g),.cells b.sb 0 158 (Sp.aA a.s),.cells b.qb 0 2281 (Fa.ao c.q),.fam Fa.aL (Fa.SC.rows 254 c.q),.cells b.bb 0 577 (Vm.bu b.vp a.v.by_ a.v.rf),.cells b.vp 0 71 (Vm.aq a.v.bb.bA),.cfam (bD a) c.mb 34 (cN b.bb a.f c.pp c.cc),.fam (bD a) (rN 171 a.f c.pp c.cc),.cells b.tb 0 321 (Tr.av c.F),.fam Tr.ai (Tr.FC.aJ 9 c.F),.fam Tr.ai (Tr.FC.aK 3 c.F),bk c.rp c.rc 3 c.rl,.cells b.pi 0 24 (Tr.aq a.P),.cells b.ob 0 122 (Tr.aD b.tb b.pi a.O),.cfam (bI a) (fun z=>(c.t z).b) 4 (cT b.tb c.t),.fam (bI a) (rT 168 c.t),.ro 0 0 32 Sg.b6] (fun v H1=>v=bM 102 (a.gU n sg true)∧∃ c1:KC,dq (a.bU n sg true) c1 N T∧H1=[.cells b.kb 0 453 (ah (kp (a.bU n sg true) b c1)),.cells b.gb 0 60 (Gr.ay (a.bU n sg true).g),.cells b.sb 0 158 (Sp.aA (a.bU n sg true).s),.cells b.qb 0 2281 (Fa.ao c1.q),.fam Fa.aL (Fa.SC.rows 254 c1.q),.cells b.bb 0 577 (Vm.bu b.vp (a.bU n sg true).v.by_ (a.bU n sg true).v.rf),.cells b.vp 0 71 (Vm.aq (a.bU n sg true).v.bb.bA),.cfam (bD (a.bU n sg true)) c1.mb 34 (cN b.bb (a.bU n sg true).f c1.pp c1.cc),.fam (bD (a.bU n sg true)) (rN 171 (a.bU n sg true).f c1.pp c1.cc),.cells b.tb 0 321 (Tr.av c1.F),.fam Tr.ai (Tr.FC.aJ 9 c1.F),.fam Tr.ai (Tr.FC.aK 3 c1.F),bk c1.rp c1.rc 3 c1.rl,.cells b.pi 0 24 (Tr.aq (a.bU n sg true).P),.cells b.ob 0 122 (Tr.aD b.tb b.pi (a.bU n sg true).O),.cfam (bI (a.bU n sg true)) (fun z=>(c1.t z).b) 4 (cT b.tb c1.t),.fam (bI (a.bU n sg true)) (rT 168 c1.t)]):=by
 refine Spec.go 31 [0,1,2,3,8,9,10,18,26] [] Tryz.func24 rfl rfl rfl ?_
 intro W
 refine ca (gu b.kb (kp a b c) n) .h1 ?_
 rintro _ _ ⟨⟨hl,rfl⟩ | ⟨hl,rfl⟩,rfl⟩
 ·
  try dsimp only[aC,aS,aM,aR,aN,aP,aQ,aU,aO,aT,aG,aH,aB,aF]
  obtain⟨hlr,hls⟩:=KP.dN hl
  have hl:a.live n=0:=hl
  have hls:(a.u n).st=1:=hls
  refine gO ?_
  refine XR.mono (fun _ hw3=>XM.k8 (k:=kp a b c) (n:=n) (by omega) .h1 hw3) ?_
  refine ca (Sg.wm b.kb (0+ey n) (a.u n).bx sg) .h1 ?_
  rintro _ _ ⟨rfl,rfl⟩
  by_cases hx0:((a.u n).bx.hold sg true).1=0
  ·
   try dsimp only[aC,aS,aM,aR,aN,aP,aQ,aU,aO,aT,aG,aH,aB,aF]
   rw[hx0,aC]
   refine gO ?_
   refine XR.mono (fun _ hw3=>XM.mL (k:=kp a b c) (n:=n) (by omega) .h3 hw3) ?_
   rw[oz]
   rw[←lO a n ((a.u n).bx.hold sg true).2,←nu a n ((a.u n).bx.hold sg true).2]
   refine kW 17 (nH (a.eT n ((a.u n).bx.hold sg true).2) b c N T (ho.wk.eT hlr (mO _ _ _ (ho.wk.bx n))) (hc.box _ _) (by omega) n hlr false (by rw[eB];exact hls) ((ho.hx.any n).box _)) .jo rfl ?_
   rintro _ _ ⟨c1,hc1,rfl⟩
   refine gO ?_
   refine XE.aV rfl rfl (ab .gq rfl ?_)
   try dsimp only[SW.den,SV.den,aj,aZ]
   have e1:a.gU n sg true=0:=by unfold KA.gU;rw[if_neg (by omega),hx0]
   have e2:a.bU n sg true=(a.eT n ((a.u n).bx.hold sg true).2).bV n false:=by unfold KA.bU;rw[if_neg (by omega),if_pos hx0]
   rw[e1,e2];exact⟨rfl,c1,hc1,rfl⟩
  ·
   try dsimp only[aC,aS,aM,aR,aN,aP,aQ,aU,aO,aT,aG,aH,aB,aF]
   rw[aW _ hx0]
   refine gO ?_
   rw[xc hx0]
   refine XR.mono (fun _ hw3=>XM.pH (k:=kp a b c) (n:=n) (by omega) .h3 hw3) ?_
   refine XE.aV rfl rfl (ab .gq rfl ?_)
   try dsimp only[SW.den,SV.den,aj,aZ]
   have e1:a.gU n sg true=((a.u n).bx.hold sg true).1:=by unfold KA.gU;rw[if_neg (by omega)]
   have e2:a.bU n sg true=a:=by unfold KA.bU;rw[if_neg (by omega),if_neg hx0]
   rw[e1,e2,aW _ hx0];exact⟨rfl,c,hc,rfl⟩
 ·
  try dsimp only[aC,aS,aM,aR,aN,aP,aQ,aU,aO,aT,aG,aH,aB,aF]
  have hl:a.live n≠0:=hl
  have hlk:(kp a b c).live n=a.live n:=rfl
  rw[hlk]
  refine gO ?_
  refine XE.aV rfl rfl (ab .gq rfl ?_)
  try dsimp only[SW.den,SV.den,aj,aZ]
  have e1:a.gU n sg true=a.live n:=by unfold KA.gU;rw[if_pos hl]
  have e2:a.bU n sg true=a:=by unfold KA.bU;rw[if_pos hl]
  rw[e1,e2,aW _ hl];exact⟨rfl,c,hc,rfl⟩
theorem s7(a:KA)(b:KZ)(c:KC)(N:Nat)(T:Int)(ho:a.Ok T)(hc:dq a c N T)(hT:T≤800000)(n sg:Int):Spec Tryz.prog 24 [ptr b.kb 0 0,.int .i64 n,.int .i64 sg,.bool false] [.cells b.kb 0 453 (ah (kp a b c)),.cells b.gb 0 60 (Gr.ay a.g),.cells b.sb 0 158 (Sp.aA a.s),.cells b.qb 0 2281 (Fa.ao c.q),.fam Fa.aL (Fa.SC.rows 254 c.q),.cells b.bb 0 577 (Vm.bu b.vp a.v.by_ a.v.rf),.cells b.vp 0 71 (Vm.aq a.v.bb.bA),.cfam (bD a) c.mb 34 (cN b.bb a.f c.pp c.cc),.fam (bD a) (rN 171 a.f c.pp c.cc),.cells b.tb 0 321 (Tr.av c.F),.fam Tr.ai (Tr.FC.aJ 9 c.F),.fam Tr.ai (Tr.FC.aK 3 c.F),bk c.rp c.rc 3 c.rl,.cells b.pi 0 24 (Tr.aq a.P),.cells b.ob 0 122 (Tr.aD b.tb b.pi a.O),.cfam (bI a) (fun z=>(c.t z).b) 4 (cT b.tb c.t),.fam (bI a) (rT 168 c.t),.ro 0 0 32 Sg.b6] (fun v H1=>v=bM 102 (a.gU n sg false)∧∃ c1:KC,dq (a.bU n sg false) c1 N T∧H1=[.cells b.kb 0 453 (ah (kp (a.bU n sg false) b c1)),.cells b.gb 0 60 (Gr.ay (a.bU n sg false).g),.cells b.sb 0 158 (Sp.aA (a.bU n sg false).s),.cells b.qb 0 2281 (Fa.ao c1.q),.fam Fa.aL (Fa.SC.rows 254 c1.q),.cells b.bb 0 577 (Vm.bu b.vp (a.bU n sg false).v.by_ (a.bU n sg false).v.rf),.cells b.vp 0 71 (Vm.aq (a.bU n sg false).v.bb.bA),.cfam (bD (a.bU n sg false)) c1.mb 34 (cN b.bb (a.bU n sg false).f c1.pp c1.cc),.fam (bD (a.bU n sg false)) (rN 171 (a.bU n sg false).f c1.pp c1.cc),.cells b.tb 0 321 (Tr.av c1.F),.fam Tr.ai (Tr.FC.aJ 9 c1.F),.fam Tr.ai (Tr.FC.aK 3 c1.F),bk c1.rp c1.rc 3 c1.rl,.cells b.pi 0 24 (Tr.aq (a.bU n sg false).P),.cells b.ob 0 122 (Tr.aD b.tb b.pi (a.bU n sg false).O),.cfam (bI (a.bU n sg false)) (fun z=>(c1.t z).b) 4 (cT b.tb c1.t),.fam (bI (a.bU n sg false)) (rT 168 c1.t)]):=by
 refine Spec.go 31 [0,1,2,3,8,9,10,18,26] [] Tryz.func24 rfl rfl rfl ?_
 intro W
 refine ca (gu b.kb (kp a b c) n) .h1 ?_
 rintro _ _ ⟨⟨hl,rfl⟩ | ⟨hl,rfl⟩,rfl⟩
 ·
  try dsimp only[aC,aS,aM,aR,aN,aP,aQ,aU,aO,aT,aG,aH,aB,aF]
  obtain⟨hlr,hls⟩:=KP.dN hl
  have hl:a.live n=0:=hl
  have hls:(a.u n).st=1:=hls
  refine gO ?_
  refine XR.mono (fun _ hw3=>XM.k8 (k:=kp a b c) (n:=n) (by omega) .h1 hw3) ?_
  refine ca (Sg.vK b.kb (0+ey n) (a.u n).bx sg) .h1 ?_
  rintro _ _ ⟨rfl,rfl⟩
  by_cases hx0:((a.u n).bx.hold sg false).1=0
  ·
   try dsimp only[aC,aS,aM,aR,aN,aP,aQ,aU,aO,aT,aG,aH,aB,aF]
   rw[hx0,aC]
   refine gO ?_
   refine XR.mono (fun _ hw3=>XM.mL (k:=kp a b c) (n:=n) (by omega) .h3 hw3) ?_
   rw[oz]
   rw[←lO a n ((a.u n).bx.hold sg false).2,←nu a n ((a.u n).bx.hold sg false).2]
   refine kW 17 (nH (a.eT n ((a.u n).bx.hold sg false).2) b c N T (ho.wk.eT hlr (mO _ _ _ (ho.wk.bx n))) (hc.box _ _) (by omega) n hlr false (by rw[eB];exact hls) ((ho.hx.any n).box _)) .jo rfl ?_
   rintro _ _ ⟨c1,hc1,rfl⟩
   refine gO ?_
   refine XE.aV rfl rfl (ab .gq rfl ?_)
   try dsimp only[SW.den,SV.den,aj,aZ]
   have e1:a.gU n sg false=0:=by unfold KA.gU;rw[if_neg (by omega),hx0]
   have e2:a.bU n sg false=(a.eT n ((a.u n).bx.hold sg false).2).bV n false:=by unfold KA.bU;rw[if_neg (by omega),if_pos hx0]
   rw[e1,e2];exact⟨rfl,c1,hc1,rfl⟩
  ·
   try dsimp only[aC,aS,aM,aR,aN,aP,aQ,aU,aO,aT,aG,aH,aB,aF]
   rw[aW _ hx0]
   refine gO ?_
   rw[xc hx0]
   refine XR.mono (fun _ hw3=>XM.pH (k:=kp a b c) (n:=n) (by omega) .h3 hw3) ?_
   refine XE.aV rfl rfl (ab .gq rfl ?_)
   try dsimp only[SW.den,SV.den,aj,aZ]
   have e1:a.gU n sg false=((a.u n).bx.hold sg false).1:=by unfold KA.gU;rw[if_neg (by omega)]
   have e2:a.bU n sg false=a:=by unfold KA.bU;rw[if_neg (by omega),if_neg hx0]
   rw[e1,e2,aW _ hx0];exact⟨rfl,c,hc,rfl⟩
 ·
  try dsimp only[aC,aS,aM,aR,aN,aP,aQ,aU,aO,aT,aG,aH,aB,aF]
  have hl:a.live n≠0:=hl
  have hlk:(kp a b c).live n=a.live n:=rfl
  rw[hlk]
  refine gO ?_
  refine XE.aV rfl rfl (ab .gq rfl ?_)
  try dsimp only[SW.den,SV.den,aj,aZ]
  have e1:a.gU n sg false=a.live n:=by unfold KA.gU;rw[if_pos hl]
  have e2:a.bU n sg false=a:=by unfold KA.bU;rw[if_pos hl]
  rw[e1,e2,aW _ hl];exact⟨rfl,c,hc,rfl⟩
end Go.X.Kn

namespace Go.X.Kn
open Go Go.Proofs Go.X
set_option maxRecDepth 20000
set_option maxHeartbeats 4000000
attribute [local irreducible] KA.bn KA.bV
theorem AF(a:KA)(b:KZ)(c:KC)(N:Nat)(T:Int)(ho:a.Ok T)(hc:dq a c N T)(hT:T≤800000)(n sg:Int)(on:Bool):Spec Tryz.prog 24 [ptr b.kb 0 0,.int .i64 n,.int .i64 sg,.bool on] [.cells b.kb 0 453 (ah (kp a b c)),.cells b.gb 0 60 (Gr.ay a.g),.cells b.sb 0 158 (Sp.aA a.s),.cells b.qb 0 2281 (Fa.ao c.q),.fam Fa.aL (Fa.SC.rows 254 c.q),.cells b.bb 0 577 (Vm.bu b.vp a.v.by_ a.v.rf),.cells b.vp 0 71 (Vm.aq a.v.bb.bA),.cfam (bD a) c.mb 34 (cN b.bb a.f c.pp c.cc),.fam (bD a) (rN 171 a.f c.pp c.cc),.cells b.tb 0 321 (Tr.av c.F),.fam Tr.ai (Tr.FC.aJ 9 c.F),.fam Tr.ai (Tr.FC.aK 3 c.F),bk c.rp c.rc 3 c.rl,.cells b.pi 0 24 (Tr.aq a.P),.cells b.ob 0 122 (Tr.aD b.tb b.pi a.O),.cfam (bI a) (fun z=>(c.t z).b) 4 (cT b.tb c.t),.fam (bI a) (rT 168 c.t),.ro 0 0 32 Sg.b6] (fun v H1=>v=bM 102 (a.gU n sg on)∧∃ c1:KC,dq (a.bU n sg on) c1 N T∧H1=[.cells b.kb 0 453 (ah (kp (a.bU n sg on) b c1)),.cells b.gb 0 60 (Gr.ay (a.bU n sg on).g),.cells b.sb 0 158 (Sp.aA (a.bU n sg on).s),.cells b.qb 0 2281 (Fa.ao c1.q),.fam Fa.aL (Fa.SC.rows 254 c1.q),.cells b.bb 0 577 (Vm.bu b.vp (a.bU n sg on).v.by_ (a.bU n sg on).v.rf),.cells b.vp 0 71 (Vm.aq (a.bU n sg on).v.bb.bA),.cfam (bD (a.bU n sg on)) c1.mb 34 (cN b.bb (a.bU n sg on).f c1.pp c1.cc),.fam (bD (a.bU n sg on)) (rN 171 (a.bU n sg on).f c1.pp c1.cc),.cells b.tb 0 321 (Tr.av c1.F),.fam Tr.ai (Tr.FC.aJ 9 c1.F),.fam Tr.ai (Tr.FC.aK 3 c1.F),bk c1.rp c1.rc 3 c1.rl,.cells b.pi 0 24 (Tr.aq (a.bU n sg on).P),.cells b.ob 0 122 (Tr.aD b.tb b.pi (a.bU n sg on).O),.cfam (bI (a.bU n sg on)) (fun z=>(c1.t z).b) 4 (cT b.tb c1.t),.fam (bI (a.bU n sg on)) (rT 168 c1.t)]):=by
 cases on
 ·exact s7 a b c N T ho hc hT n sg
 ·exact vo a b c N T ho hc hT n sg
theorem BC(a:KA)(b:KZ)(c:KC)(hf:∀ n i,0≤(a.u n).fd i∧(a.u n).fd i≤24)(n i:Int):Spec Tryz.prog 69 [ptr b.kb 0 0,.int .i64 n,.int .i64 i] [.cells b.kb 0 453 (ah (kp a b c))] (fun v H1=>v= .tuple #[.int .i64 (a.bP n i),bM 102 (a.cC n i)]∧H1=[.cells b.kb 0 453 (ah (kp a b c))]):=Le b.kb (kp a b c) n i hf
theorem Bc(a:KA)(b:KZ)(c:KC)(n:Int)(hn:0≤n∧n<20)(x:Int)(hx:0≤x):Spec Tryz.prog 67 [ptr b.kb 0 (0+0+n.toNat*22),.int .i64 x] [.cells b.kb 0 453 (ah (kp a b c))] (fun v H1=>v= .int .i64 (fc (a.u n).fd x)∧H1=[.cells b.kb 0 453 (ah (kp a b c))]):=Ks b.kb (kp a b c) n hn x hx
theorem lE(a:KA)(b:KZ)(c:KC)(N:Nat)(T:Int)(ho:a.Ok T)(hc:dq a c N T)(hT:T≤800000)(n:Int):Spec Tryz.prog 26 [ptr b.kb 0 0,.int .i64 n] [.cells b.kb 0 453 (ah (kp a b c)),.cells b.gb 0 60 (Gr.ay a.g),.cells b.sb 0 158 (Sp.aA a.s),.cells b.qb 0 2281 (Fa.ao c.q),.fam Fa.aL (Fa.SC.rows 254 c.q),.cells b.bb 0 577 (Vm.bu b.vp a.v.by_ a.v.rf),.cells b.vp 0 71 (Vm.aq a.v.bb.bA),.cfam (bD a) c.mb 34 (cN b.bb a.f c.pp c.cc),.fam (bD a) (rN 171 a.f c.pp c.cc),.cells b.tb 0 321 (Tr.av c.F),.fam Tr.ai (Tr.FC.aJ 9 c.F),.fam Tr.ai (Tr.FC.aK 3 c.F),bk c.rp c.rc 3 c.rl,.cells b.pi 0 24 (Tr.aq a.P),.cells b.ob 0 122 (Tr.aD b.tb b.pi a.O),.cfam (bI a) (fun z=>(c.t z).b) 4 (cT b.tb c.t),.fam (bI a) (rT 168 c.t),.ro 0 0 32 Sg.b6] (fun v H1=>v= .tuple #[.int .i64 (a.nS n),bM 102 (a.gZ n)]∧∃ c1:KC,dq (a.eY n) c1 N T∧H1=[.cells b.kb 0 453 (ah (kp (a.eY n) b c1)),.cells b.gb 0 60 (Gr.ay (a.eY n).g),.cells b.sb 0 158 (Sp.aA (a.eY n).s),.cells b.qb 0 2281 (Fa.ao c1.q),.fam Fa.aL (Fa.SC.rows 254 c1.q),.cells b.bb 0 577 (Vm.bu b.vp (a.eY n).v.by_ (a.eY n).v.rf),.cells b.vp 0 71 (Vm.aq (a.eY n).v.bb.bA),.cfam (bD (a.eY n)) c1.mb 34 (cN b.bb (a.eY n).f c1.pp c1.cc),.fam (bD (a.eY n)) (rN 171 (a.eY n).f c1.pp c1.cc),.cells b.tb 0 321 (Tr.av c1.F),.fam Tr.ai (Tr.FC.aJ 9 c1.F),.fam Tr.ai (Tr.FC.aK 3 c1.F),bk c1.rp c1.rc 3 c1.rl,.cells b.pi 0 24 (Tr.aq (a.eY n).P),.cells b.ob 0 122 (Tr.aD b.tb b.pi (a.eY n).O),.cfam (bI (a.eY n)) (fun z=>(c1.t z).b) 4 (cT b.tb c1.t),.fam (bI (a.eY n)) (rT 168 c1.t)]):=by
 refine Spec.go 30 [0,1,4,5,6,7,8,9,17,27] [] Tryz.func26 rfl rfl rfl ?_
 intro W
 refine ca (gu b.kb (kp a b c) n) .h1 ?_
 rintro _ _ ⟨⟨hl,rfl⟩ | ⟨hl,rfl⟩,rfl⟩
 ·
  try dsimp only[aC,aS,aM,aR,aN,aP,aQ,aU,aO,aT,aG,aH,aB,aF]
  obtain⟨hlr,hls⟩:=KP.dN hl
  have hl:a.live n=0:=hl
  have hls:(a.u n).st=1:=hls
  refine gO ?_
  refine XR.mono (fun _ hw3=>XM.k8 (k:=kp a b c) (n:=n) (by omega) .h1 hw3) ?_
  refine kW 1 (Sg.KL b.kb (0+ey n) (a.u n).bx (ho.wk.bx n)) (.cons .here (.cons (.t12 (.t6 .here)) .nil)) rfl ?_
  rintro _ _ ⟨rfl,rfl⟩
  refine gO ?_
  refine XR.mono (fun _ hw3=>XM.mL (k:=kp a b c) (n:=n) (by omega) (.cons .here (.cons (.there .here) (.cons (.there .here) .nil))) hw3) ?_
  rw[oz]
  rw[←lO a n ((a.u n).bx.take).2,←nu a n ((a.u n).bx.take).2]
  refine cd rfl ?_ ?_<;>intro h1
  ·
   refine XE.bC rfl rfl rfl (ab (.cons .here (.cons (.there .here) (.cons (.there .here) (.cons (.there .here) (.cons (.there .here) (.cons (.there .here) (.cons (.there .here) (.cons (.there .here) (.cons (.there .here) (.cons (.there .here) (.cons (.there .here) (.cons (.there .here) (.cons (.there .here) (.cons (.there .here) (.cons (.there .here) (.cons (.there .here) (.cons (.there .here) .nil))))))))))))))))) rfl ?_)
   try dsimp only[SW.den,SV.den,aj,aZ]
   have ht:((a.u n).bx.take).1=0:=by first | assumption | omega | simp_all
   have e1:a.gZ n=2:=by unfold KA.gZ;rw[if_neg (by omega),if_pos ht]
   have e2:a.nS n=0:=by unfold KA.nS;rw[if_neg (by omega),ht]
   have e3:a.eY n=a.eT n ((a.u n).bx.take).2:=by unfold KA.eY;rw[if_neg (by omega)]
   rw[e1,e2,e3];exact⟨rfl,c,hc.box _ _,rfl⟩
  ·
   refine XE.bC rfl rfl rfl (ab (.cons .here (.cons (.there .here) (.cons (.there .here) (.cons (.there .here) (.cons (.there .here) (.cons (.there .here) (.cons (.there .here) (.cons (.there .here) (.cons (.there .here) (.cons (.there .here) (.cons (.there .here) (.cons (.there .here) (.cons (.there .here) (.cons (.there .here) (.cons (.there .here) (.cons (.there .here) (.cons (.there .here) .nil))))))))))))))))) rfl ?_)
   try dsimp only[SW.den,SV.den,aj,aZ]
   have ht:¬((a.u n).bx.take).1=0:=by first | assumption | omega | simp_all
   have e1:a.gZ n=0:=by unfold KA.gZ;rw[if_neg (by omega),if_neg ht]
   have e2:a.nS n=((a.u n).bx.take).1:=by unfold KA.nS;rw[if_neg (by omega)]
   have e3:a.eY n=a.eT n ((a.u n).bx.take).2:=by unfold KA.eY;rw[if_neg (by omega)]
   rw[e1,e2,e3];exact⟨rfl,c,hc.box _ _,rfl⟩
 ·
  try dsimp only[aC,aS,aM,aR,aN,aP,aQ,aU,aO,aT,aG,aH,aB,aF]
  have hl:a.live n≠0:=hl
  have hlk:(kp a b c).live n=a.live n:=rfl
  rw[hlk]
  refine gO ?_
  refine XE.bC rfl rfl rfl (ab .gq rfl ?_)
  try dsimp only[SW.den,SV.den,aj,aZ]
  have e1:a.gZ n=a.live n:=by unfold KA.gZ;rw[if_pos hl]
  have e2:a.nS n=0:=by unfold KA.nS;rw[if_pos hl]
  have e3:a.eY n=a:=by unfold KA.eY;rw[if_pos hl]
  rw[e1,e2,e3,aW _ hl];exact⟨rfl,c,hc,rfl⟩
end Go.X.Kn

namespace Go.X.Kn
open Go Go.Proofs Go.X
set_option maxRecDepth 20000
set_option maxHeartbeats 4000000
attribute [local irreducible] KA.bn KA.bV
theorem IZ:Tryz.prog.info? 102=some Tryz.t102:=by kernel_rfl
theorem dq.same{a a':KA}{c:KC}{N:Nat}{T T':Int}(h:dq a c N T)(hT:T≤T')(e:a'.s=a.s):dq a' c N T':=⟨h.qO.mono (Nat.le_refl _) (by omega),h.qR,FF.Ok.up h.F hT,h.rp,h.rc,h.rl,fun z h0 h1 h2=>h.tb z h0 h1 (by rwa[e]at h2)⟩
theorem Gc(a:KA)(n i v j w:Int)(O:Tr.OS)(P:Tr.PS):bD {a with u:=sM (sM a.u n i v) n j w,O:=O,P:=P} =bD a:=(gF fun m _ _=>by
 show _↔(sM (sM a.u n i v) n j w m).st=0
 rw[(kt _ _ _ _ _).1,(kt _ _ _ _ _).1]).symm
theorem qN{F:Tr.FF}{d:Int→Nat}{B:Int}(h:F.Ok d B)(O:Tr.OS)(n:Int)(x:ByteArray):(Tr.dt F O n x).Ok d (B+1):=by
 unfold Tr.dt;split
 ·exact h.write _ _ _
 ·exact h.NB
theorem nI(a:KA)(b:KZ)(c:KC)(N:Nat)(T:Int)(ho:a.Ok T)(hc:dq a c N T)(hT:T≤800000)(n i:Int):Spec Tryz.prog 25 [ptr b.kb 0 0,.int .i64 n,.int .i64 i] [.cells b.kb 0 453 (ah (kp a b c)),.cells b.gb 0 60 (Gr.ay a.g),.cells b.sb 0 158 (Sp.aA a.s),.cells b.qb 0 2281 (Fa.ao c.q),.fam Fa.aL (Fa.SC.rows 254 c.q),.cells b.bb 0 577 (Vm.bu b.vp a.v.by_ a.v.rf),.cells b.vp 0 71 (Vm.aq a.v.bb.bA),.cfam (bD a) c.mb 34 (cN b.bb a.f c.pp c.cc),.fam (bD a) (rN 171 a.f c.pp c.cc),.cells b.tb 0 321 (Tr.av c.F),.fam Tr.ai (Tr.FC.aJ 9 c.F),.fam Tr.ai (Tr.FC.aK 3 c.F),bk c.rp c.rc 3 c.rl,.cells b.pi 0 24 (Tr.aq a.P),.cells b.ob 0 122 (Tr.aD b.tb b.pi a.O),.cfam (bI a) (fun z=>(c.t z).b) 4 (cT b.tb c.t),.fam (bI a) (rT 168 c.t)] (fun v H1=>v=bM 102 (a.df c.F.toFF n i)∧∃ c1:KC,dq (a.dz n i) c1 N T∧H1=[.cells b.kb 0 453 (ah (kp (a.dz n i) b c1)),.cells b.gb 0 60 (Gr.ay (a.dz n i).g),.cells b.sb 0 158 (Sp.aA (a.dz n i).s),.cells b.qb 0 2281 (Fa.ao c1.q),.fam Fa.aL (Fa.SC.rows 254 c1.q),.cells b.bb 0 577 (Vm.bu b.vp (a.dz n i).v.by_ (a.dz n i).v.rf),.cells b.vp 0 71 (Vm.aq (a.dz n i).v.bb.bA),.cfam (bD (a.dz n i)) c1.mb 34 (cN b.bb (a.dz n i).f c1.pp c1.cc),.fam (bD (a.dz n i)) (rN 171 (a.dz n i).f c1.pp c1.cc),.cells b.tb 0 321 (Tr.av c1.F),.fam Tr.ai (Tr.FC.aJ 9 c1.F),.fam Tr.ai (Tr.FC.aK 3 c1.F),bk c1.rp c1.rc 3 c1.rl,.cells b.pi 0 24 (Tr.aq (a.dz n i).P),.cells b.ob 0 122 (Tr.aD b.tb b.pi (a.dz n i).O),.cfam (bI (a.dz n i)) (fun z=>(c1.t z).b) 4 (cT b.tb c1.t),.fam (bI (a.dz n i)) (rT 168 c1.t)]):=by
 refine Spec.go 33 [0,1,2,6,7,8,17] [] Tryz.func25 rfl rfl rfl ?_
 intro W
 refine ca (BC a b c ho.wk.fd n i) .h1 ?_
 rintro _ _ ⟨rfl,rfl⟩
 refine gO ?_
 refine cd rfl ?_ ?_<;>intro h1
 ·
  refine XE.aV rfl rfl (ab .gq rfl ?_)
  try dsimp only[SW.den,SV.den,aj,aZ]
  have e1:a.df c.F.toFF n i=a.cC n i:=by unfold KA.df;rw[if_pos (by omega)]
  have e2:a.dz n i=a:=by unfold KA.dz;rw[if_pos (by omega)]
  rw[e1,e2];exact⟨rfl,c,hc,rfl⟩
 ·
  have hp0:a.cC n i=0:=by omega
  obtain⟨hn,hs,hi,hf,hv⟩:=KA.kq hp0
  have hfd:=ho.wk.fd n i
  refine sd (by omega) ?_
  refine sd (by omega) ?_
  refine st .here (ah.Bm _ hn hi _) rfl ?_
  refine ld .here (ah.CG _) ?_
  refine ca (Tr.Bb _ _ _ _ _ T (by omega) ho.wk.OI c.F (hc.F.sh (by omega)) T (by omega) _ ho.wk.PI (a.bP n i)) (.cons (.t12 (.t2 .here)) (.cons (.t9 .here) (.cons (.t9 .here) (.cons (.t9 .here) (.cons (.t10 .here) .nil))))) ?_
  rintro _ _ ⟨rfl,F1,hF1,hp1,hr1,rfl⟩
  refine gO ?_
  refine XE.aV rfl rfl (ab (.cons (.t5 .here) (.cons (.t5 .here) (.cons (.t5 .here) (.cons (.t5 .here) (.cons (.t5 .here) (.cons (.t5 .here) (.cons (.t5 .here) (.cons (.t5 .here) (.cons (.t5 .here) (.cons (.there .here) (.cons (.there .here) (.cons (.there .here) (.cons (.t2 .here) (.cons (.there .here) .h3)))))))))))))) rfl ?_)
  try dsimp only[SW.den,SV.den,aj,aZ]
  have e1:a.df c.F.toFF n i=Tr.df c.F.toFF a.P a.O (a.bP n i):=by unfold KA.df;rw[if_neg (by omega)]
  have e2:a.dz n i= {a with u:=sM a.u n i 0,O:=Tr.eK a.O (a.bP n i),P:=Tr.fx a.P a.O (a.bP n i)} :=by unfold KA.dz;rw[if_neg (by omega)]
  rw[e1,e2]
  refine⟨rfl,{c with F:=F1},⟨hc.qO,hc.qR,(by show F1.toFF.Ok _ _;rw[hF1];exact FF.Ok.lz hc.F _ _),hp1.trans hc.rp,hr1.trans hc.rc,(by show F1.toFF.roots=_;rw[hF1,Tr.nw];exact hc.rl),hc.tb⟩,?_⟩
  rw[H9,zT a b c n i 0 (Tr.eK a.O (a.bP n i)) (Tr.fx a.P a.O (a.bP n i))]
  all_goals rfl
set_option maxHeartbeats 8000000 in
theorem Ag(a:KA)(b:KZ)(c:KC)(N:Nat)(T:Int)(ho:a.Ok T)(hc:dq a c N T)(hT:T≤800000)(n:Int):Spec Tryz.prog 20 [ptr b.kb 0 0,.int .i64 n] [.cells b.kb 0 453 (ah (kp a b c)),.cells b.gb 0 60 (Gr.ay a.g),.cells b.sb 0 158 (Sp.aA a.s),.cells b.qb 0 2281 (Fa.ao c.q),.fam Fa.aL (Fa.SC.rows 254 c.q),.cells b.bb 0 577 (Vm.bu b.vp a.v.by_ a.v.rf),.cells b.vp 0 71 (Vm.aq a.v.bb.bA),.cfam (bD a) c.mb 34 (cN b.bb a.f c.pp c.cc),.fam (bD a) (rN 171 a.f c.pp c.cc),.cells b.tb 0 321 (Tr.av c.F),.fam Tr.ai (Tr.FC.aJ 9 c.F),.fam Tr.ai (Tr.FC.aK 3 c.F),bk c.rp c.rc 3 c.rl,.cells b.pi 0 24 (Tr.aq a.P),.cells b.ob 0 122 (Tr.aD b.tb b.pi a.O),.cfam (bI a) (fun z=>(c.t z).b) 4 (cT b.tb c.t),.fam (bI a) (rT 168 c.t)] (fun v H1=>v= .tuple #[.int .i64 (a.kQ n),.int .i64 (a.kN n),bM 102 (a.je n)]∧∃ c1:KC,dq (a.ec n) c1 N (T+1)∧H1=[.cells b.kb 0 453 (ah (kp (a.ec n) b c1)),.cells b.gb 0 60 (Gr.ay (a.ec n).g),.cells b.sb 0 158 (Sp.aA (a.ec n).s),.cells b.qb 0 2281 (Fa.ao c1.q),.fam Fa.aL (Fa.SC.rows 254 c1.q),.cells b.bb 0 577 (Vm.bu b.vp (a.ec n).v.by_ (a.ec n).v.rf),.cells b.vp 0 71 (Vm.aq (a.ec n).v.bb.bA),.cfam (bD (a.ec n)) c1.mb 34 (cN b.bb (a.ec n).f c1.pp c1.cc),.fam (bD (a.ec n)) (rN 171 (a.ec n).f c1.pp c1.cc),.cells b.tb 0 321 (Tr.av c1.F),.fam Tr.ai (Tr.FC.aJ 9 c1.F),.fam Tr.ai (Tr.FC.aK 3 c1.F),bk c1.rp c1.rc 3 c1.rl,.cells b.pi 0 24 (Tr.aq (a.ec n).P),.cells b.ob 0 122 (Tr.aD b.tb b.pi (a.ec n).O),.cfam (bI (a.ec n)) (fun z=>(c1.t z).b) 4 (cT b.tb c1.t),.fam (bI (a.ec n)) (rT 168 c1.t)]):=by
 have hop:=uA a.P a.O
 have h1:a.slot n=fc (a.u n).fd 0:=rfl
 have h2:a.rr n=fc (a.u n).fd (fc (a.u n).fd 0+1):=rfl
 refine Spec.go 62 [0,1,4,5,6,7,8,9,10,11,12,20,25,32,44] [] Tryz.func20 rfl rfl rfl ?_
 intro W
 refine ca (gu b.kb (kp a b c) n) .h1 ?_
 rintro _ _ ⟨⟨hl,rfl⟩ | ⟨hl,rfl⟩,rfl⟩
 ·
  try dsimp only[aC,aS,aM,aR,aN,aP,aQ,aU,aO,aT,aG,aH,aB,aF]
  obtain⟨hlr,hls⟩:=KP.dN hl
  have hl:a.live n=0:=hl
  have hls:(a.u n).st=1:=hls
  refine gO ?_
  refine ca (Bc a b c n hlr 0 (by omega)) .h1 ?_
  rintro _ _ ⟨rfl,rfl⟩
  refine gO ?_
  refine cd rfl ?_ ?_<;>intro h1
  ·
   refine XE.s9 rfl rfl rfl rfl (ab .gq rfl ?_)
   try dsimp only[SW.den,SV.den,aj,aZ]
   have e1:a.je n=4:=by unfold KA.je;rw[if_neg (by omega),if_pos (by omega)]
   have e2:a.kQ n=0:=by unfold KA.kQ;rw[if_neg (by omega)]
   have e3:a.kN n=0:=by unfold KA.kN;rw[if_neg (by omega)]
   have e4:a.ec n=a:=by unfold KA.ec;rw[if_pos (by omega)]
   rw[e1,e2,e3,e4];exact⟨rfl,c,hc.up (Nat.le_refl _) (by omega),rfl⟩
  ·
   have hsl:=uH (a.u n).fd 0 (by omega)
   refine sd (by omega) ?_
   refine ca (Bc a b c n hlr (fc (a.u n).fd 0+1) (by omega)) .h1 ?_
   rintro _ _ ⟨rfl,rfl⟩
   refine gO ?_
   refine cd rfl ?_ ?_<;>intro h2
   ·
    refine XE.s9 rfl rfl rfl rfl (ab .gq rfl ?_)
    try dsimp only[SW.den,SV.den,aj,aZ]
    have e1:a.je n=4:=by unfold KA.je;rw[if_neg (by omega),if_pos (by omega)]
    have e2:a.kQ n=0:=by unfold KA.kQ;rw[if_neg (by omega)]
    have e3:a.kN n=0:=by unfold KA.kN;rw[if_neg (by omega)]
    have e4:a.ec n=a:=by unfold KA.ec;rw[if_pos (by omega)]
    rw[e1,e2,e3,e4];exact⟨rfl,c,hc.up (Nat.le_refl _) (by omega),rfl⟩
   ·
    have hsm:=uH (a.u n).fd (fc (a.u n).fd 0+1) (by omega)
    refine ld .here (ah.CG _) ?_
    refine ca (Tr.Km _ _ _ _ _ T (by omega) _ ho.wk.PI) (.cons (.t12 (.t2 .here)) (.cons (.t12 (.there .here)) .nil)) ?_
    rintro _ _ ⟨rfl,rfl⟩
    refine gO ?_
    refine cd rfl ?_ ?_<;>intro h3
    ·
     refine XE.s9 rfl rfl rfl rfl (ab (.cons (.t2 .here) (.cons (.t2 .here) (.cons (.t2 .here) (.cons (.t2 .here) (.cons (.t2 .here) (.cons (.t2 .here) (.cons (.t2 .here) (.cons (.t2 .here) (.cons (.t2 .here) (.cons (.t2 .here) (.cons (.t2 .here) (.cons (.t2 .here) (.cons (.t2 .here) (.cons (.there .here) .h3)))))))))))))) rfl ?_)
     try dsimp only[SW.den,SV.den,aj,aZ]
     have e1:a.je n=Tr.eL a.P a.O:=by unfold KA.je;rw[if_neg (by omega),if_neg (by omega)]
     have h0:¬Tr.eL a.P a.O=0:=by omega
     have e2:a.kQ n=0:=by unfold KA.kQ;rw[if_neg (by omega)]
     have e3:a.kN n=0:=by unfold KA.kN;rw[if_neg (by omega)]
     have e4:a.ec n= {a with O:=Tr.gk a.P a.O,P:=Tr.fX a.P a.O} :=by unfold KA.ec;rw[if_neg (by omega),if_neg h0]
     rw[e1,e2,e3,e4];exact⟨rfl,c,hc.same (by omega) rfl,rfl⟩
    ·
     refine rq [0,1,2,3,4,5,6,7,8,9,10,12,13,11,14,15] mixed (by kernel_rfl) ?_
     refine sd (by omega) ?_
     refine sd (by omega) ?_
     refine sd (by omega) ?_
     refine st (.t2 .here) (ah.Bm _ hlr ⟨hsl.1,hsl.2.1⟩ _) rfl ?_
     refine sd (by omega) ?_
     refine st (.t2 .here) (ah.Bm _ hlr ⟨hsm.1,hsm.2.1⟩ _) rfl ?_
     refine XE.s9 rfl rfl rfl rfl (ab (.cons (.t2 .here) (.cons (.t2 .here) (.cons (.t2 .here) (.cons (.t2 .here) (.cons (.t2 .here) (.cons (.t2 .here) (.cons (.t2 .here) (.cons (.t2 .here) (.cons (.t2 .here) (.cons (.t2 .here) (.cons (.t2 .here) (.cons (.t2 .here) (.cons (.t2 .here) (.cons (.there .here) .h3)))))))))))))) rfl ?_)
     try dsimp only[SW.den,SV.den,aj,aZ]
     have e1:a.je n=Tr.eL a.P a.O:=by unfold KA.je;rw[if_neg (by omega),if_neg (by omega)]
     have h0:Tr.eL a.P a.O=0:=by omega
     have e2:a.kQ n=a.slot n:=by unfold KA.kQ;rw[if_pos (by omega)]
     have e3:a.kN n=a.rr n:=by unfold KA.kN;rw[if_pos (by omega)]
     have e4:a.ec n= {a with u:=sM (sM a.u n (a.slot n) (Tr.fZ a.P a.O+1)) n (a.rr n) (Tr.gG a.P a.O+1),O:=Tr.gk a.P a.O,P:=Tr.fX a.P a.O} :=by unfold KA.ec;rw[if_neg (by omega),if_pos h0]
     rw[e1,e2,e3,e4,h0]
     refine⟨rfl,c,hc.same (by omega) rfl,?_⟩
     rw[zT a b c n (fc (a.u n).fd 0) (Tr.fZ a.P a.O+1) a.O a.P,zT {a with u:=sM a.u n (fc (a.u n).fd 0) (Tr.fZ a.P a.O+1),O:=a.O,P:=a.P} b c n (fc (a.u n).fd (fc (a.u n).fd 0+1)) (Tr.gG a.P a.O+1) (Tr.gk a.P a.O) (Tr.fX a.P a.O)]
     rw[Gc]
     all_goals rfl
 ·
  try dsimp only[aC,aS,aM,aR,aN,aP,aQ,aU,aO,aT,aG,aH,aB,aF]
  have hl:a.live n≠0:=hl
  have hlk:(kp a b c).live n=a.live n:=rfl
  rw[hlk]
  refine gO ?_
  refine XE.s9 rfl rfl rfl rfl (ab .gq rfl ?_)
  try dsimp only[SW.den,SV.den,aj,aZ]
  have e1:a.je n=a.live n:=by unfold KA.je;rw[if_pos hl]
  have e2:a.kQ n=0:=by unfold KA.kQ;rw[if_neg (by omega)]
  have e3:a.kN n=0:=by unfold KA.kN;rw[if_neg (by omega)]
  have e4:a.ec n=a:=by unfold KA.ec;rw[if_pos (by omega)]
  rw[e1,e2,e3,e4,aW _ hl];exact⟨rfl,c,hc.up (Nat.le_refl _) (by omega),rfl⟩
set_option maxHeartbeats 8000000 in
theorem om(a:KA)(b:KZ)(c:KC)(N:Nat)(T:Int)(ho:a.Ok T)(hc:dq a c N T)(hT:T≤800000)(n i:Int)(x:ByteArray)(hx:x.size≤1000000):Spec Tryz.prog 21 [ptr b.kb 0 0,.int .i64 n,.int .i64 i,.string x] [.cells b.kb 0 453 (ah (kp a b c)),.cells b.gb 0 60 (Gr.ay a.g),.cells b.sb 0 158 (Sp.aA a.s),.cells b.qb 0 2281 (Fa.ao c.q),.fam Fa.aL (Fa.SC.rows 254 c.q),.cells b.bb 0 577 (Vm.bu b.vp a.v.by_ a.v.rf),.cells b.vp 0 71 (Vm.aq a.v.bb.bA),.cfam (bD a) c.mb 34 (cN b.bb a.f c.pp c.cc),.fam (bD a) (rN 171 a.f c.pp c.cc),.cells b.tb 0 321 (Tr.av c.F),.fam Tr.ai (Tr.FC.aJ 9 c.F),.fam Tr.ai (Tr.FC.aK 3 c.F),bk c.rp c.rc 3 c.rl,.cells b.pi 0 24 (Tr.aq a.P),.cells b.ob 0 122 (Tr.aD b.tb b.pi a.O),.cfam (bI a) (fun z=>(c.t z).b) 4 (cT b.tb c.t),.fam (bI a) (rT 168 c.t),.ro 0 0 32 Sg.b6] (fun v H1=>v= .tuple #[.int .i64 (a.dE c.F.toFF n i x),bM 102 (a.bR c.F.toFF n i x)]∧∃ c1:KC,dq (a.cm c.F.toFF n i x) c1 N (T+1)∧H1=[.cells b.kb 0 453 (ah (kp (a.cm c.F.toFF n i x) b c1)),.cells b.gb 0 60 (Gr.ay (a.cm c.F.toFF n i x).g),.cells b.sb 0 158 (Sp.aA (a.cm c.F.toFF n i x).s),.cells b.qb 0 2281 (Fa.ao c1.q),.fam Fa.aL (Fa.SC.rows 254 c1.q),.cells b.bb 0 577 (Vm.bu b.vp (a.cm c.F.toFF n i x).v.by_ (a.cm c.F.toFF n i x).v.rf),.cells b.vp 0 71 (Vm.aq (a.cm c.F.toFF n i x).v.bb.bA),.cfam (bD (a.cm c.F.toFF n i x)) c1.mb 34 (cN b.bb (a.cm c.F.toFF n i x).f c1.pp c1.cc),.fam (bD (a.cm c.F.toFF n i x)) (rN 171 (a.cm c.F.toFF n i x).f c1.pp c1.cc),.cells b.tb 0 321 (Tr.av c1.F),.fam Tr.ai (Tr.FC.aJ 9 c1.F),.fam Tr.ai (Tr.FC.aK 3 c1.F),bk c1.rp c1.rc 3 c1.rl,.cells b.pi 0 24 (Tr.aq (a.cm c.F.toFF n i x).P),.cells b.ob 0 122 (Tr.aD b.tb b.pi (a.cm c.F.toFF n i x).O),.cfam (bI (a.cm c.F.toFF n i x)) (fun z=>(c1.t z).b) 4 (cT b.tb c1.t),.fam (bI (a.cm c.F.toFF n i x)) (rT 168 c1.t)]):=by
 refine Spec.go 41 [0,1,2,3,8,9,10,11,12,21,35] [] Tryz.func21 rfl rfl rfl ?_
 intro W
 refine ca (BC a b c ho.wk.fd n i) .h1 ?_
 rintro _ _ ⟨rfl,rfl⟩
 refine gO ?_
 refine cd rfl ?_ ?_<;>intro h1
 ·
  refine XE.bC rfl rfl rfl (ab .gq rfl ?_)
  try dsimp only[SW.den,SV.den,aj,aZ]
  have e1:a.bR c.F.toFF n i x=a.cC n i:=by unfold KA.bR;rw[if_pos (by omega)]
  have e2:a.dE c.F.toFF n i x=0:=by unfold KA.dE;rw[if_pos (by omega)]
  have e3:a.cm c.F.toFF n i x=a:=by unfold KA.cm;rw[if_pos (by omega)]
  rw[e1,e2,e3];exact⟨rfl,c,hc.up (Nat.le_refl _) (by omega),rfl⟩
 ·
  have hp0:a.cC n i=0:=by omega
  obtain⟨hn,hs,hi,hf,hv⟩:=KA.kq hp0
  have hfd:=ho.wk.fd n i
  refine ld .here (ah.CG _) ?_
  refine ca (Tr.Jb _ _ _ _ _ T (by omega) ho.wk.OI c.F (hc.F.sh (by omega)) T (by omega) _ ho.wk.PI (a.bP n i) x hx) (.cons (.t12 (.t2 .here)) (.cons (.t9 .here) (.cons (.t9 .here) (.cons (.t9 .here) (.cons (.t10 .here) .nil))))) ?_
  rintro _ _ ⟨rfl,F1,hF1,hp1,hr1,rfl⟩
  have hcf:dq (a.jt c.F.toFF n i x) {c with F:=F1} N (T+1):=⟨hc.qO,hc.qR,(by show F1.toFF.Ok _ _;rw[hF1];exact qN hc.F _ _ _),hp1.trans hc.rp,hr1.trans hc.rc,(by show F1.toFF.roots=_;rw[hF1,Tr.sO];exact hc.rl),hc.tb⟩
  refine gO ?_
  refine XO.v (V.ML rfl rfl (by decide) Tryz.underlying33 IZ rfl Tryz.underlying102 rfl) rfl (gO ?_)
  refine cd rfl ?_ ?_<;>intro h2
  ·
   refine kW 17 (K5 (a.jt c.F.toFF n i x) b {c with F:=F1} N (T+1) (ho.wrote (by omega) c.F.toFF n i x).wk hcf (by omega) n 2 false ((ho.wrote (by omega) c.F.toFF n i x).hx.any n)) (.cons (.t5 .here) (.cons (.t5 .here) (.cons (.t5 .here) (.cons (.t5 .here) (.cons (.t5 .here) (.cons (.t5 .here) (.cons (.t5 .here) (.cons (.t5 .here) (.cons (.t5 .here) (.cons (.there .here) (.cons (.there .here) (.cons (.there .here) (.cons (.t2 .here) (.cons (.there .here) .h4)))))))))))))) rfl ?_
   rintro _ _ ⟨c1,hc1,rfl⟩
   refine gO ?_
   refine XE.bC rfl rfl rfl (ab .gq rfl ?_)
   try dsimp only[SW.den,SV.den,aj,aZ]
   have e1:a.bR c.F.toFF n i x=(Tr.c9 c.F.toFF a.P a.O (a.bP n i) x):=by unfold KA.bR;rw[if_neg (by omega)]
   have e2:a.dE c.F.toFF n i x=Tr.de c.F.toFF a.P a.O (a.bP n i) x:=by unfold KA.dE;rw[if_neg (by omega)]
   have e3:a.cm c.F.toFF n i x=(a.jt c.F.toFF n i x).fA n 2 false:=by unfold KA.cm;rw[if_neg (by omega),if_pos (by omega)]
   rw[e1,e2,e3];exact⟨rfl,c1,hc1,rfl⟩
  ·
   refine XE.bC rfl rfl rfl (ab (.cons (.t5 .here) (.cons (.t5 .here) (.cons (.t5 .here) (.cons (.t5 .here) (.cons (.t5 .here) (.cons (.t5 .here) (.cons (.t5 .here) (.cons (.t5 .here) (.cons (.t5 .here) (.cons (.there .here) (.cons (.there .here) (.cons (.there .here) (.cons (.t2 .here) (.cons (.there .here) .h3)))))))))))))) rfl ?_)
   try dsimp only[SW.den,SV.den,aj,aZ]
   have e1:a.bR c.F.toFF n i x=(Tr.c9 c.F.toFF a.P a.O (a.bP n i) x):=by unfold KA.bR;rw[if_neg (by omega)]
   have e2:a.dE c.F.toFF n i x=Tr.de c.F.toFF a.P a.O (a.bP n i) x:=by unfold KA.dE;rw[if_neg (by omega)]
   have e3:a.cm c.F.toFF n i x=a.jt c.F.toFF n i x:=by unfold KA.cm;rw[if_neg (by omega),if_neg (by omega)]
   rw[e1,e2,e3];exact⟨rfl,_,hcf,rfl⟩
end Go.X.Kn

namespace Go.X.Fa
open Go Go.Proofs Go.X
set_option maxRecDepth 20000
set_option maxHeartbeats 4000000
theorem EI:Spec Tryz.prog 97 [] [] (fun v H1=>∃ p,v=ptr p 0 0∧∃ t:SC,t.toSF=SF.init∧t.jy∧H1=[.cells p 0 2281 (ao t),.fam aL (t.rows 254)]):=by
 refine Spec.go 10 [0,1] [] Tryz.func97 rfl rfl rfl ?_
 intro W
 refine XO.v (V.build (vs:= #[]) rfl (v:=.agg DU) (fun _=>by kernel_rfl)) rfl (gO ?_)
 refine XO.box (m:=2281) (C:=ao SC.void) rfl C7 Eg rfl ?_
 intro p
 refine XO.mono (fun _ hw3=>XM.Je 254 hw3) ?_
 refine gO ?_
 refine XO.v (V.build (vs:= #[(0,.bool true),(1,.int .i64 (-1)),(2,.int .i64 1)]) rfl (v:=.agg (gQ (rm true (-1) 1))) (fun _=>by kernel_rfl)) rfl (gO ?_)
 refine sd (by omega) ?_
 refine oS ?_
 refine XO.eX rfl rfl (.there .here) (qQ _ 0 (-1) 1 true (by omega)) (mP _) o0 ?_
 refine XO.mono (fun _ hw3=>XM.newRow (s:=SC.void) (z:=0) (by omega) (.cons .here .nil) hw3) ?_
 refine gO ?_
 refine XE.aV rfl rfl (ab (.cons (.there .here) .h1) rfl ?_)
 try dsimp only[SW.den,SV.den,aj,aZ]
 exact⟨_,rfl,_,rfl,SC.jy.void.new rfl (fun i hi=>by cases hi) (-1) 1 true,rfl⟩
end Go.X.Fa

namespace Go.X.Tr
open Go Go.X
theorem oY:∀ i,i<24→cellsOf (Value.agg #[.string ⟨#[]⟩,.int .i64 0,.int .i64 0,.string ⟨#[]⟩,.int .i64 0,.int .i64 0,.string ⟨#[]⟩,.int .i64 0,.int .i64 0,.string ⟨#[]⟩,.int .i64 0,.int .i64 0,.string ⟨#[]⟩,.int .i64 0,.int .i64 0,.string ⟨#[]⟩,.int .i64 0,.int .i64 0,.string ⟨#[]⟩,.int .i64 0,.int .i64 0,.string ⟨#[]⟩,.int .i64 0,.int .i64 0]).cells i=aq PS.init i:=fun i hi=>match i,hi with
 | 0,_=>rfl
 | 1,_=>rfl
 | 2,_=>rfl
 | 3,_=>rfl
 | 4,_=>rfl
 | 5,_=>rfl
 | 6,_=>rfl
 | 7,_=>rfl
 | 8,_=>rfl
 | 9,_=>rfl
 | 10,_=>rfl
 | 11,_=>rfl
 | 12,_=>rfl
 | 13,_=>rfl
 | 14,_=>rfl
 | 15,_=>rfl
 | 16,_=>rfl
 | 17,_=>rfl
 | 18,_=>rfl
 | 19,_=>rfl
 | 20,_=>rfl
 | 21,_=>rfl
 | 22,_=>rfl
 | 23,_=>rfl
 | k+24,h=>absurd h (by omega)
end Go.X.Tr

namespace Go.X.Kn
open Go Go.Proofs Go.X
set_option maxRecDepth 20000
set_option maxHeartbeats 4000000
theorem yi(mb:Nat):∀ w,(Instr.build 89 #[(0,.int .i64 1),(1,.int .i64 (-1)),(4,ptr mb 0 0)]).run Tryz.prog w= .ok (.agg (PU.arr (qE mb))) w:=fun w=>by kernel_rfl
theorem BL(a b c d e f:Nat):∀ w,(Instr.build 101 #[(1,ptr a 0 0),(2,ptr b 0 0),(3,ptr c 0 0),(4,ptr d 0 0),(5,ptr e 0 0),(6,ptr f 0 0)]).run Tryz.prog w= .ok (.agg (tB (KP.raw a b c d e f))) w:=fun w=>by kernel_rfl
end Go.X.Kn

namespace Go.X.Kn
open Go Go.Proofs Go.X
set_option maxRecDepth 20000
set_option maxHeartbeats 4000000
attribute [local irreducible] KA.bn KA.bV
set_option maxHeartbeats 16000000 in
theorem Mc:Spec Tryz.prog 37 [] [] (fun x H1=>∃ (b:KZ) (c:KC),x=ptr b.kb 0 0∧c.q.toSF=Q2∧c.d=dK∧dq A0 c 1 2∧H1=[.cells b.kb 0 453 (ah (kp A0 b c)),.cells b.gb 0 60 (Gr.ay A0.g),.cells b.sb 0 158 (Sp.aA A0.s),.cells b.qb 0 2281 (Fa.ao c.q),.fam Fa.aL (Fa.SC.rows 254 c.q),.cells b.bb 0 577 (Vm.bu b.vp A0.v.by_ A0.v.rf),.cells b.vp 0 71 (Vm.aq A0.v.bb.bA),.cfam (bD A0) c.mb 34 (cN b.bb A0.f c.pp c.cc),.fam (bD A0) (rN 171 A0.f c.pp c.cc),.cells b.tb 0 321 (Tr.av c.F),.fam Tr.ai (Tr.FC.aJ 9 c.F),.fam Tr.ai (Tr.FC.aK 3 c.F),bk c.rp c.rc 3 c.rl,.cells b.pi 0 24 (Tr.aq A0.P),.cells b.ob 0 122 (Tr.aD b.tb b.pi A0.O),.cfam (bI A0) (fun z=>(c.t z).b) 4 (cT b.tb c.t),.fam (bI A0) (rT 168 c.t)]):=by
 refine Spec.go 77 [0,1] [] Tryz.func37 rfl rfl rfl ?_
 intro W
 refine ca (Gr.My) .nil ?_
 rintro _ _ ⟨gb,rfl,rfl⟩
 refine gO ?_
 refine ca (Sp.G8) .nil ?_
 rintro _ _ ⟨sb,rfl,rfl⟩
 refine gO ?_
 refine ca (Fa.EI) .nil ?_
 rintro _ _ ⟨qb,rfl,q0,hq0,hr0,rfl⟩
 refine gO ?_
 refine ca (Vm.Db) .nil ?_
 rintro _ _ ⟨bb,vp,rfl,rfl⟩
 refine gO ?_
 refine ca (Tr.G8) .nil ?_
 rintro _ _ ⟨tb,rfl,rfl⟩
 refine gO ?_
 refine XO.v (V.build (vs:= #[]) rfl (v:=.agg #[.string ⟨#[]⟩,.int .i64 0,.int .i64 0,.string ⟨#[]⟩,.int .i64 0,.int .i64 0,.string ⟨#[]⟩,.int .i64 0,.int .i64 0,.string ⟨#[]⟩,.int .i64 0,.int .i64 0,.string ⟨#[]⟩,.int .i64 0,.int .i64 0,.string ⟨#[]⟩,.int .i64 0,.int .i64 0,.string ⟨#[]⟩,.int .i64 0,.int .i64 0,.string ⟨#[]⟩,.int .i64 0,.int .i64 0]) (fun _=>by kernel_rfl)) rfl (gO ?_)
 refine XO.box (m:=24) (C:=Tr.aq Tr.PS.init) rfl rfl Tr.oY rfl ?_
 intro pi
 refine gO ?_
 refine XO.v (V.build (vs:= #[(1,ptr gb 0 0),(2,ptr sb 0 0),(3,ptr qb 0 0),(4,ptr bb 0 0),(5,ptr tb 0 0),(6,ptr pi 0 0)]) rfl (v:=.agg (tB (KP.raw gb sb qb bb tb pi))) (BL _ _ _ _ _ _)) rfl (gO ?_)
 refine XO.box (m:=453) (C:=jL (KP.raw gb sb qb bb tb pi)) rfl (zS _) (Ci _) rfl ?_
 intro kb
 refine gO ?_
 refine rq [0,1,2,3,4,5,6,7,8,9,10,11,12] mixed (by kernel_rfl) ?_
 refine ld .here (jL.HF _) ?_
 refine ld .here (jL.Nx _) ?_
 refine ca (Tr.EI tb pi) .nil ?_
 rintro _ _ ⟨ob,rfl,rfl⟩
 refine gO ?_
 refine st (.there .here) (jL.NL _ _) rfl ?_
 refine ld (.there .here) (ah.HF _) ?_
 refine ca (Tr.HO _ _ _ (Tr.FF.vV.sh (by omega))) (.cons (.t3 .here) (.cons (.t3 .here) (.cons (.t3 .here) (.cons (.t3 .here) .nil)))) ?_
 rintro _ _ ⟨t0,rfl,ht0,rfl⟩
 obtain⟨d1,o1⟩:=Tr.FF.vV.pR
 have o2:t0.toFF.Ok d1 (0+1):=by rw[ht0];exact o1
 have hrt:t0.iU 0=0:=by show t0.toFF.iU 0=0;rw[ht0];decide+kernel
 refine gO ?_
 refine rq [0,1,2,3,4,9,10,5,6,7,8,11,12] mixed (by kernel_rfl) ?_
 refine ld (.t5 .here) (ah.HF _) ?_
 refine ca (Tr.Nr _ t0 d1 _ o2 (by omega) 0) .h4 ?_
 rintro _ _ (⟨hne,rfl,rfl⟩ | ⟨_,bt,u0,rfl,hu0,up0,uc0,rfl⟩)
 ·
  exact absurd hrt hne
  skip
 ·
  try dsimp only[aC,aS,aM,aR,aN,aP,aQ,aU,aO,aT,aG,aH,aB,aF]
  refine gO ?_
  refine sd (by omega) ?_
  refine st (.t7 .here) (ah.DN _ (by omega) _) rfl ?_
  refine rq [0,1,2,3,4,7,8,5,6,9,10] mixed (by kernel_rfl) ?_
  refine ld (.t7 .here) (ah.Gi _) ?_
  refine ca (Vm.Mz bb) .nil ?_
  rintro _ _ ⟨mb,rfl,rfl⟩
  refine gO ?_
  refine XO.v (V.build (vs:= #[(0,.int .i64 1),(1,.int .i64 (-1)),(4,ptr mb 0 0)]) rfl (v:=.agg (PU.arr (qE mb))) (yi mb)) rfl (gO ?_)
  refine sd (by omega) ?_
  refine jA (.t9 .here) (ah.rE _ (by omega) (qE mb)) rfl ⟨rfl,rfl⟩ ?_
  refine ld (.t9 .here) (ah.Cb _) ?_
  refine ca (Gr.sK _ _ Gr.TG.init Gr.TG.Inv.init.ok 0 1 0 0 (by omega) Gr.TG.Small.init) (.cons (.t12 (.t4 .here)) .nil) ?_
  rintro _ _ ⟨rfl,rfl⟩
  refine gO ?_
  refine ld (.t10 .here) (ah.mT _) ?_
  refine ca (Sp.vM _ _ Sp.SS.init (fun _=>1) Sp.SS.Inv.init.D 0 0) (.cons (.t12 (.t4 .here)) .nil) ?_
  rintro _ _ ⟨rfl,rfl⟩
  refine gO ?_
  refine ld (.t11 .here) (ah.yr _) ?_
  refine ca (Fa.oP _ _ q0 (fun _=>0) (by rw[hq0];exact Fa.SF.AT.inv) hr0 0 0 100) (.cons (.t12 (.t3 .here)) (.cons (.t12 (.t3 .here)) .nil)) ?_
  rintro _ _ ⟨rfl,q1,hq1,hr1,rfl⟩
  have hq1:q1.toSF=Q1:=by rw[hq1,hq0];rfl
  refine gO ?_
  refine ld (.t12 (.there .here)) (ah.yr _) ?_
  refine ca (Fa.zj _ _ q1 dK (by rw[hq1];exact Jn.inv) hr1 0 true) .h2 ?_
  rintro _ _ ⟨rfl,q2,hq2,hr2,rfl⟩
  have hq2:q2.toSF=Q2:=by rw[hq2,hq1];rfl
  refine gO ?_
  refine XR.mono (fun _ hw3=>XM.Lp (z:=(0:Int).toNat) Vm.MS.nil (.cons (.t4 .here) (.cons (.t4 .here) .nil)) hw3) ?_
  rw[fN (fun _=>Vm.MS.nil)]
  refine XR.mono (fun _ hw3=>XM.Kl (z:=(0:Int).toNat) (⟨bt,⟨0,t0.eo 0⟩,[],none,0,0,0,Tr.C0⟩:TB) (.cons (.t6 .here) (.cons (.t6 .here) .nil)) hw3) ?_
  refine XE.aV rfl rfl (ab (.cons (.t12 (.there .here)) (.cons (.t7 .here) (.cons (.t6 .here) (.cons (.t4 .here) (.cons (.t4 .here) (.cons (.t10 .here) (.cons (.t10 .here) (.cons (.t2 .here) (.cons (.t2 .here) (.cons (.t2 .here) (.cons (.t2 .here) (.cons (.t2 .here) (.cons (.t2 .here) (.cons (.t3 .here) (.cons (.t2 .here) .h2))))))))))))))) rfl ?_)
  try dsimp only[SW.den,SV.den,aj,aZ]
  refine⟨(⟨kb,gb,sb,qb,bb,tb,pi,ob,vp⟩:KZ),(⟨bJ (fun _=>0) (0:Int).toNat mb,bJ (fun _=>none) (0:Int).toNat none,bJ (fun _=>0) (0:Int).toNat 0,q2,dK,u0,d1,t0.rP,t0.rC,t0.roots,bJ (fun _=>(⟨bt,⟨0,t0.eo 0⟩,[],none,0,0,0,Tr.C0⟩:TB)) (0:Int).toNat (⟨bt,⟨0,t0.eo 0⟩,[],none,0,0,0,Tr.C0⟩:TB)⟩:KC),rfl,hq2,rfl,⟨(by show q2.toSF.Ok dK 1 1;rw[hq2];exact r6.mono (Nat.le_refl _) (by omega)),hr2,(by show u0.toFF.Ok d1 2;rw[hu0];exact o2.hold _),up0,uc0,(by show u0.toFF.roots=_;rw[hu0,jg]),fun z z0 z1 z2=> ?_⟩,?_⟩
  ·have et:bJ (fun _=>(⟨bt,⟨0,t0.eo 0⟩,[],none,0,0,0,Tr.C0⟩:TB)) (0:Int).toNat (⟨bt,⟨0,t0.eo 0⟩,[],none,0,0,0,Tr.C0⟩:TB) z.toNat=(⟨bt,⟨0,t0.eo 0⟩,[],none,0,0,0,Tr.C0⟩:TB):=by unfold bJ;split<;>rfl
   show(bJ (fun _=>(⟨bt,⟨0,t0.eo 0⟩,[],none,0,0,0,Tr.C0⟩:TB)) (0:Int).toNat (⟨bt,⟨0,t0.eo 0⟩,[],none,0,0,0,Tr.C0⟩:TB) z.toNat).Ok
   rw[et]
   exact⟨.inl ⟨rfl,rfl⟩,fun i hi=>absurd hi (by show ¬i<0*4;omega),(by show 0≤6;omega)⟩
  ·rw[KU,LU,LR (⟨kb,gb,sb,qb,bb,tb,pi,ob,vp⟩:KZ) (⟨bJ (fun _=>0) (0:Int).toNat mb,bJ (fun _=>none) (0:Int).toNat none,bJ (fun _=>0) (0:Int).toNat 0,q2,dK,u0,d1,t0.rP,t0.rC,t0.roots,bJ (fun _=>(⟨bt,⟨0,t0.eo 0⟩,[],none,0,0,0,Tr.C0⟩:TB)) (0:Int).toNat (⟨bt,⟨0,t0.eo 0⟩,[],none,0,0,0,Tr.C0⟩:TB)⟩:KC) ob mb (⟨bt,⟨0,t0.eo 0⟩,[],none,0,0,0,Tr.C0⟩:TB) rfl rfl _ rfl]
   all_goals rfl
end Go.X.Kn
