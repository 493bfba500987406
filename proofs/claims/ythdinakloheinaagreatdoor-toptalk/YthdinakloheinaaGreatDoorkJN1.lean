import Derived.Test.YthdinakloheinaaGreatDoorkJB7
import Derived.Test.YthdinakloheinaaGreatDoorkJBG
import Derived.Test.YthdinakloheinaaGreatDoorLM
import Derived.Test.YthdinakloheinaaGreatDoorkVW2
import Derived.Test.YthdinakloheinaaGreatDoorkGPl
import Derived.Test.YthdinakloheinaaGreatDoorkNOP
import Derived.Test.YthdinakloheinaaGreatDoorkKW5
import Derived.Test.YthdinakloheinaaGreatDoorkJB3
namespace Go.X.Kn
open Go Go.Proofs Go.X
set_option maxRecDepth 20000
set_option maxHeartbeats 4000000
attribute [local irreducible] KA.aS KA.bS
theorem HG(a:KA)(b:KZ)(c:KC)(N:Nat)(T:Int)(ho:a.Ok T)(hc:eQ a c N T)(hT:T≤800000)(n co:Int):Spec Tryz.prog 16 [ptr b.kb 0 0,.int .i64 n,.int .i64 co] [.cells b.kb 0 453 (ah (kp a b c)),.cells b.gb 0 60 (Gr.aC a.g),.cells b.sb 0 158 (Sp.aB a.s),.cells b.qb 0 2281 (Fa.aq c.q),.fam Fa.aH (Fa.SC.rows 254 c.q),.cells b.bb 0 577 (Vm.bz b.vp a.v.by_ a.v.rf),.cells b.vp 0 71 (Vm.au a.v.bb.bJ),.cfam (bN a) c.mb 34 (cN b.bb a.f c.pp c.cc),.fam (bN a) (rN 171 a.f c.pp c.cc),.cells b.tb 0 321 (Tr.ay c.F),.fam Tr.ai (Tr.FC.aD 9 c.F),.fam Tr.ai (Tr.FC.aF 3 c.F),aZ c.rp c.rc 3 c.rl,.cells b.pi 0 24 (Tr.au a.P),.cells b.ob 0 122 (Tr.az b.tb b.pi a.O),.cfam (bO a) (fun z=>(c.t z).b) 4 (cT b.tb c.t),.fam (bO a) (rT 168 c.t),.ro 0 0 32 Sg.cX] (fun v H1=>v=bH 102 (a.dD n co)∧∃ c1:KC,eQ (a.cm n co) c1 N T∧H1=[.cells b.kb 0 453 (ah (kp (a.cm n co) b c1)),.cells b.gb 0 60 (Gr.aC (a.cm n co).g),.cells b.sb 0 158 (Sp.aB (a.cm n co).s),.cells b.qb 0 2281 (Fa.aq c1.q),.fam Fa.aH (Fa.SC.rows 254 c1.q),.cells b.bb 0 577 (Vm.bz b.vp (a.cm n co).v.by_ (a.cm n co).v.rf),.cells b.vp 0 71 (Vm.au (a.cm n co).v.bb.bJ),.cfam (bN (a.cm n co)) c1.mb 34 (cN b.bb (a.cm n co).f c1.pp c1.cc),.fam (bN (a.cm n co)) (rN 171 (a.cm n co).f c1.pp c1.cc),.cells b.tb 0 321 (Tr.ay c1.F),.fam Tr.ai (Tr.FC.aD 9 c1.F),.fam Tr.ai (Tr.FC.aF 3 c1.F),aZ c1.rp c1.rc 3 c1.rl,.cells b.pi 0 24 (Tr.au (a.cm n co).P),.cells b.ob 0 122 (Tr.az b.tb b.pi (a.cm n co).O),.cfam (bO (a.cm n co)) (fun z=>(c1.t z).b) 4 (cT b.tb c1.t),.fam (bO (a.cm n co)) (rT 168 c1.t)]):=by
  refine Spec.go 32 [0,1,2,6,8,16,23,26] [] Tryz.func16 rfl rfl rfl ?_
  intro W
  refine ca (lD b.kb (kp a b c) n) .h1 ?_
  rintro _ _ ⟨⟨hl,rfl⟩ | ⟨hl,rfl⟩,rfl⟩
  · skip
    try dsimp only[aT,aV,bu,bj,bk,bd,aW,bh,aY,aX,aP,aN,aQ,aO]
    obtain⟨hlr,hls⟩:=KP.gi hl
    have hl:a.live n=0:=hl
    have hls:(a.u n).st=1:=hls
    refine gO ?_
    refine sp 20 rfl ?_ ?_<;>intro h1
    · skip
      refine XE.aK rfl rfl (ab .la rfl ?_)
      try dsimp only[SW.den,SV.den,aj,aL]
      first
        | (have e1:a.dD n co=0:=by unfold KA.dD;rw[if_neg (by omega),if_neg (by omega),if_neg (by omega)]
           have e2:a.cm n co=a.aS n co:=by unfold KA.cm;rw[if_pos e1]
           rw[e1,e2];exact⟨rfl,c1,hc1,rfl⟩)
        | (have e1:a.dD n co=8:=by unfold KA.dD;rw[if_neg (by omega),if_neg (by omega),if_pos (by omega)]
           have e2:a.cm n co=a:=by unfold KA.cm;rw[if_neg (by omega)]
           rw[e1,e2];exact⟨rfl,c,hc,rfl⟩)
        | (have e1:a.dD n co=1:=by unfold KA.dD;rw[if_neg (by omega),if_pos (by omega)]
           have e2:a.cm n co=a:=by unfold KA.cm;rw[if_neg (by omega)]
           rw[e1,e2];exact⟨rfl,c,hc,rfl⟩)
    · skip
      refine cd rfl ?_ ?_<;>intro h2
      · skip
        refine XE.aK rfl rfl (ab .la rfl ?_)
        try dsimp only[SW.den,SV.den,aj,aL]
        first
          | (have e1:a.dD n co=0:=by unfold KA.dD;rw[if_neg (by omega),if_neg (by omega),if_neg (by omega)]
             have e2:a.cm n co=a.aS n co:=by unfold KA.cm;rw[if_pos e1]
             rw[e1,e2];exact⟨rfl,c1,hc1,rfl⟩)
          | (have e1:a.dD n co=8:=by unfold KA.dD;rw[if_neg (by omega),if_neg (by omega),if_pos (by omega)]
             have e2:a.cm n co=a:=by unfold KA.cm;rw[if_neg (by omega)]
             rw[e1,e2];exact⟨rfl,c,hc,rfl⟩)
          | (have e1:a.dD n co=1:=by unfold KA.dD;rw[if_neg (by omega),if_pos (by omega)]
             have e2:a.cm n co=a:=by unfold KA.cm;rw[if_neg (by omega)]
             rw[e1,e2];exact⟨rfl,c,hc,rfl⟩)
      · skip
        refine cd rfl ?_ ?_<;>intro h3
        · skip
          refine XE.aK rfl rfl (ab .la rfl ?_)
          try dsimp only[SW.den,SV.den,aj,aL]
          first
            | (have e1:a.dD n co=0:=by unfold KA.dD;rw[if_neg (by omega),if_neg (by omega),if_neg (by omega)]
               have e2:a.cm n co=a.aS n co:=by unfold KA.cm;rw[if_pos e1]
               rw[e1,e2];exact⟨rfl,c1,hc1,rfl⟩)
            | (have e1:a.dD n co=8:=by unfold KA.dD;rw[if_neg (by omega),if_neg (by omega),if_pos (by omega)]
               have e2:a.cm n co=a:=by unfold KA.cm;rw[if_neg (by omega)]
               rw[e1,e2];exact⟨rfl,c,hc,rfl⟩)
            | (have e1:a.dD n co=1:=by unfold KA.dD;rw[if_neg (by omega),if_pos (by omega)]
               have e2:a.cm n co=a:=by unfold KA.cm;rw[if_neg (by omega)]
               rw[e1,e2];exact⟨rfl,c,hc,rfl⟩)
        · skip
          refine u9 17 (vk a b c N T ho.wk hc (by omega) n co hls (ho.hx.any n)) .vF rfl ?_
          rintro _ _ ⟨c1,hc1,rfl⟩
          refine gO ?_
          refine XE.aK rfl rfl (ab .la rfl ?_)
          try dsimp only[SW.den,SV.den,aj,aL]
          first
            | (have e1:a.dD n co=0:=by unfold KA.dD;rw[if_neg (by omega),if_neg (by omega),if_neg (by omega)]
               have e2:a.cm n co=a.aS n co:=by unfold KA.cm;rw[if_pos e1]
               rw[e1,e2];exact⟨rfl,c1,hc1,rfl⟩)
            | (have e1:a.dD n co=8:=by unfold KA.dD;rw[if_neg (by omega),if_neg (by omega),if_pos (by omega)]
               have e2:a.cm n co=a:=by unfold KA.cm;rw[if_neg (by omega)]
               rw[e1,e2];exact⟨rfl,c,hc,rfl⟩)
            | (have e1:a.dD n co=1:=by unfold KA.dD;rw[if_neg (by omega),if_pos (by omega)]
               have e2:a.cm n co=a:=by unfold KA.cm;rw[if_neg (by omega)]
               rw[e1,e2];exact⟨rfl,c,hc,rfl⟩)
  · skip
    try dsimp only[aT,aV,bu,bj,bk,bd,aW,bh,aY,aX,aP,aN,aQ,aO]
    have hl:a.live n≠0:=hl
    have hlk:(kp a b c).live n=a.live n:=rfl
    rw[hlk]
    refine gO ?_
    refine XE.aK rfl rfl (ab .la rfl ?_)
    try dsimp only[SW.den,SV.den,aj,aL]
    have e1:a.dD n co=a.live n:=by unfold KA.dD;rw[if_pos hl]
    have e2:a.cm n co=a:=by unfold KA.cm;rw[if_neg (by omega)]
    rw[e1,e2,aJ _ hl];exact⟨rfl,c,hc,rfl⟩
end Go.X.Kn

namespace Go.X.Kn
open Go Go.Proofs Go.X
set_option maxRecDepth 20000
set_option maxHeartbeats 4000000
attribute [local irreducible] KA.aS KA.bS
theorem zS(a:KA)(b:KZ)(c:KC)(hf:∀ n i,0≤(a.u n).fd i∧(a.u n).fd i≤24)(n i:Int):Spec Tryz.prog 69 [ptr b.kb 0 0,.int .i64 n,.int .i64 i] [.cells b.kb 0 453 (ah (kp a b c))] (fun v H1=>v= .tuple #[.int .i64 (a.cn n i),bH 102 (a.cI n i)]∧H1=[.cells b.kb 0 453 (ah (kp a b c))]):=Lw b.kb (kp a b c) n i hf
theorem AH(a:KA)(b:KZ)(c:KC)(n:Int)(hn:0≤n∧n<20)(x:Int)(hx:0≤x):Spec Tryz.prog 67 [ptr b.kb 0 (0+0+n.toNat*22),.int .i64 x] [.cells b.kb 0 453 (ah (kp a b c))] (fun v H1=>v= .int .i64 (fc (a.u n).fd x)∧H1=[.cells b.kb 0 453 (ah (kp a b c))]):=K5 b.kb (kp a b c) n hn x hx
end Go.X.Kn

namespace Go.X.Kn
open Go Go.Proofs Go.X
set_option maxRecDepth 20000
set_option maxHeartbeats 4000000
attribute [local irreducible] KA.aS KA.bS
theorem Iq:Tryz.prog.info? 102=some Tryz.t102:=by kernel_rfl
theorem eQ.same{a a':KA}{c:KC}{N:Nat}{T T':Int}(h:eQ a c N T)(hT:T≤T')(e:a'.s=a.s):eQ a' c N T':=⟨h.qO.mono (Nat.le_refl _) (by omega),h.qR,FF.Ok.up h.F hT,h.rp,h.rc,h.rl,fun z h0 h1 h2=>h.tb z h0 h1 (by rwa[e]at h2)⟩
theorem Fb(a:KA)(n i v j w:Int)(O:Tr.OS)(P:Tr.PS):bN {a with u:=sN (sN a.u n i v) n j w,O:=O,P:=P} =bN a:=(iC fun m _ _=>by
 show _↔(sN (sN a.u n i v) n j w m).st=0
 rw[(og _ _ _ _ _).1,(og _ _ _ _ _).1]).symm
theorem qL{F:Tr.FF}{d:Int→Nat}{B:Int}(h:F.Ok d B)(O:Tr.OS)(n:Int)(x:ByteArray):(Tr.dg F O n x).Ok d (B+1):=by
 unfold Tr.dg;split
 ·exact h.write _ _ _
 ·exact h.Ny
set_option maxHeartbeats 8000000 in
theorem Av(a:KA)(b:KZ)(c:KC)(N:Nat)(T:Int)(ho:a.Ok T)(hc:eQ a c N T)(hT:T≤800000)(n:Int):Spec Tryz.prog 20 [ptr b.kb 0 0,.int .i64 n] [.cells b.kb 0 453 (ah (kp a b c)),.cells b.gb 0 60 (Gr.aC a.g),.cells b.sb 0 158 (Sp.aB a.s),.cells b.qb 0 2281 (Fa.aq c.q),.fam Fa.aH (Fa.SC.rows 254 c.q),.cells b.bb 0 577 (Vm.bz b.vp a.v.by_ a.v.rf),.cells b.vp 0 71 (Vm.au a.v.bb.bJ),.cfam (bN a) c.mb 34 (cN b.bb a.f c.pp c.cc),.fam (bN a) (rN 171 a.f c.pp c.cc),.cells b.tb 0 321 (Tr.ay c.F),.fam Tr.ai (Tr.FC.aD 9 c.F),.fam Tr.ai (Tr.FC.aF 3 c.F),aZ c.rp c.rc 3 c.rl,.cells b.pi 0 24 (Tr.au a.P),.cells b.ob 0 122 (Tr.az b.tb b.pi a.O),.cfam (bO a) (fun z=>(c.t z).b) 4 (cT b.tb c.t),.fam (bO a) (rT 168 c.t)] (fun v H1=>v= .tuple #[.int .i64 (a.kK n),.int .i64 (a.kM n),bH 102 (a.jg n)]∧∃ c1:KC,eQ (a.dI n) c1 N (T+1)∧H1=[.cells b.kb 0 453 (ah (kp (a.dI n) b c1)),.cells b.gb 0 60 (Gr.aC (a.dI n).g),.cells b.sb 0 158 (Sp.aB (a.dI n).s),.cells b.qb 0 2281 (Fa.aq c1.q),.fam Fa.aH (Fa.SC.rows 254 c1.q),.cells b.bb 0 577 (Vm.bz b.vp (a.dI n).v.by_ (a.dI n).v.rf),.cells b.vp 0 71 (Vm.au (a.dI n).v.bb.bJ),.cfam (bN (a.dI n)) c1.mb 34 (cN b.bb (a.dI n).f c1.pp c1.cc),.fam (bN (a.dI n)) (rN 171 (a.dI n).f c1.pp c1.cc),.cells b.tb 0 321 (Tr.ay c1.F),.fam Tr.ai (Tr.FC.aD 9 c1.F),.fam Tr.ai (Tr.FC.aF 3 c1.F),aZ c1.rp c1.rc 3 c1.rl,.cells b.pi 0 24 (Tr.au (a.dI n).P),.cells b.ob 0 122 (Tr.az b.tb b.pi (a.dI n).O),.cfam (bO (a.dI n)) (fun z=>(c1.t z).b) 4 (cT b.tb c1.t),.fam (bO (a.dI n)) (rT 168 c1.t)]):=by
 have hop:=tv a.P a.O
 have h1:a.slot n=fc (a.u n).fd 0:=rfl
 have h2:a.pJ n=fc (a.u n).fd (fc (a.u n).fd 0+1):=rfl
 refine Spec.go 62 [0,1,4,5,6,7,8,9,10,11,12,20,25,32,44] [] Tryz.func20 rfl rfl rfl ?_
 intro W
 refine ca (lD b.kb (kp a b c) n) .h1 ?_
 rintro _ _ ⟨⟨hl,rfl⟩ | ⟨hl,rfl⟩,rfl⟩
 ·
  try dsimp only[aT,aV,bu,bj,bk,bd,aW,bh,aY,aX,aP,aN,aQ,aO]
  obtain⟨hlr,hls⟩:=KP.gi hl
  have hl:a.live n=0:=hl
  have hls:(a.u n).st=1:=hls
  refine gO ?_
  refine ca (AH a b c n hlr 0 (by omega)) .h1 ?_
  rintro _ _ ⟨rfl,rfl⟩
  refine gO ?_
  refine cd rfl ?_ ?_<;>intro h1
  ·
   refine XE.sE rfl rfl rfl rfl (ab .la rfl ?_)
   try dsimp only[SW.den,SV.den,aj,aL]
   have e1:a.jg n=4:=by unfold KA.jg;rw[if_neg (by omega),if_pos (by omega)]
   have e2:a.kK n=0:=by unfold KA.kK;rw[if_neg (by omega)]
   have e3:a.kM n=0:=by unfold KA.kM;rw[if_neg (by omega)]
   have e4:a.dI n=a:=by unfold KA.dI;rw[if_pos (by omega)]
   rw[e1,e2,e3,e4];exact⟨rfl,c,hc.up (Nat.le_refl _) (by omega),rfl⟩
  ·
   have hsl:=tD (a.u n).fd 0 (by omega)
   refine sd (by omega) ?_
   refine ca (AH a b c n hlr (fc (a.u n).fd 0+1) (by omega)) .h1 ?_
   rintro _ _ ⟨rfl,rfl⟩
   refine gO ?_
   refine cd rfl ?_ ?_<;>intro h2
   ·
    refine XE.sE rfl rfl rfl rfl (ab .la rfl ?_)
    try dsimp only[SW.den,SV.den,aj,aL]
    have e1:a.jg n=4:=by unfold KA.jg;rw[if_neg (by omega),if_pos (by omega)]
    have e2:a.kK n=0:=by unfold KA.kK;rw[if_neg (by omega)]
    have e3:a.kM n=0:=by unfold KA.kM;rw[if_neg (by omega)]
    have e4:a.dI n=a:=by unfold KA.dI;rw[if_pos (by omega)]
    rw[e1,e2,e3,e4];exact⟨rfl,c,hc.up (Nat.le_refl _) (by omega),rfl⟩
   ·
    have hsm:=tD (a.u n).fd (fc (a.u n).fd 0+1) (by omega)
    refine ld .here (ah.B7 _) ?_
    refine ca (Tr.Le _ _ _ _ _ T (by omega) _ ho.wk.PI) (.cons (.t12 (.t2 .here)) (.cons (.t12 (.there .here)) .nil)) ?_
    rintro _ _ ⟨rfl,rfl⟩
    refine gO ?_
    refine cd rfl ?_ ?_<;>intro h3
    ·
     refine XE.sE rfl rfl rfl rfl (ab (.cons (.t2 .here) (.cons (.t2 .here) (.cons (.t2 .here) (.cons (.t2 .here) (.cons (.t2 .here) (.cons (.t2 .here) (.cons (.t2 .here) (.cons (.t2 .here) (.cons (.t2 .here) (.cons (.t2 .here) (.cons (.t2 .here) (.cons (.t2 .here) (.cons (.t2 .here) (.cons (.there .here) .h3)))))))))))))) rfl ?_)
     try dsimp only[SW.den,SV.den,aj,aL]
     have e1:a.jg n=Tr.eI a.P a.O:=by unfold KA.jg;rw[if_neg (by omega),if_neg (by omega)]
     have h0:¬Tr.eI a.P a.O=0:=by omega
     have e2:a.kK n=0:=by unfold KA.kK;rw[if_neg (by omega)]
     have e3:a.kM n=0:=by unfold KA.kM;rw[if_neg (by omega)]
     have e4:a.dI n= {a with O:=Tr.gj a.P a.O,P:=Tr.gm a.P a.O} :=by unfold KA.dI;rw[if_neg (by omega),if_neg h0]
     rw[e1,e2,e3,e4];exact⟨rfl,c,hc.same (by omega) rfl,rfl⟩
    ·
     refine rq [0,1,2,3,4,5,6,7,8,9,10,12,13,11,14,15] mixed (by kernel_rfl) ?_
     refine sd (by omega) ?_
     refine sd (by omega) ?_
     refine sd (by omega) ?_
     refine st (.t2 .here) (ah.Ej _ hlr ⟨hsl.1,hsl.2.1⟩ _) rfl ?_
     refine sd (by omega) ?_
     refine st (.t2 .here) (ah.Ej _ hlr ⟨hsm.1,hsm.2.1⟩ _) rfl ?_
     refine XE.sE rfl rfl rfl rfl (ab (.cons (.t2 .here) (.cons (.t2 .here) (.cons (.t2 .here) (.cons (.t2 .here) (.cons (.t2 .here) (.cons (.t2 .here) (.cons (.t2 .here) (.cons (.t2 .here) (.cons (.t2 .here) (.cons (.t2 .here) (.cons (.t2 .here) (.cons (.t2 .here) (.cons (.t2 .here) (.cons (.there .here) .h3)))))))))))))) rfl ?_)
     try dsimp only[SW.den,SV.den,aj,aL]
     have e1:a.jg n=Tr.eI a.P a.O:=by unfold KA.jg;rw[if_neg (by omega),if_neg (by omega)]
     have h0:Tr.eI a.P a.O=0:=by omega
     have e2:a.kK n=a.slot n:=by unfold KA.kK;rw[if_pos (by omega)]
     have e3:a.kM n=a.pJ n:=by unfold KA.kM;rw[if_pos (by omega)]
     have e4:a.dI n= {a with u:=sN (sN a.u n (a.slot n) (Tr.fH a.P a.O+1)) n (a.pJ n) (Tr.gl a.P a.O+1),O:=Tr.gj a.P a.O,P:=Tr.gm a.P a.O} :=by unfold KA.dI;rw[if_neg (by omega),if_pos h0]
     rw[e1,e2,e3,e4,h0]
     refine⟨rfl,c,hc.same (by omega) rfl,?_⟩
     rw[Gw a b c n (fc (a.u n).fd 0) (Tr.fH a.P a.O+1) a.O a.P,Gw {a with u:=sN a.u n (fc (a.u n).fd 0) (Tr.fH a.P a.O+1),O:=a.O,P:=a.P} b c n (fc (a.u n).fd (fc (a.u n).fd 0+1)) (Tr.gl a.P a.O+1) (Tr.gj a.P a.O) (Tr.gm a.P a.O)]
     rw[Fb]
     all_goals rfl
 ·
  try dsimp only[aT,aV,bu,bj,bk,bd,aW,bh,aY,aX,aP,aN,aQ,aO]
  have hl:a.live n≠0:=hl
  have hlk:(kp a b c).live n=a.live n:=rfl
  rw[hlk]
  refine gO ?_
  refine XE.sE rfl rfl rfl rfl (ab .la rfl ?_)
  try dsimp only[SW.den,SV.den,aj,aL]
  have e1:a.jg n=a.live n:=by unfold KA.jg;rw[if_pos hl]
  have e2:a.kK n=0:=by unfold KA.kK;rw[if_neg (by omega)]
  have e3:a.kM n=0:=by unfold KA.kM;rw[if_neg (by omega)]
  have e4:a.dI n=a:=by unfold KA.dI;rw[if_pos (by omega)]
  rw[e1,e2,e3,e4,aJ _ hl];exact⟨rfl,c,hc.up (Nat.le_refl _) (by omega),rfl⟩
theorem IT(a:KA)(b:KZ)(c:KC)(N:Nat)(T:Int)(ho:a.Ok T)(hc:eQ a c N T)(hT:T≤800000)(n i m:Int):Spec Tryz.prog 22 [ptr b.kb 0 0,.int .i64 n,.int .i64 i,.int .i64 m] [.cells b.kb 0 453 (ah (kp a b c)),.cells b.gb 0 60 (Gr.aC a.g),.cells b.sb 0 158 (Sp.aB a.s),.cells b.qb 0 2281 (Fa.aq c.q),.fam Fa.aH (Fa.SC.rows 254 c.q),.cells b.bb 0 577 (Vm.bz b.vp a.v.by_ a.v.rf),.cells b.vp 0 71 (Vm.au a.v.bb.bJ),.cfam (bN a) c.mb 34 (cN b.bb a.f c.pp c.cc),.fam (bN a) (rN 171 a.f c.pp c.cc),.cells b.tb 0 321 (Tr.ay c.F),.fam Tr.ai (Tr.FC.aD 9 c.F),.fam Tr.ai (Tr.FC.aF 3 c.F),aZ c.rp c.rc 3 c.rl,.cells b.pi 0 24 (Tr.au a.P),.cells b.ob 0 122 (Tr.az b.tb b.pi a.O),.cfam (bO a) (fun z=>(c.t z).b) 4 (cT b.tb c.t),.fam (bO a) (rT 168 c.t)] (fun v H1=>v= .tuple #[.string (a.ek c.F.toFF n i m),bH 102 (a.ew c.F.toFF n i m)]∧∃ c1:KC,eQ (a.dz c.F.toFF n i m) c1 N (T+1)∧H1=[.cells b.kb 0 453 (ah (kp (a.dz c.F.toFF n i m) b c1)),.cells b.gb 0 60 (Gr.aC (a.dz c.F.toFF n i m).g),.cells b.sb 0 158 (Sp.aB (a.dz c.F.toFF n i m).s),.cells b.qb 0 2281 (Fa.aq c1.q),.fam Fa.aH (Fa.SC.rows 254 c1.q),.cells b.bb 0 577 (Vm.bz b.vp (a.dz c.F.toFF n i m).v.by_ (a.dz c.F.toFF n i m).v.rf),.cells b.vp 0 71 (Vm.au (a.dz c.F.toFF n i m).v.bb.bJ),.cfam (bN (a.dz c.F.toFF n i m)) c1.mb 34 (cN b.bb (a.dz c.F.toFF n i m).f c1.pp c1.cc),.fam (bN (a.dz c.F.toFF n i m)) (rN 171 (a.dz c.F.toFF n i m).f c1.pp c1.cc),.cells b.tb 0 321 (Tr.ay c1.F),.fam Tr.ai (Tr.FC.aD 9 c1.F),.fam Tr.ai (Tr.FC.aF 3 c1.F),aZ c1.rp c1.rc 3 c1.rl,.cells b.pi 0 24 (Tr.au (a.dz c.F.toFF n i m).P),.cells b.ob 0 122 (Tr.az b.tb b.pi (a.dz c.F.toFF n i m).O),.cfam (bO (a.dz c.F.toFF n i m)) (fun z=>(c1.t z).b) 4 (cT b.tb c1.t),.fam (bO (a.dz c.F.toFF n i m)) (rT 168 c1.t)]):=by
 refine Spec.go 31 [0,1,2,3,8,9,10,11,20] [] Tryz.func22 rfl rfl rfl ?_
 intro W
 refine ca (zS a b c ho.wk.fd n i) .h1 ?_
 rintro _ _ ⟨rfl,rfl⟩
 refine gO ?_
 refine cd rfl ?_ ?_<;>intro h1
 ·
  refine XE.aU rfl rfl rfl (ab .la rfl ?_)
  try dsimp only[SW.den,SV.den,aj,aL]
  have e1:a.ew c.F.toFF n i m=a.cI n i:=by unfold KA.ew;rw[if_pos (by omega)]
  have e2:a.ek c.F.toFF n i m=⟨#[]⟩:=by unfold KA.ek;rw[if_pos (by omega)]
  have e3:a.dz c.F.toFF n i m=a:=by unfold KA.dz;rw[if_pos (by omega)]
  rw[e1,e2,e3];exact⟨rfl,c,hc.up (Nat.le_refl _) (by omega),rfl⟩
 ·
  have hp0:a.cI n i=0:=by omega
  obtain⟨hn,hs,hi,hf,hv⟩:=KA.k7 hp0
  have hfd:=ho.wk.fd n i
  refine ld .here (ah.B7 _) ?_
  refine ca (Tr.JR _ _ _ _ _ T (by omega) ho.wk.OI c.F (hc.F.sh (by omega)) T (by omega) _ ho.wk.PI (a.cn n i) m) (.cons (.t12 (.t2 .here)) (.cons (.t9 .here) (.cons (.t9 .here) (.cons (.t9 .here) (.cons (.t10 .here) .nil))))) ?_
  rintro _ _ ⟨rfl,rfl⟩
  refine gO ?_
  refine XE.aU rfl rfl rfl (ab (.cons (.t5 .here) (.cons (.t5 .here) (.cons (.t5 .here) (.cons (.t5 .here) (.cons (.t5 .here) (.cons (.t5 .here) (.cons (.t5 .here) (.cons (.t5 .here) (.cons (.t5 .here) (.cons (.there .here) (.cons (.there .here) (.cons (.there .here) (.cons (.t2 .here) (.cons (.there .here) .h3)))))))))))))) rfl ?_)
  try dsimp only[SW.den,SV.den,aj,aL]
  have e1:a.ew c.F.toFF n i m=Tr.gF c.F.toFF a.P a.O (a.cn n i) m:=by unfold KA.ew;rw[if_neg (by omega)]
  have e2:a.ek c.F.toFF n i m=Tr.gJ c.F.toFF a.P a.O (a.cn n i) m:=by unfold KA.ek;rw[if_neg (by omega)]
  have e3:a.dz c.F.toFF n i m= {a with O:=Tr.fM c.F.toFF a.O (a.cn n i) m,P:=Tr.fL a.P a.O (a.cn n i) m} :=by unfold KA.dz;rw[if_neg (by omega)]
  rw[e1,e2,e3];exact⟨rfl,c,hc.same (by omega) rfl,rfl⟩
set_option maxHeartbeats 8000000 in
theorem F2(a:KA)(b:KZ)(c:KC)(N:Nat)(T:Int)(ho:a.Ok T)(hc:eQ a c N T)(hT:T≤800000)(n i:Int)(x:ByteArray)(hx:x.size≤1000000):Spec Tryz.prog 21 [ptr b.kb 0 0,.int .i64 n,.int .i64 i,.string x] [.cells b.kb 0 453 (ah (kp a b c)),.cells b.gb 0 60 (Gr.aC a.g),.cells b.sb 0 158 (Sp.aB a.s),.cells b.qb 0 2281 (Fa.aq c.q),.fam Fa.aH (Fa.SC.rows 254 c.q),.cells b.bb 0 577 (Vm.bz b.vp a.v.by_ a.v.rf),.cells b.vp 0 71 (Vm.au a.v.bb.bJ),.cfam (bN a) c.mb 34 (cN b.bb a.f c.pp c.cc),.fam (bN a) (rN 171 a.f c.pp c.cc),.cells b.tb 0 321 (Tr.ay c.F),.fam Tr.ai (Tr.FC.aD 9 c.F),.fam Tr.ai (Tr.FC.aF 3 c.F),aZ c.rp c.rc 3 c.rl,.cells b.pi 0 24 (Tr.au a.P),.cells b.ob 0 122 (Tr.az b.tb b.pi a.O),.cfam (bO a) (fun z=>(c.t z).b) 4 (cT b.tb c.t),.fam (bO a) (rT 168 c.t),.ro 0 0 32 Sg.cX] (fun v H1=>v= .tuple #[.int .i64 (a.fI c.F.toFF n i x),bH 102 (a.b7 c.F.toFF n i x)]∧∃ c1:KC,eQ (a.cD c.F.toFF n i x) c1 N (T+1)∧H1=[.cells b.kb 0 453 (ah (kp (a.cD c.F.toFF n i x) b c1)),.cells b.gb 0 60 (Gr.aC (a.cD c.F.toFF n i x).g),.cells b.sb 0 158 (Sp.aB (a.cD c.F.toFF n i x).s),.cells b.qb 0 2281 (Fa.aq c1.q),.fam Fa.aH (Fa.SC.rows 254 c1.q),.cells b.bb 0 577 (Vm.bz b.vp (a.cD c.F.toFF n i x).v.by_ (a.cD c.F.toFF n i x).v.rf),.cells b.vp 0 71 (Vm.au (a.cD c.F.toFF n i x).v.bb.bJ),.cfam (bN (a.cD c.F.toFF n i x)) c1.mb 34 (cN b.bb (a.cD c.F.toFF n i x).f c1.pp c1.cc),.fam (bN (a.cD c.F.toFF n i x)) (rN 171 (a.cD c.F.toFF n i x).f c1.pp c1.cc),.cells b.tb 0 321 (Tr.ay c1.F),.fam Tr.ai (Tr.FC.aD 9 c1.F),.fam Tr.ai (Tr.FC.aF 3 c1.F),aZ c1.rp c1.rc 3 c1.rl,.cells b.pi 0 24 (Tr.au (a.cD c.F.toFF n i x).P),.cells b.ob 0 122 (Tr.az b.tb b.pi (a.cD c.F.toFF n i x).O),.cfam (bO (a.cD c.F.toFF n i x)) (fun z=>(c1.t z).b) 4 (cT b.tb c1.t),.fam (bO (a.cD c.F.toFF n i x)) (rT 168 c1.t)]):=by
 refine Spec.go 41 [0,1,2,3,8,9,10,11,12,21,35] [] Tryz.func21 rfl rfl rfl ?_
 intro W
 refine ca (zS a b c ho.wk.fd n i) .h1 ?_
 rintro _ _ ⟨rfl,rfl⟩
 refine gO ?_
 refine cd rfl ?_ ?_<;>intro h1
 ·
  refine XE.aU rfl rfl rfl (ab .la rfl ?_)
  try dsimp only[SW.den,SV.den,aj,aL]
  have e1:a.b7 c.F.toFF n i x=a.cI n i:=by unfold KA.b7;rw[if_pos (by omega)]
  have e2:a.fI c.F.toFF n i x=0:=by unfold KA.fI;rw[if_pos (by omega)]
  have e3:a.cD c.F.toFF n i x=a:=by unfold KA.cD;rw[if_pos (by omega)]
  rw[e1,e2,e3];exact⟨rfl,c,hc.up (Nat.le_refl _) (by omega),rfl⟩
 ·
  have hp0:a.cI n i=0:=by omega
  obtain⟨hn,hs,hi,hf,hv⟩:=KA.k7 hp0
  have hfd:=ho.wk.fd n i
  refine ld .here (ah.B7 _) ?_
  refine ca (Tr.Is _ _ _ _ _ T (by omega) ho.wk.OI c.F (hc.F.sh (by omega)) T (by omega) _ ho.wk.PI (a.cn n i) x hx) (.cons (.t12 (.t2 .here)) (.cons (.t9 .here) (.cons (.t9 .here) (.cons (.t9 .here) (.cons (.t10 .here) .nil))))) ?_
  rintro _ _ ⟨rfl,F1,hF1,hp1,hr1,rfl⟩
  have hcf:eQ (a.lu c.F.toFF n i x) {c with F:=F1} N (T+1):=⟨hc.qO,hc.qR,(by show F1.toFF.Ok _ _;rw[hF1];exact qL hc.F _ _ _),hp1.trans hc.rp,hr1.trans hc.rc,(by show F1.toFF.roots=_;rw[hF1,Tr.sV];exact hc.rl),hc.tb⟩
  refine gO ?_
  refine XO.v (V.M7 rfl rfl (by decide) Tryz.underlying33 Iq rfl Tryz.underlying102 rfl) rfl (gO ?_)
  refine cd rfl ?_ ?_<;>intro h2
  ·
   refine u9 17 (K4 (a.lu c.F.toFF n i x) b {c with F:=F1} N (T+1) (ho.wrote (by omega) c.F.toFF n i x).wk hcf (by omega) n 2 false ((ho.wrote (by omega) c.F.toFF n i x).hx.any n)) (.cons (.t5 .here) (.cons (.t5 .here) (.cons (.t5 .here) (.cons (.t5 .here) (.cons (.t5 .here) (.cons (.t5 .here) (.cons (.t5 .here) (.cons (.t5 .here) (.cons (.t5 .here) (.cons (.there .here) (.cons (.there .here) (.cons (.there .here) (.cons (.t2 .here) (.cons (.there .here) .h4)))))))))))))) rfl ?_
   rintro _ _ ⟨c1,hc1,rfl⟩
   refine gO ?_
   refine XE.aU rfl rfl rfl (ab .la rfl ?_)
   try dsimp only[SW.den,SV.den,aj,aL]
   have e1:a.b7 c.F.toFF n i x=(Tr.dh c.F.toFF a.P a.O (a.cn n i) x):=by unfold KA.b7;rw[if_neg (by omega)]
   have e2:a.fI c.F.toFF n i x=Tr.dt c.F.toFF a.P a.O (a.cn n i) x:=by unfold KA.fI;rw[if_neg (by omega)]
   have e3:a.cD c.F.toFF n i x=(a.lu c.F.toFF n i x).fD n 2 false:=by unfold KA.cD;rw[if_neg (by omega),if_pos (by omega)]
   rw[e1,e2,e3];exact⟨rfl,c1,hc1,rfl⟩
  ·
   refine XE.aU rfl rfl rfl (ab (.cons (.t5 .here) (.cons (.t5 .here) (.cons (.t5 .here) (.cons (.t5 .here) (.cons (.t5 .here) (.cons (.t5 .here) (.cons (.t5 .here) (.cons (.t5 .here) (.cons (.t5 .here) (.cons (.there .here) (.cons (.there .here) (.cons (.there .here) (.cons (.t2 .here) (.cons (.there .here) .h3)))))))))))))) rfl ?_)
   try dsimp only[SW.den,SV.den,aj,aL]
   have e1:a.b7 c.F.toFF n i x=(Tr.dh c.F.toFF a.P a.O (a.cn n i) x):=by unfold KA.b7;rw[if_neg (by omega)]
   have e2:a.fI c.F.toFF n i x=Tr.dt c.F.toFF a.P a.O (a.cn n i) x:=by unfold KA.fI;rw[if_neg (by omega)]
   have e3:a.cD c.F.toFF n i x=a.lu c.F.toFF n i x:=by unfold KA.cD;rw[if_neg (by omega),if_neg (by omega)]
   rw[e1,e2,e3];exact⟨rfl,_,hcf,rfl⟩
end Go.X.Kn

namespace Go.X.Fa
open Go Go.Proofs Go.X
set_option maxRecDepth 20000
set_option maxHeartbeats 4000000
theorem Gd:Spec Tryz.prog 97 [] [] (fun v H1=>∃ p,v=ptr p 0 0∧∃ t:SC,t.toSF=SF.init∧t.jB∧H1=[.cells p 0 2281 (aq t),.fam aH (t.rows 254)]):=by
 refine Spec.go 10 [0,1] [] Tryz.func97 rfl rfl rfl ?_
 intro W
 refine XO.v (V.build (vs:= #[]) rfl (v:=.agg Ea) (fun _=>by kernel_rfl)) rfl (gO ?_)
 refine XO.box (m:=2281) (C:=aq SC.void) rfl Cc Dn rfl ?_
 intro p
 refine XO.mono (fun _ hw3=>XM.Hd 254 hw3) ?_
 refine gO ?_
 refine XO.v (V.build (vs:= #[(0,.bool true),(1,.int .i64 (-1)),(2,.int .i64 1)]) rfl (v:=.agg (gL (qj true (-1) 1))) (fun _=>by kernel_rfl)) rfl (gO ?_)
 refine sd (by omega) ?_
 refine oS ?_
 refine XO.eZ rfl rfl (.there .here) (sm _ 0 (-1) 1 true (by omega)) (mJ _) od ?_
 refine XO.mono (fun _ hw3=>XM.newRow (s:=SC.void) (z:=0) (by omega) (.cons .here .nil) hw3) ?_
 refine gO ?_
 refine XE.aK rfl rfl (ab (.cons (.there .here) .h1) rfl ?_)
 try dsimp only[SW.den,SV.den,aj,aL]
 exact⟨_,rfl,_,rfl,SC.jB.void.new rfl (fun i hi=>by cases hi) (-1) 1 true,rfl⟩
end Go.X.Fa

namespace Go.X.Tr
open Go Go.X
theorem om:∀ i,i<24→cellsOf (Value.agg #[.string ⟨#[]⟩,.int .i64 0,.int .i64 0,.string ⟨#[]⟩,.int .i64 0,.int .i64 0,.string ⟨#[]⟩,.int .i64 0,.int .i64 0,.string ⟨#[]⟩,.int .i64 0,.int .i64 0,.string ⟨#[]⟩,.int .i64 0,.int .i64 0,.string ⟨#[]⟩,.int .i64 0,.int .i64 0,.string ⟨#[]⟩,.int .i64 0,.int .i64 0,.string ⟨#[]⟩,.int .i64 0,.int .i64 0]).cells i=au PS.init i:=fun i hi=>match i,hi with
 | 0,_=>rfl
 | 1,_=>rfl
 | 2,_=>rfl
 | 3,_=>rfl
 | 4,_=>rfl
 | 5,_=>rfl
 | 6,_=>rfl
 | 7,_=>rfl
 | 8,_=>rfl
 | 9,_=>rfl
 | 10,_=>rfl
 | 11,_=>rfl
 | 12,_=>rfl
 | 13,_=>rfl
 | 14,_=>rfl
 | 15,_=>rfl
 | 16,_=>rfl
 | 17,_=>rfl
 | 18,_=>rfl
 | 19,_=>rfl
 | 20,_=>rfl
 | 21,_=>rfl
 | 22,_=>rfl
 | 23,_=>rfl
 | k+24,h=>absurd h (by omega)
end Go.X.Tr

namespace Go.X.Kn
open Go Go.Proofs Go.X
set_option maxRecDepth 20000
set_option maxHeartbeats 4000000
theorem wx(mb:Nat):∀ w,(Instr.build 89 #[(0,.int .i64 1),(1,.int .i64 (-1)),(4,ptr mb 0 0)]).run Tryz.prog w= .ok (.agg (PU.arr (rV mb))) w:=fun w=>by kernel_rfl
theorem B3(a b c d e f:Nat):∀ w,(Instr.build 101 #[(1,ptr a 0 0),(2,ptr b 0 0),(3,ptr c 0 0),(4,ptr d 0 0),(5,ptr e 0 0),(6,ptr f 0 0)]).run Tryz.prog w= .ok (.agg (ud (KP.raw a b c d e f))) w:=fun w=>by kernel_rfl
end Go.X.Kn

namespace Go.X.Kn
open Go Go.Proofs Go.X
set_option maxRecDepth 20000
set_option maxHeartbeats 4000000
attribute [local irreducible] KA.aS KA.bS
set_option maxHeartbeats 16000000 in
theorem LJ:Spec Tryz.prog 37 [] [] (fun x H1=>∃ (b:KZ) (c:KC),x=ptr b.kb 0 0∧c.q.toSF=Q2∧c.d=dK∧eQ A0 c 1 2∧H1=[.cells b.kb 0 453 (ah (kp A0 b c)),.cells b.gb 0 60 (Gr.aC A0.g),.cells b.sb 0 158 (Sp.aB A0.s),.cells b.qb 0 2281 (Fa.aq c.q),.fam Fa.aH (Fa.SC.rows 254 c.q),.cells b.bb 0 577 (Vm.bz b.vp A0.v.by_ A0.v.rf),.cells b.vp 0 71 (Vm.au A0.v.bb.bJ),.cfam (bN A0) c.mb 34 (cN b.bb A0.f c.pp c.cc),.fam (bN A0) (rN 171 A0.f c.pp c.cc),.cells b.tb 0 321 (Tr.ay c.F),.fam Tr.ai (Tr.FC.aD 9 c.F),.fam Tr.ai (Tr.FC.aF 3 c.F),aZ c.rp c.rc 3 c.rl,.cells b.pi 0 24 (Tr.au A0.P),.cells b.ob 0 122 (Tr.az b.tb b.pi A0.O),.cfam (bO A0) (fun z=>(c.t z).b) 4 (cT b.tb c.t),.fam (bO A0) (rT 168 c.t)]):=by
 refine Spec.go 77 [0,1] [] Tryz.func37 rfl rfl rfl ?_
 intro W
 refine ca (Gr.M8) .nil ?_
 rintro _ _ ⟨gb,rfl,rfl⟩
 refine gO ?_
 refine ca (Sp.D1) .nil ?_
 rintro _ _ ⟨sb,rfl,rfl⟩
 refine gO ?_
 refine ca (Fa.Gd) .nil ?_
 rintro _ _ ⟨qb,rfl,q0,hq0,hr0,rfl⟩
 refine gO ?_
 refine ca (Vm.CP) .nil ?_
 rintro _ _ ⟨bb,vp,rfl,rfl⟩
 refine gO ?_
 refine ca (Tr.D1) .nil ?_
 rintro _ _ ⟨tb,rfl,rfl⟩
 refine gO ?_
 refine XO.v (V.build (vs:= #[]) rfl (v:=.agg #[.string ⟨#[]⟩,.int .i64 0,.int .i64 0,.string ⟨#[]⟩,.int .i64 0,.int .i64 0,.string ⟨#[]⟩,.int .i64 0,.int .i64 0,.string ⟨#[]⟩,.int .i64 0,.int .i64 0,.string ⟨#[]⟩,.int .i64 0,.int .i64 0,.string ⟨#[]⟩,.int .i64 0,.int .i64 0,.string ⟨#[]⟩,.int .i64 0,.int .i64 0,.string ⟨#[]⟩,.int .i64 0,.int .i64 0]) (fun _=>by kernel_rfl)) rfl (gO ?_)
 refine XO.box (m:=24) (C:=Tr.au Tr.PS.init) rfl rfl Tr.om rfl ?_
 intro pi
 refine gO ?_
 refine XO.v (V.build (vs:= #[(1,ptr gb 0 0),(2,ptr sb 0 0),(3,ptr qb 0 0),(4,ptr bb 0 0),(5,ptr tb 0 0),(6,ptr pi 0 0)]) rfl (v:=.agg (ud (KP.raw gb sb qb bb tb pi))) (B3 _ _ _ _ _ _)) rfl (gO ?_)
 refine XO.box (m:=453) (C:=ka (KP.raw gb sb qb bb tb pi)) rfl (zh _) (Cp _) rfl ?_
 intro kb
 refine gO ?_
 refine rq [0,1,2,3,4,5,6,7,8,9,10,11,12] mixed (by kernel_rfl) ?_
 refine ld .here (ka.HI _) ?_
 refine ld .here (ka.MU _) ?_
 refine ca (Tr.Gd tb pi) .nil ?_
 rintro _ _ ⟨ob,rfl,rfl⟩
 refine gO ?_
 refine st (.there .here) (ka.NF _ _) rfl ?_
 refine ld (.there .here) (ah.HI _) ?_
 refine ca (Tr.Ja _ _ _ (Tr.FF.w6.sh (by omega))) (.cons (.t3 .here) (.cons (.t3 .here) (.cons (.t3 .here) (.cons (.t3 .here) .nil)))) ?_
 rintro _ _ ⟨t0,rfl,ht0,rfl⟩
 obtain⟨d1,o1⟩:=Tr.FF.w6.pG
 have o2:t0.toFF.Ok d1 (0+1):=by rw[ht0];exact o1
 have hrt:t0.iK 0=0:=by show t0.toFF.iK 0=0;rw[ht0];decide+kernel
 refine gO ?_
 refine rq [0,1,2,3,4,9,10,5,6,7,8,11,12] mixed (by kernel_rfl) ?_
 refine ld (.t5 .here) (ah.HI _) ?_
 refine ca (Tr.L8 _ t0 d1 _ o2 (by omega) 0) .h4 ?_
 rintro _ _ (⟨hne,rfl,rfl⟩ | ⟨_,bt,u0,rfl,hu0,up0,uc0,rfl⟩)
 ·
  exact absurd hrt hne
  skip
 ·
  try dsimp only[aT,aV,bu,bj,bk,bd,aW,bh,aY,aX,aP,aN,aQ,aO]
  refine gO ?_
  refine sd (by omega) ?_
  refine st (.t7 .here) (ah.ET _ (by omega) _) rfl ?_
  refine rq [0,1,2,3,4,7,8,5,6,9,10] mixed (by kernel_rfl) ?_
  refine ld (.t7 .here) (ah.FR _) ?_
  refine ca (Vm.MZ bb) .nil ?_
  rintro _ _ ⟨mb,rfl,rfl⟩
  refine gO ?_
  refine XO.v (V.build (vs:= #[(0,.int .i64 1),(1,.int .i64 (-1)),(4,ptr mb 0 0)]) rfl (v:=.agg (PU.arr (rV mb))) (wx mb)) rfl (gO ?_)
  refine sd (by omega) ?_
  refine jV (.t9 .here) (ah.sa _ (by omega) (rV mb)) rfl ⟨rfl,rfl⟩ ?_
  refine ld (.t9 .here) (ah.BZ _) ?_
  refine ca (Gr.re _ _ Gr.TG.init Gr.TG.Inv.init.ok 0 1 0 0 (by omega) Gr.TG.Small.init) (.cons (.t12 (.t4 .here)) .nil) ?_
  rintro _ _ ⟨rfl,rfl⟩
  refine gO ?_
  refine ld (.t10 .here) (ah.nN _) ?_
  refine ca (Sp.uT _ _ Sp.SS.init (fun _=>1) Sp.SS.Inv.init.D 0 0) (.cons (.t12 (.t4 .here)) .nil) ?_
  rintro _ _ ⟨rfl,rfl⟩
  refine gO ?_
  refine ld (.t11 .here) (ah.xJ _) ?_
  refine ca (Fa.oH _ _ q0 (fun _=>0) (by rw[hq0];exact Fa.SF.AV.inv) hr0 0 0 100) (.cons (.t12 (.t3 .here)) (.cons (.t12 (.t3 .here)) .nil)) ?_
  rintro _ _ ⟨rfl,q1,hq1,hr1,rfl⟩
  have hq1:q1.toSF=Q1:=by rw[hq1,hq0];rfl
  refine gO ?_
  refine ld (.t12 (.there .here)) (ah.xJ _) ?_
  refine ca (Fa.yq _ _ q1 dK (by rw[hq1];exact Jm.inv) hr1 0 true) .h2 ?_
  rintro _ _ ⟨rfl,q2,hq2,hr2,rfl⟩
  have hq2:q2.toSF=Q2:=by rw[hq2,hq1];rfl
  refine gO ?_
  refine XR.mono (fun _ hw3=>XM.Kq (z:=(0:Int).toNat) Vm.MS.nil (.cons (.t4 .here) (.cons (.t4 .here) .nil)) hw3) ?_
  rw[fX (fun _=>Vm.MS.nil)]
  refine XR.mono (fun _ hw3=>XM.Ku (z:=(0:Int).toNat) (⟨bt,⟨0,t0.ed 0⟩,[],none,0,0,0,Tr.C0⟩:TB) (.cons (.t6 .here) (.cons (.t6 .here) .nil)) hw3) ?_
  refine XE.aK rfl rfl (ab (.cons (.t12 (.there .here)) (.cons (.t7 .here) (.cons (.t6 .here) (.cons (.t4 .here) (.cons (.t4 .here) (.cons (.t10 .here) (.cons (.t10 .here) (.cons (.t2 .here) (.cons (.t2 .here) (.cons (.t2 .here) (.cons (.t2 .here) (.cons (.t2 .here) (.cons (.t2 .here) (.cons (.t3 .here) (.cons (.t2 .here) .h2))))))))))))))) rfl ?_)
  try dsimp only[SW.den,SV.den,aj,aL]
  refine⟨(⟨kb,gb,sb,qb,bb,tb,pi,ob,vp⟩:KZ),(⟨bF (fun _=>0) (0:Int).toNat mb,bF (fun _=>none) (0:Int).toNat none,bF (fun _=>0) (0:Int).toNat 0,q2,dK,u0,d1,t0.rP,t0.rC,t0.roots,bF (fun _=>(⟨bt,⟨0,t0.ed 0⟩,[],none,0,0,0,Tr.C0⟩:TB)) (0:Int).toNat (⟨bt,⟨0,t0.ed 0⟩,[],none,0,0,0,Tr.C0⟩:TB)⟩:KC),rfl,hq2,rfl,⟨(by show q2.toSF.Ok dK 1 1;rw[hq2];exact rE.mono (Nat.le_refl _) (by omega)),hr2,(by show u0.toFF.Ok d1 2;rw[hu0];exact o2.hold _),up0,uc0,(by show u0.toFF.roots=_;rw[hu0,jq]),fun z z0 z1 z2=> ?_⟩,?_⟩
  ·have et:bF (fun _=>(⟨bt,⟨0,t0.ed 0⟩,[],none,0,0,0,Tr.C0⟩:TB)) (0:Int).toNat (⟨bt,⟨0,t0.ed 0⟩,[],none,0,0,0,Tr.C0⟩:TB) z.toNat=(⟨bt,⟨0,t0.ed 0⟩,[],none,0,0,0,Tr.C0⟩:TB):=by unfold bF;split<;>rfl
   show(bF (fun _=>(⟨bt,⟨0,t0.ed 0⟩,[],none,0,0,0,Tr.C0⟩:TB)) (0:Int).toNat (⟨bt,⟨0,t0.ed 0⟩,[],none,0,0,0,Tr.C0⟩:TB) z.toNat).Ok
   rw[et]
   exact⟨.inl ⟨rfl,rfl⟩,fun i hi=>absurd hi (by show ¬i<0*4;omega),(by show 0≤6;omega)⟩
  ·rw[Lk,K7,K1 (⟨kb,gb,sb,qb,bb,tb,pi,ob,vp⟩:KZ) (⟨bF (fun _=>0) (0:Int).toNat mb,bF (fun _=>none) (0:Int).toNat none,bF (fun _=>0) (0:Int).toNat 0,q2,dK,u0,d1,t0.rP,t0.rC,t0.roots,bF (fun _=>(⟨bt,⟨0,t0.ed 0⟩,[],none,0,0,0,Tr.C0⟩:TB)) (0:Int).toNat (⟨bt,⟨0,t0.ed 0⟩,[],none,0,0,0,Tr.C0⟩:TB)⟩:KC) ob mb (⟨bt,⟨0,t0.ed 0⟩,[],none,0,0,0,Tr.C0⟩:TB) rfl rfl _ rfl]
   all_goals rfl
end Go.X.Kn
