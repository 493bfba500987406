import Derived.Test.YthdinakloheinaaGreatDoorkJB3
import Derived.Test.YthdinakloheinaaGreatDoorkJBG
namespace Go.X.Kn
open Go Go.Proofs Go.X
set_option maxRecDepth 20000
set_option maxHeartbeats 4000000
set_option maxHeartbeats 16000000 in
theorem Fz(a:KA)(b:KZ)(c:KC)(N:Nat)(T:Int)(hw:a.Wk T)(hc:eQ a c N T)(hT:T≤900000)(z h:Int):Spec Tryz.prog 130 [ptr b.kb 0 0,.int .i64 z,.int .i64 h] [.cells b.kb 0 453 (ah (kp a b c)),.cells b.gb 0 60 (Gr.aC a.g),.cells b.sb 0 158 (Sp.aB a.s),.cells b.qb 0 2281 (Fa.aq c.q),.fam Fa.aH (Fa.SC.rows 254 c.q),.cells b.bb 0 577 (Vm.bz b.vp a.v.by_ a.v.rf),.cells b.vp 0 71 (Vm.au a.v.bb.bJ),.cfam (bN a) c.mb 34 (cN b.bb a.f c.pp c.cc),.fam (bN a) (rN 171 a.f c.pp c.cc),.cells b.tb 0 321 (Tr.ay c.F),.fam Tr.ai (Tr.FC.aD 9 c.F),.fam Tr.ai (Tr.FC.aF 3 c.F),aZ c.rp c.rc 3 c.rl,.cells b.pi 0 24 (Tr.au a.P),.cells b.ob 0 122 (Tr.az b.tb b.pi a.O),.cfam (bO a) (fun z=>(c.t z).b) 4 (cT b.tb c.t),.fam (bO a) (rT 168 c.t)] (fun v H1=>∃ c1:KC,eQ (a.bM z h) c1 N T∧H1=[.cells b.kb 0 453 (ah (kp (a.bM z h) b c1)),.cells b.gb 0 60 (Gr.aC (a.bM z h).g),.cells b.sb 0 158 (Sp.aB (a.bM z h).s),.cells b.qb 0 2281 (Fa.aq c1.q),.fam Fa.aH (Fa.SC.rows 254 c1.q),.cells b.bb 0 577 (Vm.bz b.vp (a.bM z h).v.by_ (a.bM z h).v.rf),.cells b.vp 0 71 (Vm.au (a.bM z h).v.bb.bJ),.cfam (bN (a.bM z h)) c1.mb 34 (cN b.bb (a.bM z h).f c1.pp c1.cc),.fam (bN (a.bM z h)) (rN 171 (a.bM z h).f c1.pp c1.cc),.cells b.tb 0 321 (Tr.ay c1.F),.fam Tr.ai (Tr.FC.aD 9 c1.F),.fam Tr.ai (Tr.FC.aF 3 c1.F),aZ c1.rp c1.rc 3 c1.rl,.cells b.pi 0 24 (Tr.au (a.bM z h).P),.cells b.ob 0 122 (Tr.az b.tb b.pi (a.bM z h).O),.cfam (bO (a.bM z h)) (fun z=>(c1.t z).b) 4 (cT b.tb c1.t),.fam (bO (a.bM z h)) (rT 168 c1.t)]):=by
 refine Spec.go 62 [0,2,6,9,11,21,22,23,24,29,37,45,46,51,52,53,54] [] Tryz.func130 rfl rfl rfl ?_
 intro W
 refine ld .here (ah.nN _) ?_
 refine ca (Sp.Cf _ _ a.s z) (.cons (.t2 .here) .nil) ?_
 rintro _ _ ⟨p0,cap0,rfl,rfl⟩
 have hlen:(a.s.mem z).1.length≤21:=Sp.SS.HP _ _
 refine gO ?_
 refine lp (σ:=Int×KA×KC) (fun x=>((a.s.mem z).1.length-x.1).toNat) (fun x=>(0≤x.1∧x.1≤(a.s.mem z).1.length)∧x.2.1=(((a.s.mem z).1.take x.1.toNat).foldl (KA.dC h) a)∧x.2.1.Wk T∧eQ x.2.1 x.2.2 N T) (fun x=>[(23,.int .i64 x.1),(0,ptr b.kb 0 0),(2,.int .i64 h),(21,.slice p0 (a.s.mem z).1.length cap0),(22,.int .i64 (a.s.mem z).1.length)]) (fun x=>XM W (bR [.cells b.kb 0 453 (ah (kp a b c)),.cells b.gb 0 60 (Gr.aC a.g),.cells b.sb 0 158 (Sp.aB a.s),.cells b.qb 0 2281 (Fa.aq c.q),.fam Fa.aH (Fa.SC.rows 254 c.q),.cells b.bb 0 577 (Vm.bz b.vp a.v.by_ a.v.rf),.cells b.vp 0 71 (Vm.au a.v.bb.bJ),.cfam (bN a) c.mb 34 (cN b.bb a.f c.pp c.cc),.fam (bN a) (rN 171 a.f c.pp c.cc),.cells b.tb 0 321 (Tr.ay c.F),.fam Tr.ai (Tr.FC.aD 9 c.F),.fam Tr.ai (Tr.FC.aF 3 c.F),aZ c.rp c.rc 3 c.rl,.cells b.pi 0 24 (Tr.au a.P),.cells b.ob 0 122 (Tr.az b.tb b.pi a.O),.cfam (bO a) (fun z=>(c.t z).b) 4 (cT b.tb c.t),.fam (bO a) (rT 168 c.t)]) [aZ p0 cap0 3 (a.s.mem z).1,.cells b.kb 0 453 (ah (kp x.2.1 b x.2.2)),.cells b.gb 0 60 (Gr.aC x.2.1.g),.cells b.sb 0 158 (Sp.aB x.2.1.s),.cells b.qb 0 2281 (Fa.aq x.2.2.q),.fam Fa.aH (Fa.SC.rows 254 x.2.2.q),.cells b.bb 0 577 (Vm.bz b.vp x.2.1.v.by_ x.2.1.v.rf),.cells b.vp 0 71 (Vm.au x.2.1.v.bb.bJ),.cfam (bN x.2.1) x.2.2.mb 34 (cN b.bb x.2.1.f x.2.2.pp x.2.2.cc),.fam (bN x.2.1) (rN 171 x.2.1.f x.2.2.pp x.2.2.cc),.cells b.tb 0 321 (Tr.ay x.2.2.F),.fam Tr.ai (Tr.FC.aD 9 x.2.2.F),.fam Tr.ai (Tr.FC.aF 3 x.2.2.F),aZ x.2.2.rp x.2.2.rc 3 x.2.2.rl,.cells b.pi 0 24 (Tr.au x.2.1.P),.cells b.ob 0 122 (Tr.az b.tb b.pi x.2.1.O),.cfam (bO x.2.1) (fun z=>(x.2.2.t z).b) 4 (cT b.tb x.2.2.t),.fam (bO x.2.1) (rT 168 x.2.2.t)]) ((0,a,c)) ?_ (S5 rfl rfl rfl rfl rfl) (fun _ hw=>XM.pick (.cons .here (.cons (.there .here) (.cons (.there .here) .L0))) hw) ?_
 ·
  exact⟨by simp,rfl,hw,hc⟩
 intro x hx
 obtain⟨hi,hga,hgw,hcx⟩:=hx
 refine gC ?_
 refine cd rfl ?_ ?_<;>intro h1
 ·
  refine XR.cZ .here (by omega) ?_
  intro g1 h2
  subst h2
  refine sd (by omega) ?_
  refine D6 .here (ints_at (by omega)) ?_
  have hm9:=hw.yE z (Vm.jo (l:=(a.s.mem z).1) (i:=x.1) (by omega))
  have hm:=hm9.1
  have hms:(x.2.1.u (ep (a.s.mem z).1 x.1)).st≠0:=by rw[hga,KA.Ds a h (GA (SS.Cl hw.sI z) (by omega))];exact hm9.2
  refine cd rfl ?_ ?_<;>intro h3
  ·
   have hst:KA.dC h x.2.1 (ep (a.s.mem z).1 x.1)=x.2.1:=if_pos h3
   refine sd (by omega) ?_
   refine ag ((x.1+1,x.2.1,x.2.2)) ?_ ?_ (S5 rfl rfl rfl rfl rfl) (fun _ hw=>XM.pick .vF hw)
   ·
    (show(_-(x.1+1)).toNat<(_-x.1).toNat;omega)
   ·
    exact⟨(by show 0≤x.1+1∧x.1+1≤_;omega),(by rw[lY (by omega),ks,←hga,hst]),hgw,hcx⟩
  ·
   have hnh:=h3
   refine sd (by omega) ?_
   refine ld (.there .here) (ah.nL _ (by omega)) ?_
   refine cd rfl ?_ ?_<;>intro h4
   ·
    have hst:KA.dC h x.2.1 (ep (a.s.mem z).1 x.1)=(x.2.1.bG (ep (a.s.mem z).1 x.1) 0).cr (ep (a.s.mem z).1 x.1):=by unfold KA.dC;rw[if_neg hnh,if_pos (show(x.2.1.u (ep (a.s.mem z).1 x.1)).st=1 from h4)]
    refine ca (yz x.2.1 b x.2.2 N T hgw hcx hT (ep (a.s.mem z).1 x.1) 0 (by assumption)) (.cons (.there .here) (.cons (.there .here) (.cons (.there .here) (.cons (.there .here) (.cons (.there .here) (.cons (.there .here) (.cons (.there .here) (.cons (.there .here) (.cons (.there .here) (.cons (.there .here) (.cons (.there .here) (.cons (.there .here) (.cons (.there .here) (.cons (.there .here) (.cons (.there .here) (.cons (.there .here) (.cons (.there .here) .nil))))))))))))))))) ?_
    rintro _ _ ⟨c1,hc1,rfl⟩
    refine gO ?_
    refine ca (vg (x.2.1.bG (ep (a.s.mem z).1 x.1) 0) b c1 N T (hgw.bG hm (by assumption) 0) hc1 hT (ep (a.s.mem z).1 x.1) hm (by rw[jm];decide)) .la ?_
    rintro _ _ rfl
    refine gO ?_
    refine sd (by omega) ?_
    refine ag ((x.1+1,(x.2.1.bG (ep (a.s.mem z).1 x.1) 0).cr (ep (a.s.mem z).1 x.1),c1)) ?_ ?_ (S5 rfl rfl rfl rfl rfl) (fun _ hw=>XM.pick (.cons (.t12 (.t5 .here)) .la) hw)
    ·
     (show(_-(x.1+1)).toNat<(_-x.1).toNat;omega)
    ·
     exact⟨(by show 0≤x.1+1∧x.1+1≤_;omega),(by rw[lY (by omega),ks,←hga,hst]),(hgw.bG hm (by assumption) 0).cr hm (by rw[jm];decide),hc1.Dq⟩
   ·
    have hst:KA.dC h x.2.1 (ep (a.s.mem z).1 x.1)=x.2.1.cr (ep (a.s.mem z).1 x.1):=by unfold KA.dC;rw[if_neg hnh,if_neg (show ¬(x.2.1.u (ep (a.s.mem z).1 x.1)).st=1 from h4)]
    refine ca (vg x.2.1 b x.2.2 N T hgw hcx hT (ep (a.s.mem z).1 x.1) hm (by assumption)) (.cons (.there .here) (.cons (.there .here) (.cons (.there .here) (.cons (.there .here) (.cons (.there .here) (.cons (.there .here) (.cons (.there .here) (.cons (.there .here) (.cons (.there .here) (.cons (.there .here) (.cons (.there .here) (.cons (.there .here) (.cons (.there .here) (.cons (.there .here) (.cons (.there .here) (.cons (.there .here) (.cons (.there .here) .nil))))))))))))))))) ?_
    rintro _ _ rfl
    refine gO ?_
    refine sd (by omega) ?_
    refine ag ((x.1+1,x.2.1.cr (ep (a.s.mem z).1 x.1),x.2.2)) ?_ ?_ (S5 rfl rfl rfl rfl rfl) (fun _ hw=>XM.pick (.cons (.t12 (.t5 .here)) .la) hw)
    ·
     (show(_-(x.1+1)).toNat<(_-x.1).toNat;omega)
    ·
     exact⟨(by show 0≤x.1+1∧x.1+1≤_;omega),(by rw[lY (by omega),ks,←hga,hst]),hgw.cr hm (by assumption),hcx.Dq⟩
 ·
  refine lp (σ:=Int×KA×KC) (fun x=>(4-x.1).toNat) (fun x=>(0≤x.1∧x.1≤4)∧x.2.1=((a.members z h).rounds x.1.toNat)∧x.2.1.Wk T∧eQ x.2.1 x.2.2 N T) (fun x=>[(45,.int .i64 x.1),(0,ptr b.kb 0 0)]) (fun x=>XM W (bR [.cells b.kb 0 453 (ah (kp a b c)),.cells b.gb 0 60 (Gr.aC a.g),.cells b.sb 0 158 (Sp.aB a.s),.cells b.qb 0 2281 (Fa.aq c.q),.fam Fa.aH (Fa.SC.rows 254 c.q),.cells b.bb 0 577 (Vm.bz b.vp a.v.by_ a.v.rf),.cells b.vp 0 71 (Vm.au a.v.bb.bJ),.cfam (bN a) c.mb 34 (cN b.bb a.f c.pp c.cc),.fam (bN a) (rN 171 a.f c.pp c.cc),.cells b.tb 0 321 (Tr.ay c.F),.fam Tr.ai (Tr.FC.aD 9 c.F),.fam Tr.ai (Tr.FC.aF 3 c.F),aZ c.rp c.rc 3 c.rl,.cells b.pi 0 24 (Tr.au a.P),.cells b.ob 0 122 (Tr.az b.tb b.pi a.O),.cfam (bO a) (fun z=>(c.t z).b) 4 (cT b.tb c.t),.fam (bO a) (rT 168 c.t)]) [.cells b.kb 0 453 (ah (kp x.2.1 b x.2.2)),.cells b.gb 0 60 (Gr.aC x.2.1.g),.cells b.sb 0 158 (Sp.aB x.2.1.s),.cells b.qb 0 2281 (Fa.aq x.2.2.q),.fam Fa.aH (Fa.SC.rows 254 x.2.2.q),.cells b.bb 0 577 (Vm.bz b.vp x.2.1.v.by_ x.2.1.v.rf),.cells b.vp 0 71 (Vm.au x.2.1.v.bb.bJ),.cfam (bN x.2.1) x.2.2.mb 34 (cN b.bb x.2.1.f x.2.2.pp x.2.2.cc),.fam (bN x.2.1) (rN 171 x.2.1.f x.2.2.pp x.2.2.cc),.cells b.tb 0 321 (Tr.ay x.2.2.F),.fam Tr.ai (Tr.FC.aD 9 x.2.2.F),.fam Tr.ai (Tr.FC.aF 3 x.2.2.F),aZ x.2.2.rp x.2.2.rc 3 x.2.2.rl,.cells b.pi 0 24 (Tr.au x.2.1.P),.cells b.ob 0 122 (Tr.az b.tb b.pi x.2.1.O),.cfam (bO x.2.1) (fun z=>(x.2.2.t z).b) 4 (cT b.tb x.2.2.t),.fam (bO x.2.1) (rT 168 x.2.2.t)]) ((0,x.2.1,x.2.2)) ?_ (S2 rfl rfl) (fun _ hw=>XM.pick (.cons (.there .here) (.cons (.there .here) (.cons (.there .here) (.cons (.there .here) (.cons (.there .here) (.cons (.there .here) (.cons (.there .here) (.cons (.there .here) (.cons (.there .here) (.cons (.there .here) (.cons (.there .here) (.cons (.there .here) (.cons (.there .here) (.cons (.there .here) (.cons (.there .here) (.cons (.there .here) (.cons (.there .here) .nil))))))))))))))))) hw) ?_
  ·
   exact⟨by simp,(by rw[hga,List.take_of_length_le (by omega)];rfl),hgw,hcx⟩
  intro x hx
  obtain⟨hi,hga,hgw,hcx⟩:=hx
  refine gC ?_
  refine cd rfl ?_ ?_<;>intro h5
  ·
   refine ld .here (ah.nN _) ?_
   refine ca (Sp.MJ _ _ x.2.1.s) (.cons (.t2 .here) .nil) ?_
   rintro _ _ ⟨p1,cap1,rfl,rfl⟩
   have hlen2:=Sp.fS x.2.1.s.here 6
   refine gO ?_
   refine lp (σ:=Int×KA×KC) (fun y=>((Sp.eN x.2.1.s.here 6).length-y.1).toNat) (fun y=>(0≤y.1∧y.1≤(Sp.eN x.2.1.s.here 6).length)∧y.2.1=(((Sp.eN x.2.1.s.here 6).take y.1.toNat).foldl KA.bw x.2.1)∧y.2.1.Wk T∧eQ y.2.1 y.2.2 N T) (fun y=>[(53,.int .i64 y.1),(0,ptr b.kb 0 0),(45,.int .i64 x.1),(51,.slice p1 (Sp.eN x.2.1.s.here 6).length cap1),(52,.int .i64 (Sp.eN x.2.1.s.here 6).length)]) (fun y=>XM W (bR [.cells b.kb 0 453 (ah (kp a b c)),.cells b.gb 0 60 (Gr.aC a.g),.cells b.sb 0 158 (Sp.aB a.s),.cells b.qb 0 2281 (Fa.aq c.q),.fam Fa.aH (Fa.SC.rows 254 c.q),.cells b.bb 0 577 (Vm.bz b.vp a.v.by_ a.v.rf),.cells b.vp 0 71 (Vm.au a.v.bb.bJ),.cfam (bN a) c.mb 34 (cN b.bb a.f c.pp c.cc),.fam (bN a) (rN 171 a.f c.pp c.cc),.cells b.tb 0 321 (Tr.ay c.F),.fam Tr.ai (Tr.FC.aD 9 c.F),.fam Tr.ai (Tr.FC.aF 3 c.F),aZ c.rp c.rc 3 c.rl,.cells b.pi 0 24 (Tr.au a.P),.cells b.ob 0 122 (Tr.az b.tb b.pi a.O),.cfam (bO a) (fun z=>(c.t z).b) 4 (cT b.tb c.t),.fam (bO a) (rT 168 c.t)]) [aZ p1 cap1 3 (Sp.eN x.2.1.s.here 6),.cells b.kb 0 453 (ah (kp y.2.1 b y.2.2)),.cells b.gb 0 60 (Gr.aC y.2.1.g),.cells b.sb 0 158 (Sp.aB y.2.1.s),.cells b.qb 0 2281 (Fa.aq y.2.2.q),.fam Fa.aH (Fa.SC.rows 254 y.2.2.q),.cells b.bb 0 577 (Vm.bz b.vp y.2.1.v.by_ y.2.1.v.rf),.cells b.vp 0 71 (Vm.au y.2.1.v.bb.bJ),.cfam (bN y.2.1) y.2.2.mb 34 (cN b.bb y.2.1.f y.2.2.pp y.2.2.cc),.fam (bN y.2.1) (rN 171 y.2.1.f y.2.2.pp y.2.2.cc),.cells b.tb 0 321 (Tr.ay y.2.2.F),.fam Tr.ai (Tr.FC.aD 9 y.2.2.F),.fam Tr.ai (Tr.FC.aF 3 y.2.2.F),aZ y.2.2.rp y.2.2.rc 3 y.2.2.rl,.cells b.pi 0 24 (Tr.au y.2.1.P),.cells b.ob 0 122 (Tr.az b.tb b.pi y.2.1.O),.cfam (bO y.2.1) (fun z=>(y.2.2.t z).b) 4 (cT b.tb y.2.2.t),.fam (bO y.2.1) (rT 168 y.2.2.t)]) ((0,x.2.1,x.2.2)) ?_ (S5 rfl rfl rfl rfl rfl) (fun _ hw=>XM.pick (.cons .here (.cons (.there .here) (.cons (.there .here) .L0))) hw) ?_
   ·
    exact⟨by simp,rfl,hgw,hcx⟩
   intro y hy
   obtain⟨hj,hgy0,hgy,hcy⟩:=hy
   refine gC ?_
   refine cd rfl ?_ ?_<;>intro h6
   ·
    refine XR.cZ .here (by omega) ?_
    intro g2 h7
    subst h7
    refine sd (by omega) ?_
    refine D6 .here (ints_at (by omega)) ?_
    refine ca (Ax y.2.1 b y.2.2 N T hgy hcy hT _) (.cons (.there .here) (.cons (.there .here) (.cons (.there .here) (.cons (.there .here) (.cons (.there .here) (.cons (.there .here) (.cons (.there .here) (.cons (.there .here) (.cons (.there .here) (.cons (.there .here) (.cons (.there .here) (.cons (.there .here) (.cons (.there .here) (.cons (.there .here) (.cons (.there .here) (.cons (.there .here) (.cons (.there .here) .nil))))))))))))))))) ?_
    rintro _ _ ⟨c1,hc1,rfl⟩
    refine gO ?_
    refine sd (by omega) ?_
    refine ag ((y.1+1,y.2.1.bw (ep (Sp.eN x.2.1.s.here 6) y.1),c1)) ?_ ?_ (S5 rfl rfl rfl rfl rfl) (fun _ hw=>XM.pick (.cons (.t12 (.t5 .here)) .la) hw)
    ·
     (show(_-(y.1+1)).toNat<(_-y.1).toNat;omega)
    ·
     exact⟨(by show 0≤y.1+1∧y.1+1≤_;omega),(by show y.2.1.bw _=_;rw[lY (by omega),ks,←hgy0]),hgy.bw _,hc1⟩
   ·
    refine sd (by omega) ?_
    refine ag ((x.1+1,y.2.1,y.2.2)) ?_ ?_ (S2 rfl rfl) (fun _ hw=>XM.pick (.cons (.there .here) (.cons (.there .here) (.cons (.there .here) (.cons (.there .here) (.cons (.there .here) (.cons (.there .here) (.cons (.there .here) (.cons (.there .here) (.cons (.there .here) (.cons (.there .here) (.cons (.there .here) (.cons (.there .here) (.cons (.there .here) (.cons (.there .here) (.cons (.there .here) (.cons (.there .here) (.cons (.there .here) .nil))))))))))))))))) hw)
    ·
     (show(4-(x.1+1)).toNat<(4-x.1).toNat;omega)
    ·
     exact⟨(by show 0≤x.1+1∧x.1+1≤4;omega),(by show y.2.1=_;rw[KA.vR _ hi.1,←hga,hgy0,List.take_of_length_le (by omega)];rfl),hgy,hcy⟩
  ·
   refine XE.fC rfl (ab .la rfl ?_)
   try dsimp only[SW.den,SV.den,aj,aL]
   have hx4:x.1=4:=by omega
   have hge:a.bM z h=x.2.1:=by rw[hga,hx4];rfl
   rw[hge]
   exact⟨x.2.2,hcx,rfl⟩
end Go.X.Kn

namespace Go.X.Kn
open Go Go.Proofs Go.X
set_option maxRecDepth 20000
set_option maxHeartbeats 4000000
theorem Cw(kb:Nat)(k:KP)(s:Sp.SS)(n:Int)(hn:0≤n∧n<20)(hz:(k.u n).bx.wait 0=false)(o:Bool)(he:(k.u n).bx.first 0=0):Spec Tryz.prog 74 [ptr kb 0 0,.int .i64 n,.bool o] [.cells kb 0 453 (ah k),.cells k.sb 0 158 (Sp.aB s),.ro 0 0 32 Sg.cX] (fun v H1=>H1=[.cells kb 0 453 (ah k),.cells k.sb 0 158 (Sp.aB s)]):=by
 refine Spec.go 36 [0,1,2,6,7,30] [] Tryz.func74 rfl rfl rfl ?_
 intro W
 refine XR.mono (fun _ hw3=>XM.rU (n:=n) (by omega) .h1 hw3) ?_
 refine sd (by omega) ?_
 refine u9 1 (Sg.qD kb (0+eW n) _ hz) (.cons .here (.cons (.t3 .here) .nil)) rfl ?_
 rintro _ _ ⟨rfl,rfl⟩
 refine gO ?_
 refine XR.mono (fun _ hw3=>XM.wE (n:=n) (by omega) (.cons .here (.cons (.there .here) (.cons (.there .here) .nil))) hw3) ?_
 refine Jc 19 rfl (by omega) ?_
 refine XE.fC rfl (ab (.cons .here (.cons (.there .here) .nil)) rfl ?_)
 try dsimp only[SW.den,SV.den,aj,aL]
 all_goals rfl
theorem Cz(kb:Nat)(k:KP)(s:Sp.SS)(n:Int)(hn:0≤n∧n<20)(hz:(k.u n).bx.wait 0=false)(he:¬(k.u n).bx.first 0=0)(hh:(s.find (s.bU n).1 1).1=n):Spec Tryz.prog 74 [ptr kb 0 0,.int .i64 n,.bool false] [.cells kb 0 453 (ah k),.cells k.sb 0 158 (Sp.aB s),.ro 0 0 32 Sg.cX] (fun v H1=>H1=[.cells kb 0 453 (ah k),.cells k.sb 0 158 (Sp.aB s)]):=by
 refine Spec.go 36 [0,1,2,6,7,30] [] Tryz.func74 rfl rfl rfl ?_
 intro W
 refine XR.mono (fun _ hw3=>XM.rU (n:=n) (by omega) .h1 hw3) ?_
 refine sd (by omega) ?_
 refine u9 1 (Sg.qD kb (0+eW n) _ hz) (.cons .here (.cons (.t3 .here) .nil)) rfl ?_
 rintro _ _ ⟨rfl,rfl⟩
 refine gO ?_
 refine XR.mono (fun _ hw3=>XM.wE (n:=n) (by omega) (.cons .here (.cons (.there .here) (.cons (.there .here) .nil))) hw3) ?_
 refine N0 19 rfl (by omega) ?_
 refine ca (iw kb k s n) (.cons .here (.cons (.there .here) .nil)) ?_
 rintro _ _ ⟨rfl,rfl⟩
 refine gO ?_
 refine ca (qU kb k s _) .h2 ?_
 rintro _ _ ⟨rfl,rfl⟩
 refine gO ?_
 refine xV rfl (by omega) ?_
 refine XE.fC rfl (ab .h2 rfl ?_)
 try dsimp only[SW.den,SV.den,aj,aL]
 all_goals rfl
theorem CJ(kb:Nat)(k:KP)(s:Sp.SS)(n:Int)(hn:0≤n∧n<20)(hz:(k.u n).bx.wait 0=false)(o:Bool)(hq:(k.u n).bx.first 0=0∨(o=false∧(s.find (s.bU n).1 1).1=n)):Spec Tryz.prog 74 [ptr kb 0 0,.int .i64 n,.bool o] [.cells kb 0 453 (ah k),.cells k.sb 0 158 (Sp.aB s),.ro 0 0 32 Sg.cX] (fun v H1=>H1=[.cells kb 0 453 (ah k),.cells k.sb 0 158 (Sp.aB s)]):=by
 by_cases he:(k.u n).bx.first 0=0
 ·exact Cw kb k s n hn hz o he
 ·obtain⟨ho,hh⟩:=hq.resolve_left he
  subst ho
  exact Cz kb k s n hn hz he hh
theorem AM(kb:Nat)(k:KP)(s:Sp.SS)(n sig:Int)(o:Bool)(hz:k.live n=0→(k.u n).bx.wait 0=false)(hq:k.live n=0→(((k.u n).bx.send sig).2.first 0=0∨(o=false∧(s.find (s.bU n).1 1).1=n))):Spec Tryz.prog 71 [ptr kb 0 0,.int .i64 n,.int .i64 sig,.bool o] [.cells kb 0 453 (ah k),.cells k.sb 0 158 (Sp.aB s),.ro 0 0 32 Sg.cX] (fun v H1=>H1=[.cells kb 0 453 (ah (if k.live n=0 then k.box n ((k.u n).bx.send sig).2 else k)),.cells k.sb 0 158 (Sp.aB s)]):=by
 refine Spec.go 27 [0,1,2,3,8,9,17] [] Tryz.func71 rfl rfl rfl ?_
 intro W
 refine ca (lD kb _ _) .h1 ?_
 rintro _ _ ⟨⟨hl,rfl⟩ | ⟨hl,rfl⟩,rfl⟩
 ·
  try dsimp only[aT,aV,bu,bj,bk,bd,aW,bh,aY,aX,aP,aN,aQ,aO]
  obtain⟨hlr,hls⟩:=KP.gi hl
  refine gO ?_
  refine XR.mono (fun _ hw3=>XM.rU (n:=n) (by omega) .h1 hw3) ?_
  refine ca (Sg.Dx kb (0+eW n) _ sig) .h1 ?_
  rintro _ _ ⟨rfl,rfl⟩
  refine gO ?_
  refine XR.mono (fun _ hw3=>XM.zd (n:=n) (by omega) .h3 hw3) ?_
  refine u9 2 (CJ kb (k.box n ((k.u n).bx.send sig).2) s n hlr (by unfold KP.box;rw[KP.kJ];exact kI _ _ (hz hl)) o (by unfold KP.box;rw[KP.kJ];exact hq hl)) .h3 rfl ?_
  rintro _ _ rfl
  refine gO ?_
  refine XE.fC rfl (ab .h2 rfl ?_)
  try dsimp only[SW.den,SV.den,aj,aL]
  rw[if_pos hl]
  all_goals rfl
 ·
  try dsimp only[aT,aV,bu,bj,bk,bd,aW,bh,aY,aX,aP,aN,aQ,aO]
  refine gO ?_
  refine XE.KU rfl (ab .h2 rfl ?_)
  try dsimp only[SW.den,SV.den,aj,aL]
  rw[if_neg hl]
  all_goals rfl
end Go.X.Kn

namespace Go.X.Kn
open Go Go.Proofs Go.X
set_option maxRecDepth 20000
set_option maxHeartbeats 4000000
attribute [local irreducible] KA.bM
theorem AR(a:KA)(b:KZ)(c:KC)(p:Int):([.cells b.kb 0 453 (ah (kp (a.dx p) b c)),.cells b.gb 0 60 (Gr.aC (a.dx p).g),.cells b.sb 0 158 (Sp.aB (a.dx p).s),.cells b.qb 0 2281 (Fa.aq c.q),.fam Fa.aH (Fa.SC.rows 254 c.q),.cells b.bb 0 577 (Vm.bz b.vp (a.dx p).v.by_ (a.dx p).v.rf),.cells b.vp 0 71 (Vm.au (a.dx p).v.bb.bJ),.cfam (bN (a.dx p)) c.mb 34 (cN b.bb (a.dx p).f c.pp c.cc),.fam (bN (a.dx p)) (rN 171 (a.dx p).f c.pp c.cc),.cells b.tb 0 321 (Tr.ay c.F),.fam Tr.ai (Tr.FC.aD 9 c.F),.fam Tr.ai (Tr.FC.aF 3 c.F),aZ c.rp c.rc 3 c.rl,.cells b.pi 0 24 (Tr.au (a.dx p).P),.cells b.ob 0 122 (Tr.az b.tb b.pi (a.dx p).O),.cfam (bO (a.dx p)) (fun z=>(c.t z).b) 4 (cT b.tb c.t),.fam (bO (a.dx p)) (rT 168 c.t)]:List ax)=[.cells b.kb 0 453 (ah (if(kp a b c).live p=0 then(kp a b c).box p (((kp a b c).u p).bx.send 3).2 else kp a b c)),.cells b.gb 0 60 (Gr.aC a.g),.cells b.sb 0 158 (Sp.aB a.s),.cells b.qb 0 2281 (Fa.aq c.q),.fam Fa.aH (Fa.SC.rows 254 c.q),.cells b.bb 0 577 (Vm.bz b.vp a.v.by_ a.v.rf),.cells b.vp 0 71 (Vm.au a.v.bb.bJ),.cfam (bN a) c.mb 34 (cN b.bb a.f c.pp c.cc),.fam (bN a) (rN 171 a.f c.pp c.cc),.cells b.tb 0 321 (Tr.ay c.F),.fam Tr.ai (Tr.FC.aD 9 c.F),.fam Tr.ai (Tr.FC.aF 3 c.F),aZ c.rp c.rc 3 c.rl,.cells b.pi 0 24 (Tr.au a.P),.cells b.ob 0 122 (Tr.az b.tb b.pi a.O),.cfam (bO a) (fun z=>(c.t z).b) 4 (cT b.tb c.t),.fam (bO a) (rT 168 c.t)]:=by
 have e:kp (a.dx p) b c=(if(kp a b c).live p=0 then(kp a b c).box p (((kp a b c).u p).bx.send 3).2 else kp a b c):=(KE a b c p).symm
 rw[e,Hr]
 by_cases h:a.live p=0
 ·have h2:a.dx p=a.ia p ((a.u p).bx.send 3).2:=if_pos h
  rw[h2];rfl
 ·have h2:a.dx p=a:=if_neg h
  rw[h2]
set_option maxHeartbeats 16000000 in
theorem HW(a:KA)(b:KZ)(c:KC)(N:Nat)(T:Int)(hw:a.Wk T)(hc:eQ a c N T)(hT:T≤900000)(n co:Int)(hl:(a.u n).st=1)(hx:a.Hx n)(hh:a.head n≠n):Spec Tryz.prog 63 [ptr b.kb 0 0,.int .i64 n,.int .i64 co] [.cells b.kb 0 453 (ah (kp a b c)),.cells b.gb 0 60 (Gr.aC a.g),.cells b.sb 0 158 (Sp.aB a.s),.cells b.qb 0 2281 (Fa.aq c.q),.fam Fa.aH (Fa.SC.rows 254 c.q),.cells b.bb 0 577 (Vm.bz b.vp a.v.by_ a.v.rf),.cells b.vp 0 71 (Vm.au a.v.bb.bJ),.cfam (bN a) c.mb 34 (cN b.bb a.f c.pp c.cc),.fam (bN a) (rN 171 a.f c.pp c.cc),.cells b.tb 0 321 (Tr.ay c.F),.fam Tr.ai (Tr.FC.aD 9 c.F),.fam Tr.ai (Tr.FC.aF 3 c.F),aZ c.rp c.rc 3 c.rl,.cells b.pi 0 24 (Tr.au a.P),.cells b.ob 0 122 (Tr.az b.tb b.pi a.O),.cfam (bO a) (fun z=>(c.t z).b) 4 (cT b.tb c.t),.fam (bO a) (rT 168 c.t),.ro 0 0 32 Sg.cX] (fun v H1=>∃ c2:KC,eQ (a.aS n co) c2 N T∧H1=[.cells b.kb 0 453 (ah (kp (a.aS n co) b c2)),.cells b.gb 0 60 (Gr.aC (a.aS n co).g),.cells b.sb 0 158 (Sp.aB (a.aS n co).s),.cells b.qb 0 2281 (Fa.aq c2.q),.fam Fa.aH (Fa.SC.rows 254 c2.q),.cells b.bb 0 577 (Vm.bz b.vp (a.aS n co).v.by_ (a.aS n co).v.rf),.cells b.vp 0 71 (Vm.au (a.aS n co).v.bb.bJ),.cfam (bN (a.aS n co)) c2.mb 34 (cN b.bb (a.aS n co).f c2.pp c2.cc),.fam (bN (a.aS n co)) (rN 171 (a.aS n co).f c2.pp c2.cc),.cells b.tb 0 321 (Tr.ay c2.F),.fam Tr.ai (Tr.FC.aD 9 c2.F),.fam Tr.ai (Tr.FC.aF 3 c2.F),aZ c2.rp c2.rc 3 c2.rl,.cells b.pi 0 24 (Tr.au (a.aS n co).P),.cells b.ob 0 122 (Tr.az b.tb b.pi (a.aS n co).O),.cfam (bO (a.aS n co)) (fun z=>(c2.t z).b) 4 (cT b.tb c2.t),.fam (bO (a.aS n co)) (rT 168 c2.t)]):=by
 have hn:0≤n∧n<20:=by
  by_cases e:n<0∨20≤n
  ·rw[hw.out n e]at hl;exact absurd hl (by decide)
  ·omega
 have hw1:=hw.bG hn hl co
 have he1:a.dB n co=(a.bG n co):=by unfold KA.dB;rw[if_neg hh]
 have hw3:((a.bG n co).bZ n (a.head n)).Wk T:=by rw[←he1];exact(hw.dB hn hl co).bZ _ _
 have hx3:((a.bG n co).bZ n (a.head n)).Hx n:=by rw[←he1];exact(hx.dB co).bZ _ _
 have hst3:(((a.bG n co).bZ n (a.head n)).u n).st≠1:=by rw[←he1,(b8 _ _ _ _).1];exact mZ a n co
 refine Spec.go 65 [0,1,2,6,7,8,21,26,27,47] [] Tryz.func63 rfl rfl rfl ?_
 intro W
 refine ca (iw b.kb (kp a b c) a.s n) (.cons .here (.cons (.there .here) .nil)) ?_
 rintro _ _ ⟨rfl,rfl⟩
 refine gO ?_
 refine ca (qU b.kb (kp a b c) a.s _) .h2 ?_
 rintro _ _ ⟨rfl,rfl⟩
 refine gO ?_
 refine ca (yz a b c N T hw hc hT n co hl) (.cons .here (.cons (.there .here) .L0)) ?_
 rintro _ _ ⟨c2,hc2,rfl⟩
 refine gO ?_
 refine xV rfl (hh) ?_
 refine lp (σ:=Int) (fun i=>(20-i).toNat) (fun i=>0≤i∧i≤20) (fun i=>[(26,.int .i64 i),(0,ptr b.kb 0 0),(1,.int .i64 n),(7,.int .i64 (a.head n))]) (fun i=>XM W (bR [.cells b.kb 0 453 (ah (kp a b c)),.cells b.gb 0 60 (Gr.aC a.g),.cells b.sb 0 158 (Sp.aB a.s),.cells b.qb 0 2281 (Fa.aq c.q),.fam Fa.aH (Fa.SC.rows 254 c.q),.cells b.bb 0 577 (Vm.bz b.vp a.v.by_ a.v.rf),.cells b.vp 0 71 (Vm.au a.v.bb.bJ),.cfam (bN a) c.mb 34 (cN b.bb a.f c.pp c.cc),.fam (bN a) (rN 171 a.f c.pp c.cc),.cells b.tb 0 321 (Tr.ay c.F),.fam Tr.ai (Tr.FC.aD 9 c.F),.fam Tr.ai (Tr.FC.aF 3 c.F),aZ c.rp c.rc 3 c.rl,.cells b.pi 0 24 (Tr.au a.P),.cells b.ob 0 122 (Tr.az b.tb b.pi a.O),.cfam (bO a) (fun z=>(c.t z).b) 4 (cT b.tb c.t),.fam (bO a) (rT 168 c.t),.ro 0 0 32 Sg.cX]) [.cells b.kb 0 453 (ah ((kp (a.bG n co) b c2).eT n (a.head n) i)),.cells b.gb 0 60 (Gr.aC (a.bG n co).g),.cells b.sb 0 158 (Sp.aB (a.bG n co).s),.cells b.qb 0 2281 (Fa.aq c2.q),.fam Fa.aH (Fa.SC.rows 254 c2.q),.cells b.bb 0 577 (Vm.bz b.vp (a.bG n co).v.by_ (a.bG n co).v.rf),.cells b.vp 0 71 (Vm.au (a.bG n co).v.bb.bJ),.cfam (bN (a.bG n co)) c2.mb 34 (cN b.bb (a.bG n co).f c2.pp c2.cc),.fam (bN (a.bG n co)) (rN 171 (a.bG n co).f c2.pp c2.cc),.cells b.tb 0 321 (Tr.ay c2.F),.fam Tr.ai (Tr.FC.aD 9 c2.F),.fam Tr.ai (Tr.FC.aF 3 c2.F),aZ c2.rp c2.rc 3 c2.rl,.cells b.pi 0 24 (Tr.au (a.bG n co).P),.cells b.ob 0 122 (Tr.az b.tb b.pi (a.bG n co).O),.cfam (bO (a.bG n co)) (fun z=>(c2.t z).b) 4 (cT b.tb c2.t),.fam (bO (a.bG n co)) (rT 168 c2.t),.ro 0 0 32 Sg.cX]) (0) ?_ (S4 rfl rfl rfl rfl) (fun _ hw2=>by rw[KP.se];exact XM.pick .vF hw2) ?_
 ·
  omega
 intro i hi
 refine gC ?_
 refine cd rfl ?_ ?_<;>intro h1
 ·
  refine sd (by omega) ?_
  refine ld .here (ah.nL _ (by omega)) ?_
  refine sp 37 rfl ?_ ?_<;>intro h2
  ·
   rw[KP.gh _ _ _ (Int.le_refl _)]at h2
   have h81:=h2
   refine sd (by omega) ?_
   refine ld .here (ah.qT _ (by omega)) ?_
   refine cd rfl ?_ ?_<;>intro h3
   ·
    rw[KP.gh _ _ _ (Int.le_refl _)]at h3
    have h82:=h3
    refine sd (by omega) ?_
    refine st .here (ah.E0 _ (by omega) _) rfl ?_
    refine sd (by omega) ?_
    refine ag (i+1) ?_ ?_ (S4 rfl rfl rfl rfl) (fun _ hw2=>by rw[←KP.uu _ _ _ hi.1 h81 h82];exact XM.pick .vF hw2)
    ·
     (first | omega | (simp;done) | (simp;omega))
    ·
     (first | omega | (simp;done) | (simp;omega))
   ·
    rw[KP.gh _ _ _ (Int.le_refl _)]at h3
    have h82:=h3
    refine sd (by omega) ?_
    refine ag (i+1) ?_ ?_ (S4 rfl rfl rfl rfl) (fun _ hw2=>by rw[KP.kj _ _ _ (fun c=>h82 c.2)];exact XM.pick .vF hw2)
    ·
     (first | omega | (simp;done) | (simp;omega))
    ·
     (first | omega | (simp;done) | (simp;omega))
  ·
   rw[KP.gh _ _ _ (Int.le_refl _)]at h2
   have h81:=h2
   refine sd (by omega) ?_
   refine ag (i+1) ?_ ?_ (S4 rfl rfl rfl rfl) (fun _ hw2=>by rw[KP.kj _ _ _ (fun c=>h81 c.1)];exact XM.pick .vF hw2)
   ·
    (first | omega | (simp;done) | (simp;omega))
   ·
    (first | omega | (simp;done) | (simp;omega))
 ·
  have hi20:i=20:=by omega
  subst hi20
  rw[xN]
  refine sd (by omega) ?_
  refine ld .here (ah.qT _ (by omega)) ?_
  refine u9 2 (AM b.kb (kp ((a.bG n co).bZ n (a.head n)) b c2) (a.bG n co).s ((((a.bG n co).bZ n (a.head n)).u n).par) 3 false (fun q=>hw3.bx _) (fun q=>KA.D9 hw3 hx3 hst3 q)) (.cons .here (.cons (.there .here) (.cons (.t12 (.t3 .here)) .nil))) rfl ?_
  rintro _ _ rfl
  refine gO ?_
  refine XE.fC rfl (ab (.cons .here (.cons (.t2 .here) (.cons .here (.cons (.there .here) (.cons (.there .here) (.cons (.there .here) (.cons (.there .here) (.cons (.there .here) (.cons (.there .here) (.cons (.there .here) (.cons (.there .here) (.cons (.there .here) (.cons (.there .here) (.cons (.there .here) (.cons (.there .here) (.cons (.there .here) (.cons (.there .here) .nil))))))))))))))))) rfl ?_)
  try dsimp only[SW.den,SV.den,aj,aL]
  have hA:a.aS n co=((a.bG n co).bZ n (a.head n)).dx (((a.bG n co).bZ n (a.head n)).u n).par:=by unfold KA.aS;rw[he1]
  rw[hA]
  refine⟨c2,hc2.eb _ _ _,?_⟩
  rw[AR,uC,uc]
  rfl
set_option maxHeartbeats 16000000 in
theorem I4(a:KA)(b:KZ)(c:KC)(N:Nat)(T:Int)(hw:a.Wk T)(hc:eQ a c N T)(hT:T≤900000)(n co:Int)(hl:(a.u n).st=1)(hx:a.Hx n)(hh:a.head n=n):Spec Tryz.prog 63 [ptr b.kb 0 0,.int .i64 n,.int .i64 co] [.cells b.kb 0 453 (ah (kp a b c)),.cells b.gb 0 60 (Gr.aC a.g),.cells b.sb 0 158 (Sp.aB a.s),.cells b.qb 0 2281 (Fa.aq c.q),.fam Fa.aH (Fa.SC.rows 254 c.q),.cells b.bb 0 577 (Vm.bz b.vp a.v.by_ a.v.rf),.cells b.vp 0 71 (Vm.au a.v.bb.bJ),.cfam (bN a) c.mb 34 (cN b.bb a.f c.pp c.cc),.fam (bN a) (rN 171 a.f c.pp c.cc),.cells b.tb 0 321 (Tr.ay c.F),.fam Tr.ai (Tr.FC.aD 9 c.F),.fam Tr.ai (Tr.FC.aF 3 c.F),aZ c.rp c.rc 3 c.rl,.cells b.pi 0 24 (Tr.au a.P),.cells b.ob 0 122 (Tr.az b.tb b.pi a.O),.cfam (bO a) (fun z=>(c.t z).b) 4 (cT b.tb c.t),.fam (bO a) (rT 168 c.t),.ro 0 0 32 Sg.cX] (fun v H1=>∃ c2:KC,eQ (a.aS n co) c2 N T∧H1=[.cells b.kb 0 453 (ah (kp (a.aS n co) b c2)),.cells b.gb 0 60 (Gr.aC (a.aS n co).g),.cells b.sb 0 158 (Sp.aB (a.aS n co).s),.cells b.qb 0 2281 (Fa.aq c2.q),.fam Fa.aH (Fa.SC.rows 254 c2.q),.cells b.bb 0 577 (Vm.bz b.vp (a.aS n co).v.by_ (a.aS n co).v.rf),.cells b.vp 0 71 (Vm.au (a.aS n co).v.bb.bJ),.cfam (bN (a.aS n co)) c2.mb 34 (cN b.bb (a.aS n co).f c2.pp c2.cc),.fam (bN (a.aS n co)) (rN 171 (a.aS n co).f c2.pp c2.cc),.cells b.tb 0 321 (Tr.ay c2.F),.fam Tr.ai (Tr.FC.aD 9 c2.F),.fam Tr.ai (Tr.FC.aF 3 c2.F),aZ c2.rp c2.rc 3 c2.rl,.cells b.pi 0 24 (Tr.au (a.aS n co).P),.cells b.ob 0 122 (Tr.az b.tb b.pi (a.aS n co).O),.cfam (bO (a.aS n co)) (fun z=>(c2.t z).b) 4 (cT b.tb c2.t),.fam (bO (a.aS n co)) (rT 168 c2.t)]):=by
 have hn:0≤n∧n<20:=by
  by_cases e:n<0∨20≤n
  ·rw[hw.out n e]at hl;exact absurd hl (by decide)
  ·omega
 have hw1:=hw.bG hn hl co
 have he1:a.dB n co=((a.bG n co).bM (a.s.bU n).1 n):=by unfold KA.dB;rw[if_pos hh]
 have hw3:(((a.bG n co).bM (a.s.bU n).1 n).bZ n (a.head n)).Wk T:=by rw[←he1];exact(hw.dB hn hl co).bZ _ _
 have hx3:(((a.bG n co).bM (a.s.bU n).1 n).bZ n (a.head n)).Hx n:=by rw[←he1];exact(hx.dB co).bZ _ _
 have hst3:((((a.bG n co).bM (a.s.bU n).1 n).bZ n (a.head n)).u n).st≠1:=by rw[←he1,(b8 _ _ _ _).1];exact mZ a n co
 refine Spec.go 65 [0,1,2,6,7,8,21,26,27,47] [] Tryz.func63 rfl rfl rfl ?_
 intro W
 refine ca (iw b.kb (kp a b c) a.s n) (.cons .here (.cons (.there .here) .nil)) ?_
 rintro _ _ ⟨rfl,rfl⟩
 refine gO ?_
 refine ca (qU b.kb (kp a b c) a.s _) .h2 ?_
 rintro _ _ ⟨rfl,rfl⟩
 refine gO ?_
 refine ca (yz a b c N T hw hc hT n co hl) (.cons .here (.cons (.there .here) .L0)) ?_
 rintro _ _ ⟨c1,hc1,rfl⟩
 refine gO ?_
 refine L4 rfl (hh) ?_
 refine ca (Fz (a.bG n co) b c1 N T hw1 hc1 hT _ n) .la ?_
 rintro _ _ ⟨c2,hc2,rfl⟩
 refine gO ?_
 refine lp (σ:=Int) (fun i=>(20-i).toNat) (fun i=>0≤i∧i≤20) (fun i=>[(26,.int .i64 i),(0,ptr b.kb 0 0),(1,.int .i64 n),(7,.int .i64 (a.head n))]) (fun i=>XM W (bR [.cells b.kb 0 453 (ah (kp a b c)),.cells b.gb 0 60 (Gr.aC a.g),.cells b.sb 0 158 (Sp.aB a.s),.cells b.qb 0 2281 (Fa.aq c.q),.fam Fa.aH (Fa.SC.rows 254 c.q),.cells b.bb 0 577 (Vm.bz b.vp a.v.by_ a.v.rf),.cells b.vp 0 71 (Vm.au a.v.bb.bJ),.cfam (bN a) c.mb 34 (cN b.bb a.f c.pp c.cc),.fam (bN a) (rN 171 a.f c.pp c.cc),.cells b.tb 0 321 (Tr.ay c.F),.fam Tr.ai (Tr.FC.aD 9 c.F),.fam Tr.ai (Tr.FC.aF 3 c.F),aZ c.rp c.rc 3 c.rl,.cells b.pi 0 24 (Tr.au a.P),.cells b.ob 0 122 (Tr.az b.tb b.pi a.O),.cfam (bO a) (fun z=>(c.t z).b) 4 (cT b.tb c.t),.fam (bO a) (rT 168 c.t),.ro 0 0 32 Sg.cX]) [.cells b.kb 0 453 (ah ((kp ((a.bG n co).bM (a.s.bU n).1 n) b c2).eT n (a.head n) i)),.cells b.gb 0 60 (Gr.aC ((a.bG n co).bM (a.s.bU n).1 n).g),.cells b.sb 0 158 (Sp.aB ((a.bG n co).bM (a.s.bU n).1 n).s),.cells b.qb 0 2281 (Fa.aq c2.q),.fam Fa.aH (Fa.SC.rows 254 c2.q),.cells b.bb 0 577 (Vm.bz b.vp ((a.bG n co).bM (a.s.bU n).1 n).v.by_ ((a.bG n co).bM (a.s.bU n).1 n).v.rf),.cells b.vp 0 71 (Vm.au ((a.bG n co).bM (a.s.bU n).1 n).v.bb.bJ),.cfam (bN ((a.bG n co).bM (a.s.bU n).1 n)) c2.mb 34 (cN b.bb ((a.bG n co).bM (a.s.bU n).1 n).f c2.pp c2.cc),.fam (bN ((a.bG n co).bM (a.s.bU n).1 n)) (rN 171 ((a.bG n co).bM (a.s.bU n).1 n).f c2.pp c2.cc),.cells b.tb 0 321 (Tr.ay c2.F),.fam Tr.ai (Tr.FC.aD 9 c2.F),.fam Tr.ai (Tr.FC.aF 3 c2.F),aZ c2.rp c2.rc 3 c2.rl,.cells b.pi 0 24 (Tr.au ((a.bG n co).bM (a.s.bU n).1 n).P),.cells b.ob 0 122 (Tr.az b.tb b.pi ((a.bG n co).bM (a.s.bU n).1 n).O),.cfam (bO ((a.bG n co).bM (a.s.bU n).1 n)) (fun z=>(c2.t z).b) 4 (cT b.tb c2.t),.fam (bO ((a.bG n co).bM (a.s.bU n).1 n)) (rT 168 c2.t),.ro 0 0 32 Sg.cX]) (0) ?_ (S4 rfl rfl rfl rfl) (fun _ hw2=>by rw[KP.se];exact XM.pick .vF hw2) ?_
 ·
  omega
 intro i hi
 refine gC ?_
 refine cd rfl ?_ ?_<;>intro h1
 ·
  refine sd (by omega) ?_
  refine ld .here (ah.nL _ (by omega)) ?_
  refine sp 37 rfl ?_ ?_<;>intro h2
  ·
   rw[KP.gh _ _ _ (Int.le_refl _)]at h2
   have h81:=h2
   refine sd (by omega) ?_
   refine ld .here (ah.qT _ (by omega)) ?_
   refine cd rfl ?_ ?_<;>intro h3
   ·
    rw[KP.gh _ _ _ (Int.le_refl _)]at h3
    have h82:=h3
    refine sd (by omega) ?_
    refine st .here (ah.E0 _ (by omega) _) rfl ?_
    refine sd (by omega) ?_
    refine ag (i+1) ?_ ?_ (S4 rfl rfl rfl rfl) (fun _ hw2=>by rw[←KP.uu _ _ _ hi.1 h81 h82];exact XM.pick .vF hw2)
    ·
     (first | omega | (simp;done) | (simp;omega))
    ·
     (first | omega | (simp;done) | (simp;omega))
   ·
    rw[KP.gh _ _ _ (Int.le_refl _)]at h3
    have h82:=h3
    refine sd (by omega) ?_
    refine ag (i+1) ?_ ?_ (S4 rfl rfl rfl rfl) (fun _ hw2=>by rw[KP.kj _ _ _ (fun c=>h82 c.2)];exact XM.pick .vF hw2)
    ·
     (first | omega | (simp;done) | (simp;omega))
    ·
     (first | omega | (simp;done) | (simp;omega))
  ·
   rw[KP.gh _ _ _ (Int.le_refl _)]at h2
   have h81:=h2
   refine sd (by omega) ?_
   refine ag (i+1) ?_ ?_ (S4 rfl rfl rfl rfl) (fun _ hw2=>by rw[KP.kj _ _ _ (fun c=>h81 c.1)];exact XM.pick .vF hw2)
   ·
    (first | omega | (simp;done) | (simp;omega))
   ·
    (first | omega | (simp;done) | (simp;omega))
 ·
  have hi20:i=20:=by omega
  subst hi20
  rw[xN]
  refine sd (by omega) ?_
  refine ld .here (ah.qT _ (by omega)) ?_
  refine u9 2 (AM b.kb (kp (((a.bG n co).bM (a.s.bU n).1 n).bZ n (a.head n)) b c2) ((a.bG n co).bM (a.s.bU n).1 n).s (((((a.bG n co).bM (a.s.bU n).1 n).bZ n (a.head n)).u n).par) 3 false (fun q=>hw3.bx _) (fun q=>KA.D9 hw3 hx3 hst3 q)) (.cons .here (.cons (.there .here) (.cons (.t12 (.t3 .here)) .nil))) rfl ?_
  rintro _ _ rfl
  refine gO ?_
  refine XE.fC rfl (ab (.cons .here (.cons (.t2 .here) (.cons .here (.cons (.there .here) (.cons (.there .here) (.cons (.there .here) (.cons (.there .here) (.cons (.there .here) (.cons (.there .here) (.cons (.there .here) (.cons (.there .here) (.cons (.there .here) (.cons (.there .here) (.cons (.there .here) (.cons (.there .here) (.cons (.there .here) (.cons (.there .here) .nil))))))))))))))))) rfl ?_)
  try dsimp only[SW.den,SV.den,aj,aL]
  have hA:a.aS n co=(((a.bG n co).bM (a.s.bU n).1 n).bZ n (a.head n)).dx ((((a.bG n co).bM (a.s.bU n).1 n).bZ n (a.head n)).u n).par:=by unfold KA.aS;rw[he1]
  rw[hA]
  refine⟨c2,hc2.eb _ _ _,?_⟩
  rw[AR,uC,uc]
  rfl
end Go.X.Kn

namespace Go.X.Kn
open Go Go.Proofs Go.X
set_option maxRecDepth 20000
set_option maxHeartbeats 4000000
attribute [local irreducible] KA.aS KA.bS
theorem vk(a:KA)(b:KZ)(c:KC)(N:Nat)(T:Int)(hw:a.Wk T)(hc:eQ a c N T)(hT:T≤900000)(n co:Int)(hl:(a.u n).st=1)(hx:a.Hx n):Spec Tryz.prog 63 [ptr b.kb 0 0,.int .i64 n,.int .i64 co] [.cells b.kb 0 453 (ah (kp a b c)),.cells b.gb 0 60 (Gr.aC a.g),.cells b.sb 0 158 (Sp.aB a.s),.cells b.qb 0 2281 (Fa.aq c.q),.fam Fa.aH (Fa.SC.rows 254 c.q),.cells b.bb 0 577 (Vm.bz b.vp a.v.by_ a.v.rf),.cells b.vp 0 71 (Vm.au a.v.bb.bJ),.cfam (bN a) c.mb 34 (cN b.bb a.f c.pp c.cc),.fam (bN a) (rN 171 a.f c.pp c.cc),.cells b.tb 0 321 (Tr.ay c.F),.fam Tr.ai (Tr.FC.aD 9 c.F),.fam Tr.ai (Tr.FC.aF 3 c.F),aZ c.rp c.rc 3 c.rl,.cells b.pi 0 24 (Tr.au a.P),.cells b.ob 0 122 (Tr.az b.tb b.pi a.O),.cfam (bO a) (fun z=>(c.t z).b) 4 (cT b.tb c.t),.fam (bO a) (rT 168 c.t),.ro 0 0 32 Sg.cX] (fun v H1=>∃ c1:KC,eQ (a.aS n co) c1 N T∧H1=[.cells b.kb 0 453 (ah (kp (a.aS n co) b c1)),.cells b.gb 0 60 (Gr.aC (a.aS n co).g),.cells b.sb 0 158 (Sp.aB (a.aS n co).s),.cells b.qb 0 2281 (Fa.aq c1.q),.fam Fa.aH (Fa.SC.rows 254 c1.q),.cells b.bb 0 577 (Vm.bz b.vp (a.aS n co).v.by_ (a.aS n co).v.rf),.cells b.vp 0 71 (Vm.au (a.aS n co).v.bb.bJ),.cfam (bN (a.aS n co)) c1.mb 34 (cN b.bb (a.aS n co).f c1.pp c1.cc),.fam (bN (a.aS n co)) (rN 171 (a.aS n co).f c1.pp c1.cc),.cells b.tb 0 321 (Tr.ay c1.F),.fam Tr.ai (Tr.FC.aD 9 c1.F),.fam Tr.ai (Tr.FC.aF 3 c1.F),aZ c1.rp c1.rc 3 c1.rl,.cells b.pi 0 24 (Tr.au (a.aS n co).P),.cells b.ob 0 122 (Tr.az b.tb b.pi (a.aS n co).O),.cfam (bO (a.aS n co)) (fun z=>(c1.t z).b) 4 (cT b.tb c1.t),.fam (bO (a.aS n co)) (rT 168 c1.t)]):=by
 by_cases hh:a.head n=n
 ·exact I4 a b c N T hw hc hT n co hl hx hh
 ·exact HW a b c N T hw hc hT n co hl hx hh
theorem Ca(a:KA)(b:KZ)(c:KC)(N:Nat)(T:Int)(hw:a.Wk T)(hc:eQ a c N T)(hT:T≤900000)(n:Int)(hn:0≤n∧n<20)(o:Bool)(hl:(a.u n).st=1)(hx:a.Hx n)(he:¬((a.u n).bx.first 0)=0)(ho:o=true∨a.head n≠n):Spec Tryz.prog 74 [ptr b.kb 0 0,.int .i64 n,.bool o] [.cells b.kb 0 453 (ah (kp a b c)),.cells b.gb 0 60 (Gr.aC a.g),.cells b.sb 0 158 (Sp.aB a.s),.cells b.qb 0 2281 (Fa.aq c.q),.fam Fa.aH (Fa.SC.rows 254 c.q),.cells b.bb 0 577 (Vm.bz b.vp a.v.by_ a.v.rf),.cells b.vp 0 71 (Vm.au a.v.bb.bJ),.cfam (bN a) c.mb 34 (cN b.bb a.f c.pp c.cc),.fam (bN a) (rN 171 a.f c.pp c.cc),.cells b.tb 0 321 (Tr.ay c.F),.fam Tr.ai (Tr.FC.aD 9 c.F),.fam Tr.ai (Tr.FC.aF 3 c.F),aZ c.rp c.rc 3 c.rl,.cells b.pi 0 24 (Tr.au a.P),.cells b.ob 0 122 (Tr.az b.tb b.pi a.O),.cfam (bO a) (fun z=>(c.t z).b) 4 (cT b.tb c.t),.fam (bO a) (rT 168 c.t),.ro 0 0 32 Sg.cX] (fun v H1=>∃ c1:KC,eQ (a.aS n (128+((a.u n).bx.first 0))) c1 N T∧H1=[.cells b.kb 0 453 (ah (kp (a.aS n (128+((a.u n).bx.first 0))) b c1)),.cells b.gb 0 60 (Gr.aC (a.aS n (128+((a.u n).bx.first 0))).g),.cells b.sb 0 158 (Sp.aB (a.aS n (128+((a.u n).bx.first 0))).s),.cells b.qb 0 2281 (Fa.aq c1.q),.fam Fa.aH (Fa.SC.rows 254 c1.q),.cells b.bb 0 577 (Vm.bz b.vp (a.aS n (128+((a.u n).bx.first 0))).v.by_ (a.aS n (128+((a.u n).bx.first 0))).v.rf),.cells b.vp 0 71 (Vm.au (a.aS n (128+((a.u n).bx.first 0))).v.bb.bJ),.cfam (bN (a.aS n (128+((a.u n).bx.first 0)))) c1.mb 34 (cN b.bb (a.aS n (128+((a.u n).bx.first 0))).f c1.pp c1.cc),.fam (bN (a.aS n (128+((a.u n).bx.first 0)))) (rN 171 (a.aS n (128+((a.u n).bx.first 0))).f c1.pp c1.cc),.cells b.tb 0 321 (Tr.ay c1.F),.fam Tr.ai (Tr.FC.aD 9 c1.F),.fam Tr.ai (Tr.FC.aF 3 c1.F),aZ c1.rp c1.rc 3 c1.rl,.cells b.pi 0 24 (Tr.au (a.aS n (128+((a.u n).bx.first 0))).P),.cells b.ob 0 122 (Tr.az b.tb b.pi (a.aS n (128+((a.u n).bx.first 0))).O),.cfam (bO (a.aS n (128+((a.u n).bx.first 0)))) (fun z=>(c1.t z).b) 4 (cT b.tb c1.t),.fam (bO (a.aS n (128+((a.u n).bx.first 0)))) (rT 168 c1.t)]):=by
 refine Spec.go 36 [0,1,2,6,7,30] [] Tryz.func74 rfl rfl rfl ?_
 intro W
 refine XR.mono (fun _ hw3=>XM.rU (k:=kp a b c) (n:=n) (by omega) .h1 hw3) ?_
 refine sd (by omega) ?_
 refine u9 1 (Sg.qD b.kb (0+eW n) _ (hw.bx n)) (.cons .here (.cons (.t12 (.t6 .here)) .nil)) rfl ?_
 rintro _ _ ⟨rfl,rfl⟩
 refine gO ?_
 refine XR.mono (fun _ hw3=>XM.wE (k:=kp a b c) (n:=n) (by omega) (.cons .here (.cons (.there .here) (.cons (.there .here) .nil))) hw3) ?_
 refine N0 19 rfl (he) ?_
 refine JJ 21 rfl ?_ ?_<;>intro h2
 ·try simp only[sb]at h2
  have hfr:=Sg.BS.py (a.u n).bx 0 (hw.bx n)
  refine sd (by omega) ?_
  refine u9 17 (vk a b c N T hw hc hT n _ hl hx) (.cons .here (.cons (.there .here) (.cons (.there .here) (.cons (.there .here) (.cons (.there .here) (.cons (.there .here) (.cons (.there .here) (.cons (.there .here) (.cons (.there .here) (.cons (.there .here) (.cons (.there .here) (.cons (.there .here) (.cons (.there .here) (.cons (.there .here) (.cons (.there .here) (.cons (.there .here) (.cons (.there .here) .h1))))))))))))))))) rfl ?_
  rintro _ _ ⟨c1,hc1,rfl⟩
  refine gO ?_
  refine XE.fC rfl (ab .la rfl ?_)
  try dsimp only[SW.den,SV.den,aj,aL]
  exact⟨c1,hc1,rfl⟩
 ·try simp only[sb]at h2
  refine ca (iw b.kb (kp a b c) a.s n) (.cons .here (.cons (.t2 .here) .nil)) ?_
  rintro _ _ ⟨rfl,rfl⟩
  refine gO ?_
  refine ca (qU b.kb (kp a b c) a.s _) .h2 ?_
  rintro _ _ ⟨rfl,rfl⟩
  refine gO ?_
  refine L4 rfl (by first | rfl | exact fun q=>(ho.resolve_left (by simp_all)) q) ?_
  have hfr:=Sg.BS.py (a.u n).bx 0 (hw.bx n)
  refine sd (by omega) ?_
  refine u9 17 (vk a b c N T hw hc hT n _ hl hx) (.cons .here (.cons (.t2 .here) (.cons .here (.cons (.there .here) (.cons (.there .here) (.cons (.there .here) (.cons (.there .here) (.cons (.there .here) (.cons (.there .here) (.cons (.there .here) (.cons (.there .here) (.cons (.there .here) (.cons (.there .here) (.cons (.there .here) (.cons (.there .here) (.cons (.there .here) (.cons (.there .here) .h1))))))))))))))))) rfl ?_
  rintro _ _ ⟨c1,hc1,rfl⟩
  refine gO ?_
  refine XE.fC rfl (ab .la rfl ?_)
  try dsimp only[SW.den,SV.den,aj,aL]
  exact⟨c1,hc1,rfl⟩
theorem Bx(a:KA)(b:KZ)(c:KC)(N:Nat)(T:Int)(hw:a.Wk T)(hc:eQ a c N T)(hT:T≤900000)(n:Int)(hn:0≤n∧n<20)(o:Bool)(he:((a.u n).bx.first 0)=0):Spec Tryz.prog 74 [ptr b.kb 0 0,.int .i64 n,.bool o] [.cells b.kb 0 453 (ah (kp a b c)),.cells b.gb 0 60 (Gr.aC a.g),.cells b.sb 0 158 (Sp.aB a.s),.cells b.qb 0 2281 (Fa.aq c.q),.fam Fa.aH (Fa.SC.rows 254 c.q),.cells b.bb 0 577 (Vm.bz b.vp a.v.by_ a.v.rf),.cells b.vp 0 71 (Vm.au a.v.bb.bJ),.cfam (bN a) c.mb 34 (cN b.bb a.f c.pp c.cc),.fam (bN a) (rN 171 a.f c.pp c.cc),.cells b.tb 0 321 (Tr.ay c.F),.fam Tr.ai (Tr.FC.aD 9 c.F),.fam Tr.ai (Tr.FC.aF 3 c.F),aZ c.rp c.rc 3 c.rl,.cells b.pi 0 24 (Tr.au a.P),.cells b.ob 0 122 (Tr.az b.tb b.pi a.O),.cfam (bO a) (fun z=>(c.t z).b) 4 (cT b.tb c.t),.fam (bO a) (rT 168 c.t),.ro 0 0 32 Sg.cX] (fun v H1=>∃ c1:KC,eQ a c1 N T∧H1=[.cells b.kb 0 453 (ah (kp a b c1)),.cells b.gb 0 60 (Gr.aC a.g),.cells b.sb 0 158 (Sp.aB a.s),.cells b.qb 0 2281 (Fa.aq c1.q),.fam Fa.aH (Fa.SC.rows 254 c1.q),.cells b.bb 0 577 (Vm.bz b.vp a.v.by_ a.v.rf),.cells b.vp 0 71 (Vm.au a.v.bb.bJ),.cfam (bN a) c1.mb 34 (cN b.bb a.f c1.pp c1.cc),.fam (bN a) (rN 171 a.f c1.pp c1.cc),.cells b.tb 0 321 (Tr.ay c1.F),.fam Tr.ai (Tr.FC.aD 9 c1.F),.fam Tr.ai (Tr.FC.aF 3 c1.F),aZ c1.rp c1.rc 3 c1.rl,.cells b.pi 0 24 (Tr.au a.P),.cells b.ob 0 122 (Tr.az b.tb b.pi a.O),.cfam (bO a) (fun z=>(c1.t z).b) 4 (cT b.tb c1.t),.fam (bO a) (rT 168 c1.t)]):=by
 refine Spec.go 36 [0,1,2,6,7,30] [] Tryz.func74 rfl rfl rfl ?_
 intro W
 refine XR.mono (fun _ hw3=>XM.rU (k:=kp a b c) (n:=n) (by omega) .h1 hw3) ?_
 refine sd (by omega) ?_
 refine u9 1 (Sg.qD b.kb (0+eW n) _ (hw.bx n)) (.cons .here (.cons (.t12 (.t6 .here)) .nil)) rfl ?_
 rintro _ _ ⟨rfl,rfl⟩
 refine gO ?_
 refine XR.mono (fun _ hw3=>XM.wE (k:=kp a b c) (n:=n) (by omega) (.cons .here (.cons (.there .here) (.cons (.there .here) .nil))) hw3) ?_
 refine Jc 19 rfl (by omega) ?_
 refine XE.fC rfl (ab (.cons .here (.cons (.there .here) (.cons (.there .here) (.cons (.there .here) (.cons (.there .here) (.cons (.there .here) (.cons (.there .here) (.cons (.there .here) (.cons (.there .here) (.cons (.there .here) (.cons (.there .here) (.cons (.there .here) (.cons (.there .here) (.cons (.there .here) (.cons (.there .here) (.cons (.there .here) (.cons (.there .here) .nil))))))))))))))))) rfl ?_)
 try dsimp only[SW.den,SV.den,aj,aL]
 exact⟨c,hc,rfl⟩
theorem BH(a:KA)(b:KZ)(c:KC)(N:Nat)(T:Int)(hw:a.Wk T)(hc:eQ a c N T)(hT:T≤900000)(n:Int)(hn:0≤n∧n<20)(he:¬((a.u n).bx.first 0)=0)(hh:a.head n=n):Spec Tryz.prog 74 [ptr b.kb 0 0,.int .i64 n,.bool false] [.cells b.kb 0 453 (ah (kp a b c)),.cells b.gb 0 60 (Gr.aC a.g),.cells b.sb 0 158 (Sp.aB a.s),.cells b.qb 0 2281 (Fa.aq c.q),.fam Fa.aH (Fa.SC.rows 254 c.q),.cells b.bb 0 577 (Vm.bz b.vp a.v.by_ a.v.rf),.cells b.vp 0 71 (Vm.au a.v.bb.bJ),.cfam (bN a) c.mb 34 (cN b.bb a.f c.pp c.cc),.fam (bN a) (rN 171 a.f c.pp c.cc),.cells b.tb 0 321 (Tr.ay c.F),.fam Tr.ai (Tr.FC.aD 9 c.F),.fam Tr.ai (Tr.FC.aF 3 c.F),aZ c.rp c.rc 3 c.rl,.cells b.pi 0 24 (Tr.au a.P),.cells b.ob 0 122 (Tr.az b.tb b.pi a.O),.cfam (bO a) (fun z=>(c.t z).b) 4 (cT b.tb c.t),.fam (bO a) (rT 168 c.t),.ro 0 0 32 Sg.cX] (fun v H1=>∃ c1:KC,eQ a c1 N T∧H1=[.cells b.kb 0 453 (ah (kp a b c1)),.cells b.gb 0 60 (Gr.aC a.g),.cells b.sb 0 158 (Sp.aB a.s),.cells b.qb 0 2281 (Fa.aq c1.q),.fam Fa.aH (Fa.SC.rows 254 c1.q),.cells b.bb 0 577 (Vm.bz b.vp a.v.by_ a.v.rf),.cells b.vp 0 71 (Vm.au a.v.bb.bJ),.cfam (bN a) c1.mb 34 (cN b.bb a.f c1.pp c1.cc),.fam (bN a) (rN 171 a.f c1.pp c1.cc),.cells b.tb 0 321 (Tr.ay c1.F),.fam Tr.ai (Tr.FC.aD 9 c1.F),.fam Tr.ai (Tr.FC.aF 3 c1.F),aZ c1.rp c1.rc 3 c1.rl,.cells b.pi 0 24 (Tr.au a.P),.cells b.ob 0 122 (Tr.az b.tb b.pi a.O),.cfam (bO a) (fun z=>(c1.t z).b) 4 (cT b.tb c1.t),.fam (bO a) (rT 168 c1.t)]):=by
 refine Spec.go 36 [0,1,2,6,7,30] [] Tryz.func74 rfl rfl rfl ?_
 intro W
 refine XR.mono (fun _ hw3=>XM.rU (k:=kp a b c) (n:=n) (by omega) .h1 hw3) ?_
 refine sd (by omega) ?_
 refine u9 1 (Sg.qD b.kb (0+eW n) _ (hw.bx n)) (.cons .here (.cons (.t12 (.t6 .here)) .nil)) rfl ?_
 rintro _ _ ⟨rfl,rfl⟩
 refine gO ?_
 refine XR.mono (fun _ hw3=>XM.wE (k:=kp a b c) (n:=n) (by omega) (.cons .here (.cons (.there .here) (.cons (.there .here) .nil))) hw3) ?_
 refine N0 19 rfl (he) ?_
 refine ca (iw b.kb (kp a b c) a.s n) (.cons .here (.cons (.t2 .here) .nil)) ?_
 rintro _ _ ⟨rfl,rfl⟩
 refine gO ?_
 refine ca (qU b.kb (kp a b c) a.s _) .h2 ?_
 rintro _ _ ⟨rfl,rfl⟩
 refine gO ?_
 refine xV rfl (fun q=>q hh) ?_
 refine XE.fC rfl (ab (.cons .here (.cons (.t2 .here) (.cons .here (.cons (.there .here) (.cons (.there .here) (.cons (.there .here) (.cons (.there .here) (.cons (.there .here) (.cons (.there .here) (.cons (.there .here) (.cons (.there .here) (.cons (.there .here) (.cons (.there .here) (.cons (.there .here) (.cons (.there .here) (.cons (.there .here) (.cons (.there .here) .nil))))))))))))))))) rfl ?_)
 try dsimp only[SW.den,SV.den,aj,aL]
 exact⟨c,hc,rfl⟩
theorem B4(a:KA)(b:KZ)(c:KC)(N:Nat)(T:Int)(hw:a.Wk T)(hc:eQ a c N T)(hT:T≤900000)(n:Int)(hn:0≤n∧n<20)(o:Bool)(he:¬a.ends n o):Spec Tryz.prog 74 [ptr b.kb 0 0,.int .i64 n,.bool o] [.cells b.kb 0 453 (ah (kp a b c)),.cells b.gb 0 60 (Gr.aC a.g),.cells b.sb 0 158 (Sp.aB a.s),.cells b.qb 0 2281 (Fa.aq c.q),.fam Fa.aH (Fa.SC.rows 254 c.q),.cells b.bb 0 577 (Vm.bz b.vp a.v.by_ a.v.rf),.cells b.vp 0 71 (Vm.au a.v.bb.bJ),.cfam (bN a) c.mb 34 (cN b.bb a.f c.pp c.cc),.fam (bN a) (rN 171 a.f c.pp c.cc),.cells b.tb 0 321 (Tr.ay c.F),.fam Tr.ai (Tr.FC.aD 9 c.F),.fam Tr.ai (Tr.FC.aF 3 c.F),aZ c.rp c.rc 3 c.rl,.cells b.pi 0 24 (Tr.au a.P),.cells b.ob 0 122 (Tr.az b.tb b.pi a.O),.cfam (bO a) (fun z=>(c.t z).b) 4 (cT b.tb c.t),.fam (bO a) (rT 168 c.t),.ro 0 0 32 Sg.cX] (fun v H1=>∃ c1:KC,eQ a c1 N T∧H1=[.cells b.kb 0 453 (ah (kp a b c1)),.cells b.gb 0 60 (Gr.aC a.g),.cells b.sb 0 158 (Sp.aB a.s),.cells b.qb 0 2281 (Fa.aq c1.q),.fam Fa.aH (Fa.SC.rows 254 c1.q),.cells b.bb 0 577 (Vm.bz b.vp a.v.by_ a.v.rf),.cells b.vp 0 71 (Vm.au a.v.bb.bJ),.cfam (bN a) c1.mb 34 (cN b.bb a.f c1.pp c1.cc),.fam (bN a) (rN 171 a.f c1.pp c1.cc),.cells b.tb 0 321 (Tr.ay c1.F),.fam Tr.ai (Tr.FC.aD 9 c1.F),.fam Tr.ai (Tr.FC.aF 3 c1.F),aZ c1.rp c1.rc 3 c1.rl,.cells b.pi 0 24 (Tr.au a.P),.cells b.ob 0 122 (Tr.az b.tb b.pi a.O),.cfam (bO a) (fun z=>(c1.t z).b) 4 (cT b.tb c1.t),.fam (bO a) (rT 168 c1.t)]):=by
 by_cases h0:((a.u n).bx.first 0)=0
 ·exact Bx a b c N T hw hc hT n hn o h0
 ·have h1:¬(o=true∨a.head n≠n):=fun q=>he ⟨h0,q⟩
  have ho:o=false:=by cases o;rfl;exact absurd (.inl rfl) h1
  subst ho
  exact BH a b c N T hw hc hT n hn h0 (Decidable.byContradiction fun q=>h1 (.inr q))
theorem Gn(a:KA)(b:KZ)(c:KC)(N:Nat)(T:Int)(hw:a.Wk T)(hc:eQ a c N T)(hT:T≤900000)(n:Int)(hn:0≤n∧n<20)(o:Bool)(hl:(a.u n).st=1)(hx:a.Hx n):Spec Tryz.prog 74 [ptr b.kb 0 0,.int .i64 n,.bool o] [.cells b.kb 0 453 (ah (kp a b c)),.cells b.gb 0 60 (Gr.aC a.g),.cells b.sb 0 158 (Sp.aB a.s),.cells b.qb 0 2281 (Fa.aq c.q),.fam Fa.aH (Fa.SC.rows 254 c.q),.cells b.bb 0 577 (Vm.bz b.vp a.v.by_ a.v.rf),.cells b.vp 0 71 (Vm.au a.v.bb.bJ),.cfam (bN a) c.mb 34 (cN b.bb a.f c.pp c.cc),.fam (bN a) (rN 171 a.f c.pp c.cc),.cells b.tb 0 321 (Tr.ay c.F),.fam Tr.ai (Tr.FC.aD 9 c.F),.fam Tr.ai (Tr.FC.aF 3 c.F),aZ c.rp c.rc 3 c.rl,.cells b.pi 0 24 (Tr.au a.P),.cells b.ob 0 122 (Tr.az b.tb b.pi a.O),.cfam (bO a) (fun z=>(c.t z).b) 4 (cT b.tb c.t),.fam (bO a) (rT 168 c.t),.ro 0 0 32 Sg.cX] (fun v H1=>∃ c1:KC,eQ (a.bS n o) c1 N T∧H1=[.cells b.kb 0 453 (ah (kp (a.bS n o) b c1)),.cells b.gb 0 60 (Gr.aC (a.bS n o).g),.cells b.sb 0 158 (Sp.aB (a.bS n o).s),.cells b.qb 0 2281 (Fa.aq c1.q),.fam Fa.aH (Fa.SC.rows 254 c1.q),.cells b.bb 0 577 (Vm.bz b.vp (a.bS n o).v.by_ (a.bS n o).v.rf),.cells b.vp 0 71 (Vm.au (a.bS n o).v.bb.bJ),.cfam (bN (a.bS n o)) c1.mb 34 (cN b.bb (a.bS n o).f c1.pp c1.cc),.fam (bN (a.bS n o)) (rN 171 (a.bS n o).f c1.pp c1.cc),.cells b.tb 0 321 (Tr.ay c1.F),.fam Tr.ai (Tr.FC.aD 9 c1.F),.fam Tr.ai (Tr.FC.aF 3 c1.F),aZ c1.rp c1.rc 3 c1.rl,.cells b.pi 0 24 (Tr.au (a.bS n o).P),.cells b.ob 0 122 (Tr.az b.tb b.pi (a.bS n o).O),.cfam (bO (a.bS n o)) (fun z=>(c1.t z).b) 4 (cT b.tb c1.t),.fam (bO (a.bS n o)) (rT 168 c1.t)]):=by
 by_cases he:a.ends n o
 ·rw[KA.su he];exact Ca a b c N T hw hc hT n hn o hl hx he.1 he.2
 ·rw[KA.tZ he]
  exact B4 a b c N T hw hc hT n hn o he
theorem K4(a:KA)(b:KZ)(c:KC)(N:Nat)(T:Int)(hw:a.Wk T)(hc:eQ a c N T)(hT:T≤900000)(n sig:Int)(o:Bool)(hx:a.Hx n):Spec Tryz.prog 71 [ptr b.kb 0 0,.int .i64 n,.int .i64 sig,.bool o] [.cells b.kb 0 453 (ah (kp a b c)),.cells b.gb 0 60 (Gr.aC a.g),.cells b.sb 0 158 (Sp.aB a.s),.cells b.qb 0 2281 (Fa.aq c.q),.fam Fa.aH (Fa.SC.rows 254 c.q),.cells b.bb 0 577 (Vm.bz b.vp a.v.by_ a.v.rf),.cells b.vp 0 71 (Vm.au a.v.bb.bJ),.cfam (bN a) c.mb 34 (cN b.bb a.f c.pp c.cc),.fam (bN a) (rN 171 a.f c.pp c.cc),.cells b.tb 0 321 (Tr.ay c.F),.fam Tr.ai (Tr.FC.aD 9 c.F),.fam Tr.ai (Tr.FC.aF 3 c.F),aZ c.rp c.rc 3 c.rl,.cells b.pi 0 24 (Tr.au a.P),.cells b.ob 0 122 (Tr.az b.tb b.pi a.O),.cfam (bO a) (fun z=>(c.t z).b) 4 (cT b.tb c.t),.fam (bO a) (rT 168 c.t),.ro 0 0 32 Sg.cX] (fun v H1=>∃ c1:KC,eQ (a.fD n sig o) c1 N T∧H1=[.cells b.kb 0 453 (ah (kp (a.fD n sig o) b c1)),.cells b.gb 0 60 (Gr.aC (a.fD n sig o).g),.cells b.sb 0 158 (Sp.aB (a.fD n sig o).s),.cells b.qb 0 2281 (Fa.aq c1.q),.fam Fa.aH (Fa.SC.rows 254 c1.q),.cells b.bb 0 577 (Vm.bz b.vp (a.fD n sig o).v.by_ (a.fD n sig o).v.rf),.cells b.vp 0 71 (Vm.au (a.fD n sig o).v.bb.bJ),.cfam (bN (a.fD n sig o)) c1.mb 34 (cN b.bb (a.fD n sig o).f c1.pp c1.cc),.fam (bN (a.fD n sig o)) (rN 171 (a.fD n sig o).f c1.pp c1.cc),.cells b.tb 0 321 (Tr.ay c1.F),.fam Tr.ai (Tr.FC.aD 9 c1.F),.fam Tr.ai (Tr.FC.aF 3 c1.F),aZ c1.rp c1.rc 3 c1.rl,.cells b.pi 0 24 (Tr.au (a.fD n sig o).P),.cells b.ob 0 122 (Tr.az b.tb b.pi (a.fD n sig o).O),.cfam (bO (a.fD n sig o)) (fun z=>(c1.t z).b) 4 (cT b.tb c1.t),.fam (bO (a.fD n sig o)) (rT 168 c1.t)]):=by
 refine Spec.go 27 [0,1,2,3,8,9,17] [] Tryz.func71 rfl rfl rfl ?_
 intro W
 refine ca (lD b.kb (kp a b c) n) .h1 ?_
 rintro _ _ ⟨⟨hl,rfl⟩ | ⟨hl,rfl⟩,rfl⟩
 ·
  try dsimp only[aT,aV,bu,bj,bk,bd,aW,bh,aY,aX,aP,aN,aQ,aO]
  obtain⟨hlr,hls⟩:=KP.gi hl
  refine gO ?_
  refine XR.mono (fun _ hw3=>XM.rU (k:=kp a b c) (n:=n) (by omega) .h1 hw3) ?_
  refine ca (Sg.Dx b.kb (0+eW n) _ sig) .h1 ?_
  rintro _ _ ⟨rfl,rfl⟩
  refine gO ?_
  refine XR.mono (fun _ hw3=>XM.zd (k:=kp a b c) (n:=n) (by omega) .h3 hw3) ?_
  rw[GO]
  rw[←Au a n ((a.u n).bx.send sig).2,←IX a n ((a.u n).bx.send sig).2]
  refine u9 17 (Gn (a.ia n ((a.u n).bx.send sig).2) b c N T (hw.ia hlr (kI _ _ (hw.bx n))) (hc.box _ _) hT n hlr o (by rw[fF];exact hls) (hx.box _)) .vF rfl ?_
  rintro _ _ ⟨c1,hc1,rfl⟩
  refine gO ?_
  refine XE.fC rfl (ab .la rfl ?_)
  try dsimp only[SW.den,SV.den,aj,aL]
  have e:a.fD n sig o=(a.ia n ((a.u n).bx.send sig).2).bS n o:=if_pos hl
  rw[e];exact⟨c1,hc1,rfl⟩
 ·
  try dsimp only[aT,aV,bu,bj,bk,bd,aW,bh,aY,aX,aP,aN,aQ,aO]
  refine gO ?_
  refine XE.KU rfl (ab .la rfl ?_)
  try dsimp only[SW.den,SV.den,aj,aL]
  have e:a.fD n sig o=a:=if_neg (fun q=>hl q)
  rw[e];exact⟨c,hc,rfl⟩
end Go.X.Kn
