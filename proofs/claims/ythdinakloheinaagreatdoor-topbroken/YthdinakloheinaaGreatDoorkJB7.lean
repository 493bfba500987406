import Derived.Test.YthdinakloheinaaGreatDoorkJB4
import Derived.Test.YthdinakloheinaaGreatDoorkJBG
namespace Go.X.Kn
open Go Go.Proofs Go.X
set_option maxRecDepth 20000
set_option maxHeartbeats 4000000
theorem Ds(kb:Nat)(k:KP)(s:Sp.SS)(n:Int)(hn:0≤n∧n<20)(hz:(k.u n).bx.wait 0=false)(o:Bool)(he:(k.u n).bx.first 0=0):Spec Tryz.prog 74 [ptr kb 0 0,.int .i64 n,.bool o] [.cells kb 0 453 (ah k),.cells k.sb 0 158 (Sp.aA s),.ro 0 0 32 Sg.b6] (fun v H1=>H1=[.cells kb 0 453 (ah k),.cells k.sb 0 158 (Sp.aA s)]):=by
 refine Spec.go 36 [0,1,2,6,7,30] [] Tryz.func74 rfl rfl rfl ?_
 intro W
 refine XR.mono (fun _ hw3=>XM.k8 (n:=n) (by omega) .h1 hw3) ?_
 refine sd (by omega) ?_
 refine kW 1 (Sg.sJ kb (0+ey n) _ hz) (.cons .here (.cons (.t3 .here) .nil)) rfl ?_
 rintro _ _ ⟨rfl,rfl⟩
 refine gO ?_
 refine XR.mono (fun _ hw3=>XM.pH (n:=n) (by omega) (.cons .here (.cons (.there .here) (.cons (.there .here) .nil))) hw3) ?_
 refine Dg 19 rfl (by omega) ?_
 refine XE.fD rfl (ab (.cons .here (.cons (.there .here) .nil)) rfl ?_)
 try dsimp only[SW.den,SV.den,aj,aZ]
 all_goals rfl
theorem Dn(kb:Nat)(k:KP)(s:Sp.SS)(n:Int)(hn:0≤n∧n<20)(hz:(k.u n).bx.wait 0=false)(he:¬(k.u n).bx.first 0=0)(hh:(s.find (s.bZ n).1 1).1=n):Spec Tryz.prog 74 [ptr kb 0 0,.int .i64 n,.bool false] [.cells kb 0 453 (ah k),.cells k.sb 0 158 (Sp.aA s),.ro 0 0 32 Sg.b6] (fun v H1=>H1=[.cells kb 0 453 (ah k),.cells k.sb 0 158 (Sp.aA s)]):=by
 refine Spec.go 36 [0,1,2,6,7,30] [] Tryz.func74 rfl rfl rfl ?_
 intro W
 refine XR.mono (fun _ hw3=>XM.k8 (n:=n) (by omega) .h1 hw3) ?_
 refine sd (by omega) ?_
 refine kW 1 (Sg.sJ kb (0+ey n) _ hz) (.cons .here (.cons (.t3 .here) .nil)) rfl ?_
 rintro _ _ ⟨rfl,rfl⟩
 refine gO ?_
 refine XR.mono (fun _ hw3=>XM.pH (n:=n) (by omega) (.cons .here (.cons (.there .here) (.cons (.there .here) .nil))) hw3) ?_
 refine Lj 19 rfl (by omega) ?_
 refine ca (gN kb k s n) (.cons .here (.cons (.there .here) .nil)) ?_
 rintro _ _ ⟨rfl,rfl⟩
 refine gO ?_
 refine ca (rM kb k s _) .h2 ?_
 rintro _ _ ⟨rfl,rfl⟩
 refine gO ?_
 refine uu rfl (by omega) ?_
 refine XE.fD rfl (ab .h2 rfl ?_)
 try dsimp only[SW.den,SV.den,aj,aZ]
 all_goals rfl
theorem CH(kb:Nat)(k:KP)(s:Sp.SS)(n:Int)(hn:0≤n∧n<20)(hz:(k.u n).bx.wait 0=false)(o:Bool)(hq:(k.u n).bx.first 0=0∨(o=false∧(s.find (s.bZ n).1 1).1=n)):Spec Tryz.prog 74 [ptr kb 0 0,.int .i64 n,.bool o] [.cells kb 0 453 (ah k),.cells k.sb 0 158 (Sp.aA s),.ro 0 0 32 Sg.b6] (fun v H1=>H1=[.cells kb 0 453 (ah k),.cells k.sb 0 158 (Sp.aA s)]):=by
 by_cases he:(k.u n).bx.first 0=0
 ·exact Ds kb k s n hn hz o he
 ·obtain⟨ho,hh⟩:=hq.resolve_left he
  subst ho
  exact Dn kb k s n hn hz he hh
theorem z7(kb:Nat)(k:KP)(s:Sp.SS)(n sig:Int)(o:Bool)(hz:k.live n=0→(k.u n).bx.wait 0=false)(hq:k.live n=0→(((k.u n).bx.send sig).2.first 0=0∨(o=false∧(s.find (s.bZ n).1 1).1=n))):Spec Tryz.prog 71 [ptr kb 0 0,.int .i64 n,.int .i64 sig,.bool o] [.cells kb 0 453 (ah k),.cells k.sb 0 158 (Sp.aA s),.ro 0 0 32 Sg.b6] (fun v H1=>H1=[.cells kb 0 453 (ah (if k.live n=0 then k.box n ((k.u n).bx.send sig).2 else k)),.cells k.sb 0 158 (Sp.aA s)]):=by
 refine Spec.go 27 [0,1,2,3,8,9,17] [] Tryz.func71 rfl rfl rfl ?_
 intro W
 refine ca (gu kb _ _) .h1 ?_
 rintro _ _ ⟨⟨hl,rfl⟩ | ⟨hl,rfl⟩,rfl⟩
 ·
  try dsimp only[aC,aS,aM,aR,aN,aP,aQ,aU,aO,aT,aG,aH,aB,aF]
  obtain⟨hlr,hls⟩:=KP.dN hl
  refine gO ?_
  refine XR.mono (fun _ hw3=>XM.k8 (n:=n) (by omega) .h1 hw3) ?_
  refine ca (Sg.DB kb (0+ey n) _ sig) .h1 ?_
  rintro _ _ ⟨rfl,rfl⟩
  refine gO ?_
  refine XR.mono (fun _ hw3=>XM.mL (n:=n) (by omega) .h3 hw3) ?_
  refine kW 2 (CH kb (k.box n ((k.u n).bx.send sig).2) s n hlr (by unfold KP.box;rw[KP.gr];exact ki _ _ (hz hl)) o (by unfold KP.box;rw[KP.gr];exact hq hl)) .h3 rfl ?_
  rintro _ _ rfl
  refine gO ?_
  refine XE.fD rfl (ab .h2 rfl ?_)
  try dsimp only[SW.den,SV.den,aj,aZ]
  rw[if_pos hl]
  all_goals rfl
 ·
  try dsimp only[aC,aS,aM,aR,aN,aP,aQ,aU,aO,aT,aG,aH,aB,aF]
  refine gO ?_
  refine XE.K8 rfl (ab .h2 rfl ?_)
  try dsimp only[SW.den,SV.den,aj,aZ]
  rw[if_neg hl]
  all_goals rfl
end Go.X.Kn

namespace Go.X.Kn
open Go Go.Proofs Go.X
set_option maxRecDepth 20000
set_option maxHeartbeats 4000000
attribute [local irreducible] KA.bO
theorem Bg(a:KA)(b:KZ)(c:KC)(p:Int):([.cells b.kb 0 453 (ah (kp (a.dB p) b c)),.cells b.gb 0 60 (Gr.ay (a.dB p).g),.cells b.sb 0 158 (Sp.aA (a.dB p).s),.cells b.qb 0 2281 (Fa.ao c.q),.fam Fa.aL (Fa.SC.rows 254 c.q),.cells b.bb 0 577 (Vm.bu b.vp (a.dB p).v.by_ (a.dB p).v.rf),.cells b.vp 0 71 (Vm.aq (a.dB p).v.bb.bA),.cfam (bD (a.dB p)) c.mb 34 (cN b.bb (a.dB p).f c.pp c.cc),.fam (bD (a.dB p)) (rN 171 (a.dB p).f c.pp c.cc),.cells b.tb 0 321 (Tr.av c.F),.fam Tr.ai (Tr.FC.aJ 9 c.F),.fam Tr.ai (Tr.FC.aK 3 c.F),bk c.rp c.rc 3 c.rl,.cells b.pi 0 24 (Tr.aq (a.dB p).P),.cells b.ob 0 122 (Tr.aD b.tb b.pi (a.dB p).O),.cfam (bI (a.dB p)) (fun z=>(c.t z).b) 4 (cT b.tb c.t),.fam (bI (a.dB p)) (rT 168 c.t)]:List ax)=[.cells b.kb 0 453 (ah (if(kp a b c).live p=0 then(kp a b c).box p (((kp a b c).u p).bx.send 3).2 else kp a b c)),.cells b.gb 0 60 (Gr.ay a.g),.cells b.sb 0 158 (Sp.aA a.s),.cells b.qb 0 2281 (Fa.ao c.q),.fam Fa.aL (Fa.SC.rows 254 c.q),.cells b.bb 0 577 (Vm.bu b.vp a.v.by_ a.v.rf),.cells b.vp 0 71 (Vm.aq a.v.bb.bA),.cfam (bD a) c.mb 34 (cN b.bb a.f c.pp c.cc),.fam (bD a) (rN 171 a.f c.pp c.cc),.cells b.tb 0 321 (Tr.av c.F),.fam Tr.ai (Tr.FC.aJ 9 c.F),.fam Tr.ai (Tr.FC.aK 3 c.F),bk c.rp c.rc 3 c.rl,.cells b.pi 0 24 (Tr.aq a.P),.cells b.ob 0 122 (Tr.aD b.tb b.pi a.O),.cfam (bI a) (fun z=>(c.t z).b) 4 (cT b.tb c.t),.fam (bI a) (rT 168 c.t)]:=by
 have e:kp (a.dB p) b c=(if(kp a b c).live p=0 then(kp a b c).box p (((kp a b c).u p).bx.send 3).2 else kp a b c):=(LJ a b c p).symm
 rw[e,Hl]
 by_cases h:a.live p=0
 ·have h2:a.dB p=a.eT p ((a.u p).bx.send 3).2:=if_pos h
  rw[h2];rfl
 ·have h2:a.dB p=a:=if_neg h
  rw[h2]
set_option maxHeartbeats 16000000 in
theorem Hk(a:KA)(b:KZ)(c:KC)(N:Nat)(T:Int)(hw:a.Wk T)(hc:dq a c N T)(hT:T≤900000)(n co:Int)(hl:(a.u n).st=1)(hx:a.Hx n)(hh:a.head n≠n):Spec Tryz.prog 63 [ptr b.kb 0 0,.int .i64 n,.int .i64 co] [.cells b.kb 0 453 (ah (kp a b c)),.cells b.gb 0 60 (Gr.ay a.g),.cells b.sb 0 158 (Sp.aA a.s),.cells b.qb 0 2281 (Fa.ao c.q),.fam Fa.aL (Fa.SC.rows 254 c.q),.cells b.bb 0 577 (Vm.bu b.vp a.v.by_ a.v.rf),.cells b.vp 0 71 (Vm.aq a.v.bb.bA),.cfam (bD a) c.mb 34 (cN b.bb a.f c.pp c.cc),.fam (bD a) (rN 171 a.f c.pp c.cc),.cells b.tb 0 321 (Tr.av c.F),.fam Tr.ai (Tr.FC.aJ 9 c.F),.fam Tr.ai (Tr.FC.aK 3 c.F),bk c.rp c.rc 3 c.rl,.cells b.pi 0 24 (Tr.aq a.P),.cells b.ob 0 122 (Tr.aD b.tb b.pi a.O),.cfam (bI a) (fun z=>(c.t z).b) 4 (cT b.tb c.t),.fam (bI a) (rT 168 c.t),.ro 0 0 32 Sg.b6] (fun v H1=>∃ c2:KC,dq (a.bn n co) c2 N T∧H1=[.cells b.kb 0 453 (ah (kp (a.bn n co) b c2)),.cells b.gb 0 60 (Gr.ay (a.bn n co).g),.cells b.sb 0 158 (Sp.aA (a.bn n co).s),.cells b.qb 0 2281 (Fa.ao c2.q),.fam Fa.aL (Fa.SC.rows 254 c2.q),.cells b.bb 0 577 (Vm.bu b.vp (a.bn n co).v.by_ (a.bn n co).v.rf),.cells b.vp 0 71 (Vm.aq (a.bn n co).v.bb.bA),.cfam (bD (a.bn n co)) c2.mb 34 (cN b.bb (a.bn n co).f c2.pp c2.cc),.fam (bD (a.bn n co)) (rN 171 (a.bn n co).f c2.pp c2.cc),.cells b.tb 0 321 (Tr.av c2.F),.fam Tr.ai (Tr.FC.aJ 9 c2.F),.fam Tr.ai (Tr.FC.aK 3 c2.F),bk c2.rp c2.rc 3 c2.rl,.cells b.pi 0 24 (Tr.aq (a.bn n co).P),.cells b.ob 0 122 (Tr.aD b.tb b.pi (a.bn n co).O),.cfam (bI (a.bn n co)) (fun z=>(c2.t z).b) 4 (cT b.tb c2.t),.fam (bI (a.bn n co)) (rT 168 c2.t)]):=by
 have hn:0≤n∧n<20:=by
  by_cases e:n<0∨20≤n
  ·rw[hw.out n e]at hl;exact absurd hl (by decide)
  ·omega
 have hw1:=hw.bW hn hl co
 have he1:a.er n co=(a.bW n co):=by unfold KA.er;rw[if_neg hh]
 have hw3:((a.bW n co).cv n (a.head n)).Wk T:=by rw[←he1];exact(hw.er hn hl co).cv _ _
 have hx3:((a.bW n co).cv n (a.head n)).Hx n:=by rw[←he1];exact(hx.er co).cv _ _
 have hst3:(((a.bW n co).cv n (a.head n)).u n).st≠1:=by rw[←he1,(cO _ _ _ _).1];exact nO a n co
 refine Spec.go 65 [0,1,2,6,7,8,21,26,27,47] [] Tryz.func63 rfl rfl rfl ?_
 intro W
 refine ca (gN b.kb (kp a b c) a.s n) (.cons .here (.cons (.there .here) .nil)) ?_
 rintro _ _ ⟨rfl,rfl⟩
 refine gO ?_
 refine ca (rM b.kb (kp a b c) a.s _) .h2 ?_
 rintro _ _ ⟨rfl,rfl⟩
 refine gO ?_
 refine ca (zO a b c N T hw hc hT n co hl) (.cons .here (.cons (.there .here) .Lb)) ?_
 rintro _ _ ⟨c2,hc2,rfl⟩
 refine gO ?_
 refine uu rfl (hh) ?_
 refine lp (σ:=Int) (fun i=>(20-i).toNat) (fun i=>0≤i∧i≤20) (fun i=>[(26,.int .i64 i),(0,ptr b.kb 0 0),(1,.int .i64 n),(7,.int .i64 (a.head n))]) (fun i=>XM W (bS [.cells b.kb 0 453 (ah (kp a b c)),.cells b.gb 0 60 (Gr.ay a.g),.cells b.sb 0 158 (Sp.aA a.s),.cells b.qb 0 2281 (Fa.ao c.q),.fam Fa.aL (Fa.SC.rows 254 c.q),.cells b.bb 0 577 (Vm.bu b.vp a.v.by_ a.v.rf),.cells b.vp 0 71 (Vm.aq a.v.bb.bA),.cfam (bD a) c.mb 34 (cN b.bb a.f c.pp c.cc),.fam (bD a) (rN 171 a.f c.pp c.cc),.cells b.tb 0 321 (Tr.av c.F),.fam Tr.ai (Tr.FC.aJ 9 c.F),.fam Tr.ai (Tr.FC.aK 3 c.F),bk c.rp c.rc 3 c.rl,.cells b.pi 0 24 (Tr.aq a.P),.cells b.ob 0 122 (Tr.aD b.tb b.pi a.O),.cfam (bI a) (fun z=>(c.t z).b) 4 (cT b.tb c.t),.fam (bI a) (rT 168 c.t),.ro 0 0 32 Sg.b6]) [.cells b.kb 0 453 (ah ((kp (a.bW n co) b c2).fG n (a.head n) i)),.cells b.gb 0 60 (Gr.ay (a.bW n co).g),.cells b.sb 0 158 (Sp.aA (a.bW n co).s),.cells b.qb 0 2281 (Fa.ao c2.q),.fam Fa.aL (Fa.SC.rows 254 c2.q),.cells b.bb 0 577 (Vm.bu b.vp (a.bW n co).v.by_ (a.bW n co).v.rf),.cells b.vp 0 71 (Vm.aq (a.bW n co).v.bb.bA),.cfam (bD (a.bW n co)) c2.mb 34 (cN b.bb (a.bW n co).f c2.pp c2.cc),.fam (bD (a.bW n co)) (rN 171 (a.bW n co).f c2.pp c2.cc),.cells b.tb 0 321 (Tr.av c2.F),.fam Tr.ai (Tr.FC.aJ 9 c2.F),.fam Tr.ai (Tr.FC.aK 3 c2.F),bk c2.rp c2.rc 3 c2.rl,.cells b.pi 0 24 (Tr.aq (a.bW n co).P),.cells b.ob 0 122 (Tr.aD b.tb b.pi (a.bW n co).O),.cfam (bI (a.bW n co)) (fun z=>(c2.t z).b) 4 (cT b.tb c2.t),.fam (bI (a.bW n co)) (rT 168 c2.t),.ro 0 0 32 Sg.b6]) (0) ?_ (S4 rfl rfl rfl rfl) (fun _ hw2=>by rw[KP.sE];exact XM.pick .jo hw2) ?_
 ·
  omega
 intro i hi
 refine gC ?_
 refine cd rfl ?_ ?_<;>intro h1
 ·
  refine sd (by omega) ?_
  refine ld .here (ah.ot _ (by omega)) ?_
  refine sp 37 rfl ?_ ?_<;>intro h2
  ·
   rw[KP.fY _ _ _ (Int.le_refl _)]at h2
   have h81:=h2
   refine sd (by omega) ?_
   refine ld .here (ah.qv _ (by omega)) ?_
   refine cd rfl ?_ ?_<;>intro h3
   ·
    rw[KP.fY _ _ _ (Int.le_refl _)]at h3
    have h82:=h3
    refine sd (by omega) ?_
    refine st .here (ah.FG _ (by omega) _) rfl ?_
    refine sd (by omega) ?_
    refine ag (i+1) ?_ ?_ (S4 rfl rfl rfl rfl) (fun _ hw2=>by rw[←KP.tN _ _ _ hi.1 h81 h82];exact XM.pick .jo hw2)
    ·
     (first | omega | (simp;done) | (simp;omega))
    ·
     (first | omega | (simp;done) | (simp;omega))
   ·
    rw[KP.fY _ _ _ (Int.le_refl _)]at h3
    have h82:=h3
    refine sd (by omega) ?_
    refine ag (i+1) ?_ ?_ (S4 rfl rfl rfl rfl) (fun _ hw2=>by rw[KP.kz _ _ _ (fun c=>h82 c.2)];exact XM.pick .jo hw2)
    ·
     (first | omega | (simp;done) | (simp;omega))
    ·
     (first | omega | (simp;done) | (simp;omega))
  ·
   rw[KP.fY _ _ _ (Int.le_refl _)]at h2
   have h81:=h2
   refine sd (by omega) ?_
   refine ag (i+1) ?_ ?_ (S4 rfl rfl rfl rfl) (fun _ hw2=>by rw[KP.kz _ _ _ (fun c=>h81 c.1)];exact XM.pick .jo hw2)
   ·
    (first | omega | (simp;done) | (simp;omega))
   ·
    (first | omega | (simp;done) | (simp;omega))
 ·
  have hi20:i=20:=by omega
  subst hi20
  rw[xD]
  refine sd (by omega) ?_
  refine ld .here (ah.qv _ (by omega)) ?_
  refine kW 2 (z7 b.kb (kp ((a.bW n co).cv n (a.head n)) b c2) (a.bW n co).s ((((a.bW n co).cv n (a.head n)).u n).par) 3 false (fun q=>hw3.bx _) (fun q=>KA.Gg hw3 hx3 hst3 q)) (.cons .here (.cons (.there .here) (.cons (.t12 (.t3 .here)) .nil))) rfl ?_
  rintro _ _ rfl
  refine gO ?_
  refine XE.fD rfl (ab (.cons .here (.cons (.t2 .here) (.cons .here (.cons (.there .here) (.cons (.there .here) (.cons (.there .here) (.cons (.there .here) (.cons (.there .here) (.cons (.there .here) (.cons (.there .here) (.cons (.there .here) (.cons (.there .here) (.cons (.there .here) (.cons (.there .here) (.cons (.there .here) (.cons (.there .here) (.cons (.there .here) .nil))))))))))))))))) rfl ?_)
  try dsimp only[SW.den,SV.den,aj,aZ]
  have hA:a.bn n co=((a.bW n co).cv n (a.head n)).dB (((a.bW n co).cv n (a.head n)).u n).par:=by unfold KA.bn;rw[he1]
  rw[hA]
  refine⟨c2,hc2.dI _ _ _,?_⟩
  rw[Bg,uz,ub]
  rfl
set_option maxHeartbeats 16000000 in
theorem Ib(a:KA)(b:KZ)(c:KC)(N:Nat)(T:Int)(hw:a.Wk T)(hc:dq a c N T)(hT:T≤900000)(n co:Int)(hl:(a.u n).st=1)(hx:a.Hx n)(hh:a.head n=n):Spec Tryz.prog 63 [ptr b.kb 0 0,.int .i64 n,.int .i64 co] [.cells b.kb 0 453 (ah (kp a b c)),.cells b.gb 0 60 (Gr.ay a.g),.cells b.sb 0 158 (Sp.aA a.s),.cells b.qb 0 2281 (Fa.ao c.q),.fam Fa.aL (Fa.SC.rows 254 c.q),.cells b.bb 0 577 (Vm.bu b.vp a.v.by_ a.v.rf),.cells b.vp 0 71 (Vm.aq a.v.bb.bA),.cfam (bD a) c.mb 34 (cN b.bb a.f c.pp c.cc),.fam (bD a) (rN 171 a.f c.pp c.cc),.cells b.tb 0 321 (Tr.av c.F),.fam Tr.ai (Tr.FC.aJ 9 c.F),.fam Tr.ai (Tr.FC.aK 3 c.F),bk c.rp c.rc 3 c.rl,.cells b.pi 0 24 (Tr.aq a.P),.cells b.ob 0 122 (Tr.aD b.tb b.pi a.O),.cfam (bI a) (fun z=>(c.t z).b) 4 (cT b.tb c.t),.fam (bI a) (rT 168 c.t),.ro 0 0 32 Sg.b6] (fun v H1=>∃ c2:KC,dq (a.bn n co) c2 N T∧H1=[.cells b.kb 0 453 (ah (kp (a.bn n co) b c2)),.cells b.gb 0 60 (Gr.ay (a.bn n co).g),.cells b.sb 0 158 (Sp.aA (a.bn n co).s),.cells b.qb 0 2281 (Fa.ao c2.q),.fam Fa.aL (Fa.SC.rows 254 c2.q),.cells b.bb 0 577 (Vm.bu b.vp (a.bn n co).v.by_ (a.bn n co).v.rf),.cells b.vp 0 71 (Vm.aq (a.bn n co).v.bb.bA),.cfam (bD (a.bn n co)) c2.mb 34 (cN b.bb (a.bn n co).f c2.pp c2.cc),.fam (bD (a.bn n co)) (rN 171 (a.bn n co).f c2.pp c2.cc),.cells b.tb 0 321 (Tr.av c2.F),.fam Tr.ai (Tr.FC.aJ 9 c2.F),.fam Tr.ai (Tr.FC.aK 3 c2.F),bk c2.rp c2.rc 3 c2.rl,.cells b.pi 0 24 (Tr.aq (a.bn n co).P),.cells b.ob 0 122 (Tr.aD b.tb b.pi (a.bn n co).O),.cfam (bI (a.bn n co)) (fun z=>(c2.t z).b) 4 (cT b.tb c2.t),.fam (bI (a.bn n co)) (rT 168 c2.t)]):=by
 have hn:0≤n∧n<20:=by
  by_cases e:n<0∨20≤n
  ·rw[hw.out n e]at hl;exact absurd hl (by decide)
  ·omega
 have hw1:=hw.bW hn hl co
 have he1:a.er n co=((a.bW n co).bO (a.s.bZ n).1 n):=by unfold KA.er;rw[if_pos hh]
 have hw3:(((a.bW n co).bO (a.s.bZ n).1 n).cv n (a.head n)).Wk T:=by rw[←he1];exact(hw.er hn hl co).cv _ _
 have hx3:(((a.bW n co).bO (a.s.bZ n).1 n).cv n (a.head n)).Hx n:=by rw[←he1];exact(hx.er co).cv _ _
 have hst3:((((a.bW n co).bO (a.s.bZ n).1 n).cv n (a.head n)).u n).st≠1:=by rw[←he1,(cO _ _ _ _).1];exact nO a n co
 refine Spec.go 65 [0,1,2,6,7,8,21,26,27,47] [] Tryz.func63 rfl rfl rfl ?_
 intro W
 refine ca (gN b.kb (kp a b c) a.s n) (.cons .here (.cons (.there .here) .nil)) ?_
 rintro _ _ ⟨rfl,rfl⟩
 refine gO ?_
 refine ca (rM b.kb (kp a b c) a.s _) .h2 ?_
 rintro _ _ ⟨rfl,rfl⟩
 refine gO ?_
 refine ca (zO a b c N T hw hc hT n co hl) (.cons .here (.cons (.there .here) .Lb)) ?_
 rintro _ _ ⟨c1,hc1,rfl⟩
 refine gO ?_
 refine Ju rfl (hh) ?_
 refine ca (Fi (a.bW n co) b c1 N T hw1 hc1 hT _ n) .gq ?_
 rintro _ _ ⟨c2,hc2,rfl⟩
 refine gO ?_
 refine lp (σ:=Int) (fun i=>(20-i).toNat) (fun i=>0≤i∧i≤20) (fun i=>[(26,.int .i64 i),(0,ptr b.kb 0 0),(1,.int .i64 n),(7,.int .i64 (a.head n))]) (fun i=>XM W (bS [.cells b.kb 0 453 (ah (kp a b c)),.cells b.gb 0 60 (Gr.ay a.g),.cells b.sb 0 158 (Sp.aA a.s),.cells b.qb 0 2281 (Fa.ao c.q),.fam Fa.aL (Fa.SC.rows 254 c.q),.cells b.bb 0 577 (Vm.bu b.vp a.v.by_ a.v.rf),.cells b.vp 0 71 (Vm.aq a.v.bb.bA),.cfam (bD a) c.mb 34 (cN b.bb a.f c.pp c.cc),.fam (bD a) (rN 171 a.f c.pp c.cc),.cells b.tb 0 321 (Tr.av c.F),.fam Tr.ai (Tr.FC.aJ 9 c.F),.fam Tr.ai (Tr.FC.aK 3 c.F),bk c.rp c.rc 3 c.rl,.cells b.pi 0 24 (Tr.aq a.P),.cells b.ob 0 122 (Tr.aD b.tb b.pi a.O),.cfam (bI a) (fun z=>(c.t z).b) 4 (cT b.tb c.t),.fam (bI a) (rT 168 c.t),.ro 0 0 32 Sg.b6]) [.cells b.kb 0 453 (ah ((kp ((a.bW n co).bO (a.s.bZ n).1 n) b c2).fG n (a.head n) i)),.cells b.gb 0 60 (Gr.ay ((a.bW n co).bO (a.s.bZ n).1 n).g),.cells b.sb 0 158 (Sp.aA ((a.bW n co).bO (a.s.bZ n).1 n).s),.cells b.qb 0 2281 (Fa.ao c2.q),.fam Fa.aL (Fa.SC.rows 254 c2.q),.cells b.bb 0 577 (Vm.bu b.vp ((a.bW n co).bO (a.s.bZ n).1 n).v.by_ ((a.bW n co).bO (a.s.bZ n).1 n).v.rf),.cells b.vp 0 71 (Vm.aq ((a.bW n co).bO (a.s.bZ n).1 n).v.bb.bA),.cfam (bD ((a.bW n co).bO (a.s.bZ n).1 n)) c2.mb 34 (cN b.bb ((a.bW n co).bO (a.s.bZ n).1 n).f c2.pp c2.cc),.fam (bD ((a.bW n co).bO (a.s.bZ n).1 n)) (rN 171 ((a.bW n co).bO (a.s.bZ n).1 n).f c2.pp c2.cc),.cells b.tb 0 321 (Tr.av c2.F),.fam Tr.ai (Tr.FC.aJ 9 c2.F),.fam Tr.ai (Tr.FC.aK 3 c2.F),bk c2.rp c2.rc 3 c2.rl,.cells b.pi 0 24 (Tr.aq ((a.bW n co).bO (a.s.bZ n).1 n).P),.cells b.ob 0 122 (Tr.aD b.tb b.pi ((a.bW n co).bO (a.s.bZ n).1 n).O),.cfam (bI ((a.bW n co).bO (a.s.bZ n).1 n)) (fun z=>(c2.t z).b) 4 (cT b.tb c2.t),.fam (bI ((a.bW n co).bO (a.s.bZ n).1 n)) (rT 168 c2.t),.ro 0 0 32 Sg.b6]) (0) ?_ (S4 rfl rfl rfl rfl) (fun _ hw2=>by rw[KP.sE];exact XM.pick .jo hw2) ?_
 ·
  omega
 intro i hi
 refine gC ?_
 refine cd rfl ?_ ?_<;>intro h1
 ·
  refine sd (by omega) ?_
  refine ld .here (ah.ot _ (by omega)) ?_
  refine sp 37 rfl ?_ ?_<;>intro h2
  ·
   rw[KP.fY _ _ _ (Int.le_refl _)]at h2
   have h81:=h2
   refine sd (by omega) ?_
   refine ld .here (ah.qv _ (by omega)) ?_
   refine cd rfl ?_ ?_<;>intro h3
   ·
    rw[KP.fY _ _ _ (Int.le_refl _)]at h3
    have h82:=h3
    refine sd (by omega) ?_
    refine st .here (ah.FG _ (by omega) _) rfl ?_
    refine sd (by omega) ?_
    refine ag (i+1) ?_ ?_ (S4 rfl rfl rfl rfl) (fun _ hw2=>by rw[←KP.tN _ _ _ hi.1 h81 h82];exact XM.pick .jo hw2)
    ·
     (first | omega | (simp;done) | (simp;omega))
    ·
     (first | omega | (simp;done) | (simp;omega))
   ·
    rw[KP.fY _ _ _ (Int.le_refl _)]at h3
    have h82:=h3
    refine sd (by omega) ?_
    refine ag (i+1) ?_ ?_ (S4 rfl rfl rfl rfl) (fun _ hw2=>by rw[KP.kz _ _ _ (fun c=>h82 c.2)];exact XM.pick .jo hw2)
    ·
     (first | omega | (simp;done) | (simp;omega))
    ·
     (first | omega | (simp;done) | (simp;omega))
  ·
   rw[KP.fY _ _ _ (Int.le_refl _)]at h2
   have h81:=h2
   refine sd (by omega) ?_
   refine ag (i+1) ?_ ?_ (S4 rfl rfl rfl rfl) (fun _ hw2=>by rw[KP.kz _ _ _ (fun c=>h81 c.1)];exact XM.pick .jo hw2)
   ·
    (first | omega | (simp;done) | (simp;omega))
   ·
    (first | omega | (simp;done) | (simp;omega))
 ·
  have hi20:i=20:=by omega
  subst hi20
  rw[xD]
  refine sd (by omega) ?_
  refine ld .here (ah.qv _ (by omega)) ?_
  refine kW 2 (z7 b.kb (kp (((a.bW n co).bO (a.s.bZ n).1 n).cv n (a.head n)) b c2) ((a.bW n co).bO (a.s.bZ n).1 n).s (((((a.bW n co).bO (a.s.bZ n).1 n).cv n (a.head n)).u n).par) 3 false (fun q=>hw3.bx _) (fun q=>KA.Gg hw3 hx3 hst3 q)) (.cons .here (.cons (.there .here) (.cons (.t12 (.t3 .here)) .nil))) rfl ?_
  rintro _ _ rfl
  refine gO ?_
  refine XE.fD rfl (ab (.cons .here (.cons (.t2 .here) (.cons .here (.cons (.there .here) (.cons (.there .here) (.cons (.there .here) (.cons (.there .here) (.cons (.there .here) (.cons (.there .here) (.cons (.there .here) (.cons (.there .here) (.cons (.there .here) (.cons (.there .here) (.cons (.there .here) (.cons (.there .here) (.cons (.there .here) (.cons (.there .here) .nil))))))))))))))))) rfl ?_)
  try dsimp only[SW.den,SV.den,aj,aZ]
  have hA:a.bn n co=(((a.bW n co).bO (a.s.bZ n).1 n).cv n (a.head n)).dB ((((a.bW n co).bO (a.s.bZ n).1 n).cv n (a.head n)).u n).par:=by unfold KA.bn;rw[he1]
  rw[hA]
  refine⟨c2,hc2.dI _ _ _,?_⟩
  rw[Bg,uz,ub]
  rfl
end Go.X.Kn

namespace Go.X.Kn
open Go Go.Proofs Go.X
set_option maxRecDepth 20000
set_option maxHeartbeats 4000000
attribute [local irreducible] KA.bn KA.bV
theorem vw(a:KA)(b:KZ)(c:KC)(N:Nat)(T:Int)(hw:a.Wk T)(hc:dq a c N T)(hT:T≤900000)(n co:Int)(hl:(a.u n).st=1)(hx:a.Hx n):Spec Tryz.prog 63 [ptr b.kb 0 0,.int .i64 n,.int .i64 co] [.cells b.kb 0 453 (ah (kp a b c)),.cells b.gb 0 60 (Gr.ay a.g),.cells b.sb 0 158 (Sp.aA a.s),.cells b.qb 0 2281 (Fa.ao c.q),.fam Fa.aL (Fa.SC.rows 254 c.q),.cells b.bb 0 577 (Vm.bu b.vp a.v.by_ a.v.rf),.cells b.vp 0 71 (Vm.aq a.v.bb.bA),.cfam (bD a) c.mb 34 (cN b.bb a.f c.pp c.cc),.fam (bD a) (rN 171 a.f c.pp c.cc),.cells b.tb 0 321 (Tr.av c.F),.fam Tr.ai (Tr.FC.aJ 9 c.F),.fam Tr.ai (Tr.FC.aK 3 c.F),bk c.rp c.rc 3 c.rl,.cells b.pi 0 24 (Tr.aq a.P),.cells b.ob 0 122 (Tr.aD b.tb b.pi a.O),.cfam (bI a) (fun z=>(c.t z).b) 4 (cT b.tb c.t),.fam (bI a) (rT 168 c.t),.ro 0 0 32 Sg.b6] (fun v H1=>∃ c1:KC,dq (a.bn n co) c1 N T∧H1=[.cells b.kb 0 453 (ah (kp (a.bn n co) b c1)),.cells b.gb 0 60 (Gr.ay (a.bn n co).g),.cells b.sb 0 158 (Sp.aA (a.bn n co).s),.cells b.qb 0 2281 (Fa.ao c1.q),.fam Fa.aL (Fa.SC.rows 254 c1.q),.cells b.bb 0 577 (Vm.bu b.vp (a.bn n co).v.by_ (a.bn n co).v.rf),.cells b.vp 0 71 (Vm.aq (a.bn n co).v.bb.bA),.cfam (bD (a.bn n co)) c1.mb 34 (cN b.bb (a.bn n co).f c1.pp c1.cc),.fam (bD (a.bn n co)) (rN 171 (a.bn n co).f c1.pp c1.cc),.cells b.tb 0 321 (Tr.av c1.F),.fam Tr.ai (Tr.FC.aJ 9 c1.F),.fam Tr.ai (Tr.FC.aK 3 c1.F),bk c1.rp c1.rc 3 c1.rl,.cells b.pi 0 24 (Tr.aq (a.bn n co).P),.cells b.ob 0 122 (Tr.aD b.tb b.pi (a.bn n co).O),.cfam (bI (a.bn n co)) (fun z=>(c1.t z).b) 4 (cT b.tb c1.t),.fam (bI (a.bn n co)) (rT 168 c1.t)]):=by
 by_cases hh:a.head n=n
 ·exact Ib a b c N T hw hc hT n co hl hx hh
 ·exact Hk a b c N T hw hc hT n co hl hx hh
theorem CS(a:KA)(b:KZ)(c:KC)(N:Nat)(T:Int)(hw:a.Wk T)(hc:dq a c N T)(hT:T≤900000)(n:Int)(hn:0≤n∧n<20)(o:Bool)(hl:(a.u n).st=1)(hx:a.Hx n)(he:¬((a.u n).bx.first 0)=0)(ho:o=true∨a.head n≠n):Spec Tryz.prog 74 [ptr b.kb 0 0,.int .i64 n,.bool o] [.cells b.kb 0 453 (ah (kp a b c)),.cells b.gb 0 60 (Gr.ay a.g),.cells b.sb 0 158 (Sp.aA a.s),.cells b.qb 0 2281 (Fa.ao c.q),.fam Fa.aL (Fa.SC.rows 254 c.q),.cells b.bb 0 577 (Vm.bu b.vp a.v.by_ a.v.rf),.cells b.vp 0 71 (Vm.aq a.v.bb.bA),.cfam (bD a) c.mb 34 (cN b.bb a.f c.pp c.cc),.fam (bD a) (rN 171 a.f c.pp c.cc),.cells b.tb 0 321 (Tr.av c.F),.fam Tr.ai (Tr.FC.aJ 9 c.F),.fam Tr.ai (Tr.FC.aK 3 c.F),bk c.rp c.rc 3 c.rl,.cells b.pi 0 24 (Tr.aq a.P),.cells b.ob 0 122 (Tr.aD b.tb b.pi a.O),.cfam (bI a) (fun z=>(c.t z).b) 4 (cT b.tb c.t),.fam (bI a) (rT 168 c.t),.ro 0 0 32 Sg.b6] (fun v H1=>∃ c1:KC,dq (a.bn n (128+((a.u n).bx.first 0))) c1 N T∧H1=[.cells b.kb 0 453 (ah (kp (a.bn n (128+((a.u n).bx.first 0))) b c1)),.cells b.gb 0 60 (Gr.ay (a.bn n (128+((a.u n).bx.first 0))).g),.cells b.sb 0 158 (Sp.aA (a.bn n (128+((a.u n).bx.first 0))).s),.cells b.qb 0 2281 (Fa.ao c1.q),.fam Fa.aL (Fa.SC.rows 254 c1.q),.cells b.bb 0 577 (Vm.bu b.vp (a.bn n (128+((a.u n).bx.first 0))).v.by_ (a.bn n (128+((a.u n).bx.first 0))).v.rf),.cells b.vp 0 71 (Vm.aq (a.bn n (128+((a.u n).bx.first 0))).v.bb.bA),.cfam (bD (a.bn n (128+((a.u n).bx.first 0)))) c1.mb 34 (cN b.bb (a.bn n (128+((a.u n).bx.first 0))).f c1.pp c1.cc),.fam (bD (a.bn n (128+((a.u n).bx.first 0)))) (rN 171 (a.bn n (128+((a.u n).bx.first 0))).f c1.pp c1.cc),.cells b.tb 0 321 (Tr.av c1.F),.fam Tr.ai (Tr.FC.aJ 9 c1.F),.fam Tr.ai (Tr.FC.aK 3 c1.F),bk c1.rp c1.rc 3 c1.rl,.cells b.pi 0 24 (Tr.aq (a.bn n (128+((a.u n).bx.first 0))).P),.cells b.ob 0 122 (Tr.aD b.tb b.pi (a.bn n (128+((a.u n).bx.first 0))).O),.cfam (bI (a.bn n (128+((a.u n).bx.first 0)))) (fun z=>(c1.t z).b) 4 (cT b.tb c1.t),.fam (bI (a.bn n (128+((a.u n).bx.first 0)))) (rT 168 c1.t)]):=by
 refine Spec.go 36 [0,1,2,6,7,30] [] Tryz.func74 rfl rfl rfl ?_
 intro W
 refine XR.mono (fun _ hw3=>XM.k8 (k:=kp a b c) (n:=n) (by omega) .h1 hw3) ?_
 refine sd (by omega) ?_
 refine kW 1 (Sg.sJ b.kb (0+ey n) _ (hw.bx n)) (.cons .here (.cons (.t12 (.t6 .here)) .nil)) rfl ?_
 rintro _ _ ⟨rfl,rfl⟩
 refine gO ?_
 refine XR.mono (fun _ hw3=>XM.pH (k:=kp a b c) (n:=n) (by omega) (.cons .here (.cons (.there .here) (.cons (.there .here) .nil))) hw3) ?_
 refine Lj 19 rfl (he) ?_
 refine uE 21 rfl ?_ ?_<;>intro h2
 ·try simp only[sb]at h2
  have hfr:=Sg.BS.lu (a.u n).bx 0 (hw.bx n)
  refine sd (by omega) ?_
  refine kW 17 (vw a b c N T hw hc hT n _ hl hx) (.cons .here (.cons (.there .here) (.cons (.there .here) (.cons (.there .here) (.cons (.there .here) (.cons (.there .here) (.cons (.there .here) (.cons (.there .here) (.cons (.there .here) (.cons (.there .here) (.cons (.there .here) (.cons (.there .here) (.cons (.there .here) (.cons (.there .here) (.cons (.there .here) (.cons (.there .here) (.cons (.there .here) .h1))))))))))))))))) rfl ?_
  rintro _ _ ⟨c1,hc1,rfl⟩
  refine gO ?_
  refine XE.fD rfl (ab .gq rfl ?_)
  try dsimp only[SW.den,SV.den,aj,aZ]
  exact⟨c1,hc1,rfl⟩
 ·try simp only[sb]at h2
  refine ca (gN b.kb (kp a b c) a.s n) (.cons .here (.cons (.t2 .here) .nil)) ?_
  rintro _ _ ⟨rfl,rfl⟩
  refine gO ?_
  refine ca (rM b.kb (kp a b c) a.s _) .h2 ?_
  rintro _ _ ⟨rfl,rfl⟩
  refine gO ?_
  refine Ju rfl (by first | rfl | exact fun q=>(ho.resolve_left (by simp_all)) q) ?_
  have hfr:=Sg.BS.lu (a.u n).bx 0 (hw.bx n)
  refine sd (by omega) ?_
  refine kW 17 (vw a b c N T hw hc hT n _ hl hx) (.cons .here (.cons (.t2 .here) (.cons .here (.cons (.there .here) (.cons (.there .here) (.cons (.there .here) (.cons (.there .here) (.cons (.there .here) (.cons (.there .here) (.cons (.there .here) (.cons (.there .here) (.cons (.there .here) (.cons (.there .here) (.cons (.there .here) (.cons (.there .here) (.cons (.there .here) (.cons (.there .here) .h1))))))))))))))))) rfl ?_
  rintro _ _ ⟨c1,hc1,rfl⟩
  refine gO ?_
  refine XE.fD rfl (ab .gq rfl ?_)
  try dsimp only[SW.den,SV.den,aj,aZ]
  exact⟨c1,hc1,rfl⟩
theorem Dp(a:KA)(b:KZ)(c:KC)(N:Nat)(T:Int)(hw:a.Wk T)(hc:dq a c N T)(hT:T≤900000)(n:Int)(hn:0≤n∧n<20)(o:Bool)(he:((a.u n).bx.first 0)=0):Spec Tryz.prog 74 [ptr b.kb 0 0,.int .i64 n,.bool o] [.cells b.kb 0 453 (ah (kp a b c)),.cells b.gb 0 60 (Gr.ay a.g),.cells b.sb 0 158 (Sp.aA a.s),.cells b.qb 0 2281 (Fa.ao c.q),.fam Fa.aL (Fa.SC.rows 254 c.q),.cells b.bb 0 577 (Vm.bu b.vp a.v.by_ a.v.rf),.cells b.vp 0 71 (Vm.aq a.v.bb.bA),.cfam (bD a) c.mb 34 (cN b.bb a.f c.pp c.cc),.fam (bD a) (rN 171 a.f c.pp c.cc),.cells b.tb 0 321 (Tr.av c.F),.fam Tr.ai (Tr.FC.aJ 9 c.F),.fam Tr.ai (Tr.FC.aK 3 c.F),bk c.rp c.rc 3 c.rl,.cells b.pi 0 24 (Tr.aq a.P),.cells b.ob 0 122 (Tr.aD b.tb b.pi a.O),.cfam (bI a) (fun z=>(c.t z).b) 4 (cT b.tb c.t),.fam (bI a) (rT 168 c.t),.ro 0 0 32 Sg.b6] (fun v H1=>∃ c1:KC,dq a c1 N T∧H1=[.cells b.kb 0 453 (ah (kp a b c1)),.cells b.gb 0 60 (Gr.ay a.g),.cells b.sb 0 158 (Sp.aA a.s),.cells b.qb 0 2281 (Fa.ao c1.q),.fam Fa.aL (Fa.SC.rows 254 c1.q),.cells b.bb 0 577 (Vm.bu b.vp a.v.by_ a.v.rf),.cells b.vp 0 71 (Vm.aq a.v.bb.bA),.cfam (bD a) c1.mb 34 (cN b.bb a.f c1.pp c1.cc),.fam (bD a) (rN 171 a.f c1.pp c1.cc),.cells b.tb 0 321 (Tr.av c1.F),.fam Tr.ai (Tr.FC.aJ 9 c1.F),.fam Tr.ai (Tr.FC.aK 3 c1.F),bk c1.rp c1.rc 3 c1.rl,.cells b.pi 0 24 (Tr.aq a.P),.cells b.ob 0 122 (Tr.aD b.tb b.pi a.O),.cfam (bI a) (fun z=>(c1.t z).b) 4 (cT b.tb c1.t),.fam (bI a) (rT 168 c1.t)]):=by
 refine Spec.go 36 [0,1,2,6,7,30] [] Tryz.func74 rfl rfl rfl ?_
 intro W
 refine XR.mono (fun _ hw3=>XM.k8 (k:=kp a b c) (n:=n) (by omega) .h1 hw3) ?_
 refine sd (by omega) ?_
 refine kW 1 (Sg.sJ b.kb (0+ey n) _ (hw.bx n)) (.cons .here (.cons (.t12 (.t6 .here)) .nil)) rfl ?_
 rintro _ _ ⟨rfl,rfl⟩
 refine gO ?_
 refine XR.mono (fun _ hw3=>XM.pH (k:=kp a b c) (n:=n) (by omega) (.cons .here (.cons (.there .here) (.cons (.there .here) .nil))) hw3) ?_
 refine Dg 19 rfl (by omega) ?_
 refine XE.fD rfl (ab (.cons .here (.cons (.there .here) (.cons (.there .here) (.cons (.there .here) (.cons (.there .here) (.cons (.there .here) (.cons (.there .here) (.cons (.there .here) (.cons (.there .here) (.cons (.there .here) (.cons (.there .here) (.cons (.there .here) (.cons (.there .here) (.cons (.there .here) (.cons (.there .here) (.cons (.there .here) (.cons (.there .here) .nil))))))))))))))))) rfl ?_)
 try dsimp only[SW.den,SV.den,aj,aZ]
 exact⟨c,hc,rfl⟩
theorem Cg(a:KA)(b:KZ)(c:KC)(N:Nat)(T:Int)(hw:a.Wk T)(hc:dq a c N T)(hT:T≤900000)(n:Int)(hn:0≤n∧n<20)(he:¬((a.u n).bx.first 0)=0)(hh:a.head n=n):Spec Tryz.prog 74 [ptr b.kb 0 0,.int .i64 n,.bool false] [.cells b.kb 0 453 (ah (kp a b c)),.cells b.gb 0 60 (Gr.ay a.g),.cells b.sb 0 158 (Sp.aA a.s),.cells b.qb 0 2281 (Fa.ao c.q),.fam Fa.aL (Fa.SC.rows 254 c.q),.cells b.bb 0 577 (Vm.bu b.vp a.v.by_ a.v.rf),.cells b.vp 0 71 (Vm.aq a.v.bb.bA),.cfam (bD a) c.mb 34 (cN b.bb a.f c.pp c.cc),.fam (bD a) (rN 171 a.f c.pp c.cc),.cells b.tb 0 321 (Tr.av c.F),.fam Tr.ai (Tr.FC.aJ 9 c.F),.fam Tr.ai (Tr.FC.aK 3 c.F),bk c.rp c.rc 3 c.rl,.cells b.pi 0 24 (Tr.aq a.P),.cells b.ob 0 122 (Tr.aD b.tb b.pi a.O),.cfam (bI a) (fun z=>(c.t z).b) 4 (cT b.tb c.t),.fam (bI a) (rT 168 c.t),.ro 0 0 32 Sg.b6] (fun v H1=>∃ c1:KC,dq a c1 N T∧H1=[.cells b.kb 0 453 (ah (kp a b c1)),.cells b.gb 0 60 (Gr.ay a.g),.cells b.sb 0 158 (Sp.aA a.s),.cells b.qb 0 2281 (Fa.ao c1.q),.fam Fa.aL (Fa.SC.rows 254 c1.q),.cells b.bb 0 577 (Vm.bu b.vp a.v.by_ a.v.rf),.cells b.vp 0 71 (Vm.aq a.v.bb.bA),.cfam (bD a) c1.mb 34 (cN b.bb a.f c1.pp c1.cc),.fam (bD a) (rN 171 a.f c1.pp c1.cc),.cells b.tb 0 321 (Tr.av c1.F),.fam Tr.ai (Tr.FC.aJ 9 c1.F),.fam Tr.ai (Tr.FC.aK 3 c1.F),bk c1.rp c1.rc 3 c1.rl,.cells b.pi 0 24 (Tr.aq a.P),.cells b.ob 0 122 (Tr.aD b.tb b.pi a.O),.cfam (bI a) (fun z=>(c1.t z).b) 4 (cT b.tb c1.t),.fam (bI a) (rT 168 c1.t)]):=by
 refine Spec.go 36 [0,1,2,6,7,30] [] Tryz.func74 rfl rfl rfl ?_
 intro W
 refine XR.mono (fun _ hw3=>XM.k8 (k:=kp a b c) (n:=n) (by omega) .h1 hw3) ?_
 refine sd (by omega) ?_
 refine kW 1 (Sg.sJ b.kb (0+ey n) _ (hw.bx n)) (.cons .here (.cons (.t12 (.t6 .here)) .nil)) rfl ?_
 rintro _ _ ⟨rfl,rfl⟩
 refine gO ?_
 refine XR.mono (fun _ hw3=>XM.pH (k:=kp a b c) (n:=n) (by omega) (.cons .here (.cons (.there .here) (.cons (.there .here) .nil))) hw3) ?_
 refine Lj 19 rfl (he) ?_
 refine ca (gN b.kb (kp a b c) a.s n) (.cons .here (.cons (.t2 .here) .nil)) ?_
 rintro _ _ ⟨rfl,rfl⟩
 refine gO ?_
 refine ca (rM b.kb (kp a b c) a.s _) .h2 ?_
 rintro _ _ ⟨rfl,rfl⟩
 refine gO ?_
 refine uu rfl (fun q=>q hh) ?_
 refine XE.fD rfl (ab (.cons .here (.cons (.t2 .here) (.cons .here (.cons (.there .here) (.cons (.there .here) (.cons (.there .here) (.cons (.there .here) (.cons (.there .here) (.cons (.there .here) (.cons (.there .here) (.cons (.there .here) (.cons (.there .here) (.cons (.there .here) (.cons (.there .here) (.cons (.there .here) (.cons (.there .here) (.cons (.there .here) .nil))))))))))))))))) rfl ?_)
 try dsimp only[SW.den,SV.den,aj,aZ]
 exact⟨c,hc,rfl⟩
theorem Dm(a:KA)(b:KZ)(c:KC)(N:Nat)(T:Int)(hw:a.Wk T)(hc:dq a c N T)(hT:T≤900000)(n:Int)(hn:0≤n∧n<20)(o:Bool)(he:¬a.ends n o):Spec Tryz.prog 74 [ptr b.kb 0 0,.int .i64 n,.bool o] [.cells b.kb 0 453 (ah (kp a b c)),.cells b.gb 0 60 (Gr.ay a.g),.cells b.sb 0 158 (Sp.aA a.s),.cells b.qb 0 2281 (Fa.ao c.q),.fam Fa.aL (Fa.SC.rows 254 c.q),.cells b.bb 0 577 (Vm.bu b.vp a.v.by_ a.v.rf),.cells b.vp 0 71 (Vm.aq a.v.bb.bA),.cfam (bD a) c.mb 34 (cN b.bb a.f c.pp c.cc),.fam (bD a) (rN 171 a.f c.pp c.cc),.cells b.tb 0 321 (Tr.av c.F),.fam Tr.ai (Tr.FC.aJ 9 c.F),.fam Tr.ai (Tr.FC.aK 3 c.F),bk c.rp c.rc 3 c.rl,.cells b.pi 0 24 (Tr.aq a.P),.cells b.ob 0 122 (Tr.aD b.tb b.pi a.O),.cfam (bI a) (fun z=>(c.t z).b) 4 (cT b.tb c.t),.fam (bI a) (rT 168 c.t),.ro 0 0 32 Sg.b6] (fun v H1=>∃ c1:KC,dq a c1 N T∧H1=[.cells b.kb 0 453 (ah (kp a b c1)),.cells b.gb 0 60 (Gr.ay a.g),.cells b.sb 0 158 (Sp.aA a.s),.cells b.qb 0 2281 (Fa.ao c1.q),.fam Fa.aL (Fa.SC.rows 254 c1.q),.cells b.bb 0 577 (Vm.bu b.vp a.v.by_ a.v.rf),.cells b.vp 0 71 (Vm.aq a.v.bb.bA),.cfam (bD a) c1.mb 34 (cN b.bb a.f c1.pp c1.cc),.fam (bD a) (rN 171 a.f c1.pp c1.cc),.cells b.tb 0 321 (Tr.av c1.F),.fam Tr.ai (Tr.FC.aJ 9 c1.F),.fam Tr.ai (Tr.FC.aK 3 c1.F),bk c1.rp c1.rc 3 c1.rl,.cells b.pi 0 24 (Tr.aq a.P),.cells b.ob 0 122 (Tr.aD b.tb b.pi a.O),.cfam (bI a) (fun z=>(c1.t z).b) 4 (cT b.tb c1.t),.fam (bI a) (rT 168 c1.t)]):=by
 by_cases h0:((a.u n).bx.first 0)=0
 ·exact Dp a b c N T hw hc hT n hn o h0
 ·have h1:¬(o=true∨a.head n≠n):=fun q=>he ⟨h0,q⟩
  have ho:o=false:=by cases o;rfl;exact absurd (.inl rfl) h1
  subst ho
  exact Cg a b c N T hw hc hT n hn h0 (Decidable.byContradiction fun q=>h1 (.inr q))
theorem nH(a:KA)(b:KZ)(c:KC)(N:Nat)(T:Int)(hw:a.Wk T)(hc:dq a c N T)(hT:T≤900000)(n:Int)(hn:0≤n∧n<20)(o:Bool)(hl:(a.u n).st=1)(hx:a.Hx n):Spec Tryz.prog 74 [ptr b.kb 0 0,.int .i64 n,.bool o] [.cells b.kb 0 453 (ah (kp a b c)),.cells b.gb 0 60 (Gr.ay a.g),.cells b.sb 0 158 (Sp.aA a.s),.cells b.qb 0 2281 (Fa.ao c.q),.fam Fa.aL (Fa.SC.rows 254 c.q),.cells b.bb 0 577 (Vm.bu b.vp a.v.by_ a.v.rf),.cells b.vp 0 71 (Vm.aq a.v.bb.bA),.cfam (bD a) c.mb 34 (cN b.bb a.f c.pp c.cc),.fam (bD a) (rN 171 a.f c.pp c.cc),.cells b.tb 0 321 (Tr.av c.F),.fam Tr.ai (Tr.FC.aJ 9 c.F),.fam Tr.ai (Tr.FC.aK 3 c.F),bk c.rp c.rc 3 c.rl,.cells b.pi 0 24 (Tr.aq a.P),.cells b.ob 0 122 (Tr.aD b.tb b.pi a.O),.cfam (bI a) (fun z=>(c.t z).b) 4 (cT b.tb c.t),.fam (bI a) (rT 168 c.t),.ro 0 0 32 Sg.b6] (fun v H1=>∃ c1:KC,dq (a.bV n o) c1 N T∧H1=[.cells b.kb 0 453 (ah (kp (a.bV n o) b c1)),.cells b.gb 0 60 (Gr.ay (a.bV n o).g),.cells b.sb 0 158 (Sp.aA (a.bV n o).s),.cells b.qb 0 2281 (Fa.ao c1.q),.fam Fa.aL (Fa.SC.rows 254 c1.q),.cells b.bb 0 577 (Vm.bu b.vp (a.bV n o).v.by_ (a.bV n o).v.rf),.cells b.vp 0 71 (Vm.aq (a.bV n o).v.bb.bA),.cfam (bD (a.bV n o)) c1.mb 34 (cN b.bb (a.bV n o).f c1.pp c1.cc),.fam (bD (a.bV n o)) (rN 171 (a.bV n o).f c1.pp c1.cc),.cells b.tb 0 321 (Tr.av c1.F),.fam Tr.ai (Tr.FC.aJ 9 c1.F),.fam Tr.ai (Tr.FC.aK 3 c1.F),bk c1.rp c1.rc 3 c1.rl,.cells b.pi 0 24 (Tr.aq (a.bV n o).P),.cells b.ob 0 122 (Tr.aD b.tb b.pi (a.bV n o).O),.cfam (bI (a.bV n o)) (fun z=>(c1.t z).b) 4 (cT b.tb c1.t),.fam (bI (a.bV n o)) (rT 168 c1.t)]):=by
 by_cases he:a.ends n o
 ·rw[KA.qM he];exact CS a b c N T hw hc hT n hn o hl hx he.1 he.2
 ·rw[KA.tr he]
  exact Dm a b c N T hw hc hT n hn o he
theorem K5(a:KA)(b:KZ)(c:KC)(N:Nat)(T:Int)(hw:a.Wk T)(hc:dq a c N T)(hT:T≤900000)(n sig:Int)(o:Bool)(hx:a.Hx n):Spec Tryz.prog 71 [ptr b.kb 0 0,.int .i64 n,.int .i64 sig,.bool o] [.cells b.kb 0 453 (ah (kp a b c)),.cells b.gb 0 60 (Gr.ay a.g),.cells b.sb 0 158 (Sp.aA a.s),.cells b.qb 0 2281 (Fa.ao c.q),.fam Fa.aL (Fa.SC.rows 254 c.q),.cells b.bb 0 577 (Vm.bu b.vp a.v.by_ a.v.rf),.cells b.vp 0 71 (Vm.aq a.v.bb.bA),.cfam (bD a) c.mb 34 (cN b.bb a.f c.pp c.cc),.fam (bD a) (rN 171 a.f c.pp c.cc),.cells b.tb 0 321 (Tr.av c.F),.fam Tr.ai (Tr.FC.aJ 9 c.F),.fam Tr.ai (Tr.FC.aK 3 c.F),bk c.rp c.rc 3 c.rl,.cells b.pi 0 24 (Tr.aq a.P),.cells b.ob 0 122 (Tr.aD b.tb b.pi a.O),.cfam (bI a) (fun z=>(c.t z).b) 4 (cT b.tb c.t),.fam (bI a) (rT 168 c.t),.ro 0 0 32 Sg.b6] (fun v H1=>∃ c1:KC,dq (a.fA n sig o) c1 N T∧H1=[.cells b.kb 0 453 (ah (kp (a.fA n sig o) b c1)),.cells b.gb 0 60 (Gr.ay (a.fA n sig o).g),.cells b.sb 0 158 (Sp.aA (a.fA n sig o).s),.cells b.qb 0 2281 (Fa.ao c1.q),.fam Fa.aL (Fa.SC.rows 254 c1.q),.cells b.bb 0 577 (Vm.bu b.vp (a.fA n sig o).v.by_ (a.fA n sig o).v.rf),.cells b.vp 0 71 (Vm.aq (a.fA n sig o).v.bb.bA),.cfam (bD (a.fA n sig o)) c1.mb 34 (cN b.bb (a.fA n sig o).f c1.pp c1.cc),.fam (bD (a.fA n sig o)) (rN 171 (a.fA n sig o).f c1.pp c1.cc),.cells b.tb 0 321 (Tr.av c1.F),.fam Tr.ai (Tr.FC.aJ 9 c1.F),.fam Tr.ai (Tr.FC.aK 3 c1.F),bk c1.rp c1.rc 3 c1.rl,.cells b.pi 0 24 (Tr.aq (a.fA n sig o).P),.cells b.ob 0 122 (Tr.aD b.tb b.pi (a.fA n sig o).O),.cfam (bI (a.fA n sig o)) (fun z=>(c1.t z).b) 4 (cT b.tb c1.t),.fam (bI (a.fA n sig o)) (rT 168 c1.t)]):=by
 refine Spec.go 27 [0,1,2,3,8,9,17] [] Tryz.func71 rfl rfl rfl ?_
 intro W
 refine ca (gu b.kb (kp a b c) n) .h1 ?_
 rintro _ _ ⟨⟨hl,rfl⟩ | ⟨hl,rfl⟩,rfl⟩
 ·
  try dsimp only[aC,aS,aM,aR,aN,aP,aQ,aU,aO,aT,aG,aH,aB,aF]
  obtain⟨hlr,hls⟩:=KP.dN hl
  refine gO ?_
  refine XR.mono (fun _ hw3=>XM.k8 (k:=kp a b c) (n:=n) (by omega) .h1 hw3) ?_
  refine ca (Sg.DB b.kb (0+ey n) _ sig) .h1 ?_
  rintro _ _ ⟨rfl,rfl⟩
  refine gO ?_
  refine XR.mono (fun _ hw3=>XM.mL (k:=kp a b c) (n:=n) (by omega) .h3 hw3) ?_
  rw[oz]
  rw[←lO a n ((a.u n).bx.send sig).2,←nu a n ((a.u n).bx.send sig).2]
  refine kW 17 (nH (a.eT n ((a.u n).bx.send sig).2) b c N T (hw.eT hlr (ki _ _ (hw.bx n))) (hc.box _ _) hT n hlr o (by rw[eB];exact hls) (hx.box _)) .jo rfl ?_
  rintro _ _ ⟨c1,hc1,rfl⟩
  refine gO ?_
  refine XE.fD rfl (ab .gq rfl ?_)
  try dsimp only[SW.den,SV.den,aj,aZ]
  have e:a.fA n sig o=(a.eT n ((a.u n).bx.send sig).2).bV n o:=if_pos hl
  rw[e];exact⟨c1,hc1,rfl⟩
 ·
  try dsimp only[aC,aS,aM,aR,aN,aP,aQ,aU,aO,aT,aG,aH,aB,aF]
  refine gO ?_
  refine XE.K8 rfl (ab .gq rfl ?_)
  try dsimp only[SW.den,SV.den,aj,aZ]
  have e:a.fA n sig o=a:=if_neg (fun q=>hl q)
  rw[e];exact⟨c,hc,rfl⟩
end Go.X.Kn
