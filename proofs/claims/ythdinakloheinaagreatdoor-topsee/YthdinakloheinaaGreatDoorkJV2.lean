import Derived.Test.YthdinakloheinaaGreatDoorkJV1
set_option linter.all false
namespace Go.X.Kn
open Go Go.Proofs Go.X Go.X.Fa Go.X.Gr Go.X.Sg Go.X.Tr Go.X.Vm
set_option maxRecDepth 20000
set_option maxHeartbeats 4000000
attribute [local irreducible] KA.cR KA.cK
set_option maxHeartbeats 16000000 in
def K8(p:Option Addr)(cap:Nat):Spec Tryz.prog 8 [.slice p 0 cap] [.ro 0 0 32 cW,.ro 1 0 64 fw] (fun v H1=>v= .bool true/\H1=[]):=by
 refine Spec.go 178 [0,2,3,4,5,6,7,8,9,10,11,12,13,14,15,16,17,18,19,20,31,36,50,98,102,120,135,148,150,162,177] [] Tryz.func8 rfl rfl rfl ?_;intro W;refine ca (K6) .nil ?_;rintro _ _ ⟨b,c0,rfl,_,_,BU,rfl⟩;refine gO ?_;refine ca (Zs _ _ 120) .nil ?_;rintro _ _ ⟨⟨bf,rfl,adw⟩,rfl⟩;refine gO ?_;refine we rfl ?_ ?_<;>intro h1
 ·try simp only[sb]at h1
  refine ah rfl rfl (ad .nil rfl ?_);try dsimp only[aL,aJ,aD,aR]
  exact⟨rfl,rfl⟩
 ·try simp only[sb]at h1
  refine lp (σ:=Int×KA×KC) (fun x=>0) (fun x=>(0<=x.1/\x.1<=(0:Nat))/\x.2.1.Ok (2+20*x.1)/\cH x.2.1 x.2.2 (1+x.1.toNat) (2+20*x.1)/\x.2.1.Pw) (fun x=>[(5,iI x.1),(0,.slice p 0 cap),(3,aC b.kb 0 0)]) (fun x=>XM W (bZ [.ro 0 0 32 cW,.ro 1 0 64 fw]) (cU x.2.1 b x.2.2 [.ro 0 0 32 cW,.ro 1 0 64 fw])) ((0,A0,c0)) ?_ (S3 rfl rfl rfl) (fun _ hw=>XM.pick (pz 19) hw) ?_
  ·exact⟨sq,V7,BU,aaC⟩
  intro x sN;obtain⟨hi,ho,hc,nS⟩:=sN;refine gC ?_;refine Im rfl (by simp;omega) ?_;refine ca (Ig b.kb (kp x.2.1 b x.2.2)) .h1 ?_;rintro _ _ ⟨pl,cl,rfl,rfl⟩;rw[show Vm.fl (fun n=>decide (((kp x.2.1 b x.2.2).u n).st=1)) 20=KA.bP x.2.1 from rfl];refine gO ?_;refine lp (σ:=Int) (fun i=>((KA.bP x.2.1).length-i).toNat) (fun i=>0<=i/\i<=(KA.bP x.2.1).length) (fun i=>[(7,iI i),(3,aC b.kb 0 0),(6,.slice pl (KA.bP x.2.1).length cl)]) (fun i=>XM W (bZ [.ro 0 0 32 cW,.ro 1 0 64 fw]) [db pl cl 3 (KA.bP x.2.1),.cells b.kb 0 453 (aF (kp x.2.1 b x.2.2)),.cells b.gb 0 60 (bE x.2.1.g),.cells b.sb 0 158 (Sp.aP x.2.1.s),.cells b.qb 0 2281 (aM x.2.2.q),.aV b7 (SC.da 254 x.2.2.q),.cells b.bb 0 577 (dD b.vp x.2.1.v.iq x.2.1.v.rf),.cells b.vp 0 71 (Vm.bL x.2.1.v.bb.fi),.dN (iR x.2.1) x.2.2.mb 34 (cN b.bb x.2.1.f x.2.2.pp x.2.2.cc),.aV (iR x.2.1) (rN 171 x.2.1.f x.2.2.pp x.2.2.cc),.cells b.tb 0 321 (aH x.2.2.F),.aV ax (FC.aX 9 x.2.2.F),.aV ax (FC.aY 3 x.2.2.F),db x.2.2.rp x.2.2.rc 3 x.2.2.rl,.cells b.pi 0 24 (Tr.bL x.2.1.P),.cells b.ob 0 122 (bh b.tb b.pi x.2.1.O),.dN (kG x.2.1) (fun z=>(x.2.2.t z).b) 4 (cT b.tb x.2.2.t),.aV (kG x.2.1) (rT 168 x.2.2.t),.ro 0 0 32 cW,.ro 1 0 64 fw]) (0) ?_ (S3 rfl rfl rfl) (fun _ hw=>XM.pick (pz 20) hw) ?_
  ·omega
  intro i hi9;have X9:=x.2.1.GH;refine gC ?_;refine cd rfl ?_ ?_<;>intro h2
  ·refine bH .aa og ?_;intro gA h3;subst h3;have hl:x.2.1.aI (dg (KA.bP x.2.1) i)=0:=Bc ⟨og,og⟩;obtain⟨hs1,hs2⟩:=KA.O4 ho hl;have hs3:(x.2.1.mD (dg (KA.bP x.2.1) i) (x.2.1.s.fS (dg (KA.bP x.2.1) i) (x.2.1.s.bI (dg (KA.bP x.2.1) i)).1).1).1=(dg (KA.bP x.2.1) i):=by rw[hs2]
   have hs4:(x.2.1.mD (dg (KA.bP x.2.1) i) (x.2.1.s.fS (dg (KA.bP x.2.1) i) (x.2.1.s.bI (dg (KA.bP x.2.1) i)).1).1).2=0:=by rw[hs2]
   have FP:=nS.up ho hl;have hll:=x.2.1.Wd (dg (KA.bP x.2.1) i);refine sd ?_;refine q9 .aa (ints_at) ?_;refine ca (UP b.kb (kp x.2.1 b x.2.2) x.2.1.s (dg (KA.bP x.2.1) i)) (pk [1,2]) ?_;rintro v12 _ ⟨Wf,rfl⟩;rw[if_pos (show(kp x.2.1 b x.2.2).aI (dg (KA.bP x.2.1) i)=0 from hl),hs1,iz]at Wf;subst Wf;refine gO ?_;refine sd ?_;refine q9 (.t2 .aa) (ints_at) ?_;refine ca (wW x.2.1 b x.2.2 x.2.1.aO ho.wk.sI (dg (KA.bP x.2.1) i) (x.2.1.s.fS (dg (KA.bP x.2.1) i) (x.2.1.s.bI (dg (KA.bP x.2.1) i)).1).1) (pz 2) ?_;rintro _ _ ⟨rfl,rfl⟩;rw[hs3,hs4,iz];refine gO ?_;refine sd ?_;refine q9 (.t2 .aa) (ints_at) ?_;refine ca (B0 x.2.1 b x.2.2 (dg (KA.bP x.2.1) i)) (pz 2) ?_;rintro _ _ ⟨yp,yk,rfl,rfl⟩;rw[hl,iz];refine gO ?_;refine sd ?_;refine q9 (.t3 .aa) (ints_at) ?_;refine Im rfl og ?_;refine XO.bN (z:=.agg (Bf (fun _=>false) 20)) (m:=20) (C:=ln (fun _=>false) 20) kq (E7 (fun _=>false) 20) (ln.box (fun _=>false) 20) rfl ?_;intro bs;refine gO ?_;refine lp (σ:=Int×(Int->Bool)) (fun z=>((x.2.1.sQ (dg (KA.bP x.2.1) i)).length-z.1).toNat) (fun z=>(0<=z.1/\z.1<=(x.2.1.sQ (dg (KA.bP x.2.1) i)).length)/\nl x.2.1 (dg (KA.bP x.2.1) i) z.2 z.1) (fun z=>[(15,iI z.1),(3,aC b.kb 0 0),(6,.slice (some ⟨gA,0,none⟩) (KA.bP x.2.1).length cl),(7,iI i),(12,.slice yp (x.2.1.sQ (dg (KA.bP x.2.1) i)).length yk),(14,aC bs 0 0)]) (fun z=>XM W (bZ [.ro 0 0 32 cW,.ro 1 0 64 fw]) [.cells bs 0 20 (ln z.2 20),db yp yk 3 (x.2.1.sQ (dg (KA.bP x.2.1) i)),db (some ⟨gA,0,none⟩) cl 3 (KA.bP x.2.1),.cells b.kb 0 453 (aF (kp x.2.1 b x.2.2)),.cells b.gb 0 60 (bE x.2.1.g),.cells b.sb 0 158 (Sp.aP x.2.1.s),.cells b.qb 0 2281 (aM x.2.2.q),.aV b7 (SC.da 254 x.2.2.q),.cells b.bb 0 577 (dD b.vp x.2.1.v.iq x.2.1.v.rf),.cells b.vp 0 71 (Vm.bL x.2.1.v.bb.fi),.dN (iR x.2.1) x.2.2.mb 34 (cN b.bb x.2.1.f x.2.2.pp x.2.2.cc),.aV (iR x.2.1) (rN 171 x.2.1.f x.2.2.pp x.2.2.cc),.cells b.tb 0 321 (aH x.2.2.F),.aV ax (FC.aX 9 x.2.2.F),.aV ax (FC.aY 3 x.2.2.F),db x.2.2.rp x.2.2.rc 3 x.2.2.rl,.cells b.pi 0 24 (Tr.bL x.2.1.P),.cells b.ob 0 122 (bh b.tb b.pi x.2.1.O),.dN (kG x.2.1) (fun z=>(x.2.2.t z).b) 4 (cT b.tb x.2.2.t),.aV (kG x.2.1) (rT 168 x.2.2.t),.ro 0 0 32 cW,.ro 1 0 64 fw]) ((0,fun _=>false)) ?_ (S6 rfl rfl rfl rfl rfl rfl) (fun _ hw=>XM.pick (pk [0,0,2,0,1,0,0,0,0,0,0,0,0,0,0,0,0,0,0,0,0,0]) hw) ?_
   ·exact⟨sq,nl.none _ _⟩
   intro z hz0;obtain⟨hzi,hz⟩:=hz0;refine gC ?_;refine cd rfl ?_ ?_<;>intro h4
   ·refine bH (.av .aa) og ?_;intro gB h5;subst h5;refine rq [0,1,2,3,4,5,6,7,8,9,10,11,12,13,14] mixed ?_;refine sd ?_;refine q9 (.t2 .aa) (ints_at) ?_;refine sd ?_;refine q9 (.av .aa) (ints_at) ?_;refine cq (wW x.2.1 b x.2.2 x.2.1.aO ho.wk.sI (dg (KA.bP x.2.1) i) (dg (x.2.1.sQ (dg (KA.bP x.2.1) i)) z.1)) (pk [3,4]) ?_;refine cq (O2 _) .nil ?_;refine cd rfl ?_ ?_<;>intro h6
    ·refine sd ?_;refine ag ((z.1+1,z.2)) ?_ ?_ (S6 rfl rfl rfl rfl rfl rfl) fun _ hw=>XM.pick (pk [2,2,2,0,1,0,0,0,0,0,0,0,0,0,0,0,0,0,0,0,0,0]) hw
     ·
      (show(_-(z.1+1)).toNat<(_-z.1).toNat;omega)
     ·exact⟨(by show 0<=z.1+1/\z.1+1<=_;omega),hz.skip⟩
    ·have hn8:(x.2.1.mD (dg (KA.bP x.2.1) i) (dg (x.2.1.sQ (dg (KA.bP x.2.1) i)) z.1)).2≠8:=h6;have he:(x.2.1.mD (dg (KA.bP x.2.1) i) (dg (x.2.1.sQ (dg (KA.bP x.2.1) i)) z.1)).2=0:=(GD hl (GF hl (Ef ⟨og,og⟩))).resolve_right hn8;obtain⟨_,ht0,ht1⟩:=sj ho.wk.sI he;have hnw:=hz.new ho.wk.sI ⟨og,og⟩ he;refine W2 123 rfl og ?_;refine W2 127 rfl og ?_;refine W2 131 rfl og ?_;refine sd ?_;refine ld (.t2 .aa) (K3 (ln.ld _ _ _ og) hnw) ?_;refine sd ?_;refine st (.t2 .aa) (ln.st _ _ _ _ og) rfl ?_;refine sd ?_;refine ag ((z.1+1,ae z.2 (x.2.1.mD (dg (KA.bP x.2.1) i) (dg (x.2.1.sQ (dg (KA.bP x.2.1) i)) z.1)).1 true)) ?_ ?_ (S6 rfl rfl rfl rfl rfl rfl) fun _ hw=>XM.pick (pk [2,2,2,0,1,0,0,0,0,0,0,0,0,0,0,0,0,0,0,0,0,0]) hw
     ·
      (show(_-(z.1+1)).toNat<(_-z.1).toNat;omega)
     ·exact⟨(by show 0<=z.1+1/\z.1+1<=_;omega),hz.add og he⟩
   ·refine sd ?_;refine q9 (.t2 .aa) (ints_at) ?_;refine ca (Gq x.2.1 b x.2.2 (dg (KA.bP x.2.1) i)) (pk [3,4]) ?_;rintro _ _ ⟨rfl,rfl⟩;rw[hl,iz];refine gO ?_;refine cd rfl ?_ ?_<;>intro RH
    ·refine sd ?_;refine ag (i+1) ?_ ?_ (S3 rfl rfl rfl) fun _ hw=>XM.pick (pk [4,0,3,0,2,2,2,2,2,2,2,2,2,2,2,2,2,2,2,2]) hw
     ·
      (first | omega | (simp;done) | (simp;omega))
     ·
      (first | omega | (simp;done) | (simp;omega))
    ·obtain⟨p,Is,Fp,hp3⟩:=FP.resolve_left RH;have Ge:(x.2.1.mD (dg (KA.bP x.2.1) i) (x.2.1.Au (dg (KA.bP x.2.1) i))).1=p:=by rw[Is]
     have q7:(x.2.1.mD (dg (KA.bP x.2.1) i) (x.2.1.Au (dg (KA.bP x.2.1) i))).2=0:=by rw[Is]
     refine sd ?_;refine q9 (.t4 .aa) (ints_at) ?_;refine ca (wW x.2.1 b x.2.2 x.2.1.aO ho.wk.sI (dg (KA.bP x.2.1) i) (x.2.1.Au (dg (KA.bP x.2.1) i))) (pz 2) ?_;rintro _ _ ⟨rfl,rfl⟩;rw[Ge,q7,iz];refine gO ?_;refine ca (B0 x.2.1 b x.2.2 p) (pz 2) ?_;rintro _ _ ⟨vp9,vk9,rfl,rfl⟩;rw[Fp,iz];refine gO ?_;refine Im rfl (by rw[hp3];omega) ?_;refine sd ?_;refine ag (i+1) ?_ ?_ (S3 rfl rfl rfl) fun _ hw=>XM.pick (pk [5,1,4,1,3,3,3,3,3,3,3,3,3,3,3,3,3,3,3,3]) hw
     ·
      (first | omega | (simp;done) | (simp;omega))
     ·
      (first | omega | (simp;done) | (simp;omega))
  ·refine ah rfl rfl (ad .nil rfl ?_);try dsimp only[aL,aJ,aD,aR]
   exact⟨rfl,rfl⟩
def ZE:Spec Tryz.prog 8 [.slice none 0 0] [.ro 0 0 32 cW,.ro 1 0 64 fw] (fun v H1=>v= .bool true/\H1=[]):=K8 none 0
end Go.X.Kn
