import Derived.Test.YthdinakloheinaaGreatDoorkJF2
set_option linter.all false
namespace Go.X.Kn
open Go Go.Proofs Go.X Go.X.Sg Go.X.Vm
set_option maxRecDepth 20000
set_option maxHeartbeats 4000000
attribute [local irreducible] KA.dt KA.cK
set_option maxHeartbeats 16000000 in
def adW(a:KA)(b:KZ)(c:KC)(N:Nat)(T:Int)(ho:a.Ok T)(hc:cI a c N T)(hT:T<=800000)(Vw:1<=T)(hN:N<=800)(x:jA)(hx:x.s.size<=1000/\x.t.size<=1000):Spec Tryz.prog 28 [ay b.kb 0 0,.agg (H9 x)] (cV a b c [.ro 0 0 32 dp,.ro 1 0 64 fQ]) (fun v H1=>∃ (a1:KA) (r:kU) (c1:KC),v= .agg r.cF/\a.rz c c1 x a1 r.n r.e/\cI a1 c1 (N+1) (T+20)/\H1=(cV a1 b c1 [])):=by
 refine Spec.go 223 [0,3,4,5,6,7,8,9,10,12,16,28,36,52,62,72,82,92,104,116,126,141,152,164,170,180,188,196,204,214] [(3,1)] Tryz.func28 fun W=> ?_;refine XO.box (m:=8) (C:=fc x) rfl rfl (OX x) rfl ?_;intro ba;apply gO;apply XO.bG (z:=.agg kU.nil.cF) (m:=4) (C:=cy kU.nil) (cy.box _);intro bz;apply gO;apply XO.bG (z:=.agg kU.nil.cF) (m:=4) (C:=cy kU.nil) (cy.box _);intro br;apply gO;apply ctG (σ:=KA×kU×Int×KC) (fun y=>a.rz c y.2.2.2 x y.1 y.2.1.n y.2.2.1/\cI y.1 y.2.2.2 (N+1) (T+20)) (fun y=>[(4,ay bz 0 0),(5,ay br 0 0),(6,ax 102 y.2.2.1)]) fun y=>XM W (bX (cV a b c [.ro 0 0 32 dp,.ro 1 0 64 fQ])) (cV y.1 b y.2.2.2 [.cells bz 0 4 (cy kU.nil),.cells br 0 4 (cy y.2.1)])
 ·apply ld (.t2 .aa) (lX _);refine cd ?_ ?_<;>intro h1
  ·have hk:=h1;refine ld (.t2 .aa) (bC _) (ld (.t2 .aa) (jm _) ?_);refine ca (Z2 a b c N T ho hc hT x.a x.on) (pk (rr 17 3 [])) ?_;rintro _ _ ⟨rfl,c1,fZ,rfl⟩;apply gO;refine st (.ov (.t5 .aa)) (fD _ _) rfl (nR ((a.hQ x.a x.on,⟨a.mr x.a x.on,0,0,⟨#[]⟩⟩,a.lP x.a x.on,c1)) ?_ S3 (xq (pk (rr 17 0 [1,0]))));exact⟨.jl hk,(fZ.up og og)⟩
  ·have hk5:=h1;refine cd ?_ ?_<;>intro h2
   ·have hk:=h2;refine ld (.t2 .aa) (bC _) (ld (.t2 .aa) (cW _) ?_);refine xK 17 (ZE a b c N T ho hc hT x.a x.b) (pk (rr 18 3 [])) rfl ?_;rintro _ _ ⟨rfl,c1,fZ,rfl⟩;apply gO;refine nR ((a.mI x.a x.b,⟨0,0,0,⟨#[]⟩⟩,a.uJ x.a x.b,c1)) ?_ S3 (xq (pk (rr 17 0 [2,1])));exact⟨.exit hk,(fZ.up og og)⟩
   ·have hk7:=h2;refine cd ?_ ?_<;>intro h3
    ·have hk:=h3;apply ld (.t2 .aa) (bC _);refine ca (Z4 a b c N T ho hc hT x.a) (pk (rr 17 3 [])) ?_;rintro _ _ ⟨rfl,c1,fZ,rfl⟩;apply gO;apply XO.bG (z:=.agg #[iI 0,iI 0]) (m:=2) (C:=tB 0 0) tB.box;intro bc;apply gO;refine fW .aa (tB.st _ _ _ _) rfl ⟨rfl,rfl⟩ (ld .aa (tB.B6 _ _) (st (.ov (.t6 .aa)) (fD _ _) rfl (ld .aa (tB.EM _ _) (st (.ov (.t6 .aa)) (Bw _ _) rfl (nR ((a.ry x.a,⟨a.D6 x.a,a.D7 x.a,0,⟨#[]⟩⟩,a.sZ x.a,c1)) ?_ S3 (xq (pk (rr 17 1 [2,1]))))))));exact⟨.qe (qe hk) .dX _ _,(fZ.up og og)⟩
    ·have Zg:=h3;refine cd ?_ ?_<;>intro h4
     ·have hk:=h4;refine ld (.t2 .aa) (bC _) (ld (.t2 .aa) (cW _) (ld (.t2 .aa) (gz _) ?_));refine xK 17 (R6 a b c N T ho hc hT x.a x.b x.c) (pk (rr 18 3 [])) rfl ?_;rintro _ _ ⟨rfl,c1,fZ,rfl⟩;apply gO;refine nR ((a.kI x.a x.b x.c,⟨0,0,0,⟨#[]⟩⟩,a.oE x.a x.b x.c,c1)) ?_ S3 (xq (pk (rr 17 0 [2,1])));exact⟨.qe (qe hk) .sJ _ _,(fZ.up og og)⟩
     ·have ama:=h4;refine cd ?_ ?_<;>intro h5
      ·have hk:=h5;refine ld (.t2 .aa) (bC _) (ld (.t2 .aa) (cW _) (ld (.t2 .aa) (jm _) ?_));refine xK 17 (ZF a b c N T ho hc hT x.a x.b x.on) (pk (rr 18 3 [])) rfl ?_;rintro _ _ ⟨rfl,c1,fZ,rfl⟩;apply gO;refine nR ((a.mJ x.a x.b x.on,⟨0,0,0,⟨#[]⟩⟩,a.wv x.a x.b x.on,c1)) ?_ S3 (xq (pk (rr 17 0 [2,1])));exact⟨.qe (qe hk) .ea _ _,(fZ.up og og)⟩
      ·have amb:=h5;refine cd ?_ ?_<;>intro h6
       ·have hk:=h6;refine ld (.t2 .aa) (bC _) (ld (.t2 .aa) (cW _) (ld (.t2 .aa) (gz _) ?_));refine xK 17 (adJ a b c N T ho hc hT x.a x.b x.c) (pk (rr 18 3 [])) rfl ?_;rintro _ _ ⟨rfl,c1,fZ,rfl⟩;apply gO;refine nR ((a.DY x.a x.b x.c,⟨0,0,0,⟨#[]⟩⟩,a.Vu x.a x.b x.c,c1)) ?_ S3 (xq (pk (rr 17 0 [2,1])));exact⟨.qe (qe hk) .kf _ _,(fZ.up og og)⟩
       ·have amc:=h6;refine cd ?_ ?_<;>intro h7
        ·have hk:=h7;apply ld (.t2 .aa) (bC _);refine xK 17 (ZG a b c N T ho hc hT x.a) (pk (rr 18 3 [])) rfl ?_;rintro _ _ ⟨rfl,c1,fZ,rfl⟩;apply gO;refine st (.ov (.t6 .aa)) (fD _ _) rfl (nR ((a.ru x.a,⟨a.D0 x.a,0,0,⟨#[]⟩⟩,a.DZ x.a,c1)) ?_ S3 (xq (pk (rr 17 0 [2,1]))));exact⟨.qe (qe hk) .take _ _,(fZ.up og og)⟩
        ·have amd:=h7;refine cd ?_ ?_<;>intro h8
         ·have hk:=h8;refine ld (.t2 .aa) (bC _) (ld (.t2 .aa) (cW _) (ld (.t2 .aa) (gz _) (ld (.t2 .aa) (jm _) ?_)));refine ca (adM a b c N T ho hc hT x.a x.b x.c x.on) (pk (rr 17 3 [])) ?_;rintro _ _ ⟨rfl,c1,fZ,rfl⟩;apply gO;refine nR ((a.D8 x.a x.b x.c x.on,⟨0,0,0,⟨#[]⟩⟩,a.qp x.a x.b x.c,c1)) ?_ S3 (xq (pk (rr 17 0 [1,0])));exact⟨.qe (qe hk) .map _ _,(fZ.up og og)⟩
         ·have ame:=h8;refine cd ?_ ?_<;>intro h9
          ·have hk:=h9;refine ld (.t2 .aa) (bC _) (ld (.t2 .aa) (cW _) (ld (.t2 .aa) (gz _) (ld (.t2 .aa) (jm _) ?_)));refine ca (NJ a b c N T ho hc hT x.a x.b x.c x.on) (pk (rr 17 3 [])) ?_;rintro _ _ ⟨rfl,c1,fZ,rfl⟩;apply gO;refine nR ((a.uN x.a x.b x.c x.on,⟨0,0,0,⟨#[]⟩⟩,a.lg x.a x.b x.c,c1)) ?_ S3 (xq (pk (rr 17 0 [1,0])));exact⟨.qe (qe hk) .mS _ _,(fZ.up og og)⟩
          ·have amf:=h9;refine cd ?_ ?_<;>intro Tu
           ·have hk:=Tu;refine ld (.t2 .aa) (bC _) (ld (.t2 .aa) (cW _) (ld (.t2 .aa) (gz _) ?_));refine ca (WE a b c N T ho hc hT x.a x.b x.c) (pk (rr 17 3 [])) ?_;rintro _ _ ⟨rfl,c1,fZ,rfl⟩;apply gO;refine nR ((a.jN x.a x.b x.c,⟨0,0,0,⟨#[]⟩⟩,a.oq x.a x.b x.c,c1)) ?_ S3 (xq (pk (rr 17 0 [1,0])));exact⟨.ep hk,(fZ.up og og)⟩
           ·have aiT:=Tu;refine cd ?_ ?_<;>intro h11
            ·have hk:=h11;refine ld (.t2 .aa) (bC _) (ld (.t2 .aa) (cW _) ?_);refine xK 17 (ZM a b c N T ho hc hT x.a x.b) (pk (rr 19 3 [])) rfl ?_;rintro _ _ ⟨rfl,c1,fZ,rfl⟩;apply gO;refine XO.v (oI rfl Tryz.underlying5 Tryz.underlying3 _ (IntWalk.i64_in _ (by have:=KA.Ok.afE ho og x.a x.b;omega))) rfl (gO ?_);refine st (.ov (.t7 .aa)) (fD _ _) rfl (nR (((a.ia x.a x.b).2.1,⟨(a.ia x.a x.b).2.2,0,0,⟨#[]⟩⟩,(a.ia x.a x.b).1,c1)) ?_ S3 (xq (pk (rr 17 0 [3,2]))));exact⟨.load hk,(fZ.up og og)⟩
            ·have aiU:=h11;refine cd ?_ ?_<;>intro h12
             ·have hk:=h12;refine ld (.t2 .aa) (bC _) (ld (.t2 .aa) (cW _) (ld (.t2 .aa) (gz _) (XO.v (oI rfl Tryz.underlying3 Tryz.underlying5 (IntKind.u8.wrap x.c) rfl) rfl (gO ?_))));refine xK 17 (WL a b c N T ho hc hT x.a x.b (IntKind.u8.wrap x.c) (Vm.OA _)) (pk (rr 19 3 [])) rfl ?_;rintro _ _ ⟨rfl,c1,fZ,rfl⟩;apply gO;refine nR (((a.gw x.a x.b (IntKind.u8.wrap x.c)).2.1,⟨0,0,0,⟨#[]⟩⟩,(a.gw x.a x.b (IntKind.u8.wrap x.c)).1,c1)) ?_ S3 (xq (pk (rr 17 0 [3,2])));exact⟨.store hk,(fZ.up og og)⟩
             ·have aiV:=h12;refine cd ?_ ?_<;>intro h13
              ·have hk:=h13;refine ld (.t2 .aa) (bC _) (ld (.t2 .aa) (cW _) ?_);refine ca (Lm a b c N T ho hc hT x.a x.b) (pk (rr 17 3 [])) ?_;rintro _ _ ⟨n0,e0,c1,rfl,fZ,rfl⟩;apply gO;refine st (.ov (.t5 .aa)) (fD _ _) rfl (nR ((a.nM x.a x.b,⟨n0,0,0,⟨#[]⟩⟩,e0,c1)) ?_ S3 (xq (pk (rr 17 0 [1,0]))));exact⟨.add hk n0 e0,(fZ.up og og)⟩
              ·have aiW:=h13;refine cd ?_ ?_<;>intro h14
               ·have hk:=h14;apply ld (.t2 .aa) (bC _);refine ca (Ix a b c N T ho hc hT x.a) (pk (rr 17 3 [])) ?_;rintro _ _ ⟨e0,c1,rfl,fZ,rfl⟩;apply gO;refine nR ((a.Az x.a,⟨0,0,0,⟨#[]⟩⟩,e0,c1)) ?_ S3 (xq (pk (rr 17 0 [1,0])));exact⟨.qe (qe hk) .drop _ _,(fZ.up og og)⟩
               ·have amg:=h14;refine cd ?_ ?_<;>intro h15
                ·have hk:=h15;refine ld (.t2 .aa) (bC _) (ld (.t2 .aa) (cW _) (ld (.t2 .aa) (gz _) ?_));refine ca (WM a b c N T ho hc hT x.a x.b x.c) (pk (rr 17 3 [])) ?_;rintro _ _ ⟨rfl,c1,fZ,rfl⟩;apply gO;refine nR ((a.Rt x.a x.b x.c,⟨0,0,0,⟨#[]⟩⟩,a.g.ki x.a x.b x.c,c1)) ?_ S3 (xq (pk (rr 17 0 [1,0])));exact⟨.VC hk,(fZ.up og og)⟩
                ·have aiX:=h15;refine cd ?_ ?_<;>intro h16
                 ·have hk:=h16;refine ld (.t2 .aa) (bC _) (ld (.t2 .aa) (cW _) ?_);refine ca (ZP a b c N T ho hc hT x.a x.b) (pk (rr 17 3 [])) ?_;rintro _ _ ⟨e0,c1,rfl,he0,fZ,rfl⟩;apply gO;refine nR ((a.pE x.a x.b,⟨0,0,0,⟨#[]⟩⟩,e0,c1)) ?_ S3 (xq (pk (rr 17 0 [1,0])));exact⟨.BF hk e0 he0,(fZ.up og og)⟩
                 ·have aiY:=h16;refine cd ?_ ?_<;>intro h17
                  ·have hk:=h17;refine ld (.t2 .aa) (bC _) (ld (.t2 .aa) (jm _) ?_);refine ca (WG a b c N T ho hc hT x.a x.on) (pk (rr 17 3 [])) ?_;rintro _ _ ⟨e0,c1,rfl,fZ,rfl⟩;apply gO;refine nR ((a,⟨0,0,0,⟨#[]⟩⟩,e0,c1)) ?_ S3 (xq (pk (rr 17 0 [1,0])));exact⟨.qe (qe hk) .same _ _,(fZ.up og og)⟩
                  ·have ami:=h17;refine cd ?_ ?_<;>intro h18
                   ·have hk:=h18;refine ld (.t2 .aa) (bC _) (ld (.t2 .aa) (jm _) ?_);refine ca (Sa a b c N T ho hc hT x.a x.on) (pk (rr 17 3 [])) ?_;rintro _ _ ⟨e0,c1,rfl,fZ,rfl⟩;apply gO;refine nR ((a,⟨0,0,0,⟨#[]⟩⟩,e0,c1)) ?_ S3 (xq (pk (rr 17 0 [1,0])));exact⟨.qe (qe hk) .same _ _,(fZ.up og og)⟩
                   ·have amj:=h18;refine cd ?_ ?_<;>intro h19
                    ·have hk:=h19;refine ld (.t2 .aa) (bC _) (ld (.t2 .aa) (cW _) (ld (.t2 .aa) (gz _) ?_));refine ca (WN a b c N T ho hc hT x.a x.b x.c) (pk (rr 17 3 [])) ?_;rintro _ _ ⟨e0,c1,rfl,fZ,rfl⟩;apply gO;refine nR ((a,⟨0,0,0,⟨#[]⟩⟩,e0,c1)) ?_ S3 (xq (pk (rr 17 0 [1,0])));exact⟨.qe (qe hk) .same _ _,(fZ.up og og)⟩
                    ·have amk:=h19;refine cd ?_ ?_<;>intro h20
                     ·have hk:=h20;refine ca (ZN a b c N T ho hc hT hN) (pk (rr 17 3 [])) ?_;rintro _ _ ⟨n0,c1,rfl,hr0,fZ,rfl⟩;apply gO;refine st (.ov (.t5 .aa)) (fD _ _) rfl (nR ((a,⟨n0,0,0,⟨#[]⟩⟩,0,c1)) ?_ S3 (xq (pk (rr 17 0 [1,0]))));exact⟨.lR hk n0 hr0,(fZ.up og og)⟩
                     ·have aiZ:=h20;have hdk:x.aO∉[Eb,Ec,Ni,Ed,xx,nN,Ia,Ee,Nj]:=VF hk5 hk7 aiT aiU aiV aiZ aiX aiY aiW;apply lW (.t2 .aa) (OY _);refine xK 17 (ZX a b c N T ho hc hT Vw x hx aq) (pk (rr 18 3 [])) rfl ?_;rintro _ _ ⟨a1,r,c1,rfl,hs1,fZ,rfl⟩;apply gO;refine fW (.ov (.t7 .aa)) (cy.st _ _) rfl ⟨rfl,rfl⟩ (jz rfl (.agg rfl (.ov (.t7 .aa)) (cy.agg _) WV Iy) (ah (pz 17) rfl ?_));grind
 intro y hy;obtain⟨s8,hcy⟩:=hy;apply gC;refine cq (aa7 _) .nil ?_;refine st (.ov (.t6 .aa)) (Bx _ _) rfl (lW (.ov (.t6 .aa)) (cy.agg _) (fW (.ov (.t5 .aa)) (cy.st _ _) rfl ⟨rfl,rfl⟩ (jz rfl (.agg rfl (.ov (.t5 .aa)) (cy.agg _) WV Iy) (ah (pz 17) rfl ?_))));grind
open Go.X.Fa Go.X.Gr Go.X.Tr
set_option maxHeartbeats 16000000 in
def G1(a:KA)(b:KZ)(c:KC)(N:Nat)(T:Int)(ho:a.Ok T)(hc:cI a c N T)(hT:T<=800000)(hg:a.GI):Spec Tryz.prog 36 [ay b.kb 0 0] (cV a b c []) (fun v H1=>v= .bool true/\H1=(cV a b c [])):=by
 have hhd:=Fj ho;have hpl:=a.GH;refine Spec.go 118 [0,2,3,4,5,6,7,8,9,10,11,12,13,14,15,16,22,48,51,63,79,89,108] [] Tryz.func36 fun W=> ?_;apply XO.bG (z:=.agg (wF (fun _=>0) 10)) (m:=10) (C:=encI (jX a.cw (fun _=>1) (a.da.take (0:Int).toNat)) 10) (hm:=(Fv (fun _=>0) 10)) (encI.box (fun _=>0) 10);intro bp;apply gO;apply XO.bG (z:=.agg (wF (fun _=>0) 10)) (m:=10) (C:=encI (jX a.cw a.eZ (a.da.take (0:Int).toNat)) 10) (hm:=(Fv (fun _=>0) 10)) (encI.box (fun _=>0) 10);intro bq;apply gO;refine ca (PG b.kb (kp a b c)) (pk [2]) ?_;rintro _ _ ⟨pl,cl,rfl,rfl⟩;rw[show Vm.fM (fun n=>decide (((kp a b c).u n).st=1)) 20=KA.da a from rfl];apply gO;refine lp (σ:=Int) (fun i=>(a.da.length-i).toNat) (fun i=>0<=i/\i<=a.da.length) (fun i=>[(6,iI i),(0,ay b.kb 0 0),(3,ay bp 0 0),(4,ay bq 0 0),(5,.slice pl a.da.length cl)]) (fun i=>XM W (bX (cV a b c [])) [dy pl cl 3 a.da,.cells bp 0 10 (encI (jX a.cw (fun _=>1) (a.da.take i.toNat)) 10),.cells bq 0 10 (encI (jX a.cw a.eZ (a.da.take i.toNat)) 10),.cells b.kb 0 453 (aD (kp a b c)),.cells b.gb 0 60 (bD a.g),.cells b.sb 0 158 (Sp.aK a.s),.cells b.qb 0 2281 (aH c.q),.aQ bW (SC.dg 254 c.q),.cells b.bb 0 577 (dI b.vp a.v.ij a.v.rf),.cells b.vp 0 71 (Vm.bK a.v.bb.fe),.dG (iR a) c.mb 34 (cN b.bb a.f c.pp c.cc),.aQ (iR a) (rN 171 a.f c.pp c.cc),.cells b.tb 0 321 (aC c.F),.aQ au (FC.aX 9 c.F),.aQ au (FC.aY 3 c.F),dy c.rp c.rc 3 c.rl,.cells b.pi 0 24 (Tr.bK a.P),.cells b.ob 0 122 (aZ b.tb b.pi a.O),.dG (kz a) (fun z=>(c.t z).b) 4 (cT b.tb c.t),.aQ (kz a) (rT 168 c.t)]) (0) ?_ S5 (xq (pk (0::2::1::rr 17 0 []))) ?_
 ·omega
 intro i hi;apply gC;refine cd ?_ ?_<;>intro h1
 ·apply bP .aa og;intro gA h2;subst h2;have hl:a.aB (gh a.da i)=0:=K1 ⟨og,og⟩;obtain⟨ha,hs1⟩:=bQ hl;obtain⟨g0,g1,g2⟩:=Gr.TG.jq (hg.cB _ ha.1 ha.2 (by rw[hs1];decide));have kY:=ho.wk.gI.ok.cX g0 g1 g2;have hrr:=sM (a.f (gh a.da i).toNat);refine sd ?_;apply zC .aa (ints_at);refine ca (agf a b c (gh a.da i)) (pk [3]) ?_;rintro _ _ ⟨rfl,rfl⟩;rw[if_pos hl,hl,nc];apply gO;refine sd ?_;apply zC (.ao .aa) (ints_at);refine ca (Ln a b c N T ho hc hT (gh a.da i)) (pk (0::rr 16 3 [])) ?_;rintro _ _ ⟨rfl,rfl⟩;rw[if_pos hl,hl,nc];apply gO;refine lp (σ:=List Int×List Int×Int) (fun y=>y.2.1.length) (fun y=>y.1++y.2.1=a.g.cX (a.u (gh a.da i)).cB/\lK a.g.aA y.2.2 y.2.1) (fun y=>[(11,iI y.2.2),(0,ay b.kb 0 0),(3,ay bp 0 0),(4,ay bq 0 0),(5,.slice (some ⟨gA,0,none⟩) a.da.length cl),(6,iI i),(9,iI (a.eZ (gh a.da i)))]) (fun y=>XM W (bX (cV a b c [])) [dy (some ⟨gA,0,none⟩) cl 3 a.da,.cells bp 0 10 (encI (fun n=>jX a.cw (fun _=>1) (a.da.take i.toNat) n+(y.1.count n:Int)*(fun _=>1) (gh a.da i)) 10),.cells bq 0 10 (encI (fun n=>jX a.cw a.eZ (a.da.take i.toNat) n+(y.1.count n:Int)*a.eZ (gh a.da i)) 10),.cells b.kb 0 453 (aD (kp a b c)),.cells b.gb 0 60 (bD a.g),.cells b.sb 0 158 (Sp.aK a.s),.cells b.qb 0 2281 (aH c.q),.aQ bW (SC.dg 254 c.q),.cells b.bb 0 577 (dI b.vp a.v.ij a.v.rf),.cells b.vp 0 71 (Vm.bK a.v.bb.fe),.dG (iR a) c.mb 34 (cN b.bb a.f c.pp c.cc),.aQ (iR a) (rN 171 a.f c.pp c.cc),.cells b.tb 0 321 (aC c.F),.aQ au (FC.aX 9 c.F),.aQ au (FC.aY 3 c.F),dy c.rp c.rc 3 c.rl,.cells b.pi 0 24 (Tr.bK a.P),.cells b.ob 0 122 (aZ b.tb b.pi a.O),.dG (kz a) (fun z=>(c.t z).b) 4 (cT b.tb c.t),.aQ (kz a) (rT 168 c.t)]) (([],a.g.cX (a.u (gh a.da i)).cB,(a.u (gh a.da i)).cB)) ?_ (.cons rfl S6) (fun _ hw=>by rw[K3,K3];exact XM.pick (pk (17::17::17::rr 17 0 [])) hw) ?_
  ·exact⟨rfl,kY.1⟩
  intro y hy;obtain⟨hy1,hy2⟩:=hy;apply gC;refine cd ?_ ?_<;>intro h3
  ·obtain⟨r2,Eu,q0,q1,hr4⟩:∃ r2,y.2.1=y.2.2::r2/\0<=y.2.2/\y.2.2<10/\lK a.g.aA (a.g.aA y.2.2) r2:=by
    match hyr:y.2.1,hy2 with
    | [],hr=>exact absurd hr (by show ¬y.2.2<0;omega)
    | z::r2,hr=>exact⟨r2,by rw[hr.1],hr.2.1,hr.2.2.1,hr.2.2.2⟩
   have q2:a.g.aa y.2.2=true:=kY.2.2 _ (by rw[<-hy1,Eu];simp);have LD:a.g.cC y.2.2=0:=Gr.TG.C4 q0 q1 q2;have hlen:y.1.length<=5:=by
    have h9:=congrArg List.length hy1;simp only[List.length_append]at h9;have:=kY.2.1;omega
   have w1:=KA.O6 hg ho.wk.gI (f:=fun _=>1) (K:=1) og (fun _=>⟨dq,dq⟩) i.toNat y.2.2;have w2:=KA.O6 hg ho.wk.gI (f:=a.eZ) (K:=16) og (fun x=>by have:=sM (a.f x.toNat);exact⟨by unfold KA.eZ;omega,this.2⟩) i.toNat y.2.2;have p1:=Ei hlen (v:=1) (K:=1) og og y.2.2;have p2:=Ei hlen (v:=a.eZ (gh a.da i)) (K:=16) og (by unfold KA.eZ;omega) y.2.2;have hre:0<=a.eZ (gh a.da i)/\a.eZ (gh a.da i)<=16:=hrr;refine ca (zn a b c y.2.2) (pk [3,3]) ?_;rintro _ _ ⟨rfl,rfl⟩;rw[if_pos LD,LD,nc];apply gO;apply XO.bG (z:=.agg GV.zero.cF) (m:=5) (C:=ny GV.zero) (q8 _);intro bg;apply gO;apply fW .aa (vk _ _) rfl ⟨rfl,rfl⟩;apply Hb rfl og;refine sd ?_;apply ld (.t4 .aa) (encI.ld _ _ _ og);refine sd ?_ (by show _<=jX a.cw (fun _=>1) (a.da.take i.toNat) y.2.2+(y.1.count y.2.2:Int)*1+1/\jX a.cw (fun _=>1) (a.da.take i.toNat) y.2.2+(y.1.count y.2.2:Int)*1+1<=_;omega);refine sd ?_;apply st (.t4 .aa) (encI.st _ _ _ _ og) rfl;refine sd ?_;apply ld (.t5 .aa) (encI.ld _ _ _ og);refine sd ?_ (by show _<=jX a.cw a.eZ (a.da.take i.toNat) y.2.2+(y.1.count y.2.2:Int)*a.eZ (gh a.da i)+a.eZ (gh a.da i)/\jX a.cw a.eZ (a.da.take i.toNat) y.2.2+(y.1.count y.2.2:Int)*a.eZ (gh a.da i)+a.eZ (gh a.da i)<=_;omega);refine sd ?_;apply st (.t5 .aa) (encI.st _ _ _ _ og) rfl;apply ld .aa (C6 _);refine ag ((y.1++[y.2.2],r2,a.g.aA y.2.2)) ?_ ?_ (.cons rfl S6) fun _ hw=>by rw[<-GJ,<-GJ];exact XM.pick (pk (3::3::3::rr 17 1 [])) hw
   ·rw[Eu];simp
   ·exact⟨by rw[<-hy1,Eu];simp,hr4⟩
  ·have hyn:y.2.1=[]:=by
    match hyr:y.2.1,hy2 with
    | [],_=>rfl
    | z::r2,hr=>exact absurd hr.2.1 og
   have hyp:y.1=a.g.cX (a.u (gh a.da i)).cB:=by rw[hyn,List.append_nil]at hy1;exact hy1
   refine sd ?_;refine ag (i+1) ?_ ?_ S5 fun _ hw=>by rw[KA.GQ a (fun _=>1) hi.1 og hyp,KA.GQ a a.eZ hi.1 og hyp]at hw;exact XM.pick (pz 20) hw
   ·
    (first | omega | (simp;done) | (simp;omega))
   ·
    (first | omega | (simp;done) | (simp;omega))
 ·refine lp (σ:=Int) (fun z=>(10-z).toNat) (fun z=>0<=z/\z<=10) (fun z=>[(14,iI z),(0,ay b.kb 0 0),(3,ay bp 0 0),(4,ay bq 0 0),(5,.slice pl a.da.length cl)]) (fun z=>XM W (bX (cV a b c [])) [dy pl cl 3 a.da,.cells bp 0 10 (encI (jX a.cw (fun _=>1) a.da) 10),.cells bq 0 10 (encI (jX a.cw a.eZ a.da) 10),.cells b.kb 0 453 (aD (kp a b c)),.cells b.gb 0 60 (bD a.g),.cells b.sb 0 158 (Sp.aK a.s),.cells b.qb 0 2281 (aH c.q),.aQ bW (SC.dg 254 c.q),.cells b.bb 0 577 (dI b.vp a.v.ij a.v.rf),.cells b.vp 0 71 (Vm.bK a.v.bb.fe),.dG (iR a) c.mb 34 (cN b.bb a.f c.pp c.cc),.aQ (iR a) (rN 171 a.f c.pp c.cc),.cells b.tb 0 321 (aC c.F),.aQ au (FC.aX 9 c.F),.aQ au (FC.aY 3 c.F),dy c.rp c.rc 3 c.rl,.cells b.pi 0 24 (Tr.bK a.P),.cells b.ob 0 122 (aZ b.tb b.pi a.O),.dG (kz a) (fun z=>(c.t z).b) 4 (cT b.tb c.t),.aQ (kz a) (rT 168 c.t)]) (0) ?_ S5 (fun _ hw=>by rw[show a.da.take i.toNat=a.da from List.take_of_length_le og]at hw;exact XM.pick (pz 20) hw) ?_
  ·omega
  intro z hz;apply gC;refine cd ?_ ?_<;>intro h4
  ·refine cq (zn a b c z) (pk [3,3]) ?_;apply XO.bG (z:=.agg GV.zero.cF) (m:=5) (C:=ny GV.zero) (q8 _);intro bh;apply gO;apply fW .aa (vk _ _) rfl ⟨rfl,rfl⟩;refine cd ?_ ?_<;>intro h5
   ·refine sd ?_;refine ag (z+1) ?_ ?_ S5 (xq (pk (3::3::3::rr 17 1 [])))
    ·
     (first | omega | (simp;done) | (simp;omega))
    ·
     (first | omega | (simp;done) | (simp;omega))
   ·have LD:a.g.cC z=0:=by have:=h5;omega
    obtain⟨z0,z1,z2⟩:=Gr.TG.jq LD;have hpp:=hg.RF ho z0 z1 z2;have hpg:=hg.RE ho z0 z1 z2;refine rq [0,1,2,3,4,5,6,7,8,9,10,11,12,13,14,15,16,17,18] mixed ?_;rw[if_pos LD];apply ld .aa (fl _);refine sd ?_;apply ld (.t5 .aa) (encI.ld _ _ _ og);apply spF 96 rfl fun w=>w hpg.symm;apply ld .aa (kZ _);refine sd ?_;apply ld (.t4 .aa) (encI.ld _ _ _ og);apply spF 104 rfl (by show ¬a.g.pr z<_;omega);apply ld .aa (kZ _);apply Hb rfl (by show ¬a.g.pr z>20;omega);refine sd ?_;refine ag (z+1) ?_ ?_ S5 (xq (pk (3::3::3::rr 17 1 [])))
    ·
     (first | omega | (simp;done) | (simp;omega))
    ·
     (first | omega | (simp;done) | (simp;omega))
  ·apply bP .aa og;intro gC h8;subst h8;apply spT 112 rfl og;refine sd ?_;apply zC .aa (ints_at);refine aM rfl rfl (ah (pk (rr 17 3 [])) rfl ?_);exact⟨congrArg Value.bool (decide_eq_true hhd.2),rfl⟩
set_option maxHeartbeats 16000000 in
def WX(bl ol len cap:Nat)(hlen:len<=cap)(A:Int->jA)(hA:∀ z:Int,0<=z->z<len->(A z).ok):Spec Tryz.prog 9 [.slice (some ⟨bl,ol,none⟩) len cap] [.ro 0 0 32 dp,.ro 1 0 64 fQ,.ro bl ol (8*len) (fq A)] (fun v H1=>v= .bool true/\H1=[]):=by
 refine Spec.go 131 [0,2,3,4,5,6,7,8,9,11,12,13,14,15,26,31,39,60,69,76,86,126,130] [(14,1)] Tryz.func9 fun W=> ?_;refine ca (Lr) .nil ?_;rintro _ _ ⟨b,c0,rfl,_,_,Eh,rfl⟩;apply gO;refine xK 0 (Z3 _ _ len cap hlen A hA 120 og) (pk [19]) rfl ?_;rintro _ _ ⟨⟨bf,rfl,adX⟩,rfl⟩;apply gO;refine wM ?_ ?_<;>intro h1
 ·try simp only[sb]at h1
  refine bL .nil ?_;exact⟨rfl,rfl⟩
 ·try simp only[sb]at h1
  have hle:(len:Int)<=120:=(adX (by simpa using h1)).1;have hTx:=(adX (by simpa using h1)).2;refine lp (σ:=Int×KA×KC) (fun x=>(len-x.1).toNat) (fun x=>(0<=x.1/\x.1<=len)/\x.2.1.Ok (2+20*x.1)/\cI x.2.1 x.2.2 (1+x.1.toNat) (2+20*x.1)/\x.2.1.GI) (fun x=>[(5,iI x.1),(0,.slice (some ⟨bl,ol,none⟩) len cap),(3,ay b.kb 0 0)]) (fun x=>XM W (bX [.ro 0 0 32 dp,.ro 1 0 64 fQ,.ro bl ol (8*len) (fq A)]) (cV x.2.1 b x.2.2 [.ro 0 0 32 dp,.ro 1 0 64 fQ,.ro bl ol (8*len) (fq A)])) ((0,A0,c0)) ?_ S3 (xq (pk (rr 19 1 [0]))) ?_
  ·exact⟨sq,aaS,Eh,aaV⟩
  intro x rI;obtain⟨hi,ho,hc,hgi⟩:=rI;apply gC;refine cd ?_ ?_<;>intro h2
  ·have htx:=hTx x.1 og og;refine sd ?_;apply aeV (.ov (.t7 .aa)) (Qb A len _ og);apply XO.bG (z:=.agg BW) (m:=8) (C:=cellsOf BW) fun _ _=>rfl;intro ba;apply gO;apply fW .aa (LY _) rfl ⟨rfl,rfl⟩;apply XO.bG (z:=.agg (VJ fun _=>GV.zero)) (m:=50) (C:=Gr.aN fun _=>GV.zero) (hm:=(Rw _)) (Gr.aN.box _);intro bw;apply gO;refine lp (σ:=Int) (fun k=>(10-k).toNat) (fun k=>0<=k/\k<=10) (fun k=>[(8,iI k),(0,.slice (some ⟨bl,ol,none⟩) len cap),(3,ay b.kb 0 0),(5,iI x.1),(6,ay ba 0 0),(7,ay bw 0 0)]) (fun k=>XM W (bX [.ro 0 0 32 dp,.ro 1 0 64 fQ,.ro bl ol (8*len) (fq A)]) [.cells bw 0 50 (Gr.aN (Ej x.2.1.g k)),.cells ba 0 8 (fc (A x.1)),.cells b.kb 0 453 (aD (kp x.2.1 b x.2.2)),.cells b.gb 0 60 (bD x.2.1.g),.cells b.sb 0 158 (Sp.aK x.2.1.s),.cells b.qb 0 2281 (aH x.2.2.q),.aQ bW (SC.dg 254 x.2.2.q),.cells b.bb 0 577 (dI b.vp x.2.1.v.ij x.2.1.v.rf),.cells b.vp 0 71 (Vm.bK x.2.1.v.bb.fe),.dG (iR x.2.1) x.2.2.mb 34 (cN b.bb x.2.1.f x.2.2.pp x.2.2.cc),.aQ (iR x.2.1) (rN 171 x.2.1.f x.2.2.pp x.2.2.cc),.cells b.tb 0 321 (aC x.2.2.F),.aQ au (FC.aX 9 x.2.2.F),.aQ au (FC.aY 3 x.2.2.F),dy x.2.2.rp x.2.2.rc 3 x.2.2.rl,.cells b.pi 0 24 (Tr.bK x.2.1.P),.cells b.ob 0 122 (aZ b.tb b.pi x.2.1.O),.dG (kz x.2.1) (fun z=>(x.2.2.t z).b) 4 (cT b.tb x.2.2.t),.aQ (kz x.2.1) (rT 168 x.2.2.t),.ro 0 0 32 dp,.ro 1 0 64 fQ,.ro bl ol (8*len) (fq A)]) (0) ?_ S6 (fun _ hw=>by rw[Ry];exact XM.pick (pz 22) hw) ?_
   ·omega
   intro k hk;apply gC;refine cd ?_ ?_<;>intro h3
   ·refine cq (zn x.2.1 b x.2.2 k) (pk [2,2]) ?_;refine sd ?_;apply fW (.t2 .aa) (Gr.aN.st _ _ ⟨og,og⟩ _) rfl ⟨rfl,rfl⟩;refine sd ?_;refine ag (k+1) ?_ ?_ S6 fun _ hw=>by rw[<-Rz x.2.1.g hk.1];exact XM.pick (pk [2,2,0,0,0,0,0,0,0,0,0,0,0,0,0,0,0,0,0,0,0,0]) hw
    ·
     (first | omega | (simp;done) | (simp;omega))
    ·
     (first | omega | (simp;done) | (simp;omega))
   ·obtain rfl:k=10:=og;apply lW (.ao .aa) (OY _);refine xK 17 (adW x.2.1 b x.2.2 (1+x.1.toNat) (2+20*x.1) ho hc og og og (A x.1) ⟨og,og⟩) (pk (rr 19 2 [])) rfl ?_;rintro _ _ ⟨a1,r,c1,rfl,s8,fZ,rfl⟩;have ok1:=s8.ok ho og og (hc.F.sh og);have gi1:=hgi.step ho og s8;apply gO;apply XO.bG (z:=.agg kU.nil.cF) (m:=4) (C:=cy kU.nil) (cy.box _);intro br;apply gO;apply fW .aa (cy.st _ _) rfl ⟨rfl,rfl⟩;apply ct [(0,.slice (some ⟨bl,ol,none⟩) len cap),(3,ay b.kb 0 0),(5,iI x.1),(6,ay ba 0 0),(7,ay bw 0 0)] (XM W (bX [.ro 0 0 32 dp,.ro 1 0 64 fQ,.ro bl ol (8*len) (fq A)]) [.cells bw 0 50 (Gr.aN (Ej x.2.1.g 10)),.cells ba 0 8 (fc (A x.1)),.cells b.kb 0 453 (aD (kp a1 b c1)),.cells b.gb 0 60 (bD a1.g),.cells b.sb 0 158 (Sp.aK a1.s),.cells b.qb 0 2281 (aH c1.q),.aQ bW (SC.dg 254 c1.q),.cells b.bb 0 577 (dI b.vp a1.v.ij a1.v.rf),.cells b.vp 0 71 (Vm.bK a1.v.bb.fe),.dG (iR a1) c1.mb 34 (cN b.bb a1.f c1.pp c1.cc),.aQ (iR a1) (rN 171 a1.f c1.pp c1.cc),.cells b.tb 0 321 (aC c1.F),.aQ au (FC.aX 9 c1.F),.aQ au (FC.aY 3 c1.F),dy c1.rp c1.rc 3 c1.rl,.cells b.pi 0 24 (Tr.bK a1.P),.cells b.ob 0 122 (aZ b.tb b.pi a1.O),.dG (kz a1) (fun z=>(c1.t z).b) 4 (cT b.tb c1.t),.aQ (kz a1) (rT 168 c1.t),.ro 0 0 32 dp,.ro 1 0 64 fQ,.ro bl ol (8*len) (fq A)])
    ·apply ld (.ov (.t9 .aa)) (lX _);refine sp 56 rfl ?_ ?_<;>intro h4
     ·have hkt:(A x.1).aO=nN:=h4;apply ld .aa (Bv _);refine cd ?_ ?_<;>intro h5
      ·obtain⟨ht1,Lc⟩:=RH s8 hkt h5;have jx:a1.aB r.n=0:=KA.Oy ⟨og,og⟩ (fZ.tk _ og ht1 Lc);have ai0:(if a1.aB r.n≠0 then a1.aB r.n else c1.q.tA r.n)=0:=by
        rw[if_neg fun w=>w jx];unfold Fa.SF.tA;rw[if_neg og,if_pos Lc]
       apply ld .aa (Bv _);refine ca (adN a1 b c1 _ _ ok1 fZ og r.n) (pk (rr 17 1 [])) ?_;rintro _ _ ⟨⟨rrz,rfl⟩,rfl⟩;rw[ai0,nc];apply gO;refine mt S5 (xq (pk [20,20,0,0,0,0,0,0,0,0,0,0,0,0,0,0,0,0,0,1,1,1]))
      ·refine mt S5 (xq (pk [20,20,1,1,1,1,1,1,1,1,1,1,1,1,1,1,1,1,1,1,1,1]))
     ·refine mt S5 (xq (pk [20,20,1,1,1,1,1,1,1,1,1,1,1,1,1,1,1,1,1,1,1,1]))
    apply gC;refine lp (σ:=Int) (fun z=>(10-z).toNat) (fun z=>0<=z/\z<=10) (fun z=>[(12,iI z),(0,.slice (some ⟨bl,ol,none⟩) len cap),(3,ay b.kb 0 0),(5,iI x.1),(6,ay ba 0 0),(7,ay bw 0 0)]) (fun z=>XM W (bX [.ro 0 0 32 dp,.ro 1 0 64 fQ,.ro bl ol (8*len) (fq A)]) [.cells bw 0 50 (Gr.aN (Ej x.2.1.g 10)),.cells ba 0 8 (fc (A x.1)),.cells b.kb 0 453 (aD (kp a1 b c1)),.cells b.gb 0 60 (bD a1.g),.cells b.sb 0 158 (Sp.aK a1.s),.cells b.qb 0 2281 (aH c1.q),.aQ bW (SC.dg 254 c1.q),.cells b.bb 0 577 (dI b.vp a1.v.ij a1.v.rf),.cells b.vp 0 71 (Vm.bK a1.v.bb.fe),.dG (iR a1) c1.mb 34 (cN b.bb a1.f c1.pp c1.cc),.aQ (iR a1) (rN 171 a1.f c1.pp c1.cc),.cells b.tb 0 321 (aC c1.F),.aQ au (FC.aX 9 c1.F),.aQ au (FC.aY 3 c1.F),dy c1.rp c1.rc 3 c1.rl,.cells b.pi 0 24 (Tr.bK a1.P),.cells b.ob 0 122 (aZ b.tb b.pi a1.O),.dG (kz a1) (fun z=>(c1.t z).b) 4 (cT b.tb c1.t),.aQ (kz a1) (rT 168 c1.t),.ro 0 0 32 dp,.ro 1 0 64 fQ,.ro bl ol (8*len) (fq A)]) (0) ?_ S6 (xq (pz 22)) ?_
    ·omega
    intro z hz;apply gC;refine sp 72 rfl ?_ ?_<;>intro h6
    ·apply ld (.ao .aa) (lX _);refine cd ?_ ?_<;>intro h7
     ·have hkl:¬(A x.1).aO=Ia:=h7;refine cq (zn a1 b c1 z) (pk [2,2]) ?_;apply XO.bG (z:=.agg GV.zero.cF) (m:=5) (C:=ny GV.zero) (q8 _);intro bg;apply gO;apply fW .aa (vk _ _) rfl ⟨rfl,rfl⟩;refine cd ?_ ?_<;>intro h8
      ·refine sd ?_;refine ag (z+1) ?_ ?_ S6 (xq (pk [3,3,1,1,1,1,1,1,1,1,1,1,1,1,1,1,1,1,1,1,1,1]))
       ·
        (first | omega | (simp;done) | (simp;omega))
       ·
        (first | omega | (simp;done) | (simp;omega))
      ·have LD:a1.g.cC z=0:=by have:=h8;omega
       obtain⟨z0,z1,z2⟩:=Gr.TG.jq LD;obtain⟨hl1,W6⟩:=s8.aim ho og hkl z z0 z1 z2;have hl1:0<=(a1.g.gv z).mp->(a1.g.gv z).pr<=(a1.g.gv z).mp\/(a1.g.gv z).pr<=(Ej x.2.1.g 10 z).pr:=by rw[K4 z0 z1];exact hl1
       have W6:0<=(a1.g.gv z).mg->(a1.g.gv z).pg<=(a1.g.gv z).mg\/(a1.g.gv z).pg<=(Ej x.2.1.g 10 z).pg:=by rw[K4 z0 z1];exact W6
       refine rq [0,1,2,3,4,5,6,7,8,9,10,11,12,13,14,15,16,17,18,19,20,21,22,23,24,25,26,27,28,29,30,31,32,33,34,35,36,37,38,39] mixed ?_;rw[if_pos LD];apply ld .aa (kF _);refine sp 90 rfl ?_ ?_<;>intro h9
       ·apply ld .aa (kZ _);apply ld .aa (kF _);refine sp 97 rfl ?_ ?_<;>intro Tu
        ·apply ld .aa (kZ _);refine sd ?_;apply ld (.t3 .aa) (Gr.aN.afG _ _ ⟨og,og⟩);apply spF 106 rfl og;apply ld .aa (db _);refine sp 110 rfl ?_ ?_<;>intro h12
         ·apply ld .aa (fl _);apply ld .aa (db _);refine sp 117 rfl ?_ ?_<;>intro h13
          ·apply ld .aa (fl _);refine sd ?_;apply ld (.t3 .aa) (Gr.aN.VK _ _ ⟨og,og⟩);apply Hb rfl og;refine sd ?_;refine ag (z+1) ?_ ?_ S6 (xq (pk [3,3,1,1,1,1,1,1,1,1,1,1,1,1,1,1,1,1,1,1,1,1]))
           ·
            (first | omega | (simp;done) | (simp;omega))
           ·
            (first | omega | (simp;done) | (simp;omega))
          ·refine sd ?_;refine ag (z+1) ?_ ?_ S6 (xq (pk [3,3,1,1,1,1,1,1,1,1,1,1,1,1,1,1,1,1,1,1,1,1]))
           ·
            (first | omega | (simp;done) | (simp;omega))
           ·
            (first | omega | (simp;done) | (simp;omega))
         ·refine sd ?_;refine ag (z+1) ?_ ?_ S6 (xq (pk [3,3,1,1,1,1,1,1,1,1,1,1,1,1,1,1,1,1,1,1,1,1]))
          ·
           (first | omega | (simp;done) | (simp;omega))
          ·
           (first | omega | (simp;done) | (simp;omega))
        ·apply ld .aa (db _);refine sp 110 rfl ?_ ?_<;>intro h14
         ·apply ld .aa (fl _);apply ld .aa (db _);refine sp 117 rfl ?_ ?_<;>intro h15
          ·apply ld .aa (fl _);refine sd ?_;apply ld (.t3 .aa) (Gr.aN.VK _ _ ⟨og,og⟩);apply Hb rfl og;refine sd ?_;refine ag (z+1) ?_ ?_ S6 (xq (pk [3,3,1,1,1,1,1,1,1,1,1,1,1,1,1,1,1,1,1,1,1,1]))
           ·
            (first | omega | (simp;done) | (simp;omega))
           ·
            (first | omega | (simp;done) | (simp;omega))
          ·refine sd ?_;refine ag (z+1) ?_ ?_ S6 (xq (pk [3,3,1,1,1,1,1,1,1,1,1,1,1,1,1,1,1,1,1,1,1,1]))
           ·
            (first | omega | (simp;done) | (simp;omega))
           ·
            (first | omega | (simp;done) | (simp;omega))
         ·refine sd ?_;refine ag (z+1) ?_ ?_ S6 (xq (pk [3,3,1,1,1,1,1,1,1,1,1,1,1,1,1,1,1,1,1,1,1,1]))
          ·
           (first | omega | (simp;done) | (simp;omega))
          ·
           (first | omega | (simp;done) | (simp;omega))
       ·apply ld .aa (db _);refine sp 110 rfl ?_ ?_<;>intro h16
        ·apply ld .aa (fl _);apply ld .aa (db _);refine sp 117 rfl ?_ ?_<;>intro h17
         ·apply ld .aa (fl _);refine sd ?_;apply ld (.t3 .aa) (Gr.aN.VK _ _ ⟨og,og⟩);apply Hb rfl og;refine sd ?_;refine ag (z+1) ?_ ?_ S6 (xq (pk [3,3,1,1,1,1,1,1,1,1,1,1,1,1,1,1,1,1,1,1,1,1]))
          ·
           (first | omega | (simp;done) | (simp;omega))
          ·
           (first | omega | (simp;done) | (simp;omega))
         ·refine sd ?_;refine ag (z+1) ?_ ?_ S6 (xq (pk [3,3,1,1,1,1,1,1,1,1,1,1,1,1,1,1,1,1,1,1,1,1]))
          ·
           (first | omega | (simp;done) | (simp;omega))
          ·
           (first | omega | (simp;done) | (simp;omega))
        ·refine sd ?_;refine ag (z+1) ?_ ?_ S6 (xq (pk [3,3,1,1,1,1,1,1,1,1,1,1,1,1,1,1,1,1,1,1,1,1]))
         ·
          (first | omega | (simp;done) | (simp;omega))
         ·
          (first | omega | (simp;done) | (simp;omega))
     ·refine cq (G1 a1 b c1 _ _ ok1 fZ og gi1) (pk (rr 17 2 [])) ?_;refine sd ?_;refine ag ((x.1+1,a1,c1)) ?_ ?_ S3 (xq (pk (rr 17 0 [2,2,2])))
      ·
       (show(_-(x.1+1)).toNat<(_-x.1).toNat;omega)
      ·exact⟨(by show 0<=x.1+1/\x.1+1<=_;omega),(by rw[show 2+20*(x.1+1)=2+20*x.1+20 by omega];exact ok1),(by show cI a1 c1 (1+(x.1+1).toNat) (2+20*(x.1+1));rw[show 2+20*(x.1+1)=2+20*x.1+20 by omega,show 1+(x.1+1).toNat=1+x.1.toNat+1 by omega];exact fZ),gi1⟩
    ·refine cq (G1 a1 b c1 _ _ ok1 fZ og gi1) (pk (rr 17 2 [])) ?_;refine sd ?_;refine ag ((x.1+1,a1,c1)) ?_ ?_ S3 (xq (pk (rr 17 0 [2,2,2])))
     ·
      (show(_-(x.1+1)).toNat<(_-x.1).toNat;omega)
     ·exact⟨(by show 0<=x.1+1/\x.1+1<=_;omega),(by rw[show 2+20*(x.1+1)=2+20*x.1+20 by omega];exact ok1),(by show cI a1 c1 (1+(x.1+1).toNat) (2+20*(x.1+1));rw[show 2+20*(x.1+1)=2+20*x.1+20 by omega,show 1+(x.1+1).toNat=1+x.1.toNat+1 by omega];exact fZ),gi1⟩
  ·refine bL .nil ?_;exact⟨rfl,rfl⟩
end Go.X.Kn

namespace Go.X.Kn
open Go Go.Proofs Go.X Go.X.Sg Go.X.Vm
set_option maxRecDepth 20000
set_option maxHeartbeats 4000000
attribute [local irreducible] KA.dt KA.cK
set_option maxHeartbeats 16000000 in
def Ls(p:Option Addr)(cap:Nat):Spec Tryz.prog 9 [.slice p 0 cap] [.ro 0 0 32 dp,.ro 1 0 64 fQ] (fun v H1=>v= .bool true/\H1=[]):=by
 refine Spec.go 131 [0,2,3,4,5,26,31] [] Tryz.func9 fun W=> ?_;refine ca (Lr) .nil ?_;rintro _ _ ⟨b,c0,rfl,_,_,Eh,rfl⟩;apply gO;refine ca (ZV _ _ 120) .nil ?_;rintro _ _ ⟨⟨bf,rfl,adX⟩,rfl⟩;apply gO;refine wM ?_ ?_<;>intro h1
 ·try simp only[sb]at h1
  refine bL .nil ?_;exact⟨rfl,rfl⟩
 ·try simp only[sb]at h1
  refine lp (σ:=Int×KA×KC) (fun x=>0) (fun x=>(0<=x.1/\x.1<=(0:Nat))/\x.2.1.Ok (2+20*x.1)/\cI x.2.1 x.2.2 (1+x.1.toNat) (2+20*x.1)/\x.2.1.GI) (fun x=>[(5,iI x.1),(0,.slice p 0 cap),(3,ay b.kb 0 0)]) (fun x=>XM W (bX [.ro 0 0 32 dp,.ro 1 0 64 fQ]) (cV x.2.1 b x.2.2 [.ro 0 0 32 dp,.ro 1 0 64 fQ])) ((0,A0,c0)) ?_ S3 (xq (pz 19)) ?_
  ·exact⟨sq,aaS,Eh,aaV⟩
  intro x rI;obtain⟨hi,ho,hc,hgi⟩:=rI;apply gC;apply Hb rfl eW;refine bL .nil ?_;exact⟨rfl,rfl⟩
def Z5:Spec Tryz.prog 9 [.slice none 0 0] [.ro 0 0 32 dp,.ro 1 0 64 fQ] (fun v H1=>v= .bool true/\H1=[]):=Ls none 0
end Go.X.Kn
