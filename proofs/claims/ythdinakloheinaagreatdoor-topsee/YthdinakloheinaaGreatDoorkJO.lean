import Derived.Test.YthdinakloheinaaGreatDoorkJB
set_option linter.all false
namespace Go.X.Kn
open Go Go.Proofs Go.X Go.X.Fa Go.X.Gr Go.X.Tr Go.X.Vm
set_option maxRecDepth 20000
set_option maxHeartbeats 4000000
set_option maxHeartbeats 16000000 in
def M2(a:KA)(b:KZ)(c:KC)(N:Nat)(T:Int)(hw:a.Wk T)(hc:cH a c N T)(hT:T<=900000)(n co:Int)(hl:(a.u n).st=1):Spec Tryz.prog 129 [aC b.kb 0 0,iI n,iI co] (cU a b c []) (fun v H1=>∃ c1:KC,cH (a.cD n co) c1 N T/\H1=(cU (a.cD n co) b c1 [])):=by
 have hn:0<=n/\n<20:=by
  by_cases e:n<0\/20<=n
  ·rw[hw.out n e]at hl;exact absurd hl dq
  omega
 have lB:=o5 a b c (n:=n);have hz:=hw.sys.mo n.toNat og;apply Spec.go 70 [0,1,2,6,7,9,10,37,38,39,43] [] Tryz.func129 rfl rfl rfl;intro W;refine sd (XR.mono (fun _ bJ=>km (z:=n.toNat) (fv hn) (pk [7,7]) bJ) ?_);refine ld (.t4 .aa) (di _ og lB) ?_;refine ca (Kz b.bb b.vp (c.mb n.toNat) a.v hw.sys.jI.ok _ _ (a.f n.toNat) hz (hw.sys.In og) 0 16) (pk [9,9,0,0]) ?_;rintro _ _ ⟨rfl,pu,cu,rfl⟩;apply gO;refine rq [0,1,2,3,4,5,6,7,8,9] mixed (ld (.t6 .aa) (eI _) (ld (.t6 .aa) (dx _) ?_));refine cq (mJ _ _ a.g hw.gI.ok _ _ _ (1000*T) (by have:=hw.T0;omega) hw.gS) (pk [7]) ?_;apply lZ (.t7 .aa) (rQ _);refine lp (σ:=Int×FC) (fun x=>(6-x.1).toNat) (fun x=>(0<=x.1/\x.1<=6)/\x.2.toFF.Ok c.dF T/\x.2.rP=c.rp/\x.2.rC=c.rc/\x.2.roots=c.rl) (fun x=>[(38,iI x.1),(0,aC b.kb 0 0),(1,iI n),(2,iI co),(6,aC b.kb 0 (0+0+n.toNat*22)),(37,.agg (RN (a.u n).fd))]) (fun x=>XM W (bZ (cU a b c [])) [.cells b.kb 0 453 (aF ((kp a b c).put n {(kp a b c).u n with fd:=EV (a.u n).fd x.1})),.cells b.gb 0 60 (bE (a.g.fa (a.u n).kx 0 (a.um n).1)),.cells b.sb 0 158 (Sp.aP a.s),.cells b.qb 0 2281 (aM c.q),.aV b7 (SC.da 254 c.q),.cells b.bb 0 577 (dD b.vp (a.um n).2.2.1.iq (a.um n).2.2.1.rf),.cells b.vp 0 71 (Vm.bL (a.um n).2.2.1.bb.fi),.cells (c.mb n.toNat) 0 34 (b6 b.bb pu (aj (a.um n).2.2.2.aB).length cu (a.um n).2.2.2.fr (a.um n).2.2.2.bu),aS pu cu 171 3 (aj (a.um n).2.2.2.aB).length (fb (aj (a.um n).2.2.2.aB)),.dN (iS (iR a) n.toNat) c.mb 34 (cN b.bb a.f c.pp c.cc),.aV (iS (iR a) n.toNat) (rN 171 a.f c.pp c.cc),.cells b.tb 0 321 (aH x.2),.aV ax (FC.aX 9 x.2),.aV ax (FC.aY 3 x.2),db c.rp c.rc 3 c.rl,.cells b.pi 0 24 (Tr.bL (Dv (a.u n).fd a.O a.P x.1.toNat).2),.cells b.ob 0 122 (bh b.tb b.pi (Dv (a.u n).fd a.O a.P x.1.toNat).1),.dN (kG a) (fun z=>(c.t z).b) 4 (cT b.tb c.t),.aV (kG a) (rT 168 c.t)]) ((0,c.F)) ?_ (S6 rfl rfl rfl rfl rfl rfl) (fun _ l9=>by rw[ab9];exact XM.pick (pk [7,0,6,6,6,0,0,0,0,0,0,0,0,0,0,0,0,0,0]) l9) ?_
 ·grind [cH.F,cH.rp,cH.rc,cH.rl]
 intro x hx;obtain⟨hi,hF,hFp,hFc,hFr⟩:=hx;have YY:=hw.fd n x.1;apply gC;refine cd rfl ?_ ?_<;>intro h1
 ·refine XO.v (ll rfl rfl Tryz.underlying83 nI kE) rfl (gO ?_);refine cd rfl ?_ ?_<;>intro h2
  ·have h6:=h2;refine ld .aa (gx _) (sd ?_);refine ca (ON _ _ _ _ _ T og (yB hw.OI hw.PI x.1.toNat).1 x.2 (hF.sh og) T og _ (yB hw.OI hw.PI x.1.toNat).2 ((a.u n).fd x.1-1)) (pk [16,11,11,11,12]) ?_;rintro _ _ ⟨rfl,F1,M3,Is,HR,rfl⟩;apply gO;refine sd (st (.t5 .aa) (lu _ og og _) rfl (sd (ag ((x.1+1,F1)) ?_ ?_ (S6 rfl rfl rfl rfl rfl rfl) fun _ l9=>by show XM _ _ [_,_,_,_,_,_,_,_,_,_,_,_,_,_,_,.cells b.pi 0 24 (Tr.bL (Dv (a.u n).fd a.O a.P (x.1+1).toNat).2),.cells b.ob 0 122 (bh b.tb b.pi (Dv (a.u n).fd a.O a.P (x.1+1).toNat).1),_,_] _;rw[Yq _ _ hi.1 h6,<-aca a b c hi.1 h6];exact XM.pick (pk [5,5,5,5,5,5,5,5,5,5,5,1,1,1,2,1,0,0,0]) l9)))
   ·omega
   ·exact⟨(by show 0<=x.1+1/\x.1+1<=6;omega),(by show F1.toFF.Ok c.dF T;rw[M3];exact FF.Ok.tZ hF _ _),Is.trans hFp,HR.trans hFc,(by show F1.toFF.roots=_;rw[M3,yv];exact hFr)⟩
  ·have h6:=h2;refine sd (ag ((x.1+1,x.2)) ?_ ?_ (S6 rfl rfl rfl rfl rfl rfl) fun _ l9=>by show XM _ _ [.cells b.kb 0 453 (aF ((kp a b c).put n {(kp a b c).u n with fd:=EV (a.u n).fd (x.1+1)})),_,_,_,_,_,_,_,_,_,_,_,_,_,_,.cells b.pi 0 24 (Tr.bL (Dv (a.u n).fd a.O a.P (x.1+1).toNat).2),.cells b.ob 0 122 (bh b.tb b.pi (Dv (a.u n).fd a.O a.P (x.1+1).toNat).1),_,_] _;rw[UE _ _ hi.1 h6,<-UD _ h6];exact XM.pick (pz 19) l9);all_goals grind
 ·apply ld .aa (eJ _);refine ca (ML _ _ c.q c.d hc.qO.dS hc.qR n) (pk [3,3]) ?_;rintro _ _ ⟨rfl,t,ht,hr,rfl⟩;apply gO;refine st (.t2 .aa) (JP _ og _) rfl (st (.t2 .aa) (EO _ og _) rfl (XR.mono (fun _ bJ=>lN (a.um n).2.2.2 (fv hn) (pk [7,7,7,7]) bJ) ?_));refine cS rfl (ad (pk [4,4,4,2,2,2,2,0,0,0,0,0,0,0,0,0,0]) rfl ?_);have hx6:x.1=6:=og;refine⟨{c with q:=t,F:=x.2,pp:=bF c.pp n.toNat pu,cc:=bF c.cc n.toNat cu},⟨(by show t.toSF.Ok _ _ _;rw[ht];exact hc.qO.vD og _),hr,hF,hFp,hFc,hFr,hc.tb,hc.ae7 ht⟩,?_⟩;rw[hx6];try unfold cU
  rw[acb a b c hl hn,Yr a hl];all_goals rfl
open Go.X.Sp
def H5(a:KA)(b:KZ)(c:KC)(N:Nat)(T:Int)(hw:a.Wk T)(hc:cH a c N T)(hT:T<=900000)(n:Int)(hn:0<=n/\n<20)(hs:(a.u n).st≠0):Spec Tryz.prog 64 [aC b.kb 0 0,iI n] (cU a b c []) (fun v H1=>H1=(cU (a.eY n) b c [])):=by
 apply Spec.go 28 [0,1] [] Tryz.func64 rfl rfl rfl;intro W;refine rq [0,1,2,3,4,5,6,7,8,9,10,11] mixed (ld .aa (eI _) (sd (ld .aa (dx _) ?_)));refine cq (mJ _ _ a.g hw.gI.ok _ _ _ (1000*T) (by have:=hw.T0;omega) hw.gS) (pk [1]) ?_;apply ld (.av .aa) (aF.qK _);refine cq (Yx _ _ a.s a.aO hw.sI.D n (fun a1 b1 c1=>⟨(hw.sI.loc n).2,hw.sI.at_ n a1 b1 c1⟩) fun a1 m q e=>by have h9:=hw.sI.mem m q n a1 e;exact⟨h9.2.2.2.2,og,h9.2.2.1⟩) (pk [2]) ?_;refine XO.v (V.build (vs:= #[]) rfl (v:=.agg PU.nil.cO) fun _=>kq) rfl (gO ?_);refine sd (gD (.t2 .aa) (aF.CV _ og PU.nil) rfl ⟨rfl,rfl⟩ (XR.mono (fun _ bJ=>km (z:=n.toNat) (fv hn hs) (pk [7,7]) bJ) ?_));refine cS rfl (ad (pk [6,5,4,4,4,4,4,2,2,2,2,2,2,2,2,2,2]) rfl ?_);try unfold cU
 rw[Ys,UG a hn,UF];rfl
def YZ(a:KA)(b:KZ)(c:KC)(N:Nat)(T:Int)(hw:a.Wk T)(hc:cH a c N T)(hT:T<=900000)(z:Int)(hd:(a.s.drop z).1=0)(hz:0<=z/\z<6)(hh:a.s.aa z=true)(hs:(a.s.drop z).2= {a.s with aa:=ae a.s.aa z false,aA:=ae a.s.aA z 0}):Spec Tryz.prog 65 [aC b.kb 0 0,iI z] (cU a b c []) (fun v H1=>∃ c1:KC,cH (a.dM z) c1 N T/\H1=(cU (a.dM z) b c1 [])):=by
 have ir:=hc.tb z hz.1 hz.2 hh;apply Spec.go 23 [0,1,10] [] Tryz.func65 rfl rfl rfl;intro W;apply ld .aa (aF.qK _);refine cq (UL _ _ a.s z) (pk [2]) ?_;refine W1 rfl (hd) (XR.mono (fun _ bJ=>gG (z:=z.toNat) (dU hz hh) (pk [15,15]) bJ) ?_);refine sd (ld (.t5 .aa) (r6 _ hz (UI a b c hh)) ?_);refine ca (OQ _ _ _ _ _ _ _ _ _ ir.rv ir.mc ir.len c.F c.dF T hc.F hT) (pk [0,0,11,11,11]) ?_;rintro _ _ ⟨rfl,F1,M3,OP,Is,HR,rfl⟩;apply gO;refine sd (st (.t8 .aa) (tM _ hz _) rfl (cS rfl (ad (pk [8,8,7,7,7,7,7,7,7,2,2,2,4,4,4,2,2]) rfl ?_)));try dsimp only[aL,aJ,aD,aR]
 refine⟨{c with F:=F1},⟨hc.qO,hc.qR,(by show F1.toFF.Ok _ _;rw[M3];exact FF.Ok.Yo hc.F _ _),Is.trans hc.rp,HR.trans hc.rc,(by show F1.toFF.roots=_;rw[M3,sB];exact hc.rl),fun y h0 h1 h2=>hc.tb y h0 h1 (yD h2),hc.tk⟩,?_⟩;try unfold cU
 rw[Yt a b c hs,UH hz hs];rfl
def Y0(a:KA)(b:KZ)(c:KC)(N:Nat)(T:Int)(hw:a.Wk T)(hc:cH a c N T)(hT:T<=900000)(z:Int)(hd:(a.s.drop z).1≠0)(hs:(a.s.drop z).2=a.s):Spec Tryz.prog 65 [aC b.kb 0 0,iI z] (cU a b c []) (fun v H1=>∃ c1:KC,cH (a.dM z) c1 N T/\H1=(cU (a.dM z) b c1 [])):=by
 apply Spec.go 23 [0,1,10] [] Tryz.func65 rfl rfl rfl;intro W;apply ld .aa (aF.qK _);refine cq (UL _ _ a.s z) (pk [2]) ?_;refine Im rfl (hd) (cS rfl (ad (pk [1,1,0,0,0,0,0,0,0,0,0,0,0,0,0,0,0]) rfl ?_));have e:a.dM z=a:=by unfold KA.dM;rw[hs]
 rw[e,hs];exact⟨c,hc,rfl⟩
def OT(a:KA)(b:KZ)(c:KC)(N:Nat)(T:Int)(hw:a.Wk T)(hc:cH a c N T)(hT:T<=900000)(z:Int):Spec Tryz.prog 65 [aC b.kb 0 0,iI z] (cU a b c []) (fun v H1=>∃ c1:KC,cH (a.dM z) c1 N T/\H1=(cU (a.dM z) b c1 [])):=by
 rcases SS.rY a.s z with⟨hd,hs⟩ | ⟨hd,hz,hz0,hh,hs,_,_⟩
 ·exact Y0 a b c N T hw hc hT z hd hs
 ·exact YZ a b c N T hw hc hT z hd hz hh hs
set_option maxHeartbeats 16000000 in
def VA(a:KA)(b:KZ)(c:KC)(N:Nat)(T:Int)(hw:a.Wk T)(hc:cH a c N T)(hT:T<=900000)(z h:Int):Spec Tryz.prog 130 [aC b.kb 0 0,iI z,iI h] (cU a b c []) (fun v H1=>∃ c1:KC,cH (a.dV z h) c1 N T/\H1=(cU (a.dV z h) b c1 [])):=by
 apply Spec.go 62 [0,2,6,9,11,21,22,23,24,29,37,45,46,51,52,53,54] [] Tryz.func130 rfl rfl rfl;intro W;apply ld .aa (aF.qK _);refine ca (QT _ _ a.s z) (pk [2]) ?_;rintro _ _ ⟨p0,afC,rfl,rfl⟩;have hlen:(a.s.mem z).1.length<=21:=Sp.SS.Xx _ _;apply gO;refine lp (σ:=Int×KA×KC) (fun x=>((a.s.mem z).1.length-x.1).toNat) (fun x=>(0<=x.1/\x.1<=(a.s.mem z).1.length)/\x.2.1=(((a.s.mem z).1.take x.1.toNat).foldl (KA.ey h) a)/\x.2.1.Wk T/\cH x.2.1 x.2.2 N T) (fun x=>[(23,iI x.1),(0,aC b.kb 0 0),(2,iI h),(21,.slice p0 (a.s.mem z).1.length afC),(22,iI (a.s.mem z).1.length)]) (fun x=>XM W (bZ (cU a b c [])) [db p0 afC 3 (a.s.mem z).1,.cells b.kb 0 453 (aF (kp x.2.1 b x.2.2)),.cells b.gb 0 60 (bE x.2.1.g),.cells b.sb 0 158 (Sp.aP x.2.1.s),.cells b.qb 0 2281 (aM x.2.2.q),.aV b7 (SC.da 254 x.2.2.q),.cells b.bb 0 577 (dD b.vp x.2.1.v.iq x.2.1.v.rf),.cells b.vp 0 71 (Vm.bL x.2.1.v.bb.fi),.dN (iR x.2.1) x.2.2.mb 34 (cN b.bb x.2.1.f x.2.2.pp x.2.2.cc),.aV (iR x.2.1) (rN 171 x.2.1.f x.2.2.pp x.2.2.cc),.cells b.tb 0 321 (aH x.2.2.F),.aV ax (FC.aX 9 x.2.2.F),.aV ax (FC.aY 3 x.2.2.F),db x.2.2.rp x.2.2.rc 3 x.2.2.rl,.cells b.pi 0 24 (Tr.bL x.2.1.P),.cells b.ob 0 122 (bh b.tb b.pi x.2.1.O),.dN (kG x.2.1) (fun z=>(x.2.2.t z).b) 4 (cT b.tb x.2.2.t),.aV (kG x.2.1) (rT 168 x.2.2.t)]) ((0,a,c)) ?_ (S5 rfl rfl rfl rfl rfl) (fun _ hw=>XM.pick (pk [0,1,1,0,0,0,0,0,0,0,0,0,0,0,0,0,0,0]) hw) ?_
 ·simp_all
 intro x hx;obtain⟨hi,hga,hgw,hcx⟩:=hx;apply gC;refine cd rfl ?_ ?_<;>intro h1
 ·apply bH .aa og;intro g1 h2;subst h2;refine sd (q9 .aa (ints_at) ?_);have hm9:=hw.MG z (Vm.rH (l:=(a.s.mem z).1) (i:=x.1) og);have hm:=hm9.1;have hms:(x.2.1.u (dg (a.s.mem z).1 x.1)).st≠0:=by rw[hga,F8 a h (UJ (yA hw.sI z) og)];exact hm9.2
  refine cd rfl ?_ ?_<;>intro h3
  ·have sW:KA.ey h x.2.1 (dg (a.s.mem z).1 x.1)=x.2.1:=if_pos h3;refine sd (ag ((x.1+1,x.2.1,x.2.2)) ?_ ?_ (S5 rfl rfl rfl rfl rfl) fun _ hw=>XM.pick (pz 18) hw);all_goals grind [u7]
  ·have hnh:=h3;refine sd (ld (.av .aa) (gg _) ?_);refine cd rfl ?_ ?_<;>intro h4
   ·have sW:KA.ey h x.2.1 (dg (a.s.mem z).1 x.1)=(x.2.1.cD (dg (a.s.mem z).1 x.1) 0).eY (dg (a.s.mem z).1 x.1):=by unfold KA.ey;rw[if_neg hnh,if_pos (show(x.2.1.u (dg (a.s.mem z).1 x.1)).st=1 from h4)]
    refine ca (M2 x.2.1 b x.2.2 N T hgw hcx hT (dg (a.s.mem z).1 x.1) 0 aq) (pk [1,1,1,1,1,1,1,1,1,1,1,1,1,1,1,1,1]) ?_;rintro _ _ ⟨c1,gm,rfl⟩;apply gO;refine ca (H5 (x.2.1.cD (dg (a.s.mem z).1 x.1) 0) b c1 N T (hgw.cD hm aq 0) gm hT (dg (a.s.mem z).1 x.1) hm (by rw[pN];decide)) (pz 17) ?_;rintro _ _ rfl;apply gO;refine sd (ag ((x.1+1,(x.2.1.cD (dg (a.s.mem z).1 x.1) 0).eY (dg (a.s.mem z).1 x.1),c1)) ?_ ?_ (S5 rfl rfl rfl rfl rfl) fun _ hw=>XM.pick (pk [17,0,0,0,0,0,0,0,0,0,0,0,0,0,0,0,0,0]) hw)
    ·omega
    ·exact⟨(by show 0<=x.1+1/\x.1+1<=_;omega),(by rw[u7 og,MF,<-hga,sW]),(hgw.cD hm aq 0).eY hm (by rw[pN];decide),gm.UK (by rw[pN];decide)⟩
   ·have hn1:(x.2.1.u (dg (a.s.mem z).1 x.1)).st≠1:=h4;have sW:KA.ey h x.2.1 (dg (a.s.mem z).1 x.1)=x.2.1.eY (dg (a.s.mem z).1 x.1):=by unfold KA.ey;rw[if_neg hnh,if_neg hn1]
    refine ca (H5 x.2.1 b x.2.2 N T hgw hcx hT (dg (a.s.mem z).1 x.1) hm aq) (pk [1,1,1,1,1,1,1,1,1,1,1,1,1,1,1,1,1]) ?_;rintro _ _ rfl;apply gO;refine sd (ag ((x.1+1,x.2.1.eY (dg (a.s.mem z).1 x.1),x.2.2)) ?_ ?_ (S5 rfl rfl rfl rfl rfl) fun _ hw=>XM.pick (pk [17,0,0,0,0,0,0,0,0,0,0,0,0,0,0,0,0,0]) hw);all_goals grind [u7,KA.Wk.eY,cH.UK]
 ·refine lp (σ:=Int×KA×KC) (fun x=>(4-x.1).toNat) (fun x=>(0<=x.1/\x.1<=4)/\x.2.1=((a.dw z h).eb x.1.toNat)/\x.2.1.Wk T/\cH x.2.1 x.2.2 N T) (fun x=>[(45,iI x.1),(0,aC b.kb 0 0)]) (fun x=>XM W (bZ (cU a b c [])) (cU x.2.1 b x.2.2 [])) ((0,x.2.1,x.2.2)) ?_ (S2 rfl rfl) (fun _ hw=>XM.pick (pk [1,1,1,1,1,1,1,1,1,1,1,1,1,1,1,1,1]) hw) ?_
  ·exact⟨sq,(by rw[hga,List.take_of_length_le og];rfl),hgw,hcx⟩
  intro x hx;obtain⟨hi,hga,hgw,hcx⟩:=hx;apply gC;refine cd rfl ?_ ?_<;>intro h5
  ·apply ld .aa (aF.qK _);refine ca (ae9 _ _ x.2.1.s) (pk [2]) ?_;rintro _ _ ⟨p1,afD,rfl,rfl⟩;have ajJ:=Sp.ia x.2.1.s.aa 6;apply gO;refine lp (σ:=Int×KA×KC) (fun y=>((Sp.fl x.2.1.s.aa 6).length-y.1).toNat) (fun y=>(0<=y.1/\y.1<=(Sp.fl x.2.1.s.aa 6).length)/\y.2.1=(((Sp.fl x.2.1.s.aa 6).take y.1.toNat).foldl KA.dM x.2.1)/\y.2.1.Wk T/\cH y.2.1 y.2.2 N T) (fun y=>[(53,iI y.1),(0,aC b.kb 0 0),(45,iI x.1),(51,.slice p1 (Sp.fl x.2.1.s.aa 6).length afD),(52,iI (Sp.fl x.2.1.s.aa 6).length)]) (fun y=>XM W (bZ (cU a b c [])) [db p1 afD 3 (Sp.fl x.2.1.s.aa 6),.cells b.kb 0 453 (aF (kp y.2.1 b y.2.2)),.cells b.gb 0 60 (bE y.2.1.g),.cells b.sb 0 158 (Sp.aP y.2.1.s),.cells b.qb 0 2281 (aM y.2.2.q),.aV b7 (SC.da 254 y.2.2.q),.cells b.bb 0 577 (dD b.vp y.2.1.v.iq y.2.1.v.rf),.cells b.vp 0 71 (Vm.bL y.2.1.v.bb.fi),.dN (iR y.2.1) y.2.2.mb 34 (cN b.bb y.2.1.f y.2.2.pp y.2.2.cc),.aV (iR y.2.1) (rN 171 y.2.1.f y.2.2.pp y.2.2.cc),.cells b.tb 0 321 (aH y.2.2.F),.aV ax (FC.aX 9 y.2.2.F),.aV ax (FC.aY 3 y.2.2.F),db y.2.2.rp y.2.2.rc 3 y.2.2.rl,.cells b.pi 0 24 (Tr.bL y.2.1.P),.cells b.ob 0 122 (bh b.tb b.pi y.2.1.O),.dN (kG y.2.1) (fun z=>(y.2.2.t z).b) 4 (cT b.tb y.2.2.t),.aV (kG y.2.1) (rT 168 y.2.2.t)]) ((0,x.2.1,x.2.2)) ?_ (S5 rfl rfl rfl rfl rfl) (fun _ hw=>XM.pick (pk [0,1,1,0,0,0,0,0,0,0,0,0,0,0,0,0,0,0]) hw) ?_
   ·simp_all
   intro y hy;obtain⟨hj,ah5,hgy,hcy⟩:=hy;apply gC;refine cd rfl ?_ ?_<;>intro h6
   ·apply bH .aa og;intro g2 h7;subst h7;refine sd (q9 .aa (ints_at) ?_);refine ca (OT y.2.1 b y.2.2 N T hgy hcy hT _) (pk [1,1,1,1,1,1,1,1,1,1,1,1,1,1,1,1,1]) ?_;rintro _ _ ⟨c1,gm,rfl⟩;apply gO;refine sd (ag ((y.1+1,y.2.1.dM (dg (Sp.fl x.2.1.s.aa 6) y.1),c1)) ?_ ?_ (S5 rfl rfl rfl rfl rfl) fun _ hw=>XM.pick (pk [17,0,0,0,0,0,0,0,0,0,0,0,0,0,0,0,0,0]) hw);all_goals grind [u7,KA.Wk.dM]
   ·refine sd (ag ((x.1+1,y.2.1,y.2.2)) ?_ ?_ (S2 rfl rfl) fun _ hw=>XM.pick (pk [1,1,1,1,1,1,1,1,1,1,1,1,1,1,1,1,1]) hw)
    ·omega
    ·exact⟨(by show 0<=x.1+1/\x.1+1<=4;omega),(by show y.2.1=_;rw[Dw _ hi.1,<-hga,ah5,List.take_of_length_le og];rfl),hgy,hcy⟩
  ·refine cS rfl (ad (pz 17) rfl ?_);grind [KA.dV]
end Go.X.Kn

namespace Go.X.Kn
open Go Go.Proofs Go.X Go.X.Sg
set_option maxRecDepth 20000
set_option maxHeartbeats 4000000
variable{T n:Int}
def Q8(kb:Nat)(k:KP)(s:Sp.SS)(n:Int)(hn:0<=n/\n<20)(hz:(k.u n).bx.dY 0=false)(o:Bool)(he:(k.u n).bx.first 0=0):Spec Tryz.prog 74 [aC kb 0 0,iI n,.bool o] [.cells kb 0 453 (aF k),.cells k.sb 0 158 (Sp.aP s),.ro 0 0 32 cW] (fun v H1=>H1=[.cells kb 0 453 (aF k),.cells k.sb 0 158 (Sp.aP s)]):=by
 apply Spec.go 36 [0,1,2,6,7,30] [] Tryz.func74 rfl rfl rfl;intro W;refine XR.mono (fun _ bJ=>jV (n:=n) og .h1 bJ) ?_;refine sd ?_;refine Io 1 (Dz kb (0+jG n) _ hz) (pk [0,3]) rfl ?_;refine XR.mono (fun _ bJ=>mY (n:=n) og (pk [0,1,1]) bJ) ?_;refine W2 19 rfl og (cS rfl (ad (pk [0,1]) rfl ?_));rfl
def Q9(kb:Nat)(k:KP)(s:Sp.SS)(n:Int)(hn:0<=n/\n<20)(hz:(k.u n).bx.dY 0=false)(he:¬(k.u n).bx.first 0=0)(hh:(s.find (s.bI n).1 1).1=n):Spec Tryz.prog 74 [aC kb 0 0,iI n,.bool false] [.cells kb 0 453 (aF k),.cells k.sb 0 158 (Sp.aP s),.ro 0 0 32 cW] (fun v H1=>H1=[.cells kb 0 453 (aF k),.cells k.sb 0 158 (Sp.aP s)]):=by
 apply Spec.go 36 [0,1,2,6,7,30] [] Tryz.func74 rfl rfl rfl;intro W;refine XR.mono (fun _ bJ=>jV (n:=n) og .h1 bJ) ?_;refine sd ?_;refine Io 1 (Dz kb (0+jG n) _ hz) (pk [0,3]) rfl ?_;refine XR.mono (fun _ bJ=>mY (n:=n) og (pk [0,1,1]) bJ) ?_;refine spT 19 rfl og ?_;refine cq (il kb k s n) (pk [0,1]) ?_;refine cq (Am kb k s _) (pz 2) ?_;refine Im rfl og (cS rfl (ad (pz 2) rfl ?_));rfl
def Ra(kb:Nat)(k:KP)(s:Sp.SS)(n:Int)(hn:0<=n/\n<20)(hz:(k.u n).bx.dY 0=false)(o:Bool)(hq:(k.u n).bx.first 0=0\/(o=false/\(s.find (s.bI n).1 1).1=n)):Spec Tryz.prog 74 [aC kb 0 0,iI n,.bool o] [.cells kb 0 453 (aF k),.cells k.sb 0 158 (Sp.aP s),.ro 0 0 32 cW] (fun v H1=>H1=[.cells kb 0 453 (aF k),.cells k.sb 0 158 (Sp.aP s)]):=by
 by_cases he:(k.u n).bx.first 0=0
 ·exact Q8 kb k s n hn hz o he
 ·obtain⟨ho,hh⟩:=hq.resolve_left he;subst ho;exact Q9 kb k s n hn hz he hh
def OU(kb:Nat)(k:KP)(s:Sp.SS)(n sig:Int)(o:Bool)(hz:k.aI n=0->(k.u n).bx.dY 0=false)(hq:k.aI n=0->(((k.u n).bx.send sig).2.first 0=0\/(o=false/\(s.find (s.bI n).1 1).1=n))):Spec Tryz.prog 71 [aC kb 0 0,iI n,iI sig,.bool o] [.cells kb 0 453 (aF k),.cells k.sb 0 158 (Sp.aP s),.ro 0 0 32 cW] (fun v H1=>H1=[.cells kb 0 453 (aF (if k.aI n=0 then k.box n ((k.u n).bx.send sig).2 else k)),.cells k.sb 0 158 (Sp.aP s)]):=by
 apply Spec.go 27 [0,1,2,3,8,9,17] [] Tryz.func71 rfl rfl rfl;intro W;refine ca (ef kb _ _) .h1 ?_;rintro _ _ ⟨⟨hl,rfl⟩ | ⟨hl,rfl⟩,rfl⟩
 ·obtain⟨jy,gh⟩:=bC hl;apply gO;apply XR.mono fun _ bJ=>jV (n:=n) og .h1 bJ;refine cq (UR kb (0+jG n) _ sig) .h1 ?_;apply XR.mono fun _ bJ=>mB (n:=n) og (pz 3) bJ;refine xj 2 (Ra kb (k.box n ((k.u n).bx.send sig).2) s n jy (by unfold KP.box;rw[KP.sx];exact o7 _ _ (hz hl)) o (by unfold KP.box;rw[KP.sx];exact hq hl)) (pz 3) rfl ?_;rintro _ _ rfl;apply gO;refine cS rfl (ad (pz 2) rfl ?_);rw[if_pos hl];rfl
 ·apply gO;refine GI rfl (ad (pz 2) rfl ?_);simp_all
open Go.X.Fa Go.X.Gr Go.X.Tr Go.X.Vm
theorem Gk(a:KA)(n h:Int):kG (a.cJ n h)=kG a:=rfl
theorem cH.box{a:KA}{c:KC}{N:Nat}(h:cH a c N T)(n:Int)(x:BS):cH (a.jh n x) c N T:=⟨h.qO,h.qR,h.F,h.rp,h.rc,h.rl,h.tb,fun m m0 m1 hm=>by rw[fX];exact h.tk m m0 m1 hm⟩
theorem yH(a:KA)(n:Int)(x:BS):kG (a.jh n x)=kG a:=rfl
def KA.Hx.any{a:KA}(h:a.Hx (-1))(n:Int):a.Hx n:=fun p h0 h1 _ h3=>h p h0 h1 og h3
theorem KA.Hx.box{a:KA}(h:a.Hx n)(x:BS):(a.jh n x).Hx n:=fun p h0 h1 h2 h3=>by
 grind [u9,KA.Hx,KA.jh]
theorem KA.Wk.kv{a:KA}(w:a.Wk T)(h:(a.u n).st≠0):0<=n/\n<20:=by
 by_cases e:n<0\/20<=n
 ·rw[w.out n e]at h;exact absurd rfl h
 omega
structure KA.R0 (a:KA):Prop where
 st:(a.u 0).st=1
 loc:a.s.loc 0=0
 bR:a.s.bR 0 1=0
structure KA.Ok (a:KA) (T:Int):Prop where
 wk:a.Wk T
 hx:a.Hx (-1)
 r0:a.R0
 d0:a.aO 0=1
def Gl:∀ (l:List Int) (x:KA),(l.foldl KA.dM x).aO=x.aO
 | [],_=>rfl
 | _::r,x=>Gl r (x.dM _)
def DW(a:KA):∀ k,(a.eb k).aO=a.aO
 | 0=>rfl
 | k+1=>(Gl _ _).trans (DW a k)
def H6(h:Int):∀ (l:List Int) (x:KA),(l.foldl (KA.ey h) x).aO=x.aO
 | [],_=>rfl
 | y::r,x=>(H6 h r (KA.ey h x y)).trans (by
  unfold KA.ey;split
  ·rfl
  ·show(if(x.u y).st=1 then x.cD y 0 else x).aO=_
   split<;>rfl)
def Rb(a:KA)(n co:Int):(a.cR n co).aO=a.aO:=by
 have e1:(a.ij n co).aO=a.aO:=by
  unfold KA.ij;split
  ·exact(DW _ 4).trans (H6 n _ _)
  rfl
 unfold KA.cR KA.jH;split
 ·exact e1
 ·exact e1
theorem KA.R0.ac4{a:KA}(h:a.R0)(hn:n≠0)(co:Int):(a.cD n co).R0:=⟨by rw[pM _ _ fun e=>hn e.symm];exact h.st,h.loc,h.bR⟩
def KA.R0.Y1{a:KA}(h:a.R0)(hn:n≠0):(a.eY n).R0:=
 ⟨by rw[uc _ fun e=>hn e.symm];exact h.st,by show(a.s.fB n).2.loc 0=0;rw[ub _ fun e=>hn e.symm];exact h.loc,yE (fun e=>hn e.symm) h.bR⟩
def KA.R0.Y2{a:KA}(h:a.R0)(z:Int):(a.dM z).R0:=⟨h.st,by show(a.s.drop z).2.loc 0=0;rw[pL];exact h.loc,by show(a.s.drop z).2.bR 0 1=0;rw[ud];exact h.bR⟩
def KA.R0.goE(k:Int):∀ {l:List Int} {a:KA},a.R0->(0∉l)->(l.foldl (KA.ey k) a).R0
 | [],_,w,_=>w
 | x::r,a,w,hl=>KA.R0.goE k (l:=r) (by
   have hx:x≠0:=by rintro rfl;exact hl (.head _)
   unfold KA.ey
   split
   ·exact w
   ·refine KA.R0.Y1 ?_ hx
    split
    ·exact w.ac4 hx 0
    ·exact w) fun q=>hl (.tail _ q)
def KA.R0.A4:∀ {l:List Int} {a:KA},a.R0->(l.foldl KA.dM a).R0
 | [],_,w=>w
 | x::r,_,w=>KA.R0.A4 (l:=r) (w.Y2 x)
def KA.R0.eb{a:KA}(w:a.R0):∀ k,(a.eb k).R0
 | 0=>w
 | k+1=>KA.R0.A4 (w.eb k)
theorem SS.Inv.dg{s:Sp.SS}{aO:Int->Nat}(h:s.Inv aO)(hl:s.loc 0=0):s.aa 0=true:=by
 have:=h.at_ 0 og og og;simp_all
def SS.Inv.in0{s:Sp.SS}{aO:Int->Nat}(h:s.Inv aO)(hl:s.loc 0=0)(hd:aO 0=1){z q:Int}(e:s.bR z q=0):z=0:=by
 have:=(h.mem z q 0 og e).2.2.2.2;rw[hl]at this;unfold Sp.SS.cC at this;rw[hd]at this;simpa [Sp.SS.ja]using this
def KJ{a:KA}(w:a.Wk T)(r:a.R0)(hn:(a.u n).st≠0)(h:a.head n=n):a.s.bR (a.s.loc n) 1=n:=by
 have hr:=w.kv hn;have h1:=(w.lc n hr.1 hr.2).1 hn;by_cases e:n=0
 ·subst e;rw[r.loc];exact r.bR
 ·unfold KA.head at h;have e1:a.s.bI n=(a.s.loc n,0):=by unfold Sp.SS.bI;rw[if_neg og,if_neg og]
  rw[e1]at h;have h:(a.s.find (a.s.loc n) 1).1=n:=h;unfold Sp.SS.find at h;grind
def KA.Wk.DX{a:KA}(w:a.Wk T)(r0:a.R0)(hd:a.aO 0=1)(hn:n≠0)(hl:(a.u n).st=1)(hx:a.Hx n)(co:Int):(a.cR n co).Ok T:=by
 have hr:=w.kv (n:=n) og;have AB:=((hx.ij co).cJ n (a.head n)).jH (((a.ij n co).cJ n (a.head n)).u n).aA;refine⟨w.cR hr hl co,fun p h0 h1 _ h3=> ?_,?_,(congrFun (Rb _ _ _) 0).trans hd⟩
 ·grind [KA.cR,KA.jH,fX,du,Dy,KA.Hx]
 ·have r1:(a.ij n co).R0:=by
   unfold KA.ij;split
   ·rename_i hh;unfold KA.dV;refine KA.R0.eb (KA.R0.goE n (r0.ac4 hn co) fun q=> ?_) 4;obtain⟨j,_,_,e,_⟩:=wR q;have hz:=SS.Inv.in0 w.sI r0.loc hd e;have hw:=KJ w r0 (n:=n) og hh;have h1:=(w.lc n hr.1 hr.2).1 og;have e1:a.s.bI n=(a.s.loc n,0):=by unfold Sp.SS.bI;rw[if_neg og,if_neg og]
    rw[e1]at hz;have hz:a.s.loc n=0:=hz;rw[hz,r0.bR]at hw;omega
   grind [KA.R0.ac4]
  unfold KA.cR;have r2:((a.ij n co).cJ n (a.head n)).R0:=⟨by rw[(du _ _ _ _).1];exact r1.st,r1.loc,r1.bR⟩;refine⟨?_,by rw[(ue _ _).1];exact r2.loc,by rw[(ue _ _).1];exact r2.bR⟩;grind [KA.jH,fX,KA.R0.st]
theorem yJ{a:KA}{o:Bool}(h:¬a.HN n o):a.cK n o=a:=if_neg h
theorem qd{a:KA}{o:Bool}(h:a.HN n o):a.cK n o=a.cR n (128+(a.u n).bx.first 0):=if_pos h
attribute [local irreducible] KA.dV
theorem OV(a:KA)(b:KZ)(c:KC)(p:Int):((cU (a.jH p) b c []):List aK)=[.cells b.kb 0 453 (aF (if(kp a b c).aI p=0 then(kp a b c).box p (((kp a b c).u p).bx.send 3).2 else kp a b c)),.cells b.gb 0 60 (bE a.g),.cells b.sb 0 158 (Sp.aP a.s),.cells b.qb 0 2281 (aM c.q),.aV b7 (SC.da 254 c.q),.cells b.bb 0 577 (dD b.vp a.v.iq a.v.rf),.cells b.vp 0 71 (Vm.bL a.v.bb.fi),.dN (iR a) c.mb 34 (cN b.bb a.f c.pp c.cc),.aV (iR a) (rN 171 a.f c.pp c.cc),.cells b.tb 0 321 (aH c.F),.aV ax (FC.aX 9 c.F),.aV ax (FC.aY 3 c.F),db c.rp c.rc 3 c.rl,.cells b.pi 0 24 (Tr.bL a.P),.cells b.ob 0 122 (bh b.tb b.pi a.O),.dN (kG a) (fun z=>(c.t z).b) 4 (cT b.tb c.t),.aV (kG a) (rT 168 c.t)]:=by
 have e:kp (a.jH p) b c=(if(kp a b c).aI p=0 then(kp a b c).box p (((kp a b c).u p).bx.send 3).2 else kp a b c):=(acd a b c p).symm;try unfold cU
 rw[e,Yv];by_cases h:a.aI p=0
 ·have h2:a.jH p=a.jh p ((a.u p).bx.send 3).2:=if_pos h;rw[h2];rfl
 grind [KA.jH]
set_option maxHeartbeats 16000000 in
def Y3(a:KA)(b:KZ)(c:KC)(N:Nat)(T:Int)(hw:a.Wk T)(hc:cH a c N T)(hT:T<=900000)(n co:Int)(hl:(a.u n).st=1)(hx:a.Hx n)(hh:a.head n≠n):Spec Tryz.prog 63 [aC b.kb 0 0,iI n,iI co] (cU a b c [.ro 0 0 32 cW]) (fun v H1=>∃ c2:KC,cH (a.cR n co) c2 N T/\H1=(cU (a.cR n co) b c2 [])):=by
 have hn:0<=n/\n<20:=by
  by_cases e:n<0\/20<=n
  ·rw[hw.out n e]at hl;exact absurd hl dq
  omega
 have IA:=hw.cD hn hl co;have Y4:a.ij n co=(a.cD n co):=by unfold KA.ij;rw[if_neg hh]
 have bJ:((a.cD n co).cJ n (a.head n)).Wk T:=by rw[<-Y4];exact(hw.ij hn hl co).cJ _ _
 have Wx:((a.cD n co).cJ n (a.head n)).Hx n:=by rw[<-Y4];exact(hx.ij co).cJ _ _
 have ac5:(((a.cD n co).cJ n (a.head n)).u n).st≠1:=by rw[<-Y4,(du _ _ _ _).1];exact Dy a n co
 apply Spec.go 65 [0,1,2,6,7,8,21,26,27,47] [] Tryz.func63 rfl rfl rfl;intro W;refine cq (il b.kb (kp a b c) a.s n) (pk [0,1]) ?_;refine cq (Am b.kb (kp a b c) a.s _) (pz 2) ?_;refine ca (M2 a b c N T hw hc hT n co hl) (pk [0,1,0,0,0,0,0,0,0,0,0,0,0,0,0,0,0]) ?_;rintro _ _ ⟨c2,A6,rfl⟩;apply gO;apply Im rfl (hh);refine lp (σ:=Int) (fun i=>(20-i).toNat) (fun i=>0<=i/\i<=20) (fun i=>[(26,iI i),(0,aC b.kb 0 0),(1,iI n),(7,iI (a.head n))]) (fun i=>XM W (bZ (cU a b c [.ro 0 0 32 cW])) [.cells b.kb 0 453 (aF ((kp (a.cD n co) b c2).lv n (a.head n) i)),.cells b.gb 0 60 (bE (a.cD n co).g),.cells b.sb 0 158 (Sp.aP (a.cD n co).s),.cells b.qb 0 2281 (aM c2.q),.aV b7 (SC.da 254 c2.q),.cells b.bb 0 577 (dD b.vp (a.cD n co).v.iq (a.cD n co).v.rf),.cells b.vp 0 71 (Vm.bL (a.cD n co).v.bb.fi),.dN (iR (a.cD n co)) c2.mb 34 (cN b.bb (a.cD n co).f c2.pp c2.cc),.aV (iR (a.cD n co)) (rN 171 (a.cD n co).f c2.pp c2.cc),.cells b.tb 0 321 (aH c2.F),.aV ax (FC.aX 9 c2.F),.aV ax (FC.aY 3 c2.F),db c2.rp c2.rc 3 c2.rl,.cells b.pi 0 24 (Tr.bL (a.cD n co).P),.cells b.ob 0 122 (bh b.tb b.pi (a.cD n co).O),.dN (kG (a.cD n co)) (fun z=>(c2.t z).b) 4 (cT b.tb c2.t),.aV (kG (a.cD n co)) (rT 168 c2.t),.ro 0 0 32 cW]) (0) ?_ (S4 rfl rfl rfl rfl) (fun _ l9=>by rw[vK];exact XM.pick (pz 18) l9) ?_
 ·omega
 intro i hi;apply gC;refine cd rfl ?_ ?_<;>intro h1
 ·refine sd (ld .aa (gg _) ?_);refine sp 37 rfl ?_ ?_<;>intro h2
  ·rw[iU _ _ _ (Int.le_refl _)]at h2;have h81:=h2;refine sd (ld .aa (ki _) ?_);refine cd rfl ?_ ?_<;>intro h3
   ·rw[iU _ _ _ (Int.le_refl _)]at h3;have h82:=h3;refine sd (st .aa (xY _ og _) rfl (sd (ag (i+1) ?_ ?_ (S4 rfl rfl rfl rfl) fun _ l9=>by rw[<-KP.FT _ _ _ hi.1 h81 h82];exact XM.pick (pz 18) l9)));all_goals omega
   ·rw[iU _ _ _ (Int.le_refl _)]at h3;have h82:=h3;refine sd (ag (i+1) ?_ ?_ (S4 rfl rfl rfl rfl) fun _ l9=>by rw[mO _ _ _ fun c=>h82 c.2];exact XM.pick (pz 18) l9);all_goals omega
  ·rw[iU _ _ _ (Int.le_refl _)]at h2;have h81:=h2;refine sd (ag (i+1) ?_ ?_ (S4 rfl rfl rfl rfl) fun _ l9=>by rw[mO _ _ _ fun c=>h81 c.1];exact XM.pick (pz 18) l9);all_goals omega
 ·have ac8:i=20:=og;subst ac8;try unfold cU
  rw[Ko];refine sd (ld .aa (ki _) ?_);refine xj 2 (OU b.kb (kp ((a.cD n co).cJ n (a.head n)) b c2) (a.cD n co).s ((((a.cD n co).cJ n (a.head n)).u n).aA) 3 false (fun q=>bJ.bx _) fun q=>Gb bJ Wx ac5 q) (pk [0,1,15]) rfl ?_;rintro _ _ rfl;apply gO;refine cS rfl (ad (pk [0,2,0,1,1,1,1,1,1,1,1,1,1,1,1,1,1]) rfl ?_);have hA:a.cR n co=((a.cD n co).cJ n (a.head n)).jH (((a.cD n co).cJ n (a.head n)).u n).aA:=by unfold KA.cR;rw[Y4]
  rw[hA];refine⟨c2,A6.gF _ _ _,?_⟩;change _=cU (KA.jH _ _) _ _ [];rw[OV,Ga,Gk];rfl
set_option maxHeartbeats 16000000 in
def Y5(a:KA)(b:KZ)(c:KC)(N:Nat)(T:Int)(hw:a.Wk T)(hc:cH a c N T)(hT:T<=900000)(n co:Int)(hl:(a.u n).st=1)(hx:a.Hx n)(hh:a.head n=n):Spec Tryz.prog 63 [aC b.kb 0 0,iI n,iI co] (cU a b c [.ro 0 0 32 cW]) (fun v H1=>∃ c2:KC,cH (a.cR n co) c2 N T/\H1=(cU (a.cR n co) b c2 [])):=by
 have hn:0<=n/\n<20:=by
  by_cases e:n<0\/20<=n
  ·rw[hw.out n e]at hl;exact absurd hl dq
  omega
 have IA:=hw.cD hn hl co;have Y4:a.ij n co=((a.cD n co).dV (a.s.bI n).1 n):=by unfold KA.ij;rw[if_pos hh]
 have bJ:(((a.cD n co).dV (a.s.bI n).1 n).cJ n (a.head n)).Wk T:=by rw[<-Y4];exact(hw.ij hn hl co).cJ _ _
 have Wx:(((a.cD n co).dV (a.s.bI n).1 n).cJ n (a.head n)).Hx n:=by rw[<-Y4];exact(hx.ij co).cJ _ _
 have ac5:((((a.cD n co).dV (a.s.bI n).1 n).cJ n (a.head n)).u n).st≠1:=by rw[<-Y4,(du _ _ _ _).1];exact Dy a n co
 apply Spec.go 65 [0,1,2,6,7,8,21,26,27,47] [] Tryz.func63 rfl rfl rfl;intro W;refine cq (il b.kb (kp a b c) a.s n) (pk [0,1]) ?_;refine cq (Am b.kb (kp a b c) a.s _) (pz 2) ?_;refine ca (M2 a b c N T hw hc hT n co hl) (pk [0,1,0,0,0,0,0,0,0,0,0,0,0,0,0,0,0]) ?_;rintro _ _ ⟨c1,gm,rfl⟩;apply gO;apply W1 rfl (hh);refine ca (VA (a.cD n co) b c1 N T IA gm hT _ n) (pz 17) ?_;rintro _ _ ⟨c2,A6,rfl⟩;apply gO;refine lp (σ:=Int) (fun i=>(20-i).toNat) (fun i=>0<=i/\i<=20) (fun i=>[(26,iI i),(0,aC b.kb 0 0),(1,iI n),(7,iI (a.head n))]) (fun i=>XM W (bZ (cU a b c [.ro 0 0 32 cW])) [.cells b.kb 0 453 (aF ((kp ((a.cD n co).dV (a.s.bI n).1 n) b c2).lv n (a.head n) i)),.cells b.gb 0 60 (bE ((a.cD n co).dV (a.s.bI n).1 n).g),.cells b.sb 0 158 (Sp.aP ((a.cD n co).dV (a.s.bI n).1 n).s),.cells b.qb 0 2281 (aM c2.q),.aV b7 (SC.da 254 c2.q),.cells b.bb 0 577 (dD b.vp ((a.cD n co).dV (a.s.bI n).1 n).v.iq ((a.cD n co).dV (a.s.bI n).1 n).v.rf),.cells b.vp 0 71 (Vm.bL ((a.cD n co).dV (a.s.bI n).1 n).v.bb.fi),.dN (iR ((a.cD n co).dV (a.s.bI n).1 n)) c2.mb 34 (cN b.bb ((a.cD n co).dV (a.s.bI n).1 n).f c2.pp c2.cc),.aV (iR ((a.cD n co).dV (a.s.bI n).1 n)) (rN 171 ((a.cD n co).dV (a.s.bI n).1 n).f c2.pp c2.cc),.cells b.tb 0 321 (aH c2.F),.aV ax (FC.aX 9 c2.F),.aV ax (FC.aY 3 c2.F),db c2.rp c2.rc 3 c2.rl,.cells b.pi 0 24 (Tr.bL ((a.cD n co).dV (a.s.bI n).1 n).P),.cells b.ob 0 122 (bh b.tb b.pi ((a.cD n co).dV (a.s.bI n).1 n).O),.dN (kG ((a.cD n co).dV (a.s.bI n).1 n)) (fun z=>(c2.t z).b) 4 (cT b.tb c2.t),.aV (kG ((a.cD n co).dV (a.s.bI n).1 n)) (rT 168 c2.t),.ro 0 0 32 cW]) (0) ?_ (S4 rfl rfl rfl rfl) (fun _ l9=>by rw[vK];exact XM.pick (pz 18) l9) ?_
 ·omega
 intro i hi;apply gC;refine cd rfl ?_ ?_<;>intro h1
 ·refine sd (ld .aa (gg _) ?_);refine sp 37 rfl ?_ ?_<;>intro h2
  ·rw[iU _ _ _ (Int.le_refl _)]at h2;have h81:=h2;refine sd (ld .aa (ki _) ?_);refine cd rfl ?_ ?_<;>intro h3
   ·rw[iU _ _ _ (Int.le_refl _)]at h3;have h82:=h3;refine sd (st .aa (xY _ og _) rfl (sd (ag (i+1) ?_ ?_ (S4 rfl rfl rfl rfl) fun _ l9=>by rw[<-KP.FT _ _ _ hi.1 h81 h82];exact XM.pick (pz 18) l9)));all_goals omega
   ·rw[iU _ _ _ (Int.le_refl _)]at h3;have h82:=h3;refine sd (ag (i+1) ?_ ?_ (S4 rfl rfl rfl rfl) fun _ l9=>by rw[mO _ _ _ fun c=>h82 c.2];exact XM.pick (pz 18) l9);all_goals omega
  ·rw[iU _ _ _ (Int.le_refl _)]at h2;have h81:=h2;refine sd (ag (i+1) ?_ ?_ (S4 rfl rfl rfl rfl) fun _ l9=>by rw[mO _ _ _ fun c=>h81 c.1];exact XM.pick (pz 18) l9);all_goals omega
 ·have ac8:i=20:=og;subst ac8;try unfold cU
  rw[Ko];refine sd (ld .aa (ki _) ?_);refine xj 2 (OU b.kb (kp (((a.cD n co).dV (a.s.bI n).1 n).cJ n (a.head n)) b c2) ((a.cD n co).dV (a.s.bI n).1 n).s (((((a.cD n co).dV (a.s.bI n).1 n).cJ n (a.head n)).u n).aA) 3 false (fun q=>bJ.bx _) fun q=>Gb bJ Wx ac5 q) (pk [0,1,15]) rfl ?_;rintro _ _ rfl;apply gO;refine cS rfl (ad (pk [0,2,0,1,1,1,1,1,1,1,1,1,1,1,1,1,1]) rfl ?_);have hA:a.cR n co=(((a.cD n co).dV (a.s.bI n).1 n).cJ n (a.head n)).jH ((((a.cD n co).dV (a.s.bI n).1 n).cJ n (a.head n)).u n).aA:=by unfold KA.cR;rw[Y4]
  rw[hA];refine⟨c2,A6.gF _ _ _,?_⟩;change _=cU (KA.jH _ _) _ _ [];rw[OV,Ga,Gk];rfl
end Go.X.Kn

namespace Go.X.Kn
open Go Go.Proofs Go.X Go.X.Sg
set_option maxRecDepth 20000
set_option maxHeartbeats 4000000
attribute [local irreducible] KA.cR KA.cK
def BV(a:KA)(b:KZ)(c:KC)(N:Nat)(T:Int)(hw:a.Wk T)(hc:cH a c N T)(hT:T<=900000)(n co:Int)(hl:(a.u n).st=1)(hx:a.Hx n):Spec Tryz.prog 63 [aC b.kb 0 0,iI n,iI co] (cU a b c [.ro 0 0 32 cW]) (fun v H1=>∃ c1:KC,cH (a.cR n co) c1 N T/\H1=(cU (a.cR n co) b c1 [])):=by
 by_cases hh:a.head n=n
 ·exact Y5 a b c N T hw hc hT n co hl hx hh
 ·exact Y3 a b c N T hw hc hT n co hl hx hh
def Rc(a:KA)(b:KZ)(c:KC)(N:Nat)(T:Int)(hw:a.Wk T)(hc:cH a c N T)(hT:T<=900000)(n:Int)(hn:0<=n/\n<20)(o:Bool)(hl:(a.u n).st=1)(hx:a.Hx n)(he:¬((a.u n).bx.first 0)=0)(ho:o=true\/a.head n≠n):Spec Tryz.prog 74 [aC b.kb 0 0,iI n,.bool o] (cU a b c [.ro 0 0 32 cW]) (fun v H1=>∃ c1:KC,cH (a.cR n (128+((a.u n).bx.first 0))) c1 N T/\H1=(cU (a.cR n (128+((a.u n).bx.first 0))) b c1 [])):=by
 apply Spec.go 36 [0,1,2,6,7,30] [] Tryz.func74 rfl rfl rfl;intro W;refine XR.mono (fun _ bJ=>jV (k:=kp a b c) (n:=n) og .h1 bJ) ?_;refine sd ?_;refine Io 1 (Dz b.kb (0+jG n) _ (hw.bx n)) (pk [0,18]) rfl ?_;refine XR.mono (fun _ bJ=>mY (k:=kp a b c) (n:=n) og (pk [0,1,1]) bJ) ?_;refine spT 19 rfl (he) ?_;refine Pt 21 rfl ?_ ?_<;>intro h2
 ·try simp only[sb]at h2
  have hfr:=BS.tu (a.u n).bx 0 (hw.bx n);refine sd ?_;refine xj 17 (BV a b c N T hw hc hT n _ hl hx) (pk [0,1,1,1,1,1,1,1,1,1,1,1,1,1,1,1,1,0]) rfl ?_;rintro _ _ ⟨c1,gm,rfl⟩;apply gO;refine cS rfl (ad (pz 17) rfl ?_);grind
 ·try simp only[sb]at h2
  refine cq (il b.kb (kp a b c) a.s n) (pk [0,2]) ?_;refine cq (Am b.kb (kp a b c) a.s _) (pz 2) ?_;apply W1 rfl (by first | rfl | exact fun q=>(ho.resolve_left (by simp_all)) q);have hfr:=BS.tu (a.u n).bx 0 (hw.bx n);refine sd ?_;refine xj 17 (BV a b c N T hw hc hT n _ hl hx) (pk [0,2,0,1,1,1,1,1,1,1,1,1,1,1,1,1,1,0]) rfl ?_;rintro _ _ ⟨c1,gm,rfl⟩;apply gO;refine cS rfl (ad (pz 17) rfl ?_);grind
def Re(a:KA)(b:KZ)(c:KC)(N:Nat)(T:Int)(hw:a.Wk T)(hc:cH a c N T)(hT:T<=900000)(n:Int)(hn:0<=n/\n<20)(o:Bool)(he:((a.u n).bx.first 0)=0):Spec Tryz.prog 74 [aC b.kb 0 0,iI n,.bool o] (cU a b c [.ro 0 0 32 cW]) (fun v H1=>∃ c1:KC,cH a c1 N T/\H1=(cU a b c1 [])):=by
 apply Spec.go 36 [0,1,2,6,7,30] [] Tryz.func74 rfl rfl rfl;intro W;refine XR.mono (fun _ bJ=>jV (k:=kp a b c) (n:=n) og .h1 bJ) ?_;refine sd ?_;refine Io 1 (Dz b.kb (0+jG n) _ (hw.bx n)) (pk [0,18]) rfl ?_;refine XR.mono (fun _ bJ=>mY (k:=kp a b c) (n:=n) og (pk [0,1,1]) bJ) ?_;refine W2 19 rfl og (cS rfl (ad (pk [0,1,1,1,1,1,1,1,1,1,1,1,1,1,1,1,1]) rfl ?_));grind
theorem Rg(a:KA)(b:KZ)(c:KC)(N:Nat)(T:Int)(hw:a.Wk T)(hc:cH a c N T)(hT:T<=900000)(n:Int)(hn:0<=n/\n<20)(he:¬((a.u n).bx.first 0)=0)(hh:a.head n=n):Spec Tryz.prog 74 [aC b.kb 0 0,iI n,.bool false] (cU a b c [.ro 0 0 32 cW]) (fun v H1=>∃ c1:KC,cH a c1 N T/\H1=(cU a b c1 [])):=by
 apply Spec.go 36 [0,1,2,6,7,30] [] Tryz.func74 rfl rfl rfl;intro W;refine XR.mono (fun _ bJ=>jV (k:=kp a b c) (n:=n) og .h1 bJ) ?_;refine sd ?_;refine Io 1 (Dz b.kb (0+jG n) _ (hw.bx n)) (pk [0,18]) rfl ?_;refine XR.mono (fun _ bJ=>mY (k:=kp a b c) (n:=n) og (pk [0,1,1]) bJ) ?_;refine spT 19 rfl (he) ?_;refine cq (il b.kb (kp a b c) a.s n) (pk [0,2]) ?_;refine cq (Am b.kb (kp a b c) a.s _) (pz 2) ?_;refine Im rfl (fun q=>q hh) (cS rfl (ad (pk [0,2,0,1,1,1,1,1,1,1,1,1,1,1,1,1,1]) rfl ?_));exact⟨c,hc,rfl⟩
def Rh(a:KA)(b:KZ)(c:KC)(N:Nat)(T:Int)(hw:a.Wk T)(hc:cH a c N T)(hT:T<=900000)(n:Int)(hn:0<=n/\n<20)(o:Bool)(he:¬a.HN n o):Spec Tryz.prog 74 [aC b.kb 0 0,iI n,.bool o] (cU a b c [.ro 0 0 32 cW]) (fun v H1=>∃ c1:KC,cH a c1 N T/\H1=(cU a b c1 [])):=by
 by_cases h0:((a.u n).bx.first 0)=0
 ·exact Re a b c N T hw hc hT n hn o h0
 ·have h1:¬(o=true\/a.head n≠n):=fun q=>he ⟨h0,q⟩;grind [Rg]
def yK(a:KA)(b:KZ)(c:KC)(N:Nat)(T:Int)(hw:a.Wk T)(hc:cH a c N T)(hT:T<=900000)(n:Int)(hn:0<=n/\n<20)(o:Bool)(hl:(a.u n).st=1)(hx:a.Hx n):Spec Tryz.prog 74 [aC b.kb 0 0,iI n,.bool o] (cU a b c [.ro 0 0 32 cW]) (fun v H1=>∃ c1:KC,cH (a.cK n o) c1 N T/\H1=(cU (a.cK n o) b c1 [])):=by
 by_cases he:a.HN n o
 ·rw[qd he];exact Rc a b c N T hw hc hT n hn o hl hx he.1 he.2
 ·rw[yJ he];exact Rh a b c N T hw hc hT n hn o he
def VC(a:KA)(b:KZ)(c:KC)(N:Nat)(T:Int)(hw:a.Wk T)(hc:cH a c N T)(hT:T<=900000)(n sig:Int)(o:Bool)(hx:a.Hx n):Spec Tryz.prog 71 [aC b.kb 0 0,iI n,iI sig,.bool o] (cU a b c [.ro 0 0 32 cW]) (fun v H1=>∃ c1:KC,cH (a.vP n sig o) c1 N T/\H1=(cU (a.vP n sig o) b c1 [])):=by
 apply Spec.go 27 [0,1,2,3,8,9,17] [] Tryz.func71 rfl rfl rfl;intro W;refine ca (ef b.kb (kp a b c) n) .h1 ?_;rintro _ _ ⟨⟨hl,rfl⟩ | ⟨hl,rfl⟩,rfl⟩
 ·obtain⟨jy,gh⟩:=bC hl;apply gO;apply XR.mono fun _ bJ=>jV (k:=kp a b c) (n:=n) og .h1 bJ;refine cq (UR b.kb (0+jG n) _ sig) .h1 ?_;apply XR.mono fun _ bJ=>mB (k:=kp a b c) (n:=n) og (pz 3) bJ;try unfold cU
  rw[Ab];try unfold cU
  rw[<-va a n ((a.u n).bx.send sig).2,<-yH a n ((a.u n).bx.send sig).2];refine xj 17 (yK (a.jh n ((a.u n).bx.send sig).2) b c N T (hw.jh jy (o7 _ _ (hw.bx n))) (hc.box _ _) hT n jy o (by rw[fX];exact gh) (hx.box _)) (pz 18) rfl ?_;rintro _ _ ⟨c1,gm,rfl⟩;apply gO;refine cS rfl (ad (pz 17) rfl ?_);have e:a.vP n sig o=(a.jh n ((a.u n).bx.send sig).2).cK n o:=if_pos hl;grind
 ·apply gO;refine GI rfl (ad (pz 17) rfl ?_);have e:a.vP n sig o=a:=if_neg fun q=>hl q;grind
end Go.X.Kn

namespace Go.X.Kn
open Go Go.X Go.X.Sg Go.X.Tr
variable{x:BS}{T n v:Int}{u:Int->PA}
theorem KA.Hx.same{a a':KA}(h:a.Hx n)(hu:∀ p,(a'.u p).st=(a.u p).st/\(a'.u p).bx=(a.u p).bx)(hs:a'.s=a.s):a'.Hx n:=fun p h0 h1 h2 h3=>by
 grind [KA.Hx]
theorem KA.R0.same{a a':KA}(h:a.R0)(hu:(a'.u 0).st=(a.u 0).st)(hs:a'.s=a.s):a'.R0:=⟨by rw[hu];exact h.st,by rw[hs];exact h.loc,by rw[hs];exact h.bR⟩
theorem aaw{a:KA}(w:a.Wk T)(r:a.R0):a.head 0=0:=by grind [KA.Wk.Kp,KA.R0.st,KA.R0.loc,KA.R0.bR]
def KA.Wk.VD{a:KA}(w:a.Wk T)(r:a.R0)(hd:a.aO 0=1)(hl:(a.u n).st=1)(hx:a.Hx n)(o:Bool)(ho:o=true->n≠0):(a.cK n o).Ok T:=by
 by_cases he:a.HN n o
 ·rw[qd he];refine w.DX r hd (fun e=> ?_) hl hx _;subst e;rcases he.2 with q | q;all_goals grind [aaw]
 ·rw[yJ he];refine⟨w,fun p h0 h1 h2 h3=> ?_,r,hd⟩;by_cases e:p=n
  ·subst e;by_cases f:(a.u p).bx.first 0=0
   ·omega
   ·right;exact KJ w r og (Decidable.byContradiction fun q=>he ⟨f,.inr q⟩)
  grind [KA.Hx]
theorem KA.R0.box{a:KA}(h:a.R0)(n:Int)(x:BS):(a.jh n x).R0:=h.same (fX _ _ _ _) rfl
def KA.Ok.M4{a:KA}(h:a.Ok T)(c:a.aI n=0)(hx:x.dY 0=false)(o:Bool)(ho:o=true->n≠0):((a.jh n x).cK n o).Ok T:=by
 obtain⟨hr,hl⟩:=bX c;exact(h.wk.jh hr hx).VD (h.r0.box _ _) h.d0 (by rw[fX];exact hl) ((h.hx.any n).box _) o ho
def KA.Ok.ah6{a:KA}(h:a.Ok T)(c:a.aI n=0)(hx:x.dY 0=false)(hf:x.first 0=(a.u n).bx.first 0):(a.jh n x).Ok T:=by
 obtain⟨hr,hl⟩:=bX c;refine⟨h.wk.jh hr hx,fun p h0 h1 h2 h3=> ?_,h.r0.box _ _,h.d0⟩;rw[fX]at h3;by_cases e:p=n
 ·subst e;rw[BP];show x.first 0=0\/_
  rw[hf];exact h.hx p h0 h1 og h3
 ·rw[u9 _ _ e];exact h.hx p h0 h1 og h3
theorem KA.Ok.send{a:KA}(h:a.Ok T)(n sig:Int)(o:Bool)(ho:o=true->n≠0):(a.vP n sig o).Ok T:=by
 unfold KA.vP;split
 ·rename_i c;exact h.M4 c (o7 _ _ (h.wk.bx n)) o ho
 omega
def r9(x:BS)(n:Int)(on:Bool)(h:x.dY 0=false):(x.dP n on).2.dY 0=false:=by
 unfold BS.dP;split;all_goals grind
def Aq(x:BS)(n v:Int)(h:x.dY 0=false):(x.set n v).2.dY 0=false:=by
 unfold BS.set;split
 ·rename_i c;have:=(gr n).1 c.1;split
  ·omega
  ·show(if _ then _ else _:BS).dY 0=false;split;all_goals grind [ai]
 omega
def M5(x:BS)(h:x.dY 0=false):x.take.2.dY 0=false:=by
 show ae x.dY (x.first 2) false 0=false;grind [au,ai]
theorem Ri(h:x.first v≠0):x.kg (x.first v)=v:=by
 unfold BS.first at h ⊢
 grind [dv]
def M6(x:BS)(h:x.dY 0=false):x.take.2.first 0=x.first 0:=by
 refine A5 fun k k0 k1=> ?_;show(ae x.dY (x.first 2) false k&&(!x.bj k&&decide (x.kg k=0)))=_;grind [au,Ri,ai]
def KA.mD(a:KA)(n q:Int):Int×Int:=
 if a.aI n≠0 then(0,a.aI n)else if(a.s.find (a.s.bI n).1 q).2≠0 then(0,(a.s.find (a.s.bI n).1 q).2)else
 if(a.u (a.s.find (a.s.bI n).1 q).1).st=1 then((a.s.find (a.s.bI n).1 q).1,0)else(0,8)
def KA.uo(a:KA)(n c:Int):Int:=if a.aI n≠0 then a.aI n else if c<0\/255<c then 1 else if n=0 then 8 else 0
def KA.ni(a:KA)(n co:Int):KA:=if a.uo n co=0 then a.cR n co else a
def DY{a:KA}{c:Int}(h:a.uo n c=0):a.aI n=0/\n≠0:=by
 grind [KA.uo]
theorem KA.Ok.ni{a:KA}{T:Int}(h:a.Ok T)(n co:Int):(a.ni n co).Ok T:=by
 unfold KA.ni;split
 ·rename_i c;obtain⟨h1,h2⟩:=DY c;exact h.wk.DX h.r0 h.d0 h2 (bX h1).2 (h.hx.any n) co
 omega
def KA.vQ(a:KA)(n sig:Int)(on:Bool):Int:=if a.aI n≠0 then a.aI n else((a.u n).bx.dP sig on).1
def KA.ml(a:KA)(n sig:Int)(on:Bool):KA:=if a.aI n≠0 then a else if((a.u n).bx.dP sig on).1=0 then(a.jh n ((a.u n).bx.dP sig on).2).cK n false else a
theorem KA.Ok.dP{a:KA}(h:a.Ok T)(n sig:Int)(on:Bool):(a.ml n sig on).Ok T:=by
 unfold KA.ml;split
 ·omega
 ·rename_i c;split
  ·exact h.M4 og (r9 _ _ _ (h.wk.bx n)) false sq
  omega
def KA.VE(a:KA)(n sig v:Int):Int:=if a.aI n≠0 then a.aI n else((a.u n).bx.set sig v).1
def KA.DZ(a:KA)(n sig v:Int):KA:=if a.aI n≠0 then a else if((a.u n).bx.set sig v).1=0 then(a.jh n ((a.u n).bx.set sig v).2).cK n false else a
def KA.Ok.kg{a:KA}(h:a.Ok T)(n sig v:Int):(a.DZ n sig v).Ok T:=by
 unfold KA.DZ;split
 ·omega
 ·rename_i c;split
  ·exact h.M4 og (Aq _ _ _ (h.wk.bx n)) false sq
  omega
theorem KK{on:Bool}(h:(x.dP n on).1≠0):(x.dP n on).2=x:=by
 unfold BS.dP at h ⊢;grind
theorem Y6(h:(x.set n v).1≠0):(x.set n v).2=x:=by
 unfold BS.set at h ⊢;grind
def KA.D0(a:KA)(n:Int):Int:=if a.aI n≠0 then a.aI n else if(a.u n).bx.take.1=0 then 2 else 0
def KA.D1(a:KA)(n:Int):Int:=if a.aI n≠0 then 0 else(a.u n).bx.take.1
def KA.qX(a:KA)(n:Int):KA:=if a.aI n≠0 then a else a.jh n (a.u n).bx.take.2
theorem KA.Ok.take{a:KA}(h:a.Ok T)(n:Int):(a.qX n).Ok T:=by
 unfold KA.qX;split
 ·exact h
 ·exact h.ah6 og (M5 _ (h.wk.bx n)) (M6 _ (h.wk.bx n))
def KA.mR(a:KA)(n fS sig:Int):Int:=if(a.mD n fS).2≠0 then(a.mD n fS).2 else if sig<1\/8<sig then 1 else if fS=1 then 8 else 0
def KA.kt(a:KA)(n fS sig:Int):KA:=if a.mR n fS sig=0 then a.vP (a.mD n fS).1 sig (decide ((a.s.bI (a.mD n fS).1).1≠(a.s.bI n).1))else a
def D2{a:KA}{q:Int}(h:(a.mD n q).2=0):a.aI n=0/\(a.s.find (a.s.bI n).1 q).2=0/\(a.mD n q).1=(a.s.find (a.s.bI n).1 q).1/\(a.u (a.mD n q).1).st=1:=by
 grind [KA.mD]
def KA.Ok.wU{a:KA}(h:a.Ok T)(n fS sig:Int):(a.kt n fS sig).Ok T:=by
 unfold KA.kt;split
 ·rename_i c;refine h.send _ _ _ fun _ e=> ?_;unfold KA.mR at c;split at c
  ·omega
  ·rename_i c1;split at c
   ·omega
   ·split at c
    ·omega
    ·rename_i c2;obtain⟨s1,s2,s3,_⟩:=D2 (show(a.mD n fS).2=0 by omega);obtain⟨_,f2,_⟩:=pG h.wk.sI s2;rw[<-s3,e]at f2;have hz:=SS.Inv.in0 h.wk.sI h.r0.loc h.d0 f2;rw[hz]at f2;exact c2 (h.wk.sI.inj 0 1 fS (by rw[h.r0.bR];omega) (by rw[f2,h.r0.bR]))
 omega
def KA.Wk.io{a:KA}{T':Int}(h:a.Wk T)(hT:T<=T')(QN:T'<=1000000){O:Tr.OS}{P:Tr.PS}(sW:∀ p,(u p).st=(a.u p).st)(hbx:∀ p,(u p).bx=(a.u p).bx)(II:∀ p,(p<0\/20<=p)->u p=PA.nil)(YY:∀ p i,0<=(u p).fd i/\(u p).fd i<=24)(hO:O.Inv T')(hP:P.Inv T'):({a with u:=u,O:=O,P:=P} :KA).Wk T' where
 T0:=⟨by have:=h.T0;omega,QN⟩
 gI:=h.gI
 gS:=h.gS.mono og
 sI:=h.sI
 sys:=h.sys
 tY:=fun m a0 a1 q=>h.tY m a0 a1 (by rw[<-sW];exact q)
 PI:=hP
 OI:=hO
 lc:=fun m a0 a1=>by rw[show(({a with u:=u,O:=O,P:=P} :KA).u m).st=(a.u m).st from sW m];exact h.lc m a0 a1
 st:=fun m=>by rw[show(({a with u:=u,O:=O,P:=P} :KA).u m).st=(a.u m).st from sW m];exact h.st m
 out:=II
 fd:=YY
 bx:=fun m=>by rw[show(({a with u:=u,O:=O,P:=P} :KA).u m).bx=(a.u m).bx from hbx m];exact h.bx m
def KA.Ok.io{a:KA}{T T':Int}(h:a.Ok T)(hT:T<=T')(QN:T'<=1000000){u:Int->PA}{O:Tr.OS}{P:Tr.PS}(sW:∀ p,(u p).st=(a.u p).st)(hbx:∀ p,(u p).bx=(a.u p).bx)(II:∀ p,(p<0\/20<=p)->u p=PA.nil)(YY:∀ p i,0<=(u p).fd i/\(u p).fd i<=24)(hO:O.Inv T')(hP:P.Inv T'):({a with u:=u,O:=O,P:=P} :KA).Ok T':=
 ⟨h.wk.io hT QN sW hbx II YY hO hP,h.hx.same (fun p=>⟨sW p,hbx p⟩) rfl,h.r0.same (sW 0) rfl,h.d0⟩
theorem KA.Ok.up{a:KA}{T T':Int}(h:a.Ok T)(hT:T<=T')(QN:T'<=1000000):a.Ok T':=⟨h.wk.up hT QN,h.hx,h.r0,h.d0⟩
theorem KA.Ok.io0{a:KA}{T':Int}(h:a.Ok T)(hT:T<=T')(QN:T'<=1000000){O:Tr.OS}{P:Tr.PS}(hO:O.Inv T')(hP:P.Inv T'):({a with O:=O,P:=P} :KA).Ok T':=
 h.io hT QN (fun _=>rfl) (fun _=>rfl) h.wk.out h.wk.fd hO hP
def BW(u:Int->PA)(n i v:Int):Int->PA:=ae u n {u n with fd:=ae (u n).fd i v}
theorem jz(u:Int->PA)(n i v p:Int):(BW u n i v p).st=(u p).st/\(BW u n i v p).bx=(u p).bx:=by
 unfold BW;grind [au,ai]
def yL(hn:0<=n/\n<20)(i v:Int)(h:∀ p,(p<0\/20<=p)->u p=PA.nil):∀ p,(p<0\/20<=p)->BW u n i v p=PA.nil:=fun p hp=>by
 unfold BW;rw[ai _ _ og];exact h p hp
def D3{i:Int}(hv:0<=v/\v<=24)(h:∀ p j,0<=(u p).fd j/\(u p).fd j<=24):∀ p j,0<=(BW u n i v p).fd j/\(BW u n i v p).fd j<=24:=fun p j=>by
 unfold BW;by_cases e:p=n
 ·subst e;rw[au];grind [au,ai]
 grind [ai]
theorem D4(a:KA)(b:KZ)(c:KC)(n i v:Int)(O:Tr.OS)(P:Tr.PS):(kp a b c).put n {(kp a b c).u n with fd:=ae ((kp a b c).u n).fd i v} =kp {a with u:=BW a.u n i v,O:=O,P:=P} b c:=(HK a b c n {a.u n with fd:=ae (a.u n).fd i v} _ rfl).trans rfl
theorem H7(a:KA)(n i v:Int)(O:Tr.OS)(P:Tr.PS):iR {a with u:=BW a.u n i v,O:=O,P:=P} =iR a:=by grind [jz,iR]
def KA.eN(a:KA)(n i:Int):Int:=if a.aI n≠0 then a.aI n else if i<0\/6<=i then 1 else if(a.u n).fd i=0 then 2 else 0
def KA.dt(a:KA)(n i:Int):Int:=if a.eN n i=0 then(a.u n).fd i-1 else 0
theorem KA.rZ{a:KA}{i:Int}(h:a.eN n i=0):(0<=n/\n<20)/\(a.u n).st=1/\(0<=i/\i<6)/\(a.u n).fd i≠0/\a.dt n i=(a.u n).fd i-1:=by
 have hv:a.dt n i=(a.u n).fd i-1:=by unfold KA.dt;rw[if_pos h]
 unfold KA.eN at h;split at h
 ·omega
 ·split at h
  ·omega
  ·split at h
   ·omega
   ·have:=bX (a:=a) (n:=n) og;omega
def KA.jY(a:KA)(F:Tr.FF)(n i:Int):Int:=if a.eN n i≠0 then a.eN n i else Tr.jY F a.P a.O (a.dt n i)
def KA.sa(a:KA)(n i:Int):KA:=if a.eN n i≠0 then a else {a with u:=BW a.u n i 0,O:=kB a.O (a.dt n i),P:=kA a.P a.O (a.dt n i)}
def KA.Ok.close{a:KA}(h:a.Ok T)(n i:Int):(a.sa n i).Ok T:=by
 unfold KA.sa;split
 ·exact h
 ·rename_i c;obtain⟨hn,_,_,_,_⟩:=KA.rZ (show a.eN n i=0 by omega);exact h.io (Int.le_refl _) h.wk.T0.2 (fun p=>(jz _ _ _ _ p).1) (fun p=>(jz _ _ _ _ p).2) (yL hn _ _ h.wk.out) (D3 og h.wk.fd) (OS.Inv.tZ h.wk.OI _) (PS.tZ h.wk.PI _ _)
def KA.mK(a:KA)(n:Int):Int:=jE (a.u n).fd 0
def vj(f:Int->Int)(x:Int)(h:¬jE f x<0:=by omega):0<=jE f x/\jE f x<6/\x<=jE f x/\f (jE f x)=0:=by
 grind [jE,dv]
def KA.KL(a:KA)(n i:Int):Int:=if a.eN n i≠0 then a.eN n i else if a.mK n<0 then 4 else a.O.is (a.dt n i)
def KA.KM(a:KA)(n i:Int):Int:=if a.eN n i≠0\/a.mK n<0 then 0 else a.mK n
def KA.Br(a:KA)(n i:Int):KA:=if a.eN n i≠0\/a.mK n<0 then a else {a with u:=BW a.u n (a.mK n) (a.dt n i+1),O:=p8 a.O (a.dt n i),P:=a.P}
def KA.Ok.dup{a:KA}(h:a.Ok T)(hT:T<=900000)(n i:Int):(a.Br n i).Ok (T+1):=by
 unfold KA.Br;split
 ·grind [KA.Ok.up]
 ·rename_i c;obtain⟨hn,_,_,h4,h5⟩:=KA.rZ (show a.eN n i=0 by omega);have:=h.wk.fd n i;exact h.io og og (fun p=>(jz _ _ _ _ p).1) (fun p=>(jz _ _ _ _ p).2) (yL hn _ _ h.wk.out) (D3 og h.wk.fd) (h.wk.OI.aai _) (h.wk.PI.mono og)
def KA.D5(a:KA)(n:Int):Int:=jE (a.u n).fd (a.mK n+1)
def KA.uq(a:KA)(n:Int):Int:=if a.aI n≠0 then a.aI n else if a.mK n<0\/a.D5 n<0 then 4 else kD a.P a.O
def KA.yM(a:KA)(n:Int):Int:=if a.uq n=0 then a.mK n else 0
def KA.yN(a:KA)(n:Int):Int:=if a.uq n=0 then a.D5 n else 0
def KA.qY(a:KA)(n:Int):KA:=if a.aI n≠0\/a.mK n<0\/a.D5 n<0 then a else
 if kD a.P a.O=0 then {a with u:=BW (BW a.u n (a.mK n) (nH a.P a.O+1)) n (a.D5 n) (o3 a.P a.O+1),O:=nG a.P a.O,P:=nF a.P a.O} else {a with O:=nG a.P a.O,P:=nF a.P a.O}
def Gm(P:Tr.PS)(O:Tr.OS):(0<=nH P O/\nH P O<24)/\0<=o3 P O/\o3 P O<24:=by
 unfold nH o3;by_cases h:kD P O=0
 ·rw[if_pos h,if_pos h];unfold kD at h;split at h
  ·omega
  ·rename_i c;have h1:=Tr.OS.nc (s:=O) fun q=>c (.inl q);have h2:=Tr.OS.nc (s:=O.lay O.first 2 0 false) fun q=>c (.inr q);exact⟨⟨h1.1,h1.2.1⟩,h2.1,h2.2.1⟩
 omega
def KA.Ok.Mu{a:KA}{T:Int}(h:a.Ok T)(hT:T<=900000)(VF:1<=T)(n:Int):(a.qY n).Ok (T+1):=by
 have h2:=Gm a.P a.O;have hO:=h.wk.OI.Mu VF a.P;have hP:=Mw h.wk.PI og a.O;unfold KA.qY;split
 ·grind [KA.Ok.up]
 ·rename_i c;have hn:=(bX (show a.aI n=0 by omega)).1;split
  ·exact h.io og og (fun p=>((jz _ _ _ _ p).1).trans (jz _ _ _ _ p).1) (fun p=>((jz _ _ _ _ p).2).trans (jz _ _ _ _ p).2) (yL hn _ _ (yL hn _ _ h.wk.out)) (D3 og (D3 og h.wk.fd)) hO hP
  grind [KA.Ok.io0]
def KA.lQ(a:KA)(F:Tr.FF)(n i m:Int):Int:=if a.eN n i≠0 then a.eN n i else tT F a.P a.O (a.dt n i) m
def KA.ky(a:KA)(F:Tr.FF)(n i m:Int):ByteArray:=if a.eN n i≠0 then⟨#[]⟩else tU F a.P a.O (a.dt n i) m
def KA.yO(a:KA)(F:Tr.FF)(n i m:Int):KA:=if a.eN n i≠0 then a else {a with O:=qa F a.O (a.dt n i) m,P:=p9 a.P a.O (a.dt n i) m}
theorem KA.Ok.mZ{a:KA}{T:Int}(h:a.Ok T)(hT:T<=900000){F:Tr.FF}(hF:F.Sh)(n i m:Int):(a.yO F n i m).Ok (T+1):=by
 unfold KA.yO;split
 ·grind [KA.Ok.up]
 ·exact h.io0 og og (h.wk.OI.mZ hF _ _) (Mx h.wk.PI _ _ _)
def KA.wV(a:KA)(F:Tr.FF)(n i:Int)(x:ByteArray):KA:= {a with O:=jg F a.O (a.dt n i) x,P:=lT a.P a.O (a.dt n i) x}
def KA.eW(a:KA)(F:Tr.FF)(n i:Int)(x:ByteArray):Int:=if a.eN n i≠0 then a.eN n i else iG F a.P a.O (a.dt n i) x
def KA.Ar(a:KA)(F:Tr.FF)(n i:Int)(x:ByteArray):Int:=if a.eN n i≠0 then 0 else jf F a.P a.O (a.dt n i) x
def KA.nJ(a:KA)(F:Tr.FF)(n i:Int)(x:ByteArray):KA:=if a.eN n i≠0 then a else if iG F a.P a.O (a.dt n i) x=12 then(a.wV F n i x).vP n 2 false else a.wV F n i x
theorem KA.Ok.D6{a:KA}(h:a.Ok T)(hT:T<=900000)(F:Tr.FF)(n i:Int)(x:ByteArray):(a.wV F n i x).Ok (T+1):=
 h.io0 og og (h.wk.OI.abZ F _ _) (Kh h.wk.PI _ _ _)
theorem KA.Ok.cg{a:KA}(h:a.Ok T)(hT:T<=900000)(F:Tr.FF)(n i:Int)(x:ByteArray):(a.nJ F n i x).Ok (T+1):=by
 unfold KA.nJ;split
 ·grind [KA.Ok.up]
 ·split
  ·exact(h.D6 hT F n i x).send n 2 false sq
  grind [KA.Ok.D6]
def KA.nf(a:KA)(n i z:Int):Int:=if a.eN n i≠0 then a.eN n i else Tr.nf a.O (a.dt n i) z
def KA.vR(a:KA)(n i z:Int):KA:=if a.eN n i≠0 then a else {a with O:=vM a.O (a.dt n i) z,P:=a.P}
def KA.Ok.Mv{a:KA}{T:Int}(h:a.Ok T)(hT:T<=900000)(n i z:Int):(a.vR n i z).Ok (T+1):=by
 unfold KA.vR;split
 ·grind [KA.Ok.up]
 ·exact h.io0 og og (h.wk.OI.Mv _ _) (h.wk.PI.mono og)
end Go.X.Kn
