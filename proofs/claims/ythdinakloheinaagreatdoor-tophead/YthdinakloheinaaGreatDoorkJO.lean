import Derived.Test.YthdinakloheinaaGreatDoorkJB2
set_option linter.all false
namespace Go.X.Kn
open Go Go.Proofs Go.X Go.X.Gr Go.X.Sp Go.X.Tr
set_option maxRecDepth 20000
set_option maxHeartbeats 4000000
def Hu(a:KA)(b:KZ)(c:KC)(N:Nat)(T:Int)(hw:a.Wk T)(hc:cR a c N T)(hT:T<=900000)(n:Int)(hn:0<=n/\n<20)(hs:(a.u n).st≠0):Spec Tryz.prog 64 [aA b.kb 0 0,iI n] (df a b c []) (fun v H1=>H1=(df (a.eI n) b c [])):=by
 refine Spec.go 28 [0,1] [] Tryz.func64 fun W=> ?_;refine rq [0,1,2,3,4,5,6,7,8,9,10,11] mixed (ld .aa (gp _) (sd (ld .aa (dI _) ?_)));refine cq (o6 _ _ a.g hw.gI.ok _ _ _ (1000*T) (by have:=hw.T0;omega) hw.gS) (pk [1]) ?_;refine ld (.ao .aa) (aD.rR _) ?_;refine cq (Yf _ _ a.s a.aL hw.sI.D n (fun a1 b1 c1=>⟨(hw.sI.loc n).2,hw.sI.at_ n a1 b1 c1⟩) fun a1 m q e=>by have h9:=hw.sI.mem m q n a1 e;exact⟨h9.2.2.2.2,og,h9.2.2.1⟩) (pk [2]) ?_;refine XO.v (V.build (vs:= #[]) rfl (v:=.agg PU.nil.cQ) fun _=>kq) rfl (gO ?_);refine sd (fW (.t2 .aa) (aD.CC _ og PU.nil) rfl ⟨rfl,rfl⟩ (XR.mono (fun _ bK=>kU (z:=n.toNat) (fG hn hs) (pk [7,7]) bK) ?_));refine cS rfl (ai (pk [6,5,4,4,4,4,4,2,2,2,2,2,2,2,2,2,2]) rfl ?_);try unfold df
 rw[Yb,Uk a hn,Uj];rfl
def YH(a:KA)(b:KZ)(c:KC)(N:Nat)(T:Int)(hw:a.Wk T)(hc:cR a c N T)(hT:T<=900000)(z:Int)(hd:(a.s.drop z).1=0)(hz:0<=z/\z<6)(hh:a.s.aa z=true)(hs:(a.s.drop z).2= {a.s with aa:=ad a.s.aa z false,ax:=ad a.s.ax z 0}):Spec Tryz.prog 65 [aA b.kb 0 0,iI z] (df a b c []) (fun v H1=>∃ c1:KC,cR (a.dt z) c1 N T/\H1=(df (a.dt z) b c1 [])):=by
 have iG:=hc.tb z hz.1 hz.2 hh;refine Spec.go 23 [0,1,10] [] Tryz.func65 fun W=> ?_;refine ld .aa (aD.rR _) ?_;refine cq (Up _ _ a.s z) (pk [2]) ?_;refine V0 rfl (hd) (XR.mono (fun _ bK=>ia (z:=z.toNat) (ej hz hh) (pk [15,15]) bK) ?_);refine sd (ld (.t5 .aa) (r8 _ hz (Um a b c hh)) ?_);refine ca (YE _ _ _ _ _ _ _ _ _ iG.rv iG.mc iG.len c.F c.dF T hc.F hT) (pk [0,0,11,11,11]) ?_;rintro _ _ ⟨rfl,F1,My,Og,KT,Hm,rfl⟩;refine gO ?_;refine sd (st (.t8 .aa) (tG _ hz _) rfl (cS rfl (ai (pk [8,8,7,7,7,7,7,7,7,2,2,2,4,4,4,2,2]) rfl ?_)));try dsimp only[aK,aJ,aG,aR]
 refine⟨{c with F:=F1},⟨hc.qO,hc.qR,(by show F1.toFF.Ok _ _;rw[My];exact FF.Ok.X7 hc.F _ _),KT.trans hc.rp,Hm.trans hc.rc,(by show F1.toFF.roots=_;rw[My,Ba];exact hc.rl),fun y h0 h1 h2=>hc.tb y h0 h1 (ya h2),hc.tk⟩,?_⟩;try unfold df
 rw[Yc a b c hs,Ul hz hs];rfl
def YI(a:KA)(b:KZ)(c:KC)(N:Nat)(T:Int)(hw:a.Wk T)(hc:cR a c N T)(hT:T<=900000)(z:Int)(hd:(a.s.drop z).1≠0)(hs:(a.s.drop z).2=a.s):Spec Tryz.prog 65 [aA b.kb 0 0,iI z] (df a b c []) (fun v H1=>∃ c1:KC,cR (a.dt z) c1 N T/\H1=(df (a.dt z) b c1 [])):=by
 refine Spec.go 23 [0,1,10] [] Tryz.func65 fun W=> ?_;refine ld .aa (aD.rR _) ?_;refine cq (Up _ _ a.s z) (pk [2]) ?_;refine AZ rfl (hd) (cS rfl (ai (pk [1,1,0,0,0,0,0,0,0,0,0,0,0,0,0,0,0]) rfl ?_));have e:a.dt z=a:=by unfold KA.dt;rw[hs]
 rw[e,hs];exact⟨c,hc,rfl⟩
def Oh(a:KA)(b:KZ)(c:KC)(N:Nat)(T:Int)(hw:a.Wk T)(hc:cR a c N T)(hT:T<=900000)(z:Int):Spec Tryz.prog 65 [aA b.kb 0 0,iI z] (df a b c []) (fun v H1=>∃ c1:KC,cR (a.dt z) c1 N T/\H1=(df (a.dt z) b c1 [])):=by
 rcases SS.r6 a.s z with⟨hd,hs⟩ | ⟨hd,hz,hz0,hh,hs,_,_⟩
 ·exact YI a b c N T hw hc hT z hd hs
 ·exact YH a b c N T hw hc hT z hd hz hh hs
open Go.X.Fa Go.X.Vm
set_option maxHeartbeats 16000000 in
def Va(a:KA)(b:KZ)(c:KC)(N:Nat)(T:Int)(hw:a.Wk T)(hc:cR a c N T)(hT:T<=900000)(z h:Int):Spec Tryz.prog 130 [aA b.kb 0 0,iI z,iI h] (df a b c []) (fun v H1=>∃ c1:KC,cR (a.dG z h) c1 N T/\H1=(df (a.dG z h) b c1 [])):=by
 refine Spec.go 62 [0,2,6,9,11,21,22,23,24,29,37,45,46,51,52,53,54] [] Tryz.func130 fun W=> ?_;refine ld .aa (aD.rR _) ?_;refine ca (Qq _ _ a.s z) (pk [2]) ?_;rintro _ _ ⟨p0,QC,rfl,rfl⟩;have hlen:(a.s.mem z).1.length<=21:=Sp.SS.Xh _ _;refine gO ?_;refine lp (σ:=Int×KA×KC) (fun x=>((a.s.mem z).1.length-x.1).toNat) (fun x=>(0<=x.1/\x.1<=(a.s.mem z).1.length)/\x.2.1=(((a.s.mem z).1.take x.1.toNat).foldl (KA.dN h) a)/\x.2.1.Wk T/\cR x.2.1 x.2.2 N T) (fun x=>[(23,iI x.1),(0,aA b.kb 0 0),(2,iI h),(21,.slice p0 (a.s.mem z).1.length QC),(22,iI (a.s.mem z).1.length)]) (fun x=>XM W (ck (df a b c [])) [dE p0 QC 3 (a.s.mem z).1,.cells b.kb 0 453 (aD (kp x.2.1 b x.2.2)),.cells b.gb 0 60 (cb x.2.1.g),.cells b.sb 0 158 (Sp.aO x.2.1.s),.cells b.qb 0 2281 (aP x.2.2.q),.bk cP (SC.dZ 254 x.2.2.q),.cells b.bb 0 577 (dM b.vp x.2.1.v.iD x.2.1.v.rf),.cells b.vp 0 71 (Vm.bO x.2.1.v.bb.fv),.eb (ka x.2.1) x.2.2.mb 34 (cN b.bb x.2.1.f x.2.2.pp x.2.2.cc),.bk (ka x.2.1) (rN 171 x.2.1.f x.2.2.pp x.2.2.cc),.cells b.tb 0 321 (aC x.2.2.F),.bk av (FC.bu 9 x.2.2.F),.bk av (FC.bA 3 x.2.2.F),dE x.2.2.rp x.2.2.rc 3 x.2.2.rl,.cells b.pi 0 24 (Tr.bO x.2.1.P),.cells b.ob 0 122 (bj b.tb b.pi x.2.1.O),.eb (mh x.2.1) (fun z=>(x.2.2.t z).b) 4 (cT b.tb x.2.2.t),.bk (mh x.2.1) (rT 168 x.2.2.t)]) ((0,a,c)) ?_ S5 (xq (pk [0,1,1,0,0,0,0,0,0,0,0,0,0,0,0,0,0,0])) ?_
 ·simp_all
 intro x hx;obtain⟨hi,hga,hgw,hcx⟩:=hx;refine gC ?_;refine cd rfl ?_ ?_<;>intro h1
 ·refine bL .aa og ?_;intro g1 h2;subst h2;refine sd (Ak .aa (ints_at) ?_);have hm9:=hw.Mg z (Vm.rH (l:=(a.s.mem z).1) (i:=x.1) og);have hm:=hm9.1;have hms:(x.2.1.u (il (a.s.mem z).1 x.1)).st≠0:=by rw[hga,FM a h (Un (rZ hw.sI z) og)];exact hm9.2
  refine cd rfl ?_ ?_<;>intro h3
  ·have qh:KA.dN h x.2.1 (il (a.s.mem z).1 x.1)=x.2.1:=if_pos h3;refine sd (ag ((x.1+1,x.2.1,x.2.2)) ?_ ?_ S5 (xq (pz 18)));all_goals grind [uS]
  ·have hnh:=h3;refine sd (ld (.ao .aa) (fS _) ?_);refine cd rfl ?_ ?_<;>intro h4
   ·have qh:KA.dN h x.2.1 (il (a.s.mem z).1 x.1)=(x.2.1.cm (il (a.s.mem z).1 x.1) 0).eI (il (a.s.mem z).1 x.1):=by unfold KA.dN;rw[if_neg hnh,if_pos (show(x.2.1.u (il (a.s.mem z).1 x.1)).st=1 from h4)]
    refine ca (Mx x.2.1 b x.2.2 N T hgw hcx hT (il (a.s.mem z).1 x.1) 0 aq) (pk [1,1,1,1,1,1,1,1,1,1,1,1,1,1,1,1,1]) ?_;rintro _ _ ⟨c1,ie,rfl⟩;refine gO ?_;refine ca (Hu (x.2.1.cm (il (a.s.mem z).1 x.1) 0) b c1 N T (hgw.cm hm aq 0) ie hT (il (a.s.mem z).1 x.1) hm (by rw[nY];decide)) (pz 17) ?_;rintro _ _ rfl;refine gO ?_;refine sd (ag ((x.1+1,(x.2.1.cm (il (a.s.mem z).1 x.1) 0).eI (il (a.s.mem z).1 x.1),c1)) ?_ ?_ S5 (xq (pk [17,0,0,0,0,0,0,0,0,0,0,0,0,0,0,0,0,0])))
    ·omega
    ·exact⟨(by show 0<=x.1+1/\x.1+1<=_;omega),(by rw[uS og,Mf,<-hga,qh]),(hgw.cm hm aq 0).eI hm (by rw[nY];decide),ie.Uo (by rw[nY];decide)⟩
   ·have hn1:(x.2.1.u (il (a.s.mem z).1 x.1)).st≠1:=h4;have qh:KA.dN h x.2.1 (il (a.s.mem z).1 x.1)=x.2.1.eI (il (a.s.mem z).1 x.1):=by unfold KA.dN;rw[if_neg hnh,if_neg hn1]
    refine ca (Hu x.2.1 b x.2.2 N T hgw hcx hT (il (a.s.mem z).1 x.1) hm aq) (pk [1,1,1,1,1,1,1,1,1,1,1,1,1,1,1,1,1]) ?_;rintro _ _ rfl;refine gO ?_;refine sd (ag ((x.1+1,x.2.1.eI (il (a.s.mem z).1 x.1),x.2.2)) ?_ ?_ S5 (xq (pk [17,0,0,0,0,0,0,0,0,0,0,0,0,0,0,0,0,0])));all_goals grind [uS,KA.Wk.eI,cR.Uo]
 ·refine lp (σ:=Int×KA×KC) (fun x=>(4-x.1).toNat) (fun x=>(0<=x.1/\x.1<=4)/\x.2.1=((a.cU z h).de x.1.toNat)/\x.2.1.Wk T/\cR x.2.1 x.2.2 N T) (fun x=>[(45,iI x.1),(0,aA b.kb 0 0)]) (fun x=>XM W (ck (df a b c [])) (df x.2.1 b x.2.2 [])) ((0,x.2.1,x.2.2)) ?_ S2 (xq (pk [1,1,1,1,1,1,1,1,1,1,1,1,1,1,1,1,1])) ?_
  ·exact⟨sq,(by rw[hga,List.take_of_length_le og];rfl),hgw,hcx⟩
  intro x hx;obtain⟨hi,hga,hgw,hcx⟩:=hx;refine gC ?_;refine cd rfl ?_ ?_<;>intro h5
  ·refine ld .aa (aD.rR _) ?_;refine ca (ZS _ _ x.2.1.s) (pk [2]) ?_;rintro _ _ ⟨p1,afj,rfl,rfl⟩;have ajo:=Sp.lq x.2.1.s.aa 6;refine gO ?_;refine lp (σ:=Int×KA×KC) (fun y=>((Sp.eM x.2.1.s.aa 6).length-y.1).toNat) (fun y=>(0<=y.1/\y.1<=(Sp.eM x.2.1.s.aa 6).length)/\y.2.1=(((Sp.eM x.2.1.s.aa 6).take y.1.toNat).foldl KA.dt x.2.1)/\y.2.1.Wk T/\cR y.2.1 y.2.2 N T) (fun y=>[(53,iI y.1),(0,aA b.kb 0 0),(45,iI x.1),(51,.slice p1 (Sp.eM x.2.1.s.aa 6).length afj),(52,iI (Sp.eM x.2.1.s.aa 6).length)]) (fun y=>XM W (ck (df a b c [])) [dE p1 afj 3 (Sp.eM x.2.1.s.aa 6),.cells b.kb 0 453 (aD (kp y.2.1 b y.2.2)),.cells b.gb 0 60 (cb y.2.1.g),.cells b.sb 0 158 (Sp.aO y.2.1.s),.cells b.qb 0 2281 (aP y.2.2.q),.bk cP (SC.dZ 254 y.2.2.q),.cells b.bb 0 577 (dM b.vp y.2.1.v.iD y.2.1.v.rf),.cells b.vp 0 71 (Vm.bO y.2.1.v.bb.fv),.eb (ka y.2.1) y.2.2.mb 34 (cN b.bb y.2.1.f y.2.2.pp y.2.2.cc),.bk (ka y.2.1) (rN 171 y.2.1.f y.2.2.pp y.2.2.cc),.cells b.tb 0 321 (aC y.2.2.F),.bk av (FC.bu 9 y.2.2.F),.bk av (FC.bA 3 y.2.2.F),dE y.2.2.rp y.2.2.rc 3 y.2.2.rl,.cells b.pi 0 24 (Tr.bO y.2.1.P),.cells b.ob 0 122 (bj b.tb b.pi y.2.1.O),.eb (mh y.2.1) (fun z=>(y.2.2.t z).b) 4 (cT b.tb y.2.2.t),.bk (mh y.2.1) (rT 168 y.2.2.t)]) ((0,x.2.1,x.2.2)) ?_ S5 (xq (pk [0,1,1,0,0,0,0,0,0,0,0,0,0,0,0,0,0,0])) ?_
   ·simp_all
   intro y hy;obtain⟨hj,ahR,hgy,hcy⟩:=hy;refine gC ?_;refine cd rfl ?_ ?_<;>intro h6
   ·refine bL .aa og ?_;intro g2 h7;subst h7;refine sd (Ak .aa (ints_at) ?_);refine ca (Oh y.2.1 b y.2.2 N T hgy hcy hT _) (pk [1,1,1,1,1,1,1,1,1,1,1,1,1,1,1,1,1]) ?_;rintro _ _ ⟨c1,ie,rfl⟩;refine gO ?_;refine sd (ag ((y.1+1,y.2.1.dt (il (Sp.eM x.2.1.s.aa 6) y.1),c1)) ?_ ?_ S5 (xq (pk [17,0,0,0,0,0,0,0,0,0,0,0,0,0,0,0,0,0])));all_goals grind [uS,KA.Wk.dt]
   ·refine sd (ag ((x.1+1,y.2.1,y.2.2)) ?_ ?_ S2 (xq (pk [1,1,1,1,1,1,1,1,1,1,1,1,1,1,1,1,1])))
    ·omega
    ·exact⟨(by show 0<=x.1+1/\x.1+1<=4;omega),(by show y.2.1=_;rw[Dc _ hi.1,<-hga,ahR,List.take_of_length_le og];rfl),hgy,hcy⟩
  ·refine cS rfl (ai (pz 17) rfl ?_);grind [KA.dG]
end Go.X.Kn

namespace Go.X.Kn
open Go Go.Proofs Go.X Go.X.Sg
set_option maxRecDepth 20000
set_option maxHeartbeats 4000000
variable{T n:Int}
def QD(kb:Nat)(k:KP)(s:Sp.SS)(n:Int)(hn:0<=n/\n<20)(hz:(k.u n).bx.db 0=false)(o:Bool)(he:(k.u n).bx.first 0=0):Spec Tryz.prog 74 [aA kb 0 0,iI n,.bool o] [.cells kb 0 453 (aD k),.cells k.sb 0 158 (Sp.aO s),.ro 0 0 32 dD] (fun v H1=>H1=[.cells kb 0 453 (aD k),.cells k.sb 0 158 (Sp.aO s)]):=by
 refine Spec.go 36 [0,1,2,6,7,30] [] Tryz.func74 fun W=> ?_;refine XR.mono (fun _ bK=>jX (n:=n) og .h1 bK) ?_;refine sd ?_;refine HQ 1 (Dh kb (0+jM n) _ hz) (pk [0,3]) rfl ?_;refine XR.mono (fun _ bK=>ni (n:=n) og (pk [0,1,1]) bK) ?_;refine spF 19 rfl og (cS rfl (ai (pk [0,1]) rfl ?_));rfl
def QE(kb:Nat)(k:KP)(s:Sp.SS)(n:Int)(hn:0<=n/\n<20)(hz:(k.u n).bx.db 0=false)(he:¬(k.u n).bx.first 0=0)(hh:(s.find (s.bM n).1 1).1=n):Spec Tryz.prog 74 [aA kb 0 0,iI n,.bool false] [.cells kb 0 453 (aD k),.cells k.sb 0 158 (Sp.aO s),.ro 0 0 32 dD] (fun v H1=>H1=[.cells kb 0 453 (aD k),.cells k.sb 0 158 (Sp.aO s)]):=by
 refine Spec.go 36 [0,1,2,6,7,30] [] Tryz.func74 fun W=> ?_;refine XR.mono (fun _ bK=>jX (n:=n) og .h1 bK) ?_;refine sd ?_;refine HQ 1 (Dh kb (0+jM n) _ hz) (pk [0,3]) rfl ?_;refine XR.mono (fun _ bK=>ni (n:=n) og (pk [0,1,1]) bK) ?_;refine WJ 19 rfl og ?_;refine cq (jK kb k s n) (pk [0,1]) ?_;refine cq (Dg kb k s _) (pz 2) ?_;refine AZ rfl og (cS rfl (ai (pz 2) rfl ?_));rfl
def QF(kb:Nat)(k:KP)(s:Sp.SS)(n:Int)(hn:0<=n/\n<20)(hz:(k.u n).bx.db 0=false)(o:Bool)(hq:(k.u n).bx.first 0=0\/(o=false/\(s.find (s.bM n).1 1).1=n)):Spec Tryz.prog 74 [aA kb 0 0,iI n,.bool o] [.cells kb 0 453 (aD k),.cells k.sb 0 158 (Sp.aO s),.ro 0 0 32 dD] (fun v H1=>H1=[.cells kb 0 453 (aD k),.cells k.sb 0 158 (Sp.aO s)]):=by
 by_cases he:(k.u n).bx.first 0=0
 ·exact QD kb k s n hn hz o he
 ·obtain⟨ho,hh⟩:=hq.resolve_left he;subst ho;exact QE kb k s n hn hz he hh
def Oi(kb:Nat)(k:KP)(s:Sp.SS)(n sig:Int)(o:Bool)(hz:k.aH n=0->(k.u n).bx.db 0=false)(hq:k.aH n=0->(((k.u n).bx.send sig).2.first 0=0\/(o=false/\(s.find (s.bM n).1 1).1=n))):Spec Tryz.prog 71 [aA kb 0 0,iI n,iI sig,.bool o] [.cells kb 0 453 (aD k),.cells k.sb 0 158 (Sp.aO s),.ro 0 0 32 dD] (fun v H1=>H1=[.cells kb 0 453 (aD (if k.aH n=0 then k.box n ((k.u n).bx.send sig).2 else k)),.cells k.sb 0 158 (Sp.aO s)]):=by
 refine Spec.go 27 [0,1,2,3,8,9,17] [] Tryz.func71 fun W=> ?_;refine ca (eW kb _ _) .h1 ?_;rintro _ _ ⟨⟨hl,rfl⟩ | ⟨hl,rfl⟩,rfl⟩
 ·obtain⟨kx,iy⟩:=bI hl;refine gO ?_;refine XR.mono (fun _ bK=>jX (n:=n) og .h1 bK) ?_;refine cq (Uw kb (0+jM n) _ sig) .h1 ?_;refine XR.mono (fun _ bK=>mI (n:=n) og (pz 3) bK) ?_;refine vl 2 (QF kb (k.box n ((k.u n).bx.send sig).2) s n kx (by unfold KP.box;rw[KP.sE];exact mP _ _ (hz hl)) o (by unfold KP.box;rw[KP.sE];exact hq hl)) (pz 3) rfl ?_;rintro _ _ rfl;refine gO ?_;refine cS rfl (ai (pz 2) rfl ?_);rw[if_pos hl];rfl
 ·refine gO ?_;refine rt0 (pz 2) ?_;simp_all
open Go.X.Fa Go.X.Gr Go.X.Tr Go.X.Vm
theorem FY(a:KA)(n h:Int):mh (a.cw n h)=mh a:=rfl
theorem cR.box{a:KA}{c:KC}{N:Nat}(h:cR a c N T)(n:Int)(x:BS):cR (a.ic n x) c N T:=⟨h.qO,h.qR,h.F,h.rp,h.rc,h.rl,h.tb,fun m m0 m1 hm=>by rw[fp];exact h.tk m m0 m1 hm⟩
theorem yi(a:KA)(n:Int)(x:BS):mh (a.ic n x)=mh a:=rfl
def KA.Hx.any{a:KA}(h:a.Hx (-1))(n:Int):a.Hx n:=fun p h0 h1 _ h3=>h p h0 h1 og h3
theorem KA.Hx.box{a:KA}(h:a.Hx n)(x:BS):(a.ic n x).Hx n:=fun p h0 h1 h2 h3=>by
 grind [r9,KA.Hx,KA.ic]
theorem KA.Wk.jA{a:KA}(w:a.Wk T)(h:(a.u n).st≠0):0<=n/\n<20:=by
 by_cases e:n<0\/20<=n
 ·rw[w.out n e]at h;exact absurd rfl h
 omega
structure KA.R0 (a:KA):Prop where
 st:(a.u 0).st=1
 loc:a.s.loc 0=0
 bG:a.s.bG 0 1=0
structure KA.Ok (a:KA) (T:Int):Prop where
 wk:a.Wk T
 hx:a.Hx (-1)
 r0:a.R0
 d0:a.aL 0=1
def FZ:∀ (l:List Int) (x:KA),(l.foldl KA.dt x).aL=x.aL
 | [],_=>rfl
 | _::r,x=>FZ r (x.dt _)
def DC(a:KA):∀ k,(a.de k).aL=a.aL
 | 0=>rfl
 | k+1=>(FZ _ _).trans (DC a k)
def Hv(h:Int):∀ (l:List Int) (x:KA),(l.foldl (KA.dN h) x).aL=x.aL
 | [],_=>rfl
 | y::r,x=>(Hv h r (KA.dN h x y)).trans (by
  unfold KA.dN;split
  ·rfl
  ·show(if(x.u y).st=1 then x.cm y 0 else x).aL=_
   split<;>rfl)
def QG(a:KA)(n co:Int):(a.aU n co).aL=a.aL:=by
 have e1:(a.dW n co).aL=a.aL:=by
  unfold KA.dW;split
  ·exact(DC _ 4).trans (Hv n _ _)
  rfl
 unfold KA.aU KA.iW;split
 ·exact e1
 ·exact e1
theorem KA.R0.acK{a:KA}(h:a.R0)(hn:n≠0)(co:Int):(a.cm n co).R0:=⟨by rw[l8 _ _ fun e=>hn e.symm];exact h.st,h.loc,h.bG⟩
def KA.R0.YJ{a:KA}(h:a.R0)(hn:n≠0):(a.eI n).R0:=
 ⟨by rw[qV _ fun e=>hn e.symm];exact h.st,by show(a.s.fi n).2.loc 0=0;rw[tX _ fun e=>hn e.symm];exact h.loc,yc (fun e=>hn e.symm) h.bG⟩
def KA.R0.YK{a:KA}(h:a.R0)(z:Int):(a.dt z).R0:=⟨h.st,by show(a.s.drop z).2.loc 0=0;rw[pN];exact h.loc,by show(a.s.drop z).2.bG 0 1=0;rw[tY];exact h.bG⟩
def KA.R0.ZR(k:Int):∀ {l:List Int} {a:KA},a.R0->(0∉l)->(l.foldl (KA.dN k) a).R0
 | [],_,w,_=>w
 | x::r,a,w,hl=>KA.R0.ZR k (l:=r) (by
   have hx:x≠0:=by rintro rfl;exact hl (.head _)
   unfold KA.dN
   split
   ·exact w
   ·refine KA.R0.YJ ?_ hx
    split
    ·exact w.acK hx 0
    ·exact w) fun q=>hl (.tail _ q)
def KA.R0.AN:∀ {l:List Int} {a:KA},a.R0->(l.foldl KA.dt a).R0
 | [],_,w=>w
 | x::r,_,w=>KA.R0.AN (l:=r) (w.YK x)
def KA.R0.de{a:KA}(w:a.R0):∀ k,(a.de k).R0
 | 0=>w
 | k+1=>KA.R0.AN (w.de k)
theorem SS.Inv.il{s:Sp.SS}{aL:Int->Nat}(h:s.Inv aL)(hl:s.loc 0=0):s.aa 0=true:=by
 have:=h.at_ 0 og og og;simp_all
def SS.Inv.in0{s:Sp.SS}{aL:Int->Nat}(h:s.Inv aL)(hl:s.loc 0=0)(hd:aL 0=1){z q:Int}(e:s.bG z q=0):z=0:=by
 have:=(h.mem z q 0 og e).2.2.2.2;rw[hl]at this;unfold Sp.SS.cF at this;rw[hd]at this;simpa [Sp.SS.je]using this
def Ke{a:KA}(w:a.Wk T)(r:a.R0)(hn:(a.u n).st≠0)(h:a.head n=n):a.s.bG (a.s.loc n) 1=n:=by
 have hr:=w.jA hn;have h1:=(w.lc n hr.1 hr.2).1 hn;by_cases e:n=0
 ·subst e;rw[r.loc];exact r.bG
 ·unfold KA.head at h;have e1:a.s.bM n=(a.s.loc n,0):=by unfold Sp.SS.bM;rw[if_neg og,if_neg og]
  rw[e1]at h;have h:(a.s.find (a.s.loc n) 1).1=n:=h;unfold Sp.SS.find at h;grind
def KA.Wk.DD{a:KA}(w:a.Wk T)(r0:a.R0)(hd:a.aL 0=1)(hn:n≠0)(hl:(a.u n).st=1)(hx:a.Hx n)(co:Int):(a.aU n co).Ok T:=by
 have hr:=w.jA (n:=n) og;have sK:=((hx.dW co).cw n (a.head n)).iW (((a.dW n co).cw n (a.head n)).u n).ax;refine⟨w.aU hr hl co,fun p h0 h1 _ h3=> ?_,?_,(congrFun (QG _ _ _) 0).trans hd⟩
 ·grind [KA.aU,KA.iW,fp,cW,De,KA.Hx]
 ·have r1:(a.dW n co).R0:=by
   unfold KA.dW;split
   ·rename_i hh;unfold KA.dG;refine KA.R0.de (KA.R0.ZR n (r0.acK hn co) fun q=> ?_) 4;obtain⟨j,_,_,e,_⟩:=wA q;have hz:=SS.Inv.in0 w.sI r0.loc hd e;have hw:=Ke w r0 (n:=n) og hh;have h1:=(w.lc n hr.1 hr.2).1 og;have e1:a.s.bM n=(a.s.loc n,0):=by unfold Sp.SS.bM;rw[if_neg og,if_neg og]
    rw[e1]at hz;have hz:a.s.loc n=0:=hz;rw[hz,r0.bG]at hw;omega
   grind [KA.R0.acK]
  unfold KA.aU;have r2:((a.dW n co).cw n (a.head n)).R0:=⟨by rw[(cW _ _ _ _).1];exact r1.st,r1.loc,r1.bG⟩;refine⟨?_,by rw[(np _ _).1];exact r2.loc,by rw[(np _ _).1];exact r2.bG⟩;grind [KA.iW,fp,KA.R0.st]
theorem sa{a:KA}{o:Bool}(h:¬a.EF n o):a.cD n o=a:=if_neg h
theorem mZ{a:KA}{o:Bool}(h:a.EF n o):a.cD n o=a.aU n (128+(a.u n).bx.first 0):=if_pos h
attribute [local irreducible] KA.dG
theorem Oj(a:KA)(b:KZ)(c:KC)(p:Int):((df (a.iW p) b c []):List aB)=[.cells b.kb 0 453 (aD (if(kp a b c).aH p=0 then(kp a b c).box p (((kp a b c).u p).bx.send 3).2 else kp a b c)),.cells b.gb 0 60 (cb a.g),.cells b.sb 0 158 (Sp.aO a.s),.cells b.qb 0 2281 (aP c.q),.bk cP (SC.dZ 254 c.q),.cells b.bb 0 577 (dM b.vp a.v.iD a.v.rf),.cells b.vp 0 71 (Vm.bO a.v.bb.fv),.eb (ka a) c.mb 34 (cN b.bb a.f c.pp c.cc),.bk (ka a) (rN 171 a.f c.pp c.cc),.cells b.tb 0 321 (aC c.F),.bk av (FC.bu 9 c.F),.bk av (FC.bA 3 c.F),dE c.rp c.rc 3 c.rl,.cells b.pi 0 24 (Tr.bO a.P),.cells b.ob 0 122 (bj b.tb b.pi a.O),.eb (mh a) (fun z=>(c.t z).b) 4 (cT b.tb c.t),.bk (mh a) (rT 168 c.t)]:=by
 have e:kp (a.iW p) b c=(if(kp a b c).aH p=0 then(kp a b c).box p (((kp a b c).u p).bx.send 3).2 else kp a b c):=(abQ a b c p).symm;try unfold df
 rw[e,Ye];by_cases h:a.aH p=0
 ·have h2:a.iW p=a.ic p ((a.u p).bx.send 3).2:=if_pos h;rw[h2];rfl
 grind [KA.iW]
set_option maxHeartbeats 16000000 in
def YL(a:KA)(b:KZ)(c:KC)(N:Nat)(T:Int)(hw:a.Wk T)(hc:cR a c N T)(hT:T<=900000)(n co:Int)(hl:(a.u n).st=1)(hx:a.Hx n)(hh:a.head n≠n):Spec Tryz.prog 63 [aA b.kb 0 0,iI n,iI co] (df a b c [.ro 0 0 32 dD]) (fun v H1=>∃ c2:KC,cR (a.aU n co) c2 N T/\H1=(df (a.aU n co) b c2 [])):=by
 have hn:0<=n/\n<20:=by
  by_cases e:n<0\/20<=n
  ·rw[hw.out n e]at hl;exact absurd hl dq
  omega
 have H5:=hw.cm hn hl co;have YM:a.dW n co=(a.cm n co):=by unfold KA.dW;rw[if_neg hh]
 have bK:((a.cm n co).cw n (a.head n)).Wk T:=by rw[<-YM];exact(hw.dW hn hl co).cw _ _
 have Wa:((a.cm n co).cw n (a.head n)).Hx n:=by rw[<-YM];exact(hx.dW co).cw _ _
 have acL:(((a.cm n co).cw n (a.head n)).u n).st≠1:=by rw[<-YM,(cW _ _ _ _).1];exact De a n co
 refine Spec.go 65 [0,1,2,6,7,8,21,26,27,47] [] Tryz.func63 fun W=> ?_;refine cq (jK b.kb (kp a b c) a.s n) (pk [0,1]) ?_;refine cq (Dg b.kb (kp a b c) a.s _) (pz 2) ?_;refine ca (Mx a b c N T hw hc hT n co hl) (pk [0,1,0,0,0,0,0,0,0,0,0,0,0,0,0,0,0]) ?_;rintro _ _ ⟨c2,uZ,rfl⟩;refine gO ?_;refine AZ rfl (hh) ?_;refine lp (σ:=Int) (fun i=>(20-i).toNat) (fun i=>0<=i/\i<=20) (fun i=>[(26,iI i),(0,aA b.kb 0 0),(1,iI n),(7,iI (a.head n))]) (fun i=>XM W (ck (df a b c [.ro 0 0 32 dD])) [.cells b.kb 0 453 (aD ((kp (a.cm n co) b c2).ly n (a.head n) i)),.cells b.gb 0 60 (cb (a.cm n co).g),.cells b.sb 0 158 (Sp.aO (a.cm n co).s),.cells b.qb 0 2281 (aP c2.q),.bk cP (SC.dZ 254 c2.q),.cells b.bb 0 577 (dM b.vp (a.cm n co).v.iD (a.cm n co).v.rf),.cells b.vp 0 71 (Vm.bO (a.cm n co).v.bb.fv),.eb (ka (a.cm n co)) c2.mb 34 (cN b.bb (a.cm n co).f c2.pp c2.cc),.bk (ka (a.cm n co)) (rN 171 (a.cm n co).f c2.pp c2.cc),.cells b.tb 0 321 (aC c2.F),.bk av (FC.bu 9 c2.F),.bk av (FC.bA 3 c2.F),dE c2.rp c2.rc 3 c2.rl,.cells b.pi 0 24 (Tr.bO (a.cm n co).P),.cells b.ob 0 122 (bj b.tb b.pi (a.cm n co).O),.eb (mh (a.cm n co)) (fun z=>(c2.t z).b) 4 (cT b.tb c2.t),.bk (mh (a.cm n co)) (rT 168 c2.t),.ro 0 0 32 dD]) (0) ?_ S4 (fun _ ml=>by rw[vA];exact XM.pick (pz 18) ml) ?_
 ·omega
 intro i hi;refine gC ?_;refine cd rfl ?_ ?_<;>intro h1
 ·refine sd (ld .aa (fS _) ?_);refine sp 37 rfl ?_ ?_<;>intro h2
  ·rw[iZ _ _ _ (Int.le_refl _)]at h2;have h81:=h2;refine sd (ld .aa (lU _) ?_);refine cd rfl ?_ ?_<;>intro h3
   ·rw[iZ _ _ _ (Int.le_refl _)]at h3;have h82:=h3;refine sd (st .aa (xC _ og _) rfl (sd (ag (i+1) ?_ ?_ S4 fun _ ml=>by rw[<-KP.Fw _ _ _ hi.1 h81 h82];exact XM.pick (pz 18) ml)));all_goals omega
   ·rw[iZ _ _ _ (Int.le_refl _)]at h3;have h82:=h3;refine sd (ag (i+1) ?_ ?_ S4 fun _ ml=>by rw[mW _ _ _ fun c=>h82 c.2];exact XM.pick (pz 18) ml);all_goals omega
  ·rw[iZ _ _ _ (Int.le_refl _)]at h2;have h81:=h2;refine sd (ag (i+1) ?_ ?_ S4 fun _ ml=>by rw[mW _ _ _ fun c=>h81 c.1];exact XM.pick (pz 18) ml);all_goals omega
 ·have acO:i=20:=og;subst acO;try unfold df
  rw[JZ];refine sd (ld .aa (lU _) ?_);refine vl 2 (Oi b.kb (kp ((a.cm n co).cw n (a.head n)) b c2) (a.cm n co).s ((((a.cm n co).cw n (a.head n)).u n).ax) 3 false (fun q=>bK.bx _) fun q=>FP bK Wa acL q) (pk [0,1,15]) rfl ?_;rintro _ _ rfl;refine gO ?_;refine cS rfl (ai (pk [0,2,0,1,1,1,1,1,1,1,1,1,1,1,1,1,1]) rfl ?_);have hA:a.aU n co=((a.cm n co).cw n (a.head n)).iW (((a.cm n co).cw n (a.head n)).u n).ax:=by unfold KA.aU;rw[YM]
  rw[hA];refine⟨c2,uZ.gx _ _ _,?_⟩;change _=df (KA.iW _ _) _ _ [];rw[Oj,FO,FY];rfl
set_option maxHeartbeats 16000000 in
def YN(a:KA)(b:KZ)(c:KC)(N:Nat)(T:Int)(hw:a.Wk T)(hc:cR a c N T)(hT:T<=900000)(n co:Int)(hl:(a.u n).st=1)(hx:a.Hx n)(hh:a.head n=n):Spec Tryz.prog 63 [aA b.kb 0 0,iI n,iI co] (df a b c [.ro 0 0 32 dD]) (fun v H1=>∃ c2:KC,cR (a.aU n co) c2 N T/\H1=(df (a.aU n co) b c2 [])):=by
 have hn:0<=n/\n<20:=by
  by_cases e:n<0\/20<=n
  ·rw[hw.out n e]at hl;exact absurd hl dq
  omega
 have H5:=hw.cm hn hl co;have YM:a.dW n co=((a.cm n co).dG (a.s.bM n).1 n):=by unfold KA.dW;rw[if_pos hh]
 have bK:(((a.cm n co).dG (a.s.bM n).1 n).cw n (a.head n)).Wk T:=by rw[<-YM];exact(hw.dW hn hl co).cw _ _
 have Wa:(((a.cm n co).dG (a.s.bM n).1 n).cw n (a.head n)).Hx n:=by rw[<-YM];exact(hx.dW co).cw _ _
 have acL:((((a.cm n co).dG (a.s.bM n).1 n).cw n (a.head n)).u n).st≠1:=by rw[<-YM,(cW _ _ _ _).1];exact De a n co
 refine Spec.go 65 [0,1,2,6,7,8,21,26,27,47] [] Tryz.func63 fun W=> ?_;refine cq (jK b.kb (kp a b c) a.s n) (pk [0,1]) ?_;refine cq (Dg b.kb (kp a b c) a.s _) (pz 2) ?_;refine ca (Mx a b c N T hw hc hT n co hl) (pk [0,1,0,0,0,0,0,0,0,0,0,0,0,0,0,0,0]) ?_;rintro _ _ ⟨c1,ie,rfl⟩;refine gO ?_;refine V0 rfl (hh) ?_;refine ca (Va (a.cm n co) b c1 N T H5 ie hT _ n) (pz 17) ?_;rintro _ _ ⟨c2,uZ,rfl⟩;refine gO ?_;refine lp (σ:=Int) (fun i=>(20-i).toNat) (fun i=>0<=i/\i<=20) (fun i=>[(26,iI i),(0,aA b.kb 0 0),(1,iI n),(7,iI (a.head n))]) (fun i=>XM W (ck (df a b c [.ro 0 0 32 dD])) [.cells b.kb 0 453 (aD ((kp ((a.cm n co).dG (a.s.bM n).1 n) b c2).ly n (a.head n) i)),.cells b.gb 0 60 (cb ((a.cm n co).dG (a.s.bM n).1 n).g),.cells b.sb 0 158 (Sp.aO ((a.cm n co).dG (a.s.bM n).1 n).s),.cells b.qb 0 2281 (aP c2.q),.bk cP (SC.dZ 254 c2.q),.cells b.bb 0 577 (dM b.vp ((a.cm n co).dG (a.s.bM n).1 n).v.iD ((a.cm n co).dG (a.s.bM n).1 n).v.rf),.cells b.vp 0 71 (Vm.bO ((a.cm n co).dG (a.s.bM n).1 n).v.bb.fv),.eb (ka ((a.cm n co).dG (a.s.bM n).1 n)) c2.mb 34 (cN b.bb ((a.cm n co).dG (a.s.bM n).1 n).f c2.pp c2.cc),.bk (ka ((a.cm n co).dG (a.s.bM n).1 n)) (rN 171 ((a.cm n co).dG (a.s.bM n).1 n).f c2.pp c2.cc),.cells b.tb 0 321 (aC c2.F),.bk av (FC.bu 9 c2.F),.bk av (FC.bA 3 c2.F),dE c2.rp c2.rc 3 c2.rl,.cells b.pi 0 24 (Tr.bO ((a.cm n co).dG (a.s.bM n).1 n).P),.cells b.ob 0 122 (bj b.tb b.pi ((a.cm n co).dG (a.s.bM n).1 n).O),.eb (mh ((a.cm n co).dG (a.s.bM n).1 n)) (fun z=>(c2.t z).b) 4 (cT b.tb c2.t),.bk (mh ((a.cm n co).dG (a.s.bM n).1 n)) (rT 168 c2.t),.ro 0 0 32 dD]) (0) ?_ S4 (fun _ ml=>by rw[vA];exact XM.pick (pz 18) ml) ?_
 ·omega
 intro i hi;refine gC ?_;refine cd rfl ?_ ?_<;>intro h1
 ·refine sd (ld .aa (fS _) ?_);refine sp 37 rfl ?_ ?_<;>intro h2
  ·rw[iZ _ _ _ (Int.le_refl _)]at h2;have h81:=h2;refine sd (ld .aa (lU _) ?_);refine cd rfl ?_ ?_<;>intro h3
   ·rw[iZ _ _ _ (Int.le_refl _)]at h3;have h82:=h3;refine sd (st .aa (xC _ og _) rfl (sd (ag (i+1) ?_ ?_ S4 fun _ ml=>by rw[<-KP.Fw _ _ _ hi.1 h81 h82];exact XM.pick (pz 18) ml)));all_goals omega
   ·rw[iZ _ _ _ (Int.le_refl _)]at h3;have h82:=h3;refine sd (ag (i+1) ?_ ?_ S4 fun _ ml=>by rw[mW _ _ _ fun c=>h82 c.2];exact XM.pick (pz 18) ml);all_goals omega
  ·rw[iZ _ _ _ (Int.le_refl _)]at h2;have h81:=h2;refine sd (ag (i+1) ?_ ?_ S4 fun _ ml=>by rw[mW _ _ _ fun c=>h81 c.1];exact XM.pick (pz 18) ml);all_goals omega
 ·have acO:i=20:=og;subst acO;try unfold df
  rw[JZ];refine sd (ld .aa (lU _) ?_);refine vl 2 (Oi b.kb (kp (((a.cm n co).dG (a.s.bM n).1 n).cw n (a.head n)) b c2) ((a.cm n co).dG (a.s.bM n).1 n).s (((((a.cm n co).dG (a.s.bM n).1 n).cw n (a.head n)).u n).ax) 3 false (fun q=>bK.bx _) fun q=>FP bK Wa acL q) (pk [0,1,15]) rfl ?_;rintro _ _ rfl;refine gO ?_;refine cS rfl (ai (pk [0,2,0,1,1,1,1,1,1,1,1,1,1,1,1,1,1]) rfl ?_);have hA:a.aU n co=(((a.cm n co).dG (a.s.bM n).1 n).cw n (a.head n)).iW ((((a.cm n co).dG (a.s.bM n).1 n).cw n (a.head n)).u n).ax:=by unfold KA.aU;rw[YM]
  rw[hA];refine⟨c2,uZ.gx _ _ _,?_⟩;change _=df (KA.iW _ _) _ _ [];rw[Oj,FO,FY];rfl
end Go.X.Kn

namespace Go.X.Kn
open Go Go.Proofs Go.X Go.X.Sg
set_option maxRecDepth 20000
set_option maxHeartbeats 4000000
attribute [local irreducible] KA.aU KA.cD
def BC(a:KA)(b:KZ)(c:KC)(N:Nat)(T:Int)(hw:a.Wk T)(hc:cR a c N T)(hT:T<=900000)(n co:Int)(hl:(a.u n).st=1)(hx:a.Hx n):Spec Tryz.prog 63 [aA b.kb 0 0,iI n,iI co] (df a b c [.ro 0 0 32 dD]) (fun v H1=>∃ c1:KC,cR (a.aU n co) c1 N T/\H1=(df (a.aU n co) b c1 [])):=by
 by_cases hh:a.head n=n
 ·exact YN a b c N T hw hc hT n co hl hx hh
 ·exact YL a b c N T hw hc hT n co hl hx hh
def QH(a:KA)(b:KZ)(c:KC)(N:Nat)(T:Int)(hw:a.Wk T)(hc:cR a c N T)(hT:T<=900000)(n:Int)(hn:0<=n/\n<20)(o:Bool)(hl:(a.u n).st=1)(hx:a.Hx n)(he:¬((a.u n).bx.first 0)=0)(ho:o=true\/a.head n≠n):Spec Tryz.prog 74 [aA b.kb 0 0,iI n,.bool o] (df a b c [.ro 0 0 32 dD]) (fun v H1=>∃ c1:KC,cR (a.aU n (128+((a.u n).bx.first 0))) c1 N T/\H1=(df (a.aU n (128+((a.u n).bx.first 0))) b c1 [])):=by
 refine Spec.go 36 [0,1,2,6,7,30] [] Tryz.func74 fun W=> ?_;refine XR.mono (fun _ bK=>jX (k:=kp a b c) (n:=n) og .h1 bK) ?_;refine sd ?_;refine HQ 1 (Dh b.kb (0+jM n) _ (hw.bx n)) (pk [0,18]) rfl ?_;refine XR.mono (fun _ bK=>ni (k:=kp a b c) (n:=n) og (pk [0,1,1]) bK) ?_;refine WJ 19 rfl (he) ?_;refine M9 21 rfl ?_ ?_<;>intro h2
 ·try simp only[sb]at h2
  have hfr:=BS.tm (a.u n).bx 0 (hw.bx n);refine sd ?_;refine vl 17 (BC a b c N T hw hc hT n _ hl hx) (pk [0,1,1,1,1,1,1,1,1,1,1,1,1,1,1,1,1,0]) rfl ?_;rintro _ _ ⟨c1,ie,rfl⟩;refine gO ?_;refine cS rfl (ai (pz 17) rfl ?_);grind
 ·try simp only[sb]at h2
  refine cq (jK b.kb (kp a b c) a.s n) (pk [0,2]) ?_;refine cq (Dg b.kb (kp a b c) a.s _) (pz 2) ?_;refine V0 rfl (by first | rfl | exact fun q=>(ho.resolve_left (by simp_all)) q) ?_;have hfr:=BS.tm (a.u n).bx 0 (hw.bx n);refine sd ?_;refine vl 17 (BC a b c N T hw hc hT n _ hl hx) (pk [0,2,0,1,1,1,1,1,1,1,1,1,1,1,1,1,1,0]) rfl ?_;rintro _ _ ⟨c1,ie,rfl⟩;refine gO ?_;refine cS rfl (ai (pz 17) rfl ?_);grind
def QI(a:KA)(b:KZ)(c:KC)(N:Nat)(T:Int)(hw:a.Wk T)(hc:cR a c N T)(hT:T<=900000)(n:Int)(hn:0<=n/\n<20)(o:Bool)(he:((a.u n).bx.first 0)=0):Spec Tryz.prog 74 [aA b.kb 0 0,iI n,.bool o] (df a b c [.ro 0 0 32 dD]) (fun v H1=>∃ c1:KC,cR a c1 N T/\H1=(df a b c1 [])):=by
 refine Spec.go 36 [0,1,2,6,7,30] [] Tryz.func74 fun W=> ?_;refine XR.mono (fun _ bK=>jX (k:=kp a b c) (n:=n) og .h1 bK) ?_;refine sd ?_;refine HQ 1 (Dh b.kb (0+jM n) _ (hw.bx n)) (pk [0,18]) rfl ?_;refine XR.mono (fun _ bK=>ni (k:=kp a b c) (n:=n) og (pk [0,1,1]) bK) ?_;refine spF 19 rfl og (cS rfl (ai (pk [0,1,1,1,1,1,1,1,1,1,1,1,1,1,1,1,1]) rfl ?_));grind
theorem QJ(a:KA)(b:KZ)(c:KC)(N:Nat)(T:Int)(hw:a.Wk T)(hc:cR a c N T)(hT:T<=900000)(n:Int)(hn:0<=n/\n<20)(he:¬((a.u n).bx.first 0)=0)(hh:a.head n=n):Spec Tryz.prog 74 [aA b.kb 0 0,iI n,.bool false] (df a b c [.ro 0 0 32 dD]) (fun v H1=>∃ c1:KC,cR a c1 N T/\H1=(df a b c1 [])):=by
 refine Spec.go 36 [0,1,2,6,7,30] [] Tryz.func74 fun W=> ?_;refine XR.mono (fun _ bK=>jX (k:=kp a b c) (n:=n) og .h1 bK) ?_;refine sd ?_;refine HQ 1 (Dh b.kb (0+jM n) _ (hw.bx n)) (pk [0,18]) rfl ?_;refine XR.mono (fun _ bK=>ni (k:=kp a b c) (n:=n) og (pk [0,1,1]) bK) ?_;refine WJ 19 rfl (he) ?_;refine cq (jK b.kb (kp a b c) a.s n) (pk [0,2]) ?_;refine cq (Dg b.kb (kp a b c) a.s _) (pz 2) ?_;refine AZ rfl (fun q=>q hh) (cS rfl (ai (pk [0,2,0,1,1,1,1,1,1,1,1,1,1,1,1,1,1]) rfl ?_));exact⟨c,hc,rfl⟩
def QK(a:KA)(b:KZ)(c:KC)(N:Nat)(T:Int)(hw:a.Wk T)(hc:cR a c N T)(hT:T<=900000)(n:Int)(hn:0<=n/\n<20)(o:Bool)(he:¬a.EF n o):Spec Tryz.prog 74 [aA b.kb 0 0,iI n,.bool o] (df a b c [.ro 0 0 32 dD]) (fun v H1=>∃ c1:KC,cR a c1 N T/\H1=(df a b c1 [])):=by
 by_cases h0:((a.u n).bx.first 0)=0
 ·exact QI a b c N T hw hc hT n hn o h0
 ·have h1:¬(o=true\/a.head n≠n):=fun q=>he ⟨h0,q⟩;grind [QJ]
def yj(a:KA)(b:KZ)(c:KC)(N:Nat)(T:Int)(hw:a.Wk T)(hc:cR a c N T)(hT:T<=900000)(n:Int)(hn:0<=n/\n<20)(o:Bool)(hl:(a.u n).st=1)(hx:a.Hx n):Spec Tryz.prog 74 [aA b.kb 0 0,iI n,.bool o] (df a b c [.ro 0 0 32 dD]) (fun v H1=>∃ c1:KC,cR (a.cD n o) c1 N T/\H1=(df (a.cD n o) b c1 [])):=by
 by_cases he:a.EF n o
 ·rw[mZ he];exact QH a b c N T hw hc hT n hn o hl hx he.1 he.2
 ·rw[sa he];exact QK a b c N T hw hc hT n hn o he
def Vb(a:KA)(b:KZ)(c:KC)(N:Nat)(T:Int)(hw:a.Wk T)(hc:cR a c N T)(hT:T<=900000)(n sig:Int)(o:Bool)(hx:a.Hx n):Spec Tryz.prog 71 [aA b.kb 0 0,iI n,iI sig,.bool o] (df a b c [.ro 0 0 32 dD]) (fun v H1=>∃ c1:KC,cR (a.sG n sig o) c1 N T/\H1=(df (a.sG n sig o) b c1 [])):=by
 refine Spec.go 27 [0,1,2,3,8,9,17] [] Tryz.func71 fun W=> ?_;refine ca (eW b.kb (kp a b c) n) .h1 ?_;rintro _ _ ⟨⟨hl,rfl⟩ | ⟨hl,rfl⟩,rfl⟩
 ·obtain⟨kx,iy⟩:=bI hl;refine gO ?_;refine XR.mono (fun _ bK=>jX (k:=kp a b c) (n:=n) og .h1 bK) ?_;refine cq (Uw b.kb (0+jM n) _ sig) .h1 ?_;refine XR.mono (fun _ bK=>mI (k:=kp a b c) (n:=n) og (pz 3) bK) ?_;try unfold df
  rw[zL];try unfold df
  rw[<-uT a n ((a.u n).bx.send sig).2,<-yi a n ((a.u n).bx.send sig).2];refine vl 17 (yj (a.ic n ((a.u n).bx.send sig).2) b c N T (hw.ic kx (mP _ _ (hw.bx n))) (hc.box _ _) hT n kx o (by rw[fp];exact iy) (hx.box _)) (pz 18) rfl ?_;rintro _ _ ⟨c1,ie,rfl⟩;refine gO ?_;refine cS rfl (ai (pz 17) rfl ?_);have e:a.sG n sig o=(a.ic n ((a.u n).bx.send sig).2).cD n o:=if_pos hl;grind
 ·refine gO ?_;refine rt0 (pz 17) ?_;have e:a.sG n sig o=a:=if_neg fun q=>hl q;grind
end Go.X.Kn

namespace Go.X.Kn
open Go Go.X Go.X.Sg Go.X.Tr
variable{x:BS}{T n v:Int}{u:Int->PA}
theorem KA.Hx.same{a a':KA}(h:a.Hx n)(hu:∀ p,(a'.u p).st=(a.u p).st/\(a'.u p).bx=(a.u p).bx)(hs:a'.s=a.s):a'.Hx n:=fun p h0 h1 h2 h3=>by
 grind [KA.Hx]
theorem KA.R0.same{a a':KA}(h:a.R0)(hu:(a'.u 0).st=(a.u 0).st)(hs:a'.s=a.s):a'.R0:=⟨by rw[hu];exact h.st,by rw[hs];exact h.loc,by rw[hs];exact h.bG⟩
theorem Z3{a:KA}(w:a.Wk T)(r:a.R0):a.head 0=0:=by grind [KA.Wk.J0,KA.R0.st,KA.R0.loc,KA.R0.bG]
def KA.Wk.Vc{a:KA}(w:a.Wk T)(r:a.R0)(hd:a.aL 0=1)(hl:(a.u n).st=1)(hx:a.Hx n)(o:Bool)(ho:o=true->n≠0):(a.cD n o).Ok T:=by
 by_cases he:a.EF n o
 ·rw[mZ he];refine w.DD r hd (fun e=> ?_) hl hx _;subst e;rcases he.2 with q | q;all_goals grind [Z3]
 ·rw[sa he];refine⟨w,fun p h0 h1 h2 h3=> ?_,r,hd⟩;by_cases e:p=n
  ·subst e;by_cases f:(a.u p).bx.first 0=0
   ·omega
   ·right;exact Ke w r og (Decidable.byContradiction fun q=>he ⟨f,.inr q⟩)
  grind [KA.Hx]
theorem KA.R0.box{a:KA}(h:a.R0)(n:Int)(x:BS):(a.ic n x).R0:=h.same (fp _ _ _ _) rfl
def KA.Ok.DE{a:KA}(h:a.Ok T)(c:a.aH n=0)(hx:x.db 0=false)(o:Bool)(ho:o=true->n≠0):((a.ic n x).cD n o).Ok T:=by
 obtain⟨hr,hl⟩:=bX c;exact(h.wk.ic hr hx).Vc (h.r0.box _ _) h.d0 (by rw[fp];exact hl) ((h.hx.any n).box _) o ho
def KA.Ok.ahS{a:KA}(h:a.Ok T)(c:a.aH n=0)(hx:x.db 0=false)(hf:x.first 0=(a.u n).bx.first 0):(a.ic n x).Ok T:=by
 obtain⟨hr,hl⟩:=bX c;refine⟨h.wk.ic hr hx,fun p h0 h1 h2 h3=> ?_,h.r0.box _ _,h.d0⟩;rw[fp]at h3;by_cases e:p=n
 ·subst e;rw[yb];show x.first 0=0\/_
  rw[hf];exact h.hx p h0 h1 og h3
 ·rw[r9 _ _ e];exact h.hx p h0 h1 og h3
theorem KA.Ok.send{a:KA}(h:a.Ok T)(n sig:Int)(o:Bool)(ho:o=true->n≠0):(a.sG n sig o).Ok T:=by
 unfold KA.sG;split
 ·rename_i c;exact h.DE c (mP _ _ (h.wk.bx n)) o ho
 omega
def o7(x:BS)(n:Int)(on:Bool)(h:x.db 0=false):(x.dy n on).2.db 0=false:=by
 unfold BS.dy;split;all_goals grind
def u6(x:BS)(n v:Int)(h:x.db 0=false):(x.set n v).2.db 0=false:=by
 unfold BS.set;split
 ·rename_i c;have:=(gg n).1 c.1;split
  ·omega
  ·show(if _ then _ else _:BS).db 0=false;split;all_goals grind [ae]
 omega
def Mz(x:BS)(h:x.db 0=false):x.take.2.db 0=false:=by
 show ad x.db (x.first 2) false 0=false;grind [aj,ae]
theorem QL(h:x.first v≠0):x.jN (x.first v)=v:=by
 unfold BS.first at h ⊢
 grind [dv]
def MA(x:BS)(h:x.db 0=false):x.take.2.first 0=x.first 0:=by
 refine AO fun k k0 k1=> ?_;show(ad x.db (x.first 2) false k&&(!x.aX k&&decide (x.jN k=0)))=_;grind [aj,QL,ae]
def KA.pH(a:KA)(n q:Int):Int×Int:=
 if a.aH n≠0 then(0,a.aH n)else if(a.s.find (a.s.bM n).1 q).2≠0 then(0,(a.s.find (a.s.bM n).1 q).2)else
 if(a.u (a.s.find (a.s.bM n).1 q).1).st=1 then((a.s.find (a.s.bM n).1 q).1,0)else(0,8)
def KA.pP(a:KA)(n c:Int):Int:=if a.aH n≠0 then a.aH n else if c<0\/255<c then 1 else if n=0 then 8 else 0
def KA.iS(a:KA)(n co:Int):KA:=if a.pP n co=0 then a.aU n co else a
def wH{a:KA}{c:Int}(h:a.pP n c=0):a.aH n=0/\n≠0:=by
 grind [KA.pP]
theorem KA.Ok.iS{a:KA}{T:Int}(h:a.Ok T)(n co:Int):(a.iS n co).Ok T:=by
 unfold KA.iS;split
 ·rename_i c;obtain⟨h1,h2⟩:=wH c;exact h.wk.DD h.r0 h.d0 h2 (bX h1).2 (h.hx.any n) co
 omega
def KA.vF(a:KA)(n sig:Int)(on:Bool):Int:=if a.aH n≠0 then a.aH n else((a.u n).bx.dy sig on).1
def KA.lB(a:KA)(n sig:Int)(on:Bool):KA:=if a.aH n≠0 then a else if((a.u n).bx.dy sig on).1=0 then(a.ic n ((a.u n).bx.dy sig on).2).cD n false else a
theorem KA.Ok.dy{a:KA}(h:a.Ok T)(n sig:Int)(on:Bool):(a.lB n sig on).Ok T:=by
 unfold KA.lB;split
 ·omega
 ·rename_i c;split
  ·exact h.DE og (o7 _ _ _ (h.wk.bx n)) false sq
  omega
def KA.Vd(a:KA)(n sig v:Int):Int:=if a.aH n≠0 then a.aH n else((a.u n).bx.set sig v).1
def KA.z8(a:KA)(n sig v:Int):KA:=if a.aH n≠0 then a else if((a.u n).bx.set sig v).1=0 then(a.ic n ((a.u n).bx.set sig v).2).cD n false else a
def KA.Ok.jN{a:KA}(h:a.Ok T)(n sig v:Int):(a.z8 n sig v).Ok T:=by
 unfold KA.z8;split
 ·omega
 ·rename_i c;split
  ·exact h.DE og (u6 _ _ _ (h.wk.bx n)) false sq
  omega
theorem Kf{on:Bool}(h:(x.dy n on).1≠0):(x.dy n on).2=x:=by
 unfold BS.dy at h ⊢;grind
theorem YO(h:(x.set n v).1≠0):(x.set n v).2=x:=by
 unfold BS.set at h ⊢;grind
def KA.DF(a:KA)(n:Int):Int:=if a.aH n≠0 then a.aH n else if(a.u n).bx.take.1=0 then 2 else 0
def KA.DG(a:KA)(n:Int):Int:=if a.aH n≠0 then 0 else(a.u n).bx.take.1
def KA.q7(a:KA)(n:Int):KA:=if a.aH n≠0 then a else a.ic n (a.u n).bx.take.2
theorem KA.Ok.take{a:KA}(h:a.Ok T)(n:Int):(a.q7 n).Ok T:=by
 unfold KA.q7;split
 ·exact h
 ·exact h.ahS og (Mz _ (h.wk.bx n)) (MA _ (h.wk.bx n))
def KA.me(a:KA)(n gh sig:Int):Int:=if(a.pH n gh).2≠0 then(a.pH n gh).2 else if sig<1\/8<sig then 1 else if gh=1 then 8 else 0
def KA.jo(a:KA)(n gh sig:Int):KA:=if a.me n gh sig=0 then a.sG (a.pH n gh).1 sig (decide ((a.s.bM (a.pH n gh).1).1≠(a.s.bM n).1))else a
def ym{a:KA}{q:Int}(h:(a.pH n q).2=0):a.aH n=0/\(a.s.find (a.s.bM n).1 q).2=0/\(a.pH n q).1=(a.s.find (a.s.bM n).1 q).1/\(a.u (a.pH n q).1).st=1:=by
 grind [KA.pH]
def KA.Ok.qf{a:KA}(h:a.Ok T)(n gh sig:Int):(a.jo n gh sig).Ok T:=by
 unfold KA.jo;split
 ·rename_i c;refine h.send _ _ _ fun _ e=> ?_;unfold KA.me at c;split at c
  ·omega
  ·rename_i c1;split at c
   ·omega
   ·split at c
    ·omega
    ·rename_i c2;obtain⟨s1,s2,s3,_⟩:=ym (show(a.pH n gh).2=0 by omega);obtain⟨_,f2,_⟩:=pI h.wk.sI s2;rw[<-s3,e]at f2;have hz:=SS.Inv.in0 h.wk.sI h.r0.loc h.d0 f2;rw[hz]at f2;exact c2 (h.wk.sI.inj 0 1 gh (by rw[h.r0.bG];omega) (by rw[f2,h.r0.bG]))
 omega
def KA.Wk.io{a:KA}{T':Int}(h:a.Wk T)(hT:T<=T')(Ql:T'<=1000000){O:Tr.OS}{P:Tr.PS}(qh:∀ p,(u p).st=(a.u p).st)(hbx:∀ p,(u p).bx=(a.u p).bx)(Ig:∀ p,(p<0\/20<=p)->u p=PA.nil)(YG:∀ p i,0<=(u p).fd i/\(u p).fd i<=24)(hO:O.Inv T')(hP:P.Inv T'):({a with u:=u,O:=O,P:=P} :KA).Wk T' where
 T0:=⟨by have:=h.T0;omega,Ql⟩
 gI:=h.gI
 gS:=h.gS.mono og
 sI:=h.sI
 sys:=h.sys
 tU:=fun m a0 a1 q=>h.tU m a0 a1 (by rw[<-qh];exact q)
 PI:=hP
 OI:=hO
 lc:=fun m a0 a1=>by rw[show(({a with u:=u,O:=O,P:=P} :KA).u m).st=(a.u m).st from qh m];exact h.lc m a0 a1
 st:=fun m=>by rw[show(({a with u:=u,O:=O,P:=P} :KA).u m).st=(a.u m).st from qh m];exact h.st m
 out:=Ig
 fd:=YG
 bx:=fun m=>by rw[show(({a with u:=u,O:=O,P:=P} :KA).u m).bx=(a.u m).bx from hbx m];exact h.bx m
def KA.Ok.io{a:KA}{T T':Int}(h:a.Ok T)(hT:T<=T')(Ql:T'<=1000000){u:Int->PA}{O:Tr.OS}{P:Tr.PS}(qh:∀ p,(u p).st=(a.u p).st)(hbx:∀ p,(u p).bx=(a.u p).bx)(Ig:∀ p,(p<0\/20<=p)->u p=PA.nil)(YG:∀ p i,0<=(u p).fd i/\(u p).fd i<=24)(hO:O.Inv T')(hP:P.Inv T'):({a with u:=u,O:=O,P:=P} :KA).Ok T':=
 ⟨h.wk.io hT Ql qh hbx Ig YG hO hP,h.hx.same (fun p=>⟨qh p,hbx p⟩) rfl,h.r0.same (qh 0) rfl,h.d0⟩
theorem KA.Ok.up{a:KA}{T T':Int}(h:a.Ok T)(hT:T<=T')(Ql:T'<=1000000):a.Ok T':=⟨h.wk.up hT Ql,h.hx,h.r0,h.d0⟩
theorem KA.Ok.io0{a:KA}{T':Int}(h:a.Ok T)(hT:T<=T')(Ql:T'<=1000000){O:Tr.OS}{P:Tr.PS}(hO:O.Inv T')(hP:P.Inv T'):({a with O:=O,P:=P} :KA).Ok T':=
 h.io hT Ql (fun _=>rfl) (fun _=>rfl) h.wk.out h.wk.fd hO hP
def Bc(u:Int->PA)(n i v:Int):Int->PA:=ad u n {u n with fd:=ad (u n).fd i v}
theorem jq(u:Int->PA)(n i v p:Int):(Bc u n i v p).st=(u p).st/\(Bc u n i v p).bx=(u p).bx:=by
 unfold Bc;grind [aj,ae]
def yo(hn:0<=n/\n<20)(i v:Int)(h:∀ p,(p<0\/20<=p)->u p=PA.nil):∀ p,(p<0\/20<=p)->Bc u n i v p=PA.nil:=fun p hp=>by
 unfold Bc;rw[ae _ _ og];exact h p hp
def DH{i:Int}(hv:0<=v/\v<=24)(h:∀ p j,0<=(u p).fd j/\(u p).fd j<=24):∀ p j,0<=(Bc u n i v p).fd j/\(Bc u n i v p).fd j<=24:=fun p j=>by
 unfold Bc;by_cases e:p=n
 ·subst e;rw[aj];grind [aj,ae]
 grind [ae]
theorem DI(a:KA)(b:KZ)(c:KC)(n i v:Int)(O:Tr.OS)(P:Tr.PS):(kp a b c).put n {(kp a b c).u n with fd:=ad ((kp a b c).u n).fd i v} =kp {a with u:=Bc a.u n i v,O:=O,P:=P} b c:=(Hb a b c n {a.u n with fd:=ad (a.u n).fd i v} _ rfl).trans rfl
theorem Hw(a:KA)(n i v:Int)(O:Tr.OS)(P:Tr.PS):ka {a with u:=Bc a.u n i v,O:=O,P:=P} =ka a:=by grind [jq,ka]
def KA.eN(a:KA)(n i:Int):Int:=if a.aH n≠0 then a.aH n else if i<0\/6<=i then 1 else if(a.u n).fd i=0 then 2 else 0
def KA.dg(a:KA)(n i:Int):Int:=if a.eN n i=0 then(a.u n).fd i-1 else 0
theorem KA.r7{a:KA}{i:Int}(h:a.eN n i=0):(0<=n/\n<20)/\(a.u n).st=1/\(0<=i/\i<6)/\(a.u n).fd i≠0/\a.dg n i=(a.u n).fd i-1:=by
 have hv:a.dg n i=(a.u n).fd i-1:=by unfold KA.dg;rw[if_pos h]
 unfold KA.eN at h;split at h
 ·omega
 ·split at h
  ·omega
  ·split at h
   ·omega
   ·have:=bX (a:=a) (n:=n) og;omega
def KA.j7(a:KA)(F:Tr.FF)(n i:Int):Int:=if a.eN n i≠0 then a.eN n i else Tr.j7 F a.P a.O (a.dg n i)
def KA.sc(a:KA)(n i:Int):KA:=if a.eN n i≠0 then a else {a with u:=Bc a.u n i 0,O:=kG a.O (a.dg n i),P:=kF a.P a.O (a.dg n i)}
def KA.Ok.close{a:KA}(h:a.Ok T)(n i:Int):(a.sc n i).Ok T:=by
 unfold KA.sc;split
 ·exact h
 ·rename_i c;obtain⟨hn,_,_,_,_⟩:=KA.r7 (show a.eN n i=0 by omega);exact h.io (Int.le_refl _) h.wk.T0.2 (fun p=>(jq _ _ _ _ p).1) (fun p=>(jq _ _ _ _ p).2) (yo hn _ _ h.wk.out) (DH og h.wk.fd) (OS.Inv.tV h.wk.OI _) (PS.tV h.wk.PI _ _)
def KA.mQ(a:KA)(n:Int):Int:=jJ (a.u n).fd 0
def u7(f:Int->Int)(x:Int)(h:¬jJ f x<0:=by omega):0<=jJ f x/\jJ f x<6/\x<=jJ f x/\f (jJ f x)=0:=by
 grind [jJ,dv]
def KA.Kg(a:KA)(n i:Int):Int:=if a.eN n i≠0 then a.eN n i else if a.mQ n<0 then 4 else a.O.is (a.dg n i)
def KA.Kh(a:KA)(n i:Int):Int:=if a.eN n i≠0\/a.mQ n<0 then 0 else a.mQ n
def KA.Be(a:KA)(n i:Int):KA:=if a.eN n i≠0\/a.mQ n<0 then a else {a with u:=Bc a.u n (a.mQ n) (a.dg n i+1),O:=p8 a.O (a.dg n i),P:=a.P}
def KA.Ok.dup{a:KA}(h:a.Ok T)(hT:T<=900000)(n i:Int):(a.Be n i).Ok (T+1):=by
 unfold KA.Be;split
 ·grind [KA.Ok.up]
 ·rename_i c;obtain⟨hn,_,_,h4,h5⟩:=KA.r7 (show a.eN n i=0 by omega);have:=h.wk.fd n i;exact h.io og og (fun p=>(jq _ _ _ _ p).1) (fun p=>(jq _ _ _ _ p).2) (yo hn _ _ h.wk.out) (DH og h.wk.fd) (h.wk.OI.ZN _) (h.wk.PI.mono og)
def KA.DJ(a:KA)(n:Int):Int:=jJ (a.u n).fd (a.mQ n+1)
def KA.ub(a:KA)(n:Int):Int:=if a.aH n≠0 then a.aH n else if a.mQ n<0\/a.DJ n<0 then 4 else kH a.P a.O
def KA.yp(a:KA)(n:Int):Int:=if a.ub n=0 then a.mQ n else 0
def KA.yq(a:KA)(n:Int):Int:=if a.ub n=0 then a.DJ n else 0
def KA.q8(a:KA)(n:Int):KA:=if a.aH n≠0\/a.mQ n<0\/a.DJ n<0 then a else
 if kH a.P a.O=0 then {a with u:=Bc (Bc a.u n (a.mQ n) (nJ a.P a.O+1)) n (a.DJ n) (oY a.P a.O+1),O:=nI a.P a.O,P:=nH a.P a.O} else {a with O:=nI a.P a.O,P:=nH a.P a.O}
def F0(P:Tr.PS)(O:Tr.OS):(0<=nJ P O/\nJ P O<24)/\0<=oY P O/\oY P O<24:=by
 unfold nJ oY;by_cases h:kH P O=0
 ·rw[if_pos h,if_pos h];unfold kH at h;split at h
  ·omega
  ·rename_i c;have h1:=Tr.OS.nk (s:=O) fun q=>c (.inl q);have h2:=Tr.OS.nk (s:=O.lay O.first 2 0 false) fun q=>c (.inr q);exact⟨⟨h1.1,h1.2.1⟩,h2.1,h2.2.1⟩
 omega
def KA.Ok.JR{a:KA}{T:Int}(h:a.Ok T)(hT:T<=900000)(Ve:1<=T)(n:Int):(a.q8 n).Ok (T+1):=by
 have h2:=F0 a.P a.O;have hO:=h.wk.OI.JR Ve a.P;have hP:=L6 h.wk.PI og a.O;unfold KA.q8;split
 ·grind [KA.Ok.up]
 ·rename_i c;have hn:=(bX (show a.aH n=0 by omega)).1;split
  ·exact h.io og og (fun p=>((jq _ _ _ _ p).1).trans (jq _ _ _ _ p).1) (fun p=>((jq _ _ _ _ p).2).trans (jq _ _ _ _ p).2) (yo hn _ _ (yo hn _ _ h.wk.out)) (DH og (DH og h.wk.fd)) hO hP
  grind [KA.Ok.io0]
def KA.lZ(a:KA)(F:Tr.FF)(n i m:Int):Int:=if a.eN n i≠0 then a.eN n i else tO F a.P a.O (a.dg n i) m
def KA.kA(a:KA)(F:Tr.FF)(n i m:Int):ByteArray:=if a.eN n i≠0 then⟨#[]⟩else tP F a.P a.O (a.dg n i) m
def KA.yr(a:KA)(F:Tr.FF)(n i m:Int):KA:=if a.eN n i≠0 then a else {a with O:=qa F a.O (a.dg n i) m,P:=p9 a.P a.O (a.dg n i) m}
theorem KA.Ok.mJ{a:KA}{T:Int}(h:a.Ok T)(hT:T<=900000){F:Tr.FF}(hF:F.Sh)(n i m:Int):(a.yr F n i m).Ok (T+1):=by
 unfold KA.yr;split
 ·grind [KA.Ok.up]
 ·exact h.io0 og og (h.wk.OI.mJ hF _ _) (L7 h.wk.PI _ _ _)
def KA.uc(a:KA)(F:Tr.FF)(n i:Int)(x:ByteArray):KA:= {a with O:=jl F a.O (a.dg n i) x,P:=l7 a.P a.O (a.dg n i) x}
def KA.eT(a:KA)(F:Tr.FF)(n i:Int)(x:ByteArray):Int:=if a.eN n i≠0 then a.eN n i else iE F a.P a.O (a.dg n i) x
def KA.Aa(a:KA)(F:Tr.FF)(n i:Int)(x:ByteArray):Int:=if a.eN n i≠0 then 0 else jj F a.P a.O (a.dg n i) x
def KA.nK(a:KA)(F:Tr.FF)(n i:Int)(x:ByteArray):KA:=if a.eN n i≠0 then a else if iE F a.P a.O (a.dg n i) x=12 then(a.uc F n i x).sG n 2 false else a.uc F n i x
theorem KA.Ok.AQ{a:KA}(h:a.Ok T)(hT:T<=900000)(F:Tr.FF)(n i:Int)(x:ByteArray):(a.uc F n i x).Ok (T+1):=
 h.io0 og og (h.wk.OI.abC F _ _) (JT h.wk.PI _ _ _)
theorem KA.Ok.b7{a:KA}(h:a.Ok T)(hT:T<=900000)(F:Tr.FF)(n i:Int)(x:ByteArray):(a.nK F n i x).Ok (T+1):=by
 unfold KA.nK;split
 ·grind [KA.Ok.up]
 ·split
  ·exact(h.AQ hT F n i x).send n 2 false sq
  grind [KA.Ok.AQ]
def KA.nl(a:KA)(n i z:Int):Int:=if a.eN n i≠0 then a.eN n i else Tr.nl a.O (a.dg n i) z
def KA.vG(a:KA)(n i z:Int):KA:=if a.eN n i≠0 then a else {a with O:=vC a.O (a.dg n i) z,P:=a.P}
def KA.Ok.JS{a:KA}{T:Int}(h:a.Ok T)(hT:T<=900000)(n i z:Int):(a.vG n i z).Ok (T+1):=by
 unfold KA.vG;split
 ·grind [KA.Ok.up]
 ·exact h.io0 og og (h.wk.OI.JS _ _) (h.wk.PI.mono og)
end Go.X.Kn
