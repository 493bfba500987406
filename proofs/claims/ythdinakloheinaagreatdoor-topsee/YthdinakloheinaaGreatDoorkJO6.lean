import Derived.Test.YthdinakloheinaaGreatDoorkJO3
set_option linter.all false
namespace Go.X.Kn
open Go Go.Proofs Go.X Go.X.Fa Go.X.Gr Go.X.Vm
set_option maxRecDepth 20000
set_option maxHeartbeats 4000000
variable{T n:Int}
attribute [local irreducible] KA.cR KA.cK
def adg(a:KA)(b:KZ)(c:KC)(N:Nat)(T:Int)(ho:a.Ok T)(hc:cH a c N T)(hT:T<=800000)(n f m:Int)(w:Bool):Spec Tryz.prog 79 [aC b.kb 0 0,iI n,iI f,iI m,.bool w] (cU a b c []) (fun v H1=>v=az 102 (a.pZ n f m)/\∃ c1:KC,cH (a.Ib n f m w) c1 N T/\H1=(cU (a.Ib n f m w) b c1 [])):=by
 apply Spec.go 30 [0,1,2,3,4,10,11,12,20] [] Tryz.func79 rfl rfl rfl;intro W;refine ca (ef b.kb (kp a b c) n) .h1 ?_;rintro _ _ ⟨⟨hl,rfl⟩ | ⟨hl,rfl⟩,rfl⟩
 ·obtain⟨jy,gh⟩:=bC hl;have hl:a.aI n=0:=hl;have gh:(a.u n).st=1:=gh;have lB:=o5 a b c (n:=n);have Ll:=ho.wk.sys.mo n.toNat og;apply gO;refine XR.mono (fun _ bJ=>km (z:=n.toNat) (fv jy) (pk [7,7]) bJ) ?_;refine ld (.t4 .aa) (di _ og lB) ?_;refine ca (afr b.bb _ _ _ (a.f n.toNat) Ll _ _ _) (pz 2) ?_;rintro _ _ ⟨rfl,pu,cu,rfl⟩;apply gO;refine XR.mono (fun _ bJ=>lN ((a.f n.toNat).map f m w) (fv jy) (pz 4) bJ) ?_;refine ah rfl rfl (ad (pk [2,2,2,2,2,2,2,0,0,0,0,0,0,0,0,0,0]) rfl ?_);have e1:a.pZ n f m=(a.f n.toNat).pZ f m:=by unfold KA.pZ;rw[if_neg og]
  have e2:a.Ib n f m w= {a with v:=a.v,f:=bF a.f n.toNat ((a.f n.toNat).map f m w),g:=a.g} :=by unfold KA.Ib;rw[if_neg og]
  rw[e1,e2];exact⟨rfl,{c with pp:=bF c.pp n.toNat pu,cc:=bF c.cc n.toNat cu},⟨hc.qO,hc.qR,hc.F,hc.rp,hc.rc,hc.rl,hc.tb,hc.tk⟩,rfl⟩
 ·have hl:a.aI n≠0:=hl;have iD:(kp a b c).aI n=a.aI n:=rfl;rw[iD];apply gO;refine ah rfl rfl (ad (pz 17) rfl ?_);grind [aL,aJ,KA.pZ,KA.Ib,az]
def Na(a:KA)(b:KZ)(c:KC)(N:Nat)(T:Int)(ho:a.Ok T)(hc:cH a c N T)(hT:T<=800000)(n f m:Int)(w:Bool):Spec Tryz.prog 80 [aC b.kb 0 0,iI n,iI f,iI m,.bool w] (cU a b c []) (fun v H1=>v=az 102 (a.kL n f m)/\∃ c1:KC,cH (a.yT n f m w) c1 N T/\H1=(cU (a.yT n f m w) b c1 [])):=by
 apply Spec.go 30 [0,1,2,3,4,10,11,12,20] [] Tryz.func80 rfl rfl rfl;intro W;refine ca (ef b.kb (kp a b c) n) .h1 ?_;rintro _ _ ⟨⟨hl,rfl⟩ | ⟨hl,rfl⟩,rfl⟩
 ·obtain⟨jy,gh⟩:=bC hl;have hl:a.aI n=0:=hl;have gh:(a.u n).st=1:=gh;have lB:=o5 a b c (n:=n);have Ll:=ho.wk.sys.mo n.toNat og;apply gO;refine XR.mono (fun _ bJ=>km (z:=n.toNat) (fv jy) (pk [7,7]) bJ) ?_;refine ld (.t4 .aa) (di _ og lB) ?_;refine ca (Q3 b.bb _ _ _ (a.f n.toNat) Ll _ _ _) (pz 2) ?_;rintro _ _ ⟨rfl,pu,cu,rfl⟩;apply gO;refine XR.mono (fun _ bJ=>lN ((a.f n.toNat).nA f m w) (fv jy) (pz 4) bJ) ?_;refine ah rfl rfl (ad (pk [2,2,2,2,2,2,2,0,0,0,0,0,0,0,0,0,0]) rfl ?_);have e1:a.kL n f m=(a.f n.toNat).kL f m:=by unfold KA.kL;rw[if_neg og]
  have e2:a.yT n f m w= {a with v:=a.v,f:=bF a.f n.toNat ((a.f n.toNat).nA f m w),g:=a.g} :=by unfold KA.yT;rw[if_neg og]
  rw[e1,e2];exact⟨rfl,{c with pp:=bF c.pp n.toNat pu,cc:=bF c.cc n.toNat cu},⟨hc.qO,hc.qR,hc.F,hc.rp,hc.rc,hc.rl,hc.tb,hc.tk⟩,rfl⟩
 ·have hl:a.aI n≠0:=hl;have iD:(kp a b c).aI n=a.aI n:=rfl;rw[iD];apply gO;refine ah rfl rfl (ad (pz 17) rfl ?_);grind [aL,aJ,KA.kL,KA.yT,az]
def VN(a:KA)(b:KZ)(c:KC)(N:Nat)(T:Int)(ho:a.Ok T)(hc:cH a c N T)(hT:T<=800000)(n f m:Int):Spec Tryz.prog 42 [aC b.kb 0 0,iI n,iI f,iI m] (cU a b c []) (fun v H1=>v=az 102 (a.uu n f m)/\∃ c1:KC,cH (a.pd n f m) c1 N T/\H1=(cU (a.pd n f m) b c1 [])):=by
 apply Spec.go 44 [0,1,2,3,8,9,10,11,19,32] [] Tryz.func42 rfl rfl rfl;intro W;refine ca (ef b.kb (kp a b c) n) .h1 ?_;rintro _ _ ⟨⟨hl,rfl⟩ | ⟨hl,rfl⟩,rfl⟩
 ·obtain⟨jy,gh⟩:=bC hl;have hl:a.aI n=0:=hl;have gh:(a.u n).st=1:=gh;have lB:=o5 a b c (n:=n);have Ll:=ho.wk.sys.mo n.toNat og;apply gO;refine XR.mono (fun _ bJ=>km (z:=n.toNat) (fv jy) (pk [7,7]) bJ) ?_;refine ld (.t4 .aa) (di _ og lB) ?_;refine ca (Kz b.bb b.vp (c.mb n.toNat) a.v ho.wk.sys.jI.ok _ _ (a.f n.toNat) Ll (ho.wk.sys.In og) f m) (pk [9,9,0,0]) ?_;rintro _ _ ⟨rfl,pu,cu,rfl⟩;apply gO;apply XR.mono fun _ bJ=>lN (a.KS n f m).2.2.2 (fv jy) (pk [2,2,2,2]) bJ;refine cd rfl ?_ ?_<;>intro h1
  ·have hu:(a.KS n f m).2.1≠0:=h1;refine ah rfl rfl (ad (pk [4,4,4,4,4,2,2,0,0,0,0,0,0,0,0,0,0]) rfl ?_);have e1:a.uu n f m=(a.KS n f m).2.1:=by unfold KA.uu;rw[if_neg og,if_pos hu]
   have e2:a.pd n f m= {a with v:=(a.KS n f m).2.2.1,f:=bF a.f n.toNat (a.KS n f m).2.2.2,g:=a.g} :=by unfold KA.pd;rw[if_neg og,if_pos hu]
   rw[e1,e2];exact⟨rfl,{c with pp:=bF c.pp n.toNat pu,cc:=bF c.cc n.toNat cu},⟨hc.qO,hc.qR,hc.F,hc.rp,hc.rc,hc.rl,hc.tb,hc.tk⟩,rfl⟩
  ·have hu:¬(a.KS n f m).2.1≠0:=h1;refine rq [0,1,2,3,4,5,6,7,8,9,10] mixed (ld (.t4 .aa) (eI _) (ld (.t4 .aa) (dx _) ?_));refine cq (mJ _ _ a.g ho.wk.gI.ok _ _ _ (1000*T) (by have:=ho.wk.T0;omega) ho.wk.gS) (pk [5]) ?_;refine ah rfl rfl (ad (pk [5,0,4,4,4,2,2,0,0,0,0,0,0,0,0,0,0]) rfl ?_);have e1:a.uu n f m=a.g.gu (a.u n).kx 0 (a.KS n f m).1:=by unfold KA.uu;rw[if_neg og,if_neg hu]
   have e2:a.pd n f m= {a with v:=(a.KS n f m).2.2.1,f:=bF a.f n.toNat (a.KS n f m).2.2.2,g:=a.g.fa (a.u n).kx 0 (a.KS n f m).1} :=by unfold KA.pd;rw[if_neg og,if_neg hu]
   rw[e1,e2];exact⟨rfl,{c with pp:=bF c.pp n.toNat pu,cc:=bF c.cc n.toNat cu},⟨hc.qO,hc.qR,hc.F,hc.rp,hc.rc,hc.rl,hc.tb,hc.tk⟩,rfl⟩
 ·have hl:a.aI n≠0:=hl;have iD:(kp a b c).aI n=a.aI n:=rfl;rw[iD];apply gO;refine ah rfl rfl (ad (pz 17) rfl ?_);grind [aL,aJ,KA.uu,KA.pd,az]
def VO(a:KA)(b:KZ)(c:KC)(N:Nat)(T:Int)(ho:a.Ok T)(hc:cH a c N T)(hT:T<=800000)(n:Int)(o:Bool):Spec Tryz.prog 87 [aC b.kb 0 0,iI n,.bool o] (cU a b c []) (fun v H1=>∃ (e:Int) (c1:KC),v=az 102 e/\cH a c1 N T/\H1=(cU a b c1 [])):=by
 apply Spec.go 26 [0,1,2,6,8,16] [] Tryz.func87 rfl rfl rfl;intro W;refine ca (ef b.kb (kp a b c) n) .h1 ?_;rintro _ _ ⟨⟨hl,rfl⟩ | ⟨hl,rfl⟩,rfl⟩
 ·obtain⟨jy,gh⟩:=bC hl;have hl:a.aI n=0:=hl;have gh:(a.u n).st=1:=gh;apply gO;apply ld .aa (eJ _);refine ca (HT _ _ c.q c.d hc.qO.dS hc.qR n _) (pk [3,3]) ?_;rintro _ _ ⟨rfl,q2,q7,yZ,rfl⟩;apply gO;refine ah rfl rfl (ad (pk [2,2,2,0,0,0,0,0,0,0,0,0,0,0,0,0,0]) rfl ?_);exact⟨_,{c with q:=q2},rfl,⟨(by show q2.toSF.Ok _ _ _;rw[q7];exact hc.qO.fU _ _),yZ,hc.F,hc.rp,hc.rc,hc.rl,hc.tb,fun m m0 m1 hm=>hc.tk m m0 m1 (by have hm:q2.toSF.aa (10+m)=true:=hm;rw[q7,Fa.SF.qz]at hm;exact hm)⟩,rfl⟩
 ·have hl:a.aI n≠0:=hl;have iD:(kp a b c).aI n=a.aI n:=rfl;rw[iD];apply gO;refine ah rfl rfl (ad (pz 17) rfl ?_);exact⟨a.aI n,c,(aQ _ hl).symm,hc,rfl⟩
open Go.X.Sg Go.X.Tr
def Rm(a:KA)(b:KZ)(c:KC)(N:Nat)(T:Int)(ho:a.Ok T)(hc:cH a c N T)(hT:T<=800000)(z:Int):Spec Tryz.prog 229 [aC b.kb 0 0,iI z] (cU a b c []) (fun v H1=>v=iI (a.gT z)/\H1=(cU a b c [])):=by
 apply Spec.go 47 [0,1,4,5,6,7,8,9,10,12,35,43] [] Tryz.func229 rfl rfl rfl;intro W;refine lp (σ:=Int×Int×Int) (fun x=>(20-x.1).toNat) (fun x=>(1<=x.1/\x.1<=20)/\x.2=a.Bt z x.1.toNat) (fun x=>[(7,iI x.1),(5,iI x.2.1),(6,iI x.2.2),(0,aC b.kb 0 0),(1,iI z)]) (fun x=>XM W (bZ (cU a b c [])) (cU a b c [])) ((1,-1,0)) ?_ (S5 rfl rfl rfl rfl rfl) (fun _ hw=>XM.pick (pz 17) hw) ?_
 ·exact⟨sq,rfl⟩
 intro x hx;obtain⟨hi,AB⟩:=hx;apply gC;refine cd rfl ?_ ?_<;>intro h1
 ·refine ca (ef b.kb (kp a b c) x.1) .h1 ?_;rintro _ _ ⟨⟨hl,rfl⟩ | ⟨hl,rfl⟩,rfl⟩
  ·obtain⟨jy,gh⟩:=bC hl;have hl:a.aI x.1=0:=hl;have gh:(a.u x.1).st=1:=gh;have lB:=o5 a b c (n:=x.1);have Ll:=ho.wk.sys.mo x.1.toNat og;apply gO;refine rq [0,1,2,3,4,5,6,7,8,9,10,11,12,13,14] mixed (ld .aa (eI _) (ld .aa (dx _) ?_));refine cq (YA _ _ a.g ho.wk.gI.ok (a.u x.1).kx z) (pk [1]) ?_;refine we rfl ?_ ?_<;>intro h2
   ·try simp only[sb]at h2
    have hun:a.g.under (a.u x.1).kx z=false:=by simpa using h2
    refine sd (ag ((x.1+1,x.2)) ?_ ?_ (S5 rfl rfl rfl rfl rfl) fun _ hw=>XM.pick (pk [1,0,0,0,0,0,0,0,0,0,0,0,0,0,0,0,0]) hw);all_goals grind [n5]
   ·try simp only[sb]at h2
    have hun:a.g.under (a.u x.1).kx z=true:=by simpa using h2
    refine XR.mono (fun _ bJ=>km (z:=x.1.toNat) (fv jy) (pk [7,7]) bJ) ?_;refine ld (.t5 .aa) (di _ og lB) ?_;refine cq (r8 b.bb _ _ _ (a.f x.1.toNat) Ll) .h1 ?_;apply XR.mono fun _ bJ=>oW (f:=a.f) (z:=x.1.toNat) (ps:=c.pp) (cs:=c.cc) (mb:=c.mb) (fv jy) (pz 4) bJ;refine cd rfl ?_ ?_<;>intro h3
    ·have hgt:x.2.2<a.CN x.1:=h3;refine sd (ag ((x.1+1,x.1,a.CN x.1)) ?_ ?_ (S5 rfl rfl rfl rfl rfl) fun _ hw=>XM.pick (pk [3,2,2,2,2,2,2,0,0,0,0,0,0,0,0,0,0]) hw);all_goals grind [n5]
    ·have hgt:¬x.2.2<a.CN x.1:=h3;refine sd (ag ((x.1+1,x.2)) ?_ ?_ (S5 rfl rfl rfl rfl rfl) fun _ hw=>XM.pick (pk [3,2,2,2,2,2,2,0,0,0,0,0,0,0,0,0,0]) hw);all_goals grind [n5]
  ·have hl:a.aI x.1≠0:=hl;have iD:(kp a b c).aI x.1=a.aI x.1:=rfl;rw[iD];apply gO;refine rq [0,1,2,3,4,5,6,7,8,9,10,11,12,13,14] mixed (sd (ag ((x.1+1,x.2)) ?_ ?_ (S5 rfl rfl rfl rfl rfl) fun _ hw=>XM.pick (pz 17) hw));all_goals grind [n5]
 ·refine ah rfl rfl (ad (pz 17) rfl ?_);grind [aL,aJ,KA.gT]
set_option maxHeartbeats 8000000 in
def Rn(a:KA)(b:KZ)(c:KC)(N:Nat)(T:Int)(ho:a.Ok T)(hc:cH a c N T)(hT:T<=800000)(n:Int):Spec Tryz.prog 201 [aC b.kb 0 0,iI n] (cU a b c [.ro 0 0 32 cW]) (fun v H1=>v=az 102 (a.cb n).1/\∃ c1:KC,cH (a.cb n).2 c1 N (T+1)/\H1=[.cells b.kb 0 453 (aF (kp (a.cb n).2 b c1)),.cells b.gb 0 60 (bE (a.cb n).2.g),.cells b.sb 0 158 (Sp.aP (a.cb n).2.s),.cells b.qb 0 2281 (aM c1.q),.aV b7 (SC.da 254 c1.q),.cells b.bb 0 577 (dD b.vp (a.cb n).2.v.iq (a.cb n).2.v.rf),.cells b.vp 0 71 (Vm.bL (a.cb n).2.v.bb.fi),.dN (iR (a.cb n).2) c1.mb 34 (cN b.bb (a.cb n).2.f c1.pp c1.cc),.aV (iR (a.cb n).2) (rN 171 (a.cb n).2.f c1.pp c1.cc),.cells b.tb 0 321 (aH c1.F),.aV ax (FC.aX 9 c1.F),.aV ax (FC.aY 3 c1.F),db c1.rp c1.rc 3 c1.rl,.cells b.pi 0 24 (Tr.bL (a.cb n).2.P),.cells b.ob 0 122 (bh b.tb b.pi (a.cb n).2.O),.dN (kG (a.cb n).2) (fun z=>(c1.t z).b) 4 (cT b.tb c1.t),.aV (kG (a.cb n).2) (rT 168 c1.t)]):=by
 apply Spec.go 51 [0,1,4,5,6,7,8,9,17,32,46] [] Tryz.func201 rfl rfl rfl;intro W;refine lp (σ:=Nat×KA×KC) (fun x=>x.1) (fun x=>x.2.1.Ok T/\cH x.2.1 x.2.2 N T/\x.2.1.lvC<x.1/\x.2.1.nj n x.1=a.nj n 21) (fun x=>[(0,aC b.kb 0 0),(1,iI n)]) (fun x=>XM W (bZ (cU a b c [.ro 0 0 32 cW])) (cU x.2.1 b x.2.2 [.ro 0 0 32 cW])) ((21,a,c)) ?_ (S2 rfl rfl) (fun _ hw=>XM.pick (pz 18) hw) ?_
 ·exact⟨ho,hc,by have:=a.O0;show a.lvC<21;omega,rfl⟩
 intro x hx;obtain⟨Ro,YW,hxn,hxr⟩:=hx;have Li:=x.2.1.O0;obtain⟨k,hk⟩:∃ k,x.1=k+1:=⟨x.1-1,og⟩;apply gC;refine ca (ef b.kb (kp x.2.1 b x.2.2) n) .h1 ?_;rintro _ _ ⟨⟨hl,rfl⟩ | ⟨hl,rfl⟩,rfl⟩
 ·obtain⟨jy,gh⟩:=bC hl;have hl:x.2.1.aI n=0:=hl;apply gO;refine rq [0,1,2,3,4,5,6,7,8,9,10,11,12,13] mixed (ld .aa (eI _) (ld .aa (dx _) ?_));refine cq (YB _ _ x.2.1.g Ro.wk.gI.ok (x.2.1.u n).kx 0 1 (1000*T) (by have:=Ro.wk.T0;omega) Ro.wk.gS) (pk [1]) ?_;refine we rfl ?_ ?_<;>intro h1
  ·try simp only[sb]at h1
   have iD:(x.2.1.iB n)=none:=by
    simp_all[KA.iB]
   refine rq [0,1,2,3,4,5,6,7,8,9] mixed (ld (.av .aa) (eI _) (ld (.av .aa) (dx _) ?_));refine cq (ui _ _ x.2.1.g Ro.wk.gI.ok (x.2.1.u n).kx 0 1 (1000*T) (by have:=Ro.wk.T0;omega) Ro.wk.gS) .h1 ?_;refine ah rfl rfl (ad (pk [1,0,0,0,0,0,0,0,0,0,0,0,0,0,0,0,0]) rfl ?_);try dsimp only[aL,aJ,aD,aR]
   have e1:a.cb n=(x.2.1.g.cX (x.2.1.u n).kx 0 1,{x.2.1 with v:=x.2.1.v,f:=x.2.1.f,g:=x.2.1.g.cv (x.2.1.u n).kx 0 1}):=by
    grind [KA.nj,KA.cb]
   rw[e1];exact⟨rfl,x.2.2,YW.same og rfl,rfl⟩
  ·try simp only[sb]at h1
   have iD:∃ z,(x.2.1.iB n)=some z:=by
    grind [Option.isSome_iff_exists,KA.iB]
   obtain⟨z,hz⟩:=iD;have hzg:(x.2.1.g.iB (x.2.1.u n).kx 0 1).getD 0=z:=by rw[show x.2.1.g.iB (x.2.1.u n).kx 0 1=some z from hz];rfl
   refine cq (Rm x.2.1 b x.2.2 N T Ro YW og _) (pk [1,0,0,0,0,0,0,0,0,0,0,0,0,0,0,0,0]) ?_;refine cd rfl ?_ ?_<;>intro h2
   ·have hvn:x.2.1.gT z<0:=by rw[<-hzg];exact h2
    refine ah rfl rfl (ad (pz 17) rfl ?_);try dsimp only[aL,aJ,aD,aR]
    grind [KA.cb,KA.nj,cH.up,az]
   ·have hvn:¬x.2.1.gT z<0:=by rw[<-hzg];exact h2
    have ah9:=si hvn;have hvo:1<=x.2.1.gT ((x.2.1.g.iB (x.2.1.u n).kx 0 1).getD 0)/\x.2.1.aI (x.2.1.gT ((x.2.1.g.iB (x.2.1.u n).kx 0 1).getD 0))=0:=by rw[hzg];exact ah9
    refine xj 17 (BV x.2.1 b x.2.2 N T Ro.wk YW og _ 137 (bX hvo.2).2 (Ro.hx.any _)) (pz 18) rfl ?_;rintro _ _ ⟨c1,gm,rfl⟩;apply gO;refine ag ((k,x.2.1.cR (x.2.1.gT ((x.2.1.g.iB (x.2.1.u n).kx 0 1).getD 0)) 137,c1)) ?_ ?_ (S2 rfl rfl) fun _ hw=>XM.pick (pz 18) hw
    ·omega
    ·refine⟨Ro.wk.DX Ro.r0 Ro.d0 og (bX hvo.2).2 (Ro.hx.any _) 137,gm,?_,?_⟩
     ·have:=Rl (a:=x.2.1) (co:=137) (bX hvo.2).1 (bX hvo.2).2;grind
     grind [KA.nj]
 ·have hl:x.2.1.aI n≠0:=hl;apply gO;refine ah rfl rfl (ad (pz 17) rfl ?_);try dsimp only[aL,aJ,aD,aR]
  grind [KA.cb,KA.nj,cH.up,az]
theorem KA.Ok.room{n:Int} :∀ (k:Nat) {a:KA} {T:Int},a.Ok T->T<=900000->((a.nj n k).2).Ok (T+1)/\((a.nj n k).1=0->(a.nj n k).2.aI n=0)
 | 0,a,T,h,hT=>⟨h.up og og,fun e=>absurd (show(6:Int)=0 from e) dq⟩
 | k+1,a,T,h,hT=>by
  unfold KA.nj;by_cases c:a.aI n≠0
  ·rw[if_pos c];exact⟨h.up og og,fun e=>absurd (show(6:Int)=0 from e) dq⟩
  ·rw[if_neg c];cases hz:a.iB n with
   | none=>exact⟨h.H8 og og (h.wk.gI.cv _ _ _) ((h.wk.gS.cv h.wk.gI.ok _ _ _).mono og),fun _=>by show a.aI n=0;omega⟩
   | some z=>
    show((if a.gT z<0 then((6:Int),a)else(a.cR (a.gT z) 137).nj n k).2).Ok (T+1)/\_;by_cases d:a.gT z<0
    ·show _/\((if a.gT z<0 then((6:Int),a)else(a.cR (a.gT z) 137).nj n k).1=0->_);rw[if_pos d];exact⟨h.up og og,fun e=>absurd (show(6:Int)=0 from e) dq⟩
    ·have hv:=si d;have hl:=bX hv.2;have h2:=KA.Ok.room (n:=n) k (h.wk.DX h.r0 h.d0 (show a.gT z≠0 by omega) hl.2 (h.hx.any _) 137) hT;simp only[if_neg d];exact h2
theorem KA.Ok.cv{a:KA}(h:a.Ok T)(hT:T<=900000)(n:Int):((a.cb n).2).Ok (T+1)/\((a.cb n).1=0->(a.cb n).2.aI n=0):=KA.Ok.room 21 h hT
structure TD where
 e:KA->Int
 A:KA->KA
 y:KA->Int
def KA.unA(a:KA)(n:Int):KA:= {a with g:=a.g.fa (a.u n).kx 0 1}
def KA.kQ(a:KA)(n x:Int)(w:Bool)(D:TD)(y0:Int):Int×KA×Int:=
 if a.aI n≠0 then(a.aI n,a,y0)else if(a.f n.toNat).y8 x w=false then(10,a,y0)else
 if(a.f n.toNat).tJ x=true then
  if(a.cb n).1≠0 then((a.cb n).1,(a.cb n).2,y0)else
  (D.e (a.cb n).2,if D.e (a.cb n).2≠0 then(D.A (a.cb n).2).unA n else D.A (a.cb n).2,D.y (a.cb n).2)
 else(D.e a,D.A a,D.y a)
def KA.q9(a:KA)(n x:Int):Int×Int×VB×Vm.MS:=(a.f n.toNat).load a.v x
def KA.lZ(a:KA)(n x:Int):KA:= {a with v:=(a.q9 n x).2.2.1,f:=bF a.f n.toNat (a.q9 n x).2.2.2,g:=a.g}
def KA.sfR(a:KA)(n x y:Int):Int×VB×Vm.MS:=(a.f n.toNat).store a.v x y
def KA.sfA(a:KA)(n x y:Int):KA:= {a with v:=(a.sfR n x y).2.1,f:=bF a.f n.toNat (a.sfR n x y).2.2,g:=a.g}
def ldD(n x:Int):TD:=⟨fun a=>(a.q9 n x).2.1,fun a=>a.lZ n x,fun a=>(a.q9 n x).1⟩
def sfD(n x y:Int):TD:=⟨fun a=>(a.sfR n x y).1,fun a=>a.sfA n x y,fun _=>y⟩
def KA.iC(a:KA)(n x:Int):Int×KA×Int:=a.kQ n x false (ldD n x) 0
def KA.gU(a:KA)(n x y:Int):Int×KA×Int:=a.kQ n x true (sfD n x y) y
def KA.Ok.ld{a:KA}(h:a.Ok T)(c:a.aI n=0)(x:Int):(a.lZ n x).Ok T:=by
 have hn:=(bX c).1;exact h.mem c (h.wk.sys.load (z:=n.toNat) og x) h.wk.gI h.wk.gS
def KA.Ok.sf{a:KA}(h:a.Ok T)(c:a.aI n=0)(x:Int){y:Int}(hy:0<=y/\y<256):(a.sfA n x y).Ok T:=by
 have hn:=(bX c).1;exact h.mem c (h.wk.sys.store (z:=n.toNat) og x y hy) h.wk.gI h.wk.gS
theorem KA.Ok.un{a:KA}(h:a.Ok T)(n:Int):(a.unA n).Ok T:=h.H8 og h.wk.T0.2 (h.wk.gI.fa _ _ _) (ua h.wk.gI h.wk.gS _ _ _)
def KA.Ok.tch{a:KA}(h:a.Ok T)(hT:T<=900000){D:TD}(hD:∀ {b:KA} {S:Int},b.Ok S->b.aI n=0->(D.A b).Ok S)(x:Int)(w:Bool)(y0:Int):((a.kQ n x w D y0).2.1).Ok (T+1):=by
 have h1:=h.up (T':=T+1) og og;have h2:=h.cv hT n;grind [KA.kQ,KA.Ok.un]
theorem KA.Ok.load{a:KA}(h:a.Ok T)(hT:T<=900000)(n x:Int):((a.iC n x).2.1).Ok (T+1):=h.tch hT (fun hb c=>hb.ld c x) x false 0
theorem KA.Ok.store{a:KA}(h:a.Ok T)(hT:T<=900000)(n x:Int){y:Int}(hy:0<=y/\y<256):((a.gU n x y).2.1).Ok (T+1):=h.tch hT (fun hb c=>hb.sf c x hy) x true y
theorem Nb(v:VB)(m:Vm.MS)(a:Int):(m.load v a).2.2.2.aB=m.aB:=by
 by_cases e:(m.cw v a false).2.1=0
 ·rw[Vm.MS.Hr e];exact Vm.MS.ya v m a false
 ·rw[Vm.MS.C6 e];exact Vm.MS.ya v m a false
theorem KU(v:VB)(m:Vm.MS)(a b:Int):(m.store v a b).2.2.aB=m.aB:=by
 by_cases e:(m.cw v a true).2.1=0
 ·rw[Vm.MS.C7 e];exact Vm.MS.ya v m a true
 ·rw[Vm.MS.FX e];exact Vm.MS.ya v m a true
def Ze(kb pb mb:Nat)(v:VB)(hv:v.Ok)(p:Option Addr)(c:Nat)(m:Vm.MS)(hm:m.Ok)(a:Int):Spec Tryz.prog 151 [aC mb 0 0,iI a] [.cells kb 0 577 (dD pb v.iq v.rf),.cells pb 0 71 (Vm.bL v.bb.fi),.cells mb 0 34 (b6 kb p (aj m.aB).length c m.fr m.bu),aS p c 171 3 (aj m.aB).length (fb (aj m.aB)),.ro 1 0 64 fw] (fun x H1=>x= .tuple #[.int .u8 (m.load v a).1,az 102 (m.load v a).2.1]/\H1=[.cells kb 0 577 (dD pb (m.load v a).2.2.1.iq (m.load v a).2.2.1.rf),.cells pb 0 71 (Vm.bL (m.load v a).2.2.1.bb.fi),.cells mb 0 34 (b6 kb p (aj (m.load v a).2.2.2.aB).length c (m.load v a).2.2.2.fr (m.load v a).2.2.2.bu),aS p c 171 3 (aj (m.load v a).2.2.2.aB).length (fb (aj (m.load v a).2.2.2.aB))]):=(acD kb pb mb v hv p c m hm a).R2 fun _ _ h=>by rw[Nb];exact h
def VP(kb pb mb:Nat)(v:VB)(hv:v.Ok)(p:Option Addr)(c:Nat)(m:Vm.MS)(hm:m.Ok)(a b:Int):Spec Tryz.prog 153 [aC mb 0 0,iI a,.int .u8 b] [.cells kb 0 577 (dD pb v.iq v.rf),.cells pb 0 71 (Vm.bL v.bb.fi),.cells mb 0 34 (b6 kb p (aj m.aB).length c m.fr m.bu),aS p c 171 3 (aj m.aB).length (fb (aj m.aB)),.ro 1 0 64 fw] (fun x H1=>x=az 102 (m.store v a b).1/\H1=[.cells kb 0 577 (dD pb (m.store v a b).2.1.iq (m.store v a b).2.1.rf),.cells pb 0 71 (Vm.bL (m.store v a b).2.1.bb.fi),.cells mb 0 34 (b6 kb p (aj (m.store v a b).2.2.aB).length c (m.store v a b).2.2.fr (m.store v a b).2.2.bu),aS p c 171 3 (aj (m.store v a b).2.2.aB).length (fb (aj (m.store v a b).2.2.aB))]):=(YK kb pb mb v hv p c m hm a b).R2 fun _ _ h=>by rw[KU];exact h
def Zf(a:KA)(b:KZ)(c:KC)(N:Nat)(T:Int)(ho:a.Ok T)(hc:cH a c N T)(hT:T<=900000)(n:Int)(hl:a.aI n=0)(ab xb:Nat)(x y:Int):Spec Tryz.prog 150 [aC b.kb 0 (0+0+n.toNat*22),aC ab 0 0,aC xb 0 0] (cU a b c [.cells ab 0 1 (aG (iI x)),.cells xb 0 1 (aG (.int .u8 y)),.ro 1 0 64 fw]) (fun v H1=>v=az 102 ((ldD n x).e a)/\∃ c1:KC,cH ((ldD n x).A a) c1 N T/\H1=(cU ((ldD n x).A a) b c1 [.cells ab 0 1 (aG (iI x)),.cells xb 0 1 (aG (.int .u8 ((ldD n x).y a)))])):=by
 obtain⟨hn,gh⟩:=bX hl;have lB:=o5 a b c (n:=n);have Ll:=ho.wk.sys.mo n.toNat og;apply Spec.go 16 [0,1,2,4,5] [] Tryz.func150 rfl rfl rfl;intro W;apply XR.mono fun _ bJ=>km (z:=n.toNat) (fv hn) (pk [7,7]) bJ;refine rq [0,1,2,3,4,5,6,7,8,9,10] mixed ?_;apply ld (.t4 .aa) (di _ og lB);apply ld (.nT (.t7 .aa)) (aG.ld _);refine Io 4 (Ze b.bb b.vp (c.mb n.toNat) a.v ho.wk.sys.jI.ok _ _ (a.f n.toNat) Ll x) (pk [9,9,0,0,17]) rfl ?_;apply st (.nT (.t9 .aa)) (aG.st _ _) rfl;apply XR.mono fun _ bJ=>lN ((a.f n.toNat).load a.v x).2.2.2 (fv hn) (pk [2,2,3,3]) bJ;refine ah rfl rfl (ad (pk [5,5,5,5,5,2,2,0,0,1,1,1,1,1,1,1,1,1,1]) rfl ?_);try dsimp only[aL,aJ,aD,aR]
 exact⟨rfl,{c with pp:=bF c.pp n.toNat (c.pp n.toNat),cc:=bF c.cc n.toNat (c.cc n.toNat)},⟨hc.qO,hc.qR,hc.F,hc.rp,hc.rc,hc.rl,hc.tb,hc.tk⟩,rfl⟩
def VQ(a:KA)(b:KZ)(c:KC)(N:Nat)(T:Int)(ho:a.Ok T)(hc:cH a c N T)(hT:T<=900000)(n:Int)(hl:a.aI n=0)(ab xb:Nat)(x y:Int):Spec Tryz.prog 152 [aC b.kb 0 (0+0+n.toNat*22),aC ab 0 0,aC xb 0 0] (cU a b c [.cells ab 0 1 (aG (iI x)),.cells xb 0 1 (aG (.int .u8 y)),.ro 1 0 64 fw]) (fun v H1=>v=az 102 ((sfD n x y).e a)/\∃ c1:KC,cH ((sfD n x y).A a) c1 N T/\H1=(cU ((sfD n x y).A a) b c1 [.cells ab 0 1 (aG (iI x)),.cells xb 0 1 (aG (.int .u8 ((sfD n x y).y a)))])):=by
 obtain⟨hn,gh⟩:=bX hl;have lB:=o5 a b c (n:=n);have Ll:=ho.wk.sys.mo n.toNat og;apply Spec.go 12 [0,1,2,4] [] Tryz.func152 rfl rfl rfl;intro W;apply XR.mono fun _ bJ=>km (z:=n.toNat) (fv hn) (pk [7,7]) bJ;refine rq [0,1,2,3,4,5,6,7] mixed ?_;apply ld (.t4 .aa) (di _ og lB);apply ld (.nT (.t7 .aa)) (aG.ld _);apply ld (.nT (.t8 .aa)) (aG.ld _);refine Io 4 (VP b.bb b.vp (c.mb n.toNat) a.v ho.wk.sys.jI.ok _ _ (a.f n.toNat) Ll x y) (pk [9,9,0,0,17]) rfl ?_;apply XR.mono fun _ bJ=>lN ((a.f n.toNat).store a.v x y).2.2 (fv hn) (pk [2,2,3,3]) bJ;refine ah rfl rfl (ad (pk [5,5,5,5,5,2,2,0,0,1,1,1,1,1,1,1,1,1,1]) rfl ?_);try dsimp only[aL,aJ,aD,aR]
 exact⟨rfl,{c with pp:=bF c.pp n.toNat (c.pp n.toNat),cc:=bF c.cc n.toNat (c.cc n.toNat)},⟨hc.qO,hc.qR,hc.F,hc.rp,hc.rc,hc.rl,hc.tb,hc.tk⟩,rfl⟩
set_option maxHeartbeats 8000000 in
def KV(a:KA)(b:KZ)(c:KC)(N:Nat)(T:Int)(ho:a.Ok T)(hc:cH a c N T)(hT:T<=800000)(n x:Int)(w:Bool)(D:TD)(y:Int)(ab xb:Nat)(hA:∀ {b:KA} {S:Int},b.Ok S->b.aI n=0->(D.A b).Ok S)(fd:Nat)(Fg:cV Tryz.prog fd=true)(hd:∀ (a1:KA) (c1:KC),a1.Ok (T+1)->cH a1 c1 N (T+1)->a1.aI n=0->Spec Tryz.prog fd [aC b.kb 0 (0+0+n.toNat*22),aC ab 0 0,aC xb 0 0] (cU a1 b c1 [.cells ab 0 1 (aG (iI x)),.cells xb 0 1 (aG (.int .u8 y)),.ro 1 0 64 fw]) (fun v H1=>v=az 102 (D.e a1)/\∃ c2:KC,cH (D.A a1) c2 N (T+1)/\H1=(cU (D.A a1) b c2 [.cells ab 0 1 (aG (iI x)),.cells xb 0 1 (aG (.int .u8 (D.y a1)))]))):Spec Tryz.prog 149 [aC b.kb 0 0,iI n,iI x,.bool w,.func (.func fd) #[] #[aC ab 0 0,aC xb 0 0]] (cU a b c [.cells ab 0 1 (aG (iI x)),.cells xb 0 1 (aG (.int .u8 y)),.ro 0 0 32 cW,.ro 1 0 64 fw]) (fun v H1=>v=az 102 (a.kQ n x w D y).1/\∃ c1:KC,cH (a.kQ n x w D y).2.1 c1 N (T+1)/\H1=[.cells b.kb 0 453 (aF (kp (a.kQ n x w D y).2.1 b c1)),.cells b.gb 0 60 (bE (a.kQ n x w D y).2.1.g),.cells b.sb 0 158 (Sp.aP (a.kQ n x w D y).2.1.s),.cells b.qb 0 2281 (aM c1.q),.aV b7 (SC.da 254 c1.q),.cells b.bb 0 577 (dD b.vp (a.kQ n x w D y).2.1.v.iq (a.kQ n x w D y).2.1.v.rf),.cells b.vp 0 71 (Vm.bL (a.kQ n x w D y).2.1.v.bb.fi),.dN (iR (a.kQ n x w D y).2.1) c1.mb 34 (cN b.bb (a.kQ n x w D y).2.1.f c1.pp c1.cc),.aV (iR (a.kQ n x w D y).2.1) (rN 171 (a.kQ n x w D y).2.1.f c1.pp c1.cc),.cells b.tb 0 321 (aH c1.F),.aV ax (FC.aX 9 c1.F),.aV ax (FC.aY 3 c1.F),db c1.rp c1.rc 3 c1.rl,.cells b.pi 0 24 (Tr.bL (a.kQ n x w D y).2.1.P),.cells b.ob 0 122 (bh b.tb b.pi (a.kQ n x w D y).2.1.O),.dN (kG (a.kQ n x w D y).2.1) (fun z=>(c1.t z).b) 4 (cT b.tb c1.t),.aV (kG (a.kQ n x w D y).2.1) (rT 168 c1.t),.cells ab 0 1 (aG (iI x)),.cells xb 0 1 (aG (.int .u8 (a.kQ n x w D y).2.2))]):=by
 have hoc:=ho.cv og n;refine Spec.go 63 [0,1,2,3,4,10,11,12,13,21,30,38,43,52] [] Tryz.func149 rfl rfl rfl ?_;intro W;refine ca (ef b.kb (kp a b c) n) .h1 ?_;rintro _ _ ⟨⟨hl,rfl⟩ | ⟨hl,rfl⟩,rfl⟩
 ·obtain⟨jy,gh⟩:=bC hl;have hl:a.aI n=0:=hl;have gh:(a.u n).st=1:=gh;have lB:=o5 a b c (n:=n);have Ll:=ho.wk.sys.mo n.toNat og;refine gO ?_;refine XR.mono (fun _ bJ=>km (z:=n.toNat) (fv jy) (pk [7,7]) bJ) ?_;refine ld (.t4 .aa) (di _ og lB) ?_;refine cq (aat b.bb (c.mb n.toNat) _ _ (a.f n.toNat) Ll x w) (pz 2) ?_;refine XR.mono (fun _ bJ=>oW (f:=a.f) (z:=n.toNat) (ps:=c.pp) (cs:=c.cc) (mb:=c.mb) (fv jy) (pz 4) bJ) ?_;refine we rfl ?_ ?_<;>intro h1
  ·try simp only[sb]at h1
   have hm:(a.f n.toNat).y8 x w=false:=by simpa using h1
   refine ah rfl rfl (ad (pk [2,2,2,2,2,2,2,0,0,0,0,0,0,0,0,0,0,0,0]) rfl ?_);try dsimp only[aL,aJ,aD,aR]
   grind [KA.kQ,cH.up,az]
  ·try simp only[sb]at h1
   have hm:(a.f n.toNat).y8 x w=true:=by simpa using h1
   refine XR.mono (fun _ bJ=>km (z:=n.toNat) (fv jy) (pz 2) bJ) ?_;refine ld (.t4 .aa) (di _ og lB) ?_;refine cq (YJ b.bb (c.mb n.toNat) _ _ (a.f n.toNat) Ll x) (pz 2) ?_;refine XR.mono (fun _ bJ=>oW (f:=a.f) (z:=n.toNat) (ps:=c.pp) (cs:=c.cc) (mb:=c.mb) (fv jy) (pz 4) bJ) ?_;refine we rfl ?_ ?_<;>intro h2
   ·try simp only[sb]at h2
    have hw:(a.f n.toNat).tJ x=true:=h2;refine xj 17 (Rn a b c N T ho hc og n) (pk [2,2,2,2,2,2,2,0,0,0,0,0,0,0,0,0,0,2]) rfl ?_;rintro _ _ ⟨rfl,c1,gm,rfl⟩;refine gO ?_;refine cd rfl ?_ ?_<;>intro h3
    ·have he:(a.cb n).1≠0:=h3;refine ah rfl rfl (ad (pk [0,0,0,0,0,0,0,0,0,0,0,0,0,0,0,0,0,1,1]) rfl ?_);grind [aL,aJ,KA.kQ]
    ·have he:(a.cb n).1=0:=by have h9:=h3;omega
     refine XO.SG (cs:=[aC ab 0 0,aC xb 0 0]) rfl rfl (hd (a.cb n).2 c1 (hoc.1) gm (hoc.2 he)) (pk [0,0,0,0,0,0,0,0,0,0,0,0,0,0,0,0,0,1,1,1]) Fg rfl ?_;rintro _ _ ⟨rfl,c2,A6,rfl⟩;refine gO ?_;refine sp 50 rfl ?_ ?_<;>intro h4
     ·have hf:=h4;refine agV rfl (hw) (rq [0,1,2,3,4,5,6,7,8] mixed ?_);have hoD:=hA hoc.1 (hoc.2 he);refine ld .aa (eI _) (ld .aa (dx _) ?_);refine cq (mJ _ _ (D.A (a.cb n).2).g hoD.wk.gI.ok _ _ _ (1000*(T+1)) (by have:=hoD.wk.T0;omega) hoD.wk.gS) (pk [1]) ?_;refine ah rfl rfl (ad (pk [1,0,0,0,0,0,0,0,0,0,0,0,0,0,0,0,0,0,0]) rfl ?_);try dsimp only[aL,aJ,aD,aR]
      have e:(a.kQ n x w D y)=(D.e (a.cb n).2,if D.e (a.cb n).2≠0 then(D.A (a.cb n).2).unA n else D.A (a.cb n).2,D.y (a.cb n).2):=by unfold KA.kQ;rw[if_neg (show ¬a.aI n≠0 by omega),if_neg (show ¬(a.f n.toNat).y8 x w=false by rw[hm];decide),if_pos hw,if_neg (show ¬(a.cb n).1≠0 by omega)]
      rw[e];exact⟨rfl,c2,(by rw[if_pos hf];exact A6.same (Int.le_refl _) rfl),by rw[if_pos hf];rfl⟩
     ·have hf:=h4;refine ah rfl rfl (ad (pz 19) rfl ?_);grind [aL,aJ,KA.kQ]
   ·try simp only[sb]at h2
    have hw:(a.f n.toNat).tJ x=false:=h2;refine XO.SG (cs:=[aC ab 0 0,aC xb 0 0]) rfl rfl (hd a c (ho.up og og) (hc.up (Nat.le_refl _) og) hl) (pk [2,2,2,2,2,2,2,0,0,0,0,0,0,0,0,0,0,0,0,1]) Fg rfl ?_;rintro _ _ ⟨rfl,c2,A6,rfl⟩;refine gO ?_;refine sp 50 rfl ?_ ?_<;>intro h5
    ·have hf:=h5;refine agW rfl (hw) (ah rfl rfl (ad (pz 19) rfl ?_));grind [aL,aJ,KA.kQ]
    ·have hf:=h5;refine ah rfl rfl (ad (pz 19) rfl ?_);grind [aL,aJ,KA.kQ]
 ·have hl:a.aI n≠0:=hl;have iD:(kp a b c).aI n=a.aI n:=rfl;rw[iD];refine gO ?_;refine ah rfl rfl (ad (pz 19) rfl ?_);grind [aL,aJ,KA.kQ,aQ,cH.up]
def pq{P:Program}{n:Fr}{L:PF}{ty:TypeId}{pos:String}{af:Array Edge}{d:Nat}{f:FuncId}{x y:Operand}{u v:Value}{φ:World->Prop}{gd:Option (Nat×Bool)}(hx:ev L x=some u)(hy:ev L y=some v):bd P n L φ (⟨some d,.makeFunc (.func f) #[] #[x,y],ty,pos,af,gd⟩) (.func (.func f) #[] #[u,v]):=fun a w ha hw=>by
 simp[execOp,ay ha hx,ay ha hy,Instr.makeFunc]
set_option maxHeartbeats 8000000 in
def Zg(a:KA)(b:KZ)(c:KC)(N:Nat)(T:Int)(ho:a.Ok T)(hc:cH a c N T)(hT:T<=800000)(n x:Int):Spec Tryz.prog 81 [aC b.kb 0 0,iI n,iI x] (cU a b c [.ro 0 0 32 cW,.ro 1 0 64 fw]) (fun v H1=>v= .tuple #[.int .u8 (a.iC n x).2.2,az 102 (a.iC n x).1]/\∃ c1:KC,cH (a.iC n x).2.1 c1 N (T+1)/\H1=[.cells b.kb 0 453 (aF (kp (a.iC n x).2.1 b c1)),.cells b.gb 0 60 (bE (a.iC n x).2.1.g),.cells b.sb 0 158 (Sp.aP (a.iC n x).2.1.s),.cells b.qb 0 2281 (aM c1.q),.aV b7 (SC.da 254 c1.q),.cells b.bb 0 577 (dD b.vp (a.iC n x).2.1.v.iq (a.iC n x).2.1.v.rf),.cells b.vp 0 71 (Vm.bL (a.iC n x).2.1.v.bb.fi),.dN (iR (a.iC n x).2.1) c1.mb 34 (cN b.bb (a.iC n x).2.1.f c1.pp c1.cc),.aV (iR (a.iC n x).2.1) (rN 171 (a.iC n x).2.1.f c1.pp c1.cc),.cells b.tb 0 321 (aH c1.F),.aV ax (FC.aX 9 c1.F),.aV ax (FC.aY 3 c1.F),db c1.rp c1.rc 3 c1.rl,.cells b.pi 0 24 (Tr.bL (a.iC n x).2.1.P),.cells b.ob 0 122 (bh b.tb b.pi (a.iC n x).2.1.O),.dN (kG (a.iC n x).2.1) (fun z=>(c1.t z).b) 4 (cT b.tb c1.t),.aV (kG (a.iC n x).2.1) (rT 168 c1.t)]):=by
 apply Spec.go 17 [0,1,5,6,7,8,9] [] Tryz.func81 rfl rfl rfl;intro W;apply XO.box (m:=1) (C:=aG (iI x)) rfl rfl (fun _ _=>rfl) rfl;intro ab;apply gO;apply XO.bN (z:=.int .u8 0) (m:=1) (C:=aG (.int .u8 0)) kq rfl (fun _ _=>rfl) rfl;intro xb;apply gO;refine st .aa (aG.st _ _) rfl (ld (.av .aa) (aG.ld _) (XO.v (pq rfl rfl) rfl (gO ?_)));refine xj 19 (KV a b c N T ho hc hT n x false (ldD n x) 0 ab xb (fun h q=>h.ld q x) 150 rfl fun a1 c1 h1 h2 h3=>Zf a1 b c1 N (T+1) h1 h2 og n h3 ab xb x 0) (pk [2,2,2,2,2,2,2,2,2,2,2,2,2,2,2,2,2,1,0,0,0]) rfl ?_;rintro _ _ ⟨rfl,c1,gm,rfl⟩;apply gO;refine ld (.nT (.t6 .aa)) (aG.ld _) (ao rfl rfl rfl (ad (pz 17) rfl ?_));grind [aL,aJ,KA.iC]
set_option maxHeartbeats 8000000 in
def VR(a:KA)(b:KZ)(c:KC)(N:Nat)(T:Int)(ho:a.Ok T)(hc:cH a c N T)(hT:T<=800000)(n x y:Int)(hy:0<=y/\y<256):Spec Tryz.prog 82 [aC b.kb 0 0,iI n,iI x,.int .u8 y] (cU a b c [.ro 0 0 32 cW,.ro 1 0 64 fw]) (fun v H1=>v=az 102 (a.gU n x y).1/\∃ c1:KC,cH (a.gU n x y).2.1 c1 N (T+1)/\H1=[.cells b.kb 0 453 (aF (kp (a.gU n x y).2.1 b c1)),.cells b.gb 0 60 (bE (a.gU n x y).2.1.g),.cells b.sb 0 158 (Sp.aP (a.gU n x y).2.1.s),.cells b.qb 0 2281 (aM c1.q),.aV b7 (SC.da 254 c1.q),.cells b.bb 0 577 (dD b.vp (a.gU n x y).2.1.v.iq (a.gU n x y).2.1.v.rf),.cells b.vp 0 71 (Vm.bL (a.gU n x y).2.1.v.bb.fi),.dN (iR (a.gU n x y).2.1) c1.mb 34 (cN b.bb (a.gU n x y).2.1.f c1.pp c1.cc),.aV (iR (a.gU n x y).2.1) (rN 171 (a.gU n x y).2.1.f c1.pp c1.cc),.cells b.tb 0 321 (aH c1.F),.aV ax (FC.aX 9 c1.F),.aV ax (FC.aY 3 c1.F),db c1.rp c1.rc 3 c1.rl,.cells b.pi 0 24 (Tr.bL (a.gU n x y).2.1.P),.cells b.ob 0 122 (bh b.tb b.pi (a.gU n x y).2.1.O),.dN (kG (a.gU n x y).2.1) (fun z=>(c1.t z).b) 4 (cT b.tb c1.t),.aV (kG (a.gU n x y).2.1) (rT 168 c1.t)]):=by
 apply Spec.go 14 [0,1,6,7,8] [] Tryz.func82 rfl rfl rfl;intro W;apply XO.box (m:=1) (C:=aG (iI x)) rfl rfl (fun _ _=>rfl) rfl;intro ab;apply gO;apply XO.box (m:=1) (C:=aG (.int .u8 y)) rfl rfl (fun _ _=>rfl) rfl;intro xb;apply gO;refine ld (.av .aa) (aG.ld _) (XO.v (pq rfl rfl) rfl (gO ?_));refine xj 19 (KV a b c N T ho hc hT n x true (sfD n x y) y ab xb (fun h q=>h.sf q x hy) 152 rfl fun a1 c1 h1 h2 h3=>VQ a1 b c1 N (T+1) h1 h2 og n h3 ab xb x y) (pk [2,2,2,2,2,2,2,2,2,2,2,2,2,2,2,2,2,1,0,0,0]) rfl ?_;rintro _ _ ⟨rfl,c1,gm,rfl⟩;apply gO;refine ah rfl rfl (ad (pz 17) rfl ?_);grind [aL,aJ,KA.gU]
end Go.X.Kn

namespace Go.X.Kn
open Go Go.X
variable{g:Gr.TG}{T:Int}
def KA.pP(a:KA)(p w:Int):KA:=if w<1\/1000<w then a else {a with g:=a.g.add p}
def KA.Ea(a:KA)(n:Int):KA:= {a with g:=a.g.ed n}
def KA.VS(a:KA)(n p m:Int):KA:= {a with g:=a.g.nN n p m}
def KA.KW(a:KA)(n z:Int):Int:=a.g.fg (a.u n).kx z 1 (a.CN n)
def KA.sD(a:KA)(n z:Int):KA:=if a.aI n≠0\/a.KW n z≠0 then a else {a with u:=ae a.u n {a.u n with kx:=z},g:=a.g.move (a.u n).kx z 1 (a.CN n)}
theorem uv(u:Int->PA)(n z p:Int):(ae u n {u n with kx:=z} p).st=(u p).st/\(ae u n {u n with kx:=z} p).bx=(u p).bx/\(ae u n {u n with kx:=z} p).fd=(u p).fd:=by
 grind [ae]
def KA.Ok.vr{a:KA}(h:a.Ok T)(p w:Int):(a.pP p w).Ok T:=by
 unfold KA.pP;split
 ·exact h
 ·exact h.H8 og h.wk.T0.2 (h.wk.gI.add p) (h.wk.gS.add (by have:=h.wk.T0;omega) p)
def KA.Ok.qx{a:KA}(h:a.Ok T)(n:Int):(a.Ea n).Ok T:=h.H8 og h.wk.T0.2 (h.wk.gI.ed n) (h.wk.gS.ed (by have:=h.wk.T0;omega) n)
def KA.Ok.lim{a:KA}(h:a.Ok T)(n p m:Int):(a.VS n p m).Ok T:=h.H8 og h.wk.T0.2 (h.wk.gI.nN n p m) (h.wk.gS.nN n p m)
theorem VT{a b p m:Int}(h:g.fg a b p m≠0):g.move a b p m=g:=by
 unfold Gr.TG.move;unfold Gr.TG.fg at h;grind
def KA.Ok.IM{a:KA}(h:a.Ok T)(hT:T<=900000)(n z:Int):(a.sD n z).Ok (T+1):=by
 unfold KA.sD;split
 ·grind [KA.Ok.up]
 ·rename_i c;have h1:=h.io (T':=T) (Int.le_refl _) h.wk.T0.2 (u:=ae a.u n {a.u n with kx:=z}) (O:=a.O) (P:=a.P) (fun p=>(uv _ _ _ p).1) (fun p=>(uv _ _ _ p).2.1) (fun p hp=>by
   have hl:a.aI n=0:=by simp_all
   have:=(bX hl).1
   rw[ai _ _ og];exact h.wk.out p hp) (fun p i=>by rw[(uv _ _ _ p).2.2];exact h.wk.fd p i) h.wk.OI h.wk.PI
  exact h1.H8 og og (h.wk.gI.move _ _ _ _) ((h.wk.gS.move h.wk.gI.ok _ _ _ _).mono og)
open Go.Proofs Go.X.Fa Go.X.Gr
set_option maxRecDepth 20000
set_option maxHeartbeats 4000000
def UT:nq Tryz.prog 66=true:=kq
def HQ:fk Tryz.prog 66=some 5:=kq
attribute [local irreducible] KA.cR KA.cK
def KY(a:KA)(b:KZ)(c:KC)(N:Nat)(T:Int)(ho:a.Ok T)(hc:cH a c N T)(hT:T<=800000)(n y:Int):Spec Tryz.prog 83 [aC b.kb 0 0,iI n,iI y] (cU a b c []) (fun v H1=>∃ (m e:Int) (c1:KC),v= .tuple #[iI m,az 102 e]/\cH (a.pP n y) c1 (N+1) T/\H1=(cU (a.pP n y) b c1 [])):=by
 apply Spec.go 38 [0,1,2,6,7,8,9,15,27] [] Tryz.func83 rfl rfl rfl;intro W;refine sp 12 rfl ?_ ?_<;>intro h1
 ·refine ao rfl rfl rfl (ad (pz 17) rfl ?_);have e:a.pP n y=a:=by unfold KA.pP;rw[if_pos og]
  rw[e];exact⟨0,1,c,rfl,hc.up (Nat.le_succ _) (Int.le_refl _),rfl⟩
 ·refine cd rfl ?_ ?_<;>intro h2
  ·refine ao rfl rfl rfl (ad (pz 17) rfl ?_);have e:a.pP n y=a:=by unfold KA.pP;rw[if_pos og]
   rw[e];exact⟨0,1,c,rfl,hc.up (Nat.le_succ _) (Int.le_refl _),rfl⟩
  ·apply ld .aa (eI _);refine cq (afe _ _ a.g ho.wk.gI.ok n) (pk [1]) ?_;refine cd rfl ?_ ?_<;>intro h3
   ·have hae:a.g.wq n≠0:=h3;refine ao rfl rfl rfl (ad (pk [1,0,0,0,0,0,0,0,0,0,0,0,0,0,0,0,0]) rfl ?_);have e:a.pP n y=a:=by unfold KA.pP;rw[if_neg og,(Gr.TG.tD hae).2]
    rw[e,(Gr.TG.tD hae).2];exact⟨_,_,c,rfl,hc.up (Nat.le_succ _) (Int.le_refl _),rfl⟩
   ·have hae:=h3;apply ld (.av .aa) (eJ _);refine ca (MK _ _ c.q c.d hc.qO.dS hc.qR _ _ _) (pk [3,3]) ?_;rintro _ _ ⟨rfl,q2,q7,yZ,rfl⟩;obtain⟨d1,xt⟩:=hc.qO.vr og (a.g.pV n) n y;apply gO;refine ao rfl rfl rfl (ad (pk [3,2,2,0,0,0,0,0,0,0,0,0,0,0,0,0,0]) rfl ?_);have e:a.pP n y= {a with g:=a.g.add n} :=by unfold KA.pP;rw[if_neg og]
    rw[e];exact⟨_,_,{c with q:=q2,d:=d1},rfl,⟨(by show q2.toSF.Ok _ _ _;rw[q7];exact xt.mono (Nat.le_refl _) og),yZ,hc.F,hc.rp,hc.rc,hc.rl,hc.tb,fun m m0 m1 hm=>hc.tk m m0 m1 (by have hm:q2.toSF.aa (10+m)=true:=hm;rw[q7]at hm;exact Fa.SF.PR m0 hm)⟩,rfl⟩
def Ic(a:KA)(b:KZ)(c:KC)(N:Nat)(T:Int)(ho:a.Ok T)(hc:cH a c N T)(hT:T<=800000)(n:Int):Spec Tryz.prog 84 [aC b.kb 0 0,iI n] (cU a b c []) (fun v H1=>∃ (e:Int) (c1:KC),v=az 102 e/\cH (a.Ea n) c1 (N+1) T/\H1=(cU (a.Ea n) b c1 [])):=by
 apply Spec.go 21 [0,1,4,5,13] [] Tryz.func84 rfl rfl rfl;intro W;apply ld .aa (eI _);refine cq (UY _ _ a.g n) (pk [1]) ?_;refine cd rfl ?_ ?_<;>intro h1
 ·have hae:a.g.cY n≠0:=h1;refine ah rfl rfl (ad (pk [1,0,0,0,0,0,0,0,0,0,0,0,0,0,0,0,0]) rfl ?_);exact⟨_,c,rfl,(hc.up (Nat.le_succ _) (Int.le_refl _)).same (Int.le_refl _) rfl,rfl⟩
 ·have hae:=h1;apply ld (.av .aa) (eJ _);refine ca (Kw _ _ c.q c.d hc.qO.dS hc.qR n hc.qO.LO) (pk [3,3]) ?_;rintro _ _ ⟨rfl,q2,q7,yZ,rfl⟩;apply gO;refine ah rfl rfl (ad (pk [3,2,2,0,0,0,0,0,0,0,0,0,0,0,0,0,0]) rfl ?_);exact⟨_,{c with q:=q2},rfl,⟨(by show q2.toSF.Ok _ _ _;rw[q7];exact(hc.qO.qx og _).mono og og),yZ,hc.F,hc.rp,hc.rc,hc.rl,hc.tb,fun m m0 m1 hm=>hc.tk m m0 m1 (by have hm:q2.toSF.aa (10+m)=true:=hm;rw[q7]at hm;exact Fa.SF.LQ hm)⟩,rfl⟩
def VU(a:KA)(b:KZ)(c:KC)(N:Nat)(T:Int)(ho:a.Ok T)(hc:cH a c N T)(hT:T<=800000)(n x y:Int):Spec Tryz.prog 85 [aC b.kb 0 0,iI n,iI x,iI y] (cU a b c []) (fun v H1=>v=az 102 (a.g.jS n x y)/\∃ c1:KC,cH (a.VS n x y) c1 N T/\H1=(cU (a.VS n x y) b c1 [])):=by
 apply Spec.go 17 [0,1,2,3,8] [] Tryz.func85 rfl rfl rfl;intro W;apply ld .aa (eI _);refine cq (YC _ _ a.g n x y) (pk [1]) ?_;refine ah rfl rfl (ad (pk [1,0,0,0,0,0,0,0,0,0,0,0,0,0,0,0,0]) rfl ?_);exact⟨rfl,c,hc.same (Int.le_refl _) rfl,rfl⟩
def Rp(a:KA)(b:KZ)(c:KC)(N:Nat)(T:Int)(ho:a.Ok T)(hc:cH a c N T)(hT:T<=800000)(n:Int)(o:Bool):Spec Tryz.prog 88 [aC b.kb 0 0,iI n,.bool o] (cU a b c []) (fun v H1=>∃ (e:Int) (c1:KC),v=az 102 e/\cH a c1 (N+1) T/\H1=(cU a b c1 [])):=by
 apply Spec.go 14 [0,1,2,6] [] Tryz.func88 rfl rfl rfl;intro W;apply ld .aa (eJ _);refine ca (U2 _ _ c.q c.d hc.qO.dS hc.qR n o) (pk [3,3]) ?_;rintro _ _ ⟨rfl,q2,q7,yZ,rfl⟩;apply gO;refine ah rfl rfl (ad (pk [2,2,2,0,0,0,0,0,0,0,0,0,0,0,0,0,0]) rfl ?_);exact⟨_,{c with q:=q2},rfl,⟨(by show q2.toSF.Ok _ _ _;rw[q7];exact(hc.qO.freeze _ _).mono og og),yZ,hc.F,hc.rp,hc.rc,hc.rl,hc.tb,(fun m m0 m1 hm=>hc.tk m m0 m1 (by have hm:q2.toSF.aa (10+m)=true:=hm;rw[q7,Fa.SF.Jg]at hm;exact hm))⟩,rfl⟩
def VV(a:KA)(b:KZ)(c:KC)(N:Nat)(T:Int)(ho:a.Ok T)(hc:cH a c N T)(hT:T<=800000)(n x y:Int):Spec Tryz.prog 89 [aC b.kb 0 0,iI n,iI x,iI y] (cU a b c []) (fun v H1=>∃ (e:Int) (c1:KC),v=az 102 e/\cH a c1 (N+1) T/\H1=(cU a b c1 [])):=by
 apply Spec.go 17 [0,1,2,3,8] [] Tryz.func89 rfl rfl rfl;intro W;apply ld .aa (eJ _);refine ca (YD _ _ c.q c.d hc.qO.dS hc.qR n x y) (pk [3,3]) ?_;rintro _ _ ⟨rfl,q2,q7,yZ,rfl⟩;apply gO;refine ah rfl rfl (ad (pk [2,2,2,0,0,0,0,0,0,0,0,0,0,0,0,0,0]) rfl ?_);exact⟨_,{c with q:=q2},rfl,⟨(by show q2.toSF.Ok _ _ _;rw[q7];exact(hc.qO.xA og _ _ _).mono og og),yZ,hc.F,hc.rp,hc.rc,hc.rl,hc.tb,(fun m m0 m1 hm=>hc.tk m m0 m1 (by have hm:q2.toSF.aa (10+m)=true:=hm;rw[q7,Fa.SF.PO]at hm;exact hm))⟩,rfl⟩
def Zh(a:KA)(b:KZ)(c:KC)(N:Nat)(T:Int)(ho:a.Ok T)(hc:cH a c N T)(hT:T<=800000)(hN:N<=800):Spec Tryz.prog 46 [aC b.kb 0 0] (cU a b c []) (fun v H1=>∃ (r:Int) (c1:KC),v=iI r/\(r<0\/(0<=r/\r<20/\c1.q.aa (10+r)=true))/\cH a c1 (N+1) T/\H1=(cU a b c1 [])):=by
 apply Spec.go 8 [0,2] [] Tryz.func46 rfl rfl rfl;intro W;apply ld .aa (eJ _);refine ca (U3 _ _ c.q c.d hc.qO.dS hc.qR (fun n a b=>by have:=hc.qO.aO n a b;omega) (2000000000*N) og hc.qO.ss (by have:=hc.qO.gN;omega) (hc.qO.oK og).set) (pk [3,3]) ?_;rintro _ _ ⟨rfl,q2,q7,yZ,rfl⟩;apply gO;refine ah rfl rfl (ad (pk [2,2,2,0,0,0,0,0,0,0,0,0,0,0,0,0,0]) rfl ?_);have hw:=Fa.SF.Tg hc.qO og;exact⟨_,{c with q:=q2},rfl,(by show _\/(_/\_/\q2.toSF.aa _=true);rw[q7];exact hw),⟨(by show q2.toSF.Ok _ _ _;rw[q7];exact(hc.qO.l6 og og).mono og og),yZ,hc.F,hc.rp,hc.rc,hc.rl,hc.tb,(fun m m0 m1 hm=>hc.tk m m0 m1 (by have hm:q2.toSF.aa (10+m)=true:=hm;rw[q7,Fa.SF.zy]at hm;exact hm))⟩,rfl⟩
open Go.X.Vm
def adh:cV Tryz.prog 159=true:=kq
def afI:cV Tryz.prog 50=true:=kq
def VW:eC Tryz.prog 101 1=some 440:=kq
def DB:jw Tryz.prog 91=true:=kq
theorem Zi(a:KA)(b:KZ)(c:KC)(n z:Int){q:SC}{d:Int->Nat} :kp {a with u:=ae a.u n {a.u n with kx:=z},g:=g} b {c with q:=q,d:=d} =(kp a b c).put n {(kp a b c).u n with kx:=z} :=(Uz a b c n {a.u n with kx:=z}).symm
theorem VX(a:KA)(n z:Int) :iR {a with u:=ae a.u n {a.u n with kx:=z},g:=g} =iR a:=by grind [iR,ae]
set_option maxHeartbeats 8000000 in
def Zj(a:KA)(b:KZ)(c:KC)(N:Nat)(T:Int)(ho:a.Ok T)(hc:cH a c N T)(hT:T<=800000)(n z:Int):Spec Tryz.prog 86 [aC b.kb 0 0,iI n,iI z] (cU a b c []) (fun v H1=>∃ (e:Int) (c1:KC),v=az 102 e/\(e=0->a.aI n=0/\a.KW n z=0)/\cH (a.sD n z) c1 (N+1) (T+1)/\H1=(cU (a.sD n z) b c1 [])):=by
 apply Spec.go 47 [0,1,2,6,7,8,16,34] [] Tryz.func86 rfl rfl rfl;intro W;refine ca (ef b.kb (kp a b c) n) .h1 ?_;rintro _ _ ⟨⟨hl,rfl⟩ | ⟨hl,rfl⟩,rfl⟩
 ·obtain⟨jy,gh⟩:=bC hl;have hl:a.aI n=0:=hl;have gh:(a.u n).st=1:=gh;have lB:=o5 a b c (n:=n);have Ll:=ho.wk.sys.mo n.toNat og;apply gO;refine XR.mono (fun _ bJ=>km (z:=n.toNat) (fv jy) (pk [7,7]) bJ) ?_;refine XC.fI mixed (f:=16) (l:= #[qF,qF,qF,qF,qF,qF,qF,qF,qF,qF,qF,qF,qF,qF,qF,qF]) rfl rfl XM.iY (XQ.pv (i:=0) rfl kq rfl (V.move rfl) rfl rfl (XQ.pv (i:=1) rfl kq rfl (aW rfl) rfl rfl (XQ.pv (i:=2) rfl kq rfl (V.fieldAddr rfl VW) rfl rfl (XQ.load (i:=3) (.cells _ _ _ _) [14] rfl kq rfl (.t4 .aa) (V.load rfl dJ (eI _) DB) rfl kq rfl (XQ.pv (i:=4) rfl kq rfl (V.move rfl) rfl rfl (XQ.pv (i:=5) rfl kq rfl (aW rfl) rfl rfl (XQ.pv (i:=6) rfl kq rfl (V.fieldAddr rfl HW) rfl rfl (XQ.load (i:=7) (.cells _ _ _ _) [14] rfl kq rfl (.t4 .aa) (V.load rfl dJ (dx _) kE) rfl kq rfl (XQ.pv (i:=8) rfl kq rfl (V.move rfl) rfl rfl (XQ.pv (i:=9) rfl kq rfl (V.move rfl) rfl rfl (XQ.pv (i:=10) rfl kq rfl (aW rfl) rfl rfl (XQ.pv (i:=11) rfl kq rfl (V.fieldAddr rfl HX) rfl rfl (XQ.load (i:=12) (.cells _ _ _ _) [13,14] rfl kq rfl (.t4 .aa) (V.load rfl dJ (di _ og lB) Vc) rfl kq rfl (XQ.call (i:=13) rfl kq rfl rfl (r8 b.bb _ _ _ (a.f n.toNat) Ll) .h1 afI rfl (by rintro _ _ ⟨rfl,rfl⟩;all_goals(intro _ dG;exact⟨fun hs=>(hs 13 (by first | (simp;done) | (simp;rfl)) rfl).elim,fun _=>eD (.t4 .aa) _ dG,fun _=>eD (.t4 .aa) _ dG,trivial⟩)) ?_))))))))))))));rintro _ _ ⟨rfl,rfl⟩;apply XQ.call (i:=14) rfl kq rfl rfl (aco _ _ a.g ho.wk.gI.ok _ _ _ _ (1000*T) (by have:=ho.wk.T0;omega) ho.wk.gS) (pk [5]) adh rfl (by rintro _ _ ⟨rfl,rfl⟩;all_goals(intro _ dG;exact⟨fun hs=>(hs 13 (by first | (simp;done) | (simp;rfl)) rfl).elim,fun hs=>(hs 14 (by first | (simp;done) | (simp;rfl)) rfl).elim,fun hs=>(hs 14 (by first | (simp;done) | (simp;rfl)) rfl).elim,trivial⟩));rintro _ _ ⟨rfl,rfl⟩;refine XQ.pv (i:=15) rfl kq rfl (V.assign rfl) rfl rfl (XQ.done kq (gE (XR.mono (fun _ bJ=>oW (f:=a.f) (z:=n.toNat) (ps:=c.pp) (cs:=c.cc) (mb:=c.mb) (fv jy) (pk [1,1,1,1]) bJ) ?_)));refine cd rfl ?_ ?_<;>intro h1
  ·have hje:a.KW n z≠0:=h1;refine ah rfl rfl (ad (pk [3,2,2,2,2,2,2,0,0,0,0,0,0,0,0,0,0]) rfl ?_);try dsimp only[aL,aJ,aD,aR]
   have e:a.sD n z=a:=by unfold KA.sD;rw[if_pos (.inr hje)]
   grind [kp,VT,cH.up]
  ·have hje:¬a.KW n z≠0:=h1;refine st (.t3 .aa) (Hq _ og _) rfl (ld (.t3 .aa) (eJ _) ?_);refine ca (MM _ _ c.q c.d hc.qO.dS hc.qR n z) (pk [5,5]) ?_;rintro _ _ ⟨rfl,q2,q7,yZ,rfl⟩;obtain⟨d1,xt⟩:=hc.qO.move og n z;apply gO;refine ah rfl rfl (ad (pk [5,4,4,0,0,2,2,0,0,0,0,0,0,0,0,0,0]) rfl ?_);try dsimp only[aL,aJ,aD,aR]
   have e:a.sD n z= {a with u:=ae a.u n {a.u n with kx:=z},g:=a.g.move (a.u n).kx z 1 (a.CN n)} :=by unfold KA.sD;rw[if_neg fun q=>q.elim (fun q=>q hl) hje]
   rw[e];refine⟨_,{c with q:=q2,d:=d1},rfl,(fun _=>⟨hl,og⟩),⟨(by show q2.toSF.Ok _ _ _;rw[q7];exact xt.mono (Nat.le_refl _) og),yZ,FF.Ok.up hc.F og,hc.rp,hc.rc,hc.rl,hc.tb,fun m m0 m1 hm=>by rw[(uv _ _ _ _).1];exact hc.tk m m0 m1 (by have hm:q2.toSF.aa (10+m)=true:=hm;rw[q7,Fa.SF.PQ]at hm;exact hm)⟩,?_⟩;try unfold cU
   rw[Zi a b c n z,VX];rfl
 ·have hl:a.aI n≠0:=hl;have iD:(kp a b c).aI n=a.aI n:=rfl;rw[iD];apply gO;refine ah rfl rfl (ad (pz 17) rfl ?_);try dsimp only[aL,aJ,aD,aR]
  have e:a.sD n z=a:=by unfold KA.sD;rw[if_pos (.inl hl)]
  rw[e];exact⟨a.aI n,c,(aQ _ hl).symm,(fun q=>absurd q hl),hc.up (Nat.le_succ _) og,rfl⟩
end Go.X.Kn

namespace Go.X.Kn
open Go Go.X Go.X.Tr
variable{B T n:Int}{d:Int->Nat}{c:KC}{F:Tr.FF}
def KA.Ok.tz{a:KA}(h:a.Ok T)(c:a.aI n=0):(0<=(a.s.bI n).1/\(a.s.bI n).1<6)/\a.s.aa (a.s.bI n).1=true:=by
 obtain⟨hn,hs⟩:=bX c;obtain⟨e,_,r,hh⟩:=SS.Inv.is0 h.wk.sI hn ((h.wk.lc n hn.1 hn.2).1 og);simp_all
def yU(F:Tr.FF)(l:List MT)(r:WH)(x:ByteArray):(qN F l r x).size<=x.size:=by
 unfold qN;split
 ·exact Nat.zero_le _
 ·unfold ng bW;split
  ·by_cases h:0<(ea (x.extract 1 x.size)).length
   ·have h1:=Gj (x.extract 1 x.size) (z:=((ea (x.extract 1 x.size)).length:Int)-1) ⟨og,og⟩;grind [ByteArray.size_extract]
   ·have e:ea (x.extract 1 x.size)=[]:=by cases hp:ea (x.extract 1 x.size)with
     | nil=>rfl
     | cons a b=>rw[hp]at h;simp at h
    rw[e];exact Nat.zero_le _
  ·exact Nat.zero_le _
theorem wM(s:Tr.FF)(n:Int)(x:ByteArray)(k:Int):(s.make n x k).roots=s.roots:=by
 unfold Tr.FF.make;split<;>rfl
def yt(s:Tr.FF)(n:Int)(x:ByteArray):(s.ed n x).roots=s.roots:=by
 unfold Tr.FF.ed;split
 ·unfold Tr.FF.qL;split<;>rfl
 rfl
def Dm(s:Tr.FF)(k n:Int)(x:ByteArray):(s.zU k n x).roots=s.roots:=by
 unfold Tr.FF.zU;split<;>rfl
def Dn(s:Tr.FF)(d:Int->Nat)(n:Int)(x:ByteArray)(to:Int)(y:ByteArray):(s.move d n x to y).roots=s.roots:=by
 unfold Tr.FF.move;repeat' split
 all_goals rfl
def rX(s:Tr.FF)(O:Tr.OS)(n:Int):(mH s O n).roots=s.roots:=by
 unfold mH;split;all_goals grind [j9]
theorem cH.Nc{a a':KA}{N:Nat}{T':Int}(h:cH a c N T){F:FC}(hF:F.toFF.Ok d T')(hT:T<=T')(hp:F.rP=c.F.rP)(hc:F.rC=c.F.rC)(hr:F.toFF.roots=c.F.toFF.roots)(e:a'.s=a.s:=by rfl)(hu:∀ n,(a.u n).st=1->(a'.u n).st=1:=by exact fun _ q=>q):cH a' {c with F:=F,dF:=d} N T':=
 ⟨h.qO.mono (Nat.le_refl _) og,h.qR,hF,hp.trans h.rp,hc.trans h.rc,hr.trans h.rl,fun z h0 h1 h2=>h.tb z h0 h1 (by rwa[e]at h2),fun n n0 n1 hn=>hu n (h.tk n n0 n1 hn)⟩
theorem Nd(a:KA)(b:KZ){e:KC}(h1:e.mb=c.mb)(h2:∀ z,(e.t z).b=(c.t z).b):kp a b e=kp a b c:=by grind [kp]
theorem Nf{t:Nat->TB}{z:Nat}{m:TB}(h:m.b=(t z).b):∀ y,(bF t z m y).b=(t y).b:=fun y=>by
 grind [bF]
def cH.tab{a:KA}{N:Nat}{T':Int}(h:cH a c N T){F:FC}{z:Nat}{m:TB}(hm:m.Ok)(hF:F.toFF.Ok c.dF T')(hp:F.rP=c.F.rP)(hc:F.rC=c.F.rC)(hr:F.toFF.roots=c.F.toFF.roots):cH a {c with F:=F,t:=bF c.t z m} N T':=
 ⟨h.qO.mono (Nat.le_refl _) og,h.qR,hF,hp.trans h.rp,hc.trans h.rc,hr.trans h.rl,fun y h0 h1 h2=>by
  show(bF c.t z m y.toNat).Ok
  by_cases e:y.toNat=z
  ·rw[e,rS];exact hm
  ·rw[lM _ _ e];exact h.tb y h0 h1 h2,h.tk⟩
def Rq{l:List MT}(h:l.length<=6)(a z:WH):(o4 F l a z).length<=6:=by
 unfold o4;split
 ·rename_i c;have:l.length≠6:=by
   intro q;unfold tW at c;omega
  grind
 omega
def K0{l:List MT}(h:l.length<=6)(w:WH):(mP l w).length<=6:=by
 unfold mP;rw[List.length_eraseIdx];split<;>omega
def K1(F:Tr.FF)(l:List MT)(a z:WH):(qP F l a z).roots=F.roots:=by
 unfold qP;split;all_goals grind [j9]
def E0(F:Tr.FF)(l:List MT)(w:WH):(pK F l w).roots=F.roots:=by
 unfold pK;split;all_goals grind [FF.mF]
def KA.VY(a:KA)(n x:Int)(w:Bool):KA:= {a with u:=BW a.u n (a.mK n) (a.O.first+1),O:=a.O.lay a.O.first 1 x w,P:=a.P}
def KA.O1(a:KA)(n:Int)(a1:KA):Prop:=a1=a\/∃ x w,a.aI n=0/\(0<=a.mK n/\a.mK n<6)/\(0<=a.O.first/\a.O.first<24)/\a1=a.VY n x w
theorem KA.Ok.opens{a a1:KA}(h:a.Ok T)(hT:T<=900000)(VF:1<=T)(ho:a.O1 n a1):a1.Ok (T+1):=by
 rcases ho with rfl | ⟨x,w,hl,hs,hf,rfl⟩
 ·grind [KA.Ok.up]
 ·exact h.io og og (fun p=>(jz _ _ _ _ p).1) (fun p=>(jz _ _ _ _ p).2) (yL (bX hl).1 _ _ h.wk.out) (D3 og h.wk.fd) ((h.wk.OI.lay VF _ _ _ _ (.inl rfl) fun q=>absurd rfl q).mono og) (h.wk.PI.mono og)
def zZ{B':Int}(h:F.Ok d B)(O:Tr.OS)(n:Int)(hB:B+1<=B':=by omega):(mH F O n).Ok d B':=by
 unfold mH;split
 ·exact FF.Ok.up (h.dP n) hB
 grind [FF.Ok.up]
def NVs(x:NV):Prop:=((0<=x.aU/\x.aU<=2)/\ -1000000<=x.bG/\x.bG<=1000000)/\(0<=x.bj/\x.bj<=1000000)/\0<=x.size/\x.size<=100
def afJ(h:F.Ok d B)(hB:B<=1000000)(n:Int):NVs (F.Ww n):=by
 unfold Tr.FF.Ww;split
 ·rename_i c;have hr:0<=n/\n<40:=by
   unfold Tr.FF.cx at c;omega
  have h1:=(h.sh hB).num n hr.1 hr.2;have h2:=(h.sh hB).data n hr.1 hr.2;have h3:=(h.sh hB).jd n hr.1 hr.2;have h4:=h.dS.kinds n hr.1 hr.2;grind [NVs]
 ·exact⟨⟨⟨dq,dq⟩,dq,dq⟩,⟨dq,dq⟩,dq,dq⟩
theorem afK:NVs NV.zero:=⟨⟨⟨dq,dq⟩,dq,dq⟩,⟨dq,dq⟩,dq,dq⟩
def Zk(h:F.Ok d B)(hn:F.cx n 2=0):(F.aN n).length<=8/\∀ x∈F.aN n,x.size<=8:=by
 have hr:0<=n/\n<40:=by
  unfold Tr.FF.cx at hn;omega
 exact⟨(h.dS.jd n hr.1 hr.2).2.2.1,fun x hx=>Tr.FF.Kc (h.dS.Mj n hr.1 hr.2 x hx)⟩
end Go.X.Kn
