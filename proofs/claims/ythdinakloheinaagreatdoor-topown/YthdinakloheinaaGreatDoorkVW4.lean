import Derived.Test.YthdinakloheinaaGreatDoorkFW3
import Derived.Shelf.SlGeneric
import Derived.Ground.SlsfProg
set_option linter.all false
namespace Go.X.Fa
open Go Go.Proofs Go.X
set_option maxRecDepth 20000
set_option maxHeartbeats 4000000
def K3(b o:Nat)(s:SC)(d:Int->Nat)(hI:s.toSF.Inv d)(hR:s.mv)(n:Int)(Mc:∀ n,0<=n->n<10->s.aa n=true->(∀ i,s.cv i=true->s.aD i≠n)->s.cv n=false):Spec Tryz.prog 157 [az b o 0,iI n] [.cells b o 2281 (aH s),.aW ck (s.dg 254)] (fun v H1=>v=ay 102 (s.nN n)/\∃ t:SC,t.toSF=s.toSF.o3 n/\t.mv/\H1=[.cells b o 2281 (aH t),.aW ck (t.dg 254)]):=by
 refine Spec.go 49 [0,1,4,6,7,15,18,20,21,40] [] Tryz.func157 fun W=> ?_;refine ca (vI _ _ _ _) .h1 ?_;rintro _ _ (⟨h1,rfl,rfl⟩ | ⟨h1,rfl,rfl⟩)
 ·obtain⟨i0,i1,i2,i3⟩:=h1;apply gO;refine cd ?_ ?_<;>intro h2
  ·refine bI (pz 2) ?_;have e:s.nN n=5:=by unfold SF.nN;rw[if_neg og,if_pos (.inl og)]
   exact⟨by rw[e]<;>rfl,s,by unfold SF.o3;rw[if_neg og],hR,rfl⟩
  ·refine lp (σ:=Int) (fun k=>(30-k).toNat) (fun k=>(0<=k/\k<=30)/\∀ j:Int,0<=j->j<k->¬(s.aa j=true/\s.aD j=n)) (fun k=>[(20,iI k),(0,az b o 0),(1,iI n)]) (fun k=>XM W (cm [.cells b o 2281 (aH s),.aW ck (s.dg 254)]) [.cells b o 2281 (aH s),.aW ck (s.dg 254)]) (0) ?_ S3 (xq (pz 2)) ?_
   ·grind
   intro k hk;obtain⟨hk,BU⟩:=hk;apply gC;refine cd ?_ ?_<;>intro h3
   ·refine sd (ld .aa (iW _ _) ?_);refine P9 30 rfl ?_ ?_<;>intro h4
    ·try simp only[sb]at h4
     refine sd (ld .aa (eX _ _) ?_);refine cd ?_ ?_<;>intro h5
     ·refine bI (pz 2) ?_;have ha:=SF.Of (s:=s.toSF) (n:=n) hk.1 og (by simp_all) (by simp_all);have e:s.nN n=5:=by unfold SF.nN;rw[if_neg og,if_pos (.inr ha)]
      exact⟨by rw[e]<;>rfl,s,by unfold SF.o3;rw[if_neg og],hR,rfl⟩
     ·refine sd (ag (k+1) ?_ ?_ S3 (xq (pz 2)));all_goals grind
    ·try simp only[sb]at h4
     refine sd (ag (k+1) ?_ ?_ S3 (xq (pz 2)));all_goals grind
   ·refine XO.v (V.build (vs:= #[]) rfl (v:=.agg (lW (wQ false 0 0))) fun _=>kq) rfl (gO ?_);refine sd (oS (XO.gg rfl rfl .aa (tS _ n 0 0 false) (o4 _) rn (XO.mono (fun _ bL=>XM.newRow (s:=s) (z:=n) og (pk [1]) bL) ?_)));apply gO;refine bI (pk [1,0]) ?_;have hk3:∀ j:Int,0<=j->j<30->¬(s.aa j=true/\s.aD j=n):=fun j a b=>BU j a og;have ha:=SF.X6 (s:=s.toSF) (n:=n) hk3;have e:s.nN n=0:=by unfold SF.nN;rw[if_neg og,if_neg (by rw[ha];simp;omega)]
    have Zq:∀ i,s.cv i=true->s.aD i≠n:=fun i hi e9=>by
     obtain⟨a,b9,c⟩:=hI.cv i hi;grind
    exact⟨by rw[e]<;>rfl,_,by unfold SF.o3;rw[if_pos e],hR.new (Mc n i1 i2 i3 Zq) Zq 0 0 false,rfl⟩
 ·have i0:=h1;apply gO;refine bI (pz 2) ?_;try dsimp only[aU,aS,bG,bN]
  have e:s.nN n=s.vO n:=by unfold SF.nN;rw[if_pos aq]
  exact⟨by rw[e,aK _ aq],s,by unfold SF.o3;rw[if_neg og],hR,rfl⟩
def Ns(b o:Nat)(s:SC)(d:Int->Nat)(hI:s.toSF.Inv d)(hR:s.mv)(n:Int):Spec Tryz.prog 190 [az b o 0,iI n] [.cells b o 2281 (aH s),.aW ck (s.dg 254)] (fun v H1=>v=ay 102 (s.xQ n)/\∃ t:SC,t.toSF=s.toSF.wb d n/\t.mv/\H1=[.cells b o 2281 (aH t),.aW ck (t.dg 254)]):=by
 refine Spec.go 30 [0,1,4,5,6,14] [] Tryz.func190 fun W=> ?_;refine ca (Nq _ _ _ _) .h1 ?_;rintro _ _ (⟨h1,rfl,rfl⟩ | ⟨h1,rfl,rfl⟩)
 ·obtain⟨i0,i1,i2,i3⟩:=h1;apply gO;refine st .aa (lj _ _ og _) rfl (sd ?_);refine ca (pD _ _ {s with cO:=ad s.cO (10+n) false} d ⟨hI.h0,hI.up,hI.cv,hI.quo,hI.wt⟩ hR _ (.inr ⟨og,og,i3⟩)) (pz 2) ?_;rintro _ _ ⟨rfl,t,tl,tR,rfl⟩;have tw:t.toSF=s.toSF.gq d n false:=by rw[tl];unfold SF.gq;rw[if_pos i0]
  have twz:t.cv (10+n)=false:=by
   show t.toSF.cv (10+n)=false;rw[tl,SF.G8 (s:=({s with cO:=ad s.cO (10+n) false} :SC).toSF) ⟨hI.h0,hI.up,hI.cv,hI.quo,hI.wt⟩ og og i3];unfold SF.ready;grind [aj]
  have tI:t.toSF.Inv d:=by rw[tl];exact SF.tT (s:=({s with cO:=ad s.cO (10+n) false} :SC).toSF) ⟨hI.h0,hI.up,hI.cv,hI.quo,hI.wt⟩ (.inr ⟨og,og,i3⟩)
  have thp:t.toSF.aa=s.aa/\t.toSF.aD=s.aD:=by rw[tl];exact⟨SF.mO _ _ _,SF.Ji _ _ _⟩
  apply gO;refine sd (XO.v (V.build (vs:= #[]) rfl (v:=.agg (lW (wQ false 0 0))) fun _=>kq) rfl (gO ?_));refine sd (oS (XO.gg rfl rfl .aa (tS _ (10+n) 0 0 false) (o4 _) rn (XO.mono (fun _ bL=>XM.newRow (s:=t) (z:=(10+n)) og (pk [1]) bL) ?_)));apply gO;refine bI (pk [1,0]) ?_;have Zq:∀ i,t.cv i=true->t.aD i≠10+n:=fun i hi e9=>by
   obtain⟨a,b9,c⟩:=tI.cv i hi;have h9:=(tI.up i a b9 c).2.1;omega
  exact⟨by rw[i0];rfl,_,by show t.toSF.p9 _ _ _ _=_;unfold SF.wb;rw[if_pos i0,tw],tR.new twz Zq 0 0 false,rfl⟩
 ·have i0:=h1;apply gO;refine bI (pz 2) ?_;try dsimp only[aU,aS,bG,bN]
  exact⟨by rw[aK _ aq],s,by unfold SF.wb;rw[if_neg aq],hR,rfl⟩
def Nt(b o:Nat)(s:SC)(d:Int->Nat)(hI:s.toSF.Inv d)(hR:s.mv)(n g:Int):Spec Tryz.prog 160 [az b o 0,iI n,iI g] [.cells b o 2281 (aH s),.aW ck (s.dg 254)] (fun v H1=>v=ay 102 (s.eK n g)/\∃ t:SC,t.toSF=s.toSF.move d n g/\t.mv/\H1=[.cells b o 2281 (aH t),.aW ck (t.dg 254)]):=by
 refine Spec.go 54 [0,1,2,6,7,8,9,17,26] [] Tryz.func160 fun W=> ?_;refine ca (Nq _ _ _ _) .h1 ?_;rintro _ _ (⟨h1,rfl,rfl⟩ | ⟨h1,rfl,rfl⟩)
 ·obtain⟨i0,i1,i2,i3⟩:=h1;apply gO;refine ca (vI _ _ _ _) .h1 ?_;rintro _ _ (⟨h2,rfl,rfl⟩ | ⟨h2,rfl,rfl⟩)
  ·obtain⟨k0,k1,k2,k3⟩:=h2;apply gO;refine ld .aa (sN _ _) (st .aa (lj _ _ og _) rfl (sd ?_));refine ca (pD _ _ {s with cO:=ad s.cO (10+n) false} d ⟨hI.h0,hI.up,hI.cv,hI.quo,hI.wt⟩ hR _ (.inr ⟨og,og,i3⟩)) (pz 2) ?_;rintro _ _ ⟨rfl,t,tl,tR,rfl⟩;have tw:t.toSF=s.toSF.gq d n false:=by rw[tl];unfold SF.gq;rw[if_pos i0]
   have twz:t.cv (10+n)=false:=by
    show t.toSF.cv (10+n)=false;rw[tl,SF.G8 (s:=({s with cO:=ad s.cO (10+n) false} :SC).toSF) ⟨hI.h0,hI.up,hI.cv,hI.quo,hI.wt⟩ og og i3];unfold SF.ready;grind [aj]
   have tI:t.toSF.Inv d:=by rw[tl];exact SF.tT (s:=({s with cO:=ad s.cO (10+n) false} :SC).toSF) ⟨hI.h0,hI.up,hI.cv,hI.quo,hI.wt⟩ (.inr ⟨og,og,i3⟩)
   have thp:t.toSF.aa=s.aa/\t.toSF.aD=s.aD:=by rw[tl];exact⟨SF.mO _ _ _,SF.Ji _ _ _⟩
   have RN:SF.Inv ({t with aD:=ad t.aD (10+n) g,v:=ad t.v (10+n) 0,cO:=ad t.cO (10+n) (s.cO (10+n))} :SC).toSF (ad d (10+n) (d g+1)):=tI.aaF (n:=10+n) (g:=g) og ⟨k1,k2,by rw[thp.1];exact k3⟩ twz _ _;have hR2:SC.mv {t with aD:=ad t.aD (10+n) g,v:=ad t.v (10+n) 0,cO:=ad t.cO (10+n) (s.cO (10+n))} :=tR.aid (z:=10+n) twz ({t with aD:=ad t.aD (10+n) g,v:=ad t.v (10+n) 0,cO:=ad t.cO (10+n) (s.cO (10+n))} :SC).toSF rfl (fun i hi=>ae _ _ hi) fun i hi=>ae _ _ hi;apply gO;refine st .aa (zJ _ _ og _) rfl (st .aa (tP _ _ og _) rfl (st .aa (lj _ _ og _) rfl (sd ?_)));refine ca (pD _ _ {t with aD:=ad t.aD (10+n) g,v:=ad t.v (10+n) 0,cO:=ad t.cO (10+n) (s.cO (10+n))} (ad d (10+n) (d g+1)) RN hR2 _ (.inr ⟨og,og,by show t.toSF.aa _=true;rw[thp.1];exact i3⟩)) (pz 2) ?_;rintro _ _ ⟨rfl,r,rl,rR,rfl⟩;apply gO;refine bI (pz 2) ?_;have e:s.eK n g=0:=by unfold SF.eK;rw[if_neg og];exact k0
   exact⟨by rw[e]<;>rfl,r,by rw[rl];unfold SF.move SF.mv1;rw[if_pos e,<-tw],rR,rfl⟩
  ·have k0:=h2;apply gO;refine bI (pz 2) ?_;try dsimp only[aU,aS,bG,bN]
   have e:s.eK n g=s.vO g:=by unfold SF.eK;rw[if_neg og]
   exact⟨by rw[e,aK _ aq],s,by unfold SF.move;rw[if_neg og],hR,rfl⟩
 ·have i0:=h1;apply gO;refine bI (pz 2) ?_;try dsimp only[aU,aS,bG,bN]
  have e:s.eK n g=s.xQ n:=by unfold SF.eK;rw[if_pos aq]
  exact⟨by rw[e,aK _ aq],s,by unfold SF.move;rw[if_neg og],hR,rfl⟩
def Wa(b o:Nat)(s:SC)(d:Int->Nat)(hI:s.toSF.Inv d)(hR:s.mv)(hD:∀ n,0<=n->n<30->d n<=1000)(Bd:Int)(hB:0<=Bd/\Bd<=100000000000000)(hS:s.toSF.bV Bd)(alF:0<=s.hQ/\s.hQ<=Bd)(Mc:(s.toSF.oX d).nh):Spec Tryz.prog 112 [az b o 0] [.cells b o 2281 (aH s),.aW ck (s.dg 254)] (fun v H1=>v=iI (s.toSF.kM d).1/\∃ t:SC,t.toSF=(s.toSF.kM d).2/\t.mv/\H1=[.cells b o 2281 (aH t),.aW ck (t.dg 254)]):=by
 refine Spec.go 94 [0,2,3,4,5,7,8,10,40,65,67,81] [] Tryz.func112 fun W=> ?_;refine lp (σ:=SC×Int) (fun x=>(10-x.2).toNat) (fun x=>x.1.mv/\x.1.toSF.Inv d/\(1<=x.2/\x.2<=10)/\x.1.toSF=s.toSF.mM d (x.2-1).toNat/\x.1.toSF.hQ=s.toSF.hQ/\x.1.toSF.bV Bd) (fun x=>[(3,iI x.2),(0,az b o 0)]) (fun x=>XM W (cm [.cells b o 2281 (aH s),.aW ck (s.dg 254)]) [.cells b o 2281 (aH x.1),.aW ck (SC.dg 254 x.1)]) ((s,1)) ?_ S2 (xq (pz 2)) ?_
 ·exact⟨hR,hI,sq,rfl,rfl,hS⟩
 intro x hx;obtain⟨xR,xI,Iu,VY,hxn,xS⟩:=hx;apply gC;refine cd ?_ ?_<;>intro h1
 ·have hqx:=xI.quo x.2 og og;refine sd ?_;refine rq [0,1,2,3,4,5,6,7,8,9,10,11,12,13,14,15,16,17,18,19,20,21,22] mixed ?_;apply ld .aa (iW _ _);refine P9 22 rfl ?_ ?_<;>intro h2
  ·try simp only[sb]at h2
   have hhr:x.1.aa x.2=true:=h2;apply ld .aa (ll _ _);refine sp 29 rfl ?_ ?_<;>intro h3
   ·apply ld .aa (AZ _);apply ld .aa (zN _ _ og);refine XO.v (V.rem rfl rfl (by first | decide | omega) _ (Int.tmod_eq_emod_of_nonneg og)) rfl (gO ?_);refine cd ?_ ?_<;>intro h4
    ·apply st .aa (oY _ _ og _) rfl;refine ca (pD _ _ ({x.1 with dL:=ad x.1.dL x.2 0} :SC) d ⟨xI.h0,xI.up,xI.cv,xI.quo,xI.wt⟩ xR _ (.inr ⟨og,og,hhr⟩)) (pz 2) ?_;rintro _ _ ⟨rfl,t,tl,tR,rfl⟩;apply gO;refine sd ?_;refine ag ((t,x.2+1)) ?_ ?_ S2 (xq (pz 2))
     ·omega
     ·refine⟨tR,?_,by simp;omega,?_,?_,?_⟩
      ·show t.toSF.Inv d;rw[tl];exact SF.tT (s:=({x.1 with dL:=ad x.1.dL x.2 0} :SC).toSF) ⟨xI.h0,xI.up,xI.cv,xI.quo,xI.wt⟩ (.inr ⟨og,og,hhr⟩)
      ·show t.toSF=s.toSF.mM d (x.2+1-1).toNat;rw[tl,SF.X8 Iu.1 VY ⟨hhr,aq,aq⟩]
      ·show t.toSF.hQ=_;rw[tl];exact(SF.j8 _ _ _).2.2.2.2.2.2.2.2.2.2.trans hxn
      ·show t.toSF.bV Bd;rw[tl];exact SF.bV.iv _ (({x.1 with dL:=ad x.1.dL x.2 0} :SC).toSF) _ ⟨xI.h0,xI.up,xI.cv,xI.quo,xI.wt⟩ (xS.dL hB.1 x.2) (.inr ⟨og,og,hhr⟩)
    ·refine sd ?_;refine ag ((x.1,x.2+1)) ?_ ?_ S2 (xq (pz 2))
     ·omega
     ·refine⟨xR,xI,by simp;omega,?_,hxn,xS⟩;show x.1.toSF=s.toSF.mM d (x.2+1-1).toNat;rw[SF.G9 Iu.1 VY];omega
   ·refine sd ?_;refine ag ((x.1,x.2+1)) ?_ ?_ S2 (xq (pz 2))
    ·omega
    ·refine⟨xR,xI,by simp;omega,?_,hxn,xS⟩;show x.1.toSF=s.toSF.mM d (x.2+1-1).toNat;rw[SF.G9 Iu.1 VY];omega
  ·try simp only[sb]at h2
   have hhr:x.1.aa x.2=false:=h2;refine sd ?_;refine ag ((x.1,x.2+1)) ?_ ?_ S2 (xq (pz 2))
   ·omega
   ·refine⟨xR,xI,by simp;omega,?_,hxn,xS⟩;show x.1.toSF=s.toSF.mM d (x.2+1-1).toNat;rw[SF.G9 Iu.1 VY];simp_all
 ·have Ss:x.2=10:=og;rw[show(x.2-1).toNat=9 from og]at VY;have hte:({x.1 with hQ:=x.1.hQ+1} :SC).toSF=(s.toSF.oX d):=by
   show({x.1.toSF with hQ:=x.1.toSF.hQ+1} :SF)= {s.toSF.mM d 9 with hQ:=s.toSF.hQ+1};simp_all
  have hI1:SF.Inv ({x.1 with hQ:=x.1.hQ+1} :SC).toSF d:=⟨xI.h0,xI.up,xI.cv,xI.quo,xI.wt⟩;have hR1:SC.mv ({x.1 with hQ:=x.1.hQ+1} :SC):=xR;have hS1:SF.bV ({x.1 with hQ:=x.1.hQ+1} :SC).toSF Bd:=xS;have II:∀ i,({x.1 with hQ:=x.1.hQ+1} :SC).toSF.cv i=true->0<i/\i<30:=fun i hi=>⟨(hI1.cv i hi).1,(hI1.cv i hi).2.1⟩;have hF:=hR1.first II (g:=0) og og
  rw[<-hte]at Mc;apply ld .aa (AZ _);refine sd ?_;apply st .aa (Jh _ _) rfl;refine sd ?_;apply XR.mono fun _ bL=>nx (z:=0) og (pz 2) bL;refine ca (Ph _ _ _ _ _) (pz 2) ?_;rintro _ _ ⟨rfl,rfl⟩;apply XO.mono fun _ bL=>rS (z:=0) og (pz 5) bL;apply gO;refine wM ?_ ?_<;>intro h5
  ·try simp only[sb]at h5
   have hb:({x.1 with hQ:=x.1.hQ+1} :SC).toSF.oW 0<0:=by
    simp_all
   have Wb:SF.dv d s.toSF= -1:=by
    unfold SF.dv;rw[<-hte];exact SF.ab7 _ _ og hb
   refine bI (pz 2) ?_;refine⟨?_,_,?_,hR1,rfl⟩
   ·unfold SF.kM;rw[Wb];rfl
   ·unfold SF.kM;rw[Wb];exact hte
  ·try simp only[sb]at h5
   have hb:¬({x.1 with hQ:=x.1.hQ+1} :SC).toSF.oW 0<0:=hF.1.1 h5;obtain⟨⟨b1,b2,b3⟩,b4,b5⟩:=SF.xU II hb;have hf1:(x.1.Q 0).first.1=({x.1 with hQ:=x.1.hQ+1} :SC).toSF.oW 0:=hF.2 hb
   have Wb:SF.Lv ({x.1 with hQ:=x.1.hQ+1} :SC).toSF (SF.G6 d 30) (x.1.Q 0).first.1=SF.dv d s.toSF:=by
    unfold SF.dv;rw[<-hte,SF.L9 _ _ og hb,hf1]
   have hbI:=hI1.cv _ b1;have hdb:=(hI1.up _ b4 b5 hbI.2.2).2.2.2;rw[b2]at hdb;refine lp (σ:=Int) (fun a=>SF.G6 d 30-d a) (fun a=>(0<a/\a<30/\({x.1 with hQ:=x.1.hQ+1} :SC).aa a=true)/\({x.1 with hQ:=x.1.hQ+1} :SC).cv a=true/\(∃ k,SF.G6 d 30<k+d a/\SF.Lv ({x.1 with hQ:=x.1.hQ+1} :SC).toSF k a=SF.dv d s.toSF)/\∃ j,SF.upW ({x.1 with hQ:=x.1.hQ+1} :SC).toSF j a) (fun a=>[(5,iI a),(0,az b o 0)]) (fun a=>XM W (cm [.cells b o 2281 (aH s),.aW ck (s.dg 254)]) [.cells b o 2281 (aH ({x.1 with hQ:=x.1.hQ+1} :SC)),.aW ck (SC.dg 254 ({x.1 with hQ:=x.1.hQ+1} :SC))]) ((x.1.Q 0).first.1) ?_ S2 (xq (pz 2)) ?_
   ·rw[hf1]at Wb ⊢;exact⟨⟨b4,b5,hbI.2.2⟩,b1,⟨SF.G6 d 30,og,Wb⟩,1,.inr ⟨b1,by show({x.1 with hQ:=x.1.hQ+1} :SC).toSF.aD _<=0;rw[b2];omega⟩⟩
   intro a ha;obtain⟨⟨a0,a1,a2⟩,aw,⟨k,hk,ak⟩,⟨j,ju⟩⟩:=ha;apply gC;refine cd ?_ ?_<;>intro h6
   ·have SG:=SF.Qo hI1 Mc a0 og aw;have hFa:=hR1.first II (g:=a) og og
    have hfa:(x.1.Q a).first.1=({x.1 with hQ:=x.1.hQ+1} :SC).toSF.oW a:=hFa.2 SG
    obtain⟨⟨c1,c2,c3⟩,c4,c5⟩:=SF.xU II SG;have hcI:=hI1.cv _ c1;have hdc:=(hI1.up _ c4 c5 hcI.2.2).2.2.2;rw[c2]at hdc;have hma:=SF.BX d 30 a og og;have hmc:=SF.BX d 30 _ (Int.le_of_lt c4) c5;refine sd ?_;apply XR.mono fun _ bL=>nx (z:=a) og (pz 2) bL;refine ca (Ph _ _ _ _ _) (pz 2) ?_;rintro _ _ ⟨rfl,rfl⟩;apply XO.mono fun _ bL=>rS (z:=a) og (pz 5) bL;apply gO;refine ag ((x.1.Q a).first.1) ?_ ?_ S2 (xq (pz 2))
    ·grind
    ·rw[hfa];obtain⟨k2,rfl⟩:∃ k2,k=k2+1:=⟨k-1,og⟩;rw[SF.L9 _ _ og SG]at ak;exact⟨⟨c4,c5,hcI.2.2⟩,c1,⟨k2,og,ak⟩,j+1,.inr ⟨c1,by rw[c2];exact ju⟩⟩
   ·have hae:a=SF.dv d s.toSF:=by
     rw[SF.X7 _ _ og]at ak;omega
    have htk:s.toSF.kM d=(a-10,SF.vN (d a+1) ({x.1 with hQ:=x.1.hQ+1} :SC).toSF a):=by
     unfold SF.kM;grind
    have hda:=hD a og a1;refine lp (σ:=SC×Int) (fun y=>if y.2=0 then 0 else d y.2+1) (fun y=>y.1.mv/\y.1.toSF.Inv d/\(y.2=0\/(0<y.2/\y.2<30/\y.1.aa y.2=true))/\y.1.toSF.bV (Bd+1048577*((d a:Int)-(d y.2:Int)))/\d y.2<=d a/\(∃ k,d y.2+1<=k/\SF.vN k y.1.toSF y.2=(s.toSF.kM d).2)/\∃ j,SF.upW y.1.toSF j y.2) (fun y=>[(8,iI y.2),(0,az b o 0),(5,iI a)]) (fun y=>XM W (cm [.cells b o 2281 (aH s),.aW ck (s.dg 254)]) [.cells b o 2281 (aH y.1),.aW ck (SC.dg 254 y.1)]) ((({x.1 with hQ:=x.1.hQ+1} :SC),a)) ?_ S3 (xq (pz 2)) ?_
    ·grind
    intro y hy;obtain⟨yR,yI,yn,yS,yd,⟨yk,hyk,yl⟩,⟨j,yu⟩⟩:=hy;apply gC;refine cd ?_ ?_<;>intro h7
    ·obtain⟨y0,y1,y2⟩:=yn.resolve_left og;obtain⟨p0,pp1,p2,p3⟩:=yI.up y.2 y0 y1 y2;obtain⟨k2,rfl⟩:∃ k2,yk=k2+1:=⟨yk-1,og⟩;rw[SF.Oh _ _ y0]at yl;obtain⟨ywn,yu2⟩:y.1.toSF.cv y.2=true/\∃ j,SF.upW y.1.toSF j (y.1.toSF.aD y.2):=by
      cases j with
      | zero=>have:y.2<=0:=yu;omega
      | succ j=>
       rcases yu with q | ⟨q1,q2⟩
       ·omega
       ·grind
     have hdy:=hD y.2 og y1;refine ca (V8 _ _ _ d yI yR (Bd+1048577*((d a:Int)-(d y.2:Int))) og yS _ ⟨y0,y1,y2⟩ ywn) (pz 2) ?_;rintro _ _ ⟨rfl,t,tl,tR,rfl⟩;have htp:t.aD y.2=y.1.toSF.aD y.2:=by show t.toSF.aD y.2=_;rw[tl];rfl
     apply gO;refine sd ?_;apply ld .aa (eX _ _);refine ag ((t,y.1.toSF.aD y.2)) ?_ ?_ (S3 (LK htp) rfl rfl) (xq (pz 2))
     ·grind
     ·have Sv:y.1.toSF.aD y.2=0\/(0<y.1.toSF.aD y.2/\y.1.toSF.aD y.2<30/\y.1.toSF.aa (y.1.toSF.aD y.2)=true):=by
       grind
      obtain⟨j2,yu3⟩:=yu2;refine⟨tR,by show t.toSF.Inv d;rw[tl];exact yI.zI y0 y1 y2,?_,?_,by show d (y.1.toSF.aD y.2)<=d a;omega,⟨k2,by show d (y.1.toSF.aD y.2)+1<=k2;omega,by show SF.vN k2 t.toSF (y.1.toSF.aD y.2)=_;rw[tl];exact yl⟩,j2,by show SF.upW t.toSF j2 (y.1.toSF.aD y.2);rw[tl];exact SF.Oi yI j2 _ Sv p3 yu3⟩
      ·show y.1.toSF.aD y.2=0\/(0<y.1.toSF.aD y.2/\y.1.toSF.aD y.2<30/\t.toSF.aa (y.1.toSF.aD y.2)=true);rw[tl];exact Sv
      ·show t.toSF.bV (Bd+1048577*((d a:Int)-(d (y.1.toSF.aD y.2):Int)));rw[tl];exact(SF.bV.zI yI yS y0 y1 y2).mono og
    ·refine sd ?_;refine bI (pz 2) ?_;try dsimp only[aU,aS,bG,bN]
     have hy0:y.2=0:=by
      omega
     rw[hy0,SF.FE _ _ og]at yl;grind
end Go.X.Fa

namespace Go.X.Vm
open Go Go.Proofs Go.X
set_option maxRecDepth 20000
set_option maxHeartbeats 4000000
def adi:vS Tryz.prog 299=some (64,1):=kq
def aiI(x t:Nat)(hx:x<18446744073709551616)(ht:x.testBit t=true)(hl:∀ j,j<t->x.testBit j=false)(RO:t<64):Spec Tryz.prog 264 [.int .u64 (x:Int)] [.ro 1 0 64 gL] (fun v H1=>v=iI (t:Int)/\H1=[]):=by
 have rB:0<x:=by
  grind
 obtain⟨z1,z2,z3,z4,z5⟩:=Uw t RO;refine Spec.go 14 [0,2,4] [] Tryz.func264 fun W=> ?_;refine LU rfl (by simp;omega) (XO.v (V.neg rfl _ (Yr ⟨rB,hx⟩)) rfl (gO ?_));refine XO.v (V.bits (r:=2^t) rfl rfl rfl hx (Nat.sub_lt dq rB) (congrArg some (NZ (w:=64) ht hl hx RO))) rfl (gO ?_);refine XO.v (V.mul rfl rfl _ z1) rfl (gO ?_);refine XO.v (V.shr rfl rfl og _ z2) rfl (gO ?_);refine XO.v (Fi rfl rfl adi og) rfl (gO ?_);refine XU .aa (Mg RO) (XO.v (lE rfl Tryz.underlying5 Tryz.underlying3 _ z4) rfl (gO ?_));refine bI .nil ?_;exact⟨rfl,rfl⟩
def agi:Spec Tryz.prog 174 [] [] (fun v H1=>∃ b,v=az b 0 0/\H1=[.cells b 0 71 (bO BB.cC.fp)]):=by
 refine Spec.go 9 [0,1] [] Tryz.func174 fun W=> ?_;refine XO.v (V.build (vs:= #[]) rfl (v:=.agg #[.int .u64 0,.int .u64 0,.int .u64 0,.int .u64 0,.int .u64 0,.int .u64 0,.int .u64 0,iI 0,iI 0,iI 0,iI 0,iI 0,iI 0,iI 0,iI 0,iI 0,iI 0,iI 0,iI 0,iI 0,iI 0,iI 0,iI 0,iI 0,iI 0,iI 0,iI 0,iI 0,iI 0,iI 0,iI 0,iI 0,iI 0,iI 0,iI 0,iI 0,iI 0,iI 0,iI 0,iI 0,iI 0,iI 0,iI 0,iI 0,iI 0,iI 0,iI 0,iI 0,iI 0,iI 0,iI 0,iI 0,iI 0,iI 0,iI 0,iI 0,iI 0,iI 0,iI 0,iI 0,iI 0,iI 0,iI 0,iI 0,iI 0,iI 0,iI 0,iI 0,iI 0,iI 0,iI 0]) fun _=>kq) rfl (gO ?_);refine XO.box (m:=71) (C:=bO ⟨BB.du,fun _=>0⟩) rfl rfl z8 rfl ?_;intro bs;refine gO ?_;refine sd (st .aa (oD _ BB.cC 6 og (v:=1) ⟨yh.1.symm,fun m h0 h1 h2=>by rw[yh.2 m h0 h1 h2];exact(yi m h0 h1).symm⟩) rfl (aO rfl rfl (ah .h1 rfl ?_)));exact⟨_,rfl,rfl⟩
def adj(p o:Nat)(b:BB)(hI:b.Inv)(q:Int):Spec Tryz.prog 245 [az p o 0,iI q] [.cells p o 71 (bO b.fp),.ro 1 0 64 gL] (fun v H1=>v= .tuple #[iI (b.take q).1,ay 102 (b.take q).2.1]/\H1=[.cells p o 71 (bO (b.take q).2.2.fp)]):=by
 refine Spec.go 79 [0,1,4,5,6,7,13,26,30,53] [] Tryz.func245 fun W=> ?_;refine sp 10 rfl ?_ ?_<;>intro h1
 ·refine eH .h1 ?_;rw[qc og];exact⟨rfl,rfl⟩
 ·refine cd ?_ ?_<;>intro h2
  ·refine eH .h1 ?_;rw[qc og];exact⟨rfl,rfl⟩
  ·refine lp (σ:=Int) (fun k=>(7-k).toNat) (fun k=>(q<=k/\k<=7)/\∀ j:Int,q<=j->j<k->b.gV j=0) (fun k=>[(6,iI k),(0,az p o 0),(1,iI q)]) (fun k=>XM W (cm [.cells p o 71 (bO b.fp),.ro 1 0 64 gL]) [.cells p o 71 (bO b.fp),.ro 1 0 64 gL]) (q) ?_ S3 (xq (pz 2)) ?_
   ·grind
   intro k hk;obtain⟨hk,hkz⟩:=hk;refine gC ?_;refine sp 18 rfl ?_ ?_<;>intro h3
   ·refine sd (ld .aa (dH _ _) ?_);refine cd ?_ ?_<;>intro h4
    ·have hz:((b.gV k:Nat):Int)=0:=h4;refine sd (ag (k+1) ?_ ?_ S3 (xq (pz 2)));all_goals grind
    ·have hz:¬((b.gV k:Nat):Int)=0:=h4;refine cd ?_ ?_<;>intro h5
     ·refine eH .h1 ?_;omega
     ·have hkm:¬b.gV k=0:=og;obtain⟨t,ht,hl⟩:=Ct hkm;obtain⟨alP,RO,Xe⟩:=A6 ht hl;have Xe:=(mQ og).1 Xe;have hpk:=Hi (b:=b) og (k:=k) ⟨hk.1,og⟩ hkz ht hl;have hhm:=Hk (b:=b) (k:=k) og RO Xe.1 Xe.2;refine sd (ld .aa (dH _ _) ?_);refine Iv 0 (aiI (b.gV k) t (lA _ _) ht hl RO) (pk [1]) rfl ?_;refine rq [0,1,2,3,4,5,6,7,8,9,10,11,12] mixed (sd (ld (.ao .aa) (dH _ _) (XO.v (V.shl rfl rfl og _ (yg)) rfl (gO ?_))));refine XO.v (V.bits rfl rfl rfl (lA _ _) (iX og) rfl) rfl (gO ?_);refine sd (st (.ao .aa) (oD _ (b.ia t) _ og hhm) rfl ?_);refine lp (σ:=BB) (fun x=>(x.bP t-(q+1)).toNat) (fun x=>x.Inv/\q+1<=x.bP t/\x.bP t<=k+1/\x.tk t=true/\BB.ib (x.bP t-(q+1)).toNat x t=BB.ib (k-q).toNat (b.ia t) t) (fun x=>[(6,iI (x.bP t-1)),(0,az p o 0),(1,iI q),(7,iI (t:Int))]) (fun x=>XM W (cm [.cells p o 71 (bO b.fp),.ro 1 0 64 gL]) [.cells p o 71 (bO ⟨x,b.ep⟩)]) (b.ia t) ?_ (S4 (LK (show k=b.bP t-1 by omega)) rfl rfl rfl) (xq (pk [1])) ?_
      ·exact⟨hI.ia og,by show q+1<=b.bP t;omega,by show b.bP t<=k+1;omega,aj _ _ _,by rw[show(b.ia t).bP t=k+1 from Xe.1];congr 1;omega⟩
      intro x hx;obtain⟨hx,x1,x2,x3,x4⟩:=hx;refine gC ?_;refine cd ?_ ?_<;>intro h6
      ·obtain⟨s1,s2,s3,s4⟩:=hx.split (a:=t) og;have hsm:=hx.Mp (a:=t) og x3;have hpp:=r8 (x.bP t-2);have hrx:=hx.ng t;refine oV (XO.v (V.sub rfl rfl (x.bP t-2) (by rw[show x.bP t-1-1=x.bP t-2 from og];exact IntWalk.i64_in _ og)) rfl (gO ?_));refine rq [0,1,2,3,4,5,6,7,8,9,10,11,12,13,14,15] mixed (sd (ld .aa (dH _ _) (XO.v (V.shl rfl rfl og _ (Hm)) rfl (gO ?_))));refine sd (XO.v (V.shl rfl rfl og _ (yg)) rfl (gO ?_));refine XO.v (V.bits rfl rfl rfl (lA _ _) (iX og) rfl) rfl (gO ?_);refine sd (st .aa (oD _ (x.split t) _ og hsm) rfl (ag (x.split t) ?_ ?_ (S4 (LK (by rw[s4];omega)) rfl rfl rfl) (xq .h1)))
       ·omega
       ·refine⟨s1,by rw[s4];omega,by rw[s4];omega,x3,?_⟩;rw[<-x4,s4,show(x.bP t-(q+1)).toNat=(x.bP t-1-(q+1)).toNat+1 from og];rfl
      ·have hn:(x.bP t-(q+1)).toNat=0:=og;rw[hn]at x4;have x5:x=BB.ib ((k.toNat:Int)-q).toNat (b.ia t) t:=by rw[show((k.toNat:Int)-q).toNat=(k-q).toNat from og];exact x4
       have K4:=hI.FO (o:=q) og hpk;rw[<-x5]at K4;refine sd (sd (st .aa (ub _ _ og _) rfl (bA rfl rfl rfl (ah .h1 rfl ?_))));rw[<-K4,BB.lq og hpk];exact⟨rfl,rfl⟩
   ·refine cd ?_ ?_<;>intro h7
    ·refine eH .h1 ?_;rw[yc og (Hj fun j h1 h2=>hkz j h1 og)];exact⟨rfl,rfl⟩
    ·have hkm:¬b.gV k=0:=og;omega
def Wc(p o:Nat)(b:BB)(hI:b.Inv)(a:Int):Spec Tryz.prog 218 [az p o 0,iI a] [.cells p o 71 (bO b.fp)] (fun v H1=>v=ay 102 (b.o8 a).1/\H1=[.cells p o 71 (bO (b.o8 a).2.fp)]):=by
 refine Spec.go 80 [0,1,4,5,6,12,20,35,49] [] Tryz.func218 fun W=> ?_;refine sp 9 rfl ?_ ?_<;>intro h1
 ·refine bI .h1 ?_;have wB:=BB.qK (b:=b) (a:=a) og;rw[pS og,wB];exact⟨rfl,rfl⟩
 ·refine cd ?_ ?_<;>intro h2
  ·refine bI .h1 ?_;have wB:=BB.qK (b:=b) (a:=a) og;rw[pS og,wB];exact⟨rfl,rfl⟩
  ·refine sd ?_;refine ld .aa (lZ _ _) ?_;refine cd ?_ ?_<;>intro h3
   ·have hu:b.ep a=0:=h3;have wB:b.is a=2:=BB.xP og ((hI.FQ a).1 hu);refine bI .h1 ?_;rw[pS og,wB];exact⟨rfl,rfl⟩
   ·have hu:¬b.ep a=0:=h3;obtain⟨ht,ho⟩:=(hI.FQ a).2 hu;have RP:=hI.tk a ht;have Iy:=hI.ng a;have wB:b.is a=0:=BB.CP og ht;refine sd ?_;refine ld .aa (lZ _ _) ?_;refine oV ?_;refine XO.v (V.sub rfl rfl (b.bP a-1) (by rw[show b.fp.u a=b.bP a from ho];exact IntWalk.i64_in _ og)) rfl (gO ?_);refine sd ?_;refine st .aa (ub _ _ og _) rfl ?_;refine lp (σ:=BB×Int) (fun x=>(7-x.1.bP x.2).toNat) (fun x=>x.1.Inv/\0<x.1.bP x.2/\x.1.tk x.2=false/\BB.ke (7-x.1.bP x.2).toNat x.1 x.2=BB.ke (7-b.bP a).toNat (b.bare a) a) (fun x=>[(1,iI x.2),(5,iI (x.1.bP x.2-1)),(0,az p o 0)]) (fun x=>XM W (cm [.cells p o 71 (bO b.fp)]) [.cells p o 71 (bO ⟨x.1.ia x.2,(ad b.ep a 0)⟩)]) ((b.bare a,a)) ?_ S3 (fun w lG=>by
      have e:=Hl (b:=b) ht
      show XM _ _ (.cells p o 71 (bO ⟨(b.bare a).ia a,ad b.ep a 0⟩)::_) w
      rw[e];exact XM.pick .h1 lG) ?_
    ·exact⟨hI.bare a,RP,aj _ _ _,rfl⟩
    intro x hx;obtain⟨hx,x1,x2,x3⟩:=hx;have hxr:=hx.ng x.2;have hxi:=hx.ua x1;refine gC ?_;refine cd ?_ ?_<;>intro h4
    ·obtain⟨r1,r2,r3⟩:=hx.zY x1 og;obtain⟨q1,q2⟩:=Uv (a:=x.2) (k:=x.1.bP x.2-1) hxi og;have hjt:=hx.QE x1 og;have hb:=Mq ((x.1.ia x.2).gV (x.1.bP x.2-1)) (x.1.cE x.2).toNat;rw[hjt]at hb;have Lw:=afB (k:=x.1.bP x.2-1) og;refine XO.v (V.shl rfl rfl og _ (Hm)) rfl (gO ?_);refine XO.v (N1 rfl rfl (z:=(x.1.cE x.2)) og og og rfl (by rw[JJ];exact q1)) rfl (gO ?_);refine sd ?_;refine ld .aa (dH _ _) ?_;refine XO.v (V.shr rfl rfl og _ (Ys og _)) rfl (gO ?_);refine XO.v (V.bits rfl rfl rfl (Nat.lt_of_le_of_lt (ach _ _) (lA _ _)) dq rfl) rfl (gO ?_);refine cd ?_ ?_<;>intro h5
     ·have h9:(((((x.1.ia x.2).gV (x.1.bP x.2-1)) >>> (x.1.cE x.2).toNat)&&&1:Nat):Int)=0:=h5;have hc:¬x.1.fV x.2:=fun q=>by
       simp only[q,decide_true,if_true]at hb;omega
      have hx9:BB.ke (7-b.bP a).toNat (b.bare a) a=x.1:=by rw[<-x3];exact EU _ hc
      have K4:=hI.zZ wB;rw[hx9]at K4;refine rq [0,1,2,3,4,5,6,7,8,9,10,11,12] mixed ?_;refine sd ?_;refine ld .aa (dH _ _) ?_;refine XO.v (V.shl rfl rfl og _ (yg)) rfl (gO ?_);refine XO.v (V.bits rfl rfl rfl (lA _ _) (iX og) rfl) rfl (gO ?_);refine sd ?_;refine st .aa (oD _ x.1 _ og (yf x1 hxi x2)) rfl ?_;refine bI .h1 ?_;rw[<-K4,se wB];exact⟨rfl,rfl⟩
     ·have h9:¬(((((x.1.ia x.2).gV (x.1.bP x.2-1)) >>> (x.1.cE x.2).toNat)&&&1:Nat):Int)=0:=h5;have hc:x.1.fV x.2:=by
       apply Classical.byContradiction;intro q;simp only[q,decide_false,Bool.false_eq_true,if_false]at hb;omega
      obtain⟨j1,_,_,_,j5,j6⟩:=hx.gK x1 x2 hc;refine rq [0,1,2,3,4,5,6,7,8,9,10,11,12] mixed ?_;refine sd ?_;refine ld .aa (dH _ _) ?_;refine XO.v (V.shl rfl rfl og _ (yg)) rfl (gO ?_);refine XO.v (V.bits rfl rfl rfl (lA _ _) (iX og) rfl) rfl (gO ?_);refine sd ?_;refine st .aa (oD _ ((x.1.gK x.2).ia (min x.2 (x.1.cE x.2))) _ og (hx.QF x1 hc)) rfl ?_;refine XO.v (V.shl rfl rfl og _ (Hm)) rfl (gO ?_);refine XO.v (N1 rfl rfl (z:=(min x.2 (x.1.cE x.2))) og og og rfl (by rw[JJ];exact q2)) rfl (gO ?_);refine sd ?_;refine ag ((x.1.gK x.2,(min x.2 (x.1.cE x.2)))) ?_ ?_ (S3 rfl (LK (by show x.1.bP x.2-1+1=(x.1.gK x.2).bP (min x.2 (x.1.cE x.2))-1;rw[j5];omega)) rfl) (xq .h1)
      ·
       (show(7-(x.1.gK x.2).bP (min x.2 (x.1.cE x.2))).toNat<(7-x.1.bP x.2).toNat;rw[j5];omega)
      ·refine⟨j1,by show 0<(x.1.gK x.2).bP (min x.2 (x.1.cE x.2));rw[j5];omega,j6,?_⟩;show BB.ke (7-(x.1.gK x.2).bP (min x.2 (x.1.cE x.2))).toNat (x.1.gK x.2) (min x.2 (x.1.cE x.2))=_;rw[<-x3,j5,show(7-x.1.bP x.2).toNat=(7-(x.1.bP x.2+1)).toNat+1 from og,BB.ke,if_pos hc]
    ·have hx9:BB.ke (7-b.bP a).toNat (b.bare a) a=x.1:=by rw[<-x3,show(7-x.1.bP x.2).toNat=0 from og];rfl
     have K4:=hI.zZ wB;rw[hx9]at K4;refine rq [0,1,2,3,4,5,6,7,8,9,10,11,12] mixed ?_;refine sd ?_;refine ld .aa (dH _ _) ?_;refine XO.v (V.shl rfl rfl og _ (yg)) rfl (gO ?_);refine XO.v (V.bits rfl rfl rfl (lA _ _) (iX og) rfl) rfl (gO ?_);refine sd ?_;refine st .aa (oD _ x.1 _ og (yf x1 hxi x2)) rfl ?_;refine bI .h1 ?_;rw[<-K4,se wB];exact⟨rfl,rfl⟩
def RR:Spec Tryz.prog 98 [] [] (fun v H1=>∃ kb pb,v=az kb 0 0/\H1=[.cells kb 0 577 (dM pb VB.cC.fR VB.cC.rf),.cells pb 0 71 (bO VB.cC.bb.fp)]):=by
 refine Spec.go 4 [0] [] Tryz.func98 fun W=> ?_;refine ca (agi) .nil ?_;rintro _ _ ⟨pb,rfl,rfl⟩;apply gO;refine XO.v (V.build (vs:= #[(0,az pb 0 0)]) rfl (v:=.agg (zKl pb).toArray) fun _=>kq) rfl (gO ?_);refine XO.box (m:=577) (C:=dM pb VB.cC.fR VB.cC.rf) rfl rfl (ack _) rfl ?_;intro kb;apply gO;refine bI (pz 2) ?_;exact⟨_,_,rfl,rfl⟩
def agj(kb:Nat):Spec Tryz.prog 103 [az kb 0 0] [] (fun v H1=>∃ mb,v=az mb 0 0/\H1=[.cells mb 0 34 (b6 kb none (ai MS.nil.ax).length 0 MS.nil.fr MS.nil.aX),aM none 0 171 3 (ai MS.nil.ax).length (fh (ai MS.nil.ax))]):=by
 refine Spec.go 19 [0,2,3,4,8,9] [] Tryz.func103 fun W=> ?_;refine XO.v (V.build (vs:= #[(0,az kb 0 0)]) rfl (v:=.agg (zNl kb).toArray) fun _=>kq) rfl (gO ?_);refine XO.box (m:=34) (C:=b6 kb none 0 0 (frI 0) fun _=>false) rfl rfl (fun i hi=>(UI _ i hi).trans (congrFun (so fun i h0 h1=>⟨by unfold frI;first | rw[if_neg og] | rw[if_pos og],rfl⟩) i)) rfl ?_;intro mb;apply gO;refine lp (σ:=Int) (fun i=>(16-i).toNat) (fun i=>0<=i/\i<=16) (fun i=>[(8,iI i),(3,az mb 0 0)]) (fun i=>XM W (cm []) [.cells mb 0 34 (b6 kb none 0 0 (frI i) fun _=>false)]) (0) ?_ S2 (xq .h1) ?_
 ·omega
 intro i hi;apply gC;refine cd ?_ ?_<;>intro h1
 ·refine sd (st .aa (pT _ _ _ _ _ _ _ og _) rfl (sd (ag (i+1) ?_ ?_ S2 fun _ hw=>by rw[<-UJ hi.1];exact XM.pick .h1 hw)));all_goals omega
 ·refine XR.fF 171 3 (aO rfl rfl (ah (pk [1,0]) rfl ?_));have e:i=16:=og;subst e;rw[UK];exact⟨_,rfl,by rw[show b6 kb none 0 0 (frI 16) (fun _=>false)=b6 kb none 0 0 (fun _=>0) (fun _=>false)from so fun i h0 h1=>⟨by unfold frI;rw[if_pos og],rfl⟩];rfl⟩
def Wd(kb pb:Nat)(v:VB)(hv:v.Ok):Spec Tryz.prog 230 [az kb 0 0] [.cells kb 0 577 (dM pb v.fR v.rf),.cells pb 0 71 (bO v.bb.fp),.ro 1 0 64 gL] (fun x H1=>x= .tuple #[iI v.take.1,ay 102 v.take.2.1]/\H1=[.cells kb 0 577 (dM pb v.take.2.2.fR v.take.2.2.rf),.cells pb 0 71 (bO v.take.2.2.bb.fp)]):=by
 refine Spec.go 29 [0,2,3,4,5,15] [] Tryz.func230 fun W=> ?_;apply ld .aa (dM.JQ _ _ _);refine Iv 1 (adj _ _ _ hv.bb _) (pk [1,1]) rfl ?_;refine cd ?_ ?_<;>intro h1
 ·have sW:¬(v.bb.take 0).2.1=0:=h1;have hfl:=Hs h1;refine eH (pk [2,0]) ?_;rw[lB sW];exact⟨rfl,by rw[hfl]⟩
 ·have tq:(v.bb.take 0).2.1=0:=og;have hw:=(hv.bb.C7 tq).2.1;refine sd (st (.t2 .aa) (l6 _ _ _ _ og _) rfl (XO.v (V.build (vs:= #[]) rfl (v:=.agg (UF fun _=>0)) fun _=>kq) rfl (gO ?_)));refine sd (gn (.t2 .aa) (FW _ _ _ _ _) rfl ⟨rfl,rfl⟩ (bA rfl rfl rfl (ah (pk [2,0]) rfl ?_)));rw[VB.lq tq];exact⟨rfl,rfl⟩
def adk(kb pb:Nat)(v:VB)(hv:v.Ok)(f:Int)(hf:0<=f/\f<64)(h1:1<=v.rf f):Spec Tryz.prog 179 [az kb 0 0,iI f] [.cells kb 0 577 (dM pb v.fR v.rf),.cells pb 0 71 (bO v.bb.fp),.ro 1 0 64 gL] (fun x H1=>x= .tuple #[]/\H1=[.cells kb 0 577 (dM pb (v.drop f).fR (v.drop f).rf),.cells pb 0 71 (bO (v.drop f).bb.fp)]):=by
 have hb:=hv.rf f;refine Spec.go 27 [0,1,20] [] Tryz.func179 fun W=> ?_;refine rq [0,1,2,3,4,5,6,7,8,9,10] mixed ?_;refine sd ?_;apply ld .aa (iY _ _ _ _);refine sd ?_;refine sd ?_;apply st .aa (l6 _ _ _ _ og _) rfl;refine sd ?_;apply ld .aa (iY _ _ _ _);have e1:ad v.rf f (v.rf f-1) f=v.rf f-1:=aj _ _ _;refine cd ?_ ?_<;>intro h1
 ·apply ld .aa (dM.JQ _ _ _);refine cq (Wc _ _ _ hv.bb _) (pk [1]) ?_;refine cU rfl (ah (pk [1,0]) rfl ?_);grind [vn]
 ·refine cU rfl (ah (pz 2) rfl ?_);grind [vo]
def Nu(a n:Int):Spec Tryz.prog 177 [iI a,iI n] [] (fun x H1=>x=ay 102 (if fT a n then 1 else 0)/\H1=[]):=by
 refine Spec.go 22 [0,1,4,20] [] Tryz.func177 fun W=> ?_;refine sp 7 rfl ?_ ?_<;>intro h1
 ·refine bI .nil ?_;first | (rw[if_neg (by unfold fT;omega)];exact⟨rfl,rfl⟩) | (rw[if_pos (by unfold fT;omega)];exact⟨rfl,rfl⟩)
 ·refine sp 11 rfl ?_ ?_<;>intro h2
  ·refine bI .nil ?_;first | (rw[if_neg (by unfold fT;omega)];exact⟨rfl,rfl⟩) | (rw[if_pos (by unfold fT;omega)];exact⟨rfl,rfl⟩)
  ·refine sp 15 rfl ?_ ?_<;>intro h3
   ·refine bI .nil ?_;first | (rw[if_neg (by unfold fT;omega)];exact⟨rfl,rfl⟩) | (rw[if_pos (by unfold fT;omega)];exact⟨rfl,rfl⟩)
   ·refine sd ?_;refine cd ?_ ?_<;>intro h4
    ·refine bI .nil ?_;first | (rw[if_neg (by unfold fT;omega)];exact⟨rfl,rfl⟩) | (rw[if_pos (by unfold fT;omega)];exact⟨rfl,rfl⟩)
    ·refine bI .nil ?_;first | (rw[if_neg (by unfold fT;omega)];exact⟨rfl,rfl⟩) | (rw[if_pos (by unfold fT;omega)];exact⟨rfl,rfl⟩)
end Go.X.Vm

namespace Go.X.Vm
open Go Go.X
set_option maxRecDepth 20000
set_option maxHeartbeats 4000000
structure RB where
 f:Fin 17
 n:Int
 w:Bool
instance:Inhabited RB:=⟨⟨0,0,false⟩⟩
def RB.rg(x:RB):RG:=⟨((x.f:Nat):Int),x.n,x.w⟩
def RG.rb(r:RG):RB:=⟨⟨r.fr.toNat%17,Nat.mod_lt _ og⟩,r.n,r.w⟩
theorem RG.agk{r:RG}(h:0<=r.fr/\r.fr<=16):r.rb.rg=r:=by
 cases r with
 | mk f n w=>
  simp only[RG.rb,RB.rg,RG.mk.injEq,and_true];simp only at h;have:f.toNat%17=f.toNat:=Nat.mod_eq_of_lt og;simp only[this];omega
def fC(x:RB):List Value:=[iI ((x.f:Nat):Int),iI x.n,.bool x.w]
def RS(x y:RB):Int:=((x.f:Nat):Int)-((y.f:Nat):Int)
theorem Ce(x y:RB):Go.Proofs.ltOf RS x y=decide ((x.f:Nat)<(y.f:Nat)):=by
 unfold Go.Proofs.ltOf RS;grind
def We:Sort.SWO (Go.Proofs.ltOf RS) where
 irrefl x:=by rw[Ce];simp
 trans x y z h1 h2:=by rw[Ce]at*;simp only[decide_eq_true_eq]at*;omega
 ntrans x y z h1 h2:=by rw[Ce]at*;simp only[decide_eq_false_iff_not]at*;omega
def Wf(x:RB):(fC x).length=3:=rfl
def Wg(x:RB):∀ v∈fC x,v.oneCell'=true:=fun v hv=>by
 simp[fC]at hv;rcases hv with rfl | rfl | rfl<;>rfl
theorem Pm(d:Array RB):(Sort.flatK fC 3 d).toList=bZ (fh (d.toList.map RB.rg)) (d.size*3):=by
 unfold Sort.flatK bZ;rw[Array.toList_map,Array.toList_range];apply List.map_congr_left;intro t ht;have Pn:t<d.size*3:=by simpa using ht
 have e:(d.toList.map RB.rg).getD (t/3) RG.nil=(d[t/3]!).rg:=by
  grind
 unfold fh;rw[e];have h:t%3=0\/t%3=1\/t%3=2:=og;rcases h with h | h | h<;>rw[h]<;>rfl
def H6{P:Program}{ρ:Shelf.Ren}(L:Go.Proofs.SlLaysF0.n6 P ρ)(aE:∀ w,(isAgg (ρ.t 24)).run P w= .ok true w)(zE:∀ w,(Go.sizeOf (ρ.t 24)).run P w= .ok 3 w)(Lt:Nat)(eg:∀ args w,(callFunc Lt args).run P w= .ok (.enter Lt args) w)(hc:X1 P Lt fC RS)(p:Option Addr)(c:Nat)(e:TypeId)(l:List RG)(hl:∀ r∈l,0<=r.fr/\r.fr<=16)(rz:l.length<=100000):Spec P (ρ.f 6) [.slice p l.length c,.func (.func Lt) #[] #[]] [aM p c e 3 l.length (fh l)] (fun v H1=>v= .tuple #[]/\∃ l':List RG,l.Perm l'/\l'.Pairwise (fun x y=>x.fr<=y.fr)/\H1=[aM p c e 3 l.length (fh l')]):=by
 have LZ:((l.map RG.rb).map RB.rg)=l:=by
  rw[List.map_map];conv=>rhs;rw[<-List.map_id l]
  grind [List.map_congr_left,RG.agk]
 have h:=TQ L 3 aE zE fC Wf Wg RS We Lt eg hc p l.length c e (l.map RG.rb).toArray sq og;rw[Pm]at h;simp only[List.toList_toArray,LZ,List.size_toArray,List.length_map]at h;intro w hw;refine(h w hw).mono ?_;rintro ee w' ⟨v,H',he,⟨hv,d',hp,hs,hH⟩,h3,h4⟩;have NX:d'.size=l.length:=by rw[hp.1];simp
 have hpm:d'.toList.Perm (l.map RG.rb):=by
  have h2:=hp.2.2;grind [Array.extract_size]
 refine⟨v,H',he,⟨hv,d'.toList.map RB.rg,?_,?_,?_⟩,h3,h4⟩
 ·have:=hpm.map RB.rg;rw[LZ]at this;exact this.symm
 ·rw[List.pairwise_map,List.pairwise_iff_getElem];intro i j hi hj IB;have SE:j<d'.size:=by simpa using hj
  have Ir:i<d'.size:=og;have:=hs i j (Nat.zero_le _) IB og;grind [Ce,RB.rg]
 grind [Pm]
end Go.X.Vm


namespace Go.Proofs
open Go.Shelf
def K5:Go.Shelf.Ren:=⟨fun | 6=>219 | 15=>242 | 14=>241 | 28=>262 | 29=>263 | 20=>254 | 21=>255 | 22=>256 | 23=>257 | 24=>258 | 25=>259 | 26=>260 | 27=>261 | 46=>272 | 47=>273 | 48=>274 | 49=>275 | 50=>276 | 57=>283 | n=>n,fun | 22=>140 | 24=>171 | 25=>250 | 3=>3 | 39=>258 | 0=>0 | 53=>257 | 55=>29 | 4=>4 | 46=>283 | 45=>282 | 50=>118 | 5=>5 | 9=>9 | 66=>294 | 70=>232 | 76=>302 | 77=>303 | n=>n,fun | n=>n⟩
def Zr:Go.Proofs.SlLaysF0.n6 Tryz.prog K5:= {
 mixed:=by kernel_rfl
 f6:=⟨Tryz.f219.name,by decide,Tryz.func219.trans (congrArg some (by kernel_rfl))⟩
 f14:=⟨Tryz.f241.name,by decide,Tryz.func241.trans (congrArg some (by kernel_rfl))⟩
 f15:=Tryz.func242.trans (congrArg some (by kernel_rfl))
 f20:=⟨Tryz.f254.name,by decide,Tryz.func254.trans (congrArg some (by kernel_rfl))⟩
 f21:=⟨Tryz.f255.name,by decide,Tryz.func255.trans (congrArg some (by kernel_rfl))⟩
 f22:=⟨Tryz.f256.name,by decide,Tryz.func256.trans (congrArg some (by kernel_rfl))⟩
 f23:=⟨Tryz.f257.name,by decide,Tryz.func257.trans (congrArg some (by kernel_rfl))⟩
 f24:=⟨Tryz.f258.name,by decide,Tryz.func258.trans (congrArg some (by kernel_rfl))⟩
 f25:=⟨Tryz.f259.name,by decide,Tryz.func259.trans (congrArg some (by kernel_rfl))⟩
 f26:=⟨Tryz.f260.name,by decide,Tryz.func260.trans (congrArg some (by kernel_rfl))⟩
 f27:=⟨Tryz.f261.name,by decide,Tryz.func261.trans (congrArg some (by kernel_rfl))⟩
 f28:=Tryz.func262.trans (congrArg some (by kernel_rfl))
 f29:=Tryz.func263.trans (congrArg some (by kernel_rfl))
 f46:=⟨Tryz.f272.name,by decide,Tryz.func272.trans (congrArg some (by kernel_rfl))⟩
 f47:=Tryz.func273.trans (congrArg some (by kernel_rfl))
 f48:=Tryz.func274.trans (congrArg some (by kernel_rfl))
 f49:=⟨Tryz.f275.name,by decide,Tryz.func275.trans (congrArg some (by kernel_rfl))⟩
 f50:=⟨Tryz.f276.name,by decide,Tryz.func276.trans (congrArg some (by kernel_rfl))⟩
 f57:=⟨Tryz.f283.name,by decide,Tryz.func283.trans (congrArg some (by kernel_rfl))⟩
 t0:=Tryz.underlying0
 a0:=Tryz.isAgg0
 z0:=Tryz.sizeOf0
 v0:=Tryz.zeroValue0
 t3:=Tryz.underlying3
 a3:=Tryz.isAgg3
 z3:=Tryz.sizeOf3
 v3:=Tryz.zeroValue3
 t4:=Tryz.underlying4
 a4:=Tryz.isAgg4
 z4:=Tryz.sizeOf4
 v4:=Tryz.zeroValue4
 t5:=Tryz.underlying5
 a5:=Tryz.isAgg5
 z5:=Tryz.sizeOf5
 v5:=Tryz.zeroValue5
 t9:=Tryz.underlying9
 a9:=Tryz.isAgg9
 z9:=Tryz.sizeOf9
 v9:=Tryz.zeroValue9
 t22:=Tryz.underlying140
 a22:=Tryz.isAgg140
 z22:=Tryz.sizeOf140
 v22:=Tryz.zeroValue140
 t25:=Tryz.underlying250
 a25:=Tryz.isAgg250
 z25:=Tryz.sizeOf250
 v25:=Tryz.zeroValue250
 t39:=Tryz.underlying258
 a39:=Tryz.isAgg258
 z39:=Tryz.sizeOf258
 v39:=Tryz.zeroValue258
 t45:=Tryz.underlying282
 a45:=Tryz.isAgg282
 z45:=Tryz.sizeOf282
 v45:=Tryz.zeroValue282
 t46:=Tryz.underlying283
 a46:=Tryz.isAgg283
 z46:=Tryz.sizeOf283
 v46:=Tryz.zeroValue283
 t50:=Tryz.underlying118
 a50:=Tryz.isAgg118
 z50:=Tryz.sizeOf118
 v50:=Tryz.zeroValue118
 t53:=Tryz.underlying257
 a53:=Tryz.isAgg257
 z53:=Tryz.sizeOf257
 v53:=Tryz.zeroValue257
 t55:=Tryz.underlying29
 a55:=Tryz.isAgg29
 z55:=Tryz.sizeOf29
 v55:=Tryz.zeroValue29
 t66:=Tryz.underlying294
 a66:=Tryz.isAgg294
 z66:=Tryz.sizeOf294
 v66:=Tryz.zeroValue294
 t70:=Tryz.underlying232
 a70:=Tryz.isAgg232
 z70:=Tryz.sizeOf232
 v70:=Tryz.zeroValue232
 t76:=Tryz.underlying302
 a76:=Tryz.isAgg302
 z76:=Tryz.sizeOf302
 v76:=Tryz.zeroValue302
 t77:=Tryz.underlying303
 a77:=Tryz.isAgg303
 z77:=Tryz.sizeOf303
 v77:=Tryz.zeroValue303}
end Go.Proofs

namespace Go.X.Vm
open Go Go.Proofs Go.X
set_option maxRecDepth 20000
set_option maxHeartbeats 4000000
def adl:n5 Tryz.prog 142=true:=kq
def adm:cX Tryz.prog 227=true:=kq
def mm:rF Tryz.prog 171 3=true:=kq
def la:jR Tryz.prog 3=true:=kq
def Wh:fm Tryz.prog 142=some 2:=kq
def agl:X1 Tryz.prog 220 fC RS:=fun x y w=>by
 refine enter (ps:=[2,3,4]) (cs:=[]) Tryz.func220 rfl rfl ?_ (M:=fun w'=>w'=w) rfl
 refine gC (K:=[]) (Q0:=bodyPost _ _ _) (XO.afh rfl rfl (XO.afh rfl rfl ?_))
 refine gO ?_
 refine oL (XO.l (Ob (v:=iI ((x.f:Nat):Int)) rfl (fun w' hw=>by rw[hw];exact X2 rfl) la) rfl (gO ?_))
 refine oL (XO.l (Ob (v:=iI ((y.f:Nat):Int)) rfl (fun w' hw=>by rw[hw];exact TN rfl) la) rfl (gO ?_))
 refine sd ?_ (by have:=x.f.isLt;have:=y.f.isLt;omega)
 exact aO rfl rfl fun w' hw=>⟨rfl,_,hw.trans (TO _ _ _)⟩
def adn(p:Option Addr)(c:Nat)(l:List RG)(hl:∀ r∈l,0<=r.fr/\r.fr<=16)(rz:l.length<=100000):Spec Tryz.prog 219 [.slice p l.length c,.func (.func 220) #[] #[]] [aM p c 171 3 l.length (fh l)] (fun v H1=>v= .tuple #[]/\∃ l':List RG,l.Perm l'/\l'.Pairwise (fun x y=>x.fr<=y.fr)/\H1=[aM p c 171 3 l.length (fh l')]):=
 H6 Zr Tryz.isAgg171 Tryz.sizeOf171 220 (Go.Proofs.enters_of Tryz.func220 kq rfl) agl p c 171 l hl rz
def agm(cn:Nat)(n:Int)(r:RG)(hr:0<=r.fr/\0<=r.n/\r.fr+r.n<=100):Spec Tryz.prog 227 [.agg r.cR,az cn 0 0] [.cells cn 0 1 (aB (iI n))] (fun v H1=>v= .bool (r.UL n)/\H1=[.cells cn 0 1 (aB (iI n))]):=by
 refine Spec.go 17 [1,2,3] [] Tryz.func227 fun W=> ?_;refine XO.box (m:=3) (C:=pE (r)) rfl rfl (pE.box _) rfl ?_;intro bx;refine gO ?_;refine ld (.ao .aa) (aB.ld _) ?_;refine ld .aa (pE.f _) ?_;refine sp 8 rfl ?_ ?_<;>intro h1
 ·refine ld (.ao .aa) (aB.ld _) ?_;refine ld .aa (pE.f _) ?_;refine ld .aa (pE.n _) ?_;refine sd ?_;refine bI (pk [1]) ?_;exact⟨congrArg Value.bool (by rw[Bool.eq_iff_iff];unfold RG.UL;simp;omega),rfl⟩
 ·refine bI (pk [1]) ?_;exact⟨congrArg Value.bool (by rw[Bool.eq_iff_iff];unfold RG.UL;simp;omega),rfl⟩
def aiK(cn:Nat)(n:Int)(p:Option Addr)(c:Nat)(l:List RG)(hl:∀ r∈l,0<=r.fr/\0<r.n/\r.fr+r.n<=16)(hlen:l.length<=100):Spec Tryz.prog 226 [.slice p l.length c,.func (.func 227) #[] #[az cn 0 0]] [aM p c 171 3 l.length (fh l),.cells cn 0 1 (aB (iI n))] (fun v H1=>(∃ k:Int,v=iI k/\atP l n k)/\H1=[aM p c 171 3 l.length (fh l),.cells cn 0 1 (aB (iI n))]):=by
 refine Spec.go 19 [0,1,4,5,7,8,9,16] [] Tryz.func226 fun W=> ?_;refine lp (σ:=Int) (fun i=>(l.length-i).toNat) (fun i=>(0<=i/\i<=l.length)/\∀ j:Int,0<=j->j<i->¬(bD l j).has n) (fun i=>[(8,iI i),(0,.slice p l.length c),(1,.func (.func 227) #[] #[az cn 0 0]),(7,iI l.length)]) (fun i=>XM W (cm [aM p c 171 3 l.length (fh l),.cells cn 0 1 (aB (iI n))]) [aM p c 171 3 l.length (fh l),.cells cn 0 1 (aB (iI n))]) (0) ?_ S4 (xq (pz 2)) ?_
 ·grind
 intro i hi;obtain⟨hi,sW⟩:=hi;refine gC ?_;refine cd ?_ ?_<;>intro h1
 ·refine bR .aa og ?_;intro g1 h2;subst h2;refine sd ?_;refine qC .aa (fh.agg og) ?_;refine XO.TL (cs:=[az cn 0 0]) rfl rfl (agm _ n _ (by have:=hl _ (ym (l:=l) (z:=i));omega)) (pk [1]) adm rfl ?_;rintro _ _ ⟨rfl,rfl⟩;refine gO ?_;refine wM ?_ ?_<;>intro h3
  ·try simp only[sb]at h3
   refine bI (pk [1,0]) ?_;exact⟨⟨i,rfl,.inr ⟨og,(Ba _ _).1 aq⟩⟩,rfl⟩
  ·try simp only[sb]at h3
   refine sd ?_;refine ag (i+1) ?_ ?_ S4 (xq (pk [1,0]));all_goals grind [Ba]
 ·refine bI (pz 2) ?_;exact⟨⟨-1,rfl,.inl ⟨rfl,fun r hr=>by obtain⟨z,hz,rfl⟩:=Yx hr;exact sW z hz.1 og⟩⟩,rfl⟩
def Zs(kb mb:Nat)(p:Option Addr)(c:Nat)(m:MS)(hm:m.Ok)(n:Int):Spec Tryz.prog 198 [az mb 0 0,iI n] [.cells mb 0 34 (b6 kb p (ai m.ax).length c m.fr m.aX),aM p c 171 3 (ai m.ax).length (fh (ai m.ax))] (fun v H1=>(∃ k:Int,v=iI k/\atP (ai m.ax) n k)/\H1=[.cells mb 0 34 (b6 kb p (ai m.ax).length c m.fr m.aX),aM p c 171 3 (ai m.ax).length (fh (ai m.ax))]):=by
 refine Spec.go 11 [0,3,4] [] Tryz.func198 fun W=> ?_;refine XO.box (m:=1) (C:=aB (iI n)) rfl rfl (fun _ _=>rfl) rfl ?_;intro cn;refine gO ?_;refine ld (.ao .aa) (lI _ _ _ _ _ _) ?_;refine XO.v (Jb rfl) rfl (gO ?_);refine ca (aiK _ _ _ _ _ (jM hm.f).b (by have:=qX m.ax;omega)) (pk [2,0]) ?_;rintro _ _ ⟨⟨k,rfl,hk⟩,rfl⟩;refine gO ?_;refine bI (pk [2,0]) ?_;exact⟨⟨k,rfl,hk⟩,rfl⟩
def Zt(p:Option Addr)(c:Nat)(l:List RG)(hn:l.length<=100):Spec Tryz.prog 124 [.slice p l.length c] [aM p c 171 3 l.length (fh l)] (fun v H1=>∃ p1 c1,v= .slice p1 l.length c1/\H1=[aM p c 171 3 l.length (fh l),aM p1 c1 171 3 l.length (fh l)]):=by
 refine Spec.go 8 [0,2,4] [] Tryz.func124 fun W=> ?_;refine XO.v (lx rfl Tryz.underlying140 rfl) rfl (gO ?_);refine cd ?_ ?_<;>intro h1
 ·subst h1;refine Qa .aa ?_;intro hn0;refine XR.fF 171 3 (aO rfl rfl (ah (pk [1,0]) rfl ?_));exact⟨none,0,by rw[hn0];rfl,by rw[hn0];rfl⟩
 ·refine TC .aa h1 ?_;intro g hg;subst hg;refine nt (e:=171) (vs:= #[]) (A:= #[]) (sz:=3) rfl (fun _=>kq) rfl og rfl ?_;intro b1;refine gO ?_;refine XO.P4 (e:=171) rfl rfl Tryz.underlying140 mm .aa (.ao .aa) QJ og rfl ?_;intro p1 c1;refine gO ?_;refine bI (pk [1,0]) ?_;exact⟨p1,c1,by simp only[Nat.zero_add];rfl,by simp only[Nat.zero_add,List.nil_append]⟩
def sJ(kb mb:Nat)(p:Option Addr)(c:Nat)(m:MS)(hm:m.Ok):Spec Tryz.prog 50 [az mb 0 0] [.cells mb 0 34 (b6 kb p (ai m.ax).length c m.fr m.aX)] (fun v H1=>v=iI m.gk/\H1=[.cells mb 0 34 (b6 kb p (ai m.ax).length c m.fr m.aX)]):=by
 refine Spec.go 20 [0,2,3,5,9,10,11,15] [] Tryz.func50 fun W=> ?_;refine lP .aa (Mt _ _ _ _ _ _) ?_;refine lp (σ:=Int) (fun i=>(16-i).toNat) (fun i=>0<=i/\i<=16) (fun i=>[(10,iI i),(3,iI (tg m.fr i.toNat)),(9,.agg (pgA m.fr m.aX))]) (fun i=>XM W (cm [.cells mb 0 34 (b6 kb p (ai m.ax).length c m.fr m.aX)]) [.cells mb 0 34 (b6 kb p (ai m.ax).length c m.fr m.aX)]) (0) ?_ S3 (xq .h1) ?_
 ·omega
 intro i hi;have Ix:=hm.lo i;have hrs:=Ho m.fr i.toNat;refine gC ?_;refine cd ?_ ?_<;>intro h1
 ·refine XO.v (Jc rfl rfl Tryz.underlying143 Wh adl og (acn og)) rfl (gO ?_);refine XO.bQ (z:=.agg #[iI 0,.bool false]) (m:=2) (C:=SA 0 false) (SA.box _ _) ?_;intro pb;refine gO ?_;refine gn .aa (SA.st _ _ _ _) rfl ⟨rfl,rfl⟩ (ld .aa (SA.f _ _) ?_);refine cd ?_ ?_<;>intro h2
  ·refine sd (sd (ag (i+1) ?_ ?_ (S3 rfl (LK (by rw[FT _ hi.1,if_pos og])) rfl) (xq (pk [1]))));all_goals omega
  ·refine sd (ag (i+1) ?_ ?_ (S3 rfl (LK (by rw[FT _ hi.1,if_neg og];omega)) rfl) (xq (pk [1])));all_goals omega
 ·refine bI .h1 ?_;have e:i=16:=og;subst e;exact⟨rfl,rfl⟩
def qp:rF Tryz.prog 3 1=true:=kq
def Nv(kb mb:Nat)(p:Option Addr)(c:Nat)(l:List RG)(fr:Int->Int)(aX:Int->Bool)(f:Int->Int)(hf:Sx f)(hg:GL l)(hc:Sy l f)(hl:l.length<=100):Spec Tryz.prog 180 [az mb 0 0] [.cells mb 0 34 (b6 kb p l.length c fr aX),aM p c 171 3 l.length (fh l)] (fun v H1=>v= .tuple #[]/\∃ p2 c2,H1=[.cells mb 0 34 (b6 kb p2 (ai f).length c2 fr aX),aM p2 c2 171 3 (ai f).length (fh (ai f))]):=by
 refine Spec.go 70 [0,2,4,5,14,15,16,17,50] [] Tryz.func180 fun W=> ?_;apply ld .aa (lI _ _ _ _ _ _);refine ca (adn _ _ _ (QK hg) og) (pk [1]) ?_;rintro _ _ ⟨rfl,l2,hp,hs,rfl⟩;have hn:l.length=l2.length:=hp.length_eq;have hmg:=Yv (hg.b8 hp) (hc.b8 hp) hf hs;apply gO;apply XR.fF 171 3;apply ld (.t2 .aa) (lI _ _ _ _ _ _);refine lp (σ:=Int×List RG×Option Addr×Nat) (fun x=>(l.length-x.1).toNat) (fun x=>(0<=x.1/\x.1<=l.length)/\x.2.1=mg (l2.take x.1.toNat)) (fun x=>[(16,iI x.1),(2,.slice x.2.2.1 x.2.1.length x.2.2.2),(0,az mb 0 0),(14,.slice p l.length c),(15,iI l.length)]) (fun x=>XM W (cm [.cells mb 0 34 (b6 kb p l.length c fr aX),aM p c 171 3 l.length (fh l)]) [.cells mb 0 34 (b6 kb p l.length c fr aX),aM p c 171 3 l.length (fh l2),aM x.2.2.1 x.2.2.2 171 3 x.2.1.length (fh x.2.1)]) ((0,[],none,0)) ?_ S5 (xq (pk [2,1,0])) ?_
 ·exact⟨sq,rfl⟩
 intro x hx;obtain⟨hi,hac⟩:=hx;have hal:x.2.1.length<=x.1:=by
  rw[hac];exact Int.le_trans (Int.ofNat_le.2 (UN _ _ rfl)) (by rw[List.length_take];omega)
 have hab:∀ r∈x.2.1,0<=r.fr/\0<r.n/\r.fr+r.n<=16:=by
  rw[hac];exact afE _ _ rfl fun r hr=>(hg.b8 hp).b r (List.mem_of_mem_take hr)
 apply gC;refine cd ?_ ?_<;>intro h1
 ·apply bR (.ao .aa) og;intro g1 h2;subst h2;refine sd ?_;apply qC (.ao .aa) (UM hn og);apply XO.bQ (z:=.agg RG.nil.cR) (m:=3) (C:=pE RG.nil) (pE.box _);intro rb;apply gO;apply gn .aa (pE.st _ _) rfl ⟨rfl,rfl⟩;refine sd ?_;refine rq [0,1,2,3,4,5,6,7,8,9,10,11,12,13,14,15,16,17,18,19,20,21,22,23,24,25,26,27] mixed ?_;refine sp 25 rfl ?_ ?_<;>intro h3
  ·have RP:0<x.2.1.length:=og;have hlb:=hab _ (ym (z:=(x.2.1.length:Int)-1));have hrb:=(hg.b8 hp).b _ (ym (z:=x.1));apply bR (.t3 .aa) og;intro ga hga;rw[hga];refine sd ?_;apply XV (.t3 .aa) (fh.f og);refine sd ?_;apply XV (.t3 .aa) (fh.n og);refine sd ?_;apply ld .aa (pE.f _);refine sp 41 rfl ?_ ?_<;>intro h4
   ·have h16:=h4;refine sd ?_;apply XV (.t3 .aa) (fh.w og);apply ld .aa (pE.w _);refine XO.v (SX rfl rfl Tryz.underlying4 rfl) rfl (gO ?_);refine wM ?_ ?_<;>intro h5
    ·try simp only[sb]at h5
     have h26:=h5;refine rq [0,1,2,3,4,5,6,7,8,9,10] mixed ?_;refine sd ?_;apply XV (.t3 .aa) (fh.n og);apply ld .aa (pE.n _);refine sd ?_;refine sd ?_;apply stF (.t3 .aa) (fh.grow og _) rfl;refine sd ?_;refine ag ((x.1+1,Hn x.2.1 {(bD x.2.1 ((x.2.1.length:Int)-1))with n:=(bD x.2.1 ((x.2.1.length:Int)-1)).n+(bD l2 x.1).n},some ⟨ga,0,none⟩,x.2.2.2)) ?_ ?_ (S5 rfl (by show lk _ _=some (Value.slice _ (Hn _ _).length _);rw[A7 RP];rfl) rfl rfl rfl) fun _ hw=>by show XM _ _ [_,_,aM _ _ _ _ (Hn _ _).length _] _;rw[A7 RP];exact XM.pick (pk [1,1,1]) hw
     all_goals grind [qZ,vq,Yu]
    ·try simp only[sb]at h5
     have h27:=h5;apply lP .aa (pE.agg _);apply XO.buildSlice (e:=171) (vs:= #[(0,.agg (bD l2 x.1).cR)]) (A:=(bD l2 x.1).cR) rfl (fun _=>kq) rfl rfl;intro nb;apply gO;apply je (e:=171) (ja:=x.2.1) (r:=(bD l2 x.1)) rfl rfl Tryz.underlying140 mm (.t4 .aa) .aa og rfl;intro p3 c3;apply gO;refine sd ?_;refine ag ((x.1+1,x.2.1++[(bD l2 x.1)],p3,c3)) ?_ ?_ S5 (xq (pk [3,3,0]));all_goals grind [qZ,vq,CZ]
   ·apply lP .aa (pE.agg _);apply XO.buildSlice (e:=171) (vs:= #[(0,.agg (bD l2 x.1).cR)]) (A:=(bD l2 x.1).cR) rfl (fun _=>kq) rfl rfl;intro nb;apply gO;apply je (e:=171) (ja:=x.2.1) (r:=(bD l2 x.1)) rfl rfl Tryz.underlying140 mm (.t4 .aa) .aa og rfl;intro p3 c3;apply gO;refine sd ?_;refine ag ((x.1+1,x.2.1++[(bD l2 x.1)],p3,c3)) ?_ ?_ S5 (xq (pk [3,3,0]));all_goals grind [qZ,vq,CZ]
  ·apply lP .aa (pE.agg _);apply XO.buildSlice (e:=171) (vs:= #[(0,.agg (bD l2 x.1).cR)]) (A:=(bD l2 x.1).cR) rfl (fun _=>kq) rfl rfl;intro nb;apply gO;apply je (e:=171) (ja:=x.2.1) (r:=(bD l2 x.1)) rfl rfl Tryz.underlying140 mm (.t4 .aa) .aa og rfl;intro p3 c3;apply gO;refine sd ?_;refine ag ((x.1+1,x.2.1++[(bD l2 x.1)],p3,c3)) ?_ ?_ S5 (xq (pk [3,3,0]));all_goals grind [qZ,vq,CZ]
 ·apply st .aa (Hq _ _ _ _ _ _ _ _ _) rfl;refine cU rfl (ah (pk [0,1]) rfl ?_);have e:x.1=l.length:=og;simp_all
set_option maxHeartbeats 8000000 in
def Po(kb mb:Nat)(p:Option Addr)(c:Nat)(m:MS)(hm:m.Ok)(a n:Int)(hb:¬fT a n):Spec Tryz.prog 178 [az mb 0 0,iI a,iI n] [.cells mb 0 34 (b6 kb p (ai m.ax).length c m.fr m.aX),aM p c 171 3 (ai m.ax).length (fh (ai m.ax))] (fun v H1=>∃ p2 c2 p3 c3,v= .slice p3 ((ai m.ax).flatMap (vm a n)).length c3/\H1=[.cells mb 0 34 (b6 kb p2 ((ai m.ax).flatMap (mr a n)).length c2 m.fr m.aX),aM p2 c2 171 3 ((ai m.ax).flatMap (mr a n)).length (fh ((ai m.ax).flatMap (mr a n))),dh p3 c3 3 ((ai m.ax).flatMap (vm a n))]):=by
 have hLo:=jM hm.f;have hL:=qX m.ax;have Cv:=hb;unfold fT at Cv;refine Spec.go 96 [0,1,2,6,7,8,10,11,12,13,17,18,19,20,38,46,65,83] [(9,1),(11,1)] Tryz.func178 fun W=> ?_;apply XR.fF 171 3;apply XR.fF 3 1;apply ld (.t2 .aa) (lI _ _ _ _ _ _);refine lp (σ:=Int×(Option Addr×Nat)×(Option Addr×Nat)) (fun x=>((ai m.ax).length-x.1).toNat) (fun x=>(0<=x.1/\x.1<=(ai m.ax).length)/\(List.flatMap (mr a n) (List.take x.1.toNat (ai m.ax))).length<=2*x.1/\(List.flatMap (vm a n) (List.take x.1.toNat (ai m.ax))).length<=16*x.1) (fun x=>[(19,iI x.1),(7,.slice x.2.1.1 (List.flatMap (mr a n) (List.take x.1.toNat (ai m.ax))).length x.2.1.2),(8,.slice x.2.2.1 (List.flatMap (vm a n) (List.take x.1.toNat (ai m.ax))).length x.2.2.2),(0,az mb 0 0),(1,iI a),(2,iI n),(17,.slice p (ai m.ax).length c),(18,iI (ai m.ax).length)]) (fun x=>XM W (cm [.cells mb 0 34 (b6 kb p (ai m.ax).length c m.fr m.aX),aM p c 171 3 (ai m.ax).length (fh (ai m.ax))]) [.cells mb 0 34 (b6 kb p (ai m.ax).length c m.fr m.aX),aM p c 171 3 (ai m.ax).length (fh (ai m.ax)),aM x.2.1.1 x.2.1.2 171 3 (List.flatMap (mr a n) (List.take x.1.toNat (ai m.ax))).length (fh (List.flatMap (mr a n) (List.take x.1.toNat (ai m.ax)))),dh x.2.2.1 x.2.2.2 3 (List.flatMap (vm a n) (List.take x.1.toNat (ai m.ax)))]) ((0,(none,0),(none,0))) ?_ (.cons rfl (.cons rfl S6)) (xq (pk [2,2,1,0])) ?_
 ·simp_all
 intro x hx;obtain⟨hi,hal,hhl⟩:=hx;apply gC;refine cd ?_ ?_<;>intro h1
 ·apply bR (.ao .aa) og;intro g1 h2;subst h2;refine sd ?_;apply qC (.ao .aa) (fh.agg og);apply XO.bQ (z:=.agg RG.nil.cR) (m:=3) (C:=pE RG.nil) (pE.box _);intro rb;apply gO;apply gn .aa (pE.st _ _) rfl ⟨rfl,rfl⟩;refine rq [0,1,2,3,4,5,6,7,8,9,10,11,12,13,14] mixed ?_;have hrb:=hLo.b _ (ym (z:=x.1));apply ld .aa (pE.f _);apply ld .aa (pE.f _);apply ld .aa (pE.n _);refine sd ?_;refine sd ?_;refine cd ?_ ?_<;>intro h3
  ·have ho:=YE (a:=a) (n:=n) (r:=(bD (ai m.ax) x.1)) og;apply lP .aa (pE.agg _);apply XO.buildSlice (e:=171) (vs:= #[(0,.agg (bD (ai m.ax) x.1).cR)]) (A:=(bD (ai m.ax) x.1).cR) rfl (fun _=>kq) rfl rfl;intro nb;apply gO;apply je (e:=171) (ja:=(List.flatMap (mr a n) (List.take x.1.toNat (ai m.ax)))) (r:=(bD (ai m.ax) x.1)) rfl rfl Tryz.underlying140 mm (.t4 .aa) .aa og rfl;intro p3 c3;apply gO;refine sd ?_;have hA:(List.flatMap (mr a n) (List.take (x.1+1).toNat (ai m.ax)))=(List.flatMap (mr a n) (List.take x.1.toNat (ai m.ax)))++[(bD (ai m.ax) x.1)]:=by rw[vr _ ⟨hi.1,og⟩,ho.1]
   have hH:(List.flatMap (vm a n) (List.take (x.1+1).toNat (ai m.ax)))=(List.flatMap (vm a n) (List.take x.1.toNat (ai m.ax))):=by rw[vr _ ⟨hi.1,og⟩,ho.2,List.append_nil]
   refine ag ((x.1+1,(p3,c3),x.2.2)) ?_ ?_ (.cons rfl (.cons (by show lk _ _=some (Value.slice _ (List.flatMap (mr a n) (List.take (x.1+1).toNat (ai m.ax))).length _);rw[hA];rfl) (S6 (by show lk _ _=some (Value.slice _ (List.flatMap (vm a n) (List.take (x.1+1).toNat (ai m.ax))).length _);rw[hH];rfl) rfl rfl rfl rfl rfl))) fun _ hw=>by show XM _ _ [_,_,aM _ _ _ _ (List.flatMap (mr a n) (List.take (x.1+1).toNat (ai m.ax))).length (fh (List.flatMap (mr a n) (List.take (x.1+1).toNat (ai m.ax)))),dh _ _ _ (List.flatMap (vm a n) (List.take (x.1+1).toNat (ai m.ax)))] _;rw[hA,hH];exact XM.pick (pk [3,3,0,2]) hw
   all_goals grind
  ·have vV:=aco (a:=a) (n:=n) (r:=(bD (ai m.ax) x.1)) og;apply ctG (σ:=Option Addr×Nat) (fun _=>True) (fun y=>[(0,az mb 0 0),(1,iI a),(2,iI n),(7,.slice y.1 ((List.flatMap (mr a n) (List.take x.1.toNat (ai m.ax)))++(if(bD (ai m.ax) x.1).fr<(max (bD (ai m.ax) x.1).fr a)then [(⟨(bD (ai m.ax) x.1).fr,(max (bD (ai m.ax) x.1).fr a)-(bD (ai m.ax) x.1).fr,(bD (ai m.ax) x.1).w⟩:RG)]else [])).length y.2),(8,.slice x.2.2.1 (List.flatMap (vm a n) (List.take x.1.toNat (ai m.ax))).length x.2.2.2),(10,az rb 0 0),(11,iI (max (bD (ai m.ax) x.1).fr a)),(12,iI (min ((bD (ai m.ax) x.1).fr+(bD (ai m.ax) x.1).n) (a+n))),(17,.slice (some ⟨g1,0,none⟩) (ai m.ax).length c),(18,iI (ai m.ax).length),(19,iI x.1)]) (fun y=>XM W (cm [.cells mb 0 34 (b6 kb (some ⟨g1,0,none⟩) (ai m.ax).length c m.fr m.aX),aM (some ⟨g1,0,none⟩) c 171 3 (ai m.ax).length (fh (ai m.ax))]) [.cells rb 0 3 (pE (bD (ai m.ax) x.1)),.cells mb 0 34 (b6 kb (some ⟨g1,0,none⟩) (ai m.ax).length c m.fr m.aX),aM (some ⟨g1,0,none⟩) c 171 3 (ai m.ax).length (fh (ai m.ax)),aM y.1 y.2 171 3 ((List.flatMap (mr a n) (List.take x.1.toNat (ai m.ax)))++(if(bD (ai m.ax) x.1).fr<(max (bD (ai m.ax) x.1).fr a)then [(⟨(bD (ai m.ax) x.1).fr,(max (bD (ai m.ax) x.1).fr a)-(bD (ai m.ax) x.1).fr,(bD (ai m.ax) x.1).w⟩:RG)]else [])).length (fh ((List.flatMap (mr a n) (List.take x.1.toNat (ai m.ax)))++(if(bD (ai m.ax) x.1).fr<(max (bD (ai m.ax) x.1).fr a)then [(⟨(bD (ai m.ax) x.1).fr,(max (bD (ai m.ax) x.1).fr a)-(bD (ai m.ax) x.1).fr,(bD (ai m.ax) x.1).w⟩:RG)]else []))),dh x.2.2.1 x.2.2.2 3 (List.flatMap (vm a n) (List.take x.1.toNat (ai m.ax)))])
   ·apply ld .aa (pE.f _);refine cd ?_ ?_<;>intro h4
    ·apply ld .aa (pE.f _);apply ld .aa (pE.f _);refine sd ?_;apply ld .aa (pE.w _);refine XO.v (V.build (vs:= #[(0,iI (bD (ai m.ax) x.1).fr),(1,iI ((max (bD (ai m.ax) x.1).fr a)-(bD (ai m.ax) x.1).fr)),(2,.bool (bD (ai m.ax) x.1).w)]) rfl (v:=.agg (RG.mk (bD (ai m.ax) x.1).fr ((max (bD (ai m.ax) x.1).fr a)-(bD (ai m.ax) x.1).fr) (bD (ai m.ax) x.1).w).cR) fun _=>kq) rfl (gO ?_);apply XO.buildSlice (e:=171) (vs:= #[(0,.agg (RG.mk (bD (ai m.ax) x.1).fr ((max (bD (ai m.ax) x.1).fr a)-(bD (ai m.ax) x.1).fr) (bD (ai m.ax) x.1).w).cR)]) (A:=(RG.mk (bD (ai m.ax) x.1).fr ((max (bD (ai m.ax) x.1).fr a)-(bD (ai m.ax) x.1).fr) (bD (ai m.ax) x.1).w).cR) rfl (fun _=>kq) rfl rfl;intro nb;apply gO;apply je (e:=171) (ja:=(List.flatMap (mr a n) (List.take x.1.toNat (ai m.ax)))) (r:=(RG.mk (bD (ai m.ax) x.1).fr ((max (bD (ai m.ax) x.1).fr a)-(bD (ai m.ax) x.1).fr) (bD (ai m.ax) x.1).w)) rfl rfl Tryz.underlying140 mm (.t4 .aa) .aa og rfl;intro p3 c3;apply gO;refine nJ ((p3,c3)) ?_ (.cons rfl (.cons rfl (.cons rfl (.cons (by rw[if_pos aq];rfl) (.cons rfl S6))))) fun _ hw=>by rw[if_pos aq];exact XM.pick (pk [2,2,2,0,1]) hw
     simp_all
    ·refine nJ ((x.2.1.1,x.2.1.2)) ?_ (.cons rfl (.cons rfl (.cons rfl (.cons (by rw[if_neg aq,List.append_nil];rfl) (.cons rfl S6))))) fun _ hw=>by rw[if_neg aq,List.append_nil];exact XM.pick (pz 5) hw
     simp_all
   intro y _;apply gC;apply ctG (σ:=Option Addr×Nat) (fun _=>True) (fun u=>[(0,az mb 0 0),(1,iI a),(2,iI n),(7,.slice u.1 ((List.flatMap (mr a n) (List.take x.1.toNat (ai m.ax)))++(if(bD (ai m.ax) x.1).fr<(max (bD (ai m.ax) x.1).fr a)then [(⟨(bD (ai m.ax) x.1).fr,(max (bD (ai m.ax) x.1).fr a)-(bD (ai m.ax) x.1).fr,(bD (ai m.ax) x.1).w⟩:RG)]else [])++(if(min ((bD (ai m.ax) x.1).fr+(bD (ai m.ax) x.1).n) (a+n))<(bD (ai m.ax) x.1).fr+(bD (ai m.ax) x.1).n then [(⟨(min ((bD (ai m.ax) x.1).fr+(bD (ai m.ax) x.1).n) (a+n)),(bD (ai m.ax) x.1).fr+(bD (ai m.ax) x.1).n-(min ((bD (ai m.ax) x.1).fr+(bD (ai m.ax) x.1).n) (a+n)),(bD (ai m.ax) x.1).w⟩:RG)]else [])).length u.2),(8,.slice x.2.2.1 (List.flatMap (vm a n) (List.take x.1.toNat (ai m.ax))).length x.2.2.2),(10,az rb 0 0),(11,iI (max (bD (ai m.ax) x.1).fr a)),(12,iI (min ((bD (ai m.ax) x.1).fr+(bD (ai m.ax) x.1).n) (a+n))),(17,.slice (some ⟨g1,0,none⟩) (ai m.ax).length c),(18,iI (ai m.ax).length),(19,iI x.1)]) (fun u=>XM W (cm [.cells mb 0 34 (b6 kb (some ⟨g1,0,none⟩) (ai m.ax).length c m.fr m.aX),aM (some ⟨g1,0,none⟩) c 171 3 (ai m.ax).length (fh (ai m.ax))]) [.cells rb 0 3 (pE (bD (ai m.ax) x.1)),.cells mb 0 34 (b6 kb (some ⟨g1,0,none⟩) (ai m.ax).length c m.fr m.aX),aM (some ⟨g1,0,none⟩) c 171 3 (ai m.ax).length (fh (ai m.ax)),aM u.1 u.2 171 3 ((List.flatMap (mr a n) (List.take x.1.toNat (ai m.ax)))++(if(bD (ai m.ax) x.1).fr<(max (bD (ai m.ax) x.1).fr a)then [(⟨(bD (ai m.ax) x.1).fr,(max (bD (ai m.ax) x.1).fr a)-(bD (ai m.ax) x.1).fr,(bD (ai m.ax) x.1).w⟩:RG)]else [])++(if(min ((bD (ai m.ax) x.1).fr+(bD (ai m.ax) x.1).n) (a+n))<(bD (ai m.ax) x.1).fr+(bD (ai m.ax) x.1).n then [(⟨(min ((bD (ai m.ax) x.1).fr+(bD (ai m.ax) x.1).n) (a+n)),(bD (ai m.ax) x.1).fr+(bD (ai m.ax) x.1).n-(min ((bD (ai m.ax) x.1).fr+(bD (ai m.ax) x.1).n) (a+n)),(bD (ai m.ax) x.1).w⟩:RG)]else [])).length (fh ((List.flatMap (mr a n) (List.take x.1.toNat (ai m.ax)))++(if(bD (ai m.ax) x.1).fr<(max (bD (ai m.ax) x.1).fr a)then [(⟨(bD (ai m.ax) x.1).fr,(max (bD (ai m.ax) x.1).fr a)-(bD (ai m.ax) x.1).fr,(bD (ai m.ax) x.1).w⟩:RG)]else [])++(if(min ((bD (ai m.ax) x.1).fr+(bD (ai m.ax) x.1).n) (a+n))<(bD (ai m.ax) x.1).fr+(bD (ai m.ax) x.1).n then [(⟨(min ((bD (ai m.ax) x.1).fr+(bD (ai m.ax) x.1).n) (a+n)),(bD (ai m.ax) x.1).fr+(bD (ai m.ax) x.1).n-(min ((bD (ai m.ax) x.1).fr+(bD (ai m.ax) x.1).n) (a+n)),(bD (ai m.ax) x.1).w⟩:RG)]else []))),dh x.2.2.1 x.2.2.2 3 (List.flatMap (vm a n) (List.take x.1.toNat (ai m.ax)))])
   ·apply ld .aa (pE.f _);apply ld .aa (pE.n _);refine sd ?_;refine cd ?_ ?_<;>intro h5
    ·apply ld .aa (pE.f _);apply ld .aa (pE.n _);refine sd ?_;refine sd ?_;apply ld .aa (pE.w _);refine XO.v (V.build (vs:= #[(0,iI (min ((bD (ai m.ax) x.1).fr+(bD (ai m.ax) x.1).n) (a+n))),(1,iI ((bD (ai m.ax) x.1).fr+(bD (ai m.ax) x.1).n-(min ((bD (ai m.ax) x.1).fr+(bD (ai m.ax) x.1).n) (a+n)))),(2,.bool (bD (ai m.ax) x.1).w)]) rfl (v:=.agg (RG.mk (min ((bD (ai m.ax) x.1).fr+(bD (ai m.ax) x.1).n) (a+n)) ((bD (ai m.ax) x.1).fr+(bD (ai m.ax) x.1).n-(min ((bD (ai m.ax) x.1).fr+(bD (ai m.ax) x.1).n) (a+n))) (bD (ai m.ax) x.1).w).cR) fun _=>kq) rfl (gO ?_);apply XO.buildSlice (e:=171) (vs:= #[(0,.agg (RG.mk (min ((bD (ai m.ax) x.1).fr+(bD (ai m.ax) x.1).n) (a+n)) ((bD (ai m.ax) x.1).fr+(bD (ai m.ax) x.1).n-(min ((bD (ai m.ax) x.1).fr+(bD (ai m.ax) x.1).n) (a+n))) (bD (ai m.ax) x.1).w).cR)]) (A:=(RG.mk (min ((bD (ai m.ax) x.1).fr+(bD (ai m.ax) x.1).n) (a+n)) ((bD (ai m.ax) x.1).fr+(bD (ai m.ax) x.1).n-(min ((bD (ai m.ax) x.1).fr+(bD (ai m.ax) x.1).n) (a+n))) (bD (ai m.ax) x.1).w).cR) rfl (fun _=>kq) rfl rfl;intro nb;apply gO;apply je (e:=171) (ja:=((List.flatMap (mr a n) (List.take x.1.toNat (ai m.ax)))++(if(bD (ai m.ax) x.1).fr<(max (bD (ai m.ax) x.1).fr a)then [(⟨(bD (ai m.ax) x.1).fr,(max (bD (ai m.ax) x.1).fr a)-(bD (ai m.ax) x.1).fr,(bD (ai m.ax) x.1).w⟩:RG)]else []))) (r:=(RG.mk (min ((bD (ai m.ax) x.1).fr+(bD (ai m.ax) x.1).n) (a+n)) ((bD (ai m.ax) x.1).fr+(bD (ai m.ax) x.1).n-(min ((bD (ai m.ax) x.1).fr+(bD (ai m.ax) x.1).n) (a+n))) (bD (ai m.ax) x.1).w)) rfl rfl Tryz.underlying140 mm (.t4 .aa) .aa (by rw[List.length_append];have Iu:=aci ((bD (ai m.ax) x.1).fr<(max (bD (ai m.ax) x.1).fr a)) (⟨(bD (ai m.ax) x.1).fr,(max (bD (ai m.ax) x.1).fr a)-(bD (ai m.ax) x.1).fr,(bD (ai m.ax) x.1).w⟩:RG);omega) rfl;intro p3 c3;apply gO;refine nJ ((p3,c3)) ?_ (.cons rfl (.cons rfl (.cons rfl (.cons (by rw[if_pos (c:=(min ((bD (ai m.ax) x.1).fr+(bD (ai m.ax) x.1).n) (a+n))<_) aq];rfl) (.cons rfl S6))))) fun _ hw=>by rw[if_pos (c:=(min ((bD (ai m.ax) x.1).fr+(bD (ai m.ax) x.1).n) (a+n))<_) aq];exact XM.pick (pk [2,2,2,0,1]) hw
     omega
    ·refine nJ ((y.1,y.2)) ?_ (.cons rfl (.cons rfl (.cons rfl (.cons (by rw[if_neg (c:=(min ((bD (ai m.ax) x.1).fr+(bD (ai m.ax) x.1).n) (a+n))<_) aq,List.append_nil];rfl) (.cons rfl S6))))) fun _ hw=>by rw[if_neg (c:=(min ((bD (ai m.ax) x.1).fr+(bD (ai m.ax) x.1).n) (a+n))<_) aq,List.append_nil];exact XM.pick (pz 5) hw
     omega
   intro u _;apply gC;refine lp (σ:=Int×Option Addr×Nat) (fun z=>((min ((bD (ai m.ax) x.1).fr+(bD (ai m.ax) x.1).n) (a+n))-z.1).toNat) (fun z=>(max (bD (ai m.ax) x.1).fr a)<=z.1/\z.1<=(min ((bD (ai m.ax) x.1).fr+(bD (ai m.ax) x.1).n) (a+n))) (fun z=>[(13,iI z.1),(8,.slice z.2.1 ((List.flatMap (vm a n) (List.take x.1.toNat (ai m.ax)))++jD (max (bD (ai m.ax) x.1).fr a) (z.1-(max (bD (ai m.ax) x.1).fr a)).toNat).length z.2.2),(0,az mb 0 0),(1,iI a),(2,iI n),(7,.slice u.1 ((List.flatMap (mr a n) (List.take x.1.toNat (ai m.ax)))++(if(bD (ai m.ax) x.1).fr<(max (bD (ai m.ax) x.1).fr a)then [(⟨(bD (ai m.ax) x.1).fr,(max (bD (ai m.ax) x.1).fr a)-(bD (ai m.ax) x.1).fr,(bD (ai m.ax) x.1).w⟩:RG)]else [])++(if(min ((bD (ai m.ax) x.1).fr+(bD (ai m.ax) x.1).n) (a+n))<(bD (ai m.ax) x.1).fr+(bD (ai m.ax) x.1).n then [(⟨(min ((bD (ai m.ax) x.1).fr+(bD (ai m.ax) x.1).n) (a+n)),(bD (ai m.ax) x.1).fr+(bD (ai m.ax) x.1).n-(min ((bD (ai m.ax) x.1).fr+(bD (ai m.ax) x.1).n) (a+n)),(bD (ai m.ax) x.1).w⟩:RG)]else [])).length u.2),(12,iI (min ((bD (ai m.ax) x.1).fr+(bD (ai m.ax) x.1).n) (a+n))),(17,.slice (some ⟨g1,0,none⟩) (ai m.ax).length c),(18,iI (ai m.ax).length),(19,iI x.1)]) (fun z=>XM W (cm [.cells mb 0 34 (b6 kb (some ⟨g1,0,none⟩) (ai m.ax).length c m.fr m.aX),aM (some ⟨g1,0,none⟩) c 171 3 (ai m.ax).length (fh (ai m.ax))]) [.cells mb 0 34 (b6 kb (some ⟨g1,0,none⟩) (ai m.ax).length c m.fr m.aX),aM (some ⟨g1,0,none⟩) c 171 3 (ai m.ax).length (fh (ai m.ax)),aM u.1 u.2 171 3 ((List.flatMap (mr a n) (List.take x.1.toNat (ai m.ax)))++(if(bD (ai m.ax) x.1).fr<(max (bD (ai m.ax) x.1).fr a)then [(⟨(bD (ai m.ax) x.1).fr,(max (bD (ai m.ax) x.1).fr a)-(bD (ai m.ax) x.1).fr,(bD (ai m.ax) x.1).w⟩:RG)]else [])++(if(min ((bD (ai m.ax) x.1).fr+(bD (ai m.ax) x.1).n) (a+n))<(bD (ai m.ax) x.1).fr+(bD (ai m.ax) x.1).n then [(⟨(min ((bD (ai m.ax) x.1).fr+(bD (ai m.ax) x.1).n) (a+n)),(bD (ai m.ax) x.1).fr+(bD (ai m.ax) x.1).n-(min ((bD (ai m.ax) x.1).fr+(bD (ai m.ax) x.1).n) (a+n)),(bD (ai m.ax) x.1).w⟩:RG)]else [])).length (fh ((List.flatMap (mr a n) (List.take x.1.toNat (ai m.ax)))++(if(bD (ai m.ax) x.1).fr<(max (bD (ai m.ax) x.1).fr a)then [(⟨(bD (ai m.ax) x.1).fr,(max (bD (ai m.ax) x.1).fr a)-(bD (ai m.ax) x.1).fr,(bD (ai m.ax) x.1).w⟩:RG)]else [])++(if(min ((bD (ai m.ax) x.1).fr+(bD (ai m.ax) x.1).n) (a+n))<(bD (ai m.ax) x.1).fr+(bD (ai m.ax) x.1).n then [(⟨(min ((bD (ai m.ax) x.1).fr+(bD (ai m.ax) x.1).n) (a+n)),(bD (ai m.ax) x.1).fr+(bD (ai m.ax) x.1).n-(min ((bD (ai m.ax) x.1).fr+(bD (ai m.ax) x.1).n) (a+n)),(bD (ai m.ax) x.1).w⟩:RG)]else []))),dh z.2.1 z.2.2 3 ((List.flatMap (vm a n) (List.take x.1.toNat (ai m.ax)))++jD (max (bD (ai m.ax) x.1).fr a) (z.1-(max (bD (ai m.ax) x.1).fr a)).toNat)]) (((max (bD (ai m.ax) x.1).fr a),x.2.2)) ?_ (.cons rfl (.cons (by show lk _ _=some (Value.slice _ ((List.flatMap (vm a n) (List.take x.1.toNat (ai m.ax)))++jD (max (bD (ai m.ax) x.1).fr a) ((max (bD (ai m.ax) x.1).fr a)-(max (bD (ai m.ax) x.1).fr a)).toNat).length _);rw[show((max (bD (ai m.ax) x.1).fr a)-(max (bD (ai m.ax) x.1).fr a)).toNat=0 from og,jD,List.append_nil];rfl) (.cons rfl (.cons rfl S6)))) (fun _ hw=>by show XM _ _ [_,_,_,dh _ _ _ ((List.flatMap (vm a n) (List.take x.1.toNat (ai m.ax)))++jD (max (bD (ai m.ax) x.1).fr a) ((max (bD (ai m.ax) x.1).fr a)-(max (bD (ai m.ax) x.1).fr a)).toNat)] _;rw[show((max (bD (ai m.ax) x.1).fr a)-(max (bD (ai m.ax) x.1).fr a)).toNat=0 from og,jD,List.append_nil];exact XM.pick (pk [1,1,1,1]) hw) ?_
   ·omega
   intro z hz;have hil:=Ac (max (bD (ai m.ax) x.1).fr a) (z.1-(max (bD (ai m.ax) x.1).fr a)).toNat;have hll:((List.flatMap (vm a n) (List.take x.1.toNat (ai m.ax)))++jD (max (bD (ai m.ax) x.1).fr a) (z.1-(max (bD (ai m.ax) x.1).fr a)).toNat).length=(List.flatMap (vm a n) (List.take x.1.toNat (ai m.ax))).length+(z.1-(max (bD (ai m.ax) x.1).fr a)).toNat:=by rw[List.length_append,hil]
   apply gC;refine cd ?_ ?_<;>intro h6
   ·apply XO.buildSlice (e:=3) (vs:= #[(0,iI z.1)]) (A:= #[iI z.1]) rfl (fun _=>kq) rfl rfl;intro nb;apply gO;apply lv (e:=3) (z:=z.1) (zs:=((List.flatMap (vm a n) (List.take x.1.toNat (ai m.ax)))++jD (max (bD (ai m.ax) x.1).fr a) (z.1-(max (bD (ai m.ax) x.1).fr a)).toNat)) rfl rfl Tryz.underlying55 qp (.t4 .aa) .aa og rfl;intro p3 c3;apply gO;refine sd ?_;have hZ:(List.flatMap (vm a n) (List.take x.1.toNat (ai m.ax)))++jD (max (bD (ai m.ax) x.1).fr a) (z.1+1-(max (bD (ai m.ax) x.1).fr a)).toNat=((List.flatMap (vm a n) (List.take x.1.toNat (ai m.ax)))++jD (max (bD (ai m.ax) x.1).fr a) (z.1-(max (bD (ai m.ax) x.1).fr a)).toNat)++[z.1]:=by rw[show z.1+1-(max (bD (ai m.ax) x.1).fr a)=(z.1-(max (bD (ai m.ax) x.1).fr a))+1 from og,Mu _ og,<-List.append_assoc];congr 2;omega
    refine ag ((z.1+1,p3,c3)) ?_ ?_ (.cons rfl (.cons (by show lk _ _=some (Value.slice _ ((List.flatMap (vm a n) (List.take x.1.toNat (ai m.ax)))++jD (max (bD (ai m.ax) x.1).fr a) (z.1+1-(max (bD (ai m.ax) x.1).fr a)).toNat).length _);rw[hZ];rfl) (.cons rfl (.cons rfl S6)))) fun _ hw=>by show XM _ _ [_,_,_,dh _ _ _ ((List.flatMap (vm a n) (List.take x.1.toNat (ai m.ax)))++jD (max (bD (ai m.ax) x.1).fr a) (z.1+1-(max (bD (ai m.ax) x.1).fr a)).toNat)] _;rw[hZ];exact XM.pick (pk [2,2,2,0]) hw
    all_goals omega
   ·refine sd ?_;have hA:(List.flatMap (mr a n) (List.take (x.1+1).toNat (ai m.ax)))=(List.flatMap (mr a n) (List.take x.1.toNat (ai m.ax)))++(if(bD (ai m.ax) x.1).fr<(max (bD (ai m.ax) x.1).fr a)then [(⟨(bD (ai m.ax) x.1).fr,(max (bD (ai m.ax) x.1).fr a)-(bD (ai m.ax) x.1).fr,(bD (ai m.ax) x.1).w⟩:RG)]else [])++(if(min ((bD (ai m.ax) x.1).fr+(bD (ai m.ax) x.1).n) (a+n))<(bD (ai m.ax) x.1).fr+(bD (ai m.ax) x.1).n then [(⟨(min ((bD (ai m.ax) x.1).fr+(bD (ai m.ax) x.1).n) (a+n)),(bD (ai m.ax) x.1).fr+(bD (ai m.ax) x.1).n-(min ((bD (ai m.ax) x.1).fr+(bD (ai m.ax) x.1).n) (a+n)),(bD (ai m.ax) x.1).w⟩:RG)]else []):=by rw[vr _ ⟨hi.1,og⟩,vV,List.append_assoc]
    have ez:z.1=(min ((bD (ai m.ax) x.1).fr+(bD (ai m.ax) x.1).n) (a+n)):=og;have hH:(List.flatMap (vm a n) (List.take (x.1+1).toNat (ai m.ax)))=(List.flatMap (vm a n) (List.take x.1.toNat (ai m.ax)))++jD (max (bD (ai m.ax) x.1).fr a) (z.1-(max (bD (ai m.ax) x.1).fr a)).toNat:=by rw[vr _ ⟨hi.1,og⟩,ez];rfl
    have LD:=OB a n (bD (ai m.ax) x.1);rw[vV]at LD;simp only[List.length_append]at LD;refine ag ((x.1+1,u,z.2)) ?_ ?_ (.cons rfl (.cons (by show lk _ _=some (Value.slice _ (List.flatMap (mr a n) (List.take (x.1+1).toNat (ai m.ax))).length _);rw[hA];rfl) (S6 (by show lk _ _=some (Value.slice _ (List.flatMap (vm a n) (List.take (x.1+1).toNat (ai m.ax))).length _);rw[hH];rfl) rfl rfl rfl rfl rfl))) fun _ hw=>by show XM _ _ [_,_,aM _ _ _ _ (List.flatMap (mr a n) (List.take (x.1+1).toNat (ai m.ax))).length (fh (List.flatMap (mr a n) (List.take (x.1+1).toNat (ai m.ax)))),dh _ _ _ (List.flatMap (vm a n) (List.take (x.1+1).toNat (ai m.ax)))] _;rw[hA,hH];exact XM.pick (pz 4) hw
    ·omega
    ·refine⟨by simp;omega,?_,?_⟩
     ·show((List.flatMap (mr a n) (List.take (x.1+1).toNat (ai m.ax))).length:Int)<=2*(x.1+1);rw[hA];simp only[List.length_append];omega
     ·show((List.flatMap (vm a n) (List.take (x.1+1).toNat (ai m.ax))).length:Int)<=16*(x.1+1);rw[hH,List.length_append,Ac];omega
 ·apply st .aa (Hq _ _ _ _ _ _ _ _ _) rfl;refine aO rfl rfl (ah (pk [0,1,1]) rfl ?_);have e:List.take x.1.toNat (ai m.ax)=(ai m.ax):=List.take_of_length_le og;exact⟨x.2.1.1,x.2.1.2,x.2.2.1,x.2.2.2,by rw[e];rfl,by rw[e]⟩
def agn(kb mb:Nat)(p:Option Addr)(c:Nat)(m:MS)(hm:m.Ok)(a n:Int)(w:Bool):Spec Tryz.prog 147 [az mb 0 0,iI a,iI n,.bool w] [.cells mb 0 34 (b6 kb p (ai m.ax).length c m.fr m.aX),aM p c 171 3 (ai m.ax).length (fh (ai m.ax))] (fun x H1=>x=ay 102 (m.qe a n)/\∃ p2 c2,H1=[.cells mb 0 34 (b6 kb p2 (ai (m.map a n w).ax).length c2 (m.map a n w).fr (m.map a n w).aX),aM p2 c2 171 3 (ai (m.map a n w).ax).length (fh (ai (m.map a n w).ax))]):=by
 refine Spec.go 45 [0,1,2,3,8,9,10,15,22,28] [] Tryz.func147 fun W=> ?_;refine cq (Nu _ _) .nil ?_;refine cd ?_ ?_<;>intro h1
 ·have hb:fT a n:=by
   simp_all
  refine bI (pz 2) ?_;exact⟨by rw[if_pos hb,F2 hb];rfl,p,c,by rw[F3 (by rw[F2 hb];decide)]⟩
 ·have hb:¬fT a n:=fun q=>h1 fun q2=>by rw[if_pos q]at q2;omega
  have Cv:=hb;unfold fT at Cv;have hn:0<n:=og;have hL:=qX m.ax;refine lp (σ:=Int) (fun i=>(a+n-i).toNat) (fun i=>(a<=i/\i<=a+n)/\∀ j,a<=j->j<i->m.ax j=0) (fun i=>[(10,iI i),(0,az mb 0 0),(1,iI a),(2,iI n),(3,.bool w)]) (fun i=>XM W (cm [.cells mb 0 34 (b6 kb p (ai m.ax).length c m.fr m.aX),aM p c 171 3 (ai m.ax).length (fh (ai m.ax))]) [.cells mb 0 34 (b6 kb p (ai m.ax).length c m.fr m.aX),aM p c 171 3 (ai m.ax).length (fh (ai m.ax))]) (a) ?_ S5 (xq (pz 2)) ?_
  ·grind
  intro i hi;obtain⟨hi,sW⟩:=hi;apply gC;refine sd ?_;refine cd ?_ ?_<;>intro h2
  ·refine ca (Zs _ _ _ _ _ hm _) (pz 2) ?_;rintro _ _ ⟨⟨k,rfl,hk⟩,rfl⟩;apply gO;refine cd ?_ ?_<;>intro h3
   ·refine bI (pz 2) ?_;have e:m.qe a n=3:=QV hb (i:=i) og fun e=>by have:=(uc hm.f hk).1.2 e;omega
    exact⟨by rw[e];rfl,p,c,by rw[F3 (by rw[e];decide)]⟩
   ·refine sd (ag (i+1) ?_ ?_ S5 (xq (pz 2)))
    ·omega
    ·refine⟨og,fun j h1 h2=> ?_⟩;by_cases e:j=i
     ·subst e;exact((uc hm.f hk).1).1 og
     grind
  ·have LH:∀ j,a<=j->j<a+n->m.ax j=0:=fun j h1 h2=>sW j h1 og;have IT:=UW (jM hm.f) hn LH;have e:=QW (m:=m) hb LH;refine ld .aa (lI _ _ _ _ _ _) (XO.v (V.build (vs:= #[(0,iI a),(1,iI n),(2,.bool w)]) rfl (v:=.agg (RG.mk a n w).cR) fun _=>kq) rfl (gO ?_));apply XO.buildSlice (e:=171) (vs:= #[(0,.agg (RG.mk a n w).cR)]) (A:=(RG.mk a n w).cR) rfl (fun _=>kq) rfl rfl;intro nb;apply gO;apply je (e:=171) (ja:=(ai m.ax)) (r:=(RG.mk a n w)) rfl rfl Tryz.underlying140 mm (.t2 .aa) .aa og rfl;intro p3 c3;apply gO;apply st (.t2 .aa) (Hq _ _ _ _ _ _ _ _ _) rfl;refine ca (Nv _ _ _ _ _ _ _ _ (hm.f.df hb (UC w)) (OA (Yw hm.f) hb IT) (JP (pd hm.f) IT fun _ _=>rfl) (by first | omega | (simp only[List.length_append,List.length_singleton];omega))) (pk [2,0]) ?_;rintro _ _ ⟨rfl,p2,c2,rfl⟩;apply gO;refine bI (pz 2) ?_;exact⟨by rw[e];rfl,p2,c2,by rw[ME e];rfl⟩
def RT(kb mb:Nat)(p:Option Addr)(c:Nat)(m:MS)(hm:m.Ok)(a n:Int)(w:Bool):Spec Tryz.prog 148 [az mb 0 0,iI a,iI n,.bool w] [.cells mb 0 34 (b6 kb p (ai m.ax).length c m.fr m.aX),aM p c 171 3 (ai m.ax).length (fh (ai m.ax))] (fun x H1=>x=ay 102 (m.kV a n)/\∃ p2 c2,H1=[.cells mb 0 34 (b6 kb p2 (ai (m.mz a n w).ax).length c2 (m.mz a n w).fr (m.mz a n w).aX),aM p2 c2 171 3 (ai (m.mz a n w).ax).length (fh (ai (m.mz a n w).ax))]):=by
 refine Spec.go 49 [0,1,2,3,8,9,10,15,22,28] [] Tryz.func148 fun W=> ?_;refine cq (Nu _ _) .nil ?_;refine cd ?_ ?_<;>intro h1
 ·have hb:fT a n:=by
   simp_all
  refine bI (pz 2) ?_;exact⟨by rw[if_pos hb,Dg hb];rfl,p,c,by rw[Dh (by rw[Dg hb];decide)]⟩
 ·have hb:¬fT a n:=fun q=>h1 fun q2=>by rw[if_pos q]at q2;omega
  have Cv:=hb;unfold fT at Cv;have hn:0<n:=og;have hL:=qX m.ax;refine lp (σ:=Int) (fun i=>(a+n-i).toNat) (fun i=>(a<=i/\i<=a+n)/\∀ j,a<=j->j<i->m.ax j≠0) (fun i=>[(10,iI i),(0,az mb 0 0),(1,iI a),(2,iI n),(3,.bool w)]) (fun i=>XM W (cm [.cells mb 0 34 (b6 kb p (ai m.ax).length c m.fr m.aX),aM p c 171 3 (ai m.ax).length (fh (ai m.ax))]) [.cells mb 0 34 (b6 kb p (ai m.ax).length c m.fr m.aX),aM p c 171 3 (ai m.ax).length (fh (ai m.ax))]) (a) ?_ S5 (xq (pz 2)) ?_
  ·grind
  intro i hi;obtain⟨hi,sW⟩:=hi;apply gC;refine sd ?_;refine cd ?_ ?_<;>intro h2
  ·refine ca (Zs _ _ _ _ _ hm _) (pz 2) ?_;rintro _ _ ⟨⟨k,rfl,hk⟩,rfl⟩;apply gO;refine cd ?_ ?_<;>intro h3
   ·refine bI (pz 2) ?_;have e:m.kV a n=10:=J0 hb (i:=i) og ((uc hm.f hk).1.1 og);exact⟨by rw[e];rfl,p,c,by rw[Dh (by rw[e];decide)]⟩
   ·refine sd (ag (i+1) ?_ ?_ S5 (xq (pz 2)))
    ·omega
    ·refine⟨og,fun j h1 h2=> ?_⟩;by_cases e:j=i
     ·subst e;intro e;have:=(uc hm.f hk).1.2 e;omega
     grind
  ·have e:=MD (m:=m) hb fun j h1 h2=>sW j h1 og;refine ca (Po _ _ _ _ _ hm _ _ hb) (pz 2) ?_;rintro _ _ ⟨p4,c4,p5,c5,rfl,rfl⟩;have Iw:=Di (ai m.ax) a n;apply gO;refine ld .aa (lI _ _ _ _ _ _) (XO.v (V.build (vs:= #[(0,iI a),(1,iI n),(2,.bool w)]) rfl (v:=.agg (RG.mk a n w).cR) fun _=>kq) rfl (gO ?_));apply XO.buildSlice (e:=171) (vs:= #[(0,.agg (RG.mk a n w).cR)]) (A:=(RG.mk a n w).cR) rfl (fun _=>kq) rfl rfl;intro nb;apply gO;apply je (e:=171) (ja:=((ai m.ax).flatMap (mr a n))) (r:=(RG.mk a n w)) rfl rfl Tryz.underlying140 mm (.t2 .aa) .aa og rfl;intro p3 c3;apply gO;apply st (.t2 .aa) (Hq _ _ _ _ _ _ _ _ _) rfl;refine ca (Nv _ _ _ _ _ _ _ _ (hm.f.df hb (UC w)) (OA (FU (jM hm.f) hn) hb fun r hr=>((Ms (jM hm.f) hn).2 r hr).2) (JP (C5 (jM hm.f) (pd hm.f) hn) (fun r hr=>((Ms (jM hm.f) hn).2 r hr).2) fun i hi=>by unfold df;rw[if_neg hi]) (by first | omega | (simp only[List.length_append,List.length_singleton];omega))) (pk [2,0]) ?_;rintro _ _ ⟨rfl,p2,c2,rfl⟩;apply gO;refine bI (pz 2) ?_;exact⟨by rw[e];rfl,p2,c2,by rw[J1 e];rfl⟩
end Go.X.Vm
