import Derived.Test.YthdinakloheinaaGreatDoorkFW3
import Derived.Shelf.SlGeneric
import Derived.Ground.SlsfProg
set_option linter.all false
set_option maxRecDepth 20000
set_option maxHeartbeats 16000000
open Go.Proofs.Tryz
namespace Go.X.Fa
open Go Go.Proofs Go.X
def Nn(b o:Nat)(s:SC)(d:Int->Nat)(hI:s.toSF.Inv d)(hR:s.nt)(n:Int)(Og:∀ n,0<=n->n<10->s.aa n=true->(∀ i,s.cJ i=true->s.aA i≠n)->s.cJ n=false):Fn 157 [ay b o 0,iI n] [d6 b o s,.aV cI (s.dI 254)] (fun v H1=>v=ax 102 (s.oP n)/\∃ t:SC,t.toSF=s.toSF.qa n/\t.nt/\H1=[d6 b o t,.aV cI (t.dI 254)]):=by
 refine Spec.g 49 [0,1,4,6,7,15,18,20,21,40] func157 fun W=> ?_;refine ca (xD _ _ _ _) .h1 ?_;rintro _ _ (⟨h1,rfl,rfl⟩ | ⟨h1,rfl,rfl⟩)
 obtain⟨i0,i1,i2,i3⟩:=h1;apply gO;apply (cd)<;>intro h2
 refine bL (pz 2) ?_;have e:s.oP n=5:=by unfold SF.oP;rw[if_neg og,if_pos (.inl og)]
 rotate_left
 refine wl (σ:=Int) (fun k=>(30-k).toNat) (fun k=>(0<=k/\k<=30)/\∀ j:Int,0<=j->j<k->¬(s.aa j=true/\s.aA j=n)) (fun k=>[(20,iI k),(0,ay b o 0),(1,iI n)]) (fun k=>[d6 b o s,.aV cI (s.dI 254)]) (0) ?_ (pz 2) ?_
 ·grind
 intro k hk;obtain⟨hk,Dr⟩:=hk;apply gC;apply (cd)<;>intro h3
 refine sd (ld .aa (jD _ _) ?_);refine SG 30 rfl ?_ ?_<;>intro h4
 try simp only[sb]at h4
 refine sd (ld .aa (fy _ _) ?_);apply (cd)<;>intro h5
 refine bL (pz 2) ?_;have ha:=SF.QH (s:=s.toSF) (n:=n) hk.1 og jw jw;have e:s.oP n=5:=by unfold SF.oP;rw[if_neg og,if_pos (.inr ha)]
 rotate_left
 ·refine sd (wn (k+1) ?_ ?_ (pz 2));all_goals grind
 ·try simp only[sb]at h4
  refine sd (wn (k+1) ?_ ?_ (pz 2));all_goals grind
 ·refine XO.v (V.build (vs:= #[]) rfl (v:=.agg (mS (yC false 0 0))) fun _=>kq) rfl (gO ?_);refine sd (oS (XO.gz rfl rfl .aa (vq _ n 0 0 false) (qc _) sR (XO.mono (fun _ bR=>XM.newRow (s:=s) (z:=n) og (pk [1]) bR) ?_)));apply gO;refine bL (pk [1,0]) ?_;have hk3:∀ j:Int,0<=j->j<30->¬(s.aa j=true/\s.aA j=n):=fun j a b=>Dr j a og;have ha:=SF.aaN (s:=s.toSF) (n:=n) hk3;have e:s.oP n=0:=by unfold SF.oP;rw[if_neg og,if_neg (by rw[ha];simp;omega)]
  have hk9:∀ i,s.cJ i=true->s.aA i≠n:=fun i hi e9=>by
   obtain⟨a,b9,c⟩:=hI.cJ i hi;grind
  exact⟨by rw[e]<;>rfl,_,by unfold SF.qa;rw[if_pos e],hR.new (Og n i1 i2 i3 hk9) hk9 0 0 false,rfl⟩
 ·have i0:=h1;apply gO;refine bL (pz 2) ?_;try dsimp only[aR,aQ,bH,bQ]
  have e:s.oP n=s.xL n:=by unfold SF.oP;rw[if_pos aq]
  exact⟨by rw[e,aL _ aq],s,by unfold SF.qa;rw[if_neg og],hR,rfl⟩
 all_goals exact⟨by rw[e]<;>rfl,s,by unfold SF.qa;rw[if_neg og],hR,rfl⟩
def PM(b o:Nat)(s:SC)(d:Int->Nat)(hI:s.toSF.Inv d)(hR:s.nt)(n:Int):Fn 190 [ay b o 0,iI n] [d6 b o s,.aV cI (s.dI 254)] (fun v H1=>v=ax 102 (s.zF n)/\∃ t:SC,t.toSF=s.toSF.xW d n/\t.nt/\H1=[d6 b o t,.aV cI (t.dI 254)]):=by
 refine Spec.g 30 [0,1,4,5,6,14] func190 fun W=> ?_;refine ca (PK _ _ _ _) .h1 ?_;rintro _ _ (⟨h1,rfl,rfl⟩ | ⟨h1,rfl,rfl⟩)
 ·obtain⟨i0,i1,i2,i3⟩:=h1;apply gO;refine st .aa (lS _ _ og _) rfl (sd ?_);refine ca (qv _ _ {s with di:=ad s.di (10+n) false} d ⟨hI.h0,hI.up,hI.cJ,hI.quo,hI.wt⟩ hR _ (.inr ⟨og,og,i3⟩)) (pz 2) ?_;rintro _ _ ⟨rfl,t,tl,tR,rfl⟩;have tw:t.toSF=s.toSF.gN d n false:=by rw[tl];unfold SF.gN;rw[if_pos i0]
  have twz:t.cJ (10+n)=false:=by
   show t.toSF.cJ (10+n)=false;rw[tl,SF.Je (s:=({s with di:=ad s.di (10+n) false} :SC).toSF) ⟨hI.h0,hI.up,hI.cJ,hI.quo,hI.wt⟩ og og i3];unfold SF.ready;grind [ah]
  have tI:t.toSF.Inv d:=by rw[tl];exact SF.vr (s:=({s with di:=ad s.di (10+n) false} :SC).toSF) ⟨hI.h0,hI.up,hI.cJ,hI.quo,hI.wt⟩ (.inr ⟨og,og,i3⟩)
  have thp:t.toSF.aa=s.aa/\t.toSF.aA=s.aA:=by rw[tl];exact⟨SF.nL _ _ _,SF.Lw _ _ _⟩
  apply gO;refine sd (XO.v (V.build (vs:= #[]) rfl (v:=.agg (mS (yC false 0 0))) fun _=>kq) rfl (gO ?_));refine sd (oS (XO.gz rfl rfl .aa (vq _ (10+n) 0 0 false) (qc _) sR (XO.mono (fun _ bR=>XM.newRow (s:=t) (z:=(10+n)) og (pk [1]) bR) ?_)));apply gO;refine bL (pk [1,0]) ?_;have hk9:∀ i,t.cJ i=true->t.aA i≠10+n:=fun i hi e9=>by
   obtain⟨a,b9,c⟩:=tI.cJ i hi;have h9:=(tI.up i a b9 c).2.1;omega
  exact⟨by rw[i0];rfl,_,by show t.toSF.rk _ _ _ _=_;unfold SF.xW;rw[if_pos i0,tw],tR.new twz hk9 0 0 false,rfl⟩
 ·have i0:=h1;apply gO;refine bL (pz 2) ?_;try dsimp only[aR,aQ,bH,bQ]
  exact⟨by rw[aL _ aq],s,by unfold SF.xW;rw[if_neg aq],hR,rfl⟩
def PN(b o:Nat)(s:SC)(d:Int->Nat)(hI:s.toSF.Inv d)(hR:s.nt)(n g:Int):Fn 160 [ay b o 0,iI n,iI g] [d6 b o s,.aV cI (s.dI 254)] (fun v H1=>v=ax 102 (s.fl n g)/\∃ t:SC,t.toSF=s.toSF.move d n g/\t.nt/\H1=[d6 b o t,.aV cI (t.dI 254)]):=by
 refine Spec.g 54 [0,1,2,6,7,8,9,17,26] func160 fun W=> ?_;refine ca (PK _ _ _ _) .h1 ?_;rintro _ _ (⟨h1,rfl,rfl⟩ | ⟨h1,rfl,rfl⟩)
 obtain⟨i0,i1,i2,i3⟩:=h1;apply gO;refine ca (xD _ _ _ _) .h1 ?_;rintro _ _ (⟨h2,rfl,rfl⟩ | ⟨h2,rfl,rfl⟩)
 ·obtain⟨k0,k1,k2,k3⟩:=h2;apply gO;refine ld .aa (ux _ _) (st .aa (lS _ _ og _) rfl (sd ?_));refine ca (qv _ _ {s with di:=ad s.di (10+n) false} d ⟨hI.h0,hI.up,hI.cJ,hI.quo,hI.wt⟩ hR _ (.inr ⟨og,og,i3⟩)) (pz 2) ?_;rintro _ _ ⟨rfl,t,tl,tR,rfl⟩;have tw:t.toSF=s.toSF.gN d n false:=by rw[tl];unfold SF.gN;rw[if_pos i0]
  have twz:t.cJ (10+n)=false:=by
   show t.toSF.cJ (10+n)=false;rw[tl,SF.Je (s:=({s with di:=ad s.di (10+n) false} :SC).toSF) ⟨hI.h0,hI.up,hI.cJ,hI.quo,hI.wt⟩ og og i3];unfold SF.ready;grind [ah]
  have tI:t.toSF.Inv d:=by rw[tl];exact SF.vr (s:=({s with di:=ad s.di (10+n) false} :SC).toSF) ⟨hI.h0,hI.up,hI.cJ,hI.quo,hI.wt⟩ (.inr ⟨og,og,i3⟩)
  have thp:t.toSF.aa=s.aa/\t.toSF.aA=s.aA:=by rw[tl];exact⟨SF.nL _ _ _,SF.Lw _ _ _⟩
  have UE:SF.Inv ({t with aA:=ad t.aA (10+n) g,v:=ad t.v (10+n) 0,di:=ad t.di (10+n) (s.di (10+n))} :SC).toSF (ad d (10+n) (d g+1)):=tI.adD (n:=10+n) (g:=g) og ⟨k1,k2,by rw[thp.1];exact k3⟩ twz _ _;have hR2:SC.nt {t with aA:=ad t.aA (10+n) g,v:=ad t.v (10+n) 0,di:=ad t.di (10+n) (s.di (10+n))} :=tR.alp (z:=10+n) twz ({t with aA:=ad t.aA (10+n) g,v:=ad t.v (10+n) 0,di:=ad t.di (10+n) (s.di (10+n))} :SC).toSF rfl (fun i hi=>ae _ _ hi) fun i hi=>ae _ _ hi;apply gO;refine st .aa (Bm _ _ og _) rfl (st .aa (vn _ _ og _) rfl (st .aa (lS _ _ og _) rfl (sd ?_)));refine ca (qv _ _ {t with aA:=ad t.aA (10+n) g,v:=ad t.v (10+n) 0,di:=ad t.di (10+n) (s.di (10+n))} (ad d (10+n) (d g+1)) UE hR2 _ (.inr ⟨og,og,by show t.toSF.aa _=true;rw[thp.1];exact i3⟩)) (pz 2) ?_;rintro _ _ ⟨rfl,r,rl,rR,rfl⟩;apply gO;refine bL (pz 2) ?_;have e:s.fl n g=0:=by unfold SF.fl;rw[if_neg og];exact k0
  exact⟨by rw[e]<;>rfl,r,by rw[rl];unfold SF.move SF.mv1;rw[if_pos e,<-tw],rR,rfl⟩
 have k0:=h2;apply gO;refine bL (pz 2) ?_;try dsimp only[aR,aQ,bH,bQ]
 have e:s.fl n g=s.xL g:=by unfold SF.fl;rw[if_neg og]
 rotate_left
 have i0:=h1;apply gO;refine bL (pz 2) ?_;try dsimp only[aR,aQ,bH,bQ]
 have e:s.fl n g=s.zF n:=by unfold SF.fl;rw[if_pos aq]
 rotate_left;all_goals exact⟨by rw[e,aL _ aq],s,by unfold SF.move;rw[if_neg og],hR,rfl⟩
def YS(b o:Nat)(s:SC)(d:Int->Nat)(hI:s.toSF.Inv d)(hR:s.nt)(hD:∀ n,0<=n->n<30->d n<=1000)(Bd:Int)(hB:0<=Bd/\Bd<=100000000000000)(hS:s.toSF.cb Bd)(ao7:0<=s.iC/\s.iC<=Bd)(Og:(s.toSF.p7 d).oc):Fn 112 [ay b o 0] [d6 b o s,.aV cI (s.dI 254)] (fun v H1=>v=iI (s.toSF.l8 d).1/\∃ t:SC,t.toSF=(s.toSF.l8 d).2/\t.nt/\H1=[d6 b o t,.aV cI (t.dI 254)]):=by
 refine Spec.g 94 [0,2,3,4,5,7,8,10,40,65,67,81] func112 fun W=> ?_;refine wl (σ:=SC×Int) (fun x=>(10-x.2).toNat) (fun x=>x.1.nt/\x.1.toSF.Inv d/\(1<=x.2/\x.2<=10)/\x.1.toSF=s.toSF.nJ d (x.2-1).toNat/\x.1.toSF.iC=s.toSF.iC/\x.1.toSF.cb Bd) (fun x=>[(3,iI x.2),(0,ay b o 0)]) (fun x=>[d6 b o x.1,.aV cI (SC.dI 254 x.1)]) ((s,1)) ?_ (pz 2) ?_
 ·exact⟨hR,hI,sq,rfl,rfl,hS⟩
 intro x hx;obtain⟨xR,xI,KI,YG,hxn,xS⟩:=hx;apply gC;apply (cd)<;>intro h1
 have hqx:=xI.quo x.2 og og;apply (sd);refine rq [0,1,2,3,4,5,6,7,8,9,10,11,12,13,14,15,16,17,18,19,20,21,22] mixed ?_;apply ld .aa (jD _ _);refine SG 22 rfl ?_ ?_<;>intro h2
 try simp only[sb]at h2
 have hhr:x.1.aa x.2=true:=h2;apply ld .aa (lT _ _);apply UV 29<;>intro h3
 apply ld .aa (CE _);apply ld .aa (Bq _ _ og);refine XO.v (V.rem rfl rfl uY _ (Int.tmod_eq_emod_of_nonneg og)) rfl (gO ?_);apply (cd)<;>intro h4
 ·apply st .aa (p8 _ _ og _) rfl;refine ca (qv _ _ ({x.1 with ek:=ad x.1.ek x.2 0} :SC) d ⟨xI.h0,xI.up,xI.cJ,xI.quo,xI.wt⟩ xR _ (.inr ⟨og,og,hhr⟩)) (pz 2) ?_;rintro _ _ ⟨rfl,t,tl,tR,rfl⟩;apply gO;apply (sd);refine wn ((t,x.2+1)) ?_ ?_ (pz 2)
  ·omega
  ·refine⟨tR,?_,eI,?_,?_,?_⟩
   ·show t.toSF.Inv d;rw[tl];exact SF.vr (s:=({x.1 with ek:=ad x.1.ek x.2 0} :SC).toSF) ⟨xI.h0,xI.up,xI.cJ,xI.quo,xI.wt⟩ (.inr ⟨og,og,hhr⟩)
   ·show t.toSF=s.toSF.nJ d (x.2+1-1).toNat;rw[tl,SF.aaP KI.1 YG ⟨hhr,aq,aq⟩]
   ·show t.toSF.iC=_;rw[tl];exact(SF.kT _ _ _).2.2.2.2.2.2.2.2.2.2.trans hxn
   ·show t.toSF.cb Bd;rw[tl];exact SF.cb.iQ _ (({x.1 with ek:=ad x.1.ek x.2 0} :SC).toSF) _ ⟨xI.h0,xI.up,xI.cJ,xI.quo,xI.wt⟩ (xS.ek hB.1 x.2) (.inr ⟨og,og,hhr⟩)
 rotate_left;rotate_left
 ·try simp only[sb]at h2
  have hhr:x.1.aa x.2=false:=h2;apply (sd);refine wn ((x.1,x.2+1)) ?_ ?_ (pz 2)
  ·omega
  ·refine⟨xR,xI,eI,?_,hxn,xS⟩;show x.1.toSF=s.toSF.nJ d (x.2+1-1).toNat;rw[SF.Jf KI.1 YG];simp_all
 ·have Vb:x.2=10:=og;rw[show(x.2-1).toNat=9 from og]at YG;have hte:({x.1 with iC:=x.1.iC+1} :SC).toSF=(s.toSF.p7 d):=by
   show({x.1.toSF with iC:=x.1.toSF.iC+1} :SF)= {s.toSF.nJ d 9 with iC:=s.toSF.iC+1};simp_all
  have hI1:SF.Inv ({x.1 with iC:=x.1.iC+1} :SC).toSF d:=⟨xI.h0,xI.up,xI.cJ,xI.quo,xI.wt⟩;have hR1:SC.nt ({x.1 with iC:=x.1.iC+1} :SC):=xR;have hS1:SF.cb ({x.1 with iC:=x.1.iC+1} :SC).toSF Bd:=xS;have KY:∀ i,({x.1 with iC:=x.1.iC+1} :SC).toSF.cJ i=true->0<i/\i<30:=fun i hi=>⟨(hI1.cJ i hi).1,(hI1.cJ i hi).2.1⟩;have hF:=hR1.first KY (g:=0) og og
  rw[<-hte]at Og;apply ld .aa (CE _);apply (sd);apply st .aa (Lu _ _) rfl;apply (sd);apply XR.mono fun _ bR=>oB (z:=0) og (pz 2) bR;refine ca (RL _ _ _ _ _) (pz 2) ?_;rintro _ _ ⟨rfl,rfl⟩;apply XO.mono fun _ bR=>tr (z:=0) og (pz 5) bR;apply gO;apply (yx)<;>intro h5
  ·try simp only[sb]at h5
   have hb:({x.1 with iC:=x.1.iC+1} :SC).toSF.p6 0<0:=by
    simp_all
   have Fw:SF.b8 d s.toSF= -1:=by
    unfold SF.b8;rw[<-hte];exact SF.ae8 _ _ og hb
   refine bL (pz 2) ?_;refine⟨?_,_,?_,hR1,rfl⟩
   ·unfold SF.l8;rw[Fw];rfl
   ·unfold SF.l8;rw[Fw];exact hte
  ·try simp only[sb]at h5
   have hb:¬({x.1 with iC:=x.1.iC+1} :SC).toSF.p6 0<0:=hF.1.1 h5;obtain⟨⟨b1,b2,b3⟩,b4,b5⟩:=SF.zH KY hb;have hf1:(x.1.Q 0).first.1=({x.1 with iC:=x.1.iC+1} :SC).toSF.p6 0:=hF.2 hb
   have Fw:SF.NJ ({x.1 with iC:=x.1.iC+1} :SC).toSF (SF.Jc d 30) (x.1.Q 0).first.1=SF.b8 d s.toSF:=by
    unfold SF.b8;rw[<-hte,SF.Od _ _ og hb,hf1]
   have hbI:=hI1.cJ _ b1;have hdb:=(hI1.up _ b4 b5 hbI.2.2).2.2.2;rw[b2]at hdb;refine wl (σ:=Int) (fun a=>SF.Jc d 30-d a) (fun a=>(0<a/\a<30/\({x.1 with iC:=x.1.iC+1} :SC).aa a=true)/\({x.1 with iC:=x.1.iC+1} :SC).cJ a=true/\(∃ k,SF.Jc d 30<k+d a/\SF.NJ ({x.1 with iC:=x.1.iC+1} :SC).toSF k a=SF.b8 d s.toSF)/\∃ j,SF.upW ({x.1 with iC:=x.1.iC+1} :SC).toSF j a) (fun a=>[(5,iI a),(0,ay b o 0)]) (fun a=>[d6 b o ({x.1 with iC:=x.1.iC+1} :SC),.aV cI (SC.dI 254 ({x.1 with iC:=x.1.iC+1} :SC))]) ((x.1.Q 0).first.1) ?_ (pz 2) ?_
   ·rw[hf1]at Fw ⊢;exact⟨⟨b4,b5,hbI.2.2⟩,b1,⟨SF.Jc d 30,og,Fw⟩,1,.inr ⟨b1,by show({x.1 with iC:=x.1.iC+1} :SC).toSF.aA _<=0;rw[b2];omega⟩⟩
   intro a ha;obtain⟨⟨a0,a1,a2⟩,aw,⟨k,hk,ak⟩,⟨j,ju⟩⟩:=ha;apply gC;apply (cd)<;>intro h6
   ·have Z9:=SF.SZ hI1 Og a0 og aw;have hFa:=hR1.first KY (g:=a) og og
    have hfa:(x.1.Q a).first.1=({x.1 with iC:=x.1.iC+1} :SC).toSF.p6 a:=hFa.2 Z9
    obtain⟨⟨c1,c2,c3⟩,c4,c5⟩:=SF.zH KY Z9;have hcI:=hI1.cJ _ c1;have hdc:=(hI1.up _ c4 c5 hcI.2.2).2.2.2;rw[c2]at hdc;have hma:=SF.Dt d 30 a og og;have hmc:=SF.Dt d 30 _ (Int.le_of_lt c4) c5;apply (sd);apply XR.mono fun _ bR=>oB (z:=a) og (pz 2) bR;refine ca (RL _ _ _ _ _) (pz 2) ?_;rintro _ _ ⟨rfl,rfl⟩;apply XO.mono fun _ bR=>tr (z:=a) og (pz 5) bR;apply gO;refine wn ((x.1.Q a).first.1) ?_ ?_ (pz 2)
    ·grind
    ·rw[hfa];obtain⟨k2,rfl⟩:∃ k2,k=k2+1:=⟨k-1,og⟩;rw[SF.Od _ _ og Z9]at ak;exact⟨⟨c4,c5,hcI.2.2⟩,c1,⟨k2,og,ak⟩,j+1,.inr ⟨c1,by rw[c2];exact ju⟩⟩
   ·have hae:a=SF.b8 d s.toSF:=by
     rw[SF.aaO _ _ og]at ak;omega
    have htk:s.toSF.l8 d=(a-10,SF.xK (d a+1) ({x.1 with iC:=x.1.iC+1} :SC).toSF a):=by
     unfold SF.l8;grind
    have hda:=hD a og a1;refine wl (σ:=SC×Int) (fun y=>if y.2=0 then 0 else d y.2+1) (fun y=>y.1.nt/\y.1.toSF.Inv d/\(y.2=0\/(0<y.2/\y.2<30/\y.1.aa y.2=true))/\y.1.toSF.cb (Bd+1048577*((d a:Int)-(d y.2:Int)))/\d y.2<=d a/\(∃ k,d y.2+1<=k/\SF.xK k y.1.toSF y.2=(s.toSF.l8 d).2)/\∃ j,SF.upW y.1.toSF j y.2) (fun y=>[(8,iI y.2),(0,ay b o 0),(5,iI a)]) (fun y=>[d6 b o y.1,.aV cI (SC.dI 254 y.1)]) ((({x.1 with iC:=x.1.iC+1} :SC),a)) ?_ (pz 2) ?_
    ·grind
    intro y hy;obtain⟨yR,yI,yn,yS,yd,⟨yk,hyk,yl⟩,⟨j,yu⟩⟩:=hy;apply gC;apply (cd)<;>intro h7
    ·obtain⟨y0,y1,y2⟩:=yn.resolve_left og;obtain⟨p0,pp1,p2,p3⟩:=yI.up y.2 y0 y1 y2;obtain⟨k2,rfl⟩:∃ k2,yk=k2+1:=⟨yk-1,og⟩;rw[SF.QJ _ _ y0]at yl;obtain⟨ywn,yu2⟩:y.1.toSF.cJ y.2=true/\∃ j,SF.upW y.1.toSF j (y.1.toSF.aA y.2):=by
      cases j with
      | zero=>have:y.2<=0:=yu;omega
      | succ j=>
       rcases yu with q | ⟨q1,q2⟩
       ·omega
       ·grind
     have hdy:=hD y.2 og y1;refine ca (YQ _ _ _ d yI yR (Bd+1048577*((d a:Int)-(d y.2:Int))) og yS _ ⟨y0,y1,y2⟩ ywn) (pz 2) ?_;rintro _ _ ⟨rfl,t,tl,tR,rfl⟩;have htp:t.aA y.2=y.1.toSF.aA y.2:=by show t.toSF.aA y.2=_;rw[tl];rfl
     apply gO;apply (sd);apply ld .aa (fy _ _);refine ag ((t,y.1.toSF.aA y.2)) ?_ ?_ (S3 (Gn htp) rfl rfl) (xq (pz 2))
     ·grind
     ·have SQ:y.1.toSF.aA y.2=0\/(0<y.1.toSF.aA y.2/\y.1.toSF.aA y.2<30/\y.1.toSF.aa (y.1.toSF.aA y.2)=true):=by
       grind
      obtain⟨j2,yu3⟩:=yu2;refine⟨tR,by show t.toSF.Inv d;rw[tl];exact yI.Bl y0 y1 y2,?_,?_,by show d (y.1.toSF.aA y.2)<=d a;omega,⟨k2,by show d (y.1.toSF.aA y.2)+1<=k2;omega,by show SF.xK k2 t.toSF (y.1.toSF.aA y.2)=_;rw[tl];exact yl⟩,j2,by show SF.upW t.toSF j2 (y.1.toSF.aA y.2);rw[tl];exact SF.QK yI j2 _ SQ p3 yu3⟩
      ·show y.1.toSF.aA y.2=0\/(0<y.1.toSF.aA y.2/\y.1.toSF.aA y.2<30/\t.toSF.aa (y.1.toSF.aA y.2)=true);rw[tl];exact SQ
      ·show t.toSF.cb (Bd+1048577*((d a:Int)-(d (y.1.toSF.aA y.2):Int)));rw[tl];exact(SF.cb.Bl yI yS y0 y1 y2).mono og
    ·apply (sd);refine bL (pz 2) ?_;try dsimp only[aR,aQ,bH,bQ]
     have hy0:y.2=0:=by
      omega
     rw[hy0,SF.Ht _ _ og]at yl;grind
 all_goals
  apply (sd);refine wn ((x.1,x.2+1)) ?_ ?_ (pz 2)
  ·omega
  ·refine⟨xR,xI,eI,?_,hxn,xS⟩;show x.1.toSF=s.toSF.nJ d (x.2+1-1).toNat;rw[SF.Jf KI.1 YG];omega
end Go.X.Fa

namespace Go.X.Vm
open Go Go.Proofs Go.X
def age:xN Tryz.prog 299=some (64,1):=kq
def ach:fE Tryz.prog 29=some 1:=kq
def alX(x t:Nat)(hx:x<18446744073709551616)(ht:x.testBit t=true)(hl:∀ j,j<t->x.testBit j=false)(UF:t<64):Fn 264 [.int .u64 (x:Int)] [g9] (ap (iI (t:Int)) []):=by
 have q8:0<x:=by
  grind
 obtain⟨z1,z2,z3,z4,z5⟩:=WY t UF;refine Spec.g 14 [0,2,4] func264 fun W=> ?_;refine KJ rfl eI (XO.v (V.neg rfl _ (abd ⟨q8,hx⟩)) rfl (gO ?_));refine XO.v (V.bits (r:=2^t) rfl rfl rfl hx (Nat.sub_lt dq q8) (congrArg some (Qq (w:=64) ht hl hx UF))) rfl (gO ?_);refine XO.v (V.mul rfl rfl _ z1) rfl (gO ?_);refine XO.v (V.shr rfl rfl og _ z2) rfl (gO ?_);refine XO.v (Hb rfl rfl age og) rfl (gO ?_);refine aay .aa (Oj UF) (XO.v (nI rfl underlying5 underlying3 _ z4) rfl (gO ?_));refine bL .nil ?_;exact⟨rfl,rfl⟩
def agf(f:Int->Bool)(x:Nat)(hx:x<18446744073709551616)(hf:∀ j,j<64->x.testBit j=f j):Fn 221 [.int .u64 (x:Int)] [] (ap (iI (fh f 64)) []):=by
 have s2:=tO (wU (qD x)) 4;have g2:=Ov (qD x);have g1:=WU x;have l3:=WV (wU (qD x));have l4:(KM (GK (wU (qD x))))<=2170205185142300190:=by have:=tO (GK (wU (qD x))) 8;unfold KM;omega
 have l5:(QW (KM (GK (wU (qD x)))))<=4340410370284600380:=by have:=tO (KM (GK (wU (qD x)))) 16;unfold QW;omega
 have l6:(Z0 (QW (KM (GK (wU (qD x))))))<=8680820740569200760:=by have:=tO (QW (KM (GK (wU (qD x))))) 32;unfold Z0;omega
 refine Spec.g 35 [0,2] func221 fun W=> ?_;refine XO.v (V.shr rfl rfl og ((x >>> 1:Nat):Int) (tP (n:=1) og _)) rfl (gO ?_);refine XO.v (V.bits (r:=(x >>> 1)&&&6148914691236517205) rfl rfl rfl (by first | assumption | exact Nat.lt_of_le_of_lt (tO _ _) aq | (show _<18446744073709551616;omega)) dq rfl) rfl (gO ?_);refine XO.v (V.bits (r:=x&&&6148914691236517205) rfl rfl rfl (by first | assumption | exact Nat.lt_of_le_of_lt (tO _ _) aq | (show _<18446744073709551616;omega)) dq rfl) rfl (gO ?_);refine XO.v (V.add rfl rfl (((qD x):Nat):Int) (by rw[<-Int.natCast_add];exact oy rfl (Nat.lt_of_le_of_lt (WU _) dq))) rfl (gO ?_);refine XO.v (V.shr rfl rfl og (((qD x) >>> 2:Nat):Int) (tP (n:=2) og _)) rfl (gO ?_);refine XO.v (V.bits (r:=((qD x) >>> 2)&&&3689348814741910323) rfl rfl rfl (by first | assumption | exact Nat.lt_of_le_of_lt (tO _ _) aq | (show _<18446744073709551616;omega)) dq rfl) rfl (gO ?_);refine XO.v (V.bits (r:=(qD x)&&&3689348814741910323) rfl rfl rfl (by first | assumption | exact Nat.lt_of_le_of_lt (tO _ _) aq | (show _<18446744073709551616;omega)) dq rfl) rfl (gO ?_);refine XO.v (V.add rfl rfl (((wU (qD x)):Nat):Int) (by rw[<-Int.natCast_add];exact oy rfl (Nat.lt_of_le_of_lt (Ov _) dq))) rfl (gO ?_);refine XO.v (V.shr rfl rfl og (((wU (qD x)) >>> 4:Nat):Int) (tP (n:=4) og _)) rfl (gO ?_);refine XO.v (V.add rfl rfl (((wU (qD x)) >>> 4+(wU (qD x)):Nat):Int) (by rw[<-Int.natCast_add];exact oy rfl (show _<18446744073709551616 by omega))) rfl (gO ?_);refine XO.v (V.bits (r:=(GK (wU (qD x)))) rfl rfl rfl (show _<18446744073709551616 by omega) dq rfl) rfl (gO ?_);refine XO.v (V.shr rfl rfl og (((GK (wU (qD x))) >>> 8:Nat):Int) (tP (n:=8) og _)) rfl (gO ?_);refine XO.v (V.add rfl rfl (((KM (GK (wU (qD x)))):Nat):Int) (by rw[<-Int.natCast_add];exact oy rfl (Nat.lt_of_le_of_lt l4 dq))) rfl (gO ?_);refine XO.v (V.shr rfl rfl og (((KM (GK (wU (qD x)))) >>> 16:Nat):Int) (tP (n:=16) og _)) rfl (gO ?_);refine XO.v (V.add rfl rfl (((QW (KM (GK (wU (qD x))))):Nat):Int) (by rw[<-Int.natCast_add];exact oy rfl (Nat.lt_of_le_of_lt l5 dq))) rfl (gO ?_);refine XO.v (V.shr rfl rfl og (((QW (KM (GK (wU (qD x))))) >>> 32:Nat):Int) (tP (n:=32) og _)) rfl (gO ?_);refine XO.v (V.add rfl rfl (((Z0 (QW (KM (GK (wU (qD x)))))):Nat):Int) (by rw[<-Int.natCast_add];exact oy rfl (Nat.lt_of_le_of_lt l6 dq))) rfl (gO ?_);refine XO.v (nI rfl underlying29 underlying3 (((Z0 (QW (KM (GK (wU (qD x)))))):Nat):Int) (IntWalk.i64_in _ og)) rfl (gO ?_);refine XO.v (Qs rfl rfl (r:=(Z0 (QW (KM (GK (wU (qD x))))))&&&127) og dq (Nat.lt_of_le_of_lt Nat.and_le_right dq) rfl) rfl (gO ?_);refine bL .nil ?_;exact⟨congrArg (Value.int .i64) (WW f x hf),rfl⟩
def ajl:Fn 174 [] [] (fun v H1=>∃ b,v=ay b 0 0/\H1=[d8 b 0 BB.cR.fu]):=by
 refine Spec.g 9 [0,1] func174 fun W=> ?_;refine XO.v (V.build (vs:= #[]) rfl (v:=.agg #[.int .u64 0,.int .u64 0,.int .u64 0,.int .u64 0,.int .u64 0,.int .u64 0,.int .u64 0,iI 0,iI 0,iI 0,iI 0,iI 0,iI 0,iI 0,iI 0,iI 0,iI 0,iI 0,iI 0,iI 0,iI 0,iI 0,iI 0,iI 0,iI 0,iI 0,iI 0,iI 0,iI 0,iI 0,iI 0,iI 0,iI 0,iI 0,iI 0,iI 0,iI 0,iI 0,iI 0,iI 0,iI 0,iI 0,iI 0,iI 0,iI 0,iI 0,iI 0,iI 0,iI 0,iI 0,iI 0,iI 0,iI 0,iI 0,iI 0,iI 0,iI 0,iI 0,iI 0,iI 0,iI 0,iI 0,iI 0,iI 0,iI 0,iI 0,iI 0,iI 0,iI 0,iI 0,iI 0]) fun _=>kq) rfl (gO ?_);refine XO.box (m:=71) (C:=bN ⟨BB.dR,fun _=>0⟩) rfl rfl BG rfl ?_;intro bs;apply gO;refine sd (st .aa (pK _ BB.cR 6 og (v:=1) ⟨zS.1.symm,fun m h0 h1 h2=>by rw[zS.2 m h0 h1 h2];exact(zT m h0 h1).symm⟩) rfl (aO rfl rfl (ai .h1 rfl ?_)));exact⟨_,rfl,rfl⟩
def agh(p o:Nat)(b:BB)(hI:b.Inv)(q:Int):Fn 245 [ay p o 0,iI q] [d8 p o b.fu,g9] (ap (.tuple #[iI (b.take q).1,ax 102 (b.take q).2.1]) [d8 p o (b.take q).2.2.fu]):=by
 refine Spec.g 79 [0,1,4,5,6,7,13,26,30,53] func245 fun W=> ?_;apply UV 10<;>intro h1
 ·refine fg .h1 ?_;rw[ru og];exact⟨rfl,rfl⟩
 ·apply (cd)<;>intro h2
  ·refine fg .h1 ?_;rw[ru og];exact⟨rfl,rfl⟩
  ·refine wl (σ:=Int) (fun k=>(7-k).toNat) (fun k=>(q<=k/\k<=7)/\∀ j:Int,q<=j->j<k->b.gP j=0) (fun k=>[(6,iI k),(0,ay p o 0),(1,iI q)]) (fun k=>[d8 p o b.fu,g9]) (q) ?_ (pz 2) ?_
   ·grind
   intro k hk;obtain⟨hk,hkz⟩:=hk;apply gC;apply UV 18<;>intro h3
   ·refine sd (ld .aa (ej _ _) ?_);apply (cd)<;>intro h4
    ·have hz:((b.gP k:Nat):Int)=0:=h4;refine sd (wn (k+1) ?_ ?_ (pz 2));all_goals grind
    ·have hz:¬((b.gP k:Nat):Int)=0:=h4;apply (cd)<;>intro h5
     ·refine fg .h1 ?_;omega
     ·have hkm:¬b.gP k=0:=og;obtain⟨t,ht,hl⟩:=DZ hkm;obtain⟨apg,UF,ZX⟩:=CL ht hl;have ZX:=(lx og).1 ZX;have hpk:=Jo (b:=b) og (k:=k) ⟨hk.1,og⟩ hkz ht hl;have hhm:=Jq (b:=b) (k:=k) og UF ZX.1 ZX.2;refine sd (ld .aa (ej _ _) ?_);refine KK 0 (alX (b.gP k) t (kW _ _) ht hl UF) (pk [1]) rfl ?_;refine rq [0,1,2,3,4,5,6,7,8,9,10,11,12] mixed (sd (ld (.ao .aa) (ej _ _) (XO.v (V.shl rfl rfl og _ (zR)) rfl (gO ?_))));refine XO.v (V.bits rfl rfl rfl (kW _ _) (jE og) rfl) rfl (gO ?_);refine sd (st (.ao .aa) (pK _ (b.iD t) _ og hhm) rfl ?_);refine lp (σ:=BB) (fun x=>(x.bK t-(q+1)).toNat) (fun x=>x.Inv/\q+1<=x.bK t/\x.bK t<=k+1/\x.tk t=true/\BB.iE (x.bK t-(q+1)).toNat x t=BB.iE (k-q).toNat (b.iD t) t) (fun x=>[(6,iI (x.bK t-1)),(0,ay p o 0),(1,iI q),(7,iI (t:Int))]) (fun x=>XM W (cx [d8 p o b.fu,g9]) [d8 p o ⟨x,b.eK⟩]) (b.iD t) ?_ (S4 (Gn (show k=b.bK t-1 by omega)) rfl rfl rfl) (xq (pk [1])) ?_
      ·exact⟨hI.iD og,by show q+1<=b.bK t;omega,by show b.bK t<=k+1;omega,ah _ _ _,by rw[show(b.iD t).bK t=k+1 from ZX.1];congr 1;omega⟩
      intro x hx;obtain⟨hx,x1,x2,x3,x4⟩:=hx;apply gC;apply (cd)<;>intro h6
      ·obtain⟨s1,s2,s3,s4⟩:=hx.split (a:=t) og;have hsm:=hx.Ou (a:=t) og x3;have hpp:=rn (x.bK t-2);have hrx:=hx.jV t;refine oV (XO.v (V.sub rfl rfl (x.bK t-2) (by rw[show x.bK t-1-1=x.bK t-2 from og];exact IntWalk.i64_in _ og)) rfl (gO ?_));refine rq [0,1,2,3,4,5,6,7,8,9,10,11,12,13,14,15] mixed (sd (ld .aa (ej _ _) (XO.v (V.shl rfl rfl og _ (Js)) rfl (gO ?_))));refine sd (XO.v (V.shl rfl rfl og _ (zR)) rfl (gO ?_));refine XO.v (V.bits rfl rfl rfl (kW _ _) (jE og) rfl) rfl (gO ?_);refine sd (st .aa (pK _ (x.split t) _ og hsm) rfl (ag (x.split t) ?_ ?_ (S4 (Gn (by rw[s4];omega)) rfl rfl rfl) (xq .h1)))
       ·omega
       ·refine⟨s1,by rw[s4];omega,by rw[s4];omega,x3,?_⟩;rw[<-x4,s4,show(x.bK t-(q+1)).toNat=(x.bK t-1-(q+1)).toNat+1 from og];rfl
      ·have hn:(x.bK t-(q+1)).toNat=0:=og;rw[hn]at x4;have x5:x=BB.iE ((k.toNat:Int)-q).toNat (b.iD t) t:=by rw[show((k.toNat:Int)-q).toNat=(k-q).toNat from og];exact x4
       have No:=hI.HD (o:=q) og hpk;rw[<-x5]at No;refine sd (sd (st .aa (vB _ _ og _) rfl (bC rfl rfl rfl (ai .h1 rfl ?_))));rw[<-No,BB.lV og hpk];exact⟨rfl,rfl⟩
   ·apply (cd)<;>intro h7
    ·refine fg .h1 ?_;rw[zO og (Jp fun j h1 h2=>hkz j h1 og)];exact⟨rfl,rfl⟩
    ·have hkm:¬b.gP k=0:=og;omega
def YT(p o:Nat)(b:BB)(hI:b.Inv)(a:Int):Fn 218 [ay p o 0,iI a] [d8 p o b.fu] (ap (ax 102 (b.qf a).1) [d8 p o (b.qf a).2.fu]):=by
 refine Spec.g 80 [0,1,4,5,6,12,20,35,49] func218 fun W=> ?_;apply UV 9<;>intro h1;rotate_left
 apply (cd)<;>intro h2;rotate_left
 apply (sd);refine ld .aa (mV _ _) ?_;apply (cd)<;>intro h3
 ·have hu:b.eK a=0:=h3;have ym:b.is a=2:=BB.zD og ((hI.HF a).1 hu);refine bL .h1 ?_;rw[qP og,ym];exact⟨rfl,rfl⟩
 have hu:¬b.eK a=0:=h3;obtain⟨ht,ho⟩:=(hI.HF a).2 hu;have UG:=hI.tk a ht;have NM:=hI.jV a;have ym:b.is a=0:=BB.El og ht;apply (sd);refine ld .aa (mV _ _) ?_;refine oV ?_;refine XO.v (V.sub rfl rfl (b.bK a-1) (by rw[show b.fu.u a=b.bK a from ho];exact IntWalk.i64_in _ og)) rfl (gO ?_);apply (sd);refine st .aa (vB _ _ og _) rfl ?_;refine lp (σ:=BB×Int) (fun x=>(7-x.1.bK x.2).toNat) (fun x=>x.1.Inv/\0<x.1.bK x.2/\x.1.tk x.2=false/\BB.kV (7-x.1.bK x.2).toNat x.1 x.2=BB.kV (7-b.bK a).toNat (b.bare a) a) (fun x=>[(1,iI x.2),(5,iI (x.1.bK x.2-1)),(0,ay p o 0)]) (fun x=>XM W (cx [d8 p o b.fu]) [d8 p o ⟨x.1.iD x.2,(ad b.eK a 0)⟩]) ((b.bare a,a)) ?_ S3 (fun w mK=>by
   have e:=Jr (b:=b) ht
   show XM _ _ (.cells p o 71 (bN ⟨(b.bare a).iD a,ad b.eK a 0⟩)::_) w
   rw[e];exact XM.pick .h1 mK) ?_
 ·exact⟨hI.bare a,UG,ah _ _ _,rfl⟩
 intro x hx;obtain⟨hx,x1,x2,x3⟩:=hx;have hxr:=hx.jV x.2;have hxi:=hx.rs x1;apply gC;apply (cd)<;>intro h4
 obtain⟨r1,r2,r3⟩:=hx.BA x1 og;obtain⟨q1,q2⟩:=WS (a:=x.2) (k:=x.1.bK x.2-1) hxi og;have hjt:=hx.Tq x1 og;have hb:=Ow ((x.1.iD x.2).gP (x.1.bK x.2-1)) (x.1.cV x.2).toNat;rw[hjt]at hb;have NK:=aiz (k:=x.1.bK x.2-1) og;refine XO.v (V.shl rfl rfl og _ (Js)) rfl (gO ?_);refine XO.v (Qt rfl rfl (z:=(x.1.cV x.2)) og og og rfl (by rw[L0];exact q1)) rfl (gO ?_);apply (sd);refine ld .aa (ej _ _) ?_;refine XO.v (V.shr rfl rfl og _ (tP og _)) rfl (gO ?_);refine XO.v (V.bits rfl rfl rfl (Nat.lt_of_le_of_lt (tO _ _) (kW _ _)) dq rfl) rfl (gO ?_);apply (cd)<;>intro h5
 have h9:(((((x.1.iD x.2).gP (x.1.bK x.2-1)) >>> (x.1.cV x.2).toNat)&&&1:Nat):Int)=0:=h5;have hc:¬x.1.gj x.2:=fun q=>by
  simp only[q,decide_true,if_true]at hb;omega
 have hx9:BB.kV (7-b.bK a).toNat (b.bare a) a=x.1:=by rw[<-x3];exact GJ _ hc
 rotate_left
 ·have h9:¬(((((x.1.iD x.2).gP (x.1.bK x.2-1)) >>> (x.1.cV x.2).toNat)&&&1:Nat):Int)=0:=h5;have hc:x.1.gj x.2:=by
   apply Classical.byContradiction;intro q;simp only[q,decide_false,Bool.false_eq_true,if_false]at hb;omega
  obtain⟨j1,_,_,_,j5,j6⟩:=hx.ij x1 x2 hc;refine rq [0,1,2,3,4,5,6,7,8,9,10,11,12] mixed ?_;apply (sd);refine ld .aa (ej _ _) ?_;refine XO.v (V.shl rfl rfl og _ (zR)) rfl (gO ?_);refine XO.v (V.bits rfl rfl rfl (kW _ _) (jE og) rfl) rfl (gO ?_);apply (sd);refine st .aa (pK _ ((x.1.ij x.2).iD (min x.2 (x.1.cV x.2))) _ og (hx.Ts x1 hc)) rfl ?_;refine XO.v (V.shl rfl rfl og _ (Js)) rfl (gO ?_);refine XO.v (Qt rfl rfl (z:=(min x.2 (x.1.cV x.2))) og og og rfl (by rw[L0];exact q2)) rfl (gO ?_);apply (sd);refine ag ((x.1.ij x.2,(min x.2 (x.1.cV x.2)))) ?_ ?_ (S3 rfl (Gn (by show x.1.bK x.2-1+1=(x.1.ij x.2).bK (min x.2 (x.1.cV x.2))-1;rw[j5];omega)) rfl) (xq .h1)
  ·
   (show(7-(x.1.ij x.2).bK (min x.2 (x.1.cV x.2))).toNat<(7-x.1.bK x.2).toNat;rw[j5];omega)
  ·refine⟨j1,by show 0<(x.1.ij x.2).bK (min x.2 (x.1.cV x.2));rw[j5];omega,j6,?_⟩;show BB.kV (7-(x.1.ij x.2).bK (min x.2 (x.1.cV x.2))).toNat (x.1.ij x.2) (min x.2 (x.1.cV x.2))=_;rw[<-x3,j5,show(7-x.1.bK x.2).toNat=(7-(x.1.bK x.2+1)).toNat+1 from og,BB.kV,if_pos hc]
 have hx9:BB.kV (7-b.bK a).toNat (b.bare a) a=x.1:=by rw[<-x3,show(7-x.1.bK x.2).toNat=0 from og];rfl
 rotate_left;all_goals first | (have No:=hI.BC ym;rw[hx9]at No;refine rq [0,1,2,3,4,5,6,7,8,9,10,11,12] mixed ?_;apply (sd);refine ld .aa (ej _ _) ?_;refine XO.v (V.shl rfl rfl og _ (zR)) rfl (gO ?_);refine XO.v (V.bits rfl rfl rfl (kW _ _) (jE og) rfl) rfl (gO ?_);apply (sd);refine st .aa (pK _ x.1 _ og (zQ x1 hxi x2)) rfl ?_;refine bL .h1 ?_;rw[<-No,tM ym];exact⟨rfl,rfl⟩) | (refine bL .h1 ?_;have ym:=BB.sa (b:=b) (a:=a) og;rw[qP og,ym];exact⟨rfl,rfl⟩)
def agi(p o:Nat)(b:BB)(hI:b.Inv):Fn 181 [ay p o 0] [d8 p o b.fu] (ap (iI b.left) [d8 p o b.fu]):=by
 refine Spec.g 22 [0,2,3,4,5,9,10,11] func181 fun W=> ?_;refine mP .aa (Ox _) ?_;refine wl (σ:=Int×Int) (fun x=>(7-x.1).toNat) (fun x=>(0<=x.1/\x.1<=7)/\x.2=bU (fun k=>fh (b.at_ k) 64*p2 k) x.1.toNat/\0<=x.2/\x.2<=4096*x.1) (fun x=>[(3,iI x.2),(10,iI x.1),(9,.agg (W0 b.gP 7))]) (fun x=>[d8 p o b.fu]) ((0,0)) ?_ .h1 ?_
 ·exact⟨sq,rfl,sq,sq⟩
 intro x hx;obtain⟨hx,hs,hs0,hs1⟩:=hx;have hcn:=Dv (b.at_ x.1) 64;have hcp:=fun h=>afi (c:=fh (b.at_ x.1) 64) (n:=x.1) hcn h;apply gC;apply (cd)<;>intro h1
 ·have hcp:=hcp og;refine XO.v (s8 rfl rfl underlying246 ach kq og (abg og)) rfl (gO ?_);refine cq (agf (b.at_ x.1) (b.gP x.1) (kW _ _) fun j hj=>by rw[BB.vz];simp[hj]) .nil ?_;refine XO.v (V.shl rfl rfl og _ (abf og og)) rfl (gO ?_);refine sd (sd (wn ((x.1+1,x.2+fh (b.at_ x.1) 64*p2 x.1)) ?_ ?_ .h1))
  ·omega
  ·refine⟨eI,?_,eI,eI⟩;show x.2+_=bU _ (x.1+1).toNat;rw[show(x.1+1).toNat=x.1.toNat+1 from og,bU,<-hs,show((x.1.toNat:Nat):Int)=x.1 from og]
 ·refine bL .h1 ?_;obtain h7:x.1=7:=og;rw[h7]at hs;exact⟨congrArg (Value.int .i64) (by rw[hs];exact hI.abc),rfl⟩
def UH:Fn 98 [] [] (fun v H1=>∃ kb pb,v=ay kb 0 0/\H1=[d9 kb pb VB.cR.ja VB.cR.rf,d8 pb 0 VB.cR.bb.fu]):=by
 refine Spec.g 4 [0] func98 fun W=> ?_;refine ca (ajl) .nil ?_;rintro _ _ ⟨pb,rfl,rfl⟩;apply gO;refine XO.v (V.build (vs:= #[(0,ay pb 0 0)]) rfl (v:=.agg (zKl pb).toArray) fun _=>kq) rfl (gO ?_);refine XO.box (m:=577) (C:=ec pb VB.cR.ja VB.cR.rf) rfl rfl (afl _) rfl ?_;intro kb;apply gO;refine bL (pz 2) ?_;exact⟨_,_,rfl,rfl⟩
def ajm(kb:Nat):Fn 103 [ay kb 0 0] [] (fun v H1=>∃ mb,v=ay mb 0 0/\H1=[d7 mb kb none (aj MS.nil.az).length 0 MS.nil.fr MS.nil.aU,gc none 0 (aj MS.nil.az)]):=by
 refine Spec.g 19 [0,2,3,4,8,9] func103 fun W=> ?_;refine XO.v (V.build (vs:= #[(0,ay kb 0 0)]) rfl (v:=.agg (zNl kb).toArray) fun _=>kq) rfl (gO ?_);refine XO.box (m:=34) (C:=cF kb none 0 0 (frI 0) fun _=>false) rfl rfl (fun i hi=>(Xb _ i hi).trans (congrFun (tV fun i h0 h1=>⟨by unfold frI;first | rw[if_neg og] | rw[if_pos og],rfl⟩) i)) rfl ?_;intro mb;apply gO;refine wl (σ:=Int) (fun i=>(16-i).toNat) (fun i=>0<=i/\i<=16) (fun i=>[(8,iI i),(3,ay mb 0 0)]) (fun i=>[d7 mb kb none 0 0 (frI i) fun _=>false]) (0) ?_ .h1 ?_
 ·omega
 intro i hi;apply gC;apply (cd)<;>intro h1
 ·refine sd (st .aa (qQ _ _ _ _ _ _ _ og _) rfl (sd (ag (i+1) ?_ ?_ S2 fun _ hw=>by rw[<-Xc hi.1];exact XM.pick .h1 hw)));all_goals omega
 ·refine XR.fU 171 3 (aO rfl rfl (ai (pk [1,0]) rfl ?_));have e:i=16:=og;subst e;rw[Xd];exact⟨_,rfl,by unfold d7;rw[show cF kb none 0 0 (frI 16) (fun _=>false)=cF kb none 0 0 (fun _=>0) (fun _=>false)from tV fun i h0 h1=>⟨by unfold frI;rw[if_pos og],rfl⟩];rfl⟩
def agj(kb pb:Nat)(v:VB)(hv:v.Ok):Fn 111 [ay kb 0 0] [d9 kb pb v.ja v.rf,d8 pb 0 v.bb.fu] (ap (iI v.bb.left) [d9 kb pb v.ja v.rf,d8 pb 0 v.bb.fu]):=by
 refine Spec.g 8 [0,2] func111 fun W=> ?_;apply ld .aa (ec.Jw _ _ _);refine cq (agi _ _ _ hv.bb) (pk [1]) ?_;refine bL (pk [1,0]) ?_;exact⟨rfl,rfl⟩
def YU(kb pb:Nat)(v:VB)(hv:v.Ok):Fn 230 [ay kb 0 0] [d9 kb pb v.ja v.rf,d8 pb 0 v.bb.fu,g9] (ap (.tuple #[iI v.take.1,ax 102 v.take.2.1]) [d9 kb pb v.take.2.2.ja v.take.2.2.rf,d8 pb 0 v.take.2.2.bb.fu]):=by
 refine Spec.g 29 [0,2,3,4,5,15] func230 fun W=> ?_;apply ld .aa (ec.Jw _ _ _);refine KK 1 (agh _ _ _ hv.bb _) (pk [1,1]) rfl ?_;apply (cd)<;>intro h1
 ·have rK:¬(v.bb.take 0).2.1=0:=h1;have hfl:=JA h1;refine fg (pk [2,0]) ?_;rw[mf rK];exact⟨rfl,by rw[hfl]⟩
 ·have uX:(v.bb.take 0).2.1=0:=og;have hw:=(hv.bb.ED uX).2.1;refine sd (st (.t2 .aa) (mX _ _ _ _ og _) rfl (XO.v (V.build (vs:= #[]) rfl (v:=.agg (W8 fun _=>0)) fun _=>kq) rfl (gO ?_)));refine sd (gu (.t2 .aa) (HM _ _ _ _ _) rfl ⟨rfl,rfl⟩ (bC rfl rfl rfl (ai (pk [2,0]) rfl ?_)));rw[VB.lV uX];exact⟨rfl,rfl⟩
def agk(kb pb:Nat)(v:VB)(hv:v.Ok)(f:Int)(hf:0<=f/\f<64)(h1:1<=v.rf f):Fn 179 [ay kb 0 0,iI f] [d9 kb pb v.ja v.rf,d8 pb 0 v.bb.fu,g9] (ap (.tuple #[]) [d9 kb pb (v.drop f).ja (v.drop f).rf,d8 pb 0 (v.drop f).bb.fu]):=by
 have hb:=hv.rf f;refine Spec.g 27 [0,1,20] func179 fun W=> ?_;refine rq [0,1,2,3,4,5,6,7,8,9,10] mixed ?_;apply (sd);apply ld .aa (jF _ _ _ _);apply (sd);apply (sd);apply st .aa (mX _ _ _ _ og _) rfl;apply (sd);apply ld .aa (jF _ _ _ _);have e1:ad v.rf f (v.rf f-1) f=v.rf f-1:=ah _ _ _;apply (cd)<;>intro h1
 ·apply ld .aa (ec.Jw _ _ _);refine cq (YT _ _ _ hv.bb _) (pk [1]) ?_;refine dy rfl (ai (pk [1,0]) rfl ?_);grind [wX]
 ·refine dy rfl (ai (pz 2) rfl ?_);grind [wY]
def PO(a n:Int):Fn 177 [iI a,iI n] [] (ap (ax 102 (if gQ a n then 1 else 0)) []):=by
 refine Spec.g 22 [0,1,4,20] func177 fun W=> ?_;apply UV 7<;>intro h1;rotate_left
 apply UV 11<;>intro h2;rotate_left
 apply UV 15<;>intro h3;rotate_left
 apply (sd);apply (cd)<;>intro h4;rotate_left;rotate_left;all_goals refine bL .nil ?_;first | (rw[if_neg (by unfold gQ;omega)];exact⟨rfl,rfl⟩) | (rw[if_pos (by unfold gQ;omega)];exact⟨rfl,rfl⟩)
end Go.X.Vm

namespace Go.X.Vm
open Go Go.X
structure RB where
 f:Fin 17
 n:Int
 w:Bool
instance:Inhabited RB:=⟨⟨0,0,false⟩⟩
def RB.rg(x:RB):RG:=⟨((x.f:Nat):Int),x.n,x.w⟩
def RG.rb(r:RG):RB:=⟨⟨r.fr.toNat%17,Nat.mod_lt _ og⟩,r.n,r.w⟩
theorem RG.ajn{r:RG}(h:0<=r.fr/\r.fr<=16):r.rb.rg=r:=by
 cases r with
 | mk f n w=>
  simp only[RG.rb,RB.rg,RG.mk.injEq,and_true];simp only at h;have:f.toNat%17=f.toNat:=Nat.mod_eq_of_lt og;simp only[this];omega
def fQ(x:RB):List Value:=[iI ((x.f:Nat):Int),iI x.n,.bool x.w]
def UI(x y:RB):Int:=((x.f:Nat):Int)-((y.f:Nat):Int)
theorem DK(x y:RB):Go.Proofs.ltOf UI x y=decide ((x.f:Nat)<(y.f:Nat)):=by
 unfold Go.Proofs.ltOf UI;grind
def YV:Sort.SWO (Go.Proofs.ltOf UI) where
 irrefl x:=by rw[DK];simp
 trans x y z h1 h2:=by rw[DK]at*;simp only[decide_eq_true_eq]at*;omega
 ntrans x y z h1 h2:=by rw[DK]at*;simp only[decide_eq_false_iff_not]at*;omega
def YW(x:RB):(fQ x).length=3:=rfl
def YX(x:RB):∀ v∈fQ x,v.oneCell'=true:=fun v hv=>by
 simp[fQ]at hv;rcases hv with rfl | rfl | rfl<;>rfl
theorem RN(d:Array RB):(Sort.flatK fQ 3 d).toList=cE (fG (d.toList.map RB.rg)) (d.size*3):=by
 unfold Sort.flatK cE;rw[Array.toList_map,Array.toList_range];apply List.map_congr_left;intro t ht;have RO:t<d.size*3:=by simpa using ht
 have e:(d.toList.map RB.rg).getD (t/3) RG.nil=(d[t/3]!).rg:=by
  grind
 unfold fG;rw[e];have h:t%3=0\/t%3=1\/t%3=2:=og;rcases h with h | h | h<;>rw[h]<;>rfl
def Ki{P:Program}{ρ:Shelf.Ren}(L:Go.Proofs.SlLaysF0.n6 P ρ)(aE:∀ w,(isAgg (ρ.t 24)).run P w= .ok true w)(zE:∀ w,(Go.sizeOf (ρ.t 24)).run P w= .ok 3 w)(NH:Nat)(eg:∀ args w,(callFunc NH args).run P w= .ok (.enter NH args) w)(hc:aaH P NH fQ UI)(p:Option Addr)(c:Nat)(e:TypeId)(l:List RG)(hl:∀ r∈l,0<=r.fr/\r.fr<=16)(sW:l.length<=100000):Spec P (ρ.f 6) [.slice p l.length c,.func (.func NH) #[] #[]] [aN p c e 3 l.length (fG l)] (fun v H1=>v= .tuple #[]/\∃ l':List RG,l.Perm l'/\l'.Pairwise (fun x y=>x.fr<=y.fr)/\H1=[aN p c e 3 l.length (fG l')]):=by
 have N6:((l.map RG.rb).map RB.rg)=l:=by
  rw[List.map_map];conv=>rhs;rw[<-List.map_id l]
  grind [List.map_congr_left,RG.ajn]
 have h:=Wb L 3 aE zE fQ YW YX UI YV NH eg hc p l.length c e (l.map RG.rb).toArray sq og;rw[RN]at h;simp only[List.toList_toArray,N6,List.size_toArray,List.length_map]at h;intro w hw;refine(h w hw).mono ?_;rintro ee w' ⟨v,H',he,⟨hv,d',hp,hs,hH⟩,h3,h4⟩;have ND:d'.size=l.length:=by rw[hp.1];simp
 have hpm:d'.toList.Perm (l.map RG.rb):=by
  have h2:=hp.2.2;grind [Array.extract_size]
 refine⟨v,H',he,⟨hv,d'.toList.map RB.rg,?_,?_,?_⟩,h3,h4⟩
 ·have:=hpm.map RB.rg;rw[N6]at this;exact this.symm
 ·rw[List.pairwise_map,List.pairwise_iff_getElem];intro i j hi hj KS;have hj':j<d'.size:=by simpa using hj
  have KF:i<d'.size:=og;have:=hs i j (Nat.zero_le _) KS og;grind [DK,RB.rg]
 grind [RN]
end Go.X.Vm


namespace Go.Proofs
open Go.Shelf
def Np:Go.Shelf.Ren:=⟨fun | 6=>219 | 15=>242 | 14=>241 | 28=>262 | 29=>263 | 20=>254 | 21=>255 | 22=>256 | 23=>257 | 24=>258 | 25=>259 | 26=>260 | 27=>261 | 46=>272 | 47=>273 | 48=>274 | 49=>275 | 50=>276 | 57=>283 | n=>n,fun | 22=>140 | 24=>171 | 25=>250 | 3=>3 | 39=>258 | 0=>0 | 53=>257 | 55=>29 | 4=>4 | 46=>283 | 45=>282 | 50=>118 | 5=>5 | 9=>9 | 66=>294 | 70=>232 | 76=>302 | 77=>303 | n=>n,fun | n=>n⟩
def aci:Go.Proofs.SlLaysF0.n6 Tryz.prog Np:= {
 mixed:=by kernel_rfl
 f6:=⟨Tryz.f219.name,by decide,func219.trans (congrArg some (by kernel_rfl))⟩
 f14:=⟨Tryz.f241.name,by decide,func241.trans (congrArg some (by kernel_rfl))⟩
 f15:=func242.trans (congrArg some (by kernel_rfl))
 f20:=⟨Tryz.f254.name,by decide,func254.trans (congrArg some (by kernel_rfl))⟩
 f21:=⟨Tryz.f255.name,by decide,func255.trans (congrArg some (by kernel_rfl))⟩
 f22:=⟨Tryz.f256.name,by decide,func256.trans (congrArg some (by kernel_rfl))⟩
 f23:=⟨Tryz.f257.name,by decide,func257.trans (congrArg some (by kernel_rfl))⟩
 f24:=⟨Tryz.f258.name,by decide,func258.trans (congrArg some (by kernel_rfl))⟩
 f25:=⟨Tryz.f259.name,by decide,func259.trans (congrArg some (by kernel_rfl))⟩
 f26:=⟨Tryz.f260.name,by decide,func260.trans (congrArg some (by kernel_rfl))⟩
 f27:=⟨Tryz.f261.name,by decide,func261.trans (congrArg some (by kernel_rfl))⟩
 f28:=func262.trans (congrArg some (by kernel_rfl))
 f29:=func263.trans (congrArg some (by kernel_rfl))
 f46:=⟨Tryz.f272.name,by decide,func272.trans (congrArg some (by kernel_rfl))⟩
 f47:=func273.trans (congrArg some (by kernel_rfl))
 f48:=func274.trans (congrArg some (by kernel_rfl))
 f49:=⟨Tryz.f275.name,by decide,func275.trans (congrArg some (by kernel_rfl))⟩
 f50:=⟨Tryz.f276.name,by decide,func276.trans (congrArg some (by kernel_rfl))⟩
 f57:=⟨Tryz.f283.name,by decide,func283.trans (congrArg some (by kernel_rfl))⟩
 t0:=underlying0
 a0:=Tryz.isAgg0
 z0:=Tryz.sizeOf0
 v0:=Tryz.zeroValue0
 t3:=underlying3
 a3:=Tryz.isAgg3
 z3:=Tryz.sizeOf3
 v3:=Tryz.zeroValue3
 t4:=underlying4
 a4:=Tryz.isAgg4
 z4:=Tryz.sizeOf4
 v4:=Tryz.zeroValue4
 t5:=underlying5
 a5:=Tryz.isAgg5
 z5:=Tryz.sizeOf5
 v5:=Tryz.zeroValue5
 t9:=underlying9
 a9:=Tryz.isAgg9
 z9:=Tryz.sizeOf9
 v9:=Tryz.zeroValue9
 t22:=underlying140
 a22:=Tryz.isAgg140
 z22:=Tryz.sizeOf140
 v22:=Tryz.zeroValue140
 t25:=underlying250
 a25:=Tryz.isAgg250
 z25:=Tryz.sizeOf250
 v25:=Tryz.zeroValue250
 t39:=underlying258
 a39:=Tryz.isAgg258
 z39:=Tryz.sizeOf258
 v39:=Tryz.zeroValue258
 t45:=underlying282
 a45:=Tryz.isAgg282
 z45:=Tryz.sizeOf282
 v45:=Tryz.zeroValue282
 t46:=underlying283
 a46:=Tryz.isAgg283
 z46:=Tryz.sizeOf283
 v46:=Tryz.zeroValue283
 t50:=underlying118
 a50:=Tryz.isAgg118
 z50:=Tryz.sizeOf118
 v50:=Tryz.zeroValue118
 t53:=underlying257
 a53:=Tryz.isAgg257
 z53:=Tryz.sizeOf257
 v53:=Tryz.zeroValue257
 t55:=underlying29
 a55:=Tryz.isAgg29
 z55:=Tryz.sizeOf29
 v55:=Tryz.zeroValue29
 t66:=underlying294
 a66:=Tryz.isAgg294
 z66:=Tryz.sizeOf294
 v66:=Tryz.zeroValue294
 t70:=underlying232
 a70:=Tryz.isAgg232
 z70:=Tryz.sizeOf232
 v70:=Tryz.zeroValue232
 t76:=underlying302
 a76:=Tryz.isAgg302
 z76:=Tryz.sizeOf302
 v76:=Tryz.zeroValue302
 t77:=underlying303
 a77:=Tryz.isAgg303
 z77:=Tryz.sizeOf303
 v77:=Tryz.zeroValue303}
end Go.Proofs

namespace Go.X.Vm
open Go Go.Proofs Go.X
def YY:fE Tryz.prog 142=some 2:=kq
def ajo:aaH Tryz.prog 220 fQ UI:=fun x y w=>by
 refine enter (ps:=[2,3,4]) (cs:=[]) func220 rfl rfl ?_ (M:=fun w'=>w'=w) rfl
 refine gC (K:=[]) (Q0:=bodyPost _ _ _) (XO.ail rfl rfl (XO.ail rfl rfl ?_))
 apply gO
 refine oL (XO.l (QD (v:=iI ((x.f:Nat):Int)) rfl (fun w' hw=>by rw[hw];exact aaI rfl) kq) rfl (gO ?_))
 refine oL (XO.l (QD (v:=iI ((y.f:Nat):Int)) rfl (fun w' hw=>by rw[hw];exact V8 rfl) kq) rfl (gO ?_))
 refine sd ?_ (by have:=x.f.isLt;have:=y.f.isLt;omega)
 exact aO rfl rfl fun w' hw=>⟨rfl,_,hw.trans (V9 _ _ _)⟩
def agn(p:Option Addr)(c:Nat)(l:List RG)(hl:∀ r∈l,0<=r.fr/\r.fr<=16)(sW:l.length<=100000):Fn 219 [.slice p l.length c,.func (.func 220) #[] #[]] [gc p c l] (fun v H1=>v= .tuple #[]/\∃ l':List RG,l.Perm l'/\l'.Pairwise (fun x y=>x.fr<=y.fr)/\H1=[aN p c 171 3 l.length (fG l')]):=
 Ki aci Tryz.isAgg171 Tryz.sizeOf171 220 (Go.Proofs.enters_of func220 kq rfl) ajo p c 171 l hl sW
def ajp(cn:Nat)(n:Int)(r:RG)(hr:0<=r.fr/\0<=r.n/\r.fr+r.n<=100):Fn 227 [.agg r.c9,ay cn 0 0] [ce cn (iI n)] (ap (.bool (r.Xe n)) [ce cn (iI n)]):=by
 refine Spec.g 17 [1,2,3] func227 fun W=> ?_;refine XO.box (m:=3) (C:=qw (r)) rfl rfl (qw.box _) rfl ?_;intro bx;apply gO;refine ld (.ao .aa) (aD.ld _) ?_;refine ld .aa (qw.f _) ?_;apply UV 8<;>intro h1
 refine ld (.ao .aa) (aD.ld _) ?_;refine ld .aa (qw.f _) ?_;refine ld .aa (qw.n _) ?_;apply (sd);rotate_left;rotate_left;all_goals refine bL (pk [1]) ?_;exact⟨congrArg Value.bool (by rw[Bool.eq_iff_iff];unfold RG.Xe;simp;omega),rfl⟩
def alZ(cn:Nat)(n:Int)(p:Option Addr)(c:Nat)(l:List RG)(hl:∀ r∈l,0<=r.fr/\0<r.n/\r.fr+r.n<=16)(hlen:l.length<=100):Fn 226 [.slice p l.length c,.func (.func 227) #[] #[ay cn 0 0]] [gc p c l,ce cn (iI n)] (fun v H1=>(∃ k:Int,v=iI k/\atP l n k)/\H1=[gc p c l,ce cn (iI n)]):=by
 refine Spec.g 19 [0,1,4,5,7,8,9,16] func226 fun W=> ?_;refine wl (σ:=Int) (fun i=>(l.length-i).toNat) (fun i=>(0<=i/\i<=l.length)/\∀ j:Int,0<=j->j<i->¬(bG l j).has n) (fun i=>[(8,iI i),(0,.slice p l.length c),(1,.func (.func 227) #[] #[ay cn 0 0]),(7,iI l.length)]) (fun i=>[gc p c l,ce cn (iI n)]) (0) ?_ (pz 2) ?_
 ·grind
 intro i hi;obtain⟨hi,rK⟩:=hi;apply gC;apply (cd)<;>intro h1
 ·refine bV .aa og ?_;intro g1 h2;subst h2;apply (sd);refine rX .aa (fG.agg og) ?_;refine XO.V6 (cs:=[ay cn 0 0]) rfl rfl (ajp _ n _ (by have:=hl _ (zV (l:=l) (z:=i));omega)) (pk [1]) kq rfl ?_;rintro _ _ ⟨rfl,rfl⟩;apply gO;apply (yx)<;>intro h3
  ·try simp only[sb]at h3
   refine bL (pk [1,0]) ?_;exact⟨⟨i,rfl,.inr ⟨og,(CO _ _).1 aq⟩⟩,rfl⟩
  ·try simp only[sb]at h3
   apply (sd);refine wn (i+1) ?_ ?_ (pk [1,0]);all_goals grind [CO]
 ·refine bL (pz 2) ?_;exact⟨⟨-1,rfl,.inl ⟨rfl,fun r hr=>by obtain⟨z,hz,rfl⟩:=abk hr;exact rK z hz.1 og⟩⟩,rfl⟩
def acj(kb mb:Nat)(p:Option Addr)(c:Nat)(m:MS)(hm:m.Ok)(n:Int):Fn 198 [ay mb 0 0,iI n] [ip mb kb p c m,iF p c m] (fun v H1=>(∃ k:Int,v=iI k/\atP (aj m.az) n k)/\H1=[ip mb kb p c m,iF p c m]):=by
 refine Spec.g 11 [0,3,4] func198 fun W=> ?_;refine XO.box (m:=1) (C:=aD (iI n)) rfl rfl (fun _ _=>rfl) rfl ?_;intro cn;apply gO;refine ld (.ao .aa) (mz _ _ _ _ _ _) ?_;refine XO.v (Lo rfl) rfl (gO ?_);refine ca (alZ _ _ _ _ _ (kE hm.f).b (by have:=sx m.az;omega)) (pk [2,0]) ?_;rintro _ _ ⟨⟨k,rfl,hk⟩,rfl⟩;apply gO;refine bL (pk [2,0]) ?_;exact⟨⟨k,rfl,hk⟩,rfl⟩
def ack(p:Option Addr)(c:Nat)(l:List RG)(hn:l.length<=100):Fn 124 [.slice p l.length c] [gc p c l] (fun v H1=>∃ p1 c1,v= .slice p1 l.length c1/\H1=[gc p c l,gc p1 c1 l]):=by
 refine Spec.g 8 [0,2,4] func124 fun W=> ?_;refine XO.v (lZ rfl underlying140 rfl) rfl (gO ?_);apply (cd)<;>intro h1
 ·subst h1;refine SI .aa ?_;intro hn0;refine XR.fU 171 3 (aO rfl rfl (ai (pk [1,0]) rfl ?_));exact⟨none,0,by rw[hn0];rfl,by unfold gc;rw[hn0];rfl⟩
 ·refine VZ .aa h1 ?_;intro g hg;subst hg;refine iL (e:=171) (vs:= #[]) (A:= #[]) (sz:=3) rfl (fun _=>kq) rfl og rfl ?_;intro b1;apply gO;refine XO.Sz (e:=171) rfl rfl underlying140 kq .aa (.ao .aa) Tx og rfl ?_;intro p1 c1;apply gO;refine bL (pk [1,0]) ?_;exact⟨p1,c1,by simp only[Nat.zero_add];rfl,by simp only[Nat.zero_add,List.nil_append]⟩
def uq(kb mb:Nat)(p:Option Addr)(c:Nat)(m:MS)(hm:m.Ok):Fn 50 [ay mb 0 0] [ip mb kb p c m] (ap (iI m.gk) [ip mb kb p c m]):=by
 refine Spec.g 20 [0,2,3,5,9,10,11,15] func50 fun W=> ?_;refine mP .aa (OA _ _ _ _ _ _) ?_;refine wl (σ:=Int) (fun i=>(16-i).toNat) (fun i=>0<=i/\i<=16) (fun i=>[(10,iI i),(3,iI (sy m.fr i.toNat)),(9,.agg (pgA m.fr m.aU))]) (fun i=>[ip mb kb p c m]) (0) ?_ .h1 ?_
 ·omega
 intro i hi;have LW:=hm.lo i;have hrs:=Jv m.fr i.toNat;apply gC;apply (cd)<;>intro h1
 ·refine XO.v (Lp rfl rfl underlying143 YY kq og (afn og)) rfl (gO ?_);refine XO.bP (z:=.agg #[iI 0,.bool false]) (m:=2) (C:=Vf 0 false) (Vf.box _ _) ?_;intro pb;apply gO;refine gu .aa (Vf.st _ _ _ _) rfl ⟨rfl,rfl⟩ (ld .aa (Vf.f _ _) ?_);apply (cd)<;>intro h2
  ·refine sd (sd (ag (i+1) ?_ ?_ (S3 rfl (Gn (by rw[HJ _ hi.1,if_pos og])) rfl) (xq (pk [1]))));all_goals omega
  ·refine sd (ag (i+1) ?_ ?_ (S3 rfl (Gn (by rw[HJ _ hi.1,if_neg og];omega)) rfl) (xq (pk [1])));all_goals omega
 ·refine bL .h1 ?_;have e:i=16:=og;subst e;exact⟨rfl,rfl⟩
def PQ(kb mb:Nat)(p:Option Addr)(c:Nat)(l:List RG)(fr:Int->Int)(aU:Int->Bool)(f:Int->Int)(hf:Vd f)(hg:GL l)(hc:Ve l f)(hl:l.length<=100):Fn 180 [ay mb 0 0] [d7 mb kb p l.length c fr aU,gc p c l] (fun v H1=>v= .tuple #[]/\∃ p2 c2,H1=[d7 mb kb p2 (aj f).length c2 fr aU,gc p2 c2 (aj f)]):=by
 refine Spec.g 70 [0,2,4,5,14,15,16,17,50] func180 fun W=> ?_;apply ld .aa (mz _ _ _ _ _ _);refine ca (agn _ _ _ (Ty hg) og) (pk [1]) ?_;rintro _ _ ⟨rfl,l2,hp,hs,rfl⟩;have hn:l.length=l2.length:=hp.length_eq;have hmg:=abi (hg.cG hp) (hc.cG hp) hf hs;apply gO;apply XR.fU 171 3;apply ld (.t2 .aa) (mz _ _ _ _ _ _);refine wl (σ:=Int×List RG×Option Addr×Nat) (fun x=>(l.length-x.1).toNat) (fun x=>(0<=x.1/\x.1<=l.length)/\x.2.1=mg (l2.take x.1.toNat)) (fun x=>[(16,iI x.1),(2,.slice x.2.2.1 x.2.1.length x.2.2.2),(0,ay mb 0 0),(14,.slice p l.length c),(15,iI l.length)]) (fun x=>[d7 mb kb p l.length c fr aU,aN p c 171 3 l.length (fG l2),aN x.2.2.1 x.2.2.2 171 3 x.2.1.length (fG x.2.1)]) ((0,[],none,0)) ?_ (pk [2,1,0]) ?_
 ·exact⟨sq,rfl⟩
 intro x hx;obtain⟨hi,hac⟩:=hx;have hal:x.2.1.length<=x.1:=by
  rw[hac];exact Int.le_trans (Int.ofNat_le.2 (Xg _ _ rfl)) (by rw[List.length_take];omega)
 have WD:∀ r∈x.2.1,0<=r.fr/\0<r.n/\r.fr+r.n<=16:=by
  rw[hac];exact aiD _ _ rfl fun r hr=>(hg.cG hp).b r (List.mem_of_mem_take hr)
 apply gC;apply (cd)<;>intro h1
 ·apply bV (.ao .aa) og;intro g1 h2;subst h2;apply (sd);apply rX (.ao .aa) (Xf hn og);apply XO.bP (z:=.agg RG.nil.c9) (m:=3) (C:=qw RG.nil) (qw.box _);intro rb;apply gO;apply gu .aa (qw.st _ _) rfl ⟨rfl,rfl⟩;apply (sd);refine rq [0,1,2,3,4,5,6,7,8,9,10,11,12,13,14,15,16,17,18,19,20,21,22,23,24,25,26,27] mixed ?_;apply UV 25<;>intro h3
  ·have UG:0<x.2.1.length:=og;have hlb:=WD _ (zV (z:=(x.2.1.length:Int)-1));have hrb:=(hg.cG hp).b _ (zV (z:=x.1));apply bV (.t3 .aa) og;intro ga hga;rw[hga];apply (sd);apply ldF (.t3 .aa) (fG.f og);apply (sd);apply ldF (.t3 .aa) (fG.n og);apply (sd);apply ld .aa (qw.f _);apply UV 41<;>intro h4
   ·have h16:=h4;apply (sd);apply ldF (.t3 .aa) (fG.w og);apply ld .aa (qw.w _);refine XO.v (Vu rfl rfl underlying4 rfl) rfl (gO ?_);apply (yx)<;>intro h5
    ·try simp only[sb]at h5
     have h26:=h5;refine rq [0,1,2,3,4,5,6,7,8,9,10] mixed ?_;apply (sd);apply ldF (.t3 .aa) (fG.n og);apply ld .aa (qw.n _);apply (sd);apply (sd);apply stF (.t3 .aa) (fG.grow og _) rfl;apply (sd);refine ag ((x.1+1,Jt x.2.1 {(bG x.2.1 ((x.2.1.length:Int)-1))with n:=(bG x.2.1 ((x.2.1.length:Int)-1)).n+(bG l2 x.1).n},some ⟨ga,0,none⟩,x.2.2.2)) ?_ ?_ (S5 rfl (by show lk _ _=some (Value.slice _ (Jt _ _).length _);rw[CM UG];rfl) rfl rfl rfl) fun _ hw=>by show XM _ _ [_,_,aN _ _ _ _ (Jt _ _).length _] _;rw[CM UG];exact XM.pick (pk [1,1,1]) hw
     all_goals grind [sC,wZ,abh]
    ·try simp only[sb]at h5
     have h27:=h5;apply mP .aa (qw.agg _);apply XO.buildSlice (e:=171) (vs:= #[(0,.agg (bG l2 x.1).c9)]) (A:=(bG l2 x.1).c9) rfl (fun _=>kq) rfl rfl;intro nb;apply gO;apply jO (e:=171) (jM:=x.2.1) (r:=(bG l2 x.1)) rfl rfl underlying140 kq (.t4 .aa) .aa og rfl;intro p3 c3;apply gO;apply (sd);refine wn ((x.1+1,x.2.1++[(bG l2 x.1)],p3,c3)) ?_ ?_ (pk [3,3,0]);all_goals grind [sC,wZ,Ez]
   ·apply mP .aa (qw.agg _);apply XO.buildSlice (e:=171) (vs:= #[(0,.agg (bG l2 x.1).c9)]) (A:=(bG l2 x.1).c9) rfl (fun _=>kq) rfl rfl;intro nb;apply gO;apply jO (e:=171) (jM:=x.2.1) (r:=(bG l2 x.1)) rfl rfl underlying140 kq (.t4 .aa) .aa og rfl;intro p3 c3;apply gO;apply (sd);refine wn ((x.1+1,x.2.1++[(bG l2 x.1)],p3,c3)) ?_ ?_ (pk [3,3,0]);all_goals grind [sC,wZ,Ez]
  ·apply mP .aa (qw.agg _);apply XO.buildSlice (e:=171) (vs:= #[(0,.agg (bG l2 x.1).c9)]) (A:=(bG l2 x.1).c9) rfl (fun _=>kq) rfl rfl;intro nb;apply gO;apply jO (e:=171) (jM:=x.2.1) (r:=(bG l2 x.1)) rfl rfl underlying140 kq (.t4 .aa) .aa og rfl;intro p3 c3;apply gO;apply (sd);refine wn ((x.1+1,x.2.1++[(bG l2 x.1)],p3,c3)) ?_ ?_ (pk [3,3,0]);all_goals grind [sC,wZ,Ez]
 ·apply st .aa (Jy _ _ _ _ _ _ _ _ _) rfl;refine dy rfl (ai (pk [0,1]) rfl ?_);have e:x.1=l.length:=og;simp_all
def RP(kb mb:Nat)(p:Option Addr)(c:Nat)(m:MS)(hm:m.Ok)(a n:Int)(hb:¬gQ a n):Fn 178 [ay mb 0 0,iI a,iI n] [ip mb kb p c m,iF p c m] (fun v H1=>∃ p2 c2 p3 c3,v= .slice p3 ((aj m.az).flatMap (wW a n)).length c3/\H1=[d7 mb kb p2 ((aj m.az).flatMap (nq a n)).length c2 m.fr m.aU,gc p2 c2 ((aj m.az).flatMap (nq a n)),dH p3 c3 3 ((aj m.az).flatMap (wW a n))]):=by
 have hLo:=kE hm.f;have hL:=sx m.az;have D1:=hb;unfold gQ at D1;refine Spec.go 96 [0,1,2,6,7,8,10,11,12,13,17,18,19,20,38,46,65,83] [(9,1),(11,1)] func178 fun W=> ?_;apply XR.fU 171 3;apply XR.fU 3 1;apply ld (.t2 .aa) (mz _ _ _ _ _ _);refine wl (σ:=Int×(Option Addr×Nat)×(Option Addr×Nat)) (fun x=>((aj m.az).length-x.1).toNat) (fun x=>(0<=x.1/\x.1<=(aj m.az).length)/\(List.flatMap (nq a n) (List.take x.1.toNat (aj m.az))).length<=2*x.1/\(List.flatMap (wW a n) (List.take x.1.toNat (aj m.az))).length<=16*x.1) (fun x=>[(19,iI x.1),(7,.slice x.2.1.1 (List.flatMap (nq a n) (List.take x.1.toNat (aj m.az))).length x.2.1.2),(8,.slice x.2.2.1 (List.flatMap (wW a n) (List.take x.1.toNat (aj m.az))).length x.2.2.2),(0,ay mb 0 0),(1,iI a),(2,iI n),(17,.slice p (aj m.az).length c),(18,iI (aj m.az).length)]) (fun x=>[ip mb kb p c m,iF p c m,aN x.2.1.1 x.2.1.2 171 3 (List.flatMap (nq a n) (List.take x.1.toNat (aj m.az))).length (fG (List.flatMap (nq a n) (List.take x.1.toNat (aj m.az)))),dH x.2.2.1 x.2.2.2 3 (List.flatMap (wW a n) (List.take x.1.toNat (aj m.az)))]) ((0,(none,0),(none,0))) ?_ (pk [2,2,1,0]) ?_
 ·simp_all
 intro x hx;obtain⟨hi,hal,hhl⟩:=hx;apply gC;apply (cd)<;>intro h1
 ·apply bV (.ao .aa) og;intro g1 h2;subst h2;apply (sd);apply rX (.ao .aa) (fG.agg og);apply XO.bP (z:=.agg RG.nil.c9) (m:=3) (C:=qw RG.nil) (qw.box _);intro rb;apply gO;apply gu .aa (qw.st _ _) rfl ⟨rfl,rfl⟩;refine rq [0,1,2,3,4,5,6,7,8,9,10,11,12,13,14] mixed ?_;have hrb:=hLo.b _ (zV (z:=x.1));apply ld .aa (qw.f _);apply ld .aa (qw.f _);apply ld .aa (qw.n _);apply (sd);apply (sd);apply (cd)<;>intro h3
  ·have ho:=abr (a:=a) (n:=n) (r:=(bG (aj m.az) x.1)) og;apply mP .aa (qw.agg _);apply XO.buildSlice (e:=171) (vs:= #[(0,.agg (bG (aj m.az) x.1).c9)]) (A:=(bG (aj m.az) x.1).c9) rfl (fun _=>kq) rfl rfl;intro nb;apply gO;apply jO (e:=171) (jM:=(List.flatMap (nq a n) (List.take x.1.toNat (aj m.az)))) (r:=(bG (aj m.az) x.1)) rfl rfl underlying140 kq (.t4 .aa) .aa og rfl;intro p3 c3;apply gO;apply (sd);have hA:(List.flatMap (nq a n) (List.take (x.1+1).toNat (aj m.az)))=(List.flatMap (nq a n) (List.take x.1.toNat (aj m.az)))++[(bG (aj m.az) x.1)]:=by rw[w6 _ ⟨hi.1,og⟩,ho.1]
   have hH:(List.flatMap (wW a n) (List.take (x.1+1).toNat (aj m.az)))=(List.flatMap (wW a n) (List.take x.1.toNat (aj m.az))):=by rw[w6 _ ⟨hi.1,og⟩,ho.2,List.append_nil]
   refine ag ((x.1+1,(p3,c3),x.2.2)) ?_ ?_ (.cons rfl (.cons (by show lk _ _=some (Value.slice _ (List.flatMap (nq a n) (List.take (x.1+1).toNat (aj m.az))).length _);rw[hA];rfl) (S6 (by show lk _ _=some (Value.slice _ (List.flatMap (wW a n) (List.take (x.1+1).toNat (aj m.az))).length _);rw[hH];rfl) rfl rfl rfl rfl rfl))) fun _ hw=>by show XM _ _ [_,_,aN _ _ _ _ (List.flatMap (nq a n) (List.take (x.1+1).toNat (aj m.az))).length (fG (List.flatMap (nq a n) (List.take (x.1+1).toNat (aj m.az)))),dH _ _ _ (List.flatMap (wW a n) (List.take (x.1+1).toNat (aj m.az)))] _;rw[hA,hH];exact XM.pick (pk [3,3,0,2]) hw
   all_goals grind
  ·have xH:=afo (a:=a) (n:=n) (r:=(bG (aj m.az) x.1)) og;apply ww (σ:=Option Addr×Nat) (fun _=>True) (fun y=>[(0,ay mb 0 0),(1,iI a),(2,iI n),(7,.slice y.1 ((List.flatMap (nq a n) (List.take x.1.toNat (aj m.az)))++(if(bG (aj m.az) x.1).fr<(max (bG (aj m.az) x.1).fr a)then [(⟨(bG (aj m.az) x.1).fr,(max (bG (aj m.az) x.1).fr a)-(bG (aj m.az) x.1).fr,(bG (aj m.az) x.1).w⟩:RG)]else [])).length y.2),(8,.slice x.2.2.1 (List.flatMap (wW a n) (List.take x.1.toNat (aj m.az))).length x.2.2.2),(10,ay rb 0 0),(11,iI (max (bG (aj m.az) x.1).fr a)),(12,iI (min ((bG (aj m.az) x.1).fr+(bG (aj m.az) x.1).n) (a+n))),(17,.slice (some ⟨g1,0,none⟩) (aj m.az).length c),(18,iI (aj m.az).length),(19,iI x.1)]) (fun y=>[.cells rb 0 3 (qw (bG (aj m.az) x.1)),ip mb kb (some ⟨g1,0,none⟩) c m,iF (some ⟨g1,0,none⟩) c m,aN y.1 y.2 171 3 ((List.flatMap (nq a n) (List.take x.1.toNat (aj m.az)))++(if(bG (aj m.az) x.1).fr<(max (bG (aj m.az) x.1).fr a)then [(⟨(bG (aj m.az) x.1).fr,(max (bG (aj m.az) x.1).fr a)-(bG (aj m.az) x.1).fr,(bG (aj m.az) x.1).w⟩:RG)]else [])).length (fG ((List.flatMap (nq a n) (List.take x.1.toNat (aj m.az)))++(if(bG (aj m.az) x.1).fr<(max (bG (aj m.az) x.1).fr a)then [(⟨(bG (aj m.az) x.1).fr,(max (bG (aj m.az) x.1).fr a)-(bG (aj m.az) x.1).fr,(bG (aj m.az) x.1).w⟩:RG)]else []))),dH x.2.2.1 x.2.2.2 3 (List.flatMap (wW a n) (List.take x.1.toNat (aj m.az)))])
   ·apply ld .aa (qw.f _);apply (cd)<;>intro h4
    ·apply ld .aa (qw.f _);apply ld .aa (qw.f _);apply (sd);apply ld .aa (qw.w _);refine XO.v (V.build (vs:= #[(0,iI (bG (aj m.az) x.1).fr),(1,iI ((max (bG (aj m.az) x.1).fr a)-(bG (aj m.az) x.1).fr)),(2,.bool (bG (aj m.az) x.1).w)]) rfl (v:=.agg (RG.mk (bG (aj m.az) x.1).fr ((max (bG (aj m.az) x.1).fr a)-(bG (aj m.az) x.1).fr) (bG (aj m.az) x.1).w).c9) fun _=>kq) rfl (gO ?_);apply XO.buildSlice (e:=171) (vs:= #[(0,.agg (RG.mk (bG (aj m.az) x.1).fr ((max (bG (aj m.az) x.1).fr a)-(bG (aj m.az) x.1).fr) (bG (aj m.az) x.1).w).c9)]) (A:=(RG.mk (bG (aj m.az) x.1).fr ((max (bG (aj m.az) x.1).fr a)-(bG (aj m.az) x.1).fr) (bG (aj m.az) x.1).w).c9) rfl (fun _=>kq) rfl rfl;intro nb;apply gO;apply jO (e:=171) (jM:=(List.flatMap (nq a n) (List.take x.1.toNat (aj m.az)))) (r:=(RG.mk (bG (aj m.az) x.1).fr ((max (bG (aj m.az) x.1).fr a)-(bG (aj m.az) x.1).fr) (bG (aj m.az) x.1).w)) rfl rfl underlying140 kq (.t4 .aa) .aa og rfl;intro p3 c3;apply gO;refine oJ ((p3,c3)) ?_ (.cons rfl (.cons rfl (.cons rfl (.cons (by rw[if_pos aq];rfl) (.cons rfl S6))))) fun _ hw=>by rw[if_pos aq];exact XM.pick (pk [2,2,2,0,1]) hw
     simp_all
    ·refine oJ ((x.2.1.1,x.2.1.2)) ?_ (.cons rfl (.cons rfl (.cons rfl (.cons (by rw[if_neg aq,List.append_nil];rfl) (.cons rfl S6))))) fun _ hw=>by rw[if_neg aq,List.append_nil];exact XM.pick (pz 5) hw
     simp_all
   intro y _;apply gC;apply ww (σ:=Option Addr×Nat) (fun _=>True) (fun u=>[(0,ay mb 0 0),(1,iI a),(2,iI n),(7,.slice u.1 ((List.flatMap (nq a n) (List.take x.1.toNat (aj m.az)))++(if(bG (aj m.az) x.1).fr<(max (bG (aj m.az) x.1).fr a)then [(⟨(bG (aj m.az) x.1).fr,(max (bG (aj m.az) x.1).fr a)-(bG (aj m.az) x.1).fr,(bG (aj m.az) x.1).w⟩:RG)]else [])++(if(min ((bG (aj m.az) x.1).fr+(bG (aj m.az) x.1).n) (a+n))<(bG (aj m.az) x.1).fr+(bG (aj m.az) x.1).n then [(⟨(min ((bG (aj m.az) x.1).fr+(bG (aj m.az) x.1).n) (a+n)),(bG (aj m.az) x.1).fr+(bG (aj m.az) x.1).n-(min ((bG (aj m.az) x.1).fr+(bG (aj m.az) x.1).n) (a+n)),(bG (aj m.az) x.1).w⟩:RG)]else [])).length u.2),(8,.slice x.2.2.1 (List.flatMap (wW a n) (List.take x.1.toNat (aj m.az))).length x.2.2.2),(10,ay rb 0 0),(11,iI (max (bG (aj m.az) x.1).fr a)),(12,iI (min ((bG (aj m.az) x.1).fr+(bG (aj m.az) x.1).n) (a+n))),(17,.slice (some ⟨g1,0,none⟩) (aj m.az).length c),(18,iI (aj m.az).length),(19,iI x.1)]) (fun u=>[.cells rb 0 3 (qw (bG (aj m.az) x.1)),ip mb kb (some ⟨g1,0,none⟩) c m,iF (some ⟨g1,0,none⟩) c m,aN u.1 u.2 171 3 ((List.flatMap (nq a n) (List.take x.1.toNat (aj m.az)))++(if(bG (aj m.az) x.1).fr<(max (bG (aj m.az) x.1).fr a)then [(⟨(bG (aj m.az) x.1).fr,(max (bG (aj m.az) x.1).fr a)-(bG (aj m.az) x.1).fr,(bG (aj m.az) x.1).w⟩:RG)]else [])++(if(min ((bG (aj m.az) x.1).fr+(bG (aj m.az) x.1).n) (a+n))<(bG (aj m.az) x.1).fr+(bG (aj m.az) x.1).n then [(⟨(min ((bG (aj m.az) x.1).fr+(bG (aj m.az) x.1).n) (a+n)),(bG (aj m.az) x.1).fr+(bG (aj m.az) x.1).n-(min ((bG (aj m.az) x.1).fr+(bG (aj m.az) x.1).n) (a+n)),(bG (aj m.az) x.1).w⟩:RG)]else [])).length (fG ((List.flatMap (nq a n) (List.take x.1.toNat (aj m.az)))++(if(bG (aj m.az) x.1).fr<(max (bG (aj m.az) x.1).fr a)then [(⟨(bG (aj m.az) x.1).fr,(max (bG (aj m.az) x.1).fr a)-(bG (aj m.az) x.1).fr,(bG (aj m.az) x.1).w⟩:RG)]else [])++(if(min ((bG (aj m.az) x.1).fr+(bG (aj m.az) x.1).n) (a+n))<(bG (aj m.az) x.1).fr+(bG (aj m.az) x.1).n then [(⟨(min ((bG (aj m.az) x.1).fr+(bG (aj m.az) x.1).n) (a+n)),(bG (aj m.az) x.1).fr+(bG (aj m.az) x.1).n-(min ((bG (aj m.az) x.1).fr+(bG (aj m.az) x.1).n) (a+n)),(bG (aj m.az) x.1).w⟩:RG)]else []))),dH x.2.2.1 x.2.2.2 3 (List.flatMap (wW a n) (List.take x.1.toNat (aj m.az)))])
   ·apply ld .aa (qw.f _);apply ld .aa (qw.n _);apply (sd);apply (cd)<;>intro h5
    ·apply ld .aa (qw.f _);apply ld .aa (qw.n _);apply (sd);apply (sd);apply ld .aa (qw.w _);refine XO.v (V.build (vs:= #[(0,iI (min ((bG (aj m.az) x.1).fr+(bG (aj m.az) x.1).n) (a+n))),(1,iI ((bG (aj m.az) x.1).fr+(bG (aj m.az) x.1).n-(min ((bG (aj m.az) x.1).fr+(bG (aj m.az) x.1).n) (a+n)))),(2,.bool (bG (aj m.az) x.1).w)]) rfl (v:=.agg (RG.mk (min ((bG (aj m.az) x.1).fr+(bG (aj m.az) x.1).n) (a+n)) ((bG (aj m.az) x.1).fr+(bG (aj m.az) x.1).n-(min ((bG (aj m.az) x.1).fr+(bG (aj m.az) x.1).n) (a+n))) (bG (aj m.az) x.1).w).c9) fun _=>kq) rfl (gO ?_);apply XO.buildSlice (e:=171) (vs:= #[(0,.agg (RG.mk (min ((bG (aj m.az) x.1).fr+(bG (aj m.az) x.1).n) (a+n)) ((bG (aj m.az) x.1).fr+(bG (aj m.az) x.1).n-(min ((bG (aj m.az) x.1).fr+(bG (aj m.az) x.1).n) (a+n))) (bG (aj m.az) x.1).w).c9)]) (A:=(RG.mk (min ((bG (aj m.az) x.1).fr+(bG (aj m.az) x.1).n) (a+n)) ((bG (aj m.az) x.1).fr+(bG (aj m.az) x.1).n-(min ((bG (aj m.az) x.1).fr+(bG (aj m.az) x.1).n) (a+n))) (bG (aj m.az) x.1).w).c9) rfl (fun _=>kq) rfl rfl;intro nb;apply gO;apply jO (e:=171) (jM:=((List.flatMap (nq a n) (List.take x.1.toNat (aj m.az)))++(if(bG (aj m.az) x.1).fr<(max (bG (aj m.az) x.1).fr a)then [(⟨(bG (aj m.az) x.1).fr,(max (bG (aj m.az) x.1).fr a)-(bG (aj m.az) x.1).fr,(bG (aj m.az) x.1).w⟩:RG)]else []))) (r:=(RG.mk (min ((bG (aj m.az) x.1).fr+(bG (aj m.az) x.1).n) (a+n)) ((bG (aj m.az) x.1).fr+(bG (aj m.az) x.1).n-(min ((bG (aj m.az) x.1).fr+(bG (aj m.az) x.1).n) (a+n))) (bG (aj m.az) x.1).w)) rfl rfl underlying140 kq (.t4 .aa) .aa (by rw[List.length_append];have KI:=afj ((bG (aj m.az) x.1).fr<(max (bG (aj m.az) x.1).fr a)) (⟨(bG (aj m.az) x.1).fr,(max (bG (aj m.az) x.1).fr a)-(bG (aj m.az) x.1).fr,(bG (aj m.az) x.1).w⟩:RG);omega) rfl;intro p3 c3;apply gO;refine oJ ((p3,c3)) ?_ (.cons rfl (.cons rfl (.cons rfl (.cons (by rw[if_pos (c:=(min ((bG (aj m.az) x.1).fr+(bG (aj m.az) x.1).n) (a+n))<_) aq];rfl) (.cons rfl S6))))) fun _ hw=>by rw[if_pos (c:=(min ((bG (aj m.az) x.1).fr+(bG (aj m.az) x.1).n) (a+n))<_) aq];exact XM.pick (pk [2,2,2,0,1]) hw
     omega
    ·refine oJ ((y.1,y.2)) ?_ (.cons rfl (.cons rfl (.cons rfl (.cons (by rw[if_neg (c:=(min ((bG (aj m.az) x.1).fr+(bG (aj m.az) x.1).n) (a+n))<_) aq,List.append_nil];rfl) (.cons rfl S6))))) fun _ hw=>by rw[if_neg (c:=(min ((bG (aj m.az) x.1).fr+(bG (aj m.az) x.1).n) (a+n))<_) aq,List.append_nil];exact XM.pick (pz 5) hw
     omega
   intro u _;apply gC;refine lp (σ:=Int×Option Addr×Nat) (fun z=>((min ((bG (aj m.az) x.1).fr+(bG (aj m.az) x.1).n) (a+n))-z.1).toNat) (fun z=>(max (bG (aj m.az) x.1).fr a)<=z.1/\z.1<=(min ((bG (aj m.az) x.1).fr+(bG (aj m.az) x.1).n) (a+n))) (fun z=>[(13,iI z.1),(8,.slice z.2.1 ((List.flatMap (wW a n) (List.take x.1.toNat (aj m.az)))++kj (max (bG (aj m.az) x.1).fr a) (z.1-(max (bG (aj m.az) x.1).fr a)).toNat).length z.2.2),(0,ay mb 0 0),(1,iI a),(2,iI n),(7,.slice u.1 ((List.flatMap (nq a n) (List.take x.1.toNat (aj m.az)))++(if(bG (aj m.az) x.1).fr<(max (bG (aj m.az) x.1).fr a)then [(⟨(bG (aj m.az) x.1).fr,(max (bG (aj m.az) x.1).fr a)-(bG (aj m.az) x.1).fr,(bG (aj m.az) x.1).w⟩:RG)]else [])++(if(min ((bG (aj m.az) x.1).fr+(bG (aj m.az) x.1).n) (a+n))<(bG (aj m.az) x.1).fr+(bG (aj m.az) x.1).n then [(⟨(min ((bG (aj m.az) x.1).fr+(bG (aj m.az) x.1).n) (a+n)),(bG (aj m.az) x.1).fr+(bG (aj m.az) x.1).n-(min ((bG (aj m.az) x.1).fr+(bG (aj m.az) x.1).n) (a+n)),(bG (aj m.az) x.1).w⟩:RG)]else [])).length u.2),(12,iI (min ((bG (aj m.az) x.1).fr+(bG (aj m.az) x.1).n) (a+n))),(17,.slice (some ⟨g1,0,none⟩) (aj m.az).length c),(18,iI (aj m.az).length),(19,iI x.1)]) (fun z=>XM W (cx [ip mb kb (some ⟨g1,0,none⟩) c m,iF (some ⟨g1,0,none⟩) c m]) [ip mb kb (some ⟨g1,0,none⟩) c m,iF (some ⟨g1,0,none⟩) c m,aN u.1 u.2 171 3 ((List.flatMap (nq a n) (List.take x.1.toNat (aj m.az)))++(if(bG (aj m.az) x.1).fr<(max (bG (aj m.az) x.1).fr a)then [(⟨(bG (aj m.az) x.1).fr,(max (bG (aj m.az) x.1).fr a)-(bG (aj m.az) x.1).fr,(bG (aj m.az) x.1).w⟩:RG)]else [])++(if(min ((bG (aj m.az) x.1).fr+(bG (aj m.az) x.1).n) (a+n))<(bG (aj m.az) x.1).fr+(bG (aj m.az) x.1).n then [(⟨(min ((bG (aj m.az) x.1).fr+(bG (aj m.az) x.1).n) (a+n)),(bG (aj m.az) x.1).fr+(bG (aj m.az) x.1).n-(min ((bG (aj m.az) x.1).fr+(bG (aj m.az) x.1).n) (a+n)),(bG (aj m.az) x.1).w⟩:RG)]else [])).length (fG ((List.flatMap (nq a n) (List.take x.1.toNat (aj m.az)))++(if(bG (aj m.az) x.1).fr<(max (bG (aj m.az) x.1).fr a)then [(⟨(bG (aj m.az) x.1).fr,(max (bG (aj m.az) x.1).fr a)-(bG (aj m.az) x.1).fr,(bG (aj m.az) x.1).w⟩:RG)]else [])++(if(min ((bG (aj m.az) x.1).fr+(bG (aj m.az) x.1).n) (a+n))<(bG (aj m.az) x.1).fr+(bG (aj m.az) x.1).n then [(⟨(min ((bG (aj m.az) x.1).fr+(bG (aj m.az) x.1).n) (a+n)),(bG (aj m.az) x.1).fr+(bG (aj m.az) x.1).n-(min ((bG (aj m.az) x.1).fr+(bG (aj m.az) x.1).n) (a+n)),(bG (aj m.az) x.1).w⟩:RG)]else []))),dH z.2.1 z.2.2 3 ((List.flatMap (wW a n) (List.take x.1.toNat (aj m.az)))++kj (max (bG (aj m.az) x.1).fr a) (z.1-(max (bG (aj m.az) x.1).fr a)).toNat)]) (((max (bG (aj m.az) x.1).fr a),x.2.2)) ?_ (.cons rfl (.cons (by show lk _ _=some (Value.slice _ ((List.flatMap (wW a n) (List.take x.1.toNat (aj m.az)))++kj (max (bG (aj m.az) x.1).fr a) ((max (bG (aj m.az) x.1).fr a)-(max (bG (aj m.az) x.1).fr a)).toNat).length _);rw[show((max (bG (aj m.az) x.1).fr a)-(max (bG (aj m.az) x.1).fr a)).toNat=0 from og,kj,List.append_nil];rfl) (.cons rfl (.cons rfl S6)))) (fun _ hw=>by show XM _ _ [_,_,_,dH _ _ _ ((List.flatMap (wW a n) (List.take x.1.toNat (aj m.az)))++kj (max (bG (aj m.az) x.1).fr a) ((max (bG (aj m.az) x.1).fr a)-(max (bG (aj m.az) x.1).fr a)).toNat)] _;rw[show((max (bG (aj m.az) x.1).fr a)-(max (bG (aj m.az) x.1).fr a)).toNat=0 from og,kj,List.append_nil];exact XM.pick (pk [1,1,1,1]) hw) ?_
   ·omega
   intro z hz;have hil:=BJ (max (bG (aj m.az) x.1).fr a) (z.1-(max (bG (aj m.az) x.1).fr a)).toNat;have hll:((List.flatMap (wW a n) (List.take x.1.toNat (aj m.az)))++kj (max (bG (aj m.az) x.1).fr a) (z.1-(max (bG (aj m.az) x.1).fr a)).toNat).length=(List.flatMap (wW a n) (List.take x.1.toNat (aj m.az))).length+(z.1-(max (bG (aj m.az) x.1).fr a)).toNat:=by rw[List.length_append,hil]
   apply gC;apply (cd)<;>intro h6
   ·apply XO.buildSlice (e:=3) (vs:= #[(0,iI z.1)]) (A:= #[iI z.1]) rfl (fun _=>kq) rfl rfl;intro nb;apply gO;apply lY (e:=3) (z:=z.1) (zs:=((List.flatMap (wW a n) (List.take x.1.toNat (aj m.az)))++kj (max (bG (aj m.az) x.1).fr a) (z.1-(max (bG (aj m.az) x.1).fr a)).toNat)) rfl rfl underlying55 kq (.t4 .aa) .aa og rfl;intro p3 c3;apply gO;apply (sd);have hZ:(List.flatMap (wW a n) (List.take x.1.toNat (aj m.az)))++kj (max (bG (aj m.az) x.1).fr a) (z.1+1-(max (bG (aj m.az) x.1).fr a)).toNat=((List.flatMap (wW a n) (List.take x.1.toNat (aj m.az)))++kj (max (bG (aj m.az) x.1).fr a) (z.1-(max (bG (aj m.az) x.1).fr a)).toNat)++[z.1]:=by rw[show z.1+1-(max (bG (aj m.az) x.1).fr a)=(z.1-(max (bG (aj m.az) x.1).fr a))+1 from og,OB _ og,<-List.append_assoc];congr 2;omega
    refine ag ((z.1+1,p3,c3)) ?_ ?_ (.cons rfl (.cons (by show lk _ _=some (Value.slice _ ((List.flatMap (wW a n) (List.take x.1.toNat (aj m.az)))++kj (max (bG (aj m.az) x.1).fr a) (z.1+1-(max (bG (aj m.az) x.1).fr a)).toNat).length _);rw[hZ];rfl) (.cons rfl (.cons rfl S6)))) fun _ hw=>by show XM _ _ [_,_,_,dH _ _ _ ((List.flatMap (wW a n) (List.take x.1.toNat (aj m.az)))++kj (max (bG (aj m.az) x.1).fr a) (z.1+1-(max (bG (aj m.az) x.1).fr a)).toNat)] _;rw[hZ];exact XM.pick (pk [2,2,2,0]) hw
    all_goals omega
   ·apply (sd);have hA:(List.flatMap (nq a n) (List.take (x.1+1).toNat (aj m.az)))=(List.flatMap (nq a n) (List.take x.1.toNat (aj m.az)))++(if(bG (aj m.az) x.1).fr<(max (bG (aj m.az) x.1).fr a)then [(⟨(bG (aj m.az) x.1).fr,(max (bG (aj m.az) x.1).fr a)-(bG (aj m.az) x.1).fr,(bG (aj m.az) x.1).w⟩:RG)]else [])++(if(min ((bG (aj m.az) x.1).fr+(bG (aj m.az) x.1).n) (a+n))<(bG (aj m.az) x.1).fr+(bG (aj m.az) x.1).n then [(⟨(min ((bG (aj m.az) x.1).fr+(bG (aj m.az) x.1).n) (a+n)),(bG (aj m.az) x.1).fr+(bG (aj m.az) x.1).n-(min ((bG (aj m.az) x.1).fr+(bG (aj m.az) x.1).n) (a+n)),(bG (aj m.az) x.1).w⟩:RG)]else []):=by rw[w6 _ ⟨hi.1,og⟩,xH,List.append_assoc]
    have ez:z.1=(min ((bG (aj m.az) x.1).fr+(bG (aj m.az) x.1).n) (a+n)):=og;have hH:(List.flatMap (wW a n) (List.take (x.1+1).toNat (aj m.az)))=(List.flatMap (wW a n) (List.take x.1.toNat (aj m.az)))++kj (max (bG (aj m.az) x.1).fr a) (z.1-(max (bG (aj m.az) x.1).fr a)).toNat:=by rw[w6 _ ⟨hi.1,og⟩,ez];rfl
    have NP:=Q6 a n (bG (aj m.az) x.1);rw[xH]at NP;simp only[List.length_append]at NP;refine ag ((x.1+1,u,z.2)) ?_ ?_ (.cons rfl (.cons (by show lk _ _=some (Value.slice _ (List.flatMap (nq a n) (List.take (x.1+1).toNat (aj m.az))).length _);rw[hA];rfl) (S6 (by show lk _ _=some (Value.slice _ (List.flatMap (wW a n) (List.take (x.1+1).toNat (aj m.az))).length _);rw[hH];rfl) rfl rfl rfl rfl rfl))) fun _ hw=>by show XM _ _ [_,_,aN _ _ _ _ (List.flatMap (nq a n) (List.take (x.1+1).toNat (aj m.az))).length (fG (List.flatMap (nq a n) (List.take (x.1+1).toNat (aj m.az)))),dH _ _ _ (List.flatMap (wW a n) (List.take (x.1+1).toNat (aj m.az)))] _;rw[hA,hH];exact XM.pick (pz 4) hw
    ·omega
    ·refine⟨eI,?_,?_⟩
     ·show((List.flatMap (nq a n) (List.take (x.1+1).toNat (aj m.az))).length:Int)<=2*(x.1+1);rw[hA];simp only[List.length_append];omega
     ·show((List.flatMap (wW a n) (List.take (x.1+1).toNat (aj m.az))).length:Int)<=16*(x.1+1);rw[hH,List.length_append,BJ];omega
 ·apply st .aa (Jy _ _ _ _ _ _ _ _ _) rfl;refine aO rfl rfl (ai (pk [0,1,1]) rfl ?_);have e:List.take x.1.toNat (aj m.az)=(aj m.az):=List.take_of_length_le og;exact⟨x.2.1.1,x.2.1.2,x.2.2.1,x.2.2.2,by rw[e];rfl,by rw[e]⟩
def ajq(kb mb:Nat)(p:Option Addr)(c:Nat)(m:MS)(hm:m.Ok)(a n:Int)(w:Bool):Fn 147 [ay mb 0 0,iI a,iI n,.bool w] [ip mb kb p c m,iF p c m] (fun x H1=>x=ax 102 (m.rz a n)/\∃ p2 c2,H1=[d7 mb kb p2 (aj (m.map a n w).az).length c2 (m.map a n w).fr (m.map a n w).aU,gc p2 c2 (aj (m.map a n w).az)]):=by
 refine Spec.g 45 [0,1,2,3,8,9,10,15,22,28] func147 fun W=> ?_;refine cq (PO _ _) .nil ?_;apply (cd)<;>intro h1
 ·have hb:gQ a n:=by
   simp_all
  refine bL (pz 2) ?_;exact⟨by rw[if_pos hb,HR hb];rfl,p,c,by rw[HS (by rw[HR hb];decide)]⟩
 ·have hb:¬gQ a n:=fun q=>h1 fun q2=>by rw[if_pos q]at q2;omega
  have D1:=hb;unfold gQ at D1;have hn:0<n:=og;have hL:=sx m.az;refine wl (σ:=Int) (fun i=>(a+n-i).toNat) (fun i=>(a<=i/\i<=a+n)/\∀ j,a<=j->j<i->m.az j=0) (fun i=>[(10,iI i),(0,ay mb 0 0),(1,iI a),(2,iI n),(3,.bool w)]) (fun i=>[ip mb kb p c m,iF p c m]) (a) ?_ (pz 2) ?_
  ·grind
  intro i hi;obtain⟨hi,rK⟩:=hi;apply gC;apply (sd);apply (cd)<;>intro h2
  ·refine ca (acj _ _ _ _ _ hm _) (pz 2) ?_;rintro _ _ ⟨⟨k,rfl,hk⟩,rfl⟩;apply gO;apply (cd)<;>intro h3
   ·refine bL (pz 2) ?_;have e:m.rz a n=3:=TL hb (i:=i) og fun e=>by have:=(vC hm.f hk).1.2 e;omega
    exact⟨by rw[e];rfl,p,c,by rw[HS (by rw[e];decide)]⟩
   ·refine sd (wn (i+1) ?_ ?_ (pz 2))
    ·omega
    ·refine⟨og,fun j h1 h2=> ?_⟩;by_cases e:j=i
     ·subst e;exact((vC hm.f hk).1).1 og
     grind
  ·have NS:∀ j,a<=j->j<a+n->m.az j=0:=fun j h1 h2=>rK j h1 og;have K6:=Xp (kE hm.f) hn NS;have e:=TM (m:=m) hb NS;refine ld .aa (mz _ _ _ _ _ _) (XO.v (V.build (vs:= #[(0,iI a),(1,iI n),(2,.bool w)]) rfl (v:=.agg (RG.mk a n w).c9) fun _=>kq) rfl (gO ?_));apply XO.buildSlice (e:=171) (vs:= #[(0,.agg (RG.mk a n w).c9)]) (A:=(RG.mk a n w).c9) rfl (fun _=>kq) rfl rfl;intro nb;apply gO;apply jO (e:=171) (jM:=(aj m.az)) (r:=(RG.mk a n w)) rfl rfl underlying140 kq (.t2 .aa) .aa og rfl;intro p3 c3;apply gO;apply st (.t2 .aa) (Jy _ _ _ _ _ _ _ _ _) rfl;refine ca (PQ _ _ _ _ _ _ _ _ (hm.f.fR hb (W4 w)) (Q5 (abj hm.f) hb K6) (Me (qh hm.f) K6 fun _ _=>rfl) (by first | omega | (simp only[List.length_append,List.length_singleton];omega))) (pk [2,0]) ?_;rintro _ _ ⟨rfl,p2,c2,rfl⟩;apply gO;refine bL (pz 2) ?_;exact⟨by rw[e];rfl,p2,c2,by rw[OL e];rfl⟩
def UJ(kb mb:Nat)(p:Option Addr)(c:Nat)(m:MS)(hm:m.Ok)(a n:Int)(w:Bool):Fn 148 [ay mb 0 0,iI a,iI n,.bool w] [ip mb kb p c m,iF p c m] (fun x H1=>x=ax 102 (m.lM a n)/\∃ p2 c2,H1=[d7 mb kb p2 (aj (m.mW a n w).az).length c2 (m.mW a n w).fr (m.mW a n w).aU,gc p2 c2 (aj (m.mW a n w).az)]):=by
 refine Spec.g 49 [0,1,2,3,8,9,10,15,22,28] func148 fun W=> ?_;refine cq (PO _ _) .nil ?_;apply (cd)<;>intro h1
 ·have hb:gQ a n:=by
   simp_all
  refine bL (pz 2) ?_;exact⟨by rw[if_pos hb,EL hb];rfl,p,c,by rw[EM (by rw[EL hb];decide)]⟩
 ·have hb:¬gQ a n:=fun q=>h1 fun q2=>by rw[if_pos q]at q2;omega
  have D1:=hb;unfold gQ at D1;have hn:0<n:=og;have hL:=sx m.az;refine wl (σ:=Int) (fun i=>(a+n-i).toNat) (fun i=>(a<=i/\i<=a+n)/\∀ j,a<=j->j<i->m.az j≠0) (fun i=>[(10,iI i),(0,ay mb 0 0),(1,iI a),(2,iI n),(3,.bool w)]) (fun i=>[ip mb kb p c m,iF p c m]) (a) ?_ (pz 2) ?_
  ·grind
  intro i hi;obtain⟨hi,rK⟩:=hi;apply gC;apply (sd);apply (cd)<;>intro h2
  ·refine ca (acj _ _ _ _ _ hm _) (pz 2) ?_;rintro _ _ ⟨⟨k,rfl,hk⟩,rfl⟩;apply gO;apply (cd)<;>intro h3
   ·refine bL (pz 2) ?_;have e:m.lM a n=10:=Mm hb (i:=i) og ((vC hm.f hk).1.1 og);exact⟨by rw[e];rfl,p,c,by rw[EM (by rw[e];decide)]⟩
   ·refine sd (wn (i+1) ?_ ?_ (pz 2))
    ·omega
    ·refine⟨og,fun j h1 h2=> ?_⟩;by_cases e:j=i
     ·subst e;intro e;have:=(vC hm.f hk).1.2 e;omega
     grind
  ·have e:=OK (m:=m) hb fun j h1 h2=>rK j h1 og;refine ca (RP _ _ _ _ _ hm _ _ hb) (pz 2) ?_;rintro _ _ ⟨p4,c4,p5,c5,rfl,rfl⟩;have KL:=EN (aj m.az) a n;apply gO;refine ld .aa (mz _ _ _ _ _ _) (XO.v (V.build (vs:= #[(0,iI a),(1,iI n),(2,.bool w)]) rfl (v:=.agg (RG.mk a n w).c9) fun _=>kq) rfl (gO ?_));apply XO.buildSlice (e:=171) (vs:= #[(0,.agg (RG.mk a n w).c9)]) (A:=(RG.mk a n w).c9) rfl (fun _=>kq) rfl rfl;intro nb;apply gO;apply jO (e:=171) (jM:=((aj m.az).flatMap (nq a n))) (r:=(RG.mk a n w)) rfl rfl underlying140 kq (.t2 .aa) .aa og rfl;intro p3 c3;apply gO;apply st (.t2 .aa) (Jy _ _ _ _ _ _ _ _ _) rfl;refine ca (PQ _ _ _ _ _ _ _ _ (hm.f.fR hb (W4 w)) (Q5 (HK (kE hm.f) hn) hb fun r hr=>((Oz (kE hm.f) hn).2 r hr).2) (Me (EC (kE hm.f) (qh hm.f) hn) (fun r hr=>((Oz (kE hm.f) hn).2 r hr).2) fun i hi=>by unfold fR;rw[if_neg hi]) (by first | omega | (simp only[List.length_append,List.length_singleton];omega))) (pk [2,0]) ?_;rintro _ _ ⟨rfl,p2,c2,rfl⟩;apply gO;refine bL (pz 2) ?_;exact⟨by rw[e];rfl,p2,c2,by rw[Mn e];rfl⟩
end Go.X.Vm
