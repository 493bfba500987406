import Derived.Test.YthdinakloheinaaGreatDoorkFW4
import Derived.Shelf.SlGeneric
import Derived.Ground.SlsfProg
set_option linter.all false
namespace Go.X.Fa
open Go Go.Proofs Go.X
set_option maxRecDepth 20000
set_option maxHeartbeats 4000000
def U3(b o:Nat)(s:SC)(d:Int->Nat)(hI:s.toSF.Inv d)(hR:s.lX)(hD:∀ n,0<=n->n<30->d n<=1000)(Bd:Int)(hB:0<=Bd/\Bd<=100000000000000)(hS:s.toSF.bM Bd)(akZ:0<=s.gN/\s.gN<=Bd)(LO:(s.toSF.oK d).mM):Spec Tryz.prog 112 [aC b o 0] [.cells b o 2281 (aM s),.aV b7 (s.da 254)] (fun v H1=>v=iI (s.toSF.l6 d).1/\∃ t:SC,t.toSF=(s.toSF.l6 d).2/\t.lX/\H1=[.cells b o 2281 (aM t),.aV b7 (t.da 254)]):=by
 apply Spec.go 94 [0,2,3,4,5,7,8,10,40,65,67,81] [] Tryz.func112 rfl rfl rfl;intro W;refine lp (σ:=SC×Int) (fun x=>(10-x.2).toNat) (fun x=>x.1.lX/\x.1.toSF.Inv d/\(1<=x.2/\x.2<=10)/\x.1.toSF=s.toSF.mn d (x.2-1).toNat/\x.1.toSF.gN=s.toSF.gN/\x.1.toSF.bM Bd) (fun x=>[(3,iI x.2),(0,aC b o 0)]) (fun x=>XM W (bZ [.cells b o 2281 (aM s),.aV b7 (s.da 254)]) [.cells b o 2281 (aM x.1),.aV b7 (SC.da 254 x.1)]) ((s,1)) ?_ (S2 rfl rfl) (fun _ hw=>XM.pick (pz 2) hw) ?_
 ·exact⟨hR,hI,sq,rfl,rfl,hS⟩
 intro x hx;obtain⟨xR,xI,Il,UN,hxn,xS⟩:=hx;apply gC;refine cd rfl ?_ ?_<;>intro h1
 ·have hqx:=xI.quo x.2 og og;refine sd ?_;refine rq [0,1,2,3,4,5,6,7,8,9,10,11,12,13,14,15,16,17,18,19,20,21,22] mixed ?_;apply ld .aa (iM _ _);refine Pt 22 rfl ?_ ?_<;>intro h2
  ·try simp only[sb]at h2
   have hhr:x.1.aa x.2=true:=h2;apply ld .aa (kT _ _);refine sp 29 rfl ?_ ?_<;>intro h3
   ·apply ld .aa (AM _);apply ld .aa (zv _ _ og);refine XO.v (V.rem rfl rfl (by first | decide | omega) _ (Int.tmod_eq_emod_of_nonneg og)) rfl (gO ?_);refine cd rfl ?_ ?_<;>intro h4
    ·apply st .aa (oM _ _ og _) rfl;refine ca (pc _ _ ({x.1 with dH:=ae x.1.dH x.2 0} :SC) d ⟨xI.h0,xI.up,xI.ck,xI.quo,xI.wt⟩ xR _ (.inr ⟨og,og,hhr⟩)) (pz 2) ?_;rintro _ _ ⟨rfl,t,tl,tR,rfl⟩;apply gO;refine sd ?_;refine ag ((t,x.2+1)) ?_ ?_ (S2 rfl rfl) fun _ hw=>XM.pick (pz 2) hw
     ·omega
     ·refine⟨tR,?_,by simp;omega,?_,?_,?_⟩
      ·show t.toSF.Inv d;rw[tl];exact SF.tr (s:=({x.1 with dH:=ae x.1.dH x.2 0} :SC).toSF) ⟨xI.h0,xI.up,xI.ck,xI.quo,xI.wt⟩ (.inr ⟨og,og,hhr⟩)
      ·show t.toSF=s.toSF.mn d (x.2+1-1).toNat;rw[tl,SF.Xl Il.1 UN ⟨hhr,aq,aq⟩]
      ·show t.toSF.gN=_;rw[tl];exact(SF.jR _ _ _).2.2.2.2.2.2.2.2.2.2.trans hxn
      ·show t.toSF.bM Bd;rw[tl];exact SF.bM.hQ _ (({x.1 with dH:=ae x.1.dH x.2 0} :SC).toSF) _ ⟨xI.h0,xI.up,xI.ck,xI.quo,xI.wt⟩ (xS.dH hB.1 x.2) (.inr ⟨og,og,hhr⟩)
    ·refine sd ?_;refine ag ((x.1,x.2+1)) ?_ ?_ (S2 rfl rfl) fun _ hw=>XM.pick (pz 2) hw
     ·omega
     ·refine⟨xR,xI,by simp;omega,?_,hxn,xS⟩;show x.1.toSF=s.toSF.mn d (x.2+1-1).toNat;rw[SF.G8 Il.1 UN];omega
   ·refine sd ?_;refine ag ((x.1,x.2+1)) ?_ ?_ (S2 rfl rfl) fun _ hw=>XM.pick (pz 2) hw
    ·omega
    ·refine⟨xR,xI,by simp;omega,?_,hxn,xS⟩;show x.1.toSF=s.toSF.mn d (x.2+1-1).toNat;rw[SF.G8 Il.1 UN];omega
  ·try simp only[sb]at h2
   have hhr:x.1.aa x.2=false:=h2;refine sd ?_;refine ag ((x.1,x.2+1)) ?_ ?_ (S2 rfl rfl) fun _ hw=>XM.pick (pz 2) hw
   ·omega
   ·refine⟨xR,xI,by simp;omega,?_,hxn,xS⟩;show x.1.toSF=s.toSF.mn d (x.2+1-1).toNat;rw[SF.G8 Il.1 UN];simp_all
 ·have RH:x.2=10:=og;rw[show(x.2-1).toNat=9 from og]at UN;have hte:({x.1 with gN:=x.1.gN+1} :SC).toSF=(s.toSF.oK d):=by
   show({x.1.toSF with gN:=x.1.toSF.gN+1} :SF)= {s.toSF.mn d 9 with gN:=s.toSF.gN+1};simp_all
  have hI1:SF.Inv ({x.1 with gN:=x.1.gN+1} :SC).toSF d:=⟨xI.h0,xI.up,xI.ck,xI.quo,xI.wt⟩;have hR1:SC.lX ({x.1 with gN:=x.1.gN+1} :SC):=xR;have hS1:SF.bM ({x.1 with gN:=x.1.gN+1} :SC).toSF Bd:=xS;have IA:∀ i,({x.1 with gN:=x.1.gN+1} :SC).toSF.ck i=true->0<i/\i<30:=fun i hi=>⟨(hI1.ck i hi).1,(hI1.ck i hi).2.1⟩;have hF:=hR1.first IA (g:=0) og og
  rw[<-hte]at LO;apply ld .aa (AM _);refine sd ?_;apply st .aa (I8 _ _) rfl;refine sd ?_;apply XR.mono fun _ bJ=>mX (z:=0) og (pz 2) bJ;refine ca (Oy _ _ _ _ _) (pz 2) ?_;rintro _ _ ⟨rfl,rfl⟩;apply XO.mono fun _ bJ=>rz (z:=0) og (pz 5) bJ;apply gO;refine we rfl ?_ ?_<;>intro h5
  ·try simp only[sb]at h5
   have hb:({x.1 with gN:=x.1.gN+1} :SC).toSF.fH 0<0:=by
    simp_all
   have DH:SF.bR d s.toSF= -1:=by
    unfold SF.bR;rw[<-hte];exact SF.abu _ _ og hb
   refine ah rfl rfl (ad (pz 2) rfl ?_);try dsimp only[aL,aJ,aD,aR]
   refine⟨?_,_,?_,hR1,rfl⟩
   ·unfold SF.l6;rw[DH];rfl
   ·unfold SF.l6;rw[DH];exact hte
  ·try simp only[sb]at h5
   have hb:¬({x.1 with gN:=x.1.gN+1} :SC).toSF.fH 0<0:=hF.1.1 h5;obtain⟨⟨b1,b2,b3⟩,b4,b5⟩:=SF.xB IA hb;have hf1:(x.1.Q 0).first.1=({x.1 with gN:=x.1.gN+1} :SC).toSF.fH 0:=hF.2 hb
   have DH:SF.Lg ({x.1 with gN:=x.1.gN+1} :SC).toSF (SF.G5 d 30) (x.1.Q 0).first.1=SF.bR d s.toSF:=by
    unfold SF.bR;rw[<-hte,SF.LK _ _ og hb,hf1]
   have hbI:=hI1.ck _ b1;have hdb:=(hI1.up _ b4 b5 hbI.2.2).2.2.2;rw[b2]at hdb;refine lp (σ:=Int) (fun a=>SF.G5 d 30-d a) (fun a=>(0<a/\a<30/\({x.1 with gN:=x.1.gN+1} :SC).aa a=true)/\({x.1 with gN:=x.1.gN+1} :SC).ck a=true/\(∃ k,SF.G5 d 30<k+d a/\SF.Lg ({x.1 with gN:=x.1.gN+1} :SC).toSF k a=SF.bR d s.toSF)/\∃ j,SF.upW ({x.1 with gN:=x.1.gN+1} :SC).toSF j a) (fun a=>[(5,iI a),(0,aC b o 0)]) (fun a=>XM W (bZ [.cells b o 2281 (aM s),.aV b7 (s.da 254)]) [.cells b o 2281 (aM ({x.1 with gN:=x.1.gN+1} :SC)),.aV b7 (SC.da 254 ({x.1 with gN:=x.1.gN+1} :SC))]) ((x.1.Q 0).first.1) ?_ (S2 rfl rfl) (fun _ hw=>XM.pick (pz 2) hw) ?_
   ·rw[hf1]at DH ⊢;exact⟨⟨b4,b5,hbI.2.2⟩,b1,⟨SF.G5 d 30,og,DH⟩,1,.inr ⟨b1,by show({x.1 with gN:=x.1.gN+1} :SC).toSF.aA _<=0;rw[b2];omega⟩⟩
   intro a ha;obtain⟨⟨a0,a1,a2⟩,aw,⟨k,hk,ak⟩,⟨j,ju⟩⟩:=ha;apply gC;refine cd rfl ?_ ?_<;>intro h6
   ·have Wy:=SF.PN hI1 LO a0 og aw;have hFa:=hR1.first IA (g:=a) og og
    have hfa:(x.1.Q a).first.1=({x.1 with gN:=x.1.gN+1} :SC).toSF.fH a:=hFa.2 Wy
    obtain⟨⟨c1,c2,c3⟩,c4,c5⟩:=SF.xB IA Wy;have hcI:=hI1.ck _ c1;have hdc:=(hI1.up _ c4 c5 hcI.2.2).2.2.2;rw[c2]at hdc;have hma:=SF.BA d 30 a og og;have hmc:=SF.BA d 30 _ (Int.le_of_lt c4) c5;refine sd ?_;apply XR.mono fun _ bJ=>mX (z:=a) og (pz 2) bJ;refine ca (Oy _ _ _ _ _) (pz 2) ?_;rintro _ _ ⟨rfl,rfl⟩;apply XO.mono fun _ bJ=>rz (z:=a) og (pz 5) bJ;apply gO;refine ag ((x.1.Q a).first.1) ?_ ?_ (S2 rfl rfl) fun _ hw=>XM.pick (pz 2) hw
    ·grind
    ·rw[hfa];obtain⟨k2,rfl⟩:∃ k2,k=k2+1:=⟨k-1,og⟩;rw[SF.LK _ _ og Wy]at ak;exact⟨⟨c4,c5,hcI.2.2⟩,c1,⟨k2,og,ak⟩,j+1,.inr ⟨c1,by rw[c2];exact ju⟩⟩
   ·have hae:a=SF.bR d s.toSF:=by
     rw[SF.Xk _ _ og]at ak;omega
    have htk:s.toSF.l6 d=(a-10,SF.vo (d a+1) ({x.1 with gN:=x.1.gN+1} :SC).toSF a):=by
     unfold SF.l6;grind
    have hda:=hD a og a1;refine lp (σ:=SC×Int) (fun y=>if y.2=0 then 0 else d y.2+1) (fun y=>y.1.lX/\y.1.toSF.Inv d/\(y.2=0\/(0<y.2/\y.2<30/\y.1.aa y.2=true))/\y.1.toSF.bM (Bd+1048577*((d a:Int)-(d y.2:Int)))/\d y.2<=d a/\(∃ k,d y.2+1<=k/\SF.vo k y.1.toSF y.2=(s.toSF.l6 d).2)/\∃ j,SF.upW y.1.toSF j y.2) (fun y=>[(8,iI y.2),(0,aC b o 0),(5,iI a)]) (fun y=>XM W (bZ [.cells b o 2281 (aM s),.aV b7 (s.da 254)]) [.cells b o 2281 (aM y.1),.aV b7 (SC.da 254 y.1)]) ((({x.1 with gN:=x.1.gN+1} :SC),a)) ?_ (S3 rfl rfl rfl) (fun _ hw=>XM.pick (pz 2) hw) ?_
    ·grind
    intro y hy;obtain⟨yR,yI,yn,yS,yd,⟨yk,hyk,yl⟩,⟨j,yu⟩⟩:=hy;apply gC;refine cd rfl ?_ ?_<;>intro h7
    ·obtain⟨y0,y1,y2⟩:=yn.resolve_left og;obtain⟨p0,pp1,p2,p3⟩:=yI.up y.2 y0 y1 y2;obtain⟨k2,rfl⟩:∃ k2,yk=k2+1:=⟨yk-1,og⟩;rw[SF.NN _ _ y0]at yl;obtain⟨ywn,yu2⟩:y.1.toSF.ck y.2=true/\∃ j,SF.upW y.1.toSF j (y.1.toSF.aA y.2):=by
      cases j with
      | zero=>have:y.2<=0:=yu;omega
      | succ j=>
       rcases yu with q | ⟨q1,q2⟩
       ·omega
       ·grind
     have hdy:=hD y.2 og y1;refine ca (U1 _ _ _ d yI yR (Bd+1048577*((d a:Int)-(d y.2:Int))) og yS _ ⟨y0,y1,y2⟩ ywn) (pz 2) ?_;rintro _ _ ⟨rfl,t,tl,tR,rfl⟩;have htp:t.aA y.2=y.1.toSF.aA y.2:=by show t.toSF.aA y.2=_;rw[tl];rfl
     apply gO;refine sd ?_;apply ld .aa (eM _ _);refine ag ((t,y.1.toSF.aA y.2)) ?_ ?_ (S3 (Lr htp) rfl rfl) fun _ hw=>XM.pick (pz 2) hw
     ·grind
     ·have PH:y.1.toSF.aA y.2=0\/(0<y.1.toSF.aA y.2/\y.1.toSF.aA y.2<30/\y.1.toSF.aa (y.1.toSF.aA y.2)=true):=by
       grind
      obtain⟨j2,yu3⟩:=yu2;refine⟨tR,by show t.toSF.Inv d;rw[tl];exact yI.zo y0 y1 y2,?_,?_,by show d (y.1.toSF.aA y.2)<=d a;omega,⟨k2,by show d (y.1.toSF.aA y.2)+1<=k2;omega,by show SF.vo k2 t.toSF (y.1.toSF.aA y.2)=_;rw[tl];exact yl⟩,j2,by show SF.upW t.toSF j2 (y.1.toSF.aA y.2);rw[tl];exact SF.NO yI j2 _ PH p3 yu3⟩
      ·show y.1.toSF.aA y.2=0\/(0<y.1.toSF.aA y.2/\y.1.toSF.aA y.2<30/\t.toSF.aa (y.1.toSF.aA y.2)=true);rw[tl];exact PH
      ·show t.toSF.bM (Bd+1048577*((d a:Int)-(d (y.1.toSF.aA y.2):Int)));rw[tl];exact(SF.bM.zo yI yS y0 y1 y2).mono og
    ·refine sd ?_;refine ah rfl rfl (ad (pz 2) rfl ?_);try dsimp only[aL,aJ,aD,aR]
     have hy0:y.2=0:=by
      omega
     rw[hy0,SF.Fv _ _ og]at yl;grind
end Go.X.Fa

namespace Go.X.Vm
open Go Go.Proofs Go.X
set_option maxRecDepth 20000
set_option maxHeartbeats 4000000
def acu:vv Tryz.prog 299=some (64,1):=kq
def ahV(x t:Nat)(hx:x<18446744073709551616)(ht:x.testBit t=true)(hl:∀ j,j<t->x.testBit j=false)(QW:t<64):Spec Tryz.prog 264 [.int .u64 (x:Int)] [.ro 1 0 64 fw] (fun v H1=>v=iI (t:Int)/\H1=[]):=by
 have sN:0<x:=by
  grind
 obtain⟨z1,z2,z3,z4,z5⟩:=TH t QW;refine Spec.go 14 [0,2,4] [] Tryz.func264 rfl rfl rfl ?_;intro W;refine Im rfl (by simp;omega) (XO.v (V.neg rfl _ (XH ⟨sN,hx⟩)) rfl (gO ?_));refine XO.v (V.bits (r:=2^t) rfl rfl rfl hx (Nat.sub_lt dq sN) (congrArg some (Ns (w:=64) ht hl hx QW))) rfl (gO ?_);refine XO.v (V.mul rfl rfl _ z1) rfl (gO ?_);refine XO.v (V.shr rfl rfl og _ z2) rfl (gO ?_);refine XO.v (E8 rfl rfl acu og) rfl (gO ?_);refine W3 .aa (LR QW) (XO.v (oc rfl Tryz.underlying5 Tryz.underlying3 _ z4) rfl (gO ?_));refine ah rfl rfl (ad .nil rfl ?_);exact⟨rfl,rfl⟩
def afm:Spec Tryz.prog 174 [] [] (fun v H1=>∃ b,v=aC b 0 0/\H1=[.cells b 0 71 (bL BB.cP.fi)]):=by
 refine Spec.go 9 [0,1] [] Tryz.func174 rfl rfl rfl ?_;intro W;refine XO.v (V.build (vs:= #[]) rfl (v:=.agg #[.int .u64 0,.int .u64 0,.int .u64 0,.int .u64 0,.int .u64 0,.int .u64 0,.int .u64 0,iI 0,iI 0,iI 0,iI 0,iI 0,iI 0,iI 0,iI 0,iI 0,iI 0,iI 0,iI 0,iI 0,iI 0,iI 0,iI 0,iI 0,iI 0,iI 0,iI 0,iI 0,iI 0,iI 0,iI 0,iI 0,iI 0,iI 0,iI 0,iI 0,iI 0,iI 0,iI 0,iI 0,iI 0,iI 0,iI 0,iI 0,iI 0,iI 0,iI 0,iI 0,iI 0,iI 0,iI 0,iI 0,iI 0,iI 0,iI 0,iI 0,iI 0,iI 0,iI 0,iI 0,iI 0,iI 0,iI 0,iI 0,iI 0,iI 0,iI 0,iI 0,iI 0,iI 0,iI 0]) fun _=>kq) rfl (gO ?_);refine XO.box (m:=71) (C:=bL ⟨BB.dm,fun _=>0⟩) rfl rfl zJ rfl ?_;intro bs;refine gO ?_;refine sd (st .aa (ot _ BB.cP 6 og (v:=1) ⟨xP.1.symm,fun m h0 h1 h2=>by rw[xP.2 m h0 h1 h2];exact(xQ m h0 h1).symm⟩) rfl (ah rfl rfl (ad .h1 rfl ?_)));exact⟨_,rfl,rfl⟩
def acv(p o:Nat)(b:BB)(hI:b.Inv)(q:Int):Spec Tryz.prog 245 [aC p o 0,iI q] [.cells p o 71 (bL b.fi),.ro 1 0 64 fw] (fun v H1=>v= .tuple #[iI (b.take q).1,az 102 (b.take q).2.1]/\H1=[.cells p o 71 (bL (b.take q).2.2.fi)]):=by
 refine Spec.go 79 [0,1,4,5,6,7,13,26,30,53] [] Tryz.func245 rfl rfl rfl ?_;intro W;refine sp 10 rfl ?_ ?_<;>intro h1
 ·refine ao rfl rfl rfl (ad .h1 rfl ?_);rw[pX og];exact⟨rfl,rfl⟩
 ·refine cd rfl ?_ ?_<;>intro h2
  ·refine ao rfl rfl rfl (ad .h1 rfl ?_);rw[pX og];exact⟨rfl,rfl⟩
  ·refine lp (σ:=Int) (fun k=>(7-k).toNat) (fun k=>(q<=k/\k<=7)/\∀ j:Int,q<=j->j<k->b.gJ j=0) (fun k=>[(6,iI k),(0,aC p o 0),(1,iI q)]) (fun k=>XM W (bZ [.cells p o 71 (bL b.fi),.ro 1 0 64 fw]) [.cells p o 71 (bL b.fi),.ro 1 0 64 fw]) (q) ?_ (S3 rfl rfl rfl) (fun _ hw=>XM.pick (pz 2) hw) ?_
   ·grind
   intro k hk;obtain⟨hk,hkz⟩:=hk;refine gC ?_;refine sp 18 rfl ?_ ?_<;>intro h3
   ·refine sd (ld .aa (dC _ _) ?_);refine cd rfl ?_ ?_<;>intro h4
    ·have hz:((b.gJ k:Nat):Int)=0:=h4;refine sd (ag (k+1) ?_ ?_ (S3 rfl rfl rfl) fun _ hw=>XM.pick (pz 2) hw);all_goals grind
    ·have hz:¬((b.gJ k:Nat):Int)=0:=h4;refine cd rfl ?_ ?_<;>intro h5
     ·refine ao rfl rfl rfl (ad .h1 rfl ?_);omega
     ·have hkm:¬b.gJ k=0:=og;obtain⟨t,ht,hl⟩:=Ca hkm;obtain⟨ak9,QW,Wq⟩:=AR ht hl;have Wq:=(lq og).1 Wq;have hpk:=Hf (b:=b) og (k:=k) ⟨hk.1,og⟩ hkz ht hl;have hhm:=Hh (b:=b) (k:=k) og QW Wq.1 Wq.2;refine sd (ld .aa (dC _ _) ?_);refine Io 0 (ahV (b.gJ k) t (la _ _) ht hl QW) (pk [1]) rfl ?_;refine rq [0,1,2,3,4,5,6,7,8,9,10,11,12] mixed (sd (ld (.av .aa) (dC _ _) (XO.v (V.shl rfl rfl og _ (xO)) rfl (gO ?_))));refine XO.v (V.bits rfl rfl rfl (la _ _) (iO og) rfl) rfl (gO ?_);refine sd (st (.av .aa) (ot _ (b.gP t) _ og hhm) rfl ?_);refine lp (σ:=BB) (fun x=>(x.bS t-(q+1)).toNat) (fun x=>x.Inv/\q+1<=x.bS t/\x.bS t<=k+1/\x.tk t=true/\BB.gQ (x.bS t-(q+1)).toNat x t=BB.gQ (k-q).toNat (b.gP t) t) (fun x=>[(6,iI (x.bS t-1)),(0,aC p o 0),(1,iI q),(7,iI (t:Int))]) (fun x=>XM W (bZ [.cells p o 71 (bL b.fi),.ro 1 0 64 fw]) [.cells p o 71 (bL ⟨x,b.ej⟩)]) (b.gP t) ?_ (S4 (Lr (show k=b.bS t-1 by omega)) rfl rfl rfl) (fun _ hw=>XM.pick (pk [1]) hw) ?_
      ·exact⟨hI.gP og,by show q+1<=b.bS t;omega,by show b.bS t<=k+1;omega,au _ _ _,by rw[show(b.gP t).bS t=k+1 from Wq.1];congr 1;omega⟩
      intro x hx;obtain⟨hx,x1,x2,x3,x4⟩:=hx;refine gC ?_;refine cd rfl ?_ ?_<;>intro h6
      ·obtain⟨s1,s2,s3,s4⟩:=hx.split (a:=t) og;have hsm:=hx.LY (a:=t) og x3;have hpp:=wz (x.bS t-2);have hrx:=hx.kv t;refine oV (XO.v (V.sub rfl rfl (x.bS t-2) (by rw[show x.bS t-1-1=x.bS t-2 from og];exact IntWalk.i64_in _ og)) rfl (gO ?_));refine rq [0,1,2,3,4,5,6,7,8,9,10,11,12,13,14,15] mixed (sd (ld .aa (dC _ _) (XO.v (V.shl rfl rfl og _ (Hj)) rfl (gO ?_))));refine sd (XO.v (V.shl rfl rfl og _ (xO)) rfl (gO ?_));refine XO.v (V.bits rfl rfl rfl (la _ _) (iO og) rfl) rfl (gO ?_);refine sd (st .aa (ot _ (x.split t) _ og hsm) rfl (ag (x.split t) ?_ ?_ (S4 (Lr (by rw[s4];omega)) rfl rfl rfl) fun _ hw=>XM.pick .h1 hw))
       ·omega
       ·refine⟨s1,by rw[s4];omega,by rw[s4];omega,x3,?_⟩;rw[<-x4,s4,show(x.bS t-(q+1)).toNat=(x.bS t-1-(q+1)).toNat+1 from og];rfl
      ·have hn:(x.bS t-(q+1)).toNat=0:=og;rw[hn]at x4;have x5:x=BB.gQ ((k.toNat:Int)-q).toNat (b.gP t) t:=by rw[show((k.toNat:Int)-q).toNat=(k-q).toNat from og];exact x4
       have Kx:=hI.FH (o:=q) og hpk;rw[<-x5]at Kx;refine sd (sd (st .aa (tF _ _ og _) rfl (ao rfl rfl rfl (ad .h1 rfl ?_))));rw[<-Kx,BB.lJ og hpk];exact⟨rfl,rfl⟩
   ·refine cd rfl ?_ ?_<;>intro h7
    ·refine ao rfl rfl rfl (ad .h1 rfl ?_);rw[xL og (Hg fun j h1 h2=>hkz j h1 og)];exact⟨rfl,rfl⟩
    ·have hkm:¬b.gJ k=0:=og;omega
def U4(p o:Nat)(b:BB)(hI:b.Inv)(a:Int):Spec Tryz.prog 218 [aC p o 0,iI a] [.cells p o 71 (bL b.fi)] (fun v H1=>v=az 102 (b.rI a).1/\H1=[.cells p o 71 (bL (b.rI a).2.fi)]):=by
 refine Spec.go 80 [0,1,4,5,6,12,20,35,49] [] Tryz.func218 rfl rfl rfl ?_;intro W;refine sp 9 rfl ?_ ?_<;>intro h1
 ·refine ah rfl rfl (ad .h1 rfl ?_);have vS:=BB.qu (b:=b) (a:=a) og;rw[pD og,vS];exact⟨rfl,rfl⟩
 ·refine cd rfl ?_ ?_<;>intro h2
  ·refine ah rfl rfl (ad .h1 rfl ?_);have vS:=BB.qu (b:=b) (a:=a) og;rw[pD og,vS];exact⟨rfl,rfl⟩
  ·refine sd ?_;refine ld .aa (lK _ _) ?_;refine cd rfl ?_ ?_<;>intro h3
   ·have hu:b.ej a=0:=h3;have vS:b.is a=2:=BB.xy og ((hI.FJ a).1 hu);refine ah rfl rfl (ad .h1 rfl ?_);rw[pD og,vS];exact⟨rfl,rfl⟩
   ·have hu:¬b.ej a=0:=h3;obtain⟨ht,ho⟩:=(hI.FJ a).2 hu;have QX:=hI.tk a ht;have Li:=hI.kv a;have vS:b.is a=0:=BB.Cv og ht;refine sd ?_;refine ld .aa (lK _ _) ?_;refine oV ?_;refine XO.v (V.sub rfl rfl (b.bS a-1) (by rw[show b.fi.u a=b.bS a from ho];exact IntWalk.i64_in _ og)) rfl (gO ?_);refine sd ?_;refine st .aa (tF _ _ og _) rfl ?_;refine lp (σ:=BB×Int) (fun x=>(7-x.1.bS x.2).toNat) (fun x=>x.1.Inv/\0<x.1.bS x.2/\x.1.tk x.2=false/\BB.kK (7-x.1.bS x.2).toNat x.1 x.2=BB.kK (7-b.bS a).toNat (b.bare a) a) (fun x=>[(1,iI x.2),(5,iI (x.1.bS x.2-1)),(0,aC p o 0)]) (fun x=>XM W (bZ [.cells p o 71 (bL b.fi)]) [.cells p o 71 (bL ⟨x.1.gP x.2,(ae b.ej a 0)⟩)]) ((b.bare a,a)) ?_ (S3 rfl rfl rfl) (fun w l9=>by
      have e:=Hi (b:=b) ht
      show XM _ _ (.cells p o 71 (bL ⟨(b.bare a).gP a,ae b.ej a 0⟩)::_) w
      rw[e];exact XM.pick .h1 l9) ?_
    ·exact⟨hI.bare a,QX,au _ _ _,rfl⟩
    intro x hx;obtain⟨hx,x1,x2,x3⟩:=hx;have hxr:=hx.kv x.2;have hxi:=hx.zG x1;refine gC ?_;refine cd rfl ?_ ?_<;>intro h4
    ·obtain⟨r1,r2,r3⟩:=hx.zH x1 og;obtain⟨q1,q2⟩:=TF (a:=x.2) (k:=x.1.bS x.2-1) hxi og;have hjt:=hx.P6 x1 og;have hb:=Cx ((x.1.gP x.2).gJ (x.1.bS x.2-1)) (x.1.dB x.2).toNat;rw[hjt]at hb;have Fp:=aeP (k:=x.1.bS x.2-1) og;refine XO.v (V.shl rfl rfl og _ (Hj)) rfl (gO ?_);refine XO.v (Nu rfl rfl (z:=(x.1.dB x.2)) og og og rfl (by rw[JA];exact q1)) rfl (gO ?_);refine sd ?_;refine ld .aa (dC _ _) ?_;refine XO.v (V.shr rfl rfl og _ (XJ og _)) rfl (gO ?_);refine XO.v (V.bits rfl rfl rfl (Nat.lt_of_le_of_lt (abD _ _) (la _ _)) dq rfl) rfl (gO ?_);refine cd rfl ?_ ?_<;>intro h5
     ·have h9:(((((x.1.gP x.2).gJ (x.1.bS x.2-1)) >>> (x.1.dB x.2).toNat)&&&1:Nat):Int)=0:=h5;have hc:¬x.1.jC x.2:=fun q=>by
       simp only[q,decide_true,if_true]at hb;omega
      have hx9:BB.kK (7-b.bS a).toNat (b.bare a) a=x.1:=by rw[<-x3];exact EK _ hc
      have Kx:=hI.zI vS;rw[hx9]at Kx;refine rq [0,1,2,3,4,5,6,7,8,9,10,11,12] mixed ?_;refine sd ?_;refine ld .aa (dC _ _) ?_;refine XO.v (V.shl rfl rfl og _ (xO)) rfl (gO ?_);refine XO.v (V.bits rfl rfl rfl (la _ _) (iO og) rfl) rfl (gO ?_);refine sd ?_;refine st .aa (ot _ x.1 _ og (xN x1 hxi x2)) rfl ?_;refine ah rfl rfl (ad .h1 rfl ?_);rw[<-Kx,rJ vS];exact⟨rfl,rfl⟩
     ·have h9:¬(((((x.1.gP x.2).gJ (x.1.bS x.2-1)) >>> (x.1.dB x.2).toNat)&&&1:Nat):Int)=0:=h5;have hc:x.1.jC x.2:=by
       apply Classical.byContradiction;intro q;simp only[q,decide_false,Bool.false_eq_true,if_false]at hb;omega
      obtain⟨j1,_,_,_,j5,j6⟩:=hx.jT x1 x2 hc;refine rq [0,1,2,3,4,5,6,7,8,9,10,11,12] mixed ?_;refine sd ?_;refine ld .aa (dC _ _) ?_;refine XO.v (V.shl rfl rfl og _ (xO)) rfl (gO ?_);refine XO.v (V.bits rfl rfl rfl (la _ _) (iO og) rfl) rfl (gO ?_);refine sd ?_;refine st .aa (ot _ ((x.1.jT x.2).gP (min x.2 (x.1.dB x.2))) _ og (hx.P7 x1 hc)) rfl ?_;refine XO.v (V.shl rfl rfl og _ (Hj)) rfl (gO ?_);refine XO.v (Nu rfl rfl (z:=(min x.2 (x.1.dB x.2))) og og og rfl (by rw[JA];exact q2)) rfl (gO ?_);refine sd ?_;refine ag ((x.1.jT x.2,(min x.2 (x.1.dB x.2)))) ?_ ?_ (S3 rfl (Lr (by show x.1.bS x.2-1+1=(x.1.jT x.2).bS (min x.2 (x.1.dB x.2))-1;rw[j5];omega)) rfl) fun _ hw=>XM.pick .h1 hw
      ·
       (show(7-(x.1.jT x.2).bS (min x.2 (x.1.dB x.2))).toNat<(7-x.1.bS x.2).toNat;rw[j5];omega)
      ·refine⟨j1,by show 0<(x.1.jT x.2).bS (min x.2 (x.1.dB x.2));rw[j5];omega,j6,?_⟩;show BB.kK (7-(x.1.jT x.2).bS (min x.2 (x.1.dB x.2))).toNat (x.1.jT x.2) (min x.2 (x.1.dB x.2))=_;rw[<-x3,j5,show(7-x.1.bS x.2).toNat=(7-(x.1.bS x.2+1)).toNat+1 from og,BB.kK,if_pos hc]
    ·have hx9:BB.kK (7-b.bS a).toNat (b.bare a) a=x.1:=by rw[<-x3,show(7-x.1.bS x.2).toNat=0 from og];rfl
     have Kx:=hI.zI vS;rw[hx9]at Kx;refine rq [0,1,2,3,4,5,6,7,8,9,10,11,12] mixed ?_;refine sd ?_;refine ld .aa (dC _ _) ?_;refine XO.v (V.shl rfl rfl og _ (xO)) rfl (gO ?_);refine XO.v (V.bits rfl rfl rfl (la _ _) (iO og) rfl) rfl (gO ?_);refine sd ?_;refine st .aa (ot _ x.1 _ og (xN x1 hxi x2)) rfl ?_;refine ah rfl rfl (ad .h1 rfl ?_);rw[<-Kx,rJ vS];exact⟨rfl,rfl⟩
def QY:Spec Tryz.prog 98 [] [] (fun v H1=>∃ kb pb,v=aC kb 0 0/\H1=[.cells kb 0 577 (dD pb VB.cP.iq VB.cP.rf),.cells pb 0 71 (bL VB.cP.bb.fi)]):=by
 apply Spec.go 4 [0] [] Tryz.func98 rfl rfl rfl;intro W;refine ca (afm) .nil ?_;rintro _ _ ⟨pb,rfl,rfl⟩;apply gO;refine XO.v (V.build (vs:= #[(0,aC pb 0 0)]) rfl (v:=.agg (zKl pb).toArray) fun _=>kq) rfl (gO ?_);refine XO.box (m:=577) (C:=dD pb VB.cP.iq VB.cP.rf) rfl rfl (abH _) rfl ?_;intro kb;apply gO;refine ah rfl rfl (ad (pz 2) rfl ?_);exact⟨_,_,rfl,rfl⟩
def afn(kb:Nat):Spec Tryz.prog 103 [aC kb 0 0] [] (fun v H1=>∃ mb,v=aC mb 0 0/\H1=[.cells mb 0 34 (b6 kb none (aj MS.nil.aB).length 0 MS.nil.fr MS.nil.bu),aS none 0 171 3 (aj MS.nil.aB).length (fb (aj MS.nil.aB))]):=by
 refine Spec.go 19 [0,2,3,4,8,9] [] Tryz.func103 rfl rfl rfl ?_;intro W;refine XO.v (V.build (vs:= #[(0,aC kb 0 0)]) rfl (v:=.agg (zNl kb).toArray) fun _=>kq) rfl (gO ?_);refine XO.box (m:=34) (C:=b6 kb none 0 0 (frI 0) fun _=>false) rfl rfl (fun i hi=>(TT _ i hi).trans (congrFun (rO fun i h0 h1=>⟨by unfold frI;first | rw[if_neg og] | rw[if_pos og],rfl⟩) i)) rfl ?_;intro mb;apply gO;refine lp (σ:=Int) (fun i=>(16-i).toNat) (fun i=>0<=i/\i<=16) (fun i=>[(8,iI i),(3,aC mb 0 0)]) (fun i=>XM W (bZ []) [.cells mb 0 34 (b6 kb none 0 0 (frI i) fun _=>false)]) (0) ?_ (S2 rfl rfl) (fun _ hw=>XM.pick .h1 hw) ?_
 ·omega
 intro i hi;apply gC;refine cd rfl ?_ ?_<;>intro h1
 ·refine sd (st .aa (pE _ _ _ _ _ _ _ og _) rfl (sd (ag (i+1) ?_ ?_ (S2 rfl rfl) fun _ hw=>by rw[<-TU hi.1];exact XM.pick .h1 hw)));all_goals omega
 ·refine XR.fc 171 3 (ah rfl rfl (ad (pk [1,0]) rfl ?_));have e:i=16:=og;subst e;rw[TV];exact⟨_,rfl,by rw[show b6 kb none 0 0 (frI 16) (fun _=>false)=b6 kb none 0 0 (fun _=>0) (fun _=>false)from rO fun i h0 h1=>⟨by unfold frI;rw[if_pos og],rfl⟩];rfl⟩
def U5(kb pb:Nat)(v:VB)(hv:v.Ok):Spec Tryz.prog 230 [aC kb 0 0] [.cells kb 0 577 (dD pb v.iq v.rf),.cells pb 0 71 (bL v.bb.fi),.ro 1 0 64 fw] (fun x H1=>x= .tuple #[iI v.take.1,az 102 v.take.2.1]/\H1=[.cells kb 0 577 (dD pb v.take.2.2.iq v.take.2.2.rf),.cells pb 0 71 (bL v.take.2.2.bb.fi)]):=by
 apply Spec.go 29 [0,2,3,4,5,15] [] Tryz.func230 rfl rfl rfl;intro W;apply ld .aa (dD.JH _ _ _);refine Io 1 (acv _ _ _ hv.bb _) (pk [1,1]) rfl ?_;refine cd rfl ?_ ?_<;>intro h1
 ·have vt:¬(v.bb.take 0).2.1=0:=h1;have hfl:=Hn h1;refine ao rfl rfl rfl (ad (pk [2,0]) rfl ?_);rw[mA vt];exact⟨rfl,by rw[hfl]⟩
 ·have xt:(v.bb.take 0).2.1=0:=og;have hw:=(hv.bb.CR xt).2.1;refine sd (st (.t2 .aa) (lL _ _ _ _ og _) rfl (XO.v (V.build (vs:= #[]) rfl (v:=.agg (TP fun _=>0)) fun _=>kq) rfl (gO ?_)));refine sd (gD (.t2 .aa) (FO _ _ _ _ _) rfl ⟨rfl,rfl⟩ (ao rfl rfl rfl (ad (pk [2,0]) rfl ?_)));rw[VB.lJ xt];exact⟨rfl,rfl⟩
def acw(kb pb:Nat)(v:VB)(hv:v.Ok)(f:Int)(hf:0<=f/\f<64)(h1:1<=v.rf f):Spec Tryz.prog 179 [aC kb 0 0,iI f] [.cells kb 0 577 (dD pb v.iq v.rf),.cells pb 0 71 (bL v.bb.fi),.ro 1 0 64 fw] (fun x H1=>x= .tuple #[]/\H1=[.cells kb 0 577 (dD pb (v.drop f).iq (v.drop f).rf),.cells pb 0 71 (bL (v.drop f).bb.fi)]):=by
 have hb:=hv.rf f;apply Spec.go 27 [0,1,20] [] Tryz.func179 rfl rfl rfl;intro W;refine rq [0,1,2,3,4,5,6,7,8,9,10] mixed ?_;refine sd ?_;apply ld .aa (iP _ _ _ _);refine sd ?_;refine sd ?_;apply st .aa (lL _ _ _ _ og _) rfl;refine sd ?_;apply ld .aa (iP _ _ _ _);have e1:ae v.rf f (v.rf f-1) f=v.rf f-1:=au _ _ _;refine cd rfl ?_ ?_<;>intro h1
 ·apply ld .aa (dD.JH _ _ _);refine cq (U4 _ _ _ hv.bb _) (pk [1]) ?_;refine cS rfl (ad (pk [1,0]) rfl ?_);grind [zO]
 ·refine cS rfl (ad (pz 2) rfl ?_);grind [zP]
def MN(a n:Int):Spec Tryz.prog 177 [iI a,iI n] [] (fun x H1=>x=az 102 (if gw a n then 1 else 0)/\H1=[]):=by
 apply Spec.go 22 [0,1,4,20] [] Tryz.func177 rfl rfl rfl;intro W;refine sp 7 rfl ?_ ?_<;>intro h1
 ·refine ah rfl rfl (ad .nil rfl ?_);first | (rw[if_neg (by unfold gw;omega)];exact⟨rfl,rfl⟩) | (rw[if_pos (by unfold gw;omega)];exact⟨rfl,rfl⟩)
 ·refine sp 11 rfl ?_ ?_<;>intro h2
  ·refine ah rfl rfl (ad .nil rfl ?_);first | (rw[if_neg (by unfold gw;omega)];exact⟨rfl,rfl⟩) | (rw[if_pos (by unfold gw;omega)];exact⟨rfl,rfl⟩)
  ·refine sp 15 rfl ?_ ?_<;>intro h3
   ·refine ah rfl rfl (ad .nil rfl ?_);first | (rw[if_neg (by unfold gw;omega)];exact⟨rfl,rfl⟩) | (rw[if_pos (by unfold gw;omega)];exact⟨rfl,rfl⟩)
   ·refine sd ?_;refine cd rfl ?_ ?_<;>intro h4
    ·refine ah rfl rfl (ad .nil rfl ?_);first | (rw[if_neg (by unfold gw;omega)];exact⟨rfl,rfl⟩) | (rw[if_pos (by unfold gw;omega)];exact⟨rfl,rfl⟩)
    ·refine ah rfl rfl (ad .nil rfl ?_);first | (rw[if_neg (by unfold gw;omega)];exact⟨rfl,rfl⟩) | (rw[if_pos (by unfold gw;omega)];exact⟨rfl,rfl⟩)
end Go.X.Vm

namespace Go.X.Vm
open Go Go.X
set_option maxRecDepth 20000
set_option maxHeartbeats 4000000
structure RB where
 f:Fin 17
 n:Int
 w:Bool
instance:Inhabited RB:=⟨⟨0,0,false⟩⟩
def RB.rg(x:RB):RG:=⟨((x.f:Nat):Int),x.n,x.w⟩
def RG.rb(r:RG):RB:=⟨⟨r.fr.toNat%17,Nat.mod_lt _ og⟩,r.n,r.w⟩
theorem RG.afo{r:RG}(h:0<=r.fr/\r.fr<=16):r.rb.rg=r:=by
 cases r with
 | mk f n w=>
  simp only[RG.rb,RB.rg,RG.mk.injEq,and_true];simp only at h;have:f.toNat%17=f.toNat:=Nat.mod_eq_of_lt og;simp only[this];omega
def fu(x:RB):List Value:=[iI ((x.f:Nat):Int),iI x.n,.bool x.w]
def QZ(x y:RB):Int:=((x.f:Nat):Int)-((y.f:Nat):Int)
theorem BQ(x y:RB):Go.Proofs.ltOf QZ x y=decide ((x.f:Nat)<(y.f:Nat)):=by
 unfold Go.Proofs.ltOf QZ;grind
def U6:Sort.SWO (Go.Proofs.ltOf QZ) where
 irrefl x:=by rw[BQ];simp
 trans x y z h1 h2:=by rw[BQ]at*;simp only[decide_eq_true_eq]at*;omega
 ntrans x y z h1 h2:=by rw[BQ]at*;simp only[decide_eq_false_iff_not]at*;omega
def U7(x:RB):(fu x).length=3:=rfl
def U8(x:RB):∀ v∈fu x,v.oneCell'=true:=fun v hv=>by
 simp[fu]at hv;rcases hv with rfl | rfl | rfl<;>rfl
theorem OA(d:Array RB):(Sort.flatK fu 3 d).toList=bV (fb (d.toList.map RB.rg)) (d.size*3):=by
 unfold Sort.flatK bV;rw[Array.toList_map,Array.toList_range];apply List.map_congr_left;intro t ht;have OB:t<d.size*3:=by simpa using ht
 have e:(d.toList.map RB.rg).getD (t/3) RG.nil=(d[t/3]!).rg:=by
  grind
 unfold fb;rw[e];have h:t%3=0\/t%3=1\/t%3=2:=og;rcases h with h | h | h<;>rw[h]<;>rfl
def HU{P:Program}{ρ:Shelf.Ren}(L:Go.Proofs.SlLaysF0.n6 P ρ)(aE:∀ w,(isAgg (ρ.t 24)).run P w= .ok true w)(zE:∀ w,(Go.sizeOf (ρ.t 24)).run P w= .ok 3 w)(Le:Nat)(eg:∀ args w,(callFunc Le args).run P w= .ok (.enter Le args) w)(hc:Xe P Le fu QZ)(p:Option Addr)(c:Nat)(e:TypeId)(l:List RG)(hl:∀ r∈l,0<=r.fr/\r.fr<=16)(sO:l.length<=100000):Spec P (ρ.f 6) [.slice p l.length c,.func (.func Le) #[] #[]] [aS p c e 3 l.length (fb l)] (fun v H1=>v= .tuple #[]/\∃ l':List RG,l.Perm l'/\l'.Pairwise (fun x y=>x.fr<=y.fr)/\H1=[aS p c e 3 l.length (fb l')]):=by
 have Xa:((l.map RG.rb).map RB.rg)=l:=by
  rw[List.map_map];conv=>rhs;rw[<-List.map_id l]
  grind [List.map_congr_left,RG.afo]
 have h:=SL L 3 aE zE fu U7 U8 QZ U6 Le eg hc p l.length c e (l.map RG.rb).toArray sq og;rw[OA]at h;simp only[List.toList_toArray,Xa,List.size_toArray,List.length_map]at h;intro w hw;refine(h w hw).mono ?_;rintro ee w' ⟨v,H',he,⟨hv,d',hp,hs,hH⟩,h3,h4⟩;have Nq:d'.size=l.length:=by rw[hp.1];simp
 have hpm:d'.toList.Perm (l.map RG.rb):=by
  have h2:=hp.2.2;grind [Array.extract_size]
 refine⟨v,H',he,⟨hv,d'.toList.map RB.rg,?_,?_,?_⟩,h3,h4⟩
 ·have:=hpm.map RB.rg;rw[Xa]at this;exact this.symm
 ·rw[List.pairwise_map,List.pairwise_iff_getElem];intro i j hi hj RO;have hj':j<d'.size:=by simpa using hj
  have Ik:i<d'.size:=og;have:=hs i j (Nat.zero_le _) RO og;grind [BQ,RB.rg]
 grind [OA]
end Go.X.Vm


namespace Go.Proofs
open Go.Shelf
def Ky:Go.Shelf.Ren:=⟨fun | 6=>219 | 15=>242 | 14=>241 | 28=>262 | 29=>263 | 20=>254 | 21=>255 | 22=>256 | 23=>257 | 24=>258 | 25=>259 | 26=>260 | 27=>261 | 46=>272 | 47=>273 | 48=>274 | 49=>275 | 50=>276 | 57=>283 | n=>n,fun | 22=>140 | 24=>171 | 25=>250 | 3=>3 | 39=>258 | 0=>0 | 53=>257 | 55=>29 | 4=>4 | 46=>283 | 45=>282 | 50=>118 | 5=>5 | 9=>9 | 66=>294 | 70=>232 | 76=>302 | 77=>303 | n=>n,fun | n=>n⟩
def YG:Go.Proofs.SlLaysF0.n6 Tryz.prog Ky:= {
 mixed:=by kernel_rfl
 f6:=⟨Tryz.f219.name,by decide,Tryz.func219.trans (congrArg some (by kernel_rfl))⟩
 f14:=⟨Tryz.f241.name,by decide,Tryz.func241.trans (congrArg some (by kernel_rfl))⟩
 f15:=Tryz.func242.trans (congrArg some (by kernel_rfl))
 f20:=⟨Tryz.f254.name,by decide,Tryz.func254.trans (congrArg some (by kernel_rfl))⟩
 f21:=⟨Tryz.f255.name,by decide,Tryz.func255.trans (congrArg some (by kernel_rfl))⟩
 f22:=⟨Tryz.f256.name,by decide,Tryz.func256.trans (congrArg some (by kernel_rfl))⟩
 f23:=⟨Tryz.f257.name,by decide,Tryz.func257.trans (congrArg some (by kernel_rfl))⟩
 f24:=⟨Tryz.f258.name,by decide,Tryz.func258.trans (congrArg some (by kernel_rfl))⟩
 f25:=⟨Tryz.f259.name,by decide,Tryz.func259.trans (congrArg some (by kernel_rfl))⟩
 f26:=⟨Tryz.f260.name,by decide,Tryz.func260.trans (congrArg some (by kernel_rfl))⟩
 f27:=⟨Tryz.f261.name,by decide,Tryz.func261.trans (congrArg some (by kernel_rfl))⟩
 f28:=Tryz.func262.trans (congrArg some (by kernel_rfl))
 f29:=Tryz.func263.trans (congrArg some (by kernel_rfl))
 f46:=⟨Tryz.f272.name,by decide,Tryz.func272.trans (congrArg some (by kernel_rfl))⟩
 f47:=Tryz.func273.trans (congrArg some (by kernel_rfl))
 f48:=Tryz.func274.trans (congrArg some (by kernel_rfl))
 f49:=⟨Tryz.f275.name,by decide,Tryz.func275.trans (congrArg some (by kernel_rfl))⟩
 f50:=⟨Tryz.f276.name,by decide,Tryz.func276.trans (congrArg some (by kernel_rfl))⟩
 f57:=⟨Tryz.f283.name,by decide,Tryz.func283.trans (congrArg some (by kernel_rfl))⟩
 t0:=Tryz.underlying0
 a0:=Tryz.isAgg0
 z0:=Tryz.sizeOf0
 v0:=Tryz.zeroValue0
 t3:=Tryz.underlying3
 a3:=Tryz.isAgg3
 z3:=Tryz.sizeOf3
 v3:=Tryz.zeroValue3
 t4:=Tryz.underlying4
 a4:=Tryz.isAgg4
 z4:=Tryz.sizeOf4
 v4:=Tryz.zeroValue4
 t5:=Tryz.underlying5
 a5:=Tryz.isAgg5
 z5:=Tryz.sizeOf5
 v5:=Tryz.zeroValue5
 t9:=Tryz.underlying9
 a9:=Tryz.isAgg9
 z9:=Tryz.sizeOf9
 v9:=Tryz.zeroValue9
 t22:=Tryz.underlying140
 a22:=Tryz.isAgg140
 z22:=Tryz.sizeOf140
 v22:=Tryz.zeroValue140
 t25:=Tryz.underlying250
 a25:=Tryz.isAgg250
 z25:=Tryz.sizeOf250
 v25:=Tryz.zeroValue250
 t39:=Tryz.underlying258
 a39:=Tryz.isAgg258
 z39:=Tryz.sizeOf258
 v39:=Tryz.zeroValue258
 t45:=Tryz.underlying282
 a45:=Tryz.isAgg282
 z45:=Tryz.sizeOf282
 v45:=Tryz.zeroValue282
 t46:=Tryz.underlying283
 a46:=Tryz.isAgg283
 z46:=Tryz.sizeOf283
 v46:=Tryz.zeroValue283
 t50:=Tryz.underlying118
 a50:=Tryz.isAgg118
 z50:=Tryz.sizeOf118
 v50:=Tryz.zeroValue118
 t53:=Tryz.underlying257
 a53:=Tryz.isAgg257
 z53:=Tryz.sizeOf257
 v53:=Tryz.zeroValue257
 t55:=Tryz.underlying29
 a55:=Tryz.isAgg29
 z55:=Tryz.sizeOf29
 v55:=Tryz.zeroValue29
 t66:=Tryz.underlying294
 a66:=Tryz.isAgg294
 z66:=Tryz.sizeOf294
 v66:=Tryz.zeroValue294
 t70:=Tryz.underlying232
 a70:=Tryz.isAgg232
 z70:=Tryz.sizeOf232
 v70:=Tryz.zeroValue232
 t76:=Tryz.underlying302
 a76:=Tryz.isAgg302
 z76:=Tryz.sizeOf302
 v76:=Tryz.zeroValue302
 t77:=Tryz.underlying303
 a77:=Tryz.isAgg303
 z77:=Tryz.sizeOf303
 v77:=Tryz.zeroValue303}
end Go.Proofs

namespace Go.X.Vm
open Go Go.Proofs Go.X
set_option maxRecDepth 20000
set_option maxHeartbeats 4000000
def acx:nq Tryz.prog 142=true:=kq
def acy:cV Tryz.prog 227=true:=kq
def lU:rh Tryz.prog 171 3=true:=kq
def kE:jw Tryz.prog 3=true:=kq
def U9:fk Tryz.prog 142=some 2:=kq
def afp:Xe Tryz.prog 220 fu QZ:=fun x y w=>by
 refine enter (ps:=[2,3,4]) (cs:=[]) Tryz.func220 rfl rfl ?_ (M:=fun w'=>w'=w) rfl
 refine gC (K:=[]) (Q0:=bodyPost _ _ _) (XO.aev rfl rfl (XO.aev rfl rfl ?_))
 refine gO ?_
 refine oL (XO.l (NH (v:=iI ((x.f:Nat):Int)) rfl (fun w' hw=>by rw[hw];exact Xf rfl) kE) rfl (gO ?_))
 refine oL (XO.l (NH (v:=iI ((y.f:Nat):Int)) rfl (fun w' hw=>by rw[hw];exact SI rfl) kE) rfl (gO ?_))
 refine sd ?_ (by have:=x.f.isLt;have:=y.f.isLt;omega)
 exact ah rfl rfl fun w' hw=>⟨rfl,_,hw.trans (SJ _ _ _)⟩
def acz(p:Option Addr)(c:Nat)(l:List RG)(hl:∀ r∈l,0<=r.fr/\r.fr<=16)(sO:l.length<=100000):Spec Tryz.prog 219 [.slice p l.length c,.func (.func 220) #[] #[]] [aS p c 171 3 l.length (fb l)] (fun v H1=>v= .tuple #[]/\∃ l':List RG,l.Perm l'/\l'.Pairwise (fun x y=>x.fr<=y.fr)/\H1=[aS p c 171 3 l.length (fb l')]):=
 HU YG Tryz.isAgg171 Tryz.sizeOf171 220 (Go.Proofs.enters_of Tryz.func220 kq rfl) afp p c 171 l hl sO
def afq(cn:Nat)(n:Int)(r:RG)(hr:0<=r.fr/\0<=r.n/\r.fr+r.n<=100):Spec Tryz.prog 227 [.agg r.cO,aC cn 0 0] [.cells cn 0 1 (aG (iI n))] (fun v H1=>v= .bool (r.TW n)/\H1=[.cells cn 0 1 (aG (iI n))]):=by
 refine Spec.go 17 [1,2,3] [] Tryz.func227 rfl rfl rfl ?_;intro W;refine XO.box (m:=3) (C:=pe (r)) rfl rfl (pe.box _) rfl ?_;intro bx;refine gO ?_;refine ld (.av .aa) (aG.ld _) ?_;refine ld .aa (pe.f _) ?_;refine sp 8 rfl ?_ ?_<;>intro h1
 ·refine ld (.av .aa) (aG.ld _) ?_;refine ld .aa (pe.f _) ?_;refine ld .aa (pe.n _) ?_;refine sd ?_;refine ah rfl rfl (ad (pk [1]) rfl ?_);exact⟨congrArg Value.bool (by rw[Bool.eq_iff_iff];unfold RG.TW;simp;omega),rfl⟩
 ·refine ah rfl rfl (ad (pk [1]) rfl ?_);exact⟨congrArg Value.bool (by rw[Bool.eq_iff_iff];unfold RG.TW;simp;omega),rfl⟩
def ahY(cn:Nat)(n:Int)(p:Option Addr)(c:Nat)(l:List RG)(hl:∀ r∈l,0<=r.fr/\0<r.n/\r.fr+r.n<=16)(hlen:l.length<=100):Spec Tryz.prog 226 [.slice p l.length c,.func (.func 227) #[] #[aC cn 0 0]] [aS p c 171 3 l.length (fb l),.cells cn 0 1 (aG (iI n))] (fun v H1=>(∃ k:Int,v=iI k/\atP l n k)/\H1=[aS p c 171 3 l.length (fb l),.cells cn 0 1 (aG (iI n))]):=by
 refine Spec.go 19 [0,1,4,5,7,8,9,16] [] Tryz.func226 rfl rfl rfl ?_;intro W;refine lp (σ:=Int) (fun i=>(l.length-i).toNat) (fun i=>(0<=i/\i<=l.length)/\∀ j:Int,0<=j->j<i->¬(bD l j).has n) (fun i=>[(8,iI i),(0,.slice p l.length c),(1,.func (.func 227) #[] #[aC cn 0 0]),(7,iI l.length)]) (fun i=>XM W (bZ [aS p c 171 3 l.length (fb l),.cells cn 0 1 (aG (iI n))]) [aS p c 171 3 l.length (fb l),.cells cn 0 1 (aG (iI n))]) (0) ?_ (S4 rfl rfl rfl rfl) (fun _ hw=>XM.pick (pz 2) hw) ?_
 ·grind
 intro i hi;obtain⟨hi,vt⟩:=hi;refine gC ?_;refine cd rfl ?_ ?_<;>intro h1
 ·refine bH .aa og ?_;intro g1 h2;subst h2;refine sd ?_;refine qn .aa (fb.agg og) ?_;refine XO.SG (cs:=[aC cn 0 0]) rfl rfl (afq _ n _ (by have:=hl _ (xU (l:=l) (z:=i));omega)) (pk [1]) acy rfl ?_;rintro _ _ ⟨rfl,rfl⟩;refine gO ?_;refine we rfl ?_ ?_<;>intro h3
  ·try simp only[sb]at h3
   refine ah rfl rfl (ad (pk [1,0]) rfl ?_);exact⟨⟨i,rfl,.inr ⟨og,(AV _ _).1 aq⟩⟩,rfl⟩
  ·try simp only[sb]at h3
   refine sd ?_;refine ag (i+1) ?_ ?_ (S4 rfl rfl rfl rfl) fun _ hw=>XM.pick (pk [1,0]) hw;all_goals grind [AV]
 ·refine ah rfl rfl (ad (pz 2) rfl ?_);exact⟨⟨-1,rfl,.inl ⟨rfl,fun r hr=>by obtain⟨z,hz,rfl⟩:=XT hr;exact vt z hz.1 og⟩⟩,rfl⟩
def YH(kb mb:Nat)(p:Option Addr)(c:Nat)(m:MS)(hm:m.Ok)(n:Int):Spec Tryz.prog 198 [aC mb 0 0,iI n] [.cells mb 0 34 (b6 kb p (aj m.aB).length c m.fr m.bu),aS p c 171 3 (aj m.aB).length (fb (aj m.aB))] (fun v H1=>(∃ k:Int,v=iI k/\atP (aj m.aB) n k)/\H1=[.cells mb 0 34 (b6 kb p (aj m.aB).length c m.fr m.bu),aS p c 171 3 (aj m.aB).length (fb (aj m.aB))]):=by
 refine Spec.go 11 [0,3,4] [] Tryz.func198 rfl rfl rfl ?_;intro W;refine XO.box (m:=1) (C:=aG (iI n)) rfl rfl (fun _ _=>rfl) rfl ?_;intro cn;refine gO ?_;refine ld (.av .aa) (lr _ _ _ _ _ _) ?_;refine XO.v (I2 rfl) rfl (gO ?_);refine ca (ahY _ _ _ _ _ (jD hm.f).b (by have:=qI m.aB;omega)) (pk [2,0]) ?_;rintro _ _ ⟨⟨k,rfl,hk⟩,rfl⟩;refine gO ?_;refine ah rfl rfl (ad (pk [2,0]) rfl ?_);exact⟨⟨k,rfl,hk⟩,rfl⟩
def YI(p:Option Addr)(c:Nat)(l:List RG)(hn:l.length<=100):Spec Tryz.prog 124 [.slice p l.length c] [aS p c 171 3 l.length (fb l)] (fun v H1=>∃ p1 c1,v= .slice p1 l.length c1/\H1=[aS p c 171 3 l.length (fb l),aS p1 c1 171 3 l.length (fb l)]):=by
 refine Spec.go 8 [0,2,4] [] Tryz.func124 rfl rfl rfl ?_;intro W;refine XO.v (kW rfl Tryz.underlying140 rfl) rfl (gO ?_);refine cd rfl ?_ ?_<;>intro h1
 ·subst h1;refine Pu .aa ?_;intro SM;refine XR.fc 171 3 (ah rfl rfl (ad (pk [1,0]) rfl ?_));exact⟨none,0,by rw[SM];rfl,by rw[SM];rfl⟩
 ·refine Sy .aa h1 ?_;intro g hg;subst hg;refine mU (e:=171) (vs:= #[]) (A:= #[]) (sz:=3) rfl (fun _=>kq) rfl og rfl ?_;intro b1;refine gO ?_;refine XO.Po (e:=171) rfl rfl Tryz.underlying140 lU .aa (.av .aa) Qc og rfl ?_;intro p1 c1;refine gO ?_;refine ah rfl rfl (ad (pk [1,0]) rfl ?_);exact⟨p1,c1,by simp only[Nat.zero_add];rfl,by simp only[Nat.zero_add,List.nil_append]⟩
def r8(kb mb:Nat)(p:Option Addr)(c:Nat)(m:MS)(hm:m.Ok):Spec Tryz.prog 50 [aC mb 0 0] [.cells mb 0 34 (b6 kb p (aj m.aB).length c m.fr m.bu)] (fun v H1=>v=iI m.CN/\H1=[.cells mb 0 34 (b6 kb p (aj m.aB).length c m.fr m.bu)]):=by
 refine Spec.go 20 [0,2,3,5,9,10,11,15] [] Tryz.func50 rfl rfl rfl ?_;intro W;refine lZ .aa (L3 _ _ _ _ _ _) ?_;refine lp (σ:=Int) (fun i=>(16-i).toNat) (fun i=>0<=i/\i<=16) (fun i=>[(10,iI i),(3,iI (EL m.fr i.toNat)),(9,.agg (pgA m.fr m.bu))]) (fun i=>XM W (bZ [.cells mb 0 34 (b6 kb p (aj m.aB).length c m.fr m.bu)]) [.cells mb 0 34 (b6 kb p (aj m.aB).length c m.fr m.bu)]) (0) ?_ (S3 rfl rfl rfl) (fun _ hw=>XM.pick .h1 hw) ?_
 ·omega
 intro i hi;have Jv:=hm.lo i;have hrs:=N4 m.fr i.toNat;refine gC ?_;refine cd rfl ?_ ?_<;>intro h1
 ·refine XO.v (I3 rfl rfl Tryz.underlying143 U9 acx og (abJ og)) rfl (gO ?_);refine XO.bN (z:=.agg #[iI 0,.bool false]) (m:=2) (C:=N7 0 false) kq rfl (N7.box _ _) rfl ?_;intro pb;refine gO ?_;refine gD .aa (N7.st _ _ _ _) rfl ⟨rfl,rfl⟩ (ld .aa (N7.f _ _) ?_);refine cd rfl ?_ ?_<;>intro h2
  ·refine sd (sd (ag (i+1) ?_ ?_ (S3 rfl (Lr (by rw[FL _ hi.1,if_pos og])) rfl) fun _ hw=>XM.pick (pk [1]) hw));all_goals omega
  ·refine sd (ag (i+1) ?_ ?_ (S3 rfl (Lr (by rw[FL _ hi.1,if_neg og];omega)) rfl) fun _ hw=>XM.pick (pk [1]) hw);all_goals omega
 ·refine ah rfl rfl (ad .h1 rfl ?_);have e:i=16:=og;subst e;exact⟨rfl,rfl⟩
end Go.X.Vm
