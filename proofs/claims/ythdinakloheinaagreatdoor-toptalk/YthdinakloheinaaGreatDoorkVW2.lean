import Derived.Test.YthdinakloheinaaGreatDoorkFW3
import Derived.Test.YthdinakloheinaaGreatDoorkFRM
import Derived.Test.YthdinakloheinaaGreatDoorkVBM
import Derived.Test.YthdinakloheinaaGreatDoorKB
import Derived.Test.YthdinakloheinaaGreatDoorLM
import Derived.Test.YthdinakloheinaaGreatDoorXBytes
import Derived.Test.YthdinakloheinaaGreatDoorkVBT
import Derived.Shelf.SlSortCmp.WholeK
import Derived.Shelf.SlGeneric
import Derived.Ground.SlsfProg
import Derived.Test.YthdinakloheinaaGreatDoorProg
namespace Go.X.Fa
open Go Go.Proofs Go.X
set_option maxRecDepth 20000
set_option maxHeartbeats 4000000
theorem yG(b o:Nat)(s:SC)(d:Int→Nat)(hI:s.toSF.Inv d)(hR:s.jB)(n:Int):Spec Tryz.prog 190 [ptr b o 0,.int .i64 n] [.cells b o 2281 (aq s),.fam aH (s.rows 254)] (fun v H1=>v=bH 102 (s.oR n)∧∃ t:SC,t.toSF=s.toSF.qB d n∧t.jB∧H1=[.cells b o 2281 (aq t),.fam aH (t.rows 254)]):=by
 refine Spec.go 30 [0,1,4,5,6,14] [] Tryz.func190 rfl rfl rfl ?_
 intro W
 refine ca (Gg _ _ _ _) .h1 ?_
 rintro _ _ (⟨h1,rfl,rfl⟩ | ⟨h1,rfl,rfl⟩)
 ·
  try dsimp only[aT,aV,bu,bj,bk,bd,aW,bh,aY,aX,aP,aN,aQ,aO]
  obtain⟨i0,i1,i2,i3⟩:=h1
  refine gO ?_
  refine st .here (aq.sc _ _ (by omega) _) rfl ?_
  refine sd (by omega) ?_
  refine ca (rM _ _ {s with awake:=aa s.awake (10+n) false} d ⟨hI.h0,hI.up,hI.was,hI.quo,hI.wt⟩ hR _ (.inr ⟨by omega,by omega,i3⟩)) .h2 ?_
  rintro _ _ ⟨rfl,t,tl,tR,rfl⟩
  have tw:t.toSF=s.toSF.ej d n false:=by rw[tl];unfold SF.ej;rw[if_pos i0]
  have twz:t.was (10+n)=false:=by
   show t.toSF.was (10+n)=false
   rw[tl,SF.A5 (s:=({s with awake:=aa s.awake (10+n) false} :SC).toSF) ⟨hI.h0,hI.up,hI.was,hI.quo,hI.wt⟩ (by omega) (by omega) i3]
   unfold SF.ready
   rw[if_pos (by omega)]
   exact ae _ _ _
  have tI:t.toSF.Inv d:=by rw[tl];exact SF.nq (s:=({s with awake:=aa s.awake (10+n) false} :SC).toSF) ⟨hI.h0,hI.up,hI.was,hI.quo,hI.wt⟩ (.inr ⟨by omega,by omega,i3⟩)
  have thp:t.toSF.here=s.here∧t.toSF.par=s.par:=by rw[tl];exact⟨SF.BD _ _ _,SF.DG _ _ _⟩
  refine gO ?_
  refine sd (by omega) ?_
  refine XO.v (V.build (vs:= #[]) rfl (v:=.agg (gL (qj false 0 0))) (fun _=>by kernel_rfl)) rfl (gO ?_)
  refine sd (by omega) ?_
  refine oS ?_
  refine XO.eZ rfl rfl .here (sm _ (10+n) 0 0 false (by omega)) (mJ _) od ?_
  refine XO.mono (fun _ hw3=>XM.newRow (s:=t) (z:=(10+n)) (by omega) (.cons (.there .here) .nil) hw3) ?_
  refine gO ?_
  refine XE.aK rfl rfl (ab (.cons (.there .here) .h1) rfl ?_)
  try dsimp only[SW.den,SV.den,aj,aL]
  have hk9:∀ i,t.was i=true→t.par i≠10+n:=fun i hi e9=>by
   obtain⟨a,b9,c⟩:=tI.was i hi
   have h9:=(tI.up i a b9 c).2.1
   have e9b:t.toSF.par i=10+n:=e9
   omega
  exact⟨by rw[i0];rfl,_,by show t.toSF.kz _ _ _ _=_;unfold SF.qB;rw[if_pos i0,tw],tR.new twz hk9 0 0 false,rfl⟩
 ·
  try dsimp only[aT,aV,bu,bj,bk,bd,aW,bh,aY,aX,aP,aN,aQ,aO]
  have i0:=h1
  refine gO ?_
  refine XE.aK rfl rfl (ab .h2 rfl ?_)
  try dsimp only[SW.den,SV.den,aj,aL]
  exact⟨by rw[aJ _ (by assumption)],s,by unfold SF.qB;rw[if_neg (by assumption)],hR,rfl⟩
end Go.X.Fa

namespace Go.X.Fa
open Go Go.Proofs Go.X
set_option maxRecDepth 20000
set_option maxHeartbeats 4000000
theorem Kv(b o:Nat)(s:SC)(d:Int→Nat)(hI:s.toSF.Inv d)(hR:s.jB)(hD:∀ n,0≤n→n<30→d n≤1000)(Bd:Int)(hB:0≤Bd∧Bd≤100000000000000)(hS:s.toSF.Small Bd)(hnow:0≤s.now∧s.now≤Bd)(hset:(s.toSF.jN d).gN):Spec Tryz.prog 112 [ptr b o 0] [.cells b o 2281 (aq s),.fam aH (s.rows 254)] (fun v H1=>v= .int .i64 (s.toSF.tick d).1∧∃ t:SC,t.toSF=(s.toSF.tick d).2∧t.jB∧H1=[.cells b o 2281 (aq t),.fam aH (t.rows 254)]):=by
 refine Spec.go 94 [0,2,3,4,5,7,8,10,40,65,67,81] [] Tryz.func112 rfl rfl rfl ?_
 intro W
 refine lp (σ:=SC×Int) (fun x=>(10-x.2).toNat) (fun x=>x.1.jB∧x.1.toSF.Inv d∧(1≤x.2∧x.2≤10)∧x.1.toSF=s.toSF.gV d (x.2-1).toNat∧x.1.toSF.now=s.toSF.now∧x.1.toSF.Small Bd) (fun x=>[(3,.int .i64 x.2),(0,ptr b o 0)]) (fun x=>XM W (bR [.cells b o 2281 (aq s),.fam aH (s.rows 254)]) [.cells b o 2281 (aq x.1),.fam aH (SC.rows 254 x.1)]) ((s,1)) ?_ (S2 rfl rfl) (fun _ hw=>XM.pick .h2 hw) ?_
 ·
  exact⟨hR,hI,by simp,rfl,rfl,hS⟩
 intro x hx
 obtain⟨xR,xI,hx1,hxe,hxn,xS⟩:=hx
 refine gC ?_
 refine cd rfl ?_ ?_<;>intro h1
 ·
  have hqx:=xI.quo x.2 (by omega) (by omega)
  refine sd (by omega) ?_
  refine rq [0,1,2,3,4,5,6,7,8,9,10,11,12,13,14,15,16,17,18,19,20,21,22] mixed (by kernel_rfl) ?_
  refine ld .here (aq.lN _ _ (by omega)) ?_
  refine JJ 22 rfl ?_ ?_<;>intro h2
  ·try simp only[sb]at h2
   have hhr:x.1.here x.2=true:=h2
   refine ld .here (aq.ko _ _ (by omega)) ?_
   refine sp 29 rfl ?_ ?_<;>intro h3
   ·
    refine ld .here (aq.Ei _) ?_
    refine ld .here (aq.wv _ _ (by omega)) ?_
    refine XO.v (V.rem rfl rfl (by first | decide | omega) _ (Int.tmod_eq_emod_of_nonneg (by omega))) rfl (gO ?_)
    refine cd rfl ?_ ?_<;>intro h4
    ·
     refine st .here (aq.uz _ _ (by omega) _) rfl ?_
     refine ca (rM _ _ ({x.1 with used:=aa x.1.used x.2 0} :SC) d ⟨xI.h0,xI.up,xI.was,xI.quo,xI.wt⟩ xR _ (.inr ⟨by omega,by omega,hhr⟩)) .h2 ?_
     rintro _ _ ⟨rfl,t,tl,tR,rfl⟩
     refine gO ?_
     refine sd (by omega) ?_
     refine ag ((t,x.2+1)) ?_ ?_ (S2 rfl rfl) (fun _ hw=>XM.pick .h2 hw)
     ·
      (simp;omega)
     ·
      refine⟨tR,?_,by simp;omega,?_,?_,?_⟩
      ·show t.toSF.Inv d
       rw[tl]
       exact SF.nq (s:=({x.1 with used:=aa x.1.used x.2 0} :SC).toSF) ⟨xI.h0,xI.up,xI.was,xI.quo,xI.wt⟩ (.inr ⟨by omega,by omega,hhr⟩)
      ·show t.toSF=s.toSF.gV d (x.2+1-1).toNat
       rw[tl,SF.Iy hx1.1 hxe ⟨hhr,by assumption,by assumption⟩]
      ·show t.toSF.now=_
       rw[tl]
       exact(SF.fe _ _ _).2.2.2.2.2.2.2.2.2.2.trans hxn
      ·show t.toSF.Small Bd
       rw[tl]
       exact SF.Small.dJ _ (({x.1 with used:=aa x.1.used x.2 0} :SC).toSF) _ ⟨xI.h0,xI.up,xI.was,xI.quo,xI.wt⟩ (xS.used hB.1 x.2) (.inr ⟨by omega,by omega,hhr⟩)
    ·
     refine sd (by omega) ?_
     refine ag ((x.1,x.2+1)) ?_ ?_ (S2 rfl rfl) (fun _ hw=>XM.pick .h2 hw)
     ·
      (simp;omega)
     ·
      refine⟨xR,xI,by simp;omega,?_,hxn,xS⟩
      show x.1.toSF=s.toSF.gV d (x.2+1-1).toNat
      rw[SF.uZ hx1.1 hxe]
      rintro⟨q1,q2,q3⟩
      first
      | omega
      | (rw[hhr]at q1;cases q1)
   ·
    refine sd (by omega) ?_
    refine ag ((x.1,x.2+1)) ?_ ?_ (S2 rfl rfl) (fun _ hw=>XM.pick .h2 hw)
    ·
     (simp;omega)
    ·
     refine⟨xR,xI,by simp;omega,?_,hxn,xS⟩
     show x.1.toSF=s.toSF.gV d (x.2+1-1).toNat
     rw[SF.uZ hx1.1 hxe]
     rintro⟨q1,q2,q3⟩
     first
     | omega
     | (rw[hhr]at q1;cases q1)
  ·try simp only[sb]at h2
   have hhr:x.1.here x.2=false:=h2
   refine sd (by omega) ?_
   refine ag ((x.1,x.2+1)) ?_ ?_ (S2 rfl rfl) (fun _ hw=>XM.pick .h2 hw)
   ·
    (simp;omega)
   ·
    refine⟨xR,xI,by simp;omega,?_,hxn,xS⟩
    show x.1.toSF=s.toSF.gV d (x.2+1-1).toNat
    rw[SF.uZ hx1.1 hxe]
    rintro⟨q1,q2,q3⟩
    first
    | omega
    | (rw[hhr]at q1;cases q1)
 ·
  have Hj:x.2=10:=by omega
  rw[show(x.2-1).toNat=9 from by omega]at hxe
  have hte:({x.1 with now:=x.1.now+1} :SC).toSF=(s.toSF.jN d):=by
   show({x.1.toSF with now:=x.1.toSF.now+1} :SF)= {s.toSF.gV d 9 with now:=s.toSF.now+1}
   rw[←hxe,←hxn]
  have hI1:SF.Inv ({x.1 with now:=x.1.now+1} :SC).toSF d:=⟨xI.h0,xI.up,xI.was,xI.quo,xI.wt⟩
  have hR1:SC.jB ({x.1 with now:=x.1.now+1} :SC):=xR
  have hS1:SF.Small ({x.1 with now:=x.1.now+1} :SC).toSF Bd:=xS
  have hw1:∀ i,({x.1 with now:=x.1.now+1} :SC).toSF.was i=true→0<i∧i<30:=fun i hi=>⟨(hI1.was i hi).1,(hI1.was i hi).2.1⟩
  have hF:=hR1.first hw1 (g:=0) (by omega) (by omega)
  rw[←hte]at hset
  refine ld .here (aq.Ei _) ?_
  refine sd (by omega) ?_
  refine st .here (aq.KL _ _) rfl ?_
  refine sd (by omega) ?_
  refine XR.mono (fun _ hw3=>XM.pF (z:=0) (by omega) .h2 hw3) ?_
  refine ca (AX _ _ _ _ _) .h2 ?_
  rintro _ _ ⟨rfl,rfl⟩
  refine XO.mono (fun _ hw3=>XM.pY (z:=0) (by omega) .h5 hw3) ?_
  refine gO ?_
  refine AK rfl ?_ ?_<;>intro h5
  ·try simp only[sb]at h5
   have hb:({x.1 with now:=x.1.now+1} :SC).toSF.cS 0<0:=by
    apply Classical.byContradiction
    intro c
    have h9:=hF.1.2 c
    have h8:(x.1.Q 0).first.2.2=false:=h5
    rw[show({x.1 with now:=x.1.now+1} :SC).Q 0=x.1.Q 0 from rfl,h8]at h9
    cases h9
   have hwho:SF.bV d s.toSF= -1:=by
    unfold SF.bV
    rw[←hte]
    exact SF.Ec _ _ (by omega) hb
   refine XE.aK rfl rfl (ab .h2 rfl ?_)
   try dsimp only[SW.den,SV.den,aj,aL]
   refine⟨?_,_,?_,hR1,rfl⟩
   ·unfold SF.tick;rw[hwho];rfl
   ·unfold SF.tick;rw[hwho];exact hte
  ·try simp only[sb]at h5
   have hb:¬({x.1 with now:=x.1.now+1} :SC).toSF.cS 0<0:=hF.1.1 h5
   obtain⟨⟨b1,b2,b3⟩,b4,b5⟩:=SF.mU hw1 hb
   have hf1:(x.1.Q 0).first.1=({x.1 with now:=x.1.now+1} :SC).toSF.cS 0:=hF.2 hb
   have hwho:SF.zX ({x.1 with now:=x.1.now+1} :SC).toSF (SF.maxD d 30) (x.1.Q 0).first.1=SF.bV d s.toSF:=by
    unfold SF.bV
    rw[←hte,SF.yU _ _ (by omega) hb,hf1]
   have hbI:=hI1.was _ b1
   have hdb:=(hI1.up _ b4 b5 hbI.2.2).2.2.2
   rw[b2]at hdb
   refine lp (σ:=Int) (fun a=>SF.maxD d 30-d a) (fun a=>(0<a∧a<30∧({x.1 with now:=x.1.now+1} :SC).here a=true)∧({x.1 with now:=x.1.now+1} :SC).was a=true∧(∃ k,SF.maxD d 30<k+d a∧SF.zX ({x.1 with now:=x.1.now+1} :SC).toSF k a=SF.bV d s.toSF)∧∃ j,SF.JW ({x.1 with now:=x.1.now+1} :SC).toSF j a) (fun a=>[(5,.int .i64 a),(0,ptr b o 0)]) (fun a=>XM W (bR [.cells b o 2281 (aq s),.fam aH (s.rows 254)]) [.cells b o 2281 (aq ({x.1 with now:=x.1.now+1} :SC)),.fam aH (SC.rows 254 ({x.1 with now:=x.1.now+1} :SC))]) ((x.1.Q 0).first.1) ?_ (S2 rfl rfl) (fun _ hw=>XM.pick .h2 hw) ?_
   ·
    rw[hf1]at hwho ⊢
    exact⟨⟨b4,b5,hbI.2.2⟩,b1,⟨SF.maxD d 30,by omega,hwho⟩,1,.inr ⟨b1,by show({x.1 with now:=x.1.now+1} :SC).toSF.par _≤0;rw[b2];omega⟩⟩
   intro a ha
   obtain⟨⟨a0,a1,a2⟩,aw,⟨k,hk,ak⟩,⟨j,ju⟩⟩:=ha
   refine gC ?_
   refine cd rfl ?_ ?_<;>intro h6
   ·
    have hbs:=SF.CY hI1 hset a0 (by omega) aw
    have hFa:=hR1.first hw1 (g:=a) (by omega) (by omega)
    have hfa:(x.1.Q a).first.1=({x.1 with now:=x.1.now+1} :SC).toSF.cS a:=hFa.2 hbs
    obtain⟨⟨c1,c2,c3⟩,c4,c5⟩:=SF.mU hw1 hbs
    have hcI:=hI1.was _ c1
    have hdc:=(hI1.up _ c4 c5 hcI.2.2).2.2.2
    rw[c2]at hdc
    have hma:=SF.maxD_le d 30 a (by omega) (by omega)
    have hmc:=SF.maxD_le d 30 _ (Int.le_of_lt c4) c5
    refine sd (by omega) ?_
    refine XR.mono (fun _ hw3=>XM.pF (z:=a) (by omega) .h2 hw3) ?_
    refine ca (AX _ _ _ _ _) .h2 ?_
    rintro _ _ ⟨rfl,rfl⟩
    refine XO.mono (fun _ hw3=>XM.pY (z:=a) (by omega) .h5 hw3) ?_
    refine gO ?_
    refine ag ((x.1.Q a).first.1) ?_ ?_ (S2 rfl rfl) (fun _ hw=>XM.pick .h2 hw)
    ·
     rw[hfa];omega
    ·
     rw[hfa]
     obtain⟨k2,rfl⟩:∃ k2,k=k2+1:=⟨k-1,by omega⟩
     rw[SF.yU _ _ (by omega) hbs]at ak
     exact⟨⟨c4,c5,hcI.2.2⟩,c1,⟨k2,by omega,ak⟩,j+1,.inr ⟨c1,by rw[c2];exact ju⟩⟩
   ·
    have hae:a=SF.bV d s.toSF:=by
     rw[SF.AZ _ _ (by omega)]at ak
     exact ak
    have htk:s.toSF.tick d=(a-10,SF.nF (d a+1) ({x.1 with now:=x.1.now+1} :SC).toSF a):=by
     unfold SF.tick
     rw[←hae,if_neg (by omega),hte]
    have hda:=hD a (by omega) a1
    refine lp (σ:=SC×Int) (fun y=>if y.2=0 then 0 else d y.2+1) (fun y=>y.1.jB∧y.1.toSF.Inv d∧(y.2=0∨(0<y.2∧y.2<30∧y.1.here y.2=true))∧y.1.toSF.Small (Bd+1048577*((d a:Int)-(d y.2:Int)))∧d y.2≤d a∧(∃ k,d y.2+1≤k∧SF.nF k y.1.toSF y.2=(s.toSF.tick d).2)∧∃ j,SF.JW y.1.toSF j y.2) (fun y=>[(8,.int .i64 y.2),(0,ptr b o 0),(5,.int .i64 a)]) (fun y=>XM W (bR [.cells b o 2281 (aq s),.fam aH (s.rows 254)]) [.cells b o 2281 (aq y.1),.fam aH (SC.rows 254 y.1)]) ((({x.1 with now:=x.1.now+1} :SC),a)) ?_ (S3 rfl rfl rfl) (fun _ hw=>XM.pick .h2 hw) ?_
    ·
     exact⟨hR1,hI1,.inr ⟨a0,a1,a2⟩,hS1.mono (by simp),Nat.le_refl _,⟨d a+1,Nat.le_refl _,by rw[htk]⟩,j,ju⟩
    intro y hy
    obtain⟨yR,yI,yn,yS,yd,⟨yk,hyk,yl⟩,⟨j,yu⟩⟩:=hy
    refine gC ?_
    refine cd rfl ?_ ?_<;>intro h7
    ·
     obtain⟨y0,y1,y2⟩:=yn.resolve_left (by omega)
     obtain⟨p0,pp1,p2,p3⟩:=yI.up y.2 y0 y1 y2
     obtain⟨k2,rfl⟩:∃ k2,yk=k2+1:=⟨yk-1,by omega⟩
     rw[SF.AF _ _ y0]at yl
     obtain⟨ywn,yu2⟩:y.1.toSF.was y.2=true∧∃ j,SF.JW y.1.toSF j (y.1.toSF.par y.2):=by
      cases j with
      | zero=>have:y.2≤0:=yu;omega
      | succ j=>
       rcases yu with q | ⟨q1,q2⟩
       ·omega
       ·exact⟨q1,j,q2⟩
     have hdy:=hD y.2 (by omega) y1
     refine ca (Fi _ _ _ d yI yR (Bd+1048577*((d a:Int)-(d y.2:Int))) (by omega) yS _ ⟨y0,y1,y2⟩ ywn) .h2 ?_
     rintro _ _ ⟨rfl,t,tl,tR,rfl⟩
     have htp:t.par y.2=y.1.toSF.par y.2:=by show t.toSF.par y.2=_;rw[tl];rfl
     refine gO ?_
     refine sd (by omega) ?_
     refine ld .here (aq.fa _ _ (by omega)) ?_
     refine ag ((t,y.1.toSF.par y.2)) ?_ ?_ (S3 (Cu htp) rfl rfl) (fun _ hw=>XM.pick .h2 hw)
     ·
      show(if y.1.toSF.par y.2=0 then 0 else d (y.1.toSF.par y.2)+1)<(if y.2=0 then 0 else d y.2+1)
      rw[if_neg (show ¬y.2=0 by omega)]
      split<;>omega
     ·
      have hpn:y.1.toSF.par y.2=0∨(0<y.1.toSF.par y.2∧y.1.toSF.par y.2<30∧y.1.toSF.here (y.1.toSF.par y.2)=true):=by
       by_cases c:y.1.toSF.par y.2=0
       ·exact .inl c
       ·exact .inr ⟨by omega,by omega,p2⟩
      obtain⟨j2,yu3⟩:=yu2
      refine⟨tR,by show t.toSF.Inv d;rw[tl];exact yI.oY y0 y1 y2,?_,?_,by show d (y.1.toSF.par y.2)≤d a;omega,⟨k2,by show d (y.1.toSF.par y.2)+1≤k2;omega,by show SF.nF k2 t.toSF (y.1.toSF.par y.2)=_;rw[tl];exact yl⟩,j2,by show SF.JW t.toSF j2 (y.1.toSF.par y.2);rw[tl];exact SF.zV yI j2 _ hpn p3 yu3⟩
      ·show y.1.toSF.par y.2=0∨(0<y.1.toSF.par y.2∧y.1.toSF.par y.2<30∧t.toSF.here (y.1.toSF.par y.2)=true)
       rw[tl];exact hpn
      ·show t.toSF.Small (Bd+1048577*((d a:Int)-(d (y.1.toSF.par y.2):Int)))
       rw[tl]
       exact(SF.Small.oY yI yS y0 y1 y2).mono (by omega)
    ·
     refine sd (by omega) ?_
     refine XE.aK rfl rfl (ab .h2 rfl ?_)
     try dsimp only[SW.den,SV.den,aj,aL]
     have hy0:y.2=0:=by
      rcases yn with q | q
      ·exact q
      ·omega
     rw[hy0,SF.uj _ _ (by omega)]at yl
     exact⟨by rw[htk],y.1,yl,yR,rfl⟩
end Go.X.Fa

namespace Go.X.Vm
open Go Go.Proofs Go.X
set_option maxRecDepth 20000
set_option maxHeartbeats 4000000
theorem Ni:Spec Tryz.prog 174 [] [] (fun v H1=>∃ b,v=ptr b 0 0∧H1=[.cells b 0 71 (au BB.init.bJ)]):=by
 refine Spec.go 9 [0,1] [] Tryz.func174 rfl rfl rfl ?_
 intro W
 refine XO.v (V.build (vs:= #[]) rfl (v:=.agg #[.int .u64 0,.int .u64 0,.int .u64 0,.int .u64 0,.int .u64 0,.int .u64 0,.int .u64 0,.int .i64 0,.int .i64 0,.int .i64 0,.int .i64 0,.int .i64 0,.int .i64 0,.int .i64 0,.int .i64 0,.int .i64 0,.int .i64 0,.int .i64 0,.int .i64 0,.int .i64 0,.int .i64 0,.int .i64 0,.int .i64 0,.int .i64 0,.int .i64 0,.int .i64 0,.int .i64 0,.int .i64 0,.int .i64 0,.int .i64 0,.int .i64 0,.int .i64 0,.int .i64 0,.int .i64 0,.int .i64 0,.int .i64 0,.int .i64 0,.int .i64 0,.int .i64 0,.int .i64 0,.int .i64 0,.int .i64 0,.int .i64 0,.int .i64 0,.int .i64 0,.int .i64 0,.int .i64 0,.int .i64 0,.int .i64 0,.int .i64 0,.int .i64 0,.int .i64 0,.int .i64 0,.int .i64 0,.int .i64 0,.int .i64 0,.int .i64 0,.int .i64 0,.int .i64 0,.int .i64 0,.int .i64 0,.int .i64 0,.int .i64 0,.int .i64 0,.int .i64 0,.int .i64 0,.int .i64 0,.int .i64 0,.int .i64 0,.int .i64 0,.int .i64 0]) (fun _=>by kernel_rfl)) rfl (gO ?_)
 refine XO.box (m:=71) (C:=au ⟨BB.void,fun _=>0⟩) rfl rfl om rfl ?_
 intro bs
 refine gO ?_
 refine sd (by omega) ?_
 refine st .here (lJ _ BB.init 6 (by omega) (v:=1) ⟨BB.tj.1.symm,fun m h0 h1 h2=>by rw[BB.tj.2 m h0 h1 h2];exact(BB.tS m h0 h1).symm⟩) rfl ?_
 refine XE.aK rfl rfl (ab .h1 rfl ?_)
 exact⟨_,rfl,rfl⟩
theorem LQ(p o:Nat)(b:BB)(hI:b.Inv)(a:Int):Spec Tryz.prog 218 [ptr p o 0,.int .i64 a] [.cells p o 71 (au b.bJ)] (fun v H1=>v=bH 102 (b.ku a).1∧H1=[.cells p o 71 (au (b.ku a).2.bJ)]):=by
 refine Spec.go 80 [0,1,4,5,6,12,20,35,49] [] Tryz.func218 rfl rfl rfl ?_
 intro W
 refine sp 9 rfl ?_ ?_<;>intro h1
 ·
  refine XE.aK rfl rfl (ab .h1 rfl ?_)
  have his:=BB.j8 (b:=b) (a:=a) (by omega)
  rw[BB.nk (by omega),his];exact⟨rfl,rfl⟩
 ·
  refine cd rfl ?_ ?_<;>intro h2
  ·
   refine XE.aK rfl rfl (ab .h1 rfl ?_)
   have his:=BB.j8 (b:=b) (a:=a) (by omega)
   rw[BB.nk (by omega),his];exact⟨rfl,rfl⟩
  ·
   refine sd (by omega) ?_
   refine ld .here (au.lZ _ _ (by omega)) ?_
   refine cd rfl ?_ ?_<;>intro h3
   ·
    have hu:b.cE a=0:=h3
    have his:b.is a=2:=BB.nT (by omega) ((hI.uB a).1 hu)
    refine XE.aK rfl rfl (ab .h1 rfl ?_)
    rw[BB.nk (by omega),his];exact⟨rfl,rfl⟩
   ·
    have hu:¬b.cE a=0:=h3
    obtain⟨ht,ho⟩:=(hI.uB a).2 hu
    have hpos:=hI.tk a ht
    have hrg:=hI.gg a
    have his:b.is a=0:=BB.rH (by omega) ht
    refine sd (by omega) ?_
    refine ld .here (au.lZ _ _ (by omega)) ?_
    refine oV ?_
    refine XO.v (V.sub rfl rfl (b.ord a-1) (by rw[show b.bJ.u a=b.ord a from ho];exact IntWalk.i64_in _ (by omega))) rfl (gO ?_)
    refine sd (by omega) ?_
    refine st .here (au.BC _ _ (by omega) _) rfl ?_
    refine lp (σ:=BB×Int) (fun x=>(7-x.1.ord x.2).toNat) (fun x=>x.1.Inv∧0<x.1.ord x.2∧x.1.tk x.2=false∧BB.fB (7-x.1.ord x.2).toNat x.1 x.2=BB.fB (7-b.ord a).toNat (b.bare a) a) (fun x=>[(1,.int .i64 x.2),(5,.int .i64 (x.1.ord x.2-1)),(0,ptr p o 0)]) (fun x=>XM W (bR [.cells p o 71 (au b.bJ)]) [.cells p o 71 (au ⟨x.1.eJ x.2,(aa b.cE a 0)⟩)]) ((b.bare a,a)) ?_ (S3 rfl rfl rfl) (fun w hw2=>by
      have e:=BB.CR (b:=b) ht
      show XM _ _ (.cells p o 71 (au ⟨(b.bare a).eJ a,aa b.cE a 0⟩)::_) w
      rw[e];exact XM.pick .h1 hw2) ?_
    ·
     exact⟨hI.bare a,hpos,ae _ _ _,rfl⟩
    intro x hx
    obtain⟨hx,x1,x2,x3⟩:=hx
    have hxr:=hx.gg x.2
    have hxi:=hx.qs x1
    refine gC ?_
    refine cd rfl ?_ ?_<;>intro h4
    ·
     obtain⟨r1,r2,r3⟩:=hx.oG x1 (by omega)
     obtain⟨q1,q2⟩:=FW (a:=x.2) (k:=x.1.ord x.2-1) hxi (by omega)
     have hjt:=hx.BF x1 (by omega)
     have hb:=sr ((x.1.eJ x.2).mask (x.1.ord x.2-1)) (x.1.bD x.2).toNat
     rw[hjt]at hb
     have hp2:=Ng (k:=x.1.ord x.2-1) (by omega)
     refine XO.v (V.shl rfl rfl (by omega) _ (AY (by omega))) rfl (gO ?_)
     refine XO.v (V.Jr rfl rfl (z:=(x.1.bD x.2)) (by omega) (by omega) (by omega) rfl (by rw[xj];exact q1)) rfl (gO ?_)
     refine sd (by omega) ?_
     refine ld .here (au.fT _ _ (by omega)) ?_
     refine XO.v (V.shr rfl rfl (by omega) _ (IZ (by omega) _)) rfl (gO ?_)
     refine XO.v (V.bits rfl rfl rfl (Nat.lt_of_le_of_lt (J8 _ _) (BB.pQ _ _)) (by decide) rfl) rfl (gO ?_)
     refine cd rfl ?_ ?_<;>intro h5
     ·
      have h9:(((((x.1.eJ x.2).mask (x.1.ord x.2-1)) >>> (x.1.bD x.2).toNat)&&&1:Nat):Int)=0:=h5
      have hc:¬x.1.fk x.2:=fun q=>by
       simp only[q,decide_true,if_true]at hb
       omega
      have hx9:BB.fB (7-b.ord a).toNat (b.bare a) a=x.1:=by rw[←x3];exact BB.zi _ hc
      have hfin:=hI.oB his
      rw[hx9]at hfin
      refine rq [0,1,2,3,4,5,6,7,8,9,10,11,12] mixed (by kernel_rfl) ?_
      refine sd (by omega) ?_
      refine ld .here (au.fT _ _ (by omega)) ?_
      refine XO.v (V.shl rfl rfl (by omega) _ (vr (by omega))) rfl (gO ?_)
      refine XO.v (V.bits rfl rfl rfl (BB.pQ _ _) (lv (by omega)) rfl) rfl (gO ?_)
      refine sd (by omega) ?_
      refine st .here (lJ _ x.1 _ (by omega) (BB.tJ x1 hxi x2)) rfl ?_
      refine XE.aK rfl rfl (ab .h1 rfl ?_)
      rw[←hfin,BB.pR his];exact⟨rfl,rfl⟩
     ·
      have h9:¬(((((x.1.eJ x.2).mask (x.1.ord x.2-1)) >>> (x.1.bD x.2).toNat)&&&1:Nat):Int)=0:=h5
      have hc:x.1.fk x.2:=by
       apply Classical.byContradiction
       intro q
       simp only[q,decide_false,Bool.false_eq_true,if_false]at hb
       omega
      obtain⟨j1,_,_,_,j5,j6⟩:=hx.ft x1 x2 hc
      refine rq [0,1,2,3,4,5,6,7,8,9,10,11,12] mixed (by kernel_rfl) ?_
      refine sd (by omega) ?_
      refine ld .here (au.fT _ _ (by omega)) ?_
      refine XO.v (V.shl rfl rfl (by omega) _ (vr (by omega))) rfl (gO ?_)
      refine XO.v (V.bits rfl rfl rfl (BB.pQ _ _) (lv (by omega)) rfl) rfl (gO ?_)
      refine sd (by omega) ?_
      refine st .here (lJ _ ((x.1.ft x.2).eJ (min x.2 (x.1.bD x.2))) _ (by omega) (hx.BU x1 hc)) rfl ?_
      refine XO.v (V.shl rfl rfl (by omega) _ (AY (by omega))) rfl (gO ?_)
      refine XO.v (V.Jr rfl rfl (z:=(min x.2 (x.1.bD x.2))) (by omega) (by omega) (by omega) rfl (by rw[xj];exact q2)) rfl (gO ?_)
      refine sd (by omega) ?_
      refine ag ((x.1.ft x.2,(min x.2 (x.1.bD x.2)))) ?_ ?_ (S3 rfl (Cu (by show x.1.ord x.2-1+1=(x.1.ft x.2).ord (min x.2 (x.1.bD x.2))-1;rw[j5];omega)) rfl) (fun _ hw=>XM.pick .h1 hw)
      ·
       (show(7-(x.1.ft x.2).ord (min x.2 (x.1.bD x.2))).toNat<(7-x.1.ord x.2).toNat;rw[j5];omega)
      ·
       refine⟨j1,by show 0<(x.1.ft x.2).ord (min x.2 (x.1.bD x.2));rw[j5];omega,j6,?_⟩
       show BB.fB (7-(x.1.ft x.2).ord (min x.2 (x.1.bD x.2))).toNat (x.1.ft x.2) (min x.2 (x.1.bD x.2))=_
       rw[←x3,j5,show(7-x.1.ord x.2).toNat=(7-(x.1.ord x.2+1)).toNat+1 from by omega,BB.fB,if_pos hc]
    ·
     have hx9:BB.fB (7-b.ord a).toNat (b.bare a) a=x.1:=by rw[←x3,show(7-x.1.ord x.2).toNat=0 from by omega];rfl
     have hfin:=hI.oB his
     rw[hx9]at hfin
     refine rq [0,1,2,3,4,5,6,7,8,9,10,11,12] mixed (by kernel_rfl) ?_
     refine sd (by omega) ?_
     refine ld .here (au.fT _ _ (by omega)) ?_
     refine XO.v (V.shl rfl rfl (by omega) _ (vr (by omega))) rfl (gO ?_)
     refine XO.v (V.bits rfl rfl rfl (BB.pQ _ _) (lv (by omega)) rfl) rfl (gO ?_)
     refine sd (by omega) ?_
     refine st .here (lJ _ x.1 _ (by omega) (BB.tJ x1 hxi x2)) rfl ?_
     refine XE.aK rfl rfl (ab .h1 rfl ?_)
     rw[←hfin,BB.pR his];exact⟨rfl,rfl⟩
end Go.X.Vm

namespace Go.X.Vm
open Go Go.Proofs Go.X
set_option maxRecDepth 20000
set_option maxHeartbeats 4000000
theorem CP:Spec Tryz.prog 98 [] [] (fun v H1=>∃ kb pb,v=ptr kb 0 0∧H1=[.cells kb 0 577 (bz pb VB.init.by_ VB.init.rf),.cells pb 0 71 (au VB.init.bb.bJ)]):=by
 refine Spec.go 4 [0] [] Tryz.func98 rfl rfl rfl ?_
 intro W
 refine ca (Ni) .nil ?_
 rintro _ _ ⟨pb,rfl,rfl⟩
 refine gO ?_
 refine XO.v (V.build (vs:= #[(0,ptr pb 0 0)]) rfl (v:=.agg (NH pb).toArray) (fun _=>by kernel_rfl)) rfl (gO ?_)
 refine XO.box (m:=577) (C:=bz pb VB.init.by_ VB.init.rf) rfl rfl (Lm _) rfl ?_
 intro kb
 refine gO ?_
 refine XE.aK rfl rfl (ab .h2 rfl ?_)
 exact⟨_,_,rfl,rfl⟩
theorem MZ(kb:Nat):Spec Tryz.prog 103 [ptr kb 0 0] [] (fun v H1=>∃ mb,v=ptr mb 0 0∧H1=[.cells mb 0 34 (bA kb none (runs MS.nil.aA).length 0 MS.nil.fr MS.nil.own),aR none 0 171 3 (runs MS.nil.aA).length (dy (runs MS.nil.aA))]):=by
 refine Spec.go 19 [0,2,3,4,8,9] [] Tryz.func103 rfl rfl rfl ?_
 intro W
 refine XO.v (V.build (vs:= #[(0,ptr kb 0 0)]) rfl (v:=.agg (Nu kb).toArray) (fun _=>by kernel_rfl)) rfl (gO ?_)
 refine XO.box (m:=34) (C:=bA kb none 0 0 (JE 0) (fun _=>false)) rfl rfl (fun i hi=>(FY _ i hi).trans (congrFun (kA fun i h0 h1=>⟨by unfold JE;first | rw[if_neg (by omega)] | rw[if_pos (by omega)],rfl⟩) i)) rfl ?_
 intro mb
 refine gO ?_
 refine lp (σ:=Int) (fun i=>(16-i).toNat) (fun i=>0≤i∧i≤16) (fun i=>[(8,.int .i64 i),(3,ptr mb 0 0)]) (fun i=>XM W (bR []) [.cells mb 0 34 (bA kb none 0 0 (JE i) (fun _=>false))]) (0) ?_ (S2 rfl rfl) (fun _ hw=>XM.pick .h1 hw) ?_
 ·
  omega
 intro i hi
 refine gC ?_
 refine cd rfl ?_ ?_<;>intro h1
 ·
  refine sd (by omega) ?_
  refine st .here (bA.nZ _ _ _ _ _ _ _ (by omega) _) rfl ?_
  refine sd (by omega) ?_
  refine ag (i+1) ?_ ?_ (S2 rfl rfl) (fun _ hw=>by rw[←EF hi.1];exact XM.pick .h1 hw)
  ·
   (first | omega | (simp;done) | (simp;omega))
  ·
   (first | omega | (simp;done) | (simp;omega))
 ·
  refine XR.dG 171 3 ?_
  refine XE.aK rfl rfl (ab (.cons (.there .here) .h1) rfl ?_)
  have e:i=16:=by omega
  subst e
  rw[DQ]
  exact⟨_,rfl,by rw[show bA kb none 0 0 (JE 16) (fun _=>false)=bA kb none 0 0 (fun _=>0) (fun _=>false)from kA (fun i h0 h1=>⟨by unfold JE;rw[if_pos (by omega)],rfl⟩)];rfl⟩
theorem Kt(a n:Int):Spec Tryz.prog 177 [.int .i64 a,.int .i64 n] [] (fun x H1=>x=bH 102 (if fw a n then 1 else 0)∧H1=[]):=by
 refine Spec.go 22 [0,1,4,20] [] Tryz.func177 rfl rfl rfl ?_
 intro W
 refine sp 7 rfl ?_ ?_<;>intro h1
 ·
  refine XE.aK rfl rfl (ab .nil rfl ?_)
  first | (rw[if_neg (by unfold fw;omega)];exact⟨rfl,rfl⟩) | (rw[if_pos (by unfold fw;omega)];exact⟨rfl,rfl⟩)
 ·
  refine sp 11 rfl ?_ ?_<;>intro h2
  ·
   refine XE.aK rfl rfl (ab .nil rfl ?_)
   first | (rw[if_neg (by unfold fw;omega)];exact⟨rfl,rfl⟩) | (rw[if_pos (by unfold fw;omega)];exact⟨rfl,rfl⟩)
  ·
   refine sp 15 rfl ?_ ?_<;>intro h3
   ·
    refine XE.aK rfl rfl (ab .nil rfl ?_)
    first | (rw[if_neg (by unfold fw;omega)];exact⟨rfl,rfl⟩) | (rw[if_pos (by unfold fw;omega)];exact⟨rfl,rfl⟩)
   ·
    refine sd (by omega) ?_
    refine cd rfl ?_ ?_<;>intro h4
    ·
     refine XE.aK rfl rfl (ab .nil rfl ?_)
     first | (rw[if_neg (by unfold fw;omega)];exact⟨rfl,rfl⟩) | (rw[if_pos (by unfold fw;omega)];exact⟨rfl,rfl⟩)
    ·
     refine XE.aK rfl rfl (ab .nil rfl ?_)
     first | (rw[if_neg (by unfold fw;omega)];exact⟨rfl,rfl⟩) | (rw[if_pos (by unfold fw;omega)];exact⟨rfl,rfl⟩)
end Go.X.Vm

namespace Go.X.Vm
open Go Go.X
set_option maxRecDepth 20000
set_option maxHeartbeats 4000000
structure RB where
 f:Fin 17
 n:Int
 w:Bool
instance:Inhabited RB:=⟨⟨0,0,false⟩⟩
def RB.rg(x:RB):RG:=⟨((x.f:Nat):Int),x.n,x.w⟩
def RG.rb(r:RG):RB:=⟨⟨r.fr.toNat%17,Nat.mod_lt _ (by omega)⟩,r.n,r.w⟩
theorem RG.Na{r:RG}(h:0≤r.fr∧r.fr≤16):r.rb.rg=r:=by
 cases r with
 | mk f n w=>
  simp only[RG.rb,RB.rg,RG.mk.injEq,and_true]
  simp only at h
  have:f.toNat%17=f.toNat:=Nat.mod_eq_of_lt (by omega)
  simp only[this];omega
def cW(x:RB):List Value:=[.int .i64 ((x.f:Nat):Int),.int .i64 x.n,.bool x.w]
def BL(x y:RB):Int:=((x.f:Nat):Int)-((y.f:Nat):Int)
theorem p9(x y:RB):Go.Proofs.ltOf BL x y=decide ((x.f:Nat)<(y.f:Nat)):=by
 unfold Go.Proofs.ltOf BL
 congr 1
 apply propext
 omega
theorem Dz:Sort.SWO (Go.Proofs.ltOf BL) where
 irrefl x:=by rw[p9];simp
 trans x y z h1 h2:=by rw[p9]at*;simp only[decide_eq_true_eq]at*;omega
 ntrans x y z h1 h2:=by rw[p9]at*;simp only[decide_eq_false_iff_not]at*;omega
theorem GF(x:RB):(cW x).length=3:=rfl
theorem D2(x:RB):∀ v∈cW x,v.oneCell'=true:=fun v hv=>by
 simp[cW]at hv
 rcases hv with rfl | rfl | rfl<;>rfl
theorem zK(d:Array RB):(Sort.flatK cW 3 d).toList=bn (dy (d.toList.map RB.rg)) (d.size*3):=by
 unfold Sort.flatK bn
 rw[Array.toList_map,Array.toList_range]
 apply List.map_congr_left
 intro t ht
 have ht2:t<d.size*3:=by simpa using ht
 have e:(d.toList.map RB.rg).getD (t/3) RG.nil=(d[t/3]!).rg:=by
  have:t/3<d.size:=by omega
  simp[this]
 unfold dy
 rw[e]
 have h:t%3=0∨t%3=1∨t%3=2:=by omega
 rcases h with h | h | h<;>rw[h]<;>rfl
theorem vv{P:Program}{ρ:Shelf.Ren}(L:Go.Proofs.SlLaysF0.n6 P ρ)(aE:∀ w,(isAgg (ρ.t 24)).run P w= .ok true w)(zE:∀ w,(Go.sizeOf (ρ.t 24)).run P w= .ok 3 w)(gcl:Nat)(eg:∀ args w,(callFunc gcl args).run P w= .ok (.enter gcl args) w)(hc:Iz P gcl cW BL)(p:Option Addr)(c:Nat)(e:TypeId)(l:List RG)(hl:∀ r∈l,0≤r.fr∧r.fr≤16)(hlt:l.length≤100000):Spec P (ρ.f 6) [.slice p l.length c,.func (.func gcl) #[] #[]] [aR p c e 3 l.length (dy l)] (fun v H1=>v= .tuple #[]∧∃ l':List RG,l.Perm l'∧l'.Pairwise (fun x y=>x.fr≤y.fr)∧H1=[aR p c e 3 l.length (dy l')]):=by
 have hmap:((l.map RG.rb).map RB.rg)=l:=by
  rw[List.map_map]
  conv=>rhs;rw[←List.map_id l]
  apply List.map_congr_left
  intro r hr
  exact RG.Na (hl r hr)
 have h:=Ff L 3 aE zE cW GF D2 BL Dz gcl eg hc p l.length c e (l.map RG.rb).toArray (by simp) (by omega)
 rw[zK]at h
 simp only[List.toList_toArray,hmap,List.size_toArray,List.length_map]at h
 intro w hw
 refine(h w hw).mono ?_
 rintro ee w' ⟨v,H',he,⟨hv,d',hp,hs,hH⟩,h3,h4⟩
 have hsz:d'.size=l.length:=by rw[hp.1];simp
 have hpm:d'.toList.Perm (l.map RG.rb):=by
  have h2:=hp.2.2
  have e1:d'.extract 0 l.length=d':=by rw[←hsz];exact Array.extract_size
  have e2:(l.map RG.rb).toArray.extract 0 l.length=(l.map RG.rb).toArray:=by
   have:l.length=(l.map RG.rb).toArray.size:=by simp
   rw[this];exact Array.extract_size
  rw[e1,e2]at h2
  simpa using h2
 refine⟨v,H',he,⟨hv,d'.toList.map RB.rg,?_,?_,?_⟩,h3,h4⟩
 ·have:=hpm.map RB.rg
  rw[hmap]at this
  exact this.symm
 ·rw[List.pairwise_map,List.pairwise_iff_getElem]
  intro i j hi hj hij
  have hj':j<d'.size:=by simpa using hj
  have hi':i<d'.size:=by omega
  have:=hs i j (Nat.zero_le _) hij (by omega)
  rw[p9]at this
  simp only[decide_eq_false_iff_not]at this
  simp only[hi',hj',getElem!_pos]at this
  simp only[Array.getElem_toList,RB.rg]
  omega
 ·rw[hH,zK,hsz]
end Go.X.Vm


namespace Go.Proofs
open Go.Shelf
def wH:Go.Shelf.Ren:=⟨fun | 6=>219 | 15=>242 | 14=>241 | 28=>262 | 29=>263 | 20=>254 | 21=>255 | 22=>256 | 23=>257 | 24=>258 | 25=>259 | 26=>260 | 27=>261 | 46=>272 | 47=>273 | 48=>274 | 49=>275 | 50=>276 | 57=>283 | n=>n,fun | 22=>140 | 24=>171 | 25=>250 | 3=>3 | 39=>258 | 0=>0 | 53=>257 | 55=>29 | 4=>4 | 46=>283 | 45=>282 | 50=>118 | 5=>5 | 9=>9 | 66=>294 | 70=>232 | 76=>302 | 77=>303 | n=>n,fun | n=>n⟩
theorem Hb:Go.Proofs.SlLaysF0.n6 Tryz.prog wH:= {
 mixed:=by kernel_rfl
 f6:=⟨Tryz.f219.name,by decide,Tryz.func219.trans (congrArg some (by kernel_rfl))⟩
 f14:=⟨Tryz.f241.name,by decide,Tryz.func241.trans (congrArg some (by kernel_rfl))⟩
 f15:=Tryz.func242.trans (congrArg some (by kernel_rfl))
 f20:=⟨Tryz.f254.name,by decide,Tryz.func254.trans (congrArg some (by kernel_rfl))⟩
 f21:=⟨Tryz.f255.name,by decide,Tryz.func255.trans (congrArg some (by kernel_rfl))⟩
 f22:=⟨Tryz.f256.name,by decide,Tryz.func256.trans (congrArg some (by kernel_rfl))⟩
 f23:=⟨Tryz.f257.name,by decide,Tryz.func257.trans (congrArg some (by kernel_rfl))⟩
 f24:=⟨Tryz.f258.name,by decide,Tryz.func258.trans (congrArg some (by kernel_rfl))⟩
 f25:=⟨Tryz.f259.name,by decide,Tryz.func259.trans (congrArg some (by kernel_rfl))⟩
 f26:=⟨Tryz.f260.name,by decide,Tryz.func260.trans (congrArg some (by kernel_rfl))⟩
 f27:=⟨Tryz.f261.name,by decide,Tryz.func261.trans (congrArg some (by kernel_rfl))⟩
 f28:=Tryz.func262.trans (congrArg some (by kernel_rfl))
 f29:=Tryz.func263.trans (congrArg some (by kernel_rfl))
 f46:=⟨Tryz.f272.name,by decide,Tryz.func272.trans (congrArg some (by kernel_rfl))⟩
 f47:=Tryz.func273.trans (congrArg some (by kernel_rfl))
 f48:=Tryz.func274.trans (congrArg some (by kernel_rfl))
 f49:=⟨Tryz.f275.name,by decide,Tryz.func275.trans (congrArg some (by kernel_rfl))⟩
 f50:=⟨Tryz.f276.name,by decide,Tryz.func276.trans (congrArg some (by kernel_rfl))⟩
 f57:=⟨Tryz.f283.name,by decide,Tryz.func283.trans (congrArg some (by kernel_rfl))⟩
 t0:=Tryz.underlying0
 a0:=Tryz.isAgg0
 z0:=Tryz.sizeOf0
 v0:=Tryz.zeroValue0
 t3:=Tryz.underlying3
 a3:=Tryz.isAgg3
 z3:=Tryz.sizeOf3
 v3:=Tryz.zeroValue3
 t4:=Tryz.underlying4
 a4:=Tryz.isAgg4
 z4:=Tryz.sizeOf4
 v4:=Tryz.zeroValue4
 t5:=Tryz.underlying5
 a5:=Tryz.isAgg5
 z5:=Tryz.sizeOf5
 v5:=Tryz.zeroValue5
 t9:=Tryz.underlying9
 a9:=Tryz.isAgg9
 z9:=Tryz.sizeOf9
 v9:=Tryz.zeroValue9
 t22:=Tryz.underlying140
 a22:=Tryz.isAgg140
 z22:=Tryz.sizeOf140
 v22:=Tryz.zeroValue140
 t25:=Tryz.underlying250
 a25:=Tryz.isAgg250
 z25:=Tryz.sizeOf250
 v25:=Tryz.zeroValue250
 t39:=Tryz.underlying258
 a39:=Tryz.isAgg258
 z39:=Tryz.sizeOf258
 v39:=Tryz.zeroValue258
 t45:=Tryz.underlying282
 a45:=Tryz.isAgg282
 z45:=Tryz.sizeOf282
 v45:=Tryz.zeroValue282
 t46:=Tryz.underlying283
 a46:=Tryz.isAgg283
 z46:=Tryz.sizeOf283
 v46:=Tryz.zeroValue283
 t50:=Tryz.underlying118
 a50:=Tryz.isAgg118
 z50:=Tryz.sizeOf118
 v50:=Tryz.zeroValue118
 t53:=Tryz.underlying257
 a53:=Tryz.isAgg257
 z53:=Tryz.sizeOf257
 v53:=Tryz.zeroValue257
 t55:=Tryz.underlying29
 a55:=Tryz.isAgg29
 z55:=Tryz.sizeOf29
 v55:=Tryz.zeroValue29
 t66:=Tryz.underlying294
 a66:=Tryz.isAgg294
 z66:=Tryz.sizeOf294
 v66:=Tryz.zeroValue294
 t70:=Tryz.underlying232
 a70:=Tryz.isAgg232
 z70:=Tryz.sizeOf232
 v70:=Tryz.zeroValue232
 t76:=Tryz.underlying302
 a76:=Tryz.isAgg302
 z76:=Tryz.sizeOf302
 v76:=Tryz.zeroValue302
 t77:=Tryz.underlying303
 a77:=Tryz.isAgg303
 z77:=Tryz.sizeOf303
 v77:=Tryz.zeroValue303}
end Go.Proofs

namespace Go.X.Vm
open Go Go.Proofs Go.X
set_option maxRecDepth 20000
set_option maxHeartbeats 4000000
theorem Lr:jF Tryz.prog 142=true:=by kernel_rfl
theorem iU:kV Tryz.prog 171 3=true:=by kernel_rfl
theorem jd:fY Tryz.prog 3=true:=by kernel_rfl
theorem Es:de Tryz.prog 142=some 2:=by kernel_rfl
theorem Nj:Iz Tryz.prog 220 cW BL:=fun x y w=>by
 refine enter (ps:=[2,3,4]) (cs:=[]) Tryz.func220 rfl rfl ?_ (M:=fun w'=>w'=w) rfl
 refine gC (K:=[]) (Q0:=bodyPost _ _ _) ?_
 refine XO.M5 rfl rfl ?_
 refine XO.M5 rfl rfl ?_
 refine gO ?_
 refine oL ?_
 refine XO.l (V.JK (v:=.int .i64 ((x.f:Nat):Int)) rfl (fun w' hw=>by rw[hw];exact HD rfl) jd) rfl (gO ?_)
 refine oL ?_
 refine XO.l (V.JK (v:=.int .i64 ((y.f:Nat):Int)) rfl (fun w' hw=>by rw[hw];exact DU rfl) jd) rfl (gO ?_)
 refine sd (by have:=x.f.isLt;have:=y.f.isLt;omega) ?_
 exact XE.aK rfl rfl (fun w' hw=>⟨rfl,_,hw.trans (FK _ _ _)⟩)
theorem LV(p:Option Addr)(c:Nat)(l:List RG)(hl:∀ r∈l,0≤r.fr∧r.fr≤16)(hlt:l.length≤100000):Spec Tryz.prog 219 [.slice p l.length c,.func (.func 220) #[] #[]] [aR p c 171 3 l.length (dy l)] (fun v H1=>v= .tuple #[]∧∃ l':List RG,l.Perm l'∧l'.Pairwise (fun x y=>x.fr≤y.fr)∧H1=[aR p c 171 3 l.length (dy l')]):=
 vv Hb Tryz.isAgg171 Tryz.sizeOf171 220 (Go.Proofs.enters_of Tryz.func220 (by kernel_rfl) rfl) Nj p c 171 l hl hlt
theorem Hh(p:Option Addr)(c:Nat)(l:List RG)(hn:l.length≤100):Spec Tryz.prog 124 [.slice p l.length c] [aR p c 171 3 l.length (dy l)] (fun v H1=>∃ p1 c1,v= .slice p1 l.length c1∧H1=[aR p c 171 3 l.length (dy l),aR p1 c1 171 3 l.length (dy l)]):=by
 refine Spec.go 8 [0,2,4] [] Tryz.func124 rfl rfl rfl ?_
 intro W
 refine XO.v (V.rm rfl Tryz.underlying140 rfl) rfl (gO ?_)
 refine cd rfl ?_ ?_<;>intro h1
 ·
  subst h1
  refine XR.La .here ?_
  intro hn0
  refine XR.dG 171 3 ?_
  refine XE.aK rfl rfl (ab (.cons (.there .here) .h1) rfl ?_)
  exact⟨none,0,by rw[hn0];rfl,by rw[hn0];rfl⟩
 ·
  refine XR.rowAt .here h1 ?_
  intro g hg
  subst hg
  refine XO.EL (e:=171) (vs:= #[]) (A:= #[]) (sz:=3) rfl (fun _=>by kernel_rfl) rfl (by omega) rfl ?_
  intro b1
  refine gO ?_
  refine XO.B5 (e:=171) rfl rfl Tryz.underlying140 iU .here (.there .here) BX (by omega) rfl ?_
  intro p1 c1
  refine gO ?_
  refine XE.aK rfl rfl (ab (.cons (.there .here) .h1) rfl ?_)
  exact⟨p1,c1,by simp only[Nat.zero_add];rfl,by simp only[Nat.zero_add,List.nil_append]⟩
theorem q9(kb mb:Nat)(p:Option Addr)(c:Nat)(m:MS)(hm:m.Ok):Spec Tryz.prog 50 [ptr mb 0 0] [.cells mb 0 34 (bA kb p (runs m.aA).length c m.fr m.own)] (fun v H1=>v= .int .i64 m.res∧H1=[.cells mb 0 34 (bA kb p (runs m.aA).length c m.fr m.own)]):=by
 refine Spec.go 20 [0,2,3,5,9,10,11,15] [] Tryz.func50 rfl rfl rfl ?_
 intro W
 refine mQ .here (zv _ _ _ _ _ _) ?_
 refine lp (σ:=Int) (fun i=>(16-i).toNat) (fun i=>0≤i∧i≤16) (fun i=>[(10,.int .i64 i),(3,.int .i64 (sJ m.fr i.toNat)),(9,.agg (Jd m.fr m.own))]) (fun i=>XM W (bR [.cells mb 0 34 (bA kb p (runs m.aA).length c m.fr m.own)]) [.cells mb 0 34 (bA kb p (runs m.aA).length c m.fr m.own)]) (0) ?_ (S3 rfl rfl rfl) (fun _ hw=>XM.pick .h1 hw) ?_
 ·
  omega
 intro i hi
 have hlo:=hm.lo i
 have hrs:=Al m.fr i.toNat
 refine gC ?_
 refine cd rfl ?_ ?_<;>intro h1
 ·
  refine XO.v (V.Bs rfl rfl Tryz.underlying143 Es Lr (by omega) (Li (by omega))) rfl (gO ?_)
  refine XO.cY (z:=.agg #[.int .i64 0,.bool false]) (m:=2) (C:=Bc 0 false) (by kernel_rfl) rfl (Bc.box _ _) rfl ?_
  intro pb
  refine gO ?_
  refine jV .here (Bc.st _ _ _ _) rfl ⟨rfl,rfl⟩ ?_
  refine ld .here (Bc.f _ _) ?_
  refine cd rfl ?_ ?_<;>intro h2
  ·
   refine sd (by omega) ?_
   refine sd (by omega) ?_
   refine ag (i+1) ?_ ?_ (S3 rfl (Cu (by rw[tY _ hi.1,if_pos (by omega)])) rfl) (fun _ hw=>XM.pick (.cons (.there .here) .nil) hw)
   ·
    (first | omega | (simp;done) | (simp;omega))
   ·
    (first | omega | (simp;done) | (simp;omega))
  ·
   refine sd (by omega) ?_
   refine ag (i+1) ?_ ?_ (S3 rfl (Cu (by rw[tY _ hi.1,if_neg (by omega)];omega)) rfl) (fun _ hw=>XM.pick (.cons (.there .here) .nil) hw)
   ·
    (first | omega | (simp;done) | (simp;omega))
   ·
    (first | omega | (simp;done) | (simp;omega))
 ·
  refine XE.aK rfl rfl (ab .h1 rfl ?_)
  have e:i=16:=by omega
  subst e
  exact⟨rfl,rfl⟩
end Go.X.Vm
