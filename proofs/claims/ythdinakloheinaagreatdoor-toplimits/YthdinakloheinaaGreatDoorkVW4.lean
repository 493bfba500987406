import Derived.Test.YthdinakloheinaaGreatDoorkGW2
import Derived.Shelf.SlGeneric
import Derived.Ground.SlsfProg
set_option linter.all false
namespace Go.X.Vm
open Go Go.Proofs Go.X
set_option maxRecDepth 20000
set_option maxHeartbeats 4000000
def ac3:vP Tryz.prog 299=some (64,1):=kq
def aiv(x t:Nat)(hx:x<18446744073709551616)(ht:x.testBit t=true)(hl:∀ j,j<t->x.testBit j=false)(RO:t<64):Spec Tryz.prog 264 [.int .u64 (x:Int)] [.ro 1 0 64 fQ] (fun v H1=>v=iI (t:Int)/\H1=[]):=by
 have rI:0<x:=by
  grind
 obtain⟨z1,z2,z3,z4,z5⟩:=Um t RO;refine Spec.go 14 [0,2,4] [] Tryz.func264 fun W=> ?_;refine Hb rfl eW (XO.v (V.neg rfl _ (Yk ⟨rI,hx⟩)) rfl (gO ?_));refine XO.v (V.bits (r:=2^t) rfl rfl rfl hx (Nat.sub_lt dq rI) (congrArg some (NU (w:=64) ht hl hx RO))) rfl (gO ?_);refine XO.v (V.mul rfl rfl _ z1) rfl (gO ?_);refine XO.v (V.shr rfl rfl og _ z2) rfl (gO ?_);refine XO.v (Fw rfl rfl ac3 og) rfl (gO ?_);refine XG .aa (Mc RO) (XO.v (oI rfl Tryz.underlying5 Tryz.underlying3 _ z4) rfl (gO ?_));refine bL .nil ?_;exact⟨rfl,rfl⟩
def afZ:Spec Tryz.prog 174 [] [] (fun v H1=>∃ b,v=ay b 0 0/\H1=[.cells b 0 71 (bK BB.cP.fe)]):=by
 refine Spec.go 9 [0,1] [] Tryz.func174 fun W=> ?_;refine XO.v (V.build (vs:= #[]) rfl (v:=.agg #[.int .u64 0,.int .u64 0,.int .u64 0,.int .u64 0,.int .u64 0,.int .u64 0,.int .u64 0,iI 0,iI 0,iI 0,iI 0,iI 0,iI 0,iI 0,iI 0,iI 0,iI 0,iI 0,iI 0,iI 0,iI 0,iI 0,iI 0,iI 0,iI 0,iI 0,iI 0,iI 0,iI 0,iI 0,iI 0,iI 0,iI 0,iI 0,iI 0,iI 0,iI 0,iI 0,iI 0,iI 0,iI 0,iI 0,iI 0,iI 0,iI 0,iI 0,iI 0,iI 0,iI 0,iI 0,iI 0,iI 0,iI 0,iI 0,iI 0,iI 0,iI 0,iI 0,iI 0,iI 0,iI 0,iI 0,iI 0,iI 0,iI 0,iI 0,iI 0,iI 0,iI 0,iI 0,iI 0]) fun _=>kq) rfl (gO ?_);refine XO.box (m:=71) (C:=bK ⟨BB.dB,fun _=>0⟩) rfl rfl Aa rfl ?_;intro bs;refine gO ?_;refine sd (st .aa (oM _ BB.cP 6 og (v:=1) ⟨yj.1.symm,fun m h0 h1 h2=>by rw[yj.2 m h0 h1 h2];exact(ym m h0 h1).symm⟩) rfl (aM rfl rfl (ah .h1 rfl ?_)));exact⟨_,rfl,rfl⟩
def ac4(p o:Nat)(b:BB)(hI:b.Inv)(q:Int):Spec Tryz.prog 245 [ay p o 0,iI q] [.cells p o 71 (bK b.fe),.ro 1 0 64 fQ] (fun v H1=>v= .tuple #[iI (b.take q).1,ax 102 (b.take q).2.1]/\H1=[.cells p o 71 (bK (b.take q).2.2.fe)]):=by
 refine Spec.go 79 [0,1,4,5,6,7,13,26,30,53] [] Tryz.func245 fun W=> ?_;refine sp 10 rfl ?_ ?_<;>intro h1
 ·refine er .h1 ?_;rw[qn og];exact⟨rfl,rfl⟩
 ·refine cd ?_ ?_<;>intro h2
  ·refine er .h1 ?_;rw[qn og];exact⟨rfl,rfl⟩
  ·refine lp (σ:=Int) (fun k=>(7-k).toNat) (fun k=>(q<=k/\k<=7)/\∀ j:Int,q<=j->j<k->b.gX j=0) (fun k=>[(6,iI k),(0,ay p o 0),(1,iI q)]) (fun k=>XM W (bX [.cells p o 71 (bK b.fe),.ro 1 0 64 fQ]) [.cells p o 71 (bK b.fe),.ro 1 0 64 fQ]) (q) ?_ S3 (xq (pz 2)) ?_
   ·grind
   intro k hk;obtain⟨hk,hkz⟩:=hk;refine gC ?_;refine sp 18 rfl ?_ ?_<;>intro h3
   ·refine sd (ld .aa (dM _ _) ?_);refine cd ?_ ?_<;>intro h4
    ·have hz:((b.gX k:Nat):Int)=0:=h4;refine sd (ag (k+1) ?_ ?_ S3 (xq (pz 2)));all_goals grind
    ·have hz:¬((b.gX k:Nat):Int)=0:=h4;refine cd ?_ ?_<;>intro h5
     ·refine er .h1 ?_;omega
     ·have hkm:¬b.gX k=0:=og;obtain⟨t,ht,hl⟩:=Cw hkm;obtain⟨alC,RO,W4⟩:=Bg ht hl;have W4:=(mQ og).1 W4;have hpk:=Hu (b:=b) og (k:=k) ⟨hk.1,og⟩ hkz ht hl;have hhm:=Hw (b:=b) (k:=k) og RO W4.1 W4.2;refine sd (ld .aa (dM _ _) ?_);refine IE 0 (aiv (b.gX k) t (lF _ _) ht hl RO) (pk [1]) rfl ?_;refine rq [0,1,2,3,4,5,6,7,8,9,10,11,12] mixed (sd (ld (.ao .aa) (dM _ _) (XO.v (V.shl rfl rfl og _ (yi)) rfl (gO ?_))));refine XO.v (V.bits rfl rfl rfl (lF _ _) (iZ og) rfl) rfl (gO ?_);refine sd (st (.ao .aa) (oM _ (b.je t) _ og hhm) rfl ?_);refine lp (σ:=BB) (fun x=>(x.cJ t-(q+1)).toNat) (fun x=>x.Inv/\q+1<=x.cJ t/\x.cJ t<=k+1/\x.tk t=true/\BB.jK (x.cJ t-(q+1)).toNat x t=BB.jK (k-q).toNat (b.je t) t) (fun x=>[(6,iI (x.cJ t-1)),(0,ay p o 0),(1,iI q),(7,iI (t:Int))]) (fun x=>XM W (bX [.cells p o 71 (bK b.fe),.ro 1 0 64 fQ]) [.cells p o 71 (bK ⟨x,b.ew⟩)]) (b.je t) ?_ (S4 (LJ (show k=b.cJ t-1 by omega)) rfl rfl rfl) (xq (pk [1])) ?_
      ·exact⟨hI.je og,by show q+1<=b.cJ t;omega,by show b.cJ t<=k+1;omega,aj _ _ _,by rw[show(b.je t).cJ t=k+1 from W4.1];congr 1;omega⟩
      intro x hx;obtain⟨hx,x1,x2,x3,x4⟩:=hx;refine gC ?_;refine cd ?_ ?_<;>intro h6
      ·obtain⟨s1,s2,s3,s4⟩:=hx.split (a:=t) og;have hsm:=hx.Ml (a:=t) og x3;have hpp:=C8 (x.cJ t-2);have hrx:=hx.nV t;refine oV (XO.v (V.sub rfl rfl (x.cJ t-2) (by rw[show x.cJ t-1-1=x.cJ t-2 from og];exact IntWalk.i64_in _ og)) rfl (gO ?_));refine rq [0,1,2,3,4,5,6,7,8,9,10,11,12,13,14,15] mixed (sd (ld .aa (dM _ _) (XO.v (V.shl rfl rfl og _ (Hz)) rfl (gO ?_))));refine sd (XO.v (V.shl rfl rfl og _ (yi)) rfl (gO ?_));refine XO.v (V.bits rfl rfl rfl (lF _ _) (iZ og) rfl) rfl (gO ?_);refine sd (st .aa (oM _ (x.split t) _ og hsm) rfl (ag (x.split t) ?_ ?_ (S4 (LJ (by rw[s4];omega)) rfl rfl rfl) (xq .h1)))
       ·omega
       ·refine⟨s1,by rw[s4];omega,by rw[s4];omega,x3,?_⟩;rw[<-x4,s4,show(x.cJ t-(q+1)).toNat=(x.cJ t-1-(q+1)).toNat+1 from og];rfl
      ·have hn:(x.cJ t-(q+1)).toNat=0:=og;rw[hn]at x4;have x5:x=BB.jK ((k.toNat:Int)-q).toNat (b.je t) t:=by rw[show((k.toNat:Int)-q).toNat=(k-q).toNat from og];exact x4
       have Lb:=hI.F0 (o:=q) og hpk;rw[<-x5]at Lb;refine sd (sd (st .aa (ug _ _ og _) rfl (aW rfl rfl rfl (ah .h1 rfl ?_))));rw[<-Lb,BB.l7 og hpk];exact⟨rfl,rfl⟩
   ·refine cd ?_ ?_<;>intro h7
    ·refine er .h1 ?_;rw[yf og (Hv fun j h1 h2=>hkz j h1 og)];exact⟨rfl,rfl⟩
    ·have hkm:¬b.gX k=0:=og;omega
def V6(p o:Nat)(b:BB)(hI:b.Inv)(a:Int):Spec Tryz.prog 218 [ay p o 0,iI a] [.cells p o 71 (bK b.fe)] (fun v H1=>v=ax 102 (b.sj a).1/\H1=[.cells p o 71 (bK (b.sj a).2.fe)]):=by
 refine Spec.go 80 [0,1,4,5,6,12,20,35,49] [] Tryz.func218 fun W=> ?_;refine sp 9 rfl ?_ ?_<;>intro h1
 ·refine bL .h1 ?_;have wz:=BB.qS (b:=b) (a:=a) og;rw[pY og,wz];exact⟨rfl,rfl⟩
 ·refine cd ?_ ?_<;>intro h2
  ·refine bL .h1 ?_;have wz:=BB.qS (b:=b) (a:=a) og;rw[pY og,wz];exact⟨rfl,rfl⟩
  ·refine sd ?_;refine ld .aa (l8 _ _) ?_;refine cd ?_ ?_<;>intro h3
   ·have hu:b.ew a=0:=h3;have wz:b.is a=2:=BB.xU og ((hI.F3 a).1 hu);refine bL .h1 ?_;rw[pY og,wz];exact⟨rfl,rfl⟩
   ·have hu:¬b.ew a=0:=h3;obtain⟨ht,ho⟩:=(hI.F3 a).2 hu;have RP:=hI.tk a ht;have MF:=hI.nV a;have wz:b.is a=0:=BB.CS og ht;refine sd ?_;refine ld .aa (l8 _ _) ?_;refine oV ?_;refine XO.v (V.sub rfl rfl (b.cJ a-1) (by rw[show b.fe.u a=b.cJ a from ho];exact IntWalk.i64_in _ og)) rfl (gO ?_);refine sd ?_;refine st .aa (ug _ _ og _) rfl ?_;refine lp (σ:=BB×Int) (fun x=>(7-x.1.cJ x.2).toNat) (fun x=>x.1.Inv/\0<x.1.cJ x.2/\x.1.tk x.2=false/\BB.la (7-x.1.cJ x.2).toNat x.1 x.2=BB.la (7-b.cJ a).toNat (b.bare a) a) (fun x=>[(1,iI x.2),(5,iI (x.1.cJ x.2-1)),(0,ay p o 0)]) (fun x=>XM W (bX [.cells p o 71 (bK b.fe)]) [.cells p o 71 (bK ⟨x.1.je x.2,(ad b.ew a 0)⟩)]) ((b.bare a,a)) ?_ S3 (fun w mw=>by
      have e:=Hy (b:=b) ht
      show XM _ _ (.cells p o 71 (bK ⟨(b.bare a).je a,ad b.ew a 0⟩)::_) w
      rw[e];exact XM.pick .h1 mw) ?_
    ·exact⟨hI.bare a,RP,aj _ _ _,rfl⟩
    intro x hx;obtain⟨hx,x1,x2,x3⟩:=hx;have hxr:=hx.nV x.2;have hxi:=hx.zY x1;refine gC ?_;refine cd ?_ ?_<;>intro h4
    ·obtain⟨r1,r2,r3⟩:=hx.zZ x1 og;obtain⟨q1,q2⟩:=Ul (a:=x.2) (k:=x.1.cJ x.2-1) hxi og;have hjt:=hx.QA x1 og;have hb:=Mm ((x.1.je x.2).gX (x.1.cJ x.2-1)) (x.1.eS x.2).toNat;rw[hjt]at hb;have Ly:=afj (k:=x.1.cJ x.2-1) og;refine XO.v (V.shl rfl rfl og _ (Hz)) rfl (gO ?_);refine XO.v (NX rfl rfl (z:=(x.1.eS x.2)) og og og rfl (by rw[JV];exact q1)) rfl (gO ?_);refine sd ?_;refine ld .aa (dM _ _) ?_;refine XO.v (V.shr rfl rfl og _ (Yl og _)) rfl (gO ?_);refine XO.v (V.bits rfl rfl rfl (Nat.lt_of_le_of_lt (ab9 _ _) (lF _ _)) dq rfl) rfl (gO ?_);refine cd ?_ ?_<;>intro h5
     ·have h9:(((((x.1.je x.2).gX (x.1.cJ x.2-1)) >>> (x.1.eS x.2).toNat)&&&1:Nat):Int)=0:=h5;have hc:¬x.1.kG x.2:=fun q=>by
       simp only[q,decide_true,if_true]at hb;omega
      have hx9:BB.la (7-b.cJ a).toNat (b.bare a) a=x.1:=by rw[<-x3];exact E7 _ hc
      have Lb:=hI.z8 wz;rw[hx9]at Lb;refine rq [0,1,2,3,4,5,6,7,8,9,10,11,12] mixed ?_;refine sd ?_;refine ld .aa (dM _ _) ?_;refine XO.v (V.shl rfl rfl og _ (yi)) rfl (gO ?_);refine XO.v (V.bits rfl rfl rfl (lF _ _) (iZ og) rfl) rfl (gO ?_);refine sd ?_;refine st .aa (oM _ x.1 _ og (yh x1 hxi x2)) rfl ?_;refine bL .h1 ?_;rw[<-Lb,sn wz];exact⟨rfl,rfl⟩
     ·have h9:¬(((((x.1.je x.2).gX (x.1.cJ x.2-1)) >>> (x.1.eS x.2).toNat)&&&1:Nat):Int)=0:=h5;have hc:x.1.kG x.2:=by
       apply Classical.byContradiction;intro q;simp only[q,decide_false,Bool.false_eq_true,if_false]at hb;omega
      obtain⟨j1,_,_,_,j5,j6⟩:=hx.kj x1 x2 hc;refine rq [0,1,2,3,4,5,6,7,8,9,10,11,12] mixed ?_;refine sd ?_;refine ld .aa (dM _ _) ?_;refine XO.v (V.shl rfl rfl og _ (yi)) rfl (gO ?_);refine XO.v (V.bits rfl rfl rfl (lF _ _) (iZ og) rfl) rfl (gO ?_);refine sd ?_;refine st .aa (oM _ ((x.1.kj x.2).je (min x.2 (x.1.eS x.2))) _ og (hx.QB x1 hc)) rfl ?_;refine XO.v (V.shl rfl rfl og _ (Hz)) rfl (gO ?_);refine XO.v (NX rfl rfl (z:=(min x.2 (x.1.eS x.2))) og og og rfl (by rw[JV];exact q2)) rfl (gO ?_);refine sd ?_;refine ag ((x.1.kj x.2,(min x.2 (x.1.eS x.2)))) ?_ ?_ (S3 rfl (LJ (by show x.1.cJ x.2-1+1=(x.1.kj x.2).cJ (min x.2 (x.1.eS x.2))-1;rw[j5];omega)) rfl) (xq .h1)
      ·
       (show(7-(x.1.kj x.2).cJ (min x.2 (x.1.eS x.2))).toNat<(7-x.1.cJ x.2).toNat;rw[j5];omega)
      ·refine⟨j1,by show 0<(x.1.kj x.2).cJ (min x.2 (x.1.eS x.2));rw[j5];omega,j6,?_⟩;show BB.la (7-(x.1.kj x.2).cJ (min x.2 (x.1.eS x.2))).toNat (x.1.kj x.2) (min x.2 (x.1.eS x.2))=_;rw[<-x3,j5,show(7-x.1.cJ x.2).toNat=(7-(x.1.cJ x.2+1)).toNat+1 from og,BB.la,if_pos hc]
    ·have hx9:BB.la (7-b.cJ a).toNat (b.bare a) a=x.1:=by rw[<-x3,show(7-x.1.cJ x.2).toNat=0 from og];rfl
     have Lb:=hI.z8 wz;rw[hx9]at Lb;refine rq [0,1,2,3,4,5,6,7,8,9,10,11,12] mixed ?_;refine sd ?_;refine ld .aa (dM _ _) ?_;refine XO.v (V.shl rfl rfl og _ (yi)) rfl (gO ?_);refine XO.v (V.bits rfl rfl rfl (lF _ _) (iZ og) rfl) rfl (gO ?_);refine sd ?_;refine st .aa (oM _ x.1 _ og (yh x1 hxi x2)) rfl ?_;refine bL .h1 ?_;rw[<-Lb,sn wz];exact⟨rfl,rfl⟩
def RR:Spec Tryz.prog 98 [] [] (fun v H1=>∃ kb pb,v=ay kb 0 0/\H1=[.cells kb 0 577 (dI pb VB.cP.ij VB.cP.rf),.cells pb 0 71 (bK VB.cP.bb.fe)]):=by
 refine Spec.go 4 [0] [] Tryz.func98 fun W=> ?_;refine ca (afZ) .nil ?_;rintro _ _ ⟨pb,rfl,rfl⟩;apply gO;refine XO.v (V.build (vs:= #[(0,ay pb 0 0)]) rfl (v:=.agg (zKl pb).toArray) fun _=>kq) rfl (gO ?_);refine XO.box (m:=577) (C:=dI pb VB.cP.ij VB.cP.rf) rfl rfl (acb _) rfl ?_;intro kb;apply gO;refine bL (pz 2) ?_;exact⟨_,_,rfl,rfl⟩
def af0(kb:Nat):Spec Tryz.prog 103 [ay kb 0 0] [] (fun v H1=>∃ mb,v=ay mb 0 0/\H1=[.cells mb 0 34 (b7 kb none (ai MS.nil.az).length 0 MS.nil.fr MS.nil.bH),aL none 0 171 3 (ai MS.nil.az).length (fm (ai MS.nil.az))]):=by
 refine Spec.go 19 [0,2,3,4,8,9] [] Tryz.func103 fun W=> ?_;refine XO.v (V.build (vs:= #[(0,ay kb 0 0)]) rfl (v:=.agg (zNl kb).toArray) fun _=>kq) rfl (gO ?_);refine XO.box (m:=34) (C:=b7 kb none 0 0 (frI 0) fun _=>false) rfl rfl (fun i hi=>(Uy _ i hi).trans (congrFun (su fun i h0 h1=>⟨by unfold frI;first | rw[if_neg og] | rw[if_pos og],rfl⟩) i)) rfl ?_;intro mb;apply gO;refine lp (σ:=Int) (fun i=>(16-i).toNat) (fun i=>0<=i/\i<=16) (fun i=>[(8,iI i),(3,ay mb 0 0)]) (fun i=>XM W (bX []) [.cells mb 0 34 (b7 kb none 0 0 (frI i) fun _=>false)]) (0) ?_ S2 (xq .h1) ?_
 ·omega
 intro i hi;apply gC;refine cd ?_ ?_<;>intro h1
 ·refine sd (st .aa (pZ _ _ _ _ _ _ _ og _) rfl (sd (ag (i+1) ?_ ?_ S2 fun _ hw=>by rw[<-Uz hi.1];exact XM.pick .h1 hw)));all_goals omega
 ·refine XR.fH 171 3 (aM rfl rfl (ah (pk [1,0]) rfl ?_));have e:i=16:=og;subst e;rw[UA];exact⟨_,rfl,by rw[show b7 kb none 0 0 (frI 16) (fun _=>false)=b7 kb none 0 0 (fun _=>0) (fun _=>false)from su fun i h0 h1=>⟨by unfold frI;rw[if_pos og],rfl⟩];rfl⟩
def V7(kb pb:Nat)(v:VB)(hv:v.Ok):Spec Tryz.prog 230 [ay kb 0 0] [.cells kb 0 577 (dI pb v.ij v.rf),.cells pb 0 71 (bK v.bb.fe),.ro 1 0 64 fQ] (fun x H1=>x= .tuple #[iI v.take.1,ax 102 v.take.2.1]/\H1=[.cells kb 0 577 (dI pb v.take.2.2.ij v.take.2.2.rf),.cells pb 0 71 (bK v.take.2.2.bb.fe)]):=by
 refine Spec.go 29 [0,2,3,4,5,15] [] Tryz.func230 fun W=> ?_;apply ld .aa (dI.J1 _ _ _);refine IE 1 (ac4 _ _ _ hv.bb _) (pk [1,1]) rfl ?_;refine cd ?_ ?_<;>intro h1
 ·have vH:¬(v.bb.take 0).2.1=0:=h1;have hfl:=HD h1;refine er (pk [2,0]) ?_;rw[mT vH];exact⟨rfl,by rw[hfl]⟩
 ·have tv:(v.bb.take 0).2.1=0:=og;have hw:=(hv.bb.Dg tv).2.1;refine sd (st (.t2 .aa) (ma _ _ _ _ og _) rfl (XO.v (V.build (vs:= #[]) rfl (v:=.agg (Uv fun _=>0)) fun _=>kq) rfl (gO ?_)));refine sd (fW (.t2 .aa) (F8 _ _ _ _ _) rfl ⟨rfl,rfl⟩ (aW rfl rfl rfl (ah (pk [2,0]) rfl ?_)));rw[VB.l7 tv];exact⟨rfl,rfl⟩
def ac5(kb pb:Nat)(v:VB)(hv:v.Ok)(f:Int)(hf:0<=f/\f<64)(h1:1<=v.rf f):Spec Tryz.prog 179 [ay kb 0 0,iI f] [.cells kb 0 577 (dI pb v.ij v.rf),.cells pb 0 71 (bK v.bb.fe),.ro 1 0 64 fQ] (fun x H1=>x= .tuple #[]/\H1=[.cells kb 0 577 (dI pb (v.drop f).ij (v.drop f).rf),.cells pb 0 71 (bK (v.drop f).bb.fe)]):=by
 have hb:=hv.rf f;refine Spec.go 27 [0,1,20] [] Tryz.func179 fun W=> ?_;refine rq [0,1,2,3,4,5,6,7,8,9,10] mixed ?_;refine sd ?_;apply ld .aa (ja _ _ _ _);refine sd ?_;refine sd ?_;apply st .aa (ma _ _ _ _ og _) rfl;refine sd ?_;apply ld .aa (ja _ _ _ _);have e1:ad v.rf f (v.rf f-1) f=v.rf f-1:=aj _ _ _;refine cd ?_ ?_<;>intro h1
 ·apply ld .aa (dI.J1 _ _ _);refine cq (V6 _ _ _ hv.bb _) (pk [1]) ?_;refine cY rfl (ah (pk [1,0]) rfl ?_);grind [Af]
 ·refine cY rfl (ah (pz 2) rfl ?_);grind [Ag]
def Nt(a n:Int):Spec Tryz.prog 177 [iI a,iI n] [] (fun x H1=>x=ax 102 (if gM a n then 1 else 0)/\H1=[]):=by
 refine Spec.go 22 [0,1,4,20] [] Tryz.func177 fun W=> ?_;refine sp 7 rfl ?_ ?_<;>intro h1
 ·refine bL .nil ?_;first | (rw[if_neg (by unfold gM;omega)];exact⟨rfl,rfl⟩) | (rw[if_pos (by unfold gM;omega)];exact⟨rfl,rfl⟩)
 ·refine sp 11 rfl ?_ ?_<;>intro h2
  ·refine bL .nil ?_;first | (rw[if_neg (by unfold gM;omega)];exact⟨rfl,rfl⟩) | (rw[if_pos (by unfold gM;omega)];exact⟨rfl,rfl⟩)
  ·refine sp 15 rfl ?_ ?_<;>intro h3
   ·refine bL .nil ?_;first | (rw[if_neg (by unfold gM;omega)];exact⟨rfl,rfl⟩) | (rw[if_pos (by unfold gM;omega)];exact⟨rfl,rfl⟩)
   ·refine sd ?_;refine cd ?_ ?_<;>intro h4
    ·refine bL .nil ?_;first | (rw[if_neg (by unfold gM;omega)];exact⟨rfl,rfl⟩) | (rw[if_pos (by unfold gM;omega)];exact⟨rfl,rfl⟩)
    ·refine bL .nil ?_;first | (rw[if_neg (by unfold gM;omega)];exact⟨rfl,rfl⟩) | (rw[if_pos (by unfold gM;omega)];exact⟨rfl,rfl⟩)
end Go.X.Vm

namespace Go.X.Vm
open Go Go.X
set_option maxRecDepth 20000
set_option maxHeartbeats 4000000
structure RB where
 f:Fin 17
 n:Int
 w:Bool
instance:Inhabited RB:=⟨⟨0,0,false⟩⟩
def RB.rg(x:RB):RG:=⟨((x.f:Nat):Int),x.n,x.w⟩
def RG.rb(r:RG):RB:=⟨⟨r.fr.toNat%17,Nat.mod_lt _ og⟩,r.n,r.w⟩
theorem RG.af1{r:RG}(h:0<=r.fr/\r.fr<=16):r.rb.rg=r:=by
 cases r with
 | mk f n w=>
  simp only[RG.rb,RB.rg,RG.mk.injEq,and_true];simp only at h;have:f.toNat%17=f.toNat:=Nat.mod_eq_of_lt og;simp only[this];omega
def fF(x:RB):List Value:=[iI ((x.f:Nat):Int),iI x.n,.bool x.w]
def RS(x y:RB):Int:=((x.f:Nat):Int)-((y.f:Nat):Int)
theorem Ci(x y:RB):Go.Proofs.ltOf RS x y=decide ((x.f:Nat)<(y.f:Nat)):=by
 unfold Go.Proofs.ltOf RS;grind
def V8:Sort.SWO (Go.Proofs.ltOf RS) where
 irrefl x:=by rw[Ci];simp
 trans x y z h1 h2:=by rw[Ci]at*;simp only[decide_eq_true_eq]at*;omega
 ntrans x y z h1 h2:=by rw[Ci]at*;simp only[decide_eq_false_iff_not]at*;omega
def V9(x:RB):(fF x).length=3:=rfl
def Wa(x:RB):∀ v∈fF x,v.oneCell'=true:=fun v hv=>by
 simp[fF]at hv;rcases hv with rfl | rfl | rfl<;>rfl
theorem Pg(d:Array RB):(Sort.flatK fF 3 d).toList=bZ (fm (d.toList.map RB.rg)) (d.size*3):=by
 unfold Sort.flatK bZ;rw[Array.toList_map,Array.toList_range];apply List.map_congr_left;intro t ht;have Lc:t<d.size*3:=by simpa using ht
 have e:(d.toList.map RB.rg).getD (t/3) RG.nil=(d[t/3]!).rg:=by
  grind
 unfold fm;rw[e];have h:t%3=0\/t%3=1\/t%3=2:=og;rcases h with h | h | h<;>rw[h]<;>rfl
def Im{P:Program}{ρ:Shelf.Ren}(L:Go.Proofs.SlLaysF0.n6 P ρ)(aE:∀ w,(isAgg (ρ.t 24)).run P w= .ok true w)(zE:∀ w,(Go.sizeOf (ρ.t 24)).run P w= .ok 3 w)(Lv:Nat)(eg:∀ args w,(callFunc Lv args).run P w= .ok (.enter Lv args) w)(hc:XW P Lv fF RS)(p:Option Addr)(c:Nat)(e:TypeId)(l:List RG)(hl:∀ r∈l,0<=r.fr/\r.fr<=16)(rH:l.length<=100000):Spec P (ρ.f 6) [.slice p l.length c,.func (.func Lv) #[] #[]] [aL p c e 3 l.length (fm l)] (fun v H1=>v= .tuple #[]/\∃ l':List RG,l.Perm l'/\l'.Pairwise (fun x y=>x.fr<=y.fr)/\H1=[aL p c e 3 l.length (fm l')]):=by
 have LW:((l.map RG.rb).map RB.rg)=l:=by
  rw[List.map_map];conv=>rhs;rw[<-List.map_id l]
  grind [List.map_congr_left,RG.af1]
 have h:=TJ L 3 aE zE fF V9 Wa RS V8 Lv eg hc p l.length c e (l.map RG.rb).toArray sq og;rw[Pg]at h;simp only[List.toList_toArray,LW,List.size_toArray,List.length_map]at h;intro w hw;refine(h w hw).mono ?_;rintro ee w' ⟨v,H',he,⟨hv,d',hp,hs,hH⟩,h3,h4⟩;have Sm:d'.size=l.length:=by rw[hp.1];simp
 have hpm:d'.toList.Perm (l.map RG.rb):=by
  have h2:=hp.2.2;grind [Array.extract_size]
 refine⟨v,H',he,⟨hv,d'.toList.map RB.rg,?_,?_,?_⟩,h3,h4⟩
 ·have:=hpm.map RB.rg;rw[LW]at this;exact this.symm
 ·rw[List.pairwise_map,List.pairwise_iff_getElem];intro i j hi hj IL;have hj':j<d'.size:=by simpa using hj
  have IA:i<d'.size:=og;have:=hs i j (Nat.zero_le _) IL og;grind [Ci,RB.rg]
 grind [Pg]
end Go.X.Vm


namespace Go.Proofs
open Go.Shelf
def Ld:Go.Shelf.Ren:=⟨fun | 6=>219 | 15=>242 | 14=>241 | 28=>262 | 29=>263 | 20=>254 | 21=>255 | 22=>256 | 23=>257 | 24=>258 | 25=>259 | 26=>260 | 27=>261 | 46=>272 | 47=>273 | 48=>274 | 49=>275 | 50=>276 | 57=>283 | n=>n,fun | 22=>140 | 24=>171 | 25=>250 | 3=>3 | 39=>258 | 0=>0 | 53=>257 | 55=>29 | 4=>4 | 46=>283 | 45=>282 | 50=>118 | 5=>5 | 9=>9 | 66=>294 | 70=>232 | 76=>302 | 77=>303 | n=>n,fun | n=>n⟩
def Zh:Go.Proofs.SlLaysF0.n6 Tryz.prog Ld:= {
 mixed:=by kernel_rfl
 f6:=⟨Tryz.f219.name,by decide,Tryz.func219.trans (congrArg some (by kernel_rfl))⟩
 f14:=⟨Tryz.f241.name,by decide,Tryz.func241.trans (congrArg some (by kernel_rfl))⟩
 f15:=Tryz.func242.trans (congrArg some (by kernel_rfl))
 f20:=⟨Tryz.f254.name,by decide,Tryz.func254.trans (congrArg some (by kernel_rfl))⟩
 f21:=⟨Tryz.f255.name,by decide,Tryz.func255.trans (congrArg some (by kernel_rfl))⟩
 f22:=⟨Tryz.f256.name,by decide,Tryz.func256.trans (congrArg some (by kernel_rfl))⟩
 f23:=⟨Tryz.f257.name,by decide,Tryz.func257.trans (congrArg some (by kernel_rfl))⟩
 f24:=⟨Tryz.f258.name,by decide,Tryz.func258.trans (congrArg some (by kernel_rfl))⟩
 f25:=⟨Tryz.f259.name,by decide,Tryz.func259.trans (congrArg some (by kernel_rfl))⟩
 f26:=⟨Tryz.f260.name,by decide,Tryz.func260.trans (congrArg some (by kernel_rfl))⟩
 f27:=⟨Tryz.f261.name,by decide,Tryz.func261.trans (congrArg some (by kernel_rfl))⟩
 f28:=Tryz.func262.trans (congrArg some (by kernel_rfl))
 f29:=Tryz.func263.trans (congrArg some (by kernel_rfl))
 f46:=⟨Tryz.f272.name,by decide,Tryz.func272.trans (congrArg some (by kernel_rfl))⟩
 f47:=Tryz.func273.trans (congrArg some (by kernel_rfl))
 f48:=Tryz.func274.trans (congrArg some (by kernel_rfl))
 f49:=⟨Tryz.f275.name,by decide,Tryz.func275.trans (congrArg some (by kernel_rfl))⟩
 f50:=⟨Tryz.f276.name,by decide,Tryz.func276.trans (congrArg some (by kernel_rfl))⟩
 f57:=⟨Tryz.f283.name,by decide,Tryz.func283.trans (congrArg some (by kernel_rfl))⟩
 t0:=Tryz.underlying0
 a0:=Tryz.isAgg0
 z0:=Tryz.sizeOf0
 v0:=Tryz.zeroValue0
 t3:=Tryz.underlying3
 a3:=Tryz.isAgg3
 z3:=Tryz.sizeOf3
 v3:=Tryz.zeroValue3
 t4:=Tryz.underlying4
 a4:=Tryz.isAgg4
 z4:=Tryz.sizeOf4
 v4:=Tryz.zeroValue4
 t5:=Tryz.underlying5
 a5:=Tryz.isAgg5
 z5:=Tryz.sizeOf5
 v5:=Tryz.zeroValue5
 t9:=Tryz.underlying9
 a9:=Tryz.isAgg9
 z9:=Tryz.sizeOf9
 v9:=Tryz.zeroValue9
 t22:=Tryz.underlying140
 a22:=Tryz.isAgg140
 z22:=Tryz.sizeOf140
 v22:=Tryz.zeroValue140
 t25:=Tryz.underlying250
 a25:=Tryz.isAgg250
 z25:=Tryz.sizeOf250
 v25:=Tryz.zeroValue250
 t39:=Tryz.underlying258
 a39:=Tryz.isAgg258
 z39:=Tryz.sizeOf258
 v39:=Tryz.zeroValue258
 t45:=Tryz.underlying282
 a45:=Tryz.isAgg282
 z45:=Tryz.sizeOf282
 v45:=Tryz.zeroValue282
 t46:=Tryz.underlying283
 a46:=Tryz.isAgg283
 z46:=Tryz.sizeOf283
 v46:=Tryz.zeroValue283
 t50:=Tryz.underlying118
 a50:=Tryz.isAgg118
 z50:=Tryz.sizeOf118
 v50:=Tryz.zeroValue118
 t53:=Tryz.underlying257
 a53:=Tryz.isAgg257
 z53:=Tryz.sizeOf257
 v53:=Tryz.zeroValue257
 t55:=Tryz.underlying29
 a55:=Tryz.isAgg29
 z55:=Tryz.sizeOf29
 v55:=Tryz.zeroValue29
 t66:=Tryz.underlying294
 a66:=Tryz.isAgg294
 z66:=Tryz.sizeOf294
 v66:=Tryz.zeroValue294
 t70:=Tryz.underlying232
 a70:=Tryz.isAgg232
 z70:=Tryz.sizeOf232
 v70:=Tryz.zeroValue232
 t76:=Tryz.underlying302
 a76:=Tryz.isAgg302
 z76:=Tryz.sizeOf302
 v76:=Tryz.zeroValue302
 t77:=Tryz.underlying303
 a77:=Tryz.isAgg303
 z77:=Tryz.sizeOf303
 v77:=Tryz.zeroValue303}
end Go.Proofs

namespace Go.X.Vm
open Go Go.Proofs Go.X
set_option maxRecDepth 20000
set_option maxHeartbeats 4000000
def ac6:nT Tryz.prog 142=true:=kq
def ac7:dc Tryz.prog 227=true:=kq
def mu:rL Tryz.prog 171 3=true:=kq
def lq:jU Tryz.prog 3=true:=kq
def Wb:fp Tryz.prog 142=some 2:=kq
def af2:XW Tryz.prog 220 fF RS:=fun x y w=>by
 refine enter (ps:=[2,3,4]) (cs:=[]) Tryz.func220 rfl rfl ?_ (M:=fun w'=>w'=w) rfl
 refine gC (K:=[]) (Q0:=bodyPost _ _ _) (XO.ae1 rfl rfl (XO.ae1 rfl rfl ?_))
 refine gO ?_
 refine oL (XO.l (N7 (v:=iI ((x.f:Nat):Int)) rfl (fun w' hw=>by rw[hw];exact XX rfl) lq) rfl (gO ?_))
 refine oL (XO.l (N7 (v:=iI ((y.f:Nat):Int)) rfl (fun w' hw=>by rw[hw];exact TF rfl) lq) rfl (gO ?_))
 refine sd ?_ (by have:=x.f.isLt;have:=y.f.isLt;omega)
 exact aM rfl rfl fun w' hw=>⟨rfl,_,hw.trans (TH _ _ _)⟩
def ac8(p:Option Addr)(c:Nat)(l:List RG)(hl:∀ r∈l,0<=r.fr/\r.fr<=16)(rH:l.length<=100000):Spec Tryz.prog 219 [.slice p l.length c,.func (.func 220) #[] #[]] [aL p c 171 3 l.length (fm l)] (fun v H1=>v= .tuple #[]/\∃ l':List RG,l.Perm l'/\l'.Pairwise (fun x y=>x.fr<=y.fr)/\H1=[aL p c 171 3 l.length (fm l')]):=
 Im Zh Tryz.isAgg171 Tryz.sizeOf171 220 (Go.Proofs.enters_of Tryz.func220 kq rfl) af2 p c 171 l hl rH
def af3(cn:Nat)(n:Int)(r:RG)(hr:0<=r.fr/\0<=r.n/\r.fr+r.n<=100):Spec Tryz.prog 227 [.agg r.cF,ay cn 0 0] [.cells cn 0 1 (aF (iI n))] (fun v H1=>v= .bool (r.UB n)/\H1=[.cells cn 0 1 (aF (iI n))]):=by
 refine Spec.go 17 [1,2,3] [] Tryz.func227 fun W=> ?_;refine XO.box (m:=3) (C:=pK (r)) rfl rfl (pK.box _) rfl ?_;intro bx;refine gO ?_;refine ld (.ao .aa) (aF.ld _) ?_;refine ld .aa (pK.f _) ?_;refine sp 8 rfl ?_ ?_<;>intro h1
 ·refine ld (.ao .aa) (aF.ld _) ?_;refine ld .aa (pK.f _) ?_;refine ld .aa (pK.n _) ?_;refine sd ?_;refine bL (pk [1]) ?_;exact⟨congrArg Value.bool (by rw[Bool.eq_iff_iff];unfold RG.UB;simp;omega),rfl⟩
 ·refine bL (pk [1]) ?_;exact⟨congrArg Value.bool (by rw[Bool.eq_iff_iff];unfold RG.UB;simp;omega),rfl⟩
def aix(cn:Nat)(n:Int)(p:Option Addr)(c:Nat)(l:List RG)(hl:∀ r∈l,0<=r.fr/\0<r.n/\r.fr+r.n<=16)(hlen:l.length<=100):Spec Tryz.prog 226 [.slice p l.length c,.func (.func 227) #[] #[ay cn 0 0]] [aL p c 171 3 l.length (fm l),.cells cn 0 1 (aF (iI n))] (fun v H1=>(∃ k:Int,v=iI k/\atP l n k)/\H1=[aL p c 171 3 l.length (fm l),.cells cn 0 1 (aF (iI n))]):=by
 refine Spec.go 19 [0,1,4,5,7,8,9,16] [] Tryz.func226 fun W=> ?_;refine lp (σ:=Int) (fun i=>(l.length-i).toNat) (fun i=>(0<=i/\i<=l.length)/\∀ j:Int,0<=j->j<i->¬(bF l j).has n) (fun i=>[(8,iI i),(0,.slice p l.length c),(1,.func (.func 227) #[] #[ay cn 0 0]),(7,iI l.length)]) (fun i=>XM W (bX [aL p c 171 3 l.length (fm l),.cells cn 0 1 (aF (iI n))]) [aL p c 171 3 l.length (fm l),.cells cn 0 1 (aF (iI n))]) (0) ?_ S4 (xq (pz 2)) ?_
 ·grind
 intro i hi;obtain⟨hi,vH⟩:=hi;refine gC ?_;refine cd ?_ ?_<;>intro h1
 ·refine bP .aa og ?_;intro g1 h2;subst h2;refine sd ?_;refine qJ .aa (fm.agg og) ?_;refine XO.TC (cs:=[ay cn 0 0]) rfl rfl (af3 _ n _ (by have:=hl _ (yp (l:=l) (z:=i));omega)) (pk [1]) ac7 rfl ?_;rintro _ _ ⟨rfl,rfl⟩;refine gO ?_;refine wM ?_ ?_<;>intro h3
  ·try simp only[sb]at h3
   refine bL (pk [1,0]) ?_;exact⟨⟨i,rfl,.inr ⟨og,(Bj _ _).1 aq⟩⟩,rfl⟩
  ·try simp only[sb]at h3
   refine sd ?_;refine ag (i+1) ?_ ?_ S4 (xq (pk [1,0]));all_goals grind [Bj]
 ·refine bL (pz 2) ?_;exact⟨⟨-1,rfl,.inl ⟨rfl,fun r hr=>by obtain⟨z,hz,rfl⟩:=Yq hr;exact vH z hz.1 og⟩⟩,rfl⟩
def Zi(kb mb:Nat)(p:Option Addr)(c:Nat)(m:MS)(hm:m.Ok)(n:Int):Spec Tryz.prog 198 [ay mb 0 0,iI n] [.cells mb 0 34 (b7 kb p (ai m.az).length c m.fr m.bH),aL p c 171 3 (ai m.az).length (fm (ai m.az))] (fun v H1=>(∃ k:Int,v=iI k/\atP (ai m.az) n k)/\H1=[.cells mb 0 34 (b7 kb p (ai m.az).length c m.fr m.bH),aL p c 171 3 (ai m.az).length (fm (ai m.az))]):=by
 refine Spec.go 11 [0,3,4] [] Tryz.func198 fun W=> ?_;refine XO.box (m:=1) (C:=aF (iI n)) rfl rfl (fun _ _=>rfl) rfl ?_;intro cn;refine gO ?_;refine ld (.ao .aa) (lL _ _ _ _ _ _) ?_;refine XO.v (Jj rfl) rfl (gO ?_);refine ca (aix _ _ _ _ _ (jQ hm.f).b (by have:=re m.az;omega)) (pk [2,0]) ?_;rintro _ _ ⟨⟨k,rfl,hk⟩,rfl⟩;refine gO ?_;refine bL (pk [2,0]) ?_;exact⟨⟨k,rfl,hk⟩,rfl⟩
def Zj(p:Option Addr)(c:Nat)(l:List RG)(hn:l.length<=100):Spec Tryz.prog 124 [.slice p l.length c] [aL p c 171 3 l.length (fm l)] (fun v H1=>∃ p1 c1,v= .slice p1 l.length c1/\H1=[aL p c 171 3 l.length (fm l),aL p1 c1 171 3 l.length (fm l)]):=by
 refine Spec.go 8 [0,2,4] [] Tryz.func124 fun W=> ?_;refine XO.v (lC rfl Tryz.underlying140 rfl) rfl (gO ?_);refine cd ?_ ?_<;>intro h1
 ·subst h1;refine P6 .aa ?_;intro hn0;refine XR.fH 171 3 (aM rfl rfl (ah (pk [1,0]) rfl ?_));exact⟨none,0,by rw[hn0];rfl,by rw[hn0];rfl⟩
 ·refine Tt .aa h1 ?_;intro g hg;subst hg;refine nt (e:=171) (vs:= #[]) (A:= #[]) (sz:=3) rfl (fun _=>kq) rfl og rfl ?_;intro b1;refine gO ?_;refine XO.P0 (e:=171) rfl rfl Tryz.underlying140 mu .aa (.ao .aa) QF og rfl ?_;intro p1 c1;refine gO ?_;refine bL (pk [1,0]) ?_;exact⟨p1,c1,by simp only[Nat.zero_add];rfl,by simp only[Nat.zero_add,List.nil_append]⟩
def pJ(kb mb:Nat)(p:Option Addr)(c:Nat)(m:MS)(hm:m.Ok):Spec Tryz.prog 50 [ay mb 0 0] [.cells mb 0 34 (b7 kb p (ai m.az).length c m.fr m.bH)] (fun v H1=>v=iI m.eZ/\H1=[.cells mb 0 34 (b7 kb p (ai m.az).length c m.fr m.bH)]):=by
 refine Spec.go 20 [0,2,3,5,9,10,11,15] [] Tryz.func50 fun W=> ?_;refine lW .aa (Mq _ _ _ _ _ _) ?_;refine lp (σ:=Int) (fun i=>(16-i).toNat) (fun i=>0<=i/\i<=16) (fun i=>[(10,iI i),(3,iI (tj m.fr i.toNat)),(9,.agg (pgA m.fr m.bH))]) (fun i=>XM W (bX [.cells mb 0 34 (b7 kb p (ai m.az).length c m.fr m.bH)]) [.cells mb 0 34 (b7 kb p (ai m.az).length c m.fr m.bH)]) (0) ?_ S3 (xq .h1) ?_
 ·omega
 intro i hi;have JP:=hm.lo i;have hrs:=HB m.fr i.toNat;refine gC ?_;refine cd ?_ ?_<;>intro h1
 ·refine XO.v (Jk rfl rfl Tryz.underlying143 Wb ac6 og (ace og)) rfl (gO ?_);refine XO.bG (z:=.agg #[iI 0,.bool false]) (m:=2) (C:=Sw 0 false) (Sw.box _ _) ?_;intro pb;refine gO ?_;refine fW .aa (Sw.st _ _ _ _) rfl ⟨rfl,rfl⟩ (ld .aa (Sw.f _ _) ?_);refine cd ?_ ?_<;>intro h2
  ·refine sd (sd (ag (i+1) ?_ ?_ (S3 rfl (LJ (by rw[F5 _ hi.1,if_pos og])) rfl) (xq (pk [1]))));all_goals omega
  ·refine sd (ag (i+1) ?_ ?_ (S3 rfl (LJ (by rw[F5 _ hi.1,if_neg og];omega)) rfl) (xq (pk [1])));all_goals omega
 ·refine bL .h1 ?_;have e:i=16:=og;subst e;exact⟨rfl,rfl⟩
def qy:rL Tryz.prog 3 1=true:=kq
def Nu(kb mb:Nat)(p:Option Addr)(c:Nat)(l:List RG)(fr:Int->Int)(bH:Int->Bool)(f:Int->Int)(hf:Su f)(hg:GL l)(hc:Sv l f)(hl:l.length<=100):Spec Tryz.prog 180 [ay mb 0 0] [.cells mb 0 34 (b7 kb p l.length c fr bH),aL p c 171 3 l.length (fm l)] (fun v H1=>v= .tuple #[]/\∃ p2 c2,H1=[.cells mb 0 34 (b7 kb p2 (ai f).length c2 fr bH),aL p2 c2 171 3 (ai f).length (fm (ai f))]):=by
 refine Spec.go 70 [0,2,4,5,14,15,16,17,50] [] Tryz.func180 fun W=> ?_;apply ld .aa (lL _ _ _ _ _ _);refine ca (ac8 _ _ _ (QG hg) og) (pk [1]) ?_;rintro _ _ ⟨rfl,l2,hp,hs,rfl⟩;have hn:l.length=l2.length:=hp.length_eq;have hmg:=Yo (hg.cb hp) (hc.cb hp) hf hs;apply gO;apply XR.fH 171 3;apply ld (.t2 .aa) (lL _ _ _ _ _ _);refine lp (σ:=Int×List RG×Option Addr×Nat) (fun x=>(l.length-x.1).toNat) (fun x=>(0<=x.1/\x.1<=l.length)/\x.2.1=mg (l2.take x.1.toNat)) (fun x=>[(16,iI x.1),(2,.slice x.2.2.1 x.2.1.length x.2.2.2),(0,ay mb 0 0),(14,.slice p l.length c),(15,iI l.length)]) (fun x=>XM W (bX [.cells mb 0 34 (b7 kb p l.length c fr bH),aL p c 171 3 l.length (fm l)]) [.cells mb 0 34 (b7 kb p l.length c fr bH),aL p c 171 3 l.length (fm l2),aL x.2.2.1 x.2.2.2 171 3 x.2.1.length (fm x.2.1)]) ((0,[],none,0)) ?_ S5 (xq (pk [2,1,0])) ?_
 ·exact⟨sq,rfl⟩
 intro x hx;obtain⟨hi,hac⟩:=hx;have hal:x.2.1.length<=x.1:=by
  rw[hac];exact Int.le_trans (Int.ofNat_le.2 (UD _ _ rfl)) (by rw[List.length_take];omega)
 have hab:∀ r∈x.2.1,0<=r.fr/\0<r.n/\r.fr+r.n<=16:=by
  rw[hac];exact afm _ _ rfl fun r hr=>(hg.cb hp).b r (List.mem_of_mem_take hr)
 apply gC;refine cd ?_ ?_<;>intro h1
 ·apply bP (.ao .aa) og;intro g1 h2;subst h2;refine sd ?_;apply qJ (.ao .aa) (UC hn og);apply XO.bG (z:=.agg RG.nil.cF) (m:=3) (C:=pK RG.nil) (pK.box _);intro rb;apply gO;apply fW .aa (pK.st _ _) rfl ⟨rfl,rfl⟩;refine sd ?_;refine rq [0,1,2,3,4,5,6,7,8,9,10,11,12,13,14,15,16,17,18,19,20,21,22,23,24,25,26,27] mixed ?_;refine sp 25 rfl ?_ ?_<;>intro h3
  ·have RP:0<x.2.1.length:=og;have hlb:=hab _ (yp (z:=(x.2.1.length:Int)-1));have hrb:=(hg.cb hp).b _ (yp (z:=x.1));apply bP (.t3 .aa) og;intro ga hga;rw[hga];refine sd ?_;apply XH (.t3 .aa) (fm.f og);refine sd ?_;apply XH (.t3 .aa) (fm.n og);refine sd ?_;apply ld .aa (pK.f _);refine sp 41 rfl ?_ ?_<;>intro h4
   ·have h16:=h4;refine sd ?_;apply XH (.t3 .aa) (fm.w og);apply ld .aa (pK.w _);refine XO.v (SM rfl rfl Tryz.underlying4 rfl) rfl (gO ?_);refine wM ?_ ?_<;>intro h5
    ·try simp only[sb]at h5
     have h26:=h5;refine rq [0,1,2,3,4,5,6,7,8,9,10] mixed ?_;refine sd ?_;apply XH (.t3 .aa) (fm.n og);apply ld .aa (pK.n _);refine sd ?_;refine sd ?_;apply stF (.t3 .aa) (fm.grow og _) rfl;refine sd ?_;refine ag ((x.1+1,HA x.2.1 {(bF x.2.1 ((x.2.1.length:Int)-1))with n:=(bF x.2.1 ((x.2.1.length:Int)-1)).n+(bF l2 x.1).n},some ⟨ga,0,none⟩,x.2.2.2)) ?_ ?_ (S5 rfl (by show lk _ _=some (Value.slice _ (HA _ _).length _);rw[Bh RP];rfl) rfl rfl rfl) fun _ hw=>by show XM _ _ [_,_,aL _ _ _ _ (HA _ _).length _] _;rw[Bh RP];exact XM.pick (pk [1,1,1]) hw
     all_goals grind [ri,vn,Yn]
    ·try simp only[sb]at h5
     have h27:=h5;apply lW .aa (pK.agg _);apply XO.buildSlice (e:=171) (vs:= #[(0,.agg (bF l2 x.1).cF)]) (A:=(bF l2 x.1).cF) rfl (fun _=>kq) rfl rfl;intro nb;apply gO;apply jf (e:=171) (jJ:=x.2.1) (r:=(bF l2 x.1)) rfl rfl Tryz.underlying140 mu (.t4 .aa) .aa og rfl;intro p3 c3;apply gO;refine sd ?_;refine ag ((x.1+1,x.2.1++[(bF l2 x.1)],p3,c3)) ?_ ?_ S5 (xq (pk [3,3,0]));all_goals grind [ri,vn,Db]
   ·apply lW .aa (pK.agg _);apply XO.buildSlice (e:=171) (vs:= #[(0,.agg (bF l2 x.1).cF)]) (A:=(bF l2 x.1).cF) rfl (fun _=>kq) rfl rfl;intro nb;apply gO;apply jf (e:=171) (jJ:=x.2.1) (r:=(bF l2 x.1)) rfl rfl Tryz.underlying140 mu (.t4 .aa) .aa og rfl;intro p3 c3;apply gO;refine sd ?_;refine ag ((x.1+1,x.2.1++[(bF l2 x.1)],p3,c3)) ?_ ?_ S5 (xq (pk [3,3,0]));all_goals grind [ri,vn,Db]
  ·apply lW .aa (pK.agg _);apply XO.buildSlice (e:=171) (vs:= #[(0,.agg (bF l2 x.1).cF)]) (A:=(bF l2 x.1).cF) rfl (fun _=>kq) rfl rfl;intro nb;apply gO;apply jf (e:=171) (jJ:=x.2.1) (r:=(bF l2 x.1)) rfl rfl Tryz.underlying140 mu (.t4 .aa) .aa og rfl;intro p3 c3;apply gO;refine sd ?_;refine ag ((x.1+1,x.2.1++[(bF l2 x.1)],p3,c3)) ?_ ?_ S5 (xq (pk [3,3,0]));all_goals grind [ri,vn,Db]
 ·apply st .aa (HC _ _ _ _ _ _ _ _ _) rfl;refine cY rfl (ah (pk [0,1]) rfl ?_);have e:x.1=l.length:=og;simp_all
set_option maxHeartbeats 8000000 in
def Ph(kb mb:Nat)(p:Option Addr)(c:Nat)(m:MS)(hm:m.Ok)(a n:Int)(hb:¬gM a n):Spec Tryz.prog 178 [ay mb 0 0,iI a,iI n] [.cells mb 0 34 (b7 kb p (ai m.az).length c m.fr m.bH),aL p c 171 3 (ai m.az).length (fm (ai m.az))] (fun v H1=>∃ p2 c2 p3 c3,v= .slice p3 ((ai m.az).flatMap (vm a n)).length c3/\H1=[.cells mb 0 34 (b7 kb p2 ((ai m.az).flatMap (my a n)).length c2 m.fr m.bH),aL p2 c2 171 3 ((ai m.az).flatMap (my a n)).length (fm ((ai m.az).flatMap (my a n))),dy p3 c3 3 ((ai m.az).flatMap (vm a n))]):=by
 have hLo:=jQ hm.f;have hL:=re m.az;have Cy:=hb;unfold gM at Cy;refine Spec.go 96 [0,1,2,6,7,8,10,11,12,13,17,18,19,20,38,46,65,83] [(9,1),(11,1)] Tryz.func178 fun W=> ?_;apply XR.fH 171 3;apply XR.fH 3 1;apply ld (.t2 .aa) (lL _ _ _ _ _ _);refine lp (σ:=Int×(Option Addr×Nat)×(Option Addr×Nat)) (fun x=>((ai m.az).length-x.1).toNat) (fun x=>(0<=x.1/\x.1<=(ai m.az).length)/\(List.flatMap (my a n) (List.take x.1.toNat (ai m.az))).length<=2*x.1/\(List.flatMap (vm a n) (List.take x.1.toNat (ai m.az))).length<=16*x.1) (fun x=>[(19,iI x.1),(7,.slice x.2.1.1 (List.flatMap (my a n) (List.take x.1.toNat (ai m.az))).length x.2.1.2),(8,.slice x.2.2.1 (List.flatMap (vm a n) (List.take x.1.toNat (ai m.az))).length x.2.2.2),(0,ay mb 0 0),(1,iI a),(2,iI n),(17,.slice p (ai m.az).length c),(18,iI (ai m.az).length)]) (fun x=>XM W (bX [.cells mb 0 34 (b7 kb p (ai m.az).length c m.fr m.bH),aL p c 171 3 (ai m.az).length (fm (ai m.az))]) [.cells mb 0 34 (b7 kb p (ai m.az).length c m.fr m.bH),aL p c 171 3 (ai m.az).length (fm (ai m.az)),aL x.2.1.1 x.2.1.2 171 3 (List.flatMap (my a n) (List.take x.1.toNat (ai m.az))).length (fm (List.flatMap (my a n) (List.take x.1.toNat (ai m.az)))),dy x.2.2.1 x.2.2.2 3 (List.flatMap (vm a n) (List.take x.1.toNat (ai m.az)))]) ((0,(none,0),(none,0))) ?_ (.cons rfl (.cons rfl S6)) (xq (pk [2,2,1,0])) ?_
 ·simp_all
 intro x hx;obtain⟨hi,hal,hhl⟩:=hx;apply gC;refine cd ?_ ?_<;>intro h1
 ·apply bP (.ao .aa) og;intro g1 h2;subst h2;refine sd ?_;apply qJ (.ao .aa) (fm.agg og);apply XO.bG (z:=.agg RG.nil.cF) (m:=3) (C:=pK RG.nil) (pK.box _);intro rb;apply gO;apply fW .aa (pK.st _ _) rfl ⟨rfl,rfl⟩;refine rq [0,1,2,3,4,5,6,7,8,9,10,11,12,13,14] mixed ?_;have hrb:=hLo.b _ (yp (z:=x.1));apply ld .aa (pK.f _);apply ld .aa (pK.f _);apply ld .aa (pK.n _);refine sd ?_;refine sd ?_;refine cd ?_ ?_<;>intro h3
  ·have ho:=Yv (a:=a) (n:=n) (r:=(bF (ai m.az) x.1)) og;apply lW .aa (pK.agg _);apply XO.buildSlice (e:=171) (vs:= #[(0,.agg (bF (ai m.az) x.1).cF)]) (A:=(bF (ai m.az) x.1).cF) rfl (fun _=>kq) rfl rfl;intro nb;apply gO;apply jf (e:=171) (jJ:=(List.flatMap (my a n) (List.take x.1.toNat (ai m.az)))) (r:=(bF (ai m.az) x.1)) rfl rfl Tryz.underlying140 mu (.t4 .aa) .aa og rfl;intro p3 c3;apply gO;refine sd ?_;have hA:(List.flatMap (my a n) (List.take (x.1+1).toNat (ai m.az)))=(List.flatMap (my a n) (List.take x.1.toNat (ai m.az)))++[(bF (ai m.az) x.1)]:=by rw[vo _ ⟨hi.1,og⟩,ho.1]
   have hH:(List.flatMap (vm a n) (List.take (x.1+1).toNat (ai m.az)))=(List.flatMap (vm a n) (List.take x.1.toNat (ai m.az))):=by rw[vo _ ⟨hi.1,og⟩,ho.2,List.append_nil]
   refine ag ((x.1+1,(p3,c3),x.2.2)) ?_ ?_ (.cons rfl (.cons (by show lk _ _=some (Value.slice _ (List.flatMap (my a n) (List.take (x.1+1).toNat (ai m.az))).length _);rw[hA];rfl) (S6 (by show lk _ _=some (Value.slice _ (List.flatMap (vm a n) (List.take (x.1+1).toNat (ai m.az))).length _);rw[hH];rfl) rfl rfl rfl rfl rfl))) fun _ hw=>by show XM _ _ [_,_,aL _ _ _ _ (List.flatMap (my a n) (List.take (x.1+1).toNat (ai m.az))).length (fm (List.flatMap (my a n) (List.take (x.1+1).toNat (ai m.az)))),dy _ _ _ (List.flatMap (vm a n) (List.take (x.1+1).toNat (ai m.az)))] _;rw[hA,hH];exact XM.pick (pk [3,3,0,2]) hw
   all_goals grind
  ·have vS:=acf (a:=a) (n:=n) (r:=(bF (ai m.az) x.1)) og;apply ctG (σ:=Option Addr×Nat) (fun _=>True) (fun y=>[(0,ay mb 0 0),(1,iI a),(2,iI n),(7,.slice y.1 ((List.flatMap (my a n) (List.take x.1.toNat (ai m.az)))++(if(bF (ai m.az) x.1).fr<(max (bF (ai m.az) x.1).fr a)then [(⟨(bF (ai m.az) x.1).fr,(max (bF (ai m.az) x.1).fr a)-(bF (ai m.az) x.1).fr,(bF (ai m.az) x.1).w⟩:RG)]else [])).length y.2),(8,.slice x.2.2.1 (List.flatMap (vm a n) (List.take x.1.toNat (ai m.az))).length x.2.2.2),(10,ay rb 0 0),(11,iI (max (bF (ai m.az) x.1).fr a)),(12,iI (min ((bF (ai m.az) x.1).fr+(bF (ai m.az) x.1).n) (a+n))),(17,.slice (some ⟨g1,0,none⟩) (ai m.az).length c),(18,iI (ai m.az).length),(19,iI x.1)]) (fun y=>XM W (bX [.cells mb 0 34 (b7 kb (some ⟨g1,0,none⟩) (ai m.az).length c m.fr m.bH),aL (some ⟨g1,0,none⟩) c 171 3 (ai m.az).length (fm (ai m.az))]) [.cells rb 0 3 (pK (bF (ai m.az) x.1)),.cells mb 0 34 (b7 kb (some ⟨g1,0,none⟩) (ai m.az).length c m.fr m.bH),aL (some ⟨g1,0,none⟩) c 171 3 (ai m.az).length (fm (ai m.az)),aL y.1 y.2 171 3 ((List.flatMap (my a n) (List.take x.1.toNat (ai m.az)))++(if(bF (ai m.az) x.1).fr<(max (bF (ai m.az) x.1).fr a)then [(⟨(bF (ai m.az) x.1).fr,(max (bF (ai m.az) x.1).fr a)-(bF (ai m.az) x.1).fr,(bF (ai m.az) x.1).w⟩:RG)]else [])).length (fm ((List.flatMap (my a n) (List.take x.1.toNat (ai m.az)))++(if(bF (ai m.az) x.1).fr<(max (bF (ai m.az) x.1).fr a)then [(⟨(bF (ai m.az) x.1).fr,(max (bF (ai m.az) x.1).fr a)-(bF (ai m.az) x.1).fr,(bF (ai m.az) x.1).w⟩:RG)]else []))),dy x.2.2.1 x.2.2.2 3 (List.flatMap (vm a n) (List.take x.1.toNat (ai m.az)))])
   ·apply ld .aa (pK.f _);refine cd ?_ ?_<;>intro h4
    ·apply ld .aa (pK.f _);apply ld .aa (pK.f _);refine sd ?_;apply ld .aa (pK.w _);refine XO.v (V.build (vs:= #[(0,iI (bF (ai m.az) x.1).fr),(1,iI ((max (bF (ai m.az) x.1).fr a)-(bF (ai m.az) x.1).fr)),(2,.bool (bF (ai m.az) x.1).w)]) rfl (v:=.agg (RG.mk (bF (ai m.az) x.1).fr ((max (bF (ai m.az) x.1).fr a)-(bF (ai m.az) x.1).fr) (bF (ai m.az) x.1).w).cF) fun _=>kq) rfl (gO ?_);apply XO.buildSlice (e:=171) (vs:= #[(0,.agg (RG.mk (bF (ai m.az) x.1).fr ((max (bF (ai m.az) x.1).fr a)-(bF (ai m.az) x.1).fr) (bF (ai m.az) x.1).w).cF)]) (A:=(RG.mk (bF (ai m.az) x.1).fr ((max (bF (ai m.az) x.1).fr a)-(bF (ai m.az) x.1).fr) (bF (ai m.az) x.1).w).cF) rfl (fun _=>kq) rfl rfl;intro nb;apply gO;apply jf (e:=171) (jJ:=(List.flatMap (my a n) (List.take x.1.toNat (ai m.az)))) (r:=(RG.mk (bF (ai m.az) x.1).fr ((max (bF (ai m.az) x.1).fr a)-(bF (ai m.az) x.1).fr) (bF (ai m.az) x.1).w)) rfl rfl Tryz.underlying140 mu (.t4 .aa) .aa og rfl;intro p3 c3;apply gO;refine nR ((p3,c3)) ?_ (.cons rfl (.cons rfl (.cons rfl (.cons (by rw[if_pos aq];rfl) (.cons rfl S6))))) fun _ hw=>by rw[if_pos aq];exact XM.pick (pk [2,2,2,0,1]) hw
     simp_all
    ·refine nR ((x.2.1.1,x.2.1.2)) ?_ (.cons rfl (.cons rfl (.cons rfl (.cons (by rw[if_neg aq,List.append_nil];rfl) (.cons rfl S6))))) fun _ hw=>by rw[if_neg aq,List.append_nil];exact XM.pick (pz 5) hw
     simp_all
   intro y _;apply gC;apply ctG (σ:=Option Addr×Nat) (fun _=>True) (fun u=>[(0,ay mb 0 0),(1,iI a),(2,iI n),(7,.slice u.1 ((List.flatMap (my a n) (List.take x.1.toNat (ai m.az)))++(if(bF (ai m.az) x.1).fr<(max (bF (ai m.az) x.1).fr a)then [(⟨(bF (ai m.az) x.1).fr,(max (bF (ai m.az) x.1).fr a)-(bF (ai m.az) x.1).fr,(bF (ai m.az) x.1).w⟩:RG)]else [])++(if(min ((bF (ai m.az) x.1).fr+(bF (ai m.az) x.1).n) (a+n))<(bF (ai m.az) x.1).fr+(bF (ai m.az) x.1).n then [(⟨(min ((bF (ai m.az) x.1).fr+(bF (ai m.az) x.1).n) (a+n)),(bF (ai m.az) x.1).fr+(bF (ai m.az) x.1).n-(min ((bF (ai m.az) x.1).fr+(bF (ai m.az) x.1).n) (a+n)),(bF (ai m.az) x.1).w⟩:RG)]else [])).length u.2),(8,.slice x.2.2.1 (List.flatMap (vm a n) (List.take x.1.toNat (ai m.az))).length x.2.2.2),(10,ay rb 0 0),(11,iI (max (bF (ai m.az) x.1).fr a)),(12,iI (min ((bF (ai m.az) x.1).fr+(bF (ai m.az) x.1).n) (a+n))),(17,.slice (some ⟨g1,0,none⟩) (ai m.az).length c),(18,iI (ai m.az).length),(19,iI x.1)]) (fun u=>XM W (bX [.cells mb 0 34 (b7 kb (some ⟨g1,0,none⟩) (ai m.az).length c m.fr m.bH),aL (some ⟨g1,0,none⟩) c 171 3 (ai m.az).length (fm (ai m.az))]) [.cells rb 0 3 (pK (bF (ai m.az) x.1)),.cells mb 0 34 (b7 kb (some ⟨g1,0,none⟩) (ai m.az).length c m.fr m.bH),aL (some ⟨g1,0,none⟩) c 171 3 (ai m.az).length (fm (ai m.az)),aL u.1 u.2 171 3 ((List.flatMap (my a n) (List.take x.1.toNat (ai m.az)))++(if(bF (ai m.az) x.1).fr<(max (bF (ai m.az) x.1).fr a)then [(⟨(bF (ai m.az) x.1).fr,(max (bF (ai m.az) x.1).fr a)-(bF (ai m.az) x.1).fr,(bF (ai m.az) x.1).w⟩:RG)]else [])++(if(min ((bF (ai m.az) x.1).fr+(bF (ai m.az) x.1).n) (a+n))<(bF (ai m.az) x.1).fr+(bF (ai m.az) x.1).n then [(⟨(min ((bF (ai m.az) x.1).fr+(bF (ai m.az) x.1).n) (a+n)),(bF (ai m.az) x.1).fr+(bF (ai m.az) x.1).n-(min ((bF (ai m.az) x.1).fr+(bF (ai m.az) x.1).n) (a+n)),(bF (ai m.az) x.1).w⟩:RG)]else [])).length (fm ((List.flatMap (my a n) (List.take x.1.toNat (ai m.az)))++(if(bF (ai m.az) x.1).fr<(max (bF (ai m.az) x.1).fr a)then [(⟨(bF (ai m.az) x.1).fr,(max (bF (ai m.az) x.1).fr a)-(bF (ai m.az) x.1).fr,(bF (ai m.az) x.1).w⟩:RG)]else [])++(if(min ((bF (ai m.az) x.1).fr+(bF (ai m.az) x.1).n) (a+n))<(bF (ai m.az) x.1).fr+(bF (ai m.az) x.1).n then [(⟨(min ((bF (ai m.az) x.1).fr+(bF (ai m.az) x.1).n) (a+n)),(bF (ai m.az) x.1).fr+(bF (ai m.az) x.1).n-(min ((bF (ai m.az) x.1).fr+(bF (ai m.az) x.1).n) (a+n)),(bF (ai m.az) x.1).w⟩:RG)]else []))),dy x.2.2.1 x.2.2.2 3 (List.flatMap (vm a n) (List.take x.1.toNat (ai m.az)))])
   ·apply ld .aa (pK.f _);apply ld .aa (pK.n _);refine sd ?_;refine cd ?_ ?_<;>intro h5
    ·apply ld .aa (pK.f _);apply ld .aa (pK.n _);refine sd ?_;refine sd ?_;apply ld .aa (pK.w _);refine XO.v (V.build (vs:= #[(0,iI (min ((bF (ai m.az) x.1).fr+(bF (ai m.az) x.1).n) (a+n))),(1,iI ((bF (ai m.az) x.1).fr+(bF (ai m.az) x.1).n-(min ((bF (ai m.az) x.1).fr+(bF (ai m.az) x.1).n) (a+n)))),(2,.bool (bF (ai m.az) x.1).w)]) rfl (v:=.agg (RG.mk (min ((bF (ai m.az) x.1).fr+(bF (ai m.az) x.1).n) (a+n)) ((bF (ai m.az) x.1).fr+(bF (ai m.az) x.1).n-(min ((bF (ai m.az) x.1).fr+(bF (ai m.az) x.1).n) (a+n))) (bF (ai m.az) x.1).w).cF) fun _=>kq) rfl (gO ?_);apply XO.buildSlice (e:=171) (vs:= #[(0,.agg (RG.mk (min ((bF (ai m.az) x.1).fr+(bF (ai m.az) x.1).n) (a+n)) ((bF (ai m.az) x.1).fr+(bF (ai m.az) x.1).n-(min ((bF (ai m.az) x.1).fr+(bF (ai m.az) x.1).n) (a+n))) (bF (ai m.az) x.1).w).cF)]) (A:=(RG.mk (min ((bF (ai m.az) x.1).fr+(bF (ai m.az) x.1).n) (a+n)) ((bF (ai m.az) x.1).fr+(bF (ai m.az) x.1).n-(min ((bF (ai m.az) x.1).fr+(bF (ai m.az) x.1).n) (a+n))) (bF (ai m.az) x.1).w).cF) rfl (fun _=>kq) rfl rfl;intro nb;apply gO;apply jf (e:=171) (jJ:=((List.flatMap (my a n) (List.take x.1.toNat (ai m.az)))++(if(bF (ai m.az) x.1).fr<(max (bF (ai m.az) x.1).fr a)then [(⟨(bF (ai m.az) x.1).fr,(max (bF (ai m.az) x.1).fr a)-(bF (ai m.az) x.1).fr,(bF (ai m.az) x.1).w⟩:RG)]else []))) (r:=(RG.mk (min ((bF (ai m.az) x.1).fr+(bF (ai m.az) x.1).n) (a+n)) ((bF (ai m.az) x.1).fr+(bF (ai m.az) x.1).n-(min ((bF (ai m.az) x.1).fr+(bF (ai m.az) x.1).n) (a+n))) (bF (ai m.az) x.1).w)) rfl rfl Tryz.underlying140 mu (.t4 .aa) .aa (by rw[List.length_append];have ID:=aca ((bF (ai m.az) x.1).fr<(max (bF (ai m.az) x.1).fr a)) (⟨(bF (ai m.az) x.1).fr,(max (bF (ai m.az) x.1).fr a)-(bF (ai m.az) x.1).fr,(bF (ai m.az) x.1).w⟩:RG);omega) rfl;intro p3 c3;apply gO;refine nR ((p3,c3)) ?_ (.cons rfl (.cons rfl (.cons rfl (.cons (by rw[if_pos (c:=(min ((bF (ai m.az) x.1).fr+(bF (ai m.az) x.1).n) (a+n))<_) aq];rfl) (.cons rfl S6))))) fun _ hw=>by rw[if_pos (c:=(min ((bF (ai m.az) x.1).fr+(bF (ai m.az) x.1).n) (a+n))<_) aq];exact XM.pick (pk [2,2,2,0,1]) hw
     omega
    ·refine nR ((y.1,y.2)) ?_ (.cons rfl (.cons rfl (.cons rfl (.cons (by rw[if_neg (c:=(min ((bF (ai m.az) x.1).fr+(bF (ai m.az) x.1).n) (a+n))<_) aq,List.append_nil];rfl) (.cons rfl S6))))) fun _ hw=>by rw[if_neg (c:=(min ((bF (ai m.az) x.1).fr+(bF (ai m.az) x.1).n) (a+n))<_) aq,List.append_nil];exact XM.pick (pz 5) hw
     omega
   intro u _;apply gC;refine lp (σ:=Int×Option Addr×Nat) (fun z=>((min ((bF (ai m.az) x.1).fr+(bF (ai m.az) x.1).n) (a+n))-z.1).toNat) (fun z=>(max (bF (ai m.az) x.1).fr a)<=z.1/\z.1<=(min ((bF (ai m.az) x.1).fr+(bF (ai m.az) x.1).n) (a+n))) (fun z=>[(13,iI z.1),(8,.slice z.2.1 ((List.flatMap (vm a n) (List.take x.1.toNat (ai m.az)))++jE (max (bF (ai m.az) x.1).fr a) (z.1-(max (bF (ai m.az) x.1).fr a)).toNat).length z.2.2),(0,ay mb 0 0),(1,iI a),(2,iI n),(7,.slice u.1 ((List.flatMap (my a n) (List.take x.1.toNat (ai m.az)))++(if(bF (ai m.az) x.1).fr<(max (bF (ai m.az) x.1).fr a)then [(⟨(bF (ai m.az) x.1).fr,(max (bF (ai m.az) x.1).fr a)-(bF (ai m.az) x.1).fr,(bF (ai m.az) x.1).w⟩:RG)]else [])++(if(min ((bF (ai m.az) x.1).fr+(bF (ai m.az) x.1).n) (a+n))<(bF (ai m.az) x.1).fr+(bF (ai m.az) x.1).n then [(⟨(min ((bF (ai m.az) x.1).fr+(bF (ai m.az) x.1).n) (a+n)),(bF (ai m.az) x.1).fr+(bF (ai m.az) x.1).n-(min ((bF (ai m.az) x.1).fr+(bF (ai m.az) x.1).n) (a+n)),(bF (ai m.az) x.1).w⟩:RG)]else [])).length u.2),(12,iI (min ((bF (ai m.az) x.1).fr+(bF (ai m.az) x.1).n) (a+n))),(17,.slice (some ⟨g1,0,none⟩) (ai m.az).length c),(18,iI (ai m.az).length),(19,iI x.1)]) (fun z=>XM W (bX [.cells mb 0 34 (b7 kb (some ⟨g1,0,none⟩) (ai m.az).length c m.fr m.bH),aL (some ⟨g1,0,none⟩) c 171 3 (ai m.az).length (fm (ai m.az))]) [.cells mb 0 34 (b7 kb (some ⟨g1,0,none⟩) (ai m.az).length c m.fr m.bH),aL (some ⟨g1,0,none⟩) c 171 3 (ai m.az).length (fm (ai m.az)),aL u.1 u.2 171 3 ((List.flatMap (my a n) (List.take x.1.toNat (ai m.az)))++(if(bF (ai m.az) x.1).fr<(max (bF (ai m.az) x.1).fr a)then [(⟨(bF (ai m.az) x.1).fr,(max (bF (ai m.az) x.1).fr a)-(bF (ai m.az) x.1).fr,(bF (ai m.az) x.1).w⟩:RG)]else [])++(if(min ((bF (ai m.az) x.1).fr+(bF (ai m.az) x.1).n) (a+n))<(bF (ai m.az) x.1).fr+(bF (ai m.az) x.1).n then [(⟨(min ((bF (ai m.az) x.1).fr+(bF (ai m.az) x.1).n) (a+n)),(bF (ai m.az) x.1).fr+(bF (ai m.az) x.1).n-(min ((bF (ai m.az) x.1).fr+(bF (ai m.az) x.1).n) (a+n)),(bF (ai m.az) x.1).w⟩:RG)]else [])).length (fm ((List.flatMap (my a n) (List.take x.1.toNat (ai m.az)))++(if(bF (ai m.az) x.1).fr<(max (bF (ai m.az) x.1).fr a)then [(⟨(bF (ai m.az) x.1).fr,(max (bF (ai m.az) x.1).fr a)-(bF (ai m.az) x.1).fr,(bF (ai m.az) x.1).w⟩:RG)]else [])++(if(min ((bF (ai m.az) x.1).fr+(bF (ai m.az) x.1).n) (a+n))<(bF (ai m.az) x.1).fr+(bF (ai m.az) x.1).n then [(⟨(min ((bF (ai m.az) x.1).fr+(bF (ai m.az) x.1).n) (a+n)),(bF (ai m.az) x.1).fr+(bF (ai m.az) x.1).n-(min ((bF (ai m.az) x.1).fr+(bF (ai m.az) x.1).n) (a+n)),(bF (ai m.az) x.1).w⟩:RG)]else []))),dy z.2.1 z.2.2 3 ((List.flatMap (vm a n) (List.take x.1.toNat (ai m.az)))++jE (max (bF (ai m.az) x.1).fr a) (z.1-(max (bF (ai m.az) x.1).fr a)).toNat)]) (((max (bF (ai m.az) x.1).fr a),x.2.2)) ?_ (.cons rfl (.cons (by show lk _ _=some (Value.slice _ ((List.flatMap (vm a n) (List.take x.1.toNat (ai m.az)))++jE (max (bF (ai m.az) x.1).fr a) ((max (bF (ai m.az) x.1).fr a)-(max (bF (ai m.az) x.1).fr a)).toNat).length _);rw[show((max (bF (ai m.az) x.1).fr a)-(max (bF (ai m.az) x.1).fr a)).toNat=0 from og,jE,List.append_nil];rfl) (.cons rfl (.cons rfl S6)))) (fun _ hw=>by show XM _ _ [_,_,_,dy _ _ _ ((List.flatMap (vm a n) (List.take x.1.toNat (ai m.az)))++jE (max (bF (ai m.az) x.1).fr a) ((max (bF (ai m.az) x.1).fr a)-(max (bF (ai m.az) x.1).fr a)).toNat)] _;rw[show((max (bF (ai m.az) x.1).fr a)-(max (bF (ai m.az) x.1).fr a)).toNat=0 from og,jE,List.append_nil];exact XM.pick (pk [1,1,1,1]) hw) ?_
   ·omega
   intro z hz;have hil:=Ad (max (bF (ai m.az) x.1).fr a) (z.1-(max (bF (ai m.az) x.1).fr a)).toNat;have hll:((List.flatMap (vm a n) (List.take x.1.toNat (ai m.az)))++jE (max (bF (ai m.az) x.1).fr a) (z.1-(max (bF (ai m.az) x.1).fr a)).toNat).length=(List.flatMap (vm a n) (List.take x.1.toNat (ai m.az))).length+(z.1-(max (bF (ai m.az) x.1).fr a)).toNat:=by rw[List.length_append,hil]
   apply gC;refine cd ?_ ?_<;>intro h6
   ·apply XO.buildSlice (e:=3) (vs:= #[(0,iI z.1)]) (A:= #[iI z.1]) rfl (fun _=>kq) rfl rfl;intro nb;apply gO;apply lB (e:=3) (z:=z.1) (zs:=((List.flatMap (vm a n) (List.take x.1.toNat (ai m.az)))++jE (max (bF (ai m.az) x.1).fr a) (z.1-(max (bF (ai m.az) x.1).fr a)).toNat)) rfl rfl Tryz.underlying55 qy (.t4 .aa) .aa og rfl;intro p3 c3;apply gO;refine sd ?_;have hZ:(List.flatMap (vm a n) (List.take x.1.toNat (ai m.az)))++jE (max (bF (ai m.az) x.1).fr a) (z.1+1-(max (bF (ai m.az) x.1).fr a)).toNat=((List.flatMap (vm a n) (List.take x.1.toNat (ai m.az)))++jE (max (bF (ai m.az) x.1).fr a) (z.1-(max (bF (ai m.az) x.1).fr a)).toNat)++[z.1]:=by rw[show z.1+1-(max (bF (ai m.az) x.1).fr a)=(z.1-(max (bF (ai m.az) x.1).fr a))+1 from og,Mr _ og,<-List.append_assoc];congr 2;omega
    refine ag ((z.1+1,p3,c3)) ?_ ?_ (.cons rfl (.cons (by show lk _ _=some (Value.slice _ ((List.flatMap (vm a n) (List.take x.1.toNat (ai m.az)))++jE (max (bF (ai m.az) x.1).fr a) (z.1+1-(max (bF (ai m.az) x.1).fr a)).toNat).length _);rw[hZ];rfl) (.cons rfl (.cons rfl S6)))) fun _ hw=>by show XM _ _ [_,_,_,dy _ _ _ ((List.flatMap (vm a n) (List.take x.1.toNat (ai m.az)))++jE (max (bF (ai m.az) x.1).fr a) (z.1+1-(max (bF (ai m.az) x.1).fr a)).toNat)] _;rw[hZ];exact XM.pick (pk [2,2,2,0]) hw
    all_goals omega
   ·refine sd ?_;have hA:(List.flatMap (my a n) (List.take (x.1+1).toNat (ai m.az)))=(List.flatMap (my a n) (List.take x.1.toNat (ai m.az)))++(if(bF (ai m.az) x.1).fr<(max (bF (ai m.az) x.1).fr a)then [(⟨(bF (ai m.az) x.1).fr,(max (bF (ai m.az) x.1).fr a)-(bF (ai m.az) x.1).fr,(bF (ai m.az) x.1).w⟩:RG)]else [])++(if(min ((bF (ai m.az) x.1).fr+(bF (ai m.az) x.1).n) (a+n))<(bF (ai m.az) x.1).fr+(bF (ai m.az) x.1).n then [(⟨(min ((bF (ai m.az) x.1).fr+(bF (ai m.az) x.1).n) (a+n)),(bF (ai m.az) x.1).fr+(bF (ai m.az) x.1).n-(min ((bF (ai m.az) x.1).fr+(bF (ai m.az) x.1).n) (a+n)),(bF (ai m.az) x.1).w⟩:RG)]else []):=by rw[vo _ ⟨hi.1,og⟩,vS,List.append_assoc]
    have ez:z.1=(min ((bF (ai m.az) x.1).fr+(bF (ai m.az) x.1).n) (a+n)):=og;have hH:(List.flatMap (vm a n) (List.take (x.1+1).toNat (ai m.az)))=(List.flatMap (vm a n) (List.take x.1.toNat (ai m.az)))++jE (max (bF (ai m.az) x.1).fr a) (z.1-(max (bF (ai m.az) x.1).fr a)).toNat:=by rw[vo _ ⟨hi.1,og⟩,ez];rfl
    have LF:=Ox a n (bF (ai m.az) x.1);rw[vS]at LF;simp only[List.length_append]at LF;refine ag ((x.1+1,u,z.2)) ?_ ?_ (.cons rfl (.cons (by show lk _ _=some (Value.slice _ (List.flatMap (my a n) (List.take (x.1+1).toNat (ai m.az))).length _);rw[hA];rfl) (S6 (by show lk _ _=some (Value.slice _ (List.flatMap (vm a n) (List.take (x.1+1).toNat (ai m.az))).length _);rw[hH];rfl) rfl rfl rfl rfl rfl))) fun _ hw=>by show XM _ _ [_,_,aL _ _ _ _ (List.flatMap (my a n) (List.take (x.1+1).toNat (ai m.az))).length (fm (List.flatMap (my a n) (List.take (x.1+1).toNat (ai m.az)))),dy _ _ _ (List.flatMap (vm a n) (List.take (x.1+1).toNat (ai m.az)))] _;rw[hA,hH];exact XM.pick (pz 4) hw
    ·omega
    ·refine⟨eW,?_,?_⟩
     ·show((List.flatMap (my a n) (List.take (x.1+1).toNat (ai m.az))).length:Int)<=2*(x.1+1);rw[hA];simp only[List.length_append];omega
     ·show((List.flatMap (vm a n) (List.take (x.1+1).toNat (ai m.az))).length:Int)<=16*(x.1+1);rw[hH,List.length_append,Ad];omega
 ·apply st .aa (HC _ _ _ _ _ _ _ _ _) rfl;refine aM rfl rfl (ah (pk [0,1,1]) rfl ?_);have e:List.take x.1.toNat (ai m.az)=(ai m.az):=List.take_of_length_le og;exact⟨x.2.1.1,x.2.1.2,x.2.2.1,x.2.2.2,by rw[e];rfl,by rw[e]⟩
def af4(kb mb:Nat)(p:Option Addr)(c:Nat)(m:MS)(hm:m.Ok)(a n:Int)(w:Bool):Spec Tryz.prog 147 [ay mb 0 0,iI a,iI n,.bool w] [.cells mb 0 34 (b7 kb p (ai m.az).length c m.fr m.bH),aL p c 171 3 (ai m.az).length (fm (ai m.az))] (fun x H1=>x=ax 102 (m.qp a n)/\∃ p2 c2,H1=[.cells mb 0 34 (b7 kb p2 (ai (m.map a n w).az).length c2 (m.map a n w).fr (m.map a n w).bH),aL p2 c2 171 3 (ai (m.map a n w).az).length (fm (ai (m.map a n w).az))]):=by
 refine Spec.go 45 [0,1,2,3,8,9,10,15,22,28] [] Tryz.func147 fun W=> ?_;refine cq (Nt _ _) .nil ?_;refine cd ?_ ?_<;>intro h1
 ·have hb:gM a n:=by
   simp_all
  refine bL (pz 2) ?_;exact⟨by rw[if_pos hb,Gd hb];rfl,p,c,by rw[Ge (by rw[Gd hb];decide)]⟩
 ·have hb:¬gM a n:=fun q=>h1 fun q2=>by rw[if_pos q]at q2;omega
  have Cy:=hb;unfold gM at Cy;have hn:0<n:=og;have hL:=re m.az;refine lp (σ:=Int) (fun i=>(a+n-i).toNat) (fun i=>(a<=i/\i<=a+n)/\∀ j,a<=j->j<i->m.az j=0) (fun i=>[(10,iI i),(0,ay mb 0 0),(1,iI a),(2,iI n),(3,.bool w)]) (fun i=>XM W (bX [.cells mb 0 34 (b7 kb p (ai m.az).length c m.fr m.bH),aL p c 171 3 (ai m.az).length (fm (ai m.az))]) [.cells mb 0 34 (b7 kb p (ai m.az).length c m.fr m.bH),aL p c 171 3 (ai m.az).length (fm (ai m.az))]) (a) ?_ S5 (xq (pz 2)) ?_
  ·grind
  intro i hi;obtain⟨hi,vH⟩:=hi;apply gC;refine sd ?_;refine cd ?_ ?_<;>intro h2
  ·refine ca (Zi _ _ _ _ _ hm _) (pz 2) ?_;rintro _ _ ⟨⟨k,rfl,hk⟩,rfl⟩;apply gO;refine cd ?_ ?_<;>intro h3
   ·refine bL (pz 2) ?_;have e:m.qp a n=3:=QQ hb (i:=i) og fun e=>by have:=(uh hm.f hk).1.2 e;omega
    exact⟨by rw[e];rfl,p,c,by rw[Ge (by rw[e];decide)]⟩
   ·refine sd (ag (i+1) ?_ ?_ S5 (xq (pz 2)))
    ·omega
    ·refine⟨og,fun j h1 h2=> ?_⟩;by_cases e:j=i
     ·subst e;exact((uh hm.f hk).1).1 og
     grind
  ·have G3:∀ j,a<=j->j<a+n->m.az j=0:=fun j h1 h2=>vH j h1 og;have I2:=UL (jQ hm.f) hn G3;have e:=QR (m:=m) hb G3;refine ld .aa (lL _ _ _ _ _ _) (XO.v (V.build (vs:= #[(0,iI a),(1,iI n),(2,.bool w)]) rfl (v:=.agg (RG.mk a n w).cF) fun _=>kq) rfl (gO ?_));apply XO.buildSlice (e:=171) (vs:= #[(0,.agg (RG.mk a n w).cF)]) (A:=(RG.mk a n w).cF) rfl (fun _=>kq) rfl rfl;intro nb;apply gO;apply jf (e:=171) (jJ:=(ai m.az)) (r:=(RG.mk a n w)) rfl rfl Tryz.underlying140 mu (.t2 .aa) .aa og rfl;intro p3 c3;apply gO;apply st (.t2 .aa) (HC _ _ _ _ _ _ _ _ _) rfl;refine ca (Nu _ _ _ _ _ _ _ _ (hm.f.fT hb (Ur w)) (Ow (Yp hm.f) hb I2) (J0 (po hm.f) I2 fun _ _=>rfl) (by first | omega | (simp only[List.length_append,List.length_singleton];omega))) (pk [2,0]) ?_;rintro _ _ ⟨rfl,p2,c2,rfl⟩;apply gO;refine bL (pz 2) ?_;exact⟨by rw[e];rfl,p2,c2,by rw[MA e];rfl⟩
def RT(kb mb:Nat)(p:Option Addr)(c:Nat)(m:MS)(hm:m.Ok)(a n:Int)(w:Bool):Spec Tryz.prog 148 [ay mb 0 0,iI a,iI n,.bool w] [.cells mb 0 34 (b7 kb p (ai m.az).length c m.fr m.bH),aL p c 171 3 (ai m.az).length (fm (ai m.az))] (fun x H1=>x=ax 102 (m.lg a n)/\∃ p2 c2,H1=[.cells mb 0 34 (b7 kb p2 (ai (m.mS a n w).az).length c2 (m.mS a n w).fr (m.mS a n w).bH),aL p2 c2 171 3 (ai (m.mS a n w).az).length (fm (ai (m.mS a n w).az))]):=by
 refine Spec.go 49 [0,1,2,3,8,9,10,15,22,28] [] Tryz.func148 fun W=> ?_;refine cq (Nt _ _) .nil ?_;refine cd ?_ ?_<;>intro h1
 ·have hb:gM a n:=by
   simp_all
  refine bL (pz 2) ?_;exact⟨by rw[if_pos hb,Dr hb];rfl,p,c,by rw[Ds (by rw[Dr hb];decide)]⟩
 ·have hb:¬gM a n:=fun q=>h1 fun q2=>by rw[if_pos q]at q2;omega
  have Cy:=hb;unfold gM at Cy;have hn:0<n:=og;have hL:=re m.az;refine lp (σ:=Int) (fun i=>(a+n-i).toNat) (fun i=>(a<=i/\i<=a+n)/\∀ j,a<=j->j<i->m.az j≠0) (fun i=>[(10,iI i),(0,ay mb 0 0),(1,iI a),(2,iI n),(3,.bool w)]) (fun i=>XM W (bX [.cells mb 0 34 (b7 kb p (ai m.az).length c m.fr m.bH),aL p c 171 3 (ai m.az).length (fm (ai m.az))]) [.cells mb 0 34 (b7 kb p (ai m.az).length c m.fr m.bH),aL p c 171 3 (ai m.az).length (fm (ai m.az))]) (a) ?_ S5 (xq (pz 2)) ?_
  ·grind
  intro i hi;obtain⟨hi,vH⟩:=hi;apply gC;refine sd ?_;refine cd ?_ ?_<;>intro h2
  ·refine ca (Zi _ _ _ _ _ hm _) (pz 2) ?_;rintro _ _ ⟨⟨k,rfl,hk⟩,rfl⟩;apply gO;refine cd ?_ ?_<;>intro h3
   ·refine bL (pz 2) ?_;have e:m.lg a n=10:=J8 hb (i:=i) og ((uh hm.f hk).1.1 og);exact⟨by rw[e];rfl,p,c,by rw[Ds (by rw[e];decide)]⟩
   ·refine sd (ag (i+1) ?_ ?_ S5 (xq (pz 2)))
    ·omega
    ·refine⟨og,fun j h1 h2=> ?_⟩;by_cases e:j=i
     ·subst e;intro e;have:=(uh hm.f hk).1.2 e;omega
     grind
  ·have e:=Mz (m:=m) hb fun j h1 h2=>vH j h1 og;refine ca (Ph _ _ _ _ _ hm _ _ hb) (pz 2) ?_;rintro _ _ ⟨p4,c4,p5,c5,rfl,rfl⟩;have IG:=Dt (ai m.az) a n;apply gO;refine ld .aa (lL _ _ _ _ _ _) (XO.v (V.build (vs:= #[(0,iI a),(1,iI n),(2,.bool w)]) rfl (v:=.agg (RG.mk a n w).cF) fun _=>kq) rfl (gO ?_));apply XO.buildSlice (e:=171) (vs:= #[(0,.agg (RG.mk a n w).cF)]) (A:=(RG.mk a n w).cF) rfl (fun _=>kq) rfl rfl;intro nb;apply gO;apply jf (e:=171) (jJ:=((ai m.az).flatMap (my a n))) (r:=(RG.mk a n w)) rfl rfl Tryz.underlying140 mu (.t2 .aa) .aa og rfl;intro p3 c3;apply gO;apply st (.t2 .aa) (HC _ _ _ _ _ _ _ _ _) rfl;refine ca (Nu _ _ _ _ _ _ _ _ (hm.f.fT hb (Ur w)) (Ow (F6 (jQ hm.f) hn) hb fun r hr=>((Mp (jQ hm.f) hn).2 r hr).2) (J0 (De (jQ hm.f) (po hm.f) hn) (fun r hr=>((Mp (jQ hm.f) hn).2 r hr).2) fun i hi=>by unfold fT;rw[if_neg hi]) (by first | omega | (simp only[List.length_append,List.length_singleton];omega))) (pk [2,0]) ?_;rintro _ _ ⟨rfl,p2,c2,rfl⟩;apply gO;refine bL (pz 2) ?_;exact⟨by rw[e];rfl,p2,c2,by rw[J9 e];rfl⟩
end Go.X.Vm
