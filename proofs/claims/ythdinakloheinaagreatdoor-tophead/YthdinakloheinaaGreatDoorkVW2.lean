import Derived.Test.YthdinakloheinaaGreatDoorkSW
import Derived.Shelf.SlGeneric
import Derived.Ground.SlsfProg
set_option linter.all false
namespace Go.X.Vm
open Go Go.Proofs Go.X
set_option maxRecDepth 20000
set_option maxHeartbeats 4000000
def ab5:vh Tryz.prog 299=some (64,1):=kq
def ahG(x t:Nat)(hx:x<18446744073709551616)(ht:x.testBit t=true)(hl:∀ j,j<t->x.testBit j=false)(Qs:t<64):Spec Tryz.prog 264 [.int .u64 (x:Int)] [.ro 1 0 64 ix] (fun v H1=>v=iI (t:Int)/\H1=[]):=by
 have sP:0<x:=by
  grind
 obtain⟨z1,z2,z3,z4,z5⟩:=Ti t Qs;refine Spec.go 14 [0,2,4] [] Tryz.func264 fun W=> ?_;refine AZ rfl (by simp;omega) (XO.v (V.neg rfl _ (Xo ⟨sP,hx⟩)) rfl (gO ?_));refine XO.v (V.bits (r:=2^t) rfl rfl rfl hx (Nat.sub_lt dq sP) (congrArg some (MY (w:=64) ht hl hx Qs))) rfl (gO ?_);refine XO.v (V.mul rfl rfl _ z1) rfl (gO ?_);refine XO.v (V.shr rfl rfl og _ z2) rfl (gO ?_);refine XO.v (ER rfl rfl ab5 og) rfl (gO ?_);refine WK .aa (Lo Qs) (XO.v (od rfl Tryz.underlying5 Tryz.underlying3 _ z4) rfl (gO ?_));refine bS .nil ?_;exact⟨rfl,rfl⟩
def ae5:Spec Tryz.prog 174 [] [] (fun v H1=>∃ b,v=aA b 0 0/\H1=[.cells b 0 71 (bO BB.cK.fv)]):=by
 refine Spec.go 9 [0,1] [] Tryz.func174 fun W=> ?_;refine XO.v (V.build (vs:= #[]) rfl (v:=.agg #[.int .u64 0,.int .u64 0,.int .u64 0,.int .u64 0,.int .u64 0,.int .u64 0,.int .u64 0,iI 0,iI 0,iI 0,iI 0,iI 0,iI 0,iI 0,iI 0,iI 0,iI 0,iI 0,iI 0,iI 0,iI 0,iI 0,iI 0,iI 0,iI 0,iI 0,iI 0,iI 0,iI 0,iI 0,iI 0,iI 0,iI 0,iI 0,iI 0,iI 0,iI 0,iI 0,iI 0,iI 0,iI 0,iI 0,iI 0,iI 0,iI 0,iI 0,iI 0,iI 0,iI 0,iI 0,iI 0,iI 0,iI 0,iI 0,iI 0,iI 0,iI 0,iI 0,iI 0,iI 0,iI 0,iI 0,iI 0,iI 0,iI 0,iI 0,iI 0,iI 0,iI 0,iI 0,iI 0]) fun _=>kq) rfl (gO ?_);refine XO.box (m:=71) (C:=bO ⟨BB.dc,fun _=>0⟩) rfl rfl zo rfl ?_;intro bs;refine gO ?_;refine sd (st .aa (ou _ BB.cK 6 og (v:=1) ⟨xt.1.symm,fun m h0 h1 h2=>by rw[xt.2 m h0 h1 h2];exact(xv m h0 h1).symm⟩) rfl (bh rfl rfl (ai .h1 rfl ?_)));exact⟨_,rfl,rfl⟩
def ab6(p o:Nat)(b:BB)(hI:b.Inv)(q:Int):Spec Tryz.prog 245 [aA p o 0,iI q] [.cells p o 71 (bO b.fv),.ro 1 0 64 ix] (fun v H1=>v= .tuple #[iI (b.take q).1,az 102 (b.take q).2.1]/\H1=[.cells p o 71 (bO (b.take q).2.2.fv)]):=by
 refine Spec.go 79 [0,1,4,5,6,7,13,26,30,53] [] Tryz.func245 fun W=> ?_;refine sp 10 rfl ?_ ?_<;>intro h1
 ·refine eH .h1 ?_;rw[pX og];exact⟨rfl,rfl⟩
 ·refine cd rfl ?_ ?_<;>intro h2
  ·refine eH .h1 ?_;rw[pX og];exact⟨rfl,rfl⟩
  ·refine lp (σ:=Int) (fun k=>(7-k).toNat) (fun k=>(q<=k/\k<=7)/\∀ j:Int,q<=j->j<k->b.gz j=0) (fun k=>[(6,iI k),(0,aA p o 0),(1,iI q)]) (fun k=>XM W (ck [.cells p o 71 (bO b.fv),.ro 1 0 64 ix]) [.cells p o 71 (bO b.fv),.ro 1 0 64 ix]) (q) ?_ S3 (xq (pz 2)) ?_
   ·grind
   intro k hk;obtain⟨hk,hkz⟩:=hk;refine gC ?_;refine sp 18 rfl ?_ ?_<;>intro h3
   ·refine sd (ld .aa (dx _ _) ?_);refine cd rfl ?_ ?_<;>intro h4
    ·have hz:((b.gz k:Nat):Int)=0:=h4;refine sd (ag (k+1) ?_ ?_ S3 (xq (pz 2)));all_goals grind
    ·have hz:¬((b.gz k:Nat):Int)=0:=h4;refine cd rfl ?_ ?_<;>intro h5
     ·refine eH .h1 ?_;omega
     ·have hkm:¬b.gz k=0:=og;obtain⟨t,ht,hl⟩:=BQ hkm;obtain⟨akV,Qs,V3⟩:=Az ht hl;have V3:=(lr og).1 V3;have hpk:=GB (b:=b) og (k:=k) ⟨hk.1,og⟩ hkz ht hl;have hhm:=GD (b:=b) (k:=k) og Qs V3.1 V3.2;refine sd (ld .aa (dx _ _) ?_);refine HQ 0 (ahG (b.gz k) t (lg _ _) ht hl Qs) (pk [1]) rfl ?_;refine rq [0,1,2,3,4,5,6,7,8,9,10,11,12] mixed (sd (ld (.ao .aa) (dx _ _) (XO.v (V.shl rfl rfl og _ (xr)) rfl (gO ?_))));refine XO.v (V.bits rfl rfl rfl (lg _ _) (iO og) rfl) rfl (gO ?_);refine sd (st (.ao .aa) (ou _ (b.gF t) _ og hhm) rfl ?_);refine lp (σ:=BB) (fun x=>(x.bV t-(q+1)).toNat) (fun x=>x.Inv/\q+1<=x.bV t/\x.bV t<=k+1/\x.tk t=true/\BB.gG (x.bV t-(q+1)).toNat x t=BB.gG (k-q).toNat (b.gF t) t) (fun x=>[(6,iI (x.bV t-1)),(0,aA p o 0),(1,iI q),(7,iI (t:Int))]) (fun x=>XM W (ck [.cells p o 71 (bO b.fv),.ro 1 0 64 ix]) [.cells p o 71 (bO ⟨x,b.ed⟩)]) (b.gF t) ?_ (S4 (K1 (show k=b.bV t-1 by omega)) rfl rfl rfl) (xq (pk [1])) ?_
      ·exact⟨hI.gF og,by show q+1<=b.bV t;omega,by show b.bV t<=k+1;omega,aj _ _ _,by rw[show(b.gF t).bV t=k+1 from V3.1];congr 1;omega⟩
      intro x hx;obtain⟨hx,x1,x2,x3,x4⟩:=hx;refine gC ?_;refine cd rfl ?_ ?_<;>intro h6
      ·obtain⟨s1,s2,s3,s4⟩:=hx.split (a:=t) og;have ZV:=hx.Lx (a:=t) og x3;have hpp:=vZ (x.bV t-2);have hrx:=hx.jA t;refine oV (XO.v (V.sub rfl rfl (x.bV t-2) (by rw[show x.bV t-1-1=x.bV t-2 from og];exact IntWalk.i64_in _ og)) rfl (gO ?_));refine rq [0,1,2,3,4,5,6,7,8,9,10,11,12,13,14,15] mixed (sd (ld .aa (dx _ _) (XO.v (V.shl rfl rfl og _ (GG)) rfl (gO ?_))));refine sd (XO.v (V.shl rfl rfl og _ (xr)) rfl (gO ?_));refine XO.v (V.bits rfl rfl rfl (lg _ _) (iO og) rfl) rfl (gO ?_);refine sd (st .aa (ou _ (x.split t) _ og ZV) rfl (ag (x.split t) ?_ ?_ (S4 (K1 (by rw[s4];omega)) rfl rfl rfl) (xq .h1)))
       ·omega
       ·refine⟨s1,by rw[s4];omega,by rw[s4];omega,x3,?_⟩;rw[<-x4,s4,show(x.bV t-(q+1)).toNat=(x.bV t-1-(q+1)).toNat+1 from og];rfl
      ·have hn:(x.bV t-(q+1)).toNat=0:=og;rw[hn]at x4;have x5:x=BB.gG ((k.toNat:Int)-q).toNat (b.gF t) t:=by rw[show((k.toNat:Int)-q).toNat=(k-q).toNat from og];exact x4
       have J6:=hI.Fk (o:=q) og hpk;rw[<-x5]at J6;refine sd (sd (st .aa (tC _ _ og _) rfl (bC rfl rfl rfl (ai .h1 rfl ?_))));rw[<-J6,BB.lR og hpk];exact⟨rfl,rfl⟩
   ·refine cd rfl ?_ ?_<;>intro h7
    ·refine eH .h1 ?_;rw[xh og (GC fun j h1 h2=>hkz j h1 og)];exact⟨rfl,rfl⟩
    ·have hkm:¬b.gz k=0:=og;omega
def UG(p o:Nat)(b:BB)(hI:b.Inv)(a:Int):Spec Tryz.prog 218 [aA p o 0,iI a] [.cells p o 71 (bO b.fv)] (fun v H1=>v=az 102 (b.rI a).1/\H1=[.cells p o 71 (bO (b.rI a).2.fv)]):=by
 refine Spec.go 80 [0,1,4,5,6,12,20,35,49] [] Tryz.func218 fun W=> ?_;refine sp 9 rfl ?_ ?_<;>intro h1
 ·refine bS .h1 ?_;have vH:=BB.qz (b:=b) (a:=a) og;rw[pE og,vH];exact⟨rfl,rfl⟩
 ·refine cd rfl ?_ ?_<;>intro h2
  ·refine bS .h1 ?_;have vH:=BB.qz (b:=b) (a:=a) og;rw[pE og,vH];exact⟨rfl,rfl⟩
  ·refine sd ?_;refine ld .aa (lS _ _) ?_;refine cd rfl ?_ ?_<;>intro h3
   ·have hu:b.ed a=0:=h3;have vH:b.is a=2:=BB.wY og ((hI.Fo a).1 hu);refine bS .h1 ?_;rw[pE og,vH];exact⟨rfl,rfl⟩
   ·have hu:¬b.ed a=0:=h3;obtain⟨ht,ho⟩:=(hI.Fo a).2 hu;have Qt:=hI.tk a ht;have KN:=hI.jA a;have vH:b.is a=0:=BB.Cb og ht;refine sd ?_;refine ld .aa (lS _ _) ?_;refine oV ?_;refine XO.v (V.sub rfl rfl (b.bV a-1) (by rw[show b.fv.u a=b.bV a from ho];exact IntWalk.i64_in _ og)) rfl (gO ?_);refine sd ?_;refine st .aa (tC _ _ og _) rfl ?_;refine lp (σ:=BB×Int) (fun x=>(7-x.1.bV x.2).toNat) (fun x=>x.1.Inv/\0<x.1.bV x.2/\x.1.tk x.2=false/\BB.kL (7-x.1.bV x.2).toNat x.1 x.2=BB.kL (7-b.bV a).toNat (b.bare a) a) (fun x=>[(1,iI x.2),(5,iI (x.1.bV x.2-1)),(0,aA p o 0)]) (fun x=>XM W (ck [.cells p o 71 (bO b.fv)]) [.cells p o 71 (bO ⟨x.1.gF x.2,(ad b.ed a 0)⟩)]) ((b.bare a,a)) ?_ S3 (fun w ml=>by
      have e:=GF (b:=b) ht
      show XM _ _ (.cells p o 71 (bO ⟨(b.bare a).gF a,ad b.ed a 0⟩)::_) w
      rw[e];exact XM.pick .h1 ml) ?_
    ·exact⟨hI.bare a,Qt,aj _ _ _,rfl⟩
    intro x hx;obtain⟨hx,x1,x2,x3⟩:=hx;have hxr:=hx.jA x.2;have hxi:=hx.zl x1;refine gC ?_;refine cd rfl ?_ ?_<;>intro h4
    ·obtain⟨r1,r2,r3⟩:=hx.zm x1 og;obtain⟨q1,q2⟩:=Th (a:=x.2) (k:=x.1.bV x.2-1) hxi og;have hjt:=hx.Pv x1 og;have hb:=Cf ((x.1.gF x.2).gz (x.1.bV x.2-1)) (x.1.dw x.2).toNat;rw[hjt]at hb;have E4:=aeC (k:=x.1.bV x.2-1) og;refine XO.v (V.shl rfl rfl og _ (GG)) rfl (gO ?_);refine XO.v (M0 rfl rfl (z:=(x.1.dw x.2)) og og og rfl (by rw[I9];exact q1)) rfl (gO ?_);refine sd ?_;refine ld .aa (dx _ _) ?_;refine XO.v (V.shr rfl rfl og _ (Xp og _)) rfl (gO ?_);refine XO.v (V.bits rfl rfl rfl (Nat.lt_of_le_of_lt (abe _ _) (lg _ _)) dq rfl) rfl (gO ?_);refine cd rfl ?_ ?_<;>intro h5
     ·have h9:(((((x.1.gF x.2).gz (x.1.bV x.2-1)) >>> (x.1.dw x.2).toNat)&&&1:Nat):Int)=0:=h5;have hc:¬x.1.jH x.2:=fun q=>by
       simp only[q,decide_true,if_true]at hb;omega
      have hx9:BB.kL (7-b.bV a).toNat (b.bare a) a=x.1:=by rw[<-x3];exact Ev _ hc
      have J6:=hI.zn vH;rw[hx9]at J6;refine rq [0,1,2,3,4,5,6,7,8,9,10,11,12] mixed ?_;refine sd ?_;refine ld .aa (dx _ _) ?_;refine XO.v (V.shl rfl rfl og _ (xr)) rfl (gO ?_);refine XO.v (V.bits rfl rfl rfl (lg _ _) (iO og) rfl) rfl (gO ?_);refine sd ?_;refine st .aa (ou _ x.1 _ og (xo x1 hxi x2)) rfl ?_;refine bS .h1 ?_;rw[<-J6,rJ vH];exact⟨rfl,rfl⟩
     ·have h9:¬(((((x.1.gF x.2).gz (x.1.bV x.2-1)) >>> (x.1.dw x.2).toNat)&&&1:Nat):Int)=0:=h5;have hc:x.1.jH x.2:=by
       apply Classical.byContradiction;intro q;simp only[q,decide_false,Bool.false_eq_true,if_false]at hb;omega
      obtain⟨j1,_,_,_,j5,j6⟩:=hx.jV x1 x2 hc;refine rq [0,1,2,3,4,5,6,7,8,9,10,11,12] mixed ?_;refine sd ?_;refine ld .aa (dx _ _) ?_;refine XO.v (V.shl rfl rfl og _ (xr)) rfl (gO ?_);refine XO.v (V.bits rfl rfl rfl (lg _ _) (iO og) rfl) rfl (gO ?_);refine sd ?_;refine st .aa (ou _ ((x.1.jV x.2).gF (min x.2 (x.1.dw x.2))) _ og (hx.Px x1 hc)) rfl ?_;refine XO.v (V.shl rfl rfl og _ (GG)) rfl (gO ?_);refine XO.v (M0 rfl rfl (z:=(min x.2 (x.1.dw x.2))) og og og rfl (by rw[I9];exact q2)) rfl (gO ?_);refine sd ?_;refine ag ((x.1.jV x.2,(min x.2 (x.1.dw x.2)))) ?_ ?_ (S3 rfl (K1 (by show x.1.bV x.2-1+1=(x.1.jV x.2).bV (min x.2 (x.1.dw x.2))-1;rw[j5];omega)) rfl) (xq .h1)
      ·
       (show(7-(x.1.jV x.2).bV (min x.2 (x.1.dw x.2))).toNat<(7-x.1.bV x.2).toNat;rw[j5];omega)
      ·refine⟨j1,by show 0<(x.1.jV x.2).bV (min x.2 (x.1.dw x.2));rw[j5];omega,j6,?_⟩;show BB.kL (7-(x.1.jV x.2).bV (min x.2 (x.1.dw x.2))).toNat (x.1.jV x.2) (min x.2 (x.1.dw x.2))=_;rw[<-x3,j5,show(7-x.1.bV x.2).toNat=(7-(x.1.bV x.2+1)).toNat+1 from og,BB.kL,if_pos hc]
    ·have hx9:BB.kL (7-b.bV a).toNat (b.bare a) a=x.1:=by rw[<-x3,show(7-x.1.bV x.2).toNat=0 from og];rfl
     have J6:=hI.zn vH;rw[hx9]at J6;refine rq [0,1,2,3,4,5,6,7,8,9,10,11,12] mixed ?_;refine sd ?_;refine ld .aa (dx _ _) ?_;refine XO.v (V.shl rfl rfl og _ (xr)) rfl (gO ?_);refine XO.v (V.bits rfl rfl rfl (lg _ _) (iO og) rfl) rfl (gO ?_);refine sd ?_;refine st .aa (ou _ x.1 _ og (xo x1 hxi x2)) rfl ?_;refine bS .h1 ?_;rw[<-J6,rJ vH];exact⟨rfl,rfl⟩
def Qu:Spec Tryz.prog 98 [] [] (fun v H1=>∃ kb pb,v=aA kb 0 0/\H1=[.cells kb 0 577 (dM pb VB.cK.iD VB.cK.rf),.cells pb 0 71 (bO VB.cK.bb.fv)]):=by
 refine Spec.go 4 [0] [] Tryz.func98 fun W=> ?_;refine ca (ae5) .nil ?_;rintro _ _ ⟨pb,rfl,rfl⟩;refine gO ?_;refine XO.v (V.build (vs:= #[(0,aA pb 0 0)]) rfl (v:=.agg (zKl pb).toArray) fun _=>kq) rfl (gO ?_);refine XO.box (m:=577) (C:=dM pb VB.cK.iD VB.cK.rf) rfl rfl (abi _) rfl ?_;intro kb;refine gO ?_;refine bS (pz 2) ?_;exact⟨_,_,rfl,rfl⟩
def ae6(kb:Nat):Spec Tryz.prog 103 [aA kb 0 0] [] (fun v H1=>∃ mb,v=aA mb 0 0/\H1=[.cells mb 0 34 (b6 kb none (ah MS.nil.ay).length 0 MS.nil.fr MS.nil.aS),aM none 0 171 3 (ah MS.nil.ay).length (fa (ah MS.nil.ay))]):=by
 refine Spec.go 19 [0,2,3,4,8,9] [] Tryz.func103 fun W=> ?_;refine XO.v (V.build (vs:= #[(0,aA kb 0 0)]) rfl (v:=.agg (zNl kb).toArray) fun _=>kq) rfl (gO ?_);refine XO.box (m:=34) (C:=b6 kb none 0 0 (ZG 0) fun _=>false) rfl rfl (fun i hi=>(Tv _ i hi).trans (congrFun (rO fun i h0 h1=>⟨by unfold ZG;first | rw[if_neg og] | rw[if_pos og],rfl⟩) i)) rfl ?_;intro mb;refine gO ?_;refine lp (σ:=Int) (fun i=>(16-i).toNat) (fun i=>0<=i/\i<=16) (fun i=>[(8,iI i),(3,aA mb 0 0)]) (fun i=>XM W (ck []) [.cells mb 0 34 (b6 kb none 0 0 (ZG i) fun _=>false)]) (0) ?_ S2 (xq .h1) ?_
 ·omega
 intro i hi;refine gC ?_;refine cd rfl ?_ ?_<;>intro h1
 ·refine sd (st .aa (pF _ _ _ _ _ _ _ og _) rfl (sd (ag (i+1) ?_ ?_ S2 fun _ hw=>by rw[<-Tw hi.1];exact XM.pick .h1 hw)));all_goals omega
 ·refine XR.ft 171 3 (bh rfl rfl (ai (pk [1,0]) rfl ?_));have e:i=16:=og;subst e;rw[Tx];exact⟨_,rfl,by rw[show b6 kb none 0 0 (ZG 16) (fun _=>false)=b6 kb none 0 0 (fun _=>0) (fun _=>false)from rO fun i h0 h1=>⟨by unfold ZG;rw[if_pos og],rfl⟩];rfl⟩
def UH(kb pb:Nat)(v:VB)(hv:v.Ok):Spec Tryz.prog 230 [aA kb 0 0] [.cells kb 0 577 (dM pb v.iD v.rf),.cells pb 0 71 (bO v.bb.fv),.ro 1 0 64 ix] (fun x H1=>x= .tuple #[iI v.take.1,az 102 v.take.2.1]/\H1=[.cells kb 0 577 (dM pb v.take.2.2.iD v.take.2.2.rf),.cells pb 0 71 (bO v.take.2.2.bb.fv)]):=by
 refine Spec.go 29 [0,2,3,4,5,15] [] Tryz.func230 fun W=> ?_;refine ld .aa (dM.Jg _ _ _) ?_;refine HQ 1 (ab6 _ _ _ hv.bb _) (pk [1,1]) rfl ?_;refine cd rfl ?_ ?_<;>intro h1
 ·have wK:¬(v.bb.take 0).2.1=0:=h1;have hfl:=GK h1;refine eH (pk [2,0]) ?_;rw[mH wK];exact⟨rfl,by rw[hfl]⟩
 ·have Ee:(v.bb.take 0).2.1=0:=og;have hw:=(hv.bb.Cx Ee).2.1;refine sd (st (.t2 .aa) (lT _ _ _ _ og _) rfl (XO.v (V.build (vs:= #[]) rfl (v:=.agg (Ts fun _=>0)) fun _=>kq) rfl (gO ?_)));refine sd (fW (.t2 .aa) (Fu _ _ _ _ _) rfl ⟨rfl,rfl⟩ (bC rfl rfl rfl (ai (pk [2,0]) rfl ?_)));rw[VB.lR Ee];exact⟨rfl,rfl⟩
def ab7(kb pb:Nat)(v:VB)(hv:v.Ok)(f:Int)(hf:0<=f/\f<64)(h1:1<=v.rf f):Spec Tryz.prog 179 [aA kb 0 0,iI f] [.cells kb 0 577 (dM pb v.iD v.rf),.cells pb 0 71 (bO v.bb.fv),.ro 1 0 64 ix] (fun x H1=>x= .tuple #[]/\H1=[.cells kb 0 577 (dM pb (v.drop f).iD (v.drop f).rf),.cells pb 0 71 (bO (v.drop f).bb.fv)]):=by
 have hb:=hv.rf f;refine Spec.go 27 [0,1,20] [] Tryz.func179 fun W=> ?_;refine rq [0,1,2,3,4,5,6,7,8,9,10] mixed ?_;refine sd ?_;refine ld .aa (iP _ _ _ _) ?_;refine sd ?_;refine sd ?_;refine st .aa (lT _ _ _ _ og _) rfl ?_;refine sd ?_;refine ld .aa (iP _ _ _ _) ?_;have e1:ad v.rf f (v.rf f-1) f=v.rf f-1:=aj _ _ _;refine cd rfl ?_ ?_<;>intro h1
 ·refine ld .aa (dM.Jg _ _ _) ?_;refine cq (UG _ _ _ hv.bb _) (pk [1]) ?_;refine cS rfl (ai (pk [1,0]) rfl ?_);grind [zv]
 ·refine cS rfl (ai (pz 2) rfl ?_);grind [zw]
def Ml(a n:Int):Spec Tryz.prog 177 [iI a,iI n] [] (fun x H1=>x=az 102 (if gn a n then 1 else 0)/\H1=[]):=by
 refine Spec.go 22 [0,1,4,20] [] Tryz.func177 fun W=> ?_;refine sp 7 rfl ?_ ?_<;>intro h1
 ·refine bS .nil ?_;first | (rw[if_neg (by unfold gn;omega)];exact⟨rfl,rfl⟩) | (rw[if_pos (by unfold gn;omega)];exact⟨rfl,rfl⟩)
 ·refine sp 11 rfl ?_ ?_<;>intro h2
  ·refine bS .nil ?_;first | (rw[if_neg (by unfold gn;omega)];exact⟨rfl,rfl⟩) | (rw[if_pos (by unfold gn;omega)];exact⟨rfl,rfl⟩)
  ·refine sp 15 rfl ?_ ?_<;>intro h3
   ·refine bS .nil ?_;first | (rw[if_neg (by unfold gn;omega)];exact⟨rfl,rfl⟩) | (rw[if_pos (by unfold gn;omega)];exact⟨rfl,rfl⟩)
   ·refine sd ?_;refine cd rfl ?_ ?_<;>intro h4
    ·refine bS .nil ?_;first | (rw[if_neg (by unfold gn;omega)];exact⟨rfl,rfl⟩) | (rw[if_pos (by unfold gn;omega)];exact⟨rfl,rfl⟩)
    ·refine bS .nil ?_;first | (rw[if_neg (by unfold gn;omega)];exact⟨rfl,rfl⟩) | (rw[if_pos (by unfold gn;omega)];exact⟨rfl,rfl⟩)
end Go.X.Vm

namespace Go.X.Vm
open Go Go.X
set_option maxRecDepth 20000
set_option maxHeartbeats 4000000
structure RB where
 f:Fin 17
 n:Int
 w:Bool
instance:Inhabited RB:=⟨⟨0,0,false⟩⟩
def RB.rg(x:RB):RG:=⟨((x.f:Nat):Int),x.n,x.w⟩
def RG.rb(r:RG):RB:=⟨⟨r.fr.toNat%17,Nat.mod_lt _ og⟩,r.n,r.w⟩
theorem RG.ae7{r:RG}(h:0<=r.fr/\r.fr<=16):r.rb.rg=r:=by
 cases r with
 | mk f n w=>
  simp only[RG.rb,RB.rg,RG.mk.injEq,and_true];simp only at h;have:f.toNat%17=f.toNat:=Nat.mod_eq_of_lt og;simp only[this];omega
def fm(x:RB):List Value:=[iI ((x.f:Nat):Int),iI x.n,.bool x.w]
def Qv(x y:RB):Int:=((x.f:Nat):Int)-((y.f:Nat):Int)
theorem Bx(x y:RB):Go.Proofs.ltOf Qv x y=decide ((x.f:Nat)<(y.f:Nat)):=by
 unfold Go.Proofs.ltOf Qv;grind
def UI:Sort.SWO (Go.Proofs.ltOf Qv) where
 irrefl x:=by rw[Bx];simp
 trans x y z h1 h2:=by rw[Bx]at*;simp only[decide_eq_true_eq]at*;omega
 ntrans x y z h1 h2:=by rw[Bx]at*;simp only[decide_eq_false_iff_not]at*;omega
def UJ(x:RB):(fm x).length=3:=rfl
def UK(x:RB):∀ v∈fm x,v.oneCell'=true:=fun v hv=>by
 simp[fm]at hv;rcases hv with rfl | rfl | rfl<;>rfl
theorem N1(d:Array RB):(Sort.flatK fm 3 d).toList=bZ (fa (d.toList.map RB.rg)) (d.size*3):=by
 unfold Sort.flatK bZ;rw[Array.toList_map,Array.toList_range];apply List.map_congr_left;intro t ht;have N2:t<d.size*3:=by simpa using ht
 have e:(d.toList.map RB.rg).getD (t/3) RG.nil=(d[t/3]!).rg:=by
  grind
 unfold fa;rw[e];have h:t%3=0\/t%3=1\/t%3=2:=og;rcases h with h | h | h<;>rw[h]<;>rfl
def Ho{P:Program}{ρ:Shelf.Ren}(L:Go.Proofs.SlLaysF0.n6 P ρ)(aE:∀ w,(isAgg (ρ.t 24)).run P w= .ok true w)(zE:∀ w,(Go.sizeOf (ρ.t 24)).run P w= .ok 3 w)(KJ:Nat)(eg:∀ args w,(callFunc KJ args).run P w= .ok (.enter KJ args) w)(hc:WV P KJ fm Qv)(p:Option Addr)(c:Nat)(e:TypeId)(l:List RG)(hl:∀ r∈l,0<=r.fr/\r.fr<=16)(qi:l.length<=100000):Spec P (ρ.f 6) [.slice p l.length c,.func (.func KJ) #[] #[]] [aM p c e 3 l.length (fa l)] (fun v H1=>v= .tuple #[]/\∃ l':List RG,l.Perm l'/\l'.Pairwise (fun x y=>x.fr<=y.fr)/\H1=[aM p c e 3 l.length (fa l')]):=by
 have Lc:((l.map RG.rb).map RB.rg)=l:=by
  rw[List.map_map];conv=>rhs;rw[<-List.map_id l]
  grind [List.map_congr_left,RG.ae7]
 have h:=Sq L 3 aE zE fm UJ UK Qv UI KJ eg hc p l.length c e (l.map RG.rb).toArray sq og;rw[N1]at h;simp only[List.toList_toArray,Lc,List.size_toArray,List.length_map]at h;intro w hw;refine(h w hw).mono ?_;rintro ee w' ⟨v,H',he,⟨hv,d',hp,hs,hH⟩,h3,h4⟩;have KF:d'.size=l.length:=by rw[hp.1];simp
 have hpm:d'.toList.Perm (l.map RG.rb):=by
  have h2:=hp.2.2;grind [Array.extract_size]
 refine⟨v,H',he,⟨hv,d'.toList.map RB.rg,?_,?_,?_⟩,h3,h4⟩
 ·have:=hpm.map RB.rg;rw[Lc]at this;exact this.symm
 ·rw[List.pairwise_map,List.pairwise_iff_getElem];intro i j hi hj HW;have hj':j<d'.size:=by simpa using hj
  have HN:i<d'.size:=og;have:=hs i j (Nat.zero_le _) HW og;grind [Bx,RB.rg]
 grind [N1]
end Go.X.Vm


namespace Go.Proofs
open Go.Shelf
def J7:Go.Shelf.Ren:=⟨fun | 6=>219 | 15=>242 | 14=>241 | 28=>262 | 29=>263 | 20=>254 | 21=>255 | 22=>256 | 23=>257 | 24=>258 | 25=>259 | 26=>260 | 27=>261 | 46=>272 | 47=>273 | 48=>274 | 49=>275 | 50=>276 | 57=>283 | n=>n,fun | 22=>140 | 24=>171 | 25=>250 | 3=>3 | 39=>258 | 0=>0 | 53=>257 | 55=>29 | 4=>4 | 46=>283 | 45=>282 | 50=>118 | 5=>5 | 9=>9 | 66=>294 | 70=>232 | 76=>302 | 77=>303 | n=>n,fun | n=>n⟩
def Ym:Go.Proofs.SlLaysF0.n6 Tryz.prog J7:= {
 mixed:=by kernel_rfl
 f6:=⟨Tryz.f219.name,by decide,Tryz.func219.trans (congrArg some (by kernel_rfl))⟩
 f14:=⟨Tryz.f241.name,by decide,Tryz.func241.trans (congrArg some (by kernel_rfl))⟩
 f15:=Tryz.func242.trans (congrArg some (by kernel_rfl))
 f20:=⟨Tryz.f254.name,by decide,Tryz.func254.trans (congrArg some (by kernel_rfl))⟩
 f21:=⟨Tryz.f255.name,by decide,Tryz.func255.trans (congrArg some (by kernel_rfl))⟩
 f22:=⟨Tryz.f256.name,by decide,Tryz.func256.trans (congrArg some (by kernel_rfl))⟩
 f23:=⟨Tryz.f257.name,by decide,Tryz.func257.trans (congrArg some (by kernel_rfl))⟩
 f24:=⟨Tryz.f258.name,by decide,Tryz.func258.trans (congrArg some (by kernel_rfl))⟩
 f25:=⟨Tryz.f259.name,by decide,Tryz.func259.trans (congrArg some (by kernel_rfl))⟩
 f26:=⟨Tryz.f260.name,by decide,Tryz.func260.trans (congrArg some (by kernel_rfl))⟩
 f27:=⟨Tryz.f261.name,by decide,Tryz.func261.trans (congrArg some (by kernel_rfl))⟩
 f28:=Tryz.func262.trans (congrArg some (by kernel_rfl))
 f29:=Tryz.func263.trans (congrArg some (by kernel_rfl))
 f46:=⟨Tryz.f272.name,by decide,Tryz.func272.trans (congrArg some (by kernel_rfl))⟩
 f47:=Tryz.func273.trans (congrArg some (by kernel_rfl))
 f48:=Tryz.func274.trans (congrArg some (by kernel_rfl))
 f49:=⟨Tryz.f275.name,by decide,Tryz.func275.trans (congrArg some (by kernel_rfl))⟩
 f50:=⟨Tryz.f276.name,by decide,Tryz.func276.trans (congrArg some (by kernel_rfl))⟩
 f57:=⟨Tryz.f283.name,by decide,Tryz.func283.trans (congrArg some (by kernel_rfl))⟩
 t0:=Tryz.underlying0
 a0:=Tryz.isAgg0
 z0:=Tryz.sizeOf0
 v0:=Tryz.zeroValue0
 t3:=Tryz.underlying3
 a3:=Tryz.isAgg3
 z3:=Tryz.sizeOf3
 v3:=Tryz.zeroValue3
 t4:=Tryz.underlying4
 a4:=Tryz.isAgg4
 z4:=Tryz.sizeOf4
 v4:=Tryz.zeroValue4
 t5:=Tryz.underlying5
 a5:=Tryz.isAgg5
 z5:=Tryz.sizeOf5
 v5:=Tryz.zeroValue5
 t9:=Tryz.underlying9
 a9:=Tryz.isAgg9
 z9:=Tryz.sizeOf9
 v9:=Tryz.zeroValue9
 t22:=Tryz.underlying140
 a22:=Tryz.isAgg140
 z22:=Tryz.sizeOf140
 v22:=Tryz.zeroValue140
 t25:=Tryz.underlying250
 a25:=Tryz.isAgg250
 z25:=Tryz.sizeOf250
 v25:=Tryz.zeroValue250
 t39:=Tryz.underlying258
 a39:=Tryz.isAgg258
 z39:=Tryz.sizeOf258
 v39:=Tryz.zeroValue258
 t45:=Tryz.underlying282
 a45:=Tryz.isAgg282
 z45:=Tryz.sizeOf282
 v45:=Tryz.zeroValue282
 t46:=Tryz.underlying283
 a46:=Tryz.isAgg283
 z46:=Tryz.sizeOf283
 v46:=Tryz.zeroValue283
 t50:=Tryz.underlying118
 a50:=Tryz.isAgg118
 z50:=Tryz.sizeOf118
 v50:=Tryz.zeroValue118
 t53:=Tryz.underlying257
 a53:=Tryz.isAgg257
 z53:=Tryz.sizeOf257
 v53:=Tryz.zeroValue257
 t55:=Tryz.underlying29
 a55:=Tryz.isAgg29
 z55:=Tryz.sizeOf29
 v55:=Tryz.zeroValue29
 t66:=Tryz.underlying294
 a66:=Tryz.isAgg294
 z66:=Tryz.sizeOf294
 v66:=Tryz.zeroValue294
 t70:=Tryz.underlying232
 a70:=Tryz.isAgg232
 z70:=Tryz.sizeOf232
 v70:=Tryz.zeroValue232
 t76:=Tryz.underlying302
 a76:=Tryz.isAgg302
 z76:=Tryz.sizeOf302
 v76:=Tryz.zeroValue302
 t77:=Tryz.underlying303
 a77:=Tryz.isAgg303
 z77:=Tryz.sizeOf303
 v77:=Tryz.zeroValue303}
end Go.Proofs

namespace Go.X.Vm
open Go Go.Proofs Go.X
set_option maxRecDepth 20000
set_option maxHeartbeats 4000000
def ab8:ny Tryz.prog 142=true:=kq
def ab9:c9 Tryz.prog 227=true:=kq
def l9:rh Tryz.prog 171 3=true:=kq
def lF:jD Tryz.prog 3=true:=kq
def UL:fb Tryz.prog 142=some 2:=kq
def ae8:WV Tryz.prog 220 fm Qv:=fun x y w=>by
 refine enter (ps:=[2,3,4]) (cs:=[]) Tryz.func220 rfl rfl ?_ (M:=fun w'=>w'=w) rfl
 refine gC (K:=[]) (Q0:=bodyPost _ _ _) (XO.aeh rfl rfl (XO.aeh rfl rfl ?_))
 refine gO ?_
 refine oL (XO.l (Nb (v:=iI ((x.f:Nat):Int)) rfl (fun w' hw=>by rw[hw];exact WW rfl) lF) rfl (gO ?_))
 refine oL (XO.l (Nb (v:=iI ((y.f:Nat):Int)) rfl (fun w' hw=>by rw[hw];exact Sl rfl) lF) rfl (gO ?_))
 refine sd ?_ (by have:=x.f.isLt;have:=y.f.isLt;omega)
 exact bh rfl rfl fun w' hw=>⟨rfl,_,hw.trans (Sm _ _ _)⟩
def aca(p:Option Addr)(c:Nat)(l:List RG)(hl:∀ r∈l,0<=r.fr/\r.fr<=16)(qi:l.length<=100000):Spec Tryz.prog 219 [.slice p l.length c,.func (.func 220) #[] #[]] [aM p c 171 3 l.length (fa l)] (fun v H1=>v= .tuple #[]/\∃ l':List RG,l.Perm l'/\l'.Pairwise (fun x y=>x.fr<=y.fr)/\H1=[aM p c 171 3 l.length (fa l')]):=
 Ho Ym Tryz.isAgg171 Tryz.sizeOf171 220 (Go.Proofs.enters_of Tryz.func220 kq rfl) ae8 p c 171 l hl qi
def ae9(cn:Nat)(n:Int)(r:RG)(hr:0<=r.fr/\0<=r.n/\r.fr+r.n<=100):Spec Tryz.prog 227 [.agg r.cQ,aA cn 0 0] [.cells cn 0 1 (aF (iI n))] (fun v H1=>v= .bool (r.Ty n)/\H1=[.cells cn 0 1 (aF (iI n))]):=by
 refine Spec.go 17 [1,2,3] [] Tryz.func227 fun W=> ?_;refine XO.box (m:=3) (C:=pe (r)) rfl rfl (pe.box _) rfl ?_;intro bx;refine gO ?_;refine ld (.ao .aa) (aF.ld _) ?_;refine ld .aa (pe.f _) ?_;refine sp 8 rfl ?_ ?_<;>intro h1
 ·refine ld (.ao .aa) (aF.ld _) ?_;refine ld .aa (pe.f _) ?_;refine ld .aa (pe.n _) ?_;refine sd ?_;refine bS (pk [1]) ?_;exact⟨congrArg Value.bool (by rw[Bool.eq_iff_iff];unfold RG.Ty;simp;omega),rfl⟩
 ·refine bS (pk [1]) ?_;exact⟨congrArg Value.bool (by rw[Bool.eq_iff_iff];unfold RG.Ty;simp;omega),rfl⟩
def ahJ(cn:Nat)(n:Int)(p:Option Addr)(c:Nat)(l:List RG)(hl:∀ r∈l,0<=r.fr/\0<r.n/\r.fr+r.n<=16)(hlen:l.length<=100):Spec Tryz.prog 226 [.slice p l.length c,.func (.func 227) #[] #[aA cn 0 0]] [aM p c 171 3 l.length (fa l),.cells cn 0 1 (aF (iI n))] (fun v H1=>(∃ k:Int,v=iI k/\atP l n k)/\H1=[aM p c 171 3 l.length (fa l),.cells cn 0 1 (aF (iI n))]):=by
 refine Spec.go 19 [0,1,4,5,7,8,9,16] [] Tryz.func226 fun W=> ?_;refine lp (σ:=Int) (fun i=>(l.length-i).toNat) (fun i=>(0<=i/\i<=l.length)/\∀ j:Int,0<=j->j<i->¬(bB l j).has n) (fun i=>[(8,iI i),(0,.slice p l.length c),(1,.func (.func 227) #[] #[aA cn 0 0]),(7,iI l.length)]) (fun i=>XM W (ck [aM p c 171 3 l.length (fa l),.cells cn 0 1 (aF (iI n))]) [aM p c 171 3 l.length (fa l),.cells cn 0 1 (aF (iI n))]) (0) ?_ S4 (xq (pz 2)) ?_
 ·grind
 intro i hi;obtain⟨hi,wK⟩:=hi;refine gC ?_;refine cd rfl ?_ ?_<;>intro h1
 ·refine bL .aa og ?_;intro g1 h2;subst h2;refine sd ?_;refine qs .aa (fa.agg og) ?_;refine XO.Sj (cs:=[aA cn 0 0]) rfl rfl (ae9 _ n _ (by have:=hl _ (xx (l:=l) (z:=i));omega)) (pk [1]) ab9 rfl ?_;rintro _ _ ⟨rfl,rfl⟩;refine gO ?_;refine yW ?_ ?_<;>intro h3
  ·try simp only[sb]at h3
   refine bS (pk [1,0]) ?_;exact⟨⟨i,rfl,.inr ⟨og,(AE _ _).1 aq⟩⟩,rfl⟩
  ·try simp only[sb]at h3
   refine sd ?_;refine ag (i+1) ?_ ?_ S4 (xq (pk [1,0]));all_goals grind [AE]
 ·refine bS (pz 2) ?_;exact⟨⟨-1,rfl,.inl ⟨rfl,fun r hr=>by obtain⟨z,hz,rfl⟩:=Xu hr;exact wK z hz.1 og⟩⟩,rfl⟩
def Yn(kb mb:Nat)(p:Option Addr)(c:Nat)(m:MS)(hm:m.Ok)(n:Int):Spec Tryz.prog 198 [aA mb 0 0,iI n] [.cells mb 0 34 (b6 kb p (ah m.ay).length c m.fr m.aS),aM p c 171 3 (ah m.ay).length (fa (ah m.ay))] (fun v H1=>(∃ k:Int,v=iI k/\atP (ah m.ay) n k)/\H1=[.cells mb 0 34 (b6 kb p (ah m.ay).length c m.fr m.aS),aM p c 171 3 (ah m.ay).length (fa (ah m.ay))]):=by
 refine Spec.go 11 [0,3,4] [] Tryz.func198 fun W=> ?_;refine XO.box (m:=1) (C:=aF (iI n)) rfl rfl (fun _ _=>rfl) rfl ?_;intro cn;refine gO ?_;refine ld (.ao .aa) (lu _ _ _ _ _ _) ?_;refine XO.v (Iw rfl) rfl (gO ?_);refine ca (ahJ _ _ _ _ _ (jI hm.f).b (by have:=qL m.ay;omega)) (pk [2,0]) ?_;rintro _ _ ⟨⟨k,rfl,hk⟩,rfl⟩;refine gO ?_;refine bS (pk [2,0]) ?_;exact⟨⟨k,rfl,hk⟩,rfl⟩
def Yo(p:Option Addr)(c:Nat)(l:List RG)(hn:l.length<=100):Spec Tryz.prog 124 [.slice p l.length c] [aM p c 171 3 l.length (fa l)] (fun v H1=>∃ p1 c1,v= .slice p1 l.length c1/\H1=[aM p c 171 3 l.length (fa l),aM p1 c1 171 3 l.length (fa l)]):=by
 refine Spec.go 8 [0,2,4] [] Tryz.func124 fun W=> ?_;refine XO.v (kX rfl Tryz.underlying140 rfl) rfl (gO ?_);refine cd rfl ?_ ?_<;>intro h1
 ·subst h1;refine OZ .aa ?_;intro WX;refine XR.ft 171 3 (bh rfl rfl (ai (pk [1,0]) rfl ?_));exact⟨none,0,by rw[WX];rfl,by rw[WX];rfl⟩
 ·refine R8 .aa h1 ?_;intro g hg;subst hg;refine gQ (e:=171) (vs:= #[]) (A:= #[]) (sz:=3) rfl (fun _=>kq) rfl og rfl ?_;intro b1;refine gO ?_;refine XO.OU (e:=171) rfl rfl Tryz.underlying140 l9 .aa (.ao .aa) PG og rfl ?_;intro p1 c1;refine gO ?_;refine bS (pk [1,0]) ?_;exact⟨p1,c1,by simp only[Nat.zero_add];rfl,by simp only[Nat.zero_add,List.nil_append]⟩
def wD(kb mb:Nat)(p:Option Addr)(c:Nat)(m:MS)(hm:m.Ok):Spec Tryz.prog 50 [aA mb 0 0] [.cells mb 0 34 (b6 kb p (ah m.ay).length c m.fr m.aS)] (fun v H1=>v=iI m.Cu/\H1=[.cells mb 0 34 (b6 kb p (ah m.ay).length c m.fr m.aS)]):=by
 refine Spec.go 20 [0,2,3,5,9,10,11,15] [] Tryz.func50 fun W=> ?_;refine lM .aa (LB _ _ _ _ _ _) ?_;refine lp (σ:=Int) (fun i=>(16-i).toNat) (fun i=>0<=i/\i<=16) (fun i=>[(10,iI i),(3,iI (Ew m.fr i.toNat)),(9,.agg (pgA m.fr m.aS))]) (fun i=>XM W (ck [.cells mb 0 34 (b6 kb p (ah m.ay).length c m.fr m.aS)]) [.cells mb 0 34 (b6 kb p (ah m.ay).length c m.fr m.aS)]) (0) ?_ S3 (xq .h1) ?_
 ·omega
 intro i hi;have I3:=hm.lo i;have hrs:=Ny m.fr i.toNat;refine gC ?_;refine cd rfl ?_ ?_<;>intro h1
 ·refine XO.v (Ix rfl rfl Tryz.underlying143 UL ab8 og (abk og)) rfl (gO ?_);refine XO.bJ (z:=.agg #[iI 0,.bool false]) (m:=2) (C:=NB 0 false) (NB.box _ _) ?_;intro pb;refine gO ?_;refine fW .aa (NB.st _ _ _ _) rfl ⟨rfl,rfl⟩ (ld .aa (NB.f _ _) ?_);refine cd rfl ?_ ?_<;>intro h2
  ·refine sd (sd (ag (i+1) ?_ ?_ (S3 rfl (K1 (by rw[Fq _ hi.1,if_pos og])) rfl) (xq (pk [1]))));all_goals omega
  ·refine sd (ag (i+1) ?_ ?_ (S3 rfl (K1 (by rw[Fq _ hi.1,if_neg og];omega)) rfl) (xq (pk [1])));all_goals omega
 ·refine bS .h1 ?_;have e:i=16:=og;subst e;exact⟨rfl,rfl⟩
end Go.X.Vm
