import Derived.Test.YthdinakloheinaaGreatDoorkSW
set_option linter.all false
namespace Go.X.Fa
open Go Go.Proofs Go.X
set_option maxRecDepth 20000
set_option maxHeartbeats 4000000
def UC:rh Tryz.prog 254 2=true:=kq
def UD:fb Tryz.prog 254=some 2:=kq
def Mj(k i k2 i2:Int):Spec Tryz.prog 243 [.agg #[.int .u64 (k),iI (i)],.agg #[.int .u64 (k2),iI (i2)]] [] (fun v H1=>v= .bool (decide (An k i k2 i2))/\H1=[]):=by
 refine Spec.go 24 [2,3,4] [] Tryz.func243 fun W=> ?_;refine XO.box (m:=2) (C:=qx k i) rfl rfl (yY _ _) rfl ?_;intro ba;refine gO ?_;refine XO.box (m:=2) (C:=qx k2 i2) rfl rfl (yY _ _) rfl ?_;intro bc;refine gO ?_;refine ld (.ao .aa) (ux _ _) ?_;refine ld .aa (ux _ _) ?_;refine sp 10 rfl ?_ ?_<;>intro h1
 ·refine bS .nil ?_;grind [aK,aJ,aR,An]
 ·refine ld (.ao .aa) (ux _ _) ?_;refine ld .aa (ux _ _) ?_;refine sp 16 rfl ?_ ?_<;>intro h2
  ·refine ld (.ao .aa) (wX _ _) ?_;refine ld .aa (wX _ _) ?_;refine bS .nil ?_;grind [aK,aJ,An]
  ·refine bS .nil ?_;grind [aK,aJ,aR,An]
def Dk(b o g cap:Nat)(s:QS)(i k id:Int)(hi:0<=i/\i<s.n:=by omega)(hd:0<=id/\id<64:=by omega)(hn:s.n<=1000:=by omega):Spec Tryz.prog 224 [aA b o 0,iI i,.agg #[.int .u64 (k),iI (id)]] [.cells b o 65 (fY (s) (some ⟨g,0,none⟩) cap),aM (some ⟨g,0,none⟩) cap 254 2 (s).n (gV (s))] (fun v H1=>v= .tuple #[]/\H1=[.cells b o 65 (fY (s.set i k id) (some ⟨g,0,none⟩) cap),aM (some ⟨g,0,none⟩) cap 254 2 (s.set i k id).n (gV (s.set i k id))]):=by
 refine Spec.go 21 [0,1,5] [] Tryz.func224 fun W=> ?_;refine XO.box (m:=2) (C:=qx k id) rfl rfl (yY _ _) rfl ?_;intro bx;refine gO ?_;refine rq [0,1,2,3,4,5,6,7] mixed ?_;refine ld (.ao .aa) (ir _ _ _) ?_;refine lM .aa (jS _ _) ?_;refine sd ?_;refine agK (.t2 .aa) (Ss _ _ _ _ _ og) rfl ⟨rfl,rfl⟩ ?_;refine rq [0,1,2,3,4,5,6,7,8] mixed ?_;refine ld .aa (wX _ _) ?_;refine sd ?_;refine sd ?_;refine st (.ao .aa) (B8 _ _ _ _ _ og) rfl ?_;refine cS rfl (ai (pk [1,1]) rfl ?_);exact⟨rfl,rfl⟩
def aeY(b o g cap:Nat)(s:QS)(i:Int)(hi:0<=i/\i<s.n)(hR:s.V4)(hn:s.n<=1000:=by omega):Spec Tryz.prog 223 [aA b o 0,iI i] [.cells b o 65 (fY (s) (some ⟨g,0,none⟩) cap),aM (some ⟨g,0,none⟩) cap 254 2 (s).n (gV (s))] (fun v H1=>v= .tuple #[]/\H1=[.cells b o 65 (fY (s.up i) (some ⟨g,0,none⟩) cap),aM (some ⟨g,0,none⟩) cap 254 2 (s.up i).n (gV (s.up i))]):=by
 obtain⟨r1,r2⟩:=hR i hi.1 hi.2;refine Spec.go 46 [0,1,4,26] [] Tryz.func223 fun W=> ?_;refine ld .aa (ir _ _ _) ?_;refine sd ?_;refine qs (.ao .aa) (km _ _ _) ?_;refine XO.bJ (z:=.agg #[.int .u64 0,iI 0]) (m:=2) (C:=cellsOf #[.int .u64 0,iI 0]) (fun _ _=>rfl) ?_;intro bx;refine gO ?_;refine fW .aa (yZ _ _) rfl ⟨rfl,rfl⟩ ?_;refine lp (σ:=QS×Int) (fun x=>x.2.toNat) (fun x=>x.1.n=s.n/\(0<=x.2/\x.2<s.n)/\x.1.V4/\QS.D1 x.2.toNat x.1 x.2 (s.K i) (s.I i)=s.up i) (fun x=>[(1,iI x.2),(0,aA b o 0),(4,aA bx 0 0)]) (fun x=>XM W (ck [.cells b o 65 (fY (s) (some ⟨g,0,none⟩) cap),aM (some ⟨g,0,none⟩) cap 254 2 (s).n (gV (s))]) [.cells bx 0 2 (qx (s.K i) (s.I i)),.cells b o 65 (fY (x.1) (some ⟨g,0,none⟩) cap),aM (some ⟨g,0,none⟩) cap 254 2 (x.1).n (gV (x.1))]) ((s,i)) ?_ S3 (xq (pz 3)) ?_
 ·exact⟨rfl,hi,hR,rfl⟩
 intro x hx;obtain⟨xn,xi,xR,xu⟩:=hx;refine gC ?_;refine rq [0,1,2,3,4,5,6,7,8,9,10,11,12,13,14] mixed ?_;refine sp 14 rfl ?_ ?_<;>intro h1
 ·have HP:0<=((x.2-1)/2)/\((x.2-1)/2)<x.1.n:=og;have hpr:=xR ((x.2-1)/2) HP.1 HP.2;refine lM .aa (jS _ _) ?_;refine ld (.ao .aa) (ir _ _ _) ?_;refine sd ?_;refine XO.v (V.quo rfl rfl (by first | decide | omega) _ (sV)) rfl (gO ?_);refine sd ?_;refine qs (.t2 .aa) (km _ _ _) ?_;refine cq (Mj _ _ _ _) .nil ?_;refine cd rfl ?_ ?_<;>intro h2
  ·have qh:QS.D1 x.2.toNat x.1 x.2 (s.K i) (s.I i)=QS.D1 (((x.2-1)/2)).toNat (x.1.set x.2 (x.1.K ((x.2-1)/2)) (x.1.I ((x.2-1)/2))) ((x.2-1)/2) (s.K i) (s.I i):=IA og h2;refine ld (.ao .aa) (ir _ _ _) ?_;refine sd ?_;refine XO.v (V.quo rfl rfl (by first | decide | omega) _ (sV)) rfl (gO ?_);refine sd ?_;refine qs (.t2 .aa) (km _ _ _) ?_;refine cq (Dk _ _ _ _ _ _ _ _) (pk [1,1]) ?_;refine sd ?_;refine XO.v (V.quo rfl rfl (by first | decide | omega) _ (sV)) rfl (gO ?_);refine ag ((x.1.set x.2 (x.1.K ((x.2-1)/2)) (x.1.I ((x.2-1)/2)),((x.2-1)/2))) ?_ ?_ S3 (xq (pk [2,0,0]));all_goals grind [QS.V4.set,QS.set]
  ·have qh:QS.D1 x.2.toNat x.1 x.2 (s.K i) (s.I i)=x.1.set x.2 (s.K i) (s.I i):=Aq fun q=>h2 q.2;rw[qh]at xu;refine lM .aa (jS _ _) ?_;refine cq (Dk _ _ _ _ _ _ _ _) (pk [1,1]) ?_;refine cS rfl (ai (pz 2) rfl ?_);simp_all
 ·have qh:QS.D1 x.2.toNat x.1 x.2 (s.K i) (s.I i)=x.1.set x.2 (s.K i) (s.I i):=Aq fun q=>og;rw[qh]at xu;refine lM .aa (jS _ _) ?_;refine cq (Dk _ _ _ _ _ _ _ _) (pk [1,1]) ?_;refine cS rfl (ai (pz 2) rfl ?_);simp_all
def ab0(b o g cap:Nat)(s:QS)(i:Int)(hi:0<=i/\i<s.n)(hR:s.V4)(hn:s.n<=1000):Spec Tryz.prog 225 [aA b o 0,iI i] [.cells b o 65 (fY (s) (some ⟨g,0,none⟩) cap),aM (some ⟨g,0,none⟩) cap 254 2 (s).n (gV (s))] (fun v H1=>v= .tuple #[]/\H1=[.cells b o 65 (fY (s.down i) (some ⟨g,0,none⟩) cap),aM (some ⟨g,0,none⟩) cap 254 2 (s.down i).n (gV (s.down i))]):=by
 obtain⟨r1,r2⟩:=hR i hi.1 hi.2;refine Spec.go 78 [0,1,4,5,41,62] [(2,1)] Tryz.func225 fun W=> ?_;refine ld .aa (ir _ _ _) ?_;refine sd ?_;refine qs (.ao .aa) (km _ _ _) ?_;refine XO.bJ (z:=.agg #[.int .u64 0,iI 0]) (m:=2) (C:=cellsOf #[.int .u64 0,iI 0]) (fun _ _=>rfl) ?_;intro bx;refine gO ?_;refine fW .aa (yZ _ _) rfl ⟨rfl,rfl⟩ ?_;refine lp (σ:=QS×Int) (fun x=>s.n-x.2.toNat) (fun x=>x.1.n=s.n/\(0<=x.2/\x.2<s.n)/\x.1.V4/\QS.kz (x.1.n-x.2.toNat) x.1 x.2 (s.K i) (s.I i)=s.down i) (fun x=>[(1,iI x.2),(0,aA b o 0),(4,aA bx 0 0)]) (fun x=>XM W (ck [.cells b o 65 (fY (s) (some ⟨g,0,none⟩) cap),aM (some ⟨g,0,none⟩) cap 254 2 (s).n (gV (s))]) [.cells bx 0 2 (qx (s.K i) (s.I i)),.cells b o 65 (fY (x.1) (some ⟨g,0,none⟩) cap),aM (some ⟨g,0,none⟩) cap 254 2 (x.1).n (gV (x.1))]) ((s,i)) ?_ S3 (xq (pz 3)) ?_
 ·grind [QS.down]
 intro x hx;obtain⟨xn,xi,xR,xu⟩:=hx;refine gC ?_;refine sd ?_;refine sd ?_;refine ct [(0,aA b o 0),(1,iI x.2),(4,aA bx 0 0),(5,iI (x.1.aW x.2))] (XM W (ck [.cells b o 65 (fY (s) (some ⟨g,0,none⟩) cap),aM (some ⟨g,0,none⟩) cap 254 2 (s).n (gV (s))]) [.cells bx 0 2 (qx (s.K i) (s.I i)),.cells b o 65 (fY (x.1) (some ⟨g,0,none⟩) cap),aM (some ⟨g,0,none⟩) cap 254 2 (x.1).n (gV (x.1))]) ?_ ?_
 ·refine rq [0,1,2,3,4,5,6,7,8,9,10,11,12,13,14,15,16,17,18,19,20,21,22,23,24,25] mixed ?_;refine sd ?_;refine ld (.ao .aa) (ir _ _ _) ?_;refine sp 24 rfl ?_ ?_<;>intro h1
  ·refine ld (.ao .aa) (ir _ _ _) ?_;refine sd ?_;refine sd ?_;refine qs (.t2 .aa) (km _ _ _) ?_;refine ld (.ao .aa) (ir _ _ _) ?_;refine sd ?_;refine qs (.t2 .aa) (km _ _ _) ?_;refine cq (Mj _ _ _ _) .nil ?_;refine cd rfl ?_ ?_<;>intro h2
   ·have hc:2*x.2+1+1=(x.1.aW x.2):=by unfold QS.aW;rw[if_pos ⟨og,h2⟩]
    refine sd ?_;refine mt (S4 rfl rfl rfl (K1 hc)) (xq (pz 3))
   ·have hc:2*x.2+1=(x.1.aW x.2):=by unfold QS.aW;rw[if_neg fun q=>h2 q.2]
    refine mt (S4 rfl rfl rfl (K1 hc)) (xq (pz 3))
  ·have hc:2*x.2+1=(x.1.aW x.2):=by unfold QS.aW;rw[if_neg fun q=>og]
   refine mt (S4 rfl rfl rfl (K1 hc)) (xq (pz 3))
 have hcc:x.2<(x.1.aW x.2):=by rcases x.1.gU x.2 with⟨e,_⟩ | ⟨e,_⟩<;>omega
 have hpr:=xR (x.1.aW x.2) og;have hcu:(x.1.aW x.2)<=2*x.2+2:=by rcases x.1.gU x.2 with⟨e,_⟩ | ⟨e,_⟩<;>omega
 refine gC ?_;refine rq [0,1,2,3,4,5,6,7,8,9,10,11,12,13,14,15,16,17,18] mixed ?_;refine ld (.ao .aa) (ir _ _ _) ?_;refine sp 51 rfl ?_ ?_<;>intro h3
 ·have qh:QS.kz (x.1.n-x.2.toNat) x.1 x.2 (s.K i) (s.I i)=x.1.set x.2 (s.K i) (s.I i):=vr fun q=>og;rw[qh]at xu;refine lM .aa (jS _ _) ?_;refine cq (Dk _ _ _ _ _ _ _ _) (pk [1,1]) ?_;refine cS rfl (ai (pz 2) rfl ?_);simp_all
 ·have hpr:=hpr og;refine ld (.ao .aa) (ir _ _ _) ?_;refine sd ?_;refine qs (.t2 .aa) (km _ _ _) ?_;refine lM .aa (jS _ _) ?_;refine cq (Mj _ _ _ _) .nil ?_;refine cd rfl ?_ ?_<;>intro h4
  ·have qh:QS.kz (x.1.n-x.2.toNat) x.1 x.2 (s.K i) (s.I i)=x.1.set x.2 (s.K i) (s.I i):=vr fun q=>h4 q.2;rw[qh]at xu;refine lM .aa (jS _ _) ?_;refine cq (Dk _ _ _ _ _ _ _ _) (pk [1,1]) ?_;refine cS rfl (ai (pz 2) rfl ?_);simp_all
  ·have qh:=Eg (s:=x.1) (k:=s.K i) (id:=s.I i) xi.1 og og (Decidable.not_not.mp h4);refine ld (.ao .aa) (ir _ _ _) ?_;refine sd ?_;refine qs (.t2 .aa) (km _ _ _) ?_;refine cq (Dk _ _ _ _ _ _ _ _) (pk [1,1]) ?_;refine ag ((x.1.set x.2 (x.1.K (x.1.aW x.2)) (x.1.I (x.1.aW x.2)),(x.1.aW x.2))) ?_ ?_ S3 (xq (pk [2,0,0]));all_goals grind [QS.V4.set,QS.set]
def ZW(b o cap:Nat)(p:Option Addr)(s:QS)(hO:s.Ok)(id im:Int):Spec Tryz.prog 188 [aA b o 0,iI id,.int .u64 im] [.cells b o 65 (fY (s) p cap),aM p cap 254 2 (s).n (gV (s))] (fun v H1=>∃ p1 c1,v=az 102 (s.put id im).1/\H1=[.cells b o 65 (fY ((s.put id im).2) p1 c1),aM p1 c1 254 2 ((s.put id im).2).n (gV ((s.put id im).2))]):=by
 refine Spec.go 42 [0,1,2,6,12,20] [] Tryz.func188 fun W=> ?_;refine sp 9 rfl ?_ ?_<;>intro h1
 ·refine bS (pz 2) ?_;simp_all[aK,aJ,aR,QS.qy,az]
 ·refine cd rfl ?_ ?_<;>intro h2
  ·refine bS (pz 2) ?_;rw[QS.qy og];exact⟨_,_,rfl,rfl⟩
  ·refine sd ?_;refine ld .aa (wW _ _ _ _) ?_;refine cd rfl ?_ ?_<;>intro h3
   ·refine bS (pz 2) ?_;rw[QS.uy og og];exact⟨_,_,rfl,rfl⟩
   ·have V3:=hO.Lf id og og;have lJ:=hO.room (id:=id) og og;refine ld .aa (ir _ _ _) ?_;refine XO.v (V.build (vs:= #[(0,.int .u64 im),(1,iI id)]) rfl (v:=.agg #[.int .u64 im,iI id]) fun _=>kq) rfl (gO ?_);refine XO.buildSlice (e:=254) (vs:= #[(0,.agg #[.int .u64 im,iI id])]) (A:= #[.int .u64 im,iI id]) rfl (fun _=>kq) rfl rfl ?_;intro h4;refine gO ?_;refine vK (e:=254) (C2:=gV (s.kh im id)) rfl rfl Tryz.underlying183 UC (.ao (.ao .aa)) .aa rfl rfl og og (O8 s im id) rfl ?_;intro p1 c1;refine gO ?_;refine st (.t2 .aa) (Su s _ _ _ _ im id) rfl ?_;refine bL .aa og ?_;intro g1 h5;subst h5;have hn1:(s.kh im id).n=s.n+1:=rfl;have hR:(s.kh im id).V4:=fun j j0 j1=>by
     show 0<=ad s.I s.n id j/\ad s.I s.n id j<64;unfold ad;split
     ·omega
     ·exact hO.jA j j0 og
    refine ld (.t2 .aa) (show 0+0<65/\fY (s.kh im id) _ _ (0+0)= .slice _ (s.n+1) _ from⟨og,rfl⟩) ?_;refine oV ?_;refine XO.v (V.sub rfl rfl (s.n:Int) (by rw[show((s.n+1:Nat):Int)-1=s.n from og];exact IntWalk.i64_in _ og)) rfl (gO ?_);refine cq (aeY _ _ _ _ (s.kh im id) _ og hR) (pk [2,0]) ?_;refine bS (pz 2) ?_;rw[QS.s9 og og];exact⟨_,_,rfl,rfl⟩
def ZX(b o cap:Nat)(p:Option Addr)(s:QS)(hO:s.Ok)(hH:s.ve)(id:Int):Spec Tryz.prog 189 [aA b o 0,iI id] [.cells b o 65 (fY (s) p cap),aM p cap 254 2 (s).n (gV (s))] (fun v H1=>∃ p1 c1,v= .tuple #[.int .u64 (s.cut id).1,az 102 (s.cut id).2.1]/\H1=[.cells b o 65 (fY ((s.cut id).2.2) p1 c1),aM p1 c1 254 2 ((s.cut id).2.2).n (gV ((s.cut id).2.2))]):=by
 refine Spec.go 83 [0,1,4,5,6,7,8,9,15,25,64] [] Tryz.func189 fun W=> ?_;refine sp 12 rfl ?_ ?_<;>intro h1
 ·refine eH (pz 2) ?_;simp_all[aK,aJ,aR,ry,az]
 ·refine cd rfl ?_ ?_<;>intro h2
  ·refine eH (pz 2) ?_;rw[ry og];exact⟨_,_,rfl,rfl⟩
  ·have V3:=hO.Lf id og og;have ahD:=hO.n64;refine sd ?_;refine ld .aa (wW _ _ _ _) ?_;refine sd ?_;refine cd rfl ?_ ?_<;>intro h3
   ·refine eH (pz 2) ?_;rw[Ar og og];exact⟨_,_,rfl,rfl⟩
   ·refine bL (.ao .aa) og ?_;intro g1 h4;subst h4;refine ld .aa (ir _ _ _) ?_;refine sd ?_;refine WL (.ao .aa) (B9 _ _ _) ?_;refine ld .aa (ir _ _ _) ?_;refine sd ?_;refine ld .aa (ir _ _ _) ?_;refine sd ?_;refine qs (.ao .aa) (km _ _ _) ?_;refine XO.bJ (z:=.agg #[.int .u64 0,iI 0]) (m:=2) (C:=cellsOf #[.int .u64 0,iI 0]) (fun _ _=>rfl) ?_;intro bx;refine gO ?_;refine fW .aa (yZ _ _) rfl ⟨rfl,rfl⟩ ?_;refine qq (.t2 .aa) ?_;intro Gj;refine ld (.ao .aa) (ir _ _ _) ?_;refine XO.RJ (k2:=s.n-1) (C':=gV (s.fe id)) rfl rfl Tryz.underlying183 UD og og Gj (fun _ _=>rfl) (.t2 .aa) rfl (gO ?_);refine st (.ao .aa) (E2 _ _ _ _ _ _) rfl ?_;refine sd ?_;refine st (.ao .aa) (Sv s _ _ id og) rfl ?_;refine cd rfl ?_ ?_<;>intro h5
    ·have hn1:(s.fe id).n=s.n-1:=rfl;obtain⟨m1,m2,m3,q,m4,_,m5⟩:=hO.mid hH (xk:=s.K ((s.n:Int)-1)) (id:=id) og og rfl rfl og;have hr9:=hO.jA ((s.n:Int)-1) og og;have m6:(((s.fe id).set (s.at_ id-1) (s.K ((s.n:Int)-1)) (s.I ((s.n:Int)-1))).down (s.at_ id-1)).n=((s.fe id).set (s.at_ id-1) (s.K ((s.n:Int)-1)) (s.I ((s.n:Int)-1))).n:=O9 _ _;have m7:((s.fe id).set (s.at_ id-1) (s.K ((s.n:Int)-1)) (s.I ((s.n:Int)-1))).n=s.n-1:=rfl;refine lM .aa (jS _ _) ?_;refine cq (Dk _ _ _ _ (s.fe id) _ _ _) (pk [1,1]) ?_;refine cq (ab0 _ _ _ _ ((s.fe id).set (s.at_ id-1) (s.K ((s.n:Int)-1)) (s.I ((s.n:Int)-1))) _ og (fun j j0 j1=>m1.jA j j0 j1) og) (pz 2) ?_;refine rq [0,1,2,3,4,5,6,7,8,9] mixed ?_;refine ld (.t2 .aa) (wX _ _) ?_;refine sd ?_;refine ld .aa (wW _ _ _ _) ?_;refine sd ?_;refine cq (aeY _ _ _ _ (((s.fe id).set (s.at_ id-1) (s.K ((s.n:Int)-1)) (s.I ((s.n:Int)-1))).down (s.at_ id-1)) _ og fun j j0 j1=>m2.jA j j0 j1) (pz 2) ?_;refine eH (pz 2) ?_;rw[td];unfold QS.vo;rw[if_pos og];exact⟨_,_,rfl,rfl⟩
    ·refine bC rfl rfl rfl (ai (pk [1,1]) rfl ?_);rw[td];unfold QS.vo;rw[if_neg og];exact⟨_,_,rfl,rfl⟩
def aeZ(b o cap:Nat)(p:Option Addr)(s:QS)(hO:s.Ok)(id:Int):Spec Tryz.prog 186 [aA b o 0,iI id] [.cells b o 65 (fY (s) p cap),aM p cap 254 2 (s).n (gV (s))] (fun v H1=>v= .tuple #[.int .u64 (s.im id).1,az 102 (s.im id).2]/\H1=[.cells b o 65 (fY (s) p cap),aM p cap 254 2 (s).n (gV (s))]):=by
 refine Spec.go 35 [0,1,4,5,11,19] [] Tryz.func186 fun W=> ?_;refine sp 8 rfl ?_ ?_<;>intro h1
 ·refine eH (pz 2) ?_;grind [aK,aJ,aR,QS.im,az]
 ·refine cd rfl ?_ ?_<;>intro h2
  ·refine eH (pz 2) ?_;grind [aK,aJ,aR,QS.im,az]
  ·refine sd ?_;refine ld .aa (wW _ _ _ _) ?_;refine cd rfl ?_ ?_<;>intro h3
   ·refine eH (pz 2) ?_;grind [aK,aJ,aR,QS.im,az]
   ·have V3:=hO.Lf id og og;have ahD:=hO.n64;refine bL (.ao .aa) og ?_;intro g1 h4;subst h4;refine rq [0,1,2,3,4,5,6,7,8,9,10,11,12,13,14,15] mixed ?_;refine ld .aa (ir _ _ _) ?_;refine sd ?_;refine ld .aa (wW _ _ _ _) ?_;refine sd ?_;refine sd ?_;refine WL (.ao .aa) (B9 _ _ _) ?_;refine eH (pz 2) ?_;grind [aK,aJ,aR,QS.im,az]
def NZ(b o cap:Nat)(p:Option Addr)(s:QS):Spec Tryz.prog 182 [aA b o 0] [.cells b o 65 (fY (s) p cap),aM p cap 254 2 (s).n (gV (s))] (fun v H1=>v= .tuple #[iI s.first.1,.int .u64 s.first.2.1,.bool s.first.2.2]/\H1=[.cells b o 65 (fY (s) p cap),aM p cap 254 2 (s).n (gV (s))]):=by
 refine Spec.go 25 [0,2,3,4,10] [] Tryz.func182 fun W=> ?_;refine ld .aa (ir _ _ _) ?_;refine cd rfl ?_ ?_<;>intro h1
 ·refine rt3 (pz 2) ?_;grind [aK,aJ,aR,QS.first]
 ·refine bL (.ao .aa) og ?_;intro g1 h2;subst h2;refine rq [0,1,2,3,4,5,6,7,8,9,10,11,12,13,14,15,16] mixed ?_;refine ld .aa (ir _ _ _) ?_;refine sd ?_;refine WL (.ao .aa) (W0 _ _ _ og) ?_;refine ld .aa (ir _ _ _) ?_;refine sd ?_;refine WL (.ao .aa) (B9 _ _ _) ?_;refine rt3 (pz 2) ?_;grind [aK,aJ,aR,QS.first]
def ae0(b o cap:Nat)(p:Option Addr)(s:QS):Spec Tryz.prog 222 [aA b o 0] [.cells b o 65 (fY (s) p cap),aM p cap 254 2 (s).n (gV (s))] (fun v H1=>v=iI (s.n:Int)/\H1=[.cells b o 65 (fY (s) p cap),aM p cap 254 2 (s).n (gV (s))]):=by
 refine Spec.go 8 [0,2] [] Tryz.func222 fun W=> ?_;refine ld .aa (ir _ _ _) ?_;refine bS (pz 2) ?_;grind [aK,aJ]
def Yl(b o:Nat)(s:SC)(n:Int):Spec Tryz.prog 126 [aA b o 0,iI n] [.cells b o 2281 (aP s)] (fun v H1=>((s.D2 n=0/\0<=n/\n<10/\s.aa n=true)/\v= .tuple #[aA b o (0+0+n.toNat*76),.nilIface]/\H1=[.cells b o 2281 (aP s)])\/(s.D2 n≠0/\v= .tuple #[.pointer none,.iface 102 (iI (s.D2 n))]/\H1=[.cells b o 2281 (aP s)])):=by
 refine Spec.go 27 [0,1,4,5,11,20] [] Tryz.func126 fun W=> ?_;refine sp 8 rfl ?_ ?_<;>intro h1
 ·refine eH .h1 ?_;try dsimp only[aK,aJ,aG,aR]
  have e:s.D2 n=1:=by unfold SF.D2;rw[if_pos og]
  simp_all
 ·refine cd rfl ?_ ?_<;>intro h2
  ·refine eH .h1 ?_;try dsimp only[aK,aJ,aG,aR]
   have e:s.D2 n=1:=by unfold SF.D2;rw[if_pos og]
   simp_all
  ·refine sd (ld .aa (lO _ _) ?_);refine yW ?_ ?_<;>intro h3
   ·try simp only[sb]at h3
    refine eH .h1 ?_;try dsimp only[aK,aJ,aG,aR]
    have e:s.D2 n=2:=by unfold SF.D2;rw[if_neg og,if_neg (by simp_all)]
    simp_all
   ·try simp only[sb]at h3
    refine sd (bC rfl rfl rfl (ai .h1 rfl ?_));try dsimp only[aK,aJ,aG,aR]
    have e:s.D2 n=0:=by unfold SF.D2;rw[if_neg og,if_pos (by simp_all)]
    simp_all
def UE(b o:Nat)(s:SC)(n:Int):Spec Tryz.prog 127 [aA b o 0,iI n] [.cells b o 2281 (aP s)] (fun v H1=>((s.yH n=0/\0<=n/\n<20/\s.aa (10+n)=true)/\v= .tuple #[aA b o (0+0+(10+n).toNat*76),.nilIface]/\H1=[.cells b o 2281 (aP s)])\/(s.yH n≠0/\v= .tuple #[.pointer none,.iface 102 (iI (s.yH n))]/\H1=[.cells b o 2281 (aP s)])):=by
 refine Spec.go 29 [0,1,4,5,11,21] [] Tryz.func127 fun W=> ?_;refine sp 8 rfl ?_ ?_<;>intro h1
 ·refine eH .h1 ?_;try dsimp only[aK,aJ,aG,aR]
  have e:s.yH n=1:=by unfold SF.yH;rw[if_pos og]
  simp_all
 ·refine cd rfl ?_ ?_<;>intro h2
  ·refine eH .h1 ?_;try dsimp only[aK,aJ,aG,aR]
   have e:s.yH n=1:=by unfold SF.yH;rw[if_pos og]
   simp_all
  ·refine sd (sd (ld .aa (lO _ _) ?_));refine yW ?_ ?_<;>intro h3
   ·try simp only[sb]at h3
    refine eH .h1 ?_;try dsimp only[aK,aJ,aG,aR]
    have e:s.yH n=2:=by unfold SF.yH;rw[if_neg og,if_neg (by simp_all)]
    simp_all
   ·try simp only[sb]at h3
    refine sd (sd (bC rfl rfl rfl (ai .h1 rfl ?_)));try dsimp only[aK,aJ,aG,aR]
    have e:s.yH n=0:=by unfold SF.yH;rw[if_neg og,if_pos (by simp_all)]
    simp_all
def N0(b o:Nat)(s:SC)(hR:s.pA)(hw:∀ i,s.cy i=true->0<i/\i<30)(n:Int)(hn:0<=n/\n<30):Spec Tryz.prog 187 [aA b o 0,iI n] [.cells b o 2281 (aP s),.bk cP (s.dZ 254)] (fun v H1=>v= .bool (s.toSF.ready n)/\H1=[.cells b o 2281 (aP s),.bk cP (s.dZ 254)]):=by
 have hk:=hR.gx hw hn.1 hn.2;refine Spec.go 47 [0,1,4,5,12] [] Tryz.func187 fun W=> ?_;refine sd ?_;refine cd rfl ?_ ?_<;>intro h1
 ·apply ld .aa (A2 _ _ og);refine bS (pz 2) ?_;try dsimp only[aK,aJ,aG,aR]
  exact⟨by unfold SF.ready;rw[if_pos og],rfl⟩
 ·refine rq [0,1,2,3,4,5,6,7,8,9,10,11,12,13,14,15,16,17,18,19,20,21,22,23,24,25,26,27,28,29,30] mixed ?_;apply XR.mono fun _ bK=>nf (z:=n) og (pz 2) bK;refine ca (ae0 _ _ _ _ _) (pz 2) ?_;rintro _ _ ⟨rfl,rfl⟩;apply XO.mono fun _ bK=>rz (z:=n) og (pz 5) bK;apply gO;refine sp 22 rfl ?_ ?_<;>intro h2
  ·apply ld .aa (zb _ _ og);refine M9 29 rfl ?_ ?_<;>intro h3
   ·try simp only[sb]at h3
    apply ld .aa (kS _ _);refine sp 35 rfl ?_ ?_<;>intro h4
    ·refine bS (pz 2) ?_;try dsimp only[aK,aJ,aG,aR]
     refine⟨congrArg Value.bool ?_,rfl⟩;unfold SF.ready;simp_all
    ·apply ld .aa (ti _ _);apply ld .aa (kS _ _);refine bS (pz 2) ?_;try dsimp only[aK,aJ,aG,aR]
     refine⟨congrArg Value.bool ?_,rfl⟩;unfold SF.ready;grind
   ·try simp only[sb]at h3
    refine bS (pz 2) ?_;try dsimp only[aK,aJ,aG,aR]
    refine⟨congrArg Value.bool ?_,rfl⟩;unfold SF.ready;grind
  ·refine bS (pz 2) ?_;try dsimp only[aK,aJ,aG,aR]
   refine⟨congrArg Value.bool ?_,rfl⟩;unfold SF.ready;grind
def Dm(b o:Nat)(s:SC)(d:Int->Nat)(hI:s.toSF.Inv d)(hR:s.pA)(n:Int)(hn:n=0\/(0<n/\n<30/\s.aa n=true)):Spec Tryz.prog 128 [aA b o 0,iI n] [.cells b o 2281 (aP s),.bk cP (s.dZ 254)] (fun v H1=>v= .tuple #[]/\∃ t:SC,t.toSF=s.toSF.look d n/\t.pA/\H1=[.cells b o 2281 (aP t),.bk cP (t.dZ 254)]):=by
 refine Spec.go 88 [0,4,5,6,8,9,10,13,47,74] [] Tryz.func128 fun W=> ?_;refine lp (σ:=SC×Int) (fun x=>if x.2=0 then 0 else d x.2+1) (fun x=>x.1.pA/\x.1.toSF.Inv d/\(x.2=0\/(0<x.2/\x.2<30/\x.1.aa x.2=true))/\∃ k,d x.2+1<=k/\SF.gW k x.1.toSF x.2=s.toSF.look d n) (fun x=>[(4,iI x.2),(0,aA b o 0)]) (fun x=>XM W (ck [.cells b o 2281 (aP s),.bk cP (s.dZ 254)]) [.cells b o 2281 (aP x.1),.bk cP (x.1.dZ 254)]) ((s,n)) ?_ S2 (xq (pz 2)) ?_
 ·exact⟨hR,hI,hn,d n+1,Nat.le_refl _,rfl⟩
 intro x hx;obtain⟨xR,xI,xn,k,hk,xl⟩:=hx;apply gC;refine cd rfl ?_ ?_<;>intro h1
 ·obtain⟨n0,n1,n2⟩:=xn.resolve_left og;obtain⟨p0,pp1,p2,p3⟩:=xI.up x.2 n0 n1 n2;have vm:=xR.bM (n:=x.2) ⟨og,n1⟩ ⟨p0,og⟩;obtain⟨k,rfl⟩:∃ k2,k=k2+1:=⟨k-1,og⟩;rw[SF.oM _ _ n0]at xl;have hw:∀ i,x.1.cy i=true->0<i/\i<30:=fun i hi=>⟨(xI.cy i hi).1,(xI.cy i hi).2.1⟩;have hgq:=xR (x.1.ax x.2) p0 og;have O7:(x.1.ax x.2)=0\/(0<(x.1.ax x.2)/\(x.1.ax x.2)<30/\x.1.aa (x.1.ax x.2)=true):=by
   grind
  refine sd ?_;refine rq [0,1,2,3,4,5,6,7,8] mixed ?_;apply ld .aa (fu _ _);refine sd ?_;apply XR.mono fun _ bK=>nf (z:=(x.1.ax x.2)) og (pz 2) bK;refine ca (aeZ _ _ _ _ _ hgq.ok _) (pz 2) ?_;rintro _ _ ⟨rfl,rfl⟩;apply XO.mono fun _ bK=>rz (z:=(x.1.ax x.2)) og (pz 5) bK;apply gO;refine rq [0,1,2,3,4,5,6] mixed ?_;refine cq (N0 _ _ _ xR hw _ og) (pz 2) ?_;refine M9 49 rfl ?_ ?_<;>intro h2
  ·try simp only[sb]at h2
   have hrd:x.1.toSF.ready x.2=true:=h2;refine cd rfl ?_ ?_<;>intro h3
   ·have hwf:x.1.cy x.2=false:=by
     simp_all
    refine rq [0,1,2,3,4,5,6,7,8,9,10,11,12] mixed ?_;apply ld .aa (tg _ _);apply ld .aa (sB _ _);apply st .aa (As _ _ og _) rfl;refine rq [0,1,2,3,4,5,6,7,8] mixed ?_;apply ld .aa (Pb _ _ _ og);apply XR.mono fun _ bK=>nf (z:=(x.1.ax x.2)) og (pz 2) bK;refine ca (ZW _ _ _ _ _ hgq.ok _ _) (pz 2) ?_;rintro _ _ ⟨p1,c1,rfl,rfl⟩;apply XO.mono fun _ bK=>qD (z:=(x.1.ax x.2)) og (pz 5) bK;apply gO;refine sd ?_;apply ld .aa (fu _ _);refine ag ((⟨{x.1.toSF with v:=ad x.1.v x.2 (max (x.1.v x.2) (x.1.eC (x.1.ax x.2))),cy:=ad x.1.cy x.2 true},ad x.1.Q (x.1.ax x.2) ((x.1.Q (x.1.ax x.2)).put x.2 (max (x.1.v x.2) (x.1.eC (x.1.ax x.2)))).2,ad x.1.P (x.1.ax x.2) p1,ad x.1.C (x.1.ax x.2) c1⟩,(x.1.ax x.2))) ?_ ?_ S2 (xq (pz 2))
    ·grind
    ·have e:({x.1.toSF with v:=ad x.1.v x.2 (max (x.1.v x.2) (x.1.eC (x.1.ax x.2))),cy:=ad x.1.cy x.2 true} :SF)=x.1.toSF.uA x.2:=by unfold SF.uA;rw[if_pos ⟨hrd,hwf⟩,hrd]
     refine⟨?_,by show SF.Inv _ d;rw[e];exact xI.uA n0 n1 n2,O7,k,by show d (x.1.ax x.2)+1<=k;omega,by show SF.gW k _ _=_;rw[e];exact xl⟩;grind [SC.pA.enter,ae,aj]
   ·have hwt:x.1.cy x.2=true:=by
     simp_all
    refine M9 77 rfl ?_ ?_<;>intro h4
    ·try simp only[sb]at h4
     all_goals(simp_all)
    ·try simp only[sb]at h4
     refine sd ?_;apply ld .aa (fu _ _);refine ag ((x.1,(x.1.ax x.2))) ?_ ?_ S2 (xq (pz 2));all_goals grind [Av]
  ·try simp only[sb]at h2
   have hrd:x.1.toSF.ready x.2=false:=h2;refine M9 77 rfl ?_ ?_<;>intro h5
   ·try simp only[sb]at h5
    refine cd rfl ?_ ?_<;>intro h6
    ·have hwt:x.1.cy x.2=true:=by
      simp_all
     apply XR.mono fun _ bK=>nf (z:=(x.1.ax x.2)) og (pz 2) bK;refine ca (ZX _ _ _ _ _ hgq.ok hgq.heap _) (pz 2) ?_;rintro _ _ ⟨p1,c1,rfl,rfl⟩;apply XO.mono fun _ bK=>qD (z:=(x.1.ax x.2)) og (pz 5) bK;apply gO;refine sd ?_;apply ld .aa (fu _ _);refine ag ((⟨{x.1.toSF with cy:=ad x.1.cy x.2 false},ad x.1.Q (x.1.ax x.2) ((x.1.Q (x.1.ax x.2)).cut x.2).2.2,ad x.1.P (x.1.ax x.2) p1,ad x.1.C (x.1.ax x.2) c1⟩,(x.1.ax x.2))) ?_ ?_ S2 (xq (pz 2))
     ·grind
     ·have e:({x.1.toSF with cy:=ad x.1.cy x.2 false} :SF)=x.1.toSF.uA x.2:=by unfold SF.uA;rw[if_neg (by rw[hrd];simp),hrd,cB x.1.v rfl]
      exact⟨xR.fi (n:=x.2) ⟨og,n1⟩ ⟨p0,og⟩ hwt {x.1.toSF with cy:=ad x.1.cy x.2 false} rfl (fun i hi=>rfl) rfl _ _,by show SF.Inv _ d;rw[e];exact xI.uA n0 n1 n2,O7,k,by show d (x.1.ax x.2)+1<=k;omega,by show SF.gW k _ _=_;rw[e];exact xl⟩
    ·have hwf:x.1.cy x.2=false:=by
      simp_all
     refine sd ?_;apply ld .aa (fu _ _);refine ag ((x.1,(x.1.ax x.2))) ?_ ?_ S2 (xq (pz 2));all_goals grind [Av]
   ·try simp only[sb]at h5
    all_goals(simp_all)
 ·refine cS rfl (ai (pz 2) rfl ?_);refine⟨rfl,x.1,?_,xR,rfl⟩;have sP:x.2=0:=by
   omega
  rw[sP,SF.mD _ _ og]at xl;omega
def UF(b o:Nat)(s:SC)(d:Int->Nat)(hI:s.toSF.Inv d)(hR:s.pA)(B:Int)(hB:0<=B/\B<=1000000000000000)(hS:s.toSF.bR B)(n:Int)(hn:0<n/\n<30/\s.aa n=true)(hwn:s.cy n=true):Spec Tryz.prog 183 [aA b o 0,iI n] [.cells b o 2281 (aP s),.bk cP (s.dZ 254)] (fun v H1=>v= .tuple #[]/\∃ t:SC,t.toSF=s.toSF.y9 n/\t.pA/\H1=[.cells b o 2281 (aP t),.bk cP (t.dZ 254)]):=by
 obtain⟨n0,n1,n2⟩:=hn;obtain⟨p0,pp1,p2,p3⟩:=hI.up n n0 n1 n2;have hgq:=hR (s.ax n) p0 og;obtain⟨ie,uZ⟩:=hR.ahh (n:=n) ⟨og,n1⟩ ⟨p0,og⟩ hwn;have hsn:=hS n og n1;have hsg:=hS (s.ax n) p0 og;have hwt:=hI.wt n og n1 n2;have O7:s.ax n≠n:=fun e=>by rw[e]at p3;omega
 have hq0:0<=1048576/s.wt n/\1048576/s.wt n<=1048576:=⟨Int.ediv_nonneg og og,Int.ediv_le_self _ og⟩;have H5:∀ i,ad s.cy n false i=true->0<i/\i<30:=fun i hi=>by
  by_cases c:i=n
  ·omega
  ·rw[ae _ _ c]at hi;exact⟨(hI.cy i hi).1,(hI.cy i hi).2.1⟩
 refine Spec.go 82 [0,1,4,5,6,7,30,62,72] [(7,1)] Tryz.func183 fun W=> ?_;refine sd ?_;refine rq [0,1,2,3,4,5,6,7,8] mixed ?_;apply ld .aa (fu _ _);refine sd ?_;apply XR.mono fun _ bK=>nf (z:=(s.ax n)) og (pz 2) bK;refine ca (ZX _ _ _ _ _ hgq.ok hgq.heap _) (pz 2) ?_;rintro _ _ ⟨p1,c1,rfl,rfl⟩;rw[ie];have hRm:SC.pA (⟨{s.toSF.nB n with cy:=ad s.cy n false},ad s.Q (s.ax n) ((s.Q (s.ax n)).cut n).2.2,ad s.P (s.ax n) p1,ad s.C (s.ax n) c1⟩:SC):=hR.fi (n:=n) ⟨og,n1⟩ ⟨p0,og⟩ hwn {s.toSF.nB n with cy:=ad s.cy n false} rfl (fun i hi=>ae _ _ hi) rfl _ _;have hgm:=hRm (s.ax n) p0 og;apply XO.mono fun _ bK=>qD (z:=(s.ax n)) og (pz 5) bK;apply XO.mono fun _ bK=>Nf (ad s.cy n false) (pz 2) bK;apply gO;apply AZ rfl (by rw[uZ];simp);refine ld .aa (show _/\_=Value.int .u64 (s.eC (s.ax n))from sB _ _) ?_;apply st .aa (A3 _ _ og _) rfl;refine ld .aa (show _/\_=Value.int .i64 (s.wt n)from za _ _ og) ?_;refine XO.v (V.quo rfl rfl (by first | decide | omega) _ (sV)) rfl (gO ?_);refine XO.v (od rfl Tryz.underlying3 Tryz.underlying29 _ (IntWalk.u64_in _ og)) rfl (gO ?_);refine XO.v (V.add rfl rfl _ (IntWalk.u64_in _ og)) rfl (gO ?_);apply st .aa (As _ _ og _) rfl;refine ld .aa (show _/\_=Value.int .i64 (s.uz n)from Eh _ _ og) ?_;refine sd ?_;apply st .aa (Ei _ _ og _) rfl;apply ct [(0,aA b o 0),(1,iI n),(4,aA b o (0+0+n.toNat*76)),(5,aA b o (0+0+(s.ax n).toNat*76))] (XM W (ck [.cells b o 2281 (aP s),.bk cP (s.dZ 254)]) [.cells b o 2281 (aP (⟨{s.toSF.nB n with cy:=ad s.cy n false},ad s.Q (s.ax n) ((s.Q (s.ax n)).cut n).2.2,ad s.P (s.ax n) p1,ad s.C (s.ax n) c1⟩:SC)),.bk cP (SC.dZ 254 (⟨{s.toSF.nB n with cy:=ad s.cy n false},ad s.Q (s.ax n) ((s.Q (s.ax n)).cut n).2.2,ad s.P (s.ax n) p1,ad s.C (s.ax n) c1⟩:SC))])
 ·refine ld .aa (show _/\_=Value.int .i64 (s.fD n)from kS _ _) ?_;refine cd rfl ?_ ?_<;>intro h1
  ·have hM:(⟨{s.toSF.nB n with cy:=ad s.cy n false},ad s.Q (s.ax n) ((s.Q (s.ax n)).cut n).2.2,ad s.P (s.ax n) p1,ad s.C (s.ax n) c1⟩:SC)=(⟨{s.toSF with eC:=ad s.eC (s.ax n) (max (s.eC (s.ax n)) (s.v n)),v:=ad s.v n (s.v n+1048576/s.wt n),uz:=ad s.uz n (s.uz n+1),dY:=ad s.dY n (s.dY n+1),cy:=ad s.cy n false},ad s.Q (s.ax n) ((s.Q (s.ax n)).cut n).2.2,ad s.P (s.ax n) p1,ad s.C (s.ax n) c1⟩:SC):=by unfold SF.nB;rw[if_pos h1]
   refine ld .aa (show _/\_=Value.int .i64 (s.dY n)from ti _ _) ?_;refine sd ?_;apply st .aa (tj _ _ og _) rfl;refine mt S4 fun _ ml=>by rw[hM];exact XM.pick (pz 2) ml
  ·have hM:(⟨{s.toSF.nB n with cy:=ad s.cy n false},ad s.Q (s.ax n) ((s.Q (s.ax n)).cut n).2.2,ad s.P (s.ax n) p1,ad s.C (s.ax n) c1⟩:SC)=(⟨{s.toSF with eC:=ad s.eC (s.ax n) (max (s.eC (s.ax n)) (s.v n)),v:=ad s.v n (s.v n+1048576/s.wt n),uz:=ad s.uz n (s.uz n+1),dY:=s.dY,cy:=ad s.cy n false},ad s.Q (s.ax n) ((s.Q (s.ax n)).cut n).2.2,ad s.P (s.ax n) p1,ad s.C (s.ax n) c1⟩:SC):=by unfold SF.nB;rw[if_neg h1]
   refine mt S4 fun _ ml=>by rw[hM];exact XM.pick (pz 2) ml
 have hrr:SF.ready {s.toSF.nB n with cy:=ad s.cy n false} n=(s.toSF.nB n).ready n:=SF.zd (s:=s.toSF.nB n) O7 false;apply gC;refine cq (N0 b o (⟨{s.toSF.nB n with cy:=ad s.cy n false},ad s.Q (s.ax n) ((s.Q (s.ax n)).cut n).2.2,ad s.P (s.ax n) p1,ad s.C (s.ax n) c1⟩:SC) hRm H5 n ⟨og,n1⟩) (pz 2) ?_;refine yW ?_ ?_<;>intro h2
 ·try simp only[sb]at h2
  refine rq [0,1,2,3,4,5,6,7,8] mixed ?_;apply ld .aa (show _/\_=Value.int .u64 (s.v n+1048576/s.wt n)from⟨og,(tg (⟨{s.toSF.nB n with cy:=ad s.cy n false},ad s.Q (s.ax n) ((s.Q (s.ax n)).cut n).2.2,ad s.P (s.ax n) p1,ad s.C (s.ax n) c1⟩:SC) n).2.trans (congrArg (Value.int .u64) (aj s.v n (s.v n+1048576/s.wt n)))⟩);apply XR.mono fun _ bK=>nf (z:=(s.ax n)) og (pz 2) bK;refine ca (ZW _ _ _ _ _ hgm.ok _ _) (pz 2) ?_;rintro _ _ ⟨p2,c2,rfl,rfl⟩;apply XO.mono fun _ bK=>qD (z:=(s.ax n)) og (pz 5) bK;apply XO.mono fun _ bK=>Nf (ad s.cy n true) (pz 2) bK;apply gO;refine cS rfl (ai (pz 2) rfl ?_);refine⟨rfl,_,?_,?_,rfl⟩
  ·have h9:SF.ready {s.toSF.nB n with cy:=ad s.cy n false} n=true:=aq;rw[hrr]at h9;show _=s.toSF.y9 n;unfold SF.y9;rw[h9]
  ·have ahE:s.ax n<30:=og;have:=hRm.enter (n:=n) ⟨og,n1⟩ ⟨p0,ahE⟩ (aj _ _ _) {s.toSF.nB n with cy:=ad s.cy n true} (by funext i;show ad s.cy n true i=ad (ad s.cy n false) n true i;unfold ad;split<;>rfl) (fun i hi=>rfl) rfl (s.v n+1048576/s.wt n) (aj _ _ _) (ad (ad s.P (s.ax n) p1) (s.ax n) p2) (ad (ad s.C (s.ax n) c1) (s.ax n) c2);exact this
 ·try simp only[sb]at h2
  refine cS rfl (ai (pz 2) rfl ?_);refine⟨rfl,(⟨{s.toSF.nB n with cy:=ad s.cy n false},ad s.Q (s.ax n) ((s.Q (s.ax n)).cut n).2.2,ad s.P (s.ax n) p1,ad s.C (s.ax n) c1⟩:SC),?_,hRm,rfl⟩;have h9:SF.ready {s.toSF.nB n with cy:=ad s.cy n false} n=false:=aq;rw[hrr]at h9;show _=s.toSF.y9 n;unfold SF.y9;rw[h9]
def zW:fb Tryz.prog 187=some 76:=kq
def Hn(b o:Nat)(s:SC)(d:Int->Nat)(hI:s.toSF.Inv d)(hR:s.pA)(n:Int)(on:Bool):Spec Tryz.prog 61 [aA b o 0,iI n,.bool on] [.cells b o 2281 (aP s),.bk cP (s.dZ 254)] (fun v H1=>v=az 102 (s.yH n)/\∃ t:SC,t.toSF=s.toSF.fZ d n on/\t.pA/\H1=[.cells b o 2281 (aP t),.bk cP (t.dZ 254)]):=by
 refine Spec.go 26 [0,1,2,6,7,8,16] [] Tryz.func61 fun W=> ?_;refine ca (UE _ _ _ _) .h1 ?_;rintro _ _ (⟨h1,rfl,rfl⟩ | ⟨h1,rfl,rfl⟩)
 ·obtain⟨i0,i1,i2,i3⟩:=h1;apply gO;refine st .aa (sy _ _ og _) rfl (sd ?_);refine ca (Dm _ _ {s with dS:=ad s.dS (10+n) on} d ⟨hI.h0,hI.up,hI.cy,hI.quo,hI.wt⟩ hR _ (.inr ⟨og,og,i3⟩)) (pz 2) ?_;rintro _ _ ⟨rfl,t,tl,tR,rfl⟩;apply gO;refine bS (pz 2) ?_;try dsimp only[aK,aJ,aG,aR]
  exact⟨by rw[i0];rfl,t,by rw[tl];unfold SF.fZ;rw[if_pos i0],tR,rfl⟩
 ·have i0:=h1;apply gO;refine bS (pz 2) ?_;try dsimp only[aK,aJ,aG,aR]
  exact⟨by rw[aV _ aq],s,by unfold SF.fZ;rw[if_neg aq],hR,rfl⟩
def zX(b o:Nat)(s:SC)(d:Int->Nat)(hI:s.toSF.Inv d)(hR:s.pA)(n p w:Int):Spec Tryz.prog 60 [aA b o 0,iI n,iI p,iI w] [.cells b o 2281 (aP s),.bk cP (s.dZ 254)] (fun v H1=>v=az 102 (s.lP n p w)/\∃ t:SC,t.toSF=s.toSF.sM n p w/\t.pA/\H1=[.cells b o 2281 (aP t),.bk cP (t.dZ 254)]):=by
 refine Spec.go 53 [0,1,2,3,8,10,24,33,42] [] Tryz.func60 fun W=> ?_;refine sp 13 rfl ?_ ?_<;>intro h1
 ·refine bS (pz 2) ?_;try dsimp only[aK,aJ,aG,aR]
  have e:s.lP n p w=1:=by unfold SF.lP;rw[if_pos og]
  exact⟨by rw[e]<;>rfl,s,by unfold SF.sM;rw[if_neg og],hR,rfl⟩
 ·refine sp 17 rfl ?_ ?_<;>intro h2
  ·refine bS (pz 2) ?_;try dsimp only[aK,aJ,aG,aR]
   have e:s.lP n p w=1:=by unfold SF.lP;rw[if_pos og]
   exact⟨by rw[e]<;>rfl,s,by unfold SF.sM;rw[if_neg og],hR,rfl⟩
  ·refine sp 21 rfl ?_ ?_<;>intro h3
   ·refine bS (pz 2) ?_;try dsimp only[aK,aJ,aG,aR]
    have e:s.lP n p w=1:=by unfold SF.lP;rw[if_pos og]
    exact⟨by rw[e]<;>rfl,s,by unfold SF.sM;rw[if_neg og],hR,rfl⟩
   ·refine cd rfl ?_ ?_<;>intro h4
    ·refine bS (pz 2) ?_;try dsimp only[aK,aJ,aG,aR]
     have e:s.lP n p w=1:=by unfold SF.lP;rw[if_pos og]
     exact⟨by rw[e]<;>rfl,s,by unfold SF.sM;rw[if_neg og],hR,rfl⟩
    ·refine sd (sd (ld .aa (lO _ _) ?_));refine yW ?_ ?_<;>intro h5
     ·try simp only[sb]at h5
      refine bS (pz 2) ?_;try dsimp only[aK,aJ,aG,aR]
      have e:s.lP n p w=3:=by unfold SF.lP;rw[if_neg og,if_pos aq]
      exact⟨by rw[e]<;>rfl,s,by unfold SF.sM;rw[if_neg og],hR,rfl⟩
     ·try simp only[sb]at h5
      have wK:s.aa (10+n)=false:=by
       omega
      refine ca (Yl _ _ _ _) .h1 ?_;rintro _ _ (⟨h6,rfl,rfl⟩ | ⟨h6,rfl,rfl⟩)
      ·obtain⟨i0,i1,i2,i3⟩:=h6;apply gO;refine sd (XO.v (V.build (vs:= #[(0,.bool true),(1,iI p),(2,iI w)]) rfl (v:=.agg (nR (Cc true p w))) fun _=>kq) rfl (gO ?_));refine sd (oS (XO.gM rfl rfl .aa (Cd _ (10+n) p w true) (vT _) zW (XO.mono (fun _ bK=>XM.newRow (s:=s) (z:=(10+n)) og (pk [1]) bK) ?_)));apply gO;refine bS (pk [1,0]) ?_;try dsimp only[aK,aJ,aG,aR]
       have e:s.lP n p w=0:=by unfold SF.lP;rw[if_neg og,if_neg (by rw[wK];simp)];exact i0
       have hwz:s.cy (10+n)=false:=by
        cases q:s.cy (10+n)with
        | false=>rfl
        | true=>have:=(hI.cy _ q).2.2;rw[wK]at this;cases this
       have hk9:∀ i,s.cy i=true->s.ax i≠(10+n):=fun i hi e9=>by
        obtain⟨a,b9,c⟩:=hI.cy i hi;have h9:=(hI.up i a b9 c).2.2.1;simp_all
       exact⟨by rw[e]<;>rfl,_,by unfold SF.sM;rw[if_pos e],hR.new hwz hk9 p w true,rfl⟩
      ·have i0:=h6;apply gO;refine bS (pz 2) ?_;try dsimp only[aK,aJ,aG,aR]
       have e:s.lP n p w=s.D2 p:=by unfold SF.lP;rw[if_neg og,if_neg (by rw[wK];simp)]
       exact⟨by rw[e,aV _ aq],s,by unfold SF.sM;rw[if_neg og],hR,rfl⟩
def Mk(b o:Nat)(s:SC)(d:Int->Nat)(hI:s.toSF.Inv d)(hR:s.pA)(n:Int):Spec Tryz.prog 190 [aA b o 0,iI n] [.cells b o 2281 (aP s),.bk cP (s.dZ 254)] (fun v H1=>v=az 102 (s.yH n)/\∃ t:SC,t.toSF=s.toSF.vt d n/\t.pA/\H1=[.cells b o 2281 (aP t),.bk cP (t.dZ 254)]):=by
 refine Spec.go 30 [0,1,4,5,6,14] [] Tryz.func190 fun W=> ?_;refine ca (UE _ _ _ _) .h1 ?_;rintro _ _ (⟨h1,rfl,rfl⟩ | ⟨h1,rfl,rfl⟩)
 ·obtain⟨i0,i1,i2,i3⟩:=h1;apply gO;refine st .aa (sy _ _ og _) rfl (sd ?_);refine ca (Dm _ _ {s with dS:=ad s.dS (10+n) false} d ⟨hI.h0,hI.up,hI.cy,hI.quo,hI.wt⟩ hR _ (.inr ⟨og,og,i3⟩)) (pz 2) ?_;rintro _ _ ⟨rfl,t,tl,tR,rfl⟩;have tw:t.toSF=s.toSF.fZ d n false:=by rw[tl];unfold SF.fZ;rw[if_pos i0]
  have twz:t.cy (10+n)=false:=by
   show t.toSF.cy (10+n)=false;rw[tl,SF.Nh (s:=({s with dS:=ad s.dS (10+n) false} :SC).toSF) ⟨hI.h0,hI.up,hI.cy,hI.quo,hI.wt⟩ og og i3];unfold SF.ready;grind [aj]
  have tI:t.toSF.Inv d:=by rw[tl];exact SF.wZ (s:=({s with dS:=ad s.dS (10+n) false} :SC).toSF) ⟨hI.h0,hI.up,hI.cy,hI.quo,hI.wt⟩ (.inr ⟨og,og,i3⟩)
  have thp:t.toSF.aa=s.aa/\t.toSF.ax=s.ax:=by rw[tl];exact⟨SF.ze _ _ _,SF.SK _ _ _⟩
  apply gO;refine sd (XO.v (V.build (vs:= #[]) rfl (v:=.agg (nR (Cc false 0 0))) fun _=>kq) rfl (gO ?_));refine sd (oS (XO.gM rfl rfl .aa (Cd _ (10+n) 0 0 false) (vT _) zW (XO.mono (fun _ bK=>XM.newRow (s:=t) (z:=(10+n)) og (pk [1]) bK) ?_)));apply gO;refine bS (pk [1,0]) ?_;try dsimp only[aK,aJ,aG,aR]
  have hk9:∀ i,t.cy i=true->t.ax i≠10+n:=fun i hi e9=>by
   obtain⟨a,b9,c⟩:=tI.cy i hi;have h9:=(tI.up i a b9 c).2.1;omega
  exact⟨by rw[i0];rfl,_,by show t.toSF.pV _ _ _ _=_;unfold SF.vt;rw[if_pos i0,tw],tR.new twz hk9 0 0 false,rfl⟩
 ·have i0:=h1;apply gO;refine bS (pz 2) ?_;try dsimp only[aK,aJ,aG,aR]
  exact⟨by rw[aV _ aq],s,by unfold SF.vt;rw[if_neg aq],hR,rfl⟩
def ab3(b o:Nat)(s:SC)(d:Int->Nat)(hI:s.toSF.Inv d)(hR:s.pA)(hD:∀ n,0<=n->n<30->d n<=1000)(Bd:Int)(hB:0<=Bd/\Bd<=100000000000000)(hS:s.toSF.bR Bd)(akL:0<=s.ij/\s.ij<=Bd)(W6:(s.toSF.qB d).mU):Spec Tryz.prog 112 [aA b o 0] [.cells b o 2281 (aP s),.bk cP (s.dZ 254)] (fun v H1=>v=iI (s.toSF.pU d).1/\∃ t:SC,t.toSF=(s.toSF.pU d).2/\t.pA/\H1=[.cells b o 2281 (aP t),.bk cP (t.dZ 254)]):=by
 refine Spec.go 94 [0,2,3,4,5,7,8,10,40,65,67,81] [] Tryz.func112 fun W=> ?_;refine lp (σ:=SC×Int) (fun x=>(10-x.2).toNat) (fun x=>x.1.pA/\x.1.toSF.Inv d/\(1<=x.2/\x.2<=10)/\x.1.toSF=s.toSF.mB d (x.2-1).toNat/\x.1.toSF.ij=s.toSF.ij/\x.1.toSF.bR Bd) (fun x=>[(3,iI x.2),(0,aA b o 0)]) (fun x=>XM W (ck [.cells b o 2281 (aP s),.bk cP (s.dZ 254)]) [.cells b o 2281 (aP x.1),.bk cP (SC.dZ 254 x.1)]) ((s,1)) ?_ S2 (xq (pz 2)) ?_
 ·exact⟨hR,hI,sq,rfl,rfl,hS⟩
 intro x hx;obtain⟨xR,xI,DZ,Ur,hxn,xS⟩:=hx;apply gC;refine cd rfl ?_ ?_<;>intro h1
 ·have hqx:=xI.quo x.2 og og;refine sd ?_;refine rq [0,1,2,3,4,5,6,7,8,9,10,11,12,13,14,15,16,17,18,19,20,21,22] mixed ?_;apply ld .aa (lO _ _);refine M9 22 rfl ?_ ?_<;>intro h2
  ·try simp only[sb]at h2
   have hhr:x.1.aa x.2=true:=h2;apply ld .aa (kS _ _);refine sp 29 rfl ?_ ?_<;>intro h3
   ·apply ld .aa (Au _);apply ld .aa (zc _ _ og);refine XO.v (V.rem rfl rfl (by first | decide | omega) _ (Int.tmod_eq_emod_of_nonneg og)) rfl (gO ?_);refine cd rfl ?_ ?_<;>intro h4
    ·apply st .aa (tj _ _ og _) rfl;refine ca (Dm _ _ ({x.1 with dY:=ad x.1.dY x.2 0} :SC) d ⟨xI.h0,xI.up,xI.cy,xI.quo,xI.wt⟩ xR _ (.inr ⟨og,og,hhr⟩)) (pz 2) ?_;rintro _ _ ⟨rfl,t,tl,tR,rfl⟩;apply gO;refine sd ?_;refine ag ((t,x.2+1)) ?_ ?_ S2 (xq (pz 2))
     ·omega
     ·refine⟨tR,?_,by simp;omega,?_,?_,?_⟩
      ·show t.toSF.Inv d;rw[tl];exact SF.wZ (s:=({x.1 with dY:=ad x.1.dY x.2 0} :SC).toSF) ⟨xI.h0,xI.up,xI.cy,xI.quo,xI.wt⟩ (.inr ⟨og,og,hhr⟩)
      ·show t.toSF=s.toSF.mB d (x.2+1-1).toNat;rw[tl,SF.W4 DZ.1 Ur ⟨hhr,aq,aq⟩]
      ·show t.toSF.ij=_;rw[tl];exact(SF.jU _ _ _).2.2.2.2.2.2.2.2.2.2.trans hxn
      ·show t.toSF.bR Bd;rw[tl];exact SF.bR.gW _ (({x.1 with dY:=ad x.1.dY x.2 0} :SC).toSF) _ ⟨xI.h0,xI.up,xI.cy,xI.quo,xI.wt⟩ (xS.dY hB.1 x.2) (.inr ⟨og,og,hhr⟩)
    ·refine sd ?_;refine ag ((x.1,x.2+1)) ?_ ?_ S2 (xq (pz 2))
     ·omega
     ·refine⟨xR,xI,by simp;omega,?_,hxn,xS⟩;show x.1.toSF=s.toSF.mB d (x.2+1-1).toNat;rw[SF.Gu DZ.1 Ur];omega
   ·refine sd ?_;refine ag ((x.1,x.2+1)) ?_ ?_ S2 (xq (pz 2))
    ·omega
    ·refine⟨xR,xI,by simp;omega,?_,hxn,xS⟩;show x.1.toSF=s.toSF.mB d (x.2+1-1).toNat;rw[SF.Gu DZ.1 Ur];omega
  ·try simp only[sb]at h2
   have hhr:x.1.aa x.2=false:=h2;refine sd ?_;refine ag ((x.1,x.2+1)) ?_ ?_ S2 (xq (pz 2))
   ·omega
   ·refine⟨xR,xI,by simp;omega,?_,hxn,xS⟩;show x.1.toSF=s.toSF.mB d (x.2+1-1).toNat;rw[SF.Gu DZ.1 Ur];simp_all
 ·have V1:x.2=10:=og;rw[show(x.2-1).toNat=9 from og]at Ur;have hte:({x.1 with ij:=x.1.ij+1} :SC).toSF=(s.toSF.qB d):=by
   show({x.1.toSF with ij:=x.1.toSF.ij+1} :SF)= {s.toSF.mB d 9 with ij:=s.toSF.ij+1};simp_all
  have hI1:SF.Inv ({x.1 with ij:=x.1.ij+1} :SC).toSF d:=⟨xI.h0,xI.up,xI.cy,xI.quo,xI.wt⟩;have hR1:SC.pA ({x.1 with ij:=x.1.ij+1} :SC):=xR;have hS1:SF.bR ({x.1 with ij:=x.1.ij+1} :SC).toSF Bd:=xS;have H5:∀ i,({x.1 with ij:=x.1.ij+1} :SC).toSF.cy i=true->0<i/\i<30:=fun i hi=>⟨(hI1.cy i hi).1,(hI1.cy i hi).2.1⟩;have hF:=hR1.first H5 (g:=0) og og
  rw[<-hte]at W6;apply ld .aa (Au _);refine sd ?_;apply st .aa (IC _ _) rfl;refine sd ?_;apply XR.mono fun _ bK=>nf (z:=0) og (pz 2) bK;refine ca (NZ _ _ _ _ _) (pz 2) ?_;rintro _ _ ⟨rfl,rfl⟩;apply XO.mono fun _ bK=>rz (z:=0) og (pz 5) bK;apply gO;refine yW ?_ ?_<;>intro h5
  ·try simp only[sb]at h5
   have hb:({x.1 with ij:=x.1.ij+1} :SC).toSF.fJ 0<0:=by
    simp_all
   have Dn:SF.bG d s.toSF= -1:=by
    unfold SF.bG;rw[<-hte];exact SF.aa4 _ _ og hb
   refine bS (pz 2) ?_;try dsimp only[aK,aJ,aG,aR]
   refine⟨?_,_,?_,hR1,rfl⟩
   ·unfold SF.pU;rw[Dn];rfl
   ·unfold SF.pU;rw[Dn];exact hte
  ·try simp only[sb]at h5
   have hb:¬({x.1 with ij:=x.1.ij+1} :SC).toSF.fJ 0<0:=hF.1.1 h5;obtain⟨⟨b1,b2,b3⟩,b4,b5⟩:=SF.w6 H5 hb;have Wb:(x.1.Q 0).first.1=({x.1 with ij:=x.1.ij+1} :SC).toSF.fJ 0:=hF.2 hb
   have Dn:SF.KL ({x.1 with ij:=x.1.ij+1} :SC).toSF (SF.Gt d 30) (x.1.Q 0).first.1=SF.bG d s.toSF:=by
    unfold SF.bG;rw[<-hte,SF.Lk _ _ og hb,Wb]
   have hbI:=hI1.cy _ b1;have hdb:=(hI1.up _ b4 b5 hbI.2.2).2.2.2;rw[b2]at hdb;refine lp (σ:=Int) (fun a=>SF.Gt d 30-d a) (fun a=>(0<a/\a<30/\({x.1 with ij:=x.1.ij+1} :SC).aa a=true)/\({x.1 with ij:=x.1.ij+1} :SC).cy a=true/\(∃ k,SF.Gt d 30<k+d a/\SF.KL ({x.1 with ij:=x.1.ij+1} :SC).toSF k a=SF.bG d s.toSF)/\∃ j,SF.upW ({x.1 with ij:=x.1.ij+1} :SC).toSF j a) (fun a=>[(5,iI a),(0,aA b o 0)]) (fun a=>XM W (ck [.cells b o 2281 (aP s),.bk cP (s.dZ 254)]) [.cells b o 2281 (aP ({x.1 with ij:=x.1.ij+1} :SC)),.bk cP (SC.dZ 254 ({x.1 with ij:=x.1.ij+1} :SC))]) ((x.1.Q 0).first.1) ?_ S2 (xq (pz 2)) ?_
   ·rw[Wb]at Dn ⊢;exact⟨⟨b4,b5,hbI.2.2⟩,b1,⟨SF.Gt d 30,og,Dn⟩,1,.inr ⟨b1,by show({x.1 with ij:=x.1.ij+1} :SC).toSF.ax _<=0;rw[b2];omega⟩⟩
   intro a ha;obtain⟨⟨a0,a1,a2⟩,aw,⟨k,hk,ak⟩,⟨j,ju⟩⟩:=ha;apply gC;refine cd rfl ?_ ?_<;>intro h6
   ·have Wc:=SF.Pe hI1 W6 a0 og aw;have hFa:=hR1.first H5 (g:=a) og og
    have hfa:(x.1.Q a).first.1=({x.1 with ij:=x.1.ij+1} :SC).toSF.fJ a:=hFa.2 Wc
    obtain⟨⟨c1,c2,c3⟩,c4,c5⟩:=SF.w6 H5 Wc;have hcI:=hI1.cy _ c1;have hdc:=(hI1.up _ c4 c5 hcI.2.2).2.2.2;rw[c2]at hdc;have hma:=SF.Bl d 30 a og og;have hmc:=SF.Bl d 30 _ (Int.le_of_lt c4) c5;refine sd ?_;apply XR.mono fun _ bK=>nf (z:=a) og (pz 2) bK;refine ca (NZ _ _ _ _ _) (pz 2) ?_;rintro _ _ ⟨rfl,rfl⟩;apply XO.mono fun _ bK=>rz (z:=a) og (pz 5) bK;apply gO;refine ag ((x.1.Q a).first.1) ?_ ?_ S2 (xq (pz 2))
    ·grind
    ·rw[hfa];obtain⟨k2,rfl⟩:∃ k2,k=k2+1:=⟨k-1,og⟩;rw[SF.Lk _ _ og Wc]at ak;exact⟨⟨c4,c5,hcI.2.2⟩,c1,⟨k2,og,ak⟩,j+1,.inr ⟨c1,by rw[c2];exact ju⟩⟩
   ·have hae:a=SF.bG d s.toSF:=by
     rw[SF.W3 _ _ og]at ak;omega
    have htk:s.toSF.pU d=(a-10,SF.vf (d a+1) ({x.1 with ij:=x.1.ij+1} :SC).toSF a):=by
     unfold SF.pU;grind
    have hda:=hD a og a1;refine lp (σ:=SC×Int) (fun y=>if y.2=0 then 0 else d y.2+1) (fun y=>y.1.pA/\y.1.toSF.Inv d/\(y.2=0\/(0<y.2/\y.2<30/\y.1.aa y.2=true))/\y.1.toSF.bR (Bd+1048577*((d a:Int)-(d y.2:Int)))/\d y.2<=d a/\(∃ k,d y.2+1<=k/\SF.vf k y.1.toSF y.2=(s.toSF.pU d).2)/\∃ j,SF.upW y.1.toSF j y.2) (fun y=>[(8,iI y.2),(0,aA b o 0),(5,iI a)]) (fun y=>XM W (ck [.cells b o 2281 (aP s),.bk cP (s.dZ 254)]) [.cells b o 2281 (aP y.1),.bk cP (SC.dZ 254 y.1)]) ((({x.1 with ij:=x.1.ij+1} :SC),a)) ?_ S3 (xq (pz 2)) ?_
    ·grind
    intro y hy;obtain⟨yR,yI,yn,yS,yd,⟨yk,hyk,yl⟩,⟨j,yu⟩⟩:=hy;apply gC;refine cd rfl ?_ ?_<;>intro h7
    ·obtain⟨y0,y1,y2⟩:=yn.resolve_left og;obtain⟨p0,pp1,p2,p3⟩:=yI.up y.2 y0 y1 y2;obtain⟨k2,rfl⟩:∃ k2,yk=k2+1:=⟨yk-1,og⟩;rw[SF.Nj _ _ y0]at yl;obtain⟨ywn,yu2⟩:y.1.toSF.cy y.2=true/\∃ j,SF.upW y.1.toSF j (y.1.toSF.ax y.2):=by
      cases j with
      | zero=>have:y.2<=0:=yu;omega
      | succ j=>
       rcases yu with q | ⟨q1,q2⟩
       ·omega
       ·grind
     have hdy:=hD y.2 og y1;refine ca (UF _ _ _ d yI yR (Bd+1048577*((d a:Int)-(d y.2:Int))) og yS _ ⟨y0,y1,y2⟩ ywn) (pz 2) ?_;rintro _ _ ⟨rfl,t,tl,tR,rfl⟩;have htp:t.ax y.2=y.1.toSF.ax y.2:=by show t.toSF.ax y.2=_;rw[tl];rfl
     apply gO;refine sd ?_;apply ld .aa (fu _ _);refine ag ((t,y.1.toSF.ax y.2)) ?_ ?_ (S3 (K1 htp) rfl rfl) (xq (pz 2))
     ·grind
     ·have O7:y.1.toSF.ax y.2=0\/(0<y.1.toSF.ax y.2/\y.1.toSF.ax y.2<30/\y.1.toSF.aa (y.1.toSF.ax y.2)=true):=by
       grind
      obtain⟨j2,yu3⟩:=yu2;refine⟨tR,by show t.toSF.Inv d;rw[tl];exact yI.y9 y0 y1 y2,?_,?_,by show d (y.1.toSF.ax y.2)<=d a;omega,⟨k2,by show d (y.1.toSF.ax y.2)+1<=k2;omega,by show SF.vf k2 t.toSF (y.1.toSF.ax y.2)=_;rw[tl];exact yl⟩,j2,by show SF.upW t.toSF j2 (y.1.toSF.ax y.2);rw[tl];exact SF.Nk yI j2 _ O7 p3 yu3⟩
      ·show y.1.toSF.ax y.2=0\/(0<y.1.toSF.ax y.2/\y.1.toSF.ax y.2<30/\t.toSF.aa (y.1.toSF.ax y.2)=true);rw[tl];exact O7
      ·show t.toSF.bR (Bd+1048577*((d a:Int)-(d (y.1.toSF.ax y.2):Int)));rw[tl];exact(SF.bR.y9 yI yS y0 y1 y2).mono og
    ·refine sd ?_;refine bS (pz 2) ?_;try dsimp only[aK,aJ,aG,aR]
     have hy0:y.2=0:=by
      omega
     rw[hy0,SF.E7 _ _ og]at yl;grind
end Go.X.Fa
