import Derived.Test.YthdinakloheinaaGreatDoorkSW
set_option linter.all false
namespace Go.X.Fa
open Go Go.Proofs Go.X
set_option maxRecDepth 20000
set_option maxHeartbeats 4000000
def UZ:rh Tryz.prog 254 2=true:=kq
def U0:fk Tryz.prog 254=some 2:=kq
def MI(k i k2 i2:Int):Spec Tryz.prog 243 [.agg #[.int .u64 (k),iI (i)],.agg #[.int .u64 (k2),iI (i2)]] [] (fun v H1=>v= .bool (decide (AH k i k2 i2))/\H1=[]):=by
 apply Spec.go 24 [2,3,4] [] Tryz.func243 rfl rfl rfl;intro W;refine XO.box (m:=2) (C:=qs k i) rfl rfl (zl _ _) rfl ?_;intro ba;apply gO;refine XO.box (m:=2) (C:=qs k2 i2) rfl rfl (zl _ _) rfl ?_;intro bc;apply gO;apply ld (.av .aa) (uG _ _);apply ld .aa (uG _ _);refine sp 10 rfl ?_ ?_<;>intro h1
 ·refine ah rfl rfl (ad .nil rfl ?_);grind [aL,aJ,aR,AH]
 ·apply ld (.av .aa) (uG _ _);apply ld .aa (uG _ _);refine sp 16 rfl ?_ ?_<;>intro h2
  ·apply ld (.av .aa) (xx _ _);apply ld .aa (xx _ _);refine ah rfl rfl (ad .nil rfl ?_);grind [aL,aJ,AH]
  ·refine ah rfl rfl (ad .nil rfl ?_);grind [aL,aJ,aR,AH]
def DG(b o g cap:Nat)(s:QS)(i k id:Int)(hi:0<=i/\i<s.n:=by omega)(hd:0<=id/\id<64:=by omega)(hn:s.n<=1000:=by omega):Spec Tryz.prog 224 [aC b o 0,iI i,.agg #[.int .u64 (k),iI (id)]] [.cells b o 65 (gq (s) (some ⟨g,0,none⟩) cap),aS (some ⟨g,0,none⟩) cap 254 2 (s).n (gZ (s))] (fun v H1=>v= .tuple #[]/\H1=[.cells b o 65 (gq (s.set i k id) (some ⟨g,0,none⟩) cap),aS (some ⟨g,0,none⟩) cap 254 2 (s.set i k id).n (gZ (s.set i k id))]):=by
 apply Spec.go 21 [0,1,5] [] Tryz.func224 rfl rfl rfl;intro W;refine XO.box (m:=2) (C:=qs k id) rfl rfl (zl _ _) rfl ?_;intro bx;apply gO;refine rq [0,1,2,3,4,5,6,7] mixed ?_;apply ld (.av .aa) (iv _ _ _);apply lZ .aa (jQ _ _);refine sd ?_;apply agZ (.t2 .aa) (SO _ _ _ _ _ og) rfl ⟨rfl,rfl⟩;refine rq [0,1,2,3,4,5,6,7,8] mixed ?_;apply ld .aa (xx _ _);refine sd ?_;refine sd ?_;apply st (.av .aa) (Cs _ _ _ _ _ og) rfl;refine cS rfl (ad (pk [1,1]) rfl ?_);exact⟨rfl,rfl⟩
def afg(b o g cap:Nat)(s:QS)(i:Int)(hi:0<=i/\i<s.n)(hR:s.Wr)(hn:s.n<=1000:=by omega):Spec Tryz.prog 223 [aC b o 0,iI i] [.cells b o 65 (gq (s) (some ⟨g,0,none⟩) cap),aS (some ⟨g,0,none⟩) cap 254 2 (s).n (gZ (s))] (fun v H1=>v= .tuple #[]/\H1=[.cells b o 65 (gq (s.up i) (some ⟨g,0,none⟩) cap),aS (some ⟨g,0,none⟩) cap 254 2 (s.up i).n (gZ (s.up i))]):=by
 obtain⟨r1,r2⟩:=hR i hi.1 hi.2;apply Spec.go 46 [0,1,4,26] [] Tryz.func223 rfl rfl rfl;intro W;apply ld .aa (iv _ _ _);refine sd ?_;apply qn (.av .aa) (kf _ _ _);apply XO.bN (z:=.agg #[.int .u64 0,iI 0]) (m:=2) (C:=cellsOf #[.int .u64 0,iI 0]) kq rfl (fun _ _=>rfl) rfl;intro bx;apply gO;apply gD .aa (zm _ _) rfl ⟨rfl,rfl⟩;refine lp (σ:=QS×Int) (fun x=>x.2.toNat) (fun x=>x.1.n=s.n/\(0<=x.2/\x.2<s.n)/\x.1.Wr/\QS.Eh x.2.toNat x.1 x.2 (s.K i) (s.I i)=s.up i) (fun x=>[(1,iI x.2),(0,aC b o 0),(4,aC bx 0 0)]) (fun x=>XM W (bZ [.cells b o 65 (gq (s) (some ⟨g,0,none⟩) cap),aS (some ⟨g,0,none⟩) cap 254 2 (s).n (gZ (s))]) [.cells bx 0 2 (qs (s.K i) (s.I i)),.cells b o 65 (gq (x.1) (some ⟨g,0,none⟩) cap),aS (some ⟨g,0,none⟩) cap 254 2 (x.1).n (gZ (x.1))]) ((s,i)) ?_ (S3 rfl rfl rfl) (fun _ hw=>XM.pick (pz 3) hw) ?_
 ·exact⟨rfl,hi,hR,rfl⟩
 intro x hx;obtain⟨xn,xi,xR,xu⟩:=hx;apply gC;refine rq [0,1,2,3,4,5,6,7,8,9,10,11,12,13,14] mixed ?_;refine sp 14 rfl ?_ ?_<;>intro h1
 ·have Lc:0<=((x.2-1)/2)/\((x.2-1)/2)<x.1.n:=og;have hpr:=xR ((x.2-1)/2) Lc.1 Lc.2;apply lZ .aa (jQ _ _);apply ld (.av .aa) (iv _ _ _);refine sd ?_;refine XO.v (V.quo rfl rfl (by first | decide | omega) _ (sV)) rfl (gO ?_);refine sd ?_;apply qn (.t2 .aa) (kf _ _ _);refine cq (MI _ _ _ _) .nil ?_;refine cd rfl ?_ ?_<;>intro h2
  ·have sW:QS.Eh x.2.toNat x.1 x.2 (s.K i) (s.I i)=QS.Eh (((x.2-1)/2)).toNat (x.1.set x.2 (x.1.K ((x.2-1)/2)) (x.1.I ((x.2-1)/2))) ((x.2-1)/2) (s.K i) (s.I i):=I6 og h2;apply ld (.av .aa) (iv _ _ _);refine sd ?_;refine XO.v (V.quo rfl rfl (by first | decide | omega) _ (sV)) rfl (gO ?_);refine sd ?_;apply qn (.t2 .aa) (kf _ _ _);refine cq (DG _ _ _ _ _ _ _ _) (pk [1,1]) ?_;refine sd ?_;refine XO.v (V.quo rfl rfl (by first | decide | omega) _ (sV)) rfl (gO ?_);refine ag ((x.1.set x.2 (x.1.K ((x.2-1)/2)) (x.1.I ((x.2-1)/2)),((x.2-1)/2))) ?_ ?_ (S3 rfl rfl rfl) fun _ hw=>XM.pick (pk [2,0,0]) hw;all_goals grind [QS.Wr.set,QS.set]
  ·have sW:QS.Eh x.2.toNat x.1 x.2 (s.K i) (s.I i)=x.1.set x.2 (s.K i) (s.I i):=AK fun q=>h2 q.2;rw[sW]at xu;apply lZ .aa (jQ _ _);refine cq (DG _ _ _ _ _ _ _ _) (pk [1,1]) ?_;refine cS rfl (ad (pz 2) rfl ?_);simp_all
 ·have sW:QS.Eh x.2.toNat x.1 x.2 (s.K i) (s.I i)=x.1.set x.2 (s.K i) (s.I i):=AK fun q=>og;rw[sW]at xu;apply lZ .aa (jQ _ _);refine cq (DG _ _ _ _ _ _ _ _) (pk [1,1]) ?_;refine cS rfl (ad (pz 2) rfl ?_);simp_all
def acp(b o g cap:Nat)(s:QS)(i:Int)(hi:0<=i/\i<s.n)(hR:s.Wr)(hn:s.n<=1000):Spec Tryz.prog 225 [aC b o 0,iI i] [.cells b o 65 (gq (s) (some ⟨g,0,none⟩) cap),aS (some ⟨g,0,none⟩) cap 254 2 (s).n (gZ (s))] (fun v H1=>v= .tuple #[]/\H1=[.cells b o 65 (gq (s.down i) (some ⟨g,0,none⟩) cap),aS (some ⟨g,0,none⟩) cap 254 2 (s.down i).n (gZ (s.down i))]):=by
 obtain⟨r1,r2⟩:=hR i hi.1 hi.2;apply Spec.go 78 [0,1,4,5,41,62] [(2,1)] Tryz.func225 rfl rfl rfl;intro W;apply ld .aa (iv _ _ _);refine sd ?_;apply qn (.av .aa) (kf _ _ _);apply XO.bN (z:=.agg #[.int .u64 0,iI 0]) (m:=2) (C:=cellsOf #[.int .u64 0,iI 0]) kq rfl (fun _ _=>rfl) rfl;intro bx;apply gO;apply gD .aa (zm _ _) rfl ⟨rfl,rfl⟩;refine lp (σ:=QS×Int) (fun x=>s.n-x.2.toNat) (fun x=>x.1.n=s.n/\(0<=x.2/\x.2<s.n)/\x.1.Wr/\QS.ku (x.1.n-x.2.toNat) x.1 x.2 (s.K i) (s.I i)=s.down i) (fun x=>[(1,iI x.2),(0,aC b o 0),(4,aC bx 0 0)]) (fun x=>XM W (bZ [.cells b o 65 (gq (s) (some ⟨g,0,none⟩) cap),aS (some ⟨g,0,none⟩) cap 254 2 (s).n (gZ (s))]) [.cells bx 0 2 (qs (s.K i) (s.I i)),.cells b o 65 (gq (x.1) (some ⟨g,0,none⟩) cap),aS (some ⟨g,0,none⟩) cap 254 2 (x.1).n (gZ (x.1))]) ((s,i)) ?_ (S3 rfl rfl rfl) (fun _ hw=>XM.pick (pz 3) hw) ?_
 ·grind [QS.down]
 intro x hx;obtain⟨xn,xi,xR,xu⟩:=hx;apply gC;refine sd ?_;refine sd ?_;apply ct [(0,aC b o 0),(1,iI x.2),(4,aC bx 0 0),(5,iI (x.1.bA x.2))] (XM W (bZ [.cells b o 65 (gq (s) (some ⟨g,0,none⟩) cap),aS (some ⟨g,0,none⟩) cap 254 2 (s).n (gZ (s))]) [.cells bx 0 2 (qs (s.K i) (s.I i)),.cells b o 65 (gq (x.1) (some ⟨g,0,none⟩) cap),aS (some ⟨g,0,none⟩) cap 254 2 (x.1).n (gZ (x.1))])
 ·refine rq [0,1,2,3,4,5,6,7,8,9,10,11,12,13,14,15,16,17,18,19,20,21,22,23,24,25] mixed ?_;refine sd ?_;apply ld (.av .aa) (iv _ _ _);refine sp 24 rfl ?_ ?_<;>intro h1
  ·apply ld (.av .aa) (iv _ _ _);refine sd ?_;refine sd ?_;apply qn (.t2 .aa) (kf _ _ _);apply ld (.av .aa) (iv _ _ _);refine sd ?_;apply qn (.t2 .aa) (kf _ _ _);refine cq (MI _ _ _ _) .nil ?_;refine cd rfl ?_ ?_<;>intro h2
   ·have hc:2*x.2+1+1=(x.1.bA x.2):=by unfold QS.bA;rw[if_pos ⟨og,h2⟩]
    refine sd ?_;refine mt (S4 rfl rfl rfl (Lr hc)) fun _ hw=>XM.pick (pz 3) hw
   ·have hc:2*x.2+1=(x.1.bA x.2):=by unfold QS.bA;rw[if_neg fun q=>h2 q.2]
    refine mt (S4 rfl rfl rfl (Lr hc)) fun _ hw=>XM.pick (pz 3) hw
  ·have hc:2*x.2+1=(x.1.bA x.2):=by unfold QS.bA;rw[if_neg fun q=>og]
   refine mt (S4 rfl rfl rfl (Lr hc)) fun _ hw=>XM.pick (pz 3) hw
 have hcc:x.2<(x.1.bA x.2):=by rcases x.1.gY x.2 with⟨e,_⟩ | ⟨e,_⟩<;>omega
 have hpr:=xR (x.1.bA x.2) og;have hcu:(x.1.bA x.2)<=2*x.2+2:=by rcases x.1.gY x.2 with⟨e,_⟩ | ⟨e,_⟩<;>omega
 apply gC;refine rq [0,1,2,3,4,5,6,7,8,9,10,11,12,13,14,15,16,17,18] mixed ?_;apply ld (.av .aa) (iv _ _ _);refine sp 51 rfl ?_ ?_<;>intro h3
 ·have sW:QS.ku (x.1.n-x.2.toNat) x.1 x.2 (s.K i) (s.I i)=x.1.set x.2 (s.K i) (s.I i):=vB fun q=>og;rw[sW]at xu;apply lZ .aa (jQ _ _);refine cq (DG _ _ _ _ _ _ _ _) (pk [1,1]) ?_;refine cS rfl (ad (pz 2) rfl ?_);simp_all
 ·have hpr:=hpr og;apply ld (.av .aa) (iv _ _ _);refine sd ?_;apply qn (.t2 .aa) (kf _ _ _);apply lZ .aa (jQ _ _);refine cq (MI _ _ _ _) .nil ?_;refine cd rfl ?_ ?_<;>intro h4
  ·have sW:QS.ku (x.1.n-x.2.toNat) x.1 x.2 (s.K i) (s.I i)=x.1.set x.2 (s.K i) (s.I i):=vB fun q=>h4 q.2;rw[sW]at xu;apply lZ .aa (jQ _ _);refine cq (DG _ _ _ _ _ _ _ _) (pk [1,1]) ?_;refine cS rfl (ad (pz 2) rfl ?_);simp_all
  ·have sW:=Ew (s:=x.1) (k:=s.K i) (id:=s.I i) xi.1 og og (Decidable.not_not.mp h4);apply ld (.av .aa) (iv _ _ _);refine sd ?_;apply qn (.t2 .aa) (kf _ _ _);refine cq (DG _ _ _ _ _ _ _ _) (pk [1,1]) ?_;refine ag ((x.1.set x.2 (x.1.K (x.1.bA x.2)) (x.1.I (x.1.bA x.2)),(x.1.bA x.2))) ?_ ?_ (S3 rfl rfl rfl) fun _ hw=>XM.pick (pk [2,0,0]) hw;all_goals grind [QS.Wr.set,QS.set]
def aap(b o cap:Nat)(p:Option Addr)(s:QS)(hO:s.Ok)(id iJ:Int):Spec Tryz.prog 188 [aC b o 0,iI id,.int .u64 iJ] [.cells b o 65 (gq (s) p cap),aS p cap 254 2 (s).n (gZ (s))] (fun v H1=>∃ p1 c1,v=az 102 (s.put id iJ).1/\H1=[.cells b o 65 (gq ((s.put id iJ).2) p1 c1),aS p1 c1 254 2 ((s.put id iJ).2).n (gZ ((s.put id iJ).2))]):=by
 apply Spec.go 42 [0,1,2,6,12,20] [] Tryz.func188 rfl rfl rfl;intro W;refine sp 9 rfl ?_ ?_<;>intro h1
 ·refine ah rfl rfl (ad (pz 2) rfl ?_);simp_all[aL,aJ,aR,QS.qt,az]
 ·refine cd rfl ?_ ?_<;>intro h2
  ·refine ah rfl rfl (ad (pz 2) rfl ?_);rw[QS.qt og];exact⟨_,_,rfl,rfl⟩
  ·refine sd ?_;apply ld .aa (xw _ _ _ _);refine cd rfl ?_ ?_<;>intro h3
   ·refine ah rfl rfl (ad (pz 2) rfl ?_);rw[QS.uH og og];exact⟨_,_,rfl,rfl⟩
   ·have Wq:=hO.LG id og og;have lD:=hO.room (id:=id) og og;apply ld .aa (iv _ _ _);refine XO.v (V.build (vs:= #[(0,.int .u64 iJ),(1,iI id)]) rfl (v:=.agg #[.int .u64 iJ,iI id]) fun _=>kq) rfl (gO ?_);apply XO.buildSlice (e:=254) (vs:= #[(0,.agg #[.int .u64 iJ,iI id])]) (A:= #[.int .u64 iJ,iI id]) rfl (fun _=>kq) rfl rfl;intro h4;apply gO;apply vY (e:=254) (C2:=gZ (s.ka iJ id)) rfl rfl Tryz.underlying183 UZ (.av (.av .aa)) .aa rfl rfl og og (PJ s iJ id) rfl;intro p1 c1;apply gO;apply st (.t2 .aa) (SP s _ _ _ _ iJ id) rfl;apply bH .aa og;intro g1 h5;subst h5;have hn1:(s.ka iJ id).n=s.n+1:=rfl;have hR:(s.ka iJ id).Wr:=fun j j0 j1=>by
     show 0<=ae s.I s.n id j/\ae s.I s.n id j<64;unfold ae;split
     ·omega
     ·exact hO.kv j j0 og
    apply ld (.t2 .aa) (show 0+0<65/\gq (s.ka iJ id) _ _ (0+0)= .slice _ (s.n+1) _ from⟨og,rfl⟩);apply oV;refine XO.v (V.sub rfl rfl (s.n:Int) (by rw[show((s.n+1:Nat):Int)-1=s.n from og];exact IntWalk.i64_in _ og)) rfl (gO ?_);refine cq (afg _ _ _ _ (s.ka iJ id) _ og hR) (pk [2,0]) ?_;refine ah rfl rfl (ad (pz 2) rfl ?_);rw[QS.te og og];exact⟨_,_,rfl,rfl⟩
def aaq(b o cap:Nat)(p:Option Addr)(s:QS)(hO:s.Ok)(hH:s.vn)(id:Int):Spec Tryz.prog 189 [aC b o 0,iI id] [.cells b o 65 (gq (s) p cap),aS p cap 254 2 (s).n (gZ (s))] (fun v H1=>∃ p1 c1,v= .tuple #[.int .u64 (s.cut id).1,az 102 (s.cut id).2.1]/\H1=[.cells b o 65 (gq ((s.cut id).2.2) p1 c1),aS p1 c1 254 2 ((s.cut id).2.2).n (gZ ((s.cut id).2.2))]):=by
 apply Spec.go 83 [0,1,4,5,6,7,8,9,15,25,64] [] Tryz.func189 rfl rfl rfl;intro W;refine sp 12 rfl ?_ ?_<;>intro h1
 ·refine ao rfl rfl rfl (ad (pz 2) rfl ?_);simp_all[aL,aJ,aR,ru,az]
 ·refine cd rfl ?_ ?_<;>intro h2
  ·refine ao rfl rfl rfl (ad (pz 2) rfl ?_);rw[ru og];exact⟨_,_,rfl,rfl⟩
  ·have Wq:=hO.LG id og og;have ahR:=hO.n64;refine sd ?_;apply ld .aa (xw _ _ _ _);refine sd ?_;refine cd rfl ?_ ?_<;>intro h3
   ·refine ao rfl rfl rfl (ad (pz 2) rfl ?_);rw[AL og og];exact⟨_,_,rfl,rfl⟩
   ·apply bH (.av .aa) og;intro g1 h4;subst h4;apply ld .aa (iv _ _ _);refine sd ?_;apply W4 (.av .aa) (Ct _ _ _);apply ld .aa (iv _ _ _);refine sd ?_;apply ld .aa (iv _ _ _);refine sd ?_;apply qn (.av .aa) (kf _ _ _);apply XO.bN (z:=.agg #[.int .u64 0,iI 0]) (m:=2) (C:=cellsOf #[.int .u64 0,iI 0]) kq rfl (fun _ _=>rfl) rfl;intro bx;apply gO;apply gD .aa (zm _ _) rfl ⟨rfl,rfl⟩;apply qm (.t2 .aa);intro GX;apply ld (.av .aa) (iv _ _ _);refine XO.Sb (k2:=s.n-1) (C':=gZ (s.fe id)) rfl rfl Tryz.underlying183 U0 og og GX (fun _ _=>rfl) (.t2 .aa) rfl (gO ?_);apply st (.av .aa) (Fl _ _ _ _ _ _) rfl;refine sd ?_;apply st (.av .aa) (SQ s _ _ id og) rfl;refine cd rfl ?_ ?_<;>intro h5
    ·have hn1:(s.fe id).n=s.n-1:=rfl;obtain⟨m1,m2,m3,q,m4,_,m5⟩:=hO.mid hH (xk:=s.K ((s.n:Int)-1)) (id:=id) og og rfl rfl og;have hr9:=hO.kv ((s.n:Int)-1) og og;have m6:(((s.fe id).set (s.at_ id-1) (s.K ((s.n:Int)-1)) (s.I ((s.n:Int)-1))).down (s.at_ id-1)).n=((s.fe id).set (s.at_ id-1) (s.K ((s.n:Int)-1)) (s.I ((s.n:Int)-1))).n:=PK _ _;have m7:((s.fe id).set (s.at_ id-1) (s.K ((s.n:Int)-1)) (s.I ((s.n:Int)-1))).n=s.n-1:=rfl;apply lZ .aa (jQ _ _);refine cq (DG _ _ _ _ (s.fe id) _ _ _) (pk [1,1]) ?_;refine cq (acp _ _ _ _ ((s.fe id).set (s.at_ id-1) (s.K ((s.n:Int)-1)) (s.I ((s.n:Int)-1))) _ og (fun j j0 j1=>m1.kv j j0 j1) og) (pz 2) ?_;refine rq [0,1,2,3,4,5,6,7,8,9] mixed ?_;apply ld (.t2 .aa) (xx _ _);refine sd ?_;apply ld .aa (xw _ _ _ _);refine sd ?_;refine cq (afg _ _ _ _ (((s.fe id).set (s.at_ id-1) (s.K ((s.n:Int)-1)) (s.I ((s.n:Int)-1))).down (s.at_ id-1)) _ og fun j j0 j1=>m2.kv j j0 j1) (pz 2) ?_;refine ao rfl rfl rfl (ad (pz 2) rfl ?_);rw[tf];unfold QS.vz;rw[if_pos og];exact⟨_,_,rfl,rfl⟩
    ·refine ao rfl rfl rfl (ad (pk [1,1]) rfl ?_);rw[tf];unfold QS.vz;rw[if_neg og];exact⟨_,_,rfl,rfl⟩
def afh(b o cap:Nat)(p:Option Addr)(s:QS)(hO:s.Ok)(id:Int):Spec Tryz.prog 186 [aC b o 0,iI id] [.cells b o 65 (gq (s) p cap),aS p cap 254 2 (s).n (gZ (s))] (fun v H1=>v= .tuple #[.int .u64 (s.iJ id).1,az 102 (s.iJ id).2]/\H1=[.cells b o 65 (gq (s) p cap),aS p cap 254 2 (s).n (gZ (s))]):=by
 apply Spec.go 35 [0,1,4,5,11,19] [] Tryz.func186 rfl rfl rfl;intro W;refine sp 8 rfl ?_ ?_<;>intro h1
 ·refine ao rfl rfl rfl (ad (pz 2) rfl ?_);grind [aL,aJ,aR,QS.iJ,az]
 ·refine cd rfl ?_ ?_<;>intro h2
  ·refine ao rfl rfl rfl (ad (pz 2) rfl ?_);grind [aL,aJ,aR,QS.iJ,az]
  ·refine sd ?_;apply ld .aa (xw _ _ _ _);refine cd rfl ?_ ?_<;>intro h3
   ·refine ao rfl rfl rfl (ad (pz 2) rfl ?_);grind [aL,aJ,aR,QS.iJ,az]
   ·have Wq:=hO.LG id og og;have ahR:=hO.n64;apply bH (.av .aa) og;intro g1 h4;subst h4;refine rq [0,1,2,3,4,5,6,7,8,9,10,11,12,13,14,15] mixed ?_;apply ld .aa (iv _ _ _);refine sd ?_;apply ld .aa (xw _ _ _ _);refine sd ?_;refine sd ?_;apply W4 (.av .aa) (Ct _ _ _);refine ao rfl rfl rfl (ad (pz 2) rfl ?_);grind [aL,aJ,aR,QS.iJ,az]
def Oy(b o cap:Nat)(p:Option Addr)(s:QS):Spec Tryz.prog 182 [aC b o 0] [.cells b o 65 (gq (s) p cap),aS p cap 254 2 (s).n (gZ (s))] (fun v H1=>v= .tuple #[iI s.first.1,.int .u64 s.first.2.1,.bool s.first.2.2]/\H1=[.cells b o 65 (gq (s) p cap),aS p cap 254 2 (s).n (gZ (s))]):=by
 apply Spec.go 25 [0,2,3,4,10] [] Tryz.func182 rfl rfl rfl;intro W;apply ld .aa (iv _ _ _);refine cd rfl ?_ ?_<;>intro h1
 ·refine mL rfl rfl rfl rfl (ad (pz 2) rfl ?_);grind [aL,aJ,aR,QS.first]
 ·apply bH (.av .aa) og;intro g1 h2;subst h2;refine rq [0,1,2,3,4,5,6,7,8,9,10,11,12,13,14,15,16] mixed ?_;apply ld .aa (iv _ _ _);refine sd ?_;apply W4 (.av .aa) (Xi _ _ _ og);apply ld .aa (iv _ _ _);refine sd ?_;apply W4 (.av .aa) (Ct _ _ _);refine mL rfl rfl rfl rfl (ad (pz 2) rfl ?_);grind [aL,aJ,aR,QS.first]
def afi(b o cap:Nat)(p:Option Addr)(s:QS):Spec Tryz.prog 222 [aC b o 0] [.cells b o 65 (gq (s) p cap),aS p cap 254 2 (s).n (gZ (s))] (fun v H1=>v=iI (s.n:Int)/\H1=[.cells b o 65 (gq (s) p cap),aS p cap 254 2 (s).n (gZ (s))]):=by
 apply Spec.go 8 [0,2] [] Tryz.func222 rfl rfl rfl;intro W;apply ld .aa (iv _ _ _);refine ah rfl rfl (ad (pz 2) rfl ?_);grind [aL,aJ]
def vh(b o:Nat)(s:SC)(n:Int):Spec Tryz.prog 126 [aC b o 0,iI n] [.cells b o 2281 (aM s)] (fun v H1=>((s.vq n=0/\0<=n/\n<10/\s.aa n=true)/\v= .tuple #[aC b o (0+0+n.toNat*76),.nilIface]/\H1=[.cells b o 2281 (aM s)])\/(s.vq n≠0/\v= .tuple #[.pointer none,.iface 102 (iI (s.vq n))]/\H1=[.cells b o 2281 (aM s)])):=by
 apply Spec.go 27 [0,1,4,5,11,20] [] Tryz.func126 rfl rfl rfl;intro W;refine sp 8 rfl ?_ ?_<;>intro h1
 ·refine ao rfl rfl rfl (ad .h1 rfl ?_);try dsimp only[aL,aJ,aD,aR]
  have e:s.vq n=1:=by unfold SF.vq;rw[if_pos og]
  simp_all
 ·refine cd rfl ?_ ?_<;>intro h2
  ·refine ao rfl rfl rfl (ad .h1 rfl ?_);try dsimp only[aL,aJ,aD,aR]
   have e:s.vq n=1:=by unfold SF.vq;rw[if_pos og]
   simp_all
  ·refine sd (ld .aa (iM _ _) ?_);refine we rfl ?_ ?_<;>intro h3
   ·try simp only[sb]at h3
    refine ao rfl rfl rfl (ad .h1 rfl ?_);try dsimp only[aL,aJ,aD,aR]
    have e:s.vq n=2:=by unfold SF.vq;rw[if_neg og,if_neg (by simp_all)]
    simp_all
   ·try simp only[sb]at h3
    refine sd (ao rfl rfl rfl (ad .h1 rfl ?_));try dsimp only[aL,aJ,aD,aR]
    have e:s.vq n=0:=by unfold SF.vq;rw[if_neg og,if_pos (by simp_all)]
    simp_all
def MJ(b o:Nat)(s:SC)(n:Int):Spec Tryz.prog 127 [aC b o 0,iI n] [.cells b o 2281 (aM s)] (fun v H1=>((s.xz n=0/\0<=n/\n<20/\s.aa (10+n)=true)/\v= .tuple #[aC b o (0+0+(10+n).toNat*76),.nilIface]/\H1=[.cells b o 2281 (aM s)])\/(s.xz n≠0/\v= .tuple #[.pointer none,.iface 102 (iI (s.xz n))]/\H1=[.cells b o 2281 (aM s)])):=by
 apply Spec.go 29 [0,1,4,5,11,21] [] Tryz.func127 rfl rfl rfl;intro W;refine sp 8 rfl ?_ ?_<;>intro h1
 ·refine ao rfl rfl rfl (ad .h1 rfl ?_);try dsimp only[aL,aJ,aD,aR]
  have e:s.xz n=1:=by unfold SF.xz;rw[if_pos og]
  simp_all
 ·refine cd rfl ?_ ?_<;>intro h2
  ·refine ao rfl rfl rfl (ad .h1 rfl ?_);try dsimp only[aL,aJ,aD,aR]
   have e:s.xz n=1:=by unfold SF.xz;rw[if_pos og]
   simp_all
  ·refine sd (sd (ld .aa (iM _ _) ?_));refine we rfl ?_ ?_<;>intro h3
   ·try simp only[sb]at h3
    refine ao rfl rfl rfl (ad .h1 rfl ?_);try dsimp only[aL,aJ,aD,aR]
    have e:s.xz n=2:=by unfold SF.xz;rw[if_neg og,if_neg (by simp_all)]
    simp_all
   ·try simp only[sb]at h3
    refine sd (sd (ao rfl rfl rfl (ad .h1 rfl ?_)));try dsimp only[aL,aJ,aD,aR]
    have e:s.xz n=0:=by unfold SF.xz;rw[if_neg og,if_pos (by simp_all)]
    simp_all
def Oz(b o:Nat)(s:SC)(hR:s.lX)(hw:∀ i,s.ck i=true->0<i/\i<30)(n:Int)(hn:0<=n/\n<30):Spec Tryz.prog 187 [aC b o 0,iI n] [.cells b o 2281 (aM s),.aV b7 (s.da 254)] (fun v H1=>v= .bool (s.toSF.ready n)/\H1=[.cells b o 2281 (aM s),.aV b7 (s.da 254)]):=by
 have hk:=hR.gF hw hn.1 hn.2;apply Spec.go 47 [0,1,4,5,12] [] Tryz.func187 rfl rfl rfl;intro W;refine sd ?_;refine cd rfl ?_ ?_<;>intro h1
 ·apply ld .aa (so _ _);refine ah rfl rfl (ad (pz 2) rfl ?_);try dsimp only[aL,aJ,aD,aR]
  exact⟨by unfold SF.ready;rw[if_pos og],rfl⟩
 ·refine rq [0,1,2,3,4,5,6,7,8,9,10,11,12,13,14,15,16,17,18,19,20,21,22,23,24,25,26,27,28,29,30] mixed ?_;apply XR.mono fun _ bJ=>mX (z:=n) og (pz 2) bJ;refine ca (afi _ _ _ _ _) (pz 2) ?_;rintro _ _ ⟨rfl,rfl⟩;apply XO.mono fun _ bJ=>rz (z:=n) og (pz 5) bJ;apply gO;refine sp 22 rfl ?_ ?_<;>intro h2
  ·apply ld .aa (zt _ _ og);refine Pt 29 rfl ?_ ?_<;>intro h3
   ·try simp only[sb]at h3
    apply ld .aa (kT _ _);refine sp 35 rfl ?_ ?_<;>intro h4
    ·refine ah rfl rfl (ad (pz 2) rfl ?_);try dsimp only[aL,aJ,aD,aR]
     refine⟨congrArg Value.bool ?_,rfl⟩;unfold SF.ready;simp_all
    ·apply ld .aa (tm _ _);apply ld .aa (kT _ _);refine ah rfl rfl (ad (pz 2) rfl ?_);try dsimp only[aL,aJ,aD,aR]
     refine⟨congrArg Value.bool ?_,rfl⟩;unfold SF.ready;grind
   ·try simp only[sb]at h3
    refine ah rfl rfl (ad (pz 2) rfl ?_);try dsimp only[aL,aJ,aD,aR]
    refine⟨congrArg Value.bool ?_,rfl⟩;unfold SF.ready;grind
  ·refine ah rfl rfl (ad (pz 2) rfl ?_);try dsimp only[aL,aJ,aD,aR]
   refine⟨congrArg Value.bool ?_,rfl⟩;unfold SF.ready;grind
def pc(b o:Nat)(s:SC)(d:Int->Nat)(hI:s.toSF.Inv d)(hR:s.lX)(n:Int)(hn:n=0\/(0<n/\n<30/\s.aa n=true)):Spec Tryz.prog 128 [aC b o 0,iI n] [.cells b o 2281 (aM s),.aV b7 (s.da 254)] (fun v H1=>v= .tuple #[]/\∃ t:SC,t.toSF=s.toSF.look d n/\t.lX/\H1=[.cells b o 2281 (aM t),.aV b7 (t.da 254)]):=by
 apply Spec.go 88 [0,4,5,6,8,9,10,13,47,74] [] Tryz.func128 rfl rfl rfl;intro W;refine lp (σ:=SC×Int) (fun x=>if x.2=0 then 0 else d x.2+1) (fun x=>x.1.lX/\x.1.toSF.Inv d/\(x.2=0\/(0<x.2/\x.2<30/\x.1.aa x.2=true))/\∃ k,d x.2+1<=k/\SF.hQ k x.1.toSF x.2=s.toSF.look d n) (fun x=>[(4,iI x.2),(0,aC b o 0)]) (fun x=>XM W (bZ [.cells b o 2281 (aM s),.aV b7 (s.da 254)]) [.cells b o 2281 (aM x.1),.aV b7 (x.1.da 254)]) ((s,n)) ?_ (S2 rfl rfl) (fun _ hw=>XM.pick (pz 2) hw) ?_
 ·exact⟨hR,hI,hn,d n+1,Nat.le_refl _,rfl⟩
 intro x hx;obtain⟨xR,xI,xn,k,hk,xl⟩:=hx;apply gC;refine cd rfl ?_ ?_<;>intro h1
 ·obtain⟨n0,n1,n2⟩:=xn.resolve_left og;obtain⟨p0,pp1,p2,p3⟩:=xI.up x.2 n0 n1 n2;have vy:=xR.bI (n:=x.2) ⟨og,n1⟩ ⟨p0,og⟩;obtain⟨k,rfl⟩:∃ k2,k=k2+1:=⟨k-1,og⟩;rw[SF.oN _ _ n0]at xl;have hw:∀ i,x.1.ck i=true->0<i/\i<30:=fun i hi=>⟨(xI.ck i hi).1,(xI.ck i hi).2.1⟩;have hgq:=xR (x.1.aA x.2) p0 og;have PH:(x.1.aA x.2)=0\/(0<(x.1.aA x.2)/\(x.1.aA x.2)<30/\x.1.aa (x.1.aA x.2)=true):=by
   grind
  refine sd ?_;refine rq [0,1,2,3,4,5,6,7,8] mixed ?_;apply ld .aa (eM _ _);refine sd ?_;apply XR.mono fun _ bJ=>mX (z:=(x.1.aA x.2)) og (pz 2) bJ;refine ca (afh _ _ _ _ _ hgq.ok _) (pz 2) ?_;rintro _ _ ⟨rfl,rfl⟩;apply XO.mono fun _ bJ=>rz (z:=(x.1.aA x.2)) og (pz 5) bJ;apply gO;refine rq [0,1,2,3,4,5,6] mixed ?_;refine cq (Oz _ _ _ xR hw _ og) (pz 2) ?_;refine Pt 49 rfl ?_ ?_<;>intro h2
  ·try simp only[sb]at h2
   have hrd:x.1.toSF.ready x.2=true:=h2;refine cd rfl ?_ ?_<;>intro h3
   ·have hwf:x.1.ck x.2=false:=by
     simp_all
    refine rq [0,1,2,3,4,5,6,7,8,9,10,11,12] mixed ?_;apply ld .aa (ti _ _);apply ld .aa (sr _ _);apply st .aa (tj _ _ og _) rfl;refine rq [0,1,2,3,4,5,6,7,8] mixed ?_;apply ld .aa (PL _ _ _ og);apply XR.mono fun _ bJ=>mX (z:=(x.1.aA x.2)) og (pz 2) bJ;refine ca (aap _ _ _ _ _ hgq.ok _ _) (pz 2) ?_;rintro _ _ ⟨p1,c1,rfl,rfl⟩;apply XO.mono fun _ bJ=>qw (z:=(x.1.aA x.2)) og (pz 5) bJ;apply gO;refine sd ?_;apply ld .aa (eM _ _);refine ag ((⟨{x.1.toSF with v:=ae x.1.v x.2 (max (x.1.v x.2) (x.1.eG (x.1.aA x.2))),ck:=ae x.1.ck x.2 true},ae x.1.Q (x.1.aA x.2) ((x.1.Q (x.1.aA x.2)).put x.2 (max (x.1.v x.2) (x.1.eG (x.1.aA x.2)))).2,ae x.1.P (x.1.aA x.2) p1,ae x.1.C (x.1.aA x.2) c1⟩,(x.1.aA x.2))) ?_ ?_ (S2 rfl rfl) fun _ hw=>XM.pick (pz 2) hw
    ·grind
    ·have e:({x.1.toSF with v:=ae x.1.v x.2 (max (x.1.v x.2) (x.1.eG (x.1.aA x.2))),ck:=ae x.1.ck x.2 true} :SF)=x.1.toSF.uJ x.2:=by unfold SF.uJ;rw[if_pos ⟨hrd,hwf⟩,hrd]
     refine⟨?_,by show SF.Inv _ d;rw[e];exact xI.uJ n0 n1 n2,PH,k,by show d (x.1.aA x.2)+1<=k;omega,by show SF.hQ k _ _=_;rw[e];exact xl⟩;grind [SC.lX.enter,ai,au]
   ·have hwt:x.1.ck x.2=true:=by
     simp_all
    refine Pt 77 rfl ?_ ?_<;>intro h4
    ·try simp only[sb]at h4
     all_goals(simp_all)
    ·try simp only[sb]at h4
     refine sd ?_;apply ld .aa (eM _ _);refine ag ((x.1,(x.1.aA x.2))) ?_ ?_ (S2 rfl rfl) fun _ hw=>XM.pick (pz 2) hw;all_goals grind [AN]
  ·try simp only[sb]at h2
   have hrd:x.1.toSF.ready x.2=false:=h2;refine Pt 77 rfl ?_ ?_<;>intro h5
   ·try simp only[sb]at h5
    refine cd rfl ?_ ?_<;>intro h6
    ·have hwt:x.1.ck x.2=true:=by
      simp_all
     apply XR.mono fun _ bJ=>mX (z:=(x.1.aA x.2)) og (pz 2) bJ;refine ca (aaq _ _ _ _ _ hgq.ok hgq.heap _) (pz 2) ?_;rintro _ _ ⟨p1,c1,rfl,rfl⟩;apply XO.mono fun _ bJ=>qw (z:=(x.1.aA x.2)) og (pz 5) bJ;apply gO;refine sd ?_;apply ld .aa (eM _ _);refine ag ((⟨{x.1.toSF with ck:=ae x.1.ck x.2 false},ae x.1.Q (x.1.aA x.2) ((x.1.Q (x.1.aA x.2)).cut x.2).2.2,ae x.1.P (x.1.aA x.2) p1,ae x.1.C (x.1.aA x.2) c1⟩,(x.1.aA x.2))) ?_ ?_ (S2 rfl rfl) fun _ hw=>XM.pick (pz 2) hw
     ·grind
     ·have e:({x.1.toSF with ck:=ae x.1.ck x.2 false} :SF)=x.1.toSF.uJ x.2:=by unfold SF.uJ;rw[if_neg (by rw[hrd];simp),hrd,cy x.1.v rfl]
      exact⟨xR.fB (n:=x.2) ⟨og,n1⟩ ⟨p0,og⟩ hwt {x.1.toSF with ck:=ae x.1.ck x.2 false} rfl (fun i hi=>rfl) rfl _ _,by show SF.Inv _ d;rw[e];exact xI.uJ n0 n1 n2,PH,k,by show d (x.1.aA x.2)+1<=k;omega,by show SF.hQ k _ _=_;rw[e];exact xl⟩
    ·have hwf:x.1.ck x.2=false:=by
      simp_all
     refine sd ?_;apply ld .aa (eM _ _);refine ag ((x.1,(x.1.aA x.2))) ?_ ?_ (S2 rfl rfl) fun _ hw=>XM.pick (pz 2) hw;all_goals grind [AN]
   ·try simp only[sb]at h5
    all_goals(simp_all)
 ·refine cS rfl (ad (pz 2) rfl ?_);refine⟨rfl,x.1,?_,xR,rfl⟩;have sN:x.2=0:=by
   omega
  rw[sN,SF.mu _ _ og]at xl;omega
def U1(b o:Nat)(s:SC)(d:Int->Nat)(hI:s.toSF.Inv d)(hR:s.lX)(B:Int)(hB:0<=B/\B<=1000000000000000)(hS:s.toSF.bM B)(n:Int)(hn:0<n/\n<30/\s.aa n=true)(hwn:s.ck n=true):Spec Tryz.prog 183 [aC b o 0,iI n] [.cells b o 2281 (aM s),.aV b7 (s.da 254)] (fun v H1=>v= .tuple #[]/\∃ t:SC,t.toSF=s.toSF.zo n/\t.lX/\H1=[.cells b o 2281 (aM t),.aV b7 (t.da 254)]):=by
 obtain⟨n0,n1,n2⟩:=hn;obtain⟨p0,pp1,p2,p3⟩:=hI.up n n0 n1 n2;have hgq:=hR (s.aA n) p0 og;obtain⟨gm,A6⟩:=hR.ahv (n:=n) ⟨og,n1⟩ ⟨p0,og⟩ hwn;have hsn:=hS n og n1;have hsg:=hS (s.aA n) p0 og;have hwt:=hI.wt n og n1 n2;have PH:s.aA n≠n:=fun e=>by rw[e]at p3;omega
 have hq0:0<=1048576/s.wt n/\1048576/s.wt n<=1048576:=⟨Int.ediv_nonneg og og,Int.ediv_le_self _ og⟩;have IA:∀ i,ae s.ck n false i=true->0<i/\i<30:=fun i hi=>by
  by_cases c:i=n
  ·omega
  ·rw[ai _ _ c]at hi;exact⟨(hI.ck i hi).1,(hI.ck i hi).2.1⟩
 apply Spec.go 82 [0,1,4,5,6,7,30,62,72] [(7,1)] Tryz.func183 rfl rfl rfl;intro W;refine sd ?_;refine rq [0,1,2,3,4,5,6,7,8] mixed ?_;apply ld .aa (eM _ _);refine sd ?_;apply XR.mono fun _ bJ=>mX (z:=(s.aA n)) og (pz 2) bJ;refine ca (aaq _ _ _ _ _ hgq.ok hgq.heap _) (pz 2) ?_;rintro _ _ ⟨p1,c1,rfl,rfl⟩;rw[gm];have hRm:SC.lX (⟨{s.toSF.nt n with ck:=ae s.ck n false},ae s.Q (s.aA n) ((s.Q (s.aA n)).cut n).2.2,ae s.P (s.aA n) p1,ae s.C (s.aA n) c1⟩:SC):=hR.fB (n:=n) ⟨og,n1⟩ ⟨p0,og⟩ hwn {s.toSF.nt n with ck:=ae s.ck n false} rfl (fun i hi=>ai _ _ hi) rfl _ _;have hgm:=hRm (s.aA n) p0 og;apply XO.mono fun _ bJ=>qw (z:=(s.aA n)) og (pz 5) bJ;apply XO.mono fun _ bJ=>NK (ae s.ck n false) (pz 2) bJ;apply gO;apply Im rfl (by rw[A6];simp);refine ld .aa (show _/\_=Value.int .u64 (s.eG (s.aA n))from sr _ _) ?_;apply st .aa (Bi _ _ og _) rfl;refine ld .aa (show _/\_=Value.int .i64 (s.wt n)from zq _ _ og) ?_;refine XO.v (V.quo rfl rfl (by first | decide | omega) _ (sV)) rfl (gO ?_);refine XO.v (oc rfl Tryz.underlying3 Tryz.underlying29 _ (IntWalk.u64_in _ og)) rfl (gO ?_);refine XO.v (V.add rfl rfl _ (IntWalk.u64_in _ og)) rfl (gO ?_);apply st .aa (tj _ _ og _) rfl;refine ld .aa (show _/\_=Value.int .i64 (s.uI n)from Ex _ _ og) ?_;refine sd ?_;apply st .aa (Ey _ _ og _) rfl;apply ct [(0,aC b o 0),(1,iI n),(4,aC b o (0+0+n.toNat*76)),(5,aC b o (0+0+(s.aA n).toNat*76))] (XM W (bZ [.cells b o 2281 (aM s),.aV b7 (s.da 254)]) [.cells b o 2281 (aM (⟨{s.toSF.nt n with ck:=ae s.ck n false},ae s.Q (s.aA n) ((s.Q (s.aA n)).cut n).2.2,ae s.P (s.aA n) p1,ae s.C (s.aA n) c1⟩:SC)),.aV b7 (SC.da 254 (⟨{s.toSF.nt n with ck:=ae s.ck n false},ae s.Q (s.aA n) ((s.Q (s.aA n)).cut n).2.2,ae s.P (s.aA n) p1,ae s.C (s.aA n) c1⟩:SC))])
 ·refine ld .aa (show _/\_=Value.int .i64 (s.dz n)from kT _ _) ?_;refine cd rfl ?_ ?_<;>intro h1
  ·have hM:(⟨{s.toSF.nt n with ck:=ae s.ck n false},ae s.Q (s.aA n) ((s.Q (s.aA n)).cut n).2.2,ae s.P (s.aA n) p1,ae s.C (s.aA n) c1⟩:SC)=(⟨{s.toSF with eG:=ae s.eG (s.aA n) (max (s.eG (s.aA n)) (s.v n)),v:=ae s.v n (s.v n+1048576/s.wt n),uI:=ae s.uI n (s.uI n+1),dH:=ae s.dH n (s.dH n+1),ck:=ae s.ck n false},ae s.Q (s.aA n) ((s.Q (s.aA n)).cut n).2.2,ae s.P (s.aA n) p1,ae s.C (s.aA n) c1⟩:SC):=by unfold SF.nt;rw[if_pos h1]
   refine ld .aa (show _/\_=Value.int .i64 (s.dH n)from tm _ _) ?_;refine sd ?_;apply st .aa (oM _ _ og _) rfl;refine mt (S4 rfl rfl rfl rfl) fun _ l9=>by rw[hM];exact XM.pick (pz 2) l9
  ·have hM:(⟨{s.toSF.nt n with ck:=ae s.ck n false},ae s.Q (s.aA n) ((s.Q (s.aA n)).cut n).2.2,ae s.P (s.aA n) p1,ae s.C (s.aA n) c1⟩:SC)=(⟨{s.toSF with eG:=ae s.eG (s.aA n) (max (s.eG (s.aA n)) (s.v n)),v:=ae s.v n (s.v n+1048576/s.wt n),uI:=ae s.uI n (s.uI n+1),dH:=s.dH,ck:=ae s.ck n false},ae s.Q (s.aA n) ((s.Q (s.aA n)).cut n).2.2,ae s.P (s.aA n) p1,ae s.C (s.aA n) c1⟩:SC):=by unfold SF.nt;rw[if_neg h1]
   refine mt (S4 rfl rfl rfl rfl) fun _ l9=>by rw[hM];exact XM.pick (pz 2) l9
 have hrr:SF.ready {s.toSF.nt n with ck:=ae s.ck n false} n=(s.toSF.nt n).ready n:=SF.zx (s:=s.toSF.nt n) PH false;apply gC;refine cq (Oz b o (⟨{s.toSF.nt n with ck:=ae s.ck n false},ae s.Q (s.aA n) ((s.Q (s.aA n)).cut n).2.2,ae s.P (s.aA n) p1,ae s.C (s.aA n) c1⟩:SC) hRm IA n ⟨og,n1⟩) (pz 2) ?_;refine we rfl ?_ ?_<;>intro h2
 ·try simp only[sb]at h2
  refine rq [0,1,2,3,4,5,6,7,8] mixed ?_;apply ld .aa (show _/\_=Value.int .u64 (s.v n+1048576/s.wt n)from⟨og,(ti (⟨{s.toSF.nt n with ck:=ae s.ck n false},ae s.Q (s.aA n) ((s.Q (s.aA n)).cut n).2.2,ae s.P (s.aA n) p1,ae s.C (s.aA n) c1⟩:SC) n).2.trans (congrArg (Value.int .u64) (au s.v n (s.v n+1048576/s.wt n)))⟩);apply XR.mono fun _ bJ=>mX (z:=(s.aA n)) og (pz 2) bJ;refine ca (aap _ _ _ _ _ hgm.ok _ _) (pz 2) ?_;rintro _ _ ⟨p2,c2,rfl,rfl⟩;apply XO.mono fun _ bJ=>qw (z:=(s.aA n)) og (pz 5) bJ;apply XO.mono fun _ bJ=>NK (ae s.ck n true) (pz 2) bJ;apply gO;refine cS rfl (ad (pz 2) rfl ?_);refine⟨rfl,_,?_,?_,rfl⟩
  ·have h9:SF.ready {s.toSF.nt n with ck:=ae s.ck n false} n=true:=aq;rw[hrr]at h9;show _=s.toSF.zo n;unfold SF.zo;rw[h9]
  ·have ahS:s.aA n<30:=og;have:=hRm.enter (n:=n) ⟨og,n1⟩ ⟨p0,ahS⟩ (au _ _ _) {s.toSF.nt n with ck:=ae s.ck n true} (by funext i;show ae s.ck n true i=ae (ae s.ck n false) n true i;unfold ae;split<;>rfl) (fun i hi=>rfl) rfl (s.v n+1048576/s.wt n) (au _ _ _) (ae (ae s.P (s.aA n) p1) (s.aA n) p2) (ae (ae s.C (s.aA n) c1) (s.aA n) c2);exact this
 ·try simp only[sb]at h2
  refine cS rfl (ad (pz 2) rfl ?_);refine⟨rfl,(⟨{s.toSF.nt n with ck:=ae s.ck n false},ae s.Q (s.aA n) ((s.Q (s.aA n)).cut n).2.2,ae s.P (s.aA n) p1,ae s.C (s.aA n) c1⟩:SC),?_,hRm,rfl⟩;have h9:SF.ready {s.toSF.nt n with ck:=ae s.ck n false} n=false:=aq;rw[hrr]at h9;show _=s.toSF.zo n;unfold SF.zo;rw[h9]
def qS:fk Tryz.prog 187=some 76:=kq
def HT(b o:Nat)(s:SC)(d:Int->Nat)(hI:s.toSF.Inv d)(hR:s.lX)(n:Int)(on:Bool):Spec Tryz.prog 61 [aC b o 0,iI n,.bool on] [.cells b o 2281 (aM s),.aV b7 (s.da 254)] (fun v H1=>v=az 102 (s.xz n)/\∃ t:SC,t.toSF=s.toSF.fU d n on/\t.lX/\H1=[.cells b o 2281 (aM t),.aV b7 (t.da 254)]):=by
 apply Spec.go 26 [0,1,2,6,7,8,16] [] Tryz.func61 rfl rfl rfl;intro W;refine ca (MJ _ _ _ _) .h1 ?_;rintro _ _ (⟨h1,rfl,rfl⟩ | ⟨h1,rfl,rfl⟩)
 ·obtain⟨i0,i1,i2,i3⟩:=h1;apply gO;refine st .aa (kS _ _ og _) rfl (sd ?_);refine ca (pc _ _ {s with cF:=ae s.cF (10+n) on} d ⟨hI.h0,hI.up,hI.ck,hI.quo,hI.wt⟩ hR _ (.inr ⟨og,og,i3⟩)) (pz 2) ?_;rintro _ _ ⟨rfl,t,tl,tR,rfl⟩;apply gO;refine ah rfl rfl (ad (pz 2) rfl ?_);try dsimp only[aL,aJ,aD,aR]
  exact⟨by rw[i0];rfl,t,by rw[tl];unfold SF.fU;rw[if_pos i0],tR,rfl⟩
 ·have i0:=h1;apply gO;refine ah rfl rfl (ad (pz 2) rfl ?_);try dsimp only[aL,aJ,aD,aR]
  exact⟨by rw[aQ _ aq],s,by unfold SF.fU;rw[if_neg aq],hR,rfl⟩
def U2(b o:Nat)(s:SC)(d:Int->Nat)(hI:s.toSF.Inv d)(hR:s.lX)(n:Int)(on:Bool):Spec Tryz.prog 161 [aC b o 0,iI n,.bool on] [.cells b o 2281 (aM s),.aV b7 (s.da 254)] (fun v H1=>v=az 102 (s.Ez n)/\∃ t:SC,t.toSF=s.toSF.freeze d n on/\t.lX/\H1=[.cells b o 2281 (aM t),.aV b7 (t.da 254)]):=by
 apply Spec.go 28 [0,1,2,6,7,8,16,19] [] Tryz.func161 rfl rfl rfl;intro W;refine ca (vh _ _ _ _) .h1 ?_;rintro _ _ (⟨h1,rfl,rfl⟩ | ⟨h1,rfl,rfl⟩)
 ·obtain⟨i0,i1,i2,i3⟩:=h1;apply gO;refine cd rfl ?_ ?_<;>intro h2
  ·refine ah rfl rfl (ad (pz 2) rfl ?_);try dsimp only[aL,aJ,aD,aR]
   have e:s.Ez n=8:=by unfold SF.Ez;rw[if_neg og,if_pos og]
   exact⟨by rw[e]<;>rfl,s,by unfold SF.freeze;rw[if_neg og],hR,rfl⟩
  ·apply st .aa (zu _ _ og _) rfl;refine ca (pc _ _ {s with vC:=ae s.vC n on} d ⟨hI.h0,hI.up,hI.ck,hI.quo,hI.wt⟩ hR _ (.inr ⟨og,og,i3⟩)) (pz 2) ?_;rintro _ _ ⟨rfl,t,tl,tR,rfl⟩;apply gO;refine ah rfl rfl (ad (pz 2) rfl ?_);try dsimp only[aL,aJ,aD,aR]
   have e:s.Ez n=0:=by unfold SF.Ez;rw[if_neg og,if_neg og]
   exact⟨by rw[e]<;>rfl,t,by rw[tl];unfold SF.freeze;rw[if_pos e],tR,rfl⟩
 ·have i0:=h1;apply gO;refine ah rfl rfl (ad (pz 2) rfl ?_);try dsimp only[aL,aJ,aD,aR]
  have e:s.Ez n=s.vq n:=by unfold SF.Ez;rw[if_pos aq]
  exact⟨by rw[e,aQ _ aq],s,by unfold SF.freeze;rw[if_neg og],hR,rfl⟩
def YD(b o:Nat)(s:SC)(d:Int->Nat)(hI:s.toSF.Inv d)(hR:s.lX)(n q p:Int):Spec Tryz.prog 162 [aC b o 0,iI n,iI q,iI p] [.cells b o 2281 (aM s),.aV b7 (s.da 254)] (fun v H1=>v=az 102 (s.sH n q p)/\∃ t:SC,t.toSF=s.toSF.xA d n q p/\t.lX/\H1=[.cells b o 2281 (aM t),.aV b7 (t.da 254)]):=by
 apply Spec.go 53 [0,1,2,3,8,9,10,18,21,37] [] Tryz.func162 rfl rfl rfl;intro W;refine ca (vh _ _ _ _) .h1 ?_;rintro _ _ (⟨h1,rfl,rfl⟩ | ⟨h1,rfl,rfl⟩)
 ·obtain⟨i0,i1,i2,i3⟩:=h1;apply gO;refine cd rfl ?_ ?_<;>intro h2
  ·refine ah rfl rfl (ad (pz 2) rfl ?_);try dsimp only[aL,aJ,aD,aR]
   have e:s.sH n q p=8:=by unfold SF.sH;rw[if_neg og,if_pos og]
   exact⟨by rw[e]<;>rfl,s,by unfold SF.xA;rw[if_neg og],hR,rfl⟩
  ·refine sp 25 rfl ?_ ?_<;>intro h3
   ·refine ah rfl rfl (ad (pz 2) rfl ?_);try dsimp only[aL,aJ,aD,aR]
    have e:s.sH n q p=1:=by unfold SF.sH;rw[if_neg og,if_neg og,if_pos og]
    exact⟨by rw[e]<;>rfl,s,by unfold SF.xA;rw[if_neg og],hR,rfl⟩
   ·refine sp 29 rfl ?_ ?_<;>intro h4
    ·refine ah rfl rfl (ad (pz 2) rfl ?_);try dsimp only[aL,aJ,aD,aR]
     have e:s.sH n q p=1:=by unfold SF.sH;rw[if_neg og,if_neg og,if_pos og]
     exact⟨by rw[e]<;>rfl,s,by unfold SF.xA;rw[if_neg og],hR,rfl⟩
    ·refine sp 33 rfl ?_ ?_<;>intro h5
     ·refine ah rfl rfl (ad (pz 2) rfl ?_);try dsimp only[aL,aJ,aD,aR]
      have e:s.sH n q p=1:=by unfold SF.sH;rw[if_neg og,if_neg og,if_pos og]
      exact⟨by rw[e]<;>rfl,s,by unfold SF.xA;rw[if_neg og],hR,rfl⟩
     ·refine cd rfl ?_ ?_<;>intro h6
      ·refine ah rfl rfl (ad (pz 2) rfl ?_);try dsimp only[aL,aJ,aD,aR]
       have e:s.sH n q p=1:=by unfold SF.sH;rw[if_neg og,if_neg og,if_pos og]
       exact⟨by rw[e]<;>rfl,s,by unfold SF.xA;rw[if_neg og],hR,rfl⟩
      ·refine st .aa (Bj _ _ og _) rfl (st .aa (zw _ _ og _) rfl (st .aa (oM _ _ og _) rfl ?_));have hq:=(show SF.Inv (s.toSF.abq n q p) d from⟨hI.h0,hI.up,hI.ck,fun i a b=>by
        show 0<=ae s.dz n q i/\(0<ae s.dz n q i->1<=ae s.eH n p i)
        unfold ae;split
        ·omega
        ·exact hI.quo i a b,hI.wt⟩)
       refine ca (pc _ _ {s with dz:=ae s.dz n q,eH:=ae s.eH n p,dH:=ae s.dH n 0} d hq hR _ (.inr ⟨og,og,i3⟩)) (pz 2) ?_;rintro _ _ ⟨rfl,t,tl,tR,rfl⟩;apply gO;refine ah rfl rfl (ad (pz 2) rfl ?_);try dsimp only[aL,aJ,aD,aR]
       have e:s.sH n q p=0:=by unfold SF.sH;rw[if_neg og,if_neg og,if_neg og]
       exact⟨by rw[e]<;>rfl,t,by rw[tl];unfold SF.xA;rw[if_pos e];rfl,tR,rfl⟩
 ·have i0:=h1;apply gO;refine ah rfl rfl (ad (pz 2) rfl ?_);try dsimp only[aL,aJ,aD,aR]
  have e:s.sH n q p=s.vq n:=by unfold SF.sH;rw[if_pos aq]
  exact⟨by rw[e,aQ _ aq],s,by unfold SF.xA;rw[if_neg og],hR,rfl⟩
def MK(b o:Nat)(s:SC)(d:Int->Nat)(hI:s.toSF.Inv d)(hR:s.lX)(n p w:Int):Spec Tryz.prog 155 [aC b o 0,iI n,iI p,iI w] [.cells b o 2281 (aM s),.aV b7 (s.da 254)] (fun v H1=>v=az 102 (s.lF n p w)/\∃ t:SC,t.toSF=s.toSF.vr n p w/\t.lX/\H1=[.cells b o 2281 (aM t),.aV b7 (t.da 254)]):=by
 apply Spec.go 51 [0,1,2,3,8,10,24,32,41] [] Tryz.func155 rfl rfl rfl;intro W;refine sp 13 rfl ?_ ?_<;>intro h1
 ·refine ah rfl rfl (ad (pz 2) rfl ?_);try dsimp only[aL,aJ,aD,aR]
  have e:s.lF n p w=1:=by unfold SF.lF;rw[if_pos og]
  exact⟨by rw[e]<;>rfl,s,by unfold SF.vr;rw[if_neg og],hR,rfl⟩
 ·refine sp 17 rfl ?_ ?_<;>intro h2
  ·refine ah rfl rfl (ad (pz 2) rfl ?_);try dsimp only[aL,aJ,aD,aR]
   have e:s.lF n p w=1:=by unfold SF.lF;rw[if_pos og]
   exact⟨by rw[e]<;>rfl,s,by unfold SF.vr;rw[if_neg og],hR,rfl⟩
  ·refine sp 21 rfl ?_ ?_<;>intro h3
   ·refine ah rfl rfl (ad (pz 2) rfl ?_);try dsimp only[aL,aJ,aD,aR]
    have e:s.lF n p w=1:=by unfold SF.lF;rw[if_pos og]
    exact⟨by rw[e]<;>rfl,s,by unfold SF.vr;rw[if_neg og],hR,rfl⟩
   ·refine cd rfl ?_ ?_<;>intro h4
    ·refine ah rfl rfl (ad (pz 2) rfl ?_);try dsimp only[aL,aJ,aD,aR]
     have e:s.lF n p w=1:=by unfold SF.lF;rw[if_pos og]
     exact⟨by rw[e]<;>rfl,s,by unfold SF.vr;rw[if_neg og],hR,rfl⟩
    ·refine sd (ld .aa (iM _ _) ?_);refine we rfl ?_ ?_<;>intro h5
     ·try simp only[sb]at h5
      refine ah rfl rfl (ad (pz 2) rfl ?_);try dsimp only[aL,aJ,aD,aR]
      have e:s.lF n p w=3:=by unfold SF.lF;rw[if_neg og,if_pos aq]
      exact⟨by rw[e]<;>rfl,s,by unfold SF.vr;rw[if_neg og],hR,rfl⟩
     ·try simp only[sb]at h5
      have vt:s.aa n=false:=by
       omega
      refine ca (vh _ _ _ _) .h1 ?_;rintro _ _ (⟨h6,rfl,rfl⟩ | ⟨h6,rfl,rfl⟩)
      ·obtain⟨i0,i1,i2,i3⟩:=h6;apply gO;refine XO.v (V.build (vs:= #[(0,.bool true),(1,iI p),(2,iI w)]) rfl (v:=.agg (lH (wj true p w))) fun _=>kq) rfl (gO ?_);refine sd (oS (XO.fP rfl rfl .aa (tq _ n p w true) (oO _) qS (XO.mono (fun _ bJ=>XM.newRow (s:=s) (z:=n) og (pk [1]) bJ) ?_)));apply gO;refine ah rfl rfl (ad (pk [1,0]) rfl ?_);try dsimp only[aL,aJ,aD,aR]
       have e:s.lF n p w=0:=by unfold SF.lF;rw[if_neg og,if_neg (by rw[vt];simp)];exact i0
       have hwz:s.ck n=false:=by
        cases q:s.ck n with
        | false=>rfl
        | true=>have:=(hI.ck _ q).2.2;rw[vt]at this;cases this
       have YE:∀ i,s.ck i=true->s.aA i≠n:=fun i hi e9=>by
        obtain⟨a,b9,c⟩:=hI.ck i hi;have h9:=(hI.up i a b9 c).2.2.1;simp_all
       exact⟨by rw[e]<;>rfl,_,by unfold SF.vr;rw[if_pos e],hR.new hwz YE p w true,rfl⟩
      ·have i0:=h6;apply gO;refine ah rfl rfl (ad (pz 2) rfl ?_);try dsimp only[aL,aJ,aD,aR]
       have e:s.lF n p w=s.vq p:=by unfold SF.lF;rw[if_neg og,if_neg (by rw[vt];simp)]
       exact⟨by rw[e,aQ _ aq],s,by unfold SF.vr;rw[if_neg og],hR,rfl⟩
def An(b o:Nat)(s:SC)(d:Int->Nat)(hI:s.toSF.Inv d)(hR:s.lX)(n p w:Int):Spec Tryz.prog 60 [aC b o 0,iI n,iI p,iI w] [.cells b o 2281 (aM s),.aV b7 (s.da 254)] (fun v H1=>v=az 102 (s.lG n p w)/\∃ t:SC,t.toSF=s.toSF.sG n p w/\t.lX/\H1=[.cells b o 2281 (aM t),.aV b7 (t.da 254)]):=by
 apply Spec.go 53 [0,1,2,3,8,10,24,33,42] [] Tryz.func60 rfl rfl rfl;intro W;refine sp 13 rfl ?_ ?_<;>intro h1
 ·refine ah rfl rfl (ad (pz 2) rfl ?_);try dsimp only[aL,aJ,aD,aR]
  have e:s.lG n p w=1:=by unfold SF.lG;rw[if_pos og]
  exact⟨by rw[e]<;>rfl,s,by unfold SF.sG;rw[if_neg og],hR,rfl⟩
 ·refine sp 17 rfl ?_ ?_<;>intro h2
  ·refine ah rfl rfl (ad (pz 2) rfl ?_);try dsimp only[aL,aJ,aD,aR]
   have e:s.lG n p w=1:=by unfold SF.lG;rw[if_pos og]
   exact⟨by rw[e]<;>rfl,s,by unfold SF.sG;rw[if_neg og],hR,rfl⟩
  ·refine sp 21 rfl ?_ ?_<;>intro h3
   ·refine ah rfl rfl (ad (pz 2) rfl ?_);try dsimp only[aL,aJ,aD,aR]
    have e:s.lG n p w=1:=by unfold SF.lG;rw[if_pos og]
    exact⟨by rw[e]<;>rfl,s,by unfold SF.sG;rw[if_neg og],hR,rfl⟩
   ·refine cd rfl ?_ ?_<;>intro h4
    ·refine ah rfl rfl (ad (pz 2) rfl ?_);try dsimp only[aL,aJ,aD,aR]
     have e:s.lG n p w=1:=by unfold SF.lG;rw[if_pos og]
     exact⟨by rw[e]<;>rfl,s,by unfold SF.sG;rw[if_neg og],hR,rfl⟩
    ·refine sd (sd (ld .aa (iM _ _) ?_));refine we rfl ?_ ?_<;>intro h5
     ·try simp only[sb]at h5
      refine ah rfl rfl (ad (pz 2) rfl ?_);try dsimp only[aL,aJ,aD,aR]
      have e:s.lG n p w=3:=by unfold SF.lG;rw[if_neg og,if_pos aq]
      exact⟨by rw[e]<;>rfl,s,by unfold SF.sG;rw[if_neg og],hR,rfl⟩
     ·try simp only[sb]at h5
      have vt:s.aa (10+n)=false:=by
       omega
      refine ca (vh _ _ _ _) .h1 ?_;rintro _ _ (⟨h6,rfl,rfl⟩ | ⟨h6,rfl,rfl⟩)
      ·obtain⟨i0,i1,i2,i3⟩:=h6;apply gO;refine sd (XO.v (V.build (vs:= #[(0,.bool true),(1,iI p),(2,iI w)]) rfl (v:=.agg (lH (wj true p w))) fun _=>kq) rfl (gO ?_));refine sd (oS (XO.fP rfl rfl .aa (tq _ (10+n) p w true) (oO _) qS (XO.mono (fun _ bJ=>XM.newRow (s:=s) (z:=(10+n)) og (pk [1]) bJ) ?_)));apply gO;refine ah rfl rfl (ad (pk [1,0]) rfl ?_);try dsimp only[aL,aJ,aD,aR]
       have e:s.lG n p w=0:=by unfold SF.lG;rw[if_neg og,if_neg (by rw[vt];simp)];exact i0
       have hwz:s.ck (10+n)=false:=by
        cases q:s.ck (10+n)with
        | false=>rfl
        | true=>have:=(hI.ck _ q).2.2;rw[vt]at this;cases this
       have YE:∀ i,s.ck i=true->s.aA i≠(10+n):=fun i hi e9=>by
        obtain⟨a,b9,c⟩:=hI.ck i hi;have h9:=(hI.up i a b9 c).2.2.1;simp_all
       exact⟨by rw[e]<;>rfl,_,by unfold SF.sG;rw[if_pos e],hR.new hwz YE p w true,rfl⟩
      ·have i0:=h6;apply gO;refine ah rfl rfl (ad (pz 2) rfl ?_);try dsimp only[aL,aJ,aD,aR]
       have e:s.lG n p w=s.vq p:=by unfold SF.lG;rw[if_neg og,if_neg (by rw[vt];simp)]
       exact⟨by rw[e,aQ _ aq],s,by unfold SF.sG;rw[if_neg og],hR,rfl⟩
def Kw(b o:Nat)(s:SC)(d:Int->Nat)(hI:s.toSF.Inv d)(hR:s.lX)(n:Int)(LO:∀ n,0<=n->n<10->s.aa n=true->(∀ i,s.ck i=true->s.aA i≠n)->s.ck n=false):Spec Tryz.prog 157 [aC b o 0,iI n] [.cells b o 2281 (aM s),.aV b7 (s.da 254)] (fun v H1=>v=az 102 (s.nu n)/\∃ t:SC,t.toSF=s.toSF.qx n/\t.lX/\H1=[.cells b o 2281 (aM t),.aV b7 (t.da 254)]):=by
 apply Spec.go 49 [0,1,4,6,7,15,18,20,21,40] [] Tryz.func157 rfl rfl rfl;intro W;refine ca (vh _ _ _ _) .h1 ?_;rintro _ _ (⟨h1,rfl,rfl⟩ | ⟨h1,rfl,rfl⟩)
 ·obtain⟨i0,i1,i2,i3⟩:=h1;apply gO;refine cd rfl ?_ ?_<;>intro h2
  ·refine ah rfl rfl (ad (pz 2) rfl ?_);try dsimp only[aL,aJ,aD,aR]
   have e:s.nu n=5:=by unfold SF.nu;rw[if_neg og,if_pos (.inl og)]
   exact⟨by rw[e]<;>rfl,s,by unfold SF.qx;rw[if_neg og],hR,rfl⟩
  ·refine lp (σ:=Int) (fun k=>(30-k).toNat) (fun k=>(0<=k/\k<=30)/\∀ j:Int,0<=j->j<k->¬(s.aa j=true/\s.aA j=n)) (fun k=>[(20,iI k),(0,aC b o 0),(1,iI n)]) (fun k=>XM W (bZ [.cells b o 2281 (aM s),.aV b7 (s.da 254)]) [.cells b o 2281 (aM s),.aV b7 (s.da 254)]) (0) ?_ (S3 rfl rfl rfl) (fun _ hw=>XM.pick (pz 2) hw) ?_
   ·grind
   intro k hk;obtain⟨hk,Eg⟩:=hk;apply gC;refine cd rfl ?_ ?_<;>intro h3
   ·refine sd (ld .aa (iM _ _) ?_);refine Pt 30 rfl ?_ ?_<;>intro h4
    ·try simp only[sb]at h4
     refine sd (ld .aa (eM _ _) ?_);refine cd rfl ?_ ?_<;>intro h5
     ·refine ah rfl rfl (ad (pz 2) rfl ?_);try dsimp only[aL,aJ,aD,aR]
      have ha:=SF.NL (s:=s.toSF) (n:=n) hk.1 og (by simp_all) (by simp_all);have e:s.nu n=5:=by unfold SF.nu;rw[if_neg og,if_pos (.inr ha)]
      exact⟨by rw[e]<;>rfl,s,by unfold SF.qx;rw[if_neg og],hR,rfl⟩
     ·refine sd (ag (k+1) ?_ ?_ (S3 rfl rfl rfl) fun _ hw=>XM.pick (pz 2) hw);all_goals grind
    ·try simp only[sb]at h4
     refine sd (ag (k+1) ?_ ?_ (S3 rfl rfl rfl) fun _ hw=>XM.pick (pz 2) hw);all_goals grind
   ·refine XO.v (V.build (vs:= #[]) rfl (v:=.agg (lH (wj false 0 0))) fun _=>kq) rfl (gO ?_);refine sd (oS (XO.fP rfl rfl .aa (tq _ n 0 0 false) (oO _) qS (XO.mono (fun _ bJ=>XM.newRow (s:=s) (z:=n) og (pk [1]) bJ) ?_)));apply gO;refine ah rfl rfl (ad (pk [1,0]) rfl ?_);try dsimp only[aL,aJ,aD,aR]
    have hk3:∀ j:Int,0<=j->j<30->¬(s.aa j=true/\s.aA j=n):=fun j a b=>Eg j a og;have ha:=SF.Xj (s:=s.toSF) (n:=n) hk3;have e:s.nu n=0:=by unfold SF.nu;rw[if_neg og,if_neg (by rw[ha];simp;omega)]
    have YE:∀ i,s.ck i=true->s.aA i≠n:=fun i hi e9=>by
     obtain⟨a,b9,c⟩:=hI.ck i hi;grind
    exact⟨by rw[e]<;>rfl,_,by unfold SF.qx;rw[if_pos e],hR.new (LO n i1 i2 i3 YE) YE 0 0 false,rfl⟩
 ·have i0:=h1;apply gO;refine ah rfl rfl (ad (pz 2) rfl ?_);try dsimp only[aL,aJ,aD,aR]
  have e:s.nu n=s.vq n:=by unfold SF.nu;rw[if_pos aq]
  exact⟨by rw[e,aQ _ aq],s,by unfold SF.qx;rw[if_neg og],hR,rfl⟩
def ML(b o:Nat)(s:SC)(d:Int->Nat)(hI:s.toSF.Inv d)(hR:s.lX)(n:Int):Spec Tryz.prog 190 [aC b o 0,iI n] [.cells b o 2281 (aM s),.aV b7 (s.da 254)] (fun v H1=>v=az 102 (s.xz n)/\∃ t:SC,t.toSF=s.toSF.vD d n/\t.lX/\H1=[.cells b o 2281 (aM t),.aV b7 (t.da 254)]):=by
 apply Spec.go 30 [0,1,4,5,6,14] [] Tryz.func190 rfl rfl rfl;intro W;refine ca (MJ _ _ _ _) .h1 ?_;rintro _ _ (⟨h1,rfl,rfl⟩ | ⟨h1,rfl,rfl⟩)
 ·obtain⟨i0,i1,i2,i3⟩:=h1;apply gO;refine st .aa (kS _ _ og _) rfl (sd ?_);refine ca (pc _ _ {s with cF:=ae s.cF (10+n) false} d ⟨hI.h0,hI.up,hI.ck,hI.quo,hI.wt⟩ hR _ (.inr ⟨og,og,i3⟩)) (pz 2) ?_;rintro _ _ ⟨rfl,t,tl,tR,rfl⟩;have tw:t.toSF=s.toSF.fU d n false:=by rw[tl];unfold SF.fU;rw[if_pos i0]
  have twz:t.ck (10+n)=false:=by
   show t.toSF.ck (10+n)=false;rw[tl,SF.G7 (s:=({s with cF:=ae s.cF (10+n) false} :SC).toSF) ⟨hI.h0,hI.up,hI.ck,hI.quo,hI.wt⟩ og og i3];unfold SF.ready;grind [au]
  have tI:t.toSF.Inv d:=by rw[tl];exact SF.tr (s:=({s with cF:=ae s.cF (10+n) false} :SC).toSF) ⟨hI.h0,hI.up,hI.ck,hI.quo,hI.wt⟩ (.inr ⟨og,og,i3⟩)
  have thp:t.toSF.aa=s.aa/\t.toSF.aA=s.aA:=by rw[tl];exact⟨SF.mv _ _ _,SF.I9 _ _ _⟩
  apply gO;refine sd (XO.v (V.build (vs:= #[]) rfl (v:=.agg (lH (wj false 0 0))) fun _=>kq) rfl (gO ?_));refine sd (oS (XO.fP rfl rfl .aa (tq _ (10+n) 0 0 false) (oO _) qS (XO.mono (fun _ bJ=>XM.newRow (s:=t) (z:=(10+n)) og (pk [1]) bJ) ?_)));apply gO;refine ah rfl rfl (ad (pk [1,0]) rfl ?_);try dsimp only[aL,aJ,aD,aR]
  have YE:∀ i,t.ck i=true->t.aA i≠10+n:=fun i hi e9=>by
   obtain⟨a,b9,c⟩:=tI.ck i hi;have h9:=(tI.up i a b9 c).2.1;omega
  exact⟨by rw[i0];rfl,_,by show t.toSF.pT _ _ _ _=_;unfold SF.vD;rw[if_pos i0,tw],tR.new twz YE 0 0 false,rfl⟩
 ·have i0:=h1;apply gO;refine ah rfl rfl (ad (pz 2) rfl ?_);try dsimp only[aL,aJ,aD,aR]
  exact⟨by rw[aQ _ aq],s,by unfold SF.vD;rw[if_neg aq],hR,rfl⟩
def MM(b o:Nat)(s:SC)(d:Int->Nat)(hI:s.toSF.Inv d)(hR:s.lX)(n g:Int):Spec Tryz.prog 160 [aC b o 0,iI n,iI g] [.cells b o 2281 (aM s),.aV b7 (s.da 254)] (fun v H1=>v=az 102 (s.fg n g)/\∃ t:SC,t.toSF=s.toSF.move d n g/\t.lX/\H1=[.cells b o 2281 (aM t),.aV b7 (t.da 254)]):=by
 apply Spec.go 54 [0,1,2,6,7,8,9,17,26] [] Tryz.func160 rfl rfl rfl;intro W;refine ca (MJ _ _ _ _) .h1 ?_;rintro _ _ (⟨h1,rfl,rfl⟩ | ⟨h1,rfl,rfl⟩)
 ·obtain⟨i0,i1,i2,i3⟩:=h1;apply gO;refine ca (vh _ _ _ _) .h1 ?_;rintro _ _ (⟨h2,rfl,rfl⟩ | ⟨h2,rfl,rfl⟩)
  ·obtain⟨k0,k1,k2,k3⟩:=h2;apply gO;refine ld .aa (so _ _) (st .aa (kS _ _ og _) rfl (sd ?_));refine ca (pc _ _ {s with cF:=ae s.cF (10+n) false} d ⟨hI.h0,hI.up,hI.ck,hI.quo,hI.wt⟩ hR _ (.inr ⟨og,og,i3⟩)) (pz 2) ?_;rintro _ _ ⟨rfl,t,tl,tR,rfl⟩;have tw:t.toSF=s.toSF.fU d n false:=by rw[tl];unfold SF.fU;rw[if_pos i0]
   have twz:t.ck (10+n)=false:=by
    show t.toSF.ck (10+n)=false;rw[tl,SF.G7 (s:=({s with cF:=ae s.cF (10+n) false} :SC).toSF) ⟨hI.h0,hI.up,hI.ck,hI.quo,hI.wt⟩ og og i3];unfold SF.ready;grind [au]
   have tI:t.toSF.Inv d:=by rw[tl];exact SF.tr (s:=({s with cF:=ae s.cF (10+n) false} :SC).toSF) ⟨hI.h0,hI.up,hI.ck,hI.quo,hI.wt⟩ (.inr ⟨og,og,i3⟩)
   have thp:t.toSF.aa=s.aa/\t.toSF.aA=s.aA:=by rw[tl];exact⟨SF.mv _ _ _,SF.I9 _ _ _⟩
   have QV:SF.Inv ({t with aA:=ae t.aA (10+n) g,v:=ae t.v (10+n) 0,cF:=ae t.cF (10+n) (s.cF (10+n))} :SC).toSF (ae d (10+n) (d g+1)):=tI.Z5 (n:=10+n) (g:=g) og ⟨k1,k2,by rw[thp.1];exact k3⟩ twz _ _;have hR2:SC.lX {t with aA:=ae t.aA (10+n) g,v:=ae t.v (10+n) 0,cF:=ae t.cF (10+n) (s.cF (10+n))} :=tR.ahy (z:=10+n) twz ({t with aA:=ae t.aA (10+n) g,v:=ae t.v (10+n) 0,cF:=ae t.cF (10+n) (s.cF (10+n))} :SC).toSF rfl (fun i hi=>ai _ _ hi) fun i hi=>ai _ _ hi;apply gO;refine st .aa (zp _ _ og _) rfl (st .aa (tj _ _ og _) rfl (st .aa (kS _ _ og _) rfl (sd ?_)));refine ca (pc _ _ {t with aA:=ae t.aA (10+n) g,v:=ae t.v (10+n) 0,cF:=ae t.cF (10+n) (s.cF (10+n))} (ae d (10+n) (d g+1)) QV hR2 _ (.inr ⟨og,og,by show t.toSF.aa _=true;rw[thp.1];exact i3⟩)) (pz 2) ?_;rintro _ _ ⟨rfl,r,rl,rR,rfl⟩;apply gO;refine ah rfl rfl (ad (pz 2) rfl ?_);try dsimp only[aL,aJ,aD,aR]
   have e:s.fg n g=0:=by unfold SF.fg;rw[if_neg og];exact k0
   exact⟨by rw[e]<;>rfl,r,by rw[rl];unfold SF.move SF.mv1;rw[if_pos e,<-tw],rR,rfl⟩
  ·have k0:=h2;apply gO;refine ah rfl rfl (ad (pz 2) rfl ?_);try dsimp only[aL,aJ,aD,aR]
   have e:s.fg n g=s.vq g:=by unfold SF.fg;rw[if_neg og]
   exact⟨by rw[e,aQ _ aq],s,by unfold SF.move;rw[if_neg og],hR,rfl⟩
 ·have i0:=h1;apply gO;refine ah rfl rfl (ad (pz 2) rfl ?_);try dsimp only[aL,aJ,aD,aR]
  have e:s.fg n g=s.xz n:=by unfold SF.fg;rw[if_pos aq]
  exact⟨by rw[e,aQ _ aq],s,by unfold SF.move;rw[if_neg og],hR,rfl⟩
end Go.X.Fa
