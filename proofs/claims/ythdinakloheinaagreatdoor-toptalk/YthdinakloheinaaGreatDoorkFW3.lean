import Derived.Test.YthdinakloheinaaGreatDoorkGW3
import Derived.Test.YthdinakloheinaaGreatDoorkFO
import Derived.Test.YthdinakloheinaaGreatDoorKB
import Derived.Test.YthdinakloheinaaGreatDoorXBytes
import Derived.Test.YthdinakloheinaaGreatDoorkFRM
namespace Go.X.Gr
open Go Go.Proofs Go.X
set_option maxRecDepth 20000
set_option maxHeartbeats 4000000
theorem M8:Spec Tryz.prog 95 [] [] (fun v H1=>∃ p,v=ptr p 0 0∧H1=[.cells p 0 60 (aC TG.init)]):=by
 refine Spec.go 14 [0,1] [] Tryz.func95 rfl rfl rfl ?_
 intro W
 refine XO.v (V.build (vs:= #[]) rfl (v:=.agg #[.int .i64 0,.int .i64 0,.int .i64 0,.int .i64 0,.int .i64 0,.int .i64 0,.int .i64 0,.int .i64 0,.int .i64 0,.int .i64 0,.int .i64 0,.int .i64 0,.int .i64 0,.int .i64 0,.int .i64 0,.int .i64 0,.int .i64 0,.int .i64 0,.int .i64 0,.int .i64 0,.int .i64 0,.int .i64 0,.int .i64 0,.int .i64 0,.int .i64 0,.int .i64 0,.int .i64 0,.int .i64 0,.int .i64 0,.int .i64 0,.int .i64 0,.int .i64 0,.int .i64 0,.int .i64 0,.int .i64 0,.int .i64 0,.int .i64 0,.int .i64 0,.int .i64 0,.int .i64 0,.int .i64 0,.int .i64 0,.int .i64 0,.int .i64 0,.int .i64 0,.int .i64 0,.int .i64 0,.int .i64 0,.int .i64 0,.int .i64 0,.bool false,.bool false,.bool false,.bool false,.bool false,.bool false,.bool false,.bool false,.bool false,.bool false]) (fun _=>by kernel_rfl)) rfl (gO ?_)
 refine XO.box (m:=60) (C:=aC TG.void) rfl rfl Nc rfl ?_
 intro p
 refine gO ?_
 refine sd (by omega) ?_
 refine st .here (aC.CK _ _ (by omega) _) rfl ?_
 refine XO.v (V.build (vs:= #[(0,.int .i64 (-1)),(1,.int .i64 (-1)),(2,.int .i64 (-1))]) rfl (v:=.agg (GV.arr ⟨-1,-1,-1,0,0⟩)) (fun _=>by kernel_rfl)) rfl (gO ?_)
 refine sd (by omega) ?_
 refine jV .here (CE _ _ (by omega) _) rfl ⟨rfl,rfl⟩ ?_
 refine XE.aK rfl rfl (ab .h1 rfl ?_)
 try dsimp only[SW.den,SV.den,aj,aL]
 exact⟨_,rfl,rfl⟩
end Go.X.Gr

namespace Go.X.Fa
open Go Go.Proofs Go.X
set_option maxRecDepth 20000
set_option maxHeartbeats 4000000
theorem Fv:kV Tryz.prog 254 2=true:=by kernel_rfl
theorem GI:de Tryz.prog 254=some 2:=by kernel_rfl
theorem y9(k i k2 i2:Int):Spec Tryz.prog 243 [.agg #[.int .u64 (k),.int .i64 (i)],.agg #[.int .u64 (k2),.int .i64 (i2)]] [] (fun v H1=>v= .bool (decide (k8 k i k2 i2))∧H1=[]):=by
  refine Spec.go 24 [2,3,4] [] Tryz.func243 rfl rfl rfl ?_
  intro W
  refine XO.box (m:=2) (C:=jO k i) rfl rfl (oJ _ _) rfl ?_
  intro ba
  refine gO ?_
  refine XO.box (m:=2) (C:=jO k2 i2) rfl rfl (oJ _ _) rfl ?_
  intro bc
  refine gO ?_
  refine ld (.there .here) (lU _ _) ?_
  refine ld .here (lU _ _) ?_
  refine sp 10 rfl ?_ ?_<;>intro h1
  · skip
    refine XE.aK rfl rfl (ab .nil rfl ?_)
    try dsimp only[SW.den,SV.den,aj,aL]
    refine⟨congrArg Value.bool ?_,rfl⟩
    first
    | exact(decide_eq_true (.inl (by assumption))).symm
    | exact(decide_eq_false (by unfold k8;omega)).symm
    | (have e:k8 k i k2 i2↔i<i2:=by unfold k8;omega
       simp only[e])
  · skip
    refine ld (.there .here) (lU _ _) ?_
    refine ld .here (lU _ _) ?_
    refine sp 16 rfl ?_ ?_<;>intro h2
    · skip
      refine ld (.there .here) (nQ _ _) ?_
      refine ld .here (nQ _ _) ?_
      refine XE.aK rfl rfl (ab .nil rfl ?_)
      try dsimp only[SW.den,SV.den,aj,aL]
      refine⟨congrArg Value.bool ?_,rfl⟩
      first
      | exact(decide_eq_true (.inl (by assumption))).symm
      | exact(decide_eq_false (by unfold k8;omega)).symm
      | (have e:k8 k i k2 i2↔i<i2:=by unfold k8;omega
         simp only[e])
    · skip
      refine XE.aK rfl rfl (ab .nil rfl ?_)
      try dsimp only[SW.den,SV.den,aj,aL]
      refine⟨congrArg Value.bool ?_,rfl⟩
      first
      | exact(decide_eq_true (.inl (by assumption))).symm
      | exact(decide_eq_false (by unfold k8;omega)).symm
      | (have e:k8 k i k2 i2↔i<i2:=by unfold k8;omega
         simp only[e])
theorem si(b o g cap:Nat)(s:QS)(i k id:Int)(hi:0≤i∧i<s.n)(hd:0≤id∧id<64)(hn:s.n≤1000):Spec Tryz.prog 224 [ptr b o 0,.int .i64 i,.agg #[.int .u64 (k),.int .i64 (id)]] [.cells b o 65 (dw (s) (some ⟨g,0,none⟩) cap),aR (some ⟨g,0,none⟩) cap 254 2 (s).n (dU (s))] (fun v H1=>v= .tuple #[]∧H1=[.cells b o 65 (dw (s.set i k id) (some ⟨g,0,none⟩) cap),aR (some ⟨g,0,none⟩) cap 254 2 (s.set i k id).n (dU (s.set i k id))]):=by
 refine Spec.go 21 [0,1,5] [] Tryz.func224 rfl rfl rfl ?_
 intro W
 refine XO.box (m:=2) (C:=jO k id) rfl rfl (oJ _ _) rfl ?_
 intro bx
 refine gO ?_
 refine rq [0,1,2,3,4,5,6,7] mixed (by kernel_rfl) ?_
 refine ld (.there .here) (dY _ _ _) ?_
 refine mQ .here (eX _ _) ?_
 refine sd (by omega) ?_
 refine NC (.t2 .here) (Du _ _ _ _ _ (by omega)) rfl ⟨rfl,rfl⟩ ?_
 refine rq [0,1,2,3,4,5,6,7,8] mixed (by kernel_rfl) ?_
 refine ld .here (nQ _ _) ?_
 refine sd (by omega) ?_
 refine sd (by omega) ?_
 refine st (.there .here) (r8 _ _ _ _ _ (by omega)) rfl ?_
 refine XE.fC rfl (ab (.cons (.there .here) (.cons (.there .here) .nil)) rfl ?_)
 try dsimp only[SW.den,SV.den,aj,aL]
 exact⟨rfl,rfl⟩
theorem Mc(b o g cap:Nat)(s:QS)(i:Int)(hi:0≤i∧i<s.n)(hR:s.Jp)(hn:s.n≤1000):Spec Tryz.prog 223 [ptr b o 0,.int .i64 i] [.cells b o 65 (dw (s) (some ⟨g,0,none⟩) cap),aR (some ⟨g,0,none⟩) cap 254 2 (s).n (dU (s))] (fun v H1=>v= .tuple #[]∧H1=[.cells b o 65 (dw (s.up i) (some ⟨g,0,none⟩) cap),aR (some ⟨g,0,none⟩) cap 254 2 (s.up i).n (dU (s.up i))]):=by
 obtain⟨r1,r2⟩:=hR i hi.1 hi.2
 refine Spec.go 46 [0,1,4,26] [] Tryz.func223 rfl rfl rfl ?_
 intro W
 refine ld .here (dY _ _ _) ?_
 refine sd (by omega) ?_
 refine ou (.there .here) (fi _ _ _ (by omega)) ?_
 refine XO.cY (z:=.agg #[.int .u64 0,.int .i64 0]) (m:=2) (C:=cellsOf #[.int .u64 0,.int .i64 0]) (by kernel_rfl) rfl (fun _ _=>rfl) rfl ?_
 intro bx
 refine gO ?_
 refine jV .here (o0 _ _) rfl ⟨rfl,rfl⟩ ?_
 refine lp (σ:=QS×Int) (fun x=>x.2.toNat) (fun x=>x.1.n=s.n∧(0≤x.2∧x.2<s.n)∧x.1.Jp∧QS.sB x.2.toNat x.1 x.2 (s.K i) (s.I i)=s.up i) (fun x=>[(1,.int .i64 x.2),(0,ptr b o 0),(4,ptr bx 0 0)]) (fun x=>XM W (bR [.cells b o 65 (dw (s) (some ⟨g,0,none⟩) cap),aR (some ⟨g,0,none⟩) cap 254 2 (s).n (dU (s))]) [.cells bx 0 2 (jO (s.K i) (s.I i)),.cells b o 65 (dw (x.1) (some ⟨g,0,none⟩) cap),aR (some ⟨g,0,none⟩) cap 254 2 (x.1).n (dU (x.1))]) ((s,i)) ?_ (S3 rfl rfl rfl) (fun _ hw=>XM.pick .h3 hw) ?_
 ·
  exact⟨rfl,hi,hR,rfl⟩
 intro x hx
 obtain⟨xn,xi,xR,xu⟩:=hx
 refine gC ?_
 refine rq [0,1,2,3,4,5,6,7,8,9,10,11,12,13,14] mixed (by kernel_rfl) ?_
 refine sp 14 rfl ?_ ?_<;>intro h1
 ·
  have hp0:0≤((x.2-1)/2)∧((x.2-1)/2)<x.1.n:=by omega
  have hpr:=xR ((x.2-1)/2) hp0.1 hp0.2
  refine mQ .here (eX _ _) ?_
  refine ld (.there .here) (dY _ _ _) ?_
  refine sd (by omega) ?_
  refine XO.v (V.quo rfl rfl (by first | decide | omega) _ (vn (by omega) (by omega) (by omega))) rfl (gO ?_)
  refine sd (by omega) ?_
  refine ou (.t2 .here) (fi _ _ _ (by omega)) ?_
  refine ca (y9 _ _ _ _) .nil ?_
  rintro _ _ ⟨rfl,rfl⟩
  refine gO ?_
  refine cd rfl ?_ ?_<;>intro h2
  ·
   have hst:QS.sB x.2.toNat x.1 x.2 (s.K i) (s.I i)=QS.sB (((x.2-1)/2)).toNat (x.1.set x.2 (x.1.K ((x.2-1)/2)) (x.1.I ((x.2-1)/2))) ((x.2-1)/2) (s.K i) (s.I i):=QS.EJ (by omega) h2
   refine ld (.there .here) (dY _ _ _) ?_
   refine sd (by omega) ?_
   refine XO.v (V.quo rfl rfl (by first | decide | omega) _ (vn (by omega) (by omega) (by omega))) rfl (gO ?_)
   refine sd (by omega) ?_
   refine ou (.t2 .here) (fi _ _ _ (by omega)) ?_
   refine ca (si _ _ _ _ _ _ _ _ (by omega) (by omega) (by omega)) (.cons (.there .here) (.cons (.there .here) .nil)) ?_
   rintro _ _ ⟨rfl,rfl⟩
   refine gO ?_
   refine sd (by omega) ?_
   refine XO.v (V.quo rfl rfl (by first | decide | omega) _ (vn (by omega) (by omega) (by omega))) rfl (gO ?_)
   refine ag ((x.1.set x.2 (x.1.K ((x.2-1)/2)) (x.1.I ((x.2-1)/2)),((x.2-1)/2))) ?_ ?_ (S3 rfl rfl rfl) (fun _ hw=>XM.pick (.cons (.t2 .here) .h2) hw)
   ·
    (show(((x.2-1)/2)).toNat<x.2.toNat;omega)
   ·
    exact⟨xn,by simp;omega,xR.set hpr,by rw[←xu,hst]⟩
  ·
   have hst:QS.sB x.2.toNat x.1 x.2 (s.K i) (s.I i)=x.1.set x.2 (s.K i) (s.I i):=QS.xP (fun q=>h2 q.2)
   rw[hst]at xu
   refine mQ .here (eX _ _) ?_
   refine ca (si _ _ _ _ _ _ _ _ (by omega) (by omega) (by omega)) (.cons (.there .here) (.cons (.there .here) .nil)) ?_
   rintro _ _ ⟨rfl,rfl⟩
   refine gO ?_
   refine XE.fC rfl (ab .h2 rfl ?_)
   try dsimp only[SW.den,SV.den,aj,aL]
   rw[←xu];exact⟨rfl,rfl⟩
 ·
  have hst:QS.sB x.2.toNat x.1 x.2 (s.K i) (s.I i)=x.1.set x.2 (s.K i) (s.I i):=QS.xP (fun q=>by omega)
  rw[hst]at xu
  refine mQ .here (eX _ _) ?_
  refine ca (si _ _ _ _ _ _ _ _ (by omega) (by omega) (by omega)) (.cons (.there .here) (.cons (.there .here) .nil)) ?_
  rintro _ _ ⟨rfl,rfl⟩
  refine gO ?_
  refine XE.fC rfl (ab .h2 rfl ?_)
  try dsimp only[SW.den,SV.den,aj,aL]
  rw[←xu];exact⟨rfl,rfl⟩
theorem LC(b o g cap:Nat)(s:QS)(i:Int)(hi:0≤i∧i<s.n)(hR:s.Jp)(hn:s.n≤1000):Spec Tryz.prog 225 [ptr b o 0,.int .i64 i] [.cells b o 65 (dw (s) (some ⟨g,0,none⟩) cap),aR (some ⟨g,0,none⟩) cap 254 2 (s).n (dU (s))] (fun v H1=>v= .tuple #[]∧H1=[.cells b o 65 (dw (s.down i) (some ⟨g,0,none⟩) cap),aR (some ⟨g,0,none⟩) cap 254 2 (s.down i).n (dU (s.down i))]):=by
 obtain⟨r1,r2⟩:=hR i hi.1 hi.2
 refine Spec.go 78 [0,1,4,5,41,62] [(2,1)] Tryz.func225 rfl rfl rfl ?_
 intro W
 refine ld .here (dY _ _ _) ?_
 refine sd (by omega) ?_
 refine ou (.there .here) (fi _ _ _ (by omega)) ?_
 refine XO.cY (z:=.agg #[.int .u64 0,.int .i64 0]) (m:=2) (C:=cellsOf #[.int .u64 0,.int .i64 0]) (by kernel_rfl) rfl (fun _ _=>rfl) rfl ?_
 intro bx
 refine gO ?_
 refine jV .here (o0 _ _) rfl ⟨rfl,rfl⟩ ?_
 refine lp (σ:=QS×Int) (fun x=>s.n-x.2.toNat) (fun x=>x.1.n=s.n∧(0≤x.2∧x.2<s.n)∧x.1.Jp∧QS.fq (x.1.n-x.2.toNat) x.1 x.2 (s.K i) (s.I i)=s.down i) (fun x=>[(1,.int .i64 x.2),(0,ptr b o 0),(4,ptr bx 0 0)]) (fun x=>XM W (bR [.cells b o 65 (dw (s) (some ⟨g,0,none⟩) cap),aR (some ⟨g,0,none⟩) cap 254 2 (s).n (dU (s))]) [.cells bx 0 2 (jO (s.K i) (s.I i)),.cells b o 65 (dw (x.1) (some ⟨g,0,none⟩) cap),aR (some ⟨g,0,none⟩) cap 254 2 (x.1).n (dU (x.1))]) ((s,i)) ?_ (S3 rfl rfl rfl) (fun _ hw=>XM.pick .h3 hw) ?_
 ·
  exact⟨rfl,hi,hR,rfl⟩
 intro x hx
 obtain⟨xn,xi,xR,xu⟩:=hx
 refine gC ?_
 refine sd (by omega) ?_
 refine sd (by omega) ?_
 refine ct [(0,ptr b o 0),(1,.int .i64 x.2),(4,ptr bx 0 0),(5,.int .i64 (x.1.child x.2))] (XM W (bR [.cells b o 65 (dw (s) (some ⟨g,0,none⟩) cap),aR (some ⟨g,0,none⟩) cap 254 2 (s).n (dU (s))]) [.cells bx 0 2 (jO (s.K i) (s.I i)),.cells b o 65 (dw (x.1) (some ⟨g,0,none⟩) cap),aR (some ⟨g,0,none⟩) cap 254 2 (x.1).n (dU (x.1))]) ?_ ?_
 ·
  refine rq [0,1,2,3,4,5,6,7,8,9,10,11,12,13,14,15,16,17,18,19,20,21,22,23,24,25] mixed (by kernel_rfl) ?_
  refine sd (by omega) ?_
  refine ld (.there .here) (dY _ _ _) ?_
  refine sp 24 rfl ?_ ?_<;>intro h1
  ·
   refine ld (.there .here) (dY _ _ _) ?_
   refine sd (by omega) ?_
   refine sd (by omega) ?_
   refine ou (.t2 .here) (fi _ _ _ (by omega)) ?_
   refine ld (.there .here) (dY _ _ _) ?_
   refine sd (by omega) ?_
   refine ou (.t2 .here) (fi _ _ _ (by omega)) ?_
   refine ca (y9 _ _ _ _) .nil ?_
   rintro _ _ ⟨rfl,rfl⟩
   refine gO ?_
   refine cd rfl ?_ ?_<;>intro h2
   ·
    have hc:2*x.2+1+1=(x.1.child x.2):=by unfold QS.child;rw[if_pos ⟨by omega,h2⟩]
    refine sd (by omega) ?_
    refine mt (S4 rfl rfl rfl (Cu hc)) (fun _ hw=>XM.pick .h3 hw)
   ·
    have hc:2*x.2+1=(x.1.child x.2):=by unfold QS.child;rw[if_neg (fun q=>h2 q.2)]
    refine mt (S4 rfl rfl rfl (Cu hc)) (fun _ hw=>XM.pick .h3 hw)
  ·
   have hc:2*x.2+1=(x.1.child x.2):=by unfold QS.child;rw[if_neg (fun q=>by omega)]
   refine mt (S4 rfl rfl rfl (Cu hc)) (fun _ hw=>XM.pick .h3 hw)
 have hcc:x.2<(x.1.child x.2):=by rcases x.1.dH x.2 with⟨e,_⟩ | ⟨e,_⟩<;>omega
 have hpr:=xR (x.1.child x.2) (by omega)
 have hcu:(x.1.child x.2)≤2*x.2+2:=by rcases x.1.dH x.2 with⟨e,_⟩ | ⟨e,_⟩<;>omega
 refine gC ?_
 refine rq [0,1,2,3,4,5,6,7,8,9,10,11,12,13,14,15,16,17,18] mixed (by kernel_rfl) ?_
 refine ld (.there .here) (dY _ _ _) ?_
 refine sp 51 rfl ?_ ?_<;>intro h3
 ·
  have hst:QS.fq (x.1.n-x.2.toNat) x.1 x.2 (s.K i) (s.I i)=x.1.set x.2 (s.K i) (s.I i):=QS.sj (fun q=>by omega)
  rw[hst]at xu
  refine mQ .here (eX _ _) ?_
  refine ca (si _ _ _ _ _ _ _ _ (by omega) (by omega) (by omega)) (.cons (.there .here) (.cons (.there .here) .nil)) ?_
  rintro _ _ ⟨rfl,rfl⟩
  refine gO ?_
  refine XE.fC rfl (ab .h2 rfl ?_)
  try dsimp only[SW.den,SV.den,aj,aL]
  rw[←xu];exact⟨rfl,rfl⟩
 ·
  have hpr:=hpr (by omega)
  refine ld (.there .here) (dY _ _ _) ?_
  refine sd (by omega) ?_
  refine ou (.t2 .here) (fi _ _ _ (by omega)) ?_
  refine mQ .here (eX _ _) ?_
  refine ca (y9 _ _ _ _) .nil ?_
  rintro _ _ ⟨rfl,rfl⟩
  refine gO ?_
  refine cd rfl ?_ ?_<;>intro h4
  ·
   have hst:QS.fq (x.1.n-x.2.toNat) x.1 x.2 (s.K i) (s.I i)=x.1.set x.2 (s.K i) (s.I i):=QS.sj (fun q=>h4 q.2)
   rw[hst]at xu
   refine mQ .here (eX _ _) ?_
   refine ca (si _ _ _ _ _ _ _ _ (by omega) (by omega) (by omega)) (.cons (.there .here) (.cons (.there .here) .nil)) ?_
   rintro _ _ ⟨rfl,rfl⟩
   refine gO ?_
   refine XE.fC rfl (ab .h2 rfl ?_)
   try dsimp only[SW.den,SV.den,aj,aL]
   rw[←xu];exact⟨rfl,rfl⟩
  ·
   have hst:=QS.yc (s:=x.1) (k:=s.K i) (id:=s.I i) xi.1 (by omega) (by omega) (Decidable.not_not.mp h4)
   refine ld (.there .here) (dY _ _ _) ?_
   refine sd (by omega) ?_
   refine ou (.t2 .here) (fi _ _ _ (by omega)) ?_
   refine ca (si _ _ _ _ _ _ _ _ (by omega) (by omega) (by omega)) (.cons (.there .here) (.cons (.there .here) .nil)) ?_
   rintro _ _ ⟨rfl,rfl⟩
   refine gO ?_
   refine ag ((x.1.set x.2 (x.1.K (x.1.child x.2)) (x.1.I (x.1.child x.2)),(x.1.child x.2))) ?_ ?_ (S3 rfl rfl rfl) (fun _ hw=>XM.pick (.cons (.t2 .here) .h2) hw)
   ·
    (show s.n-(x.1.child x.2).toNat<s.n-x.2.toNat;omega)
   ·
    exact⟨xn,by simp;omega,xR.set hpr,by rw[←xu,hst];rfl⟩
theorem Jq(b o cap:Nat)(p:Option Addr)(s:QS)(hO:s.Ok)(id key:Int):Spec Tryz.prog 188 [ptr b o 0,.int .i64 id,.int .u64 key] [.cells b o 65 (dw (s) p cap),aR p cap 254 2 (s).n (dU (s))] (fun v H1=>∃ p1 c1,v=bH 102 (s.put id key).1∧H1=[.cells b o 65 (dw ((s.put id key).2) p1 c1),aR p1 c1 254 2 ((s.put id key).2).n (dU ((s.put id key).2))]):=by
 refine Spec.go 42 [0,1,2,6,12,20] [] Tryz.func188 rfl rfl rfl ?_
 intro W
 refine sp 9 rfl ?_ ?_<;>intro h1
 ·
  refine XE.aK rfl rfl (ab .h2 rfl ?_)
  try dsimp only[SW.den,SV.den,aj,aL]
  rw[QS.jY (by omega)];exact⟨_,_,rfl,rfl⟩
 ·
  refine cd rfl ?_ ?_<;>intro h2
  ·
   refine XE.aK rfl rfl (ab .h2 rfl ?_)
   try dsimp only[SW.den,SV.den,aj,aL]
   rw[QS.jY (by omega)];exact⟨_,_,rfl,rfl⟩
  ·
   refine sd (by omega) ?_
   refine ld .here (nh _ _ _ _ (by omega)) ?_
   refine cd rfl ?_ ?_<;>intro h3
   ·
    refine XE.aK rfl rfl (ab .h2 rfl ?_)
    try dsimp only[SW.den,SV.den,aj,aL]
    rw[QS.lG (by omega) (by omega)];exact⟨_,_,rfl,rfl⟩
   ·
    have hat:=hO.at2 id (by omega) (by omega)
    have hroom:=hO.room (id:=id) (by omega) (by omega)
    refine ld .here (dY _ _ _) ?_
    refine XO.v (V.build (vs:= #[(0,.int .u64 key),(1,.int .i64 id)]) rfl (v:=.agg #[.int .u64 key,.int .i64 id]) (fun _=>by kernel_rfl)) rfl (gO ?_)
    refine XO.buildSlice (e:=254) (vs:= #[(0,.agg #[.int .u64 key,.int .i64 id])]) (A:= #[.int .u64 key,.int .i64 id]) rfl (fun _=>by kernel_rfl) rfl rfl ?_
    intro h4
    refine gO ?_
    refine XO.AJ (e:=254) (C2:=dU (s.more key id)) rfl rfl Tryz.underlying183 Fv (.there (.there .here)) .here rfl rfl (by omega) (by omega) (CS s key id) rfl ?_
    intro p1 c1
    refine gO ?_
    refine st (.t2 .here) (DF s _ _ _ _ key id) rfl ?_
    refine XR.cZ .here (by omega) ?_
    intro g1 h5
    subst h5
    have hn1:(s.more key id).n=s.n+1:=rfl
    have hR:(s.more key id).Jp:=fun j j0 j1=>by
     show 0≤aa s.I s.n id j∧aa s.I s.n id j<64
     unfold aa;split
     ·omega
     ·exact hO.gg j j0 (by omega)
    refine ld (.t2 .here) (show 0+0<65∧dw (s.more key id) _ _ (0+0)= .slice _ (s.n+1) _ from⟨by omega,rfl⟩) ?_
    refine oV ?_
    refine XO.v (V.sub rfl rfl (s.n:Int) (by rw[show((s.n+1:Nat):Int)-1=s.n from by omega];exact IntWalk.i64_in _ (by omega))) rfl (gO ?_)
    refine ca (Mc _ _ _ _ (s.more key id) _ (by omega) hR (by omega)) (.cons (.t2 .here) .h1) ?_
    rintro _ _ ⟨rfl,rfl⟩
    refine gO ?_
    refine XE.aK rfl rfl (ab .h2 rfl ?_)
    try dsimp only[SW.den,SV.den,aj,aL]
    rw[QS.lB (by omega) (by omega)];exact⟨_,_,rfl,rfl⟩
theorem Ji(b o cap:Nat)(p:Option Addr)(s:QS)(hO:s.Ok)(hH:s.Heap)(id:Int):Spec Tryz.prog 189 [ptr b o 0,.int .i64 id] [.cells b o 65 (dw (s) p cap),aR p cap 254 2 (s).n (dU (s))] (fun v H1=>∃ p1 c1,v= .tuple #[.int .u64 (s.cut id).1,bH 102 (s.cut id).2.1]∧H1=[.cells b o 65 (dw ((s.cut id).2.2) p1 c1),aR p1 c1 254 2 ((s.cut id).2.2).n (dU ((s.cut id).2.2))]):=by
 refine Spec.go 83 [0,1,4,5,6,7,8,9,15,25,64] [] Tryz.func189 rfl rfl rfl ?_
 intro W
 refine sp 12 rfl ?_ ?_<;>intro h1
 ·
  refine XE.aU rfl rfl rfl (ab .h2 rfl ?_)
  try dsimp only[SW.den,SV.den,aj,aL]
  rw[QS.o9 (by omega)];exact⟨_,_,rfl,rfl⟩
 ·
  refine cd rfl ?_ ?_<;>intro h2
  ·
   refine XE.aU rfl rfl rfl (ab .h2 rfl ?_)
   try dsimp only[SW.den,SV.den,aj,aL]
   rw[QS.o9 (by omega)];exact⟨_,_,rfl,rfl⟩
  ·
   have hat:=hO.at2 id (by omega) (by omega)
   have hn64:=hO.n64
   refine sd (by omega) ?_
   refine ld .here (nh _ _ _ _ (by omega)) ?_
   refine sd (by omega) ?_
   refine cd rfl ?_ ?_<;>intro h3
   ·
    refine XE.aU rfl rfl rfl (ab .h2 rfl ?_)
    try dsimp only[SW.den,SV.den,aj,aL]
    rw[QS.wg (by omega) (by omega)];exact⟨_,_,rfl,rfl⟩
   ·
    refine XR.cZ (.there .here) (by omega) ?_
    intro g1 h4
    subst h4
    refine ld .here (dY _ _ _) ?_
    refine sd (by omega) ?_
    refine Jk (.there .here) (nw _ _ _ (by omega)) ?_
    refine ld .here (dY _ _ _) ?_
    refine sd (by omega) ?_
    refine ld .here (dY _ _ _) ?_
    refine sd (by omega) ?_
    refine ou (.there .here) (fi _ _ _ (by omega)) ?_
    refine XO.cY (z:=.agg #[.int .u64 0,.int .i64 0]) (m:=2) (C:=cellsOf #[.int .u64 0,.int .i64 0]) (by kernel_rfl) rfl (fun _ _=>rfl) rfl ?_
    intro bx
    refine gO ?_
    refine jV .here (o0 _ _) rfl ⟨rfl,rfl⟩ ?_
    refine XR.Ks (.t2 .here) ?_
    intro hcap
    refine ld (.there .here) (dY _ _ _) ?_
    refine XO.JS (k2:=s.n-1) (C':=dU (s.cK id)) rfl rfl Tryz.underlying183 GI (by omega) (by omega) hcap (fun _ _=>rfl) (.t2 .here) rfl (gO ?_)
    refine st (.there .here) (te _ _ _ _ _ _) rfl ?_
    refine sd (by omega) ?_
    refine st (.there .here) (DD s _ _ id (by omega)) rfl ?_
    refine cd rfl ?_ ?_<;>intro h5
    ·
     have hn1:(s.cK id).n=s.n-1:=rfl
     obtain⟨m1,m2,m3,q,m4,_,m5⟩:=hO.Oo hH (xk:=s.K ((s.n:Int)-1)) (id:=id) (by omega) (by omega) rfl rfl (by omega)
     have hr9:=hO.gg ((s.n:Int)-1) (by omega) (by omega)
     have m6:(((s.cK id).set (s.at_ id-1) (s.K ((s.n:Int)-1)) (s.I ((s.n:Int)-1))).down (s.at_ id-1)).n=((s.cK id).set (s.at_ id-1) (s.K ((s.n:Int)-1)) (s.I ((s.n:Int)-1))).n:=QS.Ln _ _
     have m7:((s.cK id).set (s.at_ id-1) (s.K ((s.n:Int)-1)) (s.I ((s.n:Int)-1))).n=s.n-1:=rfl
     refine mQ .here (eX _ _) ?_
     refine ca (si _ _ _ _ (s.cK id) _ _ _ (by omega) (by omega) (by omega)) (.cons (.there .here) (.cons (.there .here) .nil)) ?_
     rintro _ _ ⟨rfl,rfl⟩
     refine gO ?_
     refine ca (LC _ _ _ _ ((s.cK id).set (s.at_ id-1) (s.K ((s.n:Int)-1)) (s.I ((s.n:Int)-1))) _ (by omega) (fun j j0 j1=>m1.gg j j0 j1) (by omega)) .h2 ?_
     rintro _ _ ⟨rfl,rfl⟩
     refine gO ?_
     refine rq [0,1,2,3,4,5,6,7,8,9] mixed (by kernel_rfl) ?_
     refine ld (.t2 .here) (nQ _ _) ?_
     refine sd (by omega) ?_
     refine ld .here (nh _ _ _ _ (by omega)) ?_
     refine sd (by omega) ?_
     refine ca (Mc _ _ _ _ (((s.cK id).set (s.at_ id-1) (s.K ((s.n:Int)-1)) (s.I ((s.n:Int)-1))).down (s.at_ id-1)) _ (by omega) (fun j j0 j1=>m2.gg j j0 j1) (by omega)) .h2 ?_
     rintro _ _ ⟨rfl,rfl⟩
     refine gO ?_
     refine XE.aU rfl rfl rfl (ab .h2 rfl ?_)
     try dsimp only[SW.den,SV.den,aj,aL]
     rw[QS.qQ (by omega) (by omega)]
     unfold QS.ml
     rw[if_pos (by omega)]
     exact⟨_,_,rfl,rfl⟩
    ·
     refine XE.aU rfl rfl rfl (ab (.cons (.there .here) (.cons (.there .here) .nil)) rfl ?_)
     try dsimp only[SW.den,SV.den,aj,aL]
     rw[QS.qQ (by omega) (by omega)]
     unfold QS.ml
     rw[if_neg (by omega)]
     exact⟨_,_,rfl,rfl⟩
theorem Mz(b o cap:Nat)(p:Option Addr)(s:QS)(hO:s.Ok)(id:Int):Spec Tryz.prog 186 [ptr b o 0,.int .i64 id] [.cells b o 65 (dw (s) p cap),aR p cap 254 2 (s).n (dU (s))] (fun v H1=>v= .tuple #[.int .u64 (s.key id).1,bH 102 (s.key id).2]∧H1=[.cells b o 65 (dw (s) p cap),aR p cap 254 2 (s).n (dU (s))]):=by
 refine Spec.go 35 [0,1,4,5,11,19] [] Tryz.func186 rfl rfl rfl ?_
 intro W
 refine sp 8 rfl ?_ ?_<;>intro h1
 ·
  refine XE.aU rfl rfl rfl (ab .h2 rfl ?_)
  try dsimp only[SW.den,SV.den,aj,aL]
  rw[QS.pe (by omega)];exact⟨rfl,rfl⟩
 ·
  refine cd rfl ?_ ?_<;>intro h2
  ·
   refine XE.aU rfl rfl rfl (ab .h2 rfl ?_)
   try dsimp only[SW.den,SV.den,aj,aL]
   rw[QS.pe (by omega)];exact⟨rfl,rfl⟩
  ·
   refine sd (by omega) ?_
   refine ld .here (nh _ _ _ _ (by omega)) ?_
   refine cd rfl ?_ ?_<;>intro h3
   ·
    refine XE.aU rfl rfl rfl (ab .h2 rfl ?_)
    try dsimp only[SW.den,SV.den,aj,aL]
    rw[QS.xb (by omega) (by omega)];exact⟨rfl,rfl⟩
   ·
    have hat:=hO.at2 id (by omega) (by omega)
    have hn64:=hO.n64
    refine XR.cZ (.there .here) (by omega) ?_
    intro g1 h4
    subst h4
    refine rq [0,1,2,3,4,5,6,7,8,9,10,11,12,13,14,15] mixed (by kernel_rfl) ?_
    refine ld .here (dY _ _ _) ?_
    refine sd (by omega) ?_
    refine ld .here (nh _ _ _ _ (by omega)) ?_
    refine sd (by omega) ?_
    refine sd (by omega) ?_
    refine Jk (.there .here) (nw _ _ _ (by omega)) ?_
    refine XE.aU rfl rfl rfl (ab .h2 rfl ?_)
    try dsimp only[SW.den,SV.den,aj,aL]
    rw[QS.vO (by omega) (by omega)];exact⟨rfl,rfl⟩
theorem AX(b o cap:Nat)(p:Option Addr)(s:QS):Spec Tryz.prog 182 [ptr b o 0] [.cells b o 65 (dw (s) p cap),aR p cap 254 2 (s).n (dU (s))] (fun v H1=>v= .tuple #[.int .i64 s.first.1,.int .u64 s.first.2.1,.bool s.first.2.2]∧H1=[.cells b o 65 (dw (s) p cap),aR p cap 254 2 (s).n (dU (s))]):=by
 refine Spec.go 25 [0,2,3,4,10] [] Tryz.func182 rfl rfl rfl ?_
 intro W
 refine ld .here (dY _ _ _) ?_
 refine cd rfl ?_ ?_<;>intro h1
 ·
  refine XE.sE rfl rfl rfl rfl (ab .h2 rfl ?_)
  try dsimp only[SW.den,SV.den,aj,aL]
  have e:s.first=(0,0,false):=by unfold QS.first;rw[if_pos (by omega)]
  rw[e];exact⟨rfl,rfl⟩
 ·
  refine XR.cZ (.there .here) (by omega) ?_
  intro g1 h2
  subst h2
  refine rq [0,1,2,3,4,5,6,7,8,9,10,11,12,13,14,15,16] mixed (by kernel_rfl) ?_
  refine ld .here (dY _ _ _) ?_
  refine sd (by omega) ?_
  refine Jk (.there .here) (Bf _ _ _ (by omega)) ?_
  refine ld .here (dY _ _ _) ?_
  refine sd (by omega) ?_
  refine Jk (.there .here) (nw _ _ _ (by omega)) ?_
  refine XE.sE rfl rfl rfl rfl (ab .h2 rfl ?_)
  try dsimp only[SW.den,SV.den,aj,aL]
  have e:s.first=(s.I 0,s.K 0,true):=by unfold QS.first;rw[if_neg (by omega)]
  rw[e];exact⟨rfl,rfl⟩
theorem Mm(b o cap:Nat)(p:Option Addr)(s:QS):Spec Tryz.prog 222 [ptr b o 0] [.cells b o 65 (dw (s) p cap),aR p cap 254 2 (s).n (dU (s))] (fun v H1=>v= .int .i64 (s.n:Int)∧H1=[.cells b o 65 (dw (s) p cap),aR p cap 254 2 (s).n (dU (s))]):=by
 refine Spec.go 8 [0,2] [] Tryz.func222 rfl rfl rfl ?_
 intro W
 refine ld .here (dY _ _ _) ?_
 refine XE.aK rfl rfl (ab .h2 rfl ?_)
 try dsimp only[SW.den,SV.den,aj,aL]
 exact⟨rfl,rfl⟩
end Go.X.Fa

namespace Go.X.Fa
open Go Go.Proofs Go.X
set_option maxRecDepth 20000
set_option maxHeartbeats 4000000
theorem Hg(b o:Nat)(s:SC)(n:Int):Spec Tryz.prog 126 [ptr b o 0,.int .i64 n] [.cells b o 2281 (aq s)] (fun v H1=>((s.vG n=0∧0≤n∧n<10∧s.here n=true)∧v= .tuple #[ptr b o (0+0+n.toNat*76),.nilIface]∧H1=[.cells b o 2281 (aq s)])∨(s.vG n≠0∧v= .tuple #[.pointer none,.iface 102 (.int .i64 (s.vG n))]∧H1=[.cells b o 2281 (aq s)])):=by
 refine Spec.go 27 [0,1,4,5,11,20] [] Tryz.func126 rfl rfl rfl ?_
 intro W
 refine sp 8 rfl ?_ ?_<;>intro h1
 ·
  refine XE.aU rfl rfl rfl (ab .h1 rfl ?_)
  try dsimp only[SW.den,SV.den,aj,aL]
  have e:s.vG n=1:=by unfold SF.vG;rw[if_pos (by omega)]
  exact .inr ⟨by omega,by rw[e],rfl⟩
 ·
  refine cd rfl ?_ ?_<;>intro h2
  ·
   refine XE.aU rfl rfl rfl (ab .h1 rfl ?_)
   try dsimp only[SW.den,SV.den,aj,aL]
   have e:s.vG n=1:=by unfold SF.vG;rw[if_pos (by omega)]
   exact .inr ⟨by omega,by rw[e],rfl⟩
  ·
   refine sd (by omega) ?_
   refine ld .here (aq.lN _ _ (by omega)) ?_
   refine AK rfl ?_ ?_<;>intro h3
   ·try simp only[sb]at h3
    refine XE.aU rfl rfl rfl (ab .h1 rfl ?_)
    try dsimp only[SW.den,SV.den,aj,aL]
    have e:s.vG n=2:=by unfold SF.vG;rw[if_neg (by omega),if_neg (by simp_all)]
    exact .inr ⟨by omega,by rw[e],rfl⟩
   ·try simp only[sb]at h3
    refine sd (by omega) ?_
    refine XE.aU rfl rfl rfl (ab .h1 rfl ?_)
    try dsimp only[SW.den,SV.den,aj,aL]
    have e:s.vG n=0:=by unfold SF.vG;rw[if_neg (by omega),if_pos (by simp_all)]
    exact .inl ⟨⟨e,by omega,by omega,by simp_all⟩,rfl,rfl⟩
theorem Gg(b o:Nat)(s:SC)(n:Int):Spec Tryz.prog 127 [ptr b o 0,.int .i64 n] [.cells b o 2281 (aq s)] (fun v H1=>((s.oR n=0∧0≤n∧n<20∧s.here (10+n)=true)∧v= .tuple #[ptr b o (0+0+(10+n).toNat*76),.nilIface]∧H1=[.cells b o 2281 (aq s)])∨(s.oR n≠0∧v= .tuple #[.pointer none,.iface 102 (.int .i64 (s.oR n))]∧H1=[.cells b o 2281 (aq s)])):=by
 refine Spec.go 29 [0,1,4,5,11,21] [] Tryz.func127 rfl rfl rfl ?_
 intro W
 refine sp 8 rfl ?_ ?_<;>intro h1
 ·
  refine XE.aU rfl rfl rfl (ab .h1 rfl ?_)
  try dsimp only[SW.den,SV.den,aj,aL]
  have e:s.oR n=1:=by unfold SF.oR;rw[if_pos (by omega)]
  exact .inr ⟨by omega,by rw[e],rfl⟩
 ·
  refine cd rfl ?_ ?_<;>intro h2
  ·
   refine XE.aU rfl rfl rfl (ab .h1 rfl ?_)
   try dsimp only[SW.den,SV.den,aj,aL]
   have e:s.oR n=1:=by unfold SF.oR;rw[if_pos (by omega)]
   exact .inr ⟨by omega,by rw[e],rfl⟩
  ·
   refine sd (by omega) ?_
   refine sd (by omega) ?_
   refine ld .here (aq.lN _ _ (by omega)) ?_
   refine AK rfl ?_ ?_<;>intro h3
   ·try simp only[sb]at h3
    refine XE.aU rfl rfl rfl (ab .h1 rfl ?_)
    try dsimp only[SW.den,SV.den,aj,aL]
    have e:s.oR n=2:=by unfold SF.oR;rw[if_neg (by omega),if_neg (by simp_all)]
    exact .inr ⟨by omega,by rw[e],rfl⟩
   ·try simp only[sb]at h3
    refine sd (by omega) ?_
    refine sd (by omega) ?_
    refine XE.aU rfl rfl rfl (ab .h1 rfl ?_)
    try dsimp only[SW.den,SV.den,aj,aL]
    have e:s.oR n=0:=by unfold SF.oR;rw[if_neg (by omega),if_pos (by simp_all)]
    exact .inl ⟨⟨e,by omega,by omega,by simp_all⟩,rfl,rfl⟩
theorem AQ(b o:Nat)(s:SC)(hR:s.jB)(hw:∀ i,s.was i=true→0<i∧i<30)(n:Int)(hn:0≤n∧n<30):Spec Tryz.prog 187 [ptr b o 0,.int .i64 n] [.cells b o 2281 (aq s),.fam aH (s.rows 254)] (fun v H1=>v= .bool (s.toSF.ready n)∧H1=[.cells b o 2281 (aq s),.fam aH (s.rows 254)]):=by
 have hk:=hR.eb hw hn.1 hn.2
 refine Spec.go 47 [0,1,4,5,12] [] Tryz.func187 rfl rfl rfl ?_
 intro W
 refine sd (by omega) ?_
 refine cd rfl ?_ ?_<;>intro h1
 ·
  refine ld .here (aq.zg _ _ (by omega)) ?_
  refine XE.aK rfl rfl (ab .h2 rfl ?_)
  try dsimp only[SW.den,SV.den,aj,aL]
  exact⟨by unfold SF.ready;rw[if_pos (by omega)],rfl⟩
 ·
  refine rq [0,1,2,3,4,5,6,7,8,9,10,11,12,13,14,15,16,17,18,19,20,21,22,23,24,25,26,27,28,29,30] mixed (by kernel_rfl) ?_
  refine XR.mono (fun _ hw3=>XM.pF (z:=n) (by omega) .h2 hw3) ?_
  refine ca (Mm _ _ _ _ _) .h2 ?_
  rintro _ _ ⟨rfl,rfl⟩
  refine XO.mono (fun _ hw3=>XM.pY (z:=n) (by omega) .h5 hw3) ?_
  refine gO ?_
  refine sp 22 rfl ?_ ?_<;>intro h2
  ·
   refine ld .here (aq.xK _ _ (by omega)) ?_
   refine JJ 29 rfl ?_ ?_<;>intro h3
   ·try simp only[sb]at h3
    refine ld .here (aq.ko _ _ (by omega)) ?_
    refine sp 35 rfl ?_ ?_<;>intro h4
    ·
     refine XE.aK rfl rfl (ab .h2 rfl ?_)
     try dsimp only[SW.den,SV.den,aj,aL]
     refine⟨congrArg Value.bool ?_,rfl⟩
     unfold SF.ready
     rw[if_neg (by omega),hk]
     simp_all
    ·
     refine ld .here (aq.s8 _ _ (by omega)) ?_
     refine ld .here (aq.ko _ _ (by omega)) ?_
     refine XE.aK rfl rfl (ab .h2 rfl ?_)
     try dsimp only[SW.den,SV.den,aj,aL]
     refine⟨congrArg Value.bool ?_,rfl⟩
     unfold SF.ready
     rw[if_neg (by omega),hk]
     simp_all
   ·try simp only[sb]at h3
    refine XE.aK rfl rfl (ab .h2 rfl ?_)
    try dsimp only[SW.den,SV.den,aj,aL]
    refine⟨congrArg Value.bool ?_,rfl⟩
    unfold SF.ready
    rw[if_neg (by omega),hk]
    simp_all
  ·
   refine XE.aK rfl rfl (ab .h2 rfl ?_)
   try dsimp only[SW.den,SV.den,aj,aL]
   refine⟨congrArg Value.bool ?_,rfl⟩
   unfold SF.ready
   rw[if_neg (by omega),hk]
   simp_all
theorem rM(b o:Nat)(s:SC)(d:Int→Nat)(hI:s.toSF.Inv d)(hR:s.jB)(n:Int)(hn:n=0∨(0<n∧n<30∧s.here n=true)):Spec Tryz.prog 128 [ptr b o 0,.int .i64 n] [.cells b o 2281 (aq s),.fam aH (s.rows 254)] (fun v H1=>v= .tuple #[]∧∃ t:SC,t.toSF=s.toSF.look d n∧t.jB∧H1=[.cells b o 2281 (aq t),.fam aH (t.rows 254)]):=by
 refine Spec.go 88 [0,4,5,6,8,9,10,13,47,74] [] Tryz.func128 rfl rfl rfl ?_
 intro W
 refine lp (σ:=SC×Int) (fun x=>if x.2=0 then 0 else d x.2+1) (fun x=>x.1.jB∧x.1.toSF.Inv d∧(x.2=0∨(0<x.2∧x.2<30∧x.1.here x.2=true))∧∃ k,d x.2+1≤k∧SF.dJ k x.1.toSF x.2=s.toSF.look d n) (fun x=>[(4,.int .i64 x.2),(0,ptr b o 0)]) (fun x=>XM W (bR [.cells b o 2281 (aq s),.fam aH (s.rows 254)]) [.cells b o 2281 (aq x.1),.fam aH (x.1.rows 254)]) ((s,n)) ?_ (S2 rfl rfl) (fun _ hw=>XM.pick .h2 hw) ?_
 ·
  exact⟨hR,hI,hn,d n+1,Nat.le_refl _,rfl⟩
 intro x hx
 obtain⟨xR,xI,xn,k,hk,xl⟩:=hx
 refine gC ?_
 refine cd rfl ?_ ?_<;>intro h1
 ·
  obtain⟨n0,n1,n2⟩:=xn.resolve_left (by omega)
  obtain⟨p0,pp1,p2,p3⟩:=xI.up x.2 n0 n1 n2
  have hin:=xR.bU (n:=x.2) ⟨by omega,n1⟩ ⟨p0,by omega⟩
  obtain⟨k,rfl⟩:∃ k2,k=k2+1:=⟨k-1,by omega⟩
  rw[SF.iL _ _ n0]at xl
  have hw:∀ i,x.1.was i=true→0<i∧i<30:=fun i hi=>⟨(xI.was i hi).1,(xI.was i hi).2.1⟩
  have hgq:=xR (x.1.par x.2) p0 (by omega)
  have hpn:(x.1.par x.2)=0∨(0<(x.1.par x.2)∧(x.1.par x.2)<30∧x.1.here (x.1.par x.2)=true):=by
   by_cases c:(x.1.par x.2)=0
   ·exact .inl c
   ·exact .inr ⟨by omega,by omega,p2⟩
  refine sd (by omega) ?_
  refine rq [0,1,2,3,4,5,6,7,8] mixed (by kernel_rfl) ?_
  refine ld .here (aq.fa _ _ (by omega)) ?_
  refine sd (by omega) ?_
  refine XR.mono (fun _ hw3=>XM.pF (z:=(x.1.par x.2)) (by omega) .h2 hw3) ?_
  refine ca (Mz _ _ _ _ _ hgq.ok _) .h2 ?_
  rintro _ _ ⟨rfl,rfl⟩
  refine XO.mono (fun _ hw3=>XM.pY (z:=(x.1.par x.2)) (by omega) .h5 hw3) ?_
  refine gO ?_
  refine rq [0,1,2,3,4,5,6] mixed (by kernel_rfl) ?_
  refine ca (AQ _ _ _ xR hw _ (by omega)) .h2 ?_
  rintro _ _ ⟨rfl,rfl⟩
  refine gO ?_
  refine JJ 49 rfl ?_ ?_<;>intro h2
  ·try simp only[sb]at h2
   have hrd:x.1.toSF.ready x.2=true:=h2
   refine cd rfl ?_ ?_<;>intro h3
   ·
    have hwf:x.1.was x.2=false:=by
     cases q:x.1.was x.2 with
     | false=>rfl
     | true=>
      rw[if_pos q]at hin
      omega
    refine rq [0,1,2,3,4,5,6,7,8,9,10,11,12] mixed (by kernel_rfl) ?_
    refine ld .here (aq.yf _ _ (by omega)) ?_
    refine ld .here (aq.qG _ _ (by omega)) ?_
    refine st .here (aq.FB _ _ (by omega) _) rfl ?_
    refine rq [0,1,2,3,4,5,6,7,8] mixed (by kernel_rfl) ?_
    refine ld .here (Cy _ _ _ (by omega)) ?_
    refine XR.mono (fun _ hw3=>XM.pF (z:=(x.1.par x.2)) (by omega) .h2 hw3) ?_
    refine ca (Jq _ _ _ _ _ hgq.ok _ _) .h2 ?_
    rintro _ _ ⟨p1,c1,rfl,rfl⟩
    refine XO.mono (fun _ hw3=>XM.r9 (z:=(x.1.par x.2)) (by omega) .h5 hw3) ?_
    refine gO ?_
    refine sd (by omega) ?_
    refine ld .here (aq.fa _ _ (by omega)) ?_
    refine ag ((⟨{x.1.toSF with v:=aa x.1.v x.2 (max (x.1.v x.2) (x.1.floor (x.1.par x.2))),was:=aa x.1.was x.2 true},aa x.1.Q (x.1.par x.2) ((x.1.Q (x.1.par x.2)).put x.2 (max (x.1.v x.2) (x.1.floor (x.1.par x.2)))).2,aa x.1.P (x.1.par x.2) p1,aa x.1.C (x.1.par x.2) c1⟩,(x.1.par x.2))) ?_ ?_ (S2 rfl rfl) (fun _ hw=>XM.pick .h2 hw)
    ·
     show(if(x.1.par x.2)=0 then 0 else d (x.1.par x.2)+1)<(if x.2=0 then 0 else d x.2+1)
     rw[if_neg (show ¬x.2=0 by omega)]
     split<;>omega
    ·
     have e:({x.1.toSF with v:=aa x.1.v x.2 (max (x.1.v x.2) (x.1.floor (x.1.par x.2))),was:=aa x.1.was x.2 true} :SF)=x.1.toSF.kS x.2:=by unfold SF.kS;rw[if_pos ⟨hrd,hwf⟩,hrd]
     refine⟨?_,by show SF.Inv _ d;rw[e];exact xI.kS n0 n1 n2,hpn,k,by show d (x.1.par x.2)+1≤k;omega,by show SF.dJ k _ _=_;rw[e];exact xl⟩
     have hh:=xR.enter (n:=x.2) ⟨by omega,n1⟩ ⟨p0,by omega⟩ hwf {x.1.toSF with v:=aa x.1.v x.2 (max (x.1.v x.2) (x.1.floor (x.1.par x.2))),was:=aa x.1.was x.2 true} rfl (fun i hi=>ad _ _ hi) rfl (max (x.1.v x.2) (x.1.floor (x.1.par x.2))) (ae _ _ _) (aa x.1.P (x.1.par x.2) p1) (aa x.1.C (x.1.par x.2) c1)
     exact hh
   ·
    have hwt:x.1.was x.2=true:=by
     cases q:x.1.was x.2 with
     | true=>rfl
     | false=>
      rw[if_neg (by rw[q];simp)]at hin
      omega
    refine JJ 77 rfl ?_ ?_<;>intro h4
    ·try simp only[sb]at h4
     all_goals(simp_all)
    ·try simp only[sb]at h4
     refine sd (by omega) ?_
     refine ld .here (aq.fa _ _ (by omega)) ?_
     refine ag ((x.1,(x.1.par x.2))) ?_ ?_ (S2 rfl rfl) (fun _ hw=>XM.pick .h2 hw)
     ·
      show(if(x.1.par x.2)=0 then 0 else d (x.1.par x.2)+1)<(if x.2=0 then 0 else d x.2+1)
      rw[if_neg (show ¬x.2=0 by omega)]
      split<;>omega
     ·
      have e:x.1.toSF.kS x.2=x.1.toSF:=SF.wC (by simp_all)
      rw[e]at xl
      exact⟨xR,xI,hpn,k,by show d (x.1.par x.2)+1≤k;omega,xl⟩
  ·try simp only[sb]at h2
   have hrd:x.1.toSF.ready x.2=false:=h2
   refine JJ 77 rfl ?_ ?_<;>intro h5
   ·try simp only[sb]at h5
    refine cd rfl ?_ ?_<;>intro h6
    ·
     have hwt:x.1.was x.2=true:=by
      cases q:x.1.was x.2 with
      | true=>rfl
      | false=>
       rw[if_neg (by rw[q];simp)]at hin
       omega
     refine XR.mono (fun _ hw3=>XM.pF (z:=(x.1.par x.2)) (by omega) .h2 hw3) ?_
     refine ca (Ji _ _ _ _ _ hgq.ok hgq.heap _) .h2 ?_
     rintro _ _ ⟨p1,c1,rfl,rfl⟩
     refine XO.mono (fun _ hw3=>XM.r9 (z:=(x.1.par x.2)) (by omega) .h5 hw3) ?_
     refine gO ?_
     refine sd (by omega) ?_
     refine ld .here (aq.fa _ _ (by omega)) ?_
     refine ag ((⟨{x.1.toSF with was:=aa x.1.was x.2 false},aa x.1.Q (x.1.par x.2) ((x.1.Q (x.1.par x.2)).cut x.2).2.2,aa x.1.P (x.1.par x.2) p1,aa x.1.C (x.1.par x.2) c1⟩,(x.1.par x.2))) ?_ ?_ (S2 rfl rfl) (fun _ hw=>XM.pick .h2 hw)
     ·
      show(if(x.1.par x.2)=0 then 0 else d (x.1.par x.2)+1)<(if x.2=0 then 0 else d x.2+1)
      rw[if_neg (show ¬x.2=0 by omega)]
      split<;>omega
     ·
      have e:({x.1.toSF with was:=aa x.1.was x.2 false} :SF)=x.1.toSF.kS x.2:=by unfold SF.kS;rw[if_neg (by rw[hrd];simp),hrd,cq x.1.v rfl]
      exact⟨xR.leave (n:=x.2) ⟨by omega,n1⟩ ⟨p0,by omega⟩ hwt {x.1.toSF with was:=aa x.1.was x.2 false} rfl (fun i hi=>rfl) rfl _ _,by show SF.Inv _ d;rw[e];exact xI.kS n0 n1 n2,hpn,k,by show d (x.1.par x.2)+1≤k;omega,by show SF.dJ k _ _=_;rw[e];exact xl⟩
    ·
     have hwf:x.1.was x.2=false:=by
      cases q:x.1.was x.2 with
      | false=>rfl
      | true=>
       rw[if_pos q]at hin
       omega
     refine sd (by omega) ?_
     refine ld .here (aq.fa _ _ (by omega)) ?_
     refine ag ((x.1,(x.1.par x.2))) ?_ ?_ (S2 rfl rfl) (fun _ hw=>XM.pick .h2 hw)
     ·
      show(if(x.1.par x.2)=0 then 0 else d (x.1.par x.2)+1)<(if x.2=0 then 0 else d x.2+1)
      rw[if_neg (show ¬x.2=0 by omega)]
      split<;>omega
     ·
      have e:x.1.toSF.kS x.2=x.1.toSF:=SF.wC (by simp_all)
      rw[e]at xl
      exact⟨xR,xI,hpn,k,by show d (x.1.par x.2)+1≤k;omega,xl⟩
   ·try simp only[sb]at h5
    all_goals(simp_all)
 ·
  refine XE.fC rfl (ab .h2 rfl ?_)
  try dsimp only[SW.den,SV.den,aj,aL]
  refine⟨rfl,x.1,?_,xR,rfl⟩
  have hx0:x.2=0:=by
   rcases xn with q | q
   ·exact q
   ·omega
  rw[hx0,SF.gK _ _ (by omega)]at xl
  exact xl
end Go.X.Fa

namespace Go.X.Fa
open Go Go.Proofs Go.X
set_option maxRecDepth 20000
set_option maxHeartbeats 4000000
theorem Fi(b o:Nat)(s:SC)(d:Int→Nat)(hI:s.toSF.Inv d)(hR:s.jB)(B:Int)(hB:0≤B∧B≤1000000000000000)(hS:s.toSF.Small B)(n:Int)(hn:0<n∧n<30∧s.here n=true)(hwn:s.was n=true):Spec Tryz.prog 183 [ptr b o 0,.int .i64 n] [.cells b o 2281 (aq s),.fam aH (s.rows 254)] (fun v H1=>v= .tuple #[]∧∃ t:SC,t.toSF=s.toSF.oY n∧t.jB∧H1=[.cells b o 2281 (aq t),.fam aH (t.rows 254)]):=by
 obtain⟨n0,n1,n2⟩:=hn
 obtain⟨p0,pp1,p2,p3⟩:=hI.up n n0 n1 n2
 have hgq:=hR (s.par n) p0 (by omega)
 obtain⟨hc1,hc2⟩:=hR.NS (n:=n) ⟨by omega,n1⟩ ⟨p0,by omega⟩ hwn
 have hsn:=hS n (by omega) n1
 have hsg:=hS (s.par n) p0 (by omega)
 have hwt:=hI.wt n (by omega) n1 n2
 have hpn:s.par n≠n:=fun e=>by rw[e]at p3;omega
 have hq0:0≤1048576/s.wt n∧1048576/s.wt n≤1048576:=⟨Int.ediv_nonneg (by omega) (by omega),Int.ediv_le_self _ (by omega)⟩
 have hw1:∀ i,aa s.was n false i=true→0<i∧i<30:=fun i hi=>by
  by_cases c:i=n
  ·subst c;exact⟨n0,n1⟩
  ·rw[ad _ _ c]at hi;exact⟨(hI.was i hi).1,(hI.was i hi).2.1⟩
 refine Spec.go 82 [0,1,4,5,6,7,30,62,72] [(7,1)] Tryz.func183 rfl rfl rfl ?_
 intro W
 refine sd (by omega) ?_
 refine rq [0,1,2,3,4,5,6,7,8] mixed (by kernel_rfl) ?_
 refine ld .here (aq.fa _ _ (by omega)) ?_
 refine sd (by omega) ?_
 refine XR.mono (fun _ hw3=>XM.pF (z:=(s.par n)) (by omega) .h2 hw3) ?_
 refine ca (Ji _ _ _ _ _ hgq.ok hgq.heap _) .h2 ?_
 rintro _ _ ⟨p1,c1,rfl,rfl⟩
 rw[hc1]
 have hRm:SC.jB (⟨{s.toSF.hQ n with was:=aa s.was n false},aa s.Q (s.par n) ((s.Q (s.par n)).cut n).2.2,aa s.P (s.par n) p1,aa s.C (s.par n) c1⟩:SC):=hR.leave (n:=n) ⟨by omega,n1⟩ ⟨p0,by omega⟩ hwn {s.toSF.hQ n with was:=aa s.was n false} rfl (fun i hi=>ad _ _ hi) rfl _ _
 have hgm:=hRm (s.par n) p0 (by omega)
 refine XO.mono (fun _ hw3=>XM.r9 (z:=(s.par n)) (by omega) .h5 hw3) ?_
 refine XO.mono (fun _ hw3=>XM.Mi (aa s.was n false) .h2 hw3) ?_
 refine gO ?_
 refine xV rfl (by rw[hc2];simp) ?_
 refine ld .here (show _∧_=Value.int .u64 (s.floor (s.par n))from aq.qG _ _ (by omega)) ?_
 refine st .here (aq.zo _ _ (by omega) _) rfl ?_
 refine ld .here (show _∧_=Value.int .i64 (s.wt n)from aq.xa _ _ (by omega)) ?_
 refine XO.v (V.quo rfl rfl (by first | decide | omega) _ (vn (by omega) (by omega) (by omega))) rfl (gO ?_)
 refine XO.v (V.vC rfl Tryz.underlying3 Tryz.underlying29 _ (IntWalk.u64_in _ (by omega))) rfl (gO ?_)
 refine XO.v (V.add rfl rfl _ (IntWalk.u64_in _ (by omega))) rfl (gO ?_)
 refine st .here (aq.FB _ _ (by omega) _) rfl ?_
 refine ld .here (show _∧_=Value.int .i64 (s.ran n)from aq.DE _ _ (by omega)) ?_
 refine sd (by omega) ?_
 refine st .here (aq.Fj _ _ (by omega) _) rfl ?_
 refine ct [(0,ptr b o 0),(1,.int .i64 n),(4,ptr b o (0+0+n.toNat*76)),(5,ptr b o (0+0+(s.par n).toNat*76))] (XM W (bR [.cells b o 2281 (aq s),.fam aH (s.rows 254)]) [.cells b o 2281 (aq (⟨{s.toSF.hQ n with was:=aa s.was n false},aa s.Q (s.par n) ((s.Q (s.par n)).cut n).2.2,aa s.P (s.par n) p1,aa s.C (s.par n) c1⟩:SC)),.fam aH (SC.rows 254 (⟨{s.toSF.hQ n with was:=aa s.was n false},aa s.Q (s.par n) ((s.Q (s.par n)).cut n).2.2,aa s.P (s.par n) p1,aa s.C (s.par n) c1⟩:SC))]) ?_ ?_
 ·
  refine ld .here (show _∧_=Value.int .i64 (s.quota n)from aq.ko _ _ (by omega)) ?_
  refine cd rfl ?_ ?_<;>intro h1
  ·
   have hM:(⟨{s.toSF.hQ n with was:=aa s.was n false},aa s.Q (s.par n) ((s.Q (s.par n)).cut n).2.2,aa s.P (s.par n) p1,aa s.C (s.par n) c1⟩:SC)=(⟨{s.toSF with floor:=aa s.floor (s.par n) (max (s.floor (s.par n)) (s.v n)),v:=aa s.v n (s.v n+1048576/s.wt n),ran:=aa s.ran n (s.ran n+1),used:=aa s.used n (s.used n+1),was:=aa s.was n false},aa s.Q (s.par n) ((s.Q (s.par n)).cut n).2.2,aa s.P (s.par n) p1,aa s.C (s.par n) c1⟩:SC):=by unfold SF.hQ;rw[if_pos h1]
   refine ld .here (show _∧_=Value.int .i64 (s.used n)from aq.s8 _ _ (by omega)) ?_
   refine sd (by omega) ?_
   refine st .here (aq.uz _ _ (by omega) _) rfl ?_
   refine mt (S4 rfl rfl rfl rfl) (fun _ hw2=>by rw[hM];exact XM.pick .h2 hw2)
  ·
   have hM:(⟨{s.toSF.hQ n with was:=aa s.was n false},aa s.Q (s.par n) ((s.Q (s.par n)).cut n).2.2,aa s.P (s.par n) p1,aa s.C (s.par n) c1⟩:SC)=(⟨{s.toSF with floor:=aa s.floor (s.par n) (max (s.floor (s.par n)) (s.v n)),v:=aa s.v n (s.v n+1048576/s.wt n),ran:=aa s.ran n (s.ran n+1),used:=s.used,was:=aa s.was n false},aa s.Q (s.par n) ((s.Q (s.par n)).cut n).2.2,aa s.P (s.par n) p1,aa s.C (s.par n) c1⟩:SC):=by unfold SF.hQ;rw[if_neg h1]
   refine mt (S4 rfl rfl rfl rfl) (fun _ hw2=>by rw[hM];exact XM.pick .h2 hw2)
 have hrr:SF.ready {s.toSF.hQ n with was:=aa s.was n false} n=(s.toSF.hQ n).ready n:=SF.o5 (s:=s.toSF.hQ n) hpn false
 refine gC ?_
 refine ca (AQ b o (⟨{s.toSF.hQ n with was:=aa s.was n false},aa s.Q (s.par n) ((s.Q (s.par n)).cut n).2.2,aa s.P (s.par n) p1,aa s.C (s.par n) c1⟩:SC) hRm hw1 n ⟨by omega,n1⟩) .h2 ?_
 rintro _ _ ⟨rfl,rfl⟩
 refine gO ?_
 refine AK rfl ?_ ?_<;>intro h2
 ·try simp only[sb]at h2
  refine rq [0,1,2,3,4,5,6,7,8] mixed (by kernel_rfl) ?_
  refine ld .here (show _∧_=Value.int .u64 (s.v n+1048576/s.wt n)from⟨by omega,(aq.yf (⟨{s.toSF.hQ n with was:=aa s.was n false},aa s.Q (s.par n) ((s.Q (s.par n)).cut n).2.2,aa s.P (s.par n) p1,aa s.C (s.par n) c1⟩:SC) n (by omega)).2.trans (congrArg (Value.int .u64) (ae s.v n (s.v n+1048576/s.wt n)))⟩) ?_
  refine XR.mono (fun _ hw3=>XM.pF (z:=(s.par n)) (by omega) .h2 hw3) ?_
  refine ca (Jq _ _ _ _ _ hgm.ok _ _) .h2 ?_
  rintro _ _ ⟨p2,c2,rfl,rfl⟩
  refine XO.mono (fun _ hw3=>XM.r9 (z:=(s.par n)) (by omega) .h5 hw3) ?_
  refine XO.mono (fun _ hw3=>XM.Mi (aa s.was n true) .h2 hw3) ?_
  refine gO ?_
  refine XE.fC rfl (ab .h2 rfl ?_)
  try dsimp only[SW.den,SV.den,aj,aL]
  refine⟨rfl,_,?_,?_,rfl⟩
  ·have h9:SF.ready {s.toSF.hQ n with was:=aa s.was n false} n=true:=by assumption
   rw[hrr]at h9
   show _=s.toSF.oY n
   unfold SF.oY
   rw[h9]
  ·have hp30:s.par n<30:=by omega
   have:=hRm.enter (n:=n) ⟨by omega,n1⟩ ⟨p0,hp30⟩ (ae _ _ _) {s.toSF.hQ n with was:=aa s.was n true} (by funext i;show aa s.was n true i=aa (aa s.was n false) n true i;unfold aa;split<;>rfl) (fun i hi=>rfl) rfl (s.v n+1048576/s.wt n) (ae _ _ _) (aa (aa s.P (s.par n) p1) (s.par n) p2) (aa (aa s.C (s.par n) c1) (s.par n) c2)
   exact this
 ·try simp only[sb]at h2
  refine XE.fC rfl (ab .h2 rfl ?_)
  try dsimp only[SW.den,SV.den,aj,aL]
  refine⟨rfl,(⟨{s.toSF.hQ n with was:=aa s.was n false},aa s.Q (s.par n) ((s.Q (s.par n)).cut n).2.2,aa s.P (s.par n) p1,aa s.C (s.par n) c1⟩:SC),?_,hRm,rfl⟩
  have h9:SF.ready {s.toSF.hQ n with was:=aa s.was n false} n=false:=by assumption
  rw[hrr]at h9
  show _=s.toSF.oY n
  unfold SF.oY
  rw[h9]
end Go.X.Fa

namespace Go.X.Fa
open Go Go.Proofs Go.X
set_option maxRecDepth 20000
set_option maxHeartbeats 4000000
theorem od:de Tryz.prog 187=some 76:=by kernel_rfl
theorem yq(b o:Nat)(s:SC)(d:Int→Nat)(hI:s.toSF.Inv d)(hR:s.jB)(n:Int)(on:Bool):Spec Tryz.prog 61 [ptr b o 0,.int .i64 n,.bool on] [.cells b o 2281 (aq s),.fam aH (s.rows 254)] (fun v H1=>v=bH 102 (s.oR n)∧∃ t:SC,t.toSF=s.toSF.ej d n on∧t.jB∧H1=[.cells b o 2281 (aq t),.fam aH (t.rows 254)]):=by
 refine Spec.go 26 [0,1,2,6,7,8,16] [] Tryz.func61 rfl rfl rfl ?_
 intro W
 refine ca (Gg _ _ _ _) .h1 ?_
 rintro _ _ (⟨h1,rfl,rfl⟩ | ⟨h1,rfl,rfl⟩)
 ·
  try dsimp only[aT,aV,bu,bj,bk,bd,aW,bh,aY,aX,aP,aN,aQ,aO]
  obtain⟨i0,i1,i2,i3⟩:=h1
  refine gO ?_
  refine st .here (aq.sc _ _ (by omega) _) rfl ?_
  refine sd (by omega) ?_
  refine ca (rM _ _ {s with awake:=aa s.awake (10+n) on} d ⟨hI.h0,hI.up,hI.was,hI.quo,hI.wt⟩ hR _ (.inr ⟨by omega,by omega,i3⟩)) .h2 ?_
  rintro _ _ ⟨rfl,t,tl,tR,rfl⟩
  refine gO ?_
  refine XE.aK rfl rfl (ab .h2 rfl ?_)
  try dsimp only[SW.den,SV.den,aj,aL]
  exact⟨by rw[i0];rfl,t,by rw[tl];unfold SF.ej;rw[if_pos i0],tR,rfl⟩
 ·
  try dsimp only[aT,aV,bu,bj,bk,bd,aW,bh,aY,aX,aP,aN,aQ,aO]
  have i0:=h1
  refine gO ?_
  refine XE.aK rfl rfl (ab .h2 rfl ?_)
  try dsimp only[SW.den,SV.den,aj,aL]
  exact⟨by rw[aJ _ (by assumption)],s,by unfold SF.ej;rw[if_neg (by assumption)],hR,rfl⟩
theorem oH(b o:Nat)(s:SC)(d:Int→Nat)(hI:s.toSF.Inv d)(hR:s.jB)(n p w:Int):Spec Tryz.prog 60 [ptr b o 0,.int .i64 n,.int .i64 p,.int .i64 w] [.cells b o 2281 (aq s),.fam aH (s.rows 254)] (fun v H1=>v=bH 102 (s.gp n p w)∧∃ t:SC,t.toSF=s.toSF.mH n p w∧t.jB∧H1=[.cells b o 2281 (aq t),.fam aH (t.rows 254)]):=by
 refine Spec.go 53 [0,1,2,3,8,10,24,33,42] [] Tryz.func60 rfl rfl rfl ?_
 intro W
 refine sp 13 rfl ?_ ?_<;>intro h1
 ·
  refine XE.aK rfl rfl (ab .h2 rfl ?_)
  try dsimp only[SW.den,SV.den,aj,aL]
  have e:s.gp n p w=1:=by unfold SF.gp;rw[if_pos (by omega)]
  exact⟨by rw[e]<;>rfl,s,by unfold SF.mH;rw[if_neg (by omega)],hR,rfl⟩
 ·
  refine sp 17 rfl ?_ ?_<;>intro h2
  ·
   refine XE.aK rfl rfl (ab .h2 rfl ?_)
   try dsimp only[SW.den,SV.den,aj,aL]
   have e:s.gp n p w=1:=by unfold SF.gp;rw[if_pos (by omega)]
   exact⟨by rw[e]<;>rfl,s,by unfold SF.mH;rw[if_neg (by omega)],hR,rfl⟩
  ·
   refine sp 21 rfl ?_ ?_<;>intro h3
   ·
    refine XE.aK rfl rfl (ab .h2 rfl ?_)
    try dsimp only[SW.den,SV.den,aj,aL]
    have e:s.gp n p w=1:=by unfold SF.gp;rw[if_pos (by omega)]
    exact⟨by rw[e]<;>rfl,s,by unfold SF.mH;rw[if_neg (by omega)],hR,rfl⟩
   ·
    refine cd rfl ?_ ?_<;>intro h4
    ·
     refine XE.aK rfl rfl (ab .h2 rfl ?_)
     try dsimp only[SW.den,SV.den,aj,aL]
     have e:s.gp n p w=1:=by unfold SF.gp;rw[if_pos (by omega)]
     exact⟨by rw[e]<;>rfl,s,by unfold SF.mH;rw[if_neg (by omega)],hR,rfl⟩
    ·
     refine sd (by omega) ?_
     refine sd (by omega) ?_
     refine ld .here (aq.lN _ _ (by omega)) ?_
     refine AK rfl ?_ ?_<;>intro h5
     ·try simp only[sb]at h5
      refine XE.aK rfl rfl (ab .h2 rfl ?_)
      try dsimp only[SW.den,SV.den,aj,aL]
      have e:s.gp n p w=3:=by unfold SF.gp;rw[if_neg (by omega),if_pos (by assumption)]
      exact⟨by rw[e]<;>rfl,s,by unfold SF.mH;rw[if_neg (by omega)],hR,rfl⟩
     ·try simp only[sb]at h5
      have hno:s.here (10+n)=false:=by
       cases q:s.here (10+n)with
       | false=>rfl
       | true=>rw[q]at h5;simp at h5
      refine ca (Hg _ _ _ _) .h1 ?_
      rintro _ _ (⟨h6,rfl,rfl⟩ | ⟨h6,rfl,rfl⟩)
      ·
       try dsimp only[aT,aV,bu,bj,bk,bd,aW,bh,aY,aX,aP,aN,aQ,aO]
       obtain⟨i0,i1,i2,i3⟩:=h6
       refine gO ?_
       refine sd (by omega) ?_
       refine XO.v (V.build (vs:= #[(0,.bool true),(1,.int .i64 p),(2,.int .i64 w)]) rfl (v:=.agg (gL (qj true p w))) (fun _=>by kernel_rfl)) rfl (gO ?_)
       refine sd (by omega) ?_
       refine oS ?_
       refine XO.eZ rfl rfl .here (sm _ (10+n) p w true (by omega)) (mJ _) od ?_
       refine XO.mono (fun _ hw3=>XM.newRow (s:=s) (z:=(10+n)) (by omega) (.cons (.there .here) .nil) hw3) ?_
       refine gO ?_
       refine XE.aK rfl rfl (ab (.cons (.there .here) .h1) rfl ?_)
       try dsimp only[SW.den,SV.den,aj,aL]
       have e:s.gp n p w=0:=by unfold SF.gp;rw[if_neg (by omega),if_neg (by rw[hno];simp)];exact i0
       have hwz:s.was (10+n)=false:=by
        cases q:s.was (10+n)with
        | false=>rfl
        | true=>have:=(hI.was _ q).2.2;rw[hno]at this;cases this
       have hk9:∀ i,s.was i=true→s.par i≠(10+n):=fun i hi e9=>by
        obtain⟨a,b9,c⟩:=hI.was i hi
        have h9:=(hI.up i a b9 c).2.2.1
        rw[e9,hno]at h9;cases h9
       exact⟨by rw[e]<;>rfl,_,by unfold SF.mH;rw[if_pos e],hR.new hwz hk9 p w true,rfl⟩
      ·
       try dsimp only[aT,aV,bu,bj,bk,bd,aW,bh,aY,aX,aP,aN,aQ,aO]
       have i0:=h6
       refine gO ?_
       refine XE.aK rfl rfl (ab .h2 rfl ?_)
       try dsimp only[SW.den,SV.den,aj,aL]
       have e:s.gp n p w=s.vG p:=by unfold SF.gp;rw[if_neg (by omega),if_neg (by rw[hno];simp)]
       exact⟨by rw[e,aJ _ (by assumption)],s,by unfold SF.mH;rw[if_neg (by omega)],hR,rfl⟩
end Go.X.Fa
