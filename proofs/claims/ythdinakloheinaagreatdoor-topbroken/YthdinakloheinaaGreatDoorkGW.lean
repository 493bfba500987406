import Derived.Test.YthdinakloheinaaGreatDoorkTM
import Derived.Test.YthdinakloheinaaGreatDoorKB
import Derived.Test.YthdinakloheinaaGreatDoorkGM
import Derived.Test.YthdinakloheinaaGreatDoorXClose
namespace Go.X.Sg
open Go Go.Proofs Go.X
set_option maxRecDepth 20000
set_option maxHeartbeats 4000000
theorem Ln:n5 Tryz.prog 256=some (32,1):=by kernel_rfl
theorem nK(n:Int):Spec Tryz.prog 141 [.int .i64 n] [] (fun v H1=>((1≤n∧n≤8)∧v= .nilIface∧H1=[])∨((n<1∨n>8)∧v= .iface 102 (.int .i64 1)∧H1=[])):=by
 refine Spec.go 10 [0,2,8] [] Tryz.func141 rfl rfl rfl ?_
 intro W
 refine sp 5 rfl ?_ ?_<;>intro h1
 ·
  refine XE.aV rfl rfl (ab .nil rfl ?_)
  try dsimp only[SW.den,SV.den,aj,aZ]
  first | exact .inl ⟨by omega,rfl,rfl⟩ | exact .inr ⟨by omega,rfl,rfl⟩
 ·
  refine cd rfl ?_ ?_<;>intro h2
  ·
   refine XE.aV rfl rfl (ab .nil rfl ?_)
   try dsimp only[SW.den,SV.den,aj,aZ]
   first | exact .inl ⟨by omega,rfl,rfl⟩ | exact .inr ⟨by omega,rfl,rfl⟩
  ·
   refine XE.aV rfl rfl (ab .nil rfl ?_)
   try dsimp only[SW.den,SV.den,aj,aZ]
   first | exact .inl ⟨by omega,rfl,rfl⟩ | exact .inr ⟨by omega,rfl,rfl⟩
theorem Eo(b o:Nat)(s:BS)(n:Int)(hn:1≤n∧n≤8):Spec Tryz.prog 142 [ptr b o 0,.int .i64 n] [.cells b o 11 (b7 s)] (fun v H1=>v= .int .i64 (s.mu n)∧H1=[.cells b o 11 (b7 s)]):=by
 refine Spec.go 22 [0,1,4,15] [] Tryz.func142 rfl rfl rfl ?_
 intro W
 refine sp 7 rfl ?_ ?_<;>intro h1
 ·
  refine sd (by omega) ?_
  refine ld .here (b7.la _ _ (by omega)) ?_
  refine cd rfl ?_ ?_<;>intro h2
  ·
   refine XE.aV rfl rfl (ab .h1 rfl ?_)
   try dsimp only[SW.den,SV.den,aj,aZ]
   first | exact⟨by unfold BS.mu;rw[if_pos (by omega)],rfl⟩ | exact⟨by unfold BS.mu;rw[if_neg (by omega)],rfl⟩
  ·
   refine sd (by omega) ?_
   refine ld .here (b7.la _ _ (by omega)) ?_
   refine XE.aV rfl rfl (ab .h1 rfl ?_)
   try dsimp only[SW.den,SV.den,aj,aZ]
   first | exact⟨by unfold BS.mu;rw[if_pos (by omega)],rfl⟩ | exact⟨by unfold BS.mu;rw[if_neg (by omega)],rfl⟩
 ·
  refine sd (by omega) ?_
  refine ld .here (b7.la _ _ (by omega)) ?_
  refine XE.aV rfl rfl (ab .h1 rfl ?_)
  try dsimp only[SW.den,SV.den,aj,aZ]
  first | exact⟨by unfold BS.mu;rw[if_pos (by omega)],rfl⟩ | exact⟨by unfold BS.mu;rw[if_neg (by omega)],rfl⟩
theorem DB(b o:Nat)(s:BS)(n:Int):Spec Tryz.prog 138 [ptr b o 0,.int .i64 n] [.cells b o 11 (b7 s)] (fun v H1=>v=bM 102 (s.send n).1∧H1=[.cells b o 11 (b7 (s.send n).2)]):=by
 refine Spec.go 26 [0,1,4,5,15] [] Tryz.func138 rfl rfl rfl ?_
 intro W
 refine ca (nK _) .nil ?_
 rintro _ _ (⟨h1,rfl,rfl⟩ | ⟨h1,rfl,rfl⟩)
 ·
  try dsimp only[aC,aS,aM,aR,aN,aP,aQ,aU,aO,aT,aG,aH,aB,aF]
  refine gO ?_
  refine ca (Eo _ _ _ _ (by omega)) .h1 ?_
  rintro _ _ ⟨rfl,rfl⟩
  refine gO ?_
  refine cd rfl ?_ ?_<;>intro h2
  ·
   refine rq [0,1,2,3,4,5,6,7,8,9] mixed (by kernel_rfl) ?_
   refine ld .here (b7.p7 _) ?_
   refine XO.v (V.shl rfl rfl (by omega) _ (lR (by omega))) rfl (gO ?_)
   refine XO.v (V.bits rfl rfl rfl (by first | exact eR _ | exact eN (by omega) | (rw[IntKind.bits];omega)) (by first | exact eR _ | exact eN (by omega) | (rw[IntKind.bits];omega)) rfl) rfl (gO ?_)
   refine st .here (l9 _ (wy _ (by omega))) rfl ?_
   refine XE.aV rfl rfl (ab .h1 rfl ?_)
   try dsimp only[SW.den,SV.den,aj,aZ]
   first
   | (rw[BS.vy (by omega)];exact⟨rfl,rfl⟩)
   | (rw[BS.rn (by omega) (by omega)];exact⟨rfl,rfl⟩)
   | (rw[BS.uQ (by omega) (by omega)];exact⟨rfl,rfl⟩)
  ·
   refine XE.aV rfl rfl (ab .h1 rfl ?_)
   try dsimp only[SW.den,SV.den,aj,aZ]
   first
   | (rw[BS.vy (by omega)];exact⟨rfl,rfl⟩)
   | (rw[BS.rn (by omega) (by omega)];exact⟨rfl,rfl⟩)
   | (rw[BS.uQ (by omega) (by omega)];exact⟨rfl,rfl⟩)
 ·
  try dsimp only[aC,aS,aM,aR,aN,aP,aQ,aU,aO,aT,aG,aH,aB,aF]
  refine gO ?_
  refine XE.aV rfl rfl (ab .h1 rfl ?_)
  try dsimp only[SW.den,SV.den,aj,aZ]
  first
  | (rw[BS.vy (by omega)];exact⟨rfl,rfl⟩)
  | (rw[BS.rn (by omega) (by omega)];exact⟨rfl,rfl⟩)
  | (rw[BS.uQ (by omega) (by omega)];exact⟨rfl,rfl⟩)
theorem wm(b o:Nat)(s:BS)(n:Int):Spec Tryz.prog 75 [ptr b o 0,.int .i64 n,.bool true] [.cells b o 11 (b7 s)] (fun v H1=>v=bM 102 (s.hold n true).1∧H1=[.cells b o 11 (b7 (s.hold n true).2)]):=by
 refine Spec.go 35 [0,1,2,6,7,11,14,25] [] Tryz.func75 rfl rfl rfl ?_
 intro W
 refine ca (nK _) .nil ?_
 rintro _ _ (⟨h1,rfl,rfl⟩ | ⟨h1,rfl,rfl⟩)
 ·
  try dsimp only[aC,aS,aM,aR,aN,aP,aQ,aU,aO,aT,aG,aH,aB,aF]
  refine gO ?_
  refine cd rfl ?_ ?_<;>intro h2
  ·
   refine XE.aV rfl rfl (ab .h1 rfl ?_)
   try dsimp only[SW.den,SV.den,aj,aZ]
   first
   | (rw[BS.l7 (by omega)];exact⟨rfl,rfl⟩)
   | (rw[BS.jK (by omega)];exact⟨rfl,rfl⟩)
   | (rw[BS.l5 (by omega) (by omega)];refine⟨rfl,?_⟩;first | rfl | exact congrArg (fun f=>[ax.cells b o 11 (b7 {s with held:=f})]) (by funext j;simp only[aa];split<;>rfl))
  ·
   refine rq [0,1,2,3,4,5,6,7,8,9] mixed (by kernel_rfl) ?_
   refine ld .here (b7.pZ _) ?_
   refine XO.v (V.shl rfl rfl (by omega) _ (lR (by omega))) rfl (gO ?_)
   refine XO.v (V.bits rfl rfl rfl (by first | exact eR _ | exact eN (by omega) | (rw[IntKind.bits];omega)) (by first | exact eR _ | exact eN (by omega) | (rw[IntKind.bits];omega)) rfl) rfl (gO ?_)
   refine st .here (ov _ (km _ (by omega))) rfl ?_
   refine rq [0,1,2,3,4,5,6,7,8,9] mixed (by kernel_rfl) ?_
   refine ld .here (b7.pZ _) ?_
   refine XO.v (V.shl rfl rfl (by omega) _ (lR (by omega))) rfl (gO ?_)
   refine XO.v (V.bits rfl rfl rfl (by first | exact eR _ | exact eN (by omega) | (rw[IntKind.bits];omega)) (by first | exact eR _ | exact eN (by omega) | (rw[IntKind.bits];omega)) rfl) rfl (gO ?_)
   refine st .here (ov _ (wy _ (by omega))) rfl ?_
   refine XE.aV rfl rfl (ab .h1 rfl ?_)
   try dsimp only[SW.den,SV.den,aj,aZ]
   first
   | (rw[BS.l7 (by omega)];exact⟨rfl,rfl⟩)
   | (rw[BS.jK (by omega)];exact⟨rfl,rfl⟩)
   | (rw[BS.l5 (by omega) (by omega)];refine⟨rfl,?_⟩;first | rfl | exact congrArg (fun f=>[ax.cells b o 11 (b7 {s with held:=f})]) (by funext j;simp only[aa];split<;>rfl))
 ·
  try dsimp only[aC,aS,aM,aR,aN,aP,aQ,aU,aO,aT,aG,aH,aB,aF]
  refine gO ?_
  refine XE.aV rfl rfl (ab .h1 rfl ?_)
  try dsimp only[SW.den,SV.den,aj,aZ]
  first
  | (rw[BS.l7 (by omega)];exact⟨rfl,rfl⟩)
  | (rw[BS.jK (by omega)];exact⟨rfl,rfl⟩)
  | (rw[BS.l5 (by omega) (by omega)];refine⟨rfl,?_⟩;first | rfl | exact congrArg (fun f=>[ax.cells b o 11 (b7 {s with held:=f})]) (by funext j;simp only[aa];split<;>rfl))
theorem vK(b o:Nat)(s:BS)(n:Int):Spec Tryz.prog 75 [ptr b o 0,.int .i64 n,.bool false] [.cells b o 11 (b7 s)] (fun v H1=>v=bM 102 (s.hold n false).1∧H1=[.cells b o 11 (b7 (s.hold n false).2)]):=by
 refine Spec.go 35 [0,1,2,6,7,11,14,25] [] Tryz.func75 rfl rfl rfl ?_
 intro W
 refine ca (nK _) .nil ?_
 rintro _ _ (⟨h1,rfl,rfl⟩ | ⟨h1,rfl,rfl⟩)
 ·
  try dsimp only[aC,aS,aM,aR,aN,aP,aQ,aU,aO,aT,aG,aH,aB,aF]
  refine gO ?_
  refine cd rfl ?_ ?_<;>intro h2
  ·
   refine XE.aV rfl rfl (ab .h1 rfl ?_)
   try dsimp only[SW.den,SV.den,aj,aZ]
   first
   | (rw[BS.l7 (by omega)];exact⟨rfl,rfl⟩)
   | (rw[BS.jK (by omega)];exact⟨rfl,rfl⟩)
   | (rw[BS.l5 (by omega) (by omega)];refine⟨rfl,?_⟩;first | rfl | exact congrArg (fun f=>[ax.cells b o 11 (b7 {s with held:=f})]) (by funext j;simp only[aa];split<;>rfl))
  ·
   refine rq [0,1,2,3,4,5,6,7,8,9] mixed (by kernel_rfl) ?_
   refine ld .here (b7.pZ _) ?_
   refine XO.v (V.shl rfl rfl (by omega) _ (lR (by omega))) rfl (gO ?_)
   refine XO.v (V.bits rfl rfl rfl (by first | exact eR _ | exact eN (by omega) | (rw[IntKind.bits];omega)) (by first | exact eR _ | exact eN (by omega) | (rw[IntKind.bits];omega)) rfl) rfl (gO ?_)
   refine st .here (ov _ (km _ (by omega))) rfl ?_
   refine XE.aV rfl rfl (ab .h1 rfl ?_)
   try dsimp only[SW.den,SV.den,aj,aZ]
   first
   | (rw[BS.l7 (by omega)];exact⟨rfl,rfl⟩)
   | (rw[BS.jK (by omega)];exact⟨rfl,rfl⟩)
   | (rw[BS.l5 (by omega) (by omega)];refine⟨rfl,?_⟩;first | rfl | exact congrArg (fun f=>[ax.cells b o 11 (b7 {s with held:=f})]) (by funext j;simp only[aa];split<;>rfl))
 ·
  try dsimp only[aC,aS,aM,aR,aN,aP,aQ,aU,aO,aT,aG,aH,aB,aF]
  refine gO ?_
  refine XE.aV rfl rfl (ab .h1 rfl ?_)
  try dsimp only[SW.den,SV.den,aj,aZ]
  first
  | (rw[BS.l7 (by omega)];exact⟨rfl,rfl⟩)
  | (rw[BS.jK (by omega)];exact⟨rfl,rfl⟩)
  | (rw[BS.l5 (by omega) (by omega)];refine⟨rfl,?_⟩;first | rfl | exact congrArg (fun f=>[ax.cells b o 11 (b7 {s with held:=f})]) (by funext j;simp only[aa];split<;>rfl))
theorem M5(b o:Nat)(s:BS)(n h:Int):Spec Tryz.prog 73 [ptr b o 0,.int .i64 n,.int .i64 h] [.cells b o 11 (b7 s)] (fun v H1=>v=bM 102 (s.set n h).1∧H1=[.cells b o 11 (b7 (s.set n h).2)]):=by
 refine Spec.go 42 [0,1,2,6,7,11,18,21,32] [] Tryz.func73 rfl rfl rfl ?_
 intro W
 refine ca (nK _) .nil ?_
 rintro _ _ (⟨h1,rfl,rfl⟩ | ⟨h1,rfl,rfl⟩)
 ·
  try dsimp only[aC,aS,aM,aR,aN,aP,aQ,aU,aO,aT,aG,aH,aB,aF]
  refine gO ?_
  refine sp 15 rfl ?_ ?_<;>intro h2
  ·
   refine XE.aV rfl rfl (ab .h1 rfl ?_)
   try dsimp only[SW.den,SV.den,aj,aZ]
   first
   | (rw[BS.o3 (by omega)];exact⟨rfl,rfl⟩)
   | (rw[BS.lZ (by omega) (by omega)];exact⟨rfl,rfl⟩)
   | (rw[BS.lY (by omega) (by omega) (by omega) (by assumption)];exact⟨rfl,rfl⟩)
   | (rw[BS.ph (by omega) (by omega) (by omega) (by assumption)];exact⟨rfl,rfl⟩)
  ·
   refine cd rfl ?_ ?_<;>intro h3
   ·
    refine XE.aV rfl rfl (ab .h1 rfl ?_)
    try dsimp only[SW.den,SV.den,aj,aZ]
    first
    | (rw[BS.o3 (by omega)];exact⟨rfl,rfl⟩)
    | (rw[BS.lZ (by omega) (by omega)];exact⟨rfl,rfl⟩)
    | (rw[BS.lY (by omega) (by omega) (by omega) (by assumption)];exact⟨rfl,rfl⟩)
    | (rw[BS.ph (by omega) (by omega) (by omega) (by assumption)];exact⟨rfl,rfl⟩)
   ·
    refine cd rfl ?_ ?_<;>intro h4
    ·
     refine XE.aV rfl rfl (ab .h1 rfl ?_)
     try dsimp only[SW.den,SV.den,aj,aZ]
     first
     | (rw[BS.o3 (by omega)];exact⟨rfl,rfl⟩)
     | (rw[BS.lZ (by omega) (by omega)];exact⟨rfl,rfl⟩)
     | (rw[BS.lY (by omega) (by omega) (by omega) (by assumption)];exact⟨rfl,rfl⟩)
     | (rw[BS.ph (by omega) (by omega) (by omega) (by assumption)];exact⟨rfl,rfl⟩)
    ·
     refine sd (by omega) ?_
     refine st .here (b7.Fh _ _ (by omega) _) rfl ?_
     refine ca (Eo _ _ _ _ (by omega)) .h1 ?_
     rintro _ _ ⟨rfl,rfl⟩
     refine gO ?_
     refine cd rfl ?_ ?_<;>intro h5
     ·
      refine rq [0,1,2,3,4,5,6,7,8,9] mixed (by kernel_rfl) ?_
      refine ld .here (b7.p7 _) ?_
      refine XO.v (V.shl rfl rfl (by omega) _ (lR (by omega))) rfl (gO ?_)
      refine XO.v (V.bits rfl rfl rfl (by first | exact eR _ | exact eN (by omega) | (rw[IntKind.bits];omega)) (by first | exact eR _ | exact eN (by omega) | (rw[IntKind.bits];omega)) rfl) rfl (gO ?_)
      refine st .here (l9 _ (km _ (by omega))) rfl ?_
      refine XE.aV rfl rfl (ab .h1 rfl ?_)
      try dsimp only[SW.den,SV.den,aj,aZ]
      first
      | (rw[BS.o3 (by omega)];exact⟨rfl,rfl⟩)
      | (rw[BS.lZ (by omega) (by omega)];exact⟨rfl,rfl⟩)
      | (rw[BS.lY (by omega) (by omega) (by omega) (by assumption)];exact⟨rfl,rfl⟩)
      | (rw[BS.ph (by omega) (by omega) (by omega) (by assumption)];exact⟨rfl,rfl⟩)
     ·
      refine XE.aV rfl rfl (ab .h1 rfl ?_)
      try dsimp only[SW.den,SV.den,aj,aZ]
      first
      | (rw[BS.o3 (by omega)];exact⟨rfl,rfl⟩)
      | (rw[BS.lZ (by omega) (by omega)];exact⟨rfl,rfl⟩)
      | (rw[BS.lY (by omega) (by omega) (by omega) (by assumption)];exact⟨rfl,rfl⟩)
      | (rw[BS.ph (by omega) (by omega) (by omega) (by assumption)];exact⟨rfl,rfl⟩)
 ·
  try dsimp only[aC,aS,aM,aR,aN,aP,aQ,aU,aO,aT,aG,aH,aB,aF]
  refine gO ?_
  refine XE.aV rfl rfl (ab .h1 rfl ?_)
  try dsimp only[SW.den,SV.den,aj,aZ]
  first
  | (rw[BS.o3 (by omega)];exact⟨rfl,rfl⟩)
  | (rw[BS.lZ (by omega) (by omega)];exact⟨rfl,rfl⟩)
  | (rw[BS.lY (by omega) (by omega) (by omega) (by assumption)];exact⟨rfl,rfl⟩)
  | (rw[BS.ph (by omega) (by omega) (by omega) (by assumption)];exact⟨rfl,rfl⟩)
theorem N6(x t:Nat)(hx:x<65536)(ht:x.testBit t=true)(hl:∀ j,j<t→x.testBit j=false)(ht16:t<16):Spec Tryz.prog 197 [.int .u16 (x:Int)] [.ro 0 0 32 b6] (fun v H1=>v= .int .i64 (t:Int)∧H1=[]):=by
 have hx0:0<x:=by
  rcases Nat.eq_zero_or_pos x with q | q
  ·rw[q]at ht;simp at ht
  ·exact q
 obtain⟨z1,z2,z3,z4,z5⟩:=MQ ht16
 refine Spec.go 15 [0,2,4] [] Tryz.func197 rfl rfl rfl ?_
 intro W
 refine uu rfl (by simp;omega) ?_
 refine XO.v (V.neg rfl _ (Hv ⟨hx0,hx⟩)) rfl (gO ?_)
 refine XO.v (V.bits (r:=2^t) rfl rfl rfl hx (Nat.sub_lt (by decide) hx0) (congrArg some (H3 (w:=16) ht hl hx ht16))) rfl (gO ?_)
 refine XO.v (V.vx rfl Tryz.underlying84 Tryz.underlying257 _ z1) rfl (gO ?_)
 refine XO.v (V.mul rfl rfl _ z2) rfl (gO ?_)
 refine XO.v (V.shr rfl rfl (by omega) _ z3) rfl (gO ?_)
 refine XO.v (V.I0 rfl rfl Ln (by omega)) rfl (gO ?_)
 refine NJ .here (FI ht16) ?_
 refine XO.v (V.vx rfl Tryz.underlying5 Tryz.underlying3 _ z5) rfl (gO ?_)
 refine XE.aV rfl rfl (ab .nil rfl ?_)
 try dsimp only[SW.den,SV.den,aj,aZ]
 exact⟨rfl,rfl⟩
theorem AH(b o:Nat)(s:BS)(hz:s.wait 0=false)(h:Int):Spec Tryz.prog 146 [ptr b o 0,.int .i64 h] [.cells b o 11 (b7 s),.ro 0 0 32 b6] (fun v H1=>v= .tuple #[.int .i64 (s.first h),.bool (decide (s.first h≠0))]∧H1=[.cells b o 11 (b7 s)]):=by
 refine Spec.go 34 [0,1,4,5,6,7,18,32] [] Tryz.func146 rfl rfl rfl ?_
 intro W
 refine rq [0,1,2,3,4,5,6,7,8,9] mixed (by kernel_rfl) ?_
 refine ld .here (b7.p7 _) ?_
 refine ld .here (b7.pZ _) ?_
 refine XO.v (V.bits rfl rfl rfl (by first | exact eR _ | exact eN (by omega) | (rw[IntKind.bits];omega)) (by first | exact eR _ | exact eN (by omega) | (rw[IntKind.bits];omega)) rfl) rfl (gO ?_)
 refine lp (σ:=Nat×Nat) (fun x=>9-x.2) (fun x=>x.1<512∧x.2≤9∧(∀ j:Nat,x.1.testBit j=(decide (x.2≤j)&&(decide (j<9)&&s.wait j&& !s.held j)))∧∀ j:Int,0≤j→j<x.2→¬(s.wait j=true∧s.held j=false∧s.bd j=h)) (fun x=>[(6,.int .u16 (x.1:Int)),(0,ptr b o 0),(1,.int .i64 h)]) (fun x=>XM W (bS [.cells b o 11 (b7 s),.ro 0 0 32 b6]) [.cells b o 11 (b7 s),.ro 0 0 32 b6]) ((iq (pack s.wait) (pack s.held),0)) ?_ (S3 rfl rfl rfl) (fun _ hw=>XM.pick .h2 hw) ?_
 ·
  refine⟨Nat.lt_of_le_of_lt (EW _ _) (FP _),by omega,fun j=> ?_,fun j h1 h2=>by simp at h2;omega⟩
  rw[fH,dS,dS]
  by_cases q:j<9<;>simp[q]
 intro x hx
 obtain⟨hx1,hx2,hx3,hx4⟩:=hx
 refine gC ?_
 refine cd rfl ?_ ?_<;>intro h1
 ·
  have hne:x.1≠0:=by omega
  obtain⟨t,ht,hl⟩:=yK hne
  have hb:=ht
  rw[hx3]at hb
  simp only[Bool.and_eq_true,decide_eq_true_eq,Bool.not_eq_true']at hb
  obtain⟨hb1,⟨hb2,hb3⟩,hb4⟩:=hb
  refine kW 0 (N6 x.1 t (by omega) ht hl (by omega)) (.cons (.there .here) .nil) rfl ?_
  rintro _ _ ⟨rfl,rfl⟩
  refine gO ?_
  refine sd (by omega) ?_
  refine ld (.there .here) (b7.la _ _ (by omega)) ?_
  refine cd rfl ?_ ?_<;>intro h2
  ·
   refine XE.bC rfl rfl rfl (ab (.cons (.there .here) .nil) rfl ?_)
   try dsimp only[SW.den,SV.den,aj,aZ]
   rw[BS.yX (k:=(t:Int)) (by omega) hb3 hb4 (by assumption) (fun j h1 h2=> ?_)]
   ·have ht0:(t:Int)≠0:=by
     rintro q
     rw[q,hz]at hb3;cases hb3
    exact⟨by simp[show t≠0 from by omega],rfl⟩
   ·by_cases q2:j<x.2
    ·exact hx4 j h1 q2
    ·have q4:=hl j.toNat (by omega)
     rw[hx3,show((j.toNat:Nat):Int)=j from by omega]at q4
     have q5:x.2≤j.toNat:=by omega
     have q6:j.toNat<9:=by omega
     simp[q5,q6]at q4
     rintro⟨e1,e2,_⟩
     rw[q4 e1]at e2;cases e2
  ·
   refine XO.v (V.sub rfl rfl _ (Hw ⟨by omega,by omega⟩)) rfl (gO ?_)
   refine XO.v (V.bits rfl rfl rfl (show x.1<65536 by omega) (show x.1-1<65536 by omega) rfl) rfl (gO ?_)
   refine ag ((x.1&&&(x.1-1),t+1)) ?_ ?_ (S3 rfl rfl rfl) (fun _ hw=>XM.pick (.cons (.there .here) .h1) hw)
   ·
    (simp;omega)
   ·
    refine⟨Nat.lt_of_le_of_lt Nat.and_le_left hx1,by simp;omega,fun j=> ?_,fun j h1 h2=> ?_⟩
    ·show(x.1&&&(x.1-1)).testBit j=_
     rw[BY ht hl,hx3]
     by_cases q1:j<t
     ·have q2:=hl j q1
      rw[hx3]at q2
      have q3:¬t+1≤j:=by omega
      simp only[q2,q3];rfl
     ·by_cases q2:j=t
      ·subst q2;simp;intro q;omega
      ·have q3:t+1≤j:=by omega
       have q4:x.2≤j:=by omega
       simp[q2,q3,q4]
    ·by_cases q1:j=t
     ·subst q1;rintro⟨_,_,q⟩;contradiction
     ·by_cases q2:j<x.2
      ·exact hx4 j h1 q2
      ·have q3:j<t:=by simp at h2;omega
       have q4:=hl j.toNat (by omega)
       rw[hx3,show((j.toNat:Nat):Int)=j from by omega]at q4
       have q5:x.2≤j.toNat:=by omega
       have q6:j.toNat<9:=by omega
       simp[q5,q6]at q4
       rintro⟨e1,e2,_⟩
       rw[q4 e1]at e2;cases e2
 ·
  refine XE.bC rfl rfl rfl (ab .h1 rfl ?_)
  try dsimp only[SW.den,SV.den,aj,aZ]
  have hx0:x.1=0:=by omega
  rw[BS.zI (fun j h1 h2=> ?_)]
  ·exact⟨rfl,rfl⟩
  ·by_cases q2:j<x.2
   ·exact hx4 j h1 q2
   ·have q4:=hx3 j.toNat
    rw[hx0,show((j.toNat:Nat):Int)=j from by omega]at q4
    have q5:x.2≤j.toNat:=by omega
    have q6:j.toNat<9:=by omega
    simp[q5,q6]at q4
    rintro⟨e1,e2,_⟩
    rw[q4 e1]at e2;cases e2
theorem sJ(b o:Nat)(s:BS)(hz:s.wait 0=false):Spec Tryz.prog 143 [ptr b o 0] [.cells b o 11 (b7 s),.ro 0 0 32 b6] (fun v H1=>v= .tuple #[.int .i64 (s.first 0),.bool (decide (s.first 0≠0))]∧H1=[.cells b o 11 (b7 s)]):=by
 refine Spec.go 8 [0,2,3] [] Tryz.func143 rfl rfl rfl ?_
 intro W
 refine kW 1 (AH _ _ _ hz _) .h2 rfl ?_
 rintro _ _ ⟨rfl,rfl⟩
 refine gO ?_
 refine XE.bC rfl rfl rfl (ab .h1 rfl ?_)
 try dsimp only[SW.den,SV.den,aj,aZ]
 exact⟨rfl,rfl⟩
theorem KL(b o:Nat)(s:BS)(hz:s.wait 0=false):Spec Tryz.prog 77 [ptr b o 0] [.cells b o 11 (b7 s),.ro 0 0 32 b6] (fun v H1=>v= .tuple #[.int .i64 s.take.1,.bool (decide (s.take.1≠0))]∧H1=[.cells b o 11 (b7 s.take.2)]):=by
 have hc:=s.lu 2 hz
 refine Spec.go 23 [0,2,3,4,5,11] [] Tryz.func77 rfl rfl rfl ?_
 intro W
 refine kW 1 (AH _ _ _ hz _) .h2 rfl ?_
 rintro _ _ ⟨rfl,rfl⟩
 refine gO ?_
 refine cd rfl ?_ ?_<;>intro h1
 ·
  refine rq [0,1,2,3,4,5,6,7,8,9] mixed (by kernel_rfl) ?_
  refine ld .here (b7.p7 _) ?_
  refine XO.v (V.shl rfl rfl (by omega) _ (lR (by omega))) rfl (gO ?_)
  refine XO.v (V.bits rfl rfl rfl (by first | exact eR _ | exact eN (by omega) | (rw[IntKind.bits];omega)) (by first | exact eR _ | exact eN (by omega) | (rw[IntKind.bits];omega)) rfl) rfl (gO ?_)
  refine st .here (l9 _ (km _ (by omega))) rfl ?_
  refine XE.bC rfl rfl rfl (ab .h1 rfl ?_)
  try dsimp only[SW.den,SV.den,aj,aZ]
  exact⟨by simp only[BS.take, *];rfl,rfl⟩
 ·
  refine XE.bC rfl rfl rfl (ab .h1 rfl ?_)
  try dsimp only[SW.den,SV.den,aj,aZ]
  have hq:s.first 2=0:=by omega
  rw[BS.Co hq hz];exact⟨by simp[hq],rfl⟩
end Go.X.Sg

namespace Go.X.Gr
open Go Go.RowKit Go.Proofs Go.X
theorem tC:n5 Tryz.prog 67=some (10,5):=by kernel_rfl
theorem jH:cR Tryz.prog 151 0=some 0:=by kernel_rfl
theorem HD:cR Tryz.prog 66 0=some 0:=by kernel_rfl
theorem iX:fT Tryz.prog 3=true:=by kernel_rfl
theorem Ar:fT Tryz.prog 91=true:=by kernel_rfl
def jJ(p o b1 b2:Nat)(n:Int)(par:Int→Int):List (Addr×Value):=
 (⟨b1,0,none⟩,.int .i64 n)::(⟨b2,0,none⟩,ptr p o 0)::(List.range 10).map (fun k=>(⟨p,o+(0+0+k*5+0),none⟩,.int .i64 (par (k:Int))))
theorem nM{p o b1 b2:Nat}{n:Int}{par:Int→Int}{s':TG}(hp:s'.par=par){H:List ax}{w:World}(hg:Go.X.Good H w)(h1:Has H (.cells b1 0 1 (bN (.int .i64 n))))(h2:Has H (.cells b2 0 1 (bN (ptr p o 0))))(h3:Has H (.cells p o 60 (ay s'))):∀ y∈jJ p o b1 b2 n par,w.cell? y.1=some y.2:=fun y hy=>by
 simp only[jJ,List.mem_cons,List.mem_map,List.mem_range]at hy
 rcases hy with rfl | rfl | ⟨k,hk,rfl⟩
 ·exact cB (i:=0) (hg.1 _ h1.mem) (by omega)
 ·exact cB (i:=0) (hg.1 _ h2.mem) (by omega)
 ·have h4:=cB (hg.1 _ h3.mem) (ay.fF s' (k:Int) (by omega)).1
  rw[(ay.fF s' (k:Int) (by omega)).2,hp]at h4
  exact h4
theorem CF{p o b1 b2:Nat}{n:Int}{par:Int→Int}{w:World}(h:∀ y∈jJ p o b1 b2 n par,w.cell? y.1=some y.2){z:Int}(h0:0≤z∧z<10):w.cell? ⟨p,o+(0+0+z.toNat*5+0),none⟩=some (.int .i64 (par z)):=by
 have:=h (⟨p,o+(0+0+z.toNat*5+0),none⟩,.int .i64 (par (z.toNat:Int))) (by
  simp only[jJ,List.mem_cons,List.mem_map,List.mem_range]
  exact .inr (.inr ⟨z.toNat,by omega,rfl⟩))
 rw[show((z.toNat:Nat):Int)=z from by omega]at this
 exact this
set_option maxHeartbeats 1000000 in theorem xZ(p o b1 b2:Nat)(n:Int)(par:Int→Int)(xs:List Hb)(hway:fP par n (jU xs))(w:World)(hR:∀ y∈jJ p o b1 b2 n par,w.cell? y.1=some y.2):SeqStopsK Fence.wide 2 Tryz.prog 184 #[ptr b1 0 0,ptr b2 0 0] (fun x:Hb=> #[.int .i64 x.1]) (GR (jJ p o b1 b2 n par)) (· =xs) (· <+:xs) xs.length w:=by
 intro l J Jx W hW hJ hJx hY h0
 have hR0:∀ y∈jJ p o b1 b2 n par,W.cell? y.1=some y.2:=fun y hy=>by
  rw[hW.cell (IY (hR y hy))];exact hR y hy
 have e:(#[.func (.yield l) #[] #[]]++ #[ptr b1 0 0,ptr b2 0 0]:Array Value)=[.func (.yield l) #[] #[],ptr b1 0 0,ptr b2 0 0].toArray:=rfl
 rw[e]
 refine callsIn_wide.2 (enter (ps:=[]) (cs:=[]) (M:=fun w=>J [] w∧∀ y∈jJ p o b1 b2 n par,w.cell? y.1=some y.2) Tryz.func184 rfl rfl ?_ ⟨h0,hR0⟩)
 refine XC.seq ?_
 refine XC.region ?_
 refine XO.l (V.sa (b:=b1) (o:=0) (v:=.int .i64 n) rfl (fun w hw=>hw.2 (⟨b1,0,none⟩,.int .i64 n) (by simp[jJ])) iX) rfl ?_
 refine XO.v (V.assign rfl) rfl ?_
 refine XO.nil ?_
 refine XE.next ?_
 refine XC.keep [(0,_),(2,_),(4,_)] (Sub.cons rfl (Sub.cons rfl (Sub.cons rfl (Sub.nil _)))) ?_
 refine XC.block ?_
 refine XC.loop (σ:=List Hb×List Hb×Int) (fun x=>x.2.1.length) (fun x=>x.1++x.2.1=xs∧fP par x.2.2 (jU x.2.1)) (fun x=>[(0,.func (.yield l) #[] #[]),(2,ptr b2 0 0),(4,.int .i64 x.2.2)]) (fun x w=>J x.1 w∧∀ y∈jJ p o b1 b2 n par,w.cell? y.1=some y.2) ([],xs,n) ⟨rfl,hway⟩ (Sub.cons rfl (Sub.cons rfl (Sub.cons rfl (Sub.nil _)))) (fun _ hw=>hw) ?_
 rintro⟨pre,rest,q⟩ ⟨hx,hq⟩
 refine XC.seq ?_
 refine XC.seq ?_
 refine XC.region ?_
 refine XO.v (V.move rfl) rfl ?_
 refine XO.v (V.cmp rfl rfl rfl) rfl ?_
 refine XO.nil ?_
 refine XE.next ?_
 refine XC.JY rfl (fun hq0=> ?_) (fun hq0=> ?_)
 ·have hq1:q≥0:=hq0
  match rest,hq with
  | [],hq=>exact absurd hq (by show ¬q<0;omega)
  | x::rest,hq=>
   obtain⟨e1,e2,e3,e4⟩:=hq
   have e1':x.1=q:=e1
   subst e1'
   refine XC.skip ?_
   refine XE.next ?_
   refine XC.keep [(0,_),(2,_),(4,_)] (Sub.cons rfl (Sub.cons rfl (Sub.cons rfl (Sub.nil _)))) ?_
   refine XC.seq ?_
   refine XC.block ?_
   refine XC.seq ?_
   refine XC.Hn ?_
   refine XI.v (V.move rfl) rfl ?_
   refine XI.v (V.move rfl) rfl ?_
   refine XI.yield (R:=fun e w'=>(e= .returned (.bool true)∧J (pre++[x]) w'∧∀ y∈jJ p o b1 b2 n par,w'.cell? y.1=some y.2)∨(e= .returned (.bool false)∧Jx (pre++[x]) w')) rfl rfl (fun w hw=>YieldAt.LW (hY pre x w hw.1 (by rw[←hx];simp)) (fun e w' h=> ?_)) rfl (fun e w' h=> ?_)
   ·rcases h with⟨h1,h2,h3⟩ | h
    ·exact .inl ⟨h1,h2,fun y hy=>h3 y hy (hw.2 y hy)⟩
    ·exact .inr h
   ·rcases h with⟨rfl,h2⟩ | ⟨rfl,h2⟩
    ·refine⟨true,rfl,?_⟩
     refine XI.v (V.not rfl) rfl ?_
     refine XI.nil ?_
     refine XE.next ?_
     refine XC.JJ rfl rfl ?_
     refine XC.skip ?_
     refine XE.jc ?_
     refine XE.next ?_
     refine XC.keep [(0,_),(2,_),(4,_)] (Sub.cons rfl (Sub.cons rfl (Sub.cons rfl (Sub.nil _)))) ?_
     refine XC.mono (M':=fun w'=>J (pre++[x]) w'∧∀ y∈jJ p o b1 b2 n par,w'.cell? y.1=some y.2) (fun w' hw'=>by
      rcases hw' with⟨_,h⟩ | ⟨h,_⟩
      ·exact h
      ·simp at h) ?_
     refine XC.region ?_
     refine XO.l (V.sa (b:=b2) (o:=0) (v:=ptr p o 0) rfl (fun w hw=>hw.2 (⟨b2,0,none⟩,ptr p o 0) (by simp[jJ])) Ar) rfl ?_
     refine XO.v (V.move rfl) rfl ?_
     refine XO.v (V.bL rfl) rfl ?_
     refine XO.v (V.fieldAddr rfl jH) rfl ?_
     refine XO.v (V.gT rfl rfl tC ⟨e2,e3⟩) rfl ?_
     refine XO.v (V.fieldAddr rfl HD) rfl ?_
     refine XO.l (V.sa rfl (fun w hw=>CF hw.2 ⟨e2,e3⟩) iX) rfl ?_
     refine XO.v (V.assign rfl) rfl ?_
     refine XO.nil ?_
     refine XE.again (pre++[x],rest,par x.1) (by simp) ⟨by rw[←hx];simp,e4⟩ (Sub.cons rfl (Sub.cons rfl (Sub.cons rfl (Sub.nil _)))) (fun _ hw=>hw)
    ·refine⟨false,rfl,?_⟩
     refine XI.v (V.not rfl) rfl ?_
     refine XI.nil ?_
     refine XE.next ?_
     refine XC.JS rfl rfl ?_
     refine XC.ret ?_
     refine XE.nZ ?_
     refine XE.qe ?_
     refine XE.qe ?_
     refine XE.nZ ?_
     refine XE.K8 rfl (fun w' hw'=>⟨⟨_,rfl⟩,.inr ⟨pre++[x],?_,?_⟩⟩)
     ·exact⟨rest,by rw[←hx];simp⟩
     ·rcases hw' with⟨h,_⟩ | ⟨_,h⟩
      ·simp at h
      ·exact h
 ·refine XC.exit ?_
  refine XE.nW ?_
  refine XE.nW ?_
  refine XE.uk ?_
  refine XE.fD rfl (fun w' hw'=>⟨⟨_,rfl⟩,.inl ⟨pre,?_,hw'.1⟩⟩)
  match rest,hq with
  | [],_=>rw[←hx];simp
  | x::rest,hq=>
   have hq1:¬q≥0:=hq0
   exact absurd hq.2.1 hq1
end Go.X.Gr

namespace Go.X.Gr
open Go Go.Proofs Go.X
set_option maxRecDepth 20000
set_option maxHeartbeats 4000000
theorem Gt:cX Tryz.prog 184=true:=by kernel_rfl
theorem js:dx Tryz.prog 3=some 1:=by kernel_rfl
theorem No(p o:Nat)(s:TG)(n:Int):Spec Tryz.prog 113 [ptr p o 0,.int .i64 n] [.cells p o 60 (ay s)] (fun v H1=>((s.cI n=0∧0≤n∧n<10∧s.here n=true)∧v= .nilIface∧H1=[.cells p o 60 (ay s)])∨(s.cI n≠0∧v= .iface 102 (.int .i64 (s.cI n))∧H1=[.cells p o 60 (ay s)])):=by
 refine Spec.go 20 [0,1,4,10,18] [] Tryz.func113 rfl rfl rfl ?_
 intro W
 refine sp 7 rfl ?_ ?_<;>intro h1
 ·
  refine XE.aV rfl rfl (ab .h1 rfl ?_)
  try dsimp only[SW.den,SV.den,aj,aZ]
  have e:s.cI n=1:=by unfold TG.cI;rw[if_pos (by omega)]
  exact .inr ⟨by omega,by rw[e],rfl⟩
 ·
  refine cd rfl ?_ ?_<;>intro h2
  ·
   refine XE.aV rfl rfl (ab .h1 rfl ?_)
   try dsimp only[SW.den,SV.den,aj,aZ]
   have e:s.cI n=1:=by unfold TG.cI;rw[if_pos (by omega)]
   exact .inr ⟨by omega,by rw[e],rfl⟩
  ·
   refine sd (by omega) ?_
   refine ld .here (ay.tG _ _ (by omega)) ?_
   refine Dy rfl ?_ ?_<;>intro h3
   ·try simp only[sb]at h3
    refine XE.aV rfl rfl (ab .h1 rfl ?_)
    try dsimp only[SW.den,SV.den,aj,aZ]
    have e:s.cI n=2:=by unfold TG.cI;rw[if_neg (by omega),if_neg (by simp_all)]
    exact .inr ⟨by omega,by rw[e],rfl⟩
   ·try simp only[sb]at h3
    refine XE.aV rfl rfl (ab .h1 rfl ?_)
    try dsimp only[SW.den,SV.den,aj,aZ]
    have e:s.cI n=0:=by unfold TG.cI;rw[if_neg (by omega),if_pos (by simp_all)]
    exact .inl ⟨⟨e,by omega,by omega,by simp_all⟩,rfl,rfl⟩
theorem xE(q m:Int):Spec Tryz.prog 114 [.int .i64 q,.int .i64 m] [] (fun v H1=>((0≤q∧q≤20∧0≤m∧m≤64)∧v= .nilIface∧H1=[])∨(TG.Hr q m=1∧v= .iface 102 (.int .i64 1)∧H1=[])):=by
 refine Spec.go 20 [0,1,4,18] [] Tryz.func114 rfl rfl rfl ?_
 intro W
 refine sp 7 rfl ?_ ?_<;>intro h1
 ·
  refine XE.aV rfl rfl (ab .nil rfl ?_)
  try dsimp only[SW.den,SV.den,aj,aZ]
  first
  | exact .inr ⟨by unfold TG.Hr;rw[if_pos (by omega)],rfl,rfl⟩
  | exact .inl ⟨by omega,rfl,rfl⟩
 ·
  refine sp 11 rfl ?_ ?_<;>intro h2
  ·
   refine XE.aV rfl rfl (ab .nil rfl ?_)
   try dsimp only[SW.den,SV.den,aj,aZ]
   first
   | exact .inr ⟨by unfold TG.Hr;rw[if_pos (by omega)],rfl,rfl⟩
   | exact .inl ⟨by omega,rfl,rfl⟩
  ·
   refine sp 15 rfl ?_ ?_<;>intro h3
   ·
    refine XE.aV rfl rfl (ab .nil rfl ?_)
    try dsimp only[SW.den,SV.den,aj,aZ]
    first
    | exact .inr ⟨by unfold TG.Hr;rw[if_pos (by omega)],rfl,rfl⟩
    | exact .inl ⟨by omega,rfl,rfl⟩
   ·
    refine cd rfl ?_ ?_<;>intro h4
    ·
     refine XE.aV rfl rfl (ab .nil rfl ?_)
     try dsimp only[SW.den,SV.den,aj,aZ]
     first
     | exact .inr ⟨by unfold TG.Hr;rw[if_pos (by omega)],rfl,rfl⟩
     | exact .inl ⟨by omega,rfl,rfl⟩
    ·
     refine XE.aV rfl rfl (ab .nil rfl ?_)
     try dsimp only[SW.den,SV.den,aj,aZ]
     first
     | exact .inr ⟨by unfold TG.Hr;rw[if_pos (by omega)],rfl,rfl⟩
     | exact .inl ⟨by omega,rfl,rfl⟩
theorem LS(g:GV)(q m:Int)(h0: -9223372036854775808≤g.pr+q∧g.pr+q≤9223372036854775807)(h1: -9223372036854775808≤g.pg+m∧g.pg+m≤9223372036854775807):Spec Tryz.prog 116 [.agg g.arr,.int .i64 q,.int .i64 m] [] (fun v H1=>v= .bool (g.room q m)∧H1=[]):=by
 refine Spec.go 41 [1,2,3,6] [] Tryz.func116 rfl rfl rfl ?_
 intro W
 refine XO.box (m:=5) (C:=ia g) rfl rfl (DW g) rfl ?_
 intro bg
 refine gO ?_
 refine sp 9 rfl ?_ ?_<;>intro h1
 ·
  refine sp 26 rfl ?_ ?_<;>intro h2
  ·
   refine XE.aV rfl rfl (ab .nil rfl ?_)
   try dsimp only[SW.den,SV.den,aj,aZ]
   refine⟨?_,rfl⟩
   unfold GV.room
   first | (simp_all;done) | (simp_all;omega)
  ·
   refine ld .here (ia.fR _) ?_
   refine sp 31 rfl ?_ ?_<;>intro h3
   ·
    refine XE.aV rfl rfl (ab .nil rfl ?_)
    try dsimp only[SW.den,SV.den,aj,aZ]
    refine⟨?_,rfl⟩
    unfold GV.room
    first | (simp_all;done) | (simp_all;omega)
   ·
    refine ld .here (ia.qC _) ?_
    refine sd (by omega) ?_
    refine ld .here (ia.fR _) ?_
    refine XE.aV rfl rfl (ab .nil rfl ?_)
    try dsimp only[SW.den,SV.den,aj,aZ]
    refine⟨?_,rfl⟩
    unfold GV.room
    first | (simp_all;done) | (simp_all;omega)
 ·
  refine ld .here (ia.pK _) ?_
  refine sp 14 rfl ?_ ?_<;>intro h4
  ·
   refine sp 26 rfl ?_ ?_<;>intro h5
   ·
    refine XE.aV rfl rfl (ab .nil rfl ?_)
    try dsimp only[SW.den,SV.den,aj,aZ]
    refine⟨?_,rfl⟩
    unfold GV.room
    first | (simp_all;done) | (simp_all;omega)
   ·
    refine ld .here (ia.fR _) ?_
    refine sp 31 rfl ?_ ?_<;>intro h6
    ·
     refine XE.aV rfl rfl (ab .nil rfl ?_)
     try dsimp only[SW.den,SV.den,aj,aZ]
     refine⟨?_,rfl⟩
     unfold GV.room
     first | (simp_all;done) | (simp_all;omega)
    ·
     refine ld .here (ia.qC _) ?_
     refine sd (by omega) ?_
     refine ld .here (ia.fR _) ?_
     refine XE.aV rfl rfl (ab .nil rfl ?_)
     try dsimp only[SW.den,SV.den,aj,aZ]
     refine⟨?_,rfl⟩
     unfold GV.room
     first | (simp_all;done) | (simp_all;omega)
  ·
   refine ld .here (ia.Gd _) ?_
   refine sd (by omega) ?_
   refine ld .here (ia.pK _) ?_
   refine sp 23 rfl ?_ ?_<;>intro h7
   ·
    refine sp 26 rfl ?_ ?_<;>intro h8
    ·
     refine XE.aV rfl rfl (ab .nil rfl ?_)
     try dsimp only[SW.den,SV.den,aj,aZ]
     refine⟨?_,rfl⟩
     unfold GV.room
     first | (simp_all;done) | (simp_all;omega)
    ·
     refine ld .here (ia.fR _) ?_
     refine sp 31 rfl ?_ ?_<;>intro h9
     ·
      refine XE.aV rfl rfl (ab .nil rfl ?_)
      try dsimp only[SW.den,SV.den,aj,aZ]
      refine⟨?_,rfl⟩
      unfold GV.room
      first | (simp_all;done) | (simp_all;omega)
     ·
      refine ld .here (ia.qC _) ?_
      refine sd (by omega) ?_
      refine ld .here (ia.fR _) ?_
      refine XE.aV rfl rfl (ab .nil rfl ?_)
      try dsimp only[SW.den,SV.den,aj,aZ]
      refine⟨?_,rfl⟩
      unfold GV.room
      first | (simp_all;done) | (simp_all;omega)
   ·
    refine XE.aV rfl rfl (ab .nil rfl ?_)
    try dsimp only[SW.den,SV.den,aj,aZ]
    refine⟨?_,rfl⟩
    unfold GV.room
    first | (simp_all;done) | (simp_all;omega)
theorem GS(p o:Nat)(n:Int):Spec Tryz.prog 115 [ptr p o 0,.int .i64 n] [] (fun v H1=>∃ b1 b2,v= .func (.func 184) #[] #[ptr b1 0 0,ptr b2 0 0]∧H1=[.cells b1 0 1 (bN (.int .i64 n)),.cells b2 0 1 (bN (ptr p o 0))]):=by
 refine Spec.go 6 [2,3,4] [] Tryz.func115 rfl rfl rfl ?_
 intro W
 refine XO.box (m:=1) (C:=bN (ptr p o 0)) rfl rfl (fun _ _=>rfl) rfl ?_
 intro b2
 refine gO ?_
 refine XO.box (m:=1) (C:=bN (.int .i64 n)) rfl rfl (fun _ _=>rfl) rfl ?_
 intro b1
 refine gO ?_
 refine XO.v (V.Ct rfl rfl) rfl ?_
 refine gO ?_
 refine XE.aV rfl rfl (ab .h2 rfl ?_)
 try dsimp only[SW.den,SV.den,aj,aZ]
 exact⟨_,_,rfl,rfl⟩
end Go.X.Gr
