import Derived.Test.YthdinakloheinaaGreatDoorkGM
import Derived.Test.YthdinakloheinaaGreatDoorKB
import Derived.Test.YthdinakloheinaaGreatDoorkNOP
import Derived.Test.YthdinakloheinaaGreatDoorXBytes
import Derived.Test.YthdinakloheinaaGreatDoorXClose
namespace Go.X.Sp
open Go Go.Proofs Go.X
set_option maxRecDepth 20000
set_option maxHeartbeats 4000000
theorem Lw:jW Tryz.prog 155=true:=by kernel_rfl
theorem lq(z:Int):∀ w,(Instr.buildSlice 55 1 #[(0,.int .i64 z)]).run Tryz.prog w= .ok (.slice (some ⟨w.heap.size,0,none⟩) 1 1) (w.alloc (.cells #[.int .i64 z] 3)):=fun w=>by kernel_rfl
theorem jl:kV Tryz.prog 3 1=true:=by kernel_rfl
theorem iX:fT Tryz.prog 3=true:=by kernel_rfl
theorem BW:dx Tryz.prog 155=some 23:=by kernel_rfl
theorem js:dx Tryz.prog 3=some 1:=by kernel_rfl
theorem p8(p:Int):Spec Tryz.prog 121 [.int .i64 p] [] (fun v H1=>v= .agg (Df p)∧H1=[]):=by
 refine Spec.go 15 [0,2,3,4,7,8] [] Tryz.func121 rfl rfl rfl ?_
 intro W
 refine XO.cY (z:=.agg jj) (m:=23) (C:=cellsOf jj) (by kernel_rfl) rfl (fun _ _=>rfl) rfl ?_
 intro br
 refine gO ?_
 refine XO.v (V.build (vs:= #[(0,.bool true),(1,.int .i64 p)]) rfl (v:=.agg #[.bool true,.int .i64 p,.int .i64 0,.int .i64 0,.int .i64 0,.int .i64 0,.int .i64 0,.int .i64 0,.int .i64 0,.int .i64 0,.int .i64 0,.int .i64 0,.int .i64 0,.int .i64 0,.int .i64 0,.int .i64 0,.int .i64 0,.int .i64 0,.int .i64 0,.int .i64 0,.int .i64 0,.int .i64 0,.int .i64 0]) (fun _=>by kernel_rfl)) rfl (gO ?_)
 refine XO.cY (z:=.agg jj) (m:=23) (C:=cellsOf jj) (by kernel_rfl) rfl (fun _ _=>rfl) rfl ?_
 intro bx
 refine gO ?_
 refine jA .here (D9 p _ vX) rfl ⟨rfl,rfl⟩ ?_
 refine lp (σ:=Int) (fun k=>(21-k).toNat) (fun k=>0≤k∧k≤21) (fun k=>[(7,.int .i64 k),(2,ptr br 0 0),(3,ptr bx 0 0)]) (fun k=>XM W (bS []) [.cells br 0 23 (cellsOf jj),.cells bx 0 23 (im ⟨p,sW k⟩)]) (0) ?_ (S3 rfl rfl rfl) (fun _ hw=>XM.pick (.cons (.there .here) .h1) hw) ?_
 ·
  omega
 intro k hk
 refine gC ?_
 refine cd rfl ?_ ?_<;>intro h1
 ·
  refine sd (by omega) ?_
  refine st (.there .here) (im.GM _ _ (by omega) _) rfl ?_
  refine sd (by omega) ?_
  refine ag (k+1) ?_ ?_ (S3 rfl rfl rfl) (fun _ hw=>by rw[←ye k (by omega)];exact XM.pick (.cons .here (.cons .here .nil)) hw)
  ·
   (first | omega | (simp;done) | (simp;omega))
  ·
   (first | omega | (simp;done) | (simp;omega))
 ·
  obtain rfl:k=21:=by omega
  refine nc (.there .here) (D7 p) ?_
  refine jA .here (Lm _ vX p) rfl ⟨rfl,rfl⟩ ?_
  refine XE.NG rfl rfl .here (D7 p) Lw BW (ab .nil rfl ?_)
  try dsimp only[SW.den,SV.den,aj,aZ]
  exact⟨rfl,rfl⟩
theorem pX(b o:Nat)(s:SS)(n:Int):Spec Tryz.prog 119 [ptr b o 0,.int .i64 n] [.cells b o 158 (aA s)] (fun v H1=>((s.is n=0∧0≤n∧n<6∧s.here n=true)∧v= .nilIface∧H1=[.cells b o 158 (aA s)])∨(s.is n≠0∧v= .iface 102 (.int .i64 (s.is n))∧H1=[.cells b o 158 (aA s)])):=by
 refine Spec.go 21 [0,1,4,10,19] [] Tryz.func119 rfl rfl rfl ?_
 intro W
 refine sp 7 rfl ?_ ?_<;>intro h1
 ·
  refine XE.aV rfl rfl (ab .h1 rfl ?_)
  try dsimp only[SW.den,SV.den,aj,aZ]
  rcases s.dh n with⟨q,q1,q2,q3⟩ | ⟨q,q1⟩ | ⟨q,q1,q2,q3⟩<;>first | (exfalso;omega) | (exfalso;simp_all;done) | exact .inl ⟨⟨q,q1,q2,q3⟩,rfl,rfl⟩ | exact .inr ⟨by omega,by rw[q],rfl⟩
 ·
  refine cd rfl ?_ ?_<;>intro h2
  ·
   refine XE.aV rfl rfl (ab .h1 rfl ?_)
   try dsimp only[SW.den,SV.den,aj,aZ]
   rcases s.dh n with⟨q,q1,q2,q3⟩ | ⟨q,q1⟩ | ⟨q,q1,q2,q3⟩<;>first | (exfalso;omega) | (exfalso;simp_all;done) | exact .inl ⟨⟨q,q1,q2,q3⟩,rfl,rfl⟩ | exact .inr ⟨by omega,by rw[q],rfl⟩
  ·
   refine sd (by omega) ?_
   refine ld .here (aA.gR _ _ (by omega)) ?_
   refine Dy rfl ?_ ?_<;>intro h3
   ·try simp only[sb]at h3
    refine XE.aV rfl rfl (ab .h1 rfl ?_)
    try dsimp only[SW.den,SV.den,aj,aZ]
    rcases s.dh n with⟨q,q1,q2,q3⟩ | ⟨q,q1⟩ | ⟨q,q1,q2,q3⟩<;>first | (exfalso;omega) | (exfalso;simp_all;done) | exact .inl ⟨⟨q,q1,q2,q3⟩,rfl,rfl⟩ | exact .inr ⟨by omega,by rw[q],rfl⟩
   ·try simp only[sb]at h3
    refine XE.aV rfl rfl (ab .h1 rfl ?_)
    try dsimp only[SW.den,SV.den,aj,aZ]
    rcases s.dh n with⟨q,q1,q2,q3⟩ | ⟨q,q1⟩ | ⟨q,q1,q2,q3⟩<;>first | (exfalso;omega) | (exfalso;simp_all;done) | exact .inl ⟨⟨q,q1,q2,q3⟩,rfl,rfl⟩ | exact .inr ⟨by omega,by rw[q],rfl⟩
theorem Lv(b o:Nat)(s:SS)(dep:Int→Nat)(hD:s.Deep dep)(n:Int)(hn:0≤n∧n<6∧s.here n=true):Spec Tryz.prog 120 [ptr b o 0,.int .i64 n] [.cells b o 158 (aA s)] (fun v H1=>∃ p cap,v= .slice p (s.cr dep n).length cap∧H1=[bk p cap 3 (s.cr dep n),.cells b o 158 (aA s)]):=by
 refine Spec.go 22 [0,1,4,5,6,9] [] Tryz.func120 rfl rfl rfl ?_
 intro W
 refine XR.dH 3 1 ?_
 refine lp (σ:=Int×List Int×Option Addr×Nat) (fun x=>if x.1= -1 then 0 else dep x.1) (fun x=>(x.1= -1∧x.2.1=s.cr dep n)∨((0≤x.1∧x.1<6∧s.here x.1=true)∧x.2.1++s.eD (dep x.1) x.1=s.cr dep n)) (fun x=>[(5,.slice x.2.2.1 x.2.1.length x.2.2.2),(6,.int .i64 x.1),(0,ptr b o 0)]) (fun x=>XM W (bS [.cells b o 158 (aA s)]) [bk x.2.2.1 x.2.2.2 3 x.2.1,.cells b o 158 (aA s)]) ((n,[],none,0)) ?_ (S3 rfl rfl rfl) (fun _ hw=>XM.pick .h2 hw) ?_
 ·
  exact .inr ⟨hn,rfl⟩
 intro x hx
 refine gC ?_
 refine cd rfl ?_ ?_<;>intro h1
 ·
  obtain⟨hx,hw⟩:=hx.resolve_left (by omega)
  have hlen:x.2.1.length≤4:=by
   have h9:=congrArg List.length hw
   rw[List.length_append,SS.cr,SS.jd,SS.jd]at h9
   have:=(hD.d n hn.1 hn.2.1 hn.2.2).2.1
   omega
  obtain⟨hx1,hx2,hx3⟩:=id hx
  refine XO.buildSlice (A:= #[.int .i64 _]) (vs:= #[(0,.int .i64 _)]) rfl (lq _) rfl rfl ?_
  intro h2
  refine gO ?_
  refine XO.kr (e:=3) rfl rfl Tryz.underlying55 jl (.there .here) .here (by omega) rfl ?_
  intro h3 h4
  refine gO ?_
  refine sd (by omega) ?_
  refine ld (.t2 .here) (aA.jr _ _ (by omega)) ?_
  refine ag ((s.par x.1,x.2.1++[x.1],_,_)) ?_ ?_ (S3 rfl rfl rfl) (fun _ hw=>XM.pick (.cons .here (.cons (.there .here) .nil)) hw)
  ·
   show(if s.par x.1= -1 then 0 else dep (s.par x.1))<(if x.1= -1 then 0 else dep x.1)
   obtain⟨h1,h2,h3⟩:=hx
   by_cases q:s.par x.1= -1
   ·have:=(hD.d x.1 h1 h2 h3).1
    rw[if_pos q,if_neg (by omega)];omega
   ·have:=(SS.vQ hD ⟨h1,h2,h3⟩ q).2.2.2.2
    rw[if_neg q,if_neg (by omega)];omega
  ·
   by_cases q:s.par x.1= -1
   ·refine .inl ⟨q,?_⟩
    rw[←hw,SS.IP hD hx q]
   ·obtain⟨e1,e2,e3,e4,_⟩:=SS.vQ hD hx q
    refine .inr ⟨⟨e2,e3,e4⟩,?_⟩
    rw[←hw,e1];simp
 ·
  refine XE.aV rfl rfl (ab .h2 rfl ?_)
  try dsimp only[SW.den,SV.den,aj,aZ]
  rcases hx with⟨_,hw⟩ | ⟨⟨h1,_⟩,_⟩
  ·exact⟨_,_,by rw[←hw],by rw[←hw]⟩
  ·omega
theorem tW(b o:Nat)(s:SS)(n:Int)(hn:0≤n∧n<6)(hh:s.here n=true):Spec Tryz.prog 192 [ptr b o 0,.int .i64 n] [.cells b o 158 (aA s)] (fun v H1=>∃ p cap,v= .slice p (s.members n).length cap∧H1=[bk p cap 3 (s.members n),.cells b o 158 (aA s)]):=by
 refine Spec.go 26 [0,1,4,5,7,14,15,16,19] [] Tryz.func192 rfl rfl rfl ?_
 intro W
 refine XR.dH 3 1 ?_
 refine sd (by omega) ?_
 refine nc (.there .here) (qu _ _ (by omega) (by assumption)) ?_
 refine lp (σ:=Int×List Int×Option Addr×Nat) (fun x=>(21-x.1).toNat) (fun x=>(0≤x.1∧x.1≤21)∧x.2.1=cx (s.bX n) x.1.toNat) (fun x=>[(5,.slice x.2.2.1 x.2.1.length x.2.2.2),(15,.int .i64 x.1),(14,.agg (pf (s.bX n) 21))]) (fun x=>XM W (bS [.cells b o 158 (aA s)]) [bk x.2.2.1 x.2.2.2 3 x.2.1,.cells b o 158 (aA s)]) ((0,[],none,0)) ?_ (S3 rfl rfl rfl) (fun _ hw=>XM.pick .h2 hw) ?_
 ·
  exact⟨by omega,rfl⟩
 intro x hx
 obtain⟨hx,hL⟩:=hx
 have hlen:=ij (s.bX n) x.1.toNat
 rw[←hL]at hlen
 have hnx:=sY (s.bX n) hx.1
 refine gC ?_
 refine cd rfl ?_ ?_<;>intro h1
 ·
  refine XO.v (V.iG rfl rfl Tryz.underlying27 js iX (by omega)) rfl (gO ?_)
  refine cd rfl ?_ ?_<;>intro h2
  ·
   refine XO.buildSlice (A:= #[.int .i64 _]) (vs:= #[(0,.int .i64 _)]) rfl (lq _) rfl rfl ?_
   intro h3
   refine gO ?_
   refine XO.kr (e:=3) rfl rfl Tryz.underlying55 jl (.there .here) .here (by omega) rfl ?_
   intro h4 h5
   refine gO ?_
   refine sd (by omega) ?_
   refine ag ((x.1+1,x.2.1++[s.bX n x.1],_,_)) ?_ ?_ (S3 rfl rfl rfl) (fun _ hw=>XM.pick (.cons .here (.cons (.there .here) .nil)) hw)
   ·
    (first | omega | (simp;done) | (simp;omega))
   ·
    exact⟨by omega,by rw[hL];exact(hnx.1 (by omega)).symm⟩
  ·
   refine sd (by omega) ?_
   refine ag ((x.1+1,x.2.1,_,_)) ?_ ?_ (S3 rfl rfl rfl) (fun _ hw=>XM.pick .h2 hw)
   ·
    (first | omega | (simp;done) | (simp;omega))
   ·
    exact⟨by omega,by rw[hL];exact(hnx.2 (by omega)).symm⟩
 ·
  refine XE.aV rfl rfl (ab .h2 rfl ?_)
  try dsimp only[SW.den,SV.den,aj,aZ]
  have hx21:x.1=21:=by omega
  rw[hx21]at hL
  exact⟨_,_,by rw[hL];rfl,by rw[hL];rfl⟩
theorem LG(b o:Nat)(s:SS)(p:Int):Spec Tryz.prog 118 [ptr b o 0,.int .i64 p] [.cells b o 158 (aA s)] (fun v H1=>(v= .tuple #[.int .i64 (s.bZ p).1,bM 102 (s.bZ p).2]∧((s.bZ p).2=0→(0≤p∧p<20)∧0≤s.loc p∧(s.bZ p).1=s.loc p))∧H1=[.cells b o 158 (aA s)]):=by
 refine Spec.go 27 [0,1,4,5,11,19] [] Tryz.func118 rfl rfl rfl ?_
 intro W
 refine sp 8 rfl ?_ ?_<;>intro h1
 ·
  refine XE.bC rfl rfl rfl (ab .h1 rfl ?_)
  try dsimp only[SW.den,SV.den,aj,aZ]
  first
  | (rw[SS.lh (by omega)];exact⟨⟨rfl,fun q=>by simp at q⟩,rfl⟩)
  | (rw[SS.qf (by omega) (by assumption)];exact⟨⟨rfl,fun q=>by simp at q⟩,rfl⟩)
  | (rw[SS.Ba (by omega) (by omega)];exact⟨⟨rfl,fun _=>⟨by omega,by omega,rfl⟩⟩,rfl⟩)
 ·
  refine cd rfl ?_ ?_<;>intro h2
  ·
   refine XE.bC rfl rfl rfl (ab .h1 rfl ?_)
   try dsimp only[SW.den,SV.den,aj,aZ]
   first
   | (rw[SS.lh (by omega)];exact⟨⟨rfl,fun q=>by simp at q⟩,rfl⟩)
   | (rw[SS.qf (by omega) (by assumption)];exact⟨⟨rfl,fun q=>by simp at q⟩,rfl⟩)
   | (rw[SS.Ba (by omega) (by omega)];exact⟨⟨rfl,fun _=>⟨by omega,by omega,rfl⟩⟩,rfl⟩)
  ·
   refine sd (by omega) ?_
   refine ld .here (aA.qp _ _ (by omega)) ?_
   refine cd rfl ?_ ?_<;>intro h3
   ·
    refine XE.bC rfl rfl rfl (ab .h1 rfl ?_)
    try dsimp only[SW.den,SV.den,aj,aZ]
    first
    | (rw[SS.lh (by omega)];exact⟨⟨rfl,fun q=>by simp at q⟩,rfl⟩)
    | (rw[SS.qf (by omega) (by assumption)];exact⟨⟨rfl,fun q=>by simp at q⟩,rfl⟩)
    | (rw[SS.Ba (by omega) (by omega)];exact⟨⟨rfl,fun _=>⟨by omega,by omega,rfl⟩⟩,rfl⟩)
   ·
    refine sd (by omega) ?_
    refine ld .here (aA.qp _ _ (by omega)) ?_
    refine XE.bC rfl rfl rfl (ab .h1 rfl ?_)
    try dsimp only[SW.den,SV.den,aj,aZ]
    first
    | (rw[SS.lh (by omega)];exact⟨⟨rfl,fun q=>by simp at q⟩,rfl⟩)
    | (rw[SS.qf (by omega) (by assumption)];exact⟨⟨rfl,fun q=>by simp at q⟩,rfl⟩)
    | (rw[SS.Ba (by omega) (by omega)];exact⟨⟨rfl,fun _=>⟨by omega,by omega,rfl⟩⟩,rfl⟩)
theorem CM(b o:Nat)(s:SS)(n:Int):Spec Tryz.prog 191 [ptr b o 0,.int .i64 n] [.cells b o 158 (aA s)] (fun v H1=>∃ p cap,v= .tuple #[.slice p (s.mem n).1.length cap,bM 102 (s.mem n).2]∧H1=[bk p cap 3 (s.mem n).1,.cells b o 158 (aA s)]):=by
  refine Spec.go 16 [0,1,4,5,6,11] [] Tryz.func191 rfl rfl rfl ?_
  intro W
  refine ca (pX _ _ _ _) .h1 ?_
  rintro _ _ (⟨h1,rfl,rfl⟩ | ⟨h1,rfl,rfl⟩)
  · skip
    try dsimp only[aC,aS,aM,aR,aN,aP,aQ,aU,aO,aT,aG,aH,aB,aF]
    obtain⟨i0,i1,i2,i3⟩:=h1
    refine gO ?_
    refine ca (tW _ _ _ _ (by omega) (by assumption)) .h1 ?_
    rintro _ _ ⟨pl,cl,rfl,rfl⟩
    refine gO ?_
    refine XE.bC rfl rfl rfl (ab .h2 rfl ?_)
    try dsimp only[SW.den,SV.den,aj,aZ]
    first
    | (have hm:s.mem n=([],s.is n):=by unfold SS.mem;rw[if_pos (by assumption)]
       rw[hm];exact⟨none,0,by rw[aW _ (by assumption)];rfl,rfl⟩)
    | (have hm:s.mem n=(s.members n,0):=by unfold SS.mem;rw[if_neg (by simp_all)]
       rw[hm];exact⟨_,_,rfl,rfl⟩)
  · skip
    try dsimp only[aC,aS,aM,aR,aN,aP,aQ,aU,aO,aT,aG,aH,aB,aF]
    have i0:=h1
    refine gO ?_
    refine XR.dH 3 1 ?_
    refine XE.bC rfl rfl rfl (ab .h2 rfl ?_)
    try dsimp only[SW.den,SV.den,aj,aZ]
    first
    | (have hm:s.mem n=([],s.is n):=by unfold SS.mem;rw[if_pos (by assumption)]
       rw[hm];exact⟨none,0,by rw[aW _ (by assumption)];rfl,rfl⟩)
    | (have hm:s.mem n=(s.members n,0):=by unfold SS.mem;rw[if_neg (by simp_all)]
       rw[hm];exact⟨_,_,rfl,rfl⟩)
theorem MR(b o:Nat)(s:SS):Spec Tryz.prog 91 [ptr b o 0] [.cells b o 158 (aA s)] (fun v H1=>∃ p cap,v= .slice p (fg s.here 6).length cap∧H1=[bk p cap 3 (fg s.here 6),.cells b o 158 (aA s)]):=by
 refine Spec.go 21 [0,2,3,4,5,6,14] [] Tryz.func91 rfl rfl rfl ?_
 intro W
 refine XR.dH 3 1 ?_
 refine lp (σ:=Int×List Int×Option Addr×Nat) (fun x=>(6-x.1).toNat) (fun x=>(0≤x.1∧x.1≤6)∧x.2.1=fg s.here x.1.toNat) (fun x=>[(3,.slice x.2.2.1 x.2.1.length x.2.2.2),(5,.int .i64 x.1),(0,ptr b o 0)]) (fun x=>XM W (bS [.cells b o 158 (aA s)]) [bk x.2.2.1 x.2.2.2 3 x.2.1,.cells b o 158 (aA s)]) ((0,[],none,0)) ?_ (S3 rfl rfl rfl) (fun _ hw=>XM.pick .h2 hw) ?_
 ·
  exact⟨by omega,rfl⟩
 intro x hx
 obtain⟨hx,hL⟩:=hx
 have hlen:=fS s.here x.1.toNat
 rw[←hL]at hlen
 have hnx:=oJ s.here hx.1
 refine gC ?_
 refine cd rfl ?_ ?_<;>intro h1
 ·
  refine sd (by omega) ?_
  refine ld (.there .here) (aA.gR _ _ (by omega)) ?_
  refine Dy rfl ?_ ?_<;>intro h2
  ·try simp only[sb]at h2
   refine XO.buildSlice (A:= #[.int .i64 _]) (vs:= #[(0,.int .i64 _)]) rfl (lq _) rfl rfl ?_
   intro h3
   refine gO ?_
   refine XO.kr (e:=3) rfl rfl Tryz.underlying55 jl (.there .here) .here (by omega) rfl ?_
   intro h4 h5
   refine gO ?_
   refine sd (by omega) ?_
   refine ag ((x.1+1,x.2.1++[x.1],_,_)) ?_ ?_ (S3 rfl rfl rfl) (fun _ hw=>XM.pick (.cons .here (.cons (.there .here) .nil)) hw)
   ·
    (first | omega | (simp;done) | (simp;omega))
   ·
    exact⟨by omega,by rw[hL];exact(hnx.1 (by assumption)).symm⟩
  ·try simp only[sb]at h2
   refine sd (by omega) ?_
   refine ag ((x.1+1,x.2.1,_,_)) ?_ ?_ (S3 rfl rfl rfl) (fun _ hw=>XM.pick .h2 hw)
   ·
    (first | omega | (simp;done) | (simp;omega))
   ·
    exact⟨by omega,by rw[hL];exact(hnx.2 (by assumption)).symm⟩
 ·
  refine XE.aV rfl rfl (ab .h2 rfl ?_)
  try dsimp only[SW.den,SV.den,aj,aZ]
  have hx21:x.1=6:=by omega
  rw[hx21]at hL
  exact⟨_,_,by rw[hL];rfl,by rw[hL];rfl⟩
theorem xv(b o:Nat)(s:SS)(p n:Int):Spec Tryz.prog 62 [ptr b o 0,.int .i64 p,.int .i64 n] [.cells b o 158 (aA s)] (fun v H1=>v= .tuple #[.int .i64 (s.pid p n).1,bM 102 (s.pid p n).2]∧H1=[.cells b o 158 (aA s)]):=by
 refine Spec.go 41 [0,1,2,6,7,8,9,10,15,22,30,31,32,37] [] Tryz.func62 rfl rfl rfl ?_
 intro W
 refine ca (pX _ _ _ _) .h1 ?_
 rintro _ _ (⟨h1,rfl,rfl⟩ | ⟨h1,rfl,rfl⟩)
 ·
  try dsimp only[aC,aS,aM,aR,aN,aP,aQ,aU,aO,aT,aG,aH,aB,aF]
  obtain⟨i0,i1,i2,i3⟩:=h1
  refine gO ?_
  refine sp 19 rfl ?_ ?_<;>intro h2
  ·
   refine XE.bC rfl rfl rfl (ab .h1 rfl ?_)
   try dsimp only[SW.den,SV.den,aj,aZ]
   first
   | (rw[SS.ny (by assumption)];exact⟨by show _=Value.tuple #[_,bM 102 (s.is n)];rw[aW _ (by assumption)],rfl⟩)
   | (rw[SS.jR (by assumption) (by omega)];exact⟨rfl,rfl⟩)
   | (rw[SS.jM (q:=k) (by assumption) (by omega) (by omega) (by omega) hk2];exact⟨rfl,rfl⟩)
   | (rw[SS.lv (by assumption) (by omega) (fun j h1 h2=>hk2 j h1 (by omega))];exact⟨rfl,rfl⟩)
  ·
   refine cd rfl ?_ ?_<;>intro h3
   ·
    refine XE.bC rfl rfl rfl (ab .h1 rfl ?_)
    try dsimp only[SW.den,SV.den,aj,aZ]
    first
    | (rw[SS.ny (by assumption)];exact⟨by show _=Value.tuple #[_,bM 102 (s.is n)];rw[aW _ (by assumption)],rfl⟩)
    | (rw[SS.jR (by assumption) (by omega)];exact⟨rfl,rfl⟩)
    | (rw[SS.jM (q:=k) (by assumption) (by omega) (by omega) (by omega) hk2];exact⟨rfl,rfl⟩)
    | (rw[SS.lv (by assumption) (by omega) (fun j h1 h2=>hk2 j h1 (by omega))];exact⟨rfl,rfl⟩)
   ·
    refine sd (by omega) ?_
    refine nc .here (qu _ _ (by omega) (by assumption)) ?_
    refine lp (σ:=Int) (fun k=>(21-k).toNat) (fun k=>(0≤k∧k≤21)∧∀ j:Int,0≤j→j<k→s.bX n j≠p) (fun k=>[(31,.int .i64 k),(1,.int .i64 p),(30,.agg (pf (s.bX n) 21))]) (fun k=>XM W (bS [.cells b o 158 (aA s)]) [.cells b o 158 (aA s)]) (0) ?_ (S3 rfl rfl rfl) (fun _ hw=>XM.pick .h1 hw) ?_
    ·
     exact⟨by omega,fun j h1 h2=>by omega⟩
    intro k hk
    obtain⟨hk,hk2⟩:=hk
    refine gC ?_
    refine cd rfl ?_ ?_<;>intro h4
    ·
     refine XO.v (V.iG rfl rfl Tryz.underlying27 js iX (by omega)) rfl (gO ?_)
     refine cd rfl ?_ ?_<;>intro h5
     ·
      refine XE.bC rfl rfl rfl (ab .h1 rfl ?_)
      try dsimp only[SW.den,SV.den,aj,aZ]
      first
      | (rw[SS.ny (by assumption)];exact⟨by show _=Value.tuple #[_,bM 102 (s.is n)];rw[aW _ (by assumption)],rfl⟩)
      | (rw[SS.jR (by assumption) (by omega)];exact⟨rfl,rfl⟩)
      | (rw[SS.jM (q:=k) (by assumption) (by omega) (by omega) (by omega) hk2];exact⟨rfl,rfl⟩)
      | (rw[SS.lv (by assumption) (by omega) (fun j h1 h2=>hk2 j h1 (by omega))];exact⟨rfl,rfl⟩)
     ·
      refine sd (by omega) ?_
      refine ag (k+1) ?_ ?_ (S3 rfl rfl rfl) (fun _ hw=>XM.pick .h1 hw)
      ·
       (first | omega | (simp;done) | (simp;omega))
      ·
       refine⟨by omega,fun j h1 h2=> ?_⟩
       by_cases hj:j=k
       ·subst hj;assumption
       ·exact hk2 j h1 (by omega)
    ·
     refine XE.bC rfl rfl rfl (ab .h1 rfl ?_)
     try dsimp only[SW.den,SV.den,aj,aZ]
     first
     | (rw[SS.ny (by assumption)];exact⟨by show _=Value.tuple #[_,bM 102 (s.is n)];rw[aW _ (by assumption)],rfl⟩)
     | (rw[SS.jR (by assumption) (by omega)];exact⟨rfl,rfl⟩)
     | (rw[SS.jM (q:=k) (by assumption) (by omega) (by omega) (by omega) hk2];exact⟨rfl,rfl⟩)
     | (rw[SS.lv (by assumption) (by omega) (fun j h1 h2=>hk2 j h1 (by omega))];exact⟨rfl,rfl⟩)
 ·
  try dsimp only[aC,aS,aM,aR,aN,aP,aQ,aU,aO,aT,aG,aH,aB,aF]
  have i0:=h1
  refine gO ?_
  refine XE.bC rfl rfl rfl (ab .h1 rfl ?_)
  try dsimp only[SW.den,SV.den,aj,aZ]
  first
  | (rw[SS.ny (by assumption)];exact⟨by show _=Value.tuple #[_,bM 102 (s.is n)];rw[aW _ (by assumption)],rfl⟩)
  | (rw[SS.jR (by assumption) (by omega)];exact⟨rfl,rfl⟩)
  | (rw[SS.jM (q:=k) (by assumption) (by omega) (by omega) (by omega) hk2];exact⟨rfl,rfl⟩)
  | (rw[SS.lv (by assumption) (by omega) (fun j h1 h2=>hk2 j h1 (by omega))];exact⟨rfl,rfl⟩)
theorem Ft(b o:Nat)(s:SS)(n q:Int):Spec Tryz.prog 66 [ptr b o 0,.int .i64 n,.int .i64 q] [.cells b o 158 (aA s)] (fun v H1=>v= .tuple #[.int .i64 (s.find n q).1,bM 102 (s.find n q).2]∧H1=[.cells b o 158 (aA s)]):=by
 refine Spec.go 43 [0,1,2,6,7,8,13,32] [] Tryz.func66 rfl rfl rfl ?_
 intro W
 refine ca (pX _ _ _ _) .h1 ?_
 rintro _ _ (⟨h1,rfl,rfl⟩ | ⟨h1,rfl,rfl⟩)
 ·
  try dsimp only[aC,aS,aM,aR,aN,aP,aQ,aU,aO,aT,aG,aH,aB,aF]
  obtain⟨i0,i1,i2,i3⟩:=h1
  refine gO ?_
  refine sp 17 rfl ?_ ?_<;>intro h2
  ·
   refine XE.bC rfl rfl rfl (ab .h1 rfl ?_)
   try dsimp only[SW.den,SV.den,aj,aZ]
   first
   | (rw[SS.kX (by assumption)];exact⟨by show _=Value.tuple #[_,bM 102 (s.is n)];rw[aW _ (by assumption)],rfl⟩)
   | (rw[SS.jB (by assumption) (by omega)];exact⟨rfl,rfl⟩)
   | (rw[SS.nx (by assumption) (by omega) (by omega)];exact⟨rfl,rfl⟩)
  ·
   refine sp 21 rfl ?_ ?_<;>intro h3
   ·
    refine XE.bC rfl rfl rfl (ab .h1 rfl ?_)
    try dsimp only[SW.den,SV.den,aj,aZ]
    first
    | (rw[SS.kX (by assumption)];exact⟨by show _=Value.tuple #[_,bM 102 (s.is n)];rw[aW _ (by assumption)],rfl⟩)
    | (rw[SS.jB (by assumption) (by omega)];exact⟨rfl,rfl⟩)
    | (rw[SS.nx (by assumption) (by omega) (by omega)];exact⟨rfl,rfl⟩)
   ·
    refine sd (by omega) ?_
    refine sd (by omega) ?_
    refine ld .here (aA.gM _ _ _ (by omega) (by omega) (by first | assumption | (simp_all;done))) ?_
    refine cd rfl ?_ ?_<;>intro h4
    ·
     refine XE.bC rfl rfl rfl (ab .h1 rfl ?_)
     try dsimp only[SW.den,SV.den,aj,aZ]
     first
     | (rw[SS.kX (by assumption)];exact⟨by show _=Value.tuple #[_,bM 102 (s.is n)];rw[aW _ (by assumption)],rfl⟩)
     | (rw[SS.jB (by assumption) (by omega)];exact⟨rfl,rfl⟩)
     | (rw[SS.nx (by assumption) (by omega) (by omega)];exact⟨rfl,rfl⟩)
    ·
     refine sd (by omega) ?_
     refine sd (by omega) ?_
     refine ld .here (aA.gM _ _ _ (by omega) (by omega) (by first | assumption | (simp_all;done))) ?_
     refine XE.bC rfl rfl rfl (ab .h1 rfl ?_)
     try dsimp only[SW.den,SV.den,aj,aZ]
     first
     | (rw[SS.kX (by assumption)];exact⟨by show _=Value.tuple #[_,bM 102 (s.is n)];rw[aW _ (by assumption)],rfl⟩)
     | (rw[SS.jB (by assumption) (by omega)];exact⟨rfl,rfl⟩)
     | (rw[SS.nx (by assumption) (by omega) (by omega)];exact⟨rfl,rfl⟩)
 ·
  try dsimp only[aC,aS,aM,aR,aN,aP,aQ,aU,aO,aT,aG,aH,aB,aF]
  have i0:=h1
  refine gO ?_
  refine XE.bC rfl rfl rfl (ab .h1 rfl ?_)
  try dsimp only[SW.den,SV.den,aj,aZ]
  first
  | (rw[SS.kX (by assumption)];exact⟨by show _=Value.tuple #[_,bM 102 (s.is n)];rw[aW _ (by assumption)],rfl⟩)
  | (rw[SS.jB (by assumption) (by omega)];exact⟨rfl,rfl⟩)
  | (rw[SS.nx (by assumption) (by omega) (by omega)];exact⟨rfl,rfl⟩)
theorem M0(b o:Nat)(s:SS)(dep:Int→Nat)(hD:s.Deep dep)(hA:∀ k,s.here k=false→∀ j,s.bX k j= -1)(n:Int):Spec Tryz.prog 53 [ptr b o 0,.int .i64 n] [.cells b o 158 (aA s)] (fun v H1=>v= .tuple #[.int .i64 (s.add dep n).1,bM 102 (s.add dep n).2.1]∧H1=[.cells b o 158 (aA (s.add dep n).2.2)]):=by
 refine Spec.go 41 [0,1,4,5,6,7,12,18,20,21,30] [] Tryz.func53 rfl rfl rfl ?_
 intro W
 refine ca (pX _ _ _ _) .h1 ?_
 rintro _ _ (⟨h1,rfl,rfl⟩ | ⟨h1,rfl,rfl⟩)
 ·
  try dsimp only[aC,aS,aM,aR,aN,aP,aQ,aU,aO,aT,aG,aH,aB,aF]
  obtain⟨i0,i1,i2,i3⟩:=h1
  refine gO ?_
  refine ca (Lv _ _ _ dep hD _ ⟨by omega,by omega,by assumption⟩) .h1 ?_
  rintro _ _ ⟨pl,cl,rfl,rfl⟩
  refine gO ?_
  refine cd rfl ?_ ?_<;>intro h2
  ·
   have hdp:=s.qj dep n
   refine XE.bC rfl rfl rfl (ab (.cons (.there .here) .nil) rfl ?_)
   try dsimp only[SW.den,SV.den,aj,aZ]
   rw[SS.FX (by assumption) (by omega)];exact⟨rfl,rfl⟩
  ·
   have hdp:=s.qj dep n
   refine lp (σ:=Int) (fun k=>(6-k).toNat) (fun k=>(0≤k∧k≤6)∧∀ j:Int,0≤j→j<k→s.here j=true) (fun k=>[(20,.int .i64 k),(0,ptr b o 0),(1,.int .i64 n)]) (fun k=>XM W (bS [.cells b o 158 (aA s)]) [.cells b o 158 (aA s)]) (0) ?_ (S3 rfl rfl rfl) (fun _ hw=>XM.pick (.cons (.there .here) .nil) hw) ?_
   ·
    exact⟨by omega,fun j h1 h2=>by omega⟩
   intro k hk
   obtain⟨hk,hk2⟩:=hk
   refine gC ?_
   refine cd rfl ?_ ?_<;>intro h3
   ·
    refine sd (by omega) ?_
    refine ld .here (aA.gR _ _ (by omega)) ?_
    refine Dy rfl ?_ ?_<;>intro h4
    ·try simp only[sb]at h4
     refine rq [0,1,2,4,5,3,6,7] mixed (by kernel_rfl) ?_
     refine ca (p8 _) .nil ?_
     rintro _ _ ⟨rfl,rfl⟩
     refine gO ?_
     refine sd (by omega) ?_
     refine jA .here (rz _ _ _ (by omega) (hA _ (by assumption))) rfl ⟨rfl,rfl⟩ ?_
     refine XE.bC rfl rfl rfl (ab .h1 rfl ?_)
     try dsimp only[SW.den,SV.den,aj,aZ]
     rw[SS.G6 (k:=k) (by assumption) (by omega) (by omega) (by assumption) hk2];exact⟨rfl,rfl⟩
    ·try simp only[sb]at h4
     refine sd (by omega) ?_
     refine ag (k+1) ?_ ?_ (S3 rfl rfl rfl) (fun _ hw=>XM.pick .h1 hw)
     ·
      (first | omega | (simp;done) | (simp;omega))
     ·
      refine⟨by omega,fun j h1 h2=> ?_⟩
      by_cases hj:j=k
      ·subst hj;assumption
      ·exact hk2 j h1 (by omega)
   ·
    refine XE.bC rfl rfl rfl (ab .h1 rfl ?_)
    try dsimp only[SW.den,SV.den,aj,aZ]
    rw[SS.Ff (by assumption) (by omega) (fun j h1 h2=>hk2 j h1 (by omega))];exact⟨rfl,rfl⟩
 ·
  try dsimp only[aC,aS,aM,aR,aN,aP,aQ,aU,aO,aT,aG,aH,aB,aF]
  have i0:=h1
  refine gO ?_
  refine XE.bC rfl rfl rfl (ab .h1 rfl ?_)
  try dsimp only[SW.den,SV.den,aj,aZ]
  rw[SS.Iw (by assumption)];exact⟨by rw[aW _ (by assumption)],rfl⟩
theorem DJ(b o:Nat)(s:SS)(n:Int):Spec Tryz.prog 132 [ptr b o 0,.int .i64 n] [.cells b o 158 (aA s)] (fun v H1=>v=bM 102 (s.drop n).1∧H1=[.cells b o 158 (aA (s.drop n).2)]):=by
 refine Spec.go 52 [0,1,4,5,6,11,21,23,24,43] [] Tryz.func132 rfl rfl rfl ?_
 intro W
 refine ca (pX _ _ _ _) .h1 ?_
 rintro _ _ (⟨h1,rfl,rfl⟩ | ⟨h1,rfl,rfl⟩)
 ·
  try dsimp only[aC,aS,aM,aR,aN,aP,aQ,aU,aO,aT,aG,aH,aB,aF]
  obtain⟨i0,i1,i2,i3⟩:=h1
  refine gO ?_
  refine sp 15 rfl ?_ ?_<;>intro h2
  ·
   refine XE.aV rfl rfl (ab .h1 rfl ?_)
   try dsimp only[SW.den,SV.den,aj,aZ]
   rw[SS.ug (by assumption) (by omega)];exact⟨rfl,rfl⟩
  ·
   refine ca (tW _ _ _ _ (by omega) (by assumption)) .h1 ?_
   rintro _ _ ⟨pl,cl,rfl,rfl⟩
   refine gO ?_
   refine cd rfl ?_ ?_<;>intro h3
   ·
    refine XE.aV rfl rfl (ab (.cons (.there .here) .nil) rfl ?_)
    try dsimp only[SW.den,SV.den,aj,aZ]
    rw[SS.ug (by assumption) (by omega)];exact⟨rfl,rfl⟩
   ·
    refine lp (σ:=Int) (fun k=>(6-k).toNat) (fun k=>(0≤k∧k≤6)∧∀ j:Int,0≤j→j<k→¬(s.here j=true∧s.par j=n)) (fun k=>[(23,.int .i64 k),(0,ptr b o 0),(1,.int .i64 n)]) (fun k=>XM W (bS [.cells b o 158 (aA s)]) [.cells b o 158 (aA s)]) (0) ?_ (S3 rfl rfl rfl) (fun _ hw=>XM.pick (.cons (.there .here) .nil) hw) ?_
    ·
     exact⟨by omega,fun j h1 h2=>by omega⟩
    intro k hk
    obtain⟨hk,hk2⟩:=hk
    refine gC ?_
    refine cd rfl ?_ ?_<;>intro h4
    ·
     refine sd (by omega) ?_
     refine ld .here (aA.gR _ _ (by omega)) ?_
     refine uE 33 rfl ?_ ?_<;>intro h5
     ·try simp only[sb]at h5
      refine sd (by omega) ?_
      refine ld .here (aA.jr _ _ (by omega)) ?_
      refine cd rfl ?_ ?_<;>intro h6
      ·
       refine XE.aV rfl rfl (ab .h1 rfl ?_)
       try dsimp only[SW.den,SV.den,aj,aZ]
       rw[SS.E8 (k:=k) (by assumption) (by omega) (by omega) (by simp_all) (by simp_all) hk2];exact⟨rfl,rfl⟩
      ·
       refine sd (by omega) ?_
       refine ag (k+1) ?_ ?_ (S3 rfl rfl rfl) (fun _ hw=>XM.pick .h1 hw)
       ·
        (first | omega | (simp;done) | (simp;omega))
       ·
        refine⟨by omega,fun j h1 h2=> ?_⟩
        by_cases hj:j=k
        ·subst hj;rintro⟨q1,q2⟩;simp_all
        ·exact hk2 j h1 (by omega)
     ·try simp only[sb]at h5
      refine sd (by omega) ?_
      refine ag (k+1) ?_ ?_ (S3 rfl rfl rfl) (fun _ hw=>XM.pick .h1 hw)
      ·
       (first | omega | (simp;done) | (simp;omega))
      ·
       refine⟨by omega,fun j h1 h2=> ?_⟩
       by_cases hj:j=k
       ·subst hj;rintro⟨q1,q2⟩;simp_all
       ·exact hk2 j h1 (by omega)
    ·
     refine XO.v (V.build (vs:= #[]) rfl (v:=.agg jj) (fun _=>by kernel_rfl)) rfl (gO ?_)
     refine sd (by omega) ?_
     refine jA .here (zl _ _ (by omega)) rfl ⟨rfl,rfl⟩ ?_
     refine XE.aV rfl rfl (ab .h1 rfl ?_)
     try dsimp only[SW.den,SV.den,aj,aZ]
     rw[SS.IJ (by assumption) (by omega) (fun j h1 h2=>hk2 j h1 (by omega))];exact⟨rfl,rfl⟩
 ·
  try dsimp only[aC,aS,aM,aR,aN,aP,aQ,aU,aO,aT,aG,aH,aB,aF]
  have i0:=h1
  refine gO ?_
  refine XE.aV rfl rfl (ab .h1 rfl ?_)
  try dsimp only[SW.den,SV.den,aj,aZ]
  rw[SS.FV (by assumption)];exact⟨by rw[aW _ (by assumption)],rfl⟩
theorem G8:Spec Tryz.prog 96 [] [] (fun v H1=>∃ b,v=ptr b 0 0∧H1=[.cells b 0 158 (aA SS.init)]):=by
 refine Spec.go 20 [0,1,2,10,11] [] Tryz.func96 rfl rfl rfl ?_
 intro W
 refine XO.v (V.build (vs:= #[]) rfl (v:=.agg JR) (fun _=>by kernel_rfl)) rfl (gO ?_)
 refine XO.box (m:=158) (C:=aA SS.zero) rfl rfl CV rfl ?_
 intro bs
 refine gO ?_
 refine rq [0,2,3,1,4,5] mixed (by kernel_rfl) ?_
 refine ca (p8 _) .nil ?_
 rintro _ _ ⟨rfl,rfl⟩
 refine gO ?_
 refine sd (by omega) ?_
 refine jA .here (rz _ _ _ (by omega) (fun _=>rfl)) rfl ⟨rfl,rfl⟩ ?_
 refine lp (σ:=Int) (fun k=>(20-k).toNat) (fun k=>0≤k∧k≤20) (fun k=>[(10,.int .i64 k),(1,ptr bs 0 0)]) (fun k=>XM W (bS []) [.cells bs 0 158 (aA {SS.root with loc:=sW k})]) (0) ?_ (S2 rfl rfl) (fun _ hw=>by rw[Gw];exact XM.pick (.cons .here .nil) hw) ?_
 ·
  omega
 intro k hk
 refine gC ?_
 refine cd rfl ?_ ?_<;>intro h1
 ·
  refine sd (by omega) ?_
  refine st .here (aA.u7 _ _ (by omega) _) rfl ?_
  refine sd (by omega) ?_
  refine ag (k+1) ?_ ?_ (S2 rfl rfl) (fun _ hw=>by rw[←ye k (by omega)];exact XM.pick (.cons .here .nil) hw)
  ·
   (first | omega | (simp;done) | (simp;omega))
  ·
   (first | omega | (simp;done) | (simp;omega))
 ·
  refine XE.aV rfl rfl (ab .h1 rfl ?_)
  try dsimp only[SW.den,SV.den,aj,aZ]
  obtain rfl:k=20:=by omega
  exact⟨_,rfl,rfl⟩
theorem vM(b o:Nat)(s:SS)(dep:Int→Nat)(hD:s.Deep dep)(n p:Int):Spec Tryz.prog 56 [ptr b o 0,.int .i64 n,.int .i64 p] [.cells b o 158 (aA s)] (fun v H1=>v= .tuple #[.int .i64 (s.enter dep n p).1,bM 102 (s.enter dep n p).2.1]∧H1=[.cells b o 158 (aA (s.enter dep n p).2.2)]):=by
 refine Spec.go 77 [0,1,2,6,7,8,10,11,16,23,31,41,42,43,44,48,60] [] Tryz.func56 rfl rfl rfl ?_
 intro W
 refine ca (pX _ _ _ _) .h1 ?_
 rintro _ _ (⟨h1,rfl,rfl⟩ | ⟨h1,rfl,rfl⟩)
 ·
  try dsimp only[aC,aS,aM,aR,aN,aP,aQ,aU,aO,aT,aG,aH,aB,aF]
  obtain⟨i0,i1,i2,i3⟩:=h1
  refine gO ?_
  refine sp 20 rfl ?_ ?_<;>intro h2
  ·
   refine XE.bC rfl rfl rfl (ab .h1 rfl ?_)
   try dsimp only[SW.den,SV.den,aj,aZ]
   rw[SS.k9 (by assumption) (by omega)];exact⟨rfl,rfl⟩
  ·
   refine cd rfl ?_ ?_<;>intro h3
   ·
    refine XE.bC rfl rfl rfl (ab .h1 rfl ?_)
    try dsimp only[SW.den,SV.den,aj,aZ]
    rw[SS.k9 (by assumption) (by omega)];exact⟨rfl,rfl⟩
   ·
    refine sd (by omega) ?_
    refine ld .here (aA.qp _ _ (by omega)) ?_
    refine cd rfl ?_ ?_<;>intro h4
    ·
     refine XE.bC rfl rfl rfl (ab .h1 rfl ?_)
     try dsimp only[SW.den,SV.den,aj,aZ]
     rw[SS.pO (by assumption) (by omega) (by omega)];exact⟨rfl,rfl⟩
    ·
     refine sd (by omega) ?_
     refine st .here (aA.u7 _ _ (by omega) _) rfl ?_
     have hD1:({s with loc:=aa s.loc p n} :SS).Deep dep:=⟨hD.d⟩
     have hay:=({s with loc:=aa s.loc p n} :SS).qj dep n
     have hdn:=(hD.d n i1 i2 i3).2.1
     refine ca (Lv _ _ ({s with loc:=aa s.loc p n} :SS) dep hD1 n ⟨i1,i2,i3⟩) .h1 ?_
     rintro _ _ ⟨pl,cl,rfl,rfl⟩
     refine gO ?_
     refine lp (σ:=Int×(Int→Int→Int)) (fun x=>((({s with loc:=aa s.loc p n} :SS).cr dep n).length-x.1).toNat) (fun x=>(0≤x.1∧x.1≤(({s with loc:=aa s.loc p n} :SS).cr dep n).length)∧fv x.2 p ((({s with loc:=aa s.loc p n} :SS).cr dep n).drop x.1.toNat)=fv s.bX p (({s with loc:=aa s.loc p n} :SS).cr dep n)) (fun x=>[(43,.int .i64 x.1),(0,ptr b o 0),(1,.int .i64 n),(2,.int .i64 p),(41,.slice pl (({s with loc:=aa s.loc p n} :SS).cr dep n).length cl),(42,.int .i64 (({s with loc:=aa s.loc p n} :SS).cr dep n).length)]) (fun x=>XM W (bS [.cells b o 158 (aA s)]) [bk pl cl 3 (({s with loc:=aa s.loc p n} :SS).cr dep n),.cells b o 158 (aA {s with loc:=aa s.loc p n,bX:=x.2})]) ((0,s.bX)) ?_ (S6 rfl rfl rfl rfl rfl rfl) (fun _ hw=>XM.pick .h2 hw) ?_
     ·
      exact⟨by omega,rfl⟩
     intro x hx
     obtain⟨hx,hw⟩:=hx
     refine gC ?_
     refine cd rfl ?_ ?_<;>intro h5
     ·
      obtain⟨a0,a1,a2⟩:=SS.GY hD1 (n:=n) ⟨i1,i2,i3⟩ (z:=x.1) ⟨hx.1,by omega⟩
      refine XR.db .here (by omega) ?_
      intro gA h6
      subst h6
      refine sd (by omega) ?_
      refine Fq .here (ints_at (by omega)) ?_
      refine lp (σ:=Int) (fun k=>(21-k).toNat) (fun k=>(1≤k∧k≤21)∧∀ j:Int,1≤j→j<k→¬x.2 (ep (({s with loc:=aa s.loc p n} :SS).cr dep n) x.1) j<0) (fun k=>[(11,.int .i64 k),(0,ptr b o 0),(1,.int .i64 n),(2,.int .i64 p),(10,.int .i64 (ep (({s with loc:=aa s.loc p n} :SS).cr dep n) x.1)),(41,.slice (some ⟨gA,0,none⟩) (({s with loc:=aa s.loc p n} :SS).cr dep n).length cl),(42,.int .i64 (({s with loc:=aa s.loc p n} :SS).cr dep n).length),(43,.int .i64 x.1)]) (fun k=>XM W (bS [.cells b o 158 (aA s)]) [bk (some ⟨gA,0,none⟩) cl 3 (({s with loc:=aa s.loc p n} :SS).cr dep n),.cells b o 158 (aA {s with loc:=aa s.loc p n,bX:=x.2})]) (1) ?_ (.cons rfl (.cons rfl (S6 rfl rfl rfl rfl rfl rfl))) (fun _ hw=>XM.pick .h2 hw) ?_
      ·
       exact⟨by omega,fun j h1 h2=>by omega⟩
      intro k hk
      obtain⟨hk,hk2⟩:=hk
      refine gC ?_
      refine cd rfl ?_ ?_<;>intro h7
      ·
       refine sd (by omega) ?_
       refine sd (by omega) ?_
       refine ld (.there .here) (aA.gM _ _ _ (by omega) (by omega) (by first | assumption | (simp_all;done))) ?_
       refine cd rfl ?_ ?_<;>intro h8
       ·
        have hlt:x.2 (ep (({s with loc:=aa s.loc p n} :SS).cr dep n) x.1) k<0:=h8
        refine sd (by omega) ?_
        refine sd (by omega) ?_
        refine st (.there .here) (aA.n4 _ _ _ (by omega) (by omega) (by first | assumption | (simp_all;done)) _) rfl ?_
        refine sd (by omega) ?_
        refine ag ((x.1+1,aX x.2 (ep (({s with loc:=aa s.loc p n} :SS).cr dep n) x.1) k p)) ?_ ?_ (S6 rfl rfl rfl rfl rfl rfl) (fun _ hw=>XM.pick .h2 hw)
        ·
         (first | omega | (simp;done) | (simp;omega))
        ·
         refine⟨by simp;omega,?_⟩
         rw[←hw,xK ⟨hx.1,by omega⟩,fv,CN ⟨by omega,by omega⟩ hlt (fun j h1 h2=>hk2 j h1 h2)]
       ·
        refine sd (by omega) ?_
        refine ag (k+1) ?_ ?_ (.cons rfl (.cons rfl (S6 rfl rfl rfl rfl rfl rfl))) (fun _ hw=>XM.pick .h2 hw)
        ·
         (first | omega | (simp;done) | (simp;omega))
        ·
         refine⟨by omega,fun j h1 h2=> ?_⟩
         by_cases hj:j=k
         ·subst hj;assumption
         ·exact hk2 j h1 (by omega)
      ·
       refine sd (by omega) ?_
       refine ag ((x.1+1,x.2)) ?_ ?_ (S6 rfl rfl rfl rfl rfl rfl) (fun _ hw=>XM.pick .h2 hw)
       ·
        (first | omega | (simp;done) | (simp;omega))
       ·
        refine⟨by simp;omega,?_⟩
        rw[←hw,xK ⟨hx.1,by omega⟩,fv,BN (fun j h1 h2=>hk2 j h1 (by omega))]
     ·
      refine ca (xv _ _ _ _ _) (.cons (.there .here) .nil) ?_
      rintro _ _ ⟨rfl,rfl⟩
      refine gO ?_
      refine XE.bC rfl rfl rfl (ab .h1 rfl ?_)
      try dsimp only[SW.den,SV.den,aj,aZ]
      have hxe:x.1=(({s with loc:=aa s.loc p n} :SS).cr dep n).length:=by omega
      have he:x.2=fv s.bX p (s.cr dep n):=by
       rw[hxe]at hw
       simp at hw
       exact(show x.2=fv x.2 p []from rfl).trans (hw.trans (congrArg (fv s.bX p) (SS.iM (s:=s) (s':= {s with loc:=aa s.loc p n}) rfl _ _)))
      rw[SS.nQ (by assumption) (by omega) (by omega)]
      unfold SS.cZ
      rw[←he]
      exact⟨rfl,rfl⟩
 ·
  try dsimp only[aC,aS,aM,aR,aN,aP,aQ,aU,aO,aT,aG,aH,aB,aF]
  have i0:=h1
  refine gO ?_
  refine XE.bC rfl rfl rfl (ab .h1 rfl ?_)
  try dsimp only[SW.den,SV.den,aj,aZ]
  rw[SS.tf (by assumption)];exact⟨by rw[aW _ (by assumption)],rfl⟩
theorem IH(b o:Nat)(s:SS)(dep:Int→Nat)(hD:s.Deep dep)(p:Int)(hl:0≤p→p<20→0≤s.loc p→s.loc p<6∧s.here (s.loc p)=true)(hW:0≤p→∀ n q,s.bX n q=p→n∈s.cr dep (s.loc p)∧0≤q∧q<21):Spec Tryz.prog 131 [ptr b o 0,.int .i64 p] [.cells b o 158 (aA s)] (fun v H1=>v=bM 102 (s.leave p).1∧H1=[.cells b o 158 (aA (s.leave p).2)]):=by
 refine Spec.go 57 [0,1,4,5,6,8,9,10,18,22,23,24,25,34,35,36,41] [] Tryz.func131 rfl rfl rfl ?_
 intro W
 refine ca (LG _ _ _ _) .h1 ?_
 rintro _ _ ⟨⟨rfl,hin⟩,rfl⟩
 refine gO ?_
 refine cd rfl ?_ ?_<;>intro h1
 ·
  refine XE.aV rfl rfl (ab .h1 rfl ?_)
  try dsimp only[SW.den,SV.den,aj,aZ]
  have hv:s.leave p=((s.bZ p).2,s):=by unfold SS.leave;rw[if_pos (by omega)]
  rw[hv];exact⟨rfl,rfl⟩
 ·
  obtain⟨⟨p0,p20⟩,l0,hN⟩:=hin (by omega)
  have hl2:=hl p0 p20 l0
  have hup:0≤(s.bZ p).1∧(s.bZ p).1<6∧s.here (s.bZ p).1=true:=by rw[hN];exact⟨l0,hl2.1,hl2.2⟩
  have hay:=s.qj dep (s.bZ p).1
  have hdn:=(hD.d _ hup.1 hup.2.1 hup.2.2).2.1
  refine ca (Lv _ _ s dep hD (s.bZ p).1 hup) .h1 ?_
  rintro _ _ ⟨pl,cl,rfl,rfl⟩
  refine gO ?_
  refine lp (σ:=Int×(Int→Int→Int)) (fun x=>((s.cr dep (s.bZ p).1).length-x.1).toNat) (fun x=>(0≤x.1∧x.1≤(s.cr dep (s.bZ p).1).length)∧x.2=xJ s.bX ((s.cr dep (s.bZ p).1).take x.1.toNat) p) (fun x=>[(24,.int .i64 x.1),(0,ptr b o 0),(1,.int .i64 p),(22,.slice pl (s.cr dep (s.bZ p).1).length cl),(23,.int .i64 (s.cr dep (s.bZ p).1).length)]) (fun x=>XM W (bS [.cells b o 158 (aA s)]) [bk pl cl 3 (s.cr dep (s.bZ p).1),.cells b o 158 (aA {s with bX:=x.2})]) ((0,s.bX)) ?_ (S5 rfl rfl rfl rfl rfl) (fun _ hw=>XM.pick .h2 hw) ?_
  ·
   exact⟨by omega,(FD _ _).symm⟩
  intro x hx
  obtain⟨hx,hw⟩:=hx
  refine gC ?_
  refine cd rfl ?_ ?_<;>intro h2
  ·
   obtain⟨a0,a1,a2⟩:=SS.GY hD (n:=(s.bZ p).1) hup (z:=x.1) ⟨hx.1,by omega⟩
   refine XR.db .here (by omega) ?_
   intro gA h3
   subst h3
   refine sd (by omega) ?_
   refine Fq .here (ints_at (by omega)) ?_
   refine sd (by omega) ?_
   refine nc (.there .here) (qu _ _ (by omega) (by assumption)) ?_
   refine lp (σ:=Int) (fun k=>(21-k).toNat) (fun k=>0≤k∧k≤21) (fun k=>[(35,.int .i64 k),(0,ptr b o 0),(1,.int .i64 p),(8,.int .i64 (ep (s.cr dep (s.bZ p).1) x.1)),(22,.slice (some ⟨gA,0,none⟩) (s.cr dep (s.bZ p).1).length cl),(23,.int .i64 (s.cr dep (s.bZ p).1).length),(24,.int .i64 x.1),(34,.agg (pf (x.2 (ep (s.cr dep (s.bZ p).1) x.1)) 21))]) (fun k=>XM W (bS [.cells b o 158 (aA s)]) [bk (some ⟨gA,0,none⟩) cl 3 (s.cr dep (s.bZ p).1),.cells b o 158 (aA {s with bX:=pW x.2 (ep (s.cr dep (s.bZ p).1) x.1) p k})]) (0) ?_ (.cons rfl (.cons rfl (S6 rfl rfl rfl rfl rfl rfl))) (fun _ hw2=>by rw[CW];exact XM.pick (.cons .here (.cons .here .nil)) hw2) ?_
   ·
    omega
   intro k hk
   refine gC ?_
   refine cd rfl ?_ ?_<;>intro h4
   ·
    refine XO.v (V.iG rfl rfl Tryz.underlying27 js iX (by omega)) rfl (gO ?_)
    refine cd rfl ?_ ?_<;>intro h5
    ·
     refine sd (by omega) ?_
     refine sd (by omega) ?_
     refine st (.there .here) (aA.n4 _ _ _ (by omega) (by omega) (by first | assumption | (simp_all;done)) _) rfl ?_
     refine sd (by omega) ?_
     refine ag (k+1) ?_ ?_ (.cons rfl (.cons rfl (S6 rfl rfl rfl rfl rfl rfl))) (fun _ hw2=>by first | (rw[←xN (by omega) (by assumption)];exact XM.pick (.cons .here (.cons .here .nil)) hw2) | (rw[←tD (by assumption)];exact XM.pick (.cons .here (.cons .here .nil)) hw2))
     ·
      (first | omega | (simp;done) | (simp;omega))
     ·
      (first | omega | (simp;done) | (simp;omega))
    ·
     refine sd (by omega) ?_
     refine ag (k+1) ?_ ?_ (.cons rfl (.cons rfl (S6 rfl rfl rfl rfl rfl rfl))) (fun _ hw2=>by first | (rw[←xN (by omega) (by assumption)];exact XM.pick (.cons .here (.cons .here .nil)) hw2) | (rw[←tD (by assumption)];exact XM.pick (.cons .here (.cons .here .nil)) hw2))
     ·
      (first | omega | (simp;done) | (simp;omega))
     ·
      (first | omega | (simp;done) | (simp;omega))
   ·
    obtain rfl:k=21:=by omega
    refine sd (by omega) ?_
    refine ag ((x.1+1,pW x.2 (ep (s.cr dep (s.bZ p).1) x.1) p 21)) ?_ ?_ (S5 rfl rfl rfl rfl rfl) (fun _ hw=>XM.pick .h2 hw)
    ·
     (first | omega | (simp;done) | (simp;omega))
    ·
     refine⟨by simp;omega,?_⟩
     rw[hw];exact Cy p0 ⟨hx.1,by omega⟩
  ·
   refine sd (by omega) ?_
   refine st (.there .here) (aA.u7 _ _ (by omega) _) rfl ?_
   refine XE.aV rfl rfl (ab (.cons (.there .here) .nil) rfl ?_)
   try dsimp only[SW.den,SV.den,aj,aZ]
   have hxe:x.1=(s.cr dep (s.bZ p).1).length:=by omega
   rw[hxe]at hw
   simp at hw
   have hv:s.leave p=(0,s.left p):=by unfold SS.leave;rw[if_neg (by omega)]
   rw[hv]
   unfold SS.left
   rw[←G9 (l:=(s.cr dep (s.bZ p).1)) (by rw[hN];exact hW p0),←hw]
   exact⟨rfl,rfl⟩
end Go.X.Sp

namespace Go.X.Kn
open Go Go.Proofs Go.X
set_option maxRecDepth 20000
set_option maxHeartbeats 4000000
theorem JH:cX Tryz.prog 52=true:=by kernel_rfl
theorem Jr:cX Tryz.prog 62=true:=by kernel_rfl
theorem wA:cR Tryz.prog 101 2=some 441:=by kernel_rfl
theorem JX:fT Tryz.prog 92=true:=by kernel_rfl
theorem gu(kb:Nat)(k:KP)(n:Int):Spec Tryz.prog 49 [ptr kb 0 0,.int .i64 n] [.cells kb 0 453 (ah k)] (fun v H1=>((k.live n=0∧v= .tuple #[ptr kb 0 (0+0+n.toNat*22),.nilIface])∨(k.live n≠0∧v= .tuple #[.pointer none,.iface 102 (.int .i64 (k.live n))]))∧H1=[.cells kb 0 453 (ah k)]):=by
  refine Spec.go 27 [0,1,4,5,11,20] [] Tryz.func49 rfl rfl rfl ?_
  intro W
  refine sp 8 rfl ?_ ?_<;>intro h1
  · skip
    refine XE.bC rfl rfl rfl (ab .h1 rfl ?_)
    try dsimp only[SW.den,SV.den,aj,aZ]
    first
      | exact⟨.inl ⟨KP.Be (by omega) (by omega),rfl⟩,rfl⟩
      | (have e:k.live n=1:=by unfold KP.live;rw[if_pos (by omega)]
         exact⟨.inr ⟨by omega,by rw[e]<;>rfl⟩,rfl⟩)
      | (have e:k.live n=2:=by unfold KP.live;rw[if_neg (by omega),if_neg (by omega)]
         exact⟨.inr ⟨by omega,by rw[e]<;>rfl⟩,rfl⟩)
  · skip
    refine cd rfl ?_ ?_<;>intro h2
    · skip
      refine XE.bC rfl rfl rfl (ab .h1 rfl ?_)
      try dsimp only[SW.den,SV.den,aj,aZ]
      have e:k.live n=1:=by unfold KP.live;rw[if_pos (by omega)]
      exact⟨.inr ⟨by omega,by rw[e]<;>rfl⟩,rfl⟩
    · skip
      refine sd (by omega) ?_
      refine ld .here (ah.ot _ (by omega)) ?_
      refine cd rfl ?_ ?_<;>intro h3
      · skip
        refine XE.bC rfl rfl rfl (ab .h1 rfl ?_)
        try dsimp only[SW.den,SV.den,aj,aZ]
        have e:k.live n=2:=by unfold KP.live;rw[if_neg (by omega),if_neg (by omega)]
        exact⟨.inr ⟨by omega,by rw[e]<;>rfl⟩,rfl⟩
      · skip
        refine sd (by omega) ?_
        refine XE.bC rfl rfl rfl (ab .h1 rfl ?_)
        try dsimp only[SW.den,SV.den,aj,aZ]
        first
          | exact⟨.inl ⟨KP.Be (by omega) (by omega),rfl⟩,rfl⟩
          | (have e:k.live n=1:=by unfold KP.live;rw[if_pos (by omega)]
             exact⟨.inr ⟨by omega,by rw[e]<;>rfl⟩,rfl⟩)
          | (have e:k.live n=2:=by unfold KP.live;rw[if_neg (by omega),if_neg (by omega)]
             exact⟨.inr ⟨by omega,by rw[e]<;>rfl⟩,rfl⟩)
theorem gN(kb:Nat)(k:KP)(s:Sp.SS)(n:Int):Spec Tryz.prog 52 [ptr kb 0 0,.int .i64 n] [.cells kb 0 453 (ah k),.cells k.sb 0 158 (Sp.aA s)] (fun v H1=>v= .int .i64 (s.bZ n).1∧H1=[.cells kb 0 453 (ah k),.cells k.sb 0 158 (Sp.aA s)]):=by
 refine Spec.go 17 [0,1,4,5] [] Tryz.func52 rfl rfl rfl ?_
 intro W
 refine ld .here (ah.mT _) ?_
 refine ca (Sp.LG _ _ s _) (.cons (.there .here) .nil) ?_
 rintro _ _ ⟨⟨rfl,hof⟩,rfl⟩
 refine gO ?_
 refine XE.aV rfl rfl (ab (.cons (.there .here) .h1) rfl ?_)
 try dsimp only[SW.den,SV.den,aj,aZ]
 exact⟨rfl,rfl⟩
theorem rM(kb:Nat)(k:KP)(s:Sp.SS)(z:Int):Spec Tryz.prog 104 [ptr kb 0 0,.int .i64 z] [.cells kb 0 453 (ah k),.cells k.sb 0 158 (Sp.aA s)] (fun v H1=>v= .int .i64 (s.find z 1).1∧H1=[.cells kb 0 453 (ah k),.cells k.sb 0 158 (Sp.aA s)]):=by
 refine Spec.go 17 [0,1,4,5] [] Tryz.func104 rfl rfl rfl ?_
 intro W
 refine ld .here (ah.mT _) ?_
 refine ca (Sp.Ft _ _ s _ _) (.cons (.there .here) .nil) ?_
 rintro _ _ ⟨rfl,rfl⟩
 refine gO ?_
 refine XE.aV rfl rfl (ab (.cons (.there .here) .h1) rfl ?_)
 try dsimp only[SW.den,SV.den,aj,aZ]
 exact⟨rfl,rfl⟩
theorem uY(kb:Nat)(k:KP)(s:Sp.SS)(n:Int):Spec Tryz.prog 15 [ptr kb 0 0,.int .i64 n] [.cells kb 0 453 (ah k),.cells k.sb 0 158 (Sp.aA s)] (fun v H1=>v=(if k.live n=0 then .tuple #[.int .i64 (s.pid n (s.bZ n).1).1,bM 102 (s.pid n (s.bZ n).1).2]else .tuple #[.int .i64 0,bM 102 (k.live n)])∧H1=[.cells kb 0 453 (ah k),.cells k.sb 0 158 (Sp.aA s)]):=by
 refine Spec.go 28 [0,1,4,5,7,15] [] Tryz.func15 rfl rfl rfl ?_
 intro W
 refine ca (gu kb _ _) .h1 ?_
 rintro _ _ ⟨⟨hl,rfl⟩ | ⟨hl,rfl⟩,rfl⟩
 ·
  try dsimp only[aC,aS,aM,aR,aN,aP,aQ,aU,aO,aT,aG,aH,aB,aF]
  obtain⟨hlr,hls⟩:=KP.dN hl
  refine gO ?_
  refine XC.gJ mixed (f:=13) (l:= #[false,false,false,false,false,false,false,false,false,false,false,false,false]) rfl rfl XM.ko ?_
  refine XQ.pv (i:=0) (l':= #[true,false,false,false,false,false,false,false,false,false,false,false,false]) rfl (by kernel_rfl) rfl (V.move rfl) rfl rfl ?_
  refine XQ.pv (i:=1) (l':= #[true,true,false,false,false,false,false,false,false,false,false,false,false]) rfl (by kernel_rfl) rfl (V.bL rfl) rfl rfl ?_
  refine XQ.pv (i:=2) (l':= #[true,true,true,false,false,false,false,false,false,false,false,false,false]) rfl (by kernel_rfl) rfl (V.fieldAddr rfl wA) rfl rfl ?_
  refine XQ.load (i:=3) (l':= #[true,true,true,true,false,false,false,false,false,false,false,false,false]) (.cells _ _ _ _) [8] rfl (by kernel_rfl) rfl .here (V.load rfl dJ (ah.mT _) JX) rfl (by kernel_rfl) rfl ?_
  refine XQ.pv (i:=4) (l':= #[true,true,true,true,true,false,false,false,false,false,false,false,false]) rfl (by kernel_rfl) rfl (V.move rfl) rfl rfl ?_
  refine XQ.pv (i:=5) (l':= #[true,true,true,true,true,true,false,false,false,false,false,false,false]) rfl (by kernel_rfl) rfl (V.move rfl) rfl rfl ?_
  refine XQ.pv (i:=6) (l':= #[true,true,true,true,true,true,true,false,false,false,false,false,false]) rfl (by kernel_rfl) rfl (V.move rfl) rfl rfl ?_
  refine XQ.call (i:=7) (l':= #[true,true,true,true,true,true,true,true,false,false,false,false,false]) rfl (by kernel_rfl) rfl rfl (gN kb _ s n) .h2 JH rfl (by rintro _ _ ⟨rfl,rfl⟩;all_goals(intro _ hw';exact⟨fun _=>dm .here _ hw',trivial⟩)) ?_
  rintro _ _ ⟨rfl,rfl⟩
  refine XQ.call (i:=8) (l':= #[true,true,true,true,true,true,true,true,true,false,false,false,false]) rfl (by kernel_rfl) rfl rfl (Sp.xv _ _ s _ _) (.cons (.there .here) .nil) Jr rfl (by rintro _ _ ⟨rfl,rfl⟩;all_goals(intro _ hw';exact⟨fun hs=>(hs 8 (by first | (simp;done) | (simp;rfl)) rfl).elim,trivial⟩)) ?_
  rintro _ _ ⟨rfl,rfl⟩
  refine XQ.pv (i:=9) (l':= #[true,true,true,true,true,true,true,true,true,true,false,false,false]) rfl (by kernel_rfl) rfl (V.extract rfl rfl) rfl rfl ?_
  refine XQ.pv (i:=10) (l':= #[true,true,true,true,true,true,true,true,true,true,true,false,false]) rfl (by kernel_rfl) rfl (V.extract rfl rfl) rfl rfl ?_
  refine XQ.pv (i:=11) (l':= #[true,true,true,true,true,true,true,true,true,true,true,true,false]) rfl (by kernel_rfl) rfl (V.assign rfl) rfl rfl ?_
  refine XQ.pv (i:=12) (l':= #[true,true,true,true,true,true,true,true,true,true,true,true,true]) rfl (by kernel_rfl) rfl (V.assign rfl) rfl rfl ?_
  refine XQ.done (by kernel_rfl) ?_
  refine gE ?_
  refine XE.bC rfl rfl rfl (ab (.cons (.there .here) .h1) rfl ?_)
  try dsimp only[SW.den,SV.den,aj,aZ]
  rw[if_pos hl];exact⟨rfl,rfl⟩
 ·
  try dsimp only[aC,aS,aM,aR,aN,aP,aQ,aU,aO,aT,aG,aH,aB,aF]
  refine gO ?_
  refine XE.bC rfl rfl rfl (ab .h2 rfl ?_)
  try dsimp only[SW.den,SV.den,aj,aZ]
  rw[if_neg (by assumption),aW _ (by assumption)];exact⟨rfl,rfl⟩
end Go.X.Kn
