import Derived.Test.YthdinakloheinaaGreatDoorProg
import Derived.Test.YthdinakloheinaaGreatDoorkVA
import Derived.Test.YthdinakloheinaaGreatDoorXClose
set_option linter.all false
namespace Go.X
open Go Go.Proofs Go.X
instance:Tb Tryz.prog:=⟨⟨(.nd 10432 [0,1] (.nd 5696 [0,1,2,3,4,5,11] (.nd 2432 [0,1] (.nd 1152 [0] (.nd 832 [0,1] (.nd 512 [0,1,2,3] (.nd 448 [0,1,2,3] .lf .lf) .lf) (.nd 896 [0,1] .lf .lf)) (.nd 1920 [0,1,2,3,4,5,6,7] (.nd 1216 [0] .lf .lf) (.nd 1984 [0,1,2,3,4,5,6,7] .lf .lf))) (.nd 4224 [0,1,2,3,4] (.nd 3712 [0,1,2,3] (.nd 3648 [0,1,2,3] (.nd 2496 [0,1] .lf .lf) .lf) (.nd 4160 [0,1,2,3,4] .lf .lf)) (.nd 5568 [0,1,2] (.nd 5504 [0,1,2] .lf .lf) (.nd 5632 [0,1,2,3,4,5,11] .lf .lf)))) (.nd 9216 [0,1,2] (.nd 8512 [0] (.nd 8320 [0,1,2] (.nd 6464 [0,440,441,442,443,444,445,446,447] (.nd 6400 [0,440,441,442,443,444,445,446,447] .lf .lf) .lf) (.nd 8384 [0,1,2] .lf .lf)) (.nd 9024 [0,1] (.nd 8576 [0] .lf .lf) (.nd 9088 [0,1] .lf .lf))) (.nd 9920 [0,1,2] (.nd 9664 [0,50] (.nd 9600 [0,50] (.nd 9280 [0,1,2] .lf .lf) .lf) (.nd 9856 [0,1,2] .lf .lf)) (.nd 10176 [0,138] (.nd 10112 [0,138] .lf .lf) (.nd 10368 [0,1] .lf .lf))))) (.nd 12544 [0,1,2] (.nd 11584 [0,1,2,3,4] (.nd 10880 [0,1,2] (.nd 10688 [0,2] (.nd 10624 [0,1,3] (.nd 10560 [0,1,3] .lf .lf) .lf) (.nd 10752 [0,2] .lf .lf)) (.nd 11264 [0,1,513] (.nd 10944 [0,1,2] .lf .lf) (.nd 11328 [0,1,513] .lf .lf))) (.nd 11968 [0,1,2,3,4,5,6,71,72,73,74,75] (.nd 11840 [0,1] (.nd 11776 [0,1] (.nd 11648 [0,1,2,3,4] .lf .lf) .lf) (.nd 11904 [0,1,2,3,4,5,6,71,72,73,74,75] .lf .lf)) (.nd 12160 [0,2280] (.nd 12096 [0,2280] .lf .lf) (.nd 12480 [0,1,2] .lf .lf)))) (.nd 16192 [0,1] (.nd 13952 [0,320] (.nd 13760 [0,1,2,3,4,5,6,7] (.nd 13504 [0,1,2,3] (.nd 13440 [0,1,2,3] .lf .lf) .lf) (.nd 13824 [0,1,2,3,4,5,6,7] .lf .lf)) (.nd 15808 [0,7] (.nd 14016 [0,320] .lf .lf) (.nd 15872 [0,7] .lf .lf))) (.nd 20352 [0,1,2,3] (.nd 19968 [0,1] (.nd 16256 [0,1] .lf .lf) (.nd 20032 [0,1] .lf .lf)) (.nd 21056 [0,1,2,3,4,5,6,7,8,9,10] (.nd 20416 [0,1,2,3] .lf .lf) (.nd 21120 [0,1,2,3,4,5,6,7,8,9,10] .lf .lf)))))),(.nd 207 [4] (.nd 124 [7] (.nd 57 [7,7] (.nd 38 [7,7] (.nd 27 [7,7,6,7,7,1,1] (.nd 2 [6,6,5,6,6,7,7,3,3,3,6,7,7,2,2,2,7,7,1,6,4,2] .lf .lf) .lf) (.nd 53 [7,7,4] .lf .lf)) (.nd 82 [2,7,6,7,7,7,7,7,7,2,2,2,2,2,2,2,2,7,7,7,6] (.nd 79 [2] (.nd 64 [7,7,7,7] .lf .lf) .lf) (.nd 106 [2] .lf .lf))) (.nd 162 [7,7,4,7,7,7,7] (.nd 149 [7,7,7] (.nd 140 [4,7,7,7,7,7] (.nd 130 [7,7,7,7,7] .lf .lf) .lf) (.nd 154 [7,7,7,7,7,7] .lf .lf)) (.nd 181 [7,7,4,7,7,7,7,7,7,7,2] (.nd 170 [7,7,2,7,7,7,7,7,2] .lf .lf) (.nd 194 [7,7,7] .lf .lf)))) (.nd 266 [2] (.nd 246 [7,7,7] (.nd 228 [2] (.nd 215 [7,7,7,7,7] (.nd 210 [7,7] .lf .lf) .lf) (.nd 231 [4,2] .lf .lf)) (.nd 256 [7,6,6] (.nd 252 [2,7,7] .lf .lf) (.nd 262 [2] .lf .lf))) (.nd 302 [2] (.nd 294 [6] (.nd 282 [6] (.nd 269 [4] .lf .lf) .lf) (.nd 299 [7] .lf .lf)) (.nd 318 [7,7,7,7,7,6,6] (.nd 311 [7,7,7,7] .lf .lf) (.nd 326 [2,6,6,7,7] .lf .lf))))),(.nd 207 [1] (.nd 124 [10] (.nd 57 [4,4] (.nd 38 [2,2] (.nd 27 [21,21,1,8,8,1,1] (.nd 2 [1,1,1,1,1,4,4,1,1,1,1,2,2,1,1,1,1,1,1,1,1,1] .lf .lf) .lf) (.nd 53 [128,2560,1] .lf .lf)) (.nd 82 [1,6,1,9,11,11,22,22,440,1,1,1,1,1,1,1,1,6,453,453,1] (.nd 79 [1] (.nd 64 [20,5,5,50] .lf .lf) .lf) (.nd 106 [1] .lf .lf))) (.nd 162 [2,2,1,4,4,4,4] (.nd 149 [10,60,60] (.nd 140 [1,2,2,32,34,34] (.nd 130 [3,3,24,24,24] .lf .lf) .lf) (.nd 154 [23,23,138,20,158,158] .lf .lf)) (.nd 181 [5,5,1,65,65,76,76,2280,2281,2281,1] (.nd 170 [3,3,1,8,512,64,577,577,1] .lf .lf) (.nd 194 [120,122,122] .lf .lf)))) (.nd 269 [1] (.nd 246 [7,71,71] (.nd 228 [1] (.nd 215 [8,8,320,321,321] (.nd 210 [4,4] .lf .lf) .lf) (.nd 231 [1,1] .lf .lf)) (.nd 262 [1] (.nd 256 [32,1,1] (.nd 252 [1,2,2] .lf .lf) .lf) (.nd 266 [1] .lf .lf))) (.nd 311 [256,2,2,32] (.nd 299 [64] (.nd 294 [1] (.nd 282 [1] .lf .lf) .lf) (.nd 302 [1] .lf .lf)) (.nd 323 [1,1] (.nd 318 [4,4] .lf .lf) (.nd 326 [1,1,1,11,11] .lf .lf))))),(.nd 149 [10] (.nd 85 [9] (.nd 64 [20] (.nd 53 [128,20] (.nd 27 [21,21] .lf .lf) .lf) (.nd 83 [6] (.nd 67 [10] .lf .lf) .lf)) (.nd 124 [10] (.nd 99 [6] (.nd 90 [20] .lf .lf) .lf) (.nd 143 [16] (.nd 132 [8] .lf .lf) .lf))) (.nd 246 [7] (.nd 188 [30] (.nd 173 [8,64,64] (.nd 156 [6,20] .lf .lf) .lf) (.nd 217 [40] (.nd 194 [24] .lf .lf) .lf)) (.nd 311 [256] (.nd 299 [64] (.nd 256 [32] .lf .lf) .lf) (.nd 320 [0] (.nd 314 [16] .lf .lf) .lf)))),(.nd 149 [1] (.nd 85 [1] (.nd 64 [1] (.nd 53 [1,128] (.nd 27 [1,1] .lf .lf) .lf) (.nd 83 [1] (.nd 67 [5] .lf .lf) .lf)) (.nd 124 [1] (.nd 99 [1] (.nd 90 [22] .lf .lf) .lf) (.nd 143 [2] (.nd 132 [3] .lf .lf) .lf))) (.nd 246 [1] (.nd 188 [76] (.nd 173 [1,8,1] (.nd 156 [23,1] .lf .lf) .lf) (.nd 217 [8] (.nd 194 [5] .lf .lf) .lf)) (.nd 311 [1] (.nd 299 [1] (.nd 256 [1] .lf .lf) .lf) (.nd 320 [1] (.nd 314 [2] .lf .lf) .lf)))),(.nd 183 [2] (.nd 140 [3] (.nd 55 [1] (.nd 22 [8] .lf .lf) .lf) (.nd 164 [4] .lf .lf)) (.nd 231 [1] (.nd 207 [1] .lf .lf) (.nd 269 [2] .lf .lf))),(.nd 287 [0,0,0,0,0] (.nd 269 [0] (.nd 2 [0,0,0,0,0,0,0,0,0,0,0,0,0,0,0,0,0,0,0,0,0,0,0,0,0,0,0,0,0,0,0,0,0,0,0,0,0,0,0,0,0,0,0,0,0,0,0,0,0,0,0,0,0,0,0,0,0,0,0,0,0,0,0,0,0,0,0,0,0,0,0,0,0,0,0,0,0,0,0,0,0,0,0,0,0,0,0,0,0,0,0,0,0,0,0,0,0,0,0,0,0,0,0,0,0,0,0,0,0,0,0,0,0,0,0,0,0,0,0,0,0,0,0,0,0,0,0,0,0,0,0,0,0,0,0,0,0,0,0,0,0,0,0,0,0,0,0,0,0,0,0,0,0,0,0,0,0,0,0,0,0,0,0,0,0,0,0,0,0,0,0,0,0,0,0,0,0,0,0,0,0,0,0,0,0,0,0,0,0,0,0,0,0,0,0,0,0,0,0,0,0,0,0,0,0,0,0,0,0,0,0,0,0,0,0,0,0,0,0,0,0,0,0,0,0,0,0,0,0,0,0,0,0,0,0,0,0,0,0,0,0,0,0,0,0,0,0,0,0,0,0,0,0,0,0,0,0,0,0,0,0,0,0,0,0,0] .lf .lf) (.nd 271 [0,0,0,0,0,0,0,0,0,0,0,0,0,0,0] .lf .lf)) (.nd 296 [0] (.nd 293 [0,0] .lf .lf) (.nd 321 [0] .lf .lf)))⟩,kq⟩
def mixed:Tryz.prog.follows .mixedOrders=true:=kq
theorem iz(T:TypeId):az T 0= .nilIface:=rfl
theorem Ac(T:TypeId):az T 1= .iface T (iI 1):=rfl
theorem Ad(T:TypeId):az T 2= .iface T (iI 2):=rfl
theorem Ae(T:TypeId):az T 3= .iface T (iI 3):=rfl
theorem Af(T:TypeId):az T 4= .iface T (iI 4):=rfl
theorem Ag(T:TypeId):az T 5= .iface T (iI 5):=rfl
theorem Ah(T:TypeId):az T 6= .iface T (iI 6):=rfl
theorem Ai(T:TypeId):az T 7= .iface T (iI 7):=rfl
theorem Aj(T:TypeId):az T 8= .iface T (iI 8):=rfl
theorem Ak(T:TypeId):az T 9= .iface T (iI 9):=rfl
theorem vc(T:TypeId):az T 10= .iface T (iI 10):=rfl
theorem vd(T:TypeId):az T 11= .iface T (iI 11):=rfl
theorem ve(T:TypeId):az T 12= .iface T (iI 12):=rfl
theorem vf(T:TypeId):az T 13= .iface T (iI 13):=rfl
end Go.X

namespace Go.X.Sp
open Go Go.Proofs Go.X
set_option maxRecDepth 20000
set_option maxHeartbeats 4000000
def ace:nq Tryz.prog 155=true:=kq
def r7(z:Int):∀ w,(Instr.buildSlice 55 1 #[(0,iI z)]).run Tryz.prog w= .ok (.slice (some ⟨w.heap.size,0,none⟩) 1 1) (w.alloc (.cells #[iI z] 3)):=fun w=>kq
def o8:rh Tryz.prog 3 1=true:=kq
def kE:jw Tryz.prog 3=true:=kq
def QR:fk Tryz.prog 155=some 23:=kq
def nI:fk Tryz.prog 3=some 1:=kq
def vg(p:Int):Spec Tryz.prog 121 [iI p] [] (fun v H1=>v= .agg (PW p)/\H1=[]):=by
 apply Spec.go 15 [0,2,3,4,7,8] [] Tryz.func121 rfl rfl rfl;intro W;apply XO.bN (z:=.agg rF) (m:=23) (C:=cellsOf rF) kq rfl (fun _ _=>rfl) rfl;intro br;apply gO;refine XO.v (V.build (vs:= #[(0,.bool true),(1,iI p)]) rfl (v:=.agg #[.bool true,iI p,iI 0,iI 0,iI 0,iI 0,iI 0,iI 0,iI 0,iI 0,iI 0,iI 0,iI 0,iI 0,iI 0,iI 0,iI 0,iI 0,iI 0,iI 0,iI 0,iI 0,iI 0]) fun _=>kq) rfl (gO ?_);apply XO.bN (z:=.agg rF) (m:=23) (C:=cellsOf rF) kq rfl (fun _ _=>rfl) rfl;intro bx;apply gO;apply gD .aa (Tm p _ Jl) rfl ⟨rfl,rfl⟩;refine lp (σ:=Int) (fun k=>(21-k).toNat) (fun k=>0<=k/\k<=21) (fun k=>[(7,iI k),(2,aC br 0 0),(3,aC bx 0 0)]) (fun k=>XM W (bZ []) [.cells br 0 23 (cellsOf rF),.cells bx 0 23 (vE ⟨p,ED k⟩)]) (0) ?_ (S3 rfl rfl rfl) (fun _ hw=>XM.pick (pk [1,0]) hw) ?_
 ·omega
 intro k hk;apply gC;refine cd rfl ?_ ?_<;>intro h1
 ·refine sd (st (.av .aa) (Cy _ _ og _) rfl (sd (ag (k+1) ?_ ?_ (S3 rfl rfl rfl) fun _ hw=>by rw[<-Jk k];exact XM.pick (pz 2) hw)));all_goals omega
 ·obtain rfl:k=21:=og;refine lZ (.av .aa) (Tj p) (gD .aa (aby _ Jl p) rfl ⟨rfl,rfl⟩ (WQ rfl rfl .aa (Tj p) ace QR (ad .nil rfl ?_)));simp_all
def Al(b o:Nat)(s:SS)(n:Int):Spec Tryz.prog 119 [aC b o 0,iI n] [.cells b o 158 (aP s)] (fun v H1=>((s.is n=0/\0<=n/\n<6/\s.aa n=true)/\v= .nilIface/\H1=[.cells b o 158 (aP s)])\/(s.is n≠0/\v= .iface 102 (iI (s.is n))/\H1=[.cells b o 158 (aP s)])):=by
 apply Spec.go 21 [0,1,4,10,19] [] Tryz.func119 rfl rfl rfl;intro W;refine sp 7 rfl ?_ ?_<;>intro h1
 ·refine ah rfl rfl (ad .h1 rfl ?_);try dsimp only[aL,aJ,aD,aR]
  rcases s.jo n with⟨q,q1,q2,q3⟩ | ⟨q,q1⟩ | ⟨q,q1,q2,q3⟩<;>first | (exfalso;omega) | (exfalso;simp_all;done) | exact .inl ⟨⟨q,q1,q2,q3⟩,rfl,rfl⟩ | exact .inr ⟨og,by rw[q],rfl⟩
 ·refine cd rfl ?_ ?_<;>intro h2
  ·refine ah rfl rfl (ad .h1 rfl ?_);try dsimp only[aL,aJ,aD,aR]
   rcases s.jo n with⟨q,q1,q2,q3⟩ | ⟨q,q1⟩ | ⟨q,q1,q2,q3⟩<;>first | (exfalso;omega) | (exfalso;simp_all;done) | exact .inl ⟨⟨q,q1,q2,q3⟩,rfl,rfl⟩ | exact .inr ⟨og,by rw[q],rfl⟩
  ·refine sd (ld .aa (kh _ _) ?_);refine we rfl ?_ ?_<;>intro h3
   ·try simp only[sb]at h3
    refine ah rfl rfl (ad .h1 rfl ?_);try dsimp only[aL,aJ,aD,aR]
    rcases s.jo n with⟨q,q1,q2,q3⟩ | ⟨q,q1⟩ | ⟨q,q1,q2,q3⟩<;>first | (exfalso;omega) | (exfalso;simp_all;done) | exact .inl ⟨⟨q,q1,q2,q3⟩,rfl,rfl⟩ | exact .inr ⟨og,by rw[q],rfl⟩
   ·try simp only[sb]at h3
    refine ah rfl rfl (ad .h1 rfl ?_);try dsimp only[aL,aJ,aD,aR]
    rcases s.jo n with⟨q,q1,q2,q3⟩ | ⟨q,q1⟩ | ⟨q,q1,q2,q3⟩<;>first | (exfalso;omega) | (exfalso;simp_all;done) | exact .inl ⟨⟨q,q1,q2,q3⟩,rfl,rfl⟩ | exact .inr ⟨og,by rw[q],rfl⟩
def acf(b o:Nat)(s:SS)(aO:Int->Nat)(hD:s.Deep aO)(n:Int)(hn:0<=n/\n<6/\s.aa n=true):Spec Tryz.prog 120 [aC b o 0,iI n] [.cells b o 158 (aP s)] (fun v H1=>∃ p cap,v= .slice p (s.cC aO n).length cap/\H1=[db p cap 3 (s.cC aO n),.cells b o 158 (aP s)]):=by
 apply Spec.go 22 [0,1,4,5,6,9] [] Tryz.func120 rfl rfl rfl;intro W;apply XR.fc 3 1;refine lp (σ:=Int×List Int×Option Addr×Nat) (fun x=>if x.1= -1 then 0 else aO x.1) (fun x=>(x.1= -1/\x.2.1=s.cC aO n)\/((0<=x.1/\x.1<6/\s.aa x.1=true)/\x.2.1++s.ja (aO x.1) x.1=s.cC aO n)) (fun x=>[(5,.slice x.2.2.1 x.2.1.length x.2.2.2),(6,iI x.1),(0,aC b o 0)]) (fun x=>XM W (bZ [.cells b o 158 (aP s)]) [db x.2.2.1 x.2.2.2 3 x.2.1,.cells b o 158 (aP s)]) ((n,[],none,0)) ?_ (S3 rfl rfl rfl) (fun _ hw=>XM.pick (pz 2) hw) ?_
 ·exact .inr ⟨hn,rfl⟩
 intro x hx;apply gC;refine cd rfl ?_ ?_<;>intro h1
 ·obtain⟨hx,hw⟩:=hx.resolve_left og;have hlen:x.2.1.length<=4:=by
   have h9:=congrArg List.length hw;rw[List.length_append,SS.cC,SS.pA,SS.pA]at h9;have:=(hD.d n hn.1 hn.2.1 hn.2.2).2.1;omega
  obtain⟨Il,AB,Wx⟩:=id hx;apply XO.buildSlice (A:= #[iI _]) (vs:= #[(0,iI _)]) rfl (r7 _) rfl rfl;intro h2;apply gO;apply jM (e:=3) rfl rfl Tryz.underlying55 o8 (.av .aa) .aa og rfl;intro h3 h4;apply gO;refine sd (ld (.t2 .aa) (kX _ _) (ag ((s.aA x.1,x.2.1++[x.1],_,_)) ?_ ?_ (S3 rfl rfl rfl) fun _ hw=>XM.pick (pk [0,1]) hw))
  ·show(if s.aA x.1= -1 then 0 else aO (s.aA x.1))<(if x.1= -1 then 0 else aO x.1);obtain⟨h1,h2,h3⟩:=hx;by_cases q:s.aA x.1= -1
   ·have:=(hD.d x.1 h1 h2 h3).1;grind
   grind [SS.Jo]
  grind [SS.Xr,SS.Jo]
 ·refine ah rfl rfl (ad (pz 2) rfl ?_);simp_all[aL,aJ]
def Gc(b o:Nat)(s:SS)(n:Int)(hn:0<=n/\n<6)(hh:s.aa n=true):Spec Tryz.prog 192 [aC b o 0,iI n] [.cells b o 158 (aP s)] (fun v H1=>∃ p cap,v= .slice p (s.dw n).length cap/\H1=[db p cap 3 (s.dw n),.cells b o 158 (aP s)]):=by
 apply Spec.go 26 [0,1,4,5,7,14,15,16,19] [] Tryz.func192 rfl rfl rfl;intro W;refine XR.fc 3 1 (sd (lZ (.av .aa) (Cz _ _ og aq) ?_));refine lp (σ:=Int×List Int×Option Addr×Nat) (fun x=>(21-x.1).toNat) (fun x=>(0<=x.1/\x.1<=21)/\x.2.1=dQ (s.bR n) x.1.toNat) (fun x=>[(5,.slice x.2.2.1 x.2.1.length x.2.2.2),(15,iI x.1),(14,.agg (GN (s.bR n) 21))]) (fun x=>XM W (bZ [.cells b o 158 (aP s)]) [db x.2.2.1 x.2.2.2 3 x.2.1,.cells b o 158 (aP s)]) ((0,[],none,0)) ?_ (S3 rfl rfl rfl) (fun _ hw=>XM.pick (pz 2) hw) ?_
 ·exact⟨og,rfl⟩
 intro x hx;obtain⟨hx,hL⟩:=hx;have hlen:=nw (s.bR n) x.1.toNat;rw[<-hL]at hlen;have hnx:=EF (s.bR n) hx.1;apply gC;refine cd rfl ?_ ?_<;>intro h1
 ·refine XO.v (ll rfl rfl Tryz.underlying27 nI kE) rfl (gO ?_);refine cd rfl ?_ ?_<;>intro h2
  ·apply XO.buildSlice (A:= #[iI _]) (vs:= #[(0,iI _)]) rfl (r7 _) rfl rfl;intro h3;apply gO;apply jM (e:=3) rfl rfl Tryz.underlying55 o8 (.av .aa) .aa og rfl;intro h4 h5;apply gO;refine sd (ag ((x.1+1,x.2.1++[s.bR n x.1],_,_)) ?_ ?_ (S3 rfl rfl rfl) fun _ hw=>XM.pick (pk [0,1]) hw);all_goals grind
  ·refine sd (ag ((x.1+1,x.2.1,_,_)) ?_ ?_ (S3 rfl rfl rfl) fun _ hw=>XM.pick (pz 2) hw);all_goals grind
 ·refine ah rfl rfl (ad (pz 2) rfl ?_);have Yw:x.1=21:=og;rw[Yw]at hL;exact⟨_,_,by rw[hL];rfl,by rw[hL];rfl⟩
def MH(b o:Nat)(s:SS)(p:Int):Spec Tryz.prog 118 [aC b o 0,iI p] [.cells b o 158 (aP s)] (fun v H1=>(v= .tuple #[iI (s.bI p).1,az 102 (s.bI p).2]/\((s.bI p).2=0->(0<=p/\p<20)/\0<=s.loc p/\(s.bI p).1=s.loc p))/\H1=[.cells b o 158 (aP s)]):=by
 apply Spec.go 27 [0,1,4,5,11,19] [] Tryz.func118 rfl rfl rfl;intro W;refine sp 8 rfl ?_ ?_<;>intro h1
 ·refine ao rfl rfl rfl (ad .h1 rfl ?_);grind [aL,aJ,aR,SS.bI,az]
 ·refine cd rfl ?_ ?_<;>intro h2
  ·refine ao rfl rfl rfl (ad .h1 rfl ?_);grind [aL,aJ,aR,SS.bI,az]
  ·refine sd (ld .aa (rD _ _) ?_);refine cd rfl ?_ ?_<;>intro h3
   ·refine ao rfl rfl rfl (ad .h1 rfl ?_);grind [aL,aJ,aR,SS.bI,az]
   ·refine sd (ld .aa (rD _ _) (ao rfl rfl rfl (ad .h1 rfl ?_)));grind [aL,aJ,aR,SS.bI,az]
def QT(b o:Nat)(s:SS)(n:Int):Spec Tryz.prog 191 [aC b o 0,iI n] [.cells b o 158 (aP s)] (fun v H1=>∃ p cap,v= .tuple #[.slice p (s.mem n).1.length cap,az 102 (s.mem n).2]/\H1=[db p cap 3 (s.mem n).1,.cells b o 158 (aP s)]):=by
  apply Spec.go 16 [0,1,4,5,6,11] [] Tryz.func191 rfl rfl rfl
  intro W
  refine ca (Al _ _ _ _) .h1 ?_
  rintro _ _ (⟨h1,rfl,rfl⟩ | ⟨h1,rfl,rfl⟩)
  · skip
    obtain⟨i0,i1,i2,i3⟩:=h1
    apply gO
    refine ca (Gc _ _ _ _ og aq) .h1 ?_
    rintro _ _ ⟨pl,cl,rfl,rfl⟩
    apply gO
    refine ao rfl rfl rfl (ad (pz 2) rfl ?_)
    first
    | (have hm:s.mem n=([],s.is n):=by unfold SS.mem;rw[if_pos aq]
       rw[hm];exact⟨none,0,by rw[aQ _ aq];rfl,rfl⟩)
    | (have hm:s.mem n=(s.dw n,0):=by unfold SS.mem;rw[if_neg (by simp_all)]
       rw[hm];exact⟨_,_,rfl,rfl⟩)
  · skip
    have i0:=h1
    apply gO
    refine XR.fc 3 1 (ao rfl rfl rfl (ad (pz 2) rfl ?_))
    first
    | (have hm:s.mem n=([],s.is n):=by unfold SS.mem;rw[if_pos aq]
       rw[hm];exact⟨none,0,by rw[aQ _ aq];rfl,rfl⟩)
    | (have hm:s.mem n=(s.dw n,0):=by unfold SS.mem;rw[if_neg (by simp_all)]
       rw[hm];exact⟨_,_,rfl,rfl⟩)
def ae9(b o:Nat)(s:SS):Spec Tryz.prog 91 [aC b o 0] [.cells b o 158 (aP s)] (fun v H1=>∃ p cap,v= .slice p (fl s.aa 6).length cap/\H1=[db p cap 3 (fl s.aa 6),.cells b o 158 (aP s)]):=by
 apply Spec.go 21 [0,2,3,4,5,6,14] [] Tryz.func91 rfl rfl rfl;intro W;apply XR.fc 3 1;refine lp (σ:=Int×List Int×Option Addr×Nat) (fun x=>(6-x.1).toNat) (fun x=>(0<=x.1/\x.1<=6)/\x.2.1=fl s.aa x.1.toNat) (fun x=>[(3,.slice x.2.2.1 x.2.1.length x.2.2.2),(5,iI x.1),(0,aC b o 0)]) (fun x=>XM W (bZ [.cells b o 158 (aP s)]) [db x.2.2.1 x.2.2.2 3 x.2.1,.cells b o 158 (aP s)]) ((0,[],none,0)) ?_ (S3 rfl rfl rfl) (fun _ hw=>XM.pick (pz 2) hw) ?_
 ·grind [fl]
 intro x hx;obtain⟨hx,hL⟩:=hx;have hlen:=ia s.aa x.1.toNat;rw[<-hL]at hlen;have hnx:=uP s.aa hx.1;apply gC;refine cd rfl ?_ ?_<;>intro h1
 ·refine sd (ld (.av .aa) (kh _ _) ?_);refine we rfl ?_ ?_<;>intro h2
  ·try simp only[sb]at h2
   apply XO.buildSlice (A:= #[iI _]) (vs:= #[(0,iI _)]) rfl (r7 _) rfl rfl;intro h3;apply gO;apply jM (e:=3) rfl rfl Tryz.underlying55 o8 (.av .aa) .aa og rfl;intro h4 h5;apply gO;refine sd (ag ((x.1+1,x.2.1++[x.1],_,_)) ?_ ?_ (S3 rfl rfl rfl) fun _ hw=>XM.pick (pk [0,1]) hw);all_goals grind
  ·try simp only[sb]at h2
   refine sd (ag ((x.1+1,x.2.1,_,_)) ?_ ?_ (S3 rfl rfl rfl) fun _ hw=>XM.pick (pz 2) hw);all_goals grind
 ·refine ah rfl rfl (ad (pz 2) rfl ?_);try dsimp only[aL,aJ,aD,aR]
  have Yw:x.1=6:=og;simp_all
def Gd(b o:Nat)(s:SS)(p n:Int):Spec Tryz.prog 62 [aC b o 0,iI p,iI n] [.cells b o 158 (aP s)] (fun v H1=>v= .tuple #[iI (s.fS p n).1,az 102 (s.fS p n).2]/\H1=[.cells b o 158 (aP s)]):=by
 apply Spec.go 41 [0,1,2,6,7,8,9,10,15,22,30,31,32,37] [] Tryz.func62 rfl rfl rfl;intro W;refine ca (Al _ _ _ _) .h1 ?_;rintro _ _ (⟨h1,rfl,rfl⟩ | ⟨h1,rfl,rfl⟩)
 ·obtain⟨i0,i1,i2,i3⟩:=h1;apply gO;refine sp 19 rfl ?_ ?_<;>intro h2
  ·refine ao rfl rfl rfl (ad .h1 rfl ?_);grind [aL,aJ,aR,aQ,SS.uO]
  ·refine cd rfl ?_ ?_<;>intro h3
   ·refine ao rfl rfl rfl (ad .h1 rfl ?_);grind [aL,aJ,aR,aQ,SS.uO]
   ·refine sd (lZ .aa (Cz _ _ og aq) ?_);refine lp (σ:=Int) (fun k=>(21-k).toNat) (fun k=>(0<=k/\k<=21)/\∀ j:Int,0<=j->j<k->s.bR n j≠p) (fun k=>[(31,iI k),(1,iI p),(30,.agg (GN (s.bR n) 21))]) (fun k=>XM W (bZ [.cells b o 158 (aP s)]) [.cells b o 158 (aP s)]) (0) ?_ (S3 rfl rfl rfl) (fun _ hw=>XM.pick .h1 hw) ?_
    ·grind
    intro k hk;obtain⟨hk,Eg⟩:=hk;apply gC;refine cd rfl ?_ ?_<;>intro h4
    ·refine XO.v (ll rfl rfl Tryz.underlying27 nI kE) rfl (gO ?_);refine cd rfl ?_ ?_<;>intro h5
     ·refine ao rfl rfl rfl (ad .h1 rfl ?_);first
      | (rw[CB aq];exact⟨by show _=Value.tuple #[_,az 102 (s.is n)];rw[aQ _ aq],rfl⟩)
      | (rw[SS.uO aq og];exact⟨rfl,rfl⟩)
      | (rw[SS.CA (q:=k) aq og og og Eg];exact⟨rfl,rfl⟩)
      | (rw[AO aq og fun j h1 h2=>Eg j h1 og];exact⟨rfl,rfl⟩)
     ·refine sd (ag (k+1) ?_ ?_ (S3 rfl rfl rfl) fun _ hw=>XM.pick .h1 hw);all_goals grind
    ·refine ao rfl rfl rfl (ad .h1 rfl ?_);grind [aL,aJ,aR,aQ,AO]
 ·have i0:=h1;apply gO;refine ao rfl rfl rfl (ad .h1 rfl ?_);grind [aL,aJ,aR,CB,aQ]
def uf(b o:Nat)(s:SS)(n q:Int):Spec Tryz.prog 66 [aC b o 0,iI n,iI q] [.cells b o 158 (aP s)] (fun v H1=>v= .tuple #[iI (s.find n q).1,az 102 (s.find n q).2]/\H1=[.cells b o 158 (aP s)]):=by
 apply Spec.go 43 [0,1,2,6,7,8,13,32] [] Tryz.func66 rfl rfl rfl;intro W;refine ca (Al _ _ _ _) .h1 ?_;rintro _ _ (⟨h1,rfl,rfl⟩ | ⟨h1,rfl,rfl⟩)
 ·obtain⟨i0,i1,i2,i3⟩:=h1;apply gO;refine sp 17 rfl ?_ ?_<;>intro h2
  ·refine ao rfl rfl rfl (ad .h1 rfl ?_);grind [aL,aJ,aR,aQ,rG]
  ·refine sp 21 rfl ?_ ?_<;>intro h3
   ·refine ao rfl rfl rfl (ad .h1 rfl ?_);grind [aL,aJ,aR,aQ,rG]
   ·refine sd (sd (ld .aa (kY _ _ _ og og (by first | assumption | (simp_all;done))) ?_));refine cd rfl ?_ ?_<;>intro h4
    ·refine ao rfl rfl rfl (ad .h1 rfl ?_);grind [aL,aJ,aR,aQ,rG]
    ·refine sd (sd (ld .aa (kY _ _ _ og og (by first | assumption | (simp_all;done))) (ao rfl rfl rfl (ad .h1 rfl ?_))));grind [aL,aJ,aR,az,SS.BC]
 ·have i0:=h1;apply gO;refine ao rfl rfl rfl (ad .h1 rfl ?_);grind [aL,aJ,aR,Jm,aQ]
def afa(b o:Nat)(s:SS)(aO:Int->Nat)(hD:s.Deep aO)(hA:∀ k,s.aa k=false->∀ j,s.bR k j= -1)(n:Int):Spec Tryz.prog 53 [aC b o 0,iI n] [.cells b o 158 (aP s)] (fun v H1=>v= .tuple #[iI (s.add aO n).1,az 102 (s.add aO n).2.1]/\H1=[.cells b o 158 (aP (s.add aO n).2.2)]):=by
 apply Spec.go 41 [0,1,4,5,6,7,12,18,20,21,30] [] Tryz.func53 rfl rfl rfl;intro W;refine ca (Al _ _ _ _) .h1 ?_;rintro _ _ (⟨h1,rfl,rfl⟩ | ⟨h1,rfl,rfl⟩)
 ·obtain⟨i0,i1,i2,i3⟩:=h1;apply gO;refine ca (acf _ _ _ aO hD _ ⟨og,og,aq⟩) .h1 ?_;rintro _ _ ⟨pl,cl,rfl,rfl⟩;apply gO;refine cd rfl ?_ ?_<;>intro h2
  ·have hdp:=s.BD aO n;refine ao rfl rfl rfl (ad (pk [1]) rfl ?_);grind [aL,aJ,aR,SS.CC,az]
  ·have hdp:=s.BD aO n;refine lp (σ:=Int) (fun k=>(6-k).toNat) (fun k=>(0<=k/\k<=6)/\∀ j:Int,0<=j->j<k->s.aa j=true) (fun k=>[(20,iI k),(0,aC b o 0),(1,iI n)]) (fun k=>XM W (bZ [.cells b o 158 (aP s)]) [.cells b o 158 (aP s)]) (0) ?_ (S3 rfl rfl rfl) (fun _ hw=>XM.pick (pk [1]) hw) ?_
   ·grind
   intro k hk;obtain⟨hk,Eg⟩:=hk;apply gC;refine cd rfl ?_ ?_<;>intro h3
   ·refine sd (ld .aa (kh _ _) ?_);refine we rfl ?_ ?_<;>intro h4
    ·try simp only[sb]at h4
     refine rq [0,1,2,4,5,3,6,7] mixed ?_;refine cq (vg _) .nil ?_;refine sd (gD .aa (CE _ _ _ og (hA _ aq)) rfl ⟨rfl,rfl⟩ (ao rfl rfl rfl (ad .h1 rfl ?_)));grind [aL,aJ,aR,SS.CD,az]
    ·try simp only[sb]at h4
     refine sd (ag (k+1) ?_ ?_ (S3 rfl rfl rfl) fun _ hw=>XM.pick .h1 hw);all_goals grind
   ·refine ao rfl rfl rfl (ad .h1 rfl ?_);grind [aL,aJ,aR,Jp,az]
 ·have i0:=h1;apply gO;refine ao rfl rfl rfl (ad .h1 rfl ?_);grind [aL,aJ,aR,SS.Hb,az]
def UL(b o:Nat)(s:SS)(n:Int):Spec Tryz.prog 132 [aC b o 0,iI n] [.cells b o 158 (aP s)] (fun v H1=>v=az 102 (s.drop n).1/\H1=[.cells b o 158 (aP (s.drop n).2)]):=by
 apply Spec.go 52 [0,1,4,5,6,11,21,23,24,43] [] Tryz.func132 rfl rfl rfl;intro W;refine ca (Al _ _ _ _) .h1 ?_;rintro _ _ (⟨h1,rfl,rfl⟩ | ⟨h1,rfl,rfl⟩)
 ·obtain⟨i0,i1,i2,i3⟩:=h1;apply gO;refine sp 15 rfl ?_ ?_<;>intro h2
  ·refine ah rfl rfl (ad .h1 rfl ?_);grind [aL,aJ,aR,xE,az]
  ·refine ca (Gc _ _ _ _ og aq) .h1 ?_;rintro _ _ ⟨pl,cl,rfl,rfl⟩;apply gO;refine cd rfl ?_ ?_<;>intro h3
   ·refine ah rfl rfl (ad (pk [1]) rfl ?_);grind [aL,aJ,aR,xE,az]
   ·refine lp (σ:=Int) (fun k=>(6-k).toNat) (fun k=>(0<=k/\k<=6)/\∀ j:Int,0<=j->j<k->¬(s.aa j=true/\s.aA j=n)) (fun k=>[(23,iI k),(0,aC b o 0),(1,iI n)]) (fun k=>XM W (bZ [.cells b o 158 (aP s)]) [.cells b o 158 (aP s)]) (0) ?_ (S3 rfl rfl rfl) (fun _ hw=>XM.pick (pk [1]) hw) ?_
    ·grind
    intro k hk;obtain⟨hk,Eg⟩:=hk;apply gC;refine cd rfl ?_ ?_<;>intro h4
    ·refine sd (ld .aa (kh _ _) ?_);refine Pt 33 rfl ?_ ?_<;>intro h5
     ·try simp only[sb]at h5
      refine sd (ld .aa (kX _ _) ?_);refine cd rfl ?_ ?_<;>intro h6
      ·refine ah rfl rfl (ad .h1 rfl ?_);grind [aL,aJ,aR,Jr,az]
      ·refine sd (ag (k+1) ?_ ?_ (S3 rfl rfl rfl) fun _ hw=>XM.pick .h1 hw);all_goals grind
     ·try simp only[sb]at h5
      refine sd (ag (k+1) ?_ ?_ (S3 rfl rfl rfl) fun _ hw=>XM.pick .h1 hw);all_goals grind
    ·refine XO.v (V.build (vs:= #[]) rfl (v:=.agg rF) fun _=>kq) rfl (gO ?_);refine sd (gD .aa (LW _ _ og) rfl ⟨rfl,rfl⟩ (ah rfl rfl (ad .h1 rfl ?_)));grind [aL,aJ,aR,SS.Xs,az]
 ·have i0:=h1;apply gO;refine ah rfl rfl (ad .h1 rfl ?_);grind [aL,aJ,Jq,az]
def UM:Spec Tryz.prog 96 [] [] (fun v H1=>∃ b,v=aC b 0 0/\H1=[.cells b 0 158 (aP SS.cP)]):=by
 apply Spec.go 20 [0,1,2,10,11] [] Tryz.func96 rfl rfl rfl;intro W;refine XO.v (V.build (vs:= #[]) rfl (v:=.agg Z6) fun _=>kq) rfl (gO ?_);refine XO.box (m:=158) (C:=aP SS.zero) rfl rfl PX rfl ?_;intro bs;apply gO;refine rq [0,2,3,1,4,5] mixed ?_;refine cq (vg _) .nil ?_;refine sd (gD .aa (CE _ _ _ og fun _=>rfl) rfl ⟨rfl,rfl⟩ ?_);refine lp (σ:=Int) (fun k=>(20-k).toNat) (fun k=>0<=k/\k<=20) (fun k=>[(10,iI k),(1,aC bs 0 0)]) (fun k=>XM W (bZ []) [.cells bs 0 158 (aP {SS.rB with loc:=ED k})]) (0) ?_ (S2 rfl rfl) (fun _ hw=>by rw[Tn];exact XM.pick .h1 hw) ?_
 ·omega
 intro k hk;apply gC;refine cd rfl ?_ ?_<;>intro h1
 ·refine sd (st .aa (rE _ _ og _) rfl (sd (ag (k+1) ?_ ?_ (S2 rfl rfl) fun _ hw=>by rw[<-Jk k];exact XM.pick .h1 hw)));all_goals omega
 ·refine ah rfl rfl (ad .h1 rfl ?_);try dsimp only[aL,aJ,aD,aR]
  grind [SS.cP]
def HO(b o:Nat)(s:SS)(aO:Int->Nat)(hD:s.Deep aO)(n p:Int):Spec Tryz.prog 56 [aC b o 0,iI n,iI p] [.cells b o 158 (aP s)] (fun v H1=>v= .tuple #[iI (s.enter aO n p).1,az 102 (s.enter aO n p).2.1]/\H1=[.cells b o 158 (aP (s.enter aO n p).2.2)]):=by
 apply Spec.go 77 [0,1,2,6,7,8,10,11,16,23,31,41,42,43,44,48,60] [] Tryz.func56 rfl rfl rfl;intro W;refine ca (Al _ _ _ _) .h1 ?_;rintro _ _ (⟨h1,rfl,rfl⟩ | ⟨h1,rfl,rfl⟩)
 ·obtain⟨i0,i1,i2,i3⟩:=h1;apply gO;refine sp 20 rfl ?_ ?_<;>intro h2
  ·refine ao rfl rfl rfl (ad .h1 rfl ?_);grind [aL,aJ,aR,oP,az]
  ·refine cd rfl ?_ ?_<;>intro h3
   ·refine ao rfl rfl rfl (ad .h1 rfl ?_);grind [aL,aJ,aR,oP,az]
   ·refine sd (ld .aa (rD _ _) ?_);refine cd rfl ?_ ?_<;>intro h4
    ·refine ao rfl rfl rfl (ad .h1 rfl ?_);grind [aL,aJ,aR,tB,az]
    ·refine sd (st .aa (rE _ _ og _) rfl ?_);have hD1:({s with loc:=ae s.loc p n} :SS).Deep aO:=⟨hD.d⟩;have hay:=({s with loc:=ae s.loc p n} :SS).BD aO n;have hdn:=(hD.d n i1 i2 i3).2.1;refine ca (acf _ _ ({s with loc:=ae s.loc p n} :SS) aO hD1 n ⟨i1,i2,i3⟩) .h1 ?_;rintro _ _ ⟨pl,cl,rfl,rfl⟩;apply gO;refine lp (σ:=Int×(Int->Int->Int)) (fun x=>((({s with loc:=ae s.loc p n} :SS).cC aO n).length-x.1).toNat) (fun x=>(0<=x.1/\x.1<=(({s with loc:=ae s.loc p n} :SS).cC aO n).length)/\ix x.2 p ((({s with loc:=ae s.loc p n} :SS).cC aO n).drop x.1.toNat)=ix s.bR p (({s with loc:=ae s.loc p n} :SS).cC aO n)) (fun x=>[(43,iI x.1),(0,aC b o 0),(1,iI n),(2,iI p),(41,.slice pl (({s with loc:=ae s.loc p n} :SS).cC aO n).length cl),(42,iI (({s with loc:=ae s.loc p n} :SS).cC aO n).length)]) (fun x=>XM W (bZ [.cells b o 158 (aP s)]) [db pl cl 3 (({s with loc:=ae s.loc p n} :SS).cC aO n),.cells b o 158 (aP {s with loc:=ae s.loc p n,bR:=x.2})]) ((0,s.bR)) ?_ (S6 rfl rfl rfl rfl rfl rfl) (fun _ hw=>XM.pick (pz 2) hw) ?_
     ·simp_all
     intro x hx;obtain⟨hx,hw⟩:=hx;apply gC;refine cd rfl ?_ ?_<;>intro h5
     ·obtain⟨a0,a1,a2⟩:=Fz hD1 (n:=n) ⟨i1,i2,i3⟩ (z:=x.1) ⟨hx.1,og⟩;apply bH .aa og;intro gA h6;subst h6;refine sd (q9 .aa (ints_at) ?_);refine lp (σ:=Int) (fun k=>(21-k).toNat) (fun k=>(1<=k/\k<=21)/\∀ j:Int,1<=j->j<k->¬x.2 (dg (({s with loc:=ae s.loc p n} :SS).cC aO n) x.1) j<0) (fun k=>[(11,iI k),(0,aC b o 0),(1,iI n),(2,iI p),(10,iI (dg (({s with loc:=ae s.loc p n} :SS).cC aO n) x.1)),(41,.slice (some ⟨gA,0,none⟩) (({s with loc:=ae s.loc p n} :SS).cC aO n).length cl),(42,iI (({s with loc:=ae s.loc p n} :SS).cC aO n).length),(43,iI x.1)]) (fun k=>XM W (bZ [.cells b o 158 (aP s)]) [db (some ⟨gA,0,none⟩) cl 3 (({s with loc:=ae s.loc p n} :SS).cC aO n),.cells b o 158 (aP {s with loc:=ae s.loc p n,bR:=x.2})]) (1) ?_ (.cons rfl (.cons rfl (S6 rfl rfl rfl rfl rfl rfl))) (fun _ hw=>XM.pick (pz 2) hw) ?_
      ·grind
      intro k hk;obtain⟨hk,Eg⟩:=hk;apply gC;refine cd rfl ?_ ?_<;>intro h7
      ·refine sd (sd (ld (.av .aa) (kY _ _ _ og og (by first | assumption | (simp_all;done))) ?_));refine cd rfl ?_ ?_<;>intro h8
       ·have sO:x.2 (dg (({s with loc:=ae s.loc p n} :SS).cC aO n) x.1) k<0:=h8;refine sd (sd (st (.av .aa) (pB _ _ _ og og (by first | assumption | (simp_all;done)) _) rfl (sd (ag ((x.1+1,cr x.2 (dg (({s with loc:=ae s.loc p n} :SS).cC aO n) x.1) k p)) ?_ ?_ (S6 rfl rfl rfl rfl rfl rfl) fun _ hw=>XM.pick (pz 2) hw))));all_goals grind [Jt,ix,PY]
       ·refine sd (ag (k+1) ?_ ?_ (.cons rfl (.cons rfl (S6 rfl rfl rfl rfl rfl rfl))) fun _ hw=>XM.pick (pz 2) hw);all_goals grind
      ·refine sd (ag ((x.1+1,x.2)) ?_ ?_ (S6 rfl rfl rfl rfl rfl rfl) fun _ hw=>XM.pick (pz 2) hw);all_goals grind [Jt,ix,PZ]
     ·refine cq (Gd _ _ _ _ _) (pk [1]) ?_;refine ao rfl rfl rfl (ad .h1 rfl ?_);try dsimp only[aL,aJ,aD,aR]
      have UN:x.1=(({s with loc:=ae s.loc p n} :SS).cC aO n).length:=og;have he:x.2=ix s.bR p (s.cC aO n):=by
       rw[UN]at hw;simp at hw;exact(show x.2=ix x.2 p []from rfl).trans (hw.trans (congrArg (ix s.bR p) (SS.my (s:=s) (s':= {s with loc:=ae s.loc p n}) rfl _ _)))
      grind [SS.xG,SS.fh]
 ·have i0:=h1;apply gO;refine ao rfl rfl rfl (ad .h1 rfl ?_);grind [aL,aJ,aR,xF,az]
def Yx(b o:Nat)(s:SS)(aO:Int->Nat)(hD:s.Deep aO)(p:Int)(hl:0<=p->p<20->0<=s.loc p->s.loc p<6/\s.aa (s.loc p)=true)(hW:0<=p->∀ n q,s.bR n q=p->n∈s.cC aO (s.loc p)/\0<=q/\q<21):Spec Tryz.prog 131 [aC b o 0,iI p] [.cells b o 158 (aP s)] (fun v H1=>v=az 102 (s.fB p).1/\H1=[.cells b o 158 (aP (s.fB p).2)]):=by
 apply Spec.go 57 [0,1,4,5,6,8,9,10,18,22,23,24,25,34,35,36,41] [] Tryz.func131 rfl rfl rfl;intro W;refine ca (MH _ _ _ _) .h1 ?_;rintro _ _ ⟨⟨rfl,vy⟩,rfl⟩;apply gO;refine cd rfl ?_ ?_<;>intro h1
 ·refine ah rfl rfl (ad .h1 rfl ?_);grind [aL,aJ,SS.fB]
 ·obtain⟨⟨p0,p20⟩,l0,hN⟩:=vy og;have hl2:=hl p0 p20 l0;have FP:0<=(s.bI p).1/\(s.bI p).1<6/\s.aa (s.bI p).1=true:=by rw[hN];exact⟨l0,hl2.1,hl2.2⟩
  have hay:=s.BD aO (s.bI p).1;have hdn:=(hD.d _ FP.1 FP.2.1 FP.2.2).2.1;refine ca (acf _ _ s aO hD (s.bI p).1 FP) .h1 ?_;rintro _ _ ⟨pl,cl,rfl,rfl⟩;apply gO;refine lp (σ:=Int×(Int->Int->Int)) (fun x=>((s.cC aO (s.bI p).1).length-x.1).toNat) (fun x=>(0<=x.1/\x.1<=(s.cC aO (s.bI p).1).length)/\x.2=LX s.bR ((s.cC aO (s.bI p).1).take x.1.toNat) p) (fun x=>[(24,iI x.1),(0,aC b o 0),(1,iI p),(22,.slice pl (s.cC aO (s.bI p).1).length cl),(23,iI (s.cC aO (s.bI p).1).length)]) (fun x=>XM W (bZ [.cells b o 158 (aP s)]) [db pl cl 3 (s.cC aO (s.bI p).1),.cells b o 158 (aP {s with bR:=x.2})]) ((0,s.bR)) ?_ (S5 rfl rfl rfl rfl rfl) (fun _ hw=>XM.pick (pz 2) hw) ?_
  ·grind [To]
  intro x hx;obtain⟨hx,hw⟩:=hx;apply gC;refine cd rfl ?_ ?_<;>intro h2
  ·obtain⟨a0,a1,a2⟩:=Fz hD (n:=(s.bI p).1) FP (z:=x.1) ⟨hx.1,og⟩;apply bH .aa og;intro gA h3;subst h3;refine sd ?_;apply q9 .aa (ints_at);refine sd ?_;apply lZ (.av .aa) (Cz _ _ og aq);refine lp (σ:=Int) (fun k=>(21-k).toNat) (fun k=>0<=k/\k<=21) (fun k=>[(35,iI k),(0,aC b o 0),(1,iI p),(8,iI (dg (s.cC aO (s.bI p).1) x.1)),(22,.slice (some ⟨gA,0,none⟩) (s.cC aO (s.bI p).1).length cl),(23,iI (s.cC aO (s.bI p).1).length),(24,iI x.1),(34,.agg (GN (x.2 (dg (s.cC aO (s.bI p).1) x.1)) 21))]) (fun k=>XM W (bZ [.cells b o 158 (aP s)]) [db (some ⟨gA,0,none⟩) cl 3 (s.cC aO (s.bI p).1),.cells b o 158 (aP {s with bR:=Bk x.2 (dg (s.cC aO (s.bI p).1) x.1) p k})]) (0) ?_ (.cons rfl (.cons rfl (S6 rfl rfl rfl rfl rfl rfl))) (fun _ l9=>by rw[P0];exact XM.pick (pz 2) l9) ?_
   ·omega
   intro k hk;apply gC;refine cd rfl ?_ ?_<;>intro h4
   ·refine XO.v (ll rfl rfl Tryz.underlying27 nI kE) rfl (gO ?_);refine cd rfl ?_ ?_<;>intro h5
    ·refine sd ?_;refine sd ?_;apply st (.av .aa) (pB _ _ _ og og (by first | assumption | (simp_all;done)) _) rfl;refine sd ?_;refine ag (k+1) ?_ ?_ (.cons rfl (.cons rfl (S6 rfl rfl rfl rfl rfl rfl))) fun _ l9=>by first | (rw[<-Ju og aq];exact XM.pick (pz 2) l9) | (rw[<-FA aq];exact XM.pick (pz 2) l9)
     all_goals omega
    ·refine sd ?_;refine ag (k+1) ?_ ?_ (.cons rfl (.cons rfl (S6 rfl rfl rfl rfl rfl rfl))) fun _ l9=>by first | (rw[<-Ju og aq];exact XM.pick (pz 2) l9) | (rw[<-FA aq];exact XM.pick (pz 2) l9)
     all_goals omega
   ·obtain rfl:k=21:=og;refine sd ?_;refine ag ((x.1+1,Bk x.2 (dg (s.cC aO (s.bI p).1) x.1) p 21)) ?_ ?_ (S5 rfl rfl rfl rfl rfl) fun _ hw=>XM.pick (pz 2) hw;all_goals grind [P1]
  ·refine sd ?_;apply st (.av .aa) (rE _ _ og _) rfl;refine ah rfl rfl (ad (pk [1]) rfl ?_);try dsimp only[aL,aJ,aD,aR]
   have UN:x.1=(s.cC aO (s.bI p).1).length:=og;rw[UN]at hw;simp at hw;have hv:s.fB p=(0,s.left p):=by unfold SS.fB;rw[if_neg og]
   rw[hv];unfold SS.left;rw[<-Tp (l:=(s.cC aO (s.bI p).1)) (by rw[hN];exact hW p0),<-hw];grind [az]
end Go.X.Sp

namespace Go.X.Kn
open Go Go.Proofs Go.X Go.X.Sp
set_option maxRecDepth 20000
set_option maxHeartbeats 4000000
def Ks:cV Tryz.prog 52=true:=kq
def UO:cV Tryz.prog 62=true:=kq
def aan:cV Tryz.prog 66=true:=kq
def ug:eC Tryz.prog 101 2=some 441:=kq
def Kt:jw Tryz.prog 92=true:=kq
def ef(kb:Nat)(k:KP)(n:Int):Spec Tryz.prog 49 [aC kb 0 0,iI n] [.cells kb 0 453 (aF k)] (fun v H1=>((k.aI n=0/\v= .tuple #[aC kb 0 (0+0+n.toNat*22),.nilIface])\/(k.aI n≠0/\v= .tuple #[.pointer none,.iface 102 (iI (k.aI n))]))/\H1=[.cells kb 0 453 (aF k)]):=by
 apply Spec.go 27 [0,1,4,5,11,20] [] Tryz.func49 rfl rfl rfl;intro W;refine sp 8 rfl ?_ ?_<;>intro h1
 ·refine ao rfl rfl rfl (ad .h1 rfl ?_);grind [aL,aJ,aR,KP.aI]
 ·refine cd rfl ?_ ?_<;>intro h2
  ·refine ao rfl rfl rfl (ad .h1 rfl ?_);grind [aL,aJ,aR,KP.aI]
  ·refine sd (ld .aa (gg _) ?_);refine cd rfl ?_ ?_<;>intro h3
   ·refine ao rfl rfl rfl (ad .h1 rfl ?_);grind [aL,aJ,aR,KP.aI]
   ·refine sd (ao rfl rfl rfl (ad .h1 rfl ?_));grind [aL,aJ,aR,KP.aI]
def il(kb:Nat)(k:KP)(s:Sp.SS)(n:Int):Spec Tryz.prog 52 [aC kb 0 0,iI n] [.cells kb 0 453 (aF k),.cells k.sb 0 158 (Sp.aP s)] (fun v H1=>v=iI (s.bI n).1/\H1=[.cells kb 0 453 (aF k),.cells k.sb 0 158 (Sp.aP s)]):=by
 apply Spec.go 17 [0,1,4,5] [] Tryz.func52 rfl rfl rfl;intro W;apply ld .aa (aF.qK _);refine ca (Sp.MH _ _ s _) (pk [1]) ?_;rintro _ _ ⟨⟨rfl,hof⟩,rfl⟩;apply gO;refine ah rfl rfl (ad (pk [1,0]) rfl ?_);grind [aL,aJ]
def Am(kb:Nat)(k:KP)(s:Sp.SS)(z:Int):Spec Tryz.prog 104 [aC kb 0 0,iI z] [.cells kb 0 453 (aF k),.cells k.sb 0 158 (Sp.aP s)] (fun v H1=>v=iI (s.find z 1).1/\H1=[.cells kb 0 453 (aF k),.cells k.sb 0 158 (Sp.aP s)]):=by
 apply Spec.go 17 [0,1,4,5] [] Tryz.func104 rfl rfl rfl;intro W;apply ld .aa (aF.qK _);refine cq (Sp.uf _ _ s _ _) (pk [1]) ?_;refine ah rfl rfl (ad (pk [1,0]) rfl ?_);grind [aL,aJ]
def UP(kb:Nat)(k:KP)(s:Sp.SS)(n:Int):Spec Tryz.prog 15 [aC kb 0 0,iI n] [.cells kb 0 453 (aF k),.cells k.sb 0 158 (Sp.aP s)] (fun v H1=>v=(if k.aI n=0 then .tuple #[iI (s.fS n (s.bI n).1).1,az 102 (s.fS n (s.bI n).1).2]else .tuple #[iI 0,az 102 (k.aI n)])/\H1=[.cells kb 0 453 (aF k),.cells k.sb 0 158 (Sp.aP s)]):=by
 apply Spec.go 28 [0,1,4,5,7,15] [] Tryz.func15 rfl rfl rfl;intro W;refine ca (ef kb _ _) .h1 ?_;rintro _ _ ⟨⟨hl,rfl⟩ | ⟨hl,rfl⟩,rfl⟩
 ·obtain⟨jy,gh⟩:=bC hl;apply gO;apply XC.fI mixed (f:=13) (l:= #[qF,qF,qF,qF,qF,qF,qF,qF,qF,qF,qF,qF,qF]) rfl rfl XM.iY;apply XQ.pv (i:=0) rfl kq rfl (V.move rfl) rfl rfl;apply XQ.pv (i:=1) rfl kq rfl (aW rfl) rfl rfl;apply XQ.pv (i:=2) rfl kq rfl (V.fieldAddr rfl ug) rfl rfl;apply XQ.load (i:=3) (.cells _ _ _ _) [8] rfl kq rfl .aa (V.load rfl dJ (aF.qK _) Kt) rfl kq rfl;apply XQ.pv (i:=4) rfl kq rfl (V.move rfl) rfl rfl;apply XQ.pv (i:=5) rfl kq rfl (V.move rfl) rfl rfl;apply XQ.pv (i:=6) rfl kq rfl (V.move rfl) rfl rfl;apply XQ.call (i:=7) rfl kq rfl rfl (il kb _ s n) (pz 2) Ks rfl (by rintro _ _ ⟨rfl,rfl⟩;all_goals(intro _ dG;exact⟨fun _=>eD .aa _ dG,trivial⟩));rintro _ _ ⟨rfl,rfl⟩;apply XQ.call (i:=8) rfl kq rfl rfl (Gd _ _ s _ _) (pk [1]) UO rfl (by rintro _ _ ⟨rfl,rfl⟩;all_goals(intro _ dG;exact⟨fun hs=>(hs 8 (by first | (simp;done) | (simp;rfl)) rfl).elim,trivial⟩));rintro _ _ ⟨rfl,rfl⟩;apply XQ.pv (i:=9) rfl kq rfl (V.extract rfl rfl) rfl rfl;apply XQ.pv (i:=10) rfl kq rfl (V.extract rfl rfl) rfl rfl;apply XQ.pv (i:=11) rfl kq rfl (V.assign rfl) rfl rfl;apply XQ.pv (i:=12) rfl kq rfl (V.assign rfl) rfl rfl;apply XQ.done kq;apply gE;refine ao rfl rfl rfl (ad (pk [1,0]) rfl ?_);grind [aL,aJ]
 ·apply gO;refine ao rfl rfl rfl (ad (pz 2) rfl ?_);grind [aL,aJ,aR,az]
def afb(kb:Nat)(k:KP)(s:Sp.SS)(aO:Int->Nat)(hI:s.Inv aO)(n q:Int):Spec Tryz.prog 18 [aC kb 0 0,iI n,iI q] [.cells kb 0 453 (aF k),.cells k.sb 0 158 (Sp.aP s)] (fun v H1=>v= .tuple #[iI (k.mD s n q).1,az 102 (k.mD s n q).2]/\H1=[.cells kb 0 453 (aF k),.cells k.sb 0 158 (Sp.aP s)]):=by
 apply Spec.go 45 [0,1,2,6,7,9,10,18,33,42] [] Tryz.func18 rfl rfl rfl;intro W;refine ca (ef kb _ _) .h1 ?_;rintro _ _ ⟨⟨hl,rfl⟩ | ⟨hl,rfl⟩,rfl⟩
 ·obtain⟨jy,gh⟩:=bC hl;apply gO;refine XC.fI mixed (f:=14) (l:= #[qF,qF,qF,qF,qF,qF,qF,qF,qF,qF,qF,qF,qF,qF]) rfl rfl XM.iY (XQ.pv (i:=0) rfl kq rfl (V.move rfl) rfl rfl (XQ.pv (i:=1) rfl kq rfl (aW rfl) rfl rfl (XQ.pv (i:=2) rfl kq rfl (V.fieldAddr rfl ug) rfl rfl (XQ.load (i:=3) (.cells _ _ _ _) [8] rfl kq rfl .aa (V.load rfl dJ (aF.qK _) Kt) rfl kq rfl (XQ.pv (i:=4) rfl kq rfl (V.move rfl) rfl rfl (XQ.pv (i:=5) rfl kq rfl (V.move rfl) rfl rfl (XQ.pv (i:=7) rfl kq rfl (V.move rfl) rfl rfl (XQ.call (i:=6) rfl kq rfl rfl (il kb _ s n) (pz 2) Ks rfl (by rintro _ _ ⟨rfl,rfl⟩;all_goals(intro _ dG;exact⟨fun _=>eD .aa _ dG,trivial⟩)) ?_))))))));rintro _ _ ⟨rfl,rfl⟩;apply XQ.call (i:=8) rfl kq rfl rfl (Sp.uf _ _ s _ _) (pk [1]) aan rfl (by rintro _ _ ⟨rfl,rfl⟩;all_goals(intro _ dG;exact⟨fun hs=>(hs 8 (by first | (simp;done) | (simp;rfl)) rfl).elim,trivial⟩));rintro _ _ ⟨rfl,rfl⟩;refine XQ.pv (i:=9) rfl kq rfl (V.move rfl) rfl rfl (XQ.pv (i:=10) rfl kq rfl (V.extract rfl rfl) rfl rfl (XQ.pv (i:=11) rfl kq rfl (V.extract rfl rfl) rfl rfl (XQ.pv (i:=12) rfl kq rfl (V.assign rfl) rfl rfl (XQ.pv (i:=13) rfl kq rfl (V.assign rfl) rfl rfl (XQ.done kq (gE ?_))))));refine cd rfl ?_ ?_<;>intro h1
  ·have e:k.mD s n q=(0,(s.find (s.bI n).1 q).2):=by unfold KP.mD;rw[if_neg og,if_pos og]
   refine ao rfl rfl rfl (ad (pk [1,0]) rfl ?_);grind [aL,aJ,aR]
  ·have hf:(s.find (s.bI n).1 q).2=0:=og;have hfr:=pG hI hf;refine sd (ld (.av .aa) (gg _) ?_);refine cd rfl ?_ ?_<;>intro h2
   ·refine ao rfl rfl rfl (ad (pk [1,0]) rfl ?_);grind [aL,aJ,aR,KP.mD,az]
   ·refine ao rfl rfl rfl (ad (pk [1,0]) rfl ?_);grind [aL,aJ,aR,KP.mD,az]
 ·apply gO;refine ao rfl rfl rfl (ad (pz 2) rfl ?_);grind [aL,aJ,aR,KP.mD,az]
end Go.X.Kn

namespace Go.X.Sg
open Go Go.Proofs Go.X
set_option maxRecDepth 20000
set_option maxHeartbeats 4000000
def acg:vv Tryz.prog 256=some (32,1):=kq
def yF(n:Int):Spec Tryz.prog 141 [iI n] [] (fun v H1=>((1<=n/\n<=8)/\v= .nilIface/\H1=[])\/((n<1\/n>8)/\v= .iface 102 (iI 1)/\H1=[])):=by
 apply Spec.go 10 [0,2,8] [] Tryz.func141 rfl rfl rfl;intro W;refine sp 5 rfl ?_ ?_<;>intro h1
 ·refine ah rfl rfl (ad .nil rfl ?_);grind [aL,aJ,aR]
 ·refine cd rfl ?_ ?_<;>intro h2
  ·refine ah rfl rfl (ad .nil rfl ?_);grind [aL,aJ,aR]
  ·refine ah rfl rfl (ad .nil rfl ?_);grind [aL,aJ,aR]
def UQ(b o:Nat)(s:BS)(n:Int)(hn:1<=n/\n<=8:=by omega):Spec Tryz.prog 142 [aC b o 0,iI n] [.cells b o 11 (fu s)] (fun v H1=>v=iI (s.zz n)/\H1=[.cells b o 11 (fu s)]):=by
 apply Spec.go 22 [0,1,4,15] [] Tryz.func142 rfl rfl rfl;intro W;refine sp 7 rfl ?_ ?_<;>intro h1
 ·refine sd (ld .aa (mN _ _) ?_);refine cd rfl ?_ ?_<;>intro h2
  ·refine ah rfl rfl (ad .h1 rfl ?_);grind [aL,aJ,aR,BS.zz]
  ·refine sd (ld .aa (mN _ _) (ah rfl rfl (ad .h1 rfl ?_)));grind [aL,aJ,BS.zz]
 ·refine sd (ld .aa (mN _ _) (ah rfl rfl (ad .h1 rfl ?_)));grind [aL,aJ,BS.zz]
def UR(b o:Nat)(s:BS)(n:Int):Spec Tryz.prog 138 [aC b o 0,iI n] [.cells b o 11 (fu s)] (fun v H1=>v=az 102 (s.send n).1/\H1=[.cells b o 11 (fu (s.send n).2)]):=by
 apply Spec.go 26 [0,1,4,5,15] [] Tryz.func138 rfl rfl rfl;intro W;refine ca (yF _) .nil ?_;rintro _ _ (⟨h1,rfl,rfl⟩ | ⟨h1,rfl,rfl⟩)
 ·apply gO;refine cq (UQ _ _ _ _) .h1 ?_;refine cd rfl ?_ ?_<;>intro h2
  ·refine rq [0,1,2,3,4,5,6,7,8,9] mixed (ld .aa (nU _) (XO.v (V.shl rfl rfl og _ (uM)) rfl (gO ?_)));refine XO.v (V.bits rfl rfl rfl (by first | exact jB _ | exact iO og | (rw[IntKind.bits];omega)) (by first | exact jB _ | exact iO og | (rw[IntKind.bits];omega)) rfl) rfl (gO ?_);refine st .aa (uN _ (Jh _)) rfl (ah rfl rfl (ad .h1 rfl ?_));grind [aL,aJ,BS.Xp,az]
  ·refine ah rfl rfl (ad .h1 rfl ?_);grind [aL,aJ,Ji,az]
 ·apply gO;refine ah rfl rfl (ad .h1 rfl ?_);grind [aL,aJ,LS,az]
def Ku(b o:Nat)(s:BS)(n:Int):Spec Tryz.prog 75 [aC b o 0,iI n,.bool true] [.cells b o 11 (fu s)] (fun v H1=>v=az 102 (s.dP n true).1/\H1=[.cells b o 11 (fu (s.dP n true).2)]):=by
 apply Spec.go 35 [0,1,2,6,7,11,14,25] [] Tryz.func75 rfl rfl rfl;intro W;refine ca (yF _) .nil ?_;rintro _ _ (⟨h1,rfl,rfl⟩ | ⟨h1,rfl,rfl⟩)
 ·apply gO;refine cd rfl ?_ ?_<;>intro h2
  ·refine ah rfl rfl (ad .h1 rfl ?_);grind [aL,aJ,aR,tv,az]
  ·refine rq [0,1,2,3,4,5,6,7,8,9] mixed (ld .aa (nV _) (XO.v (V.shl rfl rfl og _ (uM)) rfl (gO ?_)));refine XO.v (V.bits rfl rfl rfl (by first | exact jB _ | exact iO og | (rw[IntKind.bits];omega)) (by first | exact jB _ | exact iO og | (rw[IntKind.bits];omega)) rfl) rfl (gO ?_);refine st .aa (zA _ (rA _)) rfl (rq [0,1,2,3,4,5,6,7,8,9] mixed (ld .aa (nV _) (XO.v (V.shl rfl rfl og _ (uM)) rfl (gO ?_))));refine XO.v (V.bits rfl rfl rfl (by first | exact jB _ | exact iO og | (rw[IntKind.bits];omega)) (by first | exact jB _ | exact iO og | (rw[IntKind.bits];omega)) rfl) rfl (gO ?_);refine st .aa (zA _ (Jh _)) rfl (ah rfl rfl (ad .h1 rfl ?_));first
   | (rw[wo og];exact⟨rfl,rfl⟩)
   | (rw[tv og];exact⟨rfl,rfl⟩)
   | (rw[BS.NR og og];refine⟨rfl,?_⟩;first | rfl | exact congrArg (fun f=>[aK.cells b o 11 (fu {s with bj:=f})]) (by funext j;simp only[ae];split<;>rfl))
 ·apply gO;refine ah rfl rfl (ad .h1 rfl ?_);grind [aL,aJ,wo,az]
def HP(b o:Nat)(s:BS)(n:Int):Spec Tryz.prog 75 [aC b o 0,iI n,.bool false] [.cells b o 11 (fu s)] (fun v H1=>v=az 102 (s.dP n false).1/\H1=[.cells b o 11 (fu (s.dP n false).2)]):=by
 apply Spec.go 35 [0,1,2,6,7,11,14,25] [] Tryz.func75 rfl rfl rfl;intro W;refine ca (yF _) .nil ?_;rintro _ _ (⟨h1,rfl,rfl⟩ | ⟨h1,rfl,rfl⟩)
 ·apply gO;refine cd rfl ?_ ?_<;>intro h2
  ·refine ah rfl rfl (ad .h1 rfl ?_);grind [aL,aJ,aR,tv,az]
  ·refine rq [0,1,2,3,4,5,6,7,8,9] mixed (ld .aa (nV _) (XO.v (V.shl rfl rfl og _ (uM)) rfl (gO ?_)));refine XO.v (V.bits rfl rfl rfl (by first | exact jB _ | exact iO og | (rw[IntKind.bits];omega)) (by first | exact jB _ | exact iO og | (rw[IntKind.bits];omega)) rfl) rfl (gO ?_);refine st .aa (zA _ (rA _)) rfl (ah rfl rfl (ad .h1 rfl ?_));grind [aL,aJ,aR,BS.NR,az]
 ·apply gO;refine ah rfl rfl (ad .h1 rfl ?_);grind [aL,aJ,wo,az]
def afc(b o:Nat)(s:BS)(n h:Int):Spec Tryz.prog 73 [aC b o 0,iI n,iI h] [.cells b o 11 (fu s)] (fun v H1=>v=az 102 (s.set n h).1/\H1=[.cells b o 11 (fu (s.set n h).2)]):=by
 apply Spec.go 42 [0,1,2,6,7,11,18,21,32] [] Tryz.func73 rfl rfl rfl;intro W;refine ca (yF _) .nil ?_;rintro _ _ (⟨h1,rfl,rfl⟩ | ⟨h1,rfl,rfl⟩)
 ·apply gO;refine sp 15 rfl ?_ ?_<;>intro h2
  ·refine ah rfl rfl (ad .h1 rfl ?_);grind [aL,aJ,aR,az,BS.set]
  ·refine cd rfl ?_ ?_<;>intro h3
   ·refine ah rfl rfl (ad .h1 rfl ?_);grind [aL,aJ,aR,az,BS.set]
   ·refine cd rfl ?_ ?_<;>intro h4
    ·refine ah rfl rfl (ad .h1 rfl ?_);grind [aL,aJ,aR,LU,az]
    ·refine sd (st .aa (EA _ _ og _) rfl ?_);refine cq (UQ _ _ _ _) .h1 ?_;refine cd rfl ?_ ?_<;>intro h5
     ·refine rq [0,1,2,3,4,5,6,7,8,9] mixed (ld .aa (nU _) (XO.v (V.shl rfl rfl og _ (uM)) rfl (gO ?_)));refine XO.v (V.bits rfl rfl rfl (by first | exact jB _ | exact iO og | (rw[IntKind.bits];omega)) (by first | exact jB _ | exact iO og | (rw[IntKind.bits];omega)) rfl) rfl (gO ?_);refine st .aa (uN _ (rA _)) rfl (ah rfl rfl (ad .h1 rfl ?_));grind [aL,aJ,aR,BS.Xq,az]
     ·refine ah rfl rfl (ad .h1 rfl ?_);grind [aL,aJ,aR,BS.abx,az]
 ·apply gO;refine ah rfl rfl (ad .h1 rfl ?_);grind [aL,aJ,PV,az]
def ahP(x t:Nat)(hx:x<65536)(ht:x.testBit t=true)(hl:∀ j,j<t->x.testBit j=false)(ach:t<16):Spec Tryz.prog 197 [.int .u16 (x:Int)] [.ro 0 0 32 cW] (fun v H1=>v=iI (t:Int)/\H1=[]):=by
 have sN:0<x:=by
  grind
 obtain⟨z1,z2,z3,z4,z5⟩:=aeF ach;apply Spec.go 15 [0,2,4] [] Tryz.func197 rfl rfl rfl;intro W;refine Im rfl (by simp;omega) (XO.v (V.neg rfl _ (Xn ⟨sN,hx⟩)) rfl (gO ?_));refine XO.v (V.bits (r:=2^t) rfl rfl rfl hx (Nat.sub_lt dq sN) (congrArg some (Ns (w:=16) ht hl hx ach))) rfl (gO ?_);refine XO.v (oc rfl Tryz.underlying84 Tryz.underlying257 _ z1) rfl (gO ?_);refine XO.v (V.mul rfl rfl _ z2) rfl (gO ?_);refine XO.v (V.shr rfl rfl og _ z3) rfl (gO ?_);refine XO.v (E8 rfl rfl acg og) rfl (gO ?_);refine W3 .aa (LR ach) (XO.v (oc rfl Tryz.underlying5 Tryz.underlying3 _ z5) rfl (gO ?_));refine ah rfl rfl (ad .nil rfl ?_);grind [aL,aJ]
def Ot(b o:Nat)(s:BS)(hz:s.dY 0=false)(h:Int):Spec Tryz.prog 146 [aC b o 0,iI h] [.cells b o 11 (fu s),.ro 0 0 32 cW] (fun v H1=>v= .tuple #[iI (s.first h),.bool (decide (s.first h≠0))]/\H1=[.cells b o 11 (fu s)]):=by
 apply Spec.go 34 [0,1,4,5,6,7,18,32] [] Tryz.func146 rfl rfl rfl;intro W;refine rq [0,1,2,3,4,5,6,7,8,9] mixed ?_;apply ld .aa (nU _);apply ld .aa (nV _);refine XO.v (V.bits rfl rfl rfl (by first | exact jB _ | exact iO og | (rw[IntKind.bits];omega)) (by first | exact jB _ | exact iO og | (rw[IntKind.bits];omega)) rfl) rfl (gO ?_);refine lp (σ:=Nat×Nat) (fun x=>9-x.2) (fun x=>x.1<512/\x.2<=9/\(∀ j:Nat,x.1.testBit j=(decide (x.2<=j)&&(decide (j<9)&&s.dY j&& !s.bj j)))/\∀ j:Int,0<=j->j<x.2->¬(s.dY j=true/\s.bj j=false/\s.kg j=h)) (fun x=>[(6,.int .u16 (x.1:Int)),(0,aC b o 0),(1,iI h)]) (fun x=>XM W (bZ [.cells b o 11 (fu s),.ro 0 0 32 cW]) [.cells b o 11 (fu s),.ro 0 0 32 cW]) ((kI (ph s.dY) (ph s.bj),0)) ?_ (S3 rfl rfl rfl) (fun _ hw=>XM.pick (pz 2) hw) ?_
 ·grind [Sc,Ti,Eo,lI]
 intro x hx;obtain⟨Il,AB,Wx,hx4⟩:=hx;apply gC;refine cd rfl ?_ ?_<;>intro h1
 ·have gK:x.1≠0:=og;obtain⟨t,ht,hl⟩:=Ca gK;have hb:=ht;rw[Wx]at hb;simp only[Bool.and_eq_true,decide_eq_true_eq,Bool.not_eq_true']at hb;obtain⟨hb1,⟨Cc,hb3⟩,hb4⟩:=hb;refine Io 0 (ahP x.1 t og ht hl og) (pk [1]) rfl ?_;refine sd ?_;apply ld (.av .aa) (mN _ _);refine cd rfl ?_ ?_<;>intro h2
  ·refine ao rfl rfl rfl (ad (pk [1]) rfl ?_);try dsimp only[aL,aJ,aD,aR]
   rw[EB (k:=(t:Int)) og hb3 hb4 aq fun j h1 h2=> ?_]
   ·have ht0:(t:Int)≠0:=by
     grind
    simp_all
   ·by_cases q2:j<x.2
    ·simp_all
    ·have q4:=hl j.toNat og;rw[Wx,show((j.toNat:Nat):Int)=j from og]at q4;have q5:x.2<=j.toNat:=og;have q6:j.toNat<9:=og;simp_all
  ·refine XO.v (V.sub rfl rfl _ (Xo ⟨og,og⟩)) rfl (gO ?_);refine XO.v (V.bits rfl rfl rfl (show x.1<65536 by omega) (show x.1-1<65536 by omega) rfl) rfl (gO ?_);refine ag ((x.1&&&(x.1-1),t+1)) ?_ ?_ (S3 rfl rfl rfl) fun _ hw=>XM.pick (pk [1,0]) hw
   ·omega
   ·refine⟨Nat.lt_of_le_of_lt Nat.and_le_left Il,by simp;omega,fun j=> ?_,fun j h1 h2=> ?_⟩
    ·show(x.1&&&(x.1-1)).testBit j=_;rw[Pm ht hl,Wx];by_cases q1:j<t
     ·grind
     ·by_cases q2:j=t
      ·simp_all
      ·have q3:t+1<=j:=og;have q4:x.2<=j:=og;simp_all
    ·by_cases q1:j=t
     ·simp_all
     ·by_cases q2:j<x.2
      ·simp_all
      ·have q3:j<t:=by simp at h2;omega
       have q4:=hl j.toNat og;rw[Wx,show((j.toNat:Nat):Int)=j from og]at q4;have q5:x.2<=j.toNat:=og;have q6:j.toNat<9:=og;simp_all
 ·refine ao rfl rfl rfl (ad .h1 rfl ?_);try dsimp only[aL,aJ,aD,aR]
  have sN:x.1=0:=og;rw[EC fun j h1 h2=> ?_]
  ·simp_all
  ·by_cases q2:j<x.2
   ·simp_all
   ·have q4:=Wx j.toNat;rw[sN,show((j.toNat:Nat):Int)=j from og]at q4;simp_all
def Dz(b o:Nat)(s:BS)(hz:s.dY 0=false):Spec Tryz.prog 143 [aC b o 0] [.cells b o 11 (fu s),.ro 0 0 32 cW] (fun v H1=>v= .tuple #[iI (s.first 0),.bool (decide (s.first 0≠0))]/\H1=[.cells b o 11 (fu s)]):=by
 apply Spec.go 8 [0,2,3] [] Tryz.func143 rfl rfl rfl;intro W;refine Io 1 (Ot _ _ _ hz _) (pz 2) rfl ?_;refine ao rfl rfl rfl (ad .h1 rfl ?_);grind [aL,aJ]
def aci(b o:Nat)(s:BS)(hz:s.dY 0=false):Spec Tryz.prog 77 [aC b o 0] [.cells b o 11 (fu s),.ro 0 0 32 cW] (fun v H1=>v= .tuple #[iI s.take.1,.bool (decide (s.take.1≠0))]/\H1=[.cells b o 11 (fu s.take.2)]):=by
 have hc:=s.tu 2 hz;apply Spec.go 23 [0,2,3,4,5,11] [] Tryz.func77 rfl rfl rfl;intro W;refine Io 1 (Ot _ _ _ hz _) (pz 2) rfl ?_;refine cd rfl ?_ ?_<;>intro h1
 ·refine rq [0,1,2,3,4,5,6,7,8,9] mixed (ld .aa (nU _) (XO.v (V.shl rfl rfl og _ (uM)) rfl (gO ?_)));refine XO.v (V.bits rfl rfl rfl (by first | exact jB _ | exact iO og | (rw[IntKind.bits];omega)) (by first | exact jB _ | exact iO og | (rw[IntKind.bits];omega)) rfl) rfl (gO ?_);refine st .aa (uN _ (rA _)) rfl (ao rfl rfl rfl (ad .h1 rfl ?_));grind [aL,aJ,BS.take]
 ·refine ao rfl rfl rfl (ad .h1 rfl ?_);grind [aL,aJ,G9]
end Go.X.Sg
