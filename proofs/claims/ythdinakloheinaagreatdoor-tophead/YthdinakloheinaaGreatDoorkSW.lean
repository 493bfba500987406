import Derived.Test.YthdinakloheinaaGreatDoorProg
import Derived.Test.YthdinakloheinaaGreatDoorkVA
import Derived.Test.YthdinakloheinaaGreatDoorXClose
set_option linter.all false
namespace Go.X
open Go Go.Proofs Go.X
instance:Tb Tryz.prog:=⟨⟨(.nd 10432 [0,1] (.nd 5696 [0,1,2,3,4,5,11] (.nd 2432 [0,1] (.nd 1152 [0] (.nd 832 [0,1] (.nd 512 [0,1,2,3] (.nd 448 [0,1,2,3] .lf .lf) .lf) (.nd 896 [0,1] .lf .lf)) (.nd 1920 [0,1,2,3,4,5,6,7] (.nd 1216 [0] .lf .lf) (.nd 1984 [0,1,2,3,4,5,6,7] .lf .lf))) (.nd 4224 [0,1,2,3,4] (.nd 3712 [0,1,2,3] (.nd 3648 [0,1,2,3] (.nd 2496 [0,1] .lf .lf) .lf) (.nd 4160 [0,1,2,3,4] .lf .lf)) (.nd 5568 [0,1,2] (.nd 5504 [0,1,2] .lf .lf) (.nd 5632 [0,1,2,3,4,5,11] .lf .lf)))) (.nd 9216 [0,1,2] (.nd 8512 [0] (.nd 8320 [0,1,2] (.nd 6464 [0,440,441,442,443,444,445,446,447] (.nd 6400 [0,440,441,442,443,444,445,446,447] .lf .lf) .lf) (.nd 8384 [0,1,2] .lf .lf)) (.nd 9024 [0,1] (.nd 8576 [0] .lf .lf) (.nd 9088 [0,1] .lf .lf))) (.nd 9920 [0,1,2] (.nd 9664 [0,50] (.nd 9600 [0,50] (.nd 9280 [0,1,2] .lf .lf) .lf) (.nd 9856 [0,1,2] .lf .lf)) (.nd 10176 [0,138] (.nd 10112 [0,138] .lf .lf) (.nd 10368 [0,1] .lf .lf))))) (.nd 12544 [0,1,2] (.nd 11584 [0,1,2,3,4] (.nd 10880 [0,1,2] (.nd 10688 [0,2] (.nd 10624 [0,1,3] (.nd 10560 [0,1,3] .lf .lf) .lf) (.nd 10752 [0,2] .lf .lf)) (.nd 11264 [0,1,513] (.nd 10944 [0,1,2] .lf .lf) (.nd 11328 [0,1,513] .lf .lf))) (.nd 11968 [0,1,2,3,4,5,6,71,72,73,74,75] (.nd 11840 [0,1] (.nd 11776 [0,1] (.nd 11648 [0,1,2,3,4] .lf .lf) .lf) (.nd 11904 [0,1,2,3,4,5,6,71,72,73,74,75] .lf .lf)) (.nd 12160 [0,2280] (.nd 12096 [0,2280] .lf .lf) (.nd 12480 [0,1,2] .lf .lf)))) (.nd 16192 [0,1] (.nd 13952 [0,320] (.nd 13760 [0,1,2,3,4,5,6,7] (.nd 13504 [0,1,2,3] (.nd 13440 [0,1,2,3] .lf .lf) .lf) (.nd 13824 [0,1,2,3,4,5,6,7] .lf .lf)) (.nd 15808 [0,7] (.nd 14016 [0,320] .lf .lf) (.nd 15872 [0,7] .lf .lf))) (.nd 20352 [0,1,2,3] (.nd 19968 [0,1] (.nd 16256 [0,1] .lf .lf) (.nd 20032 [0,1] .lf .lf)) (.nd 21056 [0,1,2,3,4,5,6,7,8,9,10] (.nd 20416 [0,1,2,3] .lf .lf) (.nd 21120 [0,1,2,3,4,5,6,7,8,9,10] .lf .lf)))))),(.nd 207 [4] (.nd 124 [7] (.nd 57 [7,7] (.nd 38 [7,7] (.nd 27 [7,7,6,7,7,1,1] (.nd 2 [6,6,5,6,6,7,7,3,3,3,6,7,7,2,2,2,7,7,1,6,4,2] .lf .lf) .lf) (.nd 53 [7,7,4] .lf .lf)) (.nd 82 [2,7,6,7,7,7,7,7,7,2,2,2,2,2,2,2,2,7,7,7,6] (.nd 79 [2] (.nd 64 [7,7,7,7] .lf .lf) .lf) (.nd 106 [2] .lf .lf))) (.nd 162 [7,7,4,7,7,7,7] (.nd 149 [7,7,7] (.nd 140 [4,7,7,7,7,7] (.nd 130 [7,7,7,7,7] .lf .lf) .lf) (.nd 154 [7,7,7,7,7,7] .lf .lf)) (.nd 181 [7,7,4,7,7,7,7,7,7,7,2] (.nd 170 [7,7,2,7,7,7,7,7,2] .lf .lf) (.nd 194 [7,7,7] .lf .lf)))) (.nd 266 [2] (.nd 246 [7,7,7] (.nd 228 [2] (.nd 215 [7,7,7,7,7] (.nd 210 [7,7] .lf .lf) .lf) (.nd 231 [4,2] .lf .lf)) (.nd 256 [7,6,6] (.nd 252 [2,7,7] .lf .lf) (.nd 262 [2] .lf .lf))) (.nd 302 [2] (.nd 294 [6] (.nd 282 [6] (.nd 269 [4] .lf .lf) .lf) (.nd 299 [7] .lf .lf)) (.nd 318 [7,7,7,7,7,6,6] (.nd 311 [7,7,7,7] .lf .lf) (.nd 326 [2,6,6,7,7] .lf .lf))))),(.nd 207 [1] (.nd 124 [10] (.nd 57 [4,4] (.nd 38 [2,2] (.nd 27 [21,21,1,8,8,1,1] (.nd 2 [1,1,1,1,1,4,4,1,1,1,1,2,2,1,1,1,1,1,1,1,1,1] .lf .lf) .lf) (.nd 53 [128,2560,1] .lf .lf)) (.nd 82 [1,6,1,9,11,11,22,22,440,1,1,1,1,1,1,1,1,6,453,453,1] (.nd 79 [1] (.nd 64 [20,5,5,50] .lf .lf) .lf) (.nd 106 [1] .lf .lf))) (.nd 162 [2,2,1,4,4,4,4] (.nd 149 [10,60,60] (.nd 140 [1,2,2,32,34,34] (.nd 130 [3,3,24,24,24] .lf .lf) .lf) (.nd 154 [23,23,138,20,158,158] .lf .lf)) (.nd 181 [5,5,1,65,65,76,76,2280,2281,2281,1] (.nd 170 [3,3,1,8,512,64,577,577,1] .lf .lf) (.nd 194 [120,122,122] .lf .lf)))) (.nd 269 [1] (.nd 246 [7,71,71] (.nd 228 [1] (.nd 215 [8,8,320,321,321] (.nd 210 [4,4] .lf .lf) .lf) (.nd 231 [1,1] .lf .lf)) (.nd 262 [1] (.nd 256 [32,1,1] (.nd 252 [1,2,2] .lf .lf) .lf) (.nd 266 [1] .lf .lf))) (.nd 311 [256,2,2,32] (.nd 299 [64] (.nd 294 [1] (.nd 282 [1] .lf .lf) .lf) (.nd 302 [1] .lf .lf)) (.nd 323 [1,1] (.nd 318 [4,4] .lf .lf) (.nd 326 [1,1,1,11,11] .lf .lf))))),(.nd 149 [10] (.nd 85 [9] (.nd 64 [20] (.nd 53 [128,20] (.nd 27 [21,21] .lf .lf) .lf) (.nd 83 [6] (.nd 67 [10] .lf .lf) .lf)) (.nd 124 [10] (.nd 99 [6] (.nd 90 [20] .lf .lf) .lf) (.nd 143 [16] (.nd 132 [8] .lf .lf) .lf))) (.nd 246 [7] (.nd 188 [30] (.nd 173 [8,64,64] (.nd 156 [6,20] .lf .lf) .lf) (.nd 217 [40] (.nd 194 [24] .lf .lf) .lf)) (.nd 311 [256] (.nd 299 [64] (.nd 256 [32] .lf .lf) .lf) (.nd 320 [0] (.nd 314 [16] .lf .lf) .lf)))),(.nd 149 [1] (.nd 85 [1] (.nd 64 [1] (.nd 53 [1,128] (.nd 27 [1,1] .lf .lf) .lf) (.nd 83 [1] (.nd 67 [5] .lf .lf) .lf)) (.nd 124 [1] (.nd 99 [1] (.nd 90 [22] .lf .lf) .lf) (.nd 143 [2] (.nd 132 [3] .lf .lf) .lf))) (.nd 246 [1] (.nd 188 [76] (.nd 173 [1,8,1] (.nd 156 [23,1] .lf .lf) .lf) (.nd 217 [8] (.nd 194 [5] .lf .lf) .lf)) (.nd 311 [1] (.nd 299 [1] (.nd 256 [1] .lf .lf) .lf) (.nd 320 [1] (.nd 314 [2] .lf .lf) .lf)))),(.nd 183 [2] (.nd 140 [3] (.nd 55 [1] (.nd 22 [8] .lf .lf) .lf) (.nd 164 [4] .lf .lf)) (.nd 231 [1] (.nd 207 [1] .lf .lf) (.nd 269 [2] .lf .lf))),(.nd 287 [0,0,0,0,0] (.nd 269 [0] (.nd 2 [0,0,0,0,0,0,0,0,0,0,0,0,0,0,0,0,0,0,0,0,0,0,0,0,0,0,0,0,0,0,0,0,0,0,0,0,0,0,0,0,0,0,0,0,0,0,0,0,0,0,0,0,0,0,0,0,0,0,0,0,0,0,0,0,0,0,0,0,0,0,0,0,0,0,0,0,0,0,0,0,0,0,0,0,0,0,0,0,0,0,0,0,0,0,0,0,0,0,0,0,0,0,0,0,0,0,0,0,0,0,0,0,0,0,0,0,0,0,0,0,0,0,0,0,0,0,0,0,0,0,0,0,0,0,0,0,0,0,0,0,0,0,0,0,0,0,0,0,0,0,0,0,0,0,0,0,0,0,0,0,0,0,0,0,0,0,0,0,0,0,0,0,0,0,0,0,0,0,0,0,0,0,0,0,0,0,0,0,0,0,0,0,0,0,0,0,0,0,0,0,0,0,0,0,0,0,0,0,0,0,0,0,0,0,0,0,0,0,0,0,0,0,0,0,0,0,0,0,0,0,0,0,0,0,0,0,0,0,0,0,0,0,0,0,0,0,0,0,0,0,0,0,0,0,0,0,0,0,0,0,0,0,0,0,0,0] .lf .lf) (.nd 271 [0,0,0,0,0,0,0,0,0,0,0,0,0,0,0] .lf .lf)) (.nd 296 [0] (.nd 293 [0,0] .lf .lf) (.nd 321 [0] .lf .lf)))⟩,kq⟩
def mixed:Tryz.prog.follows .mixedOrders=true:=kq
theorem jm(T:TypeId):az T 0= .nilIface:=rfl
theorem zM(T:TypeId):az T 1= .iface T (iI 1):=rfl
theorem zN(T:TypeId):az T 2= .iface T (iI 2):=rfl
theorem zO(T:TypeId):az T 3= .iface T (iI 3):=rfl
theorem zP(T:TypeId):az T 4= .iface T (iI 4):=rfl
theorem zQ(T:TypeId):az T 5= .iface T (iI 5):=rfl
theorem zR(T:TypeId):az T 6= .iface T (iI 6):=rfl
theorem zS(T:TypeId):az T 7= .iface T (iI 7):=rfl
theorem zT(T:TypeId):az T 8= .iface T (iI 8):=rfl
theorem zU(T:TypeId):az T 9= .iface T (iI 9):=rfl
theorem uU(T:TypeId):az T 10= .iface T (iI 10):=rfl
theorem uV(T:TypeId):az T 11= .iface T (iI 11):=rfl
theorem uW(T:TypeId):az T 12= .iface T (iI 12):=rfl
theorem uX(T:TypeId):az T 13= .iface T (iI 13):=rfl
end Go.X

namespace Go.X.Sp
open Go Go.Proofs Go.X
set_option maxRecDepth 20000
set_option maxHeartbeats 4000000
def abR:ny Tryz.prog 155=true:=kq
def tZ(z:Int):∀ w,(Instr.buildSlice 55 1 #[(0,iI z)]).run Tryz.prog w= .ok (.slice (some ⟨w.heap.size,0,none⟩) 1 1) (w.alloc (.cells #[iI z] 3)):=fun w=>kq
def qe:rh Tryz.prog 3 1=true:=kq
def lF:jD Tryz.prog 3=true:=kq
def Qp:fb Tryz.prog 155=some 23:=kq
def o4:fb Tryz.prog 3=some 1:=kq
def uY(p:Int):Spec Tryz.prog 121 [iI p] [] (fun v H1=>v= .agg (Pj p)/\H1=[]):=by
 refine Spec.go 15 [0,2,3,4,7,8] [] Tryz.func121 fun W=> ?_;refine XO.bJ (z:=.agg rE) (m:=23) (C:=cellsOf rE) (fun _ _=>rfl) ?_;intro br;refine gO ?_;refine XO.v (V.build (vs:= #[(0,.bool true),(1,iI p)]) rfl (v:=.agg #[.bool true,iI p,iI 0,iI 0,iI 0,iI 0,iI 0,iI 0,iI 0,iI 0,iI 0,iI 0,iI 0,iI 0,iI 0,iI 0,iI 0,iI 0,iI 0,iI 0,iI 0,iI 0,iI 0]) fun _=>kq) rfl (gO ?_);refine XO.bJ (z:=.agg rE) (m:=23) (C:=cellsOf rE) (fun _ _=>rfl) ?_;intro bx;refine gO ?_;refine fW .aa (SR p _ IS) rfl ⟨rfl,rfl⟩ ?_;refine lp (σ:=Int) (fun k=>(21-k).toNat) (fun k=>0<=k/\k<=21) (fun k=>[(7,iI k),(2,aA br 0 0),(3,aA bx 0 0)]) (fun k=>XM W (ck []) [.cells br 0 23 (cellsOf rE),.cells bx 0 23 (vu ⟨p,Em k⟩)]) (0) ?_ S3 (xq (pk [1,0])) ?_
 ·omega
 intro k hk;refine gC ?_;refine cd rfl ?_ ?_<;>intro h1
 ·refine sd (st (.ao .aa) (Cg _ _ og _) rfl (sd (ag (k+1) ?_ ?_ S3 fun _ hw=>by rw[<-IQ k];exact XM.pick (pz 2) hw)));all_goals omega
 ·obtain rfl:k=21:=og;refine lM (.ao .aa) (SP p) (fW .aa (aa9 _ IS p) rfl ⟨rfl,rfl⟩ (Ws rfl rfl .aa (SP p) abR Qp (ai .nil rfl ?_)));simp_all
def zV(b o:Nat)(s:SS)(n:Int):Spec Tryz.prog 119 [aA b o 0,iI n] [.cells b o 158 (aO s)] (fun v H1=>((s.is n=0/\0<=n/\n<6/\s.aa n=true)/\v= .nilIface/\H1=[.cells b o 158 (aO s)])\/(s.is n≠0/\v= .iface 102 (iI (s.is n))/\H1=[.cells b o 158 (aO s)])):=by
 refine Spec.go 21 [0,1,4,10,19] [] Tryz.func119 fun W=> ?_;refine sp 7 rfl ?_ ?_<;>intro h1
 ·refine bS .h1 ?_;try dsimp only[aK,aJ,aG,aR]
  rcases s.jx n with⟨q,q1,q2,q3⟩ | ⟨q,q1⟩ | ⟨q,q1,q2,q3⟩<;>first | (exfalso;omega) | (exfalso;simp_all;done) | exact .inl ⟨⟨q,q1,q2,q3⟩,rfl,rfl⟩ | exact .inr ⟨og,by rw[q],rfl⟩
 ·refine cd rfl ?_ ?_<;>intro h2
  ·refine bS .h1 ?_;try dsimp only[aK,aJ,aG,aR]
   rcases s.jx n with⟨q,q1,q2,q3⟩ | ⟨q,q1⟩ | ⟨q,q1,q2,q3⟩<;>first | (exfalso;omega) | (exfalso;simp_all;done) | exact .inl ⟨⟨q,q1,q2,q3⟩,rfl,rfl⟩ | exact .inr ⟨og,by rw[q],rfl⟩
  ·refine sd (ld .aa (ko _ _) ?_);refine yW ?_ ?_<;>intro h3
   ·try simp only[sb]at h3
    refine bS .h1 ?_;try dsimp only[aK,aJ,aG,aR]
    rcases s.jx n with⟨q,q1,q2,q3⟩ | ⟨q,q1⟩ | ⟨q,q1,q2,q3⟩<;>first | (exfalso;omega) | (exfalso;simp_all;done) | exact .inl ⟨⟨q,q1,q2,q3⟩,rfl,rfl⟩ | exact .inr ⟨og,by rw[q],rfl⟩
   ·try simp only[sb]at h3
    refine bS .h1 ?_;try dsimp only[aK,aJ,aG,aR]
    rcases s.jx n with⟨q,q1,q2,q3⟩ | ⟨q,q1⟩ | ⟨q,q1,q2,q3⟩<;>first | (exfalso;omega) | (exfalso;simp_all;done) | exact .inl ⟨⟨q,q1,q2,q3⟩,rfl,rfl⟩ | exact .inr ⟨og,by rw[q],rfl⟩
def abS(b o:Nat)(s:SS)(aL:Int->Nat)(hD:s.Deep aL)(n:Int)(hn:0<=n/\n<6/\s.aa n=true):Spec Tryz.prog 120 [aA b o 0,iI n] [.cells b o 158 (aO s)] (fun v H1=>∃ p cap,v= .slice p (s.cF aL n).length cap/\H1=[dE p cap 3 (s.cF aL n),.cells b o 158 (aO s)]):=by
 refine Spec.go 22 [0,1,4,5,6,9] [] Tryz.func120 fun W=> ?_;refine XR.ft 3 1 ?_;refine lp (σ:=Int×List Int×Option Addr×Nat) (fun x=>if x.1= -1 then 0 else aL x.1) (fun x=>(x.1= -1/\x.2.1=s.cF aL n)\/((0<=x.1/\x.1<6/\s.aa x.1=true)/\x.2.1++s.je (aL x.1) x.1=s.cF aL n)) (fun x=>[(5,.slice x.2.2.1 x.2.1.length x.2.2.2),(6,iI x.1),(0,aA b o 0)]) (fun x=>XM W (ck [.cells b o 158 (aO s)]) [dE x.2.2.1 x.2.2.2 3 x.2.1,.cells b o 158 (aO s)]) ((n,[],none,0)) ?_ S3 (xq (pz 2)) ?_
 ·exact .inr ⟨hn,rfl⟩
 intro x hx;refine gC ?_;refine cd rfl ?_ ?_<;>intro h1
 ·obtain⟨hx,hw⟩:=hx.resolve_left og;have hlen:x.2.1.length<=4:=by
   have h9:=congrArg List.length hw;rw[List.length_append,SS.cF,SS.pB,SS.pB]at h9;have:=(hD.d n hn.1 hn.2.1 hn.2.2).2.1;omega
  obtain⟨DZ,sK,Wa⟩:=id hx;refine XO.buildSlice (A:= #[iI _]) (vs:= #[(0,iI _)]) rfl (tZ _) rfl rfl ?_;intro h2;refine gO ?_;refine kW (e:=3) rfl rfl Tryz.underlying55 qe (.ao .aa) .aa og rfl ?_;intro h3 h4;refine gO ?_;refine sd (ld (.t2 .aa) (kY _ _) (ag ((s.ax x.1,x.2.1++[x.1],_,_)) ?_ ?_ S3 (xq (pk [0,1]))))
  ·show(if s.ax x.1= -1 then 0 else aL (s.ax x.1))<(if x.1= -1 then 0 else aL x.1);obtain⟨h1,h2,h3⟩:=hx;by_cases q:s.ax x.1= -1
   ·have:=(hD.d x.1 h1 h2 h3).1;grind
   grind [SS.IV]
  grind [SS.Xb,SS.IV]
 ·refine bS (pz 2) ?_;simp_all[aK,aJ]
def FQ(b o:Nat)(s:SS)(n:Int)(hn:0<=n/\n<6)(hh:s.aa n=true):Spec Tryz.prog 192 [aA b o 0,iI n] [.cells b o 158 (aO s)] (fun v H1=>∃ p cap,v= .slice p (s.cU n).length cap/\H1=[dE p cap 3 (s.cU n),.cells b o 158 (aO s)]):=by
 refine Spec.go 26 [0,1,4,5,7,14,15,16,19] [] Tryz.func192 fun W=> ?_;refine XR.ft 3 1 (sd (lM (.ao .aa) (Ci _ _ og aq) ?_));refine lp (σ:=Int×List Int×Option Addr×Nat) (fun x=>(21-x.1).toNat) (fun x=>(0<=x.1/\x.1<=21)/\x.2.1=dH (s.bG n) x.1.toNat) (fun x=>[(5,.slice x.2.2.1 x.2.1.length x.2.2.2),(15,iI x.1),(14,.agg (Gd (s.bG n) 21))]) (fun x=>XM W (ck [.cells b o 158 (aO s)]) [dE x.2.2.1 x.2.2.2 3 x.2.1,.cells b o 158 (aO s)]) ((0,[],none,0)) ?_ S3 (xq (pz 2)) ?_
 ·exact⟨og,rfl⟩
 intro x hx;obtain⟨hx,hL⟩:=hx;have hlen:=nD (s.bG n) x.1.toNat;rw[<-hL]at hlen;have hnx:=Eo (s.bG n) hx.1;refine gC ?_;refine cd rfl ?_ ?_<;>intro h1
 ·refine XO.v (ln rfl rfl Tryz.underlying27 o4 lF) rfl (gO ?_);refine cd rfl ?_ ?_<;>intro h2
  ·refine XO.buildSlice (A:= #[iI _]) (vs:= #[(0,iI _)]) rfl (tZ _) rfl rfl ?_;intro h3;refine gO ?_;refine kW (e:=3) rfl rfl Tryz.underlying55 qe (.ao .aa) .aa og rfl ?_;intro h4 h5;refine gO ?_;refine sd (ag ((x.1+1,x.2.1++[s.bG n x.1],_,_)) ?_ ?_ S3 (xq (pk [0,1])));all_goals grind
  ·refine sd (ag ((x.1+1,x.2.1,_,_)) ?_ ?_ S3 (xq (pz 2)));all_goals grind
 ·refine bS (pz 2) ?_;have abT:x.1=21:=og;rw[abT]at hL;exact⟨_,_,by rw[hL];rfl,by rw[hL];rfl⟩
def Mh(b o:Nat)(s:SS)(p:Int):Spec Tryz.prog 118 [aA b o 0,iI p] [.cells b o 158 (aO s)] (fun v H1=>(v= .tuple #[iI (s.bM p).1,az 102 (s.bM p).2]/\((s.bM p).2=0->(0<=p/\p<20)/\0<=s.loc p/\(s.bM p).1=s.loc p))/\H1=[.cells b o 158 (aO s)]):=by
 refine Spec.go 27 [0,1,4,5,11,19] [] Tryz.func118 fun W=> ?_;refine sp 8 rfl ?_ ?_<;>intro h1
 ·refine eH .h1 ?_;grind [aK,aJ,aR,SS.bM,az]
 ·refine cd rfl ?_ ?_<;>intro h2
  ·refine eH .h1 ?_;grind [aK,aJ,aR,SS.bM,az]
  ·refine sd (ld .aa (rB _ _) ?_);refine cd rfl ?_ ?_<;>intro h3
   ·refine eH .h1 ?_;grind [aK,aJ,aR,SS.bM,az]
   ·refine sd (ld .aa (rB _ _) (bC rfl rfl rfl (ai .h1 rfl ?_)));grind [aK,aJ,aR,SS.bM,az]
def Qq(b o:Nat)(s:SS)(n:Int):Spec Tryz.prog 191 [aA b o 0,iI n] [.cells b o 158 (aO s)] (fun v H1=>∃ p cap,v= .tuple #[.slice p (s.mem n).1.length cap,az 102 (s.mem n).2]/\H1=[dE p cap 3 (s.mem n).1,.cells b o 158 (aO s)]):=by
  refine Spec.go 16 [0,1,4,5,6,11] [] Tryz.func191 fun W=> ?_
  refine ca (zV _ _ _ _) .h1 ?_
  rintro _ _ (⟨h1,rfl,rfl⟩ | ⟨h1,rfl,rfl⟩)
  · skip
    obtain⟨i0,i1,i2,i3⟩:=h1
    refine gO ?_
    refine ca (FQ _ _ _ _ og aq) .h1 ?_
    rintro _ _ ⟨pl,cl,rfl,rfl⟩
    refine gO ?_
    refine eH (pz 2) ?_
    first
    | (have hm:s.mem n=([],s.is n):=by unfold SS.mem;rw[if_pos aq]
       rw[hm];exact⟨none,0,by rw[aV _ aq];rfl,rfl⟩)
    | (have hm:s.mem n=(s.cU n,0):=by unfold SS.mem;rw[if_neg (by simp_all)]
       rw[hm];exact⟨_,_,rfl,rfl⟩)
  · skip
    have i0:=h1
    refine gO ?_
    refine XR.ft 3 1 (bC rfl rfl rfl (ai (pz 2) rfl ?_))
    first
    | (have hm:s.mem n=([],s.is n):=by unfold SS.mem;rw[if_pos aq]
       rw[hm];exact⟨none,0,by rw[aV _ aq];rfl,rfl⟩)
    | (have hm:s.mem n=(s.cU n,0):=by unfold SS.mem;rw[if_neg (by simp_all)]
       rw[hm];exact⟨_,_,rfl,rfl⟩)
def ZS(b o:Nat)(s:SS):Spec Tryz.prog 91 [aA b o 0] [.cells b o 158 (aO s)] (fun v H1=>∃ p cap,v= .slice p (eM s.aa 6).length cap/\H1=[dE p cap 3 (eM s.aa 6),.cells b o 158 (aO s)]):=by
 refine Spec.go 21 [0,2,3,4,5,6,14] [] Tryz.func91 fun W=> ?_;refine XR.ft 3 1 ?_;refine lp (σ:=Int×List Int×Option Addr×Nat) (fun x=>(6-x.1).toNat) (fun x=>(0<=x.1/\x.1<=6)/\x.2.1=eM s.aa x.1.toNat) (fun x=>[(3,.slice x.2.2.1 x.2.1.length x.2.2.2),(5,iI x.1),(0,aA b o 0)]) (fun x=>XM W (ck [.cells b o 158 (aO s)]) [dE x.2.2.1 x.2.2.2 3 x.2.1,.cells b o 158 (aO s)]) ((0,[],none,0)) ?_ S3 (xq (pz 2)) ?_
 ·grind [eM]
 intro x hx;obtain⟨hx,hL⟩:=hx;have hlen:=lq s.aa x.1.toNat;rw[<-hL]at hlen;have hnx:=zi s.aa hx.1;refine gC ?_;refine cd rfl ?_ ?_<;>intro h1
 ·refine sd (ld (.ao .aa) (ko _ _) ?_);refine yW ?_ ?_<;>intro h2
  ·try simp only[sb]at h2
   refine XO.buildSlice (A:= #[iI _]) (vs:= #[(0,iI _)]) rfl (tZ _) rfl rfl ?_;intro h3;refine gO ?_;refine kW (e:=3) rfl rfl Tryz.underlying55 qe (.ao .aa) .aa og rfl ?_;intro h4 h5;refine gO ?_;refine sd (ag ((x.1+1,x.2.1++[x.1],_,_)) ?_ ?_ S3 (xq (pk [0,1])));all_goals grind
  ·try simp only[sb]at h2
   refine sd (ag ((x.1+1,x.2.1,_,_)) ?_ ?_ S3 (xq (pz 2)));all_goals grind
 ·refine bS (pz 2) ?_;try dsimp only[aK,aJ,aG,aR]
  have abT:x.1=6:=og;simp_all
def J3(b o:Nat)(s:SS)(p n:Int):Spec Tryz.prog 62 [aA b o 0,iI p,iI n] [.cells b o 158 (aO s)] (fun v H1=>v= .tuple #[iI (s.gh p n).1,az 102 (s.gh p n).2]/\H1=[.cells b o 158 (aO s)]):=by
 refine Spec.go 41 [0,1,2,6,7,8,9,10,15,22,30,31,32,37] [] Tryz.func62 fun W=> ?_;refine ca (zV _ _ _ _) .h1 ?_;rintro _ _ (⟨h1,rfl,rfl⟩ | ⟨h1,rfl,rfl⟩)
 ·obtain⟨i0,i1,i2,i3⟩:=h1;refine gO ?_;refine sp 19 rfl ?_ ?_<;>intro h2
  ·refine eH .h1 ?_;grind [aK,aJ,aR,aV,rF]
  ·refine cd rfl ?_ ?_<;>intro h3
   ·refine eH .h1 ?_;grind [aK,aJ,aR,aV,rF]
   ·refine sd (lM .aa (Ci _ _ og aq) ?_);refine lp (σ:=Int) (fun k=>(21-k).toNat) (fun k=>(0<=k/\k<=21)/\∀ j:Int,0<=j->j<k->s.bG n j≠p) (fun k=>[(31,iI k),(1,iI p),(30,.agg (Gd (s.bG n) 21))]) (fun k=>XM W (ck [.cells b o 158 (aO s)]) [.cells b o 158 (aO s)]) (0) ?_ S3 (xq .h1) ?_
    ·grind
    intro k hk;obtain⟨hk,Ib⟩:=hk;refine gC ?_;refine cd rfl ?_ ?_<;>intro h4
    ·refine XO.v (ln rfl rfl Tryz.underlying27 o4 lF) rfl (gO ?_);refine cd rfl ?_ ?_<;>intro h5
     ·refine eH .h1 ?_;first
      | (rw[Ck aq];exact⟨by show _=Value.tuple #[_,az 102 (s.is n)];rw[aV _ aq],rfl⟩)
      | (rw[rF aq og];exact⟨rfl,rfl⟩)
      | (rw[SS.Cj (q:=k) aq og og og Ib];exact⟨rfl,rfl⟩)
      | (rw[Aw aq og fun j h1 h2=>Ib j h1 og];exact⟨rfl,rfl⟩)
     ·refine sd (ag (k+1) ?_ ?_ S3 (xq .h1));all_goals grind
    ·refine eH .h1 ?_;grind [aK,aJ,aR,aV,Aw]
 ·have i0:=h1;refine gO ?_;refine eH .h1 ?_;grind [aK,aJ,aR,Ck,aV]
def wB(b o:Nat)(s:SS)(n q:Int):Spec Tryz.prog 66 [aA b o 0,iI n,iI q] [.cells b o 158 (aO s)] (fun v H1=>v= .tuple #[iI (s.find n q).1,az 102 (s.find n q).2]/\H1=[.cells b o 158 (aO s)]):=by
 refine Spec.go 43 [0,1,2,6,7,8,13,32] [] Tryz.func66 fun W=> ?_;refine ca (zV _ _ _ _) .h1 ?_;rintro _ _ (⟨h1,rfl,rfl⟩ | ⟨h1,rfl,rfl⟩)
 ·obtain⟨i0,i1,i2,i3⟩:=h1;refine gO ?_;refine sp 17 rfl ?_ ?_<;>intro h2
  ·refine eH .h1 ?_;grind [aK,aJ,aR,aV,rG]
  ·refine sp 21 rfl ?_ ?_<;>intro h3
   ·refine eH .h1 ?_;grind [aK,aJ,aR,aV,rG]
   ·refine sd (sd (ld .aa (kZ _ _ _ og og (by first | assumption | (simp_all;done))) ?_));refine cd rfl ?_ ?_<;>intro h4
    ·refine eH .h1 ?_;grind [aK,aJ,aR,aV,rG]
    ·refine sd (sd (ld .aa (kZ _ _ _ og og (by first | assumption | (simp_all;done))) (bC rfl rfl rfl (ai .h1 rfl ?_))));grind [aK,aJ,aR,az,Ls]
 ·have i0:=h1;refine gO ?_;refine eH .h1 ?_;grind [aK,aJ,aR,IT,aV]
def aeT(b o:Nat)(s:SS)(aL:Int->Nat)(hD:s.Deep aL)(hA:∀ k,s.aa k=false->∀ j,s.bG k j= -1)(n:Int):Spec Tryz.prog 53 [aA b o 0,iI n] [.cells b o 158 (aO s)] (fun v H1=>v= .tuple #[iI (s.add aL n).1,az 102 (s.add aL n).2.1]/\H1=[.cells b o 158 (aO (s.add aL n).2.2)]):=by
 refine Spec.go 41 [0,1,4,5,6,7,12,18,20,21,30] [] Tryz.func53 fun W=> ?_;refine ca (zV _ _ _ _) .h1 ?_;rintro _ _ (⟨h1,rfl,rfl⟩ | ⟨h1,rfl,rfl⟩)
 ·obtain⟨i0,i1,i2,i3⟩:=h1;refine gO ?_;refine ca (abS _ _ _ aL hD _ ⟨og,og,aq⟩) .h1 ?_;rintro _ _ ⟨pl,cl,rfl,rfl⟩;refine gO ?_;refine cd rfl ?_ ?_<;>intro h2
  ·have hdp:=s.Bm aL n;refine eH (pk [1]) ?_;grind [aK,aJ,aR,IW,az]
  ·have hdp:=s.Bm aL n;refine lp (σ:=Int) (fun k=>(6-k).toNat) (fun k=>(0<=k/\k<=6)/\∀ j:Int,0<=j->j<k->s.aa j=true) (fun k=>[(20,iI k),(0,aA b o 0),(1,iI n)]) (fun k=>XM W (ck [.cells b o 158 (aO s)]) [.cells b o 158 (aO s)]) (0) ?_ S3 (xq (pk [1])) ?_
   ·grind
   intro k hk;obtain⟨hk,Ib⟩:=hk;refine gC ?_;refine cd rfl ?_ ?_<;>intro h3
   ·refine sd (ld .aa (ko _ _) ?_);refine yW ?_ ?_<;>intro h4
    ·try simp only[sb]at h4
     refine rq [0,1,2,4,5,3,6,7] mixed ?_;refine cq (uY _) .nil ?_;refine sd (fW .aa (Cl _ _ _ og (hA _ aq)) rfl ⟨rfl,rfl⟩ (bC rfl rfl rfl (ai .h1 rfl ?_)));grind [aK,aJ,aR,SS.SU,az]
    ·try simp only[sb]at h4
     refine sd (ag (k+1) ?_ ?_ S3 (xq .h1));all_goals grind
   ·refine eH .h1 ?_;grind [aK,aJ,aR,IX,az]
 ·have i0:=h1;refine gO ?_;refine eH .h1 ?_;grind [aK,aJ,aR,Lt,az]
def Up(b o:Nat)(s:SS)(n:Int):Spec Tryz.prog 132 [aA b o 0,iI n] [.cells b o 158 (aO s)] (fun v H1=>v=az 102 (s.drop n).1/\H1=[.cells b o 158 (aO (s.drop n).2)]):=by
 refine Spec.go 52 [0,1,4,5,6,11,21,23,24,43] [] Tryz.func132 fun W=> ?_;refine ca (zV _ _ _ _) .h1 ?_;rintro _ _ (⟨h1,rfl,rfl⟩ | ⟨h1,rfl,rfl⟩)
 ·obtain⟨i0,i1,i2,i3⟩:=h1;refine gO ?_;refine sp 15 rfl ?_ ?_<;>intro h2
  ·refine bS .h1 ?_;grind [aK,aJ,aR,xa,az]
  ·refine ca (FQ _ _ _ _ og aq) .h1 ?_;rintro _ _ ⟨pl,cl,rfl,rfl⟩;refine gO ?_;refine cd rfl ?_ ?_<;>intro h3
   ·refine bS (pk [1]) ?_;grind [aK,aJ,aR,xa,az]
   ·refine lp (σ:=Int) (fun k=>(6-k).toNat) (fun k=>(0<=k/\k<=6)/\∀ j:Int,0<=j->j<k->¬(s.aa j=true/\s.ax j=n)) (fun k=>[(23,iI k),(0,aA b o 0),(1,iI n)]) (fun k=>XM W (ck [.cells b o 158 (aO s)]) [.cells b o 158 (aO s)]) (0) ?_ S3 (xq (pk [1])) ?_
    ·grind
    intro k hk;obtain⟨hk,Ib⟩:=hk;refine gC ?_;refine cd rfl ?_ ?_<;>intro h4
    ·refine sd (ld .aa (ko _ _) ?_);refine M9 33 rfl ?_ ?_<;>intro h5
     ·try simp only[sb]at h5
      refine sd (ld .aa (kY _ _) ?_);refine cd rfl ?_ ?_<;>intro h6
      ·refine bS .h1 ?_;grind [aK,aJ,aR,IZ,az]
      ·refine sd (ag (k+1) ?_ ?_ S3 (xq .h1));all_goals grind
     ·try simp only[sb]at h5
      refine sd (ag (k+1) ?_ ?_ S3 (xq .h1));all_goals grind
    ·refine XO.v (V.build (vs:= #[]) rfl (v:=.agg rE) fun _=>kq) rfl (gO ?_);refine sd (fW .aa (Lu _ _ og) rfl ⟨rfl,rfl⟩ (bh rfl rfl (ai .h1 rfl ?_)));grind [aK,aJ,aR,SS.Xc,az]
 ·have i0:=h1;refine gO ?_;refine bS .h1 ?_;grind [aK,aJ,IY,az]
def Uq:Spec Tryz.prog 96 [] [] (fun v H1=>∃ b,v=aA b 0 0/\H1=[.cells b 0 158 (aO SS.cK)]):=by
 refine Spec.go 20 [0,1,2,10,11] [] Tryz.func96 fun W=> ?_;refine XO.v (V.build (vs:= #[]) rfl (v:=.agg ZC) fun _=>kq) rfl (gO ?_);refine XO.box (m:=158) (C:=aO SS.zero) rfl rfl Pm rfl ?_;intro bs;refine gO ?_;refine rq [0,2,3,1,4,5] mixed ?_;refine cq (uY _) .nil ?_;refine sd (fW .aa (Cl _ _ _ og fun _=>rfl) rfl ⟨rfl,rfl⟩ ?_);refine lp (σ:=Int) (fun k=>(20-k).toNat) (fun k=>0<=k/\k<=20) (fun k=>[(10,iI k),(1,aA bs 0 0)]) (fun k=>XM W (ck []) [.cells bs 0 158 (aO {SS.nU with loc:=Em k})]) (0) ?_ S2 (fun _ hw=>by rw[SX];exact XM.pick .h1 hw) ?_
 ·omega
 intro k hk;refine gC ?_;refine cd rfl ?_ ?_<;>intro h1
 ·refine sd (st .aa (rD _ _ og _) rfl (sd (ag (k+1) ?_ ?_ S2 fun _ hw=>by rw[<-IQ k];exact XM.pick .h1 hw)));all_goals omega
 ·refine bS .h1 ?_;try dsimp only[aK,aJ,aG,aR]
  grind [SS.cK]
def Hh(b o:Nat)(s:SS)(aL:Int->Nat)(hD:s.Deep aL)(n p:Int):Spec Tryz.prog 56 [aA b o 0,iI n,iI p] [.cells b o 158 (aO s)] (fun v H1=>v= .tuple #[iI (s.enter aL n p).1,az 102 (s.enter aL n p).2.1]/\H1=[.cells b o 158 (aO (s.enter aL n p).2.2)]):=by
 refine Spec.go 77 [0,1,2,6,7,8,10,11,16,23,31,41,42,43,44,48,60] [] Tryz.func56 fun W=> ?_;refine ca (zV _ _ _ _) .h1 ?_;rintro _ _ (⟨h1,rfl,rfl⟩ | ⟨h1,rfl,rfl⟩)
 ·obtain⟨i0,i1,i2,i3⟩:=h1;refine gO ?_;refine sp 20 rfl ?_ ?_<;>intro h2
  ·refine eH .h1 ?_;grind [aK,aJ,aR,oN,az]
  ·refine cd rfl ?_ ?_<;>intro h3
   ·refine eH .h1 ?_;grind [aK,aJ,aR,oN,az]
   ·refine sd (ld .aa (rB _ _) ?_);refine cd rfl ?_ ?_<;>intro h4
    ·refine eH .h1 ?_;grind [aK,aJ,aR,tu,az]
    ·refine sd (st .aa (rD _ _ og _) rfl ?_);have hD1:({s with loc:=ad s.loc p n} :SS).Deep aL:=⟨hD.d⟩;have hay:=({s with loc:=ad s.loc p n} :SS).Bm aL n;have hdn:=(hD.d n i1 i2 i3).2.1;refine ca (abS _ _ ({s with loc:=ad s.loc p n} :SS) aL hD1 n ⟨i1,i2,i3⟩) .h1 ?_;rintro _ _ ⟨pl,cl,rfl,rfl⟩;refine gO ?_;refine lp (σ:=Int×(Int->Int->Int)) (fun x=>((({s with loc:=ad s.loc p n} :SS).cF aL n).length-x.1).toNat) (fun x=>(0<=x.1/\x.1<=(({s with loc:=ad s.loc p n} :SS).cF aL n).length)/\iv x.2 p ((({s with loc:=ad s.loc p n} :SS).cF aL n).drop x.1.toNat)=iv s.bG p (({s with loc:=ad s.loc p n} :SS).cF aL n)) (fun x=>[(43,iI x.1),(0,aA b o 0),(1,iI n),(2,iI p),(41,.slice pl (({s with loc:=ad s.loc p n} :SS).cF aL n).length cl),(42,iI (({s with loc:=ad s.loc p n} :SS).cF aL n).length)]) (fun x=>XM W (ck [.cells b o 158 (aO s)]) [dE pl cl 3 (({s with loc:=ad s.loc p n} :SS).cF aL n),.cells b o 158 (aO {s with loc:=ad s.loc p n,bG:=x.2})]) ((0,s.bG)) ?_ S6 (xq (pz 2)) ?_
     ·simp_all
     intro x hx;obtain⟨hx,hw⟩:=hx;refine gC ?_;refine cd rfl ?_ ?_<;>intro h5
     ·obtain⟨a0,a1,a2⟩:=Fc hD1 (n:=n) ⟨i1,i2,i3⟩ (z:=x.1) ⟨hx.1,og⟩;refine bL .aa og ?_;intro gA h6;subst h6;refine sd (Ak .aa (ints_at) ?_);refine lp (σ:=Int) (fun k=>(21-k).toNat) (fun k=>(1<=k/\k<=21)/\∀ j:Int,1<=j->j<k->¬x.2 (il (({s with loc:=ad s.loc p n} :SS).cF aL n) x.1) j<0) (fun k=>[(11,iI k),(0,aA b o 0),(1,iI n),(2,iI p),(10,iI (il (({s with loc:=ad s.loc p n} :SS).cF aL n) x.1)),(41,.slice (some ⟨gA,0,none⟩) (({s with loc:=ad s.loc p n} :SS).cF aL n).length cl),(42,iI (({s with loc:=ad s.loc p n} :SS).cF aL n).length),(43,iI x.1)]) (fun k=>XM W (ck [.cells b o 158 (aO s)]) [dE (some ⟨gA,0,none⟩) cl 3 (({s with loc:=ad s.loc p n} :SS).cF aL n),.cells b o 158 (aO {s with loc:=ad s.loc p n,bG:=x.2})]) (1) ?_ (.cons rfl (.cons rfl S6)) (xq (pz 2)) ?_
      ·grind
      intro k hk;obtain⟨hk,Ib⟩:=hk;refine gC ?_;refine cd rfl ?_ ?_<;>intro h7
      ·refine sd (sd (ld (.ao .aa) (kZ _ _ _ og og (by first | assumption | (simp_all;done))) ?_));refine cd rfl ?_ ?_<;>intro h8
       ·have qi:x.2 (il (({s with loc:=ad s.loc p n} :SS).cF aL n) x.1) k<0:=h8;refine sd (sd (st (.ao .aa) (pC _ _ _ og og (by first | assumption | (simp_all;done)) _) rfl (sd (ag ((x.1+1,cv x.2 (il (({s with loc:=ad s.loc p n} :SS).cF aL n) x.1) k p)) ?_ ?_ S6 (xq (pz 2))))));all_goals grind [I1,iv,Pn]
       ·refine sd (ag (k+1) ?_ ?_ (.cons rfl (.cons rfl S6)) (xq (pz 2)));all_goals grind
      ·refine sd (ag ((x.1+1,x.2)) ?_ ?_ S6 (xq (pz 2)));all_goals grind [I1,iv,Po]
     ·refine cq (J3 _ _ _ _ _) (pk [1]) ?_;refine eH .h1 ?_;try dsimp only[aK,aJ,aG,aR]
      have Ur:x.1=(({s with loc:=ad s.loc p n} :SS).cF aL n).length:=og;have he:x.2=iv s.bG p (s.cF aL n):=by
       rw[Ur]at hw;simp at hw;exact(show x.2=iv x.2 p []from rfl).trans (hw.trans (congrArg (iv s.bG p) (SS.la (s:=s) (s':= {s with loc:=ad s.loc p n}) rfl _ _)))
      grind [SS.xd,SS.eR]
 ·have i0:=h1;refine gO ?_;refine eH .h1 ?_;grind [aK,aJ,aR,xc,az]
def Yf(b o:Nat)(s:SS)(aL:Int->Nat)(hD:s.Deep aL)(p:Int)(hl:0<=p->p<20->0<=s.loc p->s.loc p<6/\s.aa (s.loc p)=true)(hW:0<=p->∀ n q,s.bG n q=p->n∈s.cF aL (s.loc p)/\0<=q/\q<21):Spec Tryz.prog 131 [aA b o 0,iI p] [.cells b o 158 (aO s)] (fun v H1=>v=az 102 (s.fi p).1/\H1=[.cells b o 158 (aO (s.fi p).2)]):=by
 refine Spec.go 57 [0,1,4,5,6,8,9,10,18,22,23,24,25,34,35,36,41] [] Tryz.func131 fun W=> ?_;refine ca (Mh _ _ _ _) .h1 ?_;rintro _ _ ⟨⟨rfl,vm⟩,rfl⟩;refine gO ?_;refine cd rfl ?_ ?_<;>intro h1
 ·refine bS .h1 ?_;grind [aK,aJ,SS.fi]
 ·obtain⟨⟨p0,p20⟩,l0,hN⟩:=vm og;have hl2:=hl p0 p20 l0;have KQ:0<=(s.bM p).1/\(s.bM p).1<6/\s.aa (s.bM p).1=true:=by rw[hN];exact⟨l0,hl2.1,hl2.2⟩
  have hay:=s.Bm aL (s.bM p).1;have hdn:=(hD.d _ KQ.1 KQ.2.1 KQ.2.2).2.1;refine ca (abS _ _ s aL hD (s.bM p).1 KQ) .h1 ?_;rintro _ _ ⟨pl,cl,rfl,rfl⟩;refine gO ?_;refine lp (σ:=Int×(Int->Int->Int)) (fun x=>((s.cF aL (s.bM p).1).length-x.1).toNat) (fun x=>(0<=x.1/\x.1<=(s.cF aL (s.bM p).1).length)/\x.2=Lv s.bG ((s.cF aL (s.bM p).1).take x.1.toNat) p) (fun x=>[(24,iI x.1),(0,aA b o 0),(1,iI p),(22,.slice pl (s.cF aL (s.bM p).1).length cl),(23,iI (s.cF aL (s.bM p).1).length)]) (fun x=>XM W (ck [.cells b o 158 (aO s)]) [dE pl cl 3 (s.cF aL (s.bM p).1),.cells b o 158 (aO {s with bG:=x.2})]) ((0,s.bG)) ?_ S5 (xq (pz 2)) ?_
  ·grind [SY]
  intro x hx;obtain⟨hx,hw⟩:=hx;refine gC ?_;refine cd rfl ?_ ?_<;>intro h2
  ·obtain⟨a0,a1,a2⟩:=Fc hD (n:=(s.bM p).1) KQ (z:=x.1) ⟨hx.1,og⟩;refine bL .aa og ?_;intro gA h3;subst h3;refine sd ?_;refine Ak .aa (ints_at) ?_;refine sd ?_;refine lM (.ao .aa) (Ci _ _ og aq) ?_;refine lp (σ:=Int) (fun k=>(21-k).toNat) (fun k=>0<=k/\k<=21) (fun k=>[(35,iI k),(0,aA b o 0),(1,iI p),(8,iI (il (s.cF aL (s.bM p).1) x.1)),(22,.slice (some ⟨gA,0,none⟩) (s.cF aL (s.bM p).1).length cl),(23,iI (s.cF aL (s.bM p).1).length),(24,iI x.1),(34,.agg (Gd (x.2 (il (s.cF aL (s.bM p).1) x.1)) 21))]) (fun k=>XM W (ck [.cells b o 158 (aO s)]) [dE (some ⟨gA,0,none⟩) cl 3 (s.cF aL (s.bM p).1),.cells b o 158 (aO {s with bG:=A4 x.2 (il (s.cF aL (s.bM p).1) x.1) p k})]) (0) ?_ (.cons rfl (.cons rfl S6)) (fun _ ml=>by rw[Pp];exact XM.pick (pz 2) ml) ?_
   ·omega
   intro k hk;refine gC ?_;refine cd rfl ?_ ?_<;>intro h4
   ·refine XO.v (ln rfl rfl Tryz.underlying27 o4 lF) rfl (gO ?_);refine cd rfl ?_ ?_<;>intro h5
    ·refine sd ?_;refine sd ?_;refine st (.ao .aa) (pC _ _ _ og og (by first | assumption | (simp_all;done)) _) rfl ?_;refine sd ?_;refine ag (k+1) ?_ ?_ (.cons rfl (.cons rfl S6)) fun _ ml=>by first | (rw[<-I2 og aq];exact XM.pick (pz 2) ml) | (rw[<-Fe aq];exact XM.pick (pz 2) ml)
     all_goals omega
    ·refine sd ?_;refine ag (k+1) ?_ ?_ (.cons rfl (.cons rfl S6)) fun _ ml=>by first | (rw[<-I2 og aq];exact XM.pick (pz 2) ml) | (rw[<-Fe aq];exact XM.pick (pz 2) ml)
     all_goals omega
   ·obtain rfl:k=21:=og;refine sd ?_;refine ag ((x.1+1,A4 x.2 (il (s.cF aL (s.bM p).1) x.1) p 21)) ?_ ?_ S5 (xq (pz 2));all_goals grind [Pq]
  ·refine sd ?_;refine st (.ao .aa) (rD _ _ og _) rfl ?_;refine bS (pk [1]) ?_;try dsimp only[aK,aJ,aG,aR]
   have Ur:x.1=(s.cF aL (s.bM p).1).length:=og;rw[Ur]at hw;simp at hw;have hv:s.fi p=(0,s.left p):=by unfold SS.fi;rw[if_neg og]
   rw[hv];unfold SS.left;rw[<-SZ (l:=(s.cF aL (s.bM p).1)) (by rw[hN];exact hW p0),<-hw];grind [az]
end Go.X.Sp

namespace Go.X.Kn
open Go Go.Proofs Go.X Go.X.Sp
set_option maxRecDepth 20000
set_option maxHeartbeats 4000000
def Us:c9 Tryz.prog 52=true:=kq
def ZT:c9 Tryz.prog 62=true:=kq
def aeU:c9 Tryz.prog 66=true:=kq
def Df:eK Tryz.prog 101 2=some 441:=kq
def Ut:jD Tryz.prog 92=true:=kq
def eW(kb:Nat)(k:KP)(n:Int):Spec Tryz.prog 49 [aA kb 0 0,iI n] [.cells kb 0 453 (aD k)] (fun v H1=>((k.aH n=0/\v= .tuple #[aA kb 0 (0+0+n.toNat*22),.nilIface])\/(k.aH n≠0/\v= .tuple #[.pointer none,.iface 102 (iI (k.aH n))]))/\H1=[.cells kb 0 453 (aD k)]):=by
 refine Spec.go 27 [0,1,4,5,11,20] [] Tryz.func49 fun W=> ?_;refine sp 8 rfl ?_ ?_<;>intro h1
 ·refine eH .h1 ?_;grind [aK,aJ,aR,KP.aH]
 ·refine cd rfl ?_ ?_<;>intro h2
  ·refine eH .h1 ?_;grind [aK,aJ,aR,KP.aH]
  ·refine sd (ld .aa (fS _) ?_);refine cd rfl ?_ ?_<;>intro h3
   ·refine eH .h1 ?_;grind [aK,aJ,aR,KP.aH]
   ·refine sd (bC rfl rfl rfl (ai .h1 rfl ?_));grind [aK,aJ,aR,KP.aH]
def jK(kb:Nat)(k:KP)(s:Sp.SS)(n:Int):Spec Tryz.prog 52 [aA kb 0 0,iI n] [.cells kb 0 453 (aD k),.cells k.sb 0 158 (Sp.aO s)] (fun v H1=>v=iI (s.bM n).1/\H1=[.cells kb 0 453 (aD k),.cells k.sb 0 158 (Sp.aO s)]):=by
 refine Spec.go 17 [0,1,4,5] [] Tryz.func52 fun W=> ?_;refine ld .aa (aD.rR _) ?_;refine ca (Sp.Mh _ _ s _) (pk [1]) ?_;rintro _ _ ⟨⟨rfl,hof⟩,rfl⟩;refine gO ?_;refine bS (pk [1,0]) ?_;grind [aK,aJ]
def Dg(kb:Nat)(k:KP)(s:Sp.SS)(z:Int):Spec Tryz.prog 104 [aA kb 0 0,iI z] [.cells kb 0 453 (aD k),.cells k.sb 0 158 (Sp.aO s)] (fun v H1=>v=iI (s.find z 1).1/\H1=[.cells kb 0 453 (aD k),.cells k.sb 0 158 (Sp.aO s)]):=by
 refine Spec.go 17 [0,1,4,5] [] Tryz.func104 fun W=> ?_;refine ld .aa (aD.rR _) ?_;refine cq (Sp.wB _ _ s _ _) (pk [1]) ?_;refine bS (pk [1,0]) ?_;grind [aK,aJ]
def Uu(kb:Nat)(k:KP)(s:Sp.SS)(n:Int):Spec Tryz.prog 15 [aA kb 0 0,iI n] [.cells kb 0 453 (aD k),.cells k.sb 0 158 (Sp.aO s)] (fun v H1=>v=(if k.aH n=0 then .tuple #[iI (s.gh n (s.bM n).1).1,az 102 (s.gh n (s.bM n).1).2]else .tuple #[iI 0,az 102 (k.aH n)])/\H1=[.cells kb 0 453 (aD k),.cells k.sb 0 158 (Sp.aO s)]):=by
 refine Spec.go 28 [0,1,4,5,7,15] [] Tryz.func15 fun W=> ?_;refine ca (eW kb _ _) .h1 ?_;rintro _ _ ⟨⟨hl,rfl⟩ | ⟨hl,rfl⟩,rfl⟩
 ·obtain⟨kx,iy⟩:=bI hl;refine gO ?_;refine XC.gR mixed (f:=13) (l:= #[qF,qF,qF,qF,qF,qF,qF,qF,qF,qF,qF,qF,qF]) rfl rfl XM.kD ?_;refine XQ.pv (i:=0) rfl kq rfl (V.move rfl) rfl rfl ?_;refine XQ.pv (i:=1) rfl kq rfl (bD rfl) rfl rfl ?_;refine XQ.pv (i:=2) rfl kq rfl (V.fieldAddr rfl Df) rfl rfl ?_;refine XQ.load (i:=3) (.cells _ _ _ _) [8] rfl kq rfl .aa (V.load rfl ek (aD.rR _) Ut) rfl kq rfl ?_;refine XQ.pv (i:=4) rfl kq rfl (V.move rfl) rfl rfl ?_;refine XQ.pv (i:=5) rfl kq rfl (V.move rfl) rfl rfl ?_;refine XQ.pv (i:=6) rfl kq rfl (V.move rfl) rfl rfl ?_;refine XQ.call (i:=7) rfl kq rfl rfl (jK kb _ s n) (pz 2) Us rfl (by rintro _ _ ⟨rfl,rfl⟩;all_goals(intro _ dP;exact⟨fun _=>fc .aa _ dP,trivial⟩)) ?_;rintro _ _ ⟨rfl,rfl⟩;refine XQ.call (i:=8) rfl kq rfl rfl (J3 _ _ s _ _) (pk [1]) ZT rfl (by rintro _ _ ⟨rfl,rfl⟩;all_goals(intro _ dP;exact⟨fun hs=>(hs 8 (by first | (simp;done) | (simp;rfl)) rfl).elim,trivial⟩)) ?_;rintro _ _ ⟨rfl,rfl⟩;refine XQ.pv (i:=9) rfl kq rfl (V.extract rfl rfl) rfl rfl ?_;refine XQ.pv (i:=10) rfl kq rfl (V.extract rfl rfl) rfl rfl ?_;refine XQ.pv (i:=11) rfl kq rfl (V.assign rfl) rfl rfl ?_;refine XQ.pv (i:=12) rfl kq rfl (V.assign rfl) rfl rfl ?_;refine XQ.done kq ?_;refine gE ?_;refine eH (pk [1,0]) ?_;grind [aK,aJ]
 ·refine gO ?_;refine eH (pz 2) ?_;grind [aK,aJ,aR,az]
def aeV(kb:Nat)(k:KP)(s:Sp.SS)(aL:Int->Nat)(hI:s.Inv aL)(n q:Int):Spec Tryz.prog 18 [aA kb 0 0,iI n,iI q] [.cells kb 0 453 (aD k),.cells k.sb 0 158 (Sp.aO s)] (fun v H1=>v= .tuple #[iI (k.pH s n q).1,az 102 (k.pH s n q).2]/\H1=[.cells kb 0 453 (aD k),.cells k.sb 0 158 (Sp.aO s)]):=by
 refine Spec.go 45 [0,1,2,6,7,9,10,18,33,42] [] Tryz.func18 fun W=> ?_;refine ca (eW kb _ _) .h1 ?_;rintro _ _ ⟨⟨hl,rfl⟩ | ⟨hl,rfl⟩,rfl⟩
 ·obtain⟨kx,iy⟩:=bI hl;refine gO ?_;refine XC.gR mixed (f:=14) (l:= #[qF,qF,qF,qF,qF,qF,qF,qF,qF,qF,qF,qF,qF,qF]) rfl rfl XM.kD (XQ.pv (i:=0) rfl kq rfl (V.move rfl) rfl rfl (XQ.pv (i:=1) rfl kq rfl (bD rfl) rfl rfl (XQ.pv (i:=2) rfl kq rfl (V.fieldAddr rfl Df) rfl rfl (XQ.load (i:=3) (.cells _ _ _ _) [8] rfl kq rfl .aa (V.load rfl ek (aD.rR _) Ut) rfl kq rfl (XQ.pv (i:=4) rfl kq rfl (V.move rfl) rfl rfl (XQ.pv (i:=5) rfl kq rfl (V.move rfl) rfl rfl (XQ.pv (i:=7) rfl kq rfl (V.move rfl) rfl rfl (XQ.call (i:=6) rfl kq rfl rfl (jK kb _ s n) (pz 2) Us rfl (by rintro _ _ ⟨rfl,rfl⟩;all_goals(intro _ dP;exact⟨fun _=>fc .aa _ dP,trivial⟩)) ?_))))))));rintro _ _ ⟨rfl,rfl⟩;refine XQ.call (i:=8) rfl kq rfl rfl (Sp.wB _ _ s _ _) (pk [1]) aeU rfl (by rintro _ _ ⟨rfl,rfl⟩;all_goals(intro _ dP;exact⟨fun hs=>(hs 8 (by first | (simp;done) | (simp;rfl)) rfl).elim,trivial⟩)) ?_;rintro _ _ ⟨rfl,rfl⟩;refine XQ.pv (i:=9) rfl kq rfl (V.move rfl) rfl rfl (XQ.pv (i:=10) rfl kq rfl (V.extract rfl rfl) rfl rfl (XQ.pv (i:=11) rfl kq rfl (V.extract rfl rfl) rfl rfl (XQ.pv (i:=12) rfl kq rfl (V.assign rfl) rfl rfl (XQ.pv (i:=13) rfl kq rfl (V.assign rfl) rfl rfl (XQ.done kq (gE ?_))))));refine cd rfl ?_ ?_<;>intro h1
  ·have e:k.pH s n q=(0,(s.find (s.bM n).1 q).2):=by unfold KP.pH;rw[if_neg og,if_pos og]
   refine eH (pk [1,0]) ?_;grind [aK,aJ,aR]
  ·have hf:(s.find (s.bM n).1 q).2=0:=og;have hfr:=pI hI hf;refine sd (ld (.ao .aa) (fS _) ?_);refine cd rfl ?_ ?_<;>intro h2
   ·refine eH (pk [1,0]) ?_;grind [aK,aJ,aR,KP.pH,az]
   ·refine eH (pk [1,0]) ?_;grind [aK,aJ,aR,KP.pH,az]
 ·refine gO ?_;refine eH (pz 2) ?_;grind [aK,aJ,aR,KP.pH,az]
end Go.X.Kn

namespace Go.X.Sg
open Go Go.Proofs Go.X
set_option maxRecDepth 20000
set_option maxHeartbeats 4000000
def abU:vh Tryz.prog 256=some (32,1):=kq
def ye(n:Int):Spec Tryz.prog 141 [iI n] [] (fun v H1=>((1<=n/\n<=8)/\v= .nilIface/\H1=[])\/((n<1\/n>8)/\v= .iface 102 (iI 1)/\H1=[])):=by
 refine Spec.go 10 [0,2,8] [] Tryz.func141 fun W=> ?_;refine sp 5 rfl ?_ ?_<;>intro h1
 ·refine bS .nil ?_;grind [aK,aJ,aR]
 ·refine cd rfl ?_ ?_<;>intro h2
  ·refine bS .nil ?_;grind [aK,aJ,aR]
  ·refine bS .nil ?_;grind [aK,aJ,aR]
def Uv(b o:Nat)(s:BS)(n:Int)(hn:1<=n/\n<=8:=by omega):Spec Tryz.prog 142 [aA b o 0,iI n] [.cells b o 11 (fm s)] (fun v H1=>v=iI (s.zg n)/\H1=[.cells b o 11 (fm s)]):=by
 refine Spec.go 22 [0,1,4,15] [] Tryz.func142 fun W=> ?_;refine sp 7 rfl ?_ ?_<;>intro h1
 ·refine sd (ld .aa (mV _ _) ?_);refine cd rfl ?_ ?_<;>intro h2
  ·refine bS .h1 ?_;grind [aK,aJ,aR,BS.zg]
  ·refine sd (ld .aa (mV _ _) (bh rfl rfl (ai .h1 rfl ?_)));grind [aK,aJ,BS.zg]
 ·refine sd (ld .aa (mV _ _) (bh rfl rfl (ai .h1 rfl ?_)));grind [aK,aJ,BS.zg]
def Uw(b o:Nat)(s:BS)(n:Int):Spec Tryz.prog 138 [aA b o 0,iI n] [.cells b o 11 (fm s)] (fun v H1=>v=az 102 (s.send n).1/\H1=[.cells b o 11 (fm (s.send n).2)]):=by
 refine Spec.go 26 [0,1,4,5,15] [] Tryz.func138 fun W=> ?_;refine ca (ye _) .nil ?_;rintro _ _ (⟨h1,rfl,rfl⟩ | ⟨h1,rfl,rfl⟩)
 ·refine gO ?_;refine cq (Uv _ _ _ _) .h1 ?_;refine cd rfl ?_ ?_<;>intro h2
  ·refine rq [0,1,2,3,4,5,6,7,8,9] mixed (ld .aa (nS _) (XO.v (V.shl rfl rfl og _ (uD)) rfl (gO ?_)));refine XO.v (V.bits rfl rfl rfl (by first | exact jG _ | exact iO og | (rw[IntKind.bits];omega)) (by first | exact jG _ | exact iO og | (rw[IntKind.bits];omega)) rfl) rfl (gO ?_);refine st .aa (uE _ (IL _)) rfl (bh rfl rfl (ai .h1 rfl ?_));grind [aK,aJ,BS.W9,az]
  ·refine bS .h1 ?_;grind [aK,aJ,IM,az]
 ·refine gO ?_;refine bS .h1 ?_;grind [aK,aJ,Lp,az]
def J4(b o:Nat)(s:BS)(n:Int):Spec Tryz.prog 75 [aA b o 0,iI n,.bool true] [.cells b o 11 (fm s)] (fun v H1=>v=az 102 (s.dy n true).1/\H1=[.cells b o 11 (fm (s.dy n true).2)]):=by
 refine Spec.go 35 [0,1,2,6,7,11,14,25] [] Tryz.func75 fun W=> ?_;refine ca (ye _) .nil ?_;rintro _ _ (⟨h1,rfl,rfl⟩ | ⟨h1,rfl,rfl⟩)
 ·refine gO ?_;refine cd rfl ?_ ?_<;>intro h2
  ·refine bS .h1 ?_;grind [aK,aJ,aR,tq,az]
  ·refine rq [0,1,2,3,4,5,6,7,8,9] mixed (ld .aa (nT _) (XO.v (V.shl rfl rfl og _ (uD)) rfl (gO ?_)));refine XO.v (V.bits rfl rfl rfl (by first | exact jG _ | exact iO og | (rw[IntKind.bits];omega)) (by first | exact jG _ | exact iO og | (rw[IntKind.bits];omega)) rfl) rfl (gO ?_);refine st .aa (zh _ (rA _)) rfl (rq [0,1,2,3,4,5,6,7,8,9] mixed (ld .aa (nT _) (XO.v (V.shl rfl rfl og _ (uD)) rfl (gO ?_))));refine XO.v (V.bits rfl rfl rfl (by first | exact jG _ | exact iO og | (rw[IntKind.bits];omega)) (by first | exact jG _ | exact iO og | (rw[IntKind.bits];omega)) rfl) rfl (gO ?_);refine st .aa (zh _ (IL _)) rfl (bh rfl rfl (ai .h1 rfl ?_));first
   | (rw[vV og];exact⟨rfl,rfl⟩)
   | (rw[tq og];exact⟨rfl,rfl⟩)
   | (rw[BS.No og og];refine⟨rfl,?_⟩;first | rfl | exact congrArg (fun f=>[aB.cells b o 11 (fm {s with aX:=f})]) (by funext j;simp only[ad];split<;>rfl))
 ·refine gO ?_;refine bS .h1 ?_;grind [aK,aJ,vV,az]
def Hi(b o:Nat)(s:BS)(n:Int):Spec Tryz.prog 75 [aA b o 0,iI n,.bool false] [.cells b o 11 (fm s)] (fun v H1=>v=az 102 (s.dy n false).1/\H1=[.cells b o 11 (fm (s.dy n false).2)]):=by
 refine Spec.go 35 [0,1,2,6,7,11,14,25] [] Tryz.func75 fun W=> ?_;refine ca (ye _) .nil ?_;rintro _ _ (⟨h1,rfl,rfl⟩ | ⟨h1,rfl,rfl⟩)
 ·refine gO ?_;refine cd rfl ?_ ?_<;>intro h2
  ·refine bS .h1 ?_;grind [aK,aJ,aR,tq,az]
  ·refine rq [0,1,2,3,4,5,6,7,8,9] mixed (ld .aa (nT _) (XO.v (V.shl rfl rfl og _ (uD)) rfl (gO ?_)));refine XO.v (V.bits rfl rfl rfl (by first | exact jG _ | exact iO og | (rw[IntKind.bits];omega)) (by first | exact jG _ | exact iO og | (rw[IntKind.bits];omega)) rfl) rfl (gO ?_);refine st .aa (zh _ (rA _)) rfl (bh rfl rfl (ai .h1 rfl ?_));grind [aK,aJ,aR,BS.No,az]
 ·refine gO ?_;refine bS .h1 ?_;grind [aK,aJ,vV,az]
def aeW(b o:Nat)(s:BS)(n h:Int):Spec Tryz.prog 73 [aA b o 0,iI n,iI h] [.cells b o 11 (fm s)] (fun v H1=>v=az 102 (s.set n h).1/\H1=[.cells b o 11 (fm (s.set n h).2)]):=by
 refine Spec.go 42 [0,1,2,6,7,11,18,21,32] [] Tryz.func73 fun W=> ?_;refine ca (ye _) .nil ?_;rintro _ _ (⟨h1,rfl,rfl⟩ | ⟨h1,rfl,rfl⟩)
 ·refine gO ?_;refine sp 15 rfl ?_ ?_<;>intro h2
  ·refine bS .h1 ?_;grind [aK,aJ,aR,az,BS.set]
  ·refine cd rfl ?_ ?_<;>intro h3
   ·refine bS .h1 ?_;grind [aK,aJ,aR,az,BS.set]
   ·refine cd rfl ?_ ?_<;>intro h4
    ·refine bS .h1 ?_;grind [aK,aJ,aR,Lq,az]
    ·refine sd (st .aa (Ej _ _ og _) rfl ?_);refine cq (Uv _ _ _ _) .h1 ?_;refine cd rfl ?_ ?_<;>intro h5
     ·refine rq [0,1,2,3,4,5,6,7,8,9] mixed (ld .aa (nS _) (XO.v (V.shl rfl rfl og _ (uD)) rfl (gO ?_)));refine XO.v (V.bits rfl rfl rfl (by first | exact jG _ | exact iO og | (rw[IntKind.bits];omega)) (by first | exact jG _ | exact iO og | (rw[IntKind.bits];omega)) rfl) rfl (gO ?_);refine st .aa (uE _ (rA _)) rfl (bh rfl rfl (ai .h1 rfl ?_));grind [aK,aJ,aR,BS.Xa,az]
     ·refine bS .h1 ?_;grind [aK,aJ,aR,BS.aa8,az]
 ·refine gO ?_;refine bS .h1 ?_;grind [aK,aJ,Ph,az]
def ahA(x t:Nat)(hx:x<65536)(ht:x.testBit t=true)(hl:∀ j,j<t->x.testBit j=false)(abV:t<16):Spec Tryz.prog 197 [.int .u16 (x:Int)] [.ro 0 0 32 dD] (fun v H1=>v=iI (t:Int)/\H1=[]):=by
 have sP:0<x:=by
  grind
 obtain⟨z1,z2,z3,z4,z5⟩:=aes abV;refine Spec.go 15 [0,2,4] [] Tryz.func197 fun W=> ?_;refine AZ rfl (by simp;omega) (XO.v (V.neg rfl _ (W7 ⟨sP,hx⟩)) rfl (gO ?_));refine XO.v (V.bits (r:=2^t) rfl rfl rfl hx (Nat.sub_lt dq sP) (congrArg some (MY (w:=16) ht hl hx abV))) rfl (gO ?_);refine XO.v (od rfl Tryz.underlying84 Tryz.underlying257 _ z1) rfl (gO ?_);refine XO.v (V.mul rfl rfl _ z2) rfl (gO ?_);refine XO.v (V.shr rfl rfl og _ z3) rfl (gO ?_);refine XO.v (ER rfl rfl abU og) rfl (gO ?_);refine WK .aa (Lo abV) (XO.v (od rfl Tryz.underlying5 Tryz.underlying3 _ z5) rfl (gO ?_));refine bS .nil ?_;grind [aK,aJ]
def NU(b o:Nat)(s:BS)(hz:s.db 0=false)(h:Int):Spec Tryz.prog 146 [aA b o 0,iI h] [.cells b o 11 (fm s),.ro 0 0 32 dD] (fun v H1=>v= .tuple #[iI (s.first h),.bool (decide (s.first h≠0))]/\H1=[.cells b o 11 (fm s)]):=by
 refine Spec.go 34 [0,1,4,5,6,7,18,32] [] Tryz.func146 fun W=> ?_;refine rq [0,1,2,3,4,5,6,7,8,9] mixed ?_;refine ld .aa (nS _) ?_;refine ld .aa (nT _) ?_;refine XO.v (V.bits rfl rfl rfl (by first | exact jG _ | exact iO og | (rw[IntKind.bits];omega)) (by first | exact jG _ | exact iO og | (rw[IntKind.bits];omega)) rfl) rfl (gO ?_);refine lp (σ:=Nat×Nat) (fun x=>9-x.2) (fun x=>x.1<512/\x.2<=9/\(∀ j:Nat,x.1.testBit j=(decide (x.2<=j)&&(decide (j<9)&&s.db j&& !s.aX j)))/\∀ j:Int,0<=j->j<x.2->¬(s.db j=true/\s.aX j=false/\s.jN j=h)) (fun x=>[(6,.int .u16 (x.1:Int)),(0,aA b o 0),(1,iI h)]) (fun x=>XM W (ck [.cells b o 11 (fm s),.ro 0 0 32 dD]) [.cells b o 11 (fm s),.ro 0 0 32 dD]) ((lK (ph s.db) (ph s.aX),0)) ?_ S3 (xq (pz 2)) ?_
 ·grind [RL,SO,pS,lQ]
 intro x hx;obtain⟨DZ,sK,Wa,hx4⟩:=hx;refine gC ?_;refine cd rfl ?_ ?_<;>intro h1
 ·have fM:x.1≠0:=og;obtain⟨t,ht,hl⟩:=BQ fM;have hb:=ht;rw[Wa]at hb;simp only[Bool.and_eq_true,decide_eq_true_eq,Bool.not_eq_true']at hb;obtain⟨hb1,⟨vN,hb3⟩,hb4⟩:=hb;refine HQ 0 (ahA x.1 t og ht hl og) (pk [1]) rfl ?_;refine sd ?_;refine ld (.ao .aa) (mV _ _) ?_;refine cd rfl ?_ ?_<;>intro h2
  ·refine eH (pk [1]) ?_;try dsimp only[aK,aJ,aG,aR]
   rw[Ek (k:=(t:Int)) og hb3 hb4 aq fun j h1 h2=> ?_]
   ·have ht0:(t:Int)≠0:=by
     grind
    simp_all
   ·by_cases q2:j<x.2
    ·simp_all
    ·have q4:=hl j.toNat og;rw[Wa,show((j.toNat:Nat):Int)=j from og]at q4;have q5:x.2<=j.toNat:=og;have q6:j.toNat<9:=og;simp_all
  ·refine XO.v (V.sub rfl rfl _ (W8 ⟨og,og⟩)) rfl (gO ?_);refine XO.v (V.bits rfl rfl rfl (show x.1<65536 by omega) (show x.1-1<65536 by omega) rfl) rfl (gO ?_);refine ag ((x.1&&&(x.1-1),t+1)) ?_ ?_ S3 (xq (pk [1,0]))
   ·omega
   ·refine⟨Nat.lt_of_le_of_lt Nat.and_le_left DZ,by simp;omega,fun j=> ?_,fun j h1 h2=> ?_⟩
    ·show(x.1&&&(x.1-1)).testBit j=_;rw[OQ ht hl,Wa];by_cases q1:j<t
     ·grind
     ·by_cases q2:j=t
      ·simp_all
      ·have q3:t+1<=j:=og;have q4:x.2<=j:=og;simp_all
    ·by_cases q1:j=t
     ·simp_all
     ·by_cases q2:j<x.2
      ·simp_all
      ·have q3:j<t:=by simp at h2;omega
       have q4:=hl j.toNat og;rw[Wa,show((j.toNat:Nat):Int)=j from og]at q4;have q5:x.2<=j.toNat:=og;have q6:j.toNat<9:=og;simp_all
 ·refine eH .h1 ?_;try dsimp only[aK,aJ,aG,aR]
  have sP:x.1=0:=og;rw[El fun j h1 h2=> ?_]
  ·simp_all
  ·by_cases q2:j<x.2
   ·simp_all
   ·have q4:=Wa j.toNat;rw[sP,show((j.toNat:Nat):Int)=j from og]at q4;simp_all
def Dh(b o:Nat)(s:BS)(hz:s.db 0=false):Spec Tryz.prog 143 [aA b o 0] [.cells b o 11 (fm s),.ro 0 0 32 dD] (fun v H1=>v= .tuple #[iI (s.first 0),.bool (decide (s.first 0≠0))]/\H1=[.cells b o 11 (fm s)]):=by
 refine Spec.go 8 [0,2,3] [] Tryz.func143 fun W=> ?_;refine HQ 1 (NU _ _ _ hz _) (pz 2) rfl ?_;refine eH .h1 ?_;grind [aK,aJ]
def abW(b o:Nat)(s:BS)(hz:s.db 0=false):Spec Tryz.prog 77 [aA b o 0] [.cells b o 11 (fm s),.ro 0 0 32 dD] (fun v H1=>v= .tuple #[iI s.take.1,.bool (decide (s.take.1≠0))]/\H1=[.cells b o 11 (fm s.take.2)]):=by
 have hc:=s.tm 2 hz;refine Spec.go 23 [0,2,3,4,5,11] [] Tryz.func77 fun W=> ?_;refine HQ 1 (NU _ _ _ hz _) (pz 2) rfl ?_;refine cd rfl ?_ ?_<;>intro h1
 ·refine rq [0,1,2,3,4,5,6,7,8,9] mixed (ld .aa (nS _) (XO.v (V.shl rfl rfl og _ (uD)) rfl (gO ?_)));refine XO.v (V.bits rfl rfl rfl (by first | exact jG _ | exact iO og | (rw[IntKind.bits];omega)) (by first | exact jG _ | exact iO og | (rw[IntKind.bits];omega)) rfl) rfl (gO ?_);refine st .aa (uE _ (rA _)) rfl (bC rfl rfl rfl (ai .h1 rfl ?_));grind [aK,aJ,BS.take]
 ·refine eH .h1 ?_;grind [aK,aJ,Gw]
end Go.X.Sg
