import Derived.Test.YthdinakloheinaaGreatDoorkTM
import Derived.Test.YthdinakloheinaaGreatDoorKB
import Derived.Test.YthdinakloheinaaGreatDoorkGM
import Derived.Test.YthdinakloheinaaGreatDoorLM
namespace Go.X.Sg
open Go Go.Proofs Go.X
set_option maxRecDepth 20000
set_option maxHeartbeats 4000000
theorem LY:nv Tryz.prog 256=some (32,1):=by kernel_rfl
theorem DZ(n:Int):Spec Tryz.prog 141 [.int .i64 n] [] (fun v H1=>((1≤n∧n≤8)∧v= .nilIface∧H1=[])∨((n<1∨n>8)∧v= .iface 102 (.int .i64 1)∧H1=[])):=by
 refine Spec.go 10 [0,2,8] [] Tryz.func141 rfl rfl rfl ?_
 intro W
 refine sp 5 rfl ?_ ?_<;>intro h1
 ·
  refine XE.aK rfl rfl (ab .nil rfl ?_)
  try dsimp only[SW.den,SV.den,aj,aL]
  first | exact .inl ⟨by omega,rfl,rfl⟩ | exact .inr ⟨by omega,rfl,rfl⟩
 ·
  refine cd rfl ?_ ?_<;>intro h2
  ·
   refine XE.aK rfl rfl (ab .nil rfl ?_)
   try dsimp only[SW.den,SV.den,aj,aL]
   first | exact .inl ⟨by omega,rfl,rfl⟩ | exact .inr ⟨by omega,rfl,rfl⟩
  ·
   refine XE.aK rfl rfl (ab .nil rfl ?_)
   try dsimp only[SW.den,SV.den,aj,aL]
   first | exact .inl ⟨by omega,rfl,rfl⟩ | exact .inr ⟨by omega,rfl,rfl⟩
theorem Ki(b o:Nat)(s:BS)(n:Int)(hn:1≤n∧n≤8):Spec Tryz.prog 142 [ptr b o 0,.int .i64 n] [.cells b o 11 (cW s)] (fun v H1=>v= .int .i64 (s.nm n)∧H1=[.cells b o 11 (cW s)]):=by
 refine Spec.go 22 [0,1,4,15] [] Tryz.func142 rfl rfl rfl ?_
 intro W
 refine sp 7 rfl ?_ ?_<;>intro h1
 ·
  refine sd (by omega) ?_
  refine ld .here (cW.nJ _ _ (by omega)) ?_
  refine cd rfl ?_ ?_<;>intro h2
  ·
   refine XE.aK rfl rfl (ab .h1 rfl ?_)
   try dsimp only[SW.den,SV.den,aj,aL]
   first | exact⟨by unfold BS.nm;rw[if_pos (by omega)],rfl⟩ | exact⟨by unfold BS.nm;rw[if_neg (by omega)],rfl⟩
  ·
   refine sd (by omega) ?_
   refine ld .here (cW.nJ _ _ (by omega)) ?_
   refine XE.aK rfl rfl (ab .h1 rfl ?_)
   try dsimp only[SW.den,SV.den,aj,aL]
   first | exact⟨by unfold BS.nm;rw[if_pos (by omega)],rfl⟩ | exact⟨by unfold BS.nm;rw[if_neg (by omega)],rfl⟩
 ·
  refine sd (by omega) ?_
  refine ld .here (cW.nJ _ _ (by omega)) ?_
  refine XE.aK rfl rfl (ab .h1 rfl ?_)
  try dsimp only[SW.den,SV.den,aj,aL]
  first | exact⟨by unfold BS.nm;rw[if_pos (by omega)],rfl⟩ | exact⟨by unfold BS.nm;rw[if_neg (by omega)],rfl⟩
theorem Dx(b o:Nat)(s:BS)(n:Int):Spec Tryz.prog 138 [ptr b o 0,.int .i64 n] [.cells b o 11 (cW s)] (fun v H1=>v=bH 102 (s.send n).1∧H1=[.cells b o 11 (cW (s.send n).2)]):=by
 refine Spec.go 26 [0,1,4,5,15] [] Tryz.func138 rfl rfl rfl ?_
 intro W
 refine ca (DZ _) .nil ?_
 rintro _ _ (⟨h1,rfl,rfl⟩ | ⟨h1,rfl,rfl⟩)
 ·
  try dsimp only[aT,aV,bu,bj,bk,bd,aW,bh,aY,aX,aP,aN,aQ,aO]
  refine gO ?_
  refine ca (Ki _ _ _ _ (by omega)) .h1 ?_
  rintro _ _ ⟨rfl,rfl⟩
  refine gO ?_
  refine cd rfl ?_ ?_<;>intro h2
  ·
   refine rq [0,1,2,3,4,5,6,7,8,9] mixed (by kernel_rfl) ?_
   refine ld .here (cW.AN _) ?_
   refine XO.v (V.shl rfl rfl (by omega) _ (HL (by omega))) rfl (gO ?_)
   refine XO.v (V.bits rfl rfl rfl (by first | exact qd _ | exact lv (by omega) | (rw[IntKind.bits];omega)) (by first | exact qd _ | exact lv (by omega) | (rw[IntKind.bits];omega)) rfl) rfl (gO ?_)
   refine st .here (ti _ (F8 _ (by omega))) rfl ?_
   refine XE.aK rfl rfl (ab .h1 rfl ?_)
   try dsimp only[SW.den,SV.den,aj,aL]
   first
   | (rw[BS.vh (by omega)];exact⟨rfl,rfl⟩)
   | (rw[BS.rk (by omega) (by omega)];exact⟨rfl,rfl⟩)
   | (rw[BS.uR (by omega) (by omega)];exact⟨rfl,rfl⟩)
  ·
   refine XE.aK rfl rfl (ab .h1 rfl ?_)
   try dsimp only[SW.den,SV.den,aj,aL]
   first
   | (rw[BS.vh (by omega)];exact⟨rfl,rfl⟩)
   | (rw[BS.rk (by omega) (by omega)];exact⟨rfl,rfl⟩)
   | (rw[BS.uR (by omega) (by omega)];exact⟨rfl,rfl⟩)
 ·
  try dsimp only[aT,aV,bu,bj,bk,bd,aW,bh,aY,aX,aP,aN,aQ,aO]
  refine gO ?_
  refine XE.aK rfl rfl (ab .h1 rfl ?_)
  try dsimp only[SW.den,SV.den,aj,aL]
  first
  | (rw[BS.vh (by omega)];exact⟨rfl,rfl⟩)
  | (rw[BS.rk (by omega) (by omega)];exact⟨rfl,rfl⟩)
  | (rw[BS.uR (by omega) (by omega)];exact⟨rfl,rfl⟩)
theorem NW(x t:Nat)(hx:x<65536)(ht:x.testBit t=true)(hl:∀ j,j<t→x.testBit j=false)(ht16:t<16):Spec Tryz.prog 197 [.int .u16 (x:Int)] [.ro 0 0 32 cX] (fun v H1=>v= .int .i64 (t:Int)∧H1=[]):=by
 have hx0:0<x:=by
  rcases Nat.eq_zero_or_pos x with q | q
  ·rw[q]at ht;simp at ht
  ·exact q
 obtain⟨z1,z2,z3,z4,z5⟩:=Np ht16
 refine Spec.go 15 [0,2,4] [] Tryz.func197 rfl rfl rfl ?_
 intro W
 refine xV rfl (by simp;omega) ?_
 refine XO.v (V.neg rfl _ (Ho ⟨hx0,hx⟩)) rfl (gO ?_)
 refine XO.v (V.bits (r:=2^t) rfl rfl rfl hx (Nat.sub_lt (by decide) hx0) (congrArg some (Ib (w:=16) ht hl hx ht16))) rfl (gO ?_)
 refine XO.v (V.vC rfl Tryz.underlying84 Tryz.underlying257 _ z1) rfl (gO ?_)
 refine XO.v (V.mul rfl rfl _ z2) rfl (gO ?_)
 refine XO.v (V.shr rfl rfl (by omega) _ z3) rfl (gO ?_)
 refine XO.v (V.HK rfl rfl LY (by omega)) rfl (gO ?_)
 refine KS .here (Gm ht16) ?_
 refine XO.v (V.vC rfl Tryz.underlying5 Tryz.underlying3 _ z5) rfl (gO ?_)
 refine XE.aK rfl rfl (ab .nil rfl ?_)
 try dsimp only[SW.den,SV.den,aj,aL]
 exact⟨rfl,rfl⟩
theorem Ii(b o:Nat)(s:BS)(hz:s.wait 0=false)(h:Int):Spec Tryz.prog 146 [ptr b o 0,.int .i64 h] [.cells b o 11 (cW s),.ro 0 0 32 cX] (fun v H1=>v= .tuple #[.int .i64 (s.first h),.bool (decide (s.first h≠0))]∧H1=[.cells b o 11 (cW s)]):=by
 refine Spec.go 34 [0,1,4,5,6,7,18,32] [] Tryz.func146 rfl rfl rfl ?_
 intro W
 refine rq [0,1,2,3,4,5,6,7,8,9] mixed (by kernel_rfl) ?_
 refine ld .here (cW.AN _) ?_
 refine ld .here (cW.HV _) ?_
 refine XO.v (V.bits rfl rfl rfl (by first | exact qd _ | exact lv (by omega) | (rw[IntKind.bits];omega)) (by first | exact qd _ | exact lv (by omega) | (rw[IntKind.bits];omega)) rfl) rfl (gO ?_)
 refine lp (σ:=Nat×Nat) (fun x=>9-x.2) (fun x=>x.1<512∧x.2≤9∧(∀ j:Nat,x.1.testBit j=(decide (x.2≤j)&&(decide (j<9)&&s.wait j&& !s.held j)))∧∀ j:Int,0≤j→j<x.2→¬(s.wait j=true∧s.held j=false∧s.gD j=h)) (fun x=>[(6,.int .u16 (x.1:Int)),(0,ptr b o 0),(1,.int .i64 h)]) (fun x=>XM W (bR [.cells b o 11 (cW s),.ro 0 0 32 cX]) [.cells b o 11 (cW s),.ro 0 0 32 cX]) ((iX (pack s.wait) (pack s.held),0)) ?_ (S3 rfl rfl rfl) (fun _ hw=>XM.pick .h2 hw) ?_
 ·
  refine⟨Nat.lt_of_le_of_lt (E4 _ _) (EH _),by omega,fun j=> ?_,fun j h1 h2=>by simp at h2;omega⟩
  rw[gQ,fm,fm]
  by_cases q:j<9<;>simp[q]
 intro x hx
 obtain⟨hx1,hx2,hx3,hx4⟩:=hx
 refine gC ?_
 refine cd rfl ?_ ?_<;>intro h1
 ·
  have hne:x.1≠0:=by omega
  obtain⟨t,ht,hl⟩:=xW hne
  have hb:=ht
  rw[hx3]at hb
  simp only[Bool.and_eq_true,decide_eq_true_eq,Bool.not_eq_true']at hb
  obtain⟨hb1,⟨hb2,hb3⟩,hb4⟩:=hb
  refine u9 0 (NW x.1 t (by omega) ht hl (by omega)) (.cons (.there .here) .nil) rfl ?_
  rintro _ _ ⟨rfl,rfl⟩
  refine gO ?_
  refine sd (by omega) ?_
  refine ld (.there .here) (cW.nJ _ _ (by omega)) ?_
  refine cd rfl ?_ ?_<;>intro h2
  ·
   refine XE.aU rfl rfl rfl (ab (.cons (.there .here) .nil) rfl ?_)
   try dsimp only[SW.den,SV.den,aj,aL]
   rw[BS.xX (k:=(t:Int)) (by omega) hb3 hb4 (by assumption) (fun j h1 h2=> ?_)]
   ·have ht0:(t:Int)≠0:=by
     rintro q
     rw[q,hz]at hb3;cases hb3
    exact⟨by simp[show t≠0 from by omega],rfl⟩
   ·by_cases q2:j<x.2
    ·exact hx4 j h1 q2
    ·have q4:=hl j.toNat (by omega)
     rw[hx3,show((j.toNat:Nat):Int)=j from by omega]at q4
     have q5:x.2≤j.toNat:=by omega
     have q6:j.toNat<9:=by omega
     simp[q5,q6]at q4
     rintro⟨e1,e2,_⟩
     rw[q4 e1]at e2;cases e2
  ·
   refine XO.v (V.sub rfl rfl _ (Hk ⟨by omega,by omega⟩)) rfl (gO ?_)
   refine XO.v (V.bits rfl rfl rfl (show x.1<65536 by omega) (show x.1-1<65536 by omega) rfl) rfl (gO ?_)
   refine ag ((x.1&&&(x.1-1),t+1)) ?_ ?_ (S3 rfl rfl rfl) (fun _ hw=>XM.pick (.cons (.there .here) .h1) hw)
   ·
    (simp;omega)
   ·
    refine⟨Nat.lt_of_le_of_lt Nat.and_le_left hx1,by simp;omega,fun j=> ?_,fun j h1 h2=> ?_⟩
    ·show(x.1&&&(x.1-1)).testBit j=_
     rw[CB ht hl,hx3]
     by_cases q1:j<t
     ·have q2:=hl j q1
      rw[hx3]at q2
      have q3:¬t+1≤j:=by omega
      simp only[q2,q3];rfl
     ·by_cases q2:j=t
      ·subst q2;simp;intro q;omega
      ·have q3:t+1≤j:=by omega
       have q4:x.2≤j:=by omega
       simp[q2,q3,q4]
    ·by_cases q1:j=t
     ·subst q1;rintro⟨_,_,q⟩;contradiction
     ·by_cases q2:j<x.2
      ·exact hx4 j h1 q2
      ·have q3:j<t:=by simp at h2;omega
       have q4:=hl j.toNat (by omega)
       rw[hx3,show((j.toNat:Nat):Int)=j from by omega]at q4
       have q5:x.2≤j.toNat:=by omega
       have q6:j.toNat<9:=by omega
       simp[q5,q6]at q4
       rintro⟨e1,e2,_⟩
       rw[q4 e1]at e2;cases e2
 ·
  refine XE.aU rfl rfl rfl (ab .h1 rfl ?_)
  try dsimp only[SW.den,SV.den,aj,aL]
  have hx0:x.1=0:=by omega
  rw[BS.yP (fun j h1 h2=> ?_)]
  ·exact⟨rfl,rfl⟩
  ·by_cases q2:j<x.2
   ·exact hx4 j h1 q2
   ·have q4:=hx3 j.toNat
    rw[hx0,show((j.toNat:Nat):Int)=j from by omega]at q4
    have q5:x.2≤j.toNat:=by omega
    have q6:j.toNat<9:=by omega
    simp[q5,q6]at q4
    rintro⟨e1,e2,_⟩
    rw[q4 e1]at e2;cases e2
theorem qD(b o:Nat)(s:BS)(hz:s.wait 0=false):Spec Tryz.prog 143 [ptr b o 0] [.cells b o 11 (cW s),.ro 0 0 32 cX] (fun v H1=>v= .tuple #[.int .i64 (s.first 0),.bool (decide (s.first 0≠0))]∧H1=[.cells b o 11 (cW s)]):=by
 refine Spec.go 8 [0,2,3] [] Tryz.func143 rfl rfl rfl ?_
 intro W
 refine u9 1 (Ii _ _ _ hz _) .h2 rfl ?_
 rintro _ _ ⟨rfl,rfl⟩
 refine gO ?_
 refine XE.aU rfl rfl rfl (ab .h1 rfl ?_)
 try dsimp only[SW.den,SV.den,aj,aL]
 exact⟨rfl,rfl⟩
end Go.X.Sg

namespace Go.X.Gr
open Go Go.RowKit Go.Proofs Go.X
theorem uv:nv Tryz.prog 67=some (10,5):=by kernel_rfl
theorem jU:cO Tryz.prog 151 0=some 0:=by kernel_rfl
theorem HH:cO Tryz.prog 66 0=some 0:=by kernel_rfl
theorem jd:fY Tryz.prog 3=true:=by kernel_rfl
theorem AW:fY Tryz.prog 91=true:=by kernel_rfl
def j7(p o b1 b2:Nat)(n:Int)(par:Int→Int):List (Addr×Value):=
 (⟨b1,0,none⟩,.int .i64 n)::(⟨b2,0,none⟩,ptr p o 0)::(List.range 10).map (fun k=>(⟨p,o+(0+0+k*5+0),none⟩,.int .i64 (par (k:Int))))
theorem na{p o b1 b2:Nat}{n:Int}{par:Int→Int}{s':TG}(hp:s'.par=par){H:List ax}{w:World}(hg:Go.X.Good H w)(h1:Has H (.cells b1 0 1 (bK (.int .i64 n))))(h2:Has H (.cells b2 0 1 (bK (ptr p o 0))))(h3:Has H (.cells p o 60 (aC s'))):∀ y∈j7 p o b1 b2 n par,w.cell? y.1=some y.2:=fun y hy=>by
 simp only[j7,List.mem_cons,List.mem_map,List.mem_range]at hy
 rcases hy with rfl | rfl | ⟨k,hk,rfl⟩
 ·exact cw (i:=0) (hg.1 _ h1.mem) (by omega)
 ·exact cw (i:=0) (hg.1 _ h2.mem) (by omega)
 ·have h4:=cw (hg.1 _ h3.mem) (aC.fy s' (k:Int) (by omega)).1
  rw[(aC.fy s' (k:Int) (by omega)).2,hp]at h4
  exact h4
theorem BO{p o b1 b2:Nat}{n:Int}{par:Int→Int}{w:World}(h:∀ y∈j7 p o b1 b2 n par,w.cell? y.1=some y.2){z:Int}(h0:0≤z∧z<10):w.cell? ⟨p,o+(0+0+z.toNat*5+0),none⟩=some (.int .i64 (par z)):=by
 have:=h (⟨p,o+(0+0+z.toNat*5+0),none⟩,.int .i64 (par (z.toNat:Int))) (by
  simp only[j7,List.mem_cons,List.mem_map,List.mem_range]
  exact .inr (.inr ⟨z.toNat,by omega,rfl⟩))
 rw[show((z.toNat:Nat):Int)=z from by omega]at this
 exact this
set_option maxHeartbeats 1000000 in theorem wj(p o b1 b2:Nat)(n:Int)(par:Int→Int)(xs:List GW)(hway:fU par n (jM xs))(w:World)(hR:∀ y∈j7 p o b1 b2 n par,w.cell? y.1=some y.2):SeqStopsK Fence.wide 2 Tryz.prog 184 #[ptr b1 0 0,ptr b2 0 0] (fun x:GW=> #[.int .i64 x.1]) (D8 (j7 p o b1 b2 n par)) (· =xs) (· <+:xs) xs.length w:=by
 intro l J Jx W hW hJ hJx hY h0
 have hR0:∀ y∈j7 p o b1 b2 n par,W.cell? y.1=some y.2:=fun y hy=>by
  rw[hW.cell (IE (hR y hy))];exact hR y hy
 have e:(#[.func (.yield l) #[] #[]]++ #[ptr b1 0 0,ptr b2 0 0]:Array Value)=[.func (.yield l) #[] #[],ptr b1 0 0,ptr b2 0 0].toArray:=rfl
 rw[e]
 refine callsIn_wide.2 (enter (ps:=[]) (cs:=[]) (M:=fun w=>J [] w∧∀ y∈j7 p o b1 b2 n par,w.cell? y.1=some y.2) Tryz.func184 rfl rfl ?_ ⟨h0,hR0⟩)
 refine XC.seq ?_
 refine XC.region ?_
 refine XO.l (V.ss (b:=b1) (o:=0) (v:=.int .i64 n) rfl (fun w hw=>hw.2 (⟨b1,0,none⟩,.int .i64 n) (by simp[j7])) jd) rfl ?_
 refine XO.v (V.assign rfl) rfl ?_
 refine XO.nil ?_
 refine XE.next ?_
 refine XC.keep [(0,_),(2,_),(4,_)] (Sub.cons rfl (Sub.cons rfl (Sub.cons rfl (Sub.nil _)))) ?_
 refine XC.block ?_
 refine XC.loop (σ:=List GW×List GW×Int) (fun x=>x.2.1.length) (fun x=>x.1++x.2.1=xs∧fU par x.2.2 (jM x.2.1)) (fun x=>[(0,.func (.yield l) #[] #[]),(2,ptr b2 0 0),(4,.int .i64 x.2.2)]) (fun x w=>J x.1 w∧∀ y∈j7 p o b1 b2 n par,w.cell? y.1=some y.2) ([],xs,n) ⟨rfl,hway⟩ (Sub.cons rfl (Sub.cons rfl (Sub.cons rfl (Sub.nil _)))) (fun _ hw=>hw) ?_
 rintro⟨pre,rest,q⟩ ⟨hx,hq⟩
 refine XC.seq ?_
 refine XC.seq ?_
 refine XC.region ?_
 refine XO.v (V.move rfl) rfl ?_
 refine XO.v (V.cmp rfl rfl rfl) rfl ?_
 refine XO.nil ?_
 refine XE.next ?_
 refine XC.Jo rfl (fun hq0=> ?_) (fun hq0=> ?_)
 ·have hq1:q≥0:=hq0
  match rest,hq with
  | [],hq=>exact absurd hq (by show ¬q<0;omega)
  | x::rest,hq=>
   obtain⟨e1,e2,e3,e4⟩:=hq
   have e1':x.1=q:=e1
   subst e1'
   refine XC.skip ?_
   refine XE.next ?_
   refine XC.keep [(0,_),(2,_),(4,_)] (Sub.cons rfl (Sub.cons rfl (Sub.cons rfl (Sub.nil _)))) ?_
   refine XC.seq ?_
   refine XC.block ?_
   refine XC.seq ?_
   refine XC.Ir ?_
   refine XI.v (V.move rfl) rfl ?_
   refine XI.v (V.move rfl) rfl ?_
   refine XI.yield (R:=fun e w'=>(e= .returned (.bool true)∧J (pre++[x]) w'∧∀ y∈j7 p o b1 b2 n par,w'.cell? y.1=some y.2)∨(e= .returned (.bool false)∧Jx (pre++[x]) w')) rfl rfl (fun w hw=>YieldAt.Lb (hY pre x w hw.1 (by rw[←hx];simp)) (fun e w' h=> ?_)) rfl (fun e w' h=> ?_)
   ·rcases h with⟨h1,h2,h3⟩ | h
    ·exact .inl ⟨h1,h2,fun y hy=>h3 y hy (hw.2 y hy)⟩
    ·exact .inr h
   ·rcases h with⟨rfl,h2⟩ | ⟨rfl,h2⟩
    ·refine⟨true,rfl,?_⟩
     refine XI.v (V.not rfl) rfl ?_
     refine XI.nil ?_
     refine XE.next ?_
     refine XC.JD rfl rfl ?_
     refine XC.skip ?_
     refine XE.js ?_
     refine XE.next ?_
     refine XC.keep [(0,_),(2,_),(4,_)] (Sub.cons rfl (Sub.cons rfl (Sub.cons rfl (Sub.nil _)))) ?_
     refine XC.mono (M':=fun w'=>J (pre++[x]) w'∧∀ y∈j7 p o b1 b2 n par,w'.cell? y.1=some y.2) (fun w' hw'=>by
      rcases hw' with⟨_,h⟩ | ⟨h,_⟩
      ·exact h
      ·simp at h) ?_
     refine XC.region ?_
     refine XO.l (V.ss (b:=b2) (o:=0) (v:=ptr p o 0) rfl (fun w hw=>hw.2 (⟨b2,0,none⟩,ptr p o 0) (by simp[j7])) AW) rfl ?_
     refine XO.v (V.move rfl) rfl ?_
     refine XO.v (V.bI rfl) rfl ?_
     refine XO.v (V.fieldAddr rfl jU) rfl ?_
     refine XO.v (V.hG rfl rfl uv ⟨e2,e3⟩) rfl ?_
     refine XO.v (V.fieldAddr rfl HH) rfl ?_
     refine XO.l (V.ss rfl (fun w hw=>BO hw.2 ⟨e2,e3⟩) jd) rfl ?_
     refine XO.v (V.assign rfl) rfl ?_
     refine XO.nil ?_
     refine XE.again (pre++[x],rest,par x.1) (by simp) ⟨by rw[←hx];simp,e4⟩ (Sub.cons rfl (Sub.cons rfl (Sub.cons rfl (Sub.nil _)))) (fun _ hw=>hw)
    ·refine⟨false,rfl,?_⟩
     refine XI.v (V.not rfl) rfl ?_
     refine XI.nil ?_
     refine XE.next ?_
     refine XC.Jy rfl rfl ?_
     refine XC.ret ?_
     refine XE.ni ?_
     refine XE.pX ?_
     refine XE.pX ?_
     refine XE.ni ?_
     refine XE.KU rfl (fun w' hw'=>⟨⟨_,rfl⟩,.inr ⟨pre++[x],?_,?_⟩⟩)
     ·exact⟨rest,by rw[←hx];simp⟩
     ·rcases hw' with⟨h,_⟩ | ⟨_,h⟩
      ·simp at h
      ·exact h
 ·refine XC.exit ?_
  refine XE.nG ?_
  refine XE.nG ?_
  refine XE.tL ?_
  refine XE.fC rfl (fun w' hw'=>⟨⟨_,rfl⟩,.inl ⟨pre,?_,hw'.1⟩⟩)
  match rest,hq with
  | [],_=>rw[←hx];simp
  | x::rest,hq=>
   have hq1:¬q≥0:=hq0
   exact absurd hq.2.1 hq1
end Go.X.Gr

namespace Go.X.Gr
open Go Go.Proofs Go.X
set_option maxRecDepth 20000
set_option maxHeartbeats 4000000
theorem FV:cR Tryz.prog 184=true:=by kernel_rfl
theorem jG:de Tryz.prog 3=some 1:=by kernel_rfl
theorem MN(p o:Nat)(s:TG)(n:Int):Spec Tryz.prog 113 [ptr p o 0,.int .i64 n] [.cells p o 60 (aC s)] (fun v H1=>((s.cx n=0∧0≤n∧n<10∧s.here n=true)∧v= .nilIface∧H1=[.cells p o 60 (aC s)])∨(s.cx n≠0∧v= .iface 102 (.int .i64 (s.cx n))∧H1=[.cells p o 60 (aC s)])):=by
 refine Spec.go 20 [0,1,4,10,18] [] Tryz.func113 rfl rfl rfl ?_
 intro W
 refine sp 7 rfl ?_ ?_<;>intro h1
 ·
  refine XE.aK rfl rfl (ab .h1 rfl ?_)
  try dsimp only[SW.den,SV.den,aj,aL]
  have e:s.cx n=1:=by unfold TG.cx;rw[if_pos (by omega)]
  exact .inr ⟨by omega,by rw[e],rfl⟩
 ·
  refine cd rfl ?_ ?_<;>intro h2
  ·
   refine XE.aK rfl rfl (ab .h1 rfl ?_)
   try dsimp only[SW.den,SV.den,aj,aL]
   have e:s.cx n=1:=by unfold TG.cx;rw[if_pos (by omega)]
   exact .inr ⟨by omega,by rw[e],rfl⟩
  ·
   refine sd (by omega) ?_
   refine ld .here (aC.ub _ _ (by omega)) ?_
   refine AK rfl ?_ ?_<;>intro h3
   ·try simp only[sb]at h3
    refine XE.aK rfl rfl (ab .h1 rfl ?_)
    try dsimp only[SW.den,SV.den,aj,aL]
    have e:s.cx n=2:=by unfold TG.cx;rw[if_neg (by omega),if_neg (by simp_all)]
    exact .inr ⟨by omega,by rw[e],rfl⟩
   ·try simp only[sb]at h3
    refine XE.aK rfl rfl (ab .h1 rfl ?_)
    try dsimp only[SW.den,SV.den,aj,aL]
    have e:s.cx n=0:=by unfold TG.cx;rw[if_neg (by omega),if_pos (by simp_all)]
    exact .inl ⟨⟨e,by omega,by omega,by simp_all⟩,rfl,rfl⟩
theorem wi(q m:Int):Spec Tryz.prog 114 [.int .i64 q,.int .i64 m] [] (fun v H1=>((0≤q∧q≤20∧0≤m∧m≤64)∧v= .nilIface∧H1=[])∨(TG.HX q m=1∧v= .iface 102 (.int .i64 1)∧H1=[])):=by
 refine Spec.go 20 [0,1,4,18] [] Tryz.func114 rfl rfl rfl ?_
 intro W
 refine sp 7 rfl ?_ ?_<;>intro h1
 ·
  refine XE.aK rfl rfl (ab .nil rfl ?_)
  try dsimp only[SW.den,SV.den,aj,aL]
  first
  | exact .inr ⟨by unfold TG.HX;rw[if_pos (by omega)],rfl,rfl⟩
  | exact .inl ⟨by omega,rfl,rfl⟩
 ·
  refine sp 11 rfl ?_ ?_<;>intro h2
  ·
   refine XE.aK rfl rfl (ab .nil rfl ?_)
   try dsimp only[SW.den,SV.den,aj,aL]
   first
   | exact .inr ⟨by unfold TG.HX;rw[if_pos (by omega)],rfl,rfl⟩
   | exact .inl ⟨by omega,rfl,rfl⟩
  ·
   refine sp 15 rfl ?_ ?_<;>intro h3
   ·
    refine XE.aK rfl rfl (ab .nil rfl ?_)
    try dsimp only[SW.den,SV.den,aj,aL]
    first
    | exact .inr ⟨by unfold TG.HX;rw[if_pos (by omega)],rfl,rfl⟩
    | exact .inl ⟨by omega,rfl,rfl⟩
   ·
    refine cd rfl ?_ ?_<;>intro h4
    ·
     refine XE.aK rfl rfl (ab .nil rfl ?_)
     try dsimp only[SW.den,SV.den,aj,aL]
     first
     | exact .inr ⟨by unfold TG.HX;rw[if_pos (by omega)],rfl,rfl⟩
     | exact .inl ⟨by omega,rfl,rfl⟩
    ·
     refine XE.aK rfl rfl (ab .nil rfl ?_)
     try dsimp only[SW.den,SV.den,aj,aL]
     first
     | exact .inr ⟨by unfold TG.HX;rw[if_pos (by omega)],rfl,rfl⟩
     | exact .inl ⟨by omega,rfl,rfl⟩
theorem KV(g:GV)(q m:Int)(h0: -9223372036854775808≤g.pr+q∧g.pr+q≤9223372036854775807)(h1: -9223372036854775808≤g.pg+m∧g.pg+m≤9223372036854775807):Spec Tryz.prog 116 [.agg g.arr,.int .i64 q,.int .i64 m] [] (fun v H1=>v= .bool (g.room q m)∧H1=[]):=by
 refine Spec.go 41 [1,2,3,6] [] Tryz.func116 rfl rfl rfl ?_
 intro W
 refine XO.box (m:=5) (C:=gR g) rfl rfl (Dp g) rfl ?_
 intro bg
 refine gO ?_
 refine sp 9 rfl ?_ ?_<;>intro h1
 ·
  refine sp 26 rfl ?_ ?_<;>intro h2
  ·
   refine XE.aK rfl rfl (ab .nil rfl ?_)
   try dsimp only[SW.den,SV.den,aj,aL]
   refine⟨?_,rfl⟩
   unfold GV.room
   first | (simp_all;done) | (simp_all;omega)
  ·
   refine ld .here (gR.fW _) ?_
   refine sp 31 rfl ?_ ?_<;>intro h3
   ·
    refine XE.aK rfl rfl (ab .nil rfl ?_)
    try dsimp only[SW.den,SV.den,aj,aL]
    refine⟨?_,rfl⟩
    unfold GV.room
    first | (simp_all;done) | (simp_all;omega)
   ·
    refine ld .here (gR.rz _) ?_
    refine sd (by omega) ?_
    refine ld .here (gR.fW _) ?_
    refine XE.aK rfl rfl (ab .nil rfl ?_)
    try dsimp only[SW.den,SV.den,aj,aL]
    refine⟨?_,rfl⟩
    unfold GV.room
    first | (simp_all;done) | (simp_all;omega)
 ·
  refine ld .here (gR.pE _) ?_
  refine sp 14 rfl ?_ ?_<;>intro h4
  ·
   refine sp 26 rfl ?_ ?_<;>intro h5
   ·
    refine XE.aK rfl rfl (ab .nil rfl ?_)
    try dsimp only[SW.den,SV.den,aj,aL]
    refine⟨?_,rfl⟩
    unfold GV.room
    first | (simp_all;done) | (simp_all;omega)
   ·
    refine ld .here (gR.fW _) ?_
    refine sp 31 rfl ?_ ?_<;>intro h6
    ·
     refine XE.aK rfl rfl (ab .nil rfl ?_)
     try dsimp only[SW.den,SV.den,aj,aL]
     refine⟨?_,rfl⟩
     unfold GV.room
     first | (simp_all;done) | (simp_all;omega)
    ·
     refine ld .here (gR.rz _) ?_
     refine sd (by omega) ?_
     refine ld .here (gR.fW _) ?_
     refine XE.aK rfl rfl (ab .nil rfl ?_)
     try dsimp only[SW.den,SV.den,aj,aL]
     refine⟨?_,rfl⟩
     unfold GV.room
     first | (simp_all;done) | (simp_all;omega)
  ·
   refine ld .here (gR.FQ _) ?_
   refine sd (by omega) ?_
   refine ld .here (gR.pE _) ?_
   refine sp 23 rfl ?_ ?_<;>intro h7
   ·
    refine sp 26 rfl ?_ ?_<;>intro h8
    ·
     refine XE.aK rfl rfl (ab .nil rfl ?_)
     try dsimp only[SW.den,SV.den,aj,aL]
     refine⟨?_,rfl⟩
     unfold GV.room
     first | (simp_all;done) | (simp_all;omega)
    ·
     refine ld .here (gR.fW _) ?_
     refine sp 31 rfl ?_ ?_<;>intro h9
     ·
      refine XE.aK rfl rfl (ab .nil rfl ?_)
      try dsimp only[SW.den,SV.den,aj,aL]
      refine⟨?_,rfl⟩
      unfold GV.room
      first | (simp_all;done) | (simp_all;omega)
     ·
      refine ld .here (gR.rz _) ?_
      refine sd (by omega) ?_
      refine ld .here (gR.fW _) ?_
      refine XE.aK rfl rfl (ab .nil rfl ?_)
      try dsimp only[SW.den,SV.den,aj,aL]
      refine⟨?_,rfl⟩
      unfold GV.room
      first | (simp_all;done) | (simp_all;omega)
   ·
    refine XE.aK rfl rfl (ab .nil rfl ?_)
    try dsimp only[SW.den,SV.den,aj,aL]
    refine⟨?_,rfl⟩
    unfold GV.room
    first | (simp_all;done) | (simp_all;omega)
theorem Dr(p o:Nat)(n:Int):Spec Tryz.prog 115 [ptr p o 0,.int .i64 n] [] (fun v H1=>∃ b1 b2,v= .func (.func 184) #[] #[ptr b1 0 0,ptr b2 0 0]∧H1=[.cells b1 0 1 (bK (.int .i64 n)),.cells b2 0 1 (bK (ptr p o 0))]):=by
 refine Spec.go 6 [2,3,4] [] Tryz.func115 rfl rfl rfl ?_
 intro W
 refine XO.box (m:=1) (C:=bK (ptr p o 0)) rfl rfl (fun _ _=>rfl) rfl ?_
 intro b2
 refine gO ?_
 refine XO.box (m:=1) (C:=bK (.int .i64 n)) rfl rfl (fun _ _=>rfl) rfl ?_
 intro b1
 refine gO ?_
 refine XO.v (V.BI rfl rfl) rfl ?_
 refine gO ?_
 refine XE.aK rfl rfl (ab .h2 rfl ?_)
 try dsimp only[SW.den,SV.den,aj,aL]
 exact⟨_,_,rfl,rfl⟩
end Go.X.Gr

namespace Go.X.Gr
open Go Go.Proofs Go.X
set_option maxRecDepth 20000
set_option maxHeartbeats 4000000
theorem Mv:jF Tryz.prog 66=true:=by kernel_rfl
theorem Ko:cR Tryz.prog 116=true:=by kernel_rfl
theorem As:cO Tryz.prog 66 3=some 3:=by kernel_rfl
theorem zO:cO Tryz.prog 66 4=some 4:=by kernel_rfl
theorem A8:fY Tryz.prog 33=true:=by kernel_rfl
theorem N3:fY Tryz.prog 4=true:=by kernel_rfl
theorem Iu:de Tryz.prog 33=some 1:=by kernel_rfl
theorem LR:de Tryz.prog 4=some 1:=by kernel_rfl
theorem Ia:de Tryz.prog 66=some 5:=by kernel_rfl
theorem JC(p o:Nat)(s:TG)(hO:s.Ok)(n:Int)(hn:0≤n∧n<10∧s.here n=true)(q m:Int)(hq: -20≤q∧q≤20)(hm: -64≤m∧m≤64)(Bd:Int)(hB:0≤Bd∧Bd≤1000000000000)(hS:s.Small Bd):Spec Tryz.prog 117 [ptr p o 0,.int .i64 n,.int .i64 q,.int .i64 m] [.cells p o 60 (aC s)] (fun v H1=>v= .tuple #[]∧H1=[.cells p o 60 (aC (s.lay (s.cg n) q m))]):=by
 have hway:=hO.cg hn.1 hn.2.1 hn.2.2
 obtain⟨xs,hxs⟩:=qx _ hway.1.range
 have hlen5:xs.length≤4:=by
  have:(jM xs).length=xs.length:=by simp[jM]
  rw[hxs]at this;omega
 refine Spec.Og 39 [1,4,6,7,11] [] Tryz.func117 rfl rfl rfl ?_
 intro W
 refine XO.box (m:=1) (C:=bK (ptr p o 0)) rfl rfl (fun _ _=>rfl) rfl ?_
 intro bT
 refine gO ?_
 refine XO.box (m:=1) (C:=bK (.int .i64 q)) rfl rfl (fun _ _=>rfl) rfl ?_
 intro bq
 refine gO ?_
 refine XO.box (m:=1) (C:=bK (.int .i64 m)) rfl rfl (fun _ _=>rfl) rfl ?_
 intro bm
 refine gO ?_
 refine ld (.t2 .here) (bK.ld _) ?_
 refine ca (Dr _ _ _) .nil ?_
 rintro _ _ ⟨b1,b2,rfl,rfl⟩
 refine gO ?_
 refine XC.DW (xs:=xs) (fun x:GW=>.int .i64 x.1) (fun pre=>pre.length≤xs.length) (fun _=>False) (fun pre=>[.cells b1 0 1 (bK (.int .i64 n)),.cells b2 0 1 (bK (ptr p o 0)),.cells p o 60 (aC (s.lay (jM pre) q m)),.cells bT 0 1 (bK (ptr p o 0)),.cells bq 0 1 (bK (.int .i64 q)),.cells bm 0 1 (bK (.int .i64 m))]) (fun pre=>[.cells b1 0 1 (bK (.int .i64 n)),.cells b2 0 1 (bK (ptr p o 0)),.cells p o 60 (aC (s.lay (jM pre) q m)),.cells bT 0 1 (bK (ptr p o 0)),.cells bq 0 1 (bK (.int .i64 q)),.cells bm 0 1 (bK (.int .i64 m))]) rfl (pH FV) rfl rfl (fun w hw=>wj p o b1 b2 n s.par xs (by rw[hxs];exact hway.1) w (na (by rfl) hw.good .here (.there .here) (.t5 .here))) ?_ (fun _ hw=>by rw[show s.lay (jM []) q m=s from TG.It s q m];exact XM.pick (.cons .here (.cons .here (.cons (.t3 .here) (.cons (.t2 .here) (.cons (.there .here) .h1))))) hw) (fun _=>rfl) (fun _=>rfl) ?_ ?_ ?_
 ·
  simp
 ·intro pre x w hV hlen hx
  have hsm:=hS.lay (l:=jM pre) (by simp[jM];omega) hq hm x.1 x.2.1 x.2.2
  obtain⟨x1,x2⟩:=x.2
  refine XB.block ?_
  refine XB.seq ?_
  refine XB.iu mixed (f:=14) (l:= #[false,false,false,false,false,false,false,false,false,false,false,false,false,false]) rfl rfl XM.lj ?_
  refine XQ.load (i:=0) (l':= #[true,false,false,false,false,false,false,false,false,false,false,false,false,false]) (.cells _ _ _ _) [13] rfl (by kernel_rfl) rfl (.t3 .here) (V.load rfl ea (bK.ld _) AW) rfl (by kernel_rfl) rfl ?_
  refine XQ.pv (i:=1) (l':= #[true,true,false,false,false,false,false,false,false,false,false,false,false,false]) rfl (by kernel_rfl) rfl (V.move rfl) rfl rfl ?_
  refine XQ.pv (i:=2) (l':= #[true,true,true,false,false,false,false,false,false,false,false,false,false,false]) rfl (by kernel_rfl) rfl (V.bI rfl) rfl rfl ?_
  refine XQ.pv (i:=3) (l':= #[true,true,true,true,false,false,false,false,false,false,false,false,false,false]) rfl (by kernel_rfl) rfl (V.fieldAddr rfl jU) rfl rfl ?_
  refine XQ.pv (i:=4) (l':= #[true,true,true,true,true,false,false,false,false,false,false,false,false,false]) rfl (by kernel_rfl) rfl (V.hG rfl rfl uv (by omega)) rfl rfl ?_
  refine XQ.pv (i:=5) (l':= #[true,true,true,true,true,true,false,false,false,false,false,false,false,false]) rfl (by kernel_rfl) rfl (V.fieldAddr rfl As) rfl rfl ?_
  refine XQ.load (i:=6) (l':= #[true,true,true,true,true,true,true,false,false,false,false,false,false,false]) (.cells _ _ _ _) [13] rfl (by kernel_rfl) rfl (.t2 .here) (V.load rfl ea (aC.fg _ _ (by omega)) jd) rfl (by kernel_rfl) rfl ?_
  refine XQ.load (i:=7) (l':= #[true,true,true,true,true,true,true,true,false,false,false,false,false,false]) (.cells _ _ _ _) [13] rfl (by kernel_rfl) rfl (.t4 .here) (V.load rfl ea (bK.ld _) jd) rfl (by kernel_rfl) rfl ?_
  refine XQ.pv (i:=8) (l':= #[true,true,true,true,true,true,true,true,true,false,false,false,false,false]) rfl (by kernel_rfl) rfl (V.add rfl rfl _ (IntWalk.i64_in _ (by omega))) rfl rfl ?_
  refine XQ.pv (i:=9) (l':= #[true,true,true,true,true,true,true,true,true,true,false,false,false,false]) rfl (by kernel_rfl) rfl (V.bI rfl) rfl rfl ?_
  refine XQ.pv (i:=10) (l':= #[true,true,true,true,true,true,true,true,true,true,true,false,false,false]) rfl (by kernel_rfl) rfl (V.fieldAddr rfl jU) rfl rfl ?_
  refine XQ.pv (i:=11) (l':= #[true,true,true,true,true,true,true,true,true,true,true,true,false,false]) rfl (by kernel_rfl) rfl (V.hG rfl rfl uv (by omega)) rfl rfl ?_
  refine XQ.pv (i:=12) (l':= #[true,true,true,true,true,true,true,true,true,true,true,true,true,false]) rfl (by kernel_rfl) rfl (V.fieldAddr rfl As) rfl rfl ?_
  refine XQ.store (i:=13) (l':= #[true,true,true,true,true,true,true,true,true,true,true,true,true,true]) rfl (by kernel_rfl) rfl rfl rfl (.t2 .here) (aC.vm _ _ (by omega) _) rfl jG (fun _ hw'=>⟨fun hs=>(hs 13 (by first | (simp;done) | (simp;rfl)) rfl).elim,fun hs=>(hs 13 (by first | (simp;done) | (simp;rfl)) rfl).elim,fun hs=>(hs 13 (by first | (simp;done) | (simp;rfl)) rfl).elim,trivial⟩) ?_
  refine XQ.done (by kernel_rfl) ?_
  refine XE.D7 ?_
  refine XB.keep [(4,_),(7,_),(8,_)] (S3 rfl rfl rfl) ?_
  refine XB.iu mixed (f:=14) (l:= #[false,false,false,false,false,false,false,false,false,false,false,false,false,false]) rfl rfl XM.lj ?_
  refine XQ.load (i:=0) (l':= #[true,false,false,false,false,false,false,false,false,false,false,false,false,false]) (.cells _ _ _ _) [13] rfl (by kernel_rfl) rfl (.t3 .here) (V.load rfl ea (bK.ld _) AW) rfl (by kernel_rfl) rfl ?_
  refine XQ.pv (i:=1) (l':= #[true,true,false,false,false,false,false,false,false,false,false,false,false,false]) rfl (by kernel_rfl) rfl (V.move rfl) rfl rfl ?_
  refine XQ.pv (i:=2) (l':= #[true,true,true,false,false,false,false,false,false,false,false,false,false,false]) rfl (by kernel_rfl) rfl (V.bI rfl) rfl rfl ?_
  refine XQ.pv (i:=3) (l':= #[true,true,true,true,false,false,false,false,false,false,false,false,false,false]) rfl (by kernel_rfl) rfl (V.fieldAddr rfl jU) rfl rfl ?_
  refine XQ.pv (i:=4) (l':= #[true,true,true,true,true,false,false,false,false,false,false,false,false,false]) rfl (by kernel_rfl) rfl (V.hG rfl rfl uv (by omega)) rfl rfl ?_
  refine XQ.pv (i:=5) (l':= #[true,true,true,true,true,true,false,false,false,false,false,false,false,false]) rfl (by kernel_rfl) rfl (V.fieldAddr rfl zO) rfl rfl ?_
  refine XQ.load (i:=6) (l':= #[true,true,true,true,true,true,true,false,false,false,false,false,false,false]) (.cells _ _ _ _) [13] rfl (by kernel_rfl) rfl (.t2 .here) (V.load rfl ea (aC.fh _ _ (by omega)) jd) rfl (by kernel_rfl) rfl ?_
  refine XQ.load (i:=7) (l':= #[true,true,true,true,true,true,true,true,false,false,false,false,false,false]) (.cells _ _ _ _) [13] rfl (by kernel_rfl) rfl (.t5 .here) (V.load rfl ea (bK.ld _) jd) rfl (by kernel_rfl) rfl ?_
  refine XQ.pv (i:=8) (l':= #[true,true,true,true,true,true,true,true,true,false,false,false,false,false]) rfl (by kernel_rfl) rfl (V.add rfl rfl _ (IntWalk.i64_in _ (by have:=hsm.2.2;show _≤(s.lay (jM pre) q m).pg x.1+m∧(s.lay (jM pre) q m).pg x.1+m≤_;omega))) rfl rfl ?_
  refine XQ.pv (i:=9) (l':= #[true,true,true,true,true,true,true,true,true,true,false,false,false,false]) rfl (by kernel_rfl) rfl (V.bI rfl) rfl rfl ?_
  refine XQ.pv (i:=10) (l':= #[true,true,true,true,true,true,true,true,true,true,true,false,false,false]) rfl (by kernel_rfl) rfl (V.fieldAddr rfl jU) rfl rfl ?_
  refine XQ.pv (i:=11) (l':= #[true,true,true,true,true,true,true,true,true,true,true,true,false,false]) rfl (by kernel_rfl) rfl (V.hG rfl rfl uv (by omega)) rfl rfl ?_
  refine XQ.pv (i:=12) (l':= #[true,true,true,true,true,true,true,true,true,true,true,true,true,false]) rfl (by kernel_rfl) rfl (V.fieldAddr rfl zO) rfl rfl ?_
  refine XQ.store (i:=13) (l':= #[true,true,true,true,true,true,true,true,true,true,true,true,true,true]) rfl (by kernel_rfl) rfl rfl rfl (.t2 .here) (aC.uN _ _ (by omega) _) rfl jG (fun _ hw'=>⟨fun hs=>(hs 13 (by first | (simp;done) | (simp;rfl)) rfl).elim,fun hs=>(hs 13 (by first | (simp;done) | (simp;rfl)) rfl).elim,fun hs=>(hs 13 (by first | (simp;done) | (simp;rfl)) rfl).elim,trivial⟩) ?_
  refine XQ.done (by kernel_rfl) ?_
  refine XE.js ?_
  refine XE.No hx ?_ rfl (fun w2 hg=>na (by rfl) hg .here (.there .here) (.t2 .here)) (fun w2 hw2=> ?_)
  ·
   simp;omega
  ·
   have:=XM.pick .h6 hw2
   rw[CD,TG.Gk]
   exact this
 ·intro hV D hD
  refine gE ?_
  refine XE.Eu (.inl rfl) .here rfl hD ?_
  refine XE.fC rfl (ab (.cons (.t2 .here) .nil) rfl ?_)
  try dsimp only[SW.den,SV.den,aj,aL]
  refine⟨rfl,?_⟩
  rw[hxs]
 ·intro pre hp hV D hD
  exact hV.elim
theorem re(p o:Nat)(s:TG)(hO:s.Ok)(n q m:Int)(Bd:Int)(hB:0≤Bd∧Bd≤1000000000000)(hS:s.Small Bd):Spec Tryz.prog 51 [ptr p o 0,.int .i64 n,.int .i64 q,.int .i64 m] [.cells p o 60 (aC s)] (fun v H1=>v=bH 102 (s.bX n q m)∧H1=[.cells p o 60 (aC (s.bY n q m))]):=by
  refine Spec.Og 42 [1,4,6,7,8,9,15,20,24] [] Tryz.func51 rfl rfl rfl ?_
  intro W
  refine XO.box (m:=1) (C:=bK (ptr p o 0)) rfl rfl (fun _ _=>rfl) rfl ?_
  intro bT
  refine gO ?_
  refine XO.box (m:=1) (C:=bK (.int .i64 q)) rfl rfl (fun _ _=>rfl) rfl ?_
  intro bq
  refine gO ?_
  refine XO.box (m:=1) (C:=bK (.int .i64 m)) rfl rfl (fun _ _=>rfl) rfl ?_
  intro bm
  refine gO ?_
  refine XO.cY (z:=.nilIface) (m:=1) (C:=bK (.nilIface)) (by kernel_rfl) rfl (fun _ _=>rfl) rfl ?_
  intro be
  refine gO ?_
  refine ld (.t3 .here) (bK.ld _) ?_
  refine ca (MN _ _ _ _) (.cons (.t4 .here) .nil) ?_
  rintro _ _ (⟨h1,rfl,rfl⟩ | ⟨h1,rfl,rfl⟩)
  · skip
    try dsimp only[aT,aV,bu,bj,bk,bd,aW,bh,aY,aX,aP,aN,aQ,aO]
    obtain⟨i0,i1,i2,i3⟩:=h1
    refine gO ?_
    refine ld (.t3 .here) (bK.ld _) ?_
    refine ld (.t2 .here) (bK.ld _) ?_
    refine ca (wi _ _) .nil ?_
    rintro _ _ (⟨h2,rfl,rfl⟩ | ⟨h2,rfl,rfl⟩)
    · skip
      try dsimp only[aT,aV,bu,bj,bk,bd,aW,bh,aY,aX,aP,aN,aQ,aO]
      have j0:=h2
      have hway:=hO.cg i1 i2 i3
      obtain⟨xs,hxs⟩:=qx _ hway.1.range
      have hlen5:xs.length≤4:=by
        have:(jM xs).length=xs.length:=by simp[jM]
        rw[hxs]at this;omega
      refine gO ?_
      refine ld (.t4 .here) (bK.ld _) ?_
      refine ca (Dr _ _ _) .nil ?_
      rintro _ _ ⟨b1,b2,rfl,rfl⟩
      refine gO ?_
      refine XC.DW (xs:=xs) (fun x:GW=>.int .i64 x.1) (fun pre=>∀ x∈pre,s.room q m x.1=true) (fun pre=>∃ x∈pre,s.room q m x.1=false) (fun pre=>[.cells b1 0 1 (bK (.int .i64 n)),.cells b2 0 1 (bK (ptr p o 0)),.cells p o 60 (aC s),.cells bT 0 1 (bK (ptr p o 0)),.cells bq 0 1 (bK (.int .i64 q)),.cells bm 0 1 (bK (.int .i64 m)),.cells be 0 1 (bK (.nilIface))]) (fun pre=>[.cells b1 0 1 (bK (.int .i64 n)),.cells b2 0 1 (bK (ptr p o 0)),.cells p o 60 (aC s),.cells bT 0 1 (bK (ptr p o 0)),.cells bq 0 1 (bK (.int .i64 q)),.cells bm 0 1 (bK (.int .i64 m)),.cells be 0 1 (bK (.iface 102 (.int .i64 6)))]) rfl (pH FV) rfl rfl (fun w hw=>wj p o b1 b2 n s.par xs (by rw[hxs];exact hway.1) w (na (by rfl) hw.good .here (.there .here) (.t2 .here))) ?_ (fun _ hw=>XM.pick (.cons .here (.cons .here (.cons .here (.cons (.t3 .here) (.cons (.t2 .here) (.cons (.there .here) .h1)))))) hw) (fun _=>rfl) (fun _=>rfl) ?_ ?_ ?_
      · skip
        simp
      · intro pre x w hV hlen hx
        have hsm:=hS x.1 x.2.1 x.2.2
        obtain⟨x1,x2⟩:=x.2
        have hr0: -9223372036854775808≤(s.gv x.1).pr+q∧(s.gv x.1).pr+q≤9223372036854775807:=by show _≤s.pr x.1+q∧s.pr x.1+q≤_;omega
        have hr1: -9223372036854775808≤(s.gv x.1).pg+m∧(s.gv x.1).pg+m≤9223372036854775807:=by show _≤s.pg x.1+m∧s.pg x.1+m≤_;omega
        refine XB.block ?_
        refine XB.seq ?_
        refine XB.iu mixed (f:=10) (l:= #[false,false,false,false,false,false,false,false,false,false]) rfl rfl XM.lj ?_
        refine XQ.load (i:=0) (l':= #[true,false,false,false,false,false,false,false,false,false]) (.cells _ _ _ _) [8] rfl (by kernel_rfl) rfl (.t3 .here) (V.load rfl ea (bK.ld _) AW) rfl (by kernel_rfl) rfl ?_
        refine XQ.pv (i:=1) (l':= #[true,true,false,false,false,false,false,false,false,false]) rfl (by kernel_rfl) rfl (V.move rfl) rfl rfl ?_
        refine XQ.pv (i:=2) (l':= #[true,true,true,false,false,false,false,false,false,false]) rfl (by kernel_rfl) rfl (V.bI rfl) rfl rfl ?_
        refine XQ.pv (i:=3) (l':= #[true,true,true,true,false,false,false,false,false,false]) rfl (by kernel_rfl) rfl (V.fieldAddr rfl jU) rfl rfl ?_
        refine XQ.pv (i:=4) (l':= #[true,true,true,true,true,false,false,false,false,false]) rfl (by kernel_rfl) rfl (V.hG rfl rfl uv (by omega)) rfl rfl ?_
        refine XQ.load (i:=5) (l':= #[true,true,true,true,true,true,false,false,false,false]) (.cells _ _ _ _) [8] rfl (by kernel_rfl) rfl (.t2 .here) (V.gu rfl ea (ED _ _ (by omega)) Mv Ia) rfl (by kernel_rfl) rfl ?_
        refine XQ.load (i:=6) (l':= #[true,true,true,true,true,true,true,false,false,false]) (.cells _ _ _ _) [8] rfl (by kernel_rfl) rfl (.t4 .here) (V.load rfl ea (bK.ld _) jd) rfl (by kernel_rfl) rfl ?_
        refine XQ.load (i:=7) (l':= #[true,true,true,true,true,true,true,true,false,false]) (.cells _ _ _ _) [8] rfl (by kernel_rfl) rfl (.t5 .here) (V.load rfl ea (bK.ld _) jd) rfl (by kernel_rfl) rfl ?_
        refine XQ.call (i:=8) (l':= #[true,true,true,true,true,true,true,true,true,false]) rfl (by kernel_rfl) rfl rfl (KV _ _ _ (by assumption) (by assumption)) .nil Ko rfl (by rintro _ _ ⟨rfl,rfl⟩;all_goals(intro _ hw';exact⟨fun hs=>(hs 8 (by first | (simp;done) | (simp;rfl)) rfl).elim,fun hs=>(hs 8 (by first | (simp;done) | (simp;rfl)) rfl).elim,fun hs=>(hs 8 (by first | (simp;done) | (simp;rfl)) rfl).elim,fun hs=>(hs 8 (by first | (simp;done) | (simp;rfl)) rfl).elim,trivial⟩)) ?_
        rintro _ _ ⟨rfl,rfl⟩
        refine XQ.pv (i:=9) (l':= #[true,true,true,true,true,true,true,true,true,true]) rfl (by kernel_rfl) rfl (V.not rfl) rfl rfl ?_
        refine XQ.done (by kernel_rfl) ?_
        refine XE.D7 ?_
        refine XB.keep [(8,_),(35,_)] (S2 rfl rfl) ?_
        refine XB.cond rfl (fun h3=> ?_) (fun h3=> ?_)
        · try simp only[sb]at h3
          have hX:=h3
          refine XB.seq ?_
          refine XB.region ?_
          refine XO.v (V.tz rfl Tryz.underlying102 (by simp)) rfl ?_
          refine XO.store rfl rfl (.t6 .here) (bK.st _ _) rfl Iu ?_
          refine XO.nil ?_
          refine XE.D7 ?_
          refine XB.keep [(8,_)] (S1 rfl) ?_
          refine XB.ret ?_
          refine XE.ni ?_
          refine XE.leave hx ?_ rfl (fun w2 hw2=> ?_)
          · skip
            exact⟨x,by simp,by simpa [TG.room]using hX⟩
          · skip
            exact XM.pick .h7 hw2
        · try simp only[sb]at h3
          have hX:=h3
          refine XB.skip ?_
          refine XE.js ?_
          refine XE.No hx ?_ rfl (fun w2 hg=>na (by rfl) hg .here (.there .here) (.t2 .here)) (fun w2 hw2=> ?_)
          · skip
            intro y hy
            rcases List.mem_append.1 hy with hy | hy
            · exact hV y hy
            · simp at hy;subst hy;simpa [TG.room]using hX
          · skip
            exact XM.pick .h7 hw2
      · intro hV D hD
        have hc:s.kL n q m=0:=by unfold TG.kL;rw[if_neg (by omega)];exact(TG.xv _ _).2 j0
        have hr:s.bX n q m=0:=by
          unfold TG.bX
          rw[if_neg (by omega),if_pos]
          rw[←hxs]
          simp only[jM,List.all_map,List.all_eq_true]
          exact hV
        have hc2:s.bY n q m=s.lay (s.cg n) q m:=by unfold TG.bY;rw[if_pos hr]
        refine gE ?_
        refine ld (.t4 .here) (bK.ld _) ?_
        refine ld (.t5 .here) (bK.ld _) ?_
        refine ld (.t6 .here) (bK.ld _) ?_
        refine ca (JC _ _ s hO _ (by first | assumption | exact⟨by omega,by omega,by assumption⟩) _ _ (by omega) (by omega) Bd hB hS) (.cons (.t3 .here) .nil) ?_
        rintro _ _ ⟨rfl,rfl⟩
        refine gO ?_
        refine st (.t7 .here) (bK.st _ _) rfl ?_
        refine XE.Eu (.inr rfl) (.there .here) rfl hD ?_
        refine XE.AO rfl (.cell rfl (.t6 .here) (bK.ld _) A8) (ab .h1 rfl ?_)
        try dsimp only[SW.den,SV.den,aj,aL]
        exact⟨by rw[hr];rfl,by rw[hc2]⟩
      · intro pre hp hV D hD
        have hc:s.kL n q m=0:=by unfold TG.kL;rw[if_neg (by omega)];exact(TG.xv _ _).2 j0
        have hr:s.bX n q m=6:=by
          unfold TG.bX
          rw[if_neg (by omega),if_neg]
          rw[←hxs]
          simp only[jM,List.all_map,List.all_eq_true]
          obtain⟨y,hy,e⟩:=hV
          intro h
          have:=h y (hp.subset hy)
          simp only[Function.comp]at this
          rw[e]at this;cases this
        have hc2:s.bY n q m=s:=by unfold TG.bY;rw[if_neg (by omega)]
        refine gE ?_
        refine XE.Eu (.inr rfl) .here rfl hD ?_
        refine XE.AO rfl (.cell rfl (.t6 .here) (bK.ld _) A8) (ab (.cons (.t2 .here) .nil) rfl ?_)
        try dsimp only[SW.den,SV.den,aj,aL]
        exact⟨by rw[hr];rfl,by rw[hc2]⟩
    · skip
      try dsimp only[aT,aV,bu,bj,bk,bd,aW,bh,aY,aX,aP,aN,aQ,aO]
      have j1:=h2
      refine gO ?_
      refine st (.there .here) (bK.st _ _) rfl ?_
      refine XE.EX (.inr rfl) ?_
      refine XE.AO rfl (.cell rfl (.there .here) (bK.ld _) A8) (ab .h1 rfl ?_)
      try dsimp only[SW.den,SV.den,aj,aL]
      first
      | (have hc:s.kL n q m=s.cx n:=by unfold TG.kL;rw[if_pos (by assumption)]
         have hr:s.bX n q m=s.cx n:=by unfold TG.bX;rw[if_pos (by omega),hc]
         exact⟨by rw[hr,aJ _ (by assumption)],by unfold TG.bY;rw[if_neg (by omega)]⟩)
      | (have hc:s.kL n q m=1:=by unfold TG.kL;rw[if_neg (by omega)];exact j1
         have hr:s.bX n q m=1:=by unfold TG.bX;rw[if_pos (by omega),hc]
         exact⟨by rw[hr];rfl,by unfold TG.bY;rw[if_neg (by omega)]⟩)
  · skip
    try dsimp only[aT,aV,bu,bj,bk,bd,aW,bh,aY,aX,aP,aN,aQ,aO]
    have i0:=h1
    refine gO ?_
    refine st (.there .here) (bK.st _ _) rfl ?_
    refine XE.EX (.inr rfl) ?_
    refine XE.AO rfl (.cell rfl (.there .here) (bK.ld _) A8) (ab .h1 rfl ?_)
    try dsimp only[SW.den,SV.den,aj,aL]
    first
    | (have hc:s.kL n q m=s.cx n:=by unfold TG.kL;rw[if_pos (by assumption)]
       have hr:s.bX n q m=s.cx n:=by unfold TG.bX;rw[if_pos (by omega),hc]
       exact⟨by rw[hr,aJ _ (by assumption)],by unfold TG.bY;rw[if_neg (by omega)]⟩)
    | (have hc:s.kL n q m=1:=by unfold TG.kL;rw[if_neg (by omega)];exact j1
       have hr:s.bX n q m=1:=by unfold TG.bX;rw[if_pos (by omega),hc]
       exact⟨by rw[hr];rfl,by unfold TG.bY;rw[if_neg (by omega)]⟩)
end Go.X.Gr

namespace Go.X.Gr
open Go Go.Proofs Go.X
set_option maxRecDepth 20000
set_option maxHeartbeats 4000000
theorem Gy(p o:Nat)(s:TG)(n:Int)(hn:0≤n∧n<10)(q m:Int)(Bd:Int)(hB:0≤Bd∧Bd≤1000000000000)(hS:s.Small Bd):Spec Tryz.prog 122 [ptr p o 0,.int .i64 n,.int .i64 q,.int .i64 m] [.cells p o 60 (aC s)] (fun v H1=>v= .bool (decide (q≤s.left s.pr n∧m≤s.left s.pg n))∧H1=[.cells p o 60 (aC s)]):=by
 refine Spec.go 74 [0,1,2,3,8,9,10,11,12,30,31,32,46] [] Tryz.func122 rfl rfl rfl ?_
 intro W
 refine rq [0,1,2,3,4,5,6,7,8,9,10,11,12,13,14,15] mixed (by kernel_rfl) ?_
 refine sd (by omega) ?_
 refine ld .here (aC.fg _ _ (by omega)) ?_
 refine sd (by omega) ?_
 refine ld .here (aC.fh _ _ (by omega)) ?_
 refine mQ .here (yb _) ?_
 refine lp (σ:=Int) (fun k=>(10-k).toNat) (fun k=>0≤k∧k≤10) (fun k=>[(31,.int .i64 k),(9,.int .i64 (s.pr n-cJ (s.eb s.pr n) k.toNat)),(10,.int .i64 (s.pg n-cJ (s.eb s.pg n) k.toNat)),(0,ptr p o 0),(1,.int .i64 n),(2,.int .i64 q),(3,.int .i64 m),(30,.agg (yX s.here 10))]) (fun k=>XM W (bR [.cells p o 60 (aC s)]) [.cells p o 60 (aC s)]) (0) ?_ (.cons rfl (.cons (by rw[show s.pr n-cJ (s.eb s.pr n) (0:Int).toNat=s.pr n from by simp[cJ]];rfl) (S6 (by rw[show s.pg n-cJ (s.eb s.pg n) (0:Int).toNat=s.pg n from by simp[cJ]];rfl) rfl rfl rfl rfl rfl))) (fun _ hw=>XM.pick .h1 hw) ?_
 ·
  omega
 intro k hk
 have hst1:=wI s s.pr n hk.1
 have hst2:=wI s s.pg n hk.1
 have hbd:=B0 hS hB hn (k:=k) hk.1
 refine gC ?_
 refine cd rfl ?_ ?_<;>intro h1
 ·
  have hSn:=hS n hn.1 hn.2
  have hSk:=hS k hk.1 (by omega)
  refine XO.v (V.FJ rfl rfl Tryz.underlying149 LR N3 (by omega) (Ih (by omega))) rfl (gO ?_)
  refine JJ 36 rfl ?_ ?_<;>intro h2
  ·try simp only[sb]at h2
   refine sd (by omega) ?_
   refine ld .here (aC.fy _ _ (by omega)) ?_
   refine cd rfl ?_ ?_<;>intro h3
   ·
    refine sd (by omega) ?_
    refine ld .here (aC.fg _ _ (by omega)) ?_
    refine sd (by omega) ?_
    refine sd (by omega) ?_
    refine ld .here (aC.fh _ _ (by omega)) ?_
    refine sd (by omega) ?_
    refine sd (by omega) ?_
    refine ag (k+1) ?_ ?_ (.cons rfl (.cons (by rw[hst1];rw[show s.eb s.pr n k=s.pr k from by unfold TG.eb;rw[if_pos ⟨by simp_all,by simp_all⟩]];exact Cu (by omega)) (S6 (by rw[hst2];rw[show s.eb s.pg n k=s.pg k from by unfold TG.eb;rw[if_pos ⟨by simp_all,by simp_all⟩]];exact Cu (by omega)) rfl rfl rfl rfl rfl))) (fun _ hw=>XM.pick .h1 hw)
    ·
     (first | omega | (simp;done) | (simp;omega))
    ·
     (first | omega | (simp;done) | (simp;omega))
   ·
    refine sd (by omega) ?_
    refine ag (k+1) ?_ ?_ (.cons rfl (.cons (by rw[hst1];rw[show s.eb s.pr n k=0 from by unfold TG.eb;rw[if_neg (by simp_all)]];exact Cu (by omega)) (S6 (by rw[hst2];rw[show s.eb s.pg n k=0 from by unfold TG.eb;rw[if_neg (by simp_all)]];exact Cu (by omega)) rfl rfl rfl rfl rfl))) (fun _ hw=>XM.pick .h1 hw)
    ·
     (first | omega | (simp;done) | (simp;omega))
    ·
     (first | omega | (simp;done) | (simp;omega))
  ·try simp only[sb]at h2
   refine sd (by omega) ?_
   refine ag (k+1) ?_ ?_ (.cons rfl (.cons (by rw[hst1];rw[show s.eb s.pr n k=0 from by unfold TG.eb;rw[if_neg (by simp_all)]];exact Cu (by omega)) (S6 (by rw[hst2];rw[show s.eb s.pg n k=0 from by unfold TG.eb;rw[if_neg (by simp_all)]];exact Cu (by omega)) rfl rfl rfl rfl rfl))) (fun _ hw=>XM.pick .h1 hw)
   ·
    (first | omega | (simp;done) | (simp;omega))
   ·
    (first | omega | (simp;done) | (simp;omega))
 ·
  refine sp 69 rfl ?_ ?_<;>intro h4
  ·
   refine XE.aK rfl rfl (ab .h1 rfl ?_)
   try dsimp only[SW.den,SV.den,aj,aL]
   obtain rfl:k=10:=by omega
   refine⟨congrArg Value.bool ?_,rfl⟩
   unfold TG.left
   rw[show(10:Int).toNat=10 from rfl]at*
   first
   | exact decide_eq_decide.2 (by omega)
   | exact(decide_eq_false (by omega)).symm
  ·
   refine XE.aK rfl rfl (ab .h1 rfl ?_)
   try dsimp only[SW.den,SV.den,aj,aL]
   obtain rfl:k=10:=by omega
   refine⟨congrArg Value.bool ?_,rfl⟩
   unfold TG.left
   rw[show(10:Int).toNat=10 from rfl]at*
   first
   | exact decide_eq_decide.2 (by omega)
   | exact(decide_eq_false (by omega)).symm
theorem mP(p o:Nat)(s:TG)(hO:s.Ok)(n q m:Int)(Bd:Int)(hB:0≤Bd∧Bd≤1000000000000)(hS:s.Small Bd):Spec Tryz.prog 54 [ptr p o 0,.int .i64 n,.int .i64 q,.int .i64 m] [.cells p o 60 (aC s)] (fun v H1=>v=bH 102 (s.dR n q m)∧H1=[.cells p o 60 (aC (s.dX n q m))]):=by
  refine Spec.go 35 [0,1,2,3,8,9,14,19,26] [] Tryz.func54 rfl rfl rfl ?_
  intro W
  refine ca (MN _ _ _ _) .h1 ?_
  rintro _ _ (⟨h1,rfl,rfl⟩ | ⟨h1,rfl,rfl⟩)
  · skip
    try dsimp only[aT,aV,bu,bj,bk,bd,aW,bh,aY,aX,aP,aN,aQ,aO]
    obtain⟨i0,i1,i2,i3⟩:=h1
    refine gO ?_
    refine ca (wi _ _) .nil ?_
    rintro _ _ (⟨h2,rfl,rfl⟩ | ⟨h2,rfl,rfl⟩)
    · skip
      try dsimp only[aT,aV,bu,bj,bk,bd,aW,bh,aY,aX,aP,aN,aQ,aO]
      have j0:=h2
      refine gO ?_
      refine ca (Gy _ _ s _ ⟨by omega,by omega⟩ _ _ Bd hB hS) .h1 ?_
      rintro _ _ ⟨rfl,rfl⟩
      refine gO ?_
      refine cd rfl ?_ ?_<;>intro h3
      · skip
        refine XE.aK rfl rfl (ab .h1 rfl ?_)
        try dsimp only[SW.den,SV.den,aj,aL]
        have hc:s.kL n q m=0:=by unfold TG.kL;rw[if_neg (by omega)];exact(TG.xv _ _).2 j0
        have hr:s.dR n q m=8:=by unfold TG.dR;rw[if_neg (by omega),if_neg (by simp_all)]
        exact⟨by rw[hr];rfl,by unfold TG.dX;rw[if_neg (by omega)]⟩
      · skip
        refine sd (by omega) ?_
        refine sd (by omega) ?_
        refine ca (JC _ _ s hO _ (by first | assumption | exact⟨by omega,by omega,by assumption⟩) _ _ (by omega) (by omega) Bd hB hS) .h1 ?_
        rintro _ _ ⟨rfl,rfl⟩
        refine gO ?_
        refine XE.aK rfl rfl (ab .h1 rfl ?_)
        try dsimp only[SW.den,SV.den,aj,aL]
        have hc:s.kL n q m=0:=by unfold TG.kL;rw[if_neg (by omega)];exact(TG.xv _ _).2 j0
        have hr:s.dR n q m=0:=by unfold TG.dR;rw[if_neg (by omega),if_pos (by simp_all)]
        exact⟨by rw[hr];rfl,by unfold TG.dX;rw[if_pos hr];simp only[Int.zero_sub]⟩
    · skip
      try dsimp only[aT,aV,bu,bj,bk,bd,aW,bh,aY,aX,aP,aN,aQ,aO]
      have j1:=h2
      refine gO ?_
      refine XE.aK rfl rfl (ab .h1 rfl ?_)
      try dsimp only[SW.den,SV.den,aj,aL]
      first
      | (have hc:s.kL n q m=s.cx n:=by unfold TG.kL;rw[if_pos (by assumption)]
         have hr:s.dR n q m=s.cx n:=by unfold TG.dR;rw[if_pos (by omega),hc]
         exact⟨by rw[hr,aJ _ (by assumption)],by unfold TG.dX;rw[if_neg (by omega)]⟩)
      | (have hc:s.kL n q m=1:=by unfold TG.kL;rw[if_neg (by omega)];exact j1
         have hr:s.dR n q m=1:=by unfold TG.dR;rw[if_pos (by omega),hc]
         exact⟨by rw[hr];rfl,by unfold TG.dX;rw[if_neg (by omega)]⟩)
  · skip
    try dsimp only[aT,aV,bu,bj,bk,bd,aW,bh,aY,aX,aP,aN,aQ,aO]
    have i0:=h1
    refine gO ?_
    refine XE.aK rfl rfl (ab .h1 rfl ?_)
    try dsimp only[SW.den,SV.den,aj,aL]
    first
    | (have hc:s.kL n q m=s.cx n:=by unfold TG.kL;rw[if_pos (by assumption)]
       have hr:s.dR n q m=s.cx n:=by unfold TG.dR;rw[if_pos (by omega),hc]
       exact⟨by rw[hr,aJ _ (by assumption)],by unfold TG.dX;rw[if_neg (by omega)]⟩)
    | (have hc:s.kL n q m=1:=by unfold TG.kL;rw[if_neg (by omega)];exact j1
       have hr:s.dR n q m=1:=by unfold TG.dR;rw[if_pos (by omega),hc]
       exact⟨by rw[hr];rfl,by unfold TG.dX;rw[if_neg (by omega)]⟩)
end Go.X.Gr
