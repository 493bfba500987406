import Derived.Test.YtpnddggohipdnaaDoorBM
import Derived.Test.YtpnddggohipdnaaDoorProg
import Derived.KernelRfl
namespace Go.X
open Go Go.Proofs
set_option maxRecDepth 20000
set_option maxHeartbeats 4000000
instance : Tb Tryd.prog := ⟨⟨(.nd 4928 0 (.nd 2500 4 (.nd 1216 0 (.nd 514 2 (.nd 451 3 (.nd 449 1 (.nd 448 0 .lf .lf) (.nd 450 2 .lf .lf)) (.nd 513 1 (.nd 512 0 .lf .lf) .lf)) (.nd 896 0 (.nd 832 0 (.nd 515 3 .lf .lf) (.nd 833 1 .lf .lf)) (.nd 1152 0 (.nd 897 1 .lf .lf) .lf))) (.nd 2306 17 (.nd 2243 33 (.nd 2241 1 (.nd 2240 0 .lf .lf) (.nd 2242 17 .lf .lf)) (.nd 2305 1 (.nd 2304 0 .lf .lf) .lf)) (.nd 2497 1 (.nd 2496 0 (.nd 2307 33 .lf .lf) .lf) (.nd 2499 3 (.nd 2498 2 .lf .lf) .lf)))) (.nd 3137 1 (.nd 2563 3 (.nd 2560 0 (.nd 2502 6 (.nd 2501 5 .lf .lf) (.nd 2503 7 .lf .lf)) (.nd 2562 2 (.nd 2561 1 .lf .lf) .lf)) (.nd 2566 6 (.nd 2565 5 (.nd 2564 4 .lf .lf) .lf) (.nd 3136 0 (.nd 2567 7 .lf .lf) .lf))) (.nd 4674 513 (.nd 3202 513 (.nd 3200 0 (.nd 3138 513 .lf .lf) (.nd 3201 1 .lf .lf)) (.nd 4673 1 (.nd 4672 0 .lf .lf) .lf)) (.nd 4738 513 (.nd 4737 1 (.nd 4736 0 .lf .lf) .lf) (.nd 4865 1 (.nd 4864 0 .lf .lf) .lf))))) (.nd 9088 0 (.nd 5314 2 (.nd 5122 2 (.nd 5058 2 (.nd 5056 0 (.nd 4929 1 .lf .lf) (.nd 5057 1 .lf .lf)) (.nd 5121 1 (.nd 5120 0 .lf .lf) .lf)) (.nd 5250 2 (.nd 5249 1 (.nd 5248 0 .lf .lf) .lf) (.nd 5313 1 (.nd 5312 0 .lf .lf) .lf))) (.nd 6656 0 (.nd 5889 64 (.nd 5825 64 (.nd 5824 0 .lf .lf) (.nd 5888 0 .lf .lf)) (.nd 6593 7 (.nd 6592 0 .lf .lf) .lf)) (.nd 9025 1 (.nd 9024 0 (.nd 6657 7 .lf .lf) .lf) (.nd 9027 3 (.nd 9026 2 .lf .lf) .lf)))) (.nd 9737 9 (.nd 9731 3 (.nd 9728 0 (.nd 9090 2 (.nd 9089 1 .lf .lf) (.nd 9091 3 .lf .lf)) (.nd 9730 2 (.nd 9729 1 .lf .lf) .lf)) (.nd 9734 6 (.nd 9733 5 (.nd 9732 4 .lf .lf) .lf) (.nd 9736 8 (.nd 9735 7 .lf .lf) .lf))) (.nd 9797 5 (.nd 9794 2 (.nd 9792 0 (.nd 9738 10 .lf .lf) (.nd 9793 1 .lf .lf)) (.nd 9796 4 (.nd 9795 3 .lf .lf) .lf)) (.nd 9800 8 (.nd 9799 7 (.nd 9798 6 .lf .lf) .lf) (.nd 9802 10 (.nd 9801 9 .lf .lf) .lf)))))), (.nd 53 1 (.nd 22 4 (.nd 12 6 (.nd 7 7 (.nd 4 5 (.nd 3 6 (.nd 2 6 .lf .lf) .lf) (.nd 6 6 (.nd 5 6 .lf .lf) .lf)) (.nd 10 3 (.nd 9 3 (.nd 8 7 .lf .lf) .lf) (.nd 11 3 .lf .lf))) (.nd 17 2 (.nd 15 2 (.nd 14 7 (.nd 13 7 .lf .lf) .lf) (.nd 16 2 .lf .lf)) (.nd 20 1 (.nd 19 7 (.nd 18 7 .lf .lf) .lf) (.nd 21 6 .lf .lf)))) (.nd 38 6 (.nd 33 7 (.nd 29 2 (.nd 27 2 (.nd 25 2 .lf .lf) .lf) (.nd 32 2 (.nd 31 4 .lf .lf) .lf)) (.nd 36 7 (.nd 35 7 (.nd 34 7 .lf .lf) .lf) (.nd 37 4 .lf .lf))) (.nd 47 7 (.nd 45 2 (.nd 40 7 (.nd 39 7 .lf .lf) .lf) (.nd 46 7 .lf .lf)) (.nd 50 7 (.nd 49 7 (.nd 48 7 .lf .lf) .lf) (.nd 52 1 .lf .lf))))) (.nd 104 7 (.nd 80 7 (.nd 74 7 (.nd 69 4 (.nd 59 4 (.nd 58 7 .lf .lf) .lf) (.nd 73 7 (.nd 71 2 .lf .lf) .lf)) (.nd 78 7 (.nd 77 7 (.nd 76 7 .lf .lf) .lf) (.nd 79 7 .lf .lf))) (.nd 92 7 (.nd 90 7 (.nd 83 7 (.nd 82 7 .lf .lf) .lf) (.nd 91 7 .lf .lf)) (.nd 102 7 (.nd 98 4 (.nd 95 6 .lf .lf) .lf) (.nd 103 7 .lf .lf)))) (.nd 143 7 (.nd 135 2 (.nd 122 6 (.nd 117 6 (.nd 114 2 .lf .lf) .lf) (.nd 131 6 (.nd 130 6 .lf .lf) .lf)) (.nd 141 7 (.nd 138 2 (.nd 137 7 .lf .lf) .lf) (.nd 142 7 .lf .lf))) (.nd 149 2 (.nd 146 6 (.nd 145 7 (.nd 144 7 .lf .lf) .lf) (.nd 147 6 .lf .lf)) (.nd 152 7 (.nd 151 6 (.nd 150 6 .lf .lf) .lf) (.nd 153 7 .lf .lf)))))), (.nd 52 1 (.nd 22 1 (.nd 12 1 (.nd 7 4 (.nd 4 1 (.nd 3 1 (.nd 2 1 .lf .lf) .lf) (.nd 6 1 (.nd 5 1 .lf .lf) .lf)) (.nd 10 1 (.nd 9 1 (.nd 8 4 .lf .lf) .lf) (.nd 11 1 .lf .lf))) (.nd 17 1 (.nd 15 1 (.nd 14 2 (.nd 13 2 .lf .lf) .lf) (.nd 16 1 .lf .lf)) (.nd 20 1 (.nd 19 1 (.nd 18 1 .lf .lf) .lf) (.nd 21 1 .lf .lf)))) (.nd 37 1 (.nd 32 1 (.nd 29 1 (.nd 27 1 (.nd 25 1 .lf .lf) .lf) (.nd 31 1 .lf .lf)) (.nd 35 49 (.nd 34 16 (.nd 33 16 .lf .lf) .lf) (.nd 36 49 .lf .lf))) (.nd 46 8 (.nd 40 8 (.nd 39 8 (.nd 38 1 .lf .lf) .lf) (.nd 45 1 .lf .lf)) (.nd 49 577 (.nd 48 64 (.nd 47 512 .lf .lf) .lf) (.nd 50 577 .lf .lf))))) (.nd 102 7 (.nd 78 32 (.nd 71 1 (.nd 59 1 (.nd 58 128 (.nd 53 1 .lf .lf) .lf) (.nd 69 1 .lf .lf)) (.nd 76 2 (.nd 74 577 (.nd 73 577 .lf .lf) .lf) (.nd 77 2 .lf .lf))) (.nd 90 64 (.nd 82 3 (.nd 80 34 (.nd 79 34 .lf .lf) .lf) (.nd 83 3 .lf .lf)) (.nd 95 1 (.nd 92 128 (.nd 91 128 .lf .lf) .lf) (.nd 98 1 .lf .lf)))) (.nd 138 1 (.nd 122 1 (.nd 114 1 (.nd 104 71 (.nd 103 71 .lf .lf) .lf) (.nd 117 1 .lf .lf)) (.nd 135 1 (.nd 131 1 (.nd 130 1 .lf .lf) .lf) (.nd 137 64 .lf .lf))) (.nd 149 1 (.nd 146 1 (.nd 142 4 (.nd 141 4 .lf .lf) .lf) (.nd 147 1 .lf .lf)) (.nd 152 11 (.nd 151 1 (.nd 150 1 .lf .lf) .lf) (.nd 153 11 .lf .lf)))))), (.nd 58 128 (.nd 46 8 (.nd 34 16 (.nd 33 16 .lf .lf) .lf) (.nd 48 64 (.nd 47 64 .lf .lf) .lf)) (.nd 102 7 (.nd 90 64 (.nd 78 16 .lf .lf) .lf) (.nd 143 0 (.nd 137 64 .lf .lf) .lf))), (.nd 58 1 (.nd 46 1 (.nd 34 1 (.nd 33 1 .lf .lf) .lf) (.nd 48 1 (.nd 47 8 .lf .lf) .lf)) (.nd 102 1 (.nd 90 1 (.nd 78 2 .lf .lf) .lf) (.nd 143 1 (.nd 137 1 .lf .lf) .lf))), (.nd 59 128 (.nd 31 1 (.nd 22 8 .lf .lf) (.nd 37 1 .lf .lf)) (.nd 98 1 (.nd 69 3 .lf .lf) .lf)), (.nd 44 0 (.nd 23 0 (.nd 12 0 (.nd 7 0 (.nd 4 0 (.nd 3 0 (.nd 2 0 .lf .lf) .lf) (.nd 6 0 (.nd 5 0 .lf .lf) .lf)) (.nd 10 0 (.nd 9 0 (.nd 8 0 .lf .lf) .lf) (.nd 11 0 .lf .lf))) (.nd 18 0 (.nd 15 0 (.nd 14 0 (.nd 13 0 .lf .lf) .lf) (.nd 17 0 (.nd 16 0 .lf .lf) .lf)) (.nd 21 0 (.nd 20 0 (.nd 19 0 .lf .lf) .lf) (.nd 22 0 .lf .lf)))) (.nd 34 0 (.nd 29 0 (.nd 26 0 (.nd 25 0 (.nd 24 0 .lf .lf) .lf) (.nd 28 0 (.nd 27 0 .lf .lf) .lf)) (.nd 32 0 (.nd 31 0 (.nd 30 0 .lf .lf) .lf) (.nd 33 0 .lf .lf))) (.nd 39 0 (.nd 37 0 (.nd 36 0 (.nd 35 0 .lf .lf) .lf) (.nd 38 0 .lf .lf)) (.nd 42 0 (.nd 41 0 (.nd 40 0 .lf .lf) .lf) (.nd 43 0 .lf .lf))))) (.nd 66 0 (.nd 55 0 (.nd 50 0 (.nd 47 0 (.nd 46 0 (.nd 45 0 .lf .lf) .lf) (.nd 49 0 (.nd 48 0 .lf .lf) .lf)) (.nd 53 0 (.nd 52 0 (.nd 51 0 .lf .lf) .lf) (.nd 54 0 .lf .lf))) (.nd 61 0 (.nd 58 0 (.nd 57 0 (.nd 56 0 .lf .lf) .lf) (.nd 60 0 (.nd 59 0 .lf .lf) .lf)) (.nd 64 0 (.nd 63 0 (.nd 62 0 .lf .lf) .lf) (.nd 65 0 .lf .lf)))) (.nd 77 0 (.nd 72 0 (.nd 69 0 (.nd 68 0 (.nd 67 0 .lf .lf) .lf) (.nd 71 0 (.nd 70 0 .lf .lf) .lf)) (.nd 75 0 (.nd 74 0 (.nd 73 0 .lf .lf) .lf) (.nd 76 0 .lf .lf))) (.nd 82 0 (.nd 80 0 (.nd 79 0 (.nd 78 0 .lf .lf) .lf) (.nd 81 0 .lf .lf)) (.nd 85 0 (.nd 84 0 (.nd 83 0 .lf .lf) .lf) (.nd 106 0 .lf .lf))))))⟩, by kernel_rfl⟩
theorem mixed : Tryd.prog.follows .mixedOrders = true := by kernel_rfl
theorem ar_137 : arrOf Tryd.prog 137 = some (64, 1) := by kernel_rfl
theorem sc_38 : scal Tryd.prog 38 = true := by kernel_rfl
theorem sz_38_1 : szOf Tryd.prog 38 = some 1 := by kernel_rfl
theorem p_tz (x t : Nat) (hx : x < 18446744073709551616) (ht : x.testBit t = true) (hl : ∀ j, j < t → x.testBit j = false) (ht64 : t < 64) : Spec Tryd.prog 79 [.int .u64 (x : Int)]
 [.ro 0 0 64 tab64]
 (fun v H1 => v = .int .i64 (t : Int) ∧ H1 = []) := by
  have hx0 : 0 < x := by
    rcases Nat.eq_zero_or_pos x with q | q
    · rw [q] at ht; simp at ht
    · exact q
  obtain ⟨z1, z2, z3, z4, z5⟩ := tz_all t ht64
  refine Spec.go 14 [0, 2, 4] [] Tryd.func79 rfl rfl rfl ?_
  intro W
  refine cdF rfl (by simp; omega) ?_
  refine XO.v (V.neg rfl _ (neg_u64 ⟨hx0, hx⟩)) rfl (gO ?_)
  refine XO.v (V.bits (r := 2 ^ t) rfl rfl rfl hx (Nat.sub_lt (by decide) hx0) (congrArg some (low_bit (w := 64) ht hl hx ht64))) rfl (gO ?_)
  refine XO.v (V.mul rfl rfl _ z1) rfl (gO ?_)
  refine XO.v (V.shr rfl rfl (by omega) _ z2) rfl (gO ?_)
  refine XO.v (V.indexGl rfl rfl ar_137 (by omega)) rfl (gO ?_)
  refine ldRo .here (tz_tab ht64) ?_
  refine XO.v (V.convInt rfl Tryd.underlying5 Tryd.underlying3 _ z4) rfl (gO ?_)
  refine XE.ret1 rfl rfl (post_of .nil rfl ?_)
  exact ⟨rfl, rfl⟩
theorem p_ones (f : Int → Bool) (x : Nat) (hx : x < 18446744073709551616) (hf : ∀ j, j < 64 → x.testBit j = f j) : Spec Tryd.prog 55 [.int .u64 (x : Int)]
 []
 (fun v H1 => v = .int .i64 (cntN f 64) ∧ H1 = []) := by
  have s2 := shr_le (pc2 (pc1 x)) 4
  have g2 := pc2_le (pc1 x)
  have g1 := pc1_le x
  have l3 := pc3_le (pc2 (pc1 x))
  have l4 : (pc4 (pc3 (pc2 (pc1 x)))) ≤ 2170205185142300190 := by have := shr_le (pc3 (pc2 (pc1 x))) 8; unfold pc4; omega
  have l5 : (pc5 (pc4 (pc3 (pc2 (pc1 x))))) ≤ 4340410370284600380 := by have := shr_le (pc4 (pc3 (pc2 (pc1 x)))) 16; unfold pc5; omega
  have l6 : (pc6 (pc5 (pc4 (pc3 (pc2 (pc1 x)))))) ≤ 8680820740569200760 := by have := shr_le (pc5 (pc4 (pc3 (pc2 (pc1 x))))) 32; unfold pc6; omega
  refine Spec.go 35 [0, 2] [] Tryd.func55 rfl rfl rfl ?_
  intro W
  refine XO.v (V.shr rfl rfl (by omega) ((x >>> 1 : Nat) : Int) (shr_u64 (n := 1) (by omega) _)) rfl (gO ?_)
  refine XO.v (V.bits (r := (x >>> 1) &&& 6148914691236517205) rfl rfl rfl (by first | assumption | exact Nat.lt_of_le_of_lt (shr_le _ _) (by assumption) | (show _ < 18446744073709551616; omega)) (by decide) rfl) rfl (gO ?_)
  refine XO.v (V.bits (r := x &&& 6148914691236517205) rfl rfl rfl (by first | assumption | exact Nat.lt_of_le_of_lt (shr_le _ _) (by assumption) | (show _ < 18446744073709551616; omega)) (by decide) rfl) rfl (gO ?_)
  refine XO.v (V.add rfl rfl (((pc1 x) : Nat) : Int) (by rw [← Int.natCast_add]; exact wrap_nat rfl (Nat.lt_of_le_of_lt (pc1_le _) (by decide)))) rfl (gO ?_)
  refine XO.v (V.shr rfl rfl (by omega) (((pc1 x) >>> 2 : Nat) : Int) (shr_u64 (n := 2) (by omega) _)) rfl (gO ?_)
  refine XO.v (V.bits (r := ((pc1 x) >>> 2) &&& 3689348814741910323) rfl rfl rfl (by first | assumption | exact Nat.lt_of_le_of_lt (shr_le _ _) (by assumption) | (show _ < 18446744073709551616; omega)) (by decide) rfl) rfl (gO ?_)
  refine XO.v (V.bits (r := (pc1 x) &&& 3689348814741910323) rfl rfl rfl (by first | assumption | exact Nat.lt_of_le_of_lt (shr_le _ _) (by assumption) | (show _ < 18446744073709551616; omega)) (by decide) rfl) rfl (gO ?_)
  refine XO.v (V.add rfl rfl (((pc2 (pc1 x)) : Nat) : Int) (by rw [← Int.natCast_add]; exact wrap_nat rfl (Nat.lt_of_le_of_lt (pc2_le _) (by decide)))) rfl (gO ?_)
  refine XO.v (V.shr rfl rfl (by omega) (((pc2 (pc1 x)) >>> 4 : Nat) : Int) (shr_u64 (n := 4) (by omega) _)) rfl (gO ?_)
  refine XO.v (V.add rfl rfl (((pc2 (pc1 x)) >>> 4 + (pc2 (pc1 x)) : Nat) : Int) (by rw [← Int.natCast_add]; exact wrap_nat rfl (show _ < 18446744073709551616 by omega))) rfl (gO ?_)
  refine XO.v (V.bits (r := (pc3 (pc2 (pc1 x)))) rfl rfl rfl (show _ < 18446744073709551616 by omega) (by decide) rfl) rfl (gO ?_)
  refine XO.v (V.shr rfl rfl (by omega) (((pc3 (pc2 (pc1 x))) >>> 8 : Nat) : Int) (shr_u64 (n := 8) (by omega) _)) rfl (gO ?_)
  refine XO.v (V.add rfl rfl (((pc4 (pc3 (pc2 (pc1 x)))) : Nat) : Int) (by rw [← Int.natCast_add]; exact wrap_nat rfl (Nat.lt_of_le_of_lt l4 (by decide)))) rfl (gO ?_)
  refine XO.v (V.shr rfl rfl (by omega) (((pc4 (pc3 (pc2 (pc1 x)))) >>> 16 : Nat) : Int) (shr_u64 (n := 16) (by omega) _)) rfl (gO ?_)
  refine XO.v (V.add rfl rfl (((pc5 (pc4 (pc3 (pc2 (pc1 x))))) : Nat) : Int) (by rw [← Int.natCast_add]; exact wrap_nat rfl (Nat.lt_of_le_of_lt l5 (by decide)))) rfl (gO ?_)
  refine XO.v (V.shr rfl rfl (by omega) (((pc5 (pc4 (pc3 (pc2 (pc1 x))))) >>> 32 : Nat) : Int) (shr_u64 (n := 32) (by omega) _)) rfl (gO ?_)
  refine XO.v (V.add rfl rfl (((pc6 (pc5 (pc4 (pc3 (pc2 (pc1 x)))))) : Nat) : Int) (by rw [← Int.natCast_add]; exact wrap_nat rfl (Nat.lt_of_le_of_lt l6 (by decide)))) rfl (gO ?_)
  refine XO.v (V.convInt rfl Tryd.underlying38 Tryd.underlying3 (((pc6 (pc5 (pc4 (pc3 (pc2 (pc1 x)))))) : Nat) : Int) (IntWalk.i64_in _ (by omega))) rfl (gO ?_)
  refine XO.v (V.bitsI rfl rfl (r := (pc6 (pc5 (pc4 (pc3 (pc2 (pc1 x)))))) &&& 127) (by omega) (by decide) (Nat.lt_of_le_of_lt Nat.and_le_right (by decide)) rfl) rfl (gO ?_)
  refine XE.ret1 rfl rfl (post_of .nil rfl ?_)
  exact ⟨congrArg (Value.int .i64) (popcount f x hf), rfl⟩
theorem p_New  : Spec Tryd.prog 29 []
 []
 (fun v H1 => ∃ b, v = ptr b 0 0 ∧ H1 = [.cells b 0 71 (encP BB.init.pool)]) := by
  refine Spec.go 9 [0, 1] [] Tryd.func29 rfl rfl rfl ?_
  intro W
  refine XO.v (V.build (vs := #[]) rfl (v := .agg #[.int .u64 0, .int .u64 0, .int .u64 0, .int .u64 0, .int .u64 0, .int .u64 0, .int .u64 0, .int .i64 0, .int .i64 0, .int .i64 0, .int .i64 0, .int .i64 0, .int .i64 0, .int .i64 0, .int .i64 0, .int .i64 0, .int .i64 0, .int .i64 0, .int .i64 0, .int .i64 0, .int .i64 0, .int .i64 0, .int .i64 0, .int .i64 0, .int .i64 0, .int .i64 0, .int .i64 0, .int .i64 0, .int .i64 0, .int .i64 0, .int .i64 0, .int .i64 0, .int .i64 0, .int .i64 0, .int .i64 0, .int .i64 0, .int .i64 0, .int .i64 0, .int .i64 0, .int .i64 0, .int .i64 0, .int .i64 0, .int .i64 0, .int .i64 0, .int .i64 0, .int .i64 0, .int .i64 0, .int .i64 0, .int .i64 0, .int .i64 0, .int .i64 0, .int .i64 0, .int .i64 0, .int .i64 0, .int .i64 0, .int .i64 0, .int .i64 0, .int .i64 0, .int .i64 0, .int .i64 0, .int .i64 0, .int .i64 0, .int .i64 0, .int .i64 0, .int .i64 0, .int .i64 0, .int .i64 0, .int .i64 0, .int .i64 0, .int .i64 0, .int .i64 0]) (fun _ => by kernel_rfl)) rfl (gO ?_)
  refine XO.box (m := 71) (C := encP ⟨BB.void, fun _ => 0⟩) rfl rfl boxP_init rfl ?_
  intro bs
  refine gO ?_
  refine sd (by omega) ?_
  refine st .here (encP_free _ BB.init 6 (by omega) (v := 1) ⟨BB.init_mask.1.symm, fun m h0 h1 h2 => by rw [BB.init_mask.2 m h0 h1 h2]; exact (BB.void_mask m h0 h1).symm⟩) rfl ?_
  refine XE.ret1 rfl rfl (post_of .h1 rfl ?_)
  exact ⟨_, rfl, rfl⟩
theorem p_Take (p o : Nat) (b : BB) (hI : b.Inv) (q : Int) : Spec Tryd.prog 66 [ptr p o 0, .int .i64 q]
 [.cells p o 71 (encP b.pool), .ro 0 0 64 tab64]
 (fun v H1 => v = .tuple #[.int .i64 (b.take q).1, errv 95 (b.take q).2.1] ∧ H1 = [.cells p o 71 (encP (b.take q).2.2.pool)]) := by
  refine Spec.go 79 [0, 1, 4, 5, 6, 7, 13, 26, 30, 53] [] Tryd.func66 rfl rfl rfl ?_
  intro W
  refine sp 10 rfl ?_ ?_ <;> intro h1
  · skip
    refine XE.ret2 rfl rfl rfl (post_of .h1 rfl ?_)
    rw [BB.take_bound (by omega)]; exact ⟨rfl, rfl⟩
  · skip
    refine cd rfl ?_ ?_ <;> intro h2
    · skip
      refine XE.ret2 rfl rfl rfl (post_of .h1 rfl ?_)
      rw [BB.take_bound (by omega)]; exact ⟨rfl, rfl⟩
    · skip
      refine lp (σ := Int) (fun k => (7 - k).toNat) (fun k => (q ≤ k ∧ k ≤ 7) ∧ ∀ j : Int, q ≤ j → j < k → b.mask j = 0) (fun k => [(6, .int .i64 k), (0, ptr p o 0), (1, .int .i64 q)]) (fun k => XM W (foot [.cells p o 71 (encP b.pool), .ro 0 0 64 tab64]) [.cells p o 71 (encP b.pool), .ro 0 0 64 tab64]) (q) ?_ (S3 rfl rfl rfl) (fun _ hw => XM.pick .h2 hw) ?_
      · skip
        exact ⟨by omega, fun j h1 h2 => by omega⟩
      intro k hk
      obtain ⟨hk, hkz⟩ := hk
      refine gC ?_
      refine sp 18 rfl ?_ ?_ <;> intro h3
      · skip
        refine sd (by omega) ?_
        refine ld .here (encP.ld_free_I _ _ (by omega)) ?_
        refine cd rfl ?_ ?_ <;> intro h4
        · skip
          have hz : ((b.mask k : Nat) : Int) = 0 := h4
          refine sd (by omega) ?_
          refine ag (k + 1) ?_ ?_ (S3 rfl rfl rfl) (fun _ hw => XM.pick .h2 hw)
          · skip
            (first | omega | (simp; done) | (simp; omega))
          · skip
            refine ⟨by omega, fun j h1 h2 => ?_⟩
            by_cases c : j = k
            · subst c; omega
            · exact hkz j h1 (by omega)
        · skip
          have hz : ¬ ((b.mask k : Nat) : Int) = 0 := h4
          refine cd rfl ?_ ?_ <;> intro h5
          · skip
            refine XE.ret2 rfl rfl rfl (post_of .h1 rfl ?_)
            rw [BB.take_full (by omega) (BB.pick_none fun j h1 h2 => hkz j h1 (by omega))]; exact ⟨rfl, rfl⟩
          · skip
            have hkm : ¬ b.mask k = 0 := by omega
            obtain ⟨t, ht, hl⟩ := low_exists hkm
            obtain ⟨hlow, ht64, hat⟩ := BB.low_some ht hl
            have hat := (BB.at_iff (by omega)).1 hat
            have hpk := BB.pick_some (b := b) (by omega) (k := k) ⟨hk.1, by omega⟩ hkz ht hl
            have hhm := BB.hide_mask (b := b) (k := k) (by omega) ht64 hat.1 hat.2
            refine sd (by omega) ?_
            refine ld .here (encP.ld_free_I _ _ (by omega)) ?_
            refine caR 0 (p_tz (b.mask k) t (BB.mask_lt _ _) ht hl ht64) (.cons (.there .here) .nil) rfl ?_
            rintro _ _ ⟨rfl, rfl⟩
            refine gO ?_
            refine rq [0, 1, 2, 3, 4, 5, 6, 7, 8, 9, 10, 11, 12] mixed (by kernel_rfl) ?_
            refine sd (by omega) ?_
            refine ld (.there .here) (encP.ld_free_I _ _ (by omega)) ?_
            refine XO.v (V.shl rfl rfl (by omega) _ (shl_u64 (by omega))) rfl (gO ?_)
            refine XO.v (V.bits rfl rfl rfl (BB.mask_lt _ _) (two_lt (by omega)) rfl) rfl (gO ?_)
            refine sd (by omega) ?_
            refine st (.there .here) (encP_free _ (b.hide t) _ (by omega) hhm) rfl ?_
            refine lp (σ := BB) (fun x => (x.ord t - (q + 1)).toNat) (fun x => x.Inv ∧ q + 1 ≤ x.ord t ∧ x.ord t ≤ k + 1 ∧ x.tk t = true ∧ BB.splits (x.ord t - (q + 1)).toNat x t = BB.splits (k - q).toNat (b.hide t) t) (fun x => [(6, .int .i64 (x.ord t - 1)), (0, ptr p o 0), (1, .int .i64 q), (7, .int .i64 (t : Int))]) (fun x => XM W (foot [.cells p o 71 (encP b.pool), .ro 0 0 64 tab64]) [.cells p o 71 (encP ⟨x, b.usedOf⟩)]) (b.hide t) ?_ (S4 (eqi (show k = b.ord t - 1 by omega)) rfl rfl rfl) (fun _ hw => XM.pick (.cons (.there .here) .nil) hw) ?_
            · skip
              exact ⟨hI.hide (by omega), by show q + 1 ≤ b.ord t; omega, by show b.ord t ≤ k + 1; omega, fset_eq _ _ _, by rw [show (b.hide t).ord t = k + 1 from hat.1]; congr 1; omega⟩
            intro x hx
            obtain ⟨hx, x1, x2, x3, x4⟩ := hx
            refine gC ?_
            refine cd rfl ?_ ?_ <;> intro h6
            · skip
              obtain ⟨s1, s2, s3, s4⟩ := hx.split (a := t) (by omega)
              have hsm := hx.split_mask (a := t) (by omega) x3
              have hpp := p2_pos (x.ord t - 2)
              have hrx := hx.rng t
              refine oV ?_
              refine XO.v (V.sub rfl rfl (x.ord t - 2) (by rw [show x.ord t - 1 - 1 = x.ord t - 2 from by omega]; exact IntWalk.i64_in _ (by omega))) rfl (gO ?_)
              refine rq [0, 1, 2, 3, 4, 5, 6, 7, 8, 9, 10, 11, 12, 13, 14, 15] mixed (by kernel_rfl) ?_
              refine sd (by omega) ?_
              refine ld .here (encP.ld_free_I _ _ (by omega)) ?_
              refine XO.v (V.shl rfl rfl (by omega) _ (shl_i64 (by omega))) rfl (gO ?_)
              refine sd (by omega) ?_
              refine XO.v (V.shl rfl rfl (by omega) _ (shl_u64 (by omega))) rfl (gO ?_)
              refine XO.v (V.bits rfl rfl rfl (BB.mask_lt _ _) (two_lt (by omega)) rfl) rfl (gO ?_)
              refine sd (by omega) ?_
              refine st .here (encP_free _ (x.split t) _ (by omega) hsm) rfl ?_
              refine ag (x.split t) ?_ ?_ (S4 (eqi (by rw [s4]; omega)) rfl rfl rfl) (fun _ hw => XM.pick .h1 hw)
              · skip
                (show ((x.split t).ord t - (q + 1)).toNat < (x.ord t - (q + 1)).toNat; rw [s4]; omega)
              · skip
                refine ⟨s1, by rw [s4]; omega, by rw [s4]; omega, x3, ?_⟩
                rw [← x4, s4, show (x.ord t - (q + 1)).toNat = (x.ord t - 1 - (q + 1)).toNat + 1 from by omega]
                rfl
            · skip
              have hn : (x.ord t - (q + 1)).toNat = 0 := by omega
              rw [hn] at x4
              have x5 : x = BB.splits ((k.toNat : Int) - q).toNat (b.hide t) t := by rw [show ((k.toNat : Int) - q).toNat = (k - q).toNat from by omega]; exact x4
              have hfin := hI.take_pool (o := q) (by omega) hpk
              rw [← x5] at hfin
              refine sd (by omega) ?_
              refine sd (by omega) ?_
              refine st .here (encP.st_used_I _ _ (by omega) _) rfl ?_
              refine XE.ret2 rfl rfl rfl (post_of .h1 rfl ?_)
              rw [← hfin, BB.take_ok (by omega) hpk]; exact ⟨rfl, rfl⟩
      · skip
        refine cd rfl ?_ ?_ <;> intro h7
        · skip
          refine XE.ret2 rfl rfl rfl (post_of .h1 rfl ?_)
          rw [BB.take_full (by omega) (BB.pick_none fun j h1 h2 => hkz j h1 (by omega))]; exact ⟨rfl, rfl⟩
        · skip
          have hkm : ¬ b.mask k = 0 := by omega
          obtain ⟨t, ht, hl⟩ := low_exists hkm
          obtain ⟨hlow, ht64, hat⟩ := BB.low_some ht hl
          have hat := (BB.at_iff (by omega)).1 hat
          have hpk := BB.pick_some (b := b) (by omega) (k := k) ⟨hk.1, by omega⟩ hkz ht hl
          have hhm := BB.hide_mask (b := b) (k := k) (by omega) ht64 hat.1 hat.2
          refine sd (by omega) ?_
          refine ld .here (encP.ld_free_I _ _ (by omega)) ?_
          refine caR 0 (p_tz (b.mask k) t (BB.mask_lt _ _) ht hl ht64) (.cons (.there .here) .nil) rfl ?_
          rintro _ _ ⟨rfl, rfl⟩
          refine gO ?_
          refine rq [0, 1, 2, 3, 4, 5, 6, 7, 8, 9, 10, 11, 12] mixed (by kernel_rfl) ?_
          refine sd (by omega) ?_
          refine ld (.there .here) (encP.ld_free_I _ _ (by omega)) ?_
          refine XO.v (V.shl rfl rfl (by omega) _ (shl_u64 (by omega))) rfl (gO ?_)
          refine XO.v (V.bits rfl rfl rfl (BB.mask_lt _ _) (two_lt (by omega)) rfl) rfl (gO ?_)
          refine sd (by omega) ?_
          refine st (.there .here) (encP_free _ (b.hide t) _ (by omega) hhm) rfl ?_
          refine lp (σ := BB) (fun x => (x.ord t - (q + 1)).toNat) (fun x => x.Inv ∧ q + 1 ≤ x.ord t ∧ x.ord t ≤ k + 1 ∧ x.tk t = true ∧ BB.splits (x.ord t - (q + 1)).toNat x t = BB.splits (k - q).toNat (b.hide t) t) (fun x => [(6, .int .i64 (x.ord t - 1)), (0, ptr p o 0), (1, .int .i64 q), (7, .int .i64 (t : Int))]) (fun x => XM W (foot [.cells p o 71 (encP b.pool), .ro 0 0 64 tab64]) [.cells p o 71 (encP ⟨x, b.usedOf⟩)]) (b.hide t) ?_ (S4 (eqi (show k = b.ord t - 1 by omega)) rfl rfl rfl) (fun _ hw => XM.pick (.cons (.there .here) .nil) hw) ?_
          · skip
            exact ⟨hI.hide (by omega), by show q + 1 ≤ b.ord t; omega, by show b.ord t ≤ k + 1; omega, fset_eq _ _ _, by rw [show (b.hide t).ord t = k + 1 from hat.1]; congr 1; omega⟩
          intro x hx
          obtain ⟨hx, x1, x2, x3, x4⟩ := hx
          refine gC ?_
          refine cd rfl ?_ ?_ <;> intro h8
          · skip
            obtain ⟨s1, s2, s3, s4⟩ := hx.split (a := t) (by omega)
            have hsm := hx.split_mask (a := t) (by omega) x3
            have hpp := p2_pos (x.ord t - 2)
            have hrx := hx.rng t
            refine oV ?_
            refine XO.v (V.sub rfl rfl (x.ord t - 2) (by rw [show x.ord t - 1 - 1 = x.ord t - 2 from by omega]; exact IntWalk.i64_in _ (by omega))) rfl (gO ?_)
            refine rq [0, 1, 2, 3, 4, 5, 6, 7, 8, 9, 10, 11, 12, 13, 14, 15] mixed (by kernel_rfl) ?_
            refine sd (by omega) ?_
            refine ld .here (encP.ld_free_I _ _ (by omega)) ?_
            refine XO.v (V.shl rfl rfl (by omega) _ (shl_i64 (by omega))) rfl (gO ?_)
            refine sd (by omega) ?_
            refine XO.v (V.shl rfl rfl (by omega) _ (shl_u64 (by omega))) rfl (gO ?_)
            refine XO.v (V.bits rfl rfl rfl (BB.mask_lt _ _) (two_lt (by omega)) rfl) rfl (gO ?_)
            refine sd (by omega) ?_
            refine st .here (encP_free _ (x.split t) _ (by omega) hsm) rfl ?_
            refine ag (x.split t) ?_ ?_ (S4 (eqi (by rw [s4]; omega)) rfl rfl rfl) (fun _ hw => XM.pick .h1 hw)
            · skip
              (show ((x.split t).ord t - (q + 1)).toNat < (x.ord t - (q + 1)).toNat; rw [s4]; omega)
            · skip
              refine ⟨s1, by rw [s4]; omega, by rw [s4]; omega, x3, ?_⟩
              rw [← x4, s4, show (x.ord t - (q + 1)).toNat = (x.ord t - 1 - (q + 1)).toNat + 1 from by omega]
              rfl
          · skip
            have hn : (x.ord t - (q + 1)).toNat = 0 := by omega
            rw [hn] at x4
            have x5 : x = BB.splits ((k.toNat : Int) - q).toNat (b.hide t) t := by rw [show ((k.toNat : Int) - q).toNat = (k - q).toNat from by omega]; exact x4
            have hfin := hI.take_pool (o := q) (by omega) hpk
            rw [← x5] at hfin
            refine sd (by omega) ?_
            refine sd (by omega) ?_
            refine st .here (encP.st_used_I _ _ (by omega) _) rfl ?_
            refine XE.ret2 rfl rfl rfl (post_of .h1 rfl ?_)
            rw [← hfin, BB.take_ok (by omega) hpk]; exact ⟨rfl, rfl⟩
theorem p_Give (p o : Nat) (b : BB) (hI : b.Inv) (a : Int) : Spec Tryd.prog 60 [ptr p o 0, .int .i64 a]
 [.cells p o 71 (encP b.pool)]
 (fun v H1 => v = errv 95 (b.give a).1 ∧ H1 = [.cells p o 71 (encP (b.give a).2.pool)]) := by
  refine Spec.go 80 [0, 1, 4, 5, 6, 12, 20, 35, 49] [] Tryd.func60 rfl rfl rfl ?_
  intro W
  refine sp 9 rfl ?_ ?_ <;> intro h1
  · skip
    refine XE.ret1 rfl rfl (post_of .h1 rfl ?_)
    have his := BB.is_bound (b := b) (a := a) (by omega)
    rw [BB.give_err (by omega), his]; exact ⟨rfl, rfl⟩
  · skip
    refine cd rfl ?_ ?_ <;> intro h2
    · skip
      refine XE.ret1 rfl rfl (post_of .h1 rfl ?_)
      have his := BB.is_bound (b := b) (a := a) (by omega)
      rw [BB.give_err (by omega), his]; exact ⟨rfl, rfl⟩
    · skip
      refine sd (by omega) ?_
      refine ld .here (encP.ld_used_I _ _ (by omega)) ?_
      refine cd rfl ?_ ?_ <;> intro h3
      · skip
        have hu : b.usedOf a = 0 := h3
        have his : b.is a = 2 := BB.is_none (by omega) ((hI.used_zero a).1 hu)
        refine XE.ret1 rfl rfl (post_of .h1 rfl ?_)
        rw [BB.give_err (by omega), his]; exact ⟨rfl, rfl⟩
      · skip
        have hu : ¬ b.usedOf a = 0 := h3
        obtain ⟨ht, ho⟩ := (hI.used_zero a).2 hu
        have hpos := hI.tk a ht
        have hrg := hI.rng a
        have his : b.is a = 0 := BB.is_ok (by omega) ht
        refine sd (by omega) ?_
        refine ld .here (encP.ld_used_I _ _ (by omega)) ?_
        refine oV ?_
        refine XO.v (V.sub rfl rfl (b.ord a - 1) (by rw [show b.pool.u a = b.ord a from ho]; exact IntWalk.i64_in _ (by omega))) rfl (gO ?_)
        refine sd (by omega) ?_
        refine st .here (encP.st_used_I _ _ (by omega) _) rfl ?_
        refine lp (σ := BB × Int) (fun x => (7 - x.1.ord x.2).toNat) (fun x => x.1.Inv ∧ 0 < x.1.ord x.2 ∧ x.1.tk x.2 = false ∧ BB.joins (7 - x.1.ord x.2).toNat x.1 x.2 = BB.joins (7 - b.ord a).toNat (b.bare a) a) (fun x => [(1, .int .i64 x.2), (5, .int .i64 (x.1.ord x.2 - 1)), (0, ptr p o 0)]) (fun x => XM W (foot [.cells p o 71 (encP b.pool)]) [.cells p o 71 (encP ⟨x.1.hide x.2, (fset b.usedOf a 0)⟩)]) ((b.bare a, a)) ?_ (S3 rfl rfl rfl) (fun w hw2 => by
            have e := BB.bare_hide (b := b) ht
            show XM _ _ (.cells p o 71 (encP ⟨(b.bare a).hide a, fset b.usedOf a 0⟩) :: _) w
            rw [e]; exact XM.pick .h1 hw2) ?_
        · skip
          exact ⟨hI.bare a, hpos, fset_eq _ _ _, rfl⟩
        intro x hx
        obtain ⟨hx, x1, x2, x3⟩ := hx
        have hxr := hx.rng x.2
        have hxi := hx.in_rng x1
        refine gC ?_
        refine cd rfl ?_ ?_ <;> intro h4
        · skip
          obtain ⟨r1, r2, r3⟩ := hx.buddy_rng x1 (by omega)
          obtain ⟨q1, q2⟩ := half_xor (a := x.2) (k := x.1.ord x.2 - 1) hxi (by omega)
          have hjt := hx.join_test x1 (by omega)
          have hb := bit_of_shr ((x.1.hide x.2).mask (x.1.ord x.2 - 1)) (x.1.buddy x.2).toNat
          rw [hjt] at hb
          have hp2 := p2_lt (k := x.1.ord x.2 - 1) (by omega)
          refine XO.v (V.shl rfl rfl (by omega) _ (shl_i64 (by omega))) rfl (gO ?_)
          refine XO.v (V.bitsZ rfl rfl (z := (x.1.buddy x.2)) (by omega) (by omega) (by omega) rfl (by rw [p2_toNat]; exact q1)) rfl (gO ?_)
          refine sd (by omega) ?_
          refine ld .here (encP.ld_free_I _ _ (by omega)) ?_
          refine XO.v (V.shr rfl rfl (by omega) _ (shr_u64 (by omega) _)) rfl (gO ?_)
          refine XO.v (V.bits rfl rfl rfl (Nat.lt_of_le_of_lt (shr_le _ _) (BB.mask_lt _ _)) (by decide) rfl) rfl (gO ?_)
          refine cd rfl ?_ ?_ <;> intro h5
          · skip
            have h9 : (((((x.1.hide x.2).mask (x.1.ord x.2 - 1)) >>> (x.1.buddy x.2).toNat) &&& 1 : Nat) : Int) = 0 := h5
            have hc : ¬ x.1.canJoin x.2 := fun q => by
              simp only [q, decide_true, if_true] at hb
              omega
            have hx9 : BB.joins (7 - b.ord a).toNat (b.bare a) a = x.1 := by rw [← x3]; exact BB.joins_stop _ hc
            have hfin := hI.give_pool his
            rw [hx9] at hfin
            refine rq [0, 1, 2, 3, 4, 5, 6, 7, 8, 9, 10, 11, 12] mixed (by kernel_rfl) ?_
            refine sd (by omega) ?_
            refine ld .here (encP.ld_free_I _ _ (by omega)) ?_
            refine XO.v (V.shl rfl rfl (by omega) _ (shl_u64 (by omega))) rfl (gO ?_)
            refine XO.v (V.bits rfl rfl rfl (BB.mask_lt _ _) (two_lt (by omega)) rfl) rfl (gO ?_)
            refine sd (by omega) ?_
            refine st .here (encP_free _ x.1 _ (by omega) (BB.bare_mask x1 hxi x2)) rfl ?_
            refine XE.ret1 rfl rfl (post_of .h1 rfl ?_)
            rw [← hfin, BB.give_ok his]; exact ⟨rfl, rfl⟩
          · skip
            have h9 : ¬ (((((x.1.hide x.2).mask (x.1.ord x.2 - 1)) >>> (x.1.buddy x.2).toNat) &&& 1 : Nat) : Int) = 0 := h5
            have hc : x.1.canJoin x.2 := by
              apply Classical.byContradiction
              intro q
              simp only [q, decide_false, Bool.false_eq_true, if_false] at hb
              omega
            obtain ⟨j1, _, _, _, j5, j6⟩ := hx.join1 x1 x2 hc
            refine rq [0, 1, 2, 3, 4, 5, 6, 7, 8, 9, 10, 11, 12] mixed (by kernel_rfl) ?_
            refine sd (by omega) ?_
            refine ld .here (encP.ld_free_I _ _ (by omega)) ?_
            refine XO.v (V.shl rfl rfl (by omega) _ (shl_u64 (by omega))) rfl (gO ?_)
            refine XO.v (V.bits rfl rfl rfl (BB.mask_lt _ _) (two_lt (by omega)) rfl) rfl (gO ?_)
            refine sd (by omega) ?_
            refine st .here (encP_free _ ((x.1.join1 x.2).hide (min x.2 (x.1.buddy x.2))) _ (by omega) (hx.join_mask x1 hc)) rfl ?_
            refine XO.v (V.shl rfl rfl (by omega) _ (shl_i64 (by omega))) rfl (gO ?_)
            refine XO.v (V.bitsZ rfl rfl (z := (min x.2 (x.1.buddy x.2))) (by omega) (by omega) (by omega) rfl (by rw [p2_toNat]; exact q2)) rfl (gO ?_)
            refine sd (by omega) ?_
            refine ag ((x.1.join1 x.2, (min x.2 (x.1.buddy x.2)))) ?_ ?_ (S3 rfl (eqi (by show x.1.ord x.2 - 1 + 1 = (x.1.join1 x.2).ord (min x.2 (x.1.buddy x.2)) - 1; rw [j5]; omega)) rfl) (fun _ hw => XM.pick .h1 hw)
            · skip
              (show (7 - (x.1.join1 x.2).ord (min x.2 (x.1.buddy x.2))).toNat < (7 - x.1.ord x.2).toNat; rw [j5]; omega)
            · skip
              refine ⟨j1, by show 0 < (x.1.join1 x.2).ord (min x.2 (x.1.buddy x.2)); rw [j5]; omega, j6, ?_⟩
              show BB.joins (7 - (x.1.join1 x.2).ord (min x.2 (x.1.buddy x.2))).toNat (x.1.join1 x.2) (min x.2 (x.1.buddy x.2)) = _
              rw [← x3, j5, show (7 - x.1.ord x.2).toNat = (7 - (x.1.ord x.2 + 1)).toNat + 1 from by omega, BB.joins, if_pos hc]
        · skip
          have hx9 : BB.joins (7 - b.ord a).toNat (b.bare a) a = x.1 := by rw [← x3, show (7 - x.1.ord x.2).toNat = 0 from by omega]; rfl
          have hfin := hI.give_pool his
          rw [hx9] at hfin
          refine rq [0, 1, 2, 3, 4, 5, 6, 7, 8, 9, 10, 11, 12] mixed (by kernel_rfl) ?_
          refine sd (by omega) ?_
          refine ld .here (encP.ld_free_I _ _ (by omega)) ?_
          refine XO.v (V.shl rfl rfl (by omega) _ (shl_u64 (by omega))) rfl (gO ?_)
          refine XO.v (V.bits rfl rfl rfl (BB.mask_lt _ _) (two_lt (by omega)) rfl) rfl (gO ?_)
          refine sd (by omega) ?_
          refine st .here (encP_free _ x.1 _ (by omega) (BB.bare_mask x1 hxi x2)) rfl ?_
          refine XE.ret1 rfl rfl (post_of .h1 rfl ?_)
          rw [← hfin, BB.give_ok his]; exact ⟨rfl, rfl⟩


theorem p_Left (p o : Nat) (b : BB) (hI : b.Inv) : Spec Tryd.prog 37 [ptr p o 0]
 [.cells p o 71 (encP b.pool)]
 (fun v H1 => v = .int .i64 b.left ∧ H1 = [.cells p o 71 (encP b.pool)]) := by
  refine Spec.go 22 [0, 2, 3, 4, 5, 9, 10, 11] [] Tryd.func37 rfl rfl rfl ?_
  intro W
  refine ldA .here (encP_masks _) ?_
  refine lp (σ := Int × Int) (fun x => (7 - x.1).toNat) (fun x => (0 ≤ x.1 ∧ x.1 ≤ 7) ∧ x.2 = sumN (fun k => cntN (b.at_ k) 64 * p2 k) x.1.toNat ∧ 0 ≤ x.2 ∧ x.2 ≤ 4096 * x.1) (fun x => [(3, .int .i64 x.2), (10, .int .i64 x.1), (9, .agg (arrU b.mask 7))]) (fun x => XM W (foot [.cells p o 71 (encP b.pool)]) [.cells p o 71 (encP b.pool)]) ((0, 0)) ?_ (S3 rfl rfl rfl) (fun _ hw => XM.pick .h1 hw) ?_
  · skip
    exact ⟨by simp, rfl, by simp, by simp⟩
  intro x hx
  obtain ⟨hx, hs, hs0, hs1⟩ := hx
  have hcn := cntN_le (b.at_ x.1) 64
  have hcp := fun h => cnt_p2 (c := cntN (b.at_ x.1) 64) (n := x.1) hcn h
  refine gC ?_
  refine cd rfl ?_ ?_ <;> intro h1
  · skip
    have hcp := hcp (by omega)
    refine XO.v (V.indexAgg rfl rfl Tryd.underlying102 sz_38_1 sc_38 (by omega) (arrU_at (by omega))) rfl (gO ?_)
    refine ca (p_ones (b.at_ x.1) (b.mask x.1) (BB.mask_lt _ _) (fun j hj => by rw [BB.mask_bit]; simp [hj])) .nil ?_
    rintro _ _ ⟨rfl, rfl⟩
    refine gO ?_
    refine XO.v (V.shl rfl rfl (by omega) _ (shl_cnt (by omega) (by omega))) rfl (gO ?_)
    refine sd (by omega) ?_
    refine sd (by omega) ?_
    refine ag ((x.1 + 1, x.2 + cntN (b.at_ x.1) 64 * p2 x.1)) ?_ ?_ (S3 rfl rfl rfl) (fun _ hw => XM.pick .h1 hw)
    · skip
      (first | omega | (simp; done) | (simp; omega))
    · skip
      refine ⟨by simp; omega, ?_, by simp; omega, by simp; omega⟩
      show x.2 + _ = sumN _ (x.1 + 1).toNat
      rw [show (x.1 + 1).toNat = x.1.toNat + 1 from by omega, sumN, ← hs, show ((x.1.toNat : Nat) : Int) = x.1 from by omega]
  · skip
    refine XE.ret1 rfl rfl (post_of .h1 rfl ?_)
    obtain h7 : x.1 = 7 := by omega
    rw [h7] at hs
    exact ⟨congrArg (Value.int .i64) (by rw [hs]; exact hI.left_eq), rfl⟩
end Go.X
