import Derived.Test.YtojlnbjpiccliaaDoorBM
import Derived.Test.YtojlnbjpiccliaaDoorProg
import Derived.KernelRfl
namespace Go.X
open Go Go.Proofs
theorem mixed : Tryd.prog.follows .mixedOrders = true := by kernel_rfl
theorem ag_48 : aggT Tryd.prog 48 = true := by kernel_rfl
theorem ar_44 : arrOf Tryd.prog 44 = some (64, 1) := by kernel_rfl
theorem ar_48 : arrOf Tryd.prog 48 = some (7, 1) := by kernel_rfl
theorem ar_60 : arrOf Tryd.prog 60 = some (64, 1) := by kernel_rfl
theorem bs1_45 (z : Int) : ∀ w, (Instr.buildSlice 45 1 #[(0, .int .i64 z)]).run Tryd.prog w = .ok (.slice (some ⟨w.heap.size, 0, none⟩) 1 1) (w.alloc (.cells #[.int .i64 z] 3)) := fun w => by kernel_rfl
theorem cl_18 : callable Tryd.prog 18 = true := by kernel_rfl
theorem cl_24 : callable Tryd.prog 24 = true := by kernel_rfl
theorem fo_50_0 : fieldOff Tryd.prog 50 0 = some 0 := by kernel_rfl
theorem fo_50_1 : fieldOff Tryd.prog 50 1 = some 7 := by kernel_rfl
theorem rt_3_1 : rowT Tryd.prog 3 1 = true := by kernel_rfl
theorem sc_29 : scal Tryd.prog 29 = true := by kernel_rfl
theorem sc_3 : scal Tryd.prog 3 = true := by kernel_rfl
theorem sc_5 : scal Tryd.prog 5 = true := by kernel_rfl
theorem sz_29_1 : szOf Tryd.prog 29 = some 1 := by kernel_rfl
theorem sz_3_1 : szOf Tryd.prog 3 = some 1 := by kernel_rfl
theorem sz_48_7 : szOf Tryd.prog 48 = some 7 := by kernel_rfl
set_option maxRecDepth 10000 in
set_option maxHeartbeats 400000 in
theorem p_tz (x t : Nat) (hx : x < 18446744073709551616) (ht : x.testBit t = true) (hl : ∀ j, j < t → x.testBit j = false) (ht64 : t < 64) : Spec Tryd.prog 18 [.int .u64 (x : Int)]
    [.ro 0 0 64 tab64]
    (fun v H1 => v = .int .i64 (t : Int) ∧ H1 = []) := by
  have hx0 : 0 < x := by
    rcases Nat.eq_zero_or_pos x with q | q
    · rw [q] at ht; simp at ht
    · exact q
  obtain ⟨z1, z2, z3, z4, z5⟩ := tz_all t ht64
  refine Spec.intro Tryd.func18 rfl rfl ?_
  intro W
  refine XC.seq ?_
  refine XC.region ?_
  refine XO.v (V.assign rfl) rfl ?_
  refine XO.nil ?_
  refine XE.next ?_
  refine XC.keep [(0, _)] (Sub.cons rfl (Sub.nil _)) ?_
  refine XC.seq ?_
  refine XC.seq ?_
  refine XC.region ?_
  refine XO.v (V.move rfl) rfl ?_
  refine XO.v (V.cmp rfl rfl rfl) rfl ?_
  refine XO.nil ?_
  refine XE.next ?_
  refine XC.keep [(0, _), (4, _)] (Sub.cons rfl (Sub.cons rfl (Sub.nil _))) ?_
  refine XC.condFP rfl (by simp; omega) ?_
  refine XC.skip ?_
  refine XE.next ?_
  refine XC.keep [(0, _)] (Sub.cons rfl (Sub.nil _)) ?_
  refine XC.seq ?_
  refine XC.region ?_
  refine XO.v (V.move rfl) rfl ?_
  refine XO.v (V.move rfl) rfl ?_
  refine XO.v (V.neg rfl _ (neg_u64 ⟨hx0, hx⟩)) rfl ?_
  refine XO.v (V.bits (r := 2 ^ t) rfl rfl rfl hx (Nat.sub_lt (by decide) hx0) (congrArg some (low_bit (w := 64) ht hl hx ht64))) rfl ?_
  refine XO.v (V.mul rfl rfl _ z1) rfl ?_
  refine XO.v (V.shr rfl rfl (by omega) _ z2) rfl ?_
  refine XO.v (V.indexGl rfl rfl ar_60 (by omega)) rfl ?_
  refine XO.v (V.loadRo rfl (inXM .here) (tz_tab ht64) sc_5) rfl ?_
  refine XO.v (V.convInt rfl Tryd.underlying5 Tryd.underlying3 _ z4) rfl ?_
  refine XO.v (V.assign rfl) rfl ?_
  refine XO.nil ?_
  refine XE.next ?_
  refine XC.keep [(2, _)] (Sub.cons rfl (Sub.nil _)) ?_
  refine XC.ret ?_
  refine XE.ret1 rfl rfl (post_of .nil rfl ?_)
  exact ⟨rfl, rfl⟩
set_option maxRecDepth 10000 in
set_option maxHeartbeats 400000 in
theorem p_ones (f : Int → Bool) (x : Nat) (hx : x < 18446744073709551616) (hf : ∀ j, j < 64 → x.testBit j = f j) : Spec Tryd.prog 24 [.int .u64 (x : Int)]
    []
    (fun v H1 => v = .int .i64 (cntN f 64) ∧ H1 = []) := by
  have s2 := shr_le (pc2 (pc1 x)) 4
  have g2 := pc2_le (pc1 x)
  have g1 := pc1_le x
  have l3 := pc3_le (pc2 (pc1 x))
  have l4 : (pc4 (pc3 (pc2 (pc1 x)))) ≤ 2170205185142300190 := by have := shr_le (pc3 (pc2 (pc1 x))) 8; unfold pc4; omega
  have l5 : (pc5 (pc4 (pc3 (pc2 (pc1 x))))) ≤ 4340410370284600380 := by have := shr_le (pc4 (pc3 (pc2 (pc1 x)))) 16; unfold pc5; omega
  have l6 : (pc6 (pc5 (pc4 (pc3 (pc2 (pc1 x)))))) ≤ 8680820740569200760 := by have := shr_le (pc5 (pc4 (pc3 (pc2 (pc1 x))))) 32; unfold pc6; omega
  refine Spec.intro Tryd.func24 rfl rfl ?_
  intro W
  refine XC.seq ?_
  refine XC.region ?_
  refine XO.v (V.assign rfl) rfl ?_
  refine XO.nil ?_
  refine XE.next ?_
  refine XC.keep [(0, _)] (Sub.cons rfl (Sub.nil _)) ?_
  refine XC.seq ?_
  refine XC.region ?_
  refine XO.v (V.move rfl) rfl ?_
  refine XO.v (V.shr rfl rfl (by omega) ((x >>> 1 : Nat) : Int) (shr_u64 (n := 1) (by omega) _)) rfl ?_
  refine XO.v (V.bits (r := (x >>> 1) &&& 6148914691236517205) rfl rfl rfl (by first | assumption | exact Nat.lt_of_le_of_lt (shr_le _ _) (by assumption) | (show _ < 18446744073709551616; omega)) (by decide) rfl) rfl ?_
  refine XO.v (V.move rfl) rfl ?_
  refine XO.v (V.bits (r := x &&& 6148914691236517205) rfl rfl rfl (by first | assumption | exact Nat.lt_of_le_of_lt (shr_le _ _) (by assumption) | (show _ < 18446744073709551616; omega)) (by decide) rfl) rfl ?_
  refine XO.v (V.add rfl rfl (((pc1 x) : Nat) : Int) (by rw [← Int.natCast_add]; exact wrap_nat rfl (Nat.lt_of_le_of_lt (pc1_le _) (by decide)))) rfl ?_
  refine XO.v (V.assign rfl) rfl ?_
  refine XO.nil ?_
  refine XE.next ?_
  refine XC.keep [(0, _)] (Sub.cons rfl (Sub.nil _)) ?_
  refine XC.seq ?_
  refine XC.region ?_
  refine XO.v (V.move rfl) rfl ?_
  refine XO.v (V.shr rfl rfl (by omega) (((pc1 x) >>> 2 : Nat) : Int) (shr_u64 (n := 2) (by omega) _)) rfl ?_
  refine XO.v (V.bits (r := ((pc1 x) >>> 2) &&& 3689348814741910323) rfl rfl rfl (by first | assumption | exact Nat.lt_of_le_of_lt (shr_le _ _) (by assumption) | (show _ < 18446744073709551616; omega)) (by decide) rfl) rfl ?_
  refine XO.v (V.move rfl) rfl ?_
  refine XO.v (V.bits (r := (pc1 x) &&& 3689348814741910323) rfl rfl rfl (by first | assumption | exact Nat.lt_of_le_of_lt (shr_le _ _) (by assumption) | (show _ < 18446744073709551616; omega)) (by decide) rfl) rfl ?_
  refine XO.v (V.add rfl rfl (((pc2 (pc1 x)) : Nat) : Int) (by rw [← Int.natCast_add]; exact wrap_nat rfl (Nat.lt_of_le_of_lt (pc2_le _) (by decide)))) rfl ?_
  refine XO.v (V.assign rfl) rfl ?_
  refine XO.nil ?_
  refine XE.next ?_
  refine XC.keep [(0, _)] (Sub.cons rfl (Sub.nil _)) ?_
  refine XC.seq ?_
  refine XC.region ?_
  refine XO.v (V.move rfl) rfl ?_
  refine XO.v (V.shr rfl rfl (by omega) (((pc2 (pc1 x)) >>> 4 : Nat) : Int) (shr_u64 (n := 4) (by omega) _)) rfl ?_
  refine XO.v (V.move rfl) rfl ?_
  refine XO.v (V.add rfl rfl (((pc2 (pc1 x)) >>> 4 + (pc2 (pc1 x)) : Nat) : Int) (by rw [← Int.natCast_add]; exact wrap_nat rfl (show _ < 18446744073709551616 by omega))) rfl ?_
  refine XO.v (V.bits (r := (pc3 (pc2 (pc1 x)))) rfl rfl rfl (show _ < 18446744073709551616 by omega) (by decide) rfl) rfl ?_
  refine XO.v (V.assign rfl) rfl ?_
  refine XO.nil ?_
  refine XE.next ?_
  refine XC.keep [(0, _)] (Sub.cons rfl (Sub.nil _)) ?_
  refine XC.seq ?_
  refine XC.region ?_
  refine XO.v (V.move rfl) rfl ?_
  refine XO.v (V.move rfl) rfl ?_
  refine XO.v (V.shr rfl rfl (by omega) (((pc3 (pc2 (pc1 x))) >>> 8 : Nat) : Int) (shr_u64 (n := 8) (by omega) _)) rfl ?_
  refine XO.v (V.add rfl rfl (((pc4 (pc3 (pc2 (pc1 x)))) : Nat) : Int) (by rw [← Int.natCast_add]; exact wrap_nat rfl (Nat.lt_of_le_of_lt l4 (by decide)))) rfl ?_
  refine XO.v (V.assign rfl) rfl ?_
  refine XO.nil ?_
  refine XE.next ?_
  refine XC.keep [(0, _)] (Sub.cons rfl (Sub.nil _)) ?_
  refine XC.seq ?_
  refine XC.region ?_
  refine XO.v (V.move rfl) rfl ?_
  refine XO.v (V.move rfl) rfl ?_
  refine XO.v (V.shr rfl rfl (by omega) (((pc4 (pc3 (pc2 (pc1 x)))) >>> 16 : Nat) : Int) (shr_u64 (n := 16) (by omega) _)) rfl ?_
  refine XO.v (V.add rfl rfl (((pc5 (pc4 (pc3 (pc2 (pc1 x))))) : Nat) : Int) (by rw [← Int.natCast_add]; exact wrap_nat rfl (Nat.lt_of_le_of_lt l5 (by decide)))) rfl ?_
  refine XO.v (V.assign rfl) rfl ?_
  refine XO.nil ?_
  refine XE.next ?_
  refine XC.keep [(0, _)] (Sub.cons rfl (Sub.nil _)) ?_
  refine XC.seq ?_
  refine XC.region ?_
  refine XO.v (V.move rfl) rfl ?_
  refine XO.v (V.move rfl) rfl ?_
  refine XO.v (V.shr rfl rfl (by omega) (((pc5 (pc4 (pc3 (pc2 (pc1 x))))) >>> 32 : Nat) : Int) (shr_u64 (n := 32) (by omega) _)) rfl ?_
  refine XO.v (V.add rfl rfl (((pc6 (pc5 (pc4 (pc3 (pc2 (pc1 x)))))) : Nat) : Int) (by rw [← Int.natCast_add]; exact wrap_nat rfl (Nat.lt_of_le_of_lt l6 (by decide)))) rfl ?_
  refine XO.v (V.assign rfl) rfl ?_
  refine XO.nil ?_
  refine XE.next ?_
  refine XC.keep [(0, _)] (Sub.cons rfl (Sub.nil _)) ?_
  refine XC.seq ?_
  refine XC.region ?_
  refine XO.v (V.move rfl) rfl ?_
  refine XO.v (V.convInt rfl Tryd.underlying29 Tryd.underlying3 (((pc6 (pc5 (pc4 (pc3 (pc2 (pc1 x)))))) : Nat) : Int) (IntWalk.i64_in _ (by omega))) rfl ?_
  refine XO.v (V.bitsI rfl rfl (r := (pc6 (pc5 (pc4 (pc3 (pc2 (pc1 x)))))) &&& 127) (by omega) (by decide) (Nat.lt_of_le_of_lt Nat.and_le_right (by decide)) rfl) rfl ?_
  refine XO.v (V.assign rfl) rfl ?_
  refine XO.nil ?_
  refine XE.next ?_
  refine XC.keep [(2, _)] (Sub.cons rfl (Sub.nil _)) ?_
  refine XC.ret ?_
  refine XE.ret1 rfl rfl (post_of .nil rfl ?_)
  exact ⟨congrArg (Value.int .i64) (popcount f x hf), rfl⟩
set_option maxRecDepth 10000 in
set_option maxHeartbeats 400000 in
theorem p_New  : Spec Tryd.prog 7 []
    []
    (fun v H1 => ∃ b, v = ptr b 0 0 ∧ H1 = [.cells b 0 71 (encP BB.init.pool)]) := by
  refine Spec.intro Tryd.func7 rfl rfl ?_
  intro W
  refine XC.seq ?_
  refine XC.region ?_
  refine XO.v (V.assign rfl) rfl ?_
  refine XO.nil ?_
  refine XE.next ?_
  refine XC.keep [] (Sub.nil _) ?_
  refine XC.seq ?_
  refine XC.region ?_
  refine XO.v (V.build (vs := #[]) rfl (v := .agg #[.int .u64 0, .int .u64 0, .int .u64 0, .int .u64 0, .int .u64 0, .int .u64 0, .int .u64 0, .int .i64 0, .int .i64 0, .int .i64 0, .int .i64 0, .int .i64 0, .int .i64 0, .int .i64 0, .int .i64 0, .int .i64 0, .int .i64 0, .int .i64 0, .int .i64 0, .int .i64 0, .int .i64 0, .int .i64 0, .int .i64 0, .int .i64 0, .int .i64 0, .int .i64 0, .int .i64 0, .int .i64 0, .int .i64 0, .int .i64 0, .int .i64 0, .int .i64 0, .int .i64 0, .int .i64 0, .int .i64 0, .int .i64 0, .int .i64 0, .int .i64 0, .int .i64 0, .int .i64 0, .int .i64 0, .int .i64 0, .int .i64 0, .int .i64 0, .int .i64 0, .int .i64 0, .int .i64 0, .int .i64 0, .int .i64 0, .int .i64 0, .int .i64 0, .int .i64 0, .int .i64 0, .int .i64 0, .int .i64 0, .int .i64 0, .int .i64 0, .int .i64 0, .int .i64 0, .int .i64 0, .int .i64 0, .int .i64 0, .int .i64 0, .int .i64 0, .int .i64 0, .int .i64 0, .int .i64 0, .int .i64 0, .int .i64 0, .int .i64 0, .int .i64 0]) (fun _ => by kernel_rfl)) rfl ?_
  refine XO.box (m := 71) (C := encP ⟨BB.void, fun _ => 0⟩) rfl rfl boxP_init rfl ?_
  intro bs
  refine XO.v (V.assign rfl) rfl ?_
  refine XO.nil ?_
  refine XE.next ?_
  refine XC.keep [(1, _)] (Sub.cons rfl (Sub.nil _)) ?_
  refine XC.seq ?_
  refine XC.region ?_
  refine XO.v (V.move rfl) rfl ?_
  refine XO.v (V.nilCheckP rfl) rfl ?_
  refine XO.v (V.fieldAddr rfl fo_50_0) rfl ?_
  refine XO.v (V.indexArr rfl rfl ar_48 (by omega)) rfl ?_
  refine XO.store rfl rfl .here (encP_free _ BB.init 6 (by omega) (v := 1) ⟨BB.init_mask.1.symm, fun m h0 h1 h2 => by rw [BB.init_mask.2 m h0 h1 h2]; exact (BB.void_mask m h0 h1).symm⟩) rfl sz_29_1 ?_
  refine XO.nil ?_
  refine XE.next ?_
  refine XC.keep [(1, _)] (Sub.cons rfl (Sub.nil _)) ?_
  refine XC.seq ?_
  refine XC.region ?_
  refine XO.v (V.move rfl) rfl ?_
  refine XO.v (V.assign rfl) rfl ?_
  refine XO.nil ?_
  refine XE.next ?_
  refine XC.keep [(0, _)] (Sub.cons rfl (Sub.nil _)) ?_
  refine XC.ret ?_
  refine XE.ret1 rfl rfl (post_of (.cons .here .nil) rfl ?_)
  exact ⟨_, rfl, rfl⟩
set_option maxRecDepth 10000 in
set_option maxHeartbeats 1000000 in
theorem p_Take (p o : Nat) (b : BB) (hI : b.Inv) (q : Int) : Spec Tryd.prog 9 [ptr p o 0, .int .i64 q]
    [.cells p o 71 (encP b.pool), .ro 0 0 64 tab64]
    (fun v H1 => v = .tuple #[.int .i64 (b.take q).1, errv 54 (b.take q).2.1] ∧ H1 = [.cells p o 71 (encP (b.take q).2.2.pool)]) := by
  refine Spec.intro Tryd.func9 rfl rfl ?_
  intro W
  refine XC.seq ?_
  refine XC.region ?_
  refine XO.v (V.assign rfl) rfl ?_
  refine XO.v (V.assign rfl) rfl ?_
  refine XO.nil ?_
  refine XE.next ?_
  refine XC.keep [(0, _), (1, _)] (Sub.cons rfl (Sub.cons rfl (Sub.nil _))) ?_
  refine XC.seq ?_
  refine XC.seq ?_
  refine XC.region ?_
  refine XO.v (V.move rfl) rfl ?_
  refine XO.v (V.cmp rfl rfl rfl) rfl ?_
  refine XO.v (V.move rfl) rfl ?_
  refine XO.splitP (d := 10) rfl (fun h1 => ?_) (fun h1 => ?_)
  · skip
    refine XO.guardSkip rfl rfl rfl rfl rfl ?_
    refine XO.guardSkip rfl rfl rfl rfl rfl ?_
    refine XO.v (V.pick rfl rfl rfl rfl) rfl ?_
    refine XO.nil ?_
    refine XE.next ?_
    refine XC.keep [(0, _), (1, _), (13, _)] (Sub.cons rfl (Sub.cons rfl (Sub.cons rfl (Sub.nil _)))) ?_
    refine XC.condT rfl rfl ?_
    refine XC.seq ?_
    refine XC.region ?_
    refine XO.v (V.makeIface rfl Tryd.underlying54 (by simp)) rfl ?_
    refine XO.v (V.assign rfl) rfl ?_
    refine XO.v (V.assign rfl) rfl ?_
    refine XO.nil ?_
    refine XE.next ?_
    refine XC.keep [(4, _), (5, _)] (Sub.cons rfl (Sub.cons rfl (Sub.nil _))) ?_
    refine XC.ret ?_
    refine XE.thenRet ?_
    refine XE.ret2 rfl rfl rfl (post_of (.cons .here .nil) rfl ?_)
    rw [BB.take_bound (by omega)]; exact ⟨rfl, rfl⟩
  · skip
    refine XO.guardRun rfl rfl rfl ?_
    refine XO.v (V.move rfl) rfl ?_
    refine XO.guardRun rfl rfl rfl ?_
    refine XO.v (V.cmp rfl rfl rfl) rfl ?_
    refine XO.v (V.pick rfl rfl rfl rfl) rfl ?_
    refine XO.nil ?_
    refine XE.next ?_
    refine XC.keep [(0, _), (1, _), (13, _)] (Sub.cons rfl (Sub.cons rfl (Sub.cons rfl (Sub.nil _)))) ?_
    refine XC.condP rfl (fun h2 => ?_) (fun h2 => ?_)
    · skip
      refine XC.seq ?_
      refine XC.region ?_
      refine XO.v (V.makeIface rfl Tryd.underlying54 (by simp)) rfl ?_
      refine XO.v (V.assign rfl) rfl ?_
      refine XO.v (V.assign rfl) rfl ?_
      refine XO.nil ?_
      refine XE.next ?_
      refine XC.keep [(4, _), (5, _)] (Sub.cons rfl (Sub.cons rfl (Sub.nil _))) ?_
      refine XC.ret ?_
      refine XE.thenRet ?_
      refine XE.ret2 rfl rfl rfl (post_of (.cons .here .nil) rfl ?_)
      rw [BB.take_bound (by omega)]; exact ⟨rfl, rfl⟩
    · skip
      refine XC.skip ?_
      refine XE.next ?_
      refine XC.keep [(0, _), (1, _)] (Sub.cons rfl (Sub.cons rfl (Sub.nil _))) ?_
      refine XC.seq ?_
      refine XC.region ?_
      refine XO.v (V.move rfl) rfl ?_
      refine XO.v (V.assign rfl) rfl ?_
      refine XO.nil ?_
      refine XE.next ?_
      refine XC.keep [(0, _), (1, _), (6, _)] (Sub.cons rfl (Sub.cons rfl (Sub.cons rfl (Sub.nil _)))) ?_
      refine XC.seq ?_
      refine XC.block ?_
      refine XC.loop (σ := Int) (fun k => (7 - k).toNat) (fun k => (q ≤ k ∧ k ≤ 7) ∧ ∀ j : Int, q ≤ j → j < k → b.mask j = 0) (fun k => [(6, .int .i64 k), (0, ptr p o 0), (1, .int .i64 q)]) (fun k => XM W (foot [.cells p o 71 (encP b.pool), .ro 0 0 64 tab64]) [.cells p o 71 (encP b.pool), .ro 0 0 64 tab64]) (q) ?_ (Sub.cons rfl (Sub.cons rfl (Sub.cons rfl (Sub.nil _)))) (fun _ hw => XM.pick (.cons .here (.cons .here .nil)) hw) ?_
      · skip
        exact ⟨by omega, fun j h1 h2 => by omega⟩
      intro k hk
      obtain ⟨hk, hkz⟩ := hk
      refine XC.seq ?_
      refine XC.seq ?_
      refine XC.region ?_
      refine XO.v (V.move rfl) rfl ?_
      refine XO.v (V.cmp rfl rfl rfl) rfl ?_
      refine XO.v (V.move rfl) rfl ?_
      refine XO.splitP (d := 18) rfl (fun h3 => ?_) (fun h3 => ?_)
      · skip
        refine XO.guardRun rfl rfl rfl ?_
        refine XO.v (V.move rfl) rfl ?_
        refine XO.guardRun rfl rfl rfl ?_
        refine XO.v (V.move rfl) rfl ?_
        refine XO.guardRun rfl rfl rfl ?_
        refine XO.v (V.nilCheckP rfl) rfl ?_
        refine XO.guardRun rfl rfl rfl ?_
        refine XO.v (V.fieldAddr rfl fo_50_0) rfl ?_
        refine XO.guardRun rfl rfl rfl ?_
        refine XO.v (V.indexArr rfl rfl ar_48 (by omega)) rfl ?_
        refine XO.guardRun rfl rfl rfl ?_
        refine XO.v (V.load rfl (inXM .here) (encP.ld_free_I _ _ (by omega)) sc_29) rfl ?_
        refine XO.guardRun rfl rfl rfl ?_
        refine XO.v (V.cmp rfl rfl rfl) rfl ?_
        refine XO.v (V.pick rfl rfl rfl rfl) rfl ?_
        refine XO.nil ?_
        refine XE.next ?_
        refine XC.keep [(0, _), (1, _), (6, _), (26, _)] (Sub.cons rfl (Sub.cons rfl (Sub.cons rfl (Sub.cons rfl (Sub.nil _))))) ?_
        refine XC.condP rfl (fun h4 => ?_) (fun h4 => ?_)
        · skip
          have hz : ((b.mask k : Nat) : Int) = 0 := h4
          refine XC.skip ?_
          refine XE.next ?_
          refine XC.keep [(0, _), (1, _), (6, _)] (Sub.cons rfl (Sub.cons rfl (Sub.cons rfl (Sub.nil _)))) ?_
          refine XC.block ?_
          refine XC.region ?_
          refine XO.v (V.move rfl) rfl ?_
          refine XO.v (V.add rfl rfl _ (IntWalk.i64_in _ (by omega))) rfl ?_
          refine XO.v (V.assign rfl) rfl ?_
          refine XO.nil ?_
          refine XE.blockNormal ?_
          refine XE.again (k + 1) ?_ ?_ (Sub.cons rfl (Sub.cons rfl (Sub.cons rfl (Sub.nil _)))) (fun _ hw => XM.pick (.cons .here (.cons .here .nil)) hw)
          · skip
            (first | omega | (simp; done) | (simp; omega))
          · skip
            refine ⟨by omega, fun j h1 h2 => ?_⟩
            by_cases c : j = k
            · subst c; omega
            · exact hkz j h1 (by omega)
        · skip
          have hz : ¬ ((b.mask k : Nat) : Int) = 0 := h4
          refine XC.exit ?_
          refine XE.thenExit ?_
          refine XE.thenExit ?_
          refine XE.blockExit ?_
          refine XE.next ?_
          refine XC.keep [(0, _), (1, _), (6, _)] (Sub.cons rfl (Sub.cons rfl (Sub.cons rfl (Sub.nil _)))) ?_
          refine XC.seq ?_
          refine XC.seq ?_
          refine XC.region ?_
          refine XO.v (V.move rfl) rfl ?_
          refine XO.v (V.cmp rfl rfl rfl) rfl ?_
          refine XO.nil ?_
          refine XE.next ?_
          refine XC.keep [(0, _), (1, _), (6, _), (30, _)] (Sub.cons rfl (Sub.cons rfl (Sub.cons rfl (Sub.cons rfl (Sub.nil _))))) ?_
          refine XC.condP rfl (fun h5 => ?_) (fun h5 => ?_)
          · skip
            refine XC.seq ?_
            refine XC.region ?_
            refine XO.v (V.makeIface rfl Tryd.underlying54 (by simp)) rfl ?_
            refine XO.v (V.assign rfl) rfl ?_
            refine XO.v (V.assign rfl) rfl ?_
            refine XO.nil ?_
            refine XE.next ?_
            refine XC.keep [(4, _), (5, _)] (Sub.cons rfl (Sub.cons rfl (Sub.nil _))) ?_
            refine XC.ret ?_
            refine XE.thenRet ?_
            refine XE.ret2 rfl rfl rfl (post_of (.cons .here .nil) rfl ?_)
            rw [BB.take_full (by omega) (BB.pick_none fun j h1 h2 => hkz j h1 (by omega))]; exact ⟨rfl, rfl⟩
          · skip
            have hkm : ¬ b.mask k = 0 := by omega
            obtain ⟨t, ht, hl⟩ := low_exists hkm
            obtain ⟨hlow, ht64, hat⟩ := BB.low_some ht hl
            have hat := (BB.at_iff (by omega)).1 hat
            have hpk := BB.pick_some (b := b) (by omega) (k := k) ⟨hk.1, by omega⟩ hkz ht hl
            have hhm := BB.hide_mask (b := b) (k := k) (by omega) ht64 hat.1 hat.2
            refine XC.skip ?_
            refine XE.next ?_
            refine XC.keep [(0, _), (1, _), (6, _)] (Sub.cons rfl (Sub.cons rfl (Sub.cons rfl (Sub.nil _)))) ?_
            refine XC.seq ?_
            refine XC.region ?_
            refine XO.v (V.move rfl) rfl ?_
            refine XO.v (V.move rfl) rfl ?_
            refine XO.v (V.nilCheckP rfl) rfl ?_
            refine XO.v (V.fieldAddr rfl fo_50_0) rfl ?_
            refine XO.v (V.indexArr rfl rfl ar_48 (by omega)) rfl ?_
            refine XO.v (V.load rfl (inXM .here) (encP.ld_free_I _ _ (by omega)) sc_29) rfl ?_
            refine XO.callR 0 rfl (p_tz (b.mask k) t (BB.mask_lt _ _) ht hl ht64) (.cons (.there .here) .nil) rfl cl_18 rfl ?_
            rintro _ _ ⟨rfl, rfl⟩
            refine XO.v (V.assign rfl) rfl ?_
            refine XO.nil ?_
            refine XE.next ?_
            refine XC.keep [(0, _), (1, _), (6, _), (7, _)] (Sub.cons rfl (Sub.cons rfl (Sub.cons rfl (Sub.cons rfl (Sub.nil _))))) ?_
            refine XC.seq ?_
            refine XC.regionQ mixed (f := 13) (l := #[false, false, false, false, false, false, false, false, false, false, false, false, false]) rfl rfl XM.drawn' ?_
            refine XQ.pv (i := 0) (l' := #[true, false, false, false, false, false, false, false, false, false, false, false, false]) rfl (by kernel_rfl) rfl (V.move rfl) rfl rfl ?_
            refine XQ.pv (i := 1) (l' := #[true, true, false, false, false, false, false, false, false, false, false, false, false]) rfl (by kernel_rfl) rfl (V.move rfl) rfl rfl ?_
            refine XQ.pv (i := 2) (l' := #[true, true, true, false, false, false, false, false, false, false, false, false, false]) rfl (by kernel_rfl) rfl (V.nilCheckP rfl) rfl rfl ?_
            refine XQ.pv (i := 3) (l' := #[true, true, true, true, false, false, false, false, false, false, false, false, false]) rfl (by kernel_rfl) rfl (V.fieldAddr rfl fo_50_0) rfl rfl ?_
            refine XQ.pv (i := 4) (l' := #[true, true, true, true, true, false, false, false, false, false, false, false, false]) rfl (by kernel_rfl) rfl (V.indexArr rfl rfl ar_48 (by omega)) rfl rfl ?_
            refine XQ.load (i := 5) (l' := #[true, true, true, true, true, true, false, false, false, false, false, false, false]) (.cells _ _ _ _) [12] rfl (by kernel_rfl) rfl (.there .here) (V.load rfl inEnt (encP.ld_free_I _ _ (by omega)) sc_29) rfl (by kernel_rfl) rfl ?_
            refine XQ.pv (i := 6) (l' := #[true, true, true, true, true, true, true, false, false, false, false, false, false]) rfl (by kernel_rfl) rfl (V.move rfl) rfl rfl ?_
            refine XQ.pv (i := 7) (l' := #[true, true, true, true, true, true, true, true, false, false, false, false, false]) rfl (by kernel_rfl) rfl (V.shl rfl rfl (by omega) _ (shl_u64 (by omega))) rfl rfl ?_
            refine XQ.pv (i := 8) (l' := #[true, true, true, true, true, true, true, true, true, false, false, false, false]) rfl (by kernel_rfl) rfl (V.bits rfl rfl rfl (BB.mask_lt _ _) (two_lt (by omega)) rfl) rfl rfl ?_
            refine XQ.pv (i := 9) (l' := #[true, true, true, true, true, true, true, true, true, true, false, false, false]) rfl (by kernel_rfl) rfl (V.nilCheckP rfl) rfl rfl ?_
            refine XQ.pv (i := 10) (l' := #[true, true, true, true, true, true, true, true, true, true, true, false, false]) rfl (by kernel_rfl) rfl (V.fieldAddr rfl fo_50_0) rfl rfl ?_
            refine XQ.pv (i := 11) (l' := #[true, true, true, true, true, true, true, true, true, true, true, true, false]) rfl (by kernel_rfl) rfl (V.indexArr rfl rfl ar_48 (by omega)) rfl rfl ?_
            refine XQ.store (i := 12) (l' := #[true, true, true, true, true, true, true, true, true, true, true, true, true]) rfl (by kernel_rfl) rfl rfl rfl (.there .here) (encP_free _ (b.hide t) _ (by omega) hhm) rfl sz_29_1 (fun _ hw' => ⟨fun hs => (hs 12 (by simp) rfl).elim, trivial⟩) ?_
            refine XQ.done (by kernel_rfl) ?_
            refine XE.next ?_
            refine XC.keep [(0, _), (1, _), (6, _), (7, _)] (Sub.cons rfl (Sub.cons rfl (Sub.cons rfl (Sub.cons rfl (Sub.nil _))))) ?_
            refine XC.seq ?_
            refine XC.block ?_
            refine XC.loop (σ := BB) (fun x => (x.ord t - (q + 1)).toNat) (fun x => x.Inv ∧ q + 1 ≤ x.ord t ∧ x.ord t ≤ k + 1 ∧ x.tk t = true ∧ BB.splits (x.ord t - (q + 1)).toNat x t = BB.splits (k - q).toNat (b.hide t) t) (fun x => [(6, .int .i64 (x.ord t - 1)), (0, ptr p o 0), (1, .int .i64 q), (7, .int .i64 (t : Int))]) (fun x => XM W (foot [.cells p o 71 (encP b.pool), .ro 0 0 64 tab64]) [.cells p o 71 (encP ⟨x, b.usedOf⟩)]) (b.hide t) ?_ (Sub.cons (eqi (show k = b.ord t - 1 by omega)) (Sub.cons rfl (Sub.cons rfl (Sub.cons rfl (Sub.nil _))))) (fun _ hw => XM.pick (.cons (.there .here) .nil) hw) ?_
            · skip
              exact ⟨hI.hide (by omega), by show q + 1 ≤ b.ord t; omega, by show b.ord t ≤ k + 1; omega, fset_eq _ _ _, by rw [show (b.hide t).ord t = k + 1 from hat.1]; congr 1; omega⟩
            intro x hx
            obtain ⟨hx, x1, x2, x3, x4⟩ := hx
            refine XC.seq ?_
            refine XC.seq ?_
            refine XC.region ?_
            refine XO.v (V.move rfl) rfl ?_
            refine XO.v (V.move rfl) rfl ?_
            refine XO.v (V.cmp rfl rfl rfl) rfl ?_
            refine XO.nil ?_
            refine XE.next ?_
            refine XC.keep [(0, _), (1, _), (6, _), (7, _), (53, _)] (Sub.cons rfl (Sub.cons rfl (Sub.cons rfl (Sub.cons rfl (Sub.cons rfl (Sub.nil _)))))) ?_
            refine XC.condP rfl (fun h6 => ?_) (fun h6 => ?_)
            · skip
              obtain ⟨s1, s2, s3, s4⟩ := hx.split (a := t) (by omega)
              have hsm := hx.split_mask (a := t) (by omega) x3
              have hpp := p2_pos (x.ord t - 2)
              have hrx := hx.rng t
              refine XC.skip ?_
              refine XE.next ?_
              refine XC.keep [(0, _), (1, _), (6, _), (7, _)] (Sub.cons rfl (Sub.cons rfl (Sub.cons rfl (Sub.cons rfl (Sub.nil _))))) ?_
              refine XC.block ?_
              refine XC.seq ?_
              refine XC.region ?_
              refine XO.v (V.move rfl) rfl ?_
              refine XO.v (V.sub rfl rfl (x.ord t - 2) (by rw [show x.ord t - 1 - 1 = x.ord t - 2 from by omega]; exact IntWalk.i64_in _ (by omega))) rfl ?_
              refine XO.v (V.assign rfl) rfl ?_
              refine XO.nil ?_
              refine XE.next ?_
              refine XC.keep [(0, _), (1, _), (6, _), (7, _)] (Sub.cons rfl (Sub.cons rfl (Sub.cons rfl (Sub.cons rfl (Sub.nil _))))) ?_
              refine XC.regionQ mixed (f := 16) (l := #[false, false, false, false, false, false, false, false, false, false, false, false, false, false, false, false]) rfl rfl XM.drawn' ?_
              refine XQ.pv (i := 0) (l' := #[true, false, false, false, false, false, false, false, false, false, false, false, false, false, false, false]) rfl (by kernel_rfl) rfl (V.move rfl) rfl rfl ?_
              refine XQ.pv (i := 1) (l' := #[true, true, false, false, false, false, false, false, false, false, false, false, false, false, false, false]) rfl (by kernel_rfl) rfl (V.move rfl) rfl rfl ?_
              refine XQ.pv (i := 2) (l' := #[true, true, true, false, false, false, false, false, false, false, false, false, false, false, false, false]) rfl (by kernel_rfl) rfl (V.nilCheckP rfl) rfl rfl ?_
              refine XQ.pv (i := 3) (l' := #[true, true, true, true, false, false, false, false, false, false, false, false, false, false, false, false]) rfl (by kernel_rfl) rfl (V.fieldAddr rfl fo_50_0) rfl rfl ?_
              refine XQ.pv (i := 4) (l' := #[true, true, true, true, true, false, false, false, false, false, false, false, false, false, false, false]) rfl (by kernel_rfl) rfl (V.indexArr rfl rfl ar_48 (by omega)) rfl rfl ?_
              refine XQ.load (i := 5) (l' := #[true, true, true, true, true, true, false, false, false, false, false, false, false, false, false, false]) (.cells _ _ _ _) [15] rfl (by kernel_rfl) rfl .here (V.load rfl inEnt (encP.ld_free_I _ _ (by omega)) sc_29) rfl (by kernel_rfl) rfl ?_
              refine XQ.pv (i := 6) (l' := #[true, true, true, true, true, true, true, false, false, false, false, false, false, false, false, false]) rfl (by kernel_rfl) rfl (V.move rfl) rfl rfl ?_
              refine XQ.pv (i := 7) (l' := #[true, true, true, true, true, true, true, true, false, false, false, false, false, false, false, false]) rfl (by kernel_rfl) rfl (V.move rfl) rfl rfl ?_
              refine XQ.pv (i := 8) (l' := #[true, true, true, true, true, true, true, true, true, false, false, false, false, false, false, false]) rfl (by kernel_rfl) rfl (V.shl rfl rfl (by omega) _ (shl_i64 (by omega))) rfl rfl ?_
              refine XQ.pv (i := 9) (l' := #[true, true, true, true, true, true, true, true, true, true, false, false, false, false, false, false]) rfl (by kernel_rfl) rfl (V.add rfl rfl _ (IntWalk.i64_in _ (by omega))) rfl rfl ?_
              refine XQ.pv (i := 10) (l' := #[true, true, true, true, true, true, true, true, true, true, true, false, false, false, false, false]) rfl (by kernel_rfl) rfl (V.shl rfl rfl (by omega) _ (shl_u64 (by omega))) rfl rfl ?_
              refine XQ.pv (i := 11) (l' := #[true, true, true, true, true, true, true, true, true, true, true, true, false, false, false, false]) rfl (by kernel_rfl) rfl (V.bits rfl rfl rfl (BB.mask_lt _ _) (two_lt (by omega)) rfl) rfl rfl ?_
              refine XQ.pv (i := 12) (l' := #[true, true, true, true, true, true, true, true, true, true, true, true, true, false, false, false]) rfl (by kernel_rfl) rfl (V.nilCheckP rfl) rfl rfl ?_
              refine XQ.pv (i := 13) (l' := #[true, true, true, true, true, true, true, true, true, true, true, true, true, true, false, false]) rfl (by kernel_rfl) rfl (V.fieldAddr rfl fo_50_0) rfl rfl ?_
              refine XQ.pv (i := 14) (l' := #[true, true, true, true, true, true, true, true, true, true, true, true, true, true, true, false]) rfl (by kernel_rfl) rfl (V.indexArr rfl rfl ar_48 (by omega)) rfl rfl ?_
              refine XQ.store (i := 15) (l' := #[true, true, true, true, true, true, true, true, true, true, true, true, true, true, true, true]) rfl (by kernel_rfl) rfl rfl rfl .here (encP_free _ (x.split t) _ (by omega) hsm) rfl sz_29_1 (fun _ hw' => ⟨fun hs => (hs 15 (by simp) rfl).elim, trivial⟩) ?_
              refine XQ.done (by kernel_rfl) ?_
              refine XE.blockNormal ?_
              refine XE.again (x.split t) ?_ ?_ (Sub.cons (eqi (by rw [s4]; omega)) (Sub.cons rfl (Sub.cons rfl (Sub.cons rfl (Sub.nil _))))) (fun _ hw => XM.pick (.cons .here .nil) hw)
              · skip
                (show ((x.split t).ord t - (q + 1)).toNat < (x.ord t - (q + 1)).toNat; rw [s4]; omega)
              · skip
                refine ⟨s1, by rw [s4]; omega, by rw [s4]; omega, x3, ?_⟩
                rw [← x4, s4, show (x.ord t - (q + 1)).toNat = (x.ord t - 1 - (q + 1)).toNat + 1 from by omega]
                rfl
            · skip
              have hn : (x.ord t - (q + 1)).toNat = 0 := by omega
              rw [hn] at x4
              have x5 : x = BB.splits ((k.toNat : Int) - q).toNat (b.hide t) t := by rw [show ((k.toNat : Int) - q).toNat = (k - q).toNat from by omega]; exact x4
              have hfin := hI.take_pool (o := q) (by omega) hpk
              rw [← x5] at hfin
              refine XC.exit ?_
              refine XE.thenExit ?_
              refine XE.thenExit ?_
              refine XE.blockExit ?_
              refine XE.next ?_
              refine XC.keep [(0, _), (1, _), (7, _)] (Sub.cons rfl (Sub.cons rfl (Sub.cons rfl (Sub.nil _)))) ?_
              refine XC.seq ?_
              refine XC.region ?_
              refine XO.v (V.move rfl) rfl ?_
              refine XO.v (V.move rfl) rfl ?_
              refine XO.v (V.move rfl) rfl ?_
              refine XO.v (V.add rfl rfl _ (IntWalk.i64_in _ (by omega))) rfl ?_
              refine XO.v (V.nilCheckP rfl) rfl ?_
              refine XO.v (V.fieldAddr rfl fo_50_1) rfl ?_
              refine XO.v (V.indexArr rfl rfl ar_44 (by omega)) rfl ?_
              refine XO.store rfl rfl .here (encP.st_used_I _ _ (by omega) _) rfl sz_3_1 ?_
              refine XO.nil ?_
              refine XE.next ?_
              refine XC.keep [(7, _)] (Sub.cons rfl (Sub.nil _)) ?_
              refine XC.seq ?_
              refine XC.region ?_
              refine XO.v (V.move rfl) rfl ?_
              refine XO.v (V.assign rfl) rfl ?_
              refine XO.v (V.assign rfl) rfl ?_
              refine XO.nil ?_
              refine XE.next ?_
              refine XC.keep [(4, _), (5, _)] (Sub.cons rfl (Sub.cons rfl (Sub.nil _))) ?_
              refine XC.ret ?_
              refine XE.ret2 rfl rfl rfl (post_of (.cons .here .nil) rfl ?_)
              rw [← hfin, BB.take_ok (by omega) hpk]; exact ⟨rfl, rfl⟩
      · skip
        refine XO.guardSkip rfl rfl rfl rfl rfl ?_
        refine XO.guardSkip rfl rfl rfl rfl rfl ?_
        refine XO.guardSkip rfl rfl rfl rfl rfl ?_
        refine XO.guardSkip rfl rfl rfl rfl rfl ?_
        refine XO.guardSkip rfl rfl rfl rfl rfl ?_
        refine XO.guardSkip rfl rfl rfl rfl rfl ?_
        refine XO.guardSkip rfl rfl rfl rfl rfl ?_
        refine XO.v (V.pick rfl rfl rfl rfl) rfl ?_
        refine XO.nil ?_
        refine XE.next ?_
        refine XC.keep [(0, _), (1, _), (6, _), (26, _)] (Sub.cons rfl (Sub.cons rfl (Sub.cons rfl (Sub.cons rfl (Sub.nil _))))) ?_
        refine XC.condF rfl rfl ?_
        refine XC.exit ?_
        refine XE.thenExit ?_
        refine XE.thenExit ?_
        refine XE.blockExit ?_
        refine XE.next ?_
        refine XC.keep [(0, _), (1, _), (6, _)] (Sub.cons rfl (Sub.cons rfl (Sub.cons rfl (Sub.nil _)))) ?_
        refine XC.seq ?_
        refine XC.seq ?_
        refine XC.region ?_
        refine XO.v (V.move rfl) rfl ?_
        refine XO.v (V.cmp rfl rfl rfl) rfl ?_
        refine XO.nil ?_
        refine XE.next ?_
        refine XC.keep [(0, _), (1, _), (6, _), (30, _)] (Sub.cons rfl (Sub.cons rfl (Sub.cons rfl (Sub.cons rfl (Sub.nil _))))) ?_
        refine XC.condP rfl (fun h7 => ?_) (fun h7 => ?_)
        · skip
          refine XC.seq ?_
          refine XC.region ?_
          refine XO.v (V.makeIface rfl Tryd.underlying54 (by simp)) rfl ?_
          refine XO.v (V.assign rfl) rfl ?_
          refine XO.v (V.assign rfl) rfl ?_
          refine XO.nil ?_
          refine XE.next ?_
          refine XC.keep [(4, _), (5, _)] (Sub.cons rfl (Sub.cons rfl (Sub.nil _))) ?_
          refine XC.ret ?_
          refine XE.thenRet ?_
          refine XE.ret2 rfl rfl rfl (post_of (.cons .here .nil) rfl ?_)
          rw [BB.take_full (by omega) (BB.pick_none fun j h1 h2 => hkz j h1 (by omega))]; exact ⟨rfl, rfl⟩
        · skip
          have hkm : ¬ b.mask k = 0 := by omega
          obtain ⟨t, ht, hl⟩ := low_exists hkm
          obtain ⟨hlow, ht64, hat⟩ := BB.low_some ht hl
          have hat := (BB.at_iff (by omega)).1 hat
          have hpk := BB.pick_some (b := b) (by omega) (k := k) ⟨hk.1, by omega⟩ hkz ht hl
          have hhm := BB.hide_mask (b := b) (k := k) (by omega) ht64 hat.1 hat.2
          refine XC.skip ?_
          refine XE.next ?_
          refine XC.keep [(0, _), (1, _), (6, _)] (Sub.cons rfl (Sub.cons rfl (Sub.cons rfl (Sub.nil _)))) ?_
          refine XC.seq ?_
          refine XC.region ?_
          refine XO.v (V.move rfl) rfl ?_
          refine XO.v (V.move rfl) rfl ?_
          refine XO.v (V.nilCheckP rfl) rfl ?_
          refine XO.v (V.fieldAddr rfl fo_50_0) rfl ?_
          refine XO.v (V.indexArr rfl rfl ar_48 (by omega)) rfl ?_
          refine XO.v (V.load rfl (inXM .here) (encP.ld_free_I _ _ (by omega)) sc_29) rfl ?_
          refine XO.callR 0 rfl (p_tz (b.mask k) t (BB.mask_lt _ _) ht hl ht64) (.cons (.there .here) .nil) rfl cl_18 rfl ?_
          rintro _ _ ⟨rfl, rfl⟩
          refine XO.v (V.assign rfl) rfl ?_
          refine XO.nil ?_
          refine XE.next ?_
          refine XC.keep [(0, _), (1, _), (6, _), (7, _)] (Sub.cons rfl (Sub.cons rfl (Sub.cons rfl (Sub.cons rfl (Sub.nil _))))) ?_
          refine XC.seq ?_
          refine XC.regionQ mixed (f := 13) (l := #[false, false, false, false, false, false, false, false, false, false, false, false, false]) rfl rfl XM.drawn' ?_
          refine XQ.pv (i := 0) (l' := #[true, false, false, false, false, false, false, false, false, false, false, false, false]) rfl (by kernel_rfl) rfl (V.move rfl) rfl rfl ?_
          refine XQ.pv (i := 1) (l' := #[true, true, false, false, false, false, false, false, false, false, false, false, false]) rfl (by kernel_rfl) rfl (V.move rfl) rfl rfl ?_
          refine XQ.pv (i := 2) (l' := #[true, true, true, false, false, false, false, false, false, false, false, false, false]) rfl (by kernel_rfl) rfl (V.nilCheckP rfl) rfl rfl ?_
          refine XQ.pv (i := 3) (l' := #[true, true, true, true, false, false, false, false, false, false, false, false, false]) rfl (by kernel_rfl) rfl (V.fieldAddr rfl fo_50_0) rfl rfl ?_
          refine XQ.pv (i := 4) (l' := #[true, true, true, true, true, false, false, false, false, false, false, false, false]) rfl (by kernel_rfl) rfl (V.indexArr rfl rfl ar_48 (by omega)) rfl rfl ?_
          refine XQ.load (i := 5) (l' := #[true, true, true, true, true, true, false, false, false, false, false, false, false]) (.cells _ _ _ _) [12] rfl (by kernel_rfl) rfl (.there .here) (V.load rfl inEnt (encP.ld_free_I _ _ (by omega)) sc_29) rfl (by kernel_rfl) rfl ?_
          refine XQ.pv (i := 6) (l' := #[true, true, true, true, true, true, true, false, false, false, false, false, false]) rfl (by kernel_rfl) rfl (V.move rfl) rfl rfl ?_
          refine XQ.pv (i := 7) (l' := #[true, true, true, true, true, true, true, true, false, false, false, false, false]) rfl (by kernel_rfl) rfl (V.shl rfl rfl (by omega) _ (shl_u64 (by omega))) rfl rfl ?_
          refine XQ.pv (i := 8) (l' := #[true, true, true, true, true, true, true, true, true, false, false, false, false]) rfl (by kernel_rfl) rfl (V.bits rfl rfl rfl (BB.mask_lt _ _) (two_lt (by omega)) rfl) rfl rfl ?_
          refine XQ.pv (i := 9) (l' := #[true, true, true, true, true, true, true, true, true, true, false, false, false]) rfl (by kernel_rfl) rfl (V.nilCheckP rfl) rfl rfl ?_
          refine XQ.pv (i := 10) (l' := #[true, true, true, true, true, true, true, true, true, true, true, false, false]) rfl (by kernel_rfl) rfl (V.fieldAddr rfl fo_50_0) rfl rfl ?_
          refine XQ.pv (i := 11) (l' := #[true, true, true, true, true, true, true, true, true, true, true, true, false]) rfl (by kernel_rfl) rfl (V.indexArr rfl rfl ar_48 (by omega)) rfl rfl ?_
          refine XQ.store (i := 12) (l' := #[true, true, true, true, true, true, true, true, true, true, true, true, true]) rfl (by kernel_rfl) rfl rfl rfl (.there .here) (encP_free _ (b.hide t) _ (by omega) hhm) rfl sz_29_1 (fun _ hw' => ⟨fun hs => (hs 12 (by simp) rfl).elim, trivial⟩) ?_
          refine XQ.done (by kernel_rfl) ?_
          refine XE.next ?_
          refine XC.keep [(0, _), (1, _), (6, _), (7, _)] (Sub.cons rfl (Sub.cons rfl (Sub.cons rfl (Sub.cons rfl (Sub.nil _))))) ?_
          refine XC.seq ?_
          refine XC.block ?_
          refine XC.loop (σ := BB) (fun x => (x.ord t - (q + 1)).toNat) (fun x => x.Inv ∧ q + 1 ≤ x.ord t ∧ x.ord t ≤ k + 1 ∧ x.tk t = true ∧ BB.splits (x.ord t - (q + 1)).toNat x t = BB.splits (k - q).toNat (b.hide t) t) (fun x => [(6, .int .i64 (x.ord t - 1)), (0, ptr p o 0), (1, .int .i64 q), (7, .int .i64 (t : Int))]) (fun x => XM W (foot [.cells p o 71 (encP b.pool), .ro 0 0 64 tab64]) [.cells p o 71 (encP ⟨x, b.usedOf⟩)]) (b.hide t) ?_ (Sub.cons (eqi (show k = b.ord t - 1 by omega)) (Sub.cons rfl (Sub.cons rfl (Sub.cons rfl (Sub.nil _))))) (fun _ hw => XM.pick (.cons (.there .here) .nil) hw) ?_
          · skip
            exact ⟨hI.hide (by omega), by show q + 1 ≤ b.ord t; omega, by show b.ord t ≤ k + 1; omega, fset_eq _ _ _, by rw [show (b.hide t).ord t = k + 1 from hat.1]; congr 1; omega⟩
          intro x hx
          obtain ⟨hx, x1, x2, x3, x4⟩ := hx
          refine XC.seq ?_
          refine XC.seq ?_
          refine XC.region ?_
          refine XO.v (V.move rfl) rfl ?_
          refine XO.v (V.move rfl) rfl ?_
          refine XO.v (V.cmp rfl rfl rfl) rfl ?_
          refine XO.nil ?_
          refine XE.next ?_
          refine XC.keep [(0, _), (1, _), (6, _), (7, _), (53, _)] (Sub.cons rfl (Sub.cons rfl (Sub.cons rfl (Sub.cons rfl (Sub.cons rfl (Sub.nil _)))))) ?_
          refine XC.condP rfl (fun h8 => ?_) (fun h8 => ?_)
          · skip
            obtain ⟨s1, s2, s3, s4⟩ := hx.split (a := t) (by omega)
            have hsm := hx.split_mask (a := t) (by omega) x3
            have hpp := p2_pos (x.ord t - 2)
            have hrx := hx.rng t
            refine XC.skip ?_
            refine XE.next ?_
            refine XC.keep [(0, _), (1, _), (6, _), (7, _)] (Sub.cons rfl (Sub.cons rfl (Sub.cons rfl (Sub.cons rfl (Sub.nil _))))) ?_
            refine XC.block ?_
            refine XC.seq ?_
            refine XC.region ?_
            refine XO.v (V.move rfl) rfl ?_
            refine XO.v (V.sub rfl rfl (x.ord t - 2) (by rw [show x.ord t - 1 - 1 = x.ord t - 2 from by omega]; exact IntWalk.i64_in _ (by omega))) rfl ?_
            refine XO.v (V.assign rfl) rfl ?_
            refine XO.nil ?_
            refine XE.next ?_
            refine XC.keep [(0, _), (1, _), (6, _), (7, _)] (Sub.cons rfl (Sub.cons rfl (Sub.cons rfl (Sub.cons rfl (Sub.nil _))))) ?_
            refine XC.regionQ mixed (f := 16) (l := #[false, false, false, false, false, false, false, false, false, false, false, false, false, false, false, false]) rfl rfl XM.drawn' ?_
            refine XQ.pv (i := 0) (l' := #[true, false, false, false, false, false, false, false, false, false, false, false, false, false, false, false]) rfl (by kernel_rfl) rfl (V.move rfl) rfl rfl ?_
            refine XQ.pv (i := 1) (l' := #[true, true, false, false, false, false, false, false, false, false, false, false, false, false, false, false]) rfl (by kernel_rfl) rfl (V.move rfl) rfl rfl ?_
            refine XQ.pv (i := 2) (l' := #[true, true, true, false, false, false, false, false, false, false, false, false, false, false, false, false]) rfl (by kernel_rfl) rfl (V.nilCheckP rfl) rfl rfl ?_
            refine XQ.pv (i := 3) (l' := #[true, true, true, true, false, false, false, false, false, false, false, false, false, false, false, false]) rfl (by kernel_rfl) rfl (V.fieldAddr rfl fo_50_0) rfl rfl ?_
            refine XQ.pv (i := 4) (l' := #[true, true, true, true, true, false, false, false, false, false, false, false, false, false, false, false]) rfl (by kernel_rfl) rfl (V.indexArr rfl rfl ar_48 (by omega)) rfl rfl ?_
            refine XQ.load (i := 5) (l' := #[true, true, true, true, true, true, false, false, false, false, false, false, false, false, false, false]) (.cells _ _ _ _) [15] rfl (by kernel_rfl) rfl .here (V.load rfl inEnt (encP.ld_free_I _ _ (by omega)) sc_29) rfl (by kernel_rfl) rfl ?_
            refine XQ.pv (i := 6) (l' := #[true, true, true, true, true, true, true, false, false, false, false, false, false, false, false, false]) rfl (by kernel_rfl) rfl (V.move rfl) rfl rfl ?_
            refine XQ.pv (i := 7) (l' := #[true, true, true, true, true, true, true, true, false, false, false, false, false, false, false, false]) rfl (by kernel_rfl) rfl (V.move rfl) rfl rfl ?_
            refine XQ.pv (i := 8) (l' := #[true, true, true, true, true, true, true, true, true, false, false, false, false, false, false, false]) rfl (by kernel_rfl) rfl (V.shl rfl rfl (by omega) _ (shl_i64 (by omega))) rfl rfl ?_
            refine XQ.pv (i := 9) (l' := #[true, true, true, true, true, true, true, true, true, true, false, false, false, false, false, false]) rfl (by kernel_rfl) rfl (V.add rfl rfl _ (IntWalk.i64_in _ (by omega))) rfl rfl ?_
            refine XQ.pv (i := 10) (l' := #[true, true, true, true, true, true, true, true, true, true, true, false, false, false, false, false]) rfl (by kernel_rfl) rfl (V.shl rfl rfl (by omega) _ (shl_u64 (by omega))) rfl rfl ?_
            refine XQ.pv (i := 11) (l' := #[true, true, true, true, true, true, true, true, true, true, true, true, false, false, false, false]) rfl (by kernel_rfl) rfl (V.bits rfl rfl rfl (BB.mask_lt _ _) (two_lt (by omega)) rfl) rfl rfl ?_
            refine XQ.pv (i := 12) (l' := #[true, true, true, true, true, true, true, true, true, true, true, true, true, false, false, false]) rfl (by kernel_rfl) rfl (V.nilCheckP rfl) rfl rfl ?_
            refine XQ.pv (i := 13) (l' := #[true, true, true, true, true, true, true, true, true, true, true, true, true, true, false, false]) rfl (by kernel_rfl) rfl (V.fieldAddr rfl fo_50_0) rfl rfl ?_
            refine XQ.pv (i := 14) (l' := #[true, true, true, true, true, true, true, true, true, true, true, true, true, true, true, false]) rfl (by kernel_rfl) rfl (V.indexArr rfl rfl ar_48 (by omega)) rfl rfl ?_
            refine XQ.store (i := 15) (l' := #[true, true, true, true, true, true, true, true, true, true, true, true, true, true, true, true]) rfl (by kernel_rfl) rfl rfl rfl .here (encP_free _ (x.split t) _ (by omega) hsm) rfl sz_29_1 (fun _ hw' => ⟨fun hs => (hs 15 (by simp) rfl).elim, trivial⟩) ?_
            refine XQ.done (by kernel_rfl) ?_
            refine XE.blockNormal ?_
            refine XE.again (x.split t) ?_ ?_ (Sub.cons (eqi (by rw [s4]; omega)) (Sub.cons rfl (Sub.cons rfl (Sub.cons rfl (Sub.nil _))))) (fun _ hw => XM.pick (.cons .here .nil) hw)
            · skip
              (show ((x.split t).ord t - (q + 1)).toNat < (x.ord t - (q + 1)).toNat; rw [s4]; omega)
            · skip
              refine ⟨s1, by rw [s4]; omega, by rw [s4]; omega, x3, ?_⟩
              rw [← x4, s4, show (x.ord t - (q + 1)).toNat = (x.ord t - 1 - (q + 1)).toNat + 1 from by omega]
              rfl
          · skip
            have hn : (x.ord t - (q + 1)).toNat = 0 := by omega
            rw [hn] at x4
            have x5 : x = BB.splits ((k.toNat : Int) - q).toNat (b.hide t) t := by rw [show ((k.toNat : Int) - q).toNat = (k - q).toNat from by omega]; exact x4
            have hfin := hI.take_pool (o := q) (by omega) hpk
            rw [← x5] at hfin
            refine XC.exit ?_
            refine XE.thenExit ?_
            refine XE.thenExit ?_
            refine XE.blockExit ?_
            refine XE.next ?_
            refine XC.keep [(0, _), (1, _), (7, _)] (Sub.cons rfl (Sub.cons rfl (Sub.cons rfl (Sub.nil _)))) ?_
            refine XC.seq ?_
            refine XC.region ?_
            refine XO.v (V.move rfl) rfl ?_
            refine XO.v (V.move rfl) rfl ?_
            refine XO.v (V.move rfl) rfl ?_
            refine XO.v (V.add rfl rfl _ (IntWalk.i64_in _ (by omega))) rfl ?_
            refine XO.v (V.nilCheckP rfl) rfl ?_
            refine XO.v (V.fieldAddr rfl fo_50_1) rfl ?_
            refine XO.v (V.indexArr rfl rfl ar_44 (by omega)) rfl ?_
            refine XO.store rfl rfl .here (encP.st_used_I _ _ (by omega) _) rfl sz_3_1 ?_
            refine XO.nil ?_
            refine XE.next ?_
            refine XC.keep [(7, _)] (Sub.cons rfl (Sub.nil _)) ?_
            refine XC.seq ?_
            refine XC.region ?_
            refine XO.v (V.move rfl) rfl ?_
            refine XO.v (V.assign rfl) rfl ?_
            refine XO.v (V.assign rfl) rfl ?_
            refine XO.nil ?_
            refine XE.next ?_
            refine XC.keep [(4, _), (5, _)] (Sub.cons rfl (Sub.cons rfl (Sub.nil _))) ?_
            refine XC.ret ?_
            refine XE.ret2 rfl rfl rfl (post_of (.cons .here .nil) rfl ?_)
            rw [← hfin, BB.take_ok (by omega) hpk]; exact ⟨rfl, rfl⟩
set_option maxRecDepth 10000 in
set_option maxHeartbeats 1000000 in
theorem p_Give (p o : Nat) (b : BB) (hI : b.Inv) (a : Int) : Spec Tryd.prog 12 [ptr p o 0, .int .i64 a]
    [.cells p o 71 (encP b.pool)]
    (fun v H1 => v = errv 54 (b.give a).1 ∧ H1 = [.cells p o 71 (encP (b.give a).2.pool)]) := by
  refine Spec.intro Tryd.func12 rfl rfl ?_
  intro W
  refine XC.seq ?_
  refine XC.region ?_
  refine XO.v (V.assign rfl) rfl ?_
  refine XO.nil ?_
  refine XE.next ?_
  refine XC.keep [(0, _), (1, _)] (Sub.cons rfl (Sub.cons rfl (Sub.nil _))) ?_
  refine XC.seq ?_
  refine XC.seq ?_
  refine XC.region ?_
  refine XO.v (V.move rfl) rfl ?_
  refine XO.v (V.cmp rfl rfl rfl) rfl ?_
  refine XO.v (V.move rfl) rfl ?_
  refine XO.splitP (d := 9) rfl (fun h1 => ?_) (fun h1 => ?_)
  · skip
    refine XO.guardSkip rfl rfl rfl rfl rfl ?_
    refine XO.guardSkip rfl rfl rfl rfl rfl ?_
    refine XO.v (V.pick rfl rfl rfl rfl) rfl ?_
    refine XO.nil ?_
    refine XE.next ?_
    refine XC.keep [(0, _), (1, _), (12, _)] (Sub.cons rfl (Sub.cons rfl (Sub.cons rfl (Sub.nil _)))) ?_
    refine XC.condT rfl rfl ?_
    refine XC.seq ?_
    refine XC.region ?_
    refine XO.v (V.makeIface rfl Tryd.underlying54 (by simp)) rfl ?_
    refine XO.v (V.assign rfl) rfl ?_
    refine XO.nil ?_
    refine XE.next ?_
    refine XC.keep [(4, _)] (Sub.cons rfl (Sub.nil _)) ?_
    refine XC.ret ?_
    refine XE.thenRet ?_
    refine XE.ret1 rfl rfl (post_of (.cons .here .nil) rfl ?_)
    have his := BB.is_bound (b := b) (a := a) (by omega)
    rw [BB.give_err (by omega), his]; exact ⟨rfl, rfl⟩
  · skip
    refine XO.guardRun rfl rfl rfl ?_
    refine XO.v (V.move rfl) rfl ?_
    refine XO.guardRun rfl rfl rfl ?_
    refine XO.v (V.cmp rfl rfl rfl) rfl ?_
    refine XO.v (V.pick rfl rfl rfl rfl) rfl ?_
    refine XO.nil ?_
    refine XE.next ?_
    refine XC.keep [(0, _), (1, _), (12, _)] (Sub.cons rfl (Sub.cons rfl (Sub.cons rfl (Sub.nil _)))) ?_
    refine XC.condP rfl (fun h2 => ?_) (fun h2 => ?_)
    · skip
      refine XC.seq ?_
      refine XC.region ?_
      refine XO.v (V.makeIface rfl Tryd.underlying54 (by simp)) rfl ?_
      refine XO.v (V.assign rfl) rfl ?_
      refine XO.nil ?_
      refine XE.next ?_
      refine XC.keep [(4, _)] (Sub.cons rfl (Sub.nil _)) ?_
      refine XC.ret ?_
      refine XE.thenRet ?_
      refine XE.ret1 rfl rfl (post_of (.cons .here .nil) rfl ?_)
      have his := BB.is_bound (b := b) (a := a) (by omega)
      rw [BB.give_err (by omega), his]; exact ⟨rfl, rfl⟩
    · skip
      refine XC.skip ?_
      refine XE.next ?_
      refine XC.keep [(0, _), (1, _)] (Sub.cons rfl (Sub.cons rfl (Sub.nil _))) ?_
      refine XC.seq ?_
      refine XC.seq ?_
      refine XC.region ?_
      refine XO.v (V.move rfl) rfl ?_
      refine XO.v (V.move rfl) rfl ?_
      refine XO.v (V.nilCheckP rfl) rfl ?_
      refine XO.v (V.fieldAddr rfl fo_50_1) rfl ?_
      refine XO.v (V.indexArr rfl rfl ar_44 (by omega)) rfl ?_
      refine XO.v (V.load rfl (inXM .here) (encP.ld_used_I _ _ (by omega)) sc_3) rfl ?_
      refine XO.v (V.cmp rfl rfl rfl) rfl ?_
      refine XO.nil ?_
      refine XE.next ?_
      refine XC.keep [(0, _), (1, _), (20, _)] (Sub.cons rfl (Sub.cons rfl (Sub.cons rfl (Sub.nil _)))) ?_
      refine XC.condP rfl (fun h3 => ?_) (fun h3 => ?_)
      · skip
        have hu : b.usedOf a = 0 := h3
        have his : b.is a = 2 := BB.is_none (by omega) ((hI.used_zero a).1 hu)
        refine XC.seq ?_
        refine XC.region ?_
        refine XO.v (V.makeIface rfl Tryd.underlying54 (by simp)) rfl ?_
        refine XO.v (V.assign rfl) rfl ?_
        refine XO.nil ?_
        refine XE.next ?_
        refine XC.keep [(4, _)] (Sub.cons rfl (Sub.nil _)) ?_
        refine XC.ret ?_
        refine XE.thenRet ?_
        refine XE.ret1 rfl rfl (post_of (.cons .here .nil) rfl ?_)
        rw [BB.give_err (by omega), his]; exact ⟨rfl, rfl⟩
      · skip
        have hu : ¬ b.usedOf a = 0 := h3
        obtain ⟨ht, ho⟩ := (hI.used_zero a).2 hu
        have hpos := hI.tk a ht
        have hrg := hI.rng a
        have his : b.is a = 0 := BB.is_ok (by omega) ht
        refine XC.skip ?_
        refine XE.next ?_
        refine XC.keep [(0, _), (1, _)] (Sub.cons rfl (Sub.cons rfl (Sub.nil _))) ?_
        refine XC.seq ?_
        refine XC.region ?_
        refine XO.v (V.move rfl) rfl ?_
        refine XO.v (V.move rfl) rfl ?_
        refine XO.v (V.nilCheckP rfl) rfl ?_
        refine XO.v (V.fieldAddr rfl fo_50_1) rfl ?_
        refine XO.v (V.indexArr rfl rfl ar_44 (by omega)) rfl ?_
        refine XO.v (V.load rfl (inXM .here) (encP.ld_used_I _ _ (by omega)) sc_3) rfl ?_
        refine XO.v (V.sub rfl rfl (b.ord a - 1) (by rw [show b.pool.u a = b.ord a from ho]; exact IntWalk.i64_in _ (by omega))) rfl ?_
        refine XO.v (V.assign rfl) rfl ?_
        refine XO.nil ?_
        refine XE.next ?_
        refine XC.keep [(0, _), (1, _), (5, _)] (Sub.cons rfl (Sub.cons rfl (Sub.cons rfl (Sub.nil _)))) ?_
        refine XC.seq ?_
        refine XC.region ?_
        refine XO.v (V.move rfl) rfl ?_
        refine XO.v (V.move rfl) rfl ?_
        refine XO.v (V.nilCheckP rfl) rfl ?_
        refine XO.v (V.fieldAddr rfl fo_50_1) rfl ?_
        refine XO.v (V.indexArr rfl rfl ar_44 (by omega)) rfl ?_
        refine XO.store rfl rfl .here (encP.st_used_I _ _ (by omega) _) rfl sz_3_1 ?_
        refine XO.nil ?_
        refine XE.next ?_
        refine XC.keep [(0, _), (1, _), (5, _)] (Sub.cons rfl (Sub.cons rfl (Sub.cons rfl (Sub.nil _)))) ?_
        refine XC.seq ?_
        refine XC.block ?_
        refine XC.loop (σ := BB × Int) (fun x => (7 - x.1.ord x.2).toNat) (fun x => x.1.Inv ∧ 0 < x.1.ord x.2 ∧ x.1.tk x.2 = false ∧ BB.joins (7 - x.1.ord x.2).toNat x.1 x.2 = BB.joins (7 - b.ord a).toNat (b.bare a) a) (fun x => [(1, .int .i64 x.2), (5, .int .i64 (x.1.ord x.2 - 1)), (0, ptr p o 0)]) (fun x => XM W (foot [.cells p o 71 (encP b.pool)]) [.cells p o 71 (encP ⟨x.1.hide x.2, (fset b.usedOf a 0)⟩)]) ((b.bare a, a)) ?_ (Sub.cons rfl (Sub.cons rfl (Sub.cons rfl (Sub.nil _)))) (fun w hw2 => by
            have e := BB.bare_hide (b := b) ht
            show XM _ _ (.cells p o 71 (encP ⟨(b.bare a).hide a, fset b.usedOf a 0⟩) :: _) w
            rw [e]; exact XM.pick (.cons .here .nil) hw2) ?_
        · skip
          exact ⟨hI.bare a, hpos, fset_eq _ _ _, rfl⟩
        intro x hx
        obtain ⟨hx, x1, x2, x3⟩ := hx
        have hxr := hx.rng x.2
        have hxi := hx.in_rng x1
        refine XC.seq ?_
        refine XC.seq ?_
        refine XC.region ?_
        refine XO.v (V.move rfl) rfl ?_
        refine XO.v (V.cmp rfl rfl rfl) rfl ?_
        refine XO.nil ?_
        refine XE.next ?_
        refine XC.keep [(0, _), (1, _), (5, _), (35, _)] (Sub.cons rfl (Sub.cons rfl (Sub.cons rfl (Sub.cons rfl (Sub.nil _))))) ?_
        refine XC.condP rfl (fun h4 => ?_) (fun h4 => ?_)
        · skip
          obtain ⟨r1, r2, r3⟩ := hx.buddy_rng x1 (by omega)
          obtain ⟨q1, q2⟩ := half_xor (a := x.2) (k := x.1.ord x.2 - 1) hxi (by omega)
          have hjt := hx.join_test x1 (by omega)
          have hb := bit_of_shr ((x.1.hide x.2).mask (x.1.ord x.2 - 1)) (x.1.buddy x.2).toNat
          rw [hjt] at hb
          have hp2 := p2_lt (k := x.1.ord x.2 - 1) (by omega)
          refine XC.skip ?_
          refine XE.next ?_
          refine XC.keep [(0, _), (1, _), (5, _)] (Sub.cons rfl (Sub.cons rfl (Sub.cons rfl (Sub.nil _)))) ?_
          refine XC.block ?_
          refine XC.seq ?_
          refine XC.region ?_
          refine XO.v (V.move rfl) rfl ?_
          refine XO.v (V.move rfl) rfl ?_
          refine XO.v (V.shl rfl rfl (by omega) _ (shl_i64 (by omega))) rfl ?_
          refine XO.v (V.bitsZ rfl rfl (z := (x.1.buddy x.2)) (by omega) (by omega) (by omega) rfl (by rw [p2_toNat]; exact q1)) rfl ?_
          refine XO.v (V.assign rfl) rfl ?_
          refine XO.nil ?_
          refine XE.next ?_
          refine XC.keep [(0, _), (1, _), (5, _), (6, _)] (Sub.cons rfl (Sub.cons rfl (Sub.cons rfl (Sub.cons rfl (Sub.nil _))))) ?_
          refine XC.seq ?_
          refine XC.seq ?_
          refine XC.region ?_
          refine XO.v (V.move rfl) rfl ?_
          refine XO.v (V.move rfl) rfl ?_
          refine XO.v (V.nilCheckP rfl) rfl ?_
          refine XO.v (V.fieldAddr rfl fo_50_0) rfl ?_
          refine XO.v (V.indexArr rfl rfl ar_48 (by omega)) rfl ?_
          refine XO.v (V.load rfl (inXM .here) (encP.ld_free_I _ _ (by omega)) sc_29) rfl ?_
          refine XO.v (V.move rfl) rfl ?_
          refine XO.v (V.shr rfl rfl (by omega) _ (shr_u64 (by omega) _)) rfl ?_
          refine XO.v (V.bits rfl rfl rfl (Nat.lt_of_le_of_lt (shr_le _ _) (BB.mask_lt _ _)) (by decide) rfl) rfl ?_
          refine XO.v (V.cmp rfl rfl rfl) rfl ?_
          refine XO.nil ?_
          refine XE.next ?_
          refine XC.keep [(0, _), (1, _), (5, _), (6, _), (49, _)] (Sub.cons rfl (Sub.cons rfl (Sub.cons rfl (Sub.cons rfl (Sub.cons rfl (Sub.nil _)))))) ?_
          refine XC.condP rfl (fun h5 => ?_) (fun h5 => ?_)
          · skip
            have h9 : (((((x.1.hide x.2).mask (x.1.ord x.2 - 1)) >>> (x.1.buddy x.2).toNat) &&& 1 : Nat) : Int) = 0 := h5
            have hc : ¬ x.1.canJoin x.2 := fun q => by
              simp only [q, decide_true, if_true] at hb
              omega
            have hx9 : BB.joins (7 - b.ord a).toNat (b.bare a) a = x.1 := by rw [← x3]; exact BB.joins_stop _ hc
            have hfin := hI.give_pool his
            rw [hx9] at hfin
            refine XC.exit ?_
            refine XE.thenExit ?_
            refine XE.blockOther rfl ?_
            refine XE.thenExit ?_
            refine XE.blockExit ?_
            refine XE.next ?_
            refine XC.keep [(0, _), (1, _), (5, _)] (Sub.cons rfl (Sub.cons rfl (Sub.cons rfl (Sub.nil _)))) ?_
            refine XC.seq ?_
            refine XC.regionQ mixed (f := 13) (l := #[false, false, false, false, false, false, false, false, false, false, false, false, false]) rfl rfl XM.drawn' ?_
            refine XQ.pv (i := 0) (l' := #[true, false, false, false, false, false, false, false, false, false, false, false, false]) rfl (by kernel_rfl) rfl (V.move rfl) rfl rfl ?_
            refine XQ.pv (i := 1) (l' := #[true, true, false, false, false, false, false, false, false, false, false, false, false]) rfl (by kernel_rfl) rfl (V.move rfl) rfl rfl ?_
            refine XQ.pv (i := 2) (l' := #[true, true, true, false, false, false, false, false, false, false, false, false, false]) rfl (by kernel_rfl) rfl (V.nilCheckP rfl) rfl rfl ?_
            refine XQ.pv (i := 3) (l' := #[true, true, true, true, false, false, false, false, false, false, false, false, false]) rfl (by kernel_rfl) rfl (V.fieldAddr rfl fo_50_0) rfl rfl ?_
            refine XQ.pv (i := 4) (l' := #[true, true, true, true, true, false, false, false, false, false, false, false, false]) rfl (by kernel_rfl) rfl (V.indexArr rfl rfl ar_48 (by omega)) rfl rfl ?_
            refine XQ.load (i := 5) (l' := #[true, true, true, true, true, true, false, false, false, false, false, false, false]) (.cells _ _ _ _) [12] rfl (by kernel_rfl) rfl .here (V.load rfl inEnt (encP.ld_free_I _ _ (by omega)) sc_29) rfl (by kernel_rfl) rfl ?_
            refine XQ.pv (i := 6) (l' := #[true, true, true, true, true, true, true, false, false, false, false, false, false]) rfl (by kernel_rfl) rfl (V.move rfl) rfl rfl ?_
            refine XQ.pv (i := 7) (l' := #[true, true, true, true, true, true, true, true, false, false, false, false, false]) rfl (by kernel_rfl) rfl (V.shl rfl rfl (by omega) _ (shl_u64 (by omega))) rfl rfl ?_
            refine XQ.pv (i := 8) (l' := #[true, true, true, true, true, true, true, true, true, false, false, false, false]) rfl (by kernel_rfl) rfl (V.bits rfl rfl rfl (BB.mask_lt _ _) (two_lt (by omega)) rfl) rfl rfl ?_
            refine XQ.pv (i := 9) (l' := #[true, true, true, true, true, true, true, true, true, true, false, false, false]) rfl (by kernel_rfl) rfl (V.nilCheckP rfl) rfl rfl ?_
            refine XQ.pv (i := 10) (l' := #[true, true, true, true, true, true, true, true, true, true, true, false, false]) rfl (by kernel_rfl) rfl (V.fieldAddr rfl fo_50_0) rfl rfl ?_
            refine XQ.pv (i := 11) (l' := #[true, true, true, true, true, true, true, true, true, true, true, true, false]) rfl (by kernel_rfl) rfl (V.indexArr rfl rfl ar_48 (by omega)) rfl rfl ?_
            refine XQ.store (i := 12) (l' := #[true, true, true, true, true, true, true, true, true, true, true, true, true]) rfl (by kernel_rfl) rfl rfl rfl .here (encP_free _ x.1 _ (by omega) (BB.bare_mask x1 hxi x2)) rfl sz_29_1 (fun _ hw' => ⟨fun hs => (hs 12 (by simp) rfl).elim, trivial⟩) ?_
            refine XQ.done (by kernel_rfl) ?_
            refine XE.next ?_
            refine XC.keep [] (Sub.nil _) ?_
            refine XC.seq ?_
            refine XC.region ?_
            refine XO.v (V.assign rfl) rfl ?_
            refine XO.nil ?_
            refine XE.next ?_
            refine XC.keep [(4, _)] (Sub.cons rfl (Sub.nil _)) ?_
            refine XC.ret ?_
            refine XE.ret1 rfl rfl (post_of (.cons .here .nil) rfl ?_)
            rw [← hfin, BB.give_ok his]; exact ⟨rfl, rfl⟩
          · skip
            have h9 : ¬ (((((x.1.hide x.2).mask (x.1.ord x.2 - 1)) >>> (x.1.buddy x.2).toNat) &&& 1 : Nat) : Int) = 0 := h5
            have hc : x.1.canJoin x.2 := by
              apply Classical.byContradiction
              intro q
              simp only [q, decide_false, Bool.false_eq_true, if_false] at hb
              omega
            obtain ⟨j1, _, _, _, j5, j6⟩ := hx.join1 x1 x2 hc
            refine XC.skip ?_
            refine XE.next ?_
            refine XC.keep [(0, _), (1, _), (5, _), (6, _)] (Sub.cons rfl (Sub.cons rfl (Sub.cons rfl (Sub.cons rfl (Sub.nil _))))) ?_
            refine XC.seq ?_
            refine XC.regionQ mixed (f := 13) (l := #[false, false, false, false, false, false, false, false, false, false, false, false, false]) rfl rfl XM.drawn' ?_
            refine XQ.pv (i := 0) (l' := #[true, false, false, false, false, false, false, false, false, false, false, false, false]) rfl (by kernel_rfl) rfl (V.move rfl) rfl rfl ?_
            refine XQ.pv (i := 1) (l' := #[true, true, false, false, false, false, false, false, false, false, false, false, false]) rfl (by kernel_rfl) rfl (V.move rfl) rfl rfl ?_
            refine XQ.pv (i := 2) (l' := #[true, true, true, false, false, false, false, false, false, false, false, false, false]) rfl (by kernel_rfl) rfl (V.nilCheckP rfl) rfl rfl ?_
            refine XQ.pv (i := 3) (l' := #[true, true, true, true, false, false, false, false, false, false, false, false, false]) rfl (by kernel_rfl) rfl (V.fieldAddr rfl fo_50_0) rfl rfl ?_
            refine XQ.pv (i := 4) (l' := #[true, true, true, true, true, false, false, false, false, false, false, false, false]) rfl (by kernel_rfl) rfl (V.indexArr rfl rfl ar_48 (by omega)) rfl rfl ?_
            refine XQ.load (i := 5) (l' := #[true, true, true, true, true, true, false, false, false, false, false, false, false]) (.cells _ _ _ _) [12] rfl (by kernel_rfl) rfl .here (V.load rfl inEnt (encP.ld_free_I _ _ (by omega)) sc_29) rfl (by kernel_rfl) rfl ?_
            refine XQ.pv (i := 6) (l' := #[true, true, true, true, true, true, true, false, false, false, false, false, false]) rfl (by kernel_rfl) rfl (V.move rfl) rfl rfl ?_
            refine XQ.pv (i := 7) (l' := #[true, true, true, true, true, true, true, true, false, false, false, false, false]) rfl (by kernel_rfl) rfl (V.shl rfl rfl (by omega) _ (shl_u64 (by omega))) rfl rfl ?_
            refine XQ.pv (i := 8) (l' := #[true, true, true, true, true, true, true, true, true, false, false, false, false]) rfl (by kernel_rfl) rfl (V.bits rfl rfl rfl (BB.mask_lt _ _) (two_lt (by omega)) rfl) rfl rfl ?_
            refine XQ.pv (i := 9) (l' := #[true, true, true, true, true, true, true, true, true, true, false, false, false]) rfl (by kernel_rfl) rfl (V.nilCheckP rfl) rfl rfl ?_
            refine XQ.pv (i := 10) (l' := #[true, true, true, true, true, true, true, true, true, true, true, false, false]) rfl (by kernel_rfl) rfl (V.fieldAddr rfl fo_50_0) rfl rfl ?_
            refine XQ.pv (i := 11) (l' := #[true, true, true, true, true, true, true, true, true, true, true, true, false]) rfl (by kernel_rfl) rfl (V.indexArr rfl rfl ar_48 (by omega)) rfl rfl ?_
            refine XQ.store (i := 12) (l' := #[true, true, true, true, true, true, true, true, true, true, true, true, true]) rfl (by kernel_rfl) rfl rfl rfl .here (encP_free _ ((x.1.join1 x.2).hide (min x.2 (x.1.buddy x.2))) _ (by omega) (hx.join_mask x1 hc)) rfl sz_29_1 (fun _ hw' => ⟨fun hs => (hs 12 (by simp) rfl).elim, trivial⟩) ?_
            refine XQ.done (by kernel_rfl) ?_
            refine XE.next ?_
            refine XC.keep [(0, _), (1, _), (5, _)] (Sub.cons rfl (Sub.cons rfl (Sub.cons rfl (Sub.nil _)))) ?_
            refine XC.seq ?_
            refine XC.region ?_
            refine XO.v (V.move rfl) rfl ?_
            refine XO.v (V.move rfl) rfl ?_
            refine XO.v (V.shl rfl rfl (by omega) _ (shl_i64 (by omega))) rfl ?_
            refine XO.v (V.bitsZ rfl rfl (z := (min x.2 (x.1.buddy x.2))) (by omega) (by omega) (by omega) rfl (by rw [p2_toNat]; exact q2)) rfl ?_
            refine XO.v (V.assign rfl) rfl ?_
            refine XO.nil ?_
            refine XE.next ?_
            refine XC.keep [(0, _), (1, _), (5, _)] (Sub.cons rfl (Sub.cons rfl (Sub.cons rfl (Sub.nil _)))) ?_
            refine XC.region ?_
            refine XO.v (V.move rfl) rfl ?_
            refine XO.v (V.add rfl rfl _ (IntWalk.i64_in _ (by omega))) rfl ?_
            refine XO.v (V.assign rfl) rfl ?_
            refine XO.nil ?_
            refine XE.blockNormal ?_
            refine XE.again ((x.1.join1 x.2, (min x.2 (x.1.buddy x.2)))) ?_ ?_ (Sub.cons rfl (Sub.cons (eqi (by show x.1.ord x.2 - 1 + 1 = (x.1.join1 x.2).ord (min x.2 (x.1.buddy x.2)) - 1; rw [j5]; omega)) (Sub.cons rfl (Sub.nil _)))) (fun _ hw => XM.pick (.cons .here .nil) hw)
            · skip
              (show (7 - (x.1.join1 x.2).ord (min x.2 (x.1.buddy x.2))).toNat < (7 - x.1.ord x.2).toNat; rw [j5]; omega)
            · skip
              refine ⟨j1, by show 0 < (x.1.join1 x.2).ord (min x.2 (x.1.buddy x.2)); rw [j5]; omega, j6, ?_⟩
              show BB.joins (7 - (x.1.join1 x.2).ord (min x.2 (x.1.buddy x.2))).toNat (x.1.join1 x.2) (min x.2 (x.1.buddy x.2)) = _
              rw [← x3, j5, show (7 - x.1.ord x.2).toNat = (7 - (x.1.ord x.2 + 1)).toNat + 1 from by omega, BB.joins, if_pos hc]
        · skip
          have hx9 : BB.joins (7 - b.ord a).toNat (b.bare a) a = x.1 := by rw [← x3, show (7 - x.1.ord x.2).toNat = 0 from by omega]; rfl
          have hfin := hI.give_pool his
          rw [hx9] at hfin
          refine XC.exit ?_
          refine XE.thenExit ?_
          refine XE.thenExit ?_
          refine XE.blockExit ?_
          refine XE.next ?_
          refine XC.keep [(0, _), (1, _), (5, _)] (Sub.cons rfl (Sub.cons rfl (Sub.cons rfl (Sub.nil _)))) ?_
          refine XC.seq ?_
          refine XC.regionQ mixed (f := 13) (l := #[false, false, false, false, false, false, false, false, false, false, false, false, false]) rfl rfl XM.drawn' ?_
          refine XQ.pv (i := 0) (l' := #[true, false, false, false, false, false, false, false, false, false, false, false, false]) rfl (by kernel_rfl) rfl (V.move rfl) rfl rfl ?_
          refine XQ.pv (i := 1) (l' := #[true, true, false, false, false, false, false, false, false, false, false, false, false]) rfl (by kernel_rfl) rfl (V.move rfl) rfl rfl ?_
          refine XQ.pv (i := 2) (l' := #[true, true, true, false, false, false, false, false, false, false, false, false, false]) rfl (by kernel_rfl) rfl (V.nilCheckP rfl) rfl rfl ?_
          refine XQ.pv (i := 3) (l' := #[true, true, true, true, false, false, false, false, false, false, false, false, false]) rfl (by kernel_rfl) rfl (V.fieldAddr rfl fo_50_0) rfl rfl ?_
          refine XQ.pv (i := 4) (l' := #[true, true, true, true, true, false, false, false, false, false, false, false, false]) rfl (by kernel_rfl) rfl (V.indexArr rfl rfl ar_48 (by omega)) rfl rfl ?_
          refine XQ.load (i := 5) (l' := #[true, true, true, true, true, true, false, false, false, false, false, false, false]) (.cells _ _ _ _) [12] rfl (by kernel_rfl) rfl .here (V.load rfl inEnt (encP.ld_free_I _ _ (by omega)) sc_29) rfl (by kernel_rfl) rfl ?_
          refine XQ.pv (i := 6) (l' := #[true, true, true, true, true, true, true, false, false, false, false, false, false]) rfl (by kernel_rfl) rfl (V.move rfl) rfl rfl ?_
          refine XQ.pv (i := 7) (l' := #[true, true, true, true, true, true, true, true, false, false, false, false, false]) rfl (by kernel_rfl) rfl (V.shl rfl rfl (by omega) _ (shl_u64 (by omega))) rfl rfl ?_
          refine XQ.pv (i := 8) (l' := #[true, true, true, true, true, true, true, true, true, false, false, false, false]) rfl (by kernel_rfl) rfl (V.bits rfl rfl rfl (BB.mask_lt _ _) (two_lt (by omega)) rfl) rfl rfl ?_
          refine XQ.pv (i := 9) (l' := #[true, true, true, true, true, true, true, true, true, true, false, false, false]) rfl (by kernel_rfl) rfl (V.nilCheckP rfl) rfl rfl ?_
          refine XQ.pv (i := 10) (l' := #[true, true, true, true, true, true, true, true, true, true, true, false, false]) rfl (by kernel_rfl) rfl (V.fieldAddr rfl fo_50_0) rfl rfl ?_
          refine XQ.pv (i := 11) (l' := #[true, true, true, true, true, true, true, true, true, true, true, true, false]) rfl (by kernel_rfl) rfl (V.indexArr rfl rfl ar_48 (by omega)) rfl rfl ?_
          refine XQ.store (i := 12) (l' := #[true, true, true, true, true, true, true, true, true, true, true, true, true]) rfl (by kernel_rfl) rfl rfl rfl .here (encP_free _ x.1 _ (by omega) (BB.bare_mask x1 hxi x2)) rfl sz_29_1 (fun _ hw' => ⟨fun hs => (hs 12 (by simp) rfl).elim, trivial⟩) ?_
          refine XQ.done (by kernel_rfl) ?_
          refine XE.next ?_
          refine XC.keep [] (Sub.nil _) ?_
          refine XC.seq ?_
          refine XC.region ?_
          refine XO.v (V.assign rfl) rfl ?_
          refine XO.nil ?_
          refine XE.next ?_
          refine XC.keep [(4, _)] (Sub.cons rfl (Sub.nil _)) ?_
          refine XC.ret ?_
          refine XE.ret1 rfl rfl (post_of (.cons .here .nil) rfl ?_)
          rw [← hfin, BB.give_ok his]; exact ⟨rfl, rfl⟩
set_option maxRecDepth 10000 in
set_option maxHeartbeats 400000 in
theorem p_Order (p o : Nat) (b : BB) (hI : b.Inv) (a : Int) : Spec Tryd.prog 17 [ptr p o 0, .int .i64 a]
    [.cells p o 71 (encP b.pool)]
    (fun v H1 => v = .tuple #[.int .i64 (b.order a).1, errv 54 (b.order a).2] ∧ H1 = [.cells p o 71 (encP b.pool)]) := by
  refine Spec.intro Tryd.func17 rfl rfl ?_
  intro W
  refine XC.seq ?_
  refine XC.region ?_
  refine XO.v (V.assign rfl) rfl ?_
  refine XO.v (V.assign rfl) rfl ?_
  refine XO.nil ?_
  refine XE.next ?_
  refine XC.keep [(0, _), (1, _)] (Sub.cons rfl (Sub.cons rfl (Sub.nil _))) ?_
  refine XC.seq ?_
  refine XC.seq ?_
  refine XC.region ?_
  refine XO.v (V.move rfl) rfl ?_
  refine XO.v (V.cmp rfl rfl rfl) rfl ?_
  refine XO.v (V.move rfl) rfl ?_
  refine XO.splitP (d := 8) rfl (fun h1 => ?_) (fun h1 => ?_)
  · skip
    refine XO.guardSkip rfl rfl rfl rfl rfl ?_
    refine XO.guardSkip rfl rfl rfl rfl rfl ?_
    refine XO.v (V.pick rfl rfl rfl rfl) rfl ?_
    refine XO.nil ?_
    refine XE.next ?_
    refine XC.keep [(0, _), (1, _), (11, _)] (Sub.cons rfl (Sub.cons rfl (Sub.cons rfl (Sub.nil _)))) ?_
    refine XC.condT rfl rfl ?_
    refine XC.seq ?_
    refine XC.region ?_
    refine XO.v (V.makeIface rfl Tryd.underlying54 (by simp)) rfl ?_
    refine XO.v (V.assign rfl) rfl ?_
    refine XO.v (V.assign rfl) rfl ?_
    refine XO.nil ?_
    refine XE.next ?_
    refine XC.keep [(4, _), (5, _)] (Sub.cons rfl (Sub.cons rfl (Sub.nil _))) ?_
    refine XC.ret ?_
    refine XE.thenRet ?_
    refine XE.ret2 rfl rfl rfl (post_of (.cons .here .nil) rfl ?_)
    have his := BB.is_bound (b := b) (a := a) (by omega)
    rw [BB.order_err (by omega), his]; exact ⟨rfl, rfl⟩
  · skip
    refine XO.guardRun rfl rfl rfl ?_
    refine XO.v (V.move rfl) rfl ?_
    refine XO.guardRun rfl rfl rfl ?_
    refine XO.v (V.cmp rfl rfl rfl) rfl ?_
    refine XO.v (V.pick rfl rfl rfl rfl) rfl ?_
    refine XO.nil ?_
    refine XE.next ?_
    refine XC.keep [(0, _), (1, _), (11, _)] (Sub.cons rfl (Sub.cons rfl (Sub.cons rfl (Sub.nil _)))) ?_
    refine XC.condP rfl (fun h2 => ?_) (fun h2 => ?_)
    · skip
      refine XC.seq ?_
      refine XC.region ?_
      refine XO.v (V.makeIface rfl Tryd.underlying54 (by simp)) rfl ?_
      refine XO.v (V.assign rfl) rfl ?_
      refine XO.v (V.assign rfl) rfl ?_
      refine XO.nil ?_
      refine XE.next ?_
      refine XC.keep [(4, _), (5, _)] (Sub.cons rfl (Sub.cons rfl (Sub.nil _))) ?_
      refine XC.ret ?_
      refine XE.thenRet ?_
      refine XE.ret2 rfl rfl rfl (post_of (.cons .here .nil) rfl ?_)
      have his := BB.is_bound (b := b) (a := a) (by omega)
      rw [BB.order_err (by omega), his]; exact ⟨rfl, rfl⟩
    · skip
      refine XC.skip ?_
      refine XE.next ?_
      refine XC.keep [(0, _), (1, _)] (Sub.cons rfl (Sub.cons rfl (Sub.nil _))) ?_
      refine XC.seq ?_
      refine XC.seq ?_
      refine XC.region ?_
      refine XO.v (V.move rfl) rfl ?_
      refine XO.v (V.move rfl) rfl ?_
      refine XO.v (V.nilCheckP rfl) rfl ?_
      refine XO.v (V.fieldAddr rfl fo_50_1) rfl ?_
      refine XO.v (V.indexArr rfl rfl ar_44 (by omega)) rfl ?_
      refine XO.v (V.load rfl (inXM .here) (encP.ld_used_I _ _ (by omega)) sc_3) rfl ?_
      refine XO.v (V.cmp rfl rfl rfl) rfl ?_
      refine XO.nil ?_
      refine XE.next ?_
      refine XC.keep [(0, _), (1, _), (19, _)] (Sub.cons rfl (Sub.cons rfl (Sub.cons rfl (Sub.nil _)))) ?_
      refine XC.condP rfl (fun h3 => ?_) (fun h3 => ?_)
      · skip
        have hu : b.usedOf a = 0 := h3
        have his : b.is a = 2 := BB.is_none (by omega) ((hI.used_zero a).1 hu)
        refine XC.seq ?_
        refine XC.region ?_
        refine XO.v (V.makeIface rfl Tryd.underlying54 (by simp)) rfl ?_
        refine XO.v (V.assign rfl) rfl ?_
        refine XO.v (V.assign rfl) rfl ?_
        refine XO.nil ?_
        refine XE.next ?_
        refine XC.keep [(4, _), (5, _)] (Sub.cons rfl (Sub.cons rfl (Sub.nil _))) ?_
        refine XC.ret ?_
        refine XE.thenRet ?_
        refine XE.ret2 rfl rfl rfl (post_of (.cons .here .nil) rfl ?_)
        rw [BB.order_err (by omega), his]; exact ⟨rfl, rfl⟩
      · skip
        have hu : ¬ b.usedOf a = 0 := h3
        obtain ⟨ht, ho⟩ := (hI.used_zero a).2 hu
        have hpos := hI.tk a ht
        have hrg := hI.rng a
        have his : b.is a = 0 := BB.is_ok (by omega) ht
        refine XC.skip ?_
        refine XE.next ?_
        refine XC.keep [(0, _), (1, _)] (Sub.cons rfl (Sub.cons rfl (Sub.nil _))) ?_
        refine XC.seq ?_
        refine XC.region ?_
        refine XO.v (V.move rfl) rfl ?_
        refine XO.v (V.move rfl) rfl ?_
        refine XO.v (V.nilCheckP rfl) rfl ?_
        refine XO.v (V.fieldAddr rfl fo_50_1) rfl ?_
        refine XO.v (V.indexArr rfl rfl ar_44 (by omega)) rfl ?_
        refine XO.v (V.load rfl (inXM .here) (encP.ld_used_I _ _ (by omega)) sc_3) rfl ?_
        refine XO.v (V.sub rfl rfl (b.ord a - 1) (by rw [show b.pool.u a = b.ord a from ho]; exact IntWalk.i64_in _ (by omega))) rfl ?_
        refine XO.v (V.assign rfl) rfl ?_
        refine XO.v (V.assign rfl) rfl ?_
        refine XO.nil ?_
        refine XE.next ?_
        refine XC.keep [(4, _), (5, _)] (Sub.cons rfl (Sub.cons rfl (Sub.nil _))) ?_
        refine XC.ret ?_
        refine XE.ret2 rfl rfl rfl (post_of (.cons .here .nil) rfl ?_)
        rw [BB.order_ok his]; exact ⟨rfl, rfl⟩
set_option maxRecDepth 10000 in
set_option maxHeartbeats 400000 in
theorem p_Free (p o : Nat) (b : BB) (hI : b.Inv) (k : Int) : Spec Tryd.prog 16 [ptr p o 0, .int .i64 k]
    [.cells p o 71 (encP b.pool), .ro 0 0 64 tab64]
    (fun v H1 => ∃ r cap, v = .tuple #[.slice r (b.frees k).1.length cap, errv 54 (b.frees k).2] ∧ H1 = [irow r cap 3 (b.frees k).1, .cells p o 71 (encP b.pool)]) := by
  refine Spec.intro Tryd.func16 rfl rfl ?_
  intro W
  refine XC.seq ?_
  refine XC.region ?_
  refine XO.v (V.assign rfl) rfl ?_
  refine XO.v (V.assign rfl) rfl ?_
  refine XO.nil ?_
  refine XE.next ?_
  refine XC.keep [(0, _), (1, _)] (Sub.cons rfl (Sub.cons rfl (Sub.nil _))) ?_
  refine XC.seq ?_
  refine XC.seq ?_
  refine XC.region ?_
  refine XO.v (V.move rfl) rfl ?_
  refine XO.v (V.cmp rfl rfl rfl) rfl ?_
  refine XO.v (V.move rfl) rfl ?_
  refine XO.splitP (d := 10) rfl (fun h1 => ?_) (fun h1 => ?_)
  · skip
    refine XO.guardSkip rfl rfl rfl rfl rfl ?_
    refine XO.guardSkip rfl rfl rfl rfl rfl ?_
    refine XO.v (V.pick rfl rfl rfl rfl) rfl ?_
    refine XO.nil ?_
    refine XE.next ?_
    refine XC.keep [(0, _), (1, _), (13, _)] (Sub.cons rfl (Sub.cons rfl (Sub.cons rfl (Sub.nil _)))) ?_
    refine XC.condT rfl rfl ?_
    refine XC.seq ?_
    refine XC.region ?_
    refine XO.v (V.makeIface rfl Tryd.underlying54 (by simp)) rfl ?_
    refine XO.v (V.assign rfl) rfl ?_
    refine XO.nilRow 3 1 ?_
    refine XO.v (V.assign rfl) rfl ?_
    refine XO.nil ?_
    refine XE.next ?_
    refine XC.keep [(4, _), (5, _)] (Sub.cons rfl (Sub.cons rfl (Sub.nil _))) ?_
    refine XC.ret ?_
    refine XE.thenRet ?_
    refine XE.ret2 rfl rfl rfl (post_of (.cons .here (.cons .here .nil)) rfl ?_)
    rw [BB.frees_err (by omega)]; exact ⟨none, 0, rfl, rfl⟩
  · skip
    refine XO.guardRun rfl rfl rfl ?_
    refine XO.v (V.move rfl) rfl ?_
    refine XO.guardRun rfl rfl rfl ?_
    refine XO.v (V.cmp rfl rfl rfl) rfl ?_
    refine XO.v (V.pick rfl rfl rfl rfl) rfl ?_
    refine XO.nil ?_
    refine XE.next ?_
    refine XC.keep [(0, _), (1, _), (13, _)] (Sub.cons rfl (Sub.cons rfl (Sub.cons rfl (Sub.nil _)))) ?_
    refine XC.condP rfl (fun h2 => ?_) (fun h2 => ?_)
    · skip
      refine XC.seq ?_
      refine XC.region ?_
      refine XO.v (V.makeIface rfl Tryd.underlying54 (by simp)) rfl ?_
      refine XO.v (V.assign rfl) rfl ?_
      refine XO.nilRow 3 1 ?_
      refine XO.v (V.assign rfl) rfl ?_
      refine XO.nil ?_
      refine XE.next ?_
      refine XC.keep [(4, _), (5, _)] (Sub.cons rfl (Sub.cons rfl (Sub.nil _))) ?_
      refine XC.ret ?_
      refine XE.thenRet ?_
      refine XE.ret2 rfl rfl rfl (post_of (.cons .here (.cons .here .nil)) rfl ?_)
      rw [BB.frees_err (by omega)]; exact ⟨none, 0, rfl, rfl⟩
    · skip
      refine XC.skip ?_
      refine XE.next ?_
      refine XC.keep [(0, _), (1, _)] (Sub.cons rfl (Sub.cons rfl (Sub.nil _))) ?_
      refine XC.seq ?_
      refine XC.region ?_
      refine XO.v (V.assign rfl) rfl ?_
      refine XO.nilRow 3 1 ?_
      refine XO.nil ?_
      refine XE.next ?_
      refine XC.keep [(0, _), (1, _), (6, _)] (Sub.cons rfl (Sub.cons rfl (Sub.cons rfl (Sub.nil _)))) ?_
      refine XC.seq ?_
      refine XC.seq ?_
      refine XC.region ?_
      refine XO.v (V.move rfl) rfl ?_
      refine XO.v (V.move rfl) rfl ?_
      refine XO.v (V.nilCheckP rfl) rfl ?_
      refine XO.v (V.fieldAddr rfl fo_50_0) rfl ?_
      refine XO.v (V.indexArr rfl rfl ar_48 (by omega)) rfl ?_
      refine XO.v (V.load rfl (inXM (.there .here)) (encP.ld_free_I _ _ (by omega)) sc_29) rfl ?_
      refine XO.v (V.assign rfl) rfl ?_
      refine XO.nil ?_
      refine XE.next ?_
      refine XC.keep [(6, _), (7, _)] (Sub.cons rfl (Sub.cons rfl (Sub.nil _))) ?_
      refine XC.block ?_
      refine XC.loop (σ := (Nat × Nat) × List Int × Option Addr × Nat) (fun x => 64 - x.1.2) (fun x => x.1.1 < 18446744073709551616 ∧ x.1.2 ≤ 64 ∧ (∀ j : Nat, x.1.1.testBit j = (decide (x.1.2 ≤ j) && (decide (j < 64) && b.at_ k j))) ∧ x.2.1 = allL (b.at_ k) x.1.2) (fun x => [(6, .slice x.2.2.1 x.2.1.length x.2.2.2), (7, .int .u64 (x.1.1 : Int))]) (fun x => XM W (foot [.cells p o 71 (encP b.pool), .ro 0 0 64 tab64]) [irow x.2.2.1 x.2.2.2 3 x.2.1, .cells p o 71 (encP b.pool), .ro 0 0 64 tab64]) (((b.mask k, 0), [], none, 0)) ?_ (Sub.cons rfl (Sub.cons rfl (Sub.nil _))) (fun _ hw => XM.pick (.cons .here (.cons .here (.cons .here .nil))) hw) ?_
      · skip
        exact ⟨BB.mask_lt _ _, by simp, fun j => by rw [BB.mask_bit]; simp, rfl⟩
      intro x hx
      obtain ⟨hx1, hx2, hx3, hx4⟩ := hx
      have hlen := allL_length (b.at_ k) x.1.2
      rw [← hx4] at hlen
      refine XC.seq ?_
      refine XC.seq ?_
      refine XC.region ?_
      refine XO.v (V.move rfl) rfl ?_
      refine XO.v (V.cmp rfl rfl rfl) rfl ?_
      refine XO.nil ?_
      refine XE.next ?_
      refine XC.keep [(6, _), (7, _), (22, _)] (Sub.cons rfl (Sub.cons rfl (Sub.cons rfl (Sub.nil _)))) ?_
      refine XC.condP rfl (fun h3 => ?_) (fun h3 => ?_)
      · skip
        have hne : x.1.1 ≠ 0 := by omega
        obtain ⟨t, ht, hl⟩ := low_exists hne
        have hb := ht
        rw [hx3] at hb
        simp only [Bool.and_eq_true, decide_eq_true_eq] at hb
        obtain ⟨hb1, hb2, hb3⟩ := hb
        refine XC.skip ?_
        refine XE.next ?_
        refine XC.keep [(6, _), (7, _)] (Sub.cons rfl (Sub.cons rfl (Sub.nil _))) ?_
        refine XC.seq ?_
        refine XC.block ?_
        refine XC.region ?_
        refine XO.v (V.move rfl) rfl ?_
        refine XO.v (V.move rfl) rfl ?_
        refine XO.callR 0 rfl (p_tz x.1.1 t hx1 ht hl hb2) (.cons (.there (.there .here)) .nil) rfl cl_18 rfl ?_
        rintro _ _ ⟨rfl, rfl⟩
        refine XO.buildSlice (A := #[.int .i64 _]) (vs := #[(0, .int .i64 _)]) rfl (bs1_45 _) rfl rfl ?_
        intro h4
        refine XO.appendI (e := 3) rfl rfl Tryd.underlying45 rt_3_1 (.there (.there .here)) .here (by omega) rfl ?_
        intro h5 h6
        refine XO.v (V.assign rfl) rfl ?_
        refine XO.nil ?_
        refine XE.blockNormal ?_
        refine XE.next ?_
        refine XC.keep [(6, _), (7, _)] (Sub.cons rfl (Sub.cons rfl (Sub.nil _))) ?_
        refine XC.region ?_
        refine XO.v (V.move rfl) rfl ?_
        refine XO.v (V.move rfl) rfl ?_
        refine XO.v (V.sub rfl rfl _ (sub_u64 ⟨by omega, by omega⟩)) rfl ?_
        refine XO.v (V.bits rfl rfl rfl (show x.1.1 < 18446744073709551616 by omega) (show x.1.1 - 1 < 18446744073709551616 by omega) rfl) rfl ?_
        refine XO.v (V.assign rfl) rfl ?_
        refine XO.nil ?_
        refine XE.again (((x.1.1 &&& (x.1.1 - 1), t + 1), x.2.1 ++ [(t : Int)], _, _)) ?_ ?_ (Sub.cons rfl (Sub.cons rfl (Sub.nil _))) (fun _ hw => XM.pick (.cons .here (.cons (.there (.there .here)) (.cons (.there .here) .nil))) hw)
        · skip
          (simp; omega)
        · skip
          refine ⟨Nat.lt_of_le_of_lt Nat.and_le_left hx1, by simp; omega, fun j => ?_, ?_⟩
          · show (x.1.1 &&& (x.1.1 - 1)).testBit j = _
            rw [low_clear ht hl, hx3]
            by_cases q1 : j < t
            · have q2 := hl j q1
              rw [hx3] at q2
              have q3 : ¬ t + 1 ≤ j := by omega
              simp only [q2, q3]; rfl
            · by_cases q2 : j = t
              · subst q2; simp; intro q; omega
              · have q3 : t + 1 ≤ j := by omega
                have q4 : x.1.2 ≤ j := by omega
                simp [q2, q3, q4]
          · show x.2.1 ++ [(t : Int)] = allL (b.at_ k) (t + 1)
            rw [hx4]
            refine (allL_to hb1 (fun j j1 j2 => ?_) hb3).symm
            have q4 := hl j j2
            rw [hx3] at q4
            have q6 : j < 64 := by omega
            simpa [j1, q6] using q4
      · skip
        refine XC.exit ?_
        refine XE.thenExit ?_
        refine XE.thenExit ?_
        refine XE.blockExit ?_
        refine XE.next ?_
        refine XC.keep [(6, _)] (Sub.cons rfl (Sub.nil _)) ?_
        refine XC.seq ?_
        refine XC.region ?_
        refine XO.v (V.move rfl) rfl ?_
        refine XO.v (V.assign rfl) rfl ?_
        refine XO.v (V.assign rfl) rfl ?_
        refine XO.nil ?_
        refine XE.next ?_
        refine XC.keep [(4, _), (5, _)] (Sub.cons rfl (Sub.cons rfl (Sub.nil _))) ?_
        refine XC.ret ?_
        refine XE.ret2 rfl rfl rfl (post_of (.cons .here (.cons .here .nil)) rfl ?_)
        have hx0 : x.1.1 = 0 := by omega
        have hd : x.2.1 = allL (b.at_ k) 64 := by
          rw [hx4]
          have h := allL_skip (f := (b.at_ k)) (m := x.1.2) (d := 64 - x.1.2) (fun j h1 h2 => by
            have q4 := hx3 j
            rw [hx0] at q4
            have q6 : j < 64 := by omega
            simpa [h1, q6] using q4)
          rw [show x.1.2 + (64 - x.1.2) = 64 from by omega] at h
          exact h.symm
        rw [BB.frees_ok (by omega), ← hd]
        exact ⟨_, _, rfl, rfl⟩
set_option maxRecDepth 10000 in
set_option maxHeartbeats 400000 in
theorem p_Left (p o : Nat) (b : BB) (hI : b.Inv) : Spec Tryd.prog 15 [ptr p o 0]
    [.cells p o 71 (encP b.pool)]
    (fun v H1 => v = .int .i64 b.left ∧ H1 = [.cells p o 71 (encP b.pool)]) := by
  refine Spec.intro Tryd.func15 rfl rfl ?_
  intro W
  refine XC.seq ?_
  refine XC.region ?_
  refine XO.v (V.assign rfl) rfl ?_
  refine XO.nil ?_
  refine XE.next ?_
  refine XC.keep [(0, _)] (Sub.cons rfl (Sub.nil _)) ?_
  refine XC.seq ?_
  refine XC.region ?_
  refine XO.v (V.assign rfl) rfl ?_
  refine XO.nil ?_
  refine XE.next ?_
  refine XC.keep [(0, _), (3, _)] (Sub.cons rfl (Sub.cons rfl (Sub.nil _))) ?_
  refine XC.seq ?_
  refine XC.seq ?_
  refine XC.region ?_
  refine XO.v (V.move rfl) rfl ?_
  refine XO.v (V.nilCheckP rfl) rfl ?_
  refine XO.v (V.fieldAddr rfl fo_50_0) rfl ?_
  refine XO.v (V.loadAgg rfl (inXM .here) (encP_masks _) ag_48 sz_48_7) rfl ?_
  refine XO.v (V.move rfl) rfl ?_
  refine XO.nil ?_
  refine XE.next ?_
  refine XC.keep [(3, _), (9, _), (10, _)] (Sub.cons rfl (Sub.cons rfl (Sub.cons rfl (Sub.nil _)))) ?_
  refine XC.block ?_
  refine XC.loop (σ := Int × Int) (fun x => (7 - x.1).toNat) (fun x => (0 ≤ x.1 ∧ x.1 ≤ 7) ∧ x.2 = sumN (fun k => cntN (b.at_ k) 64 * p2 k) x.1.toNat ∧ 0 ≤ x.2 ∧ x.2 ≤ 4096 * x.1) (fun x => [(3, .int .i64 x.2), (10, .int .i64 x.1), (9, .agg (arrU b.mask 7))]) (fun x => XM W (foot [.cells p o 71 (encP b.pool)]) [.cells p o 71 (encP b.pool)]) ((0, 0)) ?_ (Sub.cons rfl (Sub.cons rfl (Sub.cons rfl (Sub.nil _)))) (fun _ hw => XM.pick (.cons .here .nil) hw) ?_
  · skip
    exact ⟨by simp, rfl, by simp, by simp⟩
  intro x hx
  obtain ⟨hx, hs, hs0, hs1⟩ := hx
  have hcn := cntN_le (b.at_ x.1) 64
  have hcp := fun h => cnt_p2 (c := cntN (b.at_ x.1) 64) (n := x.1) hcn h
  refine XC.seq ?_
  refine XC.region ?_
  refine XO.v (V.cmp rfl rfl rfl) rfl ?_
  refine XO.nil ?_
  refine XE.next ?_
  refine XC.keep [(3, _), (9, _), (10, _), (11, _)] (Sub.cons rfl (Sub.cons rfl (Sub.cons rfl (Sub.cons rfl (Sub.nil _))))) ?_
  refine XC.seq ?_
  refine XC.condP rfl (fun h1 => ?_) (fun h1 => ?_)
  · skip
    have hcp := hcp (by omega)
    refine XC.skip ?_
    refine XE.next ?_
    refine XC.keep [(3, _), (9, _), (10, _)] (Sub.cons rfl (Sub.cons rfl (Sub.cons rfl (Sub.nil _)))) ?_
    refine XC.seq ?_
    refine XC.block ?_
    refine XC.seq ?_
    refine XC.region ?_
    refine XO.v (V.move rfl) rfl ?_
    refine XO.v (V.indexAgg rfl rfl Tryd.underlying48 sz_29_1 sc_29 (by omega) (arrU_at (by omega))) rfl ?_
    refine XO.v (V.assign rfl) rfl ?_
    refine XO.v (V.assign rfl) rfl ?_
    refine XO.nil ?_
    refine XE.next ?_
    refine XC.keep [(3, _), (4, _), (5, _), (9, _), (10, _)] (Sub.cons rfl (Sub.cons rfl (Sub.cons rfl (Sub.cons rfl (Sub.cons rfl (Sub.nil _)))))) ?_
    refine XC.region ?_
    refine XO.v (V.move rfl) rfl ?_
    refine XO.v (V.move rfl) rfl ?_
    refine XO.call rfl (p_ones (b.at_ x.1) (b.mask x.1) (BB.mask_lt _ _) (fun j hj => by rw [BB.mask_bit]; simp [hj])) .nil cl_24 rfl ?_
    rintro _ _ ⟨rfl, rfl⟩
    refine XO.v (V.move rfl) rfl ?_
    refine XO.v (V.shl rfl rfl (by omega) _ (shl_cnt (by omega) (by omega))) rfl ?_
    refine XO.v (V.add rfl rfl _ (IntWalk.i64_in _ (by omega))) rfl ?_
    refine XO.v (V.assign rfl) rfl ?_
    refine XO.nil ?_
    refine XE.blockNormal ?_
    refine XE.next ?_
    refine XC.keep [(3, _), (9, _), (10, _)] (Sub.cons rfl (Sub.cons rfl (Sub.cons rfl (Sub.nil _)))) ?_
    refine XC.region ?_
    refine XO.v (V.add rfl rfl _ (IntWalk.i64_in _ (by omega))) rfl ?_
    refine XO.v (V.move rfl) rfl ?_
    refine XO.nil ?_
    refine XE.again ((x.1 + 1, x.2 + cntN (b.at_ x.1) 64 * p2 x.1)) ?_ ?_ (Sub.cons rfl (Sub.cons rfl (Sub.cons rfl (Sub.nil _)))) (fun _ hw => XM.pick (.cons .here .nil) hw)
    · skip
      (first | omega | (simp; done) | (simp; omega))
    · skip
      refine ⟨by simp; omega, ?_, by simp; omega, by simp; omega⟩
      show x.2 + _ = sumN _ (x.1 + 1).toNat
      rw [show (x.1 + 1).toNat = x.1.toNat + 1 from by omega, sumN, ← hs, show ((x.1.toNat : Nat) : Int) = x.1 from by omega]
  · skip
    refine XC.exit ?_
    refine XE.thenExit ?_
    refine XE.thenExit ?_
    refine XE.blockExit ?_
    refine XE.next ?_
    refine XC.keep [(3, _)] (Sub.cons rfl (Sub.nil _)) ?_
    refine XC.seq ?_
    refine XC.region ?_
    refine XO.v (V.move rfl) rfl ?_
    refine XO.v (V.assign rfl) rfl ?_
    refine XO.nil ?_
    refine XE.next ?_
    refine XC.keep [(2, _)] (Sub.cons rfl (Sub.nil _)) ?_
    refine XC.ret ?_
    refine XE.ret1 rfl rfl (post_of (.cons .here .nil) rfl ?_)
    obtain h7 : x.1 = 7 := by omega
    rw [h7] at hs
    exact ⟨congrArg (Value.int .i64) (by rw [hs]; exact hI.left_eq), rfl⟩
end Go.X
