import Derived.Test.YtmkfmnhbckbfbabPM
import Derived.Test.YtmkfmnhbckbfbabProg
import Derived.KernelRfl
namespace Go.X
open Go Go.Proofs
theorem mixed : Try.prog.follows .mixedOrders = true := by kernel_rfl
theorem ar_26 : arrOf Try.prog 26 = some (8, 3) := by kernel_rfl
theorem cl_39 : callable Try.prog 39 = true := by kernel_rfl
theorem cl_40 : callable Try.prog 40 = true := by kernel_rfl
theorem fo_25_0 : fieldOff Try.prog 25 0 = some 0 := by kernel_rfl
theorem fo_25_1 : fieldOff Try.prog 25 1 = some 1 := by kernel_rfl
theorem fo_25_2 : fieldOff Try.prog 25 2 = some 2 := by kernel_rfl
theorem fo_28_0 : fieldOff Try.prog 28 0 = some 0 := by kernel_rfl
theorem sc_3 : scal Try.prog 3 = true := by kernel_rfl
theorem sc_9 : scal Try.prog 9 = true := by kernel_rfl
theorem sz_25_3 : szOf Try.prog 25 = some 3 := by kernel_rfl
theorem sz_3_1 : szOf Try.prog 3 = some 1 := by kernel_rfl
theorem sz_9_1 : szOf Try.prog 9 = some 1 := by kernel_rfl
set_option maxRecDepth 10000 in
set_option maxHeartbeats 400000 in
theorem p_is (b o : Nat) (K : Int) (hK : K ≤ 1000000) (s : PS) (hI : s.Inv K) (n : Int) : Spec Try.prog 39 [ptr b o 0, .int .i64 n]
    [.cells b o 24 (encP s)]
    (fun v H1 => ((s.is n = 0 ∧ 0 ≤ n ∧ n < 8) ∧ v = .tuple #[ptr b o (0 + 0 + n.toNat * 3), .nilIface] ∧ H1 = [.cells b o 24 (encP s)]) ∨ (s.is n ≠ 0 ∧ v = .tuple #[.pointer none, .iface 71 (.int .i64 (s.is n))] ∧ H1 = [.cells b o 24 (encP s)])) := by
  have b0 := hI.e0 n
  have b1 := hI.e1 n
  have bl := hI.len n
  refine Spec.intro Try.func39 rfl rfl ?_
  intro W
  refine XC.seq ?_
  refine XC.region ?_
  refine XO.v (V.assign rfl) rfl ?_
  refine XO.v (V.assign rfl) rfl ?_
  refine XO.nil ?_
  refine XE.next ?_
  refine XC.keep [(0, _), (1, _)] (Sub.cons rfl (Sub.cons rfl (Sub.nil _))) ?_
  refine XC.seq ?_
  refine XC.seq ?_
  refine XC.region ?_
  refine XO.v (V.move rfl) rfl ?_
  refine XO.v (V.cmp rfl rfl rfl) rfl ?_
  refine XO.v (V.move rfl) rfl ?_
  refine XO.splitP (d := 8) rfl (fun h1 => ?_) (fun h1 => ?_)
  · skip
    refine XO.guardSkip rfl rfl rfl rfl rfl ?_
    refine XO.guardSkip rfl rfl rfl rfl rfl ?_
    refine XO.v (V.pick rfl rfl rfl rfl) rfl ?_
    refine XO.nil ?_
    refine XE.next ?_
    refine XC.keep [(0, _), (1, _), (11, _)] (Sub.cons rfl (Sub.cons rfl (Sub.cons rfl (Sub.nil _)))) ?_
    refine XC.condT rfl rfl ?_
    refine XC.seq ?_
    refine XC.region ?_
    refine XO.v (V.makeIface rfl Try.underlying71 (by simp)) rfl ?_
    refine XO.v (V.assign rfl) rfl ?_
    refine XO.v (V.assign rfl) rfl ?_
    refine XO.nil ?_
    refine XE.next ?_
    refine XC.keep [(4, _), (5, _)] (Sub.cons rfl (Sub.cons rfl (Sub.nil _))) ?_
    refine XC.ret ?_
    refine XE.thenRet ?_
    refine XE.ret2 rfl rfl rfl (post_of (.cons .here .nil) rfl ?_)
    rcases PS.is_cases s n with ⟨q, q1⟩ | ⟨q, q1⟩ | ⟨q, q1⟩ <;> first | (exfalso; omega) | exact .inl ⟨⟨q, by omega, by omega⟩, rfl, rfl⟩ | exact .inr ⟨by omega, by rw [q], rfl⟩
  · skip
    refine XO.guardRun rfl rfl rfl ?_
    refine XO.v (V.move rfl) rfl ?_
    refine XO.guardRun rfl rfl rfl ?_
    refine XO.v (V.cmp rfl rfl rfl) rfl ?_
    refine XO.v (V.pick rfl rfl rfl rfl) rfl ?_
    refine XO.nil ?_
    refine XE.next ?_
    refine XC.keep [(0, _), (1, _), (11, _)] (Sub.cons rfl (Sub.cons rfl (Sub.cons rfl (Sub.nil _)))) ?_
    refine XC.condP rfl (fun h2 => ?_) (fun h2 => ?_)
    · skip
      refine XC.seq ?_
      refine XC.region ?_
      refine XO.v (V.makeIface rfl Try.underlying71 (by simp)) rfl ?_
      refine XO.v (V.assign rfl) rfl ?_
      refine XO.v (V.assign rfl) rfl ?_
      refine XO.nil ?_
      refine XE.next ?_
      refine XC.keep [(4, _), (5, _)] (Sub.cons rfl (Sub.cons rfl (Sub.nil _))) ?_
      refine XC.ret ?_
      refine XE.thenRet ?_
      refine XE.ret2 rfl rfl rfl (post_of (.cons .here .nil) rfl ?_)
      rcases PS.is_cases s n with ⟨q, q1⟩ | ⟨q, q1⟩ | ⟨q, q1⟩ <;> first | (exfalso; omega) | exact .inl ⟨⟨q, by omega, by omega⟩, rfl, rfl⟩ | exact .inr ⟨by omega, by rw [q], rfl⟩
    · skip
      refine XC.skip ?_
      refine XE.next ?_
      refine XC.keep [(0, _), (1, _)] (Sub.cons rfl (Sub.cons rfl (Sub.nil _))) ?_
      refine XC.seq ?_
      refine XC.seq ?_
      refine XC.regionQ mixed (f := 16) (l := #[false, false, false, false, false, false, false, false, false, false, false, false, false, false, false, false]) rfl rfl XM.drawn' ?_
      refine XQ.pv (i := 0) (l' := #[true, false, false, false, false, false, false, false, false, false, false, false, false, false, false, false]) rfl (by kernel_rfl) rfl (V.move rfl) rfl rfl ?_
      refine XQ.pv (i := 1) (l' := #[true, true, false, false, false, false, false, false, false, false, false, false, false, false, false, false]) rfl (by kernel_rfl) rfl (V.move rfl) rfl rfl ?_
      refine XQ.pv (i := 2) (l' := #[true, true, true, false, false, false, false, false, false, false, false, false, false, false, false, false]) rfl (by kernel_rfl) rfl (V.nilCheckP rfl) rfl rfl ?_
      refine XQ.pv (i := 3) (l' := #[true, true, true, true, false, false, false, false, false, false, false, false, false, false, false, false]) rfl (by kernel_rfl) rfl (V.fieldAddr rfl fo_28_0) rfl rfl ?_
      refine XQ.pv (i := 4) (l' := #[true, true, true, true, true, false, false, false, false, false, false, false, false, false, false, false]) rfl (by kernel_rfl) rfl (V.indexArr rfl rfl ar_26 (by omega)) rfl rfl ?_
      refine XQ.pv (i := 5) (l' := #[true, true, true, true, true, true, false, false, false, false, false, false, false, false, false, false]) rfl (by kernel_rfl) rfl (V.fieldAddr rfl fo_25_1) rfl rfl ?_
      refine XQ.load (i := 6) (l' := #[true, true, true, true, true, true, true, false, false, false, false, false, false, false, false, false]) (.cells _ _ _ _) [] rfl (by kernel_rfl) rfl .here (V.load rfl inEnt (encP.ld_p_I_reads _ _ (by omega)) sc_3) rfl (by kernel_rfl) rfl ?_
      refine XQ.pv (i := 7) (l' := #[true, true, true, true, true, true, true, true, false, false, false, false, false, false, false, false]) rfl (by kernel_rfl) rfl (V.move rfl) rfl rfl ?_
      refine XQ.pv (i := 8) (l' := #[true, true, true, true, true, true, true, true, true, false, false, false, false, false, false, false]) rfl (by kernel_rfl) rfl (V.move rfl) rfl rfl ?_
      refine XQ.pv (i := 9) (l' := #[true, true, true, true, true, true, true, true, true, true, false, false, false, false, false, false]) rfl (by kernel_rfl) rfl (V.nilCheckP rfl) rfl rfl ?_
      refine XQ.pv (i := 10) (l' := #[true, true, true, true, true, true, true, true, true, true, true, false, false, false, false, false]) rfl (by kernel_rfl) rfl (V.fieldAddr rfl fo_28_0) rfl rfl ?_
      refine XQ.pv (i := 11) (l' := #[true, true, true, true, true, true, true, true, true, true, true, true, false, false, false, false]) rfl (by kernel_rfl) rfl (V.indexArr rfl rfl ar_26 (by omega)) rfl rfl ?_
      refine XQ.pv (i := 12) (l' := #[true, true, true, true, true, true, true, true, true, true, true, true, true, false, false, false]) rfl (by kernel_rfl) rfl (V.fieldAddr rfl fo_25_2) rfl rfl ?_
      refine XQ.load (i := 13) (l' := #[true, true, true, true, true, true, true, true, true, true, true, true, true, true, false, false]) (.cells _ _ _ _) [] rfl (by kernel_rfl) rfl .here (V.load rfl inEnt (encP.ld_p_I_writes _ _ (by omega)) sc_3) rfl (by kernel_rfl) rfl ?_
      refine XQ.pv (i := 14) (l' := #[true, true, true, true, true, true, true, true, true, true, true, true, true, true, true, false]) rfl (by kernel_rfl) rfl (V.add rfl rfl _ (IntWalk.i64_in _ (by omega))) rfl rfl ?_
      refine XQ.pv (i := 15) (l' := #[true, true, true, true, true, true, true, true, true, true, true, true, true, true, true, true]) rfl (by kernel_rfl) rfl (V.cmp rfl rfl rfl) rfl rfl ?_
      refine XQ.done (by kernel_rfl) ?_
      refine XE.next ?_
      refine XC.keep [(0, _), (1, _), (28, _)] (Sub.cons rfl (Sub.cons rfl (Sub.cons rfl (Sub.nil _)))) ?_
      refine XC.condP rfl (fun h3 => ?_) (fun h3 => ?_)
      · skip
        refine XC.seq ?_
        refine XC.region ?_
        refine XO.v (V.makeIface rfl Try.underlying71 (by simp)) rfl ?_
        refine XO.v (V.assign rfl) rfl ?_
        refine XO.v (V.assign rfl) rfl ?_
        refine XO.nil ?_
        refine XE.next ?_
        refine XC.keep [(4, _), (5, _)] (Sub.cons rfl (Sub.cons rfl (Sub.nil _))) ?_
        refine XC.ret ?_
        refine XE.thenRet ?_
        refine XE.ret2 rfl rfl rfl (post_of (.cons .here .nil) rfl ?_)
        rcases PS.is_cases s n with ⟨q, q1⟩ | ⟨q, q1⟩ | ⟨q, q1⟩ <;> first | (exfalso; omega) | exact .inl ⟨⟨q, by omega, by omega⟩, rfl, rfl⟩ | exact .inr ⟨by omega, by rw [q], rfl⟩
      · skip
        refine XC.skip ?_
        refine XE.next ?_
        refine XC.keep [(0, _), (1, _)] (Sub.cons rfl (Sub.cons rfl (Sub.nil _))) ?_
        refine XC.seq ?_
        refine XC.region ?_
        refine XO.v (V.move rfl) rfl ?_
        refine XO.v (V.move rfl) rfl ?_
        refine XO.v (V.nilCheckP rfl) rfl ?_
        refine XO.v (V.fieldAddr rfl fo_28_0) rfl ?_
        refine XO.v (V.indexArr rfl rfl ar_26 (by omega)) rfl ?_
        refine XO.v (V.assign rfl) rfl ?_
        refine XO.v (V.assign rfl) rfl ?_
        refine XO.nil ?_
        refine XE.next ?_
        refine XC.keep [(4, _), (5, _)] (Sub.cons rfl (Sub.cons rfl (Sub.nil _))) ?_
        refine XC.ret ?_
        refine XE.ret2 rfl rfl rfl (post_of (.cons .here .nil) rfl ?_)
        rcases PS.is_cases s n with ⟨q, q1⟩ | ⟨q, q1⟩ | ⟨q, q1⟩ <;> first | (exfalso; omega) | exact .inl ⟨⟨q, by omega, by omega⟩, rfl, rfl⟩ | exact .inr ⟨by omega, by rw [q], rfl⟩
set_option maxRecDepth 10000 in
set_option maxHeartbeats 400000 in
theorem p_end_true (b o i : Nat) : Spec Try.prog 40 [ptr b o i, .bool true]
    []
    (fun v H1 => v = ptr b o (i + 2) ∧ H1 = []) := by
  refine Spec.intro Try.func40 rfl rfl ?_
  intro W
  refine XC.seq ?_
  refine XC.region ?_
  refine XO.v (V.assign rfl) rfl ?_
  refine XO.nil ?_
  refine XE.next ?_
  refine XC.keep [(0, _), (1, _)] (Sub.cons rfl (Sub.cons rfl (Sub.nil _))) ?_
  refine XC.seq ?_
  refine XC.seq ?_
  refine XC.region ?_
  refine XO.v (V.move rfl) rfl ?_
  refine XO.nil ?_
  refine XE.next ?_
  refine XC.keep [(0, _), (5, _)] (Sub.cons rfl (Sub.cons rfl (Sub.nil _))) ?_
  refine XC.condT rfl rfl ?_
  refine XC.seq ?_
  refine XC.region ?_
  refine XO.v (V.move rfl) rfl ?_
  refine XO.v (V.nilCheckP rfl) rfl ?_
  refine XO.v (V.fieldAddr rfl fo_25_2) rfl ?_
  refine XO.v (V.assign rfl) rfl ?_
  refine XO.nil ?_
  refine XE.next ?_
  refine XC.keep [(4, _)] (Sub.cons rfl (Sub.nil _)) ?_
  refine XC.ret ?_
  refine XE.thenRet ?_
  refine XE.ret1 rfl rfl (post_of .nil rfl ?_)
  exact ⟨rfl, rfl⟩
set_option maxRecDepth 10000 in
set_option maxHeartbeats 400000 in
theorem p_end_false (b o i : Nat) : Spec Try.prog 40 [ptr b o i, .bool false]
    []
    (fun v H1 => v = ptr b o (i + 1) ∧ H1 = []) := by
  refine Spec.intro Try.func40 rfl rfl ?_
  intro W
  refine XC.seq ?_
  refine XC.region ?_
  refine XO.v (V.assign rfl) rfl ?_
  refine XO.nil ?_
  refine XE.next ?_
  refine XC.keep [(0, _), (1, _)] (Sub.cons rfl (Sub.cons rfl (Sub.nil _))) ?_
  refine XC.seq ?_
  refine XC.seq ?_
  refine XC.region ?_
  refine XO.v (V.move rfl) rfl ?_
  refine XO.nil ?_
  refine XE.next ?_
  refine XC.keep [(0, _), (5, _)] (Sub.cons rfl (Sub.cons rfl (Sub.nil _))) ?_
  refine XC.condF rfl rfl ?_
  refine XC.skip ?_
  refine XE.next ?_
  refine XC.keep [(0, _)] (Sub.cons rfl (Sub.nil _)) ?_
  refine XC.seq ?_
  refine XC.region ?_
  refine XO.v (V.move rfl) rfl ?_
  refine XO.v (V.nilCheckP rfl) rfl ?_
  refine XO.v (V.fieldAddr rfl fo_25_1) rfl ?_
  refine XO.v (V.assign rfl) rfl ?_
  refine XO.nil ?_
  refine XE.next ?_
  refine XC.keep [(4, _)] (Sub.cons rfl (Sub.nil _)) ?_
  refine XC.ret ?_
  refine XE.ret1 rfl rfl (post_of .nil rfl ?_)
  exact ⟨rfl, rfl⟩
set_option maxRecDepth 10000 in
set_option maxHeartbeats 400000 in
theorem p_Make (b o : Nat) (K : Int) (hK : K ≤ 1000000) (s : PS) (hI : s.Inv K) : Spec Try.prog 8 [ptr b o 0]
    [.cells b o 24 (encP s)]
    (fun v H1 => v = .tuple #[.int .i64 s.make.1, errv 71 s.make.2.1] ∧ H1 = [.cells b o 24 (encP s.make.2.2)]) := by
  refine Spec.intro Try.func8 rfl rfl ?_
  intro W
  refine XC.seq ?_
  refine XC.region ?_
  refine XO.v (V.assign rfl) rfl ?_
  refine XO.v (V.assign rfl) rfl ?_
  refine XO.nil ?_
  refine XE.next ?_
  refine XC.keep [(0, _)] (Sub.cons rfl (Sub.nil _)) ?_
  refine XC.seq ?_
  refine XC.seq ?_
  refine XC.region ?_
  refine XO.v (V.move rfl) rfl ?_
  refine XO.nil ?_
  refine XE.next ?_
  refine XC.keep [(0, _), (5, _)] (Sub.cons rfl (Sub.cons rfl (Sub.nil _))) ?_
  refine XC.block ?_
  refine XC.loop (σ := Int) (fun k => (8 - k).toNat) (fun k => (0 ≤ k ∧ k ≤ 8) ∧ ∀ j : Int, 0 ≤ j → j < k → s.e j 0 + s.e j 1 ≠ 0) (fun k => [(5, .int .i64 k), (0, ptr b o 0)]) (fun k => XM W (foot [.cells b o 24 (encP s)]) [.cells b o 24 (encP s)]) (0) ?_ (Sub.cons rfl (Sub.cons rfl (Sub.nil _))) (fun _ hw => XM.pick (.cons .here .nil) hw) ?_
  · skip
    exact ⟨by omega, fun j h1 h2 => by omega⟩
  intro k hk
  obtain ⟨hk, hn⟩ := hk
  have b0 := hI.e0 k
  have b1 := hI.e1 k
  refine XC.seq ?_
  refine XC.region ?_
  refine XO.v (V.cmp rfl rfl rfl) rfl ?_
  refine XO.nil ?_
  refine XE.next ?_
  refine XC.keep [(0, _), (5, _), (6, _)] (Sub.cons rfl (Sub.cons rfl (Sub.cons rfl (Sub.nil _)))) ?_
  refine XC.seq ?_
  refine XC.condP rfl (fun h1 => ?_) (fun h1 => ?_)
  · skip
    refine XC.skip ?_
    refine XE.next ?_
    refine XC.keep [(0, _), (5, _)] (Sub.cons rfl (Sub.cons rfl (Sub.nil _))) ?_
    refine XC.seq ?_
    refine XC.block ?_
    refine XC.seq ?_
    refine XC.region ?_
    refine XO.v (V.move rfl) rfl ?_
    refine XO.v (V.assign rfl) rfl ?_
    refine XO.nil ?_
    refine XE.next ?_
    refine XC.keep [(0, _), (4, _), (5, _)] (Sub.cons rfl (Sub.cons rfl (Sub.cons rfl (Sub.nil _)))) ?_
    refine XC.seq ?_
    refine XC.regionQ mixed (f := 16) (l := #[false, false, false, false, false, false, false, false, false, false, false, false, false, false, false, false]) rfl rfl XM.drawn' ?_
    refine XQ.pv (i := 0) (l' := #[true, false, false, false, false, false, false, false, false, false, false, false, false, false, false, false]) rfl (by kernel_rfl) rfl (V.move rfl) rfl rfl ?_
    refine XQ.pv (i := 1) (l' := #[true, true, false, false, false, false, false, false, false, false, false, false, false, false, false, false]) rfl (by kernel_rfl) rfl (V.move rfl) rfl rfl ?_
    refine XQ.pv (i := 2) (l' := #[true, true, true, false, false, false, false, false, false, false, false, false, false, false, false, false]) rfl (by kernel_rfl) rfl (V.nilCheckP rfl) rfl rfl ?_
    refine XQ.pv (i := 3) (l' := #[true, true, true, true, false, false, false, false, false, false, false, false, false, false, false, false]) rfl (by kernel_rfl) rfl (V.fieldAddr rfl fo_28_0) rfl rfl ?_
    refine XQ.pv (i := 4) (l' := #[true, true, true, true, true, false, false, false, false, false, false, false, false, false, false, false]) rfl (by kernel_rfl) rfl (V.indexArr rfl rfl ar_26 (by omega)) rfl rfl ?_
    refine XQ.pv (i := 5) (l' := #[true, true, true, true, true, true, false, false, false, false, false, false, false, false, false, false]) rfl (by kernel_rfl) rfl (V.fieldAddr rfl fo_25_1) rfl rfl ?_
    refine XQ.load (i := 6) (l' := #[true, true, true, true, true, true, true, false, false, false, false, false, false, false, false, false]) (.cells _ _ _ _) [] rfl (by kernel_rfl) rfl .here (V.load rfl inEnt (encP.ld_p_I_reads _ _ (by omega)) sc_3) rfl (by kernel_rfl) rfl ?_
    refine XQ.pv (i := 7) (l' := #[true, true, true, true, true, true, true, true, false, false, false, false, false, false, false, false]) rfl (by kernel_rfl) rfl (V.move rfl) rfl rfl ?_
    refine XQ.pv (i := 8) (l' := #[true, true, true, true, true, true, true, true, true, false, false, false, false, false, false, false]) rfl (by kernel_rfl) rfl (V.move rfl) rfl rfl ?_
    refine XQ.pv (i := 9) (l' := #[true, true, true, true, true, true, true, true, true, true, false, false, false, false, false, false]) rfl (by kernel_rfl) rfl (V.nilCheckP rfl) rfl rfl ?_
    refine XQ.pv (i := 10) (l' := #[true, true, true, true, true, true, true, true, true, true, true, false, false, false, false, false]) rfl (by kernel_rfl) rfl (V.fieldAddr rfl fo_28_0) rfl rfl ?_
    refine XQ.pv (i := 11) (l' := #[true, true, true, true, true, true, true, true, true, true, true, true, false, false, false, false]) rfl (by kernel_rfl) rfl (V.indexArr rfl rfl ar_26 (by omega)) rfl rfl ?_
    refine XQ.pv (i := 12) (l' := #[true, true, true, true, true, true, true, true, true, true, true, true, true, false, false, false]) rfl (by kernel_rfl) rfl (V.fieldAddr rfl fo_25_2) rfl rfl ?_
    refine XQ.load (i := 13) (l' := #[true, true, true, true, true, true, true, true, true, true, true, true, true, true, false, false]) (.cells _ _ _ _) [] rfl (by kernel_rfl) rfl .here (V.load rfl inEnt (encP.ld_p_I_writes _ _ (by omega)) sc_3) rfl (by kernel_rfl) rfl ?_
    refine XQ.pv (i := 14) (l' := #[true, true, true, true, true, true, true, true, true, true, true, true, true, true, true, false]) rfl (by kernel_rfl) rfl (V.add rfl rfl _ (IntWalk.i64_in _ (by omega))) rfl rfl ?_
    refine XQ.pv (i := 15) (l' := #[true, true, true, true, true, true, true, true, true, true, true, true, true, true, true, true]) rfl (by kernel_rfl) rfl (V.cmp rfl rfl rfl) rfl rfl ?_
    refine XQ.done (by kernel_rfl) ?_
    refine XE.next ?_
    refine XC.keep [(0, _), (4, _), (5, _), (23, _)] (Sub.cons rfl (Sub.cons rfl (Sub.cons rfl (Sub.cons rfl (Sub.nil _))))) ?_
    refine XC.condP rfl (fun h2 => ?_) (fun h2 => ?_)
    · skip
      refine XC.seq ?_
      refine XC.region ?_
      refine XO.v (V.move rfl) rfl ?_
      refine XO.v (V.move rfl) rfl ?_
      refine XO.v (V.build (vs := #[(1, .int .i64 1), (2, .int .i64 1)]) rfl (v := .agg #[.string ⟨#[]⟩, .int .i64 1, .int .i64 1]) (fun _ => by kernel_rfl)) rfl ?_
      refine XO.v (V.nilCheckP rfl) rfl ?_
      refine XO.v (V.fieldAddr rfl fo_28_0) rfl ?_
      refine XO.v (V.indexArr rfl rfl ar_26 (by omega)) rfl ?_
      refine XO.storeAgg rfl rfl .here (encP_make hI (by omega) (by assumption)) ⟨rfl, rfl⟩ sz_25_3 ?_
      refine XO.nil ?_
      refine XE.next ?_
      refine XC.keep [(4, _)] (Sub.cons rfl (Sub.nil _)) ?_
      refine XC.seq ?_
      refine XC.region ?_
      refine XO.v (V.move rfl) rfl ?_
      refine XO.v (V.assign rfl) rfl ?_
      refine XO.v (V.assign rfl) rfl ?_
      refine XO.nil ?_
      refine XE.next ?_
      refine XC.keep [(2, _), (3, _)] (Sub.cons rfl (Sub.cons rfl (Sub.nil _))) ?_
      refine XC.ret ?_
      refine XE.blockRet ?_
      refine XE.thenRet ?_
      refine XE.thenRet ?_
      refine XE.blockRet ?_
      refine XE.thenRet ?_
      refine XE.ret2 rfl rfl rfl (post_of (.cons .here .nil) rfl ?_)
      rw [PS.make_some (by omega) (by assumption) hn]; exact ⟨rfl, rfl⟩
    · skip
      refine XC.skip ?_
      refine XE.blockNormal ?_
      refine XE.next ?_
      refine XC.keep [(0, _), (5, _)] (Sub.cons rfl (Sub.cons rfl (Sub.nil _))) ?_
      refine XC.region ?_
      refine XO.v (V.add rfl rfl _ (IntWalk.i64_in _ (by omega))) rfl ?_
      refine XO.v (V.move rfl) rfl ?_
      refine XO.nil ?_
      refine XE.again (k + 1) ?_ ?_ (Sub.cons rfl (Sub.cons rfl (Sub.nil _))) (fun _ hw => XM.pick (.cons .here .nil) hw)
      · skip
        (first | omega | (simp; done) | (simp; omega))
      · skip
        refine ⟨by omega, fun j h1 h2 => ?_⟩
        by_cases hjk : j = k
        · subst hjk; assumption
        · exact hn j h1 (by omega)
  · skip
    refine XC.exit ?_
    refine XE.thenExit ?_
    refine XE.thenExit ?_
    refine XE.blockExit ?_
    refine XE.next ?_
    refine XC.keep [] (Sub.nil _) ?_
    refine XC.seq ?_
    refine XC.region ?_
    refine XO.v (V.makeIface rfl Try.underlying71 (by simp)) rfl ?_
    refine XO.v (V.assign rfl) rfl ?_
    refine XO.v (V.assign rfl) rfl ?_
    refine XO.nil ?_
    refine XE.next ?_
    refine XC.keep [(2, _), (3, _)] (Sub.cons rfl (Sub.cons rfl (Sub.nil _))) ?_
    refine XC.ret ?_
    refine XE.ret2 rfl rfl rfl (post_of (.cons .here .nil) rfl ?_)
    obtain rfl : k = 8 := by omega
    rw [PS.make_none hn]; exact ⟨rfl, rfl⟩
set_option maxRecDepth 10000 in
set_option maxHeartbeats 400000 in
theorem p_Drop_true (b o : Nat) (K : Int) (hK : K ≤ 1000000) (s : PS) (hI : s.Inv K) (n : Int) : Spec Try.prog 14 [ptr b o 0, .int .i64 n, .bool true]
    [.cells b o 24 (encP s)]
    (fun v H1 => v = errv 71 (s.turn n true (-1)).1 ∧ H1 = [.cells b o 24 (encP (s.turn n true (-1)).2)]) := by
  have b0 := hI.e0 n
  have b1 := hI.e1 n
  have bl := hI.len n
  have hnew : (s.e n (sel true) = 0) = (s.e n 1 = 0) := by simp [sel]
  refine Spec.intro Try.func14 rfl rfl ?_
  intro W
  refine XC.seq ?_
  refine XC.region ?_
  refine XO.v (V.assign rfl) rfl ?_
  refine XO.nil ?_
  refine XE.next ?_
  refine XC.keep [(0, _), (1, _), (2, _)] (Sub.cons rfl (Sub.cons rfl (Sub.cons rfl (Sub.nil _)))) ?_
  refine XC.seq ?_
  refine XC.region ?_
  refine XO.v (V.move rfl) rfl ?_
  refine XO.v (V.move rfl) rfl ?_
  refine XO.call rfl (p_is _ _ K hK s hI _) (.cons .here .nil) cl_39 rfl ?_
  rintro _ _ (⟨h1, rfl, rfl⟩ | ⟨h1, rfl, rfl⟩)
  · skip
    obtain ⟨h1, h2, h3⟩ := h1
    refine XO.v (V.move rfl) rfl ?_
    refine XO.v (V.extract rfl rfl) rfl ?_
    refine XO.v (V.extract rfl rfl) rfl ?_
    refine XO.v (V.assign rfl) rfl ?_
    refine XO.v (V.assign rfl) rfl ?_
    refine XO.nil ?_
    refine XE.next ?_
    refine XC.keep [(2, _), (7, _), (8, _)] (Sub.cons rfl (Sub.cons rfl (Sub.cons rfl (Sub.nil _)))) ?_
    refine XC.seq ?_
    refine XC.seq ?_
    refine XC.region ?_
    refine XO.v (V.move rfl) rfl ?_
    refine XO.v (V.nilNil rfl Try.underlying30 rfl) rfl ?_
    refine XO.nil ?_
    refine XE.next ?_
    refine XC.keep [(2, _), (7, _), (8, _), (16, _)] (Sub.cons rfl (Sub.cons rfl (Sub.cons rfl (Sub.cons rfl (Sub.nil _))))) ?_
    refine XC.condF rfl rfl ?_
    refine XC.skip ?_
    refine XE.next ?_
    refine XC.keep [(2, _), (7, _)] (Sub.cons rfl (Sub.cons rfl (Sub.nil _))) ?_
    refine XC.seq ?_
    refine XC.seq ?_
    refine XC.region ?_
    refine XO.v (V.move rfl) rfl ?_
    refine XO.v (V.move rfl) rfl ?_
    refine XO.call rfl (p_end_true _ _ _) .nil cl_40 rfl ?_
    rintro _ _ ⟨rfl, rfl⟩
    refine XO.v (V.nilCheckP rfl) rfl ?_
    refine XO.v (V.load rfl (inXM .here) (encP.ld_p_I_writes _ _ (by omega)) sc_3) rfl ?_
    refine XO.v (V.cmp rfl rfl rfl) rfl ?_
    refine XO.nil ?_
    refine XE.next ?_
    refine XC.keep [(2, _), (7, _), (23, _)] (Sub.cons rfl (Sub.cons rfl (Sub.cons rfl (Sub.nil _)))) ?_
    refine XC.condP rfl (fun h4 => ?_) (fun h4 => ?_)
    · skip
      refine XC.seq ?_
      refine XC.region ?_
      refine XO.v (V.makeIface rfl Try.underlying71 (by simp)) rfl ?_
      refine XO.v (V.assign rfl) rfl ?_
      refine XO.nil ?_
      refine XE.next ?_
      refine XC.keep [(6, _)] (Sub.cons rfl (Sub.nil _)) ?_
      refine XC.ret ?_
      refine XE.thenRet ?_
      refine XE.ret1 rfl rfl (post_of (.cons .here .nil) rfl ?_)
      first
        | (rw [PS.turn_err (by assumption)]; exact ⟨(errv_pos _ (by assumption)).symm, rfl⟩)
        | (rw [PS.turn_state (by assumption) (by assumption)]; exact ⟨rfl, rfl⟩)
        | (rw [PS.turn_ok (by assumption) (by assumption) (by omega)]; exact ⟨rfl, rfl⟩)
        | (rw [PS.turn_zero (by assumption) (by assumption) (by omega)]; refine ⟨rfl, ?_⟩; exact congrArg (fun e => [Ent.cells b o 24 (encP { b := fset s.b n ⟨#[]⟩, e := e })]) (drop_eq (by omega) (by omega)))
    · skip
      refine XC.skip ?_
      refine XE.next ?_
      refine XC.keep [(2, _), (7, _)] (Sub.cons rfl (Sub.cons rfl (Sub.nil _))) ?_
      refine XC.seq ?_
      refine XC.region ?_
      refine XO.v (V.move rfl) rfl ?_
      refine XO.v (V.move rfl) rfl ?_
      refine XO.call rfl (p_end_true _ _ _) .nil cl_40 rfl ?_
      rintro _ _ ⟨rfl, rfl⟩
      refine XO.v (V.nilCheckP rfl) rfl ?_
      refine XO.v (V.load rfl (inXM .here) (encP.ld_p_I_writes _ _ (by omega)) sc_3) rfl ?_
      refine XO.v (V.sub rfl rfl _ (IntWalk.i64_in _ (by omega))) rfl ?_
      refine XO.v (V.nilCheckP rfl) rfl ?_
      refine XO.store rfl rfl .here (encP.st_p_I_writes _ _ (by omega) _) rfl sz_3_1 ?_
      refine XO.nil ?_
      refine XE.next ?_
      refine XC.keep [(7, _)] (Sub.cons rfl (Sub.nil _)) ?_
      refine XC.seq ?_
      refine XC.seq ?_
      refine XC.regionQ mixed (f := 10) (l := #[false, false, false, false, false, false, false, false, false, false]) rfl rfl XM.drawn' ?_
      have c0 : ({ s with e := fset2 s.e n 1 (s.e n 1 - 1) } : PS).e n 0 = s.e n 0 + 0 := by simp [fset2]
      have c0f : fset2 s.e n 1 (s.e n 1 - 1) n 0 = s.e n 0 + 0 := by simp [fset2]
      have c1 : ({ s with e := fset2 s.e n 1 (s.e n 1 - 1) } : PS).e n 1 = s.e n 1 + -1 := by simp [fset2]; omega
      have c1f : fset2 s.e n 1 (s.e n 1 - 1) n 1 = s.e n 1 + -1 := by simp [fset2]; omega
      refine XQ.pv (i := 0) (l' := #[true, false, false, false, false, false, false, false, false, false]) rfl (by kernel_rfl) rfl (V.move rfl) rfl rfl ?_
      refine XQ.pv (i := 1) (l' := #[true, true, false, false, false, false, false, false, false, false]) rfl (by kernel_rfl) rfl (V.nilCheckP rfl) rfl rfl ?_
      refine XQ.pv (i := 2) (l' := #[true, true, true, false, false, false, false, false, false, false]) rfl (by kernel_rfl) rfl (V.fieldAddr rfl fo_25_1) rfl rfl ?_
      refine XQ.load (i := 3) (l' := #[true, true, true, true, false, false, false, false, false, false]) (.cells _ _ _ _) [] rfl (by kernel_rfl) rfl .here (V.load rfl inEnt (encP.ld_p_I_reads _ _ (by omega)) sc_3) rfl (by kernel_rfl) rfl ?_
      refine XQ.pv (i := 4) (l' := #[true, true, true, true, true, false, false, false, false, false]) rfl (by kernel_rfl) rfl (V.move rfl) rfl rfl ?_
      refine XQ.pv (i := 5) (l' := #[true, true, true, true, true, true, false, false, false, false]) rfl (by kernel_rfl) rfl (V.nilCheckP rfl) rfl rfl ?_
      refine XQ.pv (i := 6) (l' := #[true, true, true, true, true, true, true, false, false, false]) rfl (by kernel_rfl) rfl (V.fieldAddr rfl fo_25_2) rfl rfl ?_
      refine XQ.load (i := 7) (l' := #[true, true, true, true, true, true, true, true, false, false]) (.cells _ _ _ _) [] rfl (by kernel_rfl) rfl .here (V.load rfl inEnt (encP.ld_p_I_writes _ _ (by omega)) sc_3) rfl (by kernel_rfl) rfl ?_
      refine XQ.pv (i := 8) (l' := #[true, true, true, true, true, true, true, true, true, false]) rfl (by kernel_rfl) rfl (V.add rfl rfl _ (IntWalk.i64_in _ (by omega))) rfl rfl ?_
      refine XQ.pv (i := 9) (l' := #[true, true, true, true, true, true, true, true, true, true]) rfl (by kernel_rfl) rfl (V.cmp rfl rfl rfl) rfl rfl ?_
      refine XQ.done (by kernel_rfl) ?_
      refine XE.next ?_
      refine XC.keep [(7, _), (41, _)] (Sub.cons rfl (Sub.cons rfl (Sub.nil _))) ?_
      refine XC.condP rfl (fun h5 => ?_) (fun h5 => ?_)
      · skip
        refine XC.region ?_
        refine XO.v (V.move rfl) rfl ?_
        refine XO.v (V.build (vs := #[]) rfl (v := .agg #[.string ⟨#[]⟩, .int .i64 0, .int .i64 0]) (fun _ => by kernel_rfl)) rfl ?_
        refine XO.v (V.nilCheckP rfl) rfl ?_
        refine XO.storeAgg rfl rfl .here (encP_drop _ (by omega)) ⟨rfl, rfl⟩ sz_25_3 ?_
        refine XO.nil ?_
        refine XE.next ?_
        refine XC.keep [] (Sub.nil _) ?_
        refine XC.seq ?_
        refine XC.region ?_
        refine XO.v (V.assign rfl) rfl ?_
        refine XO.nil ?_
        refine XE.next ?_
        refine XC.keep [(6, _)] (Sub.cons rfl (Sub.nil _)) ?_
        refine XC.ret ?_
        refine XE.ret1 rfl rfl (post_of (.cons .here .nil) rfl ?_)
        first
        | (rw [PS.turn_err (by assumption)]; exact ⟨(errv_pos _ (by assumption)).symm, rfl⟩)
        | (rw [PS.turn_state (by assumption) (by assumption)]; exact ⟨rfl, rfl⟩)
        | (rw [PS.turn_ok (by assumption) (by assumption) (by omega)]; exact ⟨rfl, rfl⟩)
        | (rw [PS.turn_zero (by assumption) (by assumption) (by omega)]; refine ⟨rfl, ?_⟩; exact congrArg (fun e => [Ent.cells b o 24 (encP { b := fset s.b n ⟨#[]⟩, e := e })]) (drop_eq (by omega) (by omega)))
      · skip
        refine XC.skip ?_
        refine XE.next ?_
        refine XC.keep [] (Sub.nil _) ?_
        refine XC.seq ?_
        refine XC.region ?_
        refine XO.v (V.assign rfl) rfl ?_
        refine XO.nil ?_
        refine XE.next ?_
        refine XC.keep [(6, _)] (Sub.cons rfl (Sub.nil _)) ?_
        refine XC.ret ?_
        refine XE.ret1 rfl rfl (post_of (.cons .here .nil) rfl ?_)
        first
        | (rw [PS.turn_err (by assumption)]; exact ⟨(errv_pos _ (by assumption)).symm, rfl⟩)
        | (rw [PS.turn_state (by assumption) (by assumption)]; exact ⟨rfl, rfl⟩)
        | (rw [PS.turn_ok (by assumption) (by assumption) (by omega)]; exact ⟨rfl, rfl⟩)
        | (rw [PS.turn_zero (by assumption) (by assumption) (by omega)]; refine ⟨rfl, ?_⟩; exact congrArg (fun e => [Ent.cells b o 24 (encP { b := fset s.b n ⟨#[]⟩, e := e })]) (drop_eq (by omega) (by omega)))
  · skip
    refine XO.v (V.move rfl) rfl ?_
    refine XO.v (V.extract rfl rfl) rfl ?_
    refine XO.v (V.extract rfl rfl) rfl ?_
    refine XO.v (V.assign rfl) rfl ?_
    refine XO.v (V.assign rfl) rfl ?_
    refine XO.nil ?_
    refine XE.next ?_
    refine XC.keep [(2, _), (7, _), (8, _)] (Sub.cons rfl (Sub.cons rfl (Sub.cons rfl (Sub.nil _)))) ?_
    refine XC.seq ?_
    refine XC.seq ?_
    refine XC.region ?_
    refine XO.v (V.move rfl) rfl ?_
    refine XO.v (V.ifaceNil rfl Try.underlying30 rfl) rfl ?_
    refine XO.nil ?_
    refine XE.next ?_
    refine XC.keep [(2, _), (7, _), (8, _), (16, _)] (Sub.cons rfl (Sub.cons rfl (Sub.cons rfl (Sub.cons rfl (Sub.nil _))))) ?_
    refine XC.condT rfl rfl ?_
    refine XC.seq ?_
    refine XC.region ?_
    refine XO.v (V.move rfl) rfl ?_
    refine XO.v (V.assign rfl) rfl ?_
    refine XO.nil ?_
    refine XE.next ?_
    refine XC.keep [(6, _)] (Sub.cons rfl (Sub.nil _)) ?_
    refine XC.ret ?_
    refine XE.thenRet ?_
    refine XE.ret1 rfl rfl (post_of (.cons .here .nil) rfl ?_)
    first
        | (rw [PS.turn_err (by assumption)]; exact ⟨(errv_pos _ (by assumption)).symm, rfl⟩)
        | (rw [PS.turn_state (by assumption) (by assumption)]; exact ⟨rfl, rfl⟩)
        | (rw [PS.turn_ok (by assumption) (by assumption) (by omega)]; exact ⟨rfl, rfl⟩)
        | (rw [PS.turn_zero (by assumption) (by assumption) (by omega)]; refine ⟨rfl, ?_⟩; exact congrArg (fun e => [Ent.cells b o 24 (encP { b := fset s.b n ⟨#[]⟩, e := e })]) (drop_eq (by omega) (by omega)))
set_option maxRecDepth 10000 in
set_option maxHeartbeats 400000 in
theorem p_Drop_false (b o : Nat) (K : Int) (hK : K ≤ 1000000) (s : PS) (hI : s.Inv K) (n : Int) : Spec Try.prog 14 [ptr b o 0, .int .i64 n, .bool false]
    [.cells b o 24 (encP s)]
    (fun v H1 => v = errv 71 (s.turn n false (-1)).1 ∧ H1 = [.cells b o 24 (encP (s.turn n false (-1)).2)]) := by
  have b0 := hI.e0 n
  have b1 := hI.e1 n
  have bl := hI.len n
  have hnew : (s.e n (sel false) = 0) = (s.e n 0 = 0) := by simp [sel]
  refine Spec.intro Try.func14 rfl rfl ?_
  intro W
  refine XC.seq ?_
  refine XC.region ?_
  refine XO.v (V.assign rfl) rfl ?_
  refine XO.nil ?_
  refine XE.next ?_
  refine XC.keep [(0, _), (1, _), (2, _)] (Sub.cons rfl (Sub.cons rfl (Sub.cons rfl (Sub.nil _)))) ?_
  refine XC.seq ?_
  refine XC.region ?_
  refine XO.v (V.move rfl) rfl ?_
  refine XO.v (V.move rfl) rfl ?_
  refine XO.call rfl (p_is _ _ K hK s hI _) (.cons .here .nil) cl_39 rfl ?_
  rintro _ _ (⟨h1, rfl, rfl⟩ | ⟨h1, rfl, rfl⟩)
  · skip
    obtain ⟨h1, h2, h3⟩ := h1
    refine XO.v (V.move rfl) rfl ?_
    refine XO.v (V.extract rfl rfl) rfl ?_
    refine XO.v (V.extract rfl rfl) rfl ?_
    refine XO.v (V.assign rfl) rfl ?_
    refine XO.v (V.assign rfl) rfl ?_
    refine XO.nil ?_
    refine XE.next ?_
    refine XC.keep [(2, _), (7, _), (8, _)] (Sub.cons rfl (Sub.cons rfl (Sub.cons rfl (Sub.nil _)))) ?_
    refine XC.seq ?_
    refine XC.seq ?_
    refine XC.region ?_
    refine XO.v (V.move rfl) rfl ?_
    refine XO.v (V.nilNil rfl Try.underlying30 rfl) rfl ?_
    refine XO.nil ?_
    refine XE.next ?_
    refine XC.keep [(2, _), (7, _), (8, _), (16, _)] (Sub.cons rfl (Sub.cons rfl (Sub.cons rfl (Sub.cons rfl (Sub.nil _))))) ?_
    refine XC.condF rfl rfl ?_
    refine XC.skip ?_
    refine XE.next ?_
    refine XC.keep [(2, _), (7, _)] (Sub.cons rfl (Sub.cons rfl (Sub.nil _))) ?_
    refine XC.seq ?_
    refine XC.seq ?_
    refine XC.region ?_
    refine XO.v (V.move rfl) rfl ?_
    refine XO.v (V.move rfl) rfl ?_
    refine XO.call rfl (p_end_false _ _ _) .nil cl_40 rfl ?_
    rintro _ _ ⟨rfl, rfl⟩
    refine XO.v (V.nilCheckP rfl) rfl ?_
    refine XO.v (V.load rfl (inXM .here) (encP.ld_p_I_reads _ _ (by omega)) sc_3) rfl ?_
    refine XO.v (V.cmp rfl rfl rfl) rfl ?_
    refine XO.nil ?_
    refine XE.next ?_
    refine XC.keep [(2, _), (7, _), (23, _)] (Sub.cons rfl (Sub.cons rfl (Sub.cons rfl (Sub.nil _)))) ?_
    refine XC.condP rfl (fun h4 => ?_) (fun h4 => ?_)
    · skip
      refine XC.seq ?_
      refine XC.region ?_
      refine XO.v (V.makeIface rfl Try.underlying71 (by simp)) rfl ?_
      refine XO.v (V.assign rfl) rfl ?_
      refine XO.nil ?_
      refine XE.next ?_
      refine XC.keep [(6, _)] (Sub.cons rfl (Sub.nil _)) ?_
      refine XC.ret ?_
      refine XE.thenRet ?_
      refine XE.ret1 rfl rfl (post_of (.cons .here .nil) rfl ?_)
      first
        | (rw [PS.turn_err (by assumption)]; exact ⟨(errv_pos _ (by assumption)).symm, rfl⟩)
        | (rw [PS.turn_state (by assumption) (by assumption)]; exact ⟨rfl, rfl⟩)
        | (rw [PS.turn_ok (by assumption) (by assumption) (by omega)]; exact ⟨rfl, rfl⟩)
        | (rw [PS.turn_zero (by assumption) (by assumption) (by omega)]; refine ⟨rfl, ?_⟩; exact congrArg (fun e => [Ent.cells b o 24 (encP { b := fset s.b n ⟨#[]⟩, e := e })]) (drop_eq (by omega) (by omega)))
    · skip
      refine XC.skip ?_
      refine XE.next ?_
      refine XC.keep [(2, _), (7, _)] (Sub.cons rfl (Sub.cons rfl (Sub.nil _))) ?_
      refine XC.seq ?_
      refine XC.region ?_
      refine XO.v (V.move rfl) rfl ?_
      refine XO.v (V.move rfl) rfl ?_
      refine XO.call rfl (p_end_false _ _ _) .nil cl_40 rfl ?_
      rintro _ _ ⟨rfl, rfl⟩
      refine XO.v (V.nilCheckP rfl) rfl ?_
      refine XO.v (V.load rfl (inXM .here) (encP.ld_p_I_reads _ _ (by omega)) sc_3) rfl ?_
      refine XO.v (V.sub rfl rfl _ (IntWalk.i64_in _ (by omega))) rfl ?_
      refine XO.v (V.nilCheckP rfl) rfl ?_
      refine XO.store rfl rfl .here (encP.st_p_I_reads _ _ (by omega) _) rfl sz_3_1 ?_
      refine XO.nil ?_
      refine XE.next ?_
      refine XC.keep [(7, _)] (Sub.cons rfl (Sub.nil _)) ?_
      refine XC.seq ?_
      refine XC.seq ?_
      refine XC.regionQ mixed (f := 10) (l := #[false, false, false, false, false, false, false, false, false, false]) rfl rfl XM.drawn' ?_
      have c0 : ({ s with e := fset2 s.e n 0 (s.e n 0 - 1) } : PS).e n 0 = s.e n 0 + -1 := by simp [fset2]; omega
      have c0f : fset2 s.e n 0 (s.e n 0 - 1) n 0 = s.e n 0 + -1 := by simp [fset2]; omega
      have c1 : ({ s with e := fset2 s.e n 0 (s.e n 0 - 1) } : PS).e n 1 = s.e n 1 + 0 := by simp [fset2]
      have c1f : fset2 s.e n 0 (s.e n 0 - 1) n 1 = s.e n 1 + 0 := by simp [fset2]
      refine XQ.pv (i := 0) (l' := #[true, false, false, false, false, false, false, false, false, false]) rfl (by kernel_rfl) rfl (V.move rfl) rfl rfl ?_
      refine XQ.pv (i := 1) (l' := #[true, true, false, false, false, false, false, false, false, false]) rfl (by kernel_rfl) rfl (V.nilCheckP rfl) rfl rfl ?_
      refine XQ.pv (i := 2) (l' := #[true, true, true, false, false, false, false, false, false, false]) rfl (by kernel_rfl) rfl (V.fieldAddr rfl fo_25_1) rfl rfl ?_
      refine XQ.load (i := 3) (l' := #[true, true, true, true, false, false, false, false, false, false]) (.cells _ _ _ _) [] rfl (by kernel_rfl) rfl .here (V.load rfl inEnt (encP.ld_p_I_reads _ _ (by omega)) sc_3) rfl (by kernel_rfl) rfl ?_
      refine XQ.pv (i := 4) (l' := #[true, true, true, true, true, false, false, false, false, false]) rfl (by kernel_rfl) rfl (V.move rfl) rfl rfl ?_
      refine XQ.pv (i := 5) (l' := #[true, true, true, true, true, true, false, false, false, false]) rfl (by kernel_rfl) rfl (V.nilCheckP rfl) rfl rfl ?_
      refine XQ.pv (i := 6) (l' := #[true, true, true, true, true, true, true, false, false, false]) rfl (by kernel_rfl) rfl (V.fieldAddr rfl fo_25_2) rfl rfl ?_
      refine XQ.load (i := 7) (l' := #[true, true, true, true, true, true, true, true, false, false]) (.cells _ _ _ _) [] rfl (by kernel_rfl) rfl .here (V.load rfl inEnt (encP.ld_p_I_writes _ _ (by omega)) sc_3) rfl (by kernel_rfl) rfl ?_
      refine XQ.pv (i := 8) (l' := #[true, true, true, true, true, true, true, true, true, false]) rfl (by kernel_rfl) rfl (V.add rfl rfl _ (IntWalk.i64_in _ (by omega))) rfl rfl ?_
      refine XQ.pv (i := 9) (l' := #[true, true, true, true, true, true, true, true, true, true]) rfl (by kernel_rfl) rfl (V.cmp rfl rfl rfl) rfl rfl ?_
      refine XQ.done (by kernel_rfl) ?_
      refine XE.next ?_
      refine XC.keep [(7, _), (41, _)] (Sub.cons rfl (Sub.cons rfl (Sub.nil _))) ?_
      refine XC.condP rfl (fun h5 => ?_) (fun h5 => ?_)
      · skip
        refine XC.region ?_
        refine XO.v (V.move rfl) rfl ?_
        refine XO.v (V.build (vs := #[]) rfl (v := .agg #[.string ⟨#[]⟩, .int .i64 0, .int .i64 0]) (fun _ => by kernel_rfl)) rfl ?_
        refine XO.v (V.nilCheckP rfl) rfl ?_
        refine XO.storeAgg rfl rfl .here (encP_drop _ (by omega)) ⟨rfl, rfl⟩ sz_25_3 ?_
        refine XO.nil ?_
        refine XE.next ?_
        refine XC.keep [] (Sub.nil _) ?_
        refine XC.seq ?_
        refine XC.region ?_
        refine XO.v (V.assign rfl) rfl ?_
        refine XO.nil ?_
        refine XE.next ?_
        refine XC.keep [(6, _)] (Sub.cons rfl (Sub.nil _)) ?_
        refine XC.ret ?_
        refine XE.ret1 rfl rfl (post_of (.cons .here .nil) rfl ?_)
        first
        | (rw [PS.turn_err (by assumption)]; exact ⟨(errv_pos _ (by assumption)).symm, rfl⟩)
        | (rw [PS.turn_state (by assumption) (by assumption)]; exact ⟨rfl, rfl⟩)
        | (rw [PS.turn_ok (by assumption) (by assumption) (by omega)]; exact ⟨rfl, rfl⟩)
        | (rw [PS.turn_zero (by assumption) (by assumption) (by omega)]; refine ⟨rfl, ?_⟩; exact congrArg (fun e => [Ent.cells b o 24 (encP { b := fset s.b n ⟨#[]⟩, e := e })]) (drop_eq (by omega) (by omega)))
      · skip
        refine XC.skip ?_
        refine XE.next ?_
        refine XC.keep [] (Sub.nil _) ?_
        refine XC.seq ?_
        refine XC.region ?_
        refine XO.v (V.assign rfl) rfl ?_
        refine XO.nil ?_
        refine XE.next ?_
        refine XC.keep [(6, _)] (Sub.cons rfl (Sub.nil _)) ?_
        refine XC.ret ?_
        refine XE.ret1 rfl rfl (post_of (.cons .here .nil) rfl ?_)
        first
        | (rw [PS.turn_err (by assumption)]; exact ⟨(errv_pos _ (by assumption)).symm, rfl⟩)
        | (rw [PS.turn_state (by assumption) (by assumption)]; exact ⟨rfl, rfl⟩)
        | (rw [PS.turn_ok (by assumption) (by assumption) (by omega)]; exact ⟨rfl, rfl⟩)
        | (rw [PS.turn_zero (by assumption) (by assumption) (by omega)]; refine ⟨rfl, ?_⟩; exact congrArg (fun e => [Ent.cells b o 24 (encP { b := fset s.b n ⟨#[]⟩, e := e })]) (drop_eq (by omega) (by omega)))
  · skip
    refine XO.v (V.move rfl) rfl ?_
    refine XO.v (V.extract rfl rfl) rfl ?_
    refine XO.v (V.extract rfl rfl) rfl ?_
    refine XO.v (V.assign rfl) rfl ?_
    refine XO.v (V.assign rfl) rfl ?_
    refine XO.nil ?_
    refine XE.next ?_
    refine XC.keep [(2, _), (7, _), (8, _)] (Sub.cons rfl (Sub.cons rfl (Sub.cons rfl (Sub.nil _)))) ?_
    refine XC.seq ?_
    refine XC.seq ?_
    refine XC.region ?_
    refine XO.v (V.move rfl) rfl ?_
    refine XO.v (V.ifaceNil rfl Try.underlying30 rfl) rfl ?_
    refine XO.nil ?_
    refine XE.next ?_
    refine XC.keep [(2, _), (7, _), (8, _), (16, _)] (Sub.cons rfl (Sub.cons rfl (Sub.cons rfl (Sub.cons rfl (Sub.nil _))))) ?_
    refine XC.condT rfl rfl ?_
    refine XC.seq ?_
    refine XC.region ?_
    refine XO.v (V.move rfl) rfl ?_
    refine XO.v (V.assign rfl) rfl ?_
    refine XO.nil ?_
    refine XE.next ?_
    refine XC.keep [(6, _)] (Sub.cons rfl (Sub.nil _)) ?_
    refine XC.ret ?_
    refine XE.thenRet ?_
    refine XE.ret1 rfl rfl (post_of (.cons .here .nil) rfl ?_)
    first
        | (rw [PS.turn_err (by assumption)]; exact ⟨(errv_pos _ (by assumption)).symm, rfl⟩)
        | (rw [PS.turn_state (by assumption) (by assumption)]; exact ⟨rfl, rfl⟩)
        | (rw [PS.turn_ok (by assumption) (by assumption) (by omega)]; exact ⟨rfl, rfl⟩)
        | (rw [PS.turn_zero (by assumption) (by assumption) (by omega)]; refine ⟨rfl, ?_⟩; exact congrArg (fun e => [Ent.cells b o 24 (encP { b := fset s.b n ⟨#[]⟩, e := e })]) (drop_eq (by omega) (by omega)))
set_option maxRecDepth 10000 in
set_option maxHeartbeats 400000 in
theorem p_Read (b o : Nat) (K : Int) (hK : K ≤ 1000000) (s : PS) (hI : s.Inv K) (n m : Int) : Spec Try.prog 13 [ptr b o 0, .int .i64 n, .int .i64 m]
    [.cells b o 24 (encP s)]
    (fun v H1 => v = .tuple #[.string (s.read n m).1, errv 71 (s.read n m).2.1] ∧ H1 = [.cells b o 24 (encP (s.read n m).2.2)]) := by
  have b0 := hI.e0 n
  have b1 := hI.e1 n
  have bl := hI.len n
  refine Spec.intro Try.func13 rfl rfl ?_
  intro W
  refine XC.seq ?_
  refine XC.region ?_
  refine XO.v (V.assign rfl) rfl ?_
  refine XO.v (V.assign rfl) rfl ?_
  refine XO.nil ?_
  refine XE.next ?_
  refine XC.keep [(0, _), (1, _), (2, _)] (Sub.cons rfl (Sub.cons rfl (Sub.cons rfl (Sub.nil _)))) ?_
  refine XC.seq ?_
  refine XC.region ?_
  refine XO.v (V.move rfl) rfl ?_
  refine XO.v (V.move rfl) rfl ?_
  refine XO.call rfl (p_is _ _ K hK s hI _) (.cons .here .nil) cl_39 rfl ?_
  rintro _ _ (⟨h1, rfl, rfl⟩ | ⟨h1, rfl, rfl⟩)
  · skip
    obtain ⟨h1, h2, h3⟩ := h1
    refine XO.v (V.move rfl) rfl ?_
    refine XO.v (V.extract rfl rfl) rfl ?_
    refine XO.v (V.extract rfl rfl) rfl ?_
    refine XO.v (V.assign rfl) rfl ?_
    refine XO.v (V.assign rfl) rfl ?_
    refine XO.nil ?_
    refine XE.next ?_
    refine XC.keep [(2, _), (8, _), (9, _)] (Sub.cons rfl (Sub.cons rfl (Sub.cons rfl (Sub.nil _)))) ?_
    refine XC.seq ?_
    refine XC.seq ?_
    refine XC.region ?_
    refine XO.v (V.move rfl) rfl ?_
    refine XO.v (V.nilNil rfl Try.underlying30 rfl) rfl ?_
    refine XO.nil ?_
    refine XE.next ?_
    refine XC.keep [(2, _), (8, _), (9, _), (19, _)] (Sub.cons rfl (Sub.cons rfl (Sub.cons rfl (Sub.cons rfl (Sub.nil _))))) ?_
    refine XC.condF rfl rfl ?_
    refine XC.skip ?_
    refine XE.next ?_
    refine XC.keep [(2, _), (8, _)] (Sub.cons rfl (Sub.cons rfl (Sub.nil _))) ?_
    refine XC.seq ?_
    refine XC.seq ?_
    refine XC.region ?_
    refine XO.v (V.move rfl) rfl ?_
    refine XO.v (V.nilCheckP rfl) rfl ?_
    refine XO.v (V.fieldAddr rfl fo_25_1) rfl ?_
    refine XO.v (V.load rfl (inXM .here) (encP.ld_p_I_reads _ _ (by omega)) sc_3) rfl ?_
    refine XO.v (V.cmp rfl rfl rfl) rfl ?_
    refine XO.nil ?_
    refine XE.next ?_
    refine XC.keep [(2, _), (8, _), (25, _)] (Sub.cons rfl (Sub.cons rfl (Sub.cons rfl (Sub.nil _)))) ?_
    refine XC.condP rfl (fun h4 => ?_) (fun h4 => ?_)
    · skip
      refine XC.seq ?_
      refine XC.region ?_
      refine XO.v (V.makeIface rfl Try.underlying71 (by simp)) rfl ?_
      refine XO.v (V.assign rfl) rfl ?_
      refine XO.v (V.assign rfl) rfl ?_
      refine XO.nil ?_
      refine XE.next ?_
      refine XC.keep [(6, _), (7, _)] (Sub.cons rfl (Sub.cons rfl (Sub.nil _))) ?_
      refine XC.ret ?_
      refine XE.thenRet ?_
      refine XE.ret2 rfl rfl rfl (post_of (.cons .here .nil) rfl ?_)
      first
      | (rw [PS.read_err (by assumption)]; exact ⟨by show _ = Value.tuple #[_, errv 71 (s.is n)]; rw [errv_pos _ (by assumption)], rfl⟩)
      | (rw [PS.read_state (by assumption) (by assumption)]; exact ⟨rfl, rfl⟩)
      | (rw [PS.read_bound (by assumption) (by assumption) (by omega)]; exact ⟨rfl, rfl⟩)
      | (rw [PS.read_again (by assumption) (by assumption) (by omega) ⟨by assumption, by omega, by omega⟩]; exact ⟨rfl, rfl⟩)
      | (rw [PS.read_ok (by assumption) (by assumption) (by omega) (by rintro ⟨q1, q2, q3⟩; first | contradiction | omega)]; exact ⟨rfl, rfl⟩)
    · skip
      refine XC.skip ?_
      refine XE.next ?_
      refine XC.keep [(2, _), (8, _)] (Sub.cons rfl (Sub.cons rfl (Sub.nil _))) ?_
      refine XC.seq ?_
      refine XC.seq ?_
      refine XC.region ?_
      refine XO.v (V.move rfl) rfl ?_
      refine XO.v (V.cmp rfl rfl rfl) rfl ?_
      refine XO.nil ?_
      refine XE.next ?_
      refine XC.keep [(2, _), (8, _), (28, _)] (Sub.cons rfl (Sub.cons rfl (Sub.cons rfl (Sub.nil _)))) ?_
      refine XC.condP rfl (fun h5 => ?_) (fun h5 => ?_)
      · skip
        refine XC.seq ?_
        refine XC.region ?_
        refine XO.v (V.makeIface rfl Try.underlying71 (by simp)) rfl ?_
        refine XO.v (V.assign rfl) rfl ?_
        refine XO.v (V.assign rfl) rfl ?_
        refine XO.nil ?_
        refine XE.next ?_
        refine XC.keep [(6, _), (7, _)] (Sub.cons rfl (Sub.cons rfl (Sub.nil _))) ?_
        refine XC.ret ?_
        refine XE.thenRet ?_
        refine XE.ret2 rfl rfl rfl (post_of (.cons .here .nil) rfl ?_)
        first
        | (rw [PS.read_err (by assumption)]; exact ⟨by show _ = Value.tuple #[_, errv 71 (s.is n)]; rw [errv_pos _ (by assumption)], rfl⟩)
        | (rw [PS.read_state (by assumption) (by assumption)]; exact ⟨rfl, rfl⟩)
        | (rw [PS.read_bound (by assumption) (by assumption) (by omega)]; exact ⟨rfl, rfl⟩)
        | (rw [PS.read_again (by assumption) (by assumption) (by omega) ⟨by assumption, by omega, by omega⟩]; exact ⟨rfl, rfl⟩)
        | (rw [PS.read_ok (by assumption) (by assumption) (by omega) (by rintro ⟨q1, q2, q3⟩; first | contradiction | omega)]; exact ⟨rfl, rfl⟩)
      · skip
        refine XC.skip ?_
        refine XE.next ?_
        refine XC.keep [(2, _), (8, _)] (Sub.cons rfl (Sub.cons rfl (Sub.nil _))) ?_
        refine XC.seq ?_
        refine XC.seq ?_
        refine XC.region ?_
        refine XO.v (V.move rfl) rfl ?_
        refine XO.v (V.nilCheckP rfl) rfl ?_
        refine XO.v (V.fieldAddr rfl fo_25_0) rfl ?_
        refine XO.v (V.load rfl (inXM .here) (encP.ld_p_I_b _ _ (by omega)) sc_9) rfl ?_
        refine XO.v (V.strCmp rfl rfl rfl) rfl ?_
        refine XO.v (V.move rfl) rfl ?_
        refine XO.splitP (d := 35) rfl (fun h6 => ?_) (fun h6 => ?_)
        · skip
          refine XO.guardRun rfl rfl rfl ?_
          refine XO.v (V.move rfl) rfl ?_
          refine XO.guardRun rfl rfl rfl ?_
          refine XO.v (V.nilCheckP rfl) rfl ?_
          refine XO.guardRun rfl rfl rfl ?_
          refine XO.v (V.fieldAddr rfl fo_25_2) rfl ?_
          refine XO.guardRun rfl rfl rfl ?_
          refine XO.v (V.load rfl (inXM .here) (encP.ld_p_I_writes _ _ (by omega)) sc_3) rfl ?_
          refine XO.guardRun rfl rfl rfl ?_
          refine XO.v (V.cmp rfl rfl rfl) rfl ?_
          refine XO.v (V.pick rfl rfl rfl rfl) rfl ?_
          refine XO.v (V.move rfl) rfl ?_
          refine XO.splitP (d := 42) rfl (fun h7 => ?_) (fun h7 => ?_)
          · skip
            refine XO.guardRun rfl rfl rfl ?_
            refine XO.v (V.move rfl) rfl ?_
            refine XO.guardRun rfl rfl rfl ?_
            refine XO.v (V.cmp rfl rfl rfl) rfl ?_
            refine XO.v (V.pick rfl rfl rfl rfl) rfl ?_
            refine XO.nil ?_
            refine XE.next ?_
            refine XC.keep [(2, _), (8, _), (45, _)] (Sub.cons rfl (Sub.cons rfl (Sub.cons rfl (Sub.nil _)))) ?_
            refine XC.condP rfl (fun h8 => ?_) (fun h8 => ?_)
            · skip
              refine XC.seq ?_
              refine XC.region ?_
              refine XO.v (V.makeIface rfl Try.underlying71 (by simp)) rfl ?_
              refine XO.v (V.assign rfl) rfl ?_
              refine XO.v (V.assign rfl) rfl ?_
              refine XO.nil ?_
              refine XE.next ?_
              refine XC.keep [(6, _), (7, _)] (Sub.cons rfl (Sub.cons rfl (Sub.nil _))) ?_
              refine XC.ret ?_
              refine XE.thenRet ?_
              refine XE.ret2 rfl rfl rfl (post_of (.cons .here .nil) rfl ?_)
              first
              | (rw [PS.read_err (by assumption)]; exact ⟨by show _ = Value.tuple #[_, errv 71 (s.is n)]; rw [errv_pos _ (by assumption)], rfl⟩)
              | (rw [PS.read_state (by assumption) (by assumption)]; exact ⟨rfl, rfl⟩)
              | (rw [PS.read_bound (by assumption) (by assumption) (by omega)]; exact ⟨rfl, rfl⟩)
              | (rw [PS.read_again (by assumption) (by assumption) (by omega) ⟨by assumption, by omega, by omega⟩]; exact ⟨rfl, rfl⟩)
              | (rw [PS.read_ok (by assumption) (by assumption) (by omega) (by rintro ⟨q1, q2, q3⟩; first | contradiction | omega)]; exact ⟨rfl, rfl⟩)
            · skip
              refine XC.skip ?_
              refine XE.next ?_
              refine XC.keep [(2, _), (8, _)] (Sub.cons rfl (Sub.cons rfl (Sub.nil _))) ?_
              refine XC.seq ?_
              refine XC.region ?_
              refine XO.v (V.move rfl) rfl ?_
              refine XO.v (V.move rfl) rfl ?_
              refine XO.v (V.nilCheckP rfl) rfl ?_
              refine XO.v (V.fieldAddr rfl fo_25_0) rfl ?_
              refine XO.v (V.load rfl (inXM .here) (encP.ld_p_I_b _ _ (by omega)) sc_9) rfl ?_
              refine XO.v (V.lenStr rfl Try.underlying9) rfl ?_
              refine XO.v (V.min2 rfl rfl) rfl ?_
              refine XO.v (V.assign rfl) rfl ?_
              refine XO.nil ?_
              refine XE.next ?_
              refine XC.keep [(8, _), (10, _)] (Sub.cons rfl (Sub.cons rfl (Sub.nil _))) ?_
              refine XC.seq ?_
              refine XC.region ?_
              refine XO.v (V.move rfl) rfl ?_
              refine XO.v (V.nilCheckP rfl) rfl ?_
              refine XO.v (V.fieldAddr rfl fo_25_0) rfl ?_
              refine XO.v (V.load rfl (inXM .here) (encP.ld_p_I_b _ _ (by omega)) sc_9) rfl ?_
              refine XO.v (V.move rfl) rfl ?_
              refine XO.v (V.sliceTo rfl rfl Try.underlying9 (by omega)) rfl ?_
              refine XO.v (V.assign rfl) rfl ?_
              refine XO.nil ?_
              refine XE.next ?_
              refine XC.keep [(8, _), (10, _), (11, _)] (Sub.cons rfl (Sub.cons rfl (Sub.cons rfl (Sub.nil _)))) ?_
              refine XC.seq ?_
              refine XC.region ?_
              refine XO.v (V.move rfl) rfl ?_
              refine XO.v (V.move rfl) rfl ?_
              refine XO.v (V.nilCheckP rfl) rfl ?_
              refine XO.v (V.fieldAddr rfl fo_25_0) rfl ?_
              refine XO.v (V.load rfl (inXM .here) (encP.ld_p_I_b _ _ (by omega)) sc_9) rfl ?_
              refine XO.v (V.move rfl) rfl ?_
              refine XO.v (V.sliceFrom rfl rfl Try.underlying9 (by omega)) rfl ?_
              refine XO.v (V.nilCheckP rfl) rfl ?_
              refine XO.v (V.fieldAddr rfl fo_25_0) rfl ?_
              refine XO.store rfl rfl .here (encP.st_p_I_b _ _ (by omega) _) rfl sz_9_1 ?_
              refine XO.nil ?_
              refine XE.next ?_
              refine XC.keep [(11, _)] (Sub.cons rfl (Sub.nil _)) ?_
              refine XC.seq ?_
              refine XC.region ?_
              refine XO.v (V.move rfl) rfl ?_
              refine XO.v (V.assign rfl) rfl ?_
              refine XO.v (V.assign rfl) rfl ?_
              refine XO.nil ?_
              refine XE.next ?_
              refine XC.keep [(6, _), (7, _)] (Sub.cons rfl (Sub.cons rfl (Sub.nil _))) ?_
              refine XC.ret ?_
              refine XE.ret2 rfl rfl rfl (post_of (.cons .here .nil) rfl ?_)
              first
              | (rw [PS.read_err (by assumption)]; exact ⟨by show _ = Value.tuple #[_, errv 71 (s.is n)]; rw [errv_pos _ (by assumption)], rfl⟩)
              | (rw [PS.read_state (by assumption) (by assumption)]; exact ⟨rfl, rfl⟩)
              | (rw [PS.read_bound (by assumption) (by assumption) (by omega)]; exact ⟨rfl, rfl⟩)
              | (rw [PS.read_again (by assumption) (by assumption) (by omega) ⟨by assumption, by omega, by omega⟩]; exact ⟨rfl, rfl⟩)
              | (rw [PS.read_ok (by assumption) (by assumption) (by omega) (by rintro ⟨q1, q2, q3⟩; first | contradiction | omega)]; exact ⟨rfl, rfl⟩)
          · skip
            refine XO.guardSkip rfl rfl rfl rfl rfl ?_
            refine XO.guardSkip rfl rfl rfl rfl rfl ?_
            refine XO.v (V.pick rfl rfl rfl rfl) rfl ?_
            refine XO.nil ?_
            refine XE.next ?_
            refine XC.keep [(2, _), (8, _), (45, _)] (Sub.cons rfl (Sub.cons rfl (Sub.cons rfl (Sub.nil _)))) ?_
            refine XC.condF rfl rfl ?_
            refine XC.skip ?_
            refine XE.next ?_
            refine XC.keep [(2, _), (8, _)] (Sub.cons rfl (Sub.cons rfl (Sub.nil _))) ?_
            refine XC.seq ?_
            refine XC.region ?_
            refine XO.v (V.move rfl) rfl ?_
            refine XO.v (V.move rfl) rfl ?_
            refine XO.v (V.nilCheckP rfl) rfl ?_
            refine XO.v (V.fieldAddr rfl fo_25_0) rfl ?_
            refine XO.v (V.load rfl (inXM .here) (encP.ld_p_I_b _ _ (by omega)) sc_9) rfl ?_
            refine XO.v (V.lenStr rfl Try.underlying9) rfl ?_
            refine XO.v (V.min2 rfl rfl) rfl ?_
            refine XO.v (V.assign rfl) rfl ?_
            refine XO.nil ?_
            refine XE.next ?_
            refine XC.keep [(8, _), (10, _)] (Sub.cons rfl (Sub.cons rfl (Sub.nil _))) ?_
            refine XC.seq ?_
            refine XC.region ?_
            refine XO.v (V.move rfl) rfl ?_
            refine XO.v (V.nilCheckP rfl) rfl ?_
            refine XO.v (V.fieldAddr rfl fo_25_0) rfl ?_
            refine XO.v (V.load rfl (inXM .here) (encP.ld_p_I_b _ _ (by omega)) sc_9) rfl ?_
            refine XO.v (V.move rfl) rfl ?_
            refine XO.v (V.sliceTo rfl rfl Try.underlying9 (by omega)) rfl ?_
            refine XO.v (V.assign rfl) rfl ?_
            refine XO.nil ?_
            refine XE.next ?_
            refine XC.keep [(8, _), (10, _), (11, _)] (Sub.cons rfl (Sub.cons rfl (Sub.cons rfl (Sub.nil _)))) ?_
            refine XC.seq ?_
            refine XC.region ?_
            refine XO.v (V.move rfl) rfl ?_
            refine XO.v (V.move rfl) rfl ?_
            refine XO.v (V.nilCheckP rfl) rfl ?_
            refine XO.v (V.fieldAddr rfl fo_25_0) rfl ?_
            refine XO.v (V.load rfl (inXM .here) (encP.ld_p_I_b _ _ (by omega)) sc_9) rfl ?_
            refine XO.v (V.move rfl) rfl ?_
            refine XO.v (V.sliceFrom rfl rfl Try.underlying9 (by omega)) rfl ?_
            refine XO.v (V.nilCheckP rfl) rfl ?_
            refine XO.v (V.fieldAddr rfl fo_25_0) rfl ?_
            refine XO.store rfl rfl .here (encP.st_p_I_b _ _ (by omega) _) rfl sz_9_1 ?_
            refine XO.nil ?_
            refine XE.next ?_
            refine XC.keep [(11, _)] (Sub.cons rfl (Sub.nil _)) ?_
            refine XC.seq ?_
            refine XC.region ?_
            refine XO.v (V.move rfl) rfl ?_
            refine XO.v (V.assign rfl) rfl ?_
            refine XO.v (V.assign rfl) rfl ?_
            refine XO.nil ?_
            refine XE.next ?_
            refine XC.keep [(6, _), (7, _)] (Sub.cons rfl (Sub.cons rfl (Sub.nil _))) ?_
            refine XC.ret ?_
            refine XE.ret2 rfl rfl rfl (post_of (.cons .here .nil) rfl ?_)
            first
            | (rw [PS.read_err (by assumption)]; exact ⟨by show _ = Value.tuple #[_, errv 71 (s.is n)]; rw [errv_pos _ (by assumption)], rfl⟩)
            | (rw [PS.read_state (by assumption) (by assumption)]; exact ⟨rfl, rfl⟩)
            | (rw [PS.read_bound (by assumption) (by assumption) (by omega)]; exact ⟨rfl, rfl⟩)
            | (rw [PS.read_again (by assumption) (by assumption) (by omega) ⟨by assumption, by omega, by omega⟩]; exact ⟨rfl, rfl⟩)
            | (rw [PS.read_ok (by assumption) (by assumption) (by omega) (by rintro ⟨q1, q2, q3⟩; first | contradiction | omega)]; exact ⟨rfl, rfl⟩)
        · skip
          refine XO.guardSkip rfl rfl rfl rfl rfl ?_
          refine XO.guardSkip rfl rfl rfl rfl rfl ?_
          refine XO.guardSkip rfl rfl rfl rfl rfl ?_
          refine XO.guardSkip rfl rfl rfl rfl rfl ?_
          refine XO.guardSkip rfl rfl rfl rfl rfl ?_
          refine XO.v (V.pick rfl rfl rfl rfl) rfl ?_
          refine XO.v (V.move rfl) rfl ?_
          refine XO.guardSkip rfl rfl rfl rfl rfl ?_
          refine XO.guardSkip rfl rfl rfl rfl rfl ?_
          refine XO.v (V.pick rfl rfl rfl rfl) rfl ?_
          refine XO.nil ?_
          refine XE.next ?_
          refine XC.keep [(2, _), (8, _), (45, _)] (Sub.cons rfl (Sub.cons rfl (Sub.cons rfl (Sub.nil _)))) ?_
          refine XC.condF rfl rfl ?_
          refine XC.skip ?_
          refine XE.next ?_
          refine XC.keep [(2, _), (8, _)] (Sub.cons rfl (Sub.cons rfl (Sub.nil _))) ?_
          refine XC.seq ?_
          refine XC.region ?_
          refine XO.v (V.move rfl) rfl ?_
          refine XO.v (V.move rfl) rfl ?_
          refine XO.v (V.nilCheckP rfl) rfl ?_
          refine XO.v (V.fieldAddr rfl fo_25_0) rfl ?_
          refine XO.v (V.load rfl (inXM .here) (encP.ld_p_I_b _ _ (by omega)) sc_9) rfl ?_
          refine XO.v (V.lenStr rfl Try.underlying9) rfl ?_
          refine XO.v (V.min2 rfl rfl) rfl ?_
          refine XO.v (V.assign rfl) rfl ?_
          refine XO.nil ?_
          refine XE.next ?_
          refine XC.keep [(8, _), (10, _)] (Sub.cons rfl (Sub.cons rfl (Sub.nil _))) ?_
          refine XC.seq ?_
          refine XC.region ?_
          refine XO.v (V.move rfl) rfl ?_
          refine XO.v (V.nilCheckP rfl) rfl ?_
          refine XO.v (V.fieldAddr rfl fo_25_0) rfl ?_
          refine XO.v (V.load rfl (inXM .here) (encP.ld_p_I_b _ _ (by omega)) sc_9) rfl ?_
          refine XO.v (V.move rfl) rfl ?_
          refine XO.v (V.sliceTo rfl rfl Try.underlying9 (by omega)) rfl ?_
          refine XO.v (V.assign rfl) rfl ?_
          refine XO.nil ?_
          refine XE.next ?_
          refine XC.keep [(8, _), (10, _), (11, _)] (Sub.cons rfl (Sub.cons rfl (Sub.cons rfl (Sub.nil _)))) ?_
          refine XC.seq ?_
          refine XC.region ?_
          refine XO.v (V.move rfl) rfl ?_
          refine XO.v (V.move rfl) rfl ?_
          refine XO.v (V.nilCheckP rfl) rfl ?_
          refine XO.v (V.fieldAddr rfl fo_25_0) rfl ?_
          refine XO.v (V.load rfl (inXM .here) (encP.ld_p_I_b _ _ (by omega)) sc_9) rfl ?_
          refine XO.v (V.move rfl) rfl ?_
          refine XO.v (V.sliceFrom rfl rfl Try.underlying9 (by omega)) rfl ?_
          refine XO.v (V.nilCheckP rfl) rfl ?_
          refine XO.v (V.fieldAddr rfl fo_25_0) rfl ?_
          refine XO.store rfl rfl .here (encP.st_p_I_b _ _ (by omega) _) rfl sz_9_1 ?_
          refine XO.nil ?_
          refine XE.next ?_
          refine XC.keep [(11, _)] (Sub.cons rfl (Sub.nil _)) ?_
          refine XC.seq ?_
          refine XC.region ?_
          refine XO.v (V.move rfl) rfl ?_
          refine XO.v (V.assign rfl) rfl ?_
          refine XO.v (V.assign rfl) rfl ?_
          refine XO.nil ?_
          refine XE.next ?_
          refine XC.keep [(6, _), (7, _)] (Sub.cons rfl (Sub.cons rfl (Sub.nil _))) ?_
          refine XC.ret ?_
          refine XE.ret2 rfl rfl rfl (post_of (.cons .here .nil) rfl ?_)
          first
          | (rw [PS.read_err (by assumption)]; exact ⟨by show _ = Value.tuple #[_, errv 71 (s.is n)]; rw [errv_pos _ (by assumption)], rfl⟩)
          | (rw [PS.read_state (by assumption) (by assumption)]; exact ⟨rfl, rfl⟩)
          | (rw [PS.read_bound (by assumption) (by assumption) (by omega)]; exact ⟨rfl, rfl⟩)
          | (rw [PS.read_again (by assumption) (by assumption) (by omega) ⟨by assumption, by omega, by omega⟩]; exact ⟨rfl, rfl⟩)
          | (rw [PS.read_ok (by assumption) (by assumption) (by omega) (by rintro ⟨q1, q2, q3⟩; first | contradiction | omega)]; exact ⟨rfl, rfl⟩)
  · skip
    refine XO.v (V.move rfl) rfl ?_
    refine XO.v (V.extract rfl rfl) rfl ?_
    refine XO.v (V.extract rfl rfl) rfl ?_
    refine XO.v (V.assign rfl) rfl ?_
    refine XO.v (V.assign rfl) rfl ?_
    refine XO.nil ?_
    refine XE.next ?_
    refine XC.keep [(2, _), (8, _), (9, _)] (Sub.cons rfl (Sub.cons rfl (Sub.cons rfl (Sub.nil _)))) ?_
    refine XC.seq ?_
    refine XC.seq ?_
    refine XC.region ?_
    refine XO.v (V.move rfl) rfl ?_
    refine XO.v (V.ifaceNil rfl Try.underlying30 rfl) rfl ?_
    refine XO.nil ?_
    refine XE.next ?_
    refine XC.keep [(2, _), (8, _), (9, _), (19, _)] (Sub.cons rfl (Sub.cons rfl (Sub.cons rfl (Sub.cons rfl (Sub.nil _))))) ?_
    refine XC.condT rfl rfl ?_
    refine XC.seq ?_
    refine XC.region ?_
    refine XO.v (V.move rfl) rfl ?_
    refine XO.v (V.assign rfl) rfl ?_
    refine XO.v (V.assign rfl) rfl ?_
    refine XO.nil ?_
    refine XE.next ?_
    refine XC.keep [(6, _), (7, _)] (Sub.cons rfl (Sub.cons rfl (Sub.nil _))) ?_
    refine XC.ret ?_
    refine XE.thenRet ?_
    refine XE.ret2 rfl rfl rfl (post_of (.cons .here .nil) rfl ?_)
    first
    | (rw [PS.read_err (by assumption)]; exact ⟨by show _ = Value.tuple #[_, errv 71 (s.is n)]; rw [errv_pos _ (by assumption)], rfl⟩)
    | (rw [PS.read_state (by assumption) (by assumption)]; exact ⟨rfl, rfl⟩)
    | (rw [PS.read_bound (by assumption) (by assumption) (by omega)]; exact ⟨rfl, rfl⟩)
    | (rw [PS.read_again (by assumption) (by assumption) (by omega) ⟨by assumption, by omega, by omega⟩]; exact ⟨rfl, rfl⟩)
    | (rw [PS.read_ok (by assumption) (by assumption) (by omega) (by rintro ⟨q1, q2, q3⟩; first | contradiction | omega)]; exact ⟨rfl, rfl⟩)
set_option maxRecDepth 10000 in
set_option maxHeartbeats 400000 in
theorem p_Write (b o : Nat) (K : Int) (hK : K ≤ 1000000) (s : PS) (hI : s.Inv K) (n : Int) (t : ByteArray) (ht : t.size ≤ 1000000) : Spec Try.prog 12 [ptr b o 0, .int .i64 n, .string t]
    [.cells b o 24 (encP s)]
    (fun v H1 => v = .tuple #[.int .i64 (s.write n t).1, errv 71 (s.write n t).2.1] ∧ H1 = [.cells b o 24 (encP (s.write n t).2.2)]) := by
  have b0 := hI.e0 n
  have b1 := hI.e1 n
  have bl := hI.len n
  have he := str_empty t
  refine Spec.intro Try.func12 rfl rfl ?_
  intro W
  refine XC.seq ?_
  refine XC.region ?_
  refine XO.v (V.assign rfl) rfl ?_
  refine XO.v (V.assign rfl) rfl ?_
  refine XO.nil ?_
  refine XE.next ?_
  refine XC.keep [(0, _), (1, _), (2, _)] (Sub.cons rfl (Sub.cons rfl (Sub.cons rfl (Sub.nil _)))) ?_
  refine XC.seq ?_
  refine XC.region ?_
  refine XO.v (V.move rfl) rfl ?_
  refine XO.v (V.move rfl) rfl ?_
  refine XO.call rfl (p_is _ _ K hK s hI _) (.cons .here .nil) cl_39 rfl ?_
  rintro _ _ (⟨h1, rfl, rfl⟩ | ⟨h1, rfl, rfl⟩)
  · skip
    obtain ⟨h1, h2, h3⟩ := h1
    refine XO.v (V.move rfl) rfl ?_
    refine XO.v (V.extract rfl rfl) rfl ?_
    refine XO.v (V.extract rfl rfl) rfl ?_
    refine XO.v (V.assign rfl) rfl ?_
    refine XO.v (V.assign rfl) rfl ?_
    refine XO.nil ?_
    refine XE.next ?_
    refine XC.keep [(2, _), (8, _), (9, _)] (Sub.cons rfl (Sub.cons rfl (Sub.cons rfl (Sub.nil _)))) ?_
    refine XC.seq ?_
    refine XC.seq ?_
    refine XC.region ?_
    refine XO.v (V.move rfl) rfl ?_
    refine XO.v (V.nilNil rfl Try.underlying30 rfl) rfl ?_
    refine XO.nil ?_
    refine XE.next ?_
    refine XC.keep [(2, _), (8, _), (9, _), (18, _)] (Sub.cons rfl (Sub.cons rfl (Sub.cons rfl (Sub.cons rfl (Sub.nil _))))) ?_
    refine XC.condF rfl rfl ?_
    refine XC.skip ?_
    refine XE.next ?_
    refine XC.keep [(2, _), (8, _)] (Sub.cons rfl (Sub.cons rfl (Sub.nil _))) ?_
    refine XC.seq ?_
    refine XC.seq ?_
    refine XC.region ?_
    refine XO.v (V.move rfl) rfl ?_
    refine XO.v (V.nilCheckP rfl) rfl ?_
    refine XO.v (V.fieldAddr rfl fo_25_2) rfl ?_
    refine XO.v (V.load rfl (inXM .here) (encP.ld_p_I_writes _ _ (by omega)) sc_3) rfl ?_
    refine XO.v (V.cmp rfl rfl rfl) rfl ?_
    refine XO.nil ?_
    refine XE.next ?_
    refine XC.keep [(2, _), (8, _), (24, _)] (Sub.cons rfl (Sub.cons rfl (Sub.cons rfl (Sub.nil _)))) ?_
    refine XC.condP rfl (fun h4 => ?_) (fun h4 => ?_)
    · skip
      refine XC.seq ?_
      refine XC.region ?_
      refine XO.v (V.makeIface rfl Try.underlying71 (by simp)) rfl ?_
      refine XO.v (V.assign rfl) rfl ?_
      refine XO.v (V.assign rfl) rfl ?_
      refine XO.nil ?_
      refine XE.next ?_
      refine XC.keep [(6, _), (7, _)] (Sub.cons rfl (Sub.cons rfl (Sub.nil _))) ?_
      refine XC.ret ?_
      refine XE.thenRet ?_
      refine XE.ret2 rfl rfl rfl (post_of (.cons .here .nil) rfl ?_)
      first
      | (rw [PS.write_err (by assumption)]; exact ⟨by show _ = Value.tuple #[_, errv 71 (s.is n)]; rw [errv_pos _ (by assumption)], rfl⟩)
      | (rw [PS.write_state (by assumption) (by assumption)]; exact ⟨rfl, rfl⟩)
      | (rw [PS.write_broken (by assumption) (by assumption) (by assumption)]; exact ⟨rfl, rfl⟩)
      | (rw [PS.write_again (by assumption) (by assumption) (by assumption) ⟨by assumption, by first | omega | (have hq := mt he.2 (by assumption); omega)⟩]; exact ⟨rfl, rfl⟩)
      | (rw [PS.write_ok (by assumption) (by assumption) (by assumption) (by first | omega | (have hq := he.1 (Decidable.not_not.1 (by assumption)); omega))]; exact ⟨rfl, rfl⟩)
    · skip
      refine XC.skip ?_
      refine XE.next ?_
      refine XC.keep [(2, _), (8, _)] (Sub.cons rfl (Sub.cons rfl (Sub.nil _))) ?_
      refine XC.seq ?_
      refine XC.seq ?_
      refine XC.region ?_
      refine XO.v (V.move rfl) rfl ?_
      refine XO.v (V.nilCheckP rfl) rfl ?_
      refine XO.v (V.fieldAddr rfl fo_25_1) rfl ?_
      refine XO.v (V.load rfl (inXM .here) (encP.ld_p_I_reads _ _ (by omega)) sc_3) rfl ?_
      refine XO.v (V.cmp rfl rfl rfl) rfl ?_
      refine XO.nil ?_
      refine XE.next ?_
      refine XC.keep [(2, _), (8, _), (30, _)] (Sub.cons rfl (Sub.cons rfl (Sub.cons rfl (Sub.nil _)))) ?_
      refine XC.condP rfl (fun h5 => ?_) (fun h5 => ?_)
      · skip
        refine XC.seq ?_
        refine XC.region ?_
        refine XO.v (V.makeIface rfl Try.underlying71 (by simp)) rfl ?_
        refine XO.v (V.assign rfl) rfl ?_
        refine XO.v (V.assign rfl) rfl ?_
        refine XO.nil ?_
        refine XE.next ?_
        refine XC.keep [(6, _), (7, _)] (Sub.cons rfl (Sub.cons rfl (Sub.nil _))) ?_
        refine XC.ret ?_
        refine XE.thenRet ?_
        refine XE.ret2 rfl rfl rfl (post_of (.cons .here .nil) rfl ?_)
        first
        | (rw [PS.write_err (by assumption)]; exact ⟨by show _ = Value.tuple #[_, errv 71 (s.is n)]; rw [errv_pos _ (by assumption)], rfl⟩)
        | (rw [PS.write_state (by assumption) (by assumption)]; exact ⟨rfl, rfl⟩)
        | (rw [PS.write_broken (by assumption) (by assumption) (by assumption)]; exact ⟨rfl, rfl⟩)
        | (rw [PS.write_again (by assumption) (by assumption) (by assumption) ⟨by assumption, by first | omega | (have hq := mt he.2 (by assumption); omega)⟩]; exact ⟨rfl, rfl⟩)
        | (rw [PS.write_ok (by assumption) (by assumption) (by assumption) (by first | omega | (have hq := he.1 (Decidable.not_not.1 (by assumption)); omega))]; exact ⟨rfl, rfl⟩)
      · skip
        refine XC.skip ?_
        refine XE.next ?_
        refine XC.keep [(2, _), (8, _)] (Sub.cons rfl (Sub.cons rfl (Sub.nil _))) ?_
        refine XC.seq ?_
        refine XC.region ?_
        refine XO.v (V.move rfl) rfl ?_
        refine XO.v (V.lenStr rfl Try.underlying9) rfl ?_
        refine XO.v (V.move rfl) rfl ?_
        refine XO.v (V.nilCheckP rfl) rfl ?_
        refine XO.v (V.fieldAddr rfl fo_25_0) rfl ?_
        refine XO.v (V.load rfl (inXM .here) (encP.ld_p_I_b _ _ (by omega)) sc_9) rfl ?_
        refine XO.v (V.lenStr rfl Try.underlying9) rfl ?_
        refine XO.v (V.sub rfl rfl _ (IntWalk.i64_in _ (by omega))) rfl ?_
        refine XO.v (V.min2 rfl rfl) rfl ?_
        refine XO.v (V.assign rfl) rfl ?_
        refine XO.nil ?_
        refine XE.next ?_
        refine XC.keep [(2, _), (8, _), (10, _)] (Sub.cons rfl (Sub.cons rfl (Sub.cons rfl (Sub.nil _)))) ?_
        refine XC.seq ?_
        refine XC.seq ?_
        refine XC.region ?_
        refine XO.v (V.move rfl) rfl ?_
        refine XO.v (V.cmp rfl rfl rfl) rfl ?_
        refine XO.v (V.move rfl) rfl ?_
        refine XO.splitP (d := 43) rfl (fun h6 => ?_) (fun h6 => ?_)
        · skip
          refine XO.guardRun rfl rfl rfl ?_
          refine XO.v (V.move rfl) rfl ?_
          refine XO.guardRun rfl rfl rfl ?_
          refine XO.v (V.strCmp rfl rfl rfl) rfl ?_
          refine XO.v (V.pick rfl rfl rfl rfl) rfl ?_
          refine XO.nil ?_
          refine XE.next ?_
          refine XC.keep [(2, _), (8, _), (10, _), (46, _)] (Sub.cons rfl (Sub.cons rfl (Sub.cons rfl (Sub.cons rfl (Sub.nil _))))) ?_
          refine XC.condP rfl (fun h7 => ?_) (fun h7 => ?_)
          · skip
            refine XC.seq ?_
            refine XC.region ?_
            refine XO.v (V.makeIface rfl Try.underlying71 (by simp)) rfl ?_
            refine XO.v (V.assign rfl) rfl ?_
            refine XO.v (V.assign rfl) rfl ?_
            refine XO.nil ?_
            refine XE.next ?_
            refine XC.keep [(6, _), (7, _)] (Sub.cons rfl (Sub.cons rfl (Sub.nil _))) ?_
            refine XC.ret ?_
            refine XE.thenRet ?_
            refine XE.ret2 rfl rfl rfl (post_of (.cons .here .nil) rfl ?_)
            first
            | (rw [PS.write_err (by assumption)]; exact ⟨by show _ = Value.tuple #[_, errv 71 (s.is n)]; rw [errv_pos _ (by assumption)], rfl⟩)
            | (rw [PS.write_state (by assumption) (by assumption)]; exact ⟨rfl, rfl⟩)
            | (rw [PS.write_broken (by assumption) (by assumption) (by assumption)]; exact ⟨rfl, rfl⟩)
            | (rw [PS.write_again (by assumption) (by assumption) (by assumption) ⟨by assumption, by first | omega | (have hq := mt he.2 (by assumption); omega)⟩]; exact ⟨rfl, rfl⟩)
            | (rw [PS.write_ok (by assumption) (by assumption) (by assumption) (by first | omega | (have hq := he.1 (Decidable.not_not.1 (by assumption)); omega))]; exact ⟨rfl, rfl⟩)
          · skip
            refine XC.skip ?_
            refine XE.next ?_
            refine XC.keep [(2, _), (8, _), (10, _)] (Sub.cons rfl (Sub.cons rfl (Sub.cons rfl (Sub.nil _)))) ?_
            refine XC.seq ?_
            refine XC.regionQ mixed (f := 11) (l := #[false, false, false, false, false, false, false, false, false, false, false]) rfl rfl XM.drawn' ?_
            refine XQ.pv (i := 0) (l' := #[true, false, false, false, false, false, false, false, false, false, false]) rfl (by kernel_rfl) rfl (V.move rfl) rfl rfl ?_
            refine XQ.pv (i := 1) (l' := #[true, true, false, false, false, false, false, false, false, false, false]) rfl (by kernel_rfl) rfl (V.nilCheckP rfl) rfl rfl ?_
            refine XQ.pv (i := 2) (l' := #[true, true, true, false, false, false, false, false, false, false, false]) rfl (by kernel_rfl) rfl (V.fieldAddr rfl fo_25_0) rfl rfl ?_
            refine XQ.load (i := 3) (l' := #[true, true, true, true, false, false, false, false, false, false, false]) (.cells _ _ _ _) [10] rfl (by kernel_rfl) rfl .here (V.load rfl inEnt (encP.ld_p_I_b _ _ (by omega)) sc_9) rfl (by kernel_rfl) rfl ?_
            refine XQ.pv (i := 4) (l' := #[true, true, true, true, true, false, false, false, false, false, false]) rfl (by kernel_rfl) rfl (V.move rfl) rfl rfl ?_
            refine XQ.pv (i := 5) (l' := #[true, true, true, true, true, true, false, false, false, false, false]) rfl (by kernel_rfl) rfl (V.move rfl) rfl rfl ?_
            refine XQ.pv (i := 6) (l' := #[true, true, true, true, true, true, true, false, false, false, false]) rfl (by kernel_rfl) rfl (V.sliceTo rfl rfl Try.underlying9 (by omega)) rfl rfl ?_
            refine XQ.pv (i := 7) (l' := #[true, true, true, true, true, true, true, true, false, false, false]) rfl (by kernel_rfl) rfl (V.concat rfl rfl (by simp only [ByteArray.size_extract]; omega)) rfl rfl ?_
            refine XQ.pv (i := 8) (l' := #[true, true, true, true, true, true, true, true, true, false, false]) rfl (by kernel_rfl) rfl (V.nilCheckP rfl) rfl rfl ?_
            refine XQ.pv (i := 9) (l' := #[true, true, true, true, true, true, true, true, true, true, false]) rfl (by kernel_rfl) rfl (V.fieldAddr rfl fo_25_0) rfl rfl ?_
            refine XQ.store (i := 10) (l' := #[true, true, true, true, true, true, true, true, true, true, true]) rfl (by kernel_rfl) rfl rfl rfl .here (encP.st_p_I_b _ _ (by omega) _) rfl sz_9_1 (fun _ hw' => ⟨fun hs => (hs 10 (by simp) rfl).elim, trivial⟩) ?_
            refine XQ.done (by kernel_rfl) ?_
            refine XE.next ?_
            refine XC.keep [(10, _)] (Sub.cons rfl (Sub.nil _)) ?_
            refine XC.seq ?_
            refine XC.region ?_
            refine XO.v (V.move rfl) rfl ?_
            refine XO.v (V.assign rfl) rfl ?_
            refine XO.v (V.assign rfl) rfl ?_
            refine XO.nil ?_
            refine XE.next ?_
            refine XC.keep [(6, _), (7, _)] (Sub.cons rfl (Sub.cons rfl (Sub.nil _))) ?_
            refine XC.ret ?_
            refine XE.ret2 rfl rfl rfl (post_of (.cons .here .nil) rfl ?_)
            first
            | (rw [PS.write_err (by assumption)]; exact ⟨by show _ = Value.tuple #[_, errv 71 (s.is n)]; rw [errv_pos _ (by assumption)], rfl⟩)
            | (rw [PS.write_state (by assumption) (by assumption)]; exact ⟨rfl, rfl⟩)
            | (rw [PS.write_broken (by assumption) (by assumption) (by assumption)]; exact ⟨rfl, rfl⟩)
            | (rw [PS.write_again (by assumption) (by assumption) (by assumption) ⟨by assumption, by first | omega | (have hq := mt he.2 (by assumption); omega)⟩]; exact ⟨rfl, rfl⟩)
            | (rw [PS.write_ok (by assumption) (by assumption) (by assumption) (by first | omega | (have hq := he.1 (Decidable.not_not.1 (by assumption)); omega))]; exact ⟨rfl, rfl⟩)
        · skip
          refine XO.guardSkip rfl rfl rfl rfl rfl ?_
          refine XO.guardSkip rfl rfl rfl rfl rfl ?_
          refine XO.v (V.pick rfl rfl rfl rfl) rfl ?_
          refine XO.nil ?_
          refine XE.next ?_
          refine XC.keep [(2, _), (8, _), (10, _), (46, _)] (Sub.cons rfl (Sub.cons rfl (Sub.cons rfl (Sub.cons rfl (Sub.nil _))))) ?_
          refine XC.condF rfl rfl ?_
          refine XC.skip ?_
          refine XE.next ?_
          refine XC.keep [(2, _), (8, _), (10, _)] (Sub.cons rfl (Sub.cons rfl (Sub.cons rfl (Sub.nil _)))) ?_
          refine XC.seq ?_
          refine XC.regionQ mixed (f := 11) (l := #[false, false, false, false, false, false, false, false, false, false, false]) rfl rfl XM.drawn' ?_
          refine XQ.pv (i := 0) (l' := #[true, false, false, false, false, false, false, false, false, false, false]) rfl (by kernel_rfl) rfl (V.move rfl) rfl rfl ?_
          refine XQ.pv (i := 1) (l' := #[true, true, false, false, false, false, false, false, false, false, false]) rfl (by kernel_rfl) rfl (V.nilCheckP rfl) rfl rfl ?_
          refine XQ.pv (i := 2) (l' := #[true, true, true, false, false, false, false, false, false, false, false]) rfl (by kernel_rfl) rfl (V.fieldAddr rfl fo_25_0) rfl rfl ?_
          refine XQ.load (i := 3) (l' := #[true, true, true, true, false, false, false, false, false, false, false]) (.cells _ _ _ _) [10] rfl (by kernel_rfl) rfl .here (V.load rfl inEnt (encP.ld_p_I_b _ _ (by omega)) sc_9) rfl (by kernel_rfl) rfl ?_
          refine XQ.pv (i := 4) (l' := #[true, true, true, true, true, false, false, false, false, false, false]) rfl (by kernel_rfl) rfl (V.move rfl) rfl rfl ?_
          refine XQ.pv (i := 5) (l' := #[true, true, true, true, true, true, false, false, false, false, false]) rfl (by kernel_rfl) rfl (V.move rfl) rfl rfl ?_
          refine XQ.pv (i := 6) (l' := #[true, true, true, true, true, true, true, false, false, false, false]) rfl (by kernel_rfl) rfl (V.sliceTo rfl rfl Try.underlying9 (by omega)) rfl rfl ?_
          refine XQ.pv (i := 7) (l' := #[true, true, true, true, true, true, true, true, false, false, false]) rfl (by kernel_rfl) rfl (V.concat rfl rfl (by simp only [ByteArray.size_extract]; omega)) rfl rfl ?_
          refine XQ.pv (i := 8) (l' := #[true, true, true, true, true, true, true, true, true, false, false]) rfl (by kernel_rfl) rfl (V.nilCheckP rfl) rfl rfl ?_
          refine XQ.pv (i := 9) (l' := #[true, true, true, true, true, true, true, true, true, true, false]) rfl (by kernel_rfl) rfl (V.fieldAddr rfl fo_25_0) rfl rfl ?_
          refine XQ.store (i := 10) (l' := #[true, true, true, true, true, true, true, true, true, true, true]) rfl (by kernel_rfl) rfl rfl rfl .here (encP.st_p_I_b _ _ (by omega) _) rfl sz_9_1 (fun _ hw' => ⟨fun hs => (hs 10 (by simp) rfl).elim, trivial⟩) ?_
          refine XQ.done (by kernel_rfl) ?_
          refine XE.next ?_
          refine XC.keep [(10, _)] (Sub.cons rfl (Sub.nil _)) ?_
          refine XC.seq ?_
          refine XC.region ?_
          refine XO.v (V.move rfl) rfl ?_
          refine XO.v (V.assign rfl) rfl ?_
          refine XO.v (V.assign rfl) rfl ?_
          refine XO.nil ?_
          refine XE.next ?_
          refine XC.keep [(6, _), (7, _)] (Sub.cons rfl (Sub.cons rfl (Sub.nil _))) ?_
          refine XC.ret ?_
          refine XE.ret2 rfl rfl rfl (post_of (.cons .here .nil) rfl ?_)
          first
          | (rw [PS.write_err (by assumption)]; exact ⟨by show _ = Value.tuple #[_, errv 71 (s.is n)]; rw [errv_pos _ (by assumption)], rfl⟩)
          | (rw [PS.write_state (by assumption) (by assumption)]; exact ⟨rfl, rfl⟩)
          | (rw [PS.write_broken (by assumption) (by assumption) (by assumption)]; exact ⟨rfl, rfl⟩)
          | (rw [PS.write_again (by assumption) (by assumption) (by assumption) ⟨by assumption, by first | omega | (have hq := mt he.2 (by assumption); omega)⟩]; exact ⟨rfl, rfl⟩)
          | (rw [PS.write_ok (by assumption) (by assumption) (by assumption) (by first | omega | (have hq := he.1 (Decidable.not_not.1 (by assumption)); omega))]; exact ⟨rfl, rfl⟩)
  · skip
    refine XO.v (V.move rfl) rfl ?_
    refine XO.v (V.extract rfl rfl) rfl ?_
    refine XO.v (V.extract rfl rfl) rfl ?_
    refine XO.v (V.assign rfl) rfl ?_
    refine XO.v (V.assign rfl) rfl ?_
    refine XO.nil ?_
    refine XE.next ?_
    refine XC.keep [(2, _), (8, _), (9, _)] (Sub.cons rfl (Sub.cons rfl (Sub.cons rfl (Sub.nil _)))) ?_
    refine XC.seq ?_
    refine XC.seq ?_
    refine XC.region ?_
    refine XO.v (V.move rfl) rfl ?_
    refine XO.v (V.ifaceNil rfl Try.underlying30 rfl) rfl ?_
    refine XO.nil ?_
    refine XE.next ?_
    refine XC.keep [(2, _), (8, _), (9, _), (18, _)] (Sub.cons rfl (Sub.cons rfl (Sub.cons rfl (Sub.cons rfl (Sub.nil _))))) ?_
    refine XC.condT rfl rfl ?_
    refine XC.seq ?_
    refine XC.region ?_
    refine XO.v (V.move rfl) rfl ?_
    refine XO.v (V.assign rfl) rfl ?_
    refine XO.v (V.assign rfl) rfl ?_
    refine XO.nil ?_
    refine XE.next ?_
    refine XC.keep [(6, _), (7, _)] (Sub.cons rfl (Sub.cons rfl (Sub.nil _))) ?_
    refine XC.ret ?_
    refine XE.thenRet ?_
    refine XE.ret2 rfl rfl rfl (post_of (.cons .here .nil) rfl ?_)
    first
    | (rw [PS.write_err (by assumption)]; exact ⟨by show _ = Value.tuple #[_, errv 71 (s.is n)]; rw [errv_pos _ (by assumption)], rfl⟩)
    | (rw [PS.write_state (by assumption) (by assumption)]; exact ⟨rfl, rfl⟩)
    | (rw [PS.write_broken (by assumption) (by assumption) (by assumption)]; exact ⟨rfl, rfl⟩)
    | (rw [PS.write_again (by assumption) (by assumption) (by assumption) ⟨by assumption, by first | omega | (have hq := mt he.2 (by assumption); omega)⟩]; exact ⟨rfl, rfl⟩)
    | (rw [PS.write_ok (by assumption) (by assumption) (by assumption) (by first | omega | (have hq := he.1 (Decidable.not_not.1 (by assumption)); omega))]; exact ⟨rfl, rfl⟩)
set_option maxRecDepth 10000 in
set_option maxHeartbeats 400000 in
theorem p_Pipes (b o : Nat) (K : Int) (hK : K ≤ 1000000) (s : PS) (hI : s.Inv K) : Spec Try.prog 9 [ptr b o 0]
    [.cells b o 24 (encP s)]
    (fun v H1 => v = .int .i64 s.open ∧ H1 = [.cells b o 24 (encP s)]) := by
  refine Spec.intro Try.func9 rfl rfl ?_
  intro W
  refine XC.seq ?_
  refine XC.region ?_
  refine XO.v (V.assign rfl) rfl ?_
  refine XO.nil ?_
  refine XE.next ?_
  refine XC.keep [(0, _)] (Sub.cons rfl (Sub.nil _)) ?_
  refine XC.seq ?_
  refine XC.region ?_
  refine XO.v (V.assign rfl) rfl ?_
  refine XO.nil ?_
  refine XE.next ?_
  refine XC.keep [(0, _), (3, _)] (Sub.cons rfl (Sub.cons rfl (Sub.nil _))) ?_
  refine XC.seq ?_
  refine XC.seq ?_
  refine XC.region ?_
  refine XO.v (V.move rfl) rfl ?_
  refine XO.nil ?_
  refine XE.next ?_
  refine XC.keep [(0, _), (3, _), (5, _)] (Sub.cons rfl (Sub.cons rfl (Sub.cons rfl (Sub.nil _)))) ?_
  refine XC.block ?_
  refine XC.loop (σ := Nat) (fun k => 8 - k) (fun k => k ≤ 8) (fun k => [(3, .int .i64 (cntN (fun i => decide (s.e i 0 + s.e i 1 > 0)) k)), (5, .int .i64 k), (0, ptr b o 0)]) (fun k => XM W (foot [.cells b o 24 (encP s)]) [.cells b o 24 (encP s)]) (0) ?_ (Sub.cons rfl (Sub.cons rfl (Sub.cons rfl (Sub.nil _)))) (fun _ hw => XM.pick (.cons .here .nil) hw) ?_
  · skip
    omega
  intro k hk
  have b0 := hI.e0 k
  have b1 := hI.e1 k
  have bc := cntN_le (fun i => decide (s.e i 0 + s.e i 1 > 0)) k
  refine XC.seq ?_
  refine XC.region ?_
  refine XO.v (V.cmp rfl rfl rfl) rfl ?_
  refine XO.nil ?_
  refine XE.next ?_
  refine XC.keep [(0, _), (3, _), (5, _), (6, _)] (Sub.cons rfl (Sub.cons rfl (Sub.cons rfl (Sub.cons rfl (Sub.nil _))))) ?_
  refine XC.seq ?_
  refine XC.condP rfl (fun h1 => ?_) (fun h1 => ?_)
  · skip
    refine XC.skip ?_
    refine XE.next ?_
    refine XC.keep [(0, _), (3, _), (5, _)] (Sub.cons rfl (Sub.cons rfl (Sub.cons rfl (Sub.nil _)))) ?_
    refine XC.seq ?_
    refine XC.block ?_
    refine XC.seq ?_
    refine XC.region ?_
    refine XO.v (V.move rfl) rfl ?_
    refine XO.v (V.assign rfl) rfl ?_
    refine XO.nil ?_
    refine XE.next ?_
    refine XC.keep [(0, _), (3, _), (4, _), (5, _)] (Sub.cons rfl (Sub.cons rfl (Sub.cons rfl (Sub.cons rfl (Sub.nil _))))) ?_
    refine XC.seq ?_
    refine XC.regionQ mixed (f := 16) (l := #[false, false, false, false, false, false, false, false, false, false, false, false, false, false, false, false]) rfl rfl XM.drawn' ?_
    refine XQ.pv (i := 0) (l' := #[true, false, false, false, false, false, false, false, false, false, false, false, false, false, false, false]) rfl (by kernel_rfl) rfl (V.move rfl) rfl rfl ?_
    refine XQ.pv (i := 1) (l' := #[true, true, false, false, false, false, false, false, false, false, false, false, false, false, false, false]) rfl (by kernel_rfl) rfl (V.move rfl) rfl rfl ?_
    refine XQ.pv (i := 2) (l' := #[true, true, true, false, false, false, false, false, false, false, false, false, false, false, false, false]) rfl (by kernel_rfl) rfl (V.nilCheckP rfl) rfl rfl ?_
    refine XQ.pv (i := 3) (l' := #[true, true, true, true, false, false, false, false, false, false, false, false, false, false, false, false]) rfl (by kernel_rfl) rfl (V.fieldAddr rfl fo_28_0) rfl rfl ?_
    refine XQ.pv (i := 4) (l' := #[true, true, true, true, true, false, false, false, false, false, false, false, false, false, false, false]) rfl (by kernel_rfl) rfl (V.indexArr rfl rfl ar_26 (by omega)) rfl rfl ?_
    refine XQ.pv (i := 5) (l' := #[true, true, true, true, true, true, false, false, false, false, false, false, false, false, false, false]) rfl (by kernel_rfl) rfl (V.fieldAddr rfl fo_25_1) rfl rfl ?_
    refine XQ.load (i := 6) (l' := #[true, true, true, true, true, true, true, false, false, false, false, false, false, false, false, false]) (.cells _ _ _ _) [] rfl (by kernel_rfl) rfl .here (V.load rfl inEnt (encP.ld_p_I_reads _ _ (by omega)) sc_3) rfl (by kernel_rfl) rfl ?_
    refine XQ.pv (i := 7) (l' := #[true, true, true, true, true, true, true, true, false, false, false, false, false, false, false, false]) rfl (by kernel_rfl) rfl (V.move rfl) rfl rfl ?_
    refine XQ.pv (i := 8) (l' := #[true, true, true, true, true, true, true, true, true, false, false, false, false, false, false, false]) rfl (by kernel_rfl) rfl (V.move rfl) rfl rfl ?_
    refine XQ.pv (i := 9) (l' := #[true, true, true, true, true, true, true, true, true, true, false, false, false, false, false, false]) rfl (by kernel_rfl) rfl (V.nilCheckP rfl) rfl rfl ?_
    refine XQ.pv (i := 10) (l' := #[true, true, true, true, true, true, true, true, true, true, true, false, false, false, false, false]) rfl (by kernel_rfl) rfl (V.fieldAddr rfl fo_28_0) rfl rfl ?_
    refine XQ.pv (i := 11) (l' := #[true, true, true, true, true, true, true, true, true, true, true, true, false, false, false, false]) rfl (by kernel_rfl) rfl (V.indexArr rfl rfl ar_26 (by omega)) rfl rfl ?_
    refine XQ.pv (i := 12) (l' := #[true, true, true, true, true, true, true, true, true, true, true, true, true, false, false, false]) rfl (by kernel_rfl) rfl (V.fieldAddr rfl fo_25_2) rfl rfl ?_
    refine XQ.load (i := 13) (l' := #[true, true, true, true, true, true, true, true, true, true, true, true, true, true, false, false]) (.cells _ _ _ _) [] rfl (by kernel_rfl) rfl .here (V.load rfl inEnt (encP.ld_p_I_writes _ _ (by omega)) sc_3) rfl (by kernel_rfl) rfl ?_
    refine XQ.pv (i := 14) (l' := #[true, true, true, true, true, true, true, true, true, true, true, true, true, true, true, false]) rfl (by kernel_rfl) rfl (V.add rfl rfl _ (IntWalk.i64_in _ (by omega))) rfl rfl ?_
    refine XQ.pv (i := 15) (l' := #[true, true, true, true, true, true, true, true, true, true, true, true, true, true, true, true]) rfl (by kernel_rfl) rfl (V.cmp rfl rfl rfl) rfl rfl ?_
    refine XQ.done (by kernel_rfl) ?_
    refine XE.next ?_
    refine XC.keep [(0, _), (3, _), (5, _), (23, _)] (Sub.cons rfl (Sub.cons rfl (Sub.cons rfl (Sub.cons rfl (Sub.nil _))))) ?_
    refine XC.condP rfl (fun h2 => ?_) (fun h2 => ?_)
    · skip
      refine XC.region ?_
      refine XO.v (V.move rfl) rfl ?_
      refine XO.v (V.add rfl rfl _ (IntWalk.i64_in _ (by omega))) rfl ?_
      refine XO.v (V.assign rfl) rfl ?_
      refine XO.nil ?_
      refine XE.blockNormal ?_
      refine XE.next ?_
      refine XC.keep [(0, _), (3, _), (5, _)] (Sub.cons rfl (Sub.cons rfl (Sub.cons rfl (Sub.nil _)))) ?_
      refine XC.region ?_
      refine XO.v (V.add rfl rfl _ (IntWalk.i64_in _ (by omega))) rfl ?_
      refine XO.v (V.move rfl) rfl ?_
      refine XO.nil ?_
      refine XE.again (k+1) ?_ ?_ (Sub.cons (eqi (by simp only [cntN]; simp; omega)) (Sub.cons rfl (Sub.cons rfl (Sub.nil _)))) (fun _ hw => XM.pick (.cons .here .nil) hw)
      · skip
        (first | omega | (simp; done) | (simp; omega))
      · skip
        (first | omega | (simp; done) | (simp; omega))
    · skip
      refine XC.skip ?_
      refine XE.blockNormal ?_
      refine XE.next ?_
      refine XC.keep [(0, _), (3, _), (5, _)] (Sub.cons rfl (Sub.cons rfl (Sub.cons rfl (Sub.nil _)))) ?_
      refine XC.region ?_
      refine XO.v (V.add rfl rfl _ (IntWalk.i64_in _ (by omega))) rfl ?_
      refine XO.v (V.move rfl) rfl ?_
      refine XO.nil ?_
      refine XE.again (k+1) ?_ ?_ (Sub.cons (eqi (by simp only [cntN]; simp; omega)) (Sub.cons rfl (Sub.cons rfl (Sub.nil _)))) (fun _ hw => XM.pick (.cons .here .nil) hw)
      · skip
        (first | omega | (simp; done) | (simp; omega))
      · skip
        (first | omega | (simp; done) | (simp; omega))
  · skip
    refine XC.exit ?_
    refine XE.thenExit ?_
    refine XE.thenExit ?_
    refine XE.blockExit ?_
    refine XE.next ?_
    refine XC.keep [(3, _)] (Sub.cons rfl (Sub.nil _)) ?_
    refine XC.seq ?_
    refine XC.region ?_
    refine XO.v (V.move rfl) rfl ?_
    refine XO.v (V.assign rfl) rfl ?_
    refine XO.nil ?_
    refine XE.next ?_
    refine XC.keep [(2, _)] (Sub.cons rfl (Sub.nil _)) ?_
    refine XC.ret ?_
    refine XE.ret1 rfl rfl (post_of (.cons .here .nil) rfl ?_)
    obtain rfl : k = 8 := by omega
    exact ⟨rfl, rfl⟩
end Go.X
