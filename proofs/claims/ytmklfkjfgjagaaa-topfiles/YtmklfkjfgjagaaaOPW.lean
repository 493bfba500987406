import Derived.Test.YtmklfkjfgjagaaaOL
import Derived.Test.YtmklfkjfgjagaaaNW6
namespace Go.X
open Go Go.Proofs
theorem ag_31 : aggT Try.prog 31 = true := by kernel_rfl
theorem ag_38 : aggT Try.prog 38 = true := by kernel_rfl
theorem ar_32 : arrOf Try.prog 32 = some (40, 8) := by kernel_rfl
theorem ar_70 : arrOf Try.prog 70 = some (8, 3) := by kernel_rfl
theorem cl_10 : callable Try.prog 10 = true := by kernel_rfl
theorem cl_11 : callable Try.prog 11 = true := by kernel_rfl
theorem cl_13 : callable Try.prog 13 = true := by kernel_rfl
theorem cl_14 : callable Try.prog 14 = true := by kernel_rfl
theorem cl_15 : callable Try.prog 15 = true := by kernel_rfl
theorem cl_16 : callable Try.prog 16 = true := by kernel_rfl
theorem cl_17 : callable Try.prog 17 = true := by kernel_rfl
theorem cl_18 : callable Try.prog 18 = true := by kernel_rfl
theorem cl_19 : callable Try.prog 19 = true := by kernel_rfl
theorem cl_21 : callable Try.prog 21 = true := by kernel_rfl
theorem cl_22 : callable Try.prog 22 = true := by kernel_rfl
theorem cl_23 : callable Try.prog 23 = true := by kernel_rfl
theorem cl_24 : callable Try.prog 24 = true := by kernel_rfl
theorem cl_25 : callable Try.prog 25 = true := by kernel_rfl
theorem cl_27 : callable Try.prog 27 = true := by kernel_rfl
theorem cl_28 : callable Try.prog 28 = true := by kernel_rfl
theorem cl_29 : callable Try.prog 29 = true := by kernel_rfl
theorem cl_38 : callable Try.prog 38 = true := by kernel_rfl
theorem cl_39 : callable Try.prog 39 = true := by kernel_rfl
theorem cl_40 : callable Try.prog 40 = true := by kernel_rfl
theorem cl_41 : callable Try.prog 41 = true := by kernel_rfl
theorem cl_42 : callable Try.prog 42 = true := by kernel_rfl
theorem cl_43 : callable Try.prog 43 = true := by kernel_rfl
theorem cl_44 : callable Try.prog 44 = true := by kernel_rfl
theorem cl_45 : callable Try.prog 45 = true := by kernel_rfl
theorem cl_46 : callable Try.prog 46 = true := by kernel_rfl
theorem cl_47 : callable Try.prog 47 = true := by kernel_rfl
theorem cl_48 : callable Try.prog 48 = true := by kernel_rfl
theorem cl_49 : callable Try.prog 49 = true := by kernel_rfl
theorem cl_50 : callable Try.prog 50 = true := by kernel_rfl
theorem cl_51 : callable Try.prog 51 = true := by kernel_rfl
theorem cl_52 : callable Try.prog 52 = true := by kernel_rfl
theorem cl_53 : callable Try.prog 53 = true := by kernel_rfl
theorem cl_54 : callable Try.prog 54 = true := by kernel_rfl
theorem cl_55 : callable Try.prog 55 = true := by kernel_rfl
theorem cl_56 : callable Try.prog 56 = true := by kernel_rfl
theorem cl_57 : callable Try.prog 57 = true := by kernel_rfl
theorem cl_7 : callable Try.prog 7 = true := by kernel_rfl
theorem cl_74 : callable Try.prog 74 = true := by kernel_rfl
theorem cl_75 : callable Try.prog 75 = true := by kernel_rfl
theorem cl_76 : callable Try.prog 76 = true := by kernel_rfl
theorem cl_77 : callable Try.prog 77 = true := by kernel_rfl
theorem cl_78 : callable Try.prog 78 = true := by kernel_rfl
theorem cl_79 : callable Try.prog 79 = true := by kernel_rfl
theorem cl_8 : callable Try.prog 8 = true := by kernel_rfl
theorem cl_86 : callable Try.prog 86 = true := by kernel_rfl
theorem cl_87 : callable Try.prog 87 = true := by kernel_rfl
theorem cl_9 : callable Try.prog 9 = true := by kernel_rfl
theorem fo_31_0 : fieldOff Try.prog 31 0 = some 0 := by kernel_rfl
theorem fo_31_1 : fieldOff Try.prog 31 1 = some 1 := by kernel_rfl
theorem fo_31_2 : fieldOff Try.prog 31 2 = some 2 := by kernel_rfl
theorem fo_31_3 : fieldOff Try.prog 31 3 = some 3 := by kernel_rfl
theorem fo_31_4 : fieldOff Try.prog 31 4 = some 4 := by kernel_rfl
theorem fo_31_5 : fieldOff Try.prog 31 5 = some 5 := by kernel_rfl
theorem fo_31_6 : fieldOff Try.prog 31 6 = some 6 := by kernel_rfl
theorem fo_31_7 : fieldOff Try.prog 31 7 = some 7 := by kernel_rfl
theorem fo_34_0 : fieldOff Try.prog 34 0 = some 0 := by kernel_rfl
theorem fo_34_1 : fieldOff Try.prog 34 1 = some 320 := by kernel_rfl
theorem fo_38_0 : fieldOff Try.prog 38 0 = some 0 := by kernel_rfl
theorem fo_38_1 : fieldOff Try.prog 38 1 = some 1 := by kernel_rfl
theorem fo_38_2 : fieldOff Try.prog 38 2 = some 2 := by kernel_rfl
theorem fo_38_3 : fieldOff Try.prog 38 3 = some 3 := by kernel_rfl
theorem fo_38_6 : fieldOff Try.prog 38 6 = some 6 := by kernel_rfl
theorem fo_38_7 : fieldOff Try.prog 38 7 = some 7 := by kernel_rfl
theorem fo_69_0 : fieldOff Try.prog 69 0 = some 0 := by kernel_rfl
theorem fo_69_1 : fieldOff Try.prog 69 1 = some 1 := by kernel_rfl
theorem fo_69_2 : fieldOff Try.prog 69 2 = some 2 := by kernel_rfl
theorem fo_72_0 : fieldOff Try.prog 72 0 = some 0 := by kernel_rfl
theorem rt_9_1 : rowT Try.prog 9 1 = true := by kernel_rfl
theorem sl_22 : sliceOf Try.prog 22 = some (38, 8) := by kernel_rfl
theorem sl_28 : sliceOf Try.prog 28 = some (9, 1) := by kernel_rfl
theorem sz_31_8 : szOf Try.prog 31 = some 8 := by kernel_rfl
theorem sz_38_8 : szOf Try.prog 38 = some 8 := by kernel_rfl
theorem sz_69_3 : szOf Try.prog 69 = some 3 := by kernel_rfl
set_option maxRecDepth 10000 in
set_option maxHeartbeats 400000 in
theorem p_is (b o : Nat) (K : Int) (hK : K ≤ 1000000) (s : PS) (hI : s.Inv K) (n : Int) : Spec Try.prog 86 [ptr b o 0, .int .i64 n]
    [.cells b o 24 (encP s)]
    (fun v H1 => ((s.is n = 0 ∧ 0 ≤ n ∧ n < 8) ∧ v = .tuple #[ptr b o (0 + 0 + n.toNat * 3), .nilIface] ∧ H1 = [.cells b o 24 (encP s)]) ∨ (s.is n ≠ 0 ∧ v = .tuple #[.pointer none, .iface 100 (.int .i64 (s.is n))] ∧ H1 = [.cells b o 24 (encP s)])) := by
  have b0 := hI.e0 n
  have b1 := hI.e1 n
  have bl := hI.len n
  refine Spec.intro Try.func86 rfl rfl ?_
  intro W
  refine XC.seq ?_
  refine XC.region ?_
  refine XO.v (V.assign rfl) rfl ?_
  refine XO.v (V.assign rfl) rfl ?_
  refine XO.nil ?_
  refine XE.next ?_
  refine XC.keep [(0, _), (1, _)] (Sub.cons rfl (Sub.cons rfl (Sub.nil _))) ?_
  refine XC.seq ?_
  refine XC.seq ?_
  refine XC.region ?_
  refine XO.v (V.move rfl) rfl ?_
  refine XO.v (V.cmp rfl rfl rfl) rfl ?_
  refine XO.v (V.move rfl) rfl ?_
  refine XO.splitP (d := 8) rfl (fun h1 => ?_) (fun h1 => ?_)
  · skip
    refine XO.guardSkip rfl rfl rfl rfl rfl ?_
    refine XO.guardSkip rfl rfl rfl rfl rfl ?_
    refine XO.v (V.pick rfl rfl rfl rfl) rfl ?_
    refine XO.nil ?_
    refine XE.next ?_
    refine XC.keep [(0, _), (1, _), (11, _)] (Sub.cons rfl (Sub.cons rfl (Sub.cons rfl (Sub.nil _)))) ?_
    refine XC.condT rfl rfl ?_
    refine XC.seq ?_
    refine XC.region ?_
    refine XO.v (V.makeIface rfl Try.underlying100 (by simp)) rfl ?_
    refine XO.v (V.assign rfl) rfl ?_
    refine XO.v (V.assign rfl) rfl ?_
    refine XO.nil ?_
    refine XE.next ?_
    refine XC.keep [(4, _), (5, _)] (Sub.cons rfl (Sub.cons rfl (Sub.nil _))) ?_
    refine XC.ret ?_
    refine XE.thenRet ?_
    refine XE.ret2 rfl rfl rfl (post_of (.cons .here .nil) rfl ?_)
    rcases PS.is_cases s n with ⟨q, q1⟩ | ⟨q, q1⟩ | ⟨q, q1⟩ <;> first | (exfalso; omega) | exact .inl ⟨⟨q, by omega, by omega⟩, rfl, rfl⟩ | exact .inr ⟨by omega, by rw [q], rfl⟩
  · skip
    refine XO.guardRun rfl rfl rfl ?_
    refine XO.v (V.move rfl) rfl ?_
    refine XO.guardRun rfl rfl rfl ?_
    refine XO.v (V.cmp rfl rfl rfl) rfl ?_
    refine XO.v (V.pick rfl rfl rfl rfl) rfl ?_
    refine XO.nil ?_
    refine XE.next ?_
    refine XC.keep [(0, _), (1, _), (11, _)] (Sub.cons rfl (Sub.cons rfl (Sub.cons rfl (Sub.nil _)))) ?_
    refine XC.condP rfl (fun h2 => ?_) (fun h2 => ?_)
    · skip
      refine XC.seq ?_
      refine XC.region ?_
      refine XO.v (V.makeIface rfl Try.underlying100 (by simp)) rfl ?_
      refine XO.v (V.assign rfl) rfl ?_
      refine XO.v (V.assign rfl) rfl ?_
      refine XO.nil ?_
      refine XE.next ?_
      refine XC.keep [(4, _), (5, _)] (Sub.cons rfl (Sub.cons rfl (Sub.nil _))) ?_
      refine XC.ret ?_
      refine XE.thenRet ?_
      refine XE.ret2 rfl rfl rfl (post_of (.cons .here .nil) rfl ?_)
      rcases PS.is_cases s n with ⟨q, q1⟩ | ⟨q, q1⟩ | ⟨q, q1⟩ <;> first | (exfalso; omega) | exact .inl ⟨⟨q, by omega, by omega⟩, rfl, rfl⟩ | exact .inr ⟨by omega, by rw [q], rfl⟩
    · skip
      refine XC.skip ?_
      refine XE.next ?_
      refine XC.keep [(0, _), (1, _)] (Sub.cons rfl (Sub.cons rfl (Sub.nil _))) ?_
      refine XC.seq ?_
      refine XC.seq ?_
      refine XC.regionQ mixed (f := 16) (l := #[false, false, false, false, false, false, false, false, false, false, false, false, false, false, false, false]) rfl rfl XM.drawn' ?_
      refine XQ.pv (i := 0) (l' := #[true, false, false, false, false, false, false, false, false, false, false, false, false, false, false, false]) rfl (by kernel_rfl) rfl (V.move rfl) rfl rfl ?_
      refine XQ.pv (i := 1) (l' := #[true, true, false, false, false, false, false, false, false, false, false, false, false, false, false, false]) rfl (by kernel_rfl) rfl (V.move rfl) rfl rfl ?_
      refine XQ.pv (i := 2) (l' := #[true, true, true, false, false, false, false, false, false, false, false, false, false, false, false, false]) rfl (by kernel_rfl) rfl (V.nilCheckP rfl) rfl rfl ?_
      refine XQ.pv (i := 3) (l' := #[true, true, true, true, false, false, false, false, false, false, false, false, false, false, false, false]) rfl (by kernel_rfl) rfl (V.fieldAddr rfl fo_72_0) rfl rfl ?_
      refine XQ.pv (i := 4) (l' := #[true, true, true, true, true, false, false, false, false, false, false, false, false, false, false, false]) rfl (by kernel_rfl) rfl (V.indexArr rfl rfl ar_70 (by omega)) rfl rfl ?_
      refine XQ.pv (i := 5) (l' := #[true, true, true, true, true, true, false, false, false, false, false, false, false, false, false, false]) rfl (by kernel_rfl) rfl (V.fieldAddr rfl fo_69_1) rfl rfl ?_
      refine XQ.load (i := 6) (l' := #[true, true, true, true, true, true, true, false, false, false, false, false, false, false, false, false]) (.cells _ _ _ _) [] rfl (by kernel_rfl) rfl .here (V.load rfl inEnt (encP.ld_p_I_reads _ _ (by omega)) sc_3) rfl (by kernel_rfl) rfl ?_
      refine XQ.pv (i := 7) (l' := #[true, true, true, true, true, true, true, true, false, false, false, false, false, false, false, false]) rfl (by kernel_rfl) rfl (V.move rfl) rfl rfl ?_
      refine XQ.pv (i := 8) (l' := #[true, true, true, true, true, true, true, true, true, false, false, false, false, false, false, false]) rfl (by kernel_rfl) rfl (V.move rfl) rfl rfl ?_
      refine XQ.pv (i := 9) (l' := #[true, true, true, true, true, true, true, true, true, true, false, false, false, false, false, false]) rfl (by kernel_rfl) rfl (V.nilCheckP rfl) rfl rfl ?_
      refine XQ.pv (i := 10) (l' := #[true, true, true, true, true, true, true, true, true, true, true, false, false, false, false, false]) rfl (by kernel_rfl) rfl (V.fieldAddr rfl fo_72_0) rfl rfl ?_
      refine XQ.pv (i := 11) (l' := #[true, true, true, true, true, true, true, true, true, true, true, true, false, false, false, false]) rfl (by kernel_rfl) rfl (V.indexArr rfl rfl ar_70 (by omega)) rfl rfl ?_
      refine XQ.pv (i := 12) (l' := #[true, true, true, true, true, true, true, true, true, true, true, true, true, false, false, false]) rfl (by kernel_rfl) rfl (V.fieldAddr rfl fo_69_2) rfl rfl ?_
      refine XQ.load (i := 13) (l' := #[true, true, true, true, true, true, true, true, true, true, true, true, true, true, false, false]) (.cells _ _ _ _) [] rfl (by kernel_rfl) rfl .here (V.load rfl inEnt (encP.ld_p_I_writes _ _ (by omega)) sc_3) rfl (by kernel_rfl) rfl ?_
      refine XQ.pv (i := 14) (l' := #[true, true, true, true, true, true, true, true, true, true, true, true, true, true, true, false]) rfl (by kernel_rfl) rfl (V.add rfl rfl _ (IntWalk.i64_in _ (by omega))) rfl rfl ?_
      refine XQ.pv (i := 15) (l' := #[true, true, true, true, true, true, true, true, true, true, true, true, true, true, true, true]) rfl (by kernel_rfl) rfl (V.cmp rfl rfl rfl) rfl rfl ?_
      refine XQ.done (by kernel_rfl) ?_
      refine XE.next ?_
      refine XC.keep [(0, _), (1, _), (28, _)] (Sub.cons rfl (Sub.cons rfl (Sub.cons rfl (Sub.nil _)))) ?_
      refine XC.condP rfl (fun h3 => ?_) (fun h3 => ?_)
      · skip
        refine XC.seq ?_
        refine XC.region ?_
        refine XO.v (V.makeIface rfl Try.underlying100 (by simp)) rfl ?_
        refine XO.v (V.assign rfl) rfl ?_
        refine XO.v (V.assign rfl) rfl ?_
        refine XO.nil ?_
        refine XE.next ?_
        refine XC.keep [(4, _), (5, _)] (Sub.cons rfl (Sub.cons rfl (Sub.nil _))) ?_
        refine XC.ret ?_
        refine XE.thenRet ?_
        refine XE.ret2 rfl rfl rfl (post_of (.cons .here .nil) rfl ?_)
        rcases PS.is_cases s n with ⟨q, q1⟩ | ⟨q, q1⟩ | ⟨q, q1⟩ <;> first | (exfalso; omega) | exact .inl ⟨⟨q, by omega, by omega⟩, rfl, rfl⟩ | exact .inr ⟨by omega, by rw [q], rfl⟩
      · skip
        refine XC.skip ?_
        refine XE.next ?_
        refine XC.keep [(0, _), (1, _)] (Sub.cons rfl (Sub.cons rfl (Sub.nil _))) ?_
        refine XC.seq ?_
        refine XC.region ?_
        refine XO.v (V.move rfl) rfl ?_
        refine XO.v (V.move rfl) rfl ?_
        refine XO.v (V.nilCheckP rfl) rfl ?_
        refine XO.v (V.fieldAddr rfl fo_72_0) rfl ?_
        refine XO.v (V.indexArr rfl rfl ar_70 (by omega)) rfl ?_
        refine XO.v (V.assign rfl) rfl ?_
        refine XO.v (V.assign rfl) rfl ?_
        refine XO.nil ?_
        refine XE.next ?_
        refine XC.keep [(4, _), (5, _)] (Sub.cons rfl (Sub.cons rfl (Sub.nil _))) ?_
        refine XC.ret ?_
        refine XE.ret2 rfl rfl rfl (post_of (.cons .here .nil) rfl ?_)
        rcases PS.is_cases s n with ⟨q, q1⟩ | ⟨q, q1⟩ | ⟨q, q1⟩ <;> first | (exfalso; omega) | exact .inl ⟨⟨q, by omega, by omega⟩, rfl, rfl⟩ | exact .inr ⟨by omega, by rw [q], rfl⟩
set_option maxRecDepth 10000 in
set_option maxHeartbeats 400000 in
theorem p_end_true (b o i : Nat) : Spec Try.prog 87 [ptr b o i, .bool true]
    []
    (fun v H1 => v = ptr b o (i + 2) ∧ H1 = []) := by
  refine Spec.intro Try.func87 rfl rfl ?_
  intro W
  refine XC.seq ?_
  refine XC.region ?_
  refine XO.v (V.assign rfl) rfl ?_
  refine XO.nil ?_
  refine XE.next ?_
  refine XC.keep [(0, _), (1, _)] (Sub.cons rfl (Sub.cons rfl (Sub.nil _))) ?_
  refine XC.seq ?_
  refine XC.seq ?_
  refine XC.region ?_
  refine XO.v (V.move rfl) rfl ?_
  refine XO.nil ?_
  refine XE.next ?_
  refine XC.keep [(0, _), (5, _)] (Sub.cons rfl (Sub.cons rfl (Sub.nil _))) ?_
  refine XC.condT rfl rfl ?_
  refine XC.seq ?_
  refine XC.region ?_
  refine XO.v (V.move rfl) rfl ?_
  refine XO.v (V.nilCheckP rfl) rfl ?_
  refine XO.v (V.fieldAddr rfl fo_69_2) rfl ?_
  refine XO.v (V.assign rfl) rfl ?_
  refine XO.nil ?_
  refine XE.next ?_
  refine XC.keep [(4, _)] (Sub.cons rfl (Sub.nil _)) ?_
  refine XC.ret ?_
  refine XE.thenRet ?_
  refine XE.ret1 rfl rfl (post_of .nil rfl ?_)
  exact ⟨rfl, rfl⟩
set_option maxRecDepth 10000 in
set_option maxHeartbeats 400000 in
theorem p_end_false (b o i : Nat) : Spec Try.prog 87 [ptr b o i, .bool false]
    []
    (fun v H1 => v = ptr b o (i + 1) ∧ H1 = []) := by
  refine Spec.intro Try.func87 rfl rfl ?_
  intro W
  refine XC.seq ?_
  refine XC.region ?_
  refine XO.v (V.assign rfl) rfl ?_
  refine XO.nil ?_
  refine XE.next ?_
  refine XC.keep [(0, _), (1, _)] (Sub.cons rfl (Sub.cons rfl (Sub.nil _))) ?_
  refine XC.seq ?_
  refine XC.seq ?_
  refine XC.region ?_
  refine XO.v (V.move rfl) rfl ?_
  refine XO.nil ?_
  refine XE.next ?_
  refine XC.keep [(0, _), (5, _)] (Sub.cons rfl (Sub.cons rfl (Sub.nil _))) ?_
  refine XC.condF rfl rfl ?_
  refine XC.skip ?_
  refine XE.next ?_
  refine XC.keep [(0, _)] (Sub.cons rfl (Sub.nil _)) ?_
  refine XC.seq ?_
  refine XC.region ?_
  refine XO.v (V.move rfl) rfl ?_
  refine XO.v (V.nilCheckP rfl) rfl ?_
  refine XO.v (V.fieldAddr rfl fo_69_1) rfl ?_
  refine XO.v (V.assign rfl) rfl ?_
  refine XO.nil ?_
  refine XE.next ?_
  refine XC.keep [(4, _)] (Sub.cons rfl (Sub.nil _)) ?_
  refine XC.ret ?_
  refine XE.ret1 rfl rfl (post_of .nil rfl ?_)
  exact ⟨rfl, rfl⟩


set_option maxRecDepth 10000 in
set_option maxHeartbeats 400000 in
theorem p_Drop_true (b o : Nat) (K : Int) (hK : K ≤ 1000000) (s : PS) (hI : s.Inv K) (n : Int) : Spec Try.prog 72 [ptr b o 0, .int .i64 n, .bool true]
    [.cells b o 24 (encP s)]
    (fun v H1 => v = errv 100 (s.turn n true (-1)).1 ∧ H1 = [.cells b o 24 (encP (s.turn n true (-1)).2)]) := by
  have b0 := hI.e0 n
  have b1 := hI.e1 n
  have bl := hI.len n
  have hnew : (s.e n (sel true) = 0) = (s.e n 1 = 0) := by simp [sel]
  refine Spec.intro Try.func72 rfl rfl ?_
  intro W
  refine XC.seq ?_
  refine XC.region ?_
  refine XO.v (V.assign rfl) rfl ?_
  refine XO.nil ?_
  refine XE.next ?_
  refine XC.keep [(0, _), (1, _), (2, _)] (Sub.cons rfl (Sub.cons rfl (Sub.cons rfl (Sub.nil _)))) ?_
  refine XC.seq ?_
  refine XC.region ?_
  refine XO.v (V.move rfl) rfl ?_
  refine XO.v (V.move rfl) rfl ?_
  refine XO.call rfl (p_is _ _ K hK s hI _) (.cons .here .nil) cl_86 rfl ?_
  rintro _ _ (⟨h1, rfl, rfl⟩ | ⟨h1, rfl, rfl⟩)
  · skip
    obtain ⟨h1, h2, h3⟩ := h1
    refine XO.v (V.move rfl) rfl ?_
    refine XO.v (V.extract rfl rfl) rfl ?_
    refine XO.v (V.extract rfl rfl) rfl ?_
    refine XO.v (V.assign rfl) rfl ?_
    refine XO.v (V.assign rfl) rfl ?_
    refine XO.nil ?_
    refine XE.next ?_
    refine XC.keep [(2, _), (7, _), (8, _)] (Sub.cons rfl (Sub.cons rfl (Sub.cons rfl (Sub.nil _)))) ?_
    refine XC.seq ?_
    refine XC.seq ?_
    refine XC.region ?_
    refine XO.v (V.move rfl) rfl ?_
    refine XO.v (V.nilNil rfl Try.underlying43 rfl) rfl ?_
    refine XO.nil ?_
    refine XE.next ?_
    refine XC.keep [(2, _), (7, _), (8, _), (16, _)] (Sub.cons rfl (Sub.cons rfl (Sub.cons rfl (Sub.cons rfl (Sub.nil _))))) ?_
    refine XC.condF rfl rfl ?_
    refine XC.skip ?_
    refine XE.next ?_
    refine XC.keep [(2, _), (7, _)] (Sub.cons rfl (Sub.cons rfl (Sub.nil _))) ?_
    refine XC.seq ?_
    refine XC.seq ?_
    refine XC.region ?_
    refine XO.v (V.move rfl) rfl ?_
    refine XO.v (V.move rfl) rfl ?_
    refine XO.call rfl (p_end_true _ _ _) .nil cl_87 rfl ?_
    rintro _ _ ⟨rfl, rfl⟩
    refine XO.v (V.nilCheckP rfl) rfl ?_
    refine XO.v (V.load rfl (inXM .here) (encP.ld_p_I_writes _ _ (by omega)) sc_3) rfl ?_
    refine XO.v (V.cmp rfl rfl rfl) rfl ?_
    refine XO.nil ?_
    refine XE.next ?_
    refine XC.keep [(2, _), (7, _), (23, _)] (Sub.cons rfl (Sub.cons rfl (Sub.cons rfl (Sub.nil _)))) ?_
    refine XC.condP rfl (fun h4 => ?_) (fun h4 => ?_)
    · skip
      refine XC.seq ?_
      refine XC.region ?_
      refine XO.v (V.makeIface rfl Try.underlying100 (by simp)) rfl ?_
      refine XO.v (V.assign rfl) rfl ?_
      refine XO.nil ?_
      refine XE.next ?_
      refine XC.keep [(6, _)] (Sub.cons rfl (Sub.nil _)) ?_
      refine XC.ret ?_
      refine XE.thenRet ?_
      refine XE.ret1 rfl rfl (post_of (.cons .here .nil) rfl ?_)
      first
        | (rw [PS.turn_err (by assumption)]; exact ⟨(errv_pos _ (by assumption)).symm, rfl⟩)
        | (rw [PS.turn_state (by assumption) (by assumption)]; exact ⟨rfl, rfl⟩)
        | (rw [PS.turn_ok (by assumption) (by assumption) (by omega)]; exact ⟨rfl, rfl⟩)
        | (rw [PS.turn_zero (by assumption) (by assumption) (by omega)]; refine ⟨rfl, ?_⟩; exact congrArg (fun e => [Ent.cells b o 24 (encP { b := fset s.b n ⟨#[]⟩, e := e })]) (drop_eq (by omega) (by omega)))
    · skip
      refine XC.skip ?_
      refine XE.next ?_
      refine XC.keep [(2, _), (7, _)] (Sub.cons rfl (Sub.cons rfl (Sub.nil _))) ?_
      refine XC.seq ?_
      refine XC.region ?_
      refine XO.v (V.move rfl) rfl ?_
      refine XO.v (V.move rfl) rfl ?_
      refine XO.call rfl (p_end_true _ _ _) .nil cl_87 rfl ?_
      rintro _ _ ⟨rfl, rfl⟩
      refine XO.v (V.nilCheckP rfl) rfl ?_
      refine XO.v (V.load rfl (inXM .here) (encP.ld_p_I_writes _ _ (by omega)) sc_3) rfl ?_
      refine XO.v (V.sub rfl rfl _ (IntWalk.i64_in _ (by omega))) rfl ?_
      refine XO.v (V.nilCheckP rfl) rfl ?_
      refine XO.store rfl rfl .here (encP.st_p_I_writes _ _ (by omega) _) rfl sz_3_1 ?_
      refine XO.nil ?_
      refine XE.next ?_
      refine XC.keep [(7, _)] (Sub.cons rfl (Sub.nil _)) ?_
      refine XC.seq ?_
      refine XC.seq ?_
      refine XC.regionQ mixed (f := 10) (l := #[false, false, false, false, false, false, false, false, false, false]) rfl rfl XM.drawn' ?_
      have c0 : ({ s with e := fset2 s.e n 1 (s.e n 1 - 1) } : PS).e n 0 = s.e n 0 + 0 := by simp [fset2]
      have c0f : fset2 s.e n 1 (s.e n 1 - 1) n 0 = s.e n 0 + 0 := by simp [fset2]
      have c1 : ({ s with e := fset2 s.e n 1 (s.e n 1 - 1) } : PS).e n 1 = s.e n 1 + -1 := by simp [fset2]; omega
      have c1f : fset2 s.e n 1 (s.e n 1 - 1) n 1 = s.e n 1 + -1 := by simp [fset2]; omega
      refine XQ.pv (i := 0) (l' := #[true, false, false, false, false, false, false, false, false, false]) rfl (by kernel_rfl) rfl (V.move rfl) rfl rfl ?_
      refine XQ.pv (i := 1) (l' := #[true, true, false, false, false, false, false, false, false, false]) rfl (by kernel_rfl) rfl (V.nilCheckP rfl) rfl rfl ?_
      refine XQ.pv (i := 2) (l' := #[true, true, true, false, false, false, false, false, false, false]) rfl (by kernel_rfl) rfl (V.fieldAddr rfl fo_69_1) rfl rfl ?_
      refine XQ.load (i := 3) (l' := #[true, true, true, true, false, false, false, false, false, false]) (.cells _ _ _ _) [] rfl (by kernel_rfl) rfl .here (V.load rfl inEnt (encP.ld_p_I_reads _ _ (by omega)) sc_3) rfl (by kernel_rfl) rfl ?_
      refine XQ.pv (i := 4) (l' := #[true, true, true, true, true, false, false, false, false, false]) rfl (by kernel_rfl) rfl (V.move rfl) rfl rfl ?_
      refine XQ.pv (i := 5) (l' := #[true, true, true, true, true, true, false, false, false, false]) rfl (by kernel_rfl) rfl (V.nilCheckP rfl) rfl rfl ?_
      refine XQ.pv (i := 6) (l' := #[true, true, true, true, true, true, true, false, false, false]) rfl (by kernel_rfl) rfl (V.fieldAddr rfl fo_69_2) rfl rfl ?_
      refine XQ.load (i := 7) (l' := #[true, true, true, true, true, true, true, true, false, false]) (.cells _ _ _ _) [] rfl (by kernel_rfl) rfl .here (V.load rfl inEnt (encP.ld_p_I_writes _ _ (by omega)) sc_3) rfl (by kernel_rfl) rfl ?_
      refine XQ.pv (i := 8) (l' := #[true, true, true, true, true, true, true, true, true, false]) rfl (by kernel_rfl) rfl (V.add rfl rfl _ (IntWalk.i64_in _ (by omega))) rfl rfl ?_
      refine XQ.pv (i := 9) (l' := #[true, true, true, true, true, true, true, true, true, true]) rfl (by kernel_rfl) rfl (V.cmp rfl rfl rfl) rfl rfl ?_
      refine XQ.done (by kernel_rfl) ?_
      refine XE.next ?_
      refine XC.keep [(7, _), (41, _)] (Sub.cons rfl (Sub.cons rfl (Sub.nil _))) ?_
      refine XC.condP rfl (fun h5 => ?_) (fun h5 => ?_)
      · skip
        refine XC.region ?_
        refine XO.v (V.move rfl) rfl ?_
        refine XO.v (V.build (vs := #[]) rfl (v := .agg #[.string ⟨#[]⟩, .int .i64 0, .int .i64 0]) (fun _ => by kernel_rfl)) rfl ?_
        refine XO.v (V.nilCheckP rfl) rfl ?_
        refine XO.storeAgg rfl rfl .here (encP_drop _ (by omega)) ⟨rfl, rfl⟩ sz_69_3 ?_
        refine XO.nil ?_
        refine XE.next ?_
        refine XC.keep [] (Sub.nil _) ?_
        refine XC.seq ?_
        refine XC.region ?_
        refine XO.v (V.assign rfl) rfl ?_
        refine XO.nil ?_
        refine XE.next ?_
        refine XC.keep [(6, _)] (Sub.cons rfl (Sub.nil _)) ?_
        refine XC.ret ?_
        refine XE.ret1 rfl rfl (post_of (.cons .here .nil) rfl ?_)
        first
        | (rw [PS.turn_err (by assumption)]; exact ⟨(errv_pos _ (by assumption)).symm, rfl⟩)
        | (rw [PS.turn_state (by assumption) (by assumption)]; exact ⟨rfl, rfl⟩)
        | (rw [PS.turn_ok (by assumption) (by assumption) (by omega)]; exact ⟨rfl, rfl⟩)
        | (rw [PS.turn_zero (by assumption) (by assumption) (by omega)]; refine ⟨rfl, ?_⟩; exact congrArg (fun e => [Ent.cells b o 24 (encP { b := fset s.b n ⟨#[]⟩, e := e })]) (drop_eq (by omega) (by omega)))
      · skip
        refine XC.skip ?_
        refine XE.next ?_
        refine XC.keep [] (Sub.nil _) ?_
        refine XC.seq ?_
        refine XC.region ?_
        refine XO.v (V.assign rfl) rfl ?_
        refine XO.nil ?_
        refine XE.next ?_
        refine XC.keep [(6, _)] (Sub.cons rfl (Sub.nil _)) ?_
        refine XC.ret ?_
        refine XE.ret1 rfl rfl (post_of (.cons .here .nil) rfl ?_)
        first
        | (rw [PS.turn_err (by assumption)]; exact ⟨(errv_pos _ (by assumption)).symm, rfl⟩)
        | (rw [PS.turn_state (by assumption) (by assumption)]; exact ⟨rfl, rfl⟩)
        | (rw [PS.turn_ok (by assumption) (by assumption) (by omega)]; exact ⟨rfl, rfl⟩)
        | (rw [PS.turn_zero (by assumption) (by assumption) (by omega)]; refine ⟨rfl, ?_⟩; exact congrArg (fun e => [Ent.cells b o 24 (encP { b := fset s.b n ⟨#[]⟩, e := e })]) (drop_eq (by omega) (by omega)))
  · skip
    refine XO.v (V.move rfl) rfl ?_
    refine XO.v (V.extract rfl rfl) rfl ?_
    refine XO.v (V.extract rfl rfl) rfl ?_
    refine XO.v (V.assign rfl) rfl ?_
    refine XO.v (V.assign rfl) rfl ?_
    refine XO.nil ?_
    refine XE.next ?_
    refine XC.keep [(2, _), (7, _), (8, _)] (Sub.cons rfl (Sub.cons rfl (Sub.cons rfl (Sub.nil _)))) ?_
    refine XC.seq ?_
    refine XC.seq ?_
    refine XC.region ?_
    refine XO.v (V.move rfl) rfl ?_
    refine XO.v (V.ifaceNil rfl Try.underlying43 rfl) rfl ?_
    refine XO.nil ?_
    refine XE.next ?_
    refine XC.keep [(2, _), (7, _), (8, _), (16, _)] (Sub.cons rfl (Sub.cons rfl (Sub.cons rfl (Sub.cons rfl (Sub.nil _))))) ?_
    refine XC.condT rfl rfl ?_
    refine XC.seq ?_
    refine XC.region ?_
    refine XO.v (V.move rfl) rfl ?_
    refine XO.v (V.assign rfl) rfl ?_
    refine XO.nil ?_
    refine XE.next ?_
    refine XC.keep [(6, _)] (Sub.cons rfl (Sub.nil _)) ?_
    refine XC.ret ?_
    refine XE.thenRet ?_
    refine XE.ret1 rfl rfl (post_of (.cons .here .nil) rfl ?_)
    first
        | (rw [PS.turn_err (by assumption)]; exact ⟨(errv_pos _ (by assumption)).symm, rfl⟩)
        | (rw [PS.turn_state (by assumption) (by assumption)]; exact ⟨rfl, rfl⟩)
        | (rw [PS.turn_ok (by assumption) (by assumption) (by omega)]; exact ⟨rfl, rfl⟩)
        | (rw [PS.turn_zero (by assumption) (by assumption) (by omega)]; refine ⟨rfl, ?_⟩; exact congrArg (fun e => [Ent.cells b o 24 (encP { b := fset s.b n ⟨#[]⟩, e := e })]) (drop_eq (by omega) (by omega)))

set_option maxRecDepth 10000 in
set_option maxHeartbeats 400000 in
theorem p_Drop_false (b o : Nat) (K : Int) (hK : K ≤ 1000000) (s : PS) (hI : s.Inv K) (n : Int) : Spec Try.prog 72 [ptr b o 0, .int .i64 n, .bool false]
    [.cells b o 24 (encP s)]
    (fun v H1 => v = errv 100 (s.turn n false (-1)).1 ∧ H1 = [.cells b o 24 (encP (s.turn n false (-1)).2)]) := by
  have b0 := hI.e0 n
  have b1 := hI.e1 n
  have bl := hI.len n
  have hnew : (s.e n (sel false) = 0) = (s.e n 0 = 0) := by simp [sel]
  refine Spec.intro Try.func72 rfl rfl ?_
  intro W
  refine XC.seq ?_
  refine XC.region ?_
  refine XO.v (V.assign rfl) rfl ?_
  refine XO.nil ?_
  refine XE.next ?_
  refine XC.keep [(0, _), (1, _), (2, _)] (Sub.cons rfl (Sub.cons rfl (Sub.cons rfl (Sub.nil _)))) ?_
  refine XC.seq ?_
  refine XC.region ?_
  refine XO.v (V.move rfl) rfl ?_
  refine XO.v (V.move rfl) rfl ?_
  refine XO.call rfl (p_is _ _ K hK s hI _) (.cons .here .nil) cl_86 rfl ?_
  rintro _ _ (⟨h1, rfl, rfl⟩ | ⟨h1, rfl, rfl⟩)
  · skip
    obtain ⟨h1, h2, h3⟩ := h1
    refine XO.v (V.move rfl) rfl ?_
    refine XO.v (V.extract rfl rfl) rfl ?_
    refine XO.v (V.extract rfl rfl) rfl ?_
    refine XO.v (V.assign rfl) rfl ?_
    refine XO.v (V.assign rfl) rfl ?_
    refine XO.nil ?_
    refine XE.next ?_
    refine XC.keep [(2, _), (7, _), (8, _)] (Sub.cons rfl (Sub.cons rfl (Sub.cons rfl (Sub.nil _)))) ?_
    refine XC.seq ?_
    refine XC.seq ?_
    refine XC.region ?_
    refine XO.v (V.move rfl) rfl ?_
    refine XO.v (V.nilNil rfl Try.underlying43 rfl) rfl ?_
    refine XO.nil ?_
    refine XE.next ?_
    refine XC.keep [(2, _), (7, _), (8, _), (16, _)] (Sub.cons rfl (Sub.cons rfl (Sub.cons rfl (Sub.cons rfl (Sub.nil _))))) ?_
    refine XC.condF rfl rfl ?_
    refine XC.skip ?_
    refine XE.next ?_
    refine XC.keep [(2, _), (7, _)] (Sub.cons rfl (Sub.cons rfl (Sub.nil _))) ?_
    refine XC.seq ?_
    refine XC.seq ?_
    refine XC.region ?_
    refine XO.v (V.move rfl) rfl ?_
    refine XO.v (V.move rfl) rfl ?_
    refine XO.call rfl (p_end_false _ _ _) .nil cl_87 rfl ?_
    rintro _ _ ⟨rfl, rfl⟩
    refine XO.v (V.nilCheckP rfl) rfl ?_
    refine XO.v (V.load rfl (inXM .here) (encP.ld_p_I_reads _ _ (by omega)) sc_3) rfl ?_
    refine XO.v (V.cmp rfl rfl rfl) rfl ?_
    refine XO.nil ?_
    refine XE.next ?_
    refine XC.keep [(2, _), (7, _), (23, _)] (Sub.cons rfl (Sub.cons rfl (Sub.cons rfl (Sub.nil _)))) ?_
    refine XC.condP rfl (fun h4 => ?_) (fun h4 => ?_)
    · skip
      refine XC.seq ?_
      refine XC.region ?_
      refine XO.v (V.makeIface rfl Try.underlying100 (by simp)) rfl ?_
      refine XO.v (V.assign rfl) rfl ?_
      refine XO.nil ?_
      refine XE.next ?_
      refine XC.keep [(6, _)] (Sub.cons rfl (Sub.nil _)) ?_
      refine XC.ret ?_
      refine XE.thenRet ?_
      refine XE.ret1 rfl rfl (post_of (.cons .here .nil) rfl ?_)
      first
        | (rw [PS.turn_err (by assumption)]; exact ⟨(errv_pos _ (by assumption)).symm, rfl⟩)
        | (rw [PS.turn_state (by assumption) (by assumption)]; exact ⟨rfl, rfl⟩)
        | (rw [PS.turn_ok (by assumption) (by assumption) (by omega)]; exact ⟨rfl, rfl⟩)
        | (rw [PS.turn_zero (by assumption) (by assumption) (by omega)]; refine ⟨rfl, ?_⟩; exact congrArg (fun e => [Ent.cells b o 24 (encP { b := fset s.b n ⟨#[]⟩, e := e })]) (drop_eq (by omega) (by omega)))
    · skip
      refine XC.skip ?_
      refine XE.next ?_
      refine XC.keep [(2, _), (7, _)] (Sub.cons rfl (Sub.cons rfl (Sub.nil _))) ?_
      refine XC.seq ?_
      refine XC.region ?_
      refine XO.v (V.move rfl) rfl ?_
      refine XO.v (V.move rfl) rfl ?_
      refine XO.call rfl (p_end_false _ _ _) .nil cl_87 rfl ?_
      rintro _ _ ⟨rfl, rfl⟩
      refine XO.v (V.nilCheckP rfl) rfl ?_
      refine XO.v (V.load rfl (inXM .here) (encP.ld_p_I_reads _ _ (by omega)) sc_3) rfl ?_
      refine XO.v (V.sub rfl rfl _ (IntWalk.i64_in _ (by omega))) rfl ?_
      refine XO.v (V.nilCheckP rfl) rfl ?_
      refine XO.store rfl rfl .here (encP.st_p_I_reads _ _ (by omega) _) rfl sz_3_1 ?_
      refine XO.nil ?_
      refine XE.next ?_
      refine XC.keep [(7, _)] (Sub.cons rfl (Sub.nil _)) ?_
      refine XC.seq ?_
      refine XC.seq ?_
      refine XC.regionQ mixed (f := 10) (l := #[false, false, false, false, false, false, false, false, false, false]) rfl rfl XM.drawn' ?_
      have c0 : ({ s with e := fset2 s.e n 0 (s.e n 0 - 1) } : PS).e n 0 = s.e n 0 + -1 := by simp [fset2]; omega
      have c0f : fset2 s.e n 0 (s.e n 0 - 1) n 0 = s.e n 0 + -1 := by simp [fset2]; omega
      have c1 : ({ s with e := fset2 s.e n 0 (s.e n 0 - 1) } : PS).e n 1 = s.e n 1 + 0 := by simp [fset2]
      have c1f : fset2 s.e n 0 (s.e n 0 - 1) n 1 = s.e n 1 + 0 := by simp [fset2]
      refine XQ.pv (i := 0) (l' := #[true, false, false, false, false, false, false, false, false, false]) rfl (by kernel_rfl) rfl (V.move rfl) rfl rfl ?_
      refine XQ.pv (i := 1) (l' := #[true, true, false, false, false, false, false, false, false, false]) rfl (by kernel_rfl) rfl (V.nilCheckP rfl) rfl rfl ?_
      refine XQ.pv (i := 2) (l' := #[true, true, true, false, false, false, false, false, false, false]) rfl (by kernel_rfl) rfl (V.fieldAddr rfl fo_69_1) rfl rfl ?_
      refine XQ.load (i := 3) (l' := #[true, true, true, true, false, false, false, false, false, false]) (.cells _ _ _ _) [] rfl (by kernel_rfl) rfl .here (V.load rfl inEnt (encP.ld_p_I_reads _ _ (by omega)) sc_3) rfl (by kernel_rfl) rfl ?_
      refine XQ.pv (i := 4) (l' := #[true, true, true, true, true, false, false, false, false, false]) rfl (by kernel_rfl) rfl (V.move rfl) rfl rfl ?_
      refine XQ.pv (i := 5) (l' := #[true, true, true, true, true, true, false, false, false, false]) rfl (by kernel_rfl) rfl (V.nilCheckP rfl) rfl rfl ?_
      refine XQ.pv (i := 6) (l' := #[true, true, true, true, true, true, true, false, false, false]) rfl (by kernel_rfl) rfl (V.fieldAddr rfl fo_69_2) rfl rfl ?_
      refine XQ.load (i := 7) (l' := #[true, true, true, true, true, true, true, true, false, false]) (.cells _ _ _ _) [] rfl (by kernel_rfl) rfl .here (V.load rfl inEnt (encP.ld_p_I_writes _ _ (by omega)) sc_3) rfl (by kernel_rfl) rfl ?_
      refine XQ.pv (i := 8) (l' := #[true, true, true, true, true, true, true, true, true, false]) rfl (by kernel_rfl) rfl (V.add rfl rfl _ (IntWalk.i64_in _ (by omega))) rfl rfl ?_
      refine XQ.pv (i := 9) (l' := #[true, true, true, true, true, true, true, true, true, true]) rfl (by kernel_rfl) rfl (V.cmp rfl rfl rfl) rfl rfl ?_
      refine XQ.done (by kernel_rfl) ?_
      refine XE.next ?_
      refine XC.keep [(7, _), (41, _)] (Sub.cons rfl (Sub.cons rfl (Sub.nil _))) ?_
      refine XC.condP rfl (fun h5 => ?_) (fun h5 => ?_)
      · skip
        refine XC.region ?_
        refine XO.v (V.move rfl) rfl ?_
        refine XO.v (V.build (vs := #[]) rfl (v := .agg #[.string ⟨#[]⟩, .int .i64 0, .int .i64 0]) (fun _ => by kernel_rfl)) rfl ?_
        refine XO.v (V.nilCheckP rfl) rfl ?_
        refine XO.storeAgg rfl rfl .here (encP_drop _ (by omega)) ⟨rfl, rfl⟩ sz_69_3 ?_
        refine XO.nil ?_
        refine XE.next ?_
        refine XC.keep [] (Sub.nil _) ?_
        refine XC.seq ?_
        refine XC.region ?_
        refine XO.v (V.assign rfl) rfl ?_
        refine XO.nil ?_
        refine XE.next ?_
        refine XC.keep [(6, _)] (Sub.cons rfl (Sub.nil _)) ?_
        refine XC.ret ?_
        refine XE.ret1 rfl rfl (post_of (.cons .here .nil) rfl ?_)
        first
        | (rw [PS.turn_err (by assumption)]; exact ⟨(errv_pos _ (by assumption)).symm, rfl⟩)
        | (rw [PS.turn_state (by assumption) (by assumption)]; exact ⟨rfl, rfl⟩)
        | (rw [PS.turn_ok (by assumption) (by assumption) (by omega)]; exact ⟨rfl, rfl⟩)
        | (rw [PS.turn_zero (by assumption) (by assumption) (by omega)]; refine ⟨rfl, ?_⟩; exact congrArg (fun e => [Ent.cells b o 24 (encP { b := fset s.b n ⟨#[]⟩, e := e })]) (drop_eq (by omega) (by omega)))
      · skip
        refine XC.skip ?_
        refine XE.next ?_
        refine XC.keep [] (Sub.nil _) ?_
        refine XC.seq ?_
        refine XC.region ?_
        refine XO.v (V.assign rfl) rfl ?_
        refine XO.nil ?_
        refine XE.next ?_
        refine XC.keep [(6, _)] (Sub.cons rfl (Sub.nil _)) ?_
        refine XC.ret ?_
        refine XE.ret1 rfl rfl (post_of (.cons .here .nil) rfl ?_)
        first
        | (rw [PS.turn_err (by assumption)]; exact ⟨(errv_pos _ (by assumption)).symm, rfl⟩)
        | (rw [PS.turn_state (by assumption) (by assumption)]; exact ⟨rfl, rfl⟩)
        | (rw [PS.turn_ok (by assumption) (by assumption) (by omega)]; exact ⟨rfl, rfl⟩)
        | (rw [PS.turn_zero (by assumption) (by assumption) (by omega)]; refine ⟨rfl, ?_⟩; exact congrArg (fun e => [Ent.cells b o 24 (encP { b := fset s.b n ⟨#[]⟩, e := e })]) (drop_eq (by omega) (by omega)))
  · skip
    refine XO.v (V.move rfl) rfl ?_
    refine XO.v (V.extract rfl rfl) rfl ?_
    refine XO.v (V.extract rfl rfl) rfl ?_
    refine XO.v (V.assign rfl) rfl ?_
    refine XO.v (V.assign rfl) rfl ?_
    refine XO.nil ?_
    refine XE.next ?_
    refine XC.keep [(2, _), (7, _), (8, _)] (Sub.cons rfl (Sub.cons rfl (Sub.cons rfl (Sub.nil _)))) ?_
    refine XC.seq ?_
    refine XC.seq ?_
    refine XC.region ?_
    refine XO.v (V.move rfl) rfl ?_
    refine XO.v (V.ifaceNil rfl Try.underlying43 rfl) rfl ?_
    refine XO.nil ?_
    refine XE.next ?_
    refine XC.keep [(2, _), (7, _), (8, _), (16, _)] (Sub.cons rfl (Sub.cons rfl (Sub.cons rfl (Sub.cons rfl (Sub.nil _))))) ?_
    refine XC.condT rfl rfl ?_
    refine XC.seq ?_
    refine XC.region ?_
    refine XO.v (V.move rfl) rfl ?_
    refine XO.v (V.assign rfl) rfl ?_
    refine XO.nil ?_
    refine XE.next ?_
    refine XC.keep [(6, _)] (Sub.cons rfl (Sub.nil _)) ?_
    refine XC.ret ?_
    refine XE.thenRet ?_
    refine XE.ret1 rfl rfl (post_of (.cons .here .nil) rfl ?_)
    first
        | (rw [PS.turn_err (by assumption)]; exact ⟨(errv_pos _ (by assumption)).symm, rfl⟩)
        | (rw [PS.turn_state (by assumption) (by assumption)]; exact ⟨rfl, rfl⟩)
        | (rw [PS.turn_ok (by assumption) (by assumption) (by omega)]; exact ⟨rfl, rfl⟩)
        | (rw [PS.turn_zero (by assumption) (by assumption) (by omega)]; refine ⟨rfl, ?_⟩; exact congrArg (fun e => [Ent.cells b o 24 (encP { b := fset s.b n ⟨#[]⟩, e := e })]) (drop_eq (by omega) (by omega)))
set_option maxRecDepth 10000 in
set_option maxHeartbeats 400000 in
theorem p_Read (b o : Nat) (K : Int) (hK : K ≤ 1000000) (s : PS) (hI : s.Inv K) (n m : Int) : Spec Try.prog 73 [ptr b o 0, .int .i64 n, .int .i64 m]
    [.cells b o 24 (encP s)]
    (fun v H1 => v = .tuple #[.string (s.read n m).1, errv 100 (s.read n m).2.1] ∧ H1 = [.cells b o 24 (encP (s.read n m).2.2)]) := by
  have b0 := hI.e0 n
  have b1 := hI.e1 n
  have bl := hI.len n
  refine Spec.intro Try.func73 rfl rfl ?_
  intro W
  refine XC.seq ?_
  refine XC.region ?_
  refine XO.v (V.assign rfl) rfl ?_
  refine XO.v (V.assign rfl) rfl ?_
  refine XO.nil ?_
  refine XE.next ?_
  refine XC.keep [(0, _), (1, _), (2, _)] (Sub.cons rfl (Sub.cons rfl (Sub.cons rfl (Sub.nil _)))) ?_
  refine XC.seq ?_
  refine XC.region ?_
  refine XO.v (V.move rfl) rfl ?_
  refine XO.v (V.move rfl) rfl ?_
  refine XO.call rfl (p_is _ _ K hK s hI _) (.cons .here .nil) cl_86 rfl ?_
  rintro _ _ (⟨h1, rfl, rfl⟩ | ⟨h1, rfl, rfl⟩)
  · skip
    obtain ⟨h1, h2, h3⟩ := h1
    refine XO.v (V.move rfl) rfl ?_
    refine XO.v (V.extract rfl rfl) rfl ?_
    refine XO.v (V.extract rfl rfl) rfl ?_
    refine XO.v (V.assign rfl) rfl ?_
    refine XO.v (V.assign rfl) rfl ?_
    refine XO.nil ?_
    refine XE.next ?_
    refine XC.keep [(2, _), (8, _), (9, _)] (Sub.cons rfl (Sub.cons rfl (Sub.cons rfl (Sub.nil _)))) ?_
    refine XC.seq ?_
    refine XC.seq ?_
    refine XC.region ?_
    refine XO.v (V.move rfl) rfl ?_
    refine XO.v (V.nilNil rfl Try.underlying43 rfl) rfl ?_
    refine XO.nil ?_
    refine XE.next ?_
    refine XC.keep [(2, _), (8, _), (9, _), (19, _)] (Sub.cons rfl (Sub.cons rfl (Sub.cons rfl (Sub.cons rfl (Sub.nil _))))) ?_
    refine XC.condF rfl rfl ?_
    refine XC.skip ?_
    refine XE.next ?_
    refine XC.keep [(2, _), (8, _)] (Sub.cons rfl (Sub.cons rfl (Sub.nil _))) ?_
    refine XC.seq ?_
    refine XC.seq ?_
    refine XC.region ?_
    refine XO.v (V.move rfl) rfl ?_
    refine XO.v (V.nilCheckP rfl) rfl ?_
    refine XO.v (V.fieldAddr rfl fo_69_1) rfl ?_
    refine XO.v (V.load rfl (inXM .here) (encP.ld_p_I_reads _ _ (by omega)) sc_3) rfl ?_
    refine XO.v (V.cmp rfl rfl rfl) rfl ?_
    refine XO.nil ?_
    refine XE.next ?_
    refine XC.keep [(2, _), (8, _), (25, _)] (Sub.cons rfl (Sub.cons rfl (Sub.cons rfl (Sub.nil _)))) ?_
    refine XC.condP rfl (fun h4 => ?_) (fun h4 => ?_)
    · skip
      refine XC.seq ?_
      refine XC.region ?_
      refine XO.v (V.makeIface rfl Try.underlying100 (by simp)) rfl ?_
      refine XO.v (V.assign rfl) rfl ?_
      refine XO.v (V.assign rfl) rfl ?_
      refine XO.nil ?_
      refine XE.next ?_
      refine XC.keep [(6, _), (7, _)] (Sub.cons rfl (Sub.cons rfl (Sub.nil _))) ?_
      refine XC.ret ?_
      refine XE.thenRet ?_
      refine XE.ret2 rfl rfl rfl (post_of (.cons .here .nil) rfl ?_)
      first
      | (rw [PS.read_err (by assumption)]; exact ⟨by show _ = Value.tuple #[_, errv 100 (s.is n)]; rw [errv_pos _ (by assumption)], rfl⟩)
      | (rw [PS.read_state (by assumption) (by assumption)]; exact ⟨rfl, rfl⟩)
      | (rw [PS.read_bound (by assumption) (by assumption) (by omega)]; exact ⟨rfl, rfl⟩)
      | (rw [PS.read_again (by assumption) (by assumption) (by omega) ⟨by assumption, by omega, by omega⟩]; exact ⟨rfl, rfl⟩)
      | (rw [PS.read_ok (by assumption) (by assumption) (by omega) (by rintro ⟨q1, q2, q3⟩; first | contradiction | omega)]; exact ⟨rfl, rfl⟩)
    · skip
      refine XC.skip ?_
      refine XE.next ?_
      refine XC.keep [(2, _), (8, _)] (Sub.cons rfl (Sub.cons rfl (Sub.nil _))) ?_
      refine XC.seq ?_
      refine XC.seq ?_
      refine XC.region ?_
      refine XO.v (V.move rfl) rfl ?_
      refine XO.v (V.cmp rfl rfl rfl) rfl ?_
      refine XO.nil ?_
      refine XE.next ?_
      refine XC.keep [(2, _), (8, _), (28, _)] (Sub.cons rfl (Sub.cons rfl (Sub.cons rfl (Sub.nil _)))) ?_
      refine XC.condP rfl (fun h5 => ?_) (fun h5 => ?_)
      · skip
        refine XC.seq ?_
        refine XC.region ?_
        refine XO.v (V.makeIface rfl Try.underlying100 (by simp)) rfl ?_
        refine XO.v (V.assign rfl) rfl ?_
        refine XO.v (V.assign rfl) rfl ?_
        refine XO.nil ?_
        refine XE.next ?_
        refine XC.keep [(6, _), (7, _)] (Sub.cons rfl (Sub.cons rfl (Sub.nil _))) ?_
        refine XC.ret ?_
        refine XE.thenRet ?_
        refine XE.ret2 rfl rfl rfl (post_of (.cons .here .nil) rfl ?_)
        first
        | (rw [PS.read_err (by assumption)]; exact ⟨by show _ = Value.tuple #[_, errv 100 (s.is n)]; rw [errv_pos _ (by assumption)], rfl⟩)
        | (rw [PS.read_state (by assumption) (by assumption)]; exact ⟨rfl, rfl⟩)
        | (rw [PS.read_bound (by assumption) (by assumption) (by omega)]; exact ⟨rfl, rfl⟩)
        | (rw [PS.read_again (by assumption) (by assumption) (by omega) ⟨by assumption, by omega, by omega⟩]; exact ⟨rfl, rfl⟩)
        | (rw [PS.read_ok (by assumption) (by assumption) (by omega) (by rintro ⟨q1, q2, q3⟩; first | contradiction | omega)]; exact ⟨rfl, rfl⟩)
      · skip
        refine XC.skip ?_
        refine XE.next ?_
        refine XC.keep [(2, _), (8, _)] (Sub.cons rfl (Sub.cons rfl (Sub.nil _))) ?_
        refine XC.seq ?_
        refine XC.seq ?_
        refine XC.region ?_
        refine XO.v (V.move rfl) rfl ?_
        refine XO.v (V.nilCheckP rfl) rfl ?_
        refine XO.v (V.fieldAddr rfl fo_69_0) rfl ?_
        refine XO.v (V.load rfl (inXM .here) (encP.ld_p_I_b _ _ (by omega)) sc_9) rfl ?_
        refine XO.v (V.strCmp rfl rfl rfl) rfl ?_
        refine XO.v (V.move rfl) rfl ?_
        refine XO.splitP (d := 35) rfl (fun h6 => ?_) (fun h6 => ?_)
        · skip
          refine XO.guardRun rfl rfl rfl ?_
          refine XO.v (V.move rfl) rfl ?_
          refine XO.guardRun rfl rfl rfl ?_
          refine XO.v (V.nilCheckP rfl) rfl ?_
          refine XO.guardRun rfl rfl rfl ?_
          refine XO.v (V.fieldAddr rfl fo_69_2) rfl ?_
          refine XO.guardRun rfl rfl rfl ?_
          refine XO.v (V.load rfl (inXM .here) (encP.ld_p_I_writes _ _ (by omega)) sc_3) rfl ?_
          refine XO.guardRun rfl rfl rfl ?_
          refine XO.v (V.cmp rfl rfl rfl) rfl ?_
          refine XO.v (V.pick rfl rfl rfl rfl) rfl ?_
          refine XO.v (V.move rfl) rfl ?_
          refine XO.splitP (d := 42) rfl (fun h7 => ?_) (fun h7 => ?_)
          · skip
            refine XO.guardRun rfl rfl rfl ?_
            refine XO.v (V.move rfl) rfl ?_
            refine XO.guardRun rfl rfl rfl ?_
            refine XO.v (V.cmp rfl rfl rfl) rfl ?_
            refine XO.v (V.pick rfl rfl rfl rfl) rfl ?_
            refine XO.nil ?_
            refine XE.next ?_
            refine XC.keep [(2, _), (8, _), (45, _)] (Sub.cons rfl (Sub.cons rfl (Sub.cons rfl (Sub.nil _)))) ?_
            refine XC.condP rfl (fun h8 => ?_) (fun h8 => ?_)
            · skip
              refine XC.seq ?_
              refine XC.region ?_
              refine XO.v (V.makeIface rfl Try.underlying100 (by simp)) rfl ?_
              refine XO.v (V.assign rfl) rfl ?_
              refine XO.v (V.assign rfl) rfl ?_
              refine XO.nil ?_
              refine XE.next ?_
              refine XC.keep [(6, _), (7, _)] (Sub.cons rfl (Sub.cons rfl (Sub.nil _))) ?_
              refine XC.ret ?_
              refine XE.thenRet ?_
              refine XE.ret2 rfl rfl rfl (post_of (.cons .here .nil) rfl ?_)
              first
              | (rw [PS.read_err (by assumption)]; exact ⟨by show _ = Value.tuple #[_, errv 100 (s.is n)]; rw [errv_pos _ (by assumption)], rfl⟩)
              | (rw [PS.read_state (by assumption) (by assumption)]; exact ⟨rfl, rfl⟩)
              | (rw [PS.read_bound (by assumption) (by assumption) (by omega)]; exact ⟨rfl, rfl⟩)
              | (rw [PS.read_again (by assumption) (by assumption) (by omega) ⟨by assumption, by omega, by omega⟩]; exact ⟨rfl, rfl⟩)
              | (rw [PS.read_ok (by assumption) (by assumption) (by omega) (by rintro ⟨q1, q2, q3⟩; first | contradiction | omega)]; exact ⟨rfl, rfl⟩)
            · skip
              refine XC.skip ?_
              refine XE.next ?_
              refine XC.keep [(2, _), (8, _)] (Sub.cons rfl (Sub.cons rfl (Sub.nil _))) ?_
              refine XC.seq ?_
              refine XC.region ?_
              refine XO.v (V.move rfl) rfl ?_
              refine XO.v (V.move rfl) rfl ?_
              refine XO.v (V.nilCheckP rfl) rfl ?_
              refine XO.v (V.fieldAddr rfl fo_69_0) rfl ?_
              refine XO.v (V.load rfl (inXM .here) (encP.ld_p_I_b _ _ (by omega)) sc_9) rfl ?_
              refine XO.v (V.lenStr rfl Try.underlying9) rfl ?_
              refine XO.v (V.min2 rfl rfl) rfl ?_
              refine XO.v (V.assign rfl) rfl ?_
              refine XO.nil ?_
              refine XE.next ?_
              refine XC.keep [(8, _), (10, _)] (Sub.cons rfl (Sub.cons rfl (Sub.nil _))) ?_
              refine XC.seq ?_
              refine XC.region ?_
              refine XO.v (V.move rfl) rfl ?_
              refine XO.v (V.nilCheckP rfl) rfl ?_
              refine XO.v (V.fieldAddr rfl fo_69_0) rfl ?_
              refine XO.v (V.load rfl (inXM .here) (encP.ld_p_I_b _ _ (by omega)) sc_9) rfl ?_
              refine XO.v (V.move rfl) rfl ?_
              refine XO.v (V.sliceTo rfl rfl Try.underlying9 (by omega)) rfl ?_
              refine XO.v (V.assign rfl) rfl ?_
              refine XO.nil ?_
              refine XE.next ?_
              refine XC.keep [(8, _), (10, _), (11, _)] (Sub.cons rfl (Sub.cons rfl (Sub.cons rfl (Sub.nil _)))) ?_
              refine XC.seq ?_
              refine XC.region ?_
              refine XO.v (V.move rfl) rfl ?_
              refine XO.v (V.move rfl) rfl ?_
              refine XO.v (V.nilCheckP rfl) rfl ?_
              refine XO.v (V.fieldAddr rfl fo_69_0) rfl ?_
              refine XO.v (V.load rfl (inXM .here) (encP.ld_p_I_b _ _ (by omega)) sc_9) rfl ?_
              refine XO.v (V.move rfl) rfl ?_
              refine XO.v (V.sliceFrom rfl rfl Try.underlying9 (by omega)) rfl ?_
              refine XO.v (V.nilCheckP rfl) rfl ?_
              refine XO.v (V.fieldAddr rfl fo_69_0) rfl ?_
              refine XO.store rfl rfl .here (encP.st_p_I_b _ _ (by omega) _) rfl sz_9_1 ?_
              refine XO.nil ?_
              refine XE.next ?_
              refine XC.keep [(11, _)] (Sub.cons rfl (Sub.nil _)) ?_
              refine XC.seq ?_
              refine XC.region ?_
              refine XO.v (V.move rfl) rfl ?_
              refine XO.v (V.assign rfl) rfl ?_
              refine XO.v (V.assign rfl) rfl ?_
              refine XO.nil ?_
              refine XE.next ?_
              refine XC.keep [(6, _), (7, _)] (Sub.cons rfl (Sub.cons rfl (Sub.nil _))) ?_
              refine XC.ret ?_
              refine XE.ret2 rfl rfl rfl (post_of (.cons .here .nil) rfl ?_)
              first
              | (rw [PS.read_err (by assumption)]; exact ⟨by show _ = Value.tuple #[_, errv 100 (s.is n)]; rw [errv_pos _ (by assumption)], rfl⟩)
              | (rw [PS.read_state (by assumption) (by assumption)]; exact ⟨rfl, rfl⟩)
              | (rw [PS.read_bound (by assumption) (by assumption) (by omega)]; exact ⟨rfl, rfl⟩)
              | (rw [PS.read_again (by assumption) (by assumption) (by omega) ⟨by assumption, by omega, by omega⟩]; exact ⟨rfl, rfl⟩)
              | (rw [PS.read_ok (by assumption) (by assumption) (by omega) (by rintro ⟨q1, q2, q3⟩; first | contradiction | omega)]; exact ⟨rfl, rfl⟩)
          · skip
            refine XO.guardSkip rfl rfl rfl rfl rfl ?_
            refine XO.guardSkip rfl rfl rfl rfl rfl ?_
            refine XO.v (V.pick rfl rfl rfl rfl) rfl ?_
            refine XO.nil ?_
            refine XE.next ?_
            refine XC.keep [(2, _), (8, _), (45, _)] (Sub.cons rfl (Sub.cons rfl (Sub.cons rfl (Sub.nil _)))) ?_
            refine XC.condF rfl rfl ?_
            refine XC.skip ?_
            refine XE.next ?_
            refine XC.keep [(2, _), (8, _)] (Sub.cons rfl (Sub.cons rfl (Sub.nil _))) ?_
            refine XC.seq ?_
            refine XC.region ?_
            refine XO.v (V.move rfl) rfl ?_
            refine XO.v (V.move rfl) rfl ?_
            refine XO.v (V.nilCheckP rfl) rfl ?_
            refine XO.v (V.fieldAddr rfl fo_69_0) rfl ?_
            refine XO.v (V.load rfl (inXM .here) (encP.ld_p_I_b _ _ (by omega)) sc_9) rfl ?_
            refine XO.v (V.lenStr rfl Try.underlying9) rfl ?_
            refine XO.v (V.min2 rfl rfl) rfl ?_
            refine XO.v (V.assign rfl) rfl ?_
            refine XO.nil ?_
            refine XE.next ?_
            refine XC.keep [(8, _), (10, _)] (Sub.cons rfl (Sub.cons rfl (Sub.nil _))) ?_
            refine XC.seq ?_
            refine XC.region ?_
            refine XO.v (V.move rfl) rfl ?_
            refine XO.v (V.nilCheckP rfl) rfl ?_
            refine XO.v (V.fieldAddr rfl fo_69_0) rfl ?_
            refine XO.v (V.load rfl (inXM .here) (encP.ld_p_I_b _ _ (by omega)) sc_9) rfl ?_
            refine XO.v (V.move rfl) rfl ?_
            refine XO.v (V.sliceTo rfl rfl Try.underlying9 (by omega)) rfl ?_
            refine XO.v (V.assign rfl) rfl ?_
            refine XO.nil ?_
            refine XE.next ?_
            refine XC.keep [(8, _), (10, _), (11, _)] (Sub.cons rfl (Sub.cons rfl (Sub.cons rfl (Sub.nil _)))) ?_
            refine XC.seq ?_
            refine XC.region ?_
            refine XO.v (V.move rfl) rfl ?_
            refine XO.v (V.move rfl) rfl ?_
            refine XO.v (V.nilCheckP rfl) rfl ?_
            refine XO.v (V.fieldAddr rfl fo_69_0) rfl ?_
            refine XO.v (V.load rfl (inXM .here) (encP.ld_p_I_b _ _ (by omega)) sc_9) rfl ?_
            refine XO.v (V.move rfl) rfl ?_
            refine XO.v (V.sliceFrom rfl rfl Try.underlying9 (by omega)) rfl ?_
            refine XO.v (V.nilCheckP rfl) rfl ?_
            refine XO.v (V.fieldAddr rfl fo_69_0) rfl ?_
            refine XO.store rfl rfl .here (encP.st_p_I_b _ _ (by omega) _) rfl sz_9_1 ?_
            refine XO.nil ?_
            refine XE.next ?_
            refine XC.keep [(11, _)] (Sub.cons rfl (Sub.nil _)) ?_
            refine XC.seq ?_
            refine XC.region ?_
            refine XO.v (V.move rfl) rfl ?_
            refine XO.v (V.assign rfl) rfl ?_
            refine XO.v (V.assign rfl) rfl ?_
            refine XO.nil ?_
            refine XE.next ?_
            refine XC.keep [(6, _), (7, _)] (Sub.cons rfl (Sub.cons rfl (Sub.nil _))) ?_
            refine XC.ret ?_
            refine XE.ret2 rfl rfl rfl (post_of (.cons .here .nil) rfl ?_)
            first
            | (rw [PS.read_err (by assumption)]; exact ⟨by show _ = Value.tuple #[_, errv 100 (s.is n)]; rw [errv_pos _ (by assumption)], rfl⟩)
            | (rw [PS.read_state (by assumption) (by assumption)]; exact ⟨rfl, rfl⟩)
            | (rw [PS.read_bound (by assumption) (by assumption) (by omega)]; exact ⟨rfl, rfl⟩)
            | (rw [PS.read_again (by assumption) (by assumption) (by omega) ⟨by assumption, by omega, by omega⟩]; exact ⟨rfl, rfl⟩)
            | (rw [PS.read_ok (by assumption) (by assumption) (by omega) (by rintro ⟨q1, q2, q3⟩; first | contradiction | omega)]; exact ⟨rfl, rfl⟩)
        · skip
          refine XO.guardSkip rfl rfl rfl rfl rfl ?_
          refine XO.guardSkip rfl rfl rfl rfl rfl ?_
          refine XO.guardSkip rfl rfl rfl rfl rfl ?_
          refine XO.guardSkip rfl rfl rfl rfl rfl ?_
          refine XO.guardSkip rfl rfl rfl rfl rfl ?_
          refine XO.v (V.pick rfl rfl rfl rfl) rfl ?_
          refine XO.v (V.move rfl) rfl ?_
          refine XO.guardSkip rfl rfl rfl rfl rfl ?_
          refine XO.guardSkip rfl rfl rfl rfl rfl ?_
          refine XO.v (V.pick rfl rfl rfl rfl) rfl ?_
          refine XO.nil ?_
          refine XE.next ?_
          refine XC.keep [(2, _), (8, _), (45, _)] (Sub.cons rfl (Sub.cons rfl (Sub.cons rfl (Sub.nil _)))) ?_
          refine XC.condF rfl rfl ?_
          refine XC.skip ?_
          refine XE.next ?_
          refine XC.keep [(2, _), (8, _)] (Sub.cons rfl (Sub.cons rfl (Sub.nil _))) ?_
          refine XC.seq ?_
          refine XC.region ?_
          refine XO.v (V.move rfl) rfl ?_
          refine XO.v (V.move rfl) rfl ?_
          refine XO.v (V.nilCheckP rfl) rfl ?_
          refine XO.v (V.fieldAddr rfl fo_69_0) rfl ?_
          refine XO.v (V.load rfl (inXM .here) (encP.ld_p_I_b _ _ (by omega)) sc_9) rfl ?_
          refine XO.v (V.lenStr rfl Try.underlying9) rfl ?_
          refine XO.v (V.min2 rfl rfl) rfl ?_
          refine XO.v (V.assign rfl) rfl ?_
          refine XO.nil ?_
          refine XE.next ?_
          refine XC.keep [(8, _), (10, _)] (Sub.cons rfl (Sub.cons rfl (Sub.nil _))) ?_
          refine XC.seq ?_
          refine XC.region ?_
          refine XO.v (V.move rfl) rfl ?_
          refine XO.v (V.nilCheckP rfl) rfl ?_
          refine XO.v (V.fieldAddr rfl fo_69_0) rfl ?_
          refine XO.v (V.load rfl (inXM .here) (encP.ld_p_I_b _ _ (by omega)) sc_9) rfl ?_
          refine XO.v (V.move rfl) rfl ?_
          refine XO.v (V.sliceTo rfl rfl Try.underlying9 (by omega)) rfl ?_
          refine XO.v (V.assign rfl) rfl ?_
          refine XO.nil ?_
          refine XE.next ?_
          refine XC.keep [(8, _), (10, _), (11, _)] (Sub.cons rfl (Sub.cons rfl (Sub.cons rfl (Sub.nil _)))) ?_
          refine XC.seq ?_
          refine XC.region ?_
          refine XO.v (V.move rfl) rfl ?_
          refine XO.v (V.move rfl) rfl ?_
          refine XO.v (V.nilCheckP rfl) rfl ?_
          refine XO.v (V.fieldAddr rfl fo_69_0) rfl ?_
          refine XO.v (V.load rfl (inXM .here) (encP.ld_p_I_b _ _ (by omega)) sc_9) rfl ?_
          refine XO.v (V.move rfl) rfl ?_
          refine XO.v (V.sliceFrom rfl rfl Try.underlying9 (by omega)) rfl ?_
          refine XO.v (V.nilCheckP rfl) rfl ?_
          refine XO.v (V.fieldAddr rfl fo_69_0) rfl ?_
          refine XO.store rfl rfl .here (encP.st_p_I_b _ _ (by omega) _) rfl sz_9_1 ?_
          refine XO.nil ?_
          refine XE.next ?_
          refine XC.keep [(11, _)] (Sub.cons rfl (Sub.nil _)) ?_
          refine XC.seq ?_
          refine XC.region ?_
          refine XO.v (V.move rfl) rfl ?_
          refine XO.v (V.assign rfl) rfl ?_
          refine XO.v (V.assign rfl) rfl ?_
          refine XO.nil ?_
          refine XE.next ?_
          refine XC.keep [(6, _), (7, _)] (Sub.cons rfl (Sub.cons rfl (Sub.nil _))) ?_
          refine XC.ret ?_
          refine XE.ret2 rfl rfl rfl (post_of (.cons .here .nil) rfl ?_)
          first
          | (rw [PS.read_err (by assumption)]; exact ⟨by show _ = Value.tuple #[_, errv 100 (s.is n)]; rw [errv_pos _ (by assumption)], rfl⟩)
          | (rw [PS.read_state (by assumption) (by assumption)]; exact ⟨rfl, rfl⟩)
          | (rw [PS.read_bound (by assumption) (by assumption) (by omega)]; exact ⟨rfl, rfl⟩)
          | (rw [PS.read_again (by assumption) (by assumption) (by omega) ⟨by assumption, by omega, by omega⟩]; exact ⟨rfl, rfl⟩)
          | (rw [PS.read_ok (by assumption) (by assumption) (by omega) (by rintro ⟨q1, q2, q3⟩; first | contradiction | omega)]; exact ⟨rfl, rfl⟩)
  · skip
    refine XO.v (V.move rfl) rfl ?_
    refine XO.v (V.extract rfl rfl) rfl ?_
    refine XO.v (V.extract rfl rfl) rfl ?_
    refine XO.v (V.assign rfl) rfl ?_
    refine XO.v (V.assign rfl) rfl ?_
    refine XO.nil ?_
    refine XE.next ?_
    refine XC.keep [(2, _), (8, _), (9, _)] (Sub.cons rfl (Sub.cons rfl (Sub.cons rfl (Sub.nil _)))) ?_
    refine XC.seq ?_
    refine XC.seq ?_
    refine XC.region ?_
    refine XO.v (V.move rfl) rfl ?_
    refine XO.v (V.ifaceNil rfl Try.underlying43 rfl) rfl ?_
    refine XO.nil ?_
    refine XE.next ?_
    refine XC.keep [(2, _), (8, _), (9, _), (19, _)] (Sub.cons rfl (Sub.cons rfl (Sub.cons rfl (Sub.cons rfl (Sub.nil _))))) ?_
    refine XC.condT rfl rfl ?_
    refine XC.seq ?_
    refine XC.region ?_
    refine XO.v (V.move rfl) rfl ?_
    refine XO.v (V.assign rfl) rfl ?_
    refine XO.v (V.assign rfl) rfl ?_
    refine XO.nil ?_
    refine XE.next ?_
    refine XC.keep [(6, _), (7, _)] (Sub.cons rfl (Sub.cons rfl (Sub.nil _))) ?_
    refine XC.ret ?_
    refine XE.thenRet ?_
    refine XE.ret2 rfl rfl rfl (post_of (.cons .here .nil) rfl ?_)
    first
    | (rw [PS.read_err (by assumption)]; exact ⟨by show _ = Value.tuple #[_, errv 100 (s.is n)]; rw [errv_pos _ (by assumption)], rfl⟩)
    | (rw [PS.read_state (by assumption) (by assumption)]; exact ⟨rfl, rfl⟩)
    | (rw [PS.read_bound (by assumption) (by assumption) (by omega)]; exact ⟨rfl, rfl⟩)
    | (rw [PS.read_again (by assumption) (by assumption) (by omega) ⟨by assumption, by omega, by omega⟩]; exact ⟨rfl, rfl⟩)
    | (rw [PS.read_ok (by assumption) (by assumption) (by omega) (by rintro ⟨q1, q2, q3⟩; first | contradiction | omega)]; exact ⟨rfl, rfl⟩)
set_option maxRecDepth 10000 in
set_option maxHeartbeats 400000 in
theorem p_Write (b o : Nat) (K : Int) (hK : K ≤ 1000000) (s : PS) (hI : s.Inv K) (n : Int) (t : ByteArray) (ht : t.size ≤ 1000000) : Spec Try.prog 71 [ptr b o 0, .int .i64 n, .string t]
    [.cells b o 24 (encP s)]
    (fun v H1 => v = .tuple #[.int .i64 (s.write n t).1, errv 100 (s.write n t).2.1] ∧ H1 = [.cells b o 24 (encP (s.write n t).2.2)]) := by
  have b0 := hI.e0 n
  have b1 := hI.e1 n
  have bl := hI.len n
  have he := str_empty t
  refine Spec.intro Try.func71 rfl rfl ?_
  intro W
  refine XC.seq ?_
  refine XC.region ?_
  refine XO.v (V.assign rfl) rfl ?_
  refine XO.v (V.assign rfl) rfl ?_
  refine XO.nil ?_
  refine XE.next ?_
  refine XC.keep [(0, _), (1, _), (2, _)] (Sub.cons rfl (Sub.cons rfl (Sub.cons rfl (Sub.nil _)))) ?_
  refine XC.seq ?_
  refine XC.region ?_
  refine XO.v (V.move rfl) rfl ?_
  refine XO.v (V.move rfl) rfl ?_
  refine XO.call rfl (p_is _ _ K hK s hI _) (.cons .here .nil) cl_86 rfl ?_
  rintro _ _ (⟨h1, rfl, rfl⟩ | ⟨h1, rfl, rfl⟩)
  · skip
    obtain ⟨h1, h2, h3⟩ := h1
    refine XO.v (V.move rfl) rfl ?_
    refine XO.v (V.extract rfl rfl) rfl ?_
    refine XO.v (V.extract rfl rfl) rfl ?_
    refine XO.v (V.assign rfl) rfl ?_
    refine XO.v (V.assign rfl) rfl ?_
    refine XO.nil ?_
    refine XE.next ?_
    refine XC.keep [(2, _), (8, _), (9, _)] (Sub.cons rfl (Sub.cons rfl (Sub.cons rfl (Sub.nil _)))) ?_
    refine XC.seq ?_
    refine XC.seq ?_
    refine XC.region ?_
    refine XO.v (V.move rfl) rfl ?_
    refine XO.v (V.nilNil rfl Try.underlying43 rfl) rfl ?_
    refine XO.nil ?_
    refine XE.next ?_
    refine XC.keep [(2, _), (8, _), (9, _), (18, _)] (Sub.cons rfl (Sub.cons rfl (Sub.cons rfl (Sub.cons rfl (Sub.nil _))))) ?_
    refine XC.condF rfl rfl ?_
    refine XC.skip ?_
    refine XE.next ?_
    refine XC.keep [(2, _), (8, _)] (Sub.cons rfl (Sub.cons rfl (Sub.nil _))) ?_
    refine XC.seq ?_
    refine XC.seq ?_
    refine XC.region ?_
    refine XO.v (V.move rfl) rfl ?_
    refine XO.v (V.nilCheckP rfl) rfl ?_
    refine XO.v (V.fieldAddr rfl fo_69_2) rfl ?_
    refine XO.v (V.load rfl (inXM .here) (encP.ld_p_I_writes _ _ (by omega)) sc_3) rfl ?_
    refine XO.v (V.cmp rfl rfl rfl) rfl ?_
    refine XO.nil ?_
    refine XE.next ?_
    refine XC.keep [(2, _), (8, _), (24, _)] (Sub.cons rfl (Sub.cons rfl (Sub.cons rfl (Sub.nil _)))) ?_
    refine XC.condP rfl (fun h4 => ?_) (fun h4 => ?_)
    · skip
      refine XC.seq ?_
      refine XC.region ?_
      refine XO.v (V.makeIface rfl Try.underlying100 (by simp)) rfl ?_
      refine XO.v (V.assign rfl) rfl ?_
      refine XO.v (V.assign rfl) rfl ?_
      refine XO.nil ?_
      refine XE.next ?_
      refine XC.keep [(6, _), (7, _)] (Sub.cons rfl (Sub.cons rfl (Sub.nil _))) ?_
      refine XC.ret ?_
      refine XE.thenRet ?_
      refine XE.ret2 rfl rfl rfl (post_of (.cons .here .nil) rfl ?_)
      first
      | (rw [PS.write_err (by assumption)]; exact ⟨by show _ = Value.tuple #[_, errv 100 (s.is n)]; rw [errv_pos _ (by assumption)], rfl⟩)
      | (rw [PS.write_state (by assumption) (by assumption)]; exact ⟨rfl, rfl⟩)
      | (rw [PS.write_broken (by assumption) (by assumption) (by assumption)]; exact ⟨rfl, rfl⟩)
      | (rw [PS.write_again (by assumption) (by assumption) (by assumption) ⟨by assumption, by first | omega | (have hq := mt he.2 (by assumption); omega)⟩]; exact ⟨rfl, rfl⟩)
      | (rw [PS.write_ok (by assumption) (by assumption) (by assumption) (by first | omega | (have hq := he.1 (Decidable.not_not.1 (by assumption)); omega))]; exact ⟨rfl, rfl⟩)
    · skip
      refine XC.skip ?_
      refine XE.next ?_
      refine XC.keep [(2, _), (8, _)] (Sub.cons rfl (Sub.cons rfl (Sub.nil _))) ?_
      refine XC.seq ?_
      refine XC.seq ?_
      refine XC.region ?_
      refine XO.v (V.move rfl) rfl ?_
      refine XO.v (V.nilCheckP rfl) rfl ?_
      refine XO.v (V.fieldAddr rfl fo_69_1) rfl ?_
      refine XO.v (V.load rfl (inXM .here) (encP.ld_p_I_reads _ _ (by omega)) sc_3) rfl ?_
      refine XO.v (V.cmp rfl rfl rfl) rfl ?_
      refine XO.nil ?_
      refine XE.next ?_
      refine XC.keep [(2, _), (8, _), (30, _)] (Sub.cons rfl (Sub.cons rfl (Sub.cons rfl (Sub.nil _)))) ?_
      refine XC.condP rfl (fun h5 => ?_) (fun h5 => ?_)
      · skip
        refine XC.seq ?_
        refine XC.region ?_
        refine XO.v (V.makeIface rfl Try.underlying100 (by simp)) rfl ?_
        refine XO.v (V.assign rfl) rfl ?_
        refine XO.v (V.assign rfl) rfl ?_
        refine XO.nil ?_
        refine XE.next ?_
        refine XC.keep [(6, _), (7, _)] (Sub.cons rfl (Sub.cons rfl (Sub.nil _))) ?_
        refine XC.ret ?_
        refine XE.thenRet ?_
        refine XE.ret2 rfl rfl rfl (post_of (.cons .here .nil) rfl ?_)
        first
        | (rw [PS.write_err (by assumption)]; exact ⟨by show _ = Value.tuple #[_, errv 100 (s.is n)]; rw [errv_pos _ (by assumption)], rfl⟩)
        | (rw [PS.write_state (by assumption) (by assumption)]; exact ⟨rfl, rfl⟩)
        | (rw [PS.write_broken (by assumption) (by assumption) (by assumption)]; exact ⟨rfl, rfl⟩)
        | (rw [PS.write_again (by assumption) (by assumption) (by assumption) ⟨by assumption, by first | omega | (have hq := mt he.2 (by assumption); omega)⟩]; exact ⟨rfl, rfl⟩)
        | (rw [PS.write_ok (by assumption) (by assumption) (by assumption) (by first | omega | (have hq := he.1 (Decidable.not_not.1 (by assumption)); omega))]; exact ⟨rfl, rfl⟩)
      · skip
        refine XC.skip ?_
        refine XE.next ?_
        refine XC.keep [(2, _), (8, _)] (Sub.cons rfl (Sub.cons rfl (Sub.nil _))) ?_
        refine XC.seq ?_
        refine XC.region ?_
        refine XO.v (V.move rfl) rfl ?_
        refine XO.v (V.lenStr rfl Try.underlying9) rfl ?_
        refine XO.v (V.move rfl) rfl ?_
        refine XO.v (V.nilCheckP rfl) rfl ?_
        refine XO.v (V.fieldAddr rfl fo_69_0) rfl ?_
        refine XO.v (V.load rfl (inXM .here) (encP.ld_p_I_b _ _ (by omega)) sc_9) rfl ?_
        refine XO.v (V.lenStr rfl Try.underlying9) rfl ?_
        refine XO.v (V.sub rfl rfl _ (IntWalk.i64_in _ (by omega))) rfl ?_
        refine XO.v (V.min2 rfl rfl) rfl ?_
        refine XO.v (V.assign rfl) rfl ?_
        refine XO.nil ?_
        refine XE.next ?_
        refine XC.keep [(2, _), (8, _), (10, _)] (Sub.cons rfl (Sub.cons rfl (Sub.cons rfl (Sub.nil _)))) ?_
        refine XC.seq ?_
        refine XC.seq ?_
        refine XC.region ?_
        refine XO.v (V.move rfl) rfl ?_
        refine XO.v (V.cmp rfl rfl rfl) rfl ?_
        refine XO.v (V.move rfl) rfl ?_
        refine XO.splitP (d := 43) rfl (fun h6 => ?_) (fun h6 => ?_)
        · skip
          refine XO.guardRun rfl rfl rfl ?_
          refine XO.v (V.move rfl) rfl ?_
          refine XO.guardRun rfl rfl rfl ?_
          refine XO.v (V.strCmp rfl rfl rfl) rfl ?_
          refine XO.v (V.pick rfl rfl rfl rfl) rfl ?_
          refine XO.nil ?_
          refine XE.next ?_
          refine XC.keep [(2, _), (8, _), (10, _), (46, _)] (Sub.cons rfl (Sub.cons rfl (Sub.cons rfl (Sub.cons rfl (Sub.nil _))))) ?_
          refine XC.condP rfl (fun h7 => ?_) (fun h7 => ?_)
          · skip
            refine XC.seq ?_
            refine XC.region ?_
            refine XO.v (V.makeIface rfl Try.underlying100 (by simp)) rfl ?_
            refine XO.v (V.assign rfl) rfl ?_
            refine XO.v (V.assign rfl) rfl ?_
            refine XO.nil ?_
            refine XE.next ?_
            refine XC.keep [(6, _), (7, _)] (Sub.cons rfl (Sub.cons rfl (Sub.nil _))) ?_
            refine XC.ret ?_
            refine XE.thenRet ?_
            refine XE.ret2 rfl rfl rfl (post_of (.cons .here .nil) rfl ?_)
            first
            | (rw [PS.write_err (by assumption)]; exact ⟨by show _ = Value.tuple #[_, errv 100 (s.is n)]; rw [errv_pos _ (by assumption)], rfl⟩)
            | (rw [PS.write_state (by assumption) (by assumption)]; exact ⟨rfl, rfl⟩)
            | (rw [PS.write_broken (by assumption) (by assumption) (by assumption)]; exact ⟨rfl, rfl⟩)
            | (rw [PS.write_again (by assumption) (by assumption) (by assumption) ⟨by assumption, by first | omega | (have hq := mt he.2 (by assumption); omega)⟩]; exact ⟨rfl, rfl⟩)
            | (rw [PS.write_ok (by assumption) (by assumption) (by assumption) (by first | omega | (have hq := he.1 (Decidable.not_not.1 (by assumption)); omega))]; exact ⟨rfl, rfl⟩)
          · skip
            refine XC.skip ?_
            refine XE.next ?_
            refine XC.keep [(2, _), (8, _), (10, _)] (Sub.cons rfl (Sub.cons rfl (Sub.cons rfl (Sub.nil _)))) ?_
            refine XC.seq ?_
            refine XC.regionQ mixed (f := 11) (l := #[false, false, false, false, false, false, false, false, false, false, false]) rfl rfl XM.drawn' ?_
            refine XQ.pv (i := 0) (l' := #[true, false, false, false, false, false, false, false, false, false, false]) rfl (by kernel_rfl) rfl (V.move rfl) rfl rfl ?_
            refine XQ.pv (i := 1) (l' := #[true, true, false, false, false, false, false, false, false, false, false]) rfl (by kernel_rfl) rfl (V.nilCheckP rfl) rfl rfl ?_
            refine XQ.pv (i := 2) (l' := #[true, true, true, false, false, false, false, false, false, false, false]) rfl (by kernel_rfl) rfl (V.fieldAddr rfl fo_69_0) rfl rfl ?_
            refine XQ.load (i := 3) (l' := #[true, true, true, true, false, false, false, false, false, false, false]) (.cells _ _ _ _) [10] rfl (by kernel_rfl) rfl .here (V.load rfl inEnt (encP.ld_p_I_b _ _ (by omega)) sc_9) rfl (by kernel_rfl) rfl ?_
            refine XQ.pv (i := 4) (l' := #[true, true, true, true, true, false, false, false, false, false, false]) rfl (by kernel_rfl) rfl (V.move rfl) rfl rfl ?_
            refine XQ.pv (i := 5) (l' := #[true, true, true, true, true, true, false, false, false, false, false]) rfl (by kernel_rfl) rfl (V.move rfl) rfl rfl ?_
            refine XQ.pv (i := 6) (l' := #[true, true, true, true, true, true, true, false, false, false, false]) rfl (by kernel_rfl) rfl (V.sliceTo rfl rfl Try.underlying9 (by omega)) rfl rfl ?_
            refine XQ.pv (i := 7) (l' := #[true, true, true, true, true, true, true, true, false, false, false]) rfl (by kernel_rfl) rfl (V.concat rfl rfl (by simp only [ByteArray.size_extract]; omega)) rfl rfl ?_
            refine XQ.pv (i := 8) (l' := #[true, true, true, true, true, true, true, true, true, false, false]) rfl (by kernel_rfl) rfl (V.nilCheckP rfl) rfl rfl ?_
            refine XQ.pv (i := 9) (l' := #[true, true, true, true, true, true, true, true, true, true, false]) rfl (by kernel_rfl) rfl (V.fieldAddr rfl fo_69_0) rfl rfl ?_
            refine XQ.store (i := 10) (l' := #[true, true, true, true, true, true, true, true, true, true, true]) rfl (by kernel_rfl) rfl rfl rfl .here (encP.st_p_I_b _ _ (by omega) _) rfl sz_9_1 (fun _ hw' => ⟨fun hs => (hs 10 (by first | (simp; done) | (simp; rfl)) rfl).elim, trivial⟩) ?_
            refine XQ.done (by kernel_rfl) ?_
            refine XE.next ?_
            refine XC.keep [(10, _)] (Sub.cons rfl (Sub.nil _)) ?_
            refine XC.seq ?_
            refine XC.region ?_
            refine XO.v (V.move rfl) rfl ?_
            refine XO.v (V.assign rfl) rfl ?_
            refine XO.v (V.assign rfl) rfl ?_
            refine XO.nil ?_
            refine XE.next ?_
            refine XC.keep [(6, _), (7, _)] (Sub.cons rfl (Sub.cons rfl (Sub.nil _))) ?_
            refine XC.ret ?_
            refine XE.ret2 rfl rfl rfl (post_of (.cons .here .nil) rfl ?_)
            first
            | (rw [PS.write_err (by assumption)]; exact ⟨by show _ = Value.tuple #[_, errv 100 (s.is n)]; rw [errv_pos _ (by assumption)], rfl⟩)
            | (rw [PS.write_state (by assumption) (by assumption)]; exact ⟨rfl, rfl⟩)
            | (rw [PS.write_broken (by assumption) (by assumption) (by assumption)]; exact ⟨rfl, rfl⟩)
            | (rw [PS.write_again (by assumption) (by assumption) (by assumption) ⟨by assumption, by first | omega | (have hq := mt he.2 (by assumption); omega)⟩]; exact ⟨rfl, rfl⟩)
            | (rw [PS.write_ok (by assumption) (by assumption) (by assumption) (by first | omega | (have hq := he.1 (Decidable.not_not.1 (by assumption)); omega))]; exact ⟨rfl, rfl⟩)
        · skip
          refine XO.guardSkip rfl rfl rfl rfl rfl ?_
          refine XO.guardSkip rfl rfl rfl rfl rfl ?_
          refine XO.v (V.pick rfl rfl rfl rfl) rfl ?_
          refine XO.nil ?_
          refine XE.next ?_
          refine XC.keep [(2, _), (8, _), (10, _), (46, _)] (Sub.cons rfl (Sub.cons rfl (Sub.cons rfl (Sub.cons rfl (Sub.nil _))))) ?_
          refine XC.condF rfl rfl ?_
          refine XC.skip ?_
          refine XE.next ?_
          refine XC.keep [(2, _), (8, _), (10, _)] (Sub.cons rfl (Sub.cons rfl (Sub.cons rfl (Sub.nil _)))) ?_
          refine XC.seq ?_
          refine XC.regionQ mixed (f := 11) (l := #[false, false, false, false, false, false, false, false, false, false, false]) rfl rfl XM.drawn' ?_
          refine XQ.pv (i := 0) (l' := #[true, false, false, false, false, false, false, false, false, false, false]) rfl (by kernel_rfl) rfl (V.move rfl) rfl rfl ?_
          refine XQ.pv (i := 1) (l' := #[true, true, false, false, false, false, false, false, false, false, false]) rfl (by kernel_rfl) rfl (V.nilCheckP rfl) rfl rfl ?_
          refine XQ.pv (i := 2) (l' := #[true, true, true, false, false, false, false, false, false, false, false]) rfl (by kernel_rfl) rfl (V.fieldAddr rfl fo_69_0) rfl rfl ?_
          refine XQ.load (i := 3) (l' := #[true, true, true, true, false, false, false, false, false, false, false]) (.cells _ _ _ _) [10] rfl (by kernel_rfl) rfl .here (V.load rfl inEnt (encP.ld_p_I_b _ _ (by omega)) sc_9) rfl (by kernel_rfl) rfl ?_
          refine XQ.pv (i := 4) (l' := #[true, true, true, true, true, false, false, false, false, false, false]) rfl (by kernel_rfl) rfl (V.move rfl) rfl rfl ?_
          refine XQ.pv (i := 5) (l' := #[true, true, true, true, true, true, false, false, false, false, false]) rfl (by kernel_rfl) rfl (V.move rfl) rfl rfl ?_
          refine XQ.pv (i := 6) (l' := #[true, true, true, true, true, true, true, false, false, false, false]) rfl (by kernel_rfl) rfl (V.sliceTo rfl rfl Try.underlying9 (by omega)) rfl rfl ?_
          refine XQ.pv (i := 7) (l' := #[true, true, true, true, true, true, true, true, false, false, false]) rfl (by kernel_rfl) rfl (V.concat rfl rfl (by simp only [ByteArray.size_extract]; omega)) rfl rfl ?_
          refine XQ.pv (i := 8) (l' := #[true, true, true, true, true, true, true, true, true, false, false]) rfl (by kernel_rfl) rfl (V.nilCheckP rfl) rfl rfl ?_
          refine XQ.pv (i := 9) (l' := #[true, true, true, true, true, true, true, true, true, true, false]) rfl (by kernel_rfl) rfl (V.fieldAddr rfl fo_69_0) rfl rfl ?_
          refine XQ.store (i := 10) (l' := #[true, true, true, true, true, true, true, true, true, true, true]) rfl (by kernel_rfl) rfl rfl rfl .here (encP.st_p_I_b _ _ (by omega) _) rfl sz_9_1 (fun _ hw' => ⟨fun hs => (hs 10 (by first | (simp; done) | (simp; rfl)) rfl).elim, trivial⟩) ?_
          refine XQ.done (by kernel_rfl) ?_
          refine XE.next ?_
          refine XC.keep [(10, _)] (Sub.cons rfl (Sub.nil _)) ?_
          refine XC.seq ?_
          refine XC.region ?_
          refine XO.v (V.move rfl) rfl ?_
          refine XO.v (V.assign rfl) rfl ?_
          refine XO.v (V.assign rfl) rfl ?_
          refine XO.nil ?_
          refine XE.next ?_
          refine XC.keep [(6, _), (7, _)] (Sub.cons rfl (Sub.cons rfl (Sub.nil _))) ?_
          refine XC.ret ?_
          refine XE.ret2 rfl rfl rfl (post_of (.cons .here .nil) rfl ?_)
          first
          | (rw [PS.write_err (by assumption)]; exact ⟨by show _ = Value.tuple #[_, errv 100 (s.is n)]; rw [errv_pos _ (by assumption)], rfl⟩)
          | (rw [PS.write_state (by assumption) (by assumption)]; exact ⟨rfl, rfl⟩)
          | (rw [PS.write_broken (by assumption) (by assumption) (by assumption)]; exact ⟨rfl, rfl⟩)
          | (rw [PS.write_again (by assumption) (by assumption) (by assumption) ⟨by assumption, by first | omega | (have hq := mt he.2 (by assumption); omega)⟩]; exact ⟨rfl, rfl⟩)
          | (rw [PS.write_ok (by assumption) (by assumption) (by assumption) (by first | omega | (have hq := he.1 (Decidable.not_not.1 (by assumption)); omega))]; exact ⟨rfl, rfl⟩)
  · skip
    refine XO.v (V.move rfl) rfl ?_
    refine XO.v (V.extract rfl rfl) rfl ?_
    refine XO.v (V.extract rfl rfl) rfl ?_
    refine XO.v (V.assign rfl) rfl ?_
    refine XO.v (V.assign rfl) rfl ?_
    refine XO.nil ?_
    refine XE.next ?_
    refine XC.keep [(2, _), (8, _), (9, _)] (Sub.cons rfl (Sub.cons rfl (Sub.cons rfl (Sub.nil _)))) ?_
    refine XC.seq ?_
    refine XC.seq ?_
    refine XC.region ?_
    refine XO.v (V.move rfl) rfl ?_
    refine XO.v (V.ifaceNil rfl Try.underlying43 rfl) rfl ?_
    refine XO.nil ?_
    refine XE.next ?_
    refine XC.keep [(2, _), (8, _), (9, _), (18, _)] (Sub.cons rfl (Sub.cons rfl (Sub.cons rfl (Sub.cons rfl (Sub.nil _))))) ?_
    refine XC.condT rfl rfl ?_
    refine XC.seq ?_
    refine XC.region ?_
    refine XO.v (V.move rfl) rfl ?_
    refine XO.v (V.assign rfl) rfl ?_
    refine XO.v (V.assign rfl) rfl ?_
    refine XO.nil ?_
    refine XE.next ?_
    refine XC.keep [(6, _), (7, _)] (Sub.cons rfl (Sub.cons rfl (Sub.nil _))) ?_
    refine XC.ret ?_
    refine XE.thenRet ?_
    refine XE.ret2 rfl rfl rfl (post_of (.cons .here .nil) rfl ?_)
    first
    | (rw [PS.write_err (by assumption)]; exact ⟨by show _ = Value.tuple #[_, errv 100 (s.is n)]; rw [errv_pos _ (by assumption)], rfl⟩)
    | (rw [PS.write_state (by assumption) (by assumption)]; exact ⟨rfl, rfl⟩)
    | (rw [PS.write_broken (by assumption) (by assumption) (by assumption)]; exact ⟨rfl, rfl⟩)
    | (rw [PS.write_again (by assumption) (by assumption) (by assumption) ⟨by assumption, by first | omega | (have hq := mt he.2 (by assumption); omega)⟩]; exact ⟨rfl, rfl⟩)
    | (rw [PS.write_ok (by assumption) (by assumption) (by assumption) (by first | omega | (have hq := he.1 (Decidable.not_not.1 (by assumption)); omega))]; exact ⟨rfl, rfl⟩)









end Go.X
