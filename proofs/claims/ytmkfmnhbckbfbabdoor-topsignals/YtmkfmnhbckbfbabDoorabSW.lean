import Derived.Test.YtmkfmnhbckbfbabDoorSM
import Derived.Test.YtmkfmnhbckbfbabDoorProg
import Derived.KernelRfl
namespace Go.X
open Go Go.Proofs
theorem mixed : Tryd.prog.follows .mixedOrders = true := by kernel_rfl
theorem ar_25 : arrOf Tryd.prog 25 = some (9, 1) := by kernel_rfl
theorem ar_61 : arrOf Tryd.prog 61 = some (32, 1) := by kernel_rfl
theorem cl_17 : callable Tryd.prog 17 = true := by kernel_rfl
theorem cl_18 : callable Tryd.prog 18 = true := by kernel_rfl
theorem cl_19 : callable Tryd.prog 19 = true := by kernel_rfl
theorem cl_22 : callable Tryd.prog 22 = true := by kernel_rfl
theorem fo_27_0 : fieldOff Tryd.prog 27 0 = some 0 := by kernel_rfl
theorem fo_27_1 : fieldOff Tryd.prog 27 1 = some 1 := by kernel_rfl
theorem fo_27_2 : fieldOff Tryd.prog 27 2 = some 2 := by kernel_rfl
theorem sc_24 : scal Tryd.prog 24 = true := by kernel_rfl
theorem sc_3 : scal Tryd.prog 3 = true := by kernel_rfl
theorem sc_5 : scal Tryd.prog 5 = true := by kernel_rfl
theorem sz_24_1 : szOf Tryd.prog 24 = some 1 := by kernel_rfl
theorem sz_3_1 : szOf Tryd.prog 3 = some 1 := by kernel_rfl
set_option maxRecDepth 10000 in
set_option maxHeartbeats 400000 in
theorem s_number (n : Int) : Spec Tryd.prog 17 [.int .i64 n]
    []
    (fun v H1 => ((1 ≤ n ∧ n ≤ 8) ∧ v = .nilIface ∧ H1 = []) ∨ ((n < 1 ∨ n > 8) ∧ v = .iface 52 (.int .i64 1) ∧ H1 = [])) := by
  refine Spec.intro Tryd.func17 rfl rfl ?_
  intro W
  refine XC.seq ?_
  refine XC.region ?_
  refine XO.v (V.assign rfl) rfl ?_
  refine XO.nil ?_
  refine XE.next ?_
  refine XC.keep [(0, _)] (Sub.cons rfl (Sub.nil _)) ?_
  refine XC.seq ?_
  refine XC.seq ?_
  refine XC.region ?_
  refine XO.v (V.move rfl) rfl ?_
  refine XO.v (V.cmp rfl rfl rfl) rfl ?_
  refine XO.v (V.move rfl) rfl ?_
  refine XO.splitP (d := 5) rfl (fun h1 => ?_) (fun h1 => ?_)
  · skip
    refine XO.guardSkip rfl rfl rfl rfl rfl ?_
    refine XO.guardSkip rfl rfl rfl rfl rfl ?_
    refine XO.v (V.pick rfl rfl rfl rfl) rfl ?_
    refine XO.nil ?_
    refine XE.next ?_
    refine XC.keep [(8, _)] (Sub.cons rfl (Sub.nil _)) ?_
    refine XC.condT rfl rfl ?_
    refine XC.seq ?_
    refine XC.region ?_
    refine XO.v (V.makeIface rfl Tryd.underlying52 (by simp)) rfl ?_
    refine XO.v (V.assign rfl) rfl ?_
    refine XO.nil ?_
    refine XE.next ?_
    refine XC.keep [(2, _)] (Sub.cons rfl (Sub.nil _)) ?_
    refine XC.ret ?_
    refine XE.thenRet ?_
    refine XE.ret1 rfl rfl (post_of .nil rfl ?_)
    first | exact .inl ⟨by omega, rfl, rfl⟩ | exact .inr ⟨by omega, rfl, rfl⟩
  · skip
    refine XO.guardRun rfl rfl rfl ?_
    refine XO.v (V.move rfl) rfl ?_
    refine XO.guardRun rfl rfl rfl ?_
    refine XO.v (V.cmp rfl rfl rfl) rfl ?_
    refine XO.v (V.pick rfl rfl rfl rfl) rfl ?_
    refine XO.nil ?_
    refine XE.next ?_
    refine XC.keep [(8, _)] (Sub.cons rfl (Sub.nil _)) ?_
    refine XC.condP rfl (fun h2 => ?_) (fun h2 => ?_)
    · skip
      refine XC.seq ?_
      refine XC.region ?_
      refine XO.v (V.makeIface rfl Tryd.underlying52 (by simp)) rfl ?_
      refine XO.v (V.assign rfl) rfl ?_
      refine XO.nil ?_
      refine XE.next ?_
      refine XC.keep [(2, _)] (Sub.cons rfl (Sub.nil _)) ?_
      refine XC.ret ?_
      refine XE.thenRet ?_
      refine XE.ret1 rfl rfl (post_of .nil rfl ?_)
      first | exact .inl ⟨by omega, rfl, rfl⟩ | exact .inr ⟨by omega, rfl, rfl⟩
    · skip
      refine XC.skip ?_
      refine XE.next ?_
      refine XC.keep [] (Sub.nil _) ?_
      refine XC.seq ?_
      refine XC.region ?_
      refine XO.v (V.assign rfl) rfl ?_
      refine XO.nil ?_
      refine XE.next ?_
      refine XC.keep [(2, _)] (Sub.cons rfl (Sub.nil _)) ?_
      refine XC.ret ?_
      refine XE.ret1 rfl rfl (post_of .nil rfl ?_)
      first | exact .inl ⟨by omega, rfl, rfl⟩ | exact .inr ⟨by omega, rfl, rfl⟩
set_option maxRecDepth 10000 in
set_option maxHeartbeats 400000 in
theorem s_does (b o : Nat) (s : BS) (n : Int) (hn : 1 ≤ n ∧ n ≤ 8) : Spec Tryd.prog 18 [ptr b o 0, .int .i64 n]
    [.cells b o 11 (encB s)]
    (fun v H1 => v = .int .i64 (s.does n) ∧ H1 = [.cells b o 11 (encB s)]) := by
  refine Spec.intro Tryd.func18 rfl rfl ?_
  intro W
  refine XC.seq ?_
  refine XC.region ?_
  refine XO.v (V.assign rfl) rfl ?_
  refine XO.nil ?_
  refine XE.next ?_
  refine XC.keep [(0, _), (1, _)] (Sub.cons rfl (Sub.cons rfl (Sub.nil _))) ?_
  refine XC.seq ?_
  refine XC.seq ?_
  refine XC.region ?_
  refine XO.v (V.move rfl) rfl ?_
  refine XO.v (V.cmp rfl rfl rfl) rfl ?_
  refine XO.v (V.move rfl) rfl ?_
  refine XO.splitP (d := 7) rfl (fun h1 => ?_) (fun h1 => ?_)
  · skip
    refine XO.guardRun rfl rfl rfl ?_
    refine XO.v (V.move rfl) rfl ?_
    refine XO.guardRun rfl rfl rfl ?_
    refine XO.v (V.move rfl) rfl ?_
    refine XO.guardRun rfl rfl rfl ?_
    refine XO.v (V.nilCheckP rfl) rfl ?_
    refine XO.guardRun rfl rfl rfl ?_
    refine XO.v (V.fieldAddr rfl fo_27_2) rfl ?_
    refine XO.guardRun rfl rfl rfl ?_
    refine XO.v (V.indexArr rfl rfl ar_25 (by omega)) rfl ?_
    refine XO.guardRun rfl rfl rfl ?_
    refine XO.v (V.load rfl (inXM .here) (encB.ld_how_I _ _ (by omega)) sc_3) rfl ?_
    refine XO.guardRun rfl rfl rfl ?_
    refine XO.v (V.cmp rfl rfl rfl) rfl ?_
    refine XO.v (V.pick rfl rfl rfl rfl) rfl ?_
    refine XO.nil ?_
    refine XE.next ?_
    refine XC.keep [(0, _), (1, _), (15, _)] (Sub.cons rfl (Sub.cons rfl (Sub.cons rfl (Sub.nil _)))) ?_
    refine XC.condP rfl (fun h2 => ?_) (fun h2 => ?_)
    · skip
      refine XC.seq ?_
      refine XC.region ?_
      refine XO.v (V.assign rfl) rfl ?_
      refine XO.nil ?_
      refine XE.next ?_
      refine XC.keep [(4, _)] (Sub.cons rfl (Sub.nil _)) ?_
      refine XC.ret ?_
      refine XE.thenRet ?_
      refine XE.ret1 rfl rfl (post_of (.cons .here .nil) rfl ?_)
      first | exact ⟨by unfold BS.does; rw [if_pos (by omega)], rfl⟩ | exact ⟨by unfold BS.does; rw [if_neg (by omega)], rfl⟩
    · skip
      refine XC.skip ?_
      refine XE.next ?_
      refine XC.keep [(0, _), (1, _)] (Sub.cons rfl (Sub.cons rfl (Sub.nil _))) ?_
      refine XC.seq ?_
      refine XC.region ?_
      refine XO.v (V.move rfl) rfl ?_
      refine XO.v (V.move rfl) rfl ?_
      refine XO.v (V.nilCheckP rfl) rfl ?_
      refine XO.v (V.fieldAddr rfl fo_27_2) rfl ?_
      refine XO.v (V.indexArr rfl rfl ar_25 (by omega)) rfl ?_
      refine XO.v (V.load rfl (inXM .here) (encB.ld_how_I _ _ (by omega)) sc_3) rfl ?_
      refine XO.v (V.assign rfl) rfl ?_
      refine XO.nil ?_
      refine XE.next ?_
      refine XC.keep [(4, _)] (Sub.cons rfl (Sub.nil _)) ?_
      refine XC.ret ?_
      refine XE.ret1 rfl rfl (post_of (.cons .here .nil) rfl ?_)
      first | exact ⟨by unfold BS.does; rw [if_pos (by omega)], rfl⟩ | exact ⟨by unfold BS.does; rw [if_neg (by omega)], rfl⟩
  · skip
    refine XO.guardSkip rfl rfl rfl rfl rfl ?_
    refine XO.guardSkip rfl rfl rfl rfl rfl ?_
    refine XO.guardSkip rfl rfl rfl rfl rfl ?_
    refine XO.guardSkip rfl rfl rfl rfl rfl ?_
    refine XO.guardSkip rfl rfl rfl rfl rfl ?_
    refine XO.guardSkip rfl rfl rfl rfl rfl ?_
    refine XO.guardSkip rfl rfl rfl rfl rfl ?_
    refine XO.v (V.pick rfl rfl rfl rfl) rfl ?_
    refine XO.nil ?_
    refine XE.next ?_
    refine XC.keep [(0, _), (1, _), (15, _)] (Sub.cons rfl (Sub.cons rfl (Sub.cons rfl (Sub.nil _)))) ?_
    refine XC.condF rfl rfl ?_
    refine XC.skip ?_
    refine XE.next ?_
    refine XC.keep [(0, _), (1, _)] (Sub.cons rfl (Sub.cons rfl (Sub.nil _))) ?_
    refine XC.seq ?_
    refine XC.region ?_
    refine XO.v (V.move rfl) rfl ?_
    refine XO.v (V.move rfl) rfl ?_
    refine XO.v (V.nilCheckP rfl) rfl ?_
    refine XO.v (V.fieldAddr rfl fo_27_2) rfl ?_
    refine XO.v (V.indexArr rfl rfl ar_25 (by omega)) rfl ?_
    refine XO.v (V.load rfl (inXM .here) (encB.ld_how_I _ _ (by omega)) sc_3) rfl ?_
    refine XO.v (V.assign rfl) rfl ?_
    refine XO.nil ?_
    refine XE.next ?_
    refine XC.keep [(4, _)] (Sub.cons rfl (Sub.nil _)) ?_
    refine XC.ret ?_
    refine XE.ret1 rfl rfl (post_of (.cons .here .nil) rfl ?_)
    first | exact ⟨by unfold BS.does; rw [if_pos (by omega)], rfl⟩ | exact ⟨by unfold BS.does; rw [if_neg (by omega)], rfl⟩
set_option maxRecDepth 10000 in
set_option maxHeartbeats 400000 in
theorem s_Send (b o : Nat) (s : BS) (n : Int) : Spec Tryd.prog 5 [ptr b o 0, .int .i64 n]
    [.cells b o 11 (encB s)]
    (fun v H1 => v = errv 52 (s.send n).1 ∧ H1 = [.cells b o 11 (encB (s.send n).2)]) := by
  refine Spec.intro Tryd.func5 rfl rfl ?_
  intro W
  refine XC.seq ?_
  refine XC.region ?_
  refine XO.v (V.assign rfl) rfl ?_
  refine XO.nil ?_
  refine XE.next ?_
  refine XC.keep [(0, _), (1, _)] (Sub.cons rfl (Sub.cons rfl (Sub.nil _))) ?_
  refine XC.seq ?_
  refine XC.region ?_
  refine XO.v (V.move rfl) rfl ?_
  refine XO.call rfl (s_number _) .nil cl_17 rfl ?_
  rintro _ _ (⟨h1, rfl, rfl⟩ | ⟨h1, rfl, rfl⟩)
  · skip
    refine XO.v (V.assign rfl) rfl ?_
    refine XO.nil ?_
    refine XE.next ?_
    refine XC.keep [(0, _), (1, _), (5, _)] (Sub.cons rfl (Sub.cons rfl (Sub.cons rfl (Sub.nil _)))) ?_
    refine XC.seq ?_
    refine XC.seq ?_
    refine XC.region ?_
    refine XO.v (V.move rfl) rfl ?_
    refine XO.v (V.nilNil rfl Tryd.underlying29 rfl) rfl ?_
    refine XO.v (V.move rfl) rfl ?_
    refine XO.guardRun rfl rfl rfl ?_
    refine XO.v (V.move rfl) rfl ?_
    refine XO.guardRun rfl rfl rfl ?_
    refine XO.v (V.move rfl) rfl ?_
    refine XO.guardRun rfl rfl rfl ?_
    refine XO.call rfl (s_does _ _ _ _ (by omega)) (.cons .here .nil) cl_18 rfl ?_
    rintro _ _ ⟨rfl, rfl⟩
    refine XO.guardRun rfl rfl rfl ?_
    refine XO.v (V.cmp rfl rfl rfl) rfl ?_
    refine XO.v (V.pick rfl rfl rfl rfl) rfl ?_
    refine XO.nil ?_
    refine XE.next ?_
    refine XC.keep [(0, _), (1, _), (5, _), (15, _)] (Sub.cons rfl (Sub.cons rfl (Sub.cons rfl (Sub.cons rfl (Sub.nil _))))) ?_
    refine XC.condP rfl (fun h2 => ?_) (fun h2 => ?_)
    · skip
      refine XC.regionQ mixed (f := 10) (l := #[false, false, false, false, false, false, false, false, false, false]) rfl rfl XM.drawn' ?_
      refine XQ.pv (i := 0) (l' := #[true, false, false, false, false, false, false, false, false, false]) rfl (by kernel_rfl) rfl (V.move rfl) rfl rfl ?_
      refine XQ.pv (i := 1) (l' := #[true, true, false, false, false, false, false, false, false, false]) rfl (by kernel_rfl) rfl (V.nilCheckP rfl) rfl rfl ?_
      refine XQ.pv (i := 2) (l' := #[true, true, true, false, false, false, false, false, false, false]) rfl (by kernel_rfl) rfl (V.fieldAddr rfl fo_27_0) rfl rfl ?_
      refine XQ.load (i := 3) (l' := #[true, true, true, true, false, false, false, false, false, false]) (.cells _ _ _ _) [9] rfl (by kernel_rfl) rfl .here (V.load rfl inEnt (encB.ld_wait _) sc_24) rfl (by kernel_rfl) rfl ?_
      refine XQ.pv (i := 4) (l' := #[true, true, true, true, true, false, false, false, false, false]) rfl (by kernel_rfl) rfl (V.move rfl) rfl rfl ?_
      refine XQ.pv (i := 5) (l' := #[true, true, true, true, true, true, false, false, false, false]) rfl (by kernel_rfl) rfl (V.shl rfl rfl (by omega) _ (shl_u16 (by omega))) rfl rfl ?_
      refine XQ.pv (i := 6) (l' := #[true, true, true, true, true, true, true, false, false, false]) rfl (by kernel_rfl) rfl (V.bits rfl rfl rfl (by first | exact pack_lt _ | exact two_lt (by omega) | (rw [IntKind.bits]; omega)) (by first | exact pack_lt _ | exact two_lt (by omega) | (rw [IntKind.bits]; omega)) rfl) rfl rfl ?_
      refine XQ.pv (i := 7) (l' := #[true, true, true, true, true, true, true, true, false, false]) rfl (by kernel_rfl) rfl (V.nilCheckP rfl) rfl rfl ?_
      refine XQ.pv (i := 8) (l' := #[true, true, true, true, true, true, true, true, true, false]) rfl (by kernel_rfl) rfl (V.fieldAddr rfl fo_27_0) rfl rfl ?_
      refine XQ.store (i := 9) (l' := #[true, true, true, true, true, true, true, true, true, true]) rfl (by kernel_rfl) rfl rfl rfl .here (encB_wait _ (pack_set _ (by omega))) rfl sz_24_1 (fun _ hw' => ⟨fun hs => (hs 9 (by simp) rfl).elim, trivial⟩) ?_
      refine XQ.done (by kernel_rfl) ?_
      refine XE.next ?_
      refine XC.keep [(5, _)] (Sub.cons rfl (Sub.nil _)) ?_
      refine XC.seq ?_
      refine XC.region ?_
      refine XO.v (V.move rfl) rfl ?_
      refine XO.v (V.assign rfl) rfl ?_
      refine XO.nil ?_
      refine XE.next ?_
      refine XC.keep [(4, _)] (Sub.cons rfl (Sub.nil _)) ?_
      refine XC.ret ?_
      refine XE.ret1 rfl rfl (post_of (.cons .here .nil) rfl ?_)
      first
      | (rw [BS.send_no (by omega)]; exact ⟨rfl, rfl⟩)
      | (rw [BS.send_ign (by omega) (by omega)]; exact ⟨rfl, rfl⟩)
      | (rw [BS.send_ok (by omega) (by omega)]; exact ⟨rfl, rfl⟩)
    · skip
      refine XC.skip ?_
      refine XE.next ?_
      refine XC.keep [(5, _)] (Sub.cons rfl (Sub.nil _)) ?_
      refine XC.seq ?_
      refine XC.region ?_
      refine XO.v (V.move rfl) rfl ?_
      refine XO.v (V.assign rfl) rfl ?_
      refine XO.nil ?_
      refine XE.next ?_
      refine XC.keep [(4, _)] (Sub.cons rfl (Sub.nil _)) ?_
      refine XC.ret ?_
      refine XE.ret1 rfl rfl (post_of (.cons .here .nil) rfl ?_)
      first
      | (rw [BS.send_no (by omega)]; exact ⟨rfl, rfl⟩)
      | (rw [BS.send_ign (by omega) (by omega)]; exact ⟨rfl, rfl⟩)
      | (rw [BS.send_ok (by omega) (by omega)]; exact ⟨rfl, rfl⟩)
  · skip
    refine XO.v (V.assign rfl) rfl ?_
    refine XO.nil ?_
    refine XE.next ?_
    refine XC.keep [(0, _), (1, _), (5, _)] (Sub.cons rfl (Sub.cons rfl (Sub.cons rfl (Sub.nil _)))) ?_
    refine XC.seq ?_
    refine XC.seq ?_
    refine XC.region ?_
    refine XO.v (V.move rfl) rfl ?_
    refine XO.v (V.ifaceNil rfl Tryd.underlying29 rfl) rfl ?_
    refine XO.v (V.move rfl) rfl ?_
    refine XO.guardSkip rfl rfl rfl rfl rfl ?_
    refine XO.guardSkip rfl rfl rfl rfl rfl ?_
    refine XO.guardSkip rfl rfl rfl rfl rfl ?_
    refine XO.guardSkip rfl rfl rfl rfl rfl ?_
    refine XO.v (V.pick rfl rfl rfl rfl) rfl ?_
    refine XO.nil ?_
    refine XE.next ?_
    refine XC.keep [(0, _), (1, _), (5, _), (15, _)] (Sub.cons rfl (Sub.cons rfl (Sub.cons rfl (Sub.cons rfl (Sub.nil _))))) ?_
    refine XC.condF rfl rfl ?_
    refine XC.skip ?_
    refine XE.next ?_
    refine XC.keep [(5, _)] (Sub.cons rfl (Sub.nil _)) ?_
    refine XC.seq ?_
    refine XC.region ?_
    refine XO.v (V.move rfl) rfl ?_
    refine XO.v (V.assign rfl) rfl ?_
    refine XO.nil ?_
    refine XE.next ?_
    refine XC.keep [(4, _)] (Sub.cons rfl (Sub.nil _)) ?_
    refine XC.ret ?_
    refine XE.ret1 rfl rfl (post_of (.cons .here .nil) rfl ?_)
    first
    | (rw [BS.send_no (by omega)]; exact ⟨rfl, rfl⟩)
    | (rw [BS.send_ign (by omega) (by omega)]; exact ⟨rfl, rfl⟩)
    | (rw [BS.send_ok (by omega) (by omega)]; exact ⟨rfl, rfl⟩)
set_option maxRecDepth 10000 in
set_option maxHeartbeats 400000 in
theorem s_Hold_true (b o : Nat) (s : BS) (n : Int) : Spec Tryd.prog 8 [ptr b o 0, .int .i64 n, .bool true]
    [.cells b o 11 (encB s)]
    (fun v H1 => v = errv 52 (s.hold n true).1 ∧ H1 = [.cells b o 11 (encB (s.hold n true).2)]) := by
  refine Spec.intro Tryd.func8 rfl rfl ?_
  intro W
  refine XC.seq ?_
  refine XC.region ?_
  refine XO.v (V.assign rfl) rfl ?_
  refine XO.nil ?_
  refine XE.next ?_
  refine XC.keep [(0, _), (1, _), (2, _)] (Sub.cons rfl (Sub.cons rfl (Sub.cons rfl (Sub.nil _)))) ?_
  refine XC.seq ?_
  refine XC.region ?_
  refine XO.v (V.move rfl) rfl ?_
  refine XO.call rfl (s_number _) .nil cl_17 rfl ?_
  rintro _ _ (⟨h1, rfl, rfl⟩ | ⟨h1, rfl, rfl⟩)
  · skip
    refine XO.v (V.assign rfl) rfl ?_
    refine XO.nil ?_
    refine XE.next ?_
    refine XC.keep [(0, _), (1, _), (2, _), (7, _)] (Sub.cons rfl (Sub.cons rfl (Sub.cons rfl (Sub.cons rfl (Sub.nil _))))) ?_
    refine XC.seq ?_
    refine XC.seq ?_
    refine XC.region ?_
    refine XO.v (V.move rfl) rfl ?_
    refine XO.v (V.nilNil rfl Tryd.underlying29 rfl) rfl ?_
    refine XO.nil ?_
    refine XE.next ?_
    refine XC.keep [(0, _), (1, _), (2, _), (7, _), (11, _)] (Sub.cons rfl (Sub.cons rfl (Sub.cons rfl (Sub.cons rfl (Sub.cons rfl (Sub.nil _)))))) ?_
    refine XC.condF rfl rfl ?_
    refine XC.skip ?_
    refine XE.next ?_
    refine XC.keep [(0, _), (1, _), (2, _)] (Sub.cons rfl (Sub.cons rfl (Sub.cons rfl (Sub.nil _)))) ?_
    refine XC.seq ?_
    refine XC.seq ?_
    refine XC.region ?_
    refine XO.v (V.move rfl) rfl ?_
    refine XO.v (V.cmp rfl rfl rfl) rfl ?_
    refine XO.nil ?_
    refine XE.next ?_
    refine XC.keep [(0, _), (1, _), (2, _), (14, _)] (Sub.cons rfl (Sub.cons rfl (Sub.cons rfl (Sub.cons rfl (Sub.nil _))))) ?_
    refine XC.condP rfl (fun h2 => ?_) (fun h2 => ?_)
    · skip
      refine XC.seq ?_
      refine XC.region ?_
      refine XO.v (V.makeIface rfl Tryd.underlying52 (by simp)) rfl ?_
      refine XO.v (V.assign rfl) rfl ?_
      refine XO.nil ?_
      refine XE.next ?_
      refine XC.keep [(6, _)] (Sub.cons rfl (Sub.nil _)) ?_
      refine XC.ret ?_
      refine XE.thenRet ?_
      refine XE.ret1 rfl rfl (post_of (.cons .here .nil) rfl ?_)
      first
      | (rw [BS.hold_no (by omega)]; exact ⟨rfl, rfl⟩)
      | (rw [BS.hold_one (by omega)]; exact ⟨rfl, rfl⟩)
      | (rw [BS.hold_ok (by omega) (by omega)]; refine ⟨rfl, ?_⟩; first | rfl | exact congrArg (fun f => [Ent.cells b o 11 (encB { s with held := f })]) (by funext j; simp only [fset]; split <;> rfl))
    · skip
      refine XC.skip ?_
      refine XE.next ?_
      refine XC.keep [(0, _), (1, _), (2, _)] (Sub.cons rfl (Sub.cons rfl (Sub.cons rfl (Sub.nil _)))) ?_
      refine XC.seq ?_
      refine XC.regionQ mixed (f := 10) (l := #[false, false, false, false, false, false, false, false, false, false]) rfl rfl XM.drawn' ?_
      refine XQ.pv (i := 0) (l' := #[true, false, false, false, false, false, false, false, false, false]) rfl (by kernel_rfl) rfl (V.move rfl) rfl rfl ?_
      refine XQ.pv (i := 1) (l' := #[true, true, false, false, false, false, false, false, false, false]) rfl (by kernel_rfl) rfl (V.nilCheckP rfl) rfl rfl ?_
      refine XQ.pv (i := 2) (l' := #[true, true, true, false, false, false, false, false, false, false]) rfl (by kernel_rfl) rfl (V.fieldAddr rfl fo_27_1) rfl rfl ?_
      refine XQ.load (i := 3) (l' := #[true, true, true, true, false, false, false, false, false, false]) (.cells _ _ _ _) [9] rfl (by kernel_rfl) rfl .here (V.load rfl inEnt (encB.ld_held _) sc_24) rfl (by kernel_rfl) rfl ?_
      refine XQ.pv (i := 4) (l' := #[true, true, true, true, true, false, false, false, false, false]) rfl (by kernel_rfl) rfl (V.move rfl) rfl rfl ?_
      refine XQ.pv (i := 5) (l' := #[true, true, true, true, true, true, false, false, false, false]) rfl (by kernel_rfl) rfl (V.shl rfl rfl (by omega) _ (shl_u16 (by omega))) rfl rfl ?_
      refine XQ.pv (i := 6) (l' := #[true, true, true, true, true, true, true, false, false, false]) rfl (by kernel_rfl) rfl (V.bits rfl rfl rfl (by first | exact pack_lt _ | exact two_lt (by omega) | (rw [IntKind.bits]; omega)) (by first | exact pack_lt _ | exact two_lt (by omega) | (rw [IntKind.bits]; omega)) rfl) rfl rfl ?_
      refine XQ.pv (i := 7) (l' := #[true, true, true, true, true, true, true, true, false, false]) rfl (by kernel_rfl) rfl (V.nilCheckP rfl) rfl rfl ?_
      refine XQ.pv (i := 8) (l' := #[true, true, true, true, true, true, true, true, true, false]) rfl (by kernel_rfl) rfl (V.fieldAddr rfl fo_27_1) rfl rfl ?_
      refine XQ.store (i := 9) (l' := #[true, true, true, true, true, true, true, true, true, true]) rfl (by kernel_rfl) rfl rfl rfl .here (encB_held _ (pack_clear _ (by omega))) rfl sz_24_1 (fun _ hw' => ⟨fun hs => (hs 9 (by simp) rfl).elim, trivial⟩) ?_
      refine XQ.done (by kernel_rfl) ?_
      refine XE.next ?_
      refine XC.keep [(0, _), (1, _), (2, _)] (Sub.cons rfl (Sub.cons rfl (Sub.cons rfl (Sub.nil _)))) ?_
      refine XC.seq ?_
      refine XC.seq ?_
      refine XC.region ?_
      refine XO.v (V.move rfl) rfl ?_
      refine XO.nil ?_
      refine XE.next ?_
      refine XC.keep [(0, _), (1, _), (25, _)] (Sub.cons rfl (Sub.cons rfl (Sub.cons rfl (Sub.nil _)))) ?_
      refine XC.condT rfl rfl ?_
      refine XC.regionQ mixed (f := 10) (l := #[false, false, false, false, false, false, false, false, false, false]) rfl rfl XM.drawn' ?_
      refine XQ.pv (i := 0) (l' := #[true, false, false, false, false, false, false, false, false, false]) rfl (by kernel_rfl) rfl (V.move rfl) rfl rfl ?_
      refine XQ.pv (i := 1) (l' := #[true, true, false, false, false, false, false, false, false, false]) rfl (by kernel_rfl) rfl (V.nilCheckP rfl) rfl rfl ?_
      refine XQ.pv (i := 2) (l' := #[true, true, true, false, false, false, false, false, false, false]) rfl (by kernel_rfl) rfl (V.fieldAddr rfl fo_27_1) rfl rfl ?_
      refine XQ.load (i := 3) (l' := #[true, true, true, true, false, false, false, false, false, false]) (.cells _ _ _ _) [9] rfl (by kernel_rfl) rfl .here (V.load rfl inEnt (encB.ld_held _) sc_24) rfl (by kernel_rfl) rfl ?_
      refine XQ.pv (i := 4) (l' := #[true, true, true, true, true, false, false, false, false, false]) rfl (by kernel_rfl) rfl (V.move rfl) rfl rfl ?_
      refine XQ.pv (i := 5) (l' := #[true, true, true, true, true, true, false, false, false, false]) rfl (by kernel_rfl) rfl (V.shl rfl rfl (by omega) _ (shl_u16 (by omega))) rfl rfl ?_
      refine XQ.pv (i := 6) (l' := #[true, true, true, true, true, true, true, false, false, false]) rfl (by kernel_rfl) rfl (V.bits rfl rfl rfl (by first | exact pack_lt _ | exact two_lt (by omega) | (rw [IntKind.bits]; omega)) (by first | exact pack_lt _ | exact two_lt (by omega) | (rw [IntKind.bits]; omega)) rfl) rfl rfl ?_
      refine XQ.pv (i := 7) (l' := #[true, true, true, true, true, true, true, true, false, false]) rfl (by kernel_rfl) rfl (V.nilCheckP rfl) rfl rfl ?_
      refine XQ.pv (i := 8) (l' := #[true, true, true, true, true, true, true, true, true, false]) rfl (by kernel_rfl) rfl (V.fieldAddr rfl fo_27_1) rfl rfl ?_
      refine XQ.store (i := 9) (l' := #[true, true, true, true, true, true, true, true, true, true]) rfl (by kernel_rfl) rfl rfl rfl .here (encB_held _ (pack_set _ (by omega))) rfl sz_24_1 (fun _ hw' => ⟨fun hs => (hs 9 (by simp) rfl).elim, trivial⟩) ?_
      refine XQ.done (by kernel_rfl) ?_
      refine XE.next ?_
      refine XC.keep [] (Sub.nil _) ?_
      refine XC.seq ?_
      refine XC.region ?_
      refine XO.v (V.assign rfl) rfl ?_
      refine XO.nil ?_
      refine XE.next ?_
      refine XC.keep [(6, _)] (Sub.cons rfl (Sub.nil _)) ?_
      refine XC.ret ?_
      refine XE.ret1 rfl rfl (post_of (.cons .here .nil) rfl ?_)
      first
      | (rw [BS.hold_no (by omega)]; exact ⟨rfl, rfl⟩)
      | (rw [BS.hold_one (by omega)]; exact ⟨rfl, rfl⟩)
      | (rw [BS.hold_ok (by omega) (by omega)]; refine ⟨rfl, ?_⟩; first | rfl | exact congrArg (fun f => [Ent.cells b o 11 (encB { s with held := f })]) (by funext j; simp only [fset]; split <;> rfl))
  · skip
    refine XO.v (V.assign rfl) rfl ?_
    refine XO.nil ?_
    refine XE.next ?_
    refine XC.keep [(0, _), (1, _), (2, _), (7, _)] (Sub.cons rfl (Sub.cons rfl (Sub.cons rfl (Sub.cons rfl (Sub.nil _))))) ?_
    refine XC.seq ?_
    refine XC.seq ?_
    refine XC.region ?_
    refine XO.v (V.move rfl) rfl ?_
    refine XO.v (V.ifaceNil rfl Tryd.underlying29 rfl) rfl ?_
    refine XO.nil ?_
    refine XE.next ?_
    refine XC.keep [(0, _), (1, _), (2, _), (7, _), (11, _)] (Sub.cons rfl (Sub.cons rfl (Sub.cons rfl (Sub.cons rfl (Sub.cons rfl (Sub.nil _)))))) ?_
    refine XC.condT rfl rfl ?_
    refine XC.seq ?_
    refine XC.region ?_
    refine XO.v (V.move rfl) rfl ?_
    refine XO.v (V.assign rfl) rfl ?_
    refine XO.nil ?_
    refine XE.next ?_
    refine XC.keep [(6, _)] (Sub.cons rfl (Sub.nil _)) ?_
    refine XC.ret ?_
    refine XE.thenRet ?_
    refine XE.ret1 rfl rfl (post_of (.cons .here .nil) rfl ?_)
    first
    | (rw [BS.hold_no (by omega)]; exact ⟨rfl, rfl⟩)
    | (rw [BS.hold_one (by omega)]; exact ⟨rfl, rfl⟩)
    | (rw [BS.hold_ok (by omega) (by omega)]; refine ⟨rfl, ?_⟩; first | rfl | exact congrArg (fun f => [Ent.cells b o 11 (encB { s with held := f })]) (by funext j; simp only [fset]; split <;> rfl))
set_option maxRecDepth 10000 in
set_option maxHeartbeats 400000 in
theorem s_Hold_false (b o : Nat) (s : BS) (n : Int) : Spec Tryd.prog 8 [ptr b o 0, .int .i64 n, .bool false]
    [.cells b o 11 (encB s)]
    (fun v H1 => v = errv 52 (s.hold n false).1 ∧ H1 = [.cells b o 11 (encB (s.hold n false).2)]) := by
  refine Spec.intro Tryd.func8 rfl rfl ?_
  intro W
  refine XC.seq ?_
  refine XC.region ?_
  refine XO.v (V.assign rfl) rfl ?_
  refine XO.nil ?_
  refine XE.next ?_
  refine XC.keep [(0, _), (1, _), (2, _)] (Sub.cons rfl (Sub.cons rfl (Sub.cons rfl (Sub.nil _)))) ?_
  refine XC.seq ?_
  refine XC.region ?_
  refine XO.v (V.move rfl) rfl ?_
  refine XO.call rfl (s_number _) .nil cl_17 rfl ?_
  rintro _ _ (⟨h1, rfl, rfl⟩ | ⟨h1, rfl, rfl⟩)
  · skip
    refine XO.v (V.assign rfl) rfl ?_
    refine XO.nil ?_
    refine XE.next ?_
    refine XC.keep [(0, _), (1, _), (2, _), (7, _)] (Sub.cons rfl (Sub.cons rfl (Sub.cons rfl (Sub.cons rfl (Sub.nil _))))) ?_
    refine XC.seq ?_
    refine XC.seq ?_
    refine XC.region ?_
    refine XO.v (V.move rfl) rfl ?_
    refine XO.v (V.nilNil rfl Tryd.underlying29 rfl) rfl ?_
    refine XO.nil ?_
    refine XE.next ?_
    refine XC.keep [(0, _), (1, _), (2, _), (7, _), (11, _)] (Sub.cons rfl (Sub.cons rfl (Sub.cons rfl (Sub.cons rfl (Sub.cons rfl (Sub.nil _)))))) ?_
    refine XC.condF rfl rfl ?_
    refine XC.skip ?_
    refine XE.next ?_
    refine XC.keep [(0, _), (1, _), (2, _)] (Sub.cons rfl (Sub.cons rfl (Sub.cons rfl (Sub.nil _)))) ?_
    refine XC.seq ?_
    refine XC.seq ?_
    refine XC.region ?_
    refine XO.v (V.move rfl) rfl ?_
    refine XO.v (V.cmp rfl rfl rfl) rfl ?_
    refine XO.nil ?_
    refine XE.next ?_
    refine XC.keep [(0, _), (1, _), (2, _), (14, _)] (Sub.cons rfl (Sub.cons rfl (Sub.cons rfl (Sub.cons rfl (Sub.nil _))))) ?_
    refine XC.condP rfl (fun h2 => ?_) (fun h2 => ?_)
    · skip
      refine XC.seq ?_
      refine XC.region ?_
      refine XO.v (V.makeIface rfl Tryd.underlying52 (by simp)) rfl ?_
      refine XO.v (V.assign rfl) rfl ?_
      refine XO.nil ?_
      refine XE.next ?_
      refine XC.keep [(6, _)] (Sub.cons rfl (Sub.nil _)) ?_
      refine XC.ret ?_
      refine XE.thenRet ?_
      refine XE.ret1 rfl rfl (post_of (.cons .here .nil) rfl ?_)
      first
      | (rw [BS.hold_no (by omega)]; exact ⟨rfl, rfl⟩)
      | (rw [BS.hold_one (by omega)]; exact ⟨rfl, rfl⟩)
      | (rw [BS.hold_ok (by omega) (by omega)]; refine ⟨rfl, ?_⟩; first | rfl | exact congrArg (fun f => [Ent.cells b o 11 (encB { s with held := f })]) (by funext j; simp only [fset]; split <;> rfl))
    · skip
      refine XC.skip ?_
      refine XE.next ?_
      refine XC.keep [(0, _), (1, _), (2, _)] (Sub.cons rfl (Sub.cons rfl (Sub.cons rfl (Sub.nil _)))) ?_
      refine XC.seq ?_
      refine XC.regionQ mixed (f := 10) (l := #[false, false, false, false, false, false, false, false, false, false]) rfl rfl XM.drawn' ?_
      refine XQ.pv (i := 0) (l' := #[true, false, false, false, false, false, false, false, false, false]) rfl (by kernel_rfl) rfl (V.move rfl) rfl rfl ?_
      refine XQ.pv (i := 1) (l' := #[true, true, false, false, false, false, false, false, false, false]) rfl (by kernel_rfl) rfl (V.nilCheckP rfl) rfl rfl ?_
      refine XQ.pv (i := 2) (l' := #[true, true, true, false, false, false, false, false, false, false]) rfl (by kernel_rfl) rfl (V.fieldAddr rfl fo_27_1) rfl rfl ?_
      refine XQ.load (i := 3) (l' := #[true, true, true, true, false, false, false, false, false, false]) (.cells _ _ _ _) [9] rfl (by kernel_rfl) rfl .here (V.load rfl inEnt (encB.ld_held _) sc_24) rfl (by kernel_rfl) rfl ?_
      refine XQ.pv (i := 4) (l' := #[true, true, true, true, true, false, false, false, false, false]) rfl (by kernel_rfl) rfl (V.move rfl) rfl rfl ?_
      refine XQ.pv (i := 5) (l' := #[true, true, true, true, true, true, false, false, false, false]) rfl (by kernel_rfl) rfl (V.shl rfl rfl (by omega) _ (shl_u16 (by omega))) rfl rfl ?_
      refine XQ.pv (i := 6) (l' := #[true, true, true, true, true, true, true, false, false, false]) rfl (by kernel_rfl) rfl (V.bits rfl rfl rfl (by first | exact pack_lt _ | exact two_lt (by omega) | (rw [IntKind.bits]; omega)) (by first | exact pack_lt _ | exact two_lt (by omega) | (rw [IntKind.bits]; omega)) rfl) rfl rfl ?_
      refine XQ.pv (i := 7) (l' := #[true, true, true, true, true, true, true, true, false, false]) rfl (by kernel_rfl) rfl (V.nilCheckP rfl) rfl rfl ?_
      refine XQ.pv (i := 8) (l' := #[true, true, true, true, true, true, true, true, true, false]) rfl (by kernel_rfl) rfl (V.fieldAddr rfl fo_27_1) rfl rfl ?_
      refine XQ.store (i := 9) (l' := #[true, true, true, true, true, true, true, true, true, true]) rfl (by kernel_rfl) rfl rfl rfl .here (encB_held _ (pack_clear _ (by omega))) rfl sz_24_1 (fun _ hw' => ⟨fun hs => (hs 9 (by simp) rfl).elim, trivial⟩) ?_
      refine XQ.done (by kernel_rfl) ?_
      refine XE.next ?_
      refine XC.keep [(0, _), (1, _), (2, _)] (Sub.cons rfl (Sub.cons rfl (Sub.cons rfl (Sub.nil _)))) ?_
      refine XC.seq ?_
      refine XC.seq ?_
      refine XC.region ?_
      refine XO.v (V.move rfl) rfl ?_
      refine XO.nil ?_
      refine XE.next ?_
      refine XC.keep [(0, _), (1, _), (25, _)] (Sub.cons rfl (Sub.cons rfl (Sub.cons rfl (Sub.nil _)))) ?_
      refine XC.condF rfl rfl ?_
      refine XC.skip ?_
      refine XE.next ?_
      refine XC.keep [] (Sub.nil _) ?_
      refine XC.seq ?_
      refine XC.region ?_
      refine XO.v (V.assign rfl) rfl ?_
      refine XO.nil ?_
      refine XE.next ?_
      refine XC.keep [(6, _)] (Sub.cons rfl (Sub.nil _)) ?_
      refine XC.ret ?_
      refine XE.ret1 rfl rfl (post_of (.cons .here .nil) rfl ?_)
      first
      | (rw [BS.hold_no (by omega)]; exact ⟨rfl, rfl⟩)
      | (rw [BS.hold_one (by omega)]; exact ⟨rfl, rfl⟩)
      | (rw [BS.hold_ok (by omega) (by omega)]; refine ⟨rfl, ?_⟩; first | rfl | exact congrArg (fun f => [Ent.cells b o 11 (encB { s with held := f })]) (by funext j; simp only [fset]; split <;> rfl))
  · skip
    refine XO.v (V.assign rfl) rfl ?_
    refine XO.nil ?_
    refine XE.next ?_
    refine XC.keep [(0, _), (1, _), (2, _), (7, _)] (Sub.cons rfl (Sub.cons rfl (Sub.cons rfl (Sub.cons rfl (Sub.nil _))))) ?_
    refine XC.seq ?_
    refine XC.seq ?_
    refine XC.region ?_
    refine XO.v (V.move rfl) rfl ?_
    refine XO.v (V.ifaceNil rfl Tryd.underlying29 rfl) rfl ?_
    refine XO.nil ?_
    refine XE.next ?_
    refine XC.keep [(0, _), (1, _), (2, _), (7, _), (11, _)] (Sub.cons rfl (Sub.cons rfl (Sub.cons rfl (Sub.cons rfl (Sub.cons rfl (Sub.nil _)))))) ?_
    refine XC.condT rfl rfl ?_
    refine XC.seq ?_
    refine XC.region ?_
    refine XO.v (V.move rfl) rfl ?_
    refine XO.v (V.assign rfl) rfl ?_
    refine XO.nil ?_
    refine XE.next ?_
    refine XC.keep [(6, _)] (Sub.cons rfl (Sub.nil _)) ?_
    refine XC.ret ?_
    refine XE.thenRet ?_
    refine XE.ret1 rfl rfl (post_of (.cons .here .nil) rfl ?_)
    first
    | (rw [BS.hold_no (by omega)]; exact ⟨rfl, rfl⟩)
    | (rw [BS.hold_one (by omega)]; exact ⟨rfl, rfl⟩)
    | (rw [BS.hold_ok (by omega) (by omega)]; refine ⟨rfl, ?_⟩; first | rfl | exact congrArg (fun f => [Ent.cells b o 11 (encB { s with held := f })]) (by funext j; simp only [fset]; split <;> rfl))
theorem s_Hold (b o : Nat) (s : BS) (n : Int) (x : Bool) : Spec Tryd.prog 8 [ptr b o 0, .int .i64 n, .bool x] [.cells b o 11 (encB s)] (fun v H1 => v = errv 52 (s.hold n x).1 ∧ H1 = [.cells b o 11 (encB (s.hold n x).2)]) := by
  cases x
  · exact s_Hold_false b o s n
  · exact s_Hold_true b o s n
set_option maxRecDepth 10000 in
set_option maxHeartbeats 400000 in
theorem s_How (b o : Nat) (s : BS) (n h : Int) : Spec Tryd.prog 9 [ptr b o 0, .int .i64 n, .int .i64 h]
    [.cells b o 11 (encB s)]
    (fun v H1 => v = errv 52 (s.set n h).1 ∧ H1 = [.cells b o 11 (encB (s.set n h).2)]) := by
  refine Spec.intro Tryd.func9 rfl rfl ?_
  intro W
  refine XC.seq ?_
  refine XC.region ?_
  refine XO.v (V.assign rfl) rfl ?_
  refine XO.nil ?_
  refine XE.next ?_
  refine XC.keep [(0, _), (1, _), (2, _)] (Sub.cons rfl (Sub.cons rfl (Sub.cons rfl (Sub.nil _)))) ?_
  refine XC.seq ?_
  refine XC.region ?_
  refine XO.v (V.move rfl) rfl ?_
  refine XO.call rfl (s_number _) .nil cl_17 rfl ?_
  rintro _ _ (⟨h1, rfl, rfl⟩ | ⟨h1, rfl, rfl⟩)
  · skip
    refine XO.v (V.assign rfl) rfl ?_
    refine XO.nil ?_
    refine XE.next ?_
    refine XC.keep [(0, _), (1, _), (2, _), (7, _)] (Sub.cons rfl (Sub.cons rfl (Sub.cons rfl (Sub.cons rfl (Sub.nil _))))) ?_
    refine XC.seq ?_
    refine XC.seq ?_
    refine XC.region ?_
    refine XO.v (V.move rfl) rfl ?_
    refine XO.v (V.nilNil rfl Tryd.underlying29 rfl) rfl ?_
    refine XO.nil ?_
    refine XE.next ?_
    refine XC.keep [(0, _), (1, _), (2, _), (7, _), (11, _)] (Sub.cons rfl (Sub.cons rfl (Sub.cons rfl (Sub.cons rfl (Sub.cons rfl (Sub.nil _)))))) ?_
    refine XC.condF rfl rfl ?_
    refine XC.skip ?_
    refine XE.next ?_
    refine XC.keep [(0, _), (1, _), (2, _)] (Sub.cons rfl (Sub.cons rfl (Sub.cons rfl (Sub.nil _)))) ?_
    refine XC.seq ?_
    refine XC.seq ?_
    refine XC.region ?_
    refine XO.v (V.move rfl) rfl ?_
    refine XO.v (V.cmp rfl rfl rfl) rfl ?_
    refine XO.v (V.move rfl) rfl ?_
    refine XO.splitP (d := 15) rfl (fun h2 => ?_) (fun h2 => ?_)
    · skip
      refine XO.guardSkip rfl rfl rfl rfl rfl ?_
      refine XO.guardSkip rfl rfl rfl rfl rfl ?_
      refine XO.v (V.pick rfl rfl rfl rfl) rfl ?_
      refine XO.nil ?_
      refine XE.next ?_
      refine XC.keep [(0, _), (1, _), (2, _), (18, _)] (Sub.cons rfl (Sub.cons rfl (Sub.cons rfl (Sub.cons rfl (Sub.nil _))))) ?_
      refine XC.condT rfl rfl ?_
      refine XC.seq ?_
      refine XC.region ?_
      refine XO.v (V.makeIface rfl Tryd.underlying52 (by simp)) rfl ?_
      refine XO.v (V.assign rfl) rfl ?_
      refine XO.nil ?_
      refine XE.next ?_
      refine XC.keep [(6, _)] (Sub.cons rfl (Sub.nil _)) ?_
      refine XC.ret ?_
      refine XE.thenRet ?_
      refine XE.ret1 rfl rfl (post_of (.cons .here .nil) rfl ?_)
      first
      | (rw [BS.set_no (by omega)]; exact ⟨rfl, rfl⟩)
      | (rw [BS.set_one (by omega) (by omega)]; exact ⟨rfl, rfl⟩)
      | (rw [BS.set_ign (by omega) (by omega) (by omega) (by assumption)]; exact ⟨rfl, rfl⟩)
      | (rw [BS.set_ok (by omega) (by omega) (by omega) (by assumption)]; exact ⟨rfl, rfl⟩)
    · skip
      refine XO.guardRun rfl rfl rfl ?_
      refine XO.v (V.move rfl) rfl ?_
      refine XO.guardRun rfl rfl rfl ?_
      refine XO.v (V.cmp rfl rfl rfl) rfl ?_
      refine XO.v (V.pick rfl rfl rfl rfl) rfl ?_
      refine XO.nil ?_
      refine XE.next ?_
      refine XC.keep [(0, _), (1, _), (2, _), (18, _)] (Sub.cons rfl (Sub.cons rfl (Sub.cons rfl (Sub.cons rfl (Sub.nil _))))) ?_
      refine XC.condP rfl (fun h3 => ?_) (fun h3 => ?_)
      · skip
        refine XC.seq ?_
        refine XC.region ?_
        refine XO.v (V.makeIface rfl Tryd.underlying52 (by simp)) rfl ?_
        refine XO.v (V.assign rfl) rfl ?_
        refine XO.nil ?_
        refine XE.next ?_
        refine XC.keep [(6, _)] (Sub.cons rfl (Sub.nil _)) ?_
        refine XC.ret ?_
        refine XE.thenRet ?_
        refine XE.ret1 rfl rfl (post_of (.cons .here .nil) rfl ?_)
        first
        | (rw [BS.set_no (by omega)]; exact ⟨rfl, rfl⟩)
        | (rw [BS.set_one (by omega) (by omega)]; exact ⟨rfl, rfl⟩)
        | (rw [BS.set_ign (by omega) (by omega) (by omega) (by assumption)]; exact ⟨rfl, rfl⟩)
        | (rw [BS.set_ok (by omega) (by omega) (by omega) (by assumption)]; exact ⟨rfl, rfl⟩)
      · skip
        refine XC.skip ?_
        refine XE.next ?_
        refine XC.keep [(0, _), (1, _), (2, _)] (Sub.cons rfl (Sub.cons rfl (Sub.cons rfl (Sub.nil _)))) ?_
        refine XC.seq ?_
        refine XC.seq ?_
        refine XC.region ?_
        refine XO.v (V.move rfl) rfl ?_
        refine XO.v (V.cmp rfl rfl rfl) rfl ?_
        refine XO.nil ?_
        refine XE.next ?_
        refine XC.keep [(0, _), (1, _), (2, _), (21, _)] (Sub.cons rfl (Sub.cons rfl (Sub.cons rfl (Sub.cons rfl (Sub.nil _))))) ?_
        refine XC.condP rfl (fun h4 => ?_) (fun h4 => ?_)
        · skip
          refine XC.seq ?_
          refine XC.region ?_
          refine XO.v (V.makeIface rfl Tryd.underlying52 (by simp)) rfl ?_
          refine XO.v (V.assign rfl) rfl ?_
          refine XO.nil ?_
          refine XE.next ?_
          refine XC.keep [(6, _)] (Sub.cons rfl (Sub.nil _)) ?_
          refine XC.ret ?_
          refine XE.thenRet ?_
          refine XE.ret1 rfl rfl (post_of (.cons .here .nil) rfl ?_)
          first
          | (rw [BS.set_no (by omega)]; exact ⟨rfl, rfl⟩)
          | (rw [BS.set_one (by omega) (by omega)]; exact ⟨rfl, rfl⟩)
          | (rw [BS.set_ign (by omega) (by omega) (by omega) (by assumption)]; exact ⟨rfl, rfl⟩)
          | (rw [BS.set_ok (by omega) (by omega) (by omega) (by assumption)]; exact ⟨rfl, rfl⟩)
        · skip
          refine XC.skip ?_
          refine XE.next ?_
          refine XC.keep [(0, _), (1, _), (2, _)] (Sub.cons rfl (Sub.cons rfl (Sub.cons rfl (Sub.nil _)))) ?_
          refine XC.seq ?_
          refine XC.region ?_
          refine XO.v (V.move rfl) rfl ?_
          refine XO.v (V.move rfl) rfl ?_
          refine XO.v (V.move rfl) rfl ?_
          refine XO.v (V.nilCheckP rfl) rfl ?_
          refine XO.v (V.fieldAddr rfl fo_27_2) rfl ?_
          refine XO.v (V.indexArr rfl rfl ar_25 (by omega)) rfl ?_
          refine XO.store rfl rfl .here (encB.st_how_I _ _ (by omega) _) rfl sz_3_1 ?_
          refine XO.nil ?_
          refine XE.next ?_
          refine XC.keep [(0, _), (1, _)] (Sub.cons rfl (Sub.cons rfl (Sub.nil _))) ?_
          refine XC.seq ?_
          refine XC.seq ?_
          refine XC.region ?_
          refine XO.v (V.move rfl) rfl ?_
          refine XO.v (V.move rfl) rfl ?_
          refine XO.call rfl (s_does _ _ _ _ (by omega)) (.cons .here .nil) cl_18 rfl ?_
          rintro _ _ ⟨rfl, rfl⟩
          refine XO.v (V.cmp rfl rfl rfl) rfl ?_
          refine XO.nil ?_
          refine XE.next ?_
          refine XC.keep [(0, _), (1, _), (32, _)] (Sub.cons rfl (Sub.cons rfl (Sub.cons rfl (Sub.nil _)))) ?_
          refine XC.condP rfl (fun h5 => ?_) (fun h5 => ?_)
          · skip
            refine XC.regionQ mixed (f := 10) (l := #[false, false, false, false, false, false, false, false, false, false]) rfl rfl XM.drawn' ?_
            refine XQ.pv (i := 0) (l' := #[true, false, false, false, false, false, false, false, false, false]) rfl (by kernel_rfl) rfl (V.move rfl) rfl rfl ?_
            refine XQ.pv (i := 1) (l' := #[true, true, false, false, false, false, false, false, false, false]) rfl (by kernel_rfl) rfl (V.nilCheckP rfl) rfl rfl ?_
            refine XQ.pv (i := 2) (l' := #[true, true, true, false, false, false, false, false, false, false]) rfl (by kernel_rfl) rfl (V.fieldAddr rfl fo_27_0) rfl rfl ?_
            refine XQ.load (i := 3) (l' := #[true, true, true, true, false, false, false, false, false, false]) (.cells _ _ _ _) [9] rfl (by kernel_rfl) rfl .here (V.load rfl inEnt (encB.ld_wait _) sc_24) rfl (by kernel_rfl) rfl ?_
            refine XQ.pv (i := 4) (l' := #[true, true, true, true, true, false, false, false, false, false]) rfl (by kernel_rfl) rfl (V.move rfl) rfl rfl ?_
            refine XQ.pv (i := 5) (l' := #[true, true, true, true, true, true, false, false, false, false]) rfl (by kernel_rfl) rfl (V.shl rfl rfl (by omega) _ (shl_u16 (by omega))) rfl rfl ?_
            refine XQ.pv (i := 6) (l' := #[true, true, true, true, true, true, true, false, false, false]) rfl (by kernel_rfl) rfl (V.bits rfl rfl rfl (by first | exact pack_lt _ | exact two_lt (by omega) | (rw [IntKind.bits]; omega)) (by first | exact pack_lt _ | exact two_lt (by omega) | (rw [IntKind.bits]; omega)) rfl) rfl rfl ?_
            refine XQ.pv (i := 7) (l' := #[true, true, true, true, true, true, true, true, false, false]) rfl (by kernel_rfl) rfl (V.nilCheckP rfl) rfl rfl ?_
            refine XQ.pv (i := 8) (l' := #[true, true, true, true, true, true, true, true, true, false]) rfl (by kernel_rfl) rfl (V.fieldAddr rfl fo_27_0) rfl rfl ?_
            refine XQ.store (i := 9) (l' := #[true, true, true, true, true, true, true, true, true, true]) rfl (by kernel_rfl) rfl rfl rfl .here (encB_wait _ (pack_clear _ (by omega))) rfl sz_24_1 (fun _ hw' => ⟨fun hs => (hs 9 (by simp) rfl).elim, trivial⟩) ?_
            refine XQ.done (by kernel_rfl) ?_
            refine XE.next ?_
            refine XC.keep [] (Sub.nil _) ?_
            refine XC.seq ?_
            refine XC.region ?_
            refine XO.v (V.assign rfl) rfl ?_
            refine XO.nil ?_
            refine XE.next ?_
            refine XC.keep [(6, _)] (Sub.cons rfl (Sub.nil _)) ?_
            refine XC.ret ?_
            refine XE.ret1 rfl rfl (post_of (.cons .here .nil) rfl ?_)
            first
            | (rw [BS.set_no (by omega)]; exact ⟨rfl, rfl⟩)
            | (rw [BS.set_one (by omega) (by omega)]; exact ⟨rfl, rfl⟩)
            | (rw [BS.set_ign (by omega) (by omega) (by omega) (by assumption)]; exact ⟨rfl, rfl⟩)
            | (rw [BS.set_ok (by omega) (by omega) (by omega) (by assumption)]; exact ⟨rfl, rfl⟩)
          · skip
            refine XC.skip ?_
            refine XE.next ?_
            refine XC.keep [] (Sub.nil _) ?_
            refine XC.seq ?_
            refine XC.region ?_
            refine XO.v (V.assign rfl) rfl ?_
            refine XO.nil ?_
            refine XE.next ?_
            refine XC.keep [(6, _)] (Sub.cons rfl (Sub.nil _)) ?_
            refine XC.ret ?_
            refine XE.ret1 rfl rfl (post_of (.cons .here .nil) rfl ?_)
            first
            | (rw [BS.set_no (by omega)]; exact ⟨rfl, rfl⟩)
            | (rw [BS.set_one (by omega) (by omega)]; exact ⟨rfl, rfl⟩)
            | (rw [BS.set_ign (by omega) (by omega) (by omega) (by assumption)]; exact ⟨rfl, rfl⟩)
            | (rw [BS.set_ok (by omega) (by omega) (by omega) (by assumption)]; exact ⟨rfl, rfl⟩)
  · skip
    refine XO.v (V.assign rfl) rfl ?_
    refine XO.nil ?_
    refine XE.next ?_
    refine XC.keep [(0, _), (1, _), (2, _), (7, _)] (Sub.cons rfl (Sub.cons rfl (Sub.cons rfl (Sub.cons rfl (Sub.nil _))))) ?_
    refine XC.seq ?_
    refine XC.seq ?_
    refine XC.region ?_
    refine XO.v (V.move rfl) rfl ?_
    refine XO.v (V.ifaceNil rfl Tryd.underlying29 rfl) rfl ?_
    refine XO.nil ?_
    refine XE.next ?_
    refine XC.keep [(0, _), (1, _), (2, _), (7, _), (11, _)] (Sub.cons rfl (Sub.cons rfl (Sub.cons rfl (Sub.cons rfl (Sub.cons rfl (Sub.nil _)))))) ?_
    refine XC.condT rfl rfl ?_
    refine XC.seq ?_
    refine XC.region ?_
    refine XO.v (V.move rfl) rfl ?_
    refine XO.v (V.assign rfl) rfl ?_
    refine XO.nil ?_
    refine XE.next ?_
    refine XC.keep [(6, _)] (Sub.cons rfl (Sub.nil _)) ?_
    refine XC.ret ?_
    refine XE.thenRet ?_
    refine XE.ret1 rfl rfl (post_of (.cons .here .nil) rfl ?_)
    first
    | (rw [BS.set_no (by omega)]; exact ⟨rfl, rfl⟩)
    | (rw [BS.set_one (by omega) (by omega)]; exact ⟨rfl, rfl⟩)
    | (rw [BS.set_ign (by omega) (by omega) (by omega) (by assumption)]; exact ⟨rfl, rfl⟩)
    | (rw [BS.set_ok (by omega) (by omega) (by omega) (by assumption)]; exact ⟨rfl, rfl⟩)
set_option maxRecDepth 10000 in
set_option maxHeartbeats 400000 in
theorem s_tz (x t : Nat) (hx : x < 65536) (ht : x.testBit t = true) (hl : ∀ j, j < t → x.testBit j = false) (ht16 : t < 16) : Spec Tryd.prog 22 [.int .u16 (x : Int)]
    [.ro 1 0 32 tab32]
    (fun v H1 => v = .int .i64 (t : Int) ∧ H1 = []) := by
  have hx0 : 0 < x := by
    rcases Nat.eq_zero_or_pos x with q | q
    · rw [q] at ht; simp at ht
    · exact q
  obtain ⟨z1, z2, z3, z4, z5⟩ := tz_ok ht16
  refine Spec.intro Tryd.func22 rfl rfl ?_
  intro W
  refine XC.seq ?_
  refine XC.region ?_
  refine XO.v (V.assign rfl) rfl ?_
  refine XO.nil ?_
  refine XE.next ?_
  refine XC.keep [(0, _)] (Sub.cons rfl (Sub.nil _)) ?_
  refine XC.seq ?_
  refine XC.seq ?_
  refine XC.region ?_
  refine XO.v (V.move rfl) rfl ?_
  refine XO.v (V.cmp rfl rfl rfl) rfl ?_
  refine XO.nil ?_
  refine XE.next ?_
  refine XC.keep [(0, _), (4, _)] (Sub.cons rfl (Sub.cons rfl (Sub.nil _))) ?_
  refine XC.condFP rfl (by simp; omega) ?_
  refine XC.skip ?_
  refine XE.next ?_
  refine XC.keep [(0, _)] (Sub.cons rfl (Sub.nil _)) ?_
  refine XC.seq ?_
  refine XC.region ?_
  refine XO.v (V.move rfl) rfl ?_
  refine XO.v (V.move rfl) rfl ?_
  refine XO.v (V.neg rfl _ (neg_u16 ⟨hx0, hx⟩)) rfl ?_
  refine XO.v (V.bits (r := 2 ^ t) rfl rfl rfl hx (Nat.sub_lt (by decide) hx0) (congrArg some (low_bit (w := 16) ht hl hx ht16))) rfl ?_
  refine XO.v (V.convInt rfl Tryd.underlying24 Tryd.underlying62 _ z1) rfl ?_
  refine XO.v (V.mul rfl rfl _ z2) rfl ?_
  refine XO.v (V.shr rfl rfl (by omega) _ z3) rfl ?_
  refine XO.v (V.indexGl rfl rfl ar_61 (by omega)) rfl ?_
  refine XO.v (V.loadRo rfl (inXM .here) (tz_tab ht16) sc_5) rfl ?_
  refine XO.v (V.convInt rfl Tryd.underlying5 Tryd.underlying3 _ z5) rfl ?_
  refine XO.v (V.assign rfl) rfl ?_
  refine XO.nil ?_
  refine XE.next ?_
  refine XC.keep [(2, _)] (Sub.cons rfl (Sub.nil _)) ?_
  refine XC.ret ?_
  refine XE.ret1 rfl rfl (post_of .nil rfl ?_)
  exact ⟨rfl, rfl⟩
set_option maxRecDepth 10000 in
set_option maxHeartbeats 400000 in
theorem s_first (b o : Nat) (s : BS) (hz : s.wait 0 = false) (h : Int) : Spec Tryd.prog 19 [ptr b o 0, .int .i64 h]
    [.cells b o 11 (encB s), .ro 1 0 32 tab32]
    (fun v H1 => v = .tuple #[.int .i64 (s.first h), .bool (decide (s.first h ≠ 0))] ∧ H1 = [.cells b o 11 (encB s)]) := by
  refine Spec.intro Tryd.func19 rfl rfl ?_
  intro W
  refine XC.seq ?_
  refine XC.region ?_
  refine XO.v (V.assign rfl) rfl ?_
  refine XO.v (V.assign rfl) rfl ?_
  refine XO.nil ?_
  refine XE.next ?_
  refine XC.keep [(0, _), (1, _)] (Sub.cons rfl (Sub.cons rfl (Sub.nil _))) ?_
  refine XC.seq ?_
  refine XC.seq ?_
  refine XC.regionQ mixed (f := 10) (l := #[false, false, false, false, false, false, false, false, false, false]) rfl rfl XM.drawn' ?_
  refine XQ.pv (i := 0) (l' := #[true, false, false, false, false, false, false, false, false, false]) rfl (by kernel_rfl) rfl (V.move rfl) rfl rfl ?_
  refine XQ.pv (i := 1) (l' := #[true, true, false, false, false, false, false, false, false, false]) rfl (by kernel_rfl) rfl (V.nilCheckP rfl) rfl rfl ?_
  refine XQ.pv (i := 2) (l' := #[true, true, true, false, false, false, false, false, false, false]) rfl (by kernel_rfl) rfl (V.fieldAddr rfl fo_27_0) rfl rfl ?_
  refine XQ.load (i := 3) (l' := #[true, true, true, true, false, false, false, false, false, false]) (.cells _ _ _ _) [] rfl (by kernel_rfl) rfl .here (V.load rfl inEnt (encB.ld_wait _) sc_24) rfl (by kernel_rfl) rfl ?_
  refine XQ.pv (i := 4) (l' := #[true, true, true, true, true, false, false, false, false, false]) rfl (by kernel_rfl) rfl (V.move rfl) rfl rfl ?_
  refine XQ.pv (i := 5) (l' := #[true, true, true, true, true, true, false, false, false, false]) rfl (by kernel_rfl) rfl (V.nilCheckP rfl) rfl rfl ?_
  refine XQ.pv (i := 6) (l' := #[true, true, true, true, true, true, true, false, false, false]) rfl (by kernel_rfl) rfl (V.fieldAddr rfl fo_27_1) rfl rfl ?_
  refine XQ.load (i := 7) (l' := #[true, true, true, true, true, true, true, true, false, false]) (.cells _ _ _ _) [] rfl (by kernel_rfl) rfl .here (V.load rfl inEnt (encB.ld_held _) sc_24) rfl (by kernel_rfl) rfl ?_
  refine XQ.pv (i := 8) (l' := #[true, true, true, true, true, true, true, true, true, false]) rfl (by kernel_rfl) rfl (V.bits rfl rfl rfl (by first | exact pack_lt _ | exact two_lt (by omega) | (rw [IntKind.bits]; omega)) (by first | exact pack_lt _ | exact two_lt (by omega) | (rw [IntKind.bits]; omega)) rfl) rfl rfl ?_
  refine XQ.pv (i := 9) (l' := #[true, true, true, true, true, true, true, true, true, true]) rfl (by kernel_rfl) rfl (V.assign rfl) rfl rfl ?_
  refine XQ.done (by kernel_rfl) ?_
  refine XE.next ?_
  refine XC.keep [(0, _), (1, _), (6, _)] (Sub.cons rfl (Sub.cons rfl (Sub.cons rfl (Sub.nil _)))) ?_
  refine XC.block ?_
  refine XC.loop (σ := Nat × Nat) (fun x => 9 - x.2) (fun x => x.1 < 512 ∧ x.2 ≤ 9 ∧ (∀ j : Nat, x.1.testBit j = (decide (x.2 ≤ j) && (decide (j < 9) && s.wait j && !s.held j))) ∧ ∀ j : Int, 0 ≤ j → j < x.2 → ¬ (s.wait j = true ∧ s.held j = false ∧ s.how j = h)) (fun x => [(6, .int .u16 (x.1 : Int)), (0, ptr b o 0), (1, .int .i64 h)]) (fun x => XM W (foot [.cells b o 11 (encB s), .ro 1 0 32 tab32]) [.cells b o 11 (encB s), .ro 1 0 32 tab32]) ((nandn (pack s.wait) (pack s.held), 0)) ?_ (Sub.cons rfl (Sub.cons rfl (Sub.cons rfl (Sub.nil _)))) (fun _ hw => XM.pick (.cons .here (.cons .here .nil)) hw) ?_
  · skip
    refine ⟨Nat.lt_of_le_of_lt (nandn_le _ _) (pack_lt9 _), by omega, fun j => ?_, fun j h1 h2 => by simp at h2; omega⟩
    rw [testBit_nandn, testBit_pack, testBit_pack]
    by_cases q : j < 9 <;> simp [q]
  intro x hx
  obtain ⟨hx1, hx2, hx3, hx4⟩ := hx
  refine XC.seq ?_
  refine XC.seq ?_
  refine XC.region ?_
  refine XO.v (V.move rfl) rfl ?_
  refine XO.v (V.cmp rfl rfl rfl) rfl ?_
  refine XO.nil ?_
  refine XE.next ?_
  refine XC.keep [(0, _), (1, _), (6, _), (18, _)] (Sub.cons rfl (Sub.cons rfl (Sub.cons rfl (Sub.cons rfl (Sub.nil _))))) ?_
  refine XC.condP rfl (fun h1 => ?_) (fun h1 => ?_)
  · skip
    have hne : x.1 ≠ 0 := by omega
    obtain ⟨t, ht, hl⟩ := low_exists hne
    have hb := ht
    rw [hx3] at hb
    simp only [Bool.and_eq_true, decide_eq_true_eq, Bool.not_eq_true'] at hb
    obtain ⟨hb1, ⟨hb2, hb3⟩, hb4⟩ := hb
    refine XC.skip ?_
    refine XE.next ?_
    refine XC.keep [(0, _), (1, _), (6, _)] (Sub.cons rfl (Sub.cons rfl (Sub.cons rfl (Sub.nil _)))) ?_
    refine XC.seq ?_
    refine XC.block ?_
    refine XC.seq ?_
    refine XC.region ?_
    refine XO.v (V.move rfl) rfl ?_
    refine XO.callR 0 rfl (s_tz x.1 t (by omega) ht hl (by omega)) (.cons (.there .here) .nil) rfl cl_22 rfl ?_
    rintro _ _ ⟨rfl, rfl⟩
    refine XO.v (V.assign rfl) rfl ?_
    refine XO.nil ?_
    refine XE.next ?_
    refine XC.keep [(0, _), (1, _), (6, _), (7, _)] (Sub.cons rfl (Sub.cons rfl (Sub.cons rfl (Sub.cons rfl (Sub.nil _))))) ?_
    refine XC.seq ?_
    refine XC.region ?_
    refine XO.v (V.move rfl) rfl ?_
    refine XO.v (V.move rfl) rfl ?_
    refine XO.v (V.nilCheckP rfl) rfl ?_
    refine XO.v (V.fieldAddr rfl fo_27_2) rfl ?_
    refine XO.v (V.indexArr rfl rfl ar_25 (by omega)) rfl ?_
    refine XO.v (V.load rfl (inXM (.there .here)) (encB.ld_how_I _ _ (by omega)) sc_3) rfl ?_
    refine XO.v (V.move rfl) rfl ?_
    refine XO.v (V.cmp rfl rfl rfl) rfl ?_
    refine XO.nil ?_
    refine XE.next ?_
    refine XC.keep [(0, _), (1, _), (6, _), (7, _), (32, _)] (Sub.cons rfl (Sub.cons rfl (Sub.cons rfl (Sub.cons rfl (Sub.cons rfl (Sub.nil _)))))) ?_
    refine XC.condP rfl (fun h2 => ?_) (fun h2 => ?_)
    · skip
      refine XC.seq ?_
      refine XC.region ?_
      refine XO.v (V.move rfl) rfl ?_
      refine XO.v (V.assign rfl) rfl ?_
      refine XO.v (V.assign rfl) rfl ?_
      refine XO.nil ?_
      refine XE.next ?_
      refine XC.keep [(4, _), (5, _)] (Sub.cons rfl (Sub.cons rfl (Sub.nil _))) ?_
      refine XC.ret ?_
      refine XE.blockRet ?_
      refine XE.thenRet ?_
      refine XE.thenRet ?_
      refine XE.blockRet ?_
      refine XE.thenRet ?_
      refine XE.ret2 rfl rfl rfl (post_of (.cons (.there .here) .nil) rfl ?_)
      rw [BS.first_some (k := (t : Int)) (by omega) hb3 hb4 (by assumption) (fun j h1 h2 => ?_)]
      · have ht0 : (t : Int) ≠ 0 := by
          rintro q
          rw [q, hz] at hb3; cases hb3
        exact ⟨by simp [show t ≠ 0 from by omega], rfl⟩
      · by_cases q2 : j < x.2
        · exact hx4 j h1 q2
        · have q4 := hl j.toNat (by omega)
          rw [hx3, show ((j.toNat : Nat) : Int) = j from by omega] at q4
          have q5 : x.2 ≤ j.toNat := by omega
          have q6 : j.toNat < 9 := by omega
          simp [q5, q6] at q4
          rintro ⟨e1, e2, _⟩
          rw [q4 e1] at e2; cases e2
    · skip
      refine XC.skip ?_
      refine XE.blockNormal ?_
      refine XE.next ?_
      refine XC.keep [(0, _), (1, _), (6, _)] (Sub.cons rfl (Sub.cons rfl (Sub.cons rfl (Sub.nil _)))) ?_
      refine XC.region ?_
      refine XO.v (V.move rfl) rfl ?_
      refine XO.v (V.move rfl) rfl ?_
      refine XO.v (V.sub rfl rfl _ (sub_u16 ⟨by omega, by omega⟩)) rfl ?_
      refine XO.v (V.bits rfl rfl rfl (show x.1 < 65536 by omega) (show x.1 - 1 < 65536 by omega) rfl) rfl ?_
      refine XO.v (V.assign rfl) rfl ?_
      refine XO.nil ?_
      refine XE.again ((x.1 &&& (x.1 - 1), t + 1)) ?_ ?_ (Sub.cons rfl (Sub.cons rfl (Sub.cons rfl (Sub.nil _)))) (fun _ hw => XM.pick (.cons (.there .here) (.cons .here .nil)) hw)
      · skip
        (simp; omega)
      · skip
        refine ⟨Nat.lt_of_le_of_lt Nat.and_le_left hx1, by simp; omega, fun j => ?_, fun j h1 h2 => ?_⟩
        · show (x.1 &&& (x.1 - 1)).testBit j = _
          rw [low_clear ht hl, hx3]
          by_cases q1 : j < t
          · have q2 := hl j q1
            rw [hx3] at q2
            have q3 : ¬ t + 1 ≤ j := by omega
            simp only [q2, q3]; rfl
          · by_cases q2 : j = t
            · subst q2; simp; intro q; omega
            · have q3 : t + 1 ≤ j := by omega
              have q4 : x.2 ≤ j := by omega
              simp [q2, q3, q4]
        · by_cases q1 : j = t
          · subst q1; rintro ⟨_, _, q⟩; contradiction
          · by_cases q2 : j < x.2
            · exact hx4 j h1 q2
            · have q3 : j < t := by simp at h2; omega
              have q4 := hl j.toNat (by omega)
              rw [hx3, show ((j.toNat : Nat) : Int) = j from by omega] at q4
              have q5 : x.2 ≤ j.toNat := by omega
              have q6 : j.toNat < 9 := by omega
              simp [q5, q6] at q4
              rintro ⟨e1, e2, _⟩
              rw [q4 e1] at e2; cases e2
  · skip
    refine XC.exit ?_
    refine XE.thenExit ?_
    refine XE.thenExit ?_
    refine XE.blockExit ?_
    refine XE.next ?_
    refine XC.keep [] (Sub.nil _) ?_
    refine XC.seq ?_
    refine XC.region ?_
    refine XO.v (V.assign rfl) rfl ?_
    refine XO.v (V.assign rfl) rfl ?_
    refine XO.nil ?_
    refine XE.next ?_
    refine XC.keep [(4, _), (5, _)] (Sub.cons rfl (Sub.cons rfl (Sub.nil _))) ?_
    refine XC.ret ?_
    refine XE.ret2 rfl rfl rfl (post_of (.cons .here .nil) rfl ?_)
    have hx0 : x.1 = 0 := by omega
    rw [BS.first_none (fun j h1 h2 => ?_)]
    · exact ⟨rfl, rfl⟩
    · by_cases q2 : j < x.2
      · exact hx4 j h1 q2
      · have q4 := hx3 j.toNat
        rw [hx0, show ((j.toNat : Nat) : Int) = j from by omega] at q4
        have q5 : x.2 ≤ j.toNat := by omega
        have q6 : j.toNat < 9 := by omega
        simp [q5, q6] at q4
        rintro ⟨e1, e2, _⟩
        rw [q4 e1] at e2; cases e2
set_option maxRecDepth 10000 in
set_option maxHeartbeats 400000 in
theorem s_Ends (b o : Nat) (s : BS) (hz : s.wait 0 = false) : Spec Tryd.prog 11 [ptr b o 0]
    [.cells b o 11 (encB s), .ro 1 0 32 tab32]
    (fun v H1 => v = .tuple #[.int .i64 (s.first 0), .bool (decide (s.first 0 ≠ 0))] ∧ H1 = [.cells b o 11 (encB s)]) := by
  refine Spec.intro Tryd.func11 rfl rfl ?_
  intro W
  refine XC.seq ?_
  refine XC.region ?_
  refine XO.v (V.assign rfl) rfl ?_
  refine XO.v (V.assign rfl) rfl ?_
  refine XO.nil ?_
  refine XE.next ?_
  refine XC.keep [(0, _)] (Sub.cons rfl (Sub.nil _)) ?_
  refine XC.seq ?_
  refine XC.region ?_
  refine XO.v (V.move rfl) rfl ?_
  refine XO.callR 1 rfl (s_first _ _ _ hz _) (.cons .here (.cons .here .nil)) rfl cl_19 rfl ?_
  rintro _ _ ⟨rfl, rfl⟩
  refine XO.v (V.extract rfl rfl) rfl ?_
  refine XO.v (V.extract rfl rfl) rfl ?_
  refine XO.v (V.assign rfl) rfl ?_
  refine XO.v (V.assign rfl) rfl ?_
  refine XO.nil ?_
  refine XE.next ?_
  refine XC.keep [(2, _), (3, _)] (Sub.cons rfl (Sub.cons rfl (Sub.nil _))) ?_
  refine XC.ret ?_
  refine XE.ret2 rfl rfl rfl (post_of (.cons .here .nil) rfl ?_)
  exact ⟨rfl, rfl⟩
set_option maxRecDepth 10000 in
set_option maxHeartbeats 400000 in
theorem s_Take (b o : Nat) (s : BS) (hz : s.wait 0 = false) : Spec Tryd.prog 10 [ptr b o 0]
    [.cells b o 11 (encB s), .ro 1 0 32 tab32]
    (fun v H1 => v = .tuple #[.int .i64 s.take.1, .bool (decide (s.take.1 ≠ 0))] ∧ H1 = [.cells b o 11 (encB s.take.2)]) := by
  have hc := s.first_cases 2 hz
  refine Spec.intro Tryd.func10 rfl rfl ?_
  intro W
  refine XC.seq ?_
  refine XC.region ?_
  refine XO.v (V.assign rfl) rfl ?_
  refine XO.v (V.assign rfl) rfl ?_
  refine XO.nil ?_
  refine XE.next ?_
  refine XC.keep [(0, _)] (Sub.cons rfl (Sub.nil _)) ?_
  refine XC.seq ?_
  refine XC.region ?_
  refine XO.v (V.move rfl) rfl ?_
  refine XO.callR 1 rfl (s_first _ _ _ hz _) (.cons .here (.cons .here .nil)) rfl cl_19 rfl ?_
  rintro _ _ ⟨rfl, rfl⟩
  refine XO.v (V.move rfl) rfl ?_
  refine XO.v (V.extract rfl rfl) rfl ?_
  refine XO.v (V.extract rfl rfl) rfl ?_
  refine XO.v (V.assign rfl) rfl ?_
  refine XO.v (V.assign rfl) rfl ?_
  refine XO.nil ?_
  refine XE.next ?_
  refine XC.keep [(0, _), (4, _), (5, _)] (Sub.cons rfl (Sub.cons rfl (Sub.cons rfl (Sub.nil _)))) ?_
  refine XC.seq ?_
  refine XC.seq ?_
  refine XC.region ?_
  refine XO.v (V.move rfl) rfl ?_
  refine XO.nil ?_
  refine XE.next ?_
  refine XC.keep [(0, _), (4, _), (5, _), (11, _)] (Sub.cons rfl (Sub.cons rfl (Sub.cons rfl (Sub.cons rfl (Sub.nil _))))) ?_
  refine XC.condP rfl (fun h1 => ?_) (fun h1 => ?_)
  · skip
    refine XC.regionQ mixed (f := 10) (l := #[false, false, false, false, false, false, false, false, false, false]) rfl rfl XM.drawn' ?_
    refine XQ.pv (i := 0) (l' := #[true, false, false, false, false, false, false, false, false, false]) rfl (by kernel_rfl) rfl (V.move rfl) rfl rfl ?_
    refine XQ.pv (i := 1) (l' := #[true, true, false, false, false, false, false, false, false, false]) rfl (by kernel_rfl) rfl (V.nilCheckP rfl) rfl rfl ?_
    refine XQ.pv (i := 2) (l' := #[true, true, true, false, false, false, false, false, false, false]) rfl (by kernel_rfl) rfl (V.fieldAddr rfl fo_27_0) rfl rfl ?_
    refine XQ.load (i := 3) (l' := #[true, true, true, true, false, false, false, false, false, false]) (.cells _ _ _ _) [9] rfl (by kernel_rfl) rfl .here (V.load rfl inEnt (encB.ld_wait _) sc_24) rfl (by kernel_rfl) rfl ?_
    refine XQ.pv (i := 4) (l' := #[true, true, true, true, true, false, false, false, false, false]) rfl (by kernel_rfl) rfl (V.move rfl) rfl rfl ?_
    refine XQ.pv (i := 5) (l' := #[true, true, true, true, true, true, false, false, false, false]) rfl (by kernel_rfl) rfl (V.shl rfl rfl (by omega) _ (shl_u16 (by omega))) rfl rfl ?_
    refine XQ.pv (i := 6) (l' := #[true, true, true, true, true, true, true, false, false, false]) rfl (by kernel_rfl) rfl (V.bits rfl rfl rfl (by first | exact pack_lt _ | exact two_lt (by omega) | (rw [IntKind.bits]; omega)) (by first | exact pack_lt _ | exact two_lt (by omega) | (rw [IntKind.bits]; omega)) rfl) rfl rfl ?_
    refine XQ.pv (i := 7) (l' := #[true, true, true, true, true, true, true, true, false, false]) rfl (by kernel_rfl) rfl (V.nilCheckP rfl) rfl rfl ?_
    refine XQ.pv (i := 8) (l' := #[true, true, true, true, true, true, true, true, true, false]) rfl (by kernel_rfl) rfl (V.fieldAddr rfl fo_27_0) rfl rfl ?_
    refine XQ.store (i := 9) (l' := #[true, true, true, true, true, true, true, true, true, true]) rfl (by kernel_rfl) rfl rfl rfl .here (encB_wait _ (pack_clear _ (by omega))) rfl sz_24_1 (fun _ hw' => ⟨fun hs => (hs 9 (by simp) rfl).elim, trivial⟩) ?_
    refine XQ.done (by kernel_rfl) ?_
    refine XE.next ?_
    refine XC.keep [(4, _), (5, _)] (Sub.cons rfl (Sub.cons rfl (Sub.nil _))) ?_
    refine XC.seq ?_
    refine XC.region ?_
    refine XO.v (V.move rfl) rfl ?_
    refine XO.v (V.move rfl) rfl ?_
    refine XO.v (V.assign rfl) rfl ?_
    refine XO.v (V.assign rfl) rfl ?_
    refine XO.nil ?_
    refine XE.next ?_
    refine XC.keep [(2, _), (3, _)] (Sub.cons rfl (Sub.cons rfl (Sub.nil _))) ?_
    refine XC.ret ?_
    refine XE.ret2 rfl rfl rfl (post_of (.cons .here .nil) rfl ?_)
    exact ⟨by simp only [BS.take, *]; rfl, rfl⟩
  · skip
    refine XC.skip ?_
    refine XE.next ?_
    refine XC.keep [(4, _), (5, _)] (Sub.cons rfl (Sub.cons rfl (Sub.nil _))) ?_
    refine XC.seq ?_
    refine XC.region ?_
    refine XO.v (V.move rfl) rfl ?_
    refine XO.v (V.move rfl) rfl ?_
    refine XO.v (V.assign rfl) rfl ?_
    refine XO.v (V.assign rfl) rfl ?_
    refine XO.nil ?_
    refine XE.next ?_
    refine XC.keep [(2, _), (3, _)] (Sub.cons rfl (Sub.cons rfl (Sub.nil _))) ?_
    refine XC.ret ?_
    refine XE.ret2 rfl rfl rfl (post_of (.cons .here .nil) rfl ?_)
    have hq : s.first 2 = 0 := by omega
    rw [BS.take_none hq hz]; exact ⟨by simp [hq], rfl⟩
set_option maxRecDepth 10000 in
set_option maxHeartbeats 400000 in
theorem s_Waits (b o : Nat) (s : BS) (n : Int) : Spec Tryd.prog 6 [ptr b o 0, .int .i64 n]
    [.cells b o 11 (encB s)]
    (fun v H1 => v = .bool (BS.num n && s.wait n) ∧ H1 = [.cells b o 11 (encB s)]) := by
  refine Spec.intro Tryd.func6 rfl rfl ?_
  intro W
  refine XC.seq ?_
  refine XC.region ?_
  refine XO.v (V.assign rfl) rfl ?_
  refine XO.nil ?_
  refine XE.next ?_
  refine XC.keep [(0, _), (1, _)] (Sub.cons rfl (Sub.cons rfl (Sub.nil _))) ?_
  refine XC.seq ?_
  refine XC.region ?_
  refine XO.v (V.move rfl) rfl ?_
  refine XO.call rfl (s_number _) .nil cl_17 rfl ?_
  rintro _ _ (⟨h1, rfl, rfl⟩ | ⟨h1, rfl, rfl⟩)
  · skip
    refine XO.v (V.nilNil rfl Tryd.underlying29 rfl) rfl ?_
    refine XO.v (V.move rfl) rfl ?_
    refine XO.guardRun rfl rfl rfl ?_
    refine XO.v (V.move rfl) rfl ?_
    refine XO.guardRun rfl rfl rfl ?_
    refine XO.v (V.nilCheckP rfl) rfl ?_
    refine XO.guardRun rfl rfl rfl ?_
    refine XO.v (V.fieldAddr rfl fo_27_0) rfl ?_
    refine XO.guardRun rfl rfl rfl ?_
    refine XO.v (V.load rfl (inXM .here) (encB.ld_wait _) sc_24) rfl ?_
    refine XO.guardRun rfl rfl rfl ?_
    refine XO.v (V.move rfl) rfl ?_
    refine XO.guardRun rfl rfl rfl ?_
    refine XO.v (V.shr rfl rfl (by omega) _ (shr_u16 (by omega) _)) rfl ?_
    refine XO.guardRun rfl rfl rfl ?_
    refine XO.v (V.bits rfl rfl rfl (by first | exact Nat.lt_of_le_of_lt (by rw [Nat.shiftRight_eq_div_pow]; exact Nat.div_le_self _ _) (pack_lt _) | decide) (by first | exact Nat.lt_of_le_of_lt (by rw [Nat.shiftRight_eq_div_pow]; exact Nat.div_le_self _ _) (pack_lt _) | decide) rfl) rfl ?_
    refine XO.guardRun rfl rfl rfl ?_
    refine XO.v (V.cmp rfl rfl rfl) rfl ?_
    refine XO.v (V.pick rfl rfl rfl rfl) rfl ?_
    refine XO.v (V.assign rfl) rfl ?_
    refine XO.nil ?_
    refine XE.next ?_
    refine XC.keep [(4, _)] (Sub.cons rfl (Sub.nil _)) ?_
    refine XC.ret ?_
    refine XE.ret1 rfl rfl (post_of (.cons .here .nil) rfl ?_)
    first
    | (have q : BS.num n = false := by simp [BS.num]; omega
       rw [q]; exact ⟨rfl, rfl⟩)
    | (have q : BS.num n = true := (BS.num_iff n).2 (by omega)
       rw [q]; refine ⟨congrArg Value.bool ?_, rfl⟩
       rw [bit_of_shr, testBit_pack, show ((n.toNat : Nat) : Int) = n from by omega]
       have q2 : n.toNat < 9 := by omega
       cases s.wait n <;> simp [q2])
  · skip
    refine XO.v (V.ifaceNil rfl Tryd.underlying29 rfl) rfl ?_
    refine XO.v (V.move rfl) rfl ?_
    refine XO.guardSkip rfl rfl rfl rfl rfl ?_
    refine XO.guardSkip rfl rfl rfl rfl rfl ?_
    refine XO.guardSkip rfl rfl rfl rfl rfl ?_
    refine XO.guardSkip rfl rfl rfl rfl rfl ?_
    refine XO.guardSkip rfl rfl rfl rfl rfl ?_
    refine XO.guardSkip rfl rfl rfl rfl rfl ?_
    refine XO.guardSkip rfl rfl rfl rfl rfl ?_
    refine XO.guardSkip rfl rfl rfl rfl rfl ?_
    refine XO.v (V.pick rfl rfl rfl rfl) rfl ?_
    refine XO.v (V.assign rfl) rfl ?_
    refine XO.nil ?_
    refine XE.next ?_
    refine XC.keep [(4, _)] (Sub.cons rfl (Sub.nil _)) ?_
    refine XC.ret ?_
    refine XE.ret1 rfl rfl (post_of (.cons .here .nil) rfl ?_)
    first
    | (have q : BS.num n = false := by simp [BS.num]; omega
       rw [q]; exact ⟨rfl, rfl⟩)
    | (have q : BS.num n = true := (BS.num_iff n).2 (by omega)
       rw [q]; refine ⟨congrArg Value.bool ?_, rfl⟩
       rw [bit_of_shr, testBit_pack, show ((n.toNat : Nat) : Int) = n from by omega]
       have q2 : n.toNat < 9 := by omega
       cases s.wait n <;> simp [q2])







end Go.X
