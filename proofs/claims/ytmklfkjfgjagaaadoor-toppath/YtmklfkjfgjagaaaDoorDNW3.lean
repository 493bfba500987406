import Derived.Test.YtmklfkjfgjagaaaDoorDNW2
namespace Go.X
open Go Go.Proofs
theorem ag_50 : aggT Tryd.prog 50 = true := by kernel_rfl
theorem bs1_62 (z : Int) : ∀ w, (Instr.buildSlice 62 1 #[(0, .int .i64 z)]).run Tryd.prog w = .ok (.slice (some ⟨w.heap.size, 0, none⟩) 1 1) (w.alloc (.cells #[.int .i64 z] 3)) := fun w => by kernel_rfl
theorem cl_25 : callable Tryd.prog 25 = true := by kernel_rfl
theorem cl_28 : callable Tryd.prog 28 = true := by kernel_rfl
theorem cl_29 : callable Tryd.prog 29 = true := by kernel_rfl
theorem fo_64_4 : fieldOff Tryd.prog 64 4 = some 4 := by kernel_rfl
theorem fo_64_7 : fieldOff Tryd.prog 64 7 = some 7 := by kernel_rfl
theorem rt_3_1 : rowT Tryd.prog 3 1 = true := by kernel_rfl
theorem sc_9 : scal Tryd.prog 9 = true := by kernel_rfl
theorem sz_3_1 : szOf Tryd.prog 3 = some 1 := by kernel_rfl
theorem sz_50_4 : szOf Tryd.prog 50 = some 4 := by kernel_rfl
set_option maxRecDepth 10000 in
set_option maxHeartbeats 400000 in
theorem t_New  : Spec Tryd.prog 5 []
    []
    (fun v H1 => ∃ b, v = ptr b 0 0 ∧ H1 = [.cells b 0 321 (encF FC.void), .fam fam40 (FC.rowsN 9 FC.void), .fam fam40 (FC.rowsK 3 FC.void), irow (FC.rP FC.void) (FC.rC FC.void) 3 (FC.toFF FC.void).roots]) := by
  refine Spec.intro Tryd.func5 rfl rfl ?_
  intro W
  refine XC.seq ?_
  refine XC.region ?_
  refine XO.v (V.assign rfl) rfl ?_
  refine XO.nil ?_
  refine XE.next ?_
  refine XC.keep [] (Sub.nil _) ?_
  refine XC.seq ?_
  refine XC.region ?_
  refine XO.v (V.build (vs := #[]) rfl (v := .agg arrF0) (fun _ => by kernel_rfl)) rfl ?_
  refine XO.box (m := 321) (C := encF FC.void) rfl arrF0_size arrF0_box rfl ?_
  intro p
  refine XO.mono (fun _ hw3 => XM.newForest hw3) ?_
  refine XO.v (V.assign rfl) rfl ?_
  refine XO.nil ?_
  refine XE.next ?_
  refine XC.keep [(0, _)] (Sub.cons rfl (Sub.nil _)) ?_
  refine XC.ret ?_
  refine XE.ret1 rfl rfl (post_of (.cons (.there (.there (.there .here))) (.cons .here (.cons .here (.cons .here .nil)))) rfl ?_)
  exact ⟨_, rfl, rfl⟩
set_option maxRecDepth 10000 in
set_option maxHeartbeats 2000000 in
theorem t_Plant (b o : Nat) (s : FC) (hI : s.toFF.Sh) : Spec Tryd.prog 6 [ptr b o 0]
    [.cells b o 321 (encF s), .fam fam40 (s.rowsN 9), .fam fam40 (s.rowsK 3), irow s.rP s.rC 3 s.roots]
    (fun v H1 => ∃ t : FC, v = .tuple #[.int .i64 s.plantV, errv 68 s.plantE] ∧ t.toFF = s.plant ∧ H1 = [.cells b o 321 (encF t), .fam fam40 (FC.rowsN 9 t), .fam fam40 (FC.rowsK 3 t), irow (FC.rP t) (FC.rC t) 3 (FC.toFF t).roots]) := by
  have hr4 := hI.roots.1
  refine Spec.intro Tryd.func6 rfl rfl ?_
  intro W
  refine XC.seq ?_
  refine XC.region ?_
  refine XO.v (V.assign rfl) rfl ?_
  refine XO.v (V.assign rfl) rfl ?_
  refine XO.nil ?_
  refine XE.next ?_
  refine XC.keep [(0, _)] (Sub.cons rfl (Sub.nil _)) ?_
  refine XC.seq ?_
  refine XC.seq ?_
  refine XC.region ?_
  refine XO.v (V.move rfl) rfl ?_
  refine XO.v (V.nilCheckP rfl) rfl ?_
  refine XO.v (V.fieldAddr rfl fo_67_1) rfl ?_
  refine XO.v (V.load rfl (inXM .here) (encF_roots _) sc_62) rfl ?_
  refine XO.v (V.lenSl rfl Tryd.underlying62) rfl ?_
  refine XO.v (V.cmp rfl rfl rfl) rfl ?_
  refine XO.nil ?_
  refine XE.next ?_
  refine XC.keep [(0, _), (11, _)] (Sub.cons rfl (Sub.cons rfl (Sub.nil _))) ?_
  refine XC.condP rfl (fun h1 => ?_) (fun h1 => ?_)
  · skip
    refine XC.seq ?_
    refine XC.region ?_
    refine XO.v (V.makeIface rfl Tryd.underlying68 (by simp)) rfl ?_
    refine XO.v (V.assign rfl) rfl ?_
    refine XO.v (V.assign rfl) rfl ?_
    refine XO.nil ?_
    refine XE.next ?_
    refine XC.keep [(2, _), (3, _)] (Sub.cons rfl (Sub.cons rfl (Sub.nil _))) ?_
    refine XC.ret ?_
    refine XE.thenRet ?_
    refine XE.ret2 rfl rfl rfl (post_of (.cons .here (.cons .here (.cons .here (.cons .here .nil)))) rfl ?_)
    have e : s.plantE = 4 := by unfold FF.plantE; rw [if_pos (by omega)]
    exact ⟨s, by rw [show s.plantV = 0 from by unfold FF.plantV; rw [if_neg (by omega)], e]; rfl, by unfold FF.plant; rw [if_neg (by omega)], rfl⟩
  · skip
    refine XC.skip ?_
    refine XE.next ?_
    refine XC.keep [(0, _)] (Sub.cons rfl (Sub.nil _)) ?_
    refine XC.seq ?_
    refine XC.region ?_
    refine XO.v (V.move rfl) rfl ?_
    refine XO.v (V.move rfl) rfl ?_
    refine XO.v (V.nilCheckP rfl) rfl ?_
    refine XO.v (V.fieldAddr rfl fo_67_1) rfl ?_
    refine XO.v (V.load rfl (inXM .here) (encF_roots _) sc_62) rfl ?_
    refine XO.v (V.lenSl rfl Tryd.underlying62) rfl ?_
    refine XO.v (V.build (vs := #[(0, .int .i64 2), (1, .int .i64 (s.roots.length)), (2, .int .i64 1)]) rfl (v := .agg (nodeA 2 s.roots.length 1 0)) (fun _ => by kernel_rfl)) rfl ?_
    refine XO.call rfl (t_fresh _ _ _ _ _ _ _) (.cons .here (.cons .here (.cons .here .nil))) cl_25 rfl ?_
    rintro _ _ (⟨h2, rfl, rfl⟩ | ⟨h2, rfl, rfl⟩)
    · skip
      refine XO.v (V.move rfl) rfl ?_
      refine XO.v (V.extract rfl rfl) rfl ?_
      refine XO.v (V.extract rfl rfl) rfl ?_
      refine XO.v (V.assign rfl) rfl ?_
      refine XO.v (V.assign rfl) rfl ?_
      refine XO.nil ?_
      refine XE.next ?_
      refine XC.keep [(0, _), (4, _), (5, _)] (Sub.cons rfl (Sub.cons rfl (Sub.cons rfl (Sub.nil _)))) ?_
      refine XC.seq ?_
      refine XC.seq ?_
      refine XC.region ?_
      refine XO.v (V.move rfl) rfl ?_
      refine XO.v (V.ifaceNil rfl Tryd.underlying26 rfl) rfl ?_
      refine XO.nil ?_
      refine XE.next ?_
      refine XC.keep [(0, _), (4, _), (5, _), (25, _)] (Sub.cons rfl (Sub.cons rfl (Sub.cons rfl (Sub.cons rfl (Sub.nil _))))) ?_
      refine XC.condT rfl rfl ?_
      refine XC.seq ?_
      refine XC.region ?_
      refine XO.v (V.move rfl) rfl ?_
      refine XO.v (V.assign rfl) rfl ?_
      refine XO.v (V.assign rfl) rfl ?_
      refine XO.nil ?_
      refine XE.next ?_
      refine XC.keep [(2, _), (3, _)] (Sub.cons rfl (Sub.cons rfl (Sub.nil _))) ?_
      refine XC.ret ?_
      refine XE.thenRet ?_
      refine XE.ret2 rfl rfl rfl (post_of (.cons .here (.cons .here (.cons .here (.cons .here .nil)))) rfl ?_)
      have e : s.plantE = 4 := by unfold FF.plantE; rw [if_neg (by omega), if_pos (by assumption)]
      exact ⟨s, by rw [show s.plantV = 0 from by unfold FF.plantV; rw [if_neg (by omega)], e], by unfold FF.plant; rw [if_neg (by omega)], rfl⟩
    · skip
      refine XO.v (V.move rfl) rfl ?_
      refine XO.v (V.extract rfl rfl) rfl ?_
      refine XO.v (V.extract rfl rfl) rfl ?_
      refine XO.v (V.assign rfl) rfl ?_
      refine XO.v (V.assign rfl) rfl ?_
      refine XO.nil ?_
      refine XE.next ?_
      refine XC.keep [(0, _), (4, _), (5, _)] (Sub.cons rfl (Sub.cons rfl (Sub.cons rfl (Sub.nil _)))) ?_
      refine XC.seq ?_
      refine XC.seq ?_
      refine XC.region ?_
      refine XO.v (V.move rfl) rfl ?_
      refine XO.v (V.nilNil rfl Tryd.underlying26 rfl) rfl ?_
      refine XO.nil ?_
      refine XE.next ?_
      refine XC.keep [(0, _), (4, _), (5, _), (25, _)] (Sub.cons rfl (Sub.cons rfl (Sub.cons rfl (Sub.cons rfl (Sub.nil _))))) ?_
      refine XC.condF rfl rfl ?_
      refine XC.skip ?_
      refine XE.next ?_
      refine XC.keep [(0, _), (4, _)] (Sub.cons rfl (Sub.cons rfl (Sub.nil _))) ?_
      refine XC.seq ?_
      refine XC.region ?_
      have f := FF.free_ok (show ¬ s.free < 0 by assumption)
      refine XO.v (V.move rfl) rfl ?_
      refine XO.v (V.move rfl) rfl ?_
      refine XO.v (V.move rfl) rfl ?_
      refine XO.v (V.nilCheckP rfl) rfl ?_
      refine XO.v (V.fieldAddr rfl fo_67_0) rfl ?_
      refine XO.v (V.indexArr rfl rfl ar_65 (by omega)) rfl ?_
      refine XO.v (V.fieldAddr rfl fo_64_7) rfl ?_
      refine XO.store rfl rfl .here (encF.st_n_up _ _ (by omega) _) rfl sz_3_1 ?_
      refine XO.nil ?_
      refine XE.next ?_
      refine XC.keep [(0, _), (4, _)] (Sub.cons rfl (Sub.cons rfl (Sub.nil _))) ?_
      refine XC.seq ?_
      refine XC.region ?_
      refine XO.v (V.move rfl) rfl ?_
      refine XO.v (V.move rfl) rfl ?_
      refine XO.v (V.nilCheckP rfl) rfl ?_
      refine XO.v (V.fieldAddr rfl fo_67_1) rfl ?_
      refine XO.v (V.load rfl (inXM .here) (encF_roots _) sc_62) rfl ?_
      refine XO.v (V.move rfl) rfl ?_
      refine XO.buildSlice (A := #[.int .i64 _]) (vs := #[(0, .int .i64 _)]) rfl (bs1_62 _) rfl rfl ?_
      intro h3
      refine XO.appendI (e := 3) rfl rfl Tryd.underlying62 rt_3_1 (.there (.there (.there (.there .here)))) .here (by show s.roots.length + 1 ≤ _; omega) rfl ?_
      intro p1 c1
      refine XO.v (V.nilCheckP rfl) rfl ?_
      refine XO.v (V.fieldAddr rfl fo_67_1) rfl ?_
      refine XO.store rfl rfl (.there (.there .here)) (encF_roots_st _ (s.roots ++ [s.free]) _ _ _ rfl) rfl sz_62_1 ?_
      refine XO.nil ?_
      refine XE.next ?_
      refine XC.keep [(0, _)] (Sub.cons rfl (Sub.nil _)) ?_
      refine XC.seq ?_
      refine XC.region ?_
      refine XO.v (V.move rfl) rfl ?_
      refine XO.v (V.nilCheckP rfl) rfl ?_
      refine XO.v (V.fieldAddr rfl fo_67_1) rfl ?_
      refine XO.v (V.load rfl (inXM (.there (.there .here))) (encF_roots _) sc_62) rfl ?_
      refine XO.v (V.lenSl rfl Tryd.underlying62) rfl ?_
      refine XO.v (V.sub rfl rfl _ (IntWalk.i64_in _ (by simp only [List.length_append, List.length_singleton]; omega))) rfl ?_
      refine XO.v (V.assign rfl) rfl ?_
      refine XO.v (V.assign rfl) rfl ?_
      refine XO.nil ?_
      refine XE.next ?_
      refine XC.keep [(2, _), (3, _)] (Sub.cons rfl (Sub.cons rfl (Sub.nil _))) ?_
      refine XC.ret ?_
      refine XE.ret2 rfl rfl rfl (post_of (.cons (.there (.there .here)) (.cons (.there (.there .here)) (.cons (.there (.there .here)) (.cons .here .nil)))) rfl ?_)
      have e : s.plantE = 0 := by unfold FF.plantE; rw [if_neg (by omega), if_neg (by assumption)]
      refine ⟨_, ?_, ?_, rfl⟩
      · rw [show s.plantV = s.roots.length from by unfold FF.plantV; rw [if_pos e], e]
        simp only [List.length_append, List.length_singleton]
        rw [show ((s.roots.length + 1 : Nat) : Int) - 1 = s.roots.length by omega]; rfl
      · unfold FF.plant; rw [if_pos e, ← FF.setN_up s.toFF s.free 2 _ 1 0 s.free]; rfl
set_option maxRecDepth 10000 in
set_option maxHeartbeats 1000000 in
theorem t_Of (b o : Nat) (s : FC) (hI : s.toFF.Sh) (n : Int) : Spec Tryd.prog 21 [ptr b o 0, .int .i64 n]
    [.cells b o 321 (encF s)]
    (fun v H1 => v = .tuple #[.agg (s.ofV n).arr, errv 68 (s.isE n 0)] ∧ H1 = [.cells b o 321 (encF s)]) := by
  refine Spec.intro Tryd.func21 rfl rfl ?_
  intro W
  refine XC.seq ?_
  refine XC.region ?_
  refine XO.allocZ (z := .agg NV.zero.arr) (m := 4) (C := encNV NV.zero) (by kernel_rfl) rfl (encNV_box _) rfl ?_
  intro bg
  refine XO.v (V.assign rfl) rfl ?_
  refine XO.nil ?_
  refine XE.next ?_
  refine XC.keep [(0, _), (1, _), (4, _)] (Sub.cons rfl (Sub.cons rfl (Sub.cons rfl (Sub.nil _)))) ?_
  refine XC.seq ?_
  refine XC.region ?_
  refine XO.v (V.move rfl) rfl ?_
  refine XO.v (V.move rfl) rfl ?_
  refine XO.call rfl (t_is _ _ _ _) (.cons (.there .here) .nil) cl_36 rfl ?_
  rintro _ _ ⟨rfl, rfl⟩
  refine XO.v (V.assign rfl) rfl ?_
  refine XO.nil ?_
  refine XE.next ?_
  refine XC.keep [(0, _), (1, _), (4, _), (6, _)] (Sub.cons rfl (Sub.cons rfl (Sub.cons rfl (Sub.cons rfl (Sub.nil _))))) ?_
  refine XC.seq ?_
  refine XC.seq ?_
  refine XC.region ?_
  refine XO.v (V.move rfl) rfl ?_
  refine XO.v (V.errNil rfl Tryd.underlying26 rfl) rfl ?_
  refine XO.nil ?_
  refine XE.next ?_
  refine XC.keep [(0, _), (1, _), (4, _), (6, _), (12, _)] (Sub.cons rfl (Sub.cons rfl (Sub.cons rfl (Sub.cons rfl (Sub.cons rfl (Sub.nil _)))))) ?_
  refine XC.condP rfl (fun h1 => ?_) (fun h1 => ?_)
  · skip
    have i0 : s.isE n 0 ≠ 0 := by assumption
    refine XC.seq ?_
    refine XC.region ?_
    refine XO.v (V.build (vs := #[]) rfl (v := .agg NV.zero.arr) (fun _ => by kernel_rfl)) rfl ?_
    refine XO.v (V.move rfl) rfl ?_
    refine XO.storeAgg rfl rfl (.there .here) (encNV_st _ _) ⟨rfl, rfl⟩ sz_50_4 ?_
    refine XO.v (V.assign rfl) rfl ?_
    refine XO.nil ?_
    refine XE.next ?_
    refine XC.keep [(4, _), (5, _)] (Sub.cons rfl (Sub.cons rfl (Sub.nil _))) ?_
    refine XC.ret ?_
    refine XE.thenRet ?_
    refine XE.retG2 rfl (.agg rfl (.there .here) (encNV_agg _) ag_50 sz_50_4) (.tmp rfl) (post_of (.cons .here .nil) rfl ?_)
    exact ⟨by rw [show s.ofV n = NV.zero from by unfold FF.ofV; rw [if_neg i0]], rfl⟩
  · skip
    obtain ⟨i1, i2, i3⟩ := FF.isE_0 (show s.isE n 0 = 0 by simpa using h1)
    have i0 : s.isE n 0 = 0 := by simpa using h1
    refine XC.skip ?_
    refine XE.next ?_
    refine XC.keep [(0, _), (1, _), (4, _)] (Sub.cons rfl (Sub.cons rfl (Sub.cons rfl (Sub.nil _)))) ?_
    refine XC.seq ?_
    refine XC.region ?_
    refine XO.v (V.move rfl) rfl ?_
    refine XO.v (V.move rfl) rfl ?_
    refine XO.v (V.nilCheckP rfl) rfl ?_
    refine XO.v (V.fieldAddr rfl fo_67_0) rfl ?_
    refine XO.v (V.indexArr rfl rfl ar_65 (by omega)) rfl ?_
    refine XO.v (V.loadAgg rfl (inXM .here) (encF_node _ _ (by omega)) ag_64 sz_64_8) rfl ?_
    refine XO.allocZ (z := .agg (nodeA 0 0 0 0)) (m := 8) (C := encF.cell (nodeU 0 0 0 0)) (by kernel_rfl) rfl (node_box 0 0 0 0) rfl ?_
    intro bx
    refine XO.storeAgg rfl rfl .here (nodeV_st _ _) ⟨rfl, rfl⟩ sz_64_8 ?_
    refine XO.nil ?_
    refine XE.next ?_
    refine XC.keep [(4, _), (7, _)] (Sub.cons rfl (Sub.cons rfl (Sub.nil _))) ?_
    refine XC.seq ?_
    refine XC.region ?_
    refine XO.v (V.fieldAddr rfl fo_64_0) rfl ?_
    refine XO.v (V.load rfl (inXM .here) (nodeV_0 _) sc_3) rfl ?_
    refine XO.v (V.fieldAddr rfl fo_64_2) rfl ?_
    refine XO.v (V.load rfl (inXM .here) (nodeV_2 _) sc_3) rfl ?_
    refine XO.v (V.fieldAddr rfl fo_64_3) rfl ?_
    refine XO.v (V.load rfl (inXM .here) (nodeV_3 _) sc_3) rfl ?_
    refine XO.v (V.fieldAddr rfl fo_64_4) rfl ?_
    refine XO.v (V.load rfl (inXM .here) (nodeV_4 _) sc_9) rfl ?_
    refine XO.v (V.lenStr rfl Tryd.underlying9) rfl ?_
    refine XO.v (V.fieldAddr rfl fo_64_6) rfl ?_
    refine XO.v (V.load rfl (inXM .here) (nodeV_6 _) sc_62) rfl ?_
    refine XO.v (V.lenSl rfl Tryd.underlying62) rfl ?_
    refine XO.v (V.max2 rfl rfl) rfl ?_
    refine XO.v (V.build (vs := #[(0, .int .i64 (s.kind n)), (1, .int .i64 (s.links n)), (2, .int .i64 (s.held n)), (3, .int .i64 (max ((s.data n).size : Int) ((s.kids n).length : Int)))]) rfl (v := .agg (NV.mk (s.kind n) (s.links n) (s.held n) (max ((s.data n).size : Int) ((s.kids n).length : Int))).arr) (fun _ => by kernel_rfl)) rfl ?_
    refine XO.storeAgg rfl rfl (.there (.there .here)) (encNV_st _ _) ⟨rfl, rfl⟩ sz_50_4 ?_
    refine XO.v (V.assign rfl) rfl ?_
    refine XO.nil ?_
    refine XE.next ?_
    refine XC.keep [(4, _), (5, _)] (Sub.cons rfl (Sub.cons rfl (Sub.nil _))) ?_
    refine XC.ret ?_
    refine XE.retG2 rfl (.agg rfl (.there (.there .here)) (encNV_agg _) ag_50 sz_50_4) (.tmp rfl) (post_of (.cons (.there .here) .nil) rfl ?_)
    exact ⟨by rw [show s.ofV n = _ from by unfold FF.ofV; rw [if_pos i0], i0]; rfl, rfl⟩

set_option maxRecDepth 10000 in
set_option maxHeartbeats 2000000 in
theorem t_Make (b o : Nat) (s : FC) (hI : s.toFF.Sh) (n : Int) (x : ByteArray) (k : Int) (hx : x.size ≤ 9223372036854775807) : Spec Tryd.prog 12 [ptr b o 0, .int .i64 n, .string x, .int .i64 k]
    [.cells b o 321 (encF s), .fam fam40 (s.rowsN 9), .fam fam40 (s.rowsK 3)]
    (fun v H1 => v = .tuple #[.int .i64 (s.makeV n x k), errv 68 (s.makeE n x k)] ∧ ∃ t : FC, t.toFF = s.make n x k ∧ t.rP = s.rP ∧ t.rC = s.rC ∧ H1 = [.cells b o 321 (encF t), .fam fam40 (FC.rowsN 9 t), .fam fam40 (FC.rowsK 3 t)]) := by
  refine Spec.intro Tryd.func12 rfl rfl ?_
  intro W
  refine XC.seq ?_
  refine XC.region ?_
  refine XO.v (V.assign rfl) rfl ?_
  refine XO.v (V.assign rfl) rfl ?_
  refine XO.nil ?_
  refine XE.next ?_
  refine XC.keep [(0, _), (1, _), (2, _), (3, _)] (Sub.cons rfl (Sub.cons rfl (Sub.cons rfl (Sub.cons rfl (Sub.nil _))))) ?_
  refine XC.seq ?_
  refine XC.seq ?_
  refine XC.region ?_
  refine XO.v (V.move rfl) rfl ?_
  refine XO.v (V.cmp rfl rfl rfl) rfl ?_
  refine XO.v (V.move rfl) rfl ?_
  refine XO.splitP (d := 14) rfl (fun h1 => ?_) (fun h1 => ?_)
  · skip
    refine XO.guardRun rfl rfl rfl ?_
    refine XO.v (V.move rfl) rfl ?_
    refine XO.guardRun rfl rfl rfl ?_
    refine XO.v (V.cmp rfl rfl rfl) rfl ?_
    refine XO.v (V.pick rfl rfl rfl rfl) rfl ?_
    refine XO.nil ?_
    refine XE.next ?_
    refine XC.keep [(0, _), (1, _), (2, _), (3, _), (17, _)] (Sub.cons rfl (Sub.cons rfl (Sub.cons rfl (Sub.cons rfl (Sub.cons rfl (Sub.nil _)))))) ?_
    refine XC.condP rfl (fun h2 => ?_) (fun h2 => ?_)
    · skip
      refine XC.seq ?_
      refine XC.region ?_
      refine XO.v (V.makeIface rfl Tryd.underlying68 (by simp)) rfl ?_
      refine XO.v (V.assign rfl) rfl ?_
      refine XO.v (V.assign rfl) rfl ?_
      refine XO.nil ?_
      refine XE.next ?_
      refine XC.keep [(8, _), (9, _)] (Sub.cons rfl (Sub.cons rfl (Sub.nil _))) ?_
      refine XC.ret ?_
      refine XE.thenRet ?_
      refine XE.ret2 rfl rfl rfl (post_of (.cons .here (.cons .here (.cons .here .nil))) rfl ?_)
      have e : s.makeE n x k = 1 := by unfold FF.makeE; rw [if_pos (by omega)]
      exact ⟨by rw [show s.makeV n x k = 0 from by unfold FF.makeV; rw [if_neg (by omega)], e]; rfl, s, by unfold FF.make; rw [if_neg (by omega)], rfl, rfl, rfl⟩
    · skip
      refine XC.skip ?_
      refine XE.next ?_
      refine XC.keep [(0, _), (1, _), (2, _), (3, _)] (Sub.cons rfl (Sub.cons rfl (Sub.cons rfl (Sub.cons rfl (Sub.nil _))))) ?_
      refine XC.seq ?_
      refine XC.region ?_
      refine XO.v (V.move rfl) rfl ?_
      refine XO.v (V.move rfl) rfl ?_
      refine XO.v (V.move rfl) rfl ?_
      refine XO.call rfl (t_room _ _ _ hI _ _ (by assumption)) (.cons .here (.cons .here (.cons .here .nil))) cl_28 rfl ?_
      rintro _ _ ⟨rfl, rfl⟩
      refine XO.v (V.assign rfl) rfl ?_
      refine XO.nil ?_
      refine XE.next ?_
      refine XC.keep [(0, _), (1, _), (2, _), (3, _), (10, _)] (Sub.cons rfl (Sub.cons rfl (Sub.cons rfl (Sub.cons rfl (Sub.cons rfl (Sub.nil _)))))) ?_
      refine XC.seq ?_
      refine XC.seq ?_
      refine XC.region ?_
      refine XO.v (V.move rfl) rfl ?_
      refine XO.v (V.errNil rfl Tryd.underlying26 rfl) rfl ?_
      refine XO.nil ?_
      refine XE.next ?_
      refine XC.keep [(0, _), (1, _), (2, _), (3, _), (10, _), (24, _)] (Sub.cons rfl (Sub.cons rfl (Sub.cons rfl (Sub.cons rfl (Sub.cons rfl (Sub.cons rfl (Sub.nil _))))))) ?_
      refine XC.condP rfl (fun h3 => ?_) (fun h3 => ?_)
      · skip
        have m0 : s.roomE n x ≠ 0 := by assumption
        refine XC.seq ?_
        refine XC.region ?_
        refine XO.v (V.move rfl) rfl ?_
        refine XO.v (V.assign rfl) rfl ?_
        refine XO.v (V.assign rfl) rfl ?_
        refine XO.nil ?_
        refine XE.next ?_
        refine XC.keep [(8, _), (9, _)] (Sub.cons rfl (Sub.cons rfl (Sub.nil _))) ?_
        refine XC.ret ?_
        refine XE.thenRet ?_
        refine XE.ret2 rfl rfl rfl (post_of (.cons .here (.cons .here (.cons .here .nil))) rfl ?_)
        have e : s.makeE n x k = s.roomE n x := by unfold FF.makeE; rw [if_neg (by omega), if_pos (by omega)]
        exact ⟨by rw [show s.makeV n x k = 0 from by unfold FF.makeV; rw [if_neg (by omega)], e], s, by unfold FF.make; rw [if_neg (by omega)], rfl, rfl, rfl⟩
      · skip
        obtain ⟨m1, m2, m3, m4⟩ := FF.roomE_0 (show s.roomE n x = 0 by simpa using h3)
        obtain ⟨i1, i2, i3, i4⟩ := FF.isE_k0 m1
        have i5 := i4 (by omega)
        have m0 : s.roomE n x = 0 := by simpa using h3
        refine XC.skip ?_
        refine XE.next ?_
        refine XC.keep [(0, _), (1, _), (2, _), (3, _)] (Sub.cons rfl (Sub.cons rfl (Sub.cons rfl (Sub.cons rfl (Sub.nil _))))) ?_
        refine XC.seq ?_
        refine XC.region ?_
        refine XO.v (V.move rfl) rfl ?_
        refine XO.v (V.move rfl) rfl ?_
        refine XO.v (V.move rfl) rfl ?_
        refine XO.v (V.move rfl) rfl ?_
        refine XO.v (V.nilCheckP rfl) rfl ?_
        refine XO.v (V.fieldAddr rfl fo_67_0) rfl ?_
        refine XO.v (V.indexArr rfl rfl ar_65 (by omega)) rfl ?_
        refine XO.v (V.fieldAddr rfl fo_64_1) rfl ?_
        refine XO.v (V.load rfl (inXM .here) (encF.ld_n_tree _ _ (by omega)) sc_3) rfl ?_
        refine XO.v (V.move rfl) rfl ?_
        refine XO.v (V.build (vs := #[(0, .int .i64 k), (1, .int .i64 (s.tree n)), (2, .int .i64 1), (7, .int .i64 n)]) rfl (v := .agg (nodeA k (s.tree n) 1 n)) (fun _ => by kernel_rfl)) rfl ?_
        refine XO.call rfl (t_fresh _ _ _ _ _ _ _) (.cons .here (.cons .here (.cons .here .nil))) cl_25 rfl ?_
        rintro _ _ (⟨h4, rfl, rfl⟩ | ⟨h4, rfl, rfl⟩)
        · skip
          refine XO.v (V.move rfl) rfl ?_
          refine XO.v (V.extract rfl rfl) rfl ?_
          refine XO.v (V.extract rfl rfl) rfl ?_
          refine XO.v (V.assign rfl) rfl ?_
          refine XO.v (V.assign rfl) rfl ?_
          refine XO.nil ?_
          refine XE.next ?_
          refine XC.keep [(0, _), (1, _), (2, _), (10, _), (11, _)] (Sub.cons rfl (Sub.cons rfl (Sub.cons rfl (Sub.cons rfl (Sub.cons rfl (Sub.nil _)))))) ?_
          refine XC.seq ?_
          refine XC.seq ?_
          refine XC.region ?_
          refine XO.v (V.move rfl) rfl ?_
          refine XO.v (V.ifaceNil rfl Tryd.underlying26 rfl) rfl ?_
          refine XO.nil ?_
          refine XE.next ?_
          refine XC.keep [(0, _), (1, _), (2, _), (10, _), (11, _), (42, _)] (Sub.cons rfl (Sub.cons rfl (Sub.cons rfl (Sub.cons rfl (Sub.cons rfl (Sub.cons rfl (Sub.nil _))))))) ?_
          refine XC.condT rfl rfl ?_
          refine XC.seq ?_
          refine XC.region ?_
          refine XO.v (V.move rfl) rfl ?_
          refine XO.v (V.assign rfl) rfl ?_
          refine XO.v (V.assign rfl) rfl ?_
          refine XO.nil ?_
          refine XE.next ?_
          refine XC.keep [(8, _), (9, _)] (Sub.cons rfl (Sub.cons rfl (Sub.nil _))) ?_
          refine XC.ret ?_
          refine XE.thenRet ?_
          refine XE.ret2 rfl rfl rfl (post_of (.cons .here (.cons .here (.cons .here .nil))) rfl ?_)
          have e : s.makeE n x k = 4 := by unfold FF.makeE; rw [if_neg (by omega), if_neg (by omega), if_pos (by assumption)]
          exact ⟨by rw [show s.makeV n x k = 0 from by unfold FF.makeV; rw [if_neg (by omega)], e], s, by unfold FF.make; rw [if_neg (by omega)], rfl, rfl, rfl⟩
        · skip
          refine XO.v (V.move rfl) rfl ?_
          refine XO.v (V.extract rfl rfl) rfl ?_
          refine XO.v (V.extract rfl rfl) rfl ?_
          refine XO.v (V.assign rfl) rfl ?_
          refine XO.v (V.assign rfl) rfl ?_
          refine XO.nil ?_
          refine XE.next ?_
          refine XC.keep [(0, _), (1, _), (2, _), (10, _), (11, _)] (Sub.cons rfl (Sub.cons rfl (Sub.cons rfl (Sub.cons rfl (Sub.cons rfl (Sub.nil _)))))) ?_
          refine XC.seq ?_
          refine XC.seq ?_
          refine XC.region ?_
          refine XO.v (V.move rfl) rfl ?_
          refine XO.v (V.nilNil rfl Tryd.underlying26 rfl) rfl ?_
          refine XO.nil ?_
          refine XE.next ?_
          refine XC.keep [(0, _), (1, _), (2, _), (10, _), (11, _), (42, _)] (Sub.cons rfl (Sub.cons rfl (Sub.cons rfl (Sub.cons rfl (Sub.cons rfl (Sub.cons rfl (Sub.nil _))))))) ?_
          refine XC.condF rfl rfl ?_
          refine XC.skip ?_
          refine XE.next ?_
          refine XC.keep [(0, _), (1, _), (2, _), (11, _)] (Sub.cons rfl (Sub.cons rfl (Sub.cons rfl (Sub.cons rfl (Sub.nil _))))) ?_
          refine XC.seq ?_
          refine XC.region ?_
          have f := FF.free_ok (show ¬ s.free < 0 by assumption)
          have hI2 : (s.setC s.free k (s.tree n) 1 n).toFF.Sh := hI.setN _ _ _ _ _ (by omega)
          refine XO.v (V.move rfl) rfl ?_
          refine XO.v (V.move rfl) rfl ?_
          refine XO.v (V.move rfl) rfl ?_
          refine XO.v (V.move rfl) rfl ?_
          refine XO.call rfl (t_put _ _ _ hI2 _ _ _ (by omega)) (.cons .here (.cons .here (.cons .here .nil))) cl_29 rfl ?_
          rintro _ _ ⟨rfl, t, ht, hp, hc, rfl⟩
          refine XO.nil ?_
          refine XE.next ?_
          refine XC.keep [(11, _)] (Sub.cons rfl (Sub.nil _)) ?_
          refine XC.seq ?_
          refine XC.region ?_
          refine XO.v (V.move rfl) rfl ?_
          refine XO.v (V.assign rfl) rfl ?_
          refine XO.v (V.assign rfl) rfl ?_
          refine XO.nil ?_
          refine XE.next ?_
          refine XC.keep [(8, _), (9, _)] (Sub.cons rfl (Sub.cons rfl (Sub.nil _))) ?_
          refine XC.ret ?_
          refine XE.ret2 rfl rfl rfl (post_of (.cons .here (.cons .here (.cons .here .nil))) rfl ?_)
          have e : s.makeE n x k = 0 := by unfold FF.makeE; rw [if_neg (by omega), if_neg (by omega), if_neg (by assumption)]
          exact ⟨by rw [show s.makeV n x k = s.free from by unfold FF.makeV; rw [if_pos e], e]; rfl, t, by rw [ht]; unfold FF.make; rw [if_pos e]; rfl, hp, hc, rfl⟩
  · skip
    refine XO.guardSkip rfl rfl rfl rfl rfl ?_
    refine XO.guardSkip rfl rfl rfl rfl rfl ?_
    refine XO.v (V.pick rfl rfl rfl rfl) rfl ?_
    refine XO.nil ?_
    refine XE.next ?_
    refine XC.keep [(0, _), (1, _), (2, _), (3, _), (17, _)] (Sub.cons rfl (Sub.cons rfl (Sub.cons rfl (Sub.cons rfl (Sub.cons rfl (Sub.nil _)))))) ?_
    refine XC.condF rfl rfl ?_
    refine XC.skip ?_
    refine XE.next ?_
    refine XC.keep [(0, _), (1, _), (2, _), (3, _)] (Sub.cons rfl (Sub.cons rfl (Sub.cons rfl (Sub.cons rfl (Sub.nil _))))) ?_
    refine XC.seq ?_
    refine XC.region ?_
    refine XO.v (V.move rfl) rfl ?_
    refine XO.v (V.move rfl) rfl ?_
    refine XO.v (V.move rfl) rfl ?_
    refine XO.call rfl (t_room _ _ _ hI _ _ (by assumption)) (.cons .here (.cons .here (.cons .here .nil))) cl_28 rfl ?_
    rintro _ _ ⟨rfl, rfl⟩
    refine XO.v (V.assign rfl) rfl ?_
    refine XO.nil ?_
    refine XE.next ?_
    refine XC.keep [(0, _), (1, _), (2, _), (3, _), (10, _)] (Sub.cons rfl (Sub.cons rfl (Sub.cons rfl (Sub.cons rfl (Sub.cons rfl (Sub.nil _)))))) ?_
    refine XC.seq ?_
    refine XC.seq ?_
    refine XC.region ?_
    refine XO.v (V.move rfl) rfl ?_
    refine XO.v (V.errNil rfl Tryd.underlying26 rfl) rfl ?_
    refine XO.nil ?_
    refine XE.next ?_
    refine XC.keep [(0, _), (1, _), (2, _), (3, _), (10, _), (24, _)] (Sub.cons rfl (Sub.cons rfl (Sub.cons rfl (Sub.cons rfl (Sub.cons rfl (Sub.cons rfl (Sub.nil _))))))) ?_
    refine XC.condP rfl (fun h5 => ?_) (fun h5 => ?_)
    · skip
      have m0 : s.roomE n x ≠ 0 := by assumption
      refine XC.seq ?_
      refine XC.region ?_
      refine XO.v (V.move rfl) rfl ?_
      refine XO.v (V.assign rfl) rfl ?_
      refine XO.v (V.assign rfl) rfl ?_
      refine XO.nil ?_
      refine XE.next ?_
      refine XC.keep [(8, _), (9, _)] (Sub.cons rfl (Sub.cons rfl (Sub.nil _))) ?_
      refine XC.ret ?_
      refine XE.thenRet ?_
      refine XE.ret2 rfl rfl rfl (post_of (.cons .here (.cons .here (.cons .here .nil))) rfl ?_)
      have e : s.makeE n x k = s.roomE n x := by unfold FF.makeE; rw [if_neg (by omega), if_pos (by omega)]
      exact ⟨by rw [show s.makeV n x k = 0 from by unfold FF.makeV; rw [if_neg (by omega)], e], s, by unfold FF.make; rw [if_neg (by omega)], rfl, rfl, rfl⟩
    · skip
      obtain ⟨m1, m2, m3, m4⟩ := FF.roomE_0 (show s.roomE n x = 0 by simpa using h5)
      obtain ⟨i1, i2, i3, i4⟩ := FF.isE_k0 m1
      have i5 := i4 (by omega)
      have m0 : s.roomE n x = 0 := by simpa using h5
      refine XC.skip ?_
      refine XE.next ?_
      refine XC.keep [(0, _), (1, _), (2, _), (3, _)] (Sub.cons rfl (Sub.cons rfl (Sub.cons rfl (Sub.cons rfl (Sub.nil _))))) ?_
      refine XC.seq ?_
      refine XC.region ?_
      refine XO.v (V.move rfl) rfl ?_
      refine XO.v (V.move rfl) rfl ?_
      refine XO.v (V.move rfl) rfl ?_
      refine XO.v (V.move rfl) rfl ?_
      refine XO.v (V.nilCheckP rfl) rfl ?_
      refine XO.v (V.fieldAddr rfl fo_67_0) rfl ?_
      refine XO.v (V.indexArr rfl rfl ar_65 (by omega)) rfl ?_
      refine XO.v (V.fieldAddr rfl fo_64_1) rfl ?_
      refine XO.v (V.load rfl (inXM .here) (encF.ld_n_tree _ _ (by omega)) sc_3) rfl ?_
      refine XO.v (V.move rfl) rfl ?_
      refine XO.v (V.build (vs := #[(0, .int .i64 k), (1, .int .i64 (s.tree n)), (2, .int .i64 1), (7, .int .i64 n)]) rfl (v := .agg (nodeA k (s.tree n) 1 n)) (fun _ => by kernel_rfl)) rfl ?_
      refine XO.call rfl (t_fresh _ _ _ _ _ _ _) (.cons .here (.cons .here (.cons .here .nil))) cl_25 rfl ?_
      rintro _ _ (⟨h6, rfl, rfl⟩ | ⟨h6, rfl, rfl⟩)
      · skip
        refine XO.v (V.move rfl) rfl ?_
        refine XO.v (V.extract rfl rfl) rfl ?_
        refine XO.v (V.extract rfl rfl) rfl ?_
        refine XO.v (V.assign rfl) rfl ?_
        refine XO.v (V.assign rfl) rfl ?_
        refine XO.nil ?_
        refine XE.next ?_
        refine XC.keep [(0, _), (1, _), (2, _), (10, _), (11, _)] (Sub.cons rfl (Sub.cons rfl (Sub.cons rfl (Sub.cons rfl (Sub.cons rfl (Sub.nil _)))))) ?_
        refine XC.seq ?_
        refine XC.seq ?_
        refine XC.region ?_
        refine XO.v (V.move rfl) rfl ?_
        refine XO.v (V.ifaceNil rfl Tryd.underlying26 rfl) rfl ?_
        refine XO.nil ?_
        refine XE.next ?_
        refine XC.keep [(0, _), (1, _), (2, _), (10, _), (11, _), (42, _)] (Sub.cons rfl (Sub.cons rfl (Sub.cons rfl (Sub.cons rfl (Sub.cons rfl (Sub.cons rfl (Sub.nil _))))))) ?_
        refine XC.condT rfl rfl ?_
        refine XC.seq ?_
        refine XC.region ?_
        refine XO.v (V.move rfl) rfl ?_
        refine XO.v (V.assign rfl) rfl ?_
        refine XO.v (V.assign rfl) rfl ?_
        refine XO.nil ?_
        refine XE.next ?_
        refine XC.keep [(8, _), (9, _)] (Sub.cons rfl (Sub.cons rfl (Sub.nil _))) ?_
        refine XC.ret ?_
        refine XE.thenRet ?_
        refine XE.ret2 rfl rfl rfl (post_of (.cons .here (.cons .here (.cons .here .nil))) rfl ?_)
        have e : s.makeE n x k = 4 := by unfold FF.makeE; rw [if_neg (by omega), if_neg (by omega), if_pos (by assumption)]
        exact ⟨by rw [show s.makeV n x k = 0 from by unfold FF.makeV; rw [if_neg (by omega)], e], s, by unfold FF.make; rw [if_neg (by omega)], rfl, rfl, rfl⟩
      · skip
        refine XO.v (V.move rfl) rfl ?_
        refine XO.v (V.extract rfl rfl) rfl ?_
        refine XO.v (V.extract rfl rfl) rfl ?_
        refine XO.v (V.assign rfl) rfl ?_
        refine XO.v (V.assign rfl) rfl ?_
        refine XO.nil ?_
        refine XE.next ?_
        refine XC.keep [(0, _), (1, _), (2, _), (10, _), (11, _)] (Sub.cons rfl (Sub.cons rfl (Sub.cons rfl (Sub.cons rfl (Sub.cons rfl (Sub.nil _)))))) ?_
        refine XC.seq ?_
        refine XC.seq ?_
        refine XC.region ?_
        refine XO.v (V.move rfl) rfl ?_
        refine XO.v (V.nilNil rfl Tryd.underlying26 rfl) rfl ?_
        refine XO.nil ?_
        refine XE.next ?_
        refine XC.keep [(0, _), (1, _), (2, _), (10, _), (11, _), (42, _)] (Sub.cons rfl (Sub.cons rfl (Sub.cons rfl (Sub.cons rfl (Sub.cons rfl (Sub.cons rfl (Sub.nil _))))))) ?_
        refine XC.condF rfl rfl ?_
        refine XC.skip ?_
        refine XE.next ?_
        refine XC.keep [(0, _), (1, _), (2, _), (11, _)] (Sub.cons rfl (Sub.cons rfl (Sub.cons rfl (Sub.cons rfl (Sub.nil _))))) ?_
        refine XC.seq ?_
        refine XC.region ?_
        have f := FF.free_ok (show ¬ s.free < 0 by assumption)
        have hI2 : (s.setC s.free k (s.tree n) 1 n).toFF.Sh := hI.setN _ _ _ _ _ (by omega)
        refine XO.v (V.move rfl) rfl ?_
        refine XO.v (V.move rfl) rfl ?_
        refine XO.v (V.move rfl) rfl ?_
        refine XO.v (V.move rfl) rfl ?_
        refine XO.call rfl (t_put _ _ _ hI2 _ _ _ (by omega)) (.cons .here (.cons .here (.cons .here .nil))) cl_29 rfl ?_
        rintro _ _ ⟨rfl, t, ht, hp, hc, rfl⟩
        refine XO.nil ?_
        refine XE.next ?_
        refine XC.keep [(11, _)] (Sub.cons rfl (Sub.nil _)) ?_
        refine XC.seq ?_
        refine XC.region ?_
        refine XO.v (V.move rfl) rfl ?_
        refine XO.v (V.assign rfl) rfl ?_
        refine XO.v (V.assign rfl) rfl ?_
        refine XO.nil ?_
        refine XE.next ?_
        refine XC.keep [(8, _), (9, _)] (Sub.cons rfl (Sub.cons rfl (Sub.nil _))) ?_
        refine XC.ret ?_
        refine XE.ret2 rfl rfl rfl (post_of (.cons .here (.cons .here (.cons .here .nil))) rfl ?_)
        have e : s.makeE n x k = 0 := by unfold FF.makeE; rw [if_neg (by omega), if_neg (by omega), if_neg (by assumption)]
        exact ⟨by rw [show s.makeV n x k = s.free from by unfold FF.makeV; rw [if_pos e], e]; rfl, t, by rw [ht]; unfold FF.make; rw [if_pos e]; rfl, hp, hc, rfl⟩

end Go.X
