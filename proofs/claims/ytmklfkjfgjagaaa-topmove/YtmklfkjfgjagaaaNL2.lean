import Derived.Test.YtmklfkjfgjagaaaNL1
namespace Go.X
open Go Go.Proofs
theorem cl_16 : callable Try.prog 16 = true := by kernel_rfl
theorem cl_21 : callable Try.prog 21 = true := by kernel_rfl
theorem cl_23 : callable Try.prog 23 = true := by kernel_rfl
theorem cl_25 : callable Try.prog 25 = true := by kernel_rfl
theorem cl_38 : callable Try.prog 38 = true := by kernel_rfl
theorem cl_51 : callable Try.prog 51 = true := by kernel_rfl
theorem cl_52 : callable Try.prog 52 = true := by kernel_rfl
theorem cl_53 : callable Try.prog 53 = true := by kernel_rfl
theorem cl_54 : callable Try.prog 54 = true := by kernel_rfl
theorem cl_56 : callable Try.prog 56 = true := by kernel_rfl
theorem cl_57 : callable Try.prog 57 = true := by kernel_rfl
set_option maxRecDepth 10000 in
set_option maxHeartbeats 8000000 in
theorem as_forest (bs bm : Nat) (s m : FC) (hU : m.toFF = s.toFF) (d : Int → Nat) (B : Int) (hO : s.toFF.Ok d B) (hB : B ≤ 900) : Spec Try.prog 14 [ptr bs 0 0, ptr bm 0 0]
    [.cells bs 0 321 (encF s), .fam fam40 (FC.rowsN 9 s), .fam fam40 (FC.rowsK 3 s), irow (FC.rP s) (FC.rC s) 3 (FC.toFF s).roots, .cells bm 0 321 (encM m), .fam fam40 (FC.rowsN 9 m), .fam fam40 (FC.rowsK 3 m), irow (FC.rP m) (FC.rC m) 3 (FC.toFF m).roots]
    (fun v H1 => v = .bool true ∧ H1 = [.cells bs 0 321 (encF s), .fam fam40 (FC.rowsN 9 s), .fam fam40 (FC.rowsK 3 s), irow (FC.rP s) (FC.rC s) 3 (FC.toFF s).roots, .cells bm 0 321 (encM m), .fam fam40 (FC.rowsN 9 m), .fam fam40 (FC.rowsK 3 m), irow (FC.rP m) (FC.rC m) 3 (FC.toFF m).roots]) := by
  have hS := hO.sh (by omega)
  have hSm : m.toFF.Sh := by rw [hU]; exact hS
  have hOf : ∀ n, m.ofR n = s.ofV n := fun n => by rw [hU]; exact FF.ofV_eq hO.inv n
  refine Spec.intro Try.func14 rfl rfl ?_
  intro W
  refine XC.seq ?_
  refine XC.region ?_
  refine XO.v (V.assign rfl) rfl ?_
  refine XO.nil ?_
  refine XE.next ?_
  refine XC.keep [(0, _), (1, _)] (Sub.cons rfl (Sub.cons rfl (Sub.nil _))) ?_
  refine XC.seq ?_
  refine XC.seq ?_
  refine XC.region ?_
  refine XO.v (V.assign rfl) rfl ?_
  refine XO.nil ?_
  refine XE.next ?_
  refine XC.keep [(0, _), (1, _), (5, _)] (Sub.cons rfl (Sub.cons rfl (Sub.cons rfl (Sub.nil _)))) ?_
  refine XC.block ?_
  refine XC.loop (σ := Int) (fun n => (41 - n).toNat) (fun n => -1 ≤ n ∧ n ≤ 41) (fun n => [(5, .int .i64 n), (0, ptr bs 0 0), (1, ptr bm 0 0)]) (fun n => XM W (foot [.cells bs 0 321 (encF s), .fam fam40 (FC.rowsN 9 s), .fam fam40 (FC.rowsK 3 s), irow (FC.rP s) (FC.rC s) 3 (FC.toFF s).roots, .cells bm 0 321 (encM m), .fam fam40 (FC.rowsN 9 m), .fam fam40 (FC.rowsK 3 m), irow (FC.rP m) (FC.rC m) 3 (FC.toFF m).roots]) [.cells bs 0 321 (encF s), .fam fam40 (FC.rowsN 9 s), .fam fam40 (FC.rowsK 3 s), irow (FC.rP s) (FC.rC s) 3 (FC.toFF s).roots, .cells bm 0 321 (encM m), .fam fam40 (FC.rowsN 9 m), .fam fam40 (FC.rowsK 3 m), irow (FC.rP m) (FC.rC m) 3 (FC.toFF m).roots]) (-1) ?_ (Sub.cons rfl (Sub.cons rfl (Sub.cons rfl (Sub.nil _)))) (fun _ hw => XM.pick (.cons .here (.cons .here (.cons .here (.cons .here (.cons .here (.cons .here (.cons .here (.cons .here .nil)))))))) hw) ?_
  · skip
    omega
  intro n hn
  refine XC.seq ?_
  refine XC.seq ?_
  refine XC.region ?_
  refine XO.v (V.move rfl) rfl ?_
  refine XO.v (V.cmp rfl rfl rfl) rfl ?_
  refine XO.nil ?_
  refine XE.next ?_
  refine XC.keep [(0, _), (1, _), (5, _), (33, _)] (Sub.cons rfl (Sub.cons rfl (Sub.cons rfl (Sub.cons rfl (Sub.nil _))))) ?_
  refine XC.condP rfl (fun h1 => ?_) (fun h1 => ?_)
  · skip
    refine XC.skip ?_
    refine XE.next ?_
    refine XC.keep [(0, _), (1, _), (5, _)] (Sub.cons rfl (Sub.cons rfl (Sub.cons rfl (Sub.nil _)))) ?_
    refine XC.seq ?_
    refine XC.block ?_
    refine XC.seq ?_
    refine XC.region ?_
    refine XO.v (V.move rfl) rfl ?_
    refine XO.v (V.move rfl) rfl ?_
    refine XO.call rfl (t_Of _ _ _ hS _) (.cons .here .nil) cl_23 rfl ?_
    rintro _ _ ⟨rfl, rfl⟩
    refine XO.v (V.move rfl) rfl ?_
    refine XO.v (V.extract rfl rfl) rfl ?_
    refine XO.v (V.extract rfl rfl) rfl ?_
    refine XO.allocZ (z := .agg NV.zero.arr) (m := 4) (C := encNV NV.zero) (by kernel_rfl) rfl (encNV_box _) rfl ?_
    intro bx
    refine XO.storeAgg rfl rfl .here (encNV_st _ _) ⟨rfl, rfl⟩ sz_55_4 ?_
    refine XO.v (V.assign rfl) rfl ?_
    refine XO.nil ?_
    refine XE.next ?_
    refine XC.keep [(0, _), (1, _), (5, _), (6, _), (7, _)] (Sub.cons rfl (Sub.cons rfl (Sub.cons rfl (Sub.cons rfl (Sub.cons rfl (Sub.nil _)))))) ?_
    refine XC.seq ?_
    refine XC.region ?_
    refine XO.v (V.move rfl) rfl ?_
    refine XO.v (V.move rfl) rfl ?_
    refine XO.call rfl (r_Of _ _ _ hSm _) (.cons (.there (.there (.there (.there (.there .here))))) .nil) cl_51 rfl ?_
    rintro _ _ ⟨rfl, rfl⟩
    refine XO.v (V.move rfl) rfl ?_
    refine XO.v (V.extract rfl rfl) rfl ?_
    refine XO.v (V.extract rfl rfl) rfl ?_
    refine XO.allocZ (z := .agg NV.zero.arr) (m := 4) (C := encNV NV.zero) (by kernel_rfl) rfl (encNV_box _) rfl ?_
    intro by_
    refine XO.storeAgg rfl rfl .here (encNV_st _ _) ⟨rfl, rfl⟩ sz_55_4 ?_
    refine XO.v (V.assign rfl) rfl ?_
    refine XO.nil ?_
    refine XE.next ?_
    refine XC.keep [(0, _), (1, _), (5, _), (6, _), (7, _), (8, _), (9, _)] (Sub.cons rfl (Sub.cons rfl (Sub.cons rfl (Sub.cons rfl (Sub.cons rfl (Sub.cons rfl (Sub.cons rfl (Sub.nil _)))))))) ?_
    refine XC.seq ?_
    refine XC.region ?_
    refine XO.v (V.move rfl) rfl ?_
    refine XO.v (V.move rfl) rfl ?_
    refine XO.call rfl (t_List _ _ _ hS _) (.cons (.there (.there (.there .here))) (.cons (.there (.there (.there .here))) (.cons (.there (.there (.there .here))) .nil))) cl_21 rfl ?_
    rintro _ _ (⟨i0, rfl, rfl⟩ | ⟨i0, p1, c1, rfl, rfl⟩)
    · skip
      refine XO.v (V.move rfl) rfl ?_
      refine XO.v (V.extract rfl rfl) rfl ?_
      refine XO.v (V.extract rfl rfl) rfl ?_
      refine XO.v (V.assign rfl) rfl ?_
      refine XO.v (V.assign rfl) rfl ?_
      refine XO.nil ?_
      refine XE.next ?_
      refine XC.keep [(0, _), (1, _), (5, _), (6, _), (7, _), (8, _), (9, _), (10, _), (11, _)] (Sub.cons rfl (Sub.cons rfl (Sub.cons rfl (Sub.cons rfl (Sub.cons rfl (Sub.cons rfl (Sub.cons rfl (Sub.cons rfl (Sub.cons rfl (Sub.nil _)))))))))) ?_
      refine XC.seq ?_
      refine XC.region ?_
      refine XO.v (V.move rfl) rfl ?_
      refine XO.v (V.move rfl) rfl ?_
      refine XO.call rfl (r_List_no _ _ _ _ (by rw [hU]; exact i0)) (.cons (.there (.there (.there (.there .here)))) .nil) cl_52 rfl ?_
      rintro _ _ ⟨rfl, rfl⟩
      refine XO.v (V.move rfl) rfl ?_
      refine XO.v (V.extract rfl rfl) rfl ?_
      refine XO.v (V.extract rfl rfl) rfl ?_
      refine XO.v (V.assign rfl) rfl ?_
      refine XO.v (V.assign rfl) rfl ?_
      refine XO.nil ?_
      refine XE.next ?_
      refine XC.keep [(0, _), (1, _), (5, _), (6, _), (7, _), (8, _), (9, _), (10, _), (11, _), (12, _), (13, _)] (Sub.cons rfl (Sub.cons rfl (Sub.cons rfl (Sub.cons rfl (Sub.cons rfl (Sub.cons rfl (Sub.cons rfl (Sub.cons rfl (Sub.cons rfl (Sub.cons rfl (Sub.cons rfl (Sub.nil _)))))))))))) ?_
      refine XC.seq ?_
      refine XC.seq ?_
      refine XC.region ?_
      refine XO.v (V.loadAgg rfl (inXM (.there (.there (.there (.there (.there .here)))))) (encNV_agg _) ag_55 sz_55_4) rfl ?_
      refine XO.v (V.loadAgg rfl (inXM (.there (.there (.there (.there .here))))) (encNV_is (hOf _)) ag_55 sz_55_4) rfl ?_
      refine XO.v (V.aggNe rfl rfl aggEq (NV.ints _)) rfl ?_
      refine XO.v (V.move rfl) rfl ?_
      refine XO.guardRun rfl rfl rfl ?_
      refine XO.v (V.move rfl) rfl ?_
      refine XO.guardRun rfl rfl rfl ?_
      refine XO.v (V.move rfl) rfl ?_
      refine XO.guardRun rfl rfl rfl ?_
      refine XO.call rfl (same_any _ _ (by first | omega | exact FF.isE_nn _ _ _)) .nil cl_39 rfl ?_
      rintro _ _ ⟨rfl, rfl⟩
      refine XO.guardRun rfl rfl rfl ?_
      refine XO.v (V.notP rfl) rfl ?_
      refine XO.v (V.pick rfl rfl rfl rfl) rfl ?_
      refine XO.v (V.move rfl) rfl ?_
      refine XO.splitF (d := 69) rfl (by rw [hU]; simp) ?_
      refine XO.guardRun rfl rfl rfl ?_
      refine XO.v (V.move rfl) rfl ?_
      refine XO.guardRun rfl rfl rfl ?_
      refine XO.v (V.move rfl) rfl ?_
      refine XO.guardRun rfl rfl rfl ?_
      refine XO.call rfl (same_any _ _ (by first | omega | exact FF.isE_nn _ _ _)) .nil cl_39 rfl ?_
      rintro _ _ ⟨rfl, rfl⟩
      refine XO.guardRun rfl rfl rfl ?_
      refine XO.v (V.notP rfl) rfl ?_
      refine XO.v (V.pick rfl rfl rfl rfl) rfl ?_
      refine XO.v (V.move rfl) rfl ?_
      refine XO.splitF (d := 75) rfl (by rw [hU]; simp [i0]) ?_
      refine XO.guardRun rfl rfl rfl ?_
      refine XO.v (V.move rfl) rfl ?_
      refine XO.guardRun rfl rfl rfl ?_
      refine XO.v (V.move rfl) rfl ?_
      refine XO.guardRun rfl rfl rfl ?_
      refine XO.call rfl (same_texts_nil) .nil cl_25 rfl ?_
      rintro _ _ ⟨rfl, rfl⟩
      refine XO.guardRun rfl rfl rfl ?_
      refine XO.v (V.not rfl) rfl ?_
      refine XO.v (V.pick rfl rfl rfl rfl) rfl ?_
      refine XO.nil ?_
      refine XE.next ?_
      refine XC.keep [(0, _), (1, _), (5, _), (12, _), (80, _)] (Sub.cons rfl (Sub.cons rfl (Sub.cons rfl (Sub.cons rfl (Sub.cons rfl (Sub.nil _)))))) ?_
      refine XC.condF rfl rfl ?_
      refine XC.skip ?_
      refine XE.next ?_
      refine XC.keep [(0, _), (1, _), (5, _), (12, _)] (Sub.cons rfl (Sub.cons rfl (Sub.cons rfl (Sub.cons rfl (Sub.nil _))))) ?_
      refine XC.seq ?_
      refine XC.region ?_
      refine XO.v (V.move rfl) rfl ?_
      refine XO.v (V.move rfl) rfl ?_
      refine XO.call rfl (t_Read _ _ _ hS _ _ _) (.cons (.there .here) .nil) cl_22 rfl ?_
      rintro _ _ ⟨rfl, rfl⟩
      refine XO.v (V.move rfl) rfl ?_
      refine XO.v (V.extract rfl rfl) rfl ?_
      refine XO.v (V.extract rfl rfl) rfl ?_
      refine XO.v (V.assign rfl) rfl ?_
      refine XO.v (V.assign rfl) rfl ?_
      refine XO.nil ?_
      refine XE.next ?_
      refine XC.keep [(0, _), (1, _), (5, _), (12, _), (14, _), (15, _)] (Sub.cons rfl (Sub.cons rfl (Sub.cons rfl (Sub.cons rfl (Sub.cons rfl (Sub.cons rfl (Sub.nil _))))))) ?_
      refine XC.seq ?_
      refine XC.region ?_
      refine XO.v (V.move rfl) rfl ?_
      refine XO.v (V.move rfl) rfl ?_
      refine XO.call rfl (r_Read _ _ _ hSm _ _ _) (.cons (.there .here) .nil) cl_47 rfl ?_
      rintro _ _ ⟨rfl, rfl⟩
      refine XO.v (V.move rfl) rfl ?_
      refine XO.v (V.extract rfl rfl) rfl ?_
      refine XO.v (V.extract rfl rfl) rfl ?_
      refine XO.v (V.assign rfl) rfl ?_
      refine XO.v (V.assign rfl) rfl ?_
      refine XO.nil ?_
      refine XE.next ?_
      refine XC.keep [(0, _), (1, _), (5, _), (12, _), (14, _), (15, _), (16, _), (17, _)] (Sub.cons rfl (Sub.cons rfl (Sub.cons rfl (Sub.cons rfl (Sub.cons rfl (Sub.cons rfl (Sub.cons rfl (Sub.cons rfl (Sub.nil _))))))))) ?_
      refine XC.seq ?_
      refine XC.region ?_
      refine XO.v (V.move rfl) rfl ?_
      refine XO.v (V.move rfl) rfl ?_
      refine XO.call rfl (t_Up _ _ _ _) (.cons (.there .here) .nil) cl_53 rfl ?_
      rintro _ _ ⟨rfl, rfl⟩
      refine XO.v (V.move rfl) rfl ?_
      refine XO.v (V.extract rfl rfl) rfl ?_
      refine XO.v (V.extract rfl rfl) rfl ?_
      refine XO.v (V.assign rfl) rfl ?_
      refine XO.v (V.assign rfl) rfl ?_
      refine XO.nil ?_
      refine XE.next ?_
      refine XC.keep [(0, _), (1, _), (5, _), (12, _), (14, _), (15, _), (16, _), (17, _), (18, _), (19, _)] (Sub.cons rfl (Sub.cons rfl (Sub.cons rfl (Sub.cons rfl (Sub.cons rfl (Sub.cons rfl (Sub.cons rfl (Sub.cons rfl (Sub.cons rfl (Sub.cons rfl (Sub.nil _))))))))))) ?_
      refine XC.seq ?_
      refine XC.region ?_
      refine XO.v (V.move rfl) rfl ?_
      refine XO.v (V.move rfl) rfl ?_
      refine XO.call rfl (t_Tree _ _ _ _) (.cons .here .nil) cl_54 rfl ?_
      rintro _ _ ⟨rfl, rfl⟩
      refine XO.v (V.move rfl) rfl ?_
      refine XO.v (V.extract rfl rfl) rfl ?_
      refine XO.v (V.extract rfl rfl) rfl ?_
      refine XO.v (V.assign rfl) rfl ?_
      refine XO.v (V.assign rfl) rfl ?_
      refine XO.nil ?_
      refine XE.next ?_
      refine XC.keep [(0, _), (1, _), (5, _), (12, _), (14, _), (15, _), (16, _), (17, _), (18, _), (19, _), (20, _), (21, _)] (Sub.cons rfl (Sub.cons rfl (Sub.cons rfl (Sub.cons rfl (Sub.cons rfl (Sub.cons rfl (Sub.cons rfl (Sub.cons rfl (Sub.cons rfl (Sub.cons rfl (Sub.cons rfl (Sub.cons rfl (Sub.nil _))))))))))))) ?_
      refine XC.seq ?_
      refine XC.seq ?_
      refine XC.region ?_
      refine XO.v (V.move rfl) rfl ?_
      refine XO.v (V.move rfl) rfl ?_
      refine XO.v (V.strCmp rfl rfl rfl) rfl ?_
      refine XO.v (V.move rfl) rfl ?_
      refine XO.splitF (d := 108) rfl (by rw [hU]; simp) ?_
      refine XO.guardRun rfl rfl rfl ?_
      refine XO.v (V.move rfl) rfl ?_
      refine XO.guardRun rfl rfl rfl ?_
      refine XO.v (V.move rfl) rfl ?_
      refine XO.guardRun rfl rfl rfl ?_
      refine XO.call rfl (same_any _ _ (by first | omega | exact FF.readE_nn _ _ _ _)) .nil cl_39 rfl ?_
      rintro _ _ ⟨rfl, rfl⟩
      refine XO.guardRun rfl rfl rfl ?_
      refine XO.v (V.notP rfl) rfl ?_
      refine XO.v (V.pick rfl rfl rfl rfl) rfl ?_
      refine XO.v (V.move rfl) rfl ?_
      refine XO.splitF (d := 114) rfl (by rw [hU]; simp) ?_
      refine XO.guardRun rfl rfl rfl ?_
      refine XO.v (V.move rfl) rfl ?_
      refine XO.guardRun rfl rfl rfl ?_
      refine XO.v (V.move rfl) rfl ?_
      refine XO.guardRun rfl rfl rfl ?_
      refine XO.v (V.move rfl) rfl ?_
      refine XO.guardRun rfl rfl rfl ?_
      refine XO.call rfl (r_Is _ _ _ _ _) (.cons (.there .here) .nil) cl_55 rfl ?_
      rintro _ _ ⟨rfl, rfl⟩
      refine XO.guardRun rfl rfl rfl ?_
      refine XO.call rfl (same_any _ _ (by first | omega | exact FF.isE_nn _ _ _)) .nil cl_39 rfl ?_
      rintro _ _ ⟨rfl, rfl⟩
      refine XO.guardRun rfl rfl rfl ?_
      refine XO.v (V.notP rfl) rfl ?_
      refine XO.v (V.pick rfl rfl rfl rfl) rfl ?_
      refine XO.v (V.move rfl) rfl ?_
      refine XO.splitF (d := 122) rfl (by rw [hU]; simp) ?_
      refine XO.guardRun rfl rfl rfl ?_
      refine XO.v (V.move rfl) rfl ?_
      refine XO.guardRun rfl rfl rfl ?_
      refine XO.v (V.move rfl) rfl ?_
      refine XO.guardRun rfl rfl rfl ?_
      refine XO.v (V.move rfl) rfl ?_
      refine XO.guardRun rfl rfl rfl ?_
      refine XO.call rfl (r_Is _ _ _ _ _) (.cons .here .nil) cl_55 rfl ?_
      rintro _ _ ⟨rfl, rfl⟩
      refine XO.guardRun rfl rfl rfl ?_
      refine XO.call rfl (same_any _ _ (by first | omega | exact FF.isE_nn _ _ _)) .nil cl_39 rfl ?_
      rintro _ _ ⟨rfl, rfl⟩
      refine XO.guardRun rfl rfl rfl ?_
      refine XO.v (V.notP rfl) rfl ?_
      refine XO.v (V.pick rfl rfl rfl rfl) rfl ?_
      refine XO.nil ?_
      refine XE.next ?_
      refine XC.keep [(0, _), (1, _), (5, _), (12, _), (18, _), (19, _), (20, _), (21, _), (129, _)] (Sub.cons rfl (Sub.cons rfl (Sub.cons rfl (Sub.cons rfl (Sub.cons rfl (Sub.cons rfl (Sub.cons rfl (Sub.cons rfl (Sub.cons rfl (Sub.nil _)))))))))) ?_
      refine XC.condFP rfl (by rw [hU]; simp) ?_
      refine XC.skip ?_
      refine XE.next ?_
      refine XC.keep [(0, _), (1, _), (5, _), (12, _), (18, _), (19, _), (20, _), (21, _)] (Sub.cons rfl (Sub.cons rfl (Sub.cons rfl (Sub.cons rfl (Sub.cons rfl (Sub.cons rfl (Sub.cons rfl (Sub.cons rfl (Sub.nil _))))))))) ?_
      refine XC.seq ?_
      refine XC.seq ?_
      refine XC.region ?_
      refine XO.v (V.move rfl) rfl ?_
      refine XO.v (V.errNil rfl Try.underlying43 rfl) rfl ?_
      refine XO.v (V.move rfl) rfl ?_
      refine XO.splitF (d := 132) rfl (i0) ?_
      refine XO.guardSkip rfl rfl rfl rfl rfl ?_
      refine XO.guardSkip rfl rfl rfl rfl rfl ?_
      refine XO.guardSkip rfl rfl rfl rfl rfl ?_
      refine XO.guardSkip rfl rfl rfl rfl rfl ?_
      refine XO.guardSkip rfl rfl rfl rfl rfl ?_
      refine XO.guardSkip rfl rfl rfl rfl rfl ?_
      refine XO.guardSkip rfl rfl rfl rfl rfl ?_
      refine XO.guardSkip rfl rfl rfl rfl rfl ?_
      refine XO.guardSkip rfl rfl rfl rfl rfl ?_
      refine XO.v (V.pick rfl rfl rfl rfl) rfl ?_
      refine XO.v (V.move rfl) rfl ?_
      refine XO.guardRun rfl rfl rfl ?_
      refine XO.v (V.move rfl) rfl ?_
      refine XO.guardRun rfl rfl rfl ?_
      refine XO.v (V.errNil rfl Try.underlying43 rfl) rfl ?_
      refine XO.guardRun rfl rfl rfl ?_
      refine XO.v (V.move rfl) rfl ?_
      refine XO.splitP (d := 146) rfl (fun h8 => ?_) (fun h8 => ?_)
      · skip
        obtain ⟨i1, i2, i3⟩ := FF.isE_0 (show s.isE n 0 = 0 by assumption)
        refine XO.guardRun rfl rfl rfl ?_
        refine XO.v (V.move rfl) rfl ?_
        refine XO.guardRun rfl rfl rfl ?_
        refine XO.v (V.move rfl) rfl ?_
        refine XO.guardRun rfl rfl rfl ?_
        refine XO.v (V.move rfl) rfl ?_
        refine XO.guardRun rfl rfl rfl ?_
        refine XO.v (V.nilCheckP rfl) rfl ?_
        refine XO.guardRun rfl rfl rfl ?_
        refine XO.v (V.fieldAddr rfl fo_34_0) rfl ?_
        refine XO.guardRun rfl rfl rfl ?_
        refine XO.v (V.indexArr rfl rfl ar_32 (by omega)) rfl ?_
        refine XO.guardRun rfl rfl rfl ?_
        refine XO.v (V.fieldAddr rfl fo_31_1) rfl ?_
        refine XO.guardRun rfl rfl rfl ?_
        refine XO.v (V.load rfl (inXM .here) (encM.ld_N_Tree _ _ (by omega)) sc_3) rfl ?_
        refine XO.guardRun rfl rfl rfl ?_
        refine XO.v (V.cmp rfl rfl rfl) rfl ?_
        refine XO.guardRun rfl rfl rfl ?_
        refine XO.v (V.pick rfl rfl rfl rfl) rfl ?_
        refine XO.v (V.pick rfl rfl rfl rfl) rfl ?_
        refine XO.v (V.move rfl) rfl ?_
        refine XO.splitF (d := 158) rfl (by rw [if_pos (by first | assumption | exact FF.isE_20 i0), hU]; simp) ?_
        refine XO.guardRun rfl rfl rfl ?_
        refine XO.v (V.move rfl) rfl ?_
        refine XO.guardRun rfl rfl rfl ?_
        refine XO.v (V.errNil rfl Try.underlying43 rfl) rfl ?_
        refine XO.guardRun rfl rfl rfl ?_
        refine XO.v (V.move rfl) rfl ?_
        refine XO.splitT (d := 161) rfl (i0) ?_
        refine XO.guardRun rfl rfl rfl ?_
        refine XO.v (V.move rfl) rfl ?_
        refine XO.guardRun rfl rfl rfl ?_
        refine XO.v (V.cmp rfl rfl rfl) rfl ?_
        refine XO.guardRun rfl rfl rfl ?_
        refine XO.v (V.pick rfl rfl rfl rfl) rfl ?_
        refine XO.v (V.pick rfl rfl rfl rfl) rfl ?_
        refine XO.v (V.move rfl) rfl ?_
        refine XO.splitF (d := 166) rfl (by rw [if_neg i0]; simp) ?_
        refine XO.guardRun rfl rfl rfl ?_
        refine XO.v (V.move rfl) rfl ?_
        refine XO.guardRun rfl rfl rfl ?_
        refine XO.v (V.errNil rfl Try.underlying43 rfl) rfl ?_
        refine XO.guardRun rfl rfl rfl ?_
        refine XO.v (V.move rfl) rfl ?_
        refine XO.splitF (d := 169) rfl (fun q => q (by assumption)) ?_
        refine XO.guardSkip rfl rfl rfl rfl rfl ?_
        refine XO.guardSkip rfl rfl rfl rfl rfl ?_
        refine XO.guardRun rfl rfl rfl ?_
        refine XO.v (V.pick rfl rfl rfl rfl) rfl ?_
        refine XO.v (V.pick rfl rfl rfl rfl) rfl ?_
        refine XO.nil ?_
        refine XE.next ?_
        refine XC.keep [(0, _), (1, _), (5, _), (12, _), (173, _)] (Sub.cons rfl (Sub.cons rfl (Sub.cons rfl (Sub.cons rfl (Sub.cons rfl (Sub.nil _)))))) ?_
        refine XC.condF rfl rfl ?_
        refine XC.skip ?_
        refine XE.next ?_
        refine XC.keep [(0, _), (1, _), (5, _), (12, _)] (Sub.cons rfl (Sub.cons rfl (Sub.cons rfl (Sub.cons rfl (Sub.nil _))))) ?_
        refine XC.seq ?_
        refine XC.region ?_
        refine XO.v (V.assign rfl) rfl ?_
        refine XO.nil ?_
        refine XE.next ?_
        refine XC.keep [(0, _), (1, _), (5, _), (12, _), (22, _)] (Sub.cons rfl (Sub.cons rfl (Sub.cons rfl (Sub.cons rfl (Sub.cons rfl (Sub.nil _)))))) ?_
        refine XC.block ?_
        refine XC.loop (σ := Int) (fun i => 0) (fun i => 0 ≤ i) (fun i => [(22, .int .i64 i), (0, ptr bs 0 0), (1, ptr bm 0 0), (5, .int .i64 n), (12, .slice none 0 0)]) (fun i => XM W (foot [.cells bs 0 321 (encF s), .fam fam40 (FC.rowsN 9 s), .fam fam40 (FC.rowsK 3 s), irow (FC.rP s) (FC.rC s) 3 (FC.toFF s).roots, .cells bm 0 321 (encM m), .fam fam40 (FC.rowsN 9 m), .fam fam40 (FC.rowsK 3 m), irow (FC.rP m) (FC.rC m) 3 (FC.toFF m).roots]) [.cells bs 0 321 (encF s), .fam fam40 (FC.rowsN 9 s), .fam fam40 (FC.rowsK 3 s), irow (FC.rP s) (FC.rC s) 3 (FC.toFF s).roots, .cells bm 0 321 (encM m), .fam fam40 (FC.rowsN 9 m), .fam fam40 (FC.rowsK 3 m), irow (FC.rP m) (FC.rC m) 3 (FC.toFF m).roots]) (0) ?_ (Sub.cons rfl (Sub.cons rfl (Sub.cons rfl (Sub.cons rfl (Sub.cons rfl (Sub.nil _)))))) (fun _ hw => XM.pick (.cons (.there .here) (.cons (.there .here) (.cons (.there .here) (.cons (.there (.there (.there .here))) (.cons .here (.cons (.there (.there .here)) (.cons (.there (.there .here)) (.cons (.there (.there .here)) .nil)))))))) hw) ?_
        · skip
          omega
        intro i hi
        refine XC.seq ?_
        refine XC.seq ?_
        refine XC.region ?_
        refine XO.v (V.move rfl) rfl ?_
        refine XO.v (V.move rfl) rfl ?_
        refine XO.v (V.lenSl rfl Try.underlying28) rfl ?_
        refine XO.v (V.cmp rfl rfl rfl) rfl ?_
        refine XO.nil ?_
        refine XE.next ?_
        refine XC.keep [(0, _), (1, _), (5, _), (12, _), (22, _), (177, _)] (Sub.cons rfl (Sub.cons rfl (Sub.cons rfl (Sub.cons rfl (Sub.cons rfl (Sub.cons rfl (Sub.nil _))))))) ?_
        refine XC.condFP rfl (by simp; omega) ?_
        refine XC.exit ?_
        refine XE.thenExit ?_
        refine XE.thenExit ?_
        refine XE.blockExit ?_
        refine XE.blockNormal ?_
        refine XE.next ?_
        refine XC.keep [(0, _), (1, _), (5, _)] (Sub.cons rfl (Sub.cons rfl (Sub.cons rfl (Sub.nil _)))) ?_
        refine XC.region ?_
        refine XO.v (V.move rfl) rfl ?_
        refine XO.v (V.add rfl rfl _ (IntWalk.i64_in _ (by omega))) rfl ?_
        refine XO.v (V.assign rfl) rfl ?_
        refine XO.nil ?_
        refine XE.again (n + 1) ?_ ?_ (Sub.cons rfl (Sub.cons rfl (Sub.cons rfl (Sub.nil _)))) (fun _ hw => XM.pick (.cons .here (.cons .here (.cons .here (.cons .here (.cons .here (.cons .here (.cons .here (.cons .here .nil)))))))) hw)
        · skip
          (first | omega | (simp; done) | (simp; omega))
        · skip
          (first | omega | (simp; done) | (simp; omega))
      · skip
        refine XO.guardSkip rfl rfl rfl rfl rfl ?_
        refine XO.guardSkip rfl rfl rfl rfl rfl ?_
        refine XO.guardSkip rfl rfl rfl rfl rfl ?_
        refine XO.guardSkip rfl rfl rfl rfl rfl ?_
        refine XO.guardSkip rfl rfl rfl rfl rfl ?_
        refine XO.guardSkip rfl rfl rfl rfl rfl ?_
        refine XO.guardSkip rfl rfl rfl rfl rfl ?_
        refine XO.guardSkip rfl rfl rfl rfl rfl ?_
        refine XO.guardSkip rfl rfl rfl rfl rfl ?_
        refine XO.guardRun rfl rfl rfl ?_
        refine XO.v (V.pick rfl rfl rfl rfl) rfl ?_
        refine XO.v (V.pick rfl rfl rfl rfl) rfl ?_
        refine XO.v (V.move rfl) rfl ?_
        refine XO.guardRun rfl rfl rfl ?_
        refine XO.v (V.move rfl) rfl ?_
        refine XO.guardRun rfl rfl rfl ?_
        refine XO.v (V.errNil rfl Try.underlying43 rfl) rfl ?_
        refine XO.guardRun rfl rfl rfl ?_
        refine XO.v (V.move rfl) rfl ?_
        refine XO.splitT (d := 161) rfl (i0) ?_
        refine XO.guardRun rfl rfl rfl ?_
        refine XO.v (V.move rfl) rfl ?_
        refine XO.guardRun rfl rfl rfl ?_
        refine XO.v (V.cmp rfl rfl rfl) rfl ?_
        refine XO.guardRun rfl rfl rfl ?_
        refine XO.v (V.pick rfl rfl rfl rfl) rfl ?_
        refine XO.v (V.pick rfl rfl rfl rfl) rfl ?_
        refine XO.v (V.move rfl) rfl ?_
        refine XO.splitF (d := 166) rfl (by rw [if_neg i0]; simp) ?_
        refine XO.guardRun rfl rfl rfl ?_
        refine XO.v (V.move rfl) rfl ?_
        refine XO.guardRun rfl rfl rfl ?_
        refine XO.v (V.errNil rfl Try.underlying43 rfl) rfl ?_
        refine XO.guardRun rfl rfl rfl ?_
        refine XO.v (V.move rfl) rfl ?_
        refine XO.splitT (d := 169) rfl (by assumption) ?_
        refine XO.guardRun rfl rfl rfl ?_
        refine XO.v (V.move rfl) rfl ?_
        refine XO.guardRun rfl rfl rfl ?_
        refine XO.v (V.cmp rfl rfl rfl) rfl ?_
        refine XO.guardRun rfl rfl rfl ?_
        refine XO.v (V.pick rfl rfl rfl rfl) rfl ?_
        refine XO.v (V.pick rfl rfl rfl rfl) rfl ?_
        refine XO.nil ?_
        refine XE.next ?_
        refine XC.keep [(0, _), (1, _), (5, _), (12, _), (173, _)] (Sub.cons rfl (Sub.cons rfl (Sub.cons rfl (Sub.cons rfl (Sub.cons rfl (Sub.nil _)))))) ?_
        refine XC.condFP rfl (by rw [if_neg (by assumption)]; simp) ?_
        refine XC.skip ?_
        refine XE.next ?_
        refine XC.keep [(0, _), (1, _), (5, _), (12, _)] (Sub.cons rfl (Sub.cons rfl (Sub.cons rfl (Sub.cons rfl (Sub.nil _))))) ?_
        refine XC.seq ?_
        refine XC.region ?_
        refine XO.v (V.assign rfl) rfl ?_
        refine XO.nil ?_
        refine XE.next ?_
        refine XC.keep [(0, _), (1, _), (5, _), (12, _), (22, _)] (Sub.cons rfl (Sub.cons rfl (Sub.cons rfl (Sub.cons rfl (Sub.cons rfl (Sub.nil _)))))) ?_
        refine XC.block ?_
        refine XC.loop (σ := Int) (fun i => 0) (fun i => 0 ≤ i) (fun i => [(22, .int .i64 i), (0, ptr bs 0 0), (1, ptr bm 0 0), (5, .int .i64 n), (12, .slice none 0 0)]) (fun i => XM W (foot [.cells bs 0 321 (encF s), .fam fam40 (FC.rowsN 9 s), .fam fam40 (FC.rowsK 3 s), irow (FC.rP s) (FC.rC s) 3 (FC.toFF s).roots, .cells bm 0 321 (encM m), .fam fam40 (FC.rowsN 9 m), .fam fam40 (FC.rowsK 3 m), irow (FC.rP m) (FC.rC m) 3 (FC.toFF m).roots]) [.cells bs 0 321 (encF s), .fam fam40 (FC.rowsN 9 s), .fam fam40 (FC.rowsK 3 s), irow (FC.rP s) (FC.rC s) 3 (FC.toFF s).roots, .cells bm 0 321 (encM m), .fam fam40 (FC.rowsN 9 m), .fam fam40 (FC.rowsK 3 m), irow (FC.rP m) (FC.rC m) 3 (FC.toFF m).roots]) (0) ?_ (Sub.cons rfl (Sub.cons rfl (Sub.cons rfl (Sub.cons rfl (Sub.cons rfl (Sub.nil _)))))) (fun _ hw => XM.pick (.cons (.there .here) (.cons (.there .here) (.cons (.there .here) (.cons (.there (.there (.there .here))) (.cons .here (.cons (.there (.there .here)) (.cons (.there (.there .here)) (.cons (.there (.there .here)) .nil)))))))) hw) ?_
        · skip
          omega
        intro i hi
        refine XC.seq ?_
        refine XC.seq ?_
        refine XC.region ?_
        refine XO.v (V.move rfl) rfl ?_
        refine XO.v (V.move rfl) rfl ?_
        refine XO.v (V.lenSl rfl Try.underlying28) rfl ?_
        refine XO.v (V.cmp rfl rfl rfl) rfl ?_
        refine XO.nil ?_
        refine XE.next ?_
        refine XC.keep [(0, _), (1, _), (5, _), (12, _), (22, _), (177, _)] (Sub.cons rfl (Sub.cons rfl (Sub.cons rfl (Sub.cons rfl (Sub.cons rfl (Sub.cons rfl (Sub.nil _))))))) ?_
        refine XC.condFP rfl (by simp; omega) ?_
        refine XC.exit ?_
        refine XE.thenExit ?_
        refine XE.thenExit ?_
        refine XE.blockExit ?_
        refine XE.blockNormal ?_
        refine XE.next ?_
        refine XC.keep [(0, _), (1, _), (5, _)] (Sub.cons rfl (Sub.cons rfl (Sub.cons rfl (Sub.nil _)))) ?_
        refine XC.region ?_
        refine XO.v (V.move rfl) rfl ?_
        refine XO.v (V.add rfl rfl _ (IntWalk.i64_in _ (by omega))) rfl ?_
        refine XO.v (V.assign rfl) rfl ?_
        refine XO.nil ?_
        refine XE.again (n + 1) ?_ ?_ (Sub.cons rfl (Sub.cons rfl (Sub.cons rfl (Sub.nil _)))) (fun _ hw => XM.pick (.cons .here (.cons .here (.cons .here (.cons .here (.cons .here (.cons .here (.cons .here (.cons .here .nil)))))))) hw)
        · skip
          (first | omega | (simp; done) | (simp; omega))
        · skip
          (first | omega | (simp; done) | (simp; omega))
    · skip
      obtain ⟨i1, i2, i3, i4⟩ := FF.isE_k0 i0
      have h8 := (hS.rise n i1 i2).2.2.1
      have h8m := (hSm.rise n i1 i2).2.2.1
      refine XO.v (V.move rfl) rfl ?_
      refine XO.v (V.extract rfl rfl) rfl ?_
      refine XO.v (V.extract rfl rfl) rfl ?_
      refine XO.v (V.assign rfl) rfl ?_
      refine XO.v (V.assign rfl) rfl ?_
      refine XO.nil ?_
      refine XE.next ?_
      refine XC.keep [(0, _), (1, _), (5, _), (6, _), (7, _), (8, _), (9, _), (10, _), (11, _)] (Sub.cons rfl (Sub.cons rfl (Sub.cons rfl (Sub.cons rfl (Sub.cons rfl (Sub.cons rfl (Sub.cons rfl (Sub.cons rfl (Sub.cons rfl (Sub.nil _)))))))))) ?_
      refine XC.seq ?_
      refine XC.region ?_
      refine XO.v (V.move rfl) rfl ?_
      refine XO.v (V.move rfl) rfl ?_
      refine XO.call rfl (r_List_yes _ _ _ _ (by rw [hU]; exact i0)) (.cons (.there (.there (.there (.there (.there .here))))) .nil) cl_52 rfl ?_
      rintro _ _ ⟨rfl, rfl⟩
      refine XO.v (V.move rfl) rfl ?_
      refine XO.v (V.extract rfl rfl) rfl ?_
      refine XO.v (V.extract rfl rfl) rfl ?_
      refine XO.v (V.assign rfl) rfl ?_
      refine XO.v (V.assign rfl) rfl ?_
      refine XO.nil ?_
      refine XE.next ?_
      refine XC.keep [(0, _), (1, _), (5, _), (6, _), (7, _), (8, _), (9, _), (10, _), (11, _), (12, _), (13, _)] (Sub.cons rfl (Sub.cons rfl (Sub.cons rfl (Sub.cons rfl (Sub.cons rfl (Sub.cons rfl (Sub.cons rfl (Sub.cons rfl (Sub.cons rfl (Sub.cons rfl (Sub.cons rfl (Sub.nil _)))))))))))) ?_
      refine XC.seq ?_
      refine XC.seq ?_
      refine XC.region ?_
      refine XO.v (V.loadAgg rfl (inXM (.there (.there (.there (.there (.there (.there .here))))))) (encNV_agg _) ag_55 sz_55_4) rfl ?_
      refine XO.v (V.loadAgg rfl (inXM (.there (.there (.there (.there (.there .here)))))) (encNV_is (hOf _)) ag_55 sz_55_4) rfl ?_
      refine XO.v (V.aggNe rfl rfl aggEq (NV.ints _)) rfl ?_
      refine XO.v (V.move rfl) rfl ?_
      refine XO.guardRun rfl rfl rfl ?_
      refine XO.v (V.move rfl) rfl ?_
      refine XO.guardRun rfl rfl rfl ?_
      refine XO.v (V.move rfl) rfl ?_
      refine XO.guardRun rfl rfl rfl ?_
      refine XO.call rfl (same_any _ _ (by first | omega | exact FF.isE_nn _ _ _)) .nil cl_39 rfl ?_
      rintro _ _ ⟨rfl, rfl⟩
      refine XO.guardRun rfl rfl rfl ?_
      refine XO.v (V.notP rfl) rfl ?_
      refine XO.v (V.pick rfl rfl rfl rfl) rfl ?_
      refine XO.v (V.move rfl) rfl ?_
      refine XO.splitF (d := 69) rfl (by rw [hU]; simp) ?_
      refine XO.guardRun rfl rfl rfl ?_
      refine XO.v (V.move rfl) rfl ?_
      refine XO.guardRun rfl rfl rfl ?_
      refine XO.v (V.move rfl) rfl ?_
      refine XO.guardRun rfl rfl rfl ?_
      refine XO.call rfl (same_any _ _ (by first | omega | exact FF.isE_nn _ _ _)) .nil cl_39 rfl ?_
      rintro _ _ ⟨rfl, rfl⟩
      refine XO.guardRun rfl rfl rfl ?_
      refine XO.v (V.notP rfl) rfl ?_
      refine XO.v (V.pick rfl rfl rfl rfl) rfl ?_
      refine XO.v (V.move rfl) rfl ?_
      refine XO.splitF (d := 75) rfl (by rw [hU]; simp [i0]) ?_
      refine XO.guardRun rfl rfl rfl ?_
      refine XO.v (V.move rfl) rfl ?_
      refine XO.guardRun rfl rfl rfl ?_
      refine XO.v (V.move rfl) rfl ?_
      refine XO.mono (fun _ hw3 => XM.openN (s := m) (z := n) ⟨i1, i2⟩ (.cons (.there (.there (.there (.there (.there (.there (.there (.there .here)))))))) .nil) hw3) ?_
      refine XO.guardRun rfl rfl rfl ?_
      refine XO.call rfl (same_texts2 _ _ _ _ _ _ (by rw [hU]) (by omega)) (.cons (.there (.there (.there .here))) (.cons .here .nil)) cl_25 rfl ?_
      rintro _ _ ⟨rfl, rfl⟩
      refine XO.mono (fun _ hw3 => XM.closeN (s := m) m (z := n) ⟨i1, i2⟩ rfl (fset_same _ rfl).symm (fset_same _ rfl).symm (fset_same _ rfl).symm (.cons (.there .here) (.cons (.there .here) .nil)) hw3) ?_
      refine XO.guardRun rfl rfl rfl ?_
      refine XO.v (V.not rfl) rfl ?_
      refine XO.v (V.pick rfl rfl rfl rfl) rfl ?_
      refine XO.nil ?_
      refine XE.next ?_
      refine XC.keep [(0, _), (1, _), (5, _), (12, _), (80, _)] (Sub.cons rfl (Sub.cons rfl (Sub.cons rfl (Sub.cons rfl (Sub.cons rfl (Sub.nil _)))))) ?_
      refine XC.condF rfl rfl ?_
      refine XC.skip ?_
      refine XE.next ?_
      refine XC.keep [(0, _), (1, _), (5, _), (12, _)] (Sub.cons rfl (Sub.cons rfl (Sub.cons rfl (Sub.cons rfl (Sub.nil _))))) ?_
      refine XC.seq ?_
      refine XC.region ?_
      refine XO.v (V.move rfl) rfl ?_
      refine XO.v (V.move rfl) rfl ?_
      refine XO.call rfl (t_Read _ _ _ hS _ _ _) (.cons (.there (.there (.there .here))) .nil) cl_22 rfl ?_
      rintro _ _ ⟨rfl, rfl⟩
      refine XO.v (V.move rfl) rfl ?_
      refine XO.v (V.extract rfl rfl) rfl ?_
      refine XO.v (V.extract rfl rfl) rfl ?_
      refine XO.v (V.assign rfl) rfl ?_
      refine XO.v (V.assign rfl) rfl ?_
      refine XO.nil ?_
      refine XE.next ?_
      refine XC.keep [(0, _), (1, _), (5, _), (12, _), (14, _), (15, _)] (Sub.cons rfl (Sub.cons rfl (Sub.cons rfl (Sub.cons rfl (Sub.cons rfl (Sub.cons rfl (Sub.nil _))))))) ?_
      refine XC.seq ?_
      refine XC.region ?_
      refine XO.v (V.move rfl) rfl ?_
      refine XO.v (V.move rfl) rfl ?_
      refine XO.call rfl (r_Read _ _ _ hSm _ _ _) (.cons (.there (.there (.there .here))) .nil) cl_47 rfl ?_
      rintro _ _ ⟨rfl, rfl⟩
      refine XO.v (V.move rfl) rfl ?_
      refine XO.v (V.extract rfl rfl) rfl ?_
      refine XO.v (V.extract rfl rfl) rfl ?_
      refine XO.v (V.assign rfl) rfl ?_
      refine XO.v (V.assign rfl) rfl ?_
      refine XO.nil ?_
      refine XE.next ?_
      refine XC.keep [(0, _), (1, _), (5, _), (12, _), (14, _), (15, _), (16, _), (17, _)] (Sub.cons rfl (Sub.cons rfl (Sub.cons rfl (Sub.cons rfl (Sub.cons rfl (Sub.cons rfl (Sub.cons rfl (Sub.cons rfl (Sub.nil _))))))))) ?_
      refine XC.seq ?_
      refine XC.region ?_
      refine XO.v (V.move rfl) rfl ?_
      refine XO.v (V.move rfl) rfl ?_
      refine XO.call rfl (t_Up _ _ _ _) (.cons (.there .here) .nil) cl_53 rfl ?_
      rintro _ _ ⟨rfl, rfl⟩
      refine XO.v (V.move rfl) rfl ?_
      refine XO.v (V.extract rfl rfl) rfl ?_
      refine XO.v (V.extract rfl rfl) rfl ?_
      refine XO.v (V.assign rfl) rfl ?_
      refine XO.v (V.assign rfl) rfl ?_
      refine XO.nil ?_
      refine XE.next ?_
      refine XC.keep [(0, _), (1, _), (5, _), (12, _), (14, _), (15, _), (16, _), (17, _), (18, _), (19, _)] (Sub.cons rfl (Sub.cons rfl (Sub.cons rfl (Sub.cons rfl (Sub.cons rfl (Sub.cons rfl (Sub.cons rfl (Sub.cons rfl (Sub.cons rfl (Sub.cons rfl (Sub.nil _))))))))))) ?_
      refine XC.seq ?_
      refine XC.region ?_
      refine XO.v (V.move rfl) rfl ?_
      refine XO.v (V.move rfl) rfl ?_
      refine XO.call rfl (t_Tree _ _ _ _) (.cons .here .nil) cl_54 rfl ?_
      rintro _ _ ⟨rfl, rfl⟩
      refine XO.v (V.move rfl) rfl ?_
      refine XO.v (V.extract rfl rfl) rfl ?_
      refine XO.v (V.extract rfl rfl) rfl ?_
      refine XO.v (V.assign rfl) rfl ?_
      refine XO.v (V.assign rfl) rfl ?_
      refine XO.nil ?_
      refine XE.next ?_
      refine XC.keep [(0, _), (1, _), (5, _), (12, _), (14, _), (15, _), (16, _), (17, _), (18, _), (19, _), (20, _), (21, _)] (Sub.cons rfl (Sub.cons rfl (Sub.cons rfl (Sub.cons rfl (Sub.cons rfl (Sub.cons rfl (Sub.cons rfl (Sub.cons rfl (Sub.cons rfl (Sub.cons rfl (Sub.cons rfl (Sub.cons rfl (Sub.nil _))))))))))))) ?_
      refine XC.seq ?_
      refine XC.seq ?_
      refine XC.region ?_
      refine XO.v (V.move rfl) rfl ?_
      refine XO.v (V.move rfl) rfl ?_
      refine XO.v (V.strCmp rfl rfl rfl) rfl ?_
      refine XO.v (V.move rfl) rfl ?_
      refine XO.splitF (d := 108) rfl (by rw [hU]; simp) ?_
      refine XO.guardRun rfl rfl rfl ?_
      refine XO.v (V.move rfl) rfl ?_
      refine XO.guardRun rfl rfl rfl ?_
      refine XO.v (V.move rfl) rfl ?_
      refine XO.guardRun rfl rfl rfl ?_
      refine XO.call rfl (same_any _ _ (by first | omega | exact FF.readE_nn _ _ _ _)) .nil cl_39 rfl ?_
      rintro _ _ ⟨rfl, rfl⟩
      refine XO.guardRun rfl rfl rfl ?_
      refine XO.v (V.notP rfl) rfl ?_
      refine XO.v (V.pick rfl rfl rfl rfl) rfl ?_
      refine XO.v (V.move rfl) rfl ?_
      refine XO.splitF (d := 114) rfl (by rw [hU]; simp) ?_
      refine XO.guardRun rfl rfl rfl ?_
      refine XO.v (V.move rfl) rfl ?_
      refine XO.guardRun rfl rfl rfl ?_
      refine XO.v (V.move rfl) rfl ?_
      refine XO.guardRun rfl rfl rfl ?_
      refine XO.v (V.move rfl) rfl ?_
      refine XO.guardRun rfl rfl rfl ?_
      refine XO.call rfl (r_Is _ _ _ _ _) (.cons (.there .here) .nil) cl_55 rfl ?_
      rintro _ _ ⟨rfl, rfl⟩
      refine XO.guardRun rfl rfl rfl ?_
      refine XO.call rfl (same_any _ _ (by first | omega | exact FF.isE_nn _ _ _)) .nil cl_39 rfl ?_
      rintro _ _ ⟨rfl, rfl⟩
      refine XO.guardRun rfl rfl rfl ?_
      refine XO.v (V.notP rfl) rfl ?_
      refine XO.v (V.pick rfl rfl rfl rfl) rfl ?_
      refine XO.v (V.move rfl) rfl ?_
      refine XO.splitF (d := 122) rfl (by rw [hU]; simp) ?_
      refine XO.guardRun rfl rfl rfl ?_
      refine XO.v (V.move rfl) rfl ?_
      refine XO.guardRun rfl rfl rfl ?_
      refine XO.v (V.move rfl) rfl ?_
      refine XO.guardRun rfl rfl rfl ?_
      refine XO.v (V.move rfl) rfl ?_
      refine XO.guardRun rfl rfl rfl ?_
      refine XO.call rfl (r_Is _ _ _ _ _) (.cons .here .nil) cl_55 rfl ?_
      rintro _ _ ⟨rfl, rfl⟩
      refine XO.guardRun rfl rfl rfl ?_
      refine XO.call rfl (same_any _ _ (by first | omega | exact FF.isE_nn _ _ _)) .nil cl_39 rfl ?_
      rintro _ _ ⟨rfl, rfl⟩
      refine XO.guardRun rfl rfl rfl ?_
      refine XO.v (V.notP rfl) rfl ?_
      refine XO.v (V.pick rfl rfl rfl rfl) rfl ?_
      refine XO.nil ?_
      refine XE.next ?_
      refine XC.keep [(0, _), (1, _), (5, _), (12, _), (18, _), (19, _), (20, _), (21, _), (129, _)] (Sub.cons rfl (Sub.cons rfl (Sub.cons rfl (Sub.cons rfl (Sub.cons rfl (Sub.cons rfl (Sub.cons rfl (Sub.cons rfl (Sub.cons rfl (Sub.nil _)))))))))) ?_
      refine XC.condFP rfl (by rw [hU]; simp) ?_
      refine XC.skip ?_
      refine XE.next ?_
      refine XC.keep [(0, _), (1, _), (5, _), (12, _), (18, _), (19, _), (20, _), (21, _)] (Sub.cons rfl (Sub.cons rfl (Sub.cons rfl (Sub.cons rfl (Sub.cons rfl (Sub.cons rfl (Sub.cons rfl (Sub.cons rfl (Sub.nil _))))))))) ?_
      refine XC.seq ?_
      refine XC.seq ?_
      refine XC.region ?_
      refine XO.v (V.move rfl) rfl ?_
      refine XO.v (V.errNil rfl Try.underlying43 rfl) rfl ?_
      refine XO.v (V.move rfl) rfl ?_
      refine XO.splitT (d := 132) rfl (i0) ?_
      refine XO.guardRun rfl rfl rfl ?_
      refine XO.v (V.move rfl) rfl ?_
      refine XO.guardRun rfl rfl rfl ?_
      refine XO.v (V.move rfl) rfl ?_
      refine XO.guardRun rfl rfl rfl ?_
      refine XO.v (V.move rfl) rfl ?_
      refine XO.guardRun rfl rfl rfl ?_
      refine XO.v (V.nilCheckP rfl) rfl ?_
      refine XO.guardRun rfl rfl rfl ?_
      refine XO.v (V.fieldAddr rfl fo_34_0) rfl ?_
      refine XO.guardRun rfl rfl rfl ?_
      refine XO.v (V.indexArr rfl rfl ar_32 (by omega)) rfl ?_
      refine XO.guardRun rfl rfl rfl ?_
      refine XO.v (V.fieldAddr rfl fo_31_4) rfl ?_
      refine XO.guardRun rfl rfl rfl ?_
      refine XO.v (V.load rfl (inXM .here) (encM.ld_N_Up _ _ (by omega)) sc_3) rfl ?_
      refine XO.guardRun rfl rfl rfl ?_
      refine XO.v (V.cmp rfl rfl rfl) rfl ?_
      refine XO.v (V.pick rfl rfl rfl rfl) rfl ?_
      refine XO.v (V.move rfl) rfl ?_
      refine XO.splitF (d := 143) rfl (by rw [if_pos i0, hU]; simp) ?_
      refine XO.guardRun rfl rfl rfl ?_
      refine XO.v (V.move rfl) rfl ?_
      refine XO.guardRun rfl rfl rfl ?_
      refine XO.v (V.errNil rfl Try.underlying43 rfl) rfl ?_
      refine XO.guardRun rfl rfl rfl ?_
      refine XO.v (V.move rfl) rfl ?_
      refine XO.splitT (d := 146) rfl (FF.isE_20 i0) ?_
      refine XO.guardRun rfl rfl rfl ?_
      refine XO.v (V.move rfl) rfl ?_
      refine XO.guardRun rfl rfl rfl ?_
      refine XO.v (V.move rfl) rfl ?_
      refine XO.guardRun rfl rfl rfl ?_
      refine XO.v (V.move rfl) rfl ?_
      refine XO.guardRun rfl rfl rfl ?_
      refine XO.v (V.nilCheckP rfl) rfl ?_
      refine XO.guardRun rfl rfl rfl ?_
      refine XO.v (V.fieldAddr rfl fo_34_0) rfl ?_
      refine XO.guardRun rfl rfl rfl ?_
      refine XO.v (V.indexArr rfl rfl ar_32 (by omega)) rfl ?_
      refine XO.guardRun rfl rfl rfl ?_
      refine XO.v (V.fieldAddr rfl fo_31_1) rfl ?_
      refine XO.guardRun rfl rfl rfl ?_
      refine XO.v (V.load rfl (inXM .here) (encM.ld_N_Tree _ _ (by omega)) sc_3) rfl ?_
      refine XO.guardRun rfl rfl rfl ?_
      refine XO.v (V.cmp rfl rfl rfl) rfl ?_
      refine XO.guardRun rfl rfl rfl ?_
      refine XO.v (V.pick rfl rfl rfl rfl) rfl ?_
      refine XO.v (V.pick rfl rfl rfl rfl) rfl ?_
      refine XO.v (V.move rfl) rfl ?_
      refine XO.splitF (d := 158) rfl (by rw [if_pos (by first | assumption | exact FF.isE_20 i0), hU]; simp) ?_
      refine XO.guardRun rfl rfl rfl ?_
      refine XO.v (V.move rfl) rfl ?_
      refine XO.guardRun rfl rfl rfl ?_
      refine XO.v (V.errNil rfl Try.underlying43 rfl) rfl ?_
      refine XO.guardRun rfl rfl rfl ?_
      refine XO.v (V.move rfl) rfl ?_
      refine XO.splitF (d := 161) rfl (by simp [i0]) ?_
      refine XO.guardSkip rfl rfl rfl rfl rfl ?_
      refine XO.guardSkip rfl rfl rfl rfl rfl ?_
      refine XO.guardRun rfl rfl rfl ?_
      refine XO.v (V.pick rfl rfl rfl rfl) rfl ?_
      refine XO.v (V.pick rfl rfl rfl rfl) rfl ?_
      refine XO.v (V.move rfl) rfl ?_
      refine XO.guardRun rfl rfl rfl ?_
      refine XO.v (V.move rfl) rfl ?_
      refine XO.guardRun rfl rfl rfl ?_
      refine XO.v (V.errNil rfl Try.underlying43 rfl) rfl ?_
      refine XO.guardRun rfl rfl rfl ?_
      refine XO.v (V.move rfl) rfl ?_
      refine XO.splitF (d := 169) rfl (by simp [FF.isE_20 i0]) ?_
      refine XO.guardSkip rfl rfl rfl rfl rfl ?_
      refine XO.guardSkip rfl rfl rfl rfl rfl ?_
      refine XO.guardRun rfl rfl rfl ?_
      refine XO.v (V.pick rfl rfl rfl rfl) rfl ?_
      refine XO.v (V.pick rfl rfl rfl rfl) rfl ?_
      refine XO.nil ?_
      refine XE.next ?_
      refine XC.keep [(0, _), (1, _), (5, _), (12, _), (173, _)] (Sub.cons rfl (Sub.cons rfl (Sub.cons rfl (Sub.cons rfl (Sub.cons rfl (Sub.nil _)))))) ?_
      refine XC.condF rfl rfl ?_
      refine XC.skip ?_
      refine XE.next ?_
      refine XC.keep [(0, _), (1, _), (5, _), (12, _)] (Sub.cons rfl (Sub.cons rfl (Sub.cons rfl (Sub.cons rfl (Sub.nil _))))) ?_
      refine XC.seq ?_
      refine XC.region ?_
      refine XO.v (V.assign rfl) rfl ?_
      refine XO.nil ?_
      refine XE.next ?_
      refine XC.keep [(0, _), (1, _), (5, _), (12, _), (22, _)] (Sub.cons rfl (Sub.cons rfl (Sub.cons rfl (Sub.cons rfl (Sub.cons rfl (Sub.nil _)))))) ?_
      refine XC.block ?_
      refine XC.loop (σ := Int) (fun i => ((m.names n).length - i).toNat) (fun i => 0 ≤ i ∧ i ≤ (m.names n).length) (fun i => [(22, .int .i64 i), (0, ptr bs 0 0), (1, ptr bm 0 0), (5, .int .i64 n), (12, .slice (m.nP n) (m.names n).length (m.nC n))]) (fun i => XM W (foot [.cells bs 0 321 (encF s), .fam fam40 (FC.rowsN 9 s), .fam fam40 (FC.rowsK 3 s), irow (FC.rP s) (FC.rC s) 3 (FC.toFF s).roots, .cells bm 0 321 (encM m), .fam fam40 (FC.rowsN 9 m), .fam fam40 (FC.rowsK 3 m), irow (FC.rP m) (FC.rC m) 3 (FC.toFF m).roots]) [.cells bs 0 321 (encF s), .fam fam40 (FC.rowsN 9 s), .fam fam40 (FC.rowsK 3 s), irow (FC.rP s) (FC.rC s) 3 (FC.toFF s).roots, .cells bm 0 321 (encM m), .fam fam40 (FC.rowsN 9 m), .fam fam40 (FC.rowsK 3 m), irow (FC.rP m) (FC.rC m) 3 (FC.toFF m).roots]) (0) ?_ (Sub.cons rfl (Sub.cons rfl (Sub.cons rfl (Sub.cons rfl (Sub.cons rfl (Sub.nil _)))))) (fun _ hw => XM.pick (.cons (.there .here) (.cons (.there (.there (.there .here))) (.cons (.there (.there (.there .here))) (.cons (.there (.there (.there (.there (.there .here))))) (.cons .here (.cons .here (.cons (.there (.there (.there .here))) (.cons (.there (.there (.there .here))) .nil)))))))) hw) ?_
      · skip
        omega
      intro i hi
      refine XC.seq ?_
      refine XC.seq ?_
      refine XC.region ?_
      refine XO.v (V.move rfl) rfl ?_
      refine XO.v (V.move rfl) rfl ?_
      refine XO.v (V.lenSl rfl Try.underlying28) rfl ?_
      refine XO.v (V.cmp rfl rfl rfl) rfl ?_
      refine XO.nil ?_
      refine XE.next ?_
      refine XC.keep [(0, _), (1, _), (5, _), (12, _), (22, _), (177, _)] (Sub.cons rfl (Sub.cons rfl (Sub.cons rfl (Sub.cons rfl (Sub.cons rfl (Sub.cons rfl (Sub.nil _))))))) ?_
      refine XC.condP rfl (fun h27 => ?_) (fun h27 => ?_)
      · skip
        refine XC.skip ?_
        refine XE.next ?_
        refine XC.keep [(0, _), (1, _), (5, _), (12, _), (22, _)] (Sub.cons rfl (Sub.cons rfl (Sub.cons rfl (Sub.cons rfl (Sub.cons rfl (Sub.nil _)))))) ?_
        refine XC.seq ?_
        refine XC.block ?_
        refine XC.seq ?_
        refine XC.region ?_
        refine XO.v (V.move rfl) rfl ?_
        refine XO.v (V.move rfl) rfl ?_
        refine XO.v (V.move rfl) rfl ?_
        refine XO.v (V.move rfl) rfl ?_
        refine XO.mono (fun _ hw3 => XM.openN (s := m) (z := n) ⟨i1, i2⟩ (.cons (.there (.there (.there (.there (.there .here))))) .nil) hw3) ?_
        refine XO.openRow .here (by omega) ?_
        intro g hg
        rw [hg]
        refine XO.v (V.indexSl rfl rfl sl_28 (by omega)) rfl ?_
        refine XO.v (V.loadRow rfl (inXM .here) (strs_at (by omega)) sc_9) rfl ?_
        refine XO.mono (fun _ hw3 => XM.closeN (s := m) m (z := n) ⟨i1, i2⟩ rfl (fset_same _ rfl).symm (fset_same _ hg).symm (fset_same _ rfl).symm (.cons .here (.cons .here .nil)) hw3) ?_
        refine XO.call rfl (t_Find _ _ _ hS _ _) (.cons (.there .here) (.cons (.there .here) (.cons (.there .here) .nil))) cl_20 rfl ?_
        rintro _ _ ⟨rfl, rfl⟩
        refine XO.v (V.move rfl) rfl ?_
        refine XO.v (V.extract rfl rfl) rfl ?_
        refine XO.v (V.extract rfl rfl) rfl ?_
        refine XO.v (V.assign rfl) rfl ?_
        refine XO.v (V.assign rfl) rfl ?_
        refine XO.nil ?_
        refine XE.next ?_
        refine XC.keep [(0, _), (1, _), (5, _), (12, _), (22, _), (23, _), (24, _)] (Sub.cons rfl (Sub.cons rfl (Sub.cons rfl (Sub.cons rfl (Sub.cons rfl (Sub.cons rfl (Sub.cons rfl (Sub.nil _)))))))) ?_
        refine XC.seq ?_
        refine XC.region ?_
        refine XO.v (V.move rfl) rfl ?_
        refine XO.v (V.move rfl) rfl ?_
        refine XO.v (V.move rfl) rfl ?_
        refine XO.v (V.move rfl) rfl ?_
        refine XO.mono (fun _ hw3 => XM.openN (s := m) (z := n) ⟨i1, i2⟩ (.cons (.there (.there (.there .here))) .nil) hw3) ?_
        rw [hg]
        refine XO.v (V.indexSl rfl rfl sl_28 (by omega)) rfl ?_
        refine XO.v (V.loadRow rfl (inXM .here) (strs_at (by omega)) sc_9) rfl ?_
        refine XO.mono (fun _ hw3 => XM.closeN (s := m) m (z := n) ⟨i1, i2⟩ rfl (fset_same _ rfl).symm (fset_same _ hg).symm (fset_same _ rfl).symm (.cons .here (.cons .here .nil)) hw3) ?_
        refine XO.call rfl (r_Find _ _ _ hSm _ _) (.cons (.there (.there (.there (.there (.there .here))))) (.cons .here (.cons (.there (.there (.there (.there .here)))) .nil))) cl_46 rfl ?_
        rintro _ _ ⟨rfl, rfl⟩
        refine XO.v (V.move rfl) rfl ?_
        refine XO.v (V.extract rfl rfl) rfl ?_
        refine XO.v (V.extract rfl rfl) rfl ?_
        refine XO.v (V.assign rfl) rfl ?_
        refine XO.v (V.assign rfl) rfl ?_
        refine XO.nil ?_
        refine XE.next ?_
        refine XC.keep [(0, _), (1, _), (5, _), (12, _), (22, _), (23, _), (24, _), (25, _), (26, _)] (Sub.cons rfl (Sub.cons rfl (Sub.cons rfl (Sub.cons rfl (Sub.cons rfl (Sub.cons rfl (Sub.cons rfl (Sub.cons rfl (Sub.cons rfl (Sub.nil _)))))))))) ?_
        refine XC.seq ?_
        refine XC.region ?_
        refine XO.v (V.move rfl) rfl ?_
        refine XO.v (V.move rfl) rfl ?_
        refine XO.v (V.cmp rfl rfl rfl) rfl ?_
        refine XO.v (V.move rfl) rfl ?_
        refine XO.splitF (d := 203) rfl (by rw [hU]; simp) ?_
        refine XO.guardRun rfl rfl rfl ?_
        refine XO.v (V.move rfl) rfl ?_
        refine XO.guardRun rfl rfl rfl ?_
        refine XO.v (V.move rfl) rfl ?_
        refine XO.guardRun rfl rfl rfl ?_
        refine XO.call rfl (same_any _ _ (by first | omega | exact FF.findE_nn _ _ _)) .nil cl_39 rfl ?_
        rintro _ _ ⟨rfl, rfl⟩
        refine XO.guardRun rfl rfl rfl ?_
        refine XO.v (V.notP rfl) rfl ?_
        refine XO.v (V.pick rfl rfl rfl rfl) rfl ?_
        refine XO.nil ?_
        refine XE.next ?_
        refine XC.keep [(0, _), (1, _), (5, _), (12, _), (22, _), (208, _)] (Sub.cons rfl (Sub.cons rfl (Sub.cons rfl (Sub.cons rfl (Sub.cons rfl (Sub.cons rfl (Sub.nil _))))))) ?_
        refine XC.condFP rfl (by rw [hU]; simp) ?_
        refine XC.skip ?_
        refine XE.blockNormal ?_
        refine XE.next ?_
        refine XC.keep [(0, _), (1, _), (5, _), (12, _), (22, _)] (Sub.cons rfl (Sub.cons rfl (Sub.cons rfl (Sub.cons rfl (Sub.cons rfl (Sub.nil _)))))) ?_
        refine XC.region ?_
        refine XO.v (V.move rfl) rfl ?_
        refine XO.v (V.add rfl rfl _ (IntWalk.i64_in _ (by omega))) rfl ?_
        refine XO.v (V.assign rfl) rfl ?_
        refine XO.nil ?_
        refine XE.again (i + 1) ?_ ?_ (Sub.cons rfl (Sub.cons rfl (Sub.cons rfl (Sub.cons rfl (Sub.cons rfl (Sub.nil _)))))) (fun _ hw => XM.pick (.cons (.there (.there (.there .here))) (.cons (.there (.there (.there .here))) (.cons (.there (.there (.there .here))) (.cons (.there (.there (.there .here))) (.cons .here (.cons .here (.cons .here (.cons .here .nil)))))))) hw)
        · skip
          (first | omega | (simp; done) | (simp; omega))
        · skip
          (first | omega | (simp; done) | (simp; omega))
      · skip
        refine XC.exit ?_
        refine XE.thenExit ?_
        refine XE.thenExit ?_
        refine XE.blockExit ?_
        refine XE.blockNormal ?_
        refine XE.next ?_
        refine XC.keep [(0, _), (1, _), (5, _)] (Sub.cons rfl (Sub.cons rfl (Sub.cons rfl (Sub.nil _)))) ?_
        refine XC.region ?_
        refine XO.v (V.move rfl) rfl ?_
        refine XO.v (V.add rfl rfl _ (IntWalk.i64_in _ (by omega))) rfl ?_
        refine XO.v (V.assign rfl) rfl ?_
        refine XO.nil ?_
        refine XE.again (n + 1) ?_ ?_ (Sub.cons rfl (Sub.cons rfl (Sub.cons rfl (Sub.nil _)))) (fun _ hw => XM.pick (.cons .here (.cons .here (.cons .here (.cons .here (.cons .here (.cons .here (.cons .here (.cons .here .nil)))))))) hw)
        · skip
          (first | omega | (simp; done) | (simp; omega))
        · skip
          (first | omega | (simp; done) | (simp; omega))
  · skip
    refine XC.exit ?_
    refine XE.thenExit ?_
    refine XE.thenExit ?_
    refine XE.blockExit ?_
    refine XE.next ?_
    refine XC.keep [(0, _), (1, _)] (Sub.cons rfl (Sub.cons rfl (Sub.nil _))) ?_
    refine XC.seq ?_
    refine XC.seq ?_
    refine XC.region ?_
    refine XO.v (V.assign rfl) rfl ?_
    refine XO.nil ?_
    refine XE.next ?_
    refine XC.keep [(0, _), (1, _), (27, _)] (Sub.cons rfl (Sub.cons rfl (Sub.cons rfl (Sub.nil _)))) ?_
    refine XC.block ?_
    refine XC.loop (σ := Int) (fun k => (5 - k).toNat) (fun k => -1 ≤ k ∧ k ≤ 5) (fun k => [(27, .int .i64 k), (0, ptr bs 0 0), (1, ptr bm 0 0)]) (fun k => XM W (foot [.cells bs 0 321 (encF s), .fam fam40 (FC.rowsN 9 s), .fam fam40 (FC.rowsK 3 s), irow (FC.rP s) (FC.rC s) 3 (FC.toFF s).roots, .cells bm 0 321 (encM m), .fam fam40 (FC.rowsN 9 m), .fam fam40 (FC.rowsK 3 m), irow (FC.rP m) (FC.rC m) 3 (FC.toFF m).roots]) [.cells bs 0 321 (encF s), .fam fam40 (FC.rowsN 9 s), .fam fam40 (FC.rowsK 3 s), irow (FC.rP s) (FC.rC s) 3 (FC.toFF s).roots, .cells bm 0 321 (encM m), .fam fam40 (FC.rowsN 9 m), .fam fam40 (FC.rowsK 3 m), irow (FC.rP m) (FC.rC m) 3 (FC.toFF m).roots]) (-1) ?_ (Sub.cons rfl (Sub.cons rfl (Sub.cons rfl (Sub.nil _)))) (fun _ hw => XM.pick (.cons .here (.cons .here (.cons .here (.cons .here (.cons .here (.cons .here (.cons .here (.cons .here .nil)))))))) hw) ?_
    · skip
      omega
    intro k hk
    refine XC.seq ?_
    refine XC.seq ?_
    refine XC.region ?_
    refine XO.v (V.move rfl) rfl ?_
    refine XO.v (V.cmp rfl rfl rfl) rfl ?_
    refine XO.nil ?_
    refine XE.next ?_
    refine XC.keep [(0, _), (1, _), (27, _), (210, _)] (Sub.cons rfl (Sub.cons rfl (Sub.cons rfl (Sub.cons rfl (Sub.nil _))))) ?_
    refine XC.condP rfl (fun h29 => ?_) (fun h29 => ?_)
    · skip
      refine XC.skip ?_
      refine XE.next ?_
      refine XC.keep [(0, _), (1, _), (27, _)] (Sub.cons rfl (Sub.cons rfl (Sub.cons rfl (Sub.nil _)))) ?_
      refine XC.seq ?_
      refine XC.block ?_
      refine XC.seq ?_
      refine XC.region ?_
      refine XO.v (V.move rfl) rfl ?_
      refine XO.v (V.move rfl) rfl ?_
      refine XO.call rfl (t_Root _ _ _ hS _) (.cons .here (.cons (.there (.there .here)) .nil)) cl_38 rfl ?_
      rintro _ _ ⟨rfl, rfl⟩
      refine XO.v (V.move rfl) rfl ?_
      refine XO.v (V.extract rfl rfl) rfl ?_
      refine XO.v (V.extract rfl rfl) rfl ?_
      refine XO.v (V.assign rfl) rfl ?_
      refine XO.v (V.assign rfl) rfl ?_
      refine XO.nil ?_
      refine XE.next ?_
      refine XC.keep [(0, _), (1, _), (27, _), (28, _), (29, _)] (Sub.cons rfl (Sub.cons rfl (Sub.cons rfl (Sub.cons rfl (Sub.cons rfl (Sub.nil _)))))) ?_
      refine XC.seq ?_
      refine XC.region ?_
      refine XO.v (V.move rfl) rfl ?_
      refine XO.v (V.move rfl) rfl ?_
      refine XO.call rfl (r_Root _ _ _ hSm _) (.cons (.there (.there (.there (.there .here)))) (.cons (.there (.there (.there (.there (.there (.there .here)))))) .nil)) cl_56 rfl ?_
      rintro _ _ ⟨rfl, rfl⟩
      refine XO.v (V.move rfl) rfl ?_
      refine XO.v (V.extract rfl rfl) rfl ?_
      refine XO.v (V.extract rfl rfl) rfl ?_
      refine XO.v (V.assign rfl) rfl ?_
      refine XO.v (V.assign rfl) rfl ?_
      refine XO.nil ?_
      refine XE.next ?_
      refine XC.keep [(0, _), (1, _), (27, _), (28, _), (29, _), (30, _), (31, _)] (Sub.cons rfl (Sub.cons rfl (Sub.cons rfl (Sub.cons rfl (Sub.cons rfl (Sub.cons rfl (Sub.cons rfl (Sub.nil _)))))))) ?_
      refine XC.seq ?_
      refine XC.region ?_
      refine XO.v (V.move rfl) rfl ?_
      refine XO.v (V.move rfl) rfl ?_
      refine XO.v (V.cmp rfl rfl rfl) rfl ?_
      refine XO.v (V.move rfl) rfl ?_
      refine XO.splitF (d := 228) rfl (by rw [hU]; simp) ?_
      refine XO.guardRun rfl rfl rfl ?_
      refine XO.v (V.move rfl) rfl ?_
      refine XO.guardRun rfl rfl rfl ?_
      refine XO.v (V.move rfl) rfl ?_
      refine XO.guardRun rfl rfl rfl ?_
      refine XO.call rfl (same_any _ _ (by first | omega | exact FF.rootE_nn _ _)) .nil cl_39 rfl ?_
      rintro _ _ ⟨rfl, rfl⟩
      refine XO.guardRun rfl rfl rfl ?_
      refine XO.v (V.notP rfl) rfl ?_
      refine XO.v (V.pick rfl rfl rfl rfl) rfl ?_
      refine XO.nil ?_
      refine XE.next ?_
      refine XC.keep [(0, _), (1, _), (27, _), (233, _)] (Sub.cons rfl (Sub.cons rfl (Sub.cons rfl (Sub.cons rfl (Sub.nil _))))) ?_
      refine XC.condFP rfl (by rw [hU]; simp) ?_
      refine XC.skip ?_
      refine XE.blockNormal ?_
      refine XE.next ?_
      refine XC.keep [(0, _), (1, _), (27, _)] (Sub.cons rfl (Sub.cons rfl (Sub.cons rfl (Sub.nil _)))) ?_
      refine XC.region ?_
      refine XO.v (V.move rfl) rfl ?_
      refine XO.v (V.add rfl rfl _ (IntWalk.i64_in _ (by omega))) rfl ?_
      refine XO.v (V.assign rfl) rfl ?_
      refine XO.nil ?_
      refine XE.again (k + 1) ?_ ?_ (Sub.cons rfl (Sub.cons rfl (Sub.cons rfl (Sub.nil _)))) (fun _ hw => XM.pick (.cons (.there (.there .here)) (.cons (.there (.there (.there .here))) (.cons (.there (.there (.there .here))) (.cons (.there (.there .here)) (.cons .here (.cons (.there .here) (.cons (.there .here) (.cons .here .nil)))))))) hw)
      · skip
        (first | omega | (simp; done) | (simp; omega))
      · skip
        (first | omega | (simp; done) | (simp; omega))
    · skip
      refine XC.exit ?_
      refine XE.thenExit ?_
      refine XE.thenExit ?_
      refine XE.blockExit ?_
      refine XE.next ?_
      refine XC.keep [(0, _), (1, _)] (Sub.cons rfl (Sub.cons rfl (Sub.nil _))) ?_
      refine XC.seq ?_
      refine XC.region ?_
      refine XO.v (V.move rfl) rfl ?_
      refine XO.call rfl (t_Nodes _ _ _) (.cons .here .nil) cl_16 rfl ?_
      rintro _ _ ⟨rfl, rfl⟩
      refine XO.v (V.move rfl) rfl ?_
      refine XO.call rfl (r_Nodes _ _ _) (.cons (.there (.there (.there (.there .here)))) .nil) cl_57 rfl ?_
      rintro _ _ ⟨rfl, rfl⟩
      refine XO.v (V.cmp rfl rfl rfl) rfl ?_
      refine XO.v (V.assign rfl) rfl ?_
      refine XO.nil ?_
      refine XE.next ?_
      refine XC.keep [(4, _)] (Sub.cons rfl (Sub.nil _)) ?_
      refine XC.ret ?_
      refine XE.ret1 rfl rfl (post_of (.cons (.there .here) (.cons (.there .here) (.cons (.there .here) (.cons (.there .here) (.cons .here (.cons .here (.cons .here (.cons .here .nil)))))))) rfl ?_)
      exact ⟨congrArg Value.bool (decide_eq_true (by rw [hU])), rfl⟩
end Go.X
