import Derived.Test.YtmklfkjfgjagaaaGreatDoorXShort
import Derived.Test.YtmklfkjfgjagaaaGreatDoorYNL1
namespace Go.X
open Go Go.Proofs
theorem cl_24 : callable Tryz.prog 24 = true := by kernel_rfl
theorem cl_28 : callable Tryz.prog 28 = true := by kernel_rfl
theorem cl_58 : callable Tryz.prog 58 = true := by kernel_rfl
theorem cl_59 : callable Tryz.prog 59 = true := by kernel_rfl
theorem cl_60 : callable Tryz.prog 60 = true := by kernel_rfl
theorem cl_61 : callable Tryz.prog 61 = true := by kernel_rfl
theorem cl_62 : callable Tryz.prog 62 = true := by kernel_rfl
theorem cl_63 : callable Tryz.prog 63 = true := by kernel_rfl
theorem cl_64 : callable Tryz.prog 64 = true := by kernel_rfl
theorem cl_66 : callable Tryz.prog 66 = true := by kernel_rfl
theorem cl_67 : callable Tryz.prog 67 = true := by kernel_rfl
set_option maxRecDepth 10000 in
set_option maxHeartbeats 8000000 in
theorem as_forest (bs bm : Nat) (s m : FC) (hU : m.toFF = s.toFF) (d : Int → Nat) (B : Int) (hO : s.toFF.Ok d B) (hB : B ≤ 900000) : Spec Tryz.prog 21 [ptr bs 0 0, ptr bm 0 0]
    [.cells bs 0 321 (encF s), .fam fam40 (FC.rowsN 9 s), .fam fam40 (FC.rowsK 3 s), irow (FC.rP s) (FC.rC s) 3 (FC.toFF s).roots, .cells bm 0 321 (encM m), .fam fam40 (FC.rowsN 9 m), .fam fam40 (FC.rowsK 3 m), irow (FC.rP m) (FC.rC m) 3 (FC.toFF m).roots]
    (fun v H1 => v = .bool true ∧ H1 = [.cells bs 0 321 (encF s), .fam fam40 (FC.rowsN 9 s), .fam fam40 (FC.rowsK 3 s), irow (FC.rP s) (FC.rC s) 3 (FC.toFF s).roots, .cells bm 0 321 (encM m), .fam fam40 (FC.rowsN 9 m), .fam fam40 (FC.rowsK 3 m), irow (FC.rP m) (FC.rC m) 3 (FC.toFF m).roots]) := by
 have hS := hO.sh (by omega)
 have hSm : m.toFF.Sh := by rw [hU]; exact hS
 have hOf : ∀ n, m.ofR n = s.ofV n := fun n => by rw [hU]; exact FF.ofV_eq hO.inv n
 refine Spec.intro Tryz.func21 rfl rfl ?_
 intro W
 refine XC.sr ?_
 refine XO.as rfl rfl ?_
 refine XO.nk [(0, _), (1, _)] (S2 rfl rfl) ?_
 refine XC.seq ?_
 refine XC.sr ?_
 refine XO.as rfl rfl ?_
 refine XO.nk [(0, _), (1, _), (5, _)] (S3 rfl rfl rfl) ?_
 refine XC.block ?_
 refine XC.loop (σ := Int) (fun n => (41 - n).toNat) (fun n => -1 ≤ n ∧ n ≤ 41) (fun n => [(5, .int .i64 n), (0, ptr bs 0 0), (1, ptr bm 0 0)]) (fun n => XM W (foot [.cells bs 0 321 (encF s), .fam fam40 (FC.rowsN 9 s), .fam fam40 (FC.rowsK 3 s), irow (FC.rP s) (FC.rC s) 3 (FC.toFF s).roots, .cells bm 0 321 (encM m), .fam fam40 (FC.rowsN 9 m), .fam fam40 (FC.rowsK 3 m), irow (FC.rP m) (FC.rC m) 3 (FC.toFF m).roots]) [.cells bs 0 321 (encF s), .fam fam40 (FC.rowsN 9 s), .fam fam40 (FC.rowsK 3 s), irow (FC.rP s) (FC.rC s) 3 (FC.toFF s).roots, .cells bm 0 321 (encM m), .fam fam40 (FC.rowsN 9 m), .fam fam40 (FC.rowsK 3 m), irow (FC.rP m) (FC.rC m) 3 (FC.toFF m).roots]) (-1) ?_ (S3 rfl rfl rfl) (fun _ hw => XM.pick .h8 hw) ?_
 ·
  omega
 intro n hn
 refine XC.seq ?_
 refine XC.sr ?_
 refine XO.mv rfl rfl ?_
 refine XO.v (V.cmp rfl rfl rfl) rfl ?_
 refine XO.nk [(0, _), (1, _), (5, _), (33, _)] (S4 rfl rfl rfl rfl) ?_
 refine XC.condP rfl (fun h1 => ?_) (fun h1 => ?_)
 ·
  refine XC.skip ?_
  refine XE.next ?_
  refine XC.keep [(0, _), (1, _), (5, _)] (S3 rfl rfl rfl) ?_
  refine XC.seq ?_
  refine XC.block ?_
  refine XC.sr ?_
  refine XO.mv rfl rfl ?_
  refine XO.mv rfl rfl ?_
  refine XO.call rfl (t_Of _ _ _ hS _) .h1 cl_59 rfl ?_
  rintro _ _ ⟨rfl, rfl⟩
  refine XO.mv rfl rfl ?_
  refine XO.v (V.extract rfl rfl) rfl ?_
  refine XO.v (V.extract rfl rfl) rfl ?_
  refine XO.allocZ (z := .agg NV.zero.arr) (m := 4) (C := encNV NV.zero) (by kernel_rfl) rfl (encNV_box _) rfl ?_
  intro bx
  refine XO.storeAgg rfl rfl .here (encNV_st _ _) ⟨rfl, rfl⟩ sz_116_4 ?_
  refine XO.as rfl rfl ?_
  refine XO.nk [(0, _), (1, _), (5, _), (6, _), (7, _)] (S5 rfl rfl rfl rfl rfl) ?_
  refine XC.sr ?_
  refine XO.mv rfl rfl ?_
  refine XO.mv rfl rfl ?_
  refine XO.call rfl (r_Of _ _ _ hSm _) (.cons (.t5 .here) .nil) cl_60 rfl ?_
  rintro _ _ ⟨rfl, rfl⟩
  refine XO.mv rfl rfl ?_
  refine XO.v (V.extract rfl rfl) rfl ?_
  refine XO.v (V.extract rfl rfl) rfl ?_
  refine XO.allocZ (z := .agg NV.zero.arr) (m := 4) (C := encNV NV.zero) (by kernel_rfl) rfl (encNV_box _) rfl ?_
  intro by_
  refine XO.storeAgg rfl rfl .here (encNV_st _ _) ⟨rfl, rfl⟩ sz_116_4 ?_
  refine XO.as rfl rfl ?_
  refine XO.nk [(0, _), (1, _), (5, _), (6, _), (7, _), (8, _), (9, _)] (S7 rfl rfl rfl rfl rfl rfl rfl) ?_
  refine XC.sr ?_
  refine XO.mv rfl rfl ?_
  refine XO.mv rfl rfl ?_
  refine XO.call rfl (t_List _ _ _ hS _) (.cons (.t3 .here) (.cons (.t3 .here) (.cons (.t3 .here) .nil))) cl_61 rfl ?_
  rintro _ _ (⟨i0, rfl, rfl⟩ | ⟨i0, p1, c1, rfl, rfl⟩)
  ·
   refine XO.mv rfl rfl ?_
   refine XO.v (V.extract rfl rfl) rfl ?_
   refine XO.v (V.extract rfl rfl) rfl ?_
   refine XO.as rfl rfl ?_
   refine XO.as rfl rfl ?_
   refine XO.nk [(0, _), (1, _), (5, _), (6, _), (7, _), (8, _), (9, _), (10, _), (11, _)] (Sub.cons rfl (S8 rfl rfl rfl rfl rfl rfl rfl rfl)) ?_
   refine XC.sr ?_
   refine XO.mv rfl rfl ?_
   refine XO.mv rfl rfl ?_
   refine XO.call rfl (r_List_no _ _ _ _ (by rw [hU]; exact i0)) (.cons (.t4 .here) .nil) cl_62 rfl ?_
   rintro _ _ ⟨rfl, rfl⟩
   refine XO.mv rfl rfl ?_
   refine XO.v (V.extract rfl rfl) rfl ?_
   refine XO.v (V.extract rfl rfl) rfl ?_
   refine XO.as rfl rfl ?_
   refine XO.as rfl rfl ?_
   refine XO.nk [(0, _), (1, _), (5, _), (6, _), (7, _), (8, _), (9, _), (10, _), (11, _), (12, _), (13, _)] (Sub.cons rfl (Sub.cons rfl (Sub.cons rfl (S8 rfl rfl rfl rfl rfl rfl rfl rfl)))) ?_
   refine XC.seq ?_
   refine XC.sr ?_
   refine XO.v (V.loadAgg rfl (inXM (.t5 .here)) (encNV_agg _) ag_116 sz_116_4) rfl ?_
   refine XO.v (V.loadAgg rfl (inXM (.t4 .here)) (encNV_is (hOf _)) ag_116 sz_116_4) rfl ?_
   refine XO.v (V.aggNe rfl rfl aggEq (NV.ints _)) rfl ?_
   refine XO.mv rfl rfl ?_
   refine XO.guardRun rfl rfl rfl ?_
   refine XO.mv rfl rfl ?_
   refine XO.guardRun rfl rfl rfl ?_
   refine XO.mv rfl rfl ?_
   refine XO.guardRun rfl rfl rfl ?_
   refine XO.call rfl (same_any _ _ (by first | omega | exact FF.isE_nn _ _ _)) .nil cl_9 rfl ?_
   rintro _ _ ⟨rfl, rfl⟩
   refine XO.guardRun rfl rfl rfl ?_
   refine XO.v (V.notP rfl) rfl ?_
   refine XO.v (V.pick rfl rfl rfl rfl) rfl ?_
   refine XO.mv rfl rfl ?_
   refine XO.splitF (d := 69) rfl (by rw [hU]; simp) ?_
   refine XO.guardRun rfl rfl rfl ?_
   refine XO.mv rfl rfl ?_
   refine XO.guardRun rfl rfl rfl ?_
   refine XO.mv rfl rfl ?_
   refine XO.guardRun rfl rfl rfl ?_
   refine XO.call rfl (same_any _ _ (by first | omega | exact FF.isE_nn _ _ _)) .nil cl_9 rfl ?_
   rintro _ _ ⟨rfl, rfl⟩
   refine XO.guardRun rfl rfl rfl ?_
   refine XO.v (V.notP rfl) rfl ?_
   refine XO.v (V.pick rfl rfl rfl rfl) rfl ?_
   refine XO.mv rfl rfl ?_
   refine XO.splitF (d := 75) rfl (by rw [hU]; simp [i0]) ?_
   refine XO.guardRun rfl rfl rfl ?_
   refine XO.mv rfl rfl ?_
   refine XO.guardRun rfl rfl rfl ?_
   refine XO.mv rfl rfl ?_
   refine XO.guardRun rfl rfl rfl ?_
   refine XO.call rfl (same_texts_nil) .nil cl_58 rfl ?_
   rintro _ _ ⟨rfl, rfl⟩
   refine XO.guardRun rfl rfl rfl ?_
   refine XO.v (V.not rfl) rfl ?_
   refine XO.v (V.pick rfl rfl rfl rfl) rfl ?_
   refine XO.nk [(0, _), (1, _), (5, _), (12, _), (80, _)] (S5 rfl rfl rfl rfl rfl) ?_
   refine XC.condF rfl rfl ?_
   refine XC.skip ?_
   refine XE.next ?_
   refine XC.keep [(0, _), (1, _), (5, _), (12, _)] (S4 rfl rfl rfl rfl) ?_
   refine XC.sr ?_
   refine XO.mv rfl rfl ?_
   refine XO.mv rfl rfl ?_
   refine XO.call rfl (t_Read _ _ _ hS _ _ _) (.cons (.there .here) .nil) cl_40 rfl ?_
   rintro _ _ ⟨rfl, rfl⟩
   refine XO.mv rfl rfl ?_
   refine XO.v (V.extract rfl rfl) rfl ?_
   refine XO.v (V.extract rfl rfl) rfl ?_
   refine XO.as rfl rfl ?_
   refine XO.as rfl rfl ?_
   refine XO.nk [(0, _), (1, _), (5, _), (12, _), (14, _), (15, _)] (S6 rfl rfl rfl rfl rfl rfl) ?_
   refine XC.sr ?_
   refine XO.mv rfl rfl ?_
   refine XO.mv rfl rfl ?_
   refine XO.call rfl (r_Read _ _ _ hSm _ _ _) (.cons (.there .here) .nil) cl_41 rfl ?_
   rintro _ _ ⟨rfl, rfl⟩
   refine XO.mv rfl rfl ?_
   refine XO.v (V.extract rfl rfl) rfl ?_
   refine XO.v (V.extract rfl rfl) rfl ?_
   refine XO.as rfl rfl ?_
   refine XO.as rfl rfl ?_
   refine XO.nk [(0, _), (1, _), (5, _), (12, _), (14, _), (15, _), (16, _), (17, _)] (S8 rfl rfl rfl rfl rfl rfl rfl rfl) ?_
   refine XC.sr ?_
   refine XO.mv rfl rfl ?_
   refine XO.mv rfl rfl ?_
   refine XO.call rfl (t_Up _ _ _ _) (.cons (.there .here) .nil) cl_63 rfl ?_
   rintro _ _ ⟨rfl, rfl⟩
   refine XO.mv rfl rfl ?_
   refine XO.v (V.extract rfl rfl) rfl ?_
   refine XO.v (V.extract rfl rfl) rfl ?_
   refine XO.as rfl rfl ?_
   refine XO.as rfl rfl ?_
   refine XO.nk [(0, _), (1, _), (5, _), (12, _), (14, _), (15, _), (16, _), (17, _), (18, _), (19, _)] (Sub.cons rfl (Sub.cons rfl (S8 rfl rfl rfl rfl rfl rfl rfl rfl))) ?_
   refine XC.sr ?_
   refine XO.mv rfl rfl ?_
   refine XO.mv rfl rfl ?_
   refine XO.call rfl (t_Tree _ _ _ _) .h1 cl_64 rfl ?_
   rintro _ _ ⟨rfl, rfl⟩
   refine XO.mv rfl rfl ?_
   refine XO.v (V.extract rfl rfl) rfl ?_
   refine XO.v (V.extract rfl rfl) rfl ?_
   refine XO.as rfl rfl ?_
   refine XO.as rfl rfl ?_
   refine XO.nk [(0, _), (1, _), (5, _), (12, _), (14, _), (15, _), (16, _), (17, _), (18, _), (19, _), (20, _), (21, _)] (Sub.cons rfl (Sub.cons rfl (Sub.cons rfl (Sub.cons rfl (S8 rfl rfl rfl rfl rfl rfl rfl rfl))))) ?_
   refine XC.seq ?_
   refine XC.sr ?_
   refine XO.mv rfl rfl ?_
   refine XO.mv rfl rfl ?_
   refine XO.v (V.strCmp rfl rfl rfl) rfl ?_
   refine XO.mv rfl rfl ?_
   refine XO.splitF (d := 108) rfl (by rw [hU]; simp) ?_
   refine XO.guardRun rfl rfl rfl ?_
   refine XO.mv rfl rfl ?_
   refine XO.guardRun rfl rfl rfl ?_
   refine XO.mv rfl rfl ?_
   refine XO.guardRun rfl rfl rfl ?_
   refine XO.call rfl (same_any _ _ (by first | omega | exact FF.readE_nn _ _ _ _)) .nil cl_9 rfl ?_
   rintro _ _ ⟨rfl, rfl⟩
   refine XO.guardRun rfl rfl rfl ?_
   refine XO.v (V.notP rfl) rfl ?_
   refine XO.v (V.pick rfl rfl rfl rfl) rfl ?_
   refine XO.mv rfl rfl ?_
   refine XO.splitF (d := 114) rfl (by rw [hU]; simp) ?_
   refine XO.guardRun rfl rfl rfl ?_
   refine XO.mv rfl rfl ?_
   refine XO.guardRun rfl rfl rfl ?_
   refine XO.mv rfl rfl ?_
   refine XO.guardRun rfl rfl rfl ?_
   refine XO.mv rfl rfl ?_
   refine XO.guardRun rfl rfl rfl ?_
   refine XO.call rfl (r_Is _ _ _ _ _) (.cons (.there .here) .nil) cl_65 rfl ?_
   rintro _ _ ⟨rfl, rfl⟩
   refine XO.guardRun rfl rfl rfl ?_
   refine XO.call rfl (same_any _ _ (by first | omega | exact FF.isE_nn _ _ _)) .nil cl_9 rfl ?_
   rintro _ _ ⟨rfl, rfl⟩
   refine XO.guardRun rfl rfl rfl ?_
   refine XO.v (V.notP rfl) rfl ?_
   refine XO.v (V.pick rfl rfl rfl rfl) rfl ?_
   refine XO.mv rfl rfl ?_
   refine XO.splitF (d := 122) rfl (by rw [hU]; simp) ?_
   refine XO.guardRun rfl rfl rfl ?_
   refine XO.mv rfl rfl ?_
   refine XO.guardRun rfl rfl rfl ?_
   refine XO.mv rfl rfl ?_
   refine XO.guardRun rfl rfl rfl ?_
   refine XO.mv rfl rfl ?_
   refine XO.guardRun rfl rfl rfl ?_
   refine XO.call rfl (r_Is _ _ _ _ _) .h1 cl_65 rfl ?_
   rintro _ _ ⟨rfl, rfl⟩
   refine XO.guardRun rfl rfl rfl ?_
   refine XO.call rfl (same_any _ _ (by first | omega | exact FF.isE_nn _ _ _)) .nil cl_9 rfl ?_
   rintro _ _ ⟨rfl, rfl⟩
   refine XO.guardRun rfl rfl rfl ?_
   refine XO.v (V.notP rfl) rfl ?_
   refine XO.v (V.pick rfl rfl rfl rfl) rfl ?_
   refine XO.nk [(0, _), (1, _), (5, _), (12, _), (18, _), (19, _), (20, _), (21, _), (129, _)] (Sub.cons rfl (S8 rfl rfl rfl rfl rfl rfl rfl rfl)) ?_
   refine XC.condFP rfl (by rw [hU]; simp) ?_
   refine XC.skip ?_
   refine XE.next ?_
   refine XC.keep [(0, _), (1, _), (5, _), (12, _), (18, _), (19, _), (20, _), (21, _)] (S8 rfl rfl rfl rfl rfl rfl rfl rfl) ?_
   refine XC.seq ?_
   refine XC.sr ?_
   refine XO.mv rfl rfl ?_
   refine XO.v (V.errNil rfl Tryz.underlying37 rfl) rfl ?_
   refine XO.mv rfl rfl ?_
   refine XO.splitF (d := 132) rfl (i0) ?_
   refine XO.guardSkip rfl rfl rfl rfl rfl ?_
   refine XO.guardSkip rfl rfl rfl rfl rfl ?_
   refine XO.guardSkip rfl rfl rfl rfl rfl ?_
   refine XO.guardSkip rfl rfl rfl rfl rfl ?_
   refine XO.guardSkip rfl rfl rfl rfl rfl ?_
   refine XO.guardSkip rfl rfl rfl rfl rfl ?_
   refine XO.guardSkip rfl rfl rfl rfl rfl ?_
   refine XO.guardSkip rfl rfl rfl rfl rfl ?_
   refine XO.guardSkip rfl rfl rfl rfl rfl ?_
   refine XO.v (V.pick rfl rfl rfl rfl) rfl ?_
   refine XO.mv rfl rfl ?_
   refine XO.guardRun rfl rfl rfl ?_
   refine XO.mv rfl rfl ?_
   refine XO.guardRun rfl rfl rfl ?_
   refine XO.v (V.errNil rfl Tryz.underlying37 rfl) rfl ?_
   refine XO.guardRun rfl rfl rfl ?_
   refine XO.mv rfl rfl ?_
   refine XO.splitP (d := 146) rfl (fun h8 => ?_) (fun h8 => ?_)
   ·
    obtain ⟨i1, i2, i3⟩ := FF.isE_0 (show s.isE n 0 = 0 by assumption)
    refine XO.guardRun rfl rfl rfl ?_
    refine XO.mv rfl rfl ?_
    refine XO.guardRun rfl rfl rfl ?_
    refine XO.mv rfl rfl ?_
    refine XO.guardRun rfl rfl rfl ?_
    refine XO.mv rfl rfl ?_
    refine XO.guardRun rfl rfl rfl ?_
    refine XO.v (V.nilCheckP rfl) rfl ?_
    refine XO.guardRun rfl rfl rfl ?_
    refine XO.v (V.fieldAddr rfl fo_34_0) rfl ?_
    refine XO.guardRun rfl rfl rfl ?_
    refine XO.v (V.indexArr rfl rfl ar_32 (by omega)) rfl ?_
    refine XO.guardRun rfl rfl rfl ?_
    refine XO.v (V.fieldAddr rfl fo_31_1) rfl ?_
    refine XO.guardRun rfl rfl rfl ?_
    refine XO.v (V.load rfl (inXM .here) (encM.ld_N_Tree _ _ (by omega)) sc_3) rfl ?_
    refine XO.guardRun rfl rfl rfl ?_
    refine XO.v (V.cmp rfl rfl rfl) rfl ?_
    refine XO.guardRun rfl rfl rfl ?_
    refine XO.v (V.pick rfl rfl rfl rfl) rfl ?_
    refine XO.v (V.pick rfl rfl rfl rfl) rfl ?_
    refine XO.mv rfl rfl ?_
    refine XO.splitF (d := 158) rfl (by rw [if_pos (by first | assumption | exact FF.isE_20 i0), hU]; simp) ?_
    refine XO.guardRun rfl rfl rfl ?_
    refine XO.mv rfl rfl ?_
    refine XO.guardRun rfl rfl rfl ?_
    refine XO.v (V.errNil rfl Tryz.underlying37 rfl) rfl ?_
    refine XO.guardRun rfl rfl rfl ?_
    refine XO.mv rfl rfl ?_
    refine XO.splitT (d := 161) rfl (i0) ?_
    refine XO.guardRun rfl rfl rfl ?_
    refine XO.mv rfl rfl ?_
    refine XO.guardRun rfl rfl rfl ?_
    refine XO.v (V.cmp rfl rfl rfl) rfl ?_
    refine XO.guardRun rfl rfl rfl ?_
    refine XO.v (V.pick rfl rfl rfl rfl) rfl ?_
    refine XO.v (V.pick rfl rfl rfl rfl) rfl ?_
    refine XO.mv rfl rfl ?_
    refine XO.splitF (d := 166) rfl (by rw [if_neg i0]; simp) ?_
    refine XO.guardRun rfl rfl rfl ?_
    refine XO.mv rfl rfl ?_
    refine XO.guardRun rfl rfl rfl ?_
    refine XO.v (V.errNil rfl Tryz.underlying37 rfl) rfl ?_
    refine XO.guardRun rfl rfl rfl ?_
    refine XO.mv rfl rfl ?_
    refine XO.splitF (d := 169) rfl (fun q => q (by assumption)) ?_
    refine XO.guardSkip rfl rfl rfl rfl rfl ?_
    refine XO.guardSkip rfl rfl rfl rfl rfl ?_
    refine XO.guardRun rfl rfl rfl ?_
    refine XO.v (V.pick rfl rfl rfl rfl) rfl ?_
    refine XO.v (V.pick rfl rfl rfl rfl) rfl ?_
    refine XO.nk [(0, _), (1, _), (5, _), (12, _), (173, _)] (S5 rfl rfl rfl rfl rfl) ?_
    refine XC.condF rfl rfl ?_
    refine XC.skip ?_
    refine XE.next ?_
    refine XC.keep [(0, _), (1, _), (5, _), (12, _)] (S4 rfl rfl rfl rfl) ?_
    refine XC.sr ?_
    refine XO.as rfl rfl ?_
    refine XO.nk [(0, _), (1, _), (5, _), (12, _), (22, _)] (S5 rfl rfl rfl rfl rfl) ?_
    refine XC.block ?_
    refine XC.loop (σ := Int) (fun i => 0) (fun i => 0 ≤ i) (fun i => [(22, .int .i64 i), (0, ptr bs 0 0), (1, ptr bm 0 0), (5, .int .i64 n), (12, .slice none 0 0)]) (fun i => XM W (foot [.cells bs 0 321 (encF s), .fam fam40 (FC.rowsN 9 s), .fam fam40 (FC.rowsK 3 s), irow (FC.rP s) (FC.rC s) 3 (FC.toFF s).roots, .cells bm 0 321 (encM m), .fam fam40 (FC.rowsN 9 m), .fam fam40 (FC.rowsK 3 m), irow (FC.rP m) (FC.rC m) 3 (FC.toFF m).roots]) [.cells bs 0 321 (encF s), .fam fam40 (FC.rowsN 9 s), .fam fam40 (FC.rowsK 3 s), irow (FC.rP s) (FC.rC s) 3 (FC.toFF s).roots, .cells bm 0 321 (encM m), .fam fam40 (FC.rowsN 9 m), .fam fam40 (FC.rowsK 3 m), irow (FC.rP m) (FC.rC m) 3 (FC.toFF m).roots]) (0) ?_ (S5 rfl rfl rfl rfl rfl) (fun _ hw => XM.pick (.cons (.there .here) (.cons (.there .here) (.cons (.there .here) (.cons (.t3 .here) (.cons .here (.cons (.t2 .here) (.cons (.t2 .here) (.cons (.t2 .here) .nil)))))))) hw) ?_
    ·
     omega
    intro i hi
    refine XC.seq ?_
    refine XC.sr ?_
    refine XO.mv rfl rfl ?_
    refine XO.mv rfl rfl ?_
    refine XO.v (V.lenSl rfl Tryz.underlying28) rfl ?_
    refine XO.v (V.cmp rfl rfl rfl) rfl ?_
    refine XO.nk [(0, _), (1, _), (5, _), (12, _), (22, _), (177, _)] (S6 rfl rfl rfl rfl rfl rfl) ?_
    refine XC.condFP rfl (by simp; omega) ?_
    refine XC.exit ?_
    refine XE.thenExit ?_
    refine XE.thenExit ?_
    refine XE.blockExit ?_
    refine XE.blockNormal ?_
    refine XE.next ?_
    refine XC.keep [(0, _), (1, _), (5, _)] (S3 rfl rfl rfl) ?_
    refine XC.region ?_
    refine XO.mv rfl rfl ?_
    refine XO.v (V.add rfl rfl _ (IntWalk.i64_in _ (by omega))) rfl ?_
    refine XO.as rfl rfl ?_
    refine XO.nil ?_
    refine XE.again (n + 1) ?_ ?_ (S3 rfl rfl rfl) (fun _ hw => XM.pick .h8 hw)
    ·
     (first | omega | (simp; done) | (simp; omega))
    ·
     (first | omega | (simp; done) | (simp; omega))
   ·
    refine XO.guardSkip rfl rfl rfl rfl rfl ?_
    refine XO.guardSkip rfl rfl rfl rfl rfl ?_
    refine XO.guardSkip rfl rfl rfl rfl rfl ?_
    refine XO.guardSkip rfl rfl rfl rfl rfl ?_
    refine XO.guardSkip rfl rfl rfl rfl rfl ?_
    refine XO.guardSkip rfl rfl rfl rfl rfl ?_
    refine XO.guardSkip rfl rfl rfl rfl rfl ?_
    refine XO.guardSkip rfl rfl rfl rfl rfl ?_
    refine XO.guardSkip rfl rfl rfl rfl rfl ?_
    refine XO.guardRun rfl rfl rfl ?_
    refine XO.v (V.pick rfl rfl rfl rfl) rfl ?_
    refine XO.v (V.pick rfl rfl rfl rfl) rfl ?_
    refine XO.mv rfl rfl ?_
    refine XO.guardRun rfl rfl rfl ?_
    refine XO.mv rfl rfl ?_
    refine XO.guardRun rfl rfl rfl ?_
    refine XO.v (V.errNil rfl Tryz.underlying37 rfl) rfl ?_
    refine XO.guardRun rfl rfl rfl ?_
    refine XO.mv rfl rfl ?_
    refine XO.splitT (d := 161) rfl (i0) ?_
    refine XO.guardRun rfl rfl rfl ?_
    refine XO.mv rfl rfl ?_
    refine XO.guardRun rfl rfl rfl ?_
    refine XO.v (V.cmp rfl rfl rfl) rfl ?_
    refine XO.guardRun rfl rfl rfl ?_
    refine XO.v (V.pick rfl rfl rfl rfl) rfl ?_
    refine XO.v (V.pick rfl rfl rfl rfl) rfl ?_
    refine XO.mv rfl rfl ?_
    refine XO.splitF (d := 166) rfl (by rw [if_neg i0]; simp) ?_
    refine XO.guardRun rfl rfl rfl ?_
    refine XO.mv rfl rfl ?_
    refine XO.guardRun rfl rfl rfl ?_
    refine XO.v (V.errNil rfl Tryz.underlying37 rfl) rfl ?_
    refine XO.guardRun rfl rfl rfl ?_
    refine XO.mv rfl rfl ?_
    refine XO.splitT (d := 169) rfl (by assumption) ?_
    refine XO.guardRun rfl rfl rfl ?_
    refine XO.mv rfl rfl ?_
    refine XO.guardRun rfl rfl rfl ?_
    refine XO.v (V.cmp rfl rfl rfl) rfl ?_
    refine XO.guardRun rfl rfl rfl ?_
    refine XO.v (V.pick rfl rfl rfl rfl) rfl ?_
    refine XO.v (V.pick rfl rfl rfl rfl) rfl ?_
    refine XO.nk [(0, _), (1, _), (5, _), (12, _), (173, _)] (S5 rfl rfl rfl rfl rfl) ?_
    refine XC.condFP rfl (by rw [if_neg (by assumption)]; simp) ?_
    refine XC.skip ?_
    refine XE.next ?_
    refine XC.keep [(0, _), (1, _), (5, _), (12, _)] (S4 rfl rfl rfl rfl) ?_
    refine XC.sr ?_
    refine XO.as rfl rfl ?_
    refine XO.nk [(0, _), (1, _), (5, _), (12, _), (22, _)] (S5 rfl rfl rfl rfl rfl) ?_
    refine XC.block ?_
    refine XC.loop (σ := Int) (fun i => 0) (fun i => 0 ≤ i) (fun i => [(22, .int .i64 i), (0, ptr bs 0 0), (1, ptr bm 0 0), (5, .int .i64 n), (12, .slice none 0 0)]) (fun i => XM W (foot [.cells bs 0 321 (encF s), .fam fam40 (FC.rowsN 9 s), .fam fam40 (FC.rowsK 3 s), irow (FC.rP s) (FC.rC s) 3 (FC.toFF s).roots, .cells bm 0 321 (encM m), .fam fam40 (FC.rowsN 9 m), .fam fam40 (FC.rowsK 3 m), irow (FC.rP m) (FC.rC m) 3 (FC.toFF m).roots]) [.cells bs 0 321 (encF s), .fam fam40 (FC.rowsN 9 s), .fam fam40 (FC.rowsK 3 s), irow (FC.rP s) (FC.rC s) 3 (FC.toFF s).roots, .cells bm 0 321 (encM m), .fam fam40 (FC.rowsN 9 m), .fam fam40 (FC.rowsK 3 m), irow (FC.rP m) (FC.rC m) 3 (FC.toFF m).roots]) (0) ?_ (S5 rfl rfl rfl rfl rfl) (fun _ hw => XM.pick (.cons (.there .here) (.cons (.there .here) (.cons (.there .here) (.cons (.t3 .here) (.cons .here (.cons (.t2 .here) (.cons (.t2 .here) (.cons (.t2 .here) .nil)))))))) hw) ?_
    ·
     omega
    intro i hi
    refine XC.seq ?_
    refine XC.sr ?_
    refine XO.mv rfl rfl ?_
    refine XO.mv rfl rfl ?_
    refine XO.v (V.lenSl rfl Tryz.underlying28) rfl ?_
    refine XO.v (V.cmp rfl rfl rfl) rfl ?_
    refine XO.nk [(0, _), (1, _), (5, _), (12, _), (22, _), (177, _)] (S6 rfl rfl rfl rfl rfl rfl) ?_
    refine XC.condFP rfl (by simp; omega) ?_
    refine XC.exit ?_
    refine XE.thenExit ?_
    refine XE.thenExit ?_
    refine XE.blockExit ?_
    refine XE.blockNormal ?_
    refine XE.next ?_
    refine XC.keep [(0, _), (1, _), (5, _)] (S3 rfl rfl rfl) ?_
    refine XC.region ?_
    refine XO.mv rfl rfl ?_
    refine XO.v (V.add rfl rfl _ (IntWalk.i64_in _ (by omega))) rfl ?_
    refine XO.as rfl rfl ?_
    refine XO.nil ?_
    refine XE.again (n + 1) ?_ ?_ (S3 rfl rfl rfl) (fun _ hw => XM.pick .h8 hw)
    ·
     (first | omega | (simp; done) | (simp; omega))
    ·
     (first | omega | (simp; done) | (simp; omega))
  ·
   obtain ⟨i1, i2, i3, i4⟩ := FF.isE_k0 i0
   have h8 := (hS.rise n i1 i2).2.2.1
   have h8m := (hSm.rise n i1 i2).2.2.1
   refine XO.mv rfl rfl ?_
   refine XO.v (V.extract rfl rfl) rfl ?_
   refine XO.v (V.extract rfl rfl) rfl ?_
   refine XO.as rfl rfl ?_
   refine XO.as rfl rfl ?_
   refine XO.nk [(0, _), (1, _), (5, _), (6, _), (7, _), (8, _), (9, _), (10, _), (11, _)] (Sub.cons rfl (S8 rfl rfl rfl rfl rfl rfl rfl rfl)) ?_
   refine XC.sr ?_
   refine XO.mv rfl rfl ?_
   refine XO.mv rfl rfl ?_
   refine XO.call rfl (r_List_yes _ _ _ _ (by rw [hU]; exact i0)) (.cons (.t5 .here) .nil) cl_62 rfl ?_
   rintro _ _ ⟨rfl, rfl⟩
   refine XO.mv rfl rfl ?_
   refine XO.v (V.extract rfl rfl) rfl ?_
   refine XO.v (V.extract rfl rfl) rfl ?_
   refine XO.as rfl rfl ?_
   refine XO.as rfl rfl ?_
   refine XO.nk [(0, _), (1, _), (5, _), (6, _), (7, _), (8, _), (9, _), (10, _), (11, _), (12, _), (13, _)] (Sub.cons rfl (Sub.cons rfl (Sub.cons rfl (S8 rfl rfl rfl rfl rfl rfl rfl rfl)))) ?_
   refine XC.seq ?_
   refine XC.sr ?_
   refine XO.v (V.loadAgg rfl (inXM (.t6 .here)) (encNV_agg _) ag_116 sz_116_4) rfl ?_
   refine XO.v (V.loadAgg rfl (inXM (.t5 .here)) (encNV_is (hOf _)) ag_116 sz_116_4) rfl ?_
   refine XO.v (V.aggNe rfl rfl aggEq (NV.ints _)) rfl ?_
   refine XO.mv rfl rfl ?_
   refine XO.guardRun rfl rfl rfl ?_
   refine XO.mv rfl rfl ?_
   refine XO.guardRun rfl rfl rfl ?_
   refine XO.mv rfl rfl ?_
   refine XO.guardRun rfl rfl rfl ?_
   refine XO.call rfl (same_any _ _ (by first | omega | exact FF.isE_nn _ _ _)) .nil cl_9 rfl ?_
   rintro _ _ ⟨rfl, rfl⟩
   refine XO.guardRun rfl rfl rfl ?_
   refine XO.v (V.notP rfl) rfl ?_
   refine XO.v (V.pick rfl rfl rfl rfl) rfl ?_
   refine XO.mv rfl rfl ?_
   refine XO.splitF (d := 69) rfl (by rw [hU]; simp) ?_
   refine XO.guardRun rfl rfl rfl ?_
   refine XO.mv rfl rfl ?_
   refine XO.guardRun rfl rfl rfl ?_
   refine XO.mv rfl rfl ?_
   refine XO.guardRun rfl rfl rfl ?_
   refine XO.call rfl (same_any _ _ (by first | omega | exact FF.isE_nn _ _ _)) .nil cl_9 rfl ?_
   rintro _ _ ⟨rfl, rfl⟩
   refine XO.guardRun rfl rfl rfl ?_
   refine XO.v (V.notP rfl) rfl ?_
   refine XO.v (V.pick rfl rfl rfl rfl) rfl ?_
   refine XO.mv rfl rfl ?_
   refine XO.splitF (d := 75) rfl (by rw [hU]; simp [i0]) ?_
   refine XO.guardRun rfl rfl rfl ?_
   refine XO.mv rfl rfl ?_
   refine XO.guardRun rfl rfl rfl ?_
   refine XO.mv rfl rfl ?_
   refine XO.mono (fun _ hw3 => XM.openN (s := m) (z := n) ⟨i1, i2⟩ (.cons (.t8 .here) .nil) hw3) ?_
   refine XO.guardRun rfl rfl rfl ?_
   refine XO.call rfl (same_texts2 _ _ _ _ _ _ (by rw [hU]) (by omega)) (.cons (.t3 .here) .h1) cl_58 rfl ?_
   rintro _ _ ⟨rfl, rfl⟩
   refine XO.mono (fun _ hw3 => XM.closeN (s := m) m (z := n) ⟨i1, i2⟩ rfl (fset_same _ rfl).symm (fset_same _ rfl).symm (fset_same _ rfl).symm (.cons (.there .here) (.cons (.there .here) .nil)) hw3) ?_
   refine XO.guardRun rfl rfl rfl ?_
   refine XO.v (V.not rfl) rfl ?_
   refine XO.v (V.pick rfl rfl rfl rfl) rfl ?_
   refine XO.nk [(0, _), (1, _), (5, _), (12, _), (80, _)] (S5 rfl rfl rfl rfl rfl) ?_
   refine XC.condF rfl rfl ?_
   refine XC.skip ?_
   refine XE.next ?_
   refine XC.keep [(0, _), (1, _), (5, _), (12, _)] (S4 rfl rfl rfl rfl) ?_
   refine XC.sr ?_
   refine XO.mv rfl rfl ?_
   refine XO.mv rfl rfl ?_
   refine XO.call rfl (t_Read _ _ _ hS _ _ _) (.cons (.t3 .here) .nil) cl_40 rfl ?_
   rintro _ _ ⟨rfl, rfl⟩
   refine XO.mv rfl rfl ?_
   refine XO.v (V.extract rfl rfl) rfl ?_
   refine XO.v (V.extract rfl rfl) rfl ?_
   refine XO.as rfl rfl ?_
   refine XO.as rfl rfl ?_
   refine XO.nk [(0, _), (1, _), (5, _), (12, _), (14, _), (15, _)] (S6 rfl rfl rfl rfl rfl rfl) ?_
   refine XC.sr ?_
   refine XO.mv rfl rfl ?_
   refine XO.mv rfl rfl ?_
   refine XO.call rfl (r_Read _ _ _ hSm _ _ _) (.cons (.t3 .here) .nil) cl_41 rfl ?_
   rintro _ _ ⟨rfl, rfl⟩
   refine XO.mv rfl rfl ?_
   refine XO.v (V.extract rfl rfl) rfl ?_
   refine XO.v (V.extract rfl rfl) rfl ?_
   refine XO.as rfl rfl ?_
   refine XO.as rfl rfl ?_
   refine XO.nk [(0, _), (1, _), (5, _), (12, _), (14, _), (15, _), (16, _), (17, _)] (S8 rfl rfl rfl rfl rfl rfl rfl rfl) ?_
   refine XC.sr ?_
   refine XO.mv rfl rfl ?_
   refine XO.mv rfl rfl ?_
   refine XO.call rfl (t_Up _ _ _ _) (.cons (.there .here) .nil) cl_63 rfl ?_
   rintro _ _ ⟨rfl, rfl⟩
   refine XO.mv rfl rfl ?_
   refine XO.v (V.extract rfl rfl) rfl ?_
   refine XO.v (V.extract rfl rfl) rfl ?_
   refine XO.as rfl rfl ?_
   refine XO.as rfl rfl ?_
   refine XO.nk [(0, _), (1, _), (5, _), (12, _), (14, _), (15, _), (16, _), (17, _), (18, _), (19, _)] (Sub.cons rfl (Sub.cons rfl (S8 rfl rfl rfl rfl rfl rfl rfl rfl))) ?_
   refine XC.sr ?_
   refine XO.mv rfl rfl ?_
   refine XO.mv rfl rfl ?_
   refine XO.call rfl (t_Tree _ _ _ _) .h1 cl_64 rfl ?_
   rintro _ _ ⟨rfl, rfl⟩
   refine XO.mv rfl rfl ?_
   refine XO.v (V.extract rfl rfl) rfl ?_
   refine XO.v (V.extract rfl rfl) rfl ?_
   refine XO.as rfl rfl ?_
   refine XO.as rfl rfl ?_
   refine XO.nk [(0, _), (1, _), (5, _), (12, _), (14, _), (15, _), (16, _), (17, _), (18, _), (19, _), (20, _), (21, _)] (Sub.cons rfl (Sub.cons rfl (Sub.cons rfl (Sub.cons rfl (S8 rfl rfl rfl rfl rfl rfl rfl rfl))))) ?_
   refine XC.seq ?_
   refine XC.sr ?_
   refine XO.mv rfl rfl ?_
   refine XO.mv rfl rfl ?_
   refine XO.v (V.strCmp rfl rfl rfl) rfl ?_
   refine XO.mv rfl rfl ?_
   refine XO.splitF (d := 108) rfl (by rw [hU]; simp) ?_
   refine XO.guardRun rfl rfl rfl ?_
   refine XO.mv rfl rfl ?_
   refine XO.guardRun rfl rfl rfl ?_
   refine XO.mv rfl rfl ?_
   refine XO.guardRun rfl rfl rfl ?_
   refine XO.call rfl (same_any _ _ (by first | omega | exact FF.readE_nn _ _ _ _)) .nil cl_9 rfl ?_
   rintro _ _ ⟨rfl, rfl⟩
   refine XO.guardRun rfl rfl rfl ?_
   refine XO.v (V.notP rfl) rfl ?_
   refine XO.v (V.pick rfl rfl rfl rfl) rfl ?_
   refine XO.mv rfl rfl ?_
   refine XO.splitF (d := 114) rfl (by rw [hU]; simp) ?_
   refine XO.guardRun rfl rfl rfl ?_
   refine XO.mv rfl rfl ?_
   refine XO.guardRun rfl rfl rfl ?_
   refine XO.mv rfl rfl ?_
   refine XO.guardRun rfl rfl rfl ?_
   refine XO.mv rfl rfl ?_
   refine XO.guardRun rfl rfl rfl ?_
   refine XO.call rfl (r_Is _ _ _ _ _) (.cons (.there .here) .nil) cl_65 rfl ?_
   rintro _ _ ⟨rfl, rfl⟩
   refine XO.guardRun rfl rfl rfl ?_
   refine XO.call rfl (same_any _ _ (by first | omega | exact FF.isE_nn _ _ _)) .nil cl_9 rfl ?_
   rintro _ _ ⟨rfl, rfl⟩
   refine XO.guardRun rfl rfl rfl ?_
   refine XO.v (V.notP rfl) rfl ?_
   refine XO.v (V.pick rfl rfl rfl rfl) rfl ?_
   refine XO.mv rfl rfl ?_
   refine XO.splitF (d := 122) rfl (by rw [hU]; simp) ?_
   refine XO.guardRun rfl rfl rfl ?_
   refine XO.mv rfl rfl ?_
   refine XO.guardRun rfl rfl rfl ?_
   refine XO.mv rfl rfl ?_
   refine XO.guardRun rfl rfl rfl ?_
   refine XO.mv rfl rfl ?_
   refine XO.guardRun rfl rfl rfl ?_
   refine XO.call rfl (r_Is _ _ _ _ _) .h1 cl_65 rfl ?_
   rintro _ _ ⟨rfl, rfl⟩
   refine XO.guardRun rfl rfl rfl ?_
   refine XO.call rfl (same_any _ _ (by first | omega | exact FF.isE_nn _ _ _)) .nil cl_9 rfl ?_
   rintro _ _ ⟨rfl, rfl⟩
   refine XO.guardRun rfl rfl rfl ?_
   refine XO.v (V.notP rfl) rfl ?_
   refine XO.v (V.pick rfl rfl rfl rfl) rfl ?_
   refine XO.nk [(0, _), (1, _), (5, _), (12, _), (18, _), (19, _), (20, _), (21, _), (129, _)] (Sub.cons rfl (S8 rfl rfl rfl rfl rfl rfl rfl rfl)) ?_
   refine XC.condFP rfl (by rw [hU]; simp) ?_
   refine XC.skip ?_
   refine XE.next ?_
   refine XC.keep [(0, _), (1, _), (5, _), (12, _), (18, _), (19, _), (20, _), (21, _)] (S8 rfl rfl rfl rfl rfl rfl rfl rfl) ?_
   refine XC.seq ?_
   refine XC.sr ?_
   refine XO.mv rfl rfl ?_
   refine XO.v (V.errNil rfl Tryz.underlying37 rfl) rfl ?_
   refine XO.mv rfl rfl ?_
   refine XO.splitT (d := 132) rfl (i0) ?_
   refine XO.guardRun rfl rfl rfl ?_
   refine XO.mv rfl rfl ?_
   refine XO.guardRun rfl rfl rfl ?_
   refine XO.mv rfl rfl ?_
   refine XO.guardRun rfl rfl rfl ?_
   refine XO.mv rfl rfl ?_
   refine XO.guardRun rfl rfl rfl ?_
   refine XO.v (V.nilCheckP rfl) rfl ?_
   refine XO.guardRun rfl rfl rfl ?_
   refine XO.v (V.fieldAddr rfl fo_34_0) rfl ?_
   refine XO.guardRun rfl rfl rfl ?_
   refine XO.v (V.indexArr rfl rfl ar_32 (by omega)) rfl ?_
   refine XO.guardRun rfl rfl rfl ?_
   refine XO.v (V.fieldAddr rfl fo_31_4) rfl ?_
   refine XO.guardRun rfl rfl rfl ?_
   refine XO.v (V.load rfl (inXM .here) (encM.ld_N_Up _ _ (by omega)) sc_3) rfl ?_
   refine XO.guardRun rfl rfl rfl ?_
   refine XO.v (V.cmp rfl rfl rfl) rfl ?_
   refine XO.v (V.pick rfl rfl rfl rfl) rfl ?_
   refine XO.mv rfl rfl ?_
   refine XO.splitF (d := 143) rfl (by rw [if_pos i0, hU]; simp) ?_
   refine XO.guardRun rfl rfl rfl ?_
   refine XO.mv rfl rfl ?_
   refine XO.guardRun rfl rfl rfl ?_
   refine XO.v (V.errNil rfl Tryz.underlying37 rfl) rfl ?_
   refine XO.guardRun rfl rfl rfl ?_
   refine XO.mv rfl rfl ?_
   refine XO.splitT (d := 146) rfl (FF.isE_20 i0) ?_
   refine XO.guardRun rfl rfl rfl ?_
   refine XO.mv rfl rfl ?_
   refine XO.guardRun rfl rfl rfl ?_
   refine XO.mv rfl rfl ?_
   refine XO.guardRun rfl rfl rfl ?_
   refine XO.mv rfl rfl ?_
   refine XO.guardRun rfl rfl rfl ?_
   refine XO.v (V.nilCheckP rfl) rfl ?_
   refine XO.guardRun rfl rfl rfl ?_
   refine XO.v (V.fieldAddr rfl fo_34_0) rfl ?_
   refine XO.guardRun rfl rfl rfl ?_
   refine XO.v (V.indexArr rfl rfl ar_32 (by omega)) rfl ?_
   refine XO.guardRun rfl rfl rfl ?_
   refine XO.v (V.fieldAddr rfl fo_31_1) rfl ?_
   refine XO.guardRun rfl rfl rfl ?_
   refine XO.v (V.load rfl (inXM .here) (encM.ld_N_Tree _ _ (by omega)) sc_3) rfl ?_
   refine XO.guardRun rfl rfl rfl ?_
   refine XO.v (V.cmp rfl rfl rfl) rfl ?_
   refine XO.guardRun rfl rfl rfl ?_
   refine XO.v (V.pick rfl rfl rfl rfl) rfl ?_
   refine XO.v (V.pick rfl rfl rfl rfl) rfl ?_
   refine XO.mv rfl rfl ?_
   refine XO.splitF (d := 158) rfl (by rw [if_pos (by first | assumption | exact FF.isE_20 i0), hU]; simp) ?_
   refine XO.guardRun rfl rfl rfl ?_
   refine XO.mv rfl rfl ?_
   refine XO.guardRun rfl rfl rfl ?_
   refine XO.v (V.errNil rfl Tryz.underlying37 rfl) rfl ?_
   refine XO.guardRun rfl rfl rfl ?_
   refine XO.mv rfl rfl ?_
   refine XO.splitF (d := 161) rfl (by simp [i0]) ?_
   refine XO.guardSkip rfl rfl rfl rfl rfl ?_
   refine XO.guardSkip rfl rfl rfl rfl rfl ?_
   refine XO.guardRun rfl rfl rfl ?_
   refine XO.v (V.pick rfl rfl rfl rfl) rfl ?_
   refine XO.v (V.pick rfl rfl rfl rfl) rfl ?_
   refine XO.mv rfl rfl ?_
   refine XO.guardRun rfl rfl rfl ?_
   refine XO.mv rfl rfl ?_
   refine XO.guardRun rfl rfl rfl ?_
   refine XO.v (V.errNil rfl Tryz.underlying37 rfl) rfl ?_
   refine XO.guardRun rfl rfl rfl ?_
   refine XO.mv rfl rfl ?_
   refine XO.splitF (d := 169) rfl (by simp [FF.isE_20 i0]) ?_
   refine XO.guardSkip rfl rfl rfl rfl rfl ?_
   refine XO.guardSkip rfl rfl rfl rfl rfl ?_
   refine XO.guardRun rfl rfl rfl ?_
   refine XO.v (V.pick rfl rfl rfl rfl) rfl ?_
   refine XO.v (V.pick rfl rfl rfl rfl) rfl ?_
   refine XO.nk [(0, _), (1, _), (5, _), (12, _), (173, _)] (S5 rfl rfl rfl rfl rfl) ?_
   refine XC.condF rfl rfl ?_
   refine XC.skip ?_
   refine XE.next ?_
   refine XC.keep [(0, _), (1, _), (5, _), (12, _)] (S4 rfl rfl rfl rfl) ?_
   refine XC.sr ?_
   refine XO.as rfl rfl ?_
   refine XO.nk [(0, _), (1, _), (5, _), (12, _), (22, _)] (S5 rfl rfl rfl rfl rfl) ?_
   refine XC.block ?_
   refine XC.loop (σ := Int) (fun i => ((m.names n).length - i).toNat) (fun i => 0 ≤ i ∧ i ≤ (m.names n).length) (fun i => [(22, .int .i64 i), (0, ptr bs 0 0), (1, ptr bm 0 0), (5, .int .i64 n), (12, .slice (m.nP n) (m.names n).length (m.nC n))]) (fun i => XM W (foot [.cells bs 0 321 (encF s), .fam fam40 (FC.rowsN 9 s), .fam fam40 (FC.rowsK 3 s), irow (FC.rP s) (FC.rC s) 3 (FC.toFF s).roots, .cells bm 0 321 (encM m), .fam fam40 (FC.rowsN 9 m), .fam fam40 (FC.rowsK 3 m), irow (FC.rP m) (FC.rC m) 3 (FC.toFF m).roots]) [.cells bs 0 321 (encF s), .fam fam40 (FC.rowsN 9 s), .fam fam40 (FC.rowsK 3 s), irow (FC.rP s) (FC.rC s) 3 (FC.toFF s).roots, .cells bm 0 321 (encM m), .fam fam40 (FC.rowsN 9 m), .fam fam40 (FC.rowsK 3 m), irow (FC.rP m) (FC.rC m) 3 (FC.toFF m).roots]) (0) ?_ (S5 rfl rfl rfl rfl rfl) (fun _ hw => XM.pick (.cons (.there .here) (.cons (.t3 .here) (.cons (.t3 .here) (.cons (.t5 .here) (.cons .here (.cons .here (.cons (.t3 .here) (.cons (.t3 .here) .nil)))))))) hw) ?_
   ·
    omega
   intro i hi
   refine XC.seq ?_
   refine XC.sr ?_
   refine XO.mv rfl rfl ?_
   refine XO.mv rfl rfl ?_
   refine XO.v (V.lenSl rfl Tryz.underlying28) rfl ?_
   refine XO.v (V.cmp rfl rfl rfl) rfl ?_
   refine XO.nk [(0, _), (1, _), (5, _), (12, _), (22, _), (177, _)] (S6 rfl rfl rfl rfl rfl rfl) ?_
   refine XC.condP rfl (fun h27 => ?_) (fun h27 => ?_)
   ·
    refine XC.skip ?_
    refine XE.next ?_
    refine XC.keep [(0, _), (1, _), (5, _), (12, _), (22, _)] (S5 rfl rfl rfl rfl rfl) ?_
    refine XC.seq ?_
    refine XC.block ?_
    refine XC.sr ?_
    refine XO.mv rfl rfl ?_
    refine XO.mv rfl rfl ?_
    refine XO.mv rfl rfl ?_
    refine XO.mv rfl rfl ?_
    refine XO.mono (fun _ hw3 => XM.openN (s := m) (z := n) ⟨i1, i2⟩ (.cons (.t5 .here) .nil) hw3) ?_
    refine XO.openRow .here (by omega) ?_
    intro g hg
    rw [hg]
    refine XO.v (V.indexSl rfl rfl sl_28 (by omega)) rfl ?_
    refine XO.v (V.loadRow rfl (inXM .here) (strs_at (by omega)) sc_9) rfl ?_
    refine XO.mono (fun _ hw3 => XM.closeN (s := m) m (z := n) ⟨i1, i2⟩ rfl (fset_same _ rfl).symm (fset_same _ hg).symm (fset_same _ rfl).symm .h2 hw3) ?_
    refine XO.call rfl (t_Find _ _ _ hS _ _) (.cons (.there .here) (.cons (.there .here) (.cons (.there .here) .nil))) cl_38 rfl ?_
    rintro _ _ ⟨rfl, rfl⟩
    refine XO.mv rfl rfl ?_
    refine XO.v (V.extract rfl rfl) rfl ?_
    refine XO.v (V.extract rfl rfl) rfl ?_
    refine XO.as rfl rfl ?_
    refine XO.as rfl rfl ?_
    refine XO.nk [(0, _), (1, _), (5, _), (12, _), (22, _), (23, _), (24, _)] (S7 rfl rfl rfl rfl rfl rfl rfl) ?_
    refine XC.sr ?_
    refine XO.mv rfl rfl ?_
    refine XO.mv rfl rfl ?_
    refine XO.mv rfl rfl ?_
    refine XO.mv rfl rfl ?_
    refine XO.mono (fun _ hw3 => XM.openN (s := m) (z := n) ⟨i1, i2⟩ (.cons (.t3 .here) .nil) hw3) ?_
    rw [hg]
    refine XO.v (V.indexSl rfl rfl sl_28 (by omega)) rfl ?_
    refine XO.v (V.loadRow rfl (inXM .here) (strs_at (by omega)) sc_9) rfl ?_
    refine XO.mono (fun _ hw3 => XM.closeN (s := m) m (z := n) ⟨i1, i2⟩ rfl (fset_same _ rfl).symm (fset_same _ hg).symm (fset_same _ rfl).symm .h2 hw3) ?_
    refine XO.call rfl (r_Find _ _ _ hSm _ _) (.cons (.t5 .here) (.cons .here (.cons (.t4 .here) .nil))) cl_39 rfl ?_
    rintro _ _ ⟨rfl, rfl⟩
    refine XO.mv rfl rfl ?_
    refine XO.v (V.extract rfl rfl) rfl ?_
    refine XO.v (V.extract rfl rfl) rfl ?_
    refine XO.as rfl rfl ?_
    refine XO.as rfl rfl ?_
    refine XO.nk [(0, _), (1, _), (5, _), (12, _), (22, _), (23, _), (24, _), (25, _), (26, _)] (Sub.cons rfl (S8 rfl rfl rfl rfl rfl rfl rfl rfl)) ?_
    refine XC.sr ?_
    refine XO.mv rfl rfl ?_
    refine XO.mv rfl rfl ?_
    refine XO.v (V.cmp rfl rfl rfl) rfl ?_
    refine XO.mv rfl rfl ?_
    refine XO.splitF (d := 203) rfl (by rw [hU]; simp) ?_
    refine XO.guardRun rfl rfl rfl ?_
    refine XO.mv rfl rfl ?_
    refine XO.guardRun rfl rfl rfl ?_
    refine XO.mv rfl rfl ?_
    refine XO.guardRun rfl rfl rfl ?_
    refine XO.call rfl (same_any _ _ (by first | omega | exact FF.findE_nn _ _ _)) .nil cl_9 rfl ?_
    rintro _ _ ⟨rfl, rfl⟩
    refine XO.guardRun rfl rfl rfl ?_
    refine XO.v (V.notP rfl) rfl ?_
    refine XO.v (V.pick rfl rfl rfl rfl) rfl ?_
    refine XO.nk [(0, _), (1, _), (5, _), (12, _), (22, _), (208, _)] (S6 rfl rfl rfl rfl rfl rfl) ?_
    refine XC.condFP rfl (by rw [hU]; simp) ?_
    refine XC.skip ?_
    refine XE.blockNormal ?_
    refine XE.next ?_
    refine XC.keep [(0, _), (1, _), (5, _), (12, _), (22, _)] (S5 rfl rfl rfl rfl rfl) ?_
    refine XC.region ?_
    refine XO.mv rfl rfl ?_
    refine XO.v (V.add rfl rfl _ (IntWalk.i64_in _ (by omega))) rfl ?_
    refine XO.as rfl rfl ?_
    refine XO.nil ?_
    refine XE.again (i + 1) ?_ ?_ (S5 rfl rfl rfl rfl rfl) (fun _ hw => XM.pick (.cons (.t3 .here) (.cons (.t3 .here) (.cons (.t3 .here) (.cons (.t3 .here) .h4)))) hw)
    ·
     (first | omega | (simp; done) | (simp; omega))
    ·
     (first | omega | (simp; done) | (simp; omega))
   ·
    refine XC.exit ?_
    refine XE.thenExit ?_
    refine XE.thenExit ?_
    refine XE.blockExit ?_
    refine XE.blockNormal ?_
    refine XE.next ?_
    refine XC.keep [(0, _), (1, _), (5, _)] (S3 rfl rfl rfl) ?_
    refine XC.region ?_
    refine XO.mv rfl rfl ?_
    refine XO.v (V.add rfl rfl _ (IntWalk.i64_in _ (by omega))) rfl ?_
    refine XO.as rfl rfl ?_
    refine XO.nil ?_
    refine XE.again (n + 1) ?_ ?_ (S3 rfl rfl rfl) (fun _ hw => XM.pick .h8 hw)
    ·
     (first | omega | (simp; done) | (simp; omega))
    ·
     (first | omega | (simp; done) | (simp; omega))
 ·
  refine XC.exit ?_
  refine XE.thenExit ?_
  refine XE.thenExit ?_
  refine XE.blockExit ?_
  refine XE.next ?_
  refine XC.keep [(0, _), (1, _)] (S2 rfl rfl) ?_
  refine XC.seq ?_
  refine XC.sr ?_
  refine XO.as rfl rfl ?_
  refine XO.nk [(0, _), (1, _), (27, _)] (S3 rfl rfl rfl) ?_
  refine XC.block ?_
  refine XC.loop (σ := Int) (fun k => (5 - k).toNat) (fun k => -1 ≤ k ∧ k ≤ 5) (fun k => [(27, .int .i64 k), (0, ptr bs 0 0), (1, ptr bm 0 0)]) (fun k => XM W (foot [.cells bs 0 321 (encF s), .fam fam40 (FC.rowsN 9 s), .fam fam40 (FC.rowsK 3 s), irow (FC.rP s) (FC.rC s) 3 (FC.toFF s).roots, .cells bm 0 321 (encM m), .fam fam40 (FC.rowsN 9 m), .fam fam40 (FC.rowsK 3 m), irow (FC.rP m) (FC.rC m) 3 (FC.toFF m).roots]) [.cells bs 0 321 (encF s), .fam fam40 (FC.rowsN 9 s), .fam fam40 (FC.rowsK 3 s), irow (FC.rP s) (FC.rC s) 3 (FC.toFF s).roots, .cells bm 0 321 (encM m), .fam fam40 (FC.rowsN 9 m), .fam fam40 (FC.rowsK 3 m), irow (FC.rP m) (FC.rC m) 3 (FC.toFF m).roots]) (-1) ?_ (S3 rfl rfl rfl) (fun _ hw => XM.pick .h8 hw) ?_
  ·
   omega
  intro k hk
  refine XC.seq ?_
  refine XC.sr ?_
  refine XO.mv rfl rfl ?_
  refine XO.v (V.cmp rfl rfl rfl) rfl ?_
  refine XO.nk [(0, _), (1, _), (27, _), (210, _)] (S4 rfl rfl rfl rfl) ?_
  refine XC.condP rfl (fun h29 => ?_) (fun h29 => ?_)
  ·
   refine XC.skip ?_
   refine XE.next ?_
   refine XC.keep [(0, _), (1, _), (27, _)] (S3 rfl rfl rfl) ?_
   refine XC.seq ?_
   refine XC.block ?_
   refine XC.sr ?_
   refine XO.mv rfl rfl ?_
   refine XO.mv rfl rfl ?_
   refine XO.call rfl (t_Root _ _ _ hS _) (.cons .here (.cons (.t2 .here) .nil)) cl_24 rfl ?_
   rintro _ _ ⟨rfl, rfl⟩
   refine XO.mv rfl rfl ?_
   refine XO.v (V.extract rfl rfl) rfl ?_
   refine XO.v (V.extract rfl rfl) rfl ?_
   refine XO.as rfl rfl ?_
   refine XO.as rfl rfl ?_
   refine XO.nk [(0, _), (1, _), (27, _), (28, _), (29, _)] (S5 rfl rfl rfl rfl rfl) ?_
   refine XC.sr ?_
   refine XO.mv rfl rfl ?_
   refine XO.mv rfl rfl ?_
   refine XO.call rfl (r_Root _ _ _ hSm _) (.cons (.t4 .here) (.cons (.t6 .here) .nil)) cl_28 rfl ?_
   rintro _ _ ⟨rfl, rfl⟩
   refine XO.mv rfl rfl ?_
   refine XO.v (V.extract rfl rfl) rfl ?_
   refine XO.v (V.extract rfl rfl) rfl ?_
   refine XO.as rfl rfl ?_
   refine XO.as rfl rfl ?_
   refine XO.nk [(0, _), (1, _), (27, _), (28, _), (29, _), (30, _), (31, _)] (S7 rfl rfl rfl rfl rfl rfl rfl) ?_
   refine XC.sr ?_
   refine XO.mv rfl rfl ?_
   refine XO.mv rfl rfl ?_
   refine XO.v (V.cmp rfl rfl rfl) rfl ?_
   refine XO.mv rfl rfl ?_
   refine XO.splitF (d := 228) rfl (by rw [hU]; simp) ?_
   refine XO.guardRun rfl rfl rfl ?_
   refine XO.mv rfl rfl ?_
   refine XO.guardRun rfl rfl rfl ?_
   refine XO.mv rfl rfl ?_
   refine XO.guardRun rfl rfl rfl ?_
   refine XO.call rfl (same_any _ _ (by first | omega | exact FF.rootE_nn _ _)) .nil cl_9 rfl ?_
   rintro _ _ ⟨rfl, rfl⟩
   refine XO.guardRun rfl rfl rfl ?_
   refine XO.v (V.notP rfl) rfl ?_
   refine XO.v (V.pick rfl rfl rfl rfl) rfl ?_
   refine XO.nk [(0, _), (1, _), (27, _), (233, _)] (S4 rfl rfl rfl rfl) ?_
   refine XC.condFP rfl (by rw [hU]; simp) ?_
   refine XC.skip ?_
   refine XE.blockNormal ?_
   refine XE.next ?_
   refine XC.keep [(0, _), (1, _), (27, _)] (S3 rfl rfl rfl) ?_
   refine XC.region ?_
   refine XO.mv rfl rfl ?_
   refine XO.v (V.add rfl rfl _ (IntWalk.i64_in _ (by omega))) rfl ?_
   refine XO.as rfl rfl ?_
   refine XO.nil ?_
   refine XE.again (k + 1) ?_ ?_ (S3 rfl rfl rfl) (fun _ hw => XM.pick (.cons (.t2 .here) (.cons (.t3 .here) (.cons (.t3 .here) (.cons (.t2 .here) (.cons .here (.cons (.there .here) (.cons (.there .here) .h1))))))) hw)
   ·
    (first | omega | (simp; done) | (simp; omega))
   ·
    (first | omega | (simp; done) | (simp; omega))
  ·
   refine XC.exit ?_
   refine XE.thenExit ?_
   refine XE.thenExit ?_
   refine XE.blockExit ?_
   refine XE.next ?_
   refine XC.keep [(0, _), (1, _)] (S2 rfl rfl) ?_
   refine XC.sr ?_
   refine XO.mv rfl rfl ?_
   refine XO.call rfl (t_Nodes _ _ _) .h1 cl_66 rfl ?_
   rintro _ _ ⟨rfl, rfl⟩
   refine XO.mv rfl rfl ?_
   refine XO.call rfl (r_Nodes _ _ _) (.cons (.t4 .here) .nil) cl_67 rfl ?_
   rintro _ _ ⟨rfl, rfl⟩
   refine XO.v (V.cmp rfl rfl rfl) rfl ?_
   refine XO.as rfl rfl ?_
   refine XO.nk [(4, _)] (S1 rfl) ?_
   refine XC.ret ?_
   refine XE.ret1 rfl rfl (post_of (.cons (.there .here) (.cons (.there .here) (.cons (.there .here) (.cons (.there .here) .h4)))) rfl ?_)
   exact ⟨congrArg Value.bool (decide_eq_true (by rw [hU])), rfl⟩
end Go.X
