import Derived.Test.YtmklfkjfgjagaaaGreatDoorXShort
import Derived.Test.YtmklfkjfgjagaaaGreatDoorYNW2
namespace Go.X
open Go Go.Proofs
theorem ag_116 : aggT Tryz.prog 116 = true := by kernel_rfl
theorem bs1_29 (z : Int) : ∀ w, (Instr.buildSlice 29 1 #[(0, .int .i64 z)]).run Tryz.prog w = .ok (.slice (some ⟨w.heap.size, 0, none⟩) 1 1) (w.alloc (.cells #[.int .i64 z] 3)) := fun w => by kernel_rfl
theorem cl_26 : callable Tryz.prog 26 = true := by kernel_rfl
theorem cl_68 : callable Tryz.prog 68 = true := by kernel_rfl
theorem cl_69 : callable Tryz.prog 69 = true := by kernel_rfl
theorem cl_75 : callable Tryz.prog 75 = true := by kernel_rfl
theorem cl_89 : callable Tryz.prog 89 = true := by kernel_rfl
theorem fo_69_4 : fieldOff Tryz.prog 69 4 = some 4 := by kernel_rfl
theorem rt_3_1 : rowT Tryz.prog 3 1 = true := by kernel_rfl
theorem sc_9 : scal Tryz.prog 9 = true := by kernel_rfl
theorem sz_116_4 : szOf Tryz.prog 116 = some 4 := by kernel_rfl
theorem sz_3_1 : szOf Tryz.prog 3 = some 1 := by kernel_rfl
set_option maxRecDepth 10000 in
set_option maxHeartbeats 400000 in
theorem t_New  : Spec Tryz.prog 7 []
    []
    (fun v H1 => ∃ b, v = ptr b 0 0 ∧ H1 = [.cells b 0 321 (encF FC.void), .fam fam40 (FC.rowsN 9 FC.void), .fam fam40 (FC.rowsK 3 FC.void), irow (FC.rP FC.void) (FC.rC FC.void) 3 (FC.toFF FC.void).roots]) := by
 refine Spec.intro Tryz.func7 rfl rfl ?_
 intro W
 refine XC.sr ?_
 refine XO.as rfl rfl ?_
 refine XO.nk [] (Sub.nil _) ?_
 refine XC.sr ?_
 refine XO.v (V.build (vs := #[]) rfl (v := .agg arrF0) (fun _ => by kernel_rfl)) rfl ?_
 refine XO.box (m := 321) (C := encF FC.void) rfl arrF0_size arrF0_box rfl ?_
 intro p
 refine XO.mono (fun _ hw3 => XM.newForest hw3) ?_
 refine XO.as rfl rfl ?_
 refine XO.nk [(0, _)] (S1 rfl) ?_
 refine XC.ret ?_
 refine XE.ret1 rfl rfl (post_of (.cons (.t3 .here) .h3) rfl ?_)
 exact ⟨_, rfl, rfl⟩
set_option maxRecDepth 10000 in
set_option maxHeartbeats 2000000 in
theorem t_Plant (b o : Nat) (s : FC) (hI : s.toFF.Sh) : Spec Tryz.prog 10 [ptr b o 0]
    [.cells b o 321 (encF s), .fam fam40 (s.rowsN 9), .fam fam40 (s.rowsK 3), irow s.rP s.rC 3 s.roots]
    (fun v H1 => ∃ t : FC, v = .tuple #[.int .i64 s.plantV, errv 76 s.plantE] ∧ t.toFF = s.plant ∧ H1 = [.cells b o 321 (encF t), .fam fam40 (FC.rowsN 9 t), .fam fam40 (FC.rowsK 3 t), irow (FC.rP t) (FC.rC t) 3 (FC.toFF t).roots]) := by
 have hr4 := hI.roots.1
 refine Spec.intro Tryz.func10 rfl rfl ?_
 intro W
 refine XC.sr ?_
 refine XO.as rfl rfl ?_
 refine XO.as rfl rfl ?_
 refine XO.nk [(0, _)] (S1 rfl) ?_
 refine XC.seq ?_
 refine XC.sr ?_
 refine XO.mv rfl rfl ?_
 refine XO.v (V.nilCheckP rfl) rfl ?_
 refine XO.v (V.fieldAddr rfl fo_72_1) rfl ?_
 refine XO.v (V.load rfl (inXM .here) (encF_roots _) sc_29) rfl ?_
 refine XO.v (V.lenSl rfl Tryz.underlying29) rfl ?_
 refine XO.v (V.cmp rfl rfl rfl) rfl ?_
 refine XO.nk [(0, _), (11, _)] (S2 rfl rfl) ?_
 refine XC.condP rfl (fun h1 => ?_) (fun h1 => ?_)
 ·
  refine XC.sr ?_
  refine XO.v (V.makeIface rfl Tryz.underlying76 (by simp)) rfl ?_
  refine XO.as rfl rfl ?_
  refine XO.as rfl rfl ?_
  refine XO.nk [(2, _), (3, _)] (S2 rfl rfl) ?_
  refine XC.ret ?_
  refine XE.thenRet ?_
  refine XE.ret2 rfl rfl rfl (post_of .h4 rfl ?_)
  have e : s.plantE = 4 := by unfold FF.plantE; rw [if_pos (by omega)]
  exact ⟨s, by rw [show s.plantV = 0 from by unfold FF.plantV; rw [if_neg (by omega)], e]; rfl, by unfold FF.plant; rw [if_neg (by omega)], rfl⟩
 ·
  refine XC.skip ?_
  refine XE.next ?_
  refine XC.keep [(0, _)] (S1 rfl) ?_
  refine XC.sr ?_
  refine XO.mv rfl rfl ?_
  refine XO.mv rfl rfl ?_
  refine XO.v (V.nilCheckP rfl) rfl ?_
  refine XO.v (V.fieldAddr rfl fo_72_1) rfl ?_
  refine XO.v (V.load rfl (inXM .here) (encF_roots _) sc_29) rfl ?_
  refine XO.v (V.lenSl rfl Tryz.underlying29) rfl ?_
  refine XO.v (V.build (vs := #[(0, .int .i64 2), (1, .int .i64 (s.roots.length)), (2, .int .i64 1)]) rfl (v := .agg (nodeA 2 s.roots.length 1 0)) (fun _ => by kernel_rfl)) rfl ?_
  refine XO.call rfl (t_fresh _ _ _ _ _ _ _) .h3 cl_26 rfl ?_
  rintro _ _ (⟨h2, rfl, rfl⟩ | ⟨h2, rfl, rfl⟩)
  ·
   refine XO.mv rfl rfl ?_
   refine XO.v (V.extract rfl rfl) rfl ?_
   refine XO.v (V.extract rfl rfl) rfl ?_
   refine XO.as rfl rfl ?_
   refine XO.as rfl rfl ?_
   refine XO.nk [(0, _), (4, _), (5, _)] (S3 rfl rfl rfl) ?_
   refine XC.seq ?_
   refine XC.sr ?_
   refine XO.mv rfl rfl ?_
   refine XO.v (V.ifaceNil rfl Tryz.underlying37 rfl) rfl ?_
   refine XO.nk [(0, _), (4, _), (5, _), (25, _)] (S4 rfl rfl rfl rfl) ?_
   refine XC.condT rfl rfl ?_
   refine XC.sr ?_
   refine XO.mv rfl rfl ?_
   refine XO.as rfl rfl ?_
   refine XO.as rfl rfl ?_
   refine XO.nk [(2, _), (3, _)] (S2 rfl rfl) ?_
   refine XC.ret ?_
   refine XE.thenRet ?_
   refine XE.ret2 rfl rfl rfl (post_of .h4 rfl ?_)
   have e : s.plantE = 4 := by unfold FF.plantE; rw [if_neg (by omega), if_pos (by assumption)]
   exact ⟨s, by rw [show s.plantV = 0 from by unfold FF.plantV; rw [if_neg (by omega)], e], by unfold FF.plant; rw [if_neg (by omega)], rfl⟩
  ·
   refine XO.mv rfl rfl ?_
   refine XO.v (V.extract rfl rfl) rfl ?_
   refine XO.v (V.extract rfl rfl) rfl ?_
   refine XO.as rfl rfl ?_
   refine XO.as rfl rfl ?_
   refine XO.nk [(0, _), (4, _), (5, _)] (S3 rfl rfl rfl) ?_
   refine XC.seq ?_
   refine XC.sr ?_
   refine XO.mv rfl rfl ?_
   refine XO.v (V.nilNil rfl Tryz.underlying37 rfl) rfl ?_
   refine XO.nk [(0, _), (4, _), (5, _), (25, _)] (S4 rfl rfl rfl rfl) ?_
   refine XC.condF rfl rfl ?_
   refine XC.skip ?_
   refine XE.next ?_
   refine XC.keep [(0, _), (4, _)] (S2 rfl rfl) ?_
   refine XC.sr ?_
   have f := FF.free_ok (show ¬ s.free < 0 by assumption)
   refine XO.mv rfl rfl ?_
   refine XO.mv rfl rfl ?_
   refine XO.mv rfl rfl ?_
   refine XO.v (V.nilCheckP rfl) rfl ?_
   refine XO.v (V.fieldAddr rfl fo_72_0) rfl ?_
   refine XO.v (V.indexArr rfl rfl ar_70 (by omega)) rfl ?_
   refine XO.v (V.fieldAddr rfl fo_69_7) rfl ?_
   refine XO.store rfl rfl .here (encF.st_n_up _ _ (by omega) _) rfl sz_3_1 ?_
   refine XO.nk [(0, _), (4, _)] (S2 rfl rfl) ?_
   refine XC.sr ?_
   refine XO.mv rfl rfl ?_
   refine XO.mv rfl rfl ?_
   refine XO.v (V.nilCheckP rfl) rfl ?_
   refine XO.v (V.fieldAddr rfl fo_72_1) rfl ?_
   refine XO.v (V.load rfl (inXM .here) (encF_roots _) sc_29) rfl ?_
   refine XO.mv rfl rfl ?_
   refine XO.buildSlice (A := #[.int .i64 _]) (vs := #[(0, .int .i64 _)]) rfl (bs1_29 _) rfl rfl ?_
   intro h3
   refine XO.appendI (e := 3) rfl rfl Tryz.underlying29 rt_3_1 (.t4 .here) .here (by show s.roots.length + 1 ≤ _; omega) rfl ?_
   intro p1 c1
   refine XO.v (V.nilCheckP rfl) rfl ?_
   refine XO.v (V.fieldAddr rfl fo_72_1) rfl ?_
   refine XO.store rfl rfl (.t2 .here) (encF_roots_st _ (s.roots ++ [s.free]) _ _ _ rfl) rfl sz_29_1 ?_
   refine XO.nk [(0, _)] (S1 rfl) ?_
   refine XC.sr ?_
   refine XO.mv rfl rfl ?_
   refine XO.v (V.nilCheckP rfl) rfl ?_
   refine XO.v (V.fieldAddr rfl fo_72_1) rfl ?_
   refine XO.v (V.load rfl (inXM (.t2 .here)) (encF_roots _) sc_29) rfl ?_
   refine XO.v (V.lenSl rfl Tryz.underlying29) rfl ?_
   refine XO.v (V.sub rfl rfl _ (IntWalk.i64_in _ (by simp only [List.length_append, List.length_singleton]; omega))) rfl ?_
   refine XO.as rfl rfl ?_
   refine XO.as rfl rfl ?_
   refine XO.nk [(2, _), (3, _)] (S2 rfl rfl) ?_
   refine XC.ret ?_
   refine XE.ret2 rfl rfl rfl (post_of (.cons (.t2 .here) (.cons (.t2 .here) (.cons (.t2 .here) .h1))) rfl ?_)
   have e : s.plantE = 0 := by unfold FF.plantE; rw [if_neg (by omega), if_neg (by assumption)]
   refine ⟨_, ?_, ?_, rfl⟩
   ·
    rw [show s.plantV = s.roots.length from by unfold FF.plantV; rw [if_pos e], e]
    simp only [List.length_append, List.length_singleton]
    rw [show ((s.roots.length + 1 : Nat) : Int) - 1 = s.roots.length by omega]; rfl
   ·
    unfold FF.plant; rw [if_pos e, ← FF.setN_up s.toFF s.free 2 _ 1 0 s.free]; rfl
set_option maxRecDepth 10000 in
set_option maxHeartbeats 1000000 in
theorem t_Of (b o : Nat) (s : FC) (hI : s.toFF.Sh) (n : Int) : Spec Tryz.prog 59 [ptr b o 0, .int .i64 n]
    [.cells b o 321 (encF s)]
    (fun v H1 => v = .tuple #[.agg (s.ofV n).arr, errv 76 (s.isE n 0)] ∧ H1 = [.cells b o 321 (encF s)]) := by
 refine Spec.intro Tryz.func59 rfl rfl ?_
 intro W
 refine XC.sr ?_
 refine XO.allocZ (z := .agg NV.zero.arr) (m := 4) (C := encNV NV.zero) (by kernel_rfl) rfl (encNV_box _) rfl ?_
 intro bg
 refine XO.as rfl rfl ?_
 refine XO.nk [(0, _), (1, _), (4, _)] (S3 rfl rfl rfl) ?_
 refine XC.sr ?_
 refine XO.mv rfl rfl ?_
 refine XO.mv rfl rfl ?_
 refine XO.call rfl (t_is _ _ _ _) (.cons (.there .here) .nil) cl_71 rfl ?_
 rintro _ _ ⟨rfl, rfl⟩
 refine XO.as rfl rfl ?_
 refine XO.nk [(0, _), (1, _), (4, _), (6, _)] (S4 rfl rfl rfl rfl) ?_
 refine XC.seq ?_
 refine XC.sr ?_
 refine XO.mv rfl rfl ?_
 refine XO.v (V.errNil rfl Tryz.underlying37 rfl) rfl ?_
 refine XO.nk [(0, _), (1, _), (4, _), (6, _), (12, _)] (S5 rfl rfl rfl rfl rfl) ?_
 refine XC.condP rfl (fun h1 => ?_) (fun h1 => ?_)
 ·
  have i0 : s.isE n 0 ≠ 0 := by assumption
  refine XC.sr ?_
  refine XO.v (V.build (vs := #[]) rfl (v := .agg NV.zero.arr) (fun _ => by kernel_rfl)) rfl ?_
  refine XO.mv rfl rfl ?_
  refine XO.storeAgg rfl rfl (.there .here) (encNV_st _ _) ⟨rfl, rfl⟩ sz_116_4 ?_
  refine XO.as rfl rfl ?_
  refine XO.nk [(4, _), (5, _)] (S2 rfl rfl) ?_
  refine XC.ret ?_
  refine XE.thenRet ?_
  refine XE.retG2 rfl (.agg rfl (.there .here) (encNV_agg _) ag_116 sz_116_4) (.tmp rfl) (post_of .h1 rfl ?_)
  exact ⟨by rw [show s.ofV n = NV.zero from by unfold FF.ofV; rw [if_neg i0]], rfl⟩
 ·
  obtain ⟨i1, i2, i3⟩ := FF.isE_0 (show s.isE n 0 = 0 by simpa using h1)
  have i0 : s.isE n 0 = 0 := by simpa using h1
  refine XC.skip ?_
  refine XE.next ?_
  refine XC.keep [(0, _), (1, _), (4, _)] (S3 rfl rfl rfl) ?_
  refine XC.sr ?_
  refine XO.mv rfl rfl ?_
  refine XO.mv rfl rfl ?_
  refine XO.v (V.nilCheckP rfl) rfl ?_
  refine XO.v (V.fieldAddr rfl fo_72_0) rfl ?_
  refine XO.v (V.indexArr rfl rfl ar_70 (by omega)) rfl ?_
  refine XO.v (V.loadAgg rfl (inXM .here) (encF_node _ _ (by omega)) ag_69 sz_69_8) rfl ?_
  refine XO.allocZ (z := .agg (nodeA 0 0 0 0)) (m := 8) (C := encF.cell (nodeU 0 0 0 0)) (by kernel_rfl) rfl (node_box 0 0 0 0) rfl ?_
  intro bx
  refine XO.storeAgg rfl rfl .here (nodeV_st _ _) ⟨rfl, rfl⟩ sz_69_8 ?_
  refine XO.nk [(4, _), (7, _)] (S2 rfl rfl) ?_
  refine XC.sr ?_
  refine XO.v (V.fieldAddr rfl fo_69_0) rfl ?_
  refine XO.v (V.load rfl (inXM .here) (nodeV_0 _) sc_3) rfl ?_
  refine XO.v (V.fieldAddr rfl fo_69_2) rfl ?_
  refine XO.v (V.load rfl (inXM .here) (nodeV_2 _) sc_3) rfl ?_
  refine XO.v (V.fieldAddr rfl fo_69_3) rfl ?_
  refine XO.v (V.load rfl (inXM .here) (nodeV_3 _) sc_3) rfl ?_
  refine XO.v (V.fieldAddr rfl fo_69_4) rfl ?_
  refine XO.v (V.load rfl (inXM .here) (nodeV_4 _) sc_9) rfl ?_
  refine XO.v (V.lenStr rfl Tryz.underlying9) rfl ?_
  refine XO.v (V.fieldAddr rfl fo_69_6) rfl ?_
  refine XO.v (V.load rfl (inXM .here) (nodeV_6 _) sc_29) rfl ?_
  refine XO.v (V.lenSl rfl Tryz.underlying29) rfl ?_
  refine XO.v (V.max2 rfl rfl) rfl ?_
  refine XO.v (V.build (vs := #[(0, .int .i64 (s.kind n)), (1, .int .i64 (s.links n)), (2, .int .i64 (s.held n)), (3, .int .i64 (max ((s.data n).size : Int) ((s.kids n).length : Int)))]) rfl (v := .agg (NV.mk (s.kind n) (s.links n) (s.held n) (max ((s.data n).size : Int) ((s.kids n).length : Int))).arr) (fun _ => by kernel_rfl)) rfl ?_
  refine XO.storeAgg rfl rfl (.t2 .here) (encNV_st _ _) ⟨rfl, rfl⟩ sz_116_4 ?_
  refine XO.as rfl rfl ?_
  refine XO.nk [(4, _), (5, _)] (S2 rfl rfl) ?_
  refine XC.ret ?_
  refine XE.retG2 rfl (.agg rfl (.t2 .here) (encNV_agg _) ag_116 sz_116_4) (.tmp rfl) (post_of (.cons (.there .here) .nil) rfl ?_)
  exact ⟨by rw [show s.ofV n = _ from by unfold FF.ofV; rw [if_pos i0], i0]; rfl, rfl⟩
set_option maxRecDepth 10000 in
set_option maxHeartbeats 1000000 in
theorem t_List (b o : Nat) (s : FC) (hI : s.toFF.Sh) (n : Int) : Spec Tryz.prog 61 [ptr b o 0, .int .i64 n]
    [.cells b o 321 (encF s), .fam fam40 (s.rowsN 9), .fam fam40 (s.rowsK 3)]
    (fun v H1 => (s.isE n 2 ≠ 0 ∧ v = .tuple #[.slice none 0 0, errv 76 (s.isE n 2)] ∧ H1 = [.cells b o 321 (encF s), .fam fam40 (FC.rowsN 9 s), .fam fam40 (FC.rowsK 3 s)]) ∨ (s.isE n 2 = 0 ∧ ∃ p c, v = .tuple #[.slice p (s.names n).length c, errv 76 0] ∧ H1 = srow p c 9 (s.names n) :: [.cells b o 321 (encF s), .fam fam40 (FC.rowsN 9 s), .fam fam40 (FC.rowsK 3 s)])) := by
 refine Spec.intro Tryz.func61 rfl rfl ?_
 intro W
 refine XC.sr ?_
 refine XO.as rfl rfl ?_
 refine XO.as rfl rfl ?_
 refine XO.nk [(0, _), (1, _)] (S2 rfl rfl) ?_
 refine XC.sr ?_
 refine XO.mv rfl rfl ?_
 refine XO.mv rfl rfl ?_
 refine XO.call rfl (t_dir _ _ _ _) .h1 cl_79 rfl ?_
 rintro _ _ ⟨rfl, rfl⟩
 refine XO.as rfl rfl ?_
 refine XO.nk [(0, _), (1, _), (6, _)] (S3 rfl rfl rfl) ?_
 refine XC.seq ?_
 refine XC.sr ?_
 refine XO.mv rfl rfl ?_
 refine XO.v (V.errNil rfl Tryz.underlying37 rfl) rfl ?_
 refine XO.nk [(0, _), (1, _), (6, _), (11, _)] (S4 rfl rfl rfl rfl) ?_
 refine XC.condP rfl (fun h1 => ?_) (fun h1 => ?_)
 ·
  have i0 : s.isE n 2 ≠ 0 := by assumption
  refine XC.sr ?_
  refine XO.mv rfl rfl ?_
  refine XO.as rfl rfl ?_
  refine XO.as rfl rfl ?_
  refine XO.nk [(4, _), (5, _)] (S2 rfl rfl) ?_
  refine XC.ret ?_
  refine XE.thenRet ?_
  refine XE.ret2 rfl rfl rfl (post_of .h3 rfl ?_)
  exact .inl ⟨i0, rfl, rfl⟩
 ·
  obtain ⟨i1, i2, i3, i4⟩ := FF.isE_k0 (show s.isE n 2 = 0 by simpa using h1)
  have i0 : s.isE n 2 = 0 := by simpa using h1
  obtain ⟨hr, hk, h8, _⟩ := hI.rise n (by omega) (by omega)
  refine XC.skip ?_
  refine XE.next ?_
  refine XC.keep [(0, _), (1, _)] (S2 rfl rfl) ?_
  refine XC.sr ?_
  refine XO.mv rfl rfl ?_
  refine XO.mv rfl rfl ?_
  refine XO.v (V.nilCheckP rfl) rfl ?_
  refine XO.v (V.fieldAddr rfl fo_72_0) rfl ?_
  refine XO.v (V.indexArr rfl rfl ar_70 (by omega)) rfl ?_
  refine XO.v (V.fieldAddr rfl fo_69_5) rfl ?_
  refine XO.v (V.load rfl (inXM .here) (encF.ld_n_names _ _ (by omega)) sc_28) rfl ?_
  refine XO.mono (fun _ hw3 => XM.openN (s := s) (z := n) (by omega) (.cons (.there .here) .nil) hw3) ?_
  refine XO.call rfl (s_clone _ _ _ (by omega)) .h1 cl_89 rfl ?_
  rintro _ _ ⟨p1, c1, rfl, rfl⟩
  refine XO.mono (fun _ hw3 => XM.closeN (s := s) s (z := n) (by omega) rfl (fset_same _ rfl).symm (fset_same _ rfl).symm (fset_same _ rfl).symm (.cons (.there .here) (.cons (.there .here) .nil)) hw3) ?_
  refine XO.as rfl rfl ?_
  refine XO.as rfl rfl ?_
  refine XO.nk [(4, _), (5, _)] (S2 rfl rfl) ?_
  refine XC.ret ?_
  refine XE.ret2 rfl rfl rfl (post_of (.cons (.there .here) (.cons (.there .here) .h2)) rfl ?_)
  exact .inr ⟨i0, _, _, rfl, rfl⟩
set_option maxRecDepth 10000 in
set_option maxHeartbeats 2000000 in
theorem t_Make (b o : Nat) (s : FC) (hI : s.toFF.Sh) (n : Int) (x : ByteArray) (k : Int) (hx : x.size ≤ 9223372036854775807) : Spec Tryz.prog 22 [ptr b o 0, .int .i64 n, .string x, .int .i64 k]
    [.cells b o 321 (encF s), .fam fam40 (s.rowsN 9), .fam fam40 (s.rowsK 3)]
    (fun v H1 => v = .tuple #[.int .i64 (s.makeV n x k), errv 76 (s.makeE n x k)] ∧ ∃ t : FC, t.toFF = s.make n x k ∧ t.rP = s.rP ∧ t.rC = s.rC ∧ H1 = [.cells b o 321 (encF t), .fam fam40 (FC.rowsN 9 t), .fam fam40 (FC.rowsK 3 t)]) := by
 refine Spec.intro Tryz.func22 rfl rfl ?_
 intro W
 refine XC.sr ?_
 refine XO.as rfl rfl ?_
 refine XO.as rfl rfl ?_
 refine XO.nk [(0, _), (1, _), (2, _), (3, _)] (S4 rfl rfl rfl rfl) ?_
 refine XC.seq ?_
 refine XC.sr ?_
 refine XO.mv rfl rfl ?_
 refine XO.v (V.cmp rfl rfl rfl) rfl ?_
 refine XO.mv rfl rfl ?_
 refine XO.splitP (d := 14) rfl (fun h1 => ?_) (fun h1 => ?_)
 ·
  refine XO.guardRun rfl rfl rfl ?_
  refine XO.mv rfl rfl ?_
  refine XO.guardRun rfl rfl rfl ?_
  refine XO.v (V.cmp rfl rfl rfl) rfl ?_
  refine XO.v (V.pick rfl rfl rfl rfl) rfl ?_
  refine XO.nk [(0, _), (1, _), (2, _), (3, _), (17, _)] (S5 rfl rfl rfl rfl rfl) ?_
  refine XC.condP rfl (fun h2 => ?_) (fun h2 => ?_)
  ·
   refine XC.sr ?_
   refine XO.v (V.makeIface rfl Tryz.underlying76 (by simp)) rfl ?_
   refine XO.as rfl rfl ?_
   refine XO.as rfl rfl ?_
   refine XO.nk [(8, _), (9, _)] (S2 rfl rfl) ?_
   refine XC.ret ?_
   refine XE.thenRet ?_
   refine XE.ret2 rfl rfl rfl (post_of .h3 rfl ?_)
   have e : s.makeE n x k = 1 := by unfold FF.makeE; rw [if_pos (by omega)]
   exact ⟨by rw [show s.makeV n x k = 0 from by unfold FF.makeV; rw [if_neg (by omega)], e]; rfl, s, by unfold FF.make; rw [if_neg (by omega)], rfl, rfl, rfl⟩
  ·
   refine XC.skip ?_
   refine XE.next ?_
   refine XC.keep [(0, _), (1, _), (2, _), (3, _)] (S4 rfl rfl rfl rfl) ?_
   refine XC.sr ?_
   refine XO.mv rfl rfl ?_
   refine XO.mv rfl rfl ?_
   refine XO.mv rfl rfl ?_
   refine XO.call rfl (t_room _ _ _ hI _ _ (by assumption)) .h3 cl_68 rfl ?_
   rintro _ _ ⟨rfl, rfl⟩
   refine XO.as rfl rfl ?_
   refine XO.nk [(0, _), (1, _), (2, _), (3, _), (10, _)] (S5 rfl rfl rfl rfl rfl) ?_
   refine XC.seq ?_
   refine XC.sr ?_
   refine XO.mv rfl rfl ?_
   refine XO.v (V.errNil rfl Tryz.underlying37 rfl) rfl ?_
   refine XO.nk [(0, _), (1, _), (2, _), (3, _), (10, _), (24, _)] (S6 rfl rfl rfl rfl rfl rfl) ?_
   refine XC.condP rfl (fun h3 => ?_) (fun h3 => ?_)
   ·
    have m0 : s.roomE n x ≠ 0 := by assumption
    refine XC.sr ?_
    refine XO.mv rfl rfl ?_
    refine XO.as rfl rfl ?_
    refine XO.as rfl rfl ?_
    refine XO.nk [(8, _), (9, _)] (S2 rfl rfl) ?_
    refine XC.ret ?_
    refine XE.thenRet ?_
    refine XE.ret2 rfl rfl rfl (post_of .h3 rfl ?_)
    have e : s.makeE n x k = s.roomE n x := by unfold FF.makeE; rw [if_neg (by omega), if_pos (by omega)]
    exact ⟨by rw [show s.makeV n x k = 0 from by unfold FF.makeV; rw [if_neg (by omega)], e], s, by unfold FF.make; rw [if_neg (by omega)], rfl, rfl, rfl⟩
   ·
    obtain ⟨m1, m2, m3, m4⟩ := FF.roomE_0 (show s.roomE n x = 0 by simpa using h3)
    obtain ⟨i1, i2, i3, i4⟩ := FF.isE_k0 m1
    have i5 := i4 (by omega)
    have m0 : s.roomE n x = 0 := by simpa using h3
    refine XC.skip ?_
    refine XE.next ?_
    refine XC.keep [(0, _), (1, _), (2, _), (3, _)] (S4 rfl rfl rfl rfl) ?_
    refine XC.sr ?_
    refine XO.mv rfl rfl ?_
    refine XO.mv rfl rfl ?_
    refine XO.mv rfl rfl ?_
    refine XO.mv rfl rfl ?_
    refine XO.v (V.nilCheckP rfl) rfl ?_
    refine XO.v (V.fieldAddr rfl fo_72_0) rfl ?_
    refine XO.v (V.indexArr rfl rfl ar_70 (by omega)) rfl ?_
    refine XO.v (V.fieldAddr rfl fo_69_1) rfl ?_
    refine XO.v (V.load rfl (inXM .here) (encF.ld_n_tree _ _ (by omega)) sc_3) rfl ?_
    refine XO.mv rfl rfl ?_
    refine XO.v (V.build (vs := #[(0, .int .i64 k), (1, .int .i64 (s.tree n)), (2, .int .i64 1), (7, .int .i64 n)]) rfl (v := .agg (nodeA k (s.tree n) 1 n)) (fun _ => by kernel_rfl)) rfl ?_
    refine XO.call rfl (t_fresh _ _ _ _ _ _ _) .h3 cl_26 rfl ?_
    rintro _ _ (⟨h4, rfl, rfl⟩ | ⟨h4, rfl, rfl⟩)
    ·
     refine XO.mv rfl rfl ?_
     refine XO.v (V.extract rfl rfl) rfl ?_
     refine XO.v (V.extract rfl rfl) rfl ?_
     refine XO.as rfl rfl ?_
     refine XO.as rfl rfl ?_
     refine XO.nk [(0, _), (1, _), (2, _), (10, _), (11, _)] (S5 rfl rfl rfl rfl rfl) ?_
     refine XC.seq ?_
     refine XC.sr ?_
     refine XO.mv rfl rfl ?_
     refine XO.v (V.ifaceNil rfl Tryz.underlying37 rfl) rfl ?_
     refine XO.nk [(0, _), (1, _), (2, _), (10, _), (11, _), (42, _)] (S6 rfl rfl rfl rfl rfl rfl) ?_
     refine XC.condT rfl rfl ?_
     refine XC.sr ?_
     refine XO.mv rfl rfl ?_
     refine XO.as rfl rfl ?_
     refine XO.as rfl rfl ?_
     refine XO.nk [(8, _), (9, _)] (S2 rfl rfl) ?_
     refine XC.ret ?_
     refine XE.thenRet ?_
     refine XE.ret2 rfl rfl rfl (post_of .h3 rfl ?_)
     have e : s.makeE n x k = 4 := by unfold FF.makeE; rw [if_neg (by omega), if_neg (by omega), if_pos (by assumption)]
     exact ⟨by rw [show s.makeV n x k = 0 from by unfold FF.makeV; rw [if_neg (by omega)], e], s, by unfold FF.make; rw [if_neg (by omega)], rfl, rfl, rfl⟩
    ·
     refine XO.mv rfl rfl ?_
     refine XO.v (V.extract rfl rfl) rfl ?_
     refine XO.v (V.extract rfl rfl) rfl ?_
     refine XO.as rfl rfl ?_
     refine XO.as rfl rfl ?_
     refine XO.nk [(0, _), (1, _), (2, _), (10, _), (11, _)] (S5 rfl rfl rfl rfl rfl) ?_
     refine XC.seq ?_
     refine XC.sr ?_
     refine XO.mv rfl rfl ?_
     refine XO.v (V.nilNil rfl Tryz.underlying37 rfl) rfl ?_
     refine XO.nk [(0, _), (1, _), (2, _), (10, _), (11, _), (42, _)] (S6 rfl rfl rfl rfl rfl rfl) ?_
     refine XC.condF rfl rfl ?_
     refine XC.skip ?_
     refine XE.next ?_
     refine XC.keep [(0, _), (1, _), (2, _), (11, _)] (S4 rfl rfl rfl rfl) ?_
     refine XC.sr ?_
     have f := FF.free_ok (show ¬ s.free < 0 by assumption)
     have hI2 : (s.setC s.free k (s.tree n) 1 n).toFF.Sh := hI.setN _ _ _ _ _ (by omega)
     refine XO.mv rfl rfl ?_
     refine XO.mv rfl rfl ?_
     refine XO.mv rfl rfl ?_
     refine XO.mv rfl rfl ?_
     refine XO.call rfl (t_put _ _ _ hI2 _ _ _ (by omega)) .h3 cl_69 rfl ?_
     rintro _ _ ⟨rfl, t, ht, hp, hc, rfl⟩
     refine XO.nk [(11, _)] (S1 rfl) ?_
     refine XC.sr ?_
     refine XO.mv rfl rfl ?_
     refine XO.as rfl rfl ?_
     refine XO.as rfl rfl ?_
     refine XO.nk [(8, _), (9, _)] (S2 rfl rfl) ?_
     refine XC.ret ?_
     refine XE.ret2 rfl rfl rfl (post_of .h3 rfl ?_)
     have e : s.makeE n x k = 0 := by unfold FF.makeE; rw [if_neg (by omega), if_neg (by omega), if_neg (by assumption)]
     exact ⟨by rw [show s.makeV n x k = s.free from by unfold FF.makeV; rw [if_pos e], e]; rfl, t, by rw [ht]; unfold FF.make; rw [if_pos e]; rfl, hp, hc, rfl⟩
 ·
  refine XO.guardSkip rfl rfl rfl rfl rfl ?_
  refine XO.guardSkip rfl rfl rfl rfl rfl ?_
  refine XO.v (V.pick rfl rfl rfl rfl) rfl ?_
  refine XO.nk [(0, _), (1, _), (2, _), (3, _), (17, _)] (S5 rfl rfl rfl rfl rfl) ?_
  refine XC.condF rfl rfl ?_
  refine XC.skip ?_
  refine XE.next ?_
  refine XC.keep [(0, _), (1, _), (2, _), (3, _)] (S4 rfl rfl rfl rfl) ?_
  refine XC.sr ?_
  refine XO.mv rfl rfl ?_
  refine XO.mv rfl rfl ?_
  refine XO.mv rfl rfl ?_
  refine XO.call rfl (t_room _ _ _ hI _ _ (by assumption)) .h3 cl_68 rfl ?_
  rintro _ _ ⟨rfl, rfl⟩
  refine XO.as rfl rfl ?_
  refine XO.nk [(0, _), (1, _), (2, _), (3, _), (10, _)] (S5 rfl rfl rfl rfl rfl) ?_
  refine XC.seq ?_
  refine XC.sr ?_
  refine XO.mv rfl rfl ?_
  refine XO.v (V.errNil rfl Tryz.underlying37 rfl) rfl ?_
  refine XO.nk [(0, _), (1, _), (2, _), (3, _), (10, _), (24, _)] (S6 rfl rfl rfl rfl rfl rfl) ?_
  refine XC.condP rfl (fun h5 => ?_) (fun h5 => ?_)
  ·
   have m0 : s.roomE n x ≠ 0 := by assumption
   refine XC.sr ?_
   refine XO.mv rfl rfl ?_
   refine XO.as rfl rfl ?_
   refine XO.as rfl rfl ?_
   refine XO.nk [(8, _), (9, _)] (S2 rfl rfl) ?_
   refine XC.ret ?_
   refine XE.thenRet ?_
   refine XE.ret2 rfl rfl rfl (post_of .h3 rfl ?_)
   have e : s.makeE n x k = s.roomE n x := by unfold FF.makeE; rw [if_neg (by omega), if_pos (by omega)]
   exact ⟨by rw [show s.makeV n x k = 0 from by unfold FF.makeV; rw [if_neg (by omega)], e], s, by unfold FF.make; rw [if_neg (by omega)], rfl, rfl, rfl⟩
  ·
   obtain ⟨m1, m2, m3, m4⟩ := FF.roomE_0 (show s.roomE n x = 0 by simpa using h5)
   obtain ⟨i1, i2, i3, i4⟩ := FF.isE_k0 m1
   have i5 := i4 (by omega)
   have m0 : s.roomE n x = 0 := by simpa using h5
   refine XC.skip ?_
   refine XE.next ?_
   refine XC.keep [(0, _), (1, _), (2, _), (3, _)] (S4 rfl rfl rfl rfl) ?_
   refine XC.sr ?_
   refine XO.mv rfl rfl ?_
   refine XO.mv rfl rfl ?_
   refine XO.mv rfl rfl ?_
   refine XO.mv rfl rfl ?_
   refine XO.v (V.nilCheckP rfl) rfl ?_
   refine XO.v (V.fieldAddr rfl fo_72_0) rfl ?_
   refine XO.v (V.indexArr rfl rfl ar_70 (by omega)) rfl ?_
   refine XO.v (V.fieldAddr rfl fo_69_1) rfl ?_
   refine XO.v (V.load rfl (inXM .here) (encF.ld_n_tree _ _ (by omega)) sc_3) rfl ?_
   refine XO.mv rfl rfl ?_
   refine XO.v (V.build (vs := #[(0, .int .i64 k), (1, .int .i64 (s.tree n)), (2, .int .i64 1), (7, .int .i64 n)]) rfl (v := .agg (nodeA k (s.tree n) 1 n)) (fun _ => by kernel_rfl)) rfl ?_
   refine XO.call rfl (t_fresh _ _ _ _ _ _ _) .h3 cl_26 rfl ?_
   rintro _ _ (⟨h6, rfl, rfl⟩ | ⟨h6, rfl, rfl⟩)
   ·
    refine XO.mv rfl rfl ?_
    refine XO.v (V.extract rfl rfl) rfl ?_
    refine XO.v (V.extract rfl rfl) rfl ?_
    refine XO.as rfl rfl ?_
    refine XO.as rfl rfl ?_
    refine XO.nk [(0, _), (1, _), (2, _), (10, _), (11, _)] (S5 rfl rfl rfl rfl rfl) ?_
    refine XC.seq ?_
    refine XC.sr ?_
    refine XO.mv rfl rfl ?_
    refine XO.v (V.ifaceNil rfl Tryz.underlying37 rfl) rfl ?_
    refine XO.nk [(0, _), (1, _), (2, _), (10, _), (11, _), (42, _)] (S6 rfl rfl rfl rfl rfl rfl) ?_
    refine XC.condT rfl rfl ?_
    refine XC.sr ?_
    refine XO.mv rfl rfl ?_
    refine XO.as rfl rfl ?_
    refine XO.as rfl rfl ?_
    refine XO.nk [(8, _), (9, _)] (S2 rfl rfl) ?_
    refine XC.ret ?_
    refine XE.thenRet ?_
    refine XE.ret2 rfl rfl rfl (post_of .h3 rfl ?_)
    have e : s.makeE n x k = 4 := by unfold FF.makeE; rw [if_neg (by omega), if_neg (by omega), if_pos (by assumption)]
    exact ⟨by rw [show s.makeV n x k = 0 from by unfold FF.makeV; rw [if_neg (by omega)], e], s, by unfold FF.make; rw [if_neg (by omega)], rfl, rfl, rfl⟩
   ·
    refine XO.mv rfl rfl ?_
    refine XO.v (V.extract rfl rfl) rfl ?_
    refine XO.v (V.extract rfl rfl) rfl ?_
    refine XO.as rfl rfl ?_
    refine XO.as rfl rfl ?_
    refine XO.nk [(0, _), (1, _), (2, _), (10, _), (11, _)] (S5 rfl rfl rfl rfl rfl) ?_
    refine XC.seq ?_
    refine XC.sr ?_
    refine XO.mv rfl rfl ?_
    refine XO.v (V.nilNil rfl Tryz.underlying37 rfl) rfl ?_
    refine XO.nk [(0, _), (1, _), (2, _), (10, _), (11, _), (42, _)] (S6 rfl rfl rfl rfl rfl rfl) ?_
    refine XC.condF rfl rfl ?_
    refine XC.skip ?_
    refine XE.next ?_
    refine XC.keep [(0, _), (1, _), (2, _), (11, _)] (S4 rfl rfl rfl rfl) ?_
    refine XC.sr ?_
    have f := FF.free_ok (show ¬ s.free < 0 by assumption)
    have hI2 : (s.setC s.free k (s.tree n) 1 n).toFF.Sh := hI.setN _ _ _ _ _ (by omega)
    refine XO.mv rfl rfl ?_
    refine XO.mv rfl rfl ?_
    refine XO.mv rfl rfl ?_
    refine XO.mv rfl rfl ?_
    refine XO.call rfl (t_put _ _ _ hI2 _ _ _ (by omega)) .h3 cl_69 rfl ?_
    rintro _ _ ⟨rfl, t, ht, hp, hc, rfl⟩
    refine XO.nk [(11, _)] (S1 rfl) ?_
    refine XC.sr ?_
    refine XO.mv rfl rfl ?_
    refine XO.as rfl rfl ?_
    refine XO.as rfl rfl ?_
    refine XO.nk [(8, _), (9, _)] (S2 rfl rfl) ?_
    refine XC.ret ?_
    refine XE.ret2 rfl rfl rfl (post_of .h3 rfl ?_)
    have e : s.makeE n x k = 0 := by unfold FF.makeE; rw [if_neg (by omega), if_neg (by omega), if_neg (by assumption)]
    exact ⟨by rw [show s.makeV n x k = s.free from by unfold FF.makeV; rw [if_pos e], e]; rfl, t, by rw [ht]; unfold FF.make; rw [if_pos e]; rfl, hp, hc, rfl⟩
set_option maxRecDepth 10000 in
set_option maxHeartbeats 2000000 in
theorem t_Link (b o : Nat) (s : FC) (hI : s.toFF.Sh) (k n : Int) (x : ByteArray) (hx : x.size ≤ 9223372036854775807) : Spec Tryz.prog 31 [ptr b o 0, .int .i64 k, .int .i64 n, .string x]
    [.cells b o 321 (encF s), .fam fam40 (s.rowsN 9), .fam fam40 (s.rowsK 3)]
    (fun v H1 => v = errv 76 (s.linkE k n x) ∧ ∃ t : FC, t.toFF = s.link k n x ∧ t.rP = s.rP ∧ t.rC = s.rC ∧ H1 = [.cells b o 321 (encF t), .fam fam40 (FC.rowsN 9 t), .fam fam40 (FC.rowsK 3 t)]) := by
 refine Spec.intro Tryz.func31 rfl rfl ?_
 intro W
 refine XC.sr ?_
 refine XO.as rfl rfl ?_
 refine XO.nk [(0, _), (1, _), (2, _), (3, _)] (S4 rfl rfl rfl rfl) ?_
 refine XC.sr ?_
 refine XO.mv rfl rfl ?_
 refine XO.mv rfl rfl ?_
 refine XO.call rfl (t_file _ _ _ _) .h1 cl_75 rfl ?_
 rintro _ _ ⟨rfl, rfl⟩
 refine XO.as rfl rfl ?_
 refine XO.nk [(0, _), (1, _), (2, _), (3, _), (9, _)] (S5 rfl rfl rfl rfl rfl) ?_
 refine XC.seq ?_
 refine XC.sr ?_
 refine XO.mv rfl rfl ?_
 refine XO.v (V.errNil rfl Tryz.underlying37 rfl) rfl ?_
 refine XO.nk [(0, _), (1, _), (2, _), (3, _), (9, _), (14, _)] (S6 rfl rfl rfl rfl rfl rfl) ?_
 refine XC.condP rfl (fun h1 => ?_) (fun h1 => ?_)
 ·
  obtain ⟨j1, j2, j3, j4⟩ := FF.isE_k0 (show s.isE k 1 = 0 by assumption)
  have j0 : s.isE k 1 = 0 := by assumption
  refine XC.region ?_
  refine XO.mv rfl rfl ?_
  refine XO.mv rfl rfl ?_
  refine XO.mv rfl rfl ?_
  refine XO.call rfl (t_room _ _ _ hI _ _ (by assumption)) .h3 cl_68 rfl ?_
  rintro _ _ ⟨rfl, rfl⟩
  refine XO.as rfl rfl ?_
  refine XO.nk [(0, _), (1, _), (2, _), (3, _), (9, _)] (S5 rfl rfl rfl rfl rfl) ?_
  refine XC.seq ?_
  refine XC.sr ?_
  refine XO.mv rfl rfl ?_
  refine XO.v (V.errNil rfl Tryz.underlying37 rfl) rfl ?_
  refine XO.nk [(0, _), (1, _), (2, _), (3, _), (9, _), (20, _)] (S6 rfl rfl rfl rfl rfl rfl) ?_
  refine XC.condP rfl (fun h2 => ?_) (fun h2 => ?_)
  ·
   refine XC.sr ?_
   refine XO.mv rfl rfl ?_
   refine XO.as rfl rfl ?_
   refine XO.nk [(8, _)] (S1 rfl) ?_
   refine XC.ret ?_
   refine XE.thenRet ?_
   refine XE.ret1 rfl rfl (post_of .h3 rfl ?_)
   have e : s.linkE k n x = s.roomE n x := by unfold FF.linkE; rw [if_neg (by omega), if_pos (by omega)]
   exact ⟨by rw [e], s, by unfold FF.link; rw [if_neg (by omega)], rfl, rfl, rfl⟩
  ·
   refine XC.skip ?_
   refine XE.next ?_
   refine XC.keep [(0, _), (1, _), (2, _), (3, _)] (S4 rfl rfl rfl rfl) ?_
   refine XC.seq ?_
   refine XC.seq ?_
   refine XC.regionQ mixed (f := 15) (l := #[false, false, false, false, false, false, false, false, false, false, false, false, false, false, false]) rfl rfl XM.drawn' ?_
   have m0 : s.roomE n x = 0 := by omega
   obtain ⟨m1, m2, m3, m4⟩ := FF.roomE_0 m0
   obtain ⟨i1, i2, i3, i4⟩ := FF.isE_k0 m1
   refine XQ.pv (i := 0) (l' := #[tt,ff,ff,ff,ff,ff,ff,ff,ff,ff,ff,ff,ff,ff,ff]) rfl (by kernel_rfl) rfl (V.move rfl) rfl rfl ?_
   refine XQ.pv (i := 1) (l' := #[tt,tt,ff,ff,ff,ff,ff,ff,ff,ff,ff,ff,ff,ff,ff]) rfl (by kernel_rfl) rfl (V.move rfl) rfl rfl ?_
   refine XQ.pv (i := 2) (l' := #[tt,tt,tt,ff,ff,ff,ff,ff,ff,ff,ff,ff,ff,ff,ff]) rfl (by kernel_rfl) rfl (V.nilCheckP rfl) rfl rfl ?_
   refine XQ.pv (i := 3) (l' := #[tt,tt,tt,tt,ff,ff,ff,ff,ff,ff,ff,ff,ff,ff,ff]) rfl (by kernel_rfl) rfl (V.fieldAddr rfl fo_72_0) rfl rfl ?_
   refine XQ.pv (i := 4) (l' := #[tt,tt,tt,tt,tt,ff,ff,ff,ff,ff,ff,ff,ff,ff,ff]) rfl (by kernel_rfl) rfl (V.indexArr rfl rfl ar_70 (by omega)) rfl rfl ?_
   refine XQ.pv (i := 5) (l' := #[tt,tt,tt,tt,tt,tt,ff,ff,ff,ff,ff,ff,ff,ff,ff]) rfl (by kernel_rfl) rfl (V.fieldAddr rfl fo_69_1) rfl rfl ?_
   refine XQ.load (i := 6) (l' := #[tt,tt,tt,tt,tt,tt,tt,ff,ff,ff,ff,ff,ff,ff,ff]) (.cells _ _ _ _) [] rfl (by kernel_rfl) rfl .here (V.load rfl inEnt (encF.ld_n_tree _ _ (by omega)) sc_3) rfl (by kernel_rfl) rfl ?_
   refine XQ.pv (i := 7) (l' := #[tt,tt,tt,tt,tt,tt,tt,tt,ff,ff,ff,ff,ff,ff,ff]) rfl (by kernel_rfl) rfl (V.move rfl) rfl rfl ?_
   refine XQ.pv (i := 8) (l' := #[tt,tt,tt,tt,tt,tt,tt,tt,tt,ff,ff,ff,ff,ff,ff]) rfl (by kernel_rfl) rfl (V.move rfl) rfl rfl ?_
   refine XQ.pv (i := 9) (l' := #[tt,tt,tt,tt,tt,tt,tt,tt,tt,tt,ff,ff,ff,ff,ff]) rfl (by kernel_rfl) rfl (V.nilCheckP rfl) rfl rfl ?_
   refine XQ.pv (i := 10) (l' := #[tt,tt,tt,tt,tt,tt,tt,tt,tt,tt,tt,ff,ff,ff,ff]) rfl (by kernel_rfl) rfl (V.fieldAddr rfl fo_72_0) rfl rfl ?_
   refine XQ.pv (i := 11) (l' := #[tt,tt,tt,tt,tt,tt,tt,tt,tt,tt,tt,tt,ff,ff,ff]) rfl (by kernel_rfl) rfl (V.indexArr rfl rfl ar_70 (by omega)) rfl rfl ?_
   refine XQ.pv (i := 12) (l' := #[tt,tt,tt,tt,tt,tt,tt,tt,tt,tt,tt,tt,tt,ff,ff]) rfl (by kernel_rfl) rfl (V.fieldAddr rfl fo_69_1) rfl rfl ?_
   refine XQ.load (i := 13) (l' := #[tt,tt,tt,tt,tt,tt,tt,tt,tt,tt,tt,tt,tt,tt,ff]) (.cells _ _ _ _) [] rfl (by kernel_rfl) rfl .here (V.load rfl inEnt (encF.ld_n_tree _ _ (by omega)) sc_3) rfl (by kernel_rfl) rfl ?_
   refine XQ.pv (i := 14) (l' := #[tt,tt,tt,tt,tt,tt,tt,tt,tt,tt,tt,tt,tt,tt,tt]) rfl (by kernel_rfl) rfl (V.cmp rfl rfl rfl) rfl rfl ?_
   refine XQ.done (by kernel_rfl) ?_
   refine XE.next ?_
   refine XC.keep [(0, _), (1, _), (2, _), (3, _), (36, _)] (S5 rfl rfl rfl rfl rfl) ?_
   refine XC.condP rfl (fun h3 => ?_) (fun h3 => ?_)
   ·
    refine XC.sr ?_
    refine XO.v (V.makeIface rfl Tryz.underlying76 (by simp)) rfl ?_
    refine XO.as rfl rfl ?_
    refine XO.nk [(8, _)] (S1 rfl) ?_
    refine XC.ret ?_
    refine XE.thenRet ?_
    refine XE.ret1 rfl rfl (post_of .h3 rfl ?_)
    have e : s.linkE k n x = 11 := by unfold FF.linkE; rw [if_neg (by omega), if_neg (by omega), if_pos (by assumption)]
    exact ⟨by rw [e]; rfl, s, by unfold FF.link; rw [if_neg (by omega)], rfl, rfl, rfl⟩
   ·
    refine XC.skip ?_
    refine XE.next ?_
    refine XC.keep [(0, _), (1, _), (2, _), (3, _)] (S4 rfl rfl rfl rfl) ?_
    refine XC.sr ?_
    refine XO.mv rfl rfl ?_
    refine XO.mv rfl rfl ?_
    refine XO.mv rfl rfl ?_
    refine XO.mv rfl rfl ?_
    refine XO.call rfl (t_put _ _ _ hI _ _ _ (by omega)) .h3 cl_69 rfl ?_
    rintro _ _ ⟨rfl, t, ht, hp, hc, rfl⟩
    refine XO.nk [(0, _), (1, _)] (S2 rfl rfl) ?_
    refine XC.seq ?_
    refine XC.regionQ mixed (f := 13) (l := #[false, false, false, false, false, false, false, false, false, false, false, false, false]) rfl rfl XM.drawn' ?_
    have hln : t.links k = s.links k := congrFun (congrArg FF.links ht) k
    have hlb := hI.num k (by omega) (by omega)
    refine XQ.pv (i := 0) (l' := #[tt,ff,ff,ff,ff,ff,ff,ff,ff,ff,ff,ff,ff]) rfl (by kernel_rfl) rfl (V.move rfl) rfl rfl ?_
    refine XQ.pv (i := 1) (l' := #[tt,tt,ff,ff,ff,ff,ff,ff,ff,ff,ff,ff,ff]) rfl (by kernel_rfl) rfl (V.move rfl) rfl rfl ?_
    refine XQ.pv (i := 2) (l' := #[tt,tt,tt,ff,ff,ff,ff,ff,ff,ff,ff,ff,ff]) rfl (by kernel_rfl) rfl (V.nilCheckP rfl) rfl rfl ?_
    refine XQ.pv (i := 3) (l' := #[tt,tt,tt,tt,ff,ff,ff,ff,ff,ff,ff,ff,ff]) rfl (by kernel_rfl) rfl (V.fieldAddr rfl fo_72_0) rfl rfl ?_
    refine XQ.pv (i := 4) (l' := #[tt,tt,tt,tt,tt,ff,ff,ff,ff,ff,ff,ff,ff]) rfl (by kernel_rfl) rfl (V.indexArr rfl rfl ar_70 (by omega)) rfl rfl ?_
    refine XQ.pv (i := 5) (l' := #[tt,tt,tt,tt,tt,tt,ff,ff,ff,ff,ff,ff,ff]) rfl (by kernel_rfl) rfl (V.fieldAddr rfl fo_69_2) rfl rfl ?_
    refine XQ.load (i := 6) (l' := #[tt,tt,tt,tt,tt,tt,tt,ff,ff,ff,ff,ff,ff]) (.cells _ _ _ _) [12] rfl (by kernel_rfl) rfl .here (V.load rfl inEnt (encF.ld_n_links _ _ (by omega)) sc_3) rfl (by kernel_rfl) rfl ?_
    refine XQ.pv (i := 7) (l' := #[tt,tt,tt,tt,tt,tt,tt,tt,ff,ff,ff,ff,ff]) rfl (by kernel_rfl) rfl (V.add rfl rfl _ (IntWalk.i64_in _ (by omega))) rfl rfl ?_
    refine XQ.pv (i := 8) (l' := #[tt,tt,tt,tt,tt,tt,tt,tt,tt,ff,ff,ff,ff]) rfl (by kernel_rfl) rfl (V.nilCheckP rfl) rfl rfl ?_
    refine XQ.pv (i := 9) (l' := #[tt,tt,tt,tt,tt,tt,tt,tt,tt,tt,ff,ff,ff]) rfl (by kernel_rfl) rfl (V.fieldAddr rfl fo_72_0) rfl rfl ?_
    refine XQ.pv (i := 10) (l' := #[tt,tt,tt,tt,tt,tt,tt,tt,tt,tt,tt,ff,ff]) rfl (by kernel_rfl) rfl (V.indexArr rfl rfl ar_70 (by omega)) rfl rfl ?_
    refine XQ.pv (i := 11) (l' := #[tt,tt,tt,tt,tt,tt,tt,tt,tt,tt,tt,tt,ff]) rfl (by kernel_rfl) rfl (V.fieldAddr rfl fo_69_2) rfl rfl ?_
    refine XQ.store (i := 12) (l' := #[tt,tt,tt,tt,tt,tt,tt,tt,tt,tt,tt,tt,tt]) rfl (by kernel_rfl) rfl rfl rfl .here (encF.st_n_links _ _ (by omega) _) rfl sz_3_1 (fun _ hw' => ⟨fun hs => (hs 12 (by first | (simp; done) | (simp; rfl)) rfl).elim, trivial⟩) ?_
    refine XQ.done (by kernel_rfl) ?_
    refine XE.next ?_
    refine XC.keep [] (Sub.nil _) ?_
    refine XC.sr ?_
    refine XO.as rfl rfl ?_
    refine XO.nk [(8, _)] (S1 rfl) ?_
    refine XC.ret ?_
    refine XE.ret1 rfl rfl (post_of .h3 rfl ?_)
    have e : s.linkE k n x = 0 := by unfold FF.linkE; rw [if_neg (by omega), if_neg (by omega), if_neg (by omega)]
    exact ⟨by rw [e]; rfl, ({ t with links := fset t.links k (t.links k + 1) } : FC), by rw [links_of ht, hln]; unfold FF.link; rw [if_pos e]; rfl, hp, hc, rfl⟩
 ·
  have j0 : s.isE k 1 ≠ 0 := by assumption
  refine XC.skip ?_
  refine XE.next ?_
  refine XC.keep [(0, _), (1, _), (2, _), (3, _), (9, _)] (S5 rfl rfl rfl rfl rfl) ?_
  refine XC.seq ?_
  refine XC.sr ?_
  refine XO.mv rfl rfl ?_
  refine XO.v (V.errNil rfl Tryz.underlying37 rfl) rfl ?_
  refine XO.nk [(0, _), (1, _), (2, _), (3, _), (9, _), (20, _)] (S6 rfl rfl rfl rfl rfl rfl) ?_
  refine XC.condTP rfl (by assumption) ?_
  refine XC.sr ?_
  refine XO.mv rfl rfl ?_
  refine XO.as rfl rfl ?_
  refine XO.nk [(8, _)] (S1 rfl) ?_
  refine XC.ret ?_
  refine XE.thenRet ?_
  refine XE.ret1 rfl rfl (post_of .h3 rfl ?_)
  have e : s.linkE k n x = s.isE k 1 := by unfold FF.linkE; rw [if_pos (by omega)]
  exact ⟨by rw [e], s, by unfold FF.link; rw [if_neg (by omega)], rfl, rfl, rfl⟩
end Go.X
