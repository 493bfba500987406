import Derived.Test.YtmklfkjfgjagaaaGreatXShort
import Derived.Test.YtmklfkjfgjagaaaGreatZLWn
namespace Go.X
open Go Go.Proofs
theorem cl_15 : callable Tryz.prog 15 = true := by kernel_rfl
theorem cl_22 : callable Tryz.prog 22 = true := by kernel_rfl
theorem cl_27 : callable Tryz.prog 27 = true := by kernel_rfl
theorem cl_28 : callable Tryz.prog 28 = true := by kernel_rfl
theorem cl_29 : callable Tryz.prog 29 = true := by kernel_rfl
theorem cl_30 : callable Tryz.prog 30 = true := by kernel_rfl
theorem cl_31 : callable Tryz.prog 31 = true := by kernel_rfl
theorem cl_32 : callable Tryz.prog 32 = true := by kernel_rfl
theorem cl_33 : callable Tryz.prog 33 = true := by kernel_rfl
theorem cl_34 : callable Tryz.prog 34 = true := by kernel_rfl
theorem cl_35 : callable Tryz.prog 35 = true := by kernel_rfl
theorem cl_36 : callable Tryz.prog 36 = true := by kernel_rfl
theorem cl_39 : callable Tryz.prog 39 = true := by kernel_rfl
theorem cl_40 : callable Tryz.prog 40 = true := by kernel_rfl
theorem cl_41 : callable Tryz.prog 41 = true := by kernel_rfl
theorem cl_42 : callable Tryz.prog 42 = true := by kernel_rfl
theorem cl_43 : callable Tryz.prog 43 = true := by kernel_rfl
theorem cl_44 : callable Tryz.prog 44 = true := by kernel_rfl
theorem cl_8 : callable Tryz.prog 8 = true := by kernel_rfl
theorem cl_9 : callable Tryz.prog 9 = true := by kernel_rfl
theorem fo_63_0 : fieldOff Tryz.prog 63 0 = some 0 := by kernel_rfl
theorem fo_63_1 : fieldOff Tryz.prog 63 1 = some 1 := by kernel_rfl
theorem fo_63_2 : fieldOff Tryz.prog 63 2 = some 2 := by kernel_rfl
theorem fo_63_3 : fieldOff Tryz.prog 63 3 = some 3 := by kernel_rfl

theorem aggEq : (Tryz.prog.underlying 119 = some (.struct (Tryz.prog.fieldsOf 119)) ∧ Tryz.prog.stoodInHeld 119 = false) ∧ Tryz.prog.eqGuardType Tryz.prog.depth 119 = false ∧ (Tryz.prog.fieldsOf 119).toList.all (okF Tryz.prog 4) = true :=
  ⟨⟨by kernel_rfl, by kernel_rfl⟩, by kernel_rfl, by kernel_rfl⟩

theorem r_List_no (b o : Nat) (s : FC) (n : Int) (h : s.isE n 2 ≠ 0) : Spec Tryz.prog 62 [ptr b o 0, .int .i64 n] [.cells b o 321 (encM s)] (fun v H1 => v = .tuple #[.slice none 0 0, .int .i64 (s.isE n 2)] ∧ H1 = [.cells b o 321 (encM s)]) := by
  have e := r_List b o s n
  rw [if_neg h] at e
  exact e
theorem r_List_yes (b o : Nat) (s : FC) (n : Int) (h : s.isE n 2 = 0) : Spec Tryz.prog 62 [ptr b o 0, .int .i64 n] [.cells b o 321 (encM s)] (fun v H1 => v = .tuple #[.slice (s.nP n) (s.names n).length (s.nC n), .int .i64 (s.isE n 2)] ∧ H1 = [.cells b o 321 (encM s)]) := by
  have e := r_List b o s n
  rw [if_pos h] at e
  exact e
set_option maxRecDepth 10000 in
set_option maxHeartbeats 4000000 in
theorem grown_any (bs bm : Nat) (s m : FC) (hU : m.toFF = s.toFF) (a : ActV) (ha : a.s.size ≤ 60 ∧ a.t.size ≤ 60) (d : Int → Nat) (B : Int) (hO : s.toFF.Ok d B) (hB : B ≤ 900) : Spec Tryz.prog 11 [ptr bs 0 0, ptr bm 0 0, .agg #[.string a.kind, .int .i64 a.a, .int .i64 a.b, .int .i64 a.c, .int .u64 a.key, .bool a.on, .string a.s, .string a.t]]
    [.cells bs 0 321 (encF s), .fam fam40 (FC.rowsN 9 s), .fam fam40 (FC.rowsK 3 s), irow (FC.rP s) (FC.rC s) 3 (FC.toFF s).roots, .cells bm 0 321 (encM m), .fam fam40 (FC.rowsN 9 m), .fam fam40 (FC.rowsK 3 m), irow (FC.rP m) (FC.rC m) 3 (FC.toFF m).roots]
    (fun v H1 => v = .bool true ∧ ∃ (t u : FC) (d2 : Int → Nat), u.toFF = t.toFF ∧ t.toFF.Ok d2 (B + 1) ∧ H1 = [.cells bs 0 321 (encF t), .fam fam40 (FC.rowsN 9 t), .fam fam40 (FC.rowsK 3 t), irow (FC.rP t) (FC.rC t) 3 (FC.toFF t).roots, .cells bm 0 321 (encM u), .fam fam40 (FC.rowsN 9 u), .fam fam40 (FC.rowsK 3 u), irow (FC.rP u) (FC.rC u) 3 (FC.toFF u).roots]) := by
 have hS := hO.sh (by omega)
 have hSm : m.toFF.Sh := by rw [hU]; exact hS
 refine Spec.intro Tryz.func11 rfl rfl ?_
 intro W
 refine XC.sr ?_
 refine XO.box (m := 8) (C := encAct a) rfl rfl (act_box a) rfl ?_
 intro ba
 refine XO.as rfl rfl ?_
 refine XO.nk [(0, _), (1, _), (5, _)] (S3 rfl rfl rfl) ?_
 refine XC.seq ?_
 refine XC.sr ?_
 refine XO.v (V.fieldAddr rfl fo_63_0) rfl ?_
 refine XO.v (V.load rfl (inXM .here) (encAct.ld_Kind _) sc_9) rfl ?_
 refine XO.nk [(0, _), (1, _), (5, _), (24, _)] (S4 rfl rfl rfl rfl) ?_
 refine XC.block ?_
 refine XC.sr ?_
 refine XO.v (V.strCmp rfl rfl rfl) rfl ?_
 refine XO.as rfl rfl ?_
 refine XO.nk [(0, _), (1, _), (5, _), (24, _), (25, _)] (S5 rfl rfl rfl rfl rfl) ?_
 refine XC.condP rfl (fun h1 => ?_) (fun h1 => ?_)
 ·
  refine XC.sr ?_
  refine XO.mv rfl rfl ?_
  refine XO.call rfl (t_Plant _ _ _ hS) (.cons (.there .here) (.cons (.there .here) (.cons (.there .here) (.cons (.there .here) .nil)))) cl_8 rfl ?_
  rintro _ _ ⟨t, rfl, ht, rfl⟩
  refine XO.mv rfl rfl ?_
  refine XO.v (V.extract rfl rfl) rfl ?_
  refine XO.v (V.extract rfl rfl) rfl ?_
  refine XO.as rfl rfl ?_
  refine XO.as rfl rfl ?_
  refine XO.nk [(1, _), (7, _), (8, _)] (S3 rfl rfl rfl) ?_
  refine XC.sr ?_
  refine XO.mv rfl rfl ?_
  refine XO.call rfl (r_Plant _ _ _ hSm) (.cons (.t5 .here) (.cons (.t5 .here) (.cons (.t5 .here) (.cons (.t5 .here) .nil)))) cl_9 rfl ?_
  rintro _ _ ⟨u, rfl, hu, rfl⟩
  refine XO.mv rfl rfl ?_
  refine XO.v (V.extract rfl rfl) rfl ?_
  refine XO.v (V.extract rfl rfl) rfl ?_
  refine XO.as rfl rfl ?_
  refine XO.as rfl rfl ?_
  refine XO.nk [(7, _), (8, _), (9, _), (10, _)] (S4 rfl rfl rfl rfl) ?_
  refine XC.sr ?_
  refine XO.mv rfl rfl ?_
  refine XO.mv rfl rfl ?_
  refine XO.v (V.cmp rfl rfl rfl) rfl ?_
  refine XO.mv rfl rfl ?_
  refine XO.splitT (d := 40) rfl (by rw [hU]) ?_
  refine XO.guardRun rfl rfl rfl ?_
  refine XO.mv rfl rfl ?_
  refine XO.guardRun rfl rfl rfl ?_
  refine XO.mv rfl rfl ?_
  refine XO.guardRun rfl rfl rfl ?_
  refine XO.call rfl (same_any _ _ (by first | omega | exact FF.plantE_nn _)) .nil cl_15 rfl ?_
  rintro _ _ ⟨rfl, rfl⟩
  refine XO.v (V.pick rfl rfl rfl rfl) rfl ?_
  refine XO.as rfl rfl ?_
  refine XO.nk [(6, _)] (S1 rfl) ?_
  refine XC.ret ?_
  refine XE.blockRet ?_
  refine XE.thenRet ?_
  refine XE.ret1 rfl rfl (post_of (.cons (.t4 .here) (.cons (.t4 .here) (.cons (.t4 .here) (.cons (.t4 .here) .h4)))) rfl ?_)
  obtain ⟨d2, h2⟩ := hO.plant
  exact ⟨congrArg Value.bool (decide_eq_true (by rw [hU])), t, u, _, by rw [hu, ht, hU], by rw [ht]; exact h2, rfl⟩
 ·
  refine XC.sr ?_
  refine XO.v (V.strCmp rfl rfl rfl) rfl ?_
  refine XO.as rfl rfl ?_
  refine XO.nk [(0, _), (1, _), (5, _), (24, _), (45, _)] (S5 rfl rfl rfl rfl rfl) ?_
  refine XC.condP rfl (fun h3 => ?_) (fun h3 => ?_)
  ·
   refine XC.sr ?_
   refine XO.mv rfl rfl ?_
   refine XO.v (V.fieldAddr rfl fo_63_1) rfl ?_
   refine XO.v (V.load rfl (inXM .here) (encAct.ld_A _) sc_3) rfl ?_
   refine XO.v (V.fieldAddr rfl fo_63_6) rfl ?_
   refine XO.v (V.load rfl (inXM .here) (encAct.ld_S _) sc_9) rfl ?_
   refine XO.v (V.fieldAddr rfl fo_63_2) rfl ?_
   refine XO.v (V.load rfl (inXM .here) (encAct.ld_B _) sc_3) rfl ?_
   refine XO.call rfl (t_Make _ _ _ hS _ _ _ (by omega)) (.cons (.there .here) (.cons (.there .here) (.cons (.there .here) .nil))) cl_22 rfl ?_
   rintro _ _ ⟨rfl, t, ht, tp, tc, rfl⟩
   refine XO.mv rfl rfl ?_
   refine XO.v (V.extract rfl rfl) rfl ?_
   refine XO.v (V.extract rfl rfl) rfl ?_
   refine XO.as rfl rfl ?_
   refine XO.as rfl rfl ?_
   refine XO.nk [(1, _), (5, _), (11, _), (12, _)] (S4 rfl rfl rfl rfl) ?_
   refine XC.sr ?_
   refine XO.mv rfl rfl ?_
   refine XO.v (V.fieldAddr rfl fo_63_1) rfl ?_
   refine XO.v (V.load rfl (inXM (.t3 .here)) (encAct.ld_A _) sc_3) rfl ?_
   refine XO.v (V.fieldAddr rfl fo_63_6) rfl ?_
   refine XO.v (V.load rfl (inXM (.t3 .here)) (encAct.ld_S _) sc_9) rfl ?_
   refine XO.v (V.fieldAddr rfl fo_63_2) rfl ?_
   refine XO.v (V.load rfl (inXM (.t3 .here)) (encAct.ld_B _) sc_3) rfl ?_
   refine XO.call rfl (r_Make _ _ _ hSm _ _ _ (by omega)) (.cons (.t5 .here) (.cons (.t5 .here) (.cons (.t5 .here) .nil))) cl_27 rfl ?_
   rintro _ _ ⟨rfl, u, hu, up, uc, rfl⟩
   refine XO.mv rfl rfl ?_
   refine XO.v (V.extract rfl rfl) rfl ?_
   refine XO.v (V.extract rfl rfl) rfl ?_
   refine XO.as rfl rfl ?_
   refine XO.as rfl rfl ?_
   refine XO.nk [(11, _), (12, _), (13, _), (14, _)] (S4 rfl rfl rfl rfl) ?_
   refine XC.sr ?_
   refine XO.mv rfl rfl ?_
   refine XO.mv rfl rfl ?_
   refine XO.v (V.cmp rfl rfl rfl) rfl ?_
   refine XO.mv rfl rfl ?_
   refine XO.splitT (d := 72) rfl (by rw [hU]) ?_
   refine XO.guardRun rfl rfl rfl ?_
   refine XO.mv rfl rfl ?_
   refine XO.guardRun rfl rfl rfl ?_
   refine XO.mv rfl rfl ?_
   refine XO.guardRun rfl rfl rfl ?_
   refine XO.call rfl (same_any _ _ (by first | omega | exact FF.makeE_nn _ _ _ _)) .nil cl_15 rfl ?_
   rintro _ _ ⟨rfl, rfl⟩
   refine XO.v (V.pick rfl rfl rfl rfl) rfl ?_
   refine XO.as rfl rfl ?_
   refine XO.nk [(6, _)] (S1 rfl) ?_
   refine XC.ret ?_
   refine XE.blockRet ?_
   refine XE.thenRet ?_
   refine XE.ret1 rfl rfl (post_of (.cons (.t3 .here) (.cons (.t3 .here) (.cons (.t3 .here) (.cons (.t4 .here) (.cons .here (.cons .here (.cons .here (.cons (.there .here) .nil)))))))) rfl ?_)
   obtain ⟨d2, h2⟩ := hO.make a.a a.s a.b
   exact ⟨congrArg Value.bool (decide_eq_true (by rw [hU])), t, u, _, by rw [hu, ht, hU], by rw [ht]; exact h2, by rw [tp, tc, up, uc, show (FC.toFF t).roots = s.roots from by rw [ht]; exact FF.make_roots _ _ _ _, show (FC.toFF u).roots = m.roots from by rw [hu]; exact FF.make_roots _ _ _ _]⟩
  ·
   refine XC.sr ?_
   refine XO.v (V.strCmp rfl rfl rfl) rfl ?_
   refine XO.as rfl rfl ?_
   refine XO.nk [(0, _), (1, _), (5, _), (24, _), (77, _)] (S5 rfl rfl rfl rfl rfl) ?_
   refine XC.condP rfl (fun h5 => ?_) (fun h5 => ?_)
   ·
    refine XC.seq ?_
    refine XC.regionQ mixed (f := 18) (l := #[false, false, false, false, false, false, false, false, false, false, false, false, false, false, false, false, false, false]) rfl rfl XM.drawn' ?_
    refine XQ.pv (i := 0) (l' := #[tt,ff,ff,ff,ff,ff,ff,ff,ff,ff,ff,ff,ff,ff,ff,ff,ff,ff]) rfl (by kernel_rfl) rfl (V.move rfl) rfl rfl ?_
    refine XQ.pv (i := 1) (l' := #[tt,tt,ff,ff,ff,ff,ff,ff,ff,ff,ff,ff,ff,ff,ff,ff,ff,ff]) rfl (by kernel_rfl) rfl (V.fieldAddr rfl fo_63_1) rfl rfl ?_
    refine XQ.load (i := 2) (l' := #[tt,tt,tt,ff,ff,ff,ff,ff,ff,ff,ff,ff,ff,ff,ff,ff,ff,ff]) (.cells _ _ _ _) [7, 15, 16] rfl (by kernel_rfl) rfl .here (V.load rfl inEnt (encAct.ld_A _) sc_3) rfl (by kernel_rfl) rfl ?_
    refine XQ.pv (i := 3) (l' := #[tt,tt,tt,tt,ff,ff,ff,ff,ff,ff,ff,ff,ff,ff,ff,ff,ff,ff]) rfl (by kernel_rfl) rfl (V.fieldAddr rfl fo_63_2) rfl rfl ?_
    refine XQ.load (i := 4) (l' := #[tt,tt,tt,tt,tt,ff,ff,ff,ff,ff,ff,ff,ff,ff,ff,ff,ff,ff]) (.cells _ _ _ _) [7, 15, 16] rfl (by kernel_rfl) rfl .here (V.load rfl inEnt (encAct.ld_B _) sc_3) rfl (by kernel_rfl) rfl ?_
    refine XQ.pv (i := 5) (l' := #[tt,tt,tt,tt,tt,tt,ff,ff,ff,ff,ff,ff,ff,ff,ff,ff,ff,ff]) rfl (by kernel_rfl) rfl (V.fieldAddr rfl fo_63_6) rfl rfl ?_
    refine XQ.load (i := 6) (l' := #[tt,tt,tt,tt,tt,tt,tt,ff,ff,ff,ff,ff,ff,ff,ff,ff,ff,ff]) (.cells _ _ _ _) [7, 15, 16] rfl (by kernel_rfl) rfl .here (V.load rfl inEnt (encAct.ld_S _) sc_9) rfl (by kernel_rfl) rfl ?_
    refine XQ.pv (i := 8) (l' := #[tt,tt,tt,tt,tt,tt,tt,ff,tt,ff,ff,ff,ff,ff,ff,ff,ff,ff]) rfl (by kernel_rfl) rfl (V.move rfl) rfl rfl ?_
    refine XQ.pv (i := 9) (l' := #[tt,tt,tt,tt,tt,tt,tt,ff,tt,tt,ff,ff,ff,ff,ff,ff,ff,ff]) rfl (by kernel_rfl) rfl (V.fieldAddr rfl fo_63_1) rfl rfl ?_
    refine XQ.load (i := 10) (l' := #[tt,tt,tt,tt,tt,tt,tt,ff,tt,tt,tt,ff,ff,ff,ff,ff,ff,ff]) (.cells _ _ _ _) [15, 16] rfl (by kernel_rfl) rfl .here (V.load rfl inEnt (encAct.ld_A _) sc_3) rfl (by kernel_rfl) rfl ?_
    refine XQ.pv (i := 11) (l' := #[tt,tt,tt,tt,tt,tt,tt,ff,tt,tt,tt,tt,ff,ff,ff,ff,ff,ff]) rfl (by kernel_rfl) rfl (V.fieldAddr rfl fo_63_2) rfl rfl ?_
    refine XQ.load (i := 12) (l' := #[tt,tt,tt,tt,tt,tt,tt,ff,tt,tt,tt,tt,tt,ff,ff,ff,ff,ff]) (.cells _ _ _ _) [15, 16] rfl (by kernel_rfl) rfl .here (V.load rfl inEnt (encAct.ld_B _) sc_3) rfl (by kernel_rfl) rfl ?_
    refine XQ.pv (i := 13) (l' := #[tt,tt,tt,tt,tt,tt,tt,ff,tt,tt,tt,tt,tt,tt,ff,ff,ff,ff]) rfl (by kernel_rfl) rfl (V.fieldAddr rfl fo_63_6) rfl rfl ?_
    refine XQ.load (i := 14) (l' := #[tt,tt,tt,tt,tt,tt,tt,ff,tt,tt,tt,tt,tt,tt,tt,ff,ff,ff]) (.cells _ _ _ _) [15, 16] rfl (by kernel_rfl) rfl .here (V.load rfl inEnt (encAct.ld_S _) sc_9) rfl (by kernel_rfl) rfl ?_
    refine XQ.call (i := 7) (l' := #[tt,tt,tt,tt,tt,tt,tt,tt,tt,tt,tt,tt,tt,tt,tt,ff,ff,ff]) rfl (by kernel_rfl) rfl rfl (t_Link _ _ _ hS _ _ _ (by omega)) (.cons (.there .here) (.cons (.there .here) (.cons (.there .here) .nil))) cl_28 rfl (by rintro _ _ ⟨rfl, t, ht, tp, tc, rfl⟩; all_goals (intro _ hw'; exact ⟨fun _ => inXM (.t3 .here) _ hw', fun _ => inXM (.t3 .here) _ hw', fun _ => inXM (.t3 .here) _ hw', fun hs => (hs 7 (by first | (simp; done) | (simp; rfl)) rfl).elim, fun hs => (hs 7 (by first | (simp; done) | (simp; rfl)) rfl).elim, fun hs => (hs 7 (by first | (simp; done) | (simp; rfl)) rfl).elim, trivial⟩)) ?_
    rintro _ _ ⟨rfl, t, ht, tp, tc, rfl⟩
    refine XQ.call (i := 15) (l' := #[tt,tt,tt,tt,tt,tt,tt,tt,tt,tt,tt,tt,tt,tt,tt,tt,ff,ff]) rfl (by kernel_rfl) rfl rfl (r_Link _ _ _ hSm _ _ _ (by omega)) (.cons (.t5 .here) (.cons (.t5 .here) (.cons (.t5 .here) .nil))) cl_29 rfl (by rintro _ _ ⟨rfl, u, hu, up, uc, rfl⟩; all_goals (intro _ hw'; exact ⟨fun hs => (hs 15 (by first | (simp; done) | (simp; rfl)) rfl).elim, fun hs => (hs 15 (by first | (simp; done) | (simp; rfl)) rfl).elim, fun hs => (hs 15 (by first | (simp; done) | (simp; rfl)) rfl).elim, fun hs => (hs 7 (by first | (simp; done) | (simp; rfl)) rfl).elim, fun hs => (hs 7 (by first | (simp; done) | (simp; rfl)) rfl).elim, fun hs => (hs 7 (by first | (simp; done) | (simp; rfl)) rfl).elim, trivial⟩)) ?_
    rintro _ _ ⟨rfl, u, hu, up, uc, rfl⟩
    refine XQ.call (i := 16) (l' := #[tt,tt,tt,tt,tt,tt,tt,tt,tt,tt,tt,tt,tt,tt,tt,tt,tt,ff]) rfl (by kernel_rfl) rfl rfl (same_any _ _ (by first | omega | exact FF.linkE_nn _ _ _ _)) .nil cl_15 rfl (by rintro _ _ ⟨rfl, rfl⟩; all_goals (intro _ hw'; exact ⟨fun hs => (hs 15 (by first | (simp; done) | (simp; rfl)) rfl).elim, fun hs => (hs 15 (by first | (simp; done) | (simp; rfl)) rfl).elim, fun hs => (hs 15 (by first | (simp; done) | (simp; rfl)) rfl).elim, fun hs => (hs 7 (by first | (simp; done) | (simp; rfl)) rfl).elim, fun hs => (hs 7 (by first | (simp; done) | (simp; rfl)) rfl).elim, fun hs => (hs 7 (by first | (simp; done) | (simp; rfl)) rfl).elim, trivial⟩)) ?_
    rintro _ _ ⟨rfl, rfl⟩
    refine XQ.pv (i := 17) (l' := #[tt,tt,tt,tt,tt,tt,tt,tt,tt,tt,tt,tt,tt,tt,tt,tt,tt,tt]) rfl (by kernel_rfl) rfl (V.assign rfl) rfl rfl ?_
    refine XQ.done (by kernel_rfl) ?_
    refine XE.next ?_
    refine XC.keep [(6, _)] (S1 rfl) ?_
    refine XC.ret ?_
    refine XE.blockRet ?_
    refine XE.thenRet ?_
    refine XE.ret1 rfl rfl (post_of (.cons (.t3 .here) (.cons (.t3 .here) (.cons (.t3 .here) (.cons (.t4 .here) (.cons .here (.cons .here (.cons .here (.cons (.there .here) .nil)))))))) rfl ?_)
    have h2 := hO.link a.a a.b a.s
    exact ⟨congrArg Value.bool (decide_eq_true (by rw [hU])), t, u, _, by rw [hu, ht, hU], by rw [ht]; exact h2, by rw [tp, tc, up, uc, show (FC.toFF t).roots = s.roots from by rw [ht]; exact FF.link_roots _ _ _ _, show (FC.toFF u).roots = m.roots from by rw [hu]; exact FF.link_roots _ _ _ _]⟩
   ·
    refine XC.sr ?_
    refine XO.v (V.strCmp rfl rfl rfl) rfl ?_
    refine XO.as rfl rfl ?_
    refine XO.nk [(0, _), (1, _), (5, _), (24, _), (96, _)] (S5 rfl rfl rfl rfl rfl) ?_
    refine XC.condP rfl (fun h6 => ?_) (fun h6 => ?_)
    ·
     refine XC.seq ?_
     refine XC.regionQ mixed (f := 14) (l := #[false, false, false, false, false, false, false, false, false, false, false, false, false, false]) rfl rfl XM.drawn' ?_
     refine XQ.pv (i := 0) (l' := #[tt,ff,ff,ff,ff,ff,ff,ff,ff,ff,ff,ff,ff,ff]) rfl (by kernel_rfl) rfl (V.move rfl) rfl rfl ?_
     refine XQ.pv (i := 1) (l' := #[tt,tt,ff,ff,ff,ff,ff,ff,ff,ff,ff,ff,ff,ff]) rfl (by kernel_rfl) rfl (V.fieldAddr rfl fo_63_1) rfl rfl ?_
     refine XQ.load (i := 2) (l' := #[tt,tt,tt,ff,ff,ff,ff,ff,ff,ff,ff,ff,ff,ff]) (.cells _ _ _ _) [5, 11, 12] rfl (by kernel_rfl) rfl .here (V.load rfl inEnt (encAct.ld_A _) sc_3) rfl (by kernel_rfl) rfl ?_
     refine XQ.pv (i := 3) (l' := #[tt,tt,tt,tt,ff,ff,ff,ff,ff,ff,ff,ff,ff,ff]) rfl (by kernel_rfl) rfl (V.fieldAddr rfl fo_63_6) rfl rfl ?_
     refine XQ.load (i := 4) (l' := #[tt,tt,tt,tt,tt,ff,ff,ff,ff,ff,ff,ff,ff,ff]) (.cells _ _ _ _) [5, 11, 12] rfl (by kernel_rfl) rfl .here (V.load rfl inEnt (encAct.ld_S _) sc_9) rfl (by kernel_rfl) rfl ?_
     refine XQ.pv (i := 6) (l' := #[tt,tt,tt,tt,tt,ff,tt,ff,ff,ff,ff,ff,ff,ff]) rfl (by kernel_rfl) rfl (V.move rfl) rfl rfl ?_
     refine XQ.pv (i := 7) (l' := #[tt,tt,tt,tt,tt,ff,tt,tt,ff,ff,ff,ff,ff,ff]) rfl (by kernel_rfl) rfl (V.fieldAddr rfl fo_63_1) rfl rfl ?_
     refine XQ.load (i := 8) (l' := #[tt,tt,tt,tt,tt,ff,tt,tt,tt,ff,ff,ff,ff,ff]) (.cells _ _ _ _) [11, 12] rfl (by kernel_rfl) rfl .here (V.load rfl inEnt (encAct.ld_A _) sc_3) rfl (by kernel_rfl) rfl ?_
     refine XQ.pv (i := 9) (l' := #[tt,tt,tt,tt,tt,ff,tt,tt,tt,tt,ff,ff,ff,ff]) rfl (by kernel_rfl) rfl (V.fieldAddr rfl fo_63_6) rfl rfl ?_
     refine XQ.load (i := 10) (l' := #[tt,tt,tt,tt,tt,ff,tt,tt,tt,tt,tt,ff,ff,ff]) (.cells _ _ _ _) [11, 12] rfl (by kernel_rfl) rfl .here (V.load rfl inEnt (encAct.ld_S _) sc_9) rfl (by kernel_rfl) rfl ?_
     refine XQ.call (i := 5) (l' := #[tt,tt,tt,tt,tt,tt,tt,tt,tt,tt,tt,ff,ff,ff]) rfl (by kernel_rfl) rfl rfl (t_Remove _ _ _ hS _ _) (.cons (.there .here) (.cons (.there .here) (.cons (.there .here) .nil))) cl_30 rfl (by rintro _ _ ⟨rfl, t, ht, tp, tc, rfl⟩; all_goals (intro _ hw'; exact ⟨fun _ => inXM (.t3 .here) _ hw', fun _ => inXM (.t3 .here) _ hw', fun hs => (hs 5 (by first | (simp; done) | (simp; rfl)) rfl).elim, fun hs => (hs 5 (by first | (simp; done) | (simp; rfl)) rfl).elim, trivial⟩)) ?_
     rintro _ _ ⟨rfl, t, ht, tp, tc, rfl⟩
     refine XQ.call (i := 11) (l' := #[tt,tt,tt,tt,tt,tt,tt,tt,tt,tt,tt,tt,ff,ff]) rfl (by kernel_rfl) rfl rfl (r_Remove _ _ _ hSm _ _ (by rw [hU]; exact fun q => FF.Ok.links1 hO.inv q)) (.cons (.t5 .here) (.cons (.t5 .here) (.cons (.t5 .here) .nil))) cl_31 rfl (by rintro _ _ ⟨rfl, u, hu, up, uc, rfl⟩; all_goals (intro _ hw'; exact ⟨fun hs => (hs 11 (by first | (simp; done) | (simp; rfl)) rfl).elim, fun hs => (hs 11 (by first | (simp; done) | (simp; rfl)) rfl).elim, fun hs => (hs 5 (by first | (simp; done) | (simp; rfl)) rfl).elim, fun hs => (hs 5 (by first | (simp; done) | (simp; rfl)) rfl).elim, trivial⟩)) ?_
     rintro _ _ ⟨rfl, u, hu, up, uc, rfl⟩
     refine XQ.call (i := 12) (l' := #[tt,tt,tt,tt,tt,tt,tt,tt,tt,tt,tt,tt,tt,ff]) rfl (by kernel_rfl) rfl rfl (same_any _ _ (by first | omega | exact FF.removeE_nn _ _ _)) .nil cl_15 rfl (by rintro _ _ ⟨rfl, rfl⟩; all_goals (intro _ hw'; exact ⟨fun hs => (hs 11 (by first | (simp; done) | (simp; rfl)) rfl).elim, fun hs => (hs 11 (by first | (simp; done) | (simp; rfl)) rfl).elim, fun hs => (hs 5 (by first | (simp; done) | (simp; rfl)) rfl).elim, fun hs => (hs 5 (by first | (simp; done) | (simp; rfl)) rfl).elim, trivial⟩)) ?_
     rintro _ _ ⟨rfl, rfl⟩
     refine XQ.pv (i := 13) (l' := #[tt,tt,tt,tt,tt,tt,tt,tt,tt,tt,tt,tt,tt,tt]) rfl (by kernel_rfl) rfl (V.assign rfl) rfl rfl ?_
     refine XQ.done (by kernel_rfl) ?_
     refine XE.next ?_
     refine XC.keep [(6, _)] (S1 rfl) ?_
     refine XC.ret ?_
     refine XE.blockRet ?_
     refine XE.thenRet ?_
     refine XE.ret1 rfl rfl (post_of (.cons (.t3 .here) (.cons (.t3 .here) (.cons (.t3 .here) (.cons (.t4 .here) (.cons .here (.cons .here (.cons .here (.cons (.there .here) .nil)))))))) rfl ?_)
     have h2 := hO.remove a.a a.s
     exact ⟨congrArg Value.bool (decide_eq_true (by rw [hU])), t, u, _, by rw [hu, ht, hU], by rw [ht]; exact h2, by rw [tp, tc, up, uc, show (FC.toFF t).roots = s.roots from by rw [ht]; exact FF.remove_roots _ _ _, show (FC.toFF u).roots = m.roots from by rw [hu]; exact FF.remove_roots _ _ _]⟩
    ·
     refine XC.sr ?_
     refine XO.v (V.strCmp rfl rfl rfl) rfl ?_
     refine XO.as rfl rfl ?_
     refine XO.nk [(0, _), (1, _), (5, _), (24, _), (111, _)] (S5 rfl rfl rfl rfl rfl) ?_
     refine XC.condP rfl (fun h7 => ?_) (fun h7 => ?_)
     ·
      refine XC.seq ?_
      refine XC.regionQ mixed (f := 22) (l := #[false, false, false, false, false, false, false, false, false, false, false, false, false, false, false, false, false, false, false, false, false, false]) rfl rfl XM.drawn' ?_
      refine XQ.pv (i := 0) (l' := #[tt,ff,ff,ff,ff,ff,ff,ff,ff,ff,ff,ff,ff,ff,ff,ff,ff,ff,ff,ff,ff,ff]) rfl (by kernel_rfl) rfl (V.move rfl) rfl rfl ?_
      refine XQ.pv (i := 1) (l' := #[tt,tt,ff,ff,ff,ff,ff,ff,ff,ff,ff,ff,ff,ff,ff,ff,ff,ff,ff,ff,ff,ff]) rfl (by kernel_rfl) rfl (V.fieldAddr rfl fo_63_1) rfl rfl ?_
      refine XQ.load (i := 2) (l' := #[tt,tt,tt,ff,ff,ff,ff,ff,ff,ff,ff,ff,ff,ff,ff,ff,ff,ff,ff,ff,ff,ff]) (.cells _ _ _ _) [9, 19, 20] rfl (by kernel_rfl) rfl .here (V.load rfl inEnt (encAct.ld_A _) sc_3) rfl (by kernel_rfl) rfl ?_
      refine XQ.pv (i := 3) (l' := #[tt,tt,tt,tt,ff,ff,ff,ff,ff,ff,ff,ff,ff,ff,ff,ff,ff,ff,ff,ff,ff,ff]) rfl (by kernel_rfl) rfl (V.fieldAddr rfl fo_63_6) rfl rfl ?_
      refine XQ.load (i := 4) (l' := #[tt,tt,tt,tt,tt,ff,ff,ff,ff,ff,ff,ff,ff,ff,ff,ff,ff,ff,ff,ff,ff,ff]) (.cells _ _ _ _) [9, 19, 20] rfl (by kernel_rfl) rfl .here (V.load rfl inEnt (encAct.ld_S _) sc_9) rfl (by kernel_rfl) rfl ?_
      refine XQ.pv (i := 5) (l' := #[tt,tt,tt,tt,tt,tt,ff,ff,ff,ff,ff,ff,ff,ff,ff,ff,ff,ff,ff,ff,ff,ff]) rfl (by kernel_rfl) rfl (V.fieldAddr rfl fo_63_2) rfl rfl ?_
      refine XQ.load (i := 6) (l' := #[tt,tt,tt,tt,tt,tt,tt,ff,ff,ff,ff,ff,ff,ff,ff,ff,ff,ff,ff,ff,ff,ff]) (.cells _ _ _ _) [9, 19, 20] rfl (by kernel_rfl) rfl .here (V.load rfl inEnt (encAct.ld_B _) sc_3) rfl (by kernel_rfl) rfl ?_
      refine XQ.pv (i := 7) (l' := #[tt,tt,tt,tt,tt,tt,tt,tt,ff,ff,ff,ff,ff,ff,ff,ff,ff,ff,ff,ff,ff,ff]) rfl (by kernel_rfl) rfl (V.fieldAddr rfl fo_63_7) rfl rfl ?_
      refine XQ.load (i := 8) (l' := #[tt,tt,tt,tt,tt,tt,tt,tt,tt,ff,ff,ff,ff,ff,ff,ff,ff,ff,ff,ff,ff,ff]) (.cells _ _ _ _) [9, 19, 20] rfl (by kernel_rfl) rfl .here (V.load rfl inEnt (encAct.ld_T _) sc_9) rfl (by kernel_rfl) rfl ?_
      refine XQ.pv (i := 10) (l' := #[tt,tt,tt,tt,tt,tt,tt,tt,tt,ff,tt,ff,ff,ff,ff,ff,ff,ff,ff,ff,ff,ff]) rfl (by kernel_rfl) rfl (V.move rfl) rfl rfl ?_
      refine XQ.pv (i := 11) (l' := #[tt,tt,tt,tt,tt,tt,tt,tt,tt,ff,tt,tt,ff,ff,ff,ff,ff,ff,ff,ff,ff,ff]) rfl (by kernel_rfl) rfl (V.fieldAddr rfl fo_63_1) rfl rfl ?_
      refine XQ.load (i := 12) (l' := #[tt,tt,tt,tt,tt,tt,tt,tt,tt,ff,tt,tt,tt,ff,ff,ff,ff,ff,ff,ff,ff,ff]) (.cells _ _ _ _) [19, 20] rfl (by kernel_rfl) rfl .here (V.load rfl inEnt (encAct.ld_A _) sc_3) rfl (by kernel_rfl) rfl ?_
      refine XQ.pv (i := 13) (l' := #[tt,tt,tt,tt,tt,tt,tt,tt,tt,ff,tt,tt,tt,tt,ff,ff,ff,ff,ff,ff,ff,ff]) rfl (by kernel_rfl) rfl (V.fieldAddr rfl fo_63_6) rfl rfl ?_
      refine XQ.load (i := 14) (l' := #[tt,tt,tt,tt,tt,tt,tt,tt,tt,ff,tt,tt,tt,tt,tt,ff,ff,ff,ff,ff,ff,ff]) (.cells _ _ _ _) [19, 20] rfl (by kernel_rfl) rfl .here (V.load rfl inEnt (encAct.ld_S _) sc_9) rfl (by kernel_rfl) rfl ?_
      refine XQ.pv (i := 15) (l' := #[tt,tt,tt,tt,tt,tt,tt,tt,tt,ff,tt,tt,tt,tt,tt,tt,ff,ff,ff,ff,ff,ff]) rfl (by kernel_rfl) rfl (V.fieldAddr rfl fo_63_2) rfl rfl ?_
      refine XQ.load (i := 16) (l' := #[tt,tt,tt,tt,tt,tt,tt,tt,tt,ff,tt,tt,tt,tt,tt,tt,tt,ff,ff,ff,ff,ff]) (.cells _ _ _ _) [19, 20] rfl (by kernel_rfl) rfl .here (V.load rfl inEnt (encAct.ld_B _) sc_3) rfl (by kernel_rfl) rfl ?_
      refine XQ.pv (i := 17) (l' := #[tt,tt,tt,tt,tt,tt,tt,tt,tt,ff,tt,tt,tt,tt,tt,tt,tt,tt,ff,ff,ff,ff]) rfl (by kernel_rfl) rfl (V.fieldAddr rfl fo_63_7) rfl rfl ?_
      refine XQ.load (i := 18) (l' := #[tt,tt,tt,tt,tt,tt,tt,tt,tt,ff,tt,tt,tt,tt,tt,tt,tt,tt,tt,ff,ff,ff]) (.cells _ _ _ _) [19, 20] rfl (by kernel_rfl) rfl .here (V.load rfl inEnt (encAct.ld_T _) sc_9) rfl (by kernel_rfl) rfl ?_
      refine XQ.call (i := 9) (l' := #[tt,tt,tt,tt,tt,tt,tt,tt,tt,tt,tt,tt,tt,tt,tt,tt,tt,tt,tt,ff,ff,ff]) rfl (by kernel_rfl) rfl rfl (t_Move _ _ _ hS d (fun k => hO.inv.chI k) _ _ _ _ (by omega)) (.cons (.there .here) (.cons (.there .here) (.cons (.there .here) .nil))) cl_32 rfl (by rintro _ _ ⟨rfl, t, ht, tp, tc, rfl⟩; all_goals (intro _ hw'; exact ⟨fun _ => inXM (.t3 .here) _ hw', fun _ => inXM (.t3 .here) _ hw', fun _ => inXM (.t3 .here) _ hw', fun _ => inXM (.t3 .here) _ hw', fun hs => (hs 9 (by first | (simp; done) | (simp; rfl)) rfl).elim, fun hs => (hs 9 (by first | (simp; done) | (simp; rfl)) rfl).elim, fun hs => (hs 9 (by first | (simp; done) | (simp; rfl)) rfl).elim, fun hs => (hs 9 (by first | (simp; done) | (simp; rfl)) rfl).elim, trivial⟩)) ?_
      rintro _ _ ⟨rfl, t, ht, tp, tc, rfl⟩
      refine XQ.call (i := 19) (l' := #[tt,tt,tt,tt,tt,tt,tt,tt,tt,tt,tt,tt,tt,tt,tt,tt,tt,tt,tt,tt,ff,ff]) rfl (by kernel_rfl) rfl rfl (r_Move _ _ _ hSm d (fun k => by rw [hU]; exact hO.inv.chI k) _ _ _ _ (by omega)) (.cons (.t5 .here) (.cons (.t5 .here) (.cons (.t5 .here) .nil))) cl_33 rfl (by rintro _ _ ⟨rfl, u, hu, up, uc, rfl⟩; all_goals (intro _ hw'; exact ⟨fun hs => (hs 19 (by first | (simp; done) | (simp; rfl)) rfl).elim, fun hs => (hs 19 (by first | (simp; done) | (simp; rfl)) rfl).elim, fun hs => (hs 19 (by first | (simp; done) | (simp; rfl)) rfl).elim, fun hs => (hs 19 (by first | (simp; done) | (simp; rfl)) rfl).elim, fun hs => (hs 9 (by first | (simp; done) | (simp; rfl)) rfl).elim, fun hs => (hs 9 (by first | (simp; done) | (simp; rfl)) rfl).elim, fun hs => (hs 9 (by first | (simp; done) | (simp; rfl)) rfl).elim, fun hs => (hs 9 (by first | (simp; done) | (simp; rfl)) rfl).elim, trivial⟩)) ?_
      rintro _ _ ⟨rfl, u, hu, up, uc, rfl⟩
      refine XQ.call (i := 20) (l' := #[tt,tt,tt,tt,tt,tt,tt,tt,tt,tt,tt,tt,tt,tt,tt,tt,tt,tt,tt,tt,tt,ff]) rfl (by kernel_rfl) rfl rfl (same_any _ _ (by first | omega | exact FF.moveE_nn _ _ _ _ _ _)) .nil cl_15 rfl (by rintro _ _ ⟨rfl, rfl⟩; all_goals (intro _ hw'; exact ⟨fun hs => (hs 19 (by first | (simp; done) | (simp; rfl)) rfl).elim, fun hs => (hs 19 (by first | (simp; done) | (simp; rfl)) rfl).elim, fun hs => (hs 19 (by first | (simp; done) | (simp; rfl)) rfl).elim, fun hs => (hs 19 (by first | (simp; done) | (simp; rfl)) rfl).elim, fun hs => (hs 9 (by first | (simp; done) | (simp; rfl)) rfl).elim, fun hs => (hs 9 (by first | (simp; done) | (simp; rfl)) rfl).elim, fun hs => (hs 9 (by first | (simp; done) | (simp; rfl)) rfl).elim, fun hs => (hs 9 (by first | (simp; done) | (simp; rfl)) rfl).elim, trivial⟩)) ?_
      rintro _ _ ⟨rfl, rfl⟩
      refine XQ.pv (i := 21) (l' := #[tt,tt,tt,tt,tt,tt,tt,tt,tt,tt,tt,tt,tt,tt,tt,tt,tt,tt,tt,tt,tt,tt]) rfl (by kernel_rfl) rfl (V.assign rfl) rfl rfl ?_
      refine XQ.done (by kernel_rfl) ?_
      refine XE.next ?_
      refine XC.keep [(6, _)] (S1 rfl) ?_
      refine XC.ret ?_
      refine XE.blockRet ?_
      refine XE.thenRet ?_
      refine XE.ret1 rfl rfl (post_of (.cons (.t3 .here) (.cons (.t3 .here) (.cons (.t3 .here) (.cons (.t4 .here) (.cons .here (.cons .here (.cons .here (.cons (.there .here) .nil)))))))) rfl ?_)
      obtain ⟨d2, h2⟩ := hO.move a.a a.s a.b a.t
      exact ⟨congrArg Value.bool (decide_eq_true (by rw [hU])), t, u, _, by rw [hu, ht, hU], by rw [ht]; exact h2, by rw [tp, tc, up, uc, show (FC.toFF t).roots = s.roots from by rw [ht]; exact FF.move_roots _ _ _ _ _ _, show (FC.toFF u).roots = m.roots from by rw [hu]; exact FF.move_roots _ _ _ _ _ _]⟩
     ·
      refine XC.sr ?_
      refine XO.v (V.strCmp rfl rfl rfl) rfl ?_
      refine XO.as rfl rfl ?_
      refine XO.nk [(0, _), (1, _), (5, _), (24, _), (134, _)] (S5 rfl rfl rfl rfl rfl) ?_
      refine XC.condP rfl (fun h8 => ?_) (fun h8 => ?_)
      ·
       refine XC.seq ?_
       refine XC.regionQ mixed (f := 10) (l := #[false, false, false, false, false, false, false, false, false, false]) rfl rfl XM.drawn' ?_
       refine XQ.pv (i := 0) (l' := #[tt,ff,ff,ff,ff,ff,ff,ff,ff,ff]) rfl (by kernel_rfl) rfl (V.move rfl) rfl rfl ?_
       refine XQ.pv (i := 1) (l' := #[tt,tt,ff,ff,ff,ff,ff,ff,ff,ff]) rfl (by kernel_rfl) rfl (V.fieldAddr rfl fo_63_1) rfl rfl ?_
       refine XQ.load (i := 2) (l' := #[tt,tt,tt,ff,ff,ff,ff,ff,ff,ff]) (.cells _ _ _ _) [3, 7, 8] rfl (by kernel_rfl) rfl .here (V.load rfl inEnt (encAct.ld_A _) sc_3) rfl (by kernel_rfl) rfl ?_
       refine XQ.pv (i := 4) (l' := #[tt,tt,tt,ff,tt,ff,ff,ff,ff,ff]) rfl (by kernel_rfl) rfl (V.move rfl) rfl rfl ?_
       refine XQ.pv (i := 5) (l' := #[tt,tt,tt,ff,tt,tt,ff,ff,ff,ff]) rfl (by kernel_rfl) rfl (V.fieldAddr rfl fo_63_1) rfl rfl ?_
       refine XQ.load (i := 6) (l' := #[tt,tt,tt,ff,tt,tt,tt,ff,ff,ff]) (.cells _ _ _ _) [7, 8] rfl (by kernel_rfl) rfl .here (V.load rfl inEnt (encAct.ld_A _) sc_3) rfl (by kernel_rfl) rfl ?_
       refine XQ.call (i := 3) (l' := #[tt,tt,tt,tt,tt,tt,tt,ff,ff,ff]) rfl (by kernel_rfl) rfl rfl (t_Hold _ _ _ hS _) (.cons (.there .here) (.cons (.there .here) (.cons (.there .here) .nil))) cl_34 rfl (by rintro _ _ ⟨rfl, t, ht, tp, tc, rfl⟩; all_goals (intro _ hw'; exact ⟨fun _ => inXM (.t3 .here) _ hw', fun hs => (hs 3 (by first | (simp; done) | (simp; rfl)) rfl).elim, trivial⟩)) ?_
       rintro _ _ ⟨rfl, t, ht, tp, tc, rfl⟩
       refine XQ.call (i := 7) (l' := #[tt,tt,tt,tt,tt,tt,tt,tt,ff,ff]) rfl (by kernel_rfl) rfl rfl (r_Hold _ _ _ hSm _) (.cons (.t5 .here) (.cons (.t5 .here) (.cons (.t5 .here) .nil))) cl_35 rfl (by rintro _ _ ⟨rfl, u, hu, up, uc, rfl⟩; all_goals (intro _ hw'; exact ⟨fun hs => (hs 7 (by first | (simp; done) | (simp; rfl)) rfl).elim, fun hs => (hs 3 (by first | (simp; done) | (simp; rfl)) rfl).elim, trivial⟩)) ?_
       rintro _ _ ⟨rfl, u, hu, up, uc, rfl⟩
       refine XQ.call (i := 8) (l' := #[tt,tt,tt,tt,tt,tt,tt,tt,tt,ff]) rfl (by kernel_rfl) rfl rfl (same_any _ _ (by first | omega | exact FF.isE_nn _ _ _)) .nil cl_15 rfl (by rintro _ _ ⟨rfl, rfl⟩; all_goals (intro _ hw'; exact ⟨fun hs => (hs 7 (by first | (simp; done) | (simp; rfl)) rfl).elim, fun hs => (hs 3 (by first | (simp; done) | (simp; rfl)) rfl).elim, trivial⟩)) ?_
       rintro _ _ ⟨rfl, rfl⟩
       refine XQ.pv (i := 9) (l' := #[tt,tt,tt,tt,tt,tt,tt,tt,tt,tt]) rfl (by kernel_rfl) rfl (V.assign rfl) rfl rfl ?_
       refine XQ.done (by kernel_rfl) ?_
       refine XE.next ?_
       refine XC.keep [(6, _)] (S1 rfl) ?_
       refine XC.ret ?_
       refine XE.blockRet ?_
       refine XE.thenRet ?_
       refine XE.ret1 rfl rfl (post_of (.cons (.t3 .here) (.cons (.t3 .here) (.cons (.t3 .here) (.cons (.t4 .here) (.cons .here (.cons .here (.cons .here (.cons (.there .here) .nil)))))))) rfl ?_)
       have h2 := hO.hold a.a
       exact ⟨congrArg Value.bool (decide_eq_true (by rw [hU])), t, u, _, by rw [hu, ht, hU], by rw [ht]; exact h2, by rw [tp, tc, up, uc, show (FC.toFF t).roots = s.roots from by rw [ht]; exact FF.hold_roots _ _, show (FC.toFF u).roots = m.roots from by rw [hu]; exact FF.hold_roots _ _]⟩
      ·
       refine XC.sr ?_
       refine XO.v (V.strCmp rfl rfl rfl) rfl ?_
       refine XO.as rfl rfl ?_
       refine XO.nk [(0, _), (1, _), (5, _), (24, _), (145, _)] (S5 rfl rfl rfl rfl rfl) ?_
       refine XC.condP rfl (fun h9 => ?_) (fun h9 => ?_)
       ·
        refine XC.seq ?_
        refine XC.regionQ mixed (f := 10) (l := #[false, false, false, false, false, false, false, false, false, false]) rfl rfl XM.drawn' ?_
        refine XQ.pv (i := 0) (l' := #[tt,ff,ff,ff,ff,ff,ff,ff,ff,ff]) rfl (by kernel_rfl) rfl (V.move rfl) rfl rfl ?_
        refine XQ.pv (i := 1) (l' := #[tt,tt,ff,ff,ff,ff,ff,ff,ff,ff]) rfl (by kernel_rfl) rfl (V.fieldAddr rfl fo_63_1) rfl rfl ?_
        refine XQ.load (i := 2) (l' := #[tt,tt,tt,ff,ff,ff,ff,ff,ff,ff]) (.cells _ _ _ _) [3, 7, 8] rfl (by kernel_rfl) rfl .here (V.load rfl inEnt (encAct.ld_A _) sc_3) rfl (by kernel_rfl) rfl ?_
        refine XQ.pv (i := 4) (l' := #[tt,tt,tt,ff,tt,ff,ff,ff,ff,ff]) rfl (by kernel_rfl) rfl (V.move rfl) rfl rfl ?_
        refine XQ.pv (i := 5) (l' := #[tt,tt,tt,ff,tt,tt,ff,ff,ff,ff]) rfl (by kernel_rfl) rfl (V.fieldAddr rfl fo_63_1) rfl rfl ?_
        refine XQ.load (i := 6) (l' := #[tt,tt,tt,ff,tt,tt,tt,ff,ff,ff]) (.cells _ _ _ _) [7, 8] rfl (by kernel_rfl) rfl .here (V.load rfl inEnt (encAct.ld_A _) sc_3) rfl (by kernel_rfl) rfl ?_
        refine XQ.call (i := 3) (l' := #[tt,tt,tt,tt,tt,tt,tt,ff,ff,ff]) rfl (by kernel_rfl) rfl rfl (t_Let _ _ _ hS _) (.cons (.there .here) (.cons (.there .here) (.cons (.there .here) .nil))) cl_36 rfl (by rintro _ _ ⟨rfl, t, ht, tp, tc, rfl⟩; all_goals (intro _ hw'; exact ⟨fun _ => inXM (.t3 .here) _ hw', fun hs => (hs 3 (by first | (simp; done) | (simp; rfl)) rfl).elim, trivial⟩)) ?_
        rintro _ _ ⟨rfl, t, ht, tp, tc, rfl⟩
        refine XQ.call (i := 7) (l' := #[tt,tt,tt,tt,tt,tt,tt,tt,ff,ff]) rfl (by kernel_rfl) rfl rfl (r_Let _ _ _ hSm _ (by rw [hU]; exact fun q => FF.Ok.links0 hO.inv q)) (.cons (.t5 .here) (.cons (.t5 .here) (.cons (.t5 .here) .nil))) cl_35 rfl (by rintro _ _ ⟨rfl, u, hu, up, uc, rfl⟩; all_goals (intro _ hw'; exact ⟨fun hs => (hs 7 (by first | (simp; done) | (simp; rfl)) rfl).elim, fun hs => (hs 3 (by first | (simp; done) | (simp; rfl)) rfl).elim, trivial⟩)) ?_
        rintro _ _ ⟨rfl, u, hu, up, uc, rfl⟩
        refine XQ.call (i := 8) (l' := #[tt,tt,tt,tt,tt,tt,tt,tt,tt,ff]) rfl (by kernel_rfl) rfl rfl (same_any _ _ (by first | omega | exact FF.letE_nn _ _)) .nil cl_15 rfl (by rintro _ _ ⟨rfl, rfl⟩; all_goals (intro _ hw'; exact ⟨fun hs => (hs 7 (by first | (simp; done) | (simp; rfl)) rfl).elim, fun hs => (hs 3 (by first | (simp; done) | (simp; rfl)) rfl).elim, trivial⟩)) ?_
        rintro _ _ ⟨rfl, rfl⟩
        refine XQ.pv (i := 9) (l' := #[tt,tt,tt,tt,tt,tt,tt,tt,tt,tt]) rfl (by kernel_rfl) rfl (V.assign rfl) rfl rfl ?_
        refine XQ.done (by kernel_rfl) ?_
        refine XE.next ?_
        refine XC.keep [(6, _)] (S1 rfl) ?_
        refine XC.ret ?_
        refine XE.blockRet ?_
        refine XE.thenRet ?_
        refine XE.ret1 rfl rfl (post_of (.cons (.t3 .here) (.cons (.t3 .here) (.cons (.t3 .here) (.cons (.t4 .here) (.cons .here (.cons .here (.cons .here (.cons (.there .here) .nil)))))))) rfl ?_)
        have h2 := hO.letF a.a
        exact ⟨congrArg Value.bool (decide_eq_true (by rw [hU])), t, u, _, by rw [hu, ht, hU], by rw [ht]; exact h2, by rw [tp, tc, up, uc, show (FC.toFF t).roots = s.roots from by rw [ht]; exact FF.letF_roots _ _, show (FC.toFF u).roots = m.roots from by rw [hu]; exact FF.letF_roots _ _]⟩
       ·
        refine XC.sr ?_
        refine XO.v (V.strCmp rfl rfl rfl) rfl ?_
        refine XO.as rfl rfl ?_
        refine XO.nk [(0, _), (1, _), (5, _), (24, _), (156, _)] (S5 rfl rfl rfl rfl rfl) ?_
        refine XC.condP rfl (fun h10 => ?_) (fun h10 => ?_)
        ·
         refine XC.sr ?_
         refine XO.mv rfl rfl ?_
         refine XO.v (V.fieldAddr rfl fo_63_1) rfl ?_
         refine XO.v (V.load rfl (inXM .here) (encAct.ld_A _) sc_3) rfl ?_
         refine XO.v (V.fieldAddr rfl fo_63_6) rfl ?_
         refine XO.v (V.load rfl (inXM .here) (encAct.ld_S _) sc_9) rfl ?_
         refine XO.call rfl (t_Find _ _ _ hS _ _) (.cons (.there .here) (.cons (.there .here) (.cons (.there .here) .nil))) cl_37 rfl ?_
         rintro _ _ ⟨rfl, rfl⟩
         refine XO.mv rfl rfl ?_
         refine XO.v (V.extract rfl rfl) rfl ?_
         refine XO.v (V.extract rfl rfl) rfl ?_
         refine XO.as rfl rfl ?_
         refine XO.as rfl rfl ?_
         refine XO.nk [(1, _), (5, _), (15, _), (16, _)] (S4 rfl rfl rfl rfl) ?_
         refine XC.sr ?_
         refine XO.mv rfl rfl ?_
         refine XO.v (V.fieldAddr rfl fo_63_1) rfl ?_
         refine XO.v (V.load rfl (inXM (.t3 .here)) (encAct.ld_A _) sc_3) rfl ?_
         refine XO.v (V.fieldAddr rfl fo_63_6) rfl ?_
         refine XO.v (V.load rfl (inXM (.t3 .here)) (encAct.ld_S _) sc_9) rfl ?_
         refine XO.call rfl (r_Find _ _ _ hSm _ _) (.cons (.t5 .here) (.cons (.t5 .here) (.cons (.t5 .here) .nil))) cl_38 rfl ?_
         rintro _ _ ⟨rfl, rfl⟩
         refine XO.mv rfl rfl ?_
         refine XO.v (V.extract rfl rfl) rfl ?_
         refine XO.v (V.extract rfl rfl) rfl ?_
         refine XO.as rfl rfl ?_
         refine XO.as rfl rfl ?_
         refine XO.nk [(15, _), (16, _), (17, _), (18, _)] (S4 rfl rfl rfl rfl) ?_
         refine XC.sr ?_
         refine XO.mv rfl rfl ?_
         refine XO.mv rfl rfl ?_
         refine XO.v (V.cmp rfl rfl rfl) rfl ?_
         refine XO.mv rfl rfl ?_
         refine XO.splitT (d := 179) rfl (by rw [hU]) ?_
         refine XO.guardRun rfl rfl rfl ?_
         refine XO.mv rfl rfl ?_
         refine XO.guardRun rfl rfl rfl ?_
         refine XO.mv rfl rfl ?_
         refine XO.guardRun rfl rfl rfl ?_
         refine XO.call rfl (same_any _ _ (by first | omega | exact FF.findE_nn _ _ _)) .nil cl_15 rfl ?_
         rintro _ _ ⟨rfl, rfl⟩
         refine XO.v (V.pick rfl rfl rfl rfl) rfl ?_
         refine XO.as rfl rfl ?_
         refine XO.nk [(6, _)] (S1 rfl) ?_
         refine XC.ret ?_
         refine XE.blockRet ?_
         refine XE.thenRet ?_
         refine XE.ret1 rfl rfl (post_of (.cons (.t3 .here) (.cons (.t3 .here) (.cons (.t3 .here) (.cons (.t4 .here) (.cons .here (.cons .here (.cons .here (.cons (.there .here) .nil)))))))) rfl ?_)
         exact ⟨congrArg Value.bool (decide_eq_true (by rw [hU])), s, m, d, hU, hO.up1, rfl⟩
        ·
         refine XC.sr ?_
         refine XO.v (V.strCmp rfl rfl rfl) rfl ?_
         refine XO.as rfl rfl ?_
         refine XO.nk [(0, _), (1, _), (5, _), (24, _), (184, _)] (S5 rfl rfl rfl rfl rfl) ?_
         refine XC.condP rfl (fun h12 => ?_) (fun h12 => ?_)
         ·
          refine XC.sr ?_
          refine XO.mv rfl rfl ?_
          refine XO.v (V.fieldAddr rfl fo_63_1) rfl ?_
          refine XO.v (V.load rfl (inXM .here) (encAct.ld_A _) sc_3) rfl ?_
          refine XO.v (V.fieldAddr rfl fo_63_2) rfl ?_
          refine XO.v (V.load rfl (inXM .here) (encAct.ld_B _) sc_3) rfl ?_
          refine XO.v (V.fieldAddr rfl fo_63_3) rfl ?_
          refine XO.v (V.load rfl (inXM .here) (encAct.ld_C _) sc_3) rfl ?_
          refine XO.call rfl (t_Read _ _ _ hS _ _ _) (.cons (.there .here) .nil) cl_39 rfl ?_
          rintro _ _ ⟨rfl, rfl⟩
          refine XO.mv rfl rfl ?_
          refine XO.v (V.extract rfl rfl) rfl ?_
          refine XO.v (V.extract rfl rfl) rfl ?_
          refine XO.as rfl rfl ?_
          refine XO.as rfl rfl ?_
          refine XO.nk [(1, _), (5, _), (19, _), (20, _)] (S4 rfl rfl rfl rfl) ?_
          refine XC.sr ?_
          refine XO.mv rfl rfl ?_
          refine XO.v (V.fieldAddr rfl fo_63_1) rfl ?_
          refine XO.v (V.load rfl (inXM (.there .here)) (encAct.ld_A _) sc_3) rfl ?_
          refine XO.v (V.fieldAddr rfl fo_63_2) rfl ?_
          refine XO.v (V.load rfl (inXM (.there .here)) (encAct.ld_B _) sc_3) rfl ?_
          refine XO.v (V.fieldAddr rfl fo_63_3) rfl ?_
          refine XO.v (V.load rfl (inXM (.there .here)) (encAct.ld_C _) sc_3) rfl ?_
          refine XO.call rfl (r_Read _ _ _ hSm _ _ _) (.cons (.t5 .here) .nil) cl_40 rfl ?_
          rintro _ _ ⟨rfl, rfl⟩
          refine XO.mv rfl rfl ?_
          refine XO.v (V.extract rfl rfl) rfl ?_
          refine XO.v (V.extract rfl rfl) rfl ?_
          refine XO.as rfl rfl ?_
          refine XO.as rfl rfl ?_
          refine XO.nk [(19, _), (20, _), (21, _), (22, _)] (S4 rfl rfl rfl rfl) ?_
          refine XC.sr ?_
          refine XO.mv rfl rfl ?_
          refine XO.mv rfl rfl ?_
          refine XO.v (V.strCmp rfl rfl rfl) rfl ?_
          refine XO.mv rfl rfl ?_
          refine XO.splitT (d := 211) rfl (by rw [hU]) ?_
          refine XO.guardRun rfl rfl rfl ?_
          refine XO.mv rfl rfl ?_
          refine XO.guardRun rfl rfl rfl ?_
          refine XO.mv rfl rfl ?_
          refine XO.guardRun rfl rfl rfl ?_
          refine XO.call rfl (same_any _ _ (by first | omega | exact FF.readE_nn _ _ _ _)) .nil cl_15 rfl ?_
          rintro _ _ ⟨rfl, rfl⟩
          refine XO.v (V.pick rfl rfl rfl rfl) rfl ?_
          refine XO.as rfl rfl ?_
          refine XO.nk [(6, _)] (S1 rfl) ?_
          refine XC.ret ?_
          refine XE.blockRet ?_
          refine XE.thenRet ?_
          refine XE.ret1 rfl rfl (post_of (.cons (.there .here) (.cons (.t2 .here) (.cons (.t2 .here) (.cons (.t2 .here) (.cons .here (.cons (.there .here) (.cons (.there .here) (.cons (.there .here) .nil)))))))) rfl ?_)
          exact ⟨congrArg Value.bool (decide_eq_true (by rw [hU])), s, m, d, hU, hO.up1, rfl⟩
         ·
          refine XC.sr ?_
          refine XO.v (V.strCmp rfl rfl rfl) rfl ?_
          refine XO.as rfl rfl ?_
          refine XO.nk [(0, _), (1, _), (5, _), (216, _)] (S4 rfl rfl rfl rfl) ?_
          refine XC.condP rfl (fun h14 => ?_) (fun h14 => ?_)
          ·
           refine XC.seq ?_
           refine XC.regionQ mixed (f := 18) (l := #[false, false, false, false, false, false, false, false, false, false, false, false, false, false, false, false, false, false]) rfl rfl XM.drawn' ?_
           refine XQ.pv (i := 0) (l' := #[tt,ff,ff,ff,ff,ff,ff,ff,ff,ff,ff,ff,ff,ff,ff,ff,ff,ff]) rfl (by kernel_rfl) rfl (V.move rfl) rfl rfl ?_
           refine XQ.pv (i := 1) (l' := #[tt,tt,ff,ff,ff,ff,ff,ff,ff,ff,ff,ff,ff,ff,ff,ff,ff,ff]) rfl (by kernel_rfl) rfl (V.fieldAddr rfl fo_63_1) rfl rfl ?_
           refine XQ.load (i := 2) (l' := #[tt,tt,tt,ff,ff,ff,ff,ff,ff,ff,ff,ff,ff,ff,ff,ff,ff,ff]) (.cells _ _ _ _) [7, 15, 16] rfl (by kernel_rfl) rfl .here (V.load rfl inEnt (encAct.ld_A _) sc_3) rfl (by kernel_rfl) rfl ?_
           refine XQ.pv (i := 3) (l' := #[tt,tt,tt,tt,ff,ff,ff,ff,ff,ff,ff,ff,ff,ff,ff,ff,ff,ff]) rfl (by kernel_rfl) rfl (V.fieldAddr rfl fo_63_2) rfl rfl ?_
           refine XQ.load (i := 4) (l' := #[tt,tt,tt,tt,tt,ff,ff,ff,ff,ff,ff,ff,ff,ff,ff,ff,ff,ff]) (.cells _ _ _ _) [7, 15, 16] rfl (by kernel_rfl) rfl .here (V.load rfl inEnt (encAct.ld_B _) sc_3) rfl (by kernel_rfl) rfl ?_
           refine XQ.pv (i := 5) (l' := #[tt,tt,tt,tt,tt,tt,ff,ff,ff,ff,ff,ff,ff,ff,ff,ff,ff,ff]) rfl (by kernel_rfl) rfl (V.fieldAddr rfl fo_63_6) rfl rfl ?_
           refine XQ.load (i := 6) (l' := #[tt,tt,tt,tt,tt,tt,tt,ff,ff,ff,ff,ff,ff,ff,ff,ff,ff,ff]) (.cells _ _ _ _) [7, 15, 16] rfl (by kernel_rfl) rfl .here (V.load rfl inEnt (encAct.ld_S _) sc_9) rfl (by kernel_rfl) rfl ?_
           refine XQ.pv (i := 8) (l' := #[tt,tt,tt,tt,tt,tt,tt,ff,tt,ff,ff,ff,ff,ff,ff,ff,ff,ff]) rfl (by kernel_rfl) rfl (V.move rfl) rfl rfl ?_
           refine XQ.pv (i := 9) (l' := #[tt,tt,tt,tt,tt,tt,tt,ff,tt,tt,ff,ff,ff,ff,ff,ff,ff,ff]) rfl (by kernel_rfl) rfl (V.fieldAddr rfl fo_63_1) rfl rfl ?_
           refine XQ.load (i := 10) (l' := #[tt,tt,tt,tt,tt,tt,tt,ff,tt,tt,tt,ff,ff,ff,ff,ff,ff,ff]) (.cells _ _ _ _) [15, 16] rfl (by kernel_rfl) rfl .here (V.load rfl inEnt (encAct.ld_A _) sc_3) rfl (by kernel_rfl) rfl ?_
           refine XQ.pv (i := 11) (l' := #[tt,tt,tt,tt,tt,tt,tt,ff,tt,tt,tt,tt,ff,ff,ff,ff,ff,ff]) rfl (by kernel_rfl) rfl (V.fieldAddr rfl fo_63_2) rfl rfl ?_
           refine XQ.load (i := 12) (l' := #[tt,tt,tt,tt,tt,tt,tt,ff,tt,tt,tt,tt,tt,ff,ff,ff,ff,ff]) (.cells _ _ _ _) [15, 16] rfl (by kernel_rfl) rfl .here (V.load rfl inEnt (encAct.ld_B _) sc_3) rfl (by kernel_rfl) rfl ?_
           refine XQ.pv (i := 13) (l' := #[tt,tt,tt,tt,tt,tt,tt,ff,tt,tt,tt,tt,tt,tt,ff,ff,ff,ff]) rfl (by kernel_rfl) rfl (V.fieldAddr rfl fo_63_6) rfl rfl ?_
           refine XQ.load (i := 14) (l' := #[tt,tt,tt,tt,tt,tt,tt,ff,tt,tt,tt,tt,tt,tt,tt,ff,ff,ff]) (.cells _ _ _ _) [15, 16] rfl (by kernel_rfl) rfl .here (V.load rfl inEnt (encAct.ld_S _) sc_9) rfl (by kernel_rfl) rfl ?_
           refine XQ.call (i := 7) (l' := #[tt,tt,tt,tt,tt,tt,tt,tt,tt,tt,tt,tt,tt,tt,tt,ff,ff,ff]) rfl (by kernel_rfl) rfl rfl (t_Write _ _ _ hS _ _ _ (by omega)) (.cons (.there .here) (.cons (.there .here) (.cons (.there .here) .nil))) cl_41 rfl (by rintro _ _ ⟨rfl, t, ht, tp, tc, rfl⟩; all_goals (intro _ hw'; exact ⟨fun _ => inXM (.t3 .here) _ hw', fun _ => inXM (.t3 .here) _ hw', fun _ => inXM (.t3 .here) _ hw', fun hs => (hs 7 (by first | (simp; done) | (simp; rfl)) rfl).elim, fun hs => (hs 7 (by first | (simp; done) | (simp; rfl)) rfl).elim, fun hs => (hs 7 (by first | (simp; done) | (simp; rfl)) rfl).elim, trivial⟩)) ?_
           rintro _ _ ⟨rfl, t, ht, tp, tc, rfl⟩
           refine XQ.call (i := 15) (l' := #[tt,tt,tt,tt,tt,tt,tt,tt,tt,tt,tt,tt,tt,tt,tt,tt,ff,ff]) rfl (by kernel_rfl) rfl rfl (r_Write _ _ _ hSm _ _ _ (by omega)) (.cons (.t5 .here) (.cons (.t5 .here) (.cons (.t5 .here) .nil))) cl_42 rfl (by rintro _ _ ⟨rfl, u, hu, up, uc, rfl⟩; all_goals (intro _ hw'; exact ⟨fun hs => (hs 15 (by first | (simp; done) | (simp; rfl)) rfl).elim, fun hs => (hs 15 (by first | (simp; done) | (simp; rfl)) rfl).elim, fun hs => (hs 15 (by first | (simp; done) | (simp; rfl)) rfl).elim, fun hs => (hs 7 (by first | (simp; done) | (simp; rfl)) rfl).elim, fun hs => (hs 7 (by first | (simp; done) | (simp; rfl)) rfl).elim, fun hs => (hs 7 (by first | (simp; done) | (simp; rfl)) rfl).elim, trivial⟩)) ?_
           rintro _ _ ⟨rfl, u, hu, up, uc, rfl⟩
           refine XQ.call (i := 16) (l' := #[tt,tt,tt,tt,tt,tt,tt,tt,tt,tt,tt,tt,tt,tt,tt,tt,tt,ff]) rfl (by kernel_rfl) rfl rfl (same_any _ _ (by first | omega | exact FF.writeE_nn _ _ _ _)) .nil cl_15 rfl (by rintro _ _ ⟨rfl, rfl⟩; all_goals (intro _ hw'; exact ⟨fun hs => (hs 15 (by first | (simp; done) | (simp; rfl)) rfl).elim, fun hs => (hs 15 (by first | (simp; done) | (simp; rfl)) rfl).elim, fun hs => (hs 15 (by first | (simp; done) | (simp; rfl)) rfl).elim, fun hs => (hs 7 (by first | (simp; done) | (simp; rfl)) rfl).elim, fun hs => (hs 7 (by first | (simp; done) | (simp; rfl)) rfl).elim, fun hs => (hs 7 (by first | (simp; done) | (simp; rfl)) rfl).elim, trivial⟩)) ?_
           rintro _ _ ⟨rfl, rfl⟩
           refine XQ.pv (i := 17) (l' := #[tt,tt,tt,tt,tt,tt,tt,tt,tt,tt,tt,tt,tt,tt,tt,tt,tt,tt]) rfl (by kernel_rfl) rfl (V.assign rfl) rfl rfl ?_
           refine XQ.done (by kernel_rfl) ?_
           refine XE.next ?_
           refine XC.keep [(6, _)] (S1 rfl) ?_
           refine XC.ret ?_
           refine XE.blockRet ?_
           refine XE.thenRet ?_
           refine XE.ret1 rfl rfl (post_of (.cons (.t3 .here) (.cons (.t3 .here) (.cons (.t3 .here) (.cons (.t4 .here) (.cons .here (.cons .here (.cons .here (.cons (.there .here) .nil)))))))) rfl ?_)
           have h2 := hO.write a.a a.b a.s
           exact ⟨congrArg Value.bool (decide_eq_true (by rw [hU])), t, u, _, by rw [hu, ht, hU], by rw [ht]; exact h2, by rw [tp, tc, up, uc, show (FC.toFF t).roots = s.roots from by rw [ht]; exact FF.write_roots _ _ _ _, show (FC.toFF u).roots = m.roots from by rw [hu]; exact FF.write_roots _ _ _ _]⟩
          ·
           refine XC.skip ?_
           refine XE.blockNormal ?_
           refine XE.next ?_
           refine XC.keep [(0, _), (1, _), (5, _)] (S3 rfl rfl rfl) ?_
           refine XC.seq ?_
           refine XC.regionQ mixed (f := 14) (l := #[false, false, false, false, false, false, false, false, false, false, false, false, false, false]) rfl rfl XM.drawn' ?_
           refine XQ.pv (i := 0) (l' := #[tt,ff,ff,ff,ff,ff,ff,ff,ff,ff,ff,ff,ff,ff]) rfl (by kernel_rfl) rfl (V.move rfl) rfl rfl ?_
           refine XQ.pv (i := 1) (l' := #[tt,tt,ff,ff,ff,ff,ff,ff,ff,ff,ff,ff,ff,ff]) rfl (by kernel_rfl) rfl (V.fieldAddr rfl fo_63_1) rfl rfl ?_
           refine XQ.load (i := 2) (l' := #[tt,tt,tt,ff,ff,ff,ff,ff,ff,ff,ff,ff,ff,ff]) (.cells _ _ _ _) [5, 11, 12] rfl (by kernel_rfl) rfl .here (V.load rfl inEnt (encAct.ld_A _) sc_3) rfl (by kernel_rfl) rfl ?_
           refine XQ.pv (i := 3) (l' := #[tt,tt,tt,tt,ff,ff,ff,ff,ff,ff,ff,ff,ff,ff]) rfl (by kernel_rfl) rfl (V.fieldAddr rfl fo_63_2) rfl rfl ?_
           refine XQ.load (i := 4) (l' := #[tt,tt,tt,tt,tt,ff,ff,ff,ff,ff,ff,ff,ff,ff]) (.cells _ _ _ _) [5, 11, 12] rfl (by kernel_rfl) rfl .here (V.load rfl inEnt (encAct.ld_B _) sc_3) rfl (by kernel_rfl) rfl ?_
           refine XQ.pv (i := 6) (l' := #[tt,tt,tt,tt,tt,ff,tt,ff,ff,ff,ff,ff,ff,ff]) rfl (by kernel_rfl) rfl (V.move rfl) rfl rfl ?_
           refine XQ.pv (i := 7) (l' := #[tt,tt,tt,tt,tt,ff,tt,tt,ff,ff,ff,ff,ff,ff]) rfl (by kernel_rfl) rfl (V.fieldAddr rfl fo_63_1) rfl rfl ?_
           refine XQ.load (i := 8) (l' := #[tt,tt,tt,tt,tt,ff,tt,tt,tt,ff,ff,ff,ff,ff]) (.cells _ _ _ _) [11, 12] rfl (by kernel_rfl) rfl .here (V.load rfl inEnt (encAct.ld_A _) sc_3) rfl (by kernel_rfl) rfl ?_
           refine XQ.pv (i := 9) (l' := #[tt,tt,tt,tt,tt,ff,tt,tt,tt,tt,ff,ff,ff,ff]) rfl (by kernel_rfl) rfl (V.fieldAddr rfl fo_63_2) rfl rfl ?_
           refine XQ.load (i := 10) (l' := #[tt,tt,tt,tt,tt,ff,tt,tt,tt,tt,tt,ff,ff,ff]) (.cells _ _ _ _) [11, 12] rfl (by kernel_rfl) rfl .here (V.load rfl inEnt (encAct.ld_B _) sc_3) rfl (by kernel_rfl) rfl ?_
           refine XQ.call (i := 5) (l' := #[tt,tt,tt,tt,tt,tt,tt,tt,tt,tt,tt,ff,ff,ff]) rfl (by kernel_rfl) rfl rfl (t_Cut _ _ _ hS _ _) (.cons (.there .here) (.cons (.there .here) (.cons (.there .here) .nil))) cl_43 rfl (by rintro _ _ ⟨rfl, t, ht, tp, tc, rfl⟩; all_goals (intro _ hw'; exact ⟨fun _ => inXM (.t3 .here) _ hw', fun _ => inXM (.t3 .here) _ hw', fun hs => (hs 5 (by first | (simp; done) | (simp; rfl)) rfl).elim, fun hs => (hs 5 (by first | (simp; done) | (simp; rfl)) rfl).elim, trivial⟩)) ?_
           rintro _ _ ⟨rfl, t, ht, tp, tc, rfl⟩
           refine XQ.call (i := 11) (l' := #[tt,tt,tt,tt,tt,tt,tt,tt,tt,tt,tt,tt,ff,ff]) rfl (by kernel_rfl) rfl rfl (r_Cut _ _ _ hSm _ _) (.cons (.t5 .here) (.cons (.t5 .here) (.cons (.t5 .here) .nil))) cl_44 rfl (by rintro _ _ ⟨rfl, u, hu, up, uc, rfl⟩; all_goals (intro _ hw'; exact ⟨fun hs => (hs 11 (by first | (simp; done) | (simp; rfl)) rfl).elim, fun hs => (hs 11 (by first | (simp; done) | (simp; rfl)) rfl).elim, fun hs => (hs 5 (by first | (simp; done) | (simp; rfl)) rfl).elim, fun hs => (hs 5 (by first | (simp; done) | (simp; rfl)) rfl).elim, trivial⟩)) ?_
           rintro _ _ ⟨rfl, u, hu, up, uc, rfl⟩
           refine XQ.call (i := 12) (l' := #[tt,tt,tt,tt,tt,tt,tt,tt,tt,tt,tt,tt,tt,ff]) rfl (by kernel_rfl) rfl rfl (same_any _ _ (by first | omega | exact FF.clipE_nn _ _ _)) .nil cl_15 rfl (by rintro _ _ ⟨rfl, rfl⟩; all_goals (intro _ hw'; exact ⟨fun hs => (hs 11 (by first | (simp; done) | (simp; rfl)) rfl).elim, fun hs => (hs 11 (by first | (simp; done) | (simp; rfl)) rfl).elim, fun hs => (hs 5 (by first | (simp; done) | (simp; rfl)) rfl).elim, fun hs => (hs 5 (by first | (simp; done) | (simp; rfl)) rfl).elim, trivial⟩)) ?_
           rintro _ _ ⟨rfl, rfl⟩
           refine XQ.pv (i := 13) (l' := #[tt,tt,tt,tt,tt,tt,tt,tt,tt,tt,tt,tt,tt,tt]) rfl (by kernel_rfl) rfl (V.assign rfl) rfl rfl ?_
           refine XQ.done (by kernel_rfl) ?_
           refine XE.next ?_
           refine XC.keep [(6, _)] (S1 rfl) ?_
           refine XC.ret ?_
           refine XE.ret1 rfl rfl (post_of (.cons (.t3 .here) (.cons (.t3 .here) (.cons (.t3 .here) (.cons (.t4 .here) (.cons .here (.cons .here (.cons .here (.cons (.there .here) .nil)))))))) rfl ?_)
           have h2 := hO.clip a.a a.b
           exact ⟨congrArg Value.bool (decide_eq_true (by rw [hU])), t, u, _, by rw [hu, ht, hU], by rw [ht]; exact h2, by rw [tp, tc, up, uc, show (FC.toFF t).roots = s.roots from by rw [ht]; exact FF.clip_roots _ _ _, show (FC.toFF u).roots = m.roots from by rw [hu]; exact FF.clip_roots _ _ _]⟩
end Go.X
