import Derived.Test.YtojlnbjpiccliaaGW
namespace Go.X
open Go Go.Proofs
theorem ag_63 : aggT Try.prog 63 = true := by kernel_rfl
theorem cl_74 : callable Try.prog 74 = true := by kernel_rfl
theorem cl_79 : callable Try.prog 79 = true := by kernel_rfl
theorem cl_81 : callable Try.prog 81 = true := by kernel_rfl
theorem cl_82 : callable Try.prog 82 = true := by kernel_rfl
theorem sc_33 : scal Try.prog 33 = true := by kernel_rfl
theorem sz_33_1 : szOf Try.prog 33 = some 1 := by kernel_rfl
theorem sz_4_1 : szOf Try.prog 4 = some 1 := by kernel_rfl
theorem sz_63_5 : szOf Try.prog 63 = some 5 := by kernel_rfl
set_option maxRecDepth 10000 in
set_option maxHeartbeats 400000 in
theorem g_add (p o : Nat) (s : TG) (hO : s.Ok) (n : Int) (hn : 0 ≤ n ∧ n < 10 ∧ s.here n = true) (q m : Int) (hq : -20 ≤ q ∧ q ≤ 20) (hm : -64 ≤ m ∧ m ≤ 64) (Bd : Int) (hB : 0 ≤ Bd ∧ Bd ≤ 1000000000000) (hS : s.Small Bd) : Spec Try.prog 82 [ptr p o 0, .int .i64 n, .int .i64 q, .int .i64 m]
    [.cells p o 60 (encGt s)]
    (fun v H1 => v = .tuple #[] ∧ H1 = [.cells p o 60 (encGt (s.lay (s.way n) q m))]) := by
  have hway := hO.way hn.1 hn.2.1 hn.2.2
  obtain ⟨xs, hxs⟩ := lift_way _ hway.1.range
  have hlen5 : xs.length ≤ 4 := by
    have : (vals xs).length = xs.length := by simp [vals]
    rw [hxs] at this; omega
  refine Spec.introM Try.func82 rfl rfl ?_
  intro W
  refine XC.seq ?_
  refine XC.region ?_
  refine XO.box (m := 1) (C := cell1 (ptr p o 0)) rfl rfl (fun _ _ => rfl) rfl ?_
  intro bT
  refine XO.box (m := 1) (C := cell1 (.int .i64 q)) rfl rfl (fun _ _ => rfl) rfl ?_
  intro bq
  refine XO.box (m := 1) (C := cell1 (.int .i64 m)) rfl rfl (fun _ _ => rfl) rfl ?_
  intro bm
  refine XO.nil ?_
  refine XE.next ?_
  refine XC.keep [(1, _), (4, _), (6, _), (7, _)] (Sub.cons rfl (Sub.cons rfl (Sub.cons rfl (Sub.cons rfl (Sub.nil _))))) ?_
  refine XC.seq ?_
  refine XC.region ?_
  refine XO.v (V.load rfl (inXM (.there (.there .here))) (cell1.ld _) sc_48) rfl ?_
  refine XO.v (V.move rfl) rfl ?_
  refine XO.call rfl (g_path _ _ _) .nil cl_80 rfl ?_
  rintro _ _ ⟨b1, b2, rfl, rfl⟩
  refine XO.nil ?_
  refine XE.next ?_
  refine XC.keep [(4, _), (6, _), (7, _), (11, _)] (Sub.cons rfl (Sub.cons rfl (Sub.cons rfl (Sub.cons rfl (Sub.nil _))))) ?_
  refine XC.block ?_
  refine XC.rangeA (xs := xs) (fun x : N10 => .int .i64 x.1) (fun pre => pre.length ≤ xs.length) (fun _ => False) (fun pre => [.cells b1 0 1 (cell1 (.int .i64 n)), .cells b2 0 1 (cell1 (ptr p o 0)), .cells p o 60 (encGt (s.lay (vals pre) q m)), .cells bT 0 1 (cell1 (ptr p o 0)), .cells bq 0 1 (cell1 (.int .i64 q)), .cells bm 0 1 (cell1 (.int .i64 m))]) (fun pre => [.cells b1 0 1 (cell1 (.int .i64 n)), .cells b2 0 1 (cell1 (ptr p o 0)), .cells p o 60 (encGt (s.lay (vals pre) q m)), .cells bT 0 1 (cell1 (ptr p o 0)), .cells bq 0 1 (cell1 (.int .i64 q)), .cells bm 0 1 (cell1 (.int .i64 m))]) rfl (call_enters cl_96) rfl rfl (fun w hw => path_seq p o b1 b2 n s.par xs (by rw [hxs]; exact hway.1) w (pathR_of (by rfl) hw.good .here (.there .here) (.there (.there (.there (.there (.there .here))))))) ?_ (fun _ hw => by rw [show s.lay (vals []) q m = s from TG.lay_nil s q m]; exact XM.pick (.cons .here (.cons .here (.cons (.there (.there (.there .here))) (.cons (.there (.there .here)) (.cons (.there .here) (.cons .here .nil)))))) hw) (fun _ => rfl) (fun _ => rfl) ?_ ?_ ?_
  · skip
    simp
  · intro pre x w hV hlen hx
    have hsm := hS.lay (l := vals pre) (by simp [vals]; omega) hq hm x.1 x.2.1 x.2.2
    obtain ⟨x1, x2⟩ := x.2
    refine XB.block ?_
    refine XB.seq ?_
    refine XB.regionQ mixed (f := 14) (l := #[false, false, false, false, false, false, false, false, false, false, false, false, false, false]) rfl rfl XM.drawn' ?_
    refine XQ.load (i := 0) (l' := #[true, false, false, false, false, false, false, false, false, false, false, false, false, false]) (.cells _ _ _ _) [13] rfl (by kernel_rfl) rfl (.there (.there (.there .here))) (V.load rfl inEnt (cell1.ld _) sc_48) rfl (by kernel_rfl) rfl ?_
    refine XQ.pv (i := 1) (l' := #[true, true, false, false, false, false, false, false, false, false, false, false, false, false]) rfl (by kernel_rfl) rfl (V.move rfl) rfl rfl ?_
    refine XQ.pv (i := 2) (l' := #[true, true, true, false, false, false, false, false, false, false, false, false, false, false]) rfl (by kernel_rfl) rfl (V.nilCheckP rfl) rfl rfl ?_
    refine XQ.pv (i := 3) (l' := #[true, true, true, true, false, false, false, false, false, false, false, false, false, false]) rfl (by kernel_rfl) rfl (V.fieldAddr rfl fo_115_0) rfl rfl ?_
    refine XQ.pv (i := 4) (l' := #[true, true, true, true, true, false, false, false, false, false, false, false, false, false]) rfl (by kernel_rfl) rfl (V.indexArr rfl rfl ar_64 (by omega)) rfl rfl ?_
    refine XQ.pv (i := 5) (l' := #[true, true, true, true, true, true, false, false, false, false, false, false, false, false]) rfl (by kernel_rfl) rfl (V.fieldAddr rfl fo_63_3) rfl rfl ?_
    refine XQ.load (i := 6) (l' := #[true, true, true, true, true, true, true, false, false, false, false, false, false, false]) (.cells _ _ _ _) [13] rfl (by kernel_rfl) rfl (.there (.there .here)) (V.load rfl inEnt (encGt.ld_g_I_Procs _ _ (by omega)) sc_3) rfl (by kernel_rfl) rfl ?_
    refine XQ.load (i := 7) (l' := #[true, true, true, true, true, true, true, true, false, false, false, false, false, false]) (.cells _ _ _ _) [13] rfl (by kernel_rfl) rfl (.there (.there (.there (.there .here)))) (V.load rfl inEnt (cell1.ld _) sc_3) rfl (by kernel_rfl) rfl ?_
    refine XQ.pv (i := 8) (l' := #[true, true, true, true, true, true, true, true, true, false, false, false, false, false]) rfl (by kernel_rfl) rfl (V.add rfl rfl _ (IntWalk.i64_in _ (by omega))) rfl rfl ?_
    refine XQ.pv (i := 9) (l' := #[true, true, true, true, true, true, true, true, true, true, false, false, false, false]) rfl (by kernel_rfl) rfl (V.nilCheckP rfl) rfl rfl ?_
    refine XQ.pv (i := 10) (l' := #[true, true, true, true, true, true, true, true, true, true, true, false, false, false]) rfl (by kernel_rfl) rfl (V.fieldAddr rfl fo_115_0) rfl rfl ?_
    refine XQ.pv (i := 11) (l' := #[true, true, true, true, true, true, true, true, true, true, true, true, false, false]) rfl (by kernel_rfl) rfl (V.indexArr rfl rfl ar_64 (by omega)) rfl rfl ?_
    refine XQ.pv (i := 12) (l' := #[true, true, true, true, true, true, true, true, true, true, true, true, true, false]) rfl (by kernel_rfl) rfl (V.fieldAddr rfl fo_63_3) rfl rfl ?_
    refine XQ.store (i := 13) (l' := #[true, true, true, true, true, true, true, true, true, true, true, true, true, true]) rfl (by kernel_rfl) rfl rfl rfl (.there (.there .here)) (encGt.st_g_I_Procs _ _ (by omega) _) rfl sz_3_1 (fun _ hw' => ⟨fun hs => (hs 13 (by simp) rfl).elim, fun hs => (hs 13 (by simp) rfl).elim, fun hs => (hs 13 (by simp) rfl).elim, trivial⟩) ?_
    refine XQ.done (by kernel_rfl) ?_
    refine XE.nextB ?_
    refine XB.keep [(4, _), (7, _), (8, _)] (Sub.cons rfl (Sub.cons rfl (Sub.cons rfl (Sub.nil _)))) ?_
    refine XB.regionQ mixed (f := 14) (l := #[false, false, false, false, false, false, false, false, false, false, false, false, false, false]) rfl rfl XM.drawn' ?_
    refine XQ.load (i := 0) (l' := #[true, false, false, false, false, false, false, false, false, false, false, false, false, false]) (.cells _ _ _ _) [13] rfl (by kernel_rfl) rfl (.there (.there (.there .here))) (V.load rfl inEnt (cell1.ld _) sc_48) rfl (by kernel_rfl) rfl ?_
    refine XQ.pv (i := 1) (l' := #[true, true, false, false, false, false, false, false, false, false, false, false, false, false]) rfl (by kernel_rfl) rfl (V.move rfl) rfl rfl ?_
    refine XQ.pv (i := 2) (l' := #[true, true, true, false, false, false, false, false, false, false, false, false, false, false]) rfl (by kernel_rfl) rfl (V.nilCheckP rfl) rfl rfl ?_
    refine XQ.pv (i := 3) (l' := #[true, true, true, true, false, false, false, false, false, false, false, false, false, false]) rfl (by kernel_rfl) rfl (V.fieldAddr rfl fo_115_0) rfl rfl ?_
    refine XQ.pv (i := 4) (l' := #[true, true, true, true, true, false, false, false, false, false, false, false, false, false]) rfl (by kernel_rfl) rfl (V.indexArr rfl rfl ar_64 (by omega)) rfl rfl ?_
    refine XQ.pv (i := 5) (l' := #[true, true, true, true, true, true, false, false, false, false, false, false, false, false]) rfl (by kernel_rfl) rfl (V.fieldAddr rfl fo_63_4) rfl rfl ?_
    refine XQ.load (i := 6) (l' := #[true, true, true, true, true, true, true, false, false, false, false, false, false, false]) (.cells _ _ _ _) [13] rfl (by kernel_rfl) rfl (.there (.there .here)) (V.load rfl inEnt (encGt.ld_g_I_Pages _ _ (by omega)) sc_3) rfl (by kernel_rfl) rfl ?_
    refine XQ.load (i := 7) (l' := #[true, true, true, true, true, true, true, true, false, false, false, false, false, false]) (.cells _ _ _ _) [13] rfl (by kernel_rfl) rfl (.there (.there (.there (.there (.there .here))))) (V.load rfl inEnt (cell1.ld _) sc_3) rfl (by kernel_rfl) rfl ?_
    refine XQ.pv (i := 8) (l' := #[true, true, true, true, true, true, true, true, true, false, false, false, false, false]) rfl (by kernel_rfl) rfl (V.add rfl rfl _ (IntWalk.i64_in _ (by have := hsm.2.2; show _ ≤ (s.lay (vals pre) q m).pg x.1 + m ∧ (s.lay (vals pre) q m).pg x.1 + m ≤ _; omega))) rfl rfl ?_
    refine XQ.pv (i := 9) (l' := #[true, true, true, true, true, true, true, true, true, true, false, false, false, false]) rfl (by kernel_rfl) rfl (V.nilCheckP rfl) rfl rfl ?_
    refine XQ.pv (i := 10) (l' := #[true, true, true, true, true, true, true, true, true, true, true, false, false, false]) rfl (by kernel_rfl) rfl (V.fieldAddr rfl fo_115_0) rfl rfl ?_
    refine XQ.pv (i := 11) (l' := #[true, true, true, true, true, true, true, true, true, true, true, true, false, false]) rfl (by kernel_rfl) rfl (V.indexArr rfl rfl ar_64 (by omega)) rfl rfl ?_
    refine XQ.pv (i := 12) (l' := #[true, true, true, true, true, true, true, true, true, true, true, true, true, false]) rfl (by kernel_rfl) rfl (V.fieldAddr rfl fo_63_4) rfl rfl ?_
    refine XQ.store (i := 13) (l' := #[true, true, true, true, true, true, true, true, true, true, true, true, true, true]) rfl (by kernel_rfl) rfl rfl rfl (.there (.there .here)) (encGt.st_g_I_Pages _ _ (by omega) _) rfl sz_3_1 (fun _ hw' => ⟨fun hs => (hs 13 (by simp) rfl).elim, fun hs => (hs 13 (by simp) rfl).elim, fun hs => (hs 13 (by simp) rfl).elim, trivial⟩) ?_
    refine XQ.done (by kernel_rfl) ?_
    refine XE.blockNormal ?_
    refine XE.goOn hx ?_ rfl (fun w2 hg => pathR_of (by rfl) hg .here (.there .here) (.there (.there .here))) (fun w2 hw2 => ?_)
    · skip
      simp; omega
    · skip
      have := XM.pick (.cons .here (.cons .here (.cons .here (.cons .here (.cons .here (.cons .here .nil)))))) hw2
      rw [vals_snoc, TG.lay_snoc]
      exact this
  · intro hV D hD
    refine XE.blockNormal ?_
    refine XE.markM (.inl rfl) .here rfl hD ?_
    refine XE.end0 rfl (post_of (.cons (.there (.there .here)) .nil) rfl ?_)
    refine ⟨rfl, ?_⟩
    rw [hxs]
  · intro pre hp hV D hD
    exact hV.elim
set_option maxRecDepth 10000 in
set_option maxHeartbeats 400000 in
theorem g_under (p o : Nat) (s : TG) (hO : s.Ok) (n q : Int) : Spec Try.prog 41 [ptr p o 0, .int .i64 n, .int .i64 q]
    [.cells p o 60 (encGt s)]
    (fun v H1 => v = .bool (s.under n q) ∧ H1 = [.cells p o 60 (encGt s)]) := by
  refine Spec.introM Try.func41 rfl rfl ?_
  intro W
  refine XC.seq ?_
  refine XC.region ?_
  refine XO.box (m := 1) (C := cell1 (.int .i64 q)) rfl rfl (fun _ _ => rfl) rfl ?_
  intro bq
  refine XO.allocZ (z := .bool false) (m := 1) (C := cell1 (.bool false)) (by kernel_rfl) rfl (fun _ _ => rfl) rfl ?_
  intro br
  refine XO.nil ?_
  refine XE.next ?_
  refine XC.keep [(0, _), (1, _), (5, _), (6, _)] (Sub.cons rfl (Sub.cons rfl (Sub.cons rfl (Sub.cons rfl (Sub.nil _))))) ?_
  refine XC.seq ?_
  refine XC.seq ?_
  refine XC.region ?_
  refine XO.v (V.move rfl) rfl ?_
  refine XO.v (V.move rfl) rfl ?_
  refine XO.call rfl (g_is _ _ _ _) (.cons (.there (.there .here)) .nil) cl_74 rfl ?_
  rintro _ _ (⟨h1, rfl, rfl⟩ | ⟨h1, rfl, rfl⟩)
  · skip
    obtain ⟨i0, i1, i2, i3⟩ := h1
    refine XO.v (V.nilNil rfl Try.underlying33 rfl) rfl ?_
    refine XO.nil ?_
    refine XE.next ?_
    refine XC.keep [(0, _), (1, _), (5, _), (6, _), (11, _)] (Sub.cons rfl (Sub.cons rfl (Sub.cons rfl (Sub.cons rfl (Sub.cons rfl (Sub.nil _)))))) ?_
    refine XC.condF rfl rfl ?_
    refine XC.skip ?_
    refine XE.next ?_
    refine XC.keep [(0, _), (1, _), (5, _), (6, _)] (Sub.cons rfl (Sub.cons rfl (Sub.cons rfl (Sub.cons rfl (Sub.nil _))))) ?_
    refine XC.seq ?_
    refine XC.seq ?_
    refine XC.region ?_
    have hway := hO.way i1 i2 i3
    obtain ⟨xs, hxs⟩ := lift_way _ hway.1.range
    have hlen5 : xs.length ≤ 4 := by
      have : (vals xs).length = xs.length := by simp [vals]
      rw [hxs] at this; omega
    refine XO.v (V.move rfl) rfl ?_
    refine XO.v (V.move rfl) rfl ?_
    refine XO.call rfl (g_path _ _ _) .nil cl_80 rfl ?_
    rintro _ _ ⟨b1, b2, rfl, rfl⟩
    refine XO.nil ?_
    refine XE.next ?_
    refine XC.keep [(5, _), (6, _), (14, _)] (Sub.cons rfl (Sub.cons rfl (Sub.cons rfl (Sub.nil _)))) ?_
    refine XC.block ?_
    refine XC.rangeA (xs := xs) (fun x : N10 => .int .i64 x.1) (fun pre => ∀ x ∈ pre, ¬ x.1 = q) (fun pre => ∃ x ∈ pre, x.1 = q) (fun pre => [.cells b1 0 1 (cell1 (.int .i64 n)), .cells b2 0 1 (cell1 (ptr p o 0)), .cells p o 60 (encGt s), .cells bq 0 1 (cell1 (.int .i64 q)), .cells br 0 1 (cell1 (.bool false))]) (fun pre => [.cells b1 0 1 (cell1 (.int .i64 n)), .cells b2 0 1 (cell1 (ptr p o 0)), .cells p o 60 (encGt s), .cells bq 0 1 (cell1 (.int .i64 q)), .cells br 0 1 (cell1 (.bool true))]) rfl (call_enters cl_96) rfl rfl (fun w hw => path_seq p o b1 b2 n s.par xs (by rw [hxs]; exact hway.1) w (pathR_of (by rfl) hw.good .here (.there .here) (.there (.there .here)))) ?_ (fun _ hw => XM.pick (.cons .here (.cons .here (.cons .here (.cons (.there .here) (.cons .here .nil))))) hw) (fun _ => rfl) (fun _ => rfl) ?_ ?_ ?_
    · skip
      simp
    · intro pre x w hV hlen hx
      refine XB.block ?_
      refine XB.seq ?_
      refine XB.region ?_
      refine XO.v (V.move rfl) rfl ?_
      refine XO.v (V.load rfl (inXM (.there (.there (.there .here)))) (cell1.ld _) sc_3) rfl ?_
      refine XO.v (V.cmp rfl rfl rfl) rfl ?_
      refine XO.nil ?_
      refine XE.nextB ?_
      refine XB.keep [(6, _), (18, _)] (Sub.cons rfl (Sub.cons rfl (Sub.nil _))) ?_
      refine XB.condP rfl (fun h2 => ?_) (fun h2 => ?_)
      · skip
        refine XB.seq ?_
        refine XB.region ?_
        refine XO.store rfl rfl (.there (.there (.there (.there .here)))) (cell1.st _ _) rfl sz_4_1 ?_
        refine XO.nil ?_
        refine XE.nextB ?_
        refine XB.keep [(6, _)] (Sub.cons rfl (Sub.nil _)) ?_
        refine XB.ret ?_
        refine XE.blockRet ?_
        refine XE.leave hx ?_ rfl (fun w2 hw2 => ?_)
        · skip
          exact ⟨x, by simp, by assumption⟩
        · skip
          exact XM.pick (.cons .here (.cons .here (.cons .here (.cons .here (.cons .here .nil))))) hw2
      · skip
        refine XB.skip ?_
        refine XE.blockNormal ?_
        refine XE.goOn hx ?_ rfl (fun w2 hg => pathR_of (by rfl) hg .here (.there .here) (.there (.there .here))) (fun w2 hw2 => ?_)
        · skip
          intro y hy
          rcases List.mem_append.1 hy with hy | hy
          · exact hV y hy
          · simp at hy; subst hy; assumption
        · skip
          exact XM.pick (.cons .here (.cons .here (.cons .here (.cons .here (.cons .here .nil))))) hw2
    · intro hV D hD
      have hr : s.under n q = false := by
        unfold TG.under
        rw [if_neg (by omega)]
        refine decide_eq_false fun hm => ?_
        rw [← hxs] at hm
        simp only [vals, List.mem_map] at hm
        obtain ⟨y, hy, e⟩ := hm
        exact hV y hy e
      refine XE.blockNormal ?_
      refine XE.next ?_
      refine XC.keep [(6, _)] (Sub.cons rfl (Sub.nil _)) ?_
      refine XC.seq ?_
      refine XC.region ?_
      refine XO.store rfl rfl (.there (.there (.there (.there (.there .here))))) (cell1.st _ _) rfl sz_4_1 ?_
      refine XO.nil ?_
      refine XE.next ?_
      refine XC.keep [(6, _)] (Sub.cons rfl (Sub.nil _)) ?_
      refine XC.ret ?_
      refine XE.markM (.inr rfl) .here rfl hD ?_
      refine XE.retG1 rfl (.cell rfl (.there (.there (.there (.there .here)))) (cell1.ld _) sc_4) (post_of (.cons (.there (.there .here)) .nil) rfl ?_)
      exact ⟨by rw [hr], rfl⟩
    · intro pre hp hV D hD
      have hr : s.under n q = true := by
        unfold TG.under
        rw [if_neg (by omega)]
        refine decide_eq_true ?_
        rw [← hxs]
        obtain ⟨y, hy, e⟩ := hV
        simp only [vals, List.mem_map]
        exact ⟨y, hp.subset hy, e⟩
      refine XE.blockRet ?_
      refine XE.thenRet ?_
      refine XE.markM (.inr rfl) .here rfl hD ?_
      refine XE.retG1 rfl (.cell rfl (.there (.there (.there (.there .here)))) (cell1.ld _) sc_4) (post_of (.cons (.there (.there .here)) .nil) rfl ?_)
      exact ⟨by rw [hr], rfl⟩
  · skip
    have i0 := h1
    refine XO.v (V.ifaceNil rfl Try.underlying33 rfl) rfl ?_
    refine XO.nil ?_
    refine XE.next ?_
    refine XC.keep [(0, _), (1, _), (5, _), (6, _), (11, _)] (Sub.cons rfl (Sub.cons rfl (Sub.cons rfl (Sub.cons rfl (Sub.cons rfl (Sub.nil _)))))) ?_
    refine XC.condT rfl rfl ?_
    refine XC.seq ?_
    refine XC.region ?_
    refine XO.store rfl rfl (.there .here) (cell1.st _ _) rfl sz_4_1 ?_
    refine XO.nil ?_
    refine XE.next ?_
    refine XC.keep [(6, _)] (Sub.cons rfl (Sub.nil _)) ?_
    refine XC.ret ?_
    refine XE.thenRet ?_
    refine XE.plainM (.inr rfl) ?_
    refine XE.retG1 rfl (.cell rfl (.there .here) (cell1.ld _) sc_4) (post_of (.cons .here .nil) rfl ?_)
    exact ⟨by unfold TG.under; rw [if_pos (by omega)], rfl⟩
set_option maxRecDepth 10000 in
set_option maxHeartbeats 1000000 in
theorem g_charge (p o : Nat) (s : TG) (hO : s.Ok) (n q m : Int) (Bd : Int) (hB : 0 ≤ Bd ∧ Bd ≤ 1000000000000) (hS : s.Small Bd) : Spec Try.prog 35 [ptr p o 0, .int .i64 n, .int .i64 q, .int .i64 m]
    [.cells p o 60 (encGt s)]
    (fun v H1 => v = errv 106 (s.chargeE n q m) ∧ H1 = [.cells p o 60 (encGt (s.charge n q m))]) := by
  refine Spec.introM Try.func35 rfl rfl ?_
  intro W
  refine XC.seq ?_
  refine XC.region ?_
  refine XO.box (m := 1) (C := cell1 (ptr p o 0)) rfl rfl (fun _ _ => rfl) rfl ?_
  intro bT
  refine XO.box (m := 1) (C := cell1 (.int .i64 q)) rfl rfl (fun _ _ => rfl) rfl ?_
  intro bq
  refine XO.box (m := 1) (C := cell1 (.int .i64 m)) rfl rfl (fun _ _ => rfl) rfl ?_
  intro bm
  refine XO.allocZ (z := .nilIface) (m := 1) (C := cell1 (.nilIface)) (by kernel_rfl) rfl (fun _ _ => rfl) rfl ?_
  intro be
  refine XO.nil ?_
  refine XE.next ?_
  refine XC.keep [(1, _), (4, _), (6, _), (7, _), (8, _)] (Sub.cons rfl (Sub.cons rfl (Sub.cons rfl (Sub.cons rfl (Sub.cons rfl (Sub.nil _)))))) ?_
  refine XC.seq ?_
  refine XC.region ?_
  refine XO.v (V.load rfl (inXM (.there (.there (.there .here)))) (cell1.ld _) sc_48) rfl ?_
  refine XO.v (V.move rfl) rfl ?_
  refine XO.call rfl (g_is _ _ _ _) (.cons (.there (.there (.there (.there .here)))) .nil) cl_74 rfl ?_
  rintro _ _ (⟨h1, rfl, rfl⟩ | ⟨h1, rfl, rfl⟩)
  · skip
    obtain ⟨i0, i1, i2, i3⟩ := h1
    refine XO.v (V.assign rfl) rfl ?_
    refine XO.nil ?_
    refine XE.next ?_
    refine XC.keep [(1, _), (4, _), (6, _), (7, _), (8, _), (9, _)] (Sub.cons rfl (Sub.cons rfl (Sub.cons rfl (Sub.cons rfl (Sub.cons rfl (Sub.cons rfl (Sub.nil _))))))) ?_
    refine XC.seq ?_
    refine XC.seq ?_
    refine XC.region ?_
    refine XO.v (V.move rfl) rfl ?_
    refine XO.v (V.nilNil rfl Try.underlying33 rfl) rfl ?_
    refine XO.nil ?_
    refine XE.next ?_
    refine XC.keep [(1, _), (4, _), (6, _), (7, _), (8, _), (9, _), (15, _)] (Sub.cons rfl (Sub.cons rfl (Sub.cons rfl (Sub.cons rfl (Sub.cons rfl (Sub.cons rfl (Sub.cons rfl (Sub.nil _)))))))) ?_
    refine XC.condT rfl rfl ?_
    refine XC.region ?_
    refine XO.v (V.load rfl (inXM (.there (.there (.there .here)))) (cell1.ld _) sc_3) rfl ?_
    refine XO.v (V.load rfl (inXM (.there (.there .here))) (cell1.ld _) sc_3) rfl ?_
    refine XO.call rfl (g_bounds _ _) .nil cl_79 rfl ?_
    rintro _ _ (⟨h2, rfl, rfl⟩ | ⟨h2, rfl, rfl⟩)
    · skip
      have j0 := h2
      refine XO.v (V.assign rfl) rfl ?_
      refine XO.nil ?_
      refine XE.next ?_
      refine XC.keep [(1, _), (4, _), (6, _), (7, _), (8, _), (9, _)] (Sub.cons rfl (Sub.cons rfl (Sub.cons rfl (Sub.cons rfl (Sub.cons rfl (Sub.cons rfl (Sub.nil _))))))) ?_
      refine XC.seq ?_
      refine XC.seq ?_
      refine XC.region ?_
      refine XO.v (V.move rfl) rfl ?_
      refine XO.v (V.nilNil rfl Try.underlying33 rfl) rfl ?_
      refine XO.nil ?_
      refine XE.next ?_
      refine XC.keep [(1, _), (4, _), (6, _), (7, _), (8, _), (9, _), (20, _)] (Sub.cons rfl (Sub.cons rfl (Sub.cons rfl (Sub.cons rfl (Sub.cons rfl (Sub.cons rfl (Sub.cons rfl (Sub.nil _)))))))) ?_
      refine XC.condF rfl rfl ?_
      refine XC.skip ?_
      refine XE.next ?_
      refine XC.keep [(1, _), (4, _), (6, _), (7, _), (8, _)] (Sub.cons rfl (Sub.cons rfl (Sub.cons rfl (Sub.cons rfl (Sub.cons rfl (Sub.nil _)))))) ?_
      refine XC.seq ?_
      refine XC.seq ?_
      refine XC.region ?_
      have hway := hO.way i1 i2 i3
      obtain ⟨xs, hxs⟩ := lift_way _ hway.1.range
      have hlen5 : xs.length ≤ 4 := by
        have : (vals xs).length = xs.length := by simp [vals]
        rw [hxs] at this; omega
      refine XO.v (V.load rfl (inXM (.there (.there (.there (.there .here))))) (cell1.ld _) sc_48) rfl ?_
      refine XO.v (V.move rfl) rfl ?_
      refine XO.call rfl (g_path _ _ _) .nil cl_80 rfl ?_
      rintro _ _ ⟨b1, b2, rfl, rfl⟩
      refine XO.nil ?_
      refine XE.next ?_
      refine XC.keep [(1, _), (4, _), (6, _), (7, _), (8, _), (24, _)] (Sub.cons rfl (Sub.cons rfl (Sub.cons rfl (Sub.cons rfl (Sub.cons rfl (Sub.cons rfl (Sub.nil _))))))) ?_
      refine XC.block ?_
      refine XC.rangeA (xs := xs) (fun x : N10 => .int .i64 x.1) (fun pre => ∀ x ∈ pre, s.room q m x.1 = true) (fun pre => ∃ x ∈ pre, s.room q m x.1 = false) (fun pre => [.cells b1 0 1 (cell1 (.int .i64 n)), .cells b2 0 1 (cell1 (ptr p o 0)), .cells p o 60 (encGt s), .cells bT 0 1 (cell1 (ptr p o 0)), .cells bq 0 1 (cell1 (.int .i64 q)), .cells bm 0 1 (cell1 (.int .i64 m)), .cells be 0 1 (cell1 (.nilIface))]) (fun pre => [.cells b1 0 1 (cell1 (.int .i64 n)), .cells b2 0 1 (cell1 (ptr p o 0)), .cells p o 60 (encGt s), .cells bT 0 1 (cell1 (ptr p o 0)), .cells bq 0 1 (cell1 (.int .i64 q)), .cells bm 0 1 (cell1 (.int .i64 m)), .cells be 0 1 (cell1 (.iface 106 (.int .i64 6)))]) rfl (call_enters cl_96) rfl rfl (fun w hw => path_seq p o b1 b2 n s.par xs (by rw [hxs]; exact hway.1) w (pathR_of (by rfl) hw.good .here (.there .here) (.there (.there .here)))) ?_ (fun _ hw => XM.pick (.cons .here (.cons .here (.cons .here (.cons (.there (.there (.there .here))) (.cons (.there (.there .here)) (.cons (.there .here) (.cons .here .nil))))))) hw) (fun _ => rfl) (fun _ => rfl) ?_ ?_ ?_
      · skip
        simp
      · intro pre x w hV hlen hx
        have hsm := hS x.1 x.2.1 x.2.2
        obtain ⟨x1, x2⟩ := x.2
        have hr0 : -9223372036854775808 ≤ (s.gv x.1).pr + q ∧ (s.gv x.1).pr + q ≤ 9223372036854775807 := by show _ ≤ s.pr x.1 + q ∧ s.pr x.1 + q ≤ _; omega
        have hr1 : -9223372036854775808 ≤ (s.gv x.1).pg + m ∧ (s.gv x.1).pg + m ≤ 9223372036854775807 := by show _ ≤ s.pg x.1 + m ∧ s.pg x.1 + m ≤ _; omega
        refine XB.block ?_
        refine XB.seq ?_
        refine XB.regionQ mixed (f := 10) (l := #[false, false, false, false, false, false, false, false, false, false]) rfl rfl XM.drawn' ?_
        refine XQ.load (i := 0) (l' := #[true, false, false, false, false, false, false, false, false, false]) (.cells _ _ _ _) [8] rfl (by kernel_rfl) rfl (.there (.there (.there .here))) (V.load rfl inEnt (cell1.ld _) sc_48) rfl (by kernel_rfl) rfl ?_
        refine XQ.pv (i := 1) (l' := #[true, true, false, false, false, false, false, false, false, false]) rfl (by kernel_rfl) rfl (V.move rfl) rfl rfl ?_
        refine XQ.pv (i := 2) (l' := #[true, true, true, false, false, false, false, false, false, false]) rfl (by kernel_rfl) rfl (V.nilCheckP rfl) rfl rfl ?_
        refine XQ.pv (i := 3) (l' := #[true, true, true, true, false, false, false, false, false, false]) rfl (by kernel_rfl) rfl (V.fieldAddr rfl fo_115_0) rfl rfl ?_
        refine XQ.pv (i := 4) (l' := #[true, true, true, true, true, false, false, false, false, false]) rfl (by kernel_rfl) rfl (V.indexArr rfl rfl ar_64 (by omega)) rfl rfl ?_
        refine XQ.load (i := 5) (l' := #[true, true, true, true, true, true, false, false, false, false]) (.cells _ _ _ _) [8] rfl (by kernel_rfl) rfl (.there (.there .here)) (V.loadAgg rfl inEnt (encGt_gv _ _ (by omega)) ag_63 sz_63_5) rfl (by kernel_rfl) rfl ?_
        refine XQ.load (i := 6) (l' := #[true, true, true, true, true, true, true, false, false, false]) (.cells _ _ _ _) [8] rfl (by kernel_rfl) rfl (.there (.there (.there (.there .here)))) (V.load rfl inEnt (cell1.ld _) sc_3) rfl (by kernel_rfl) rfl ?_
        refine XQ.load (i := 7) (l' := #[true, true, true, true, true, true, true, true, false, false]) (.cells _ _ _ _) [8] rfl (by kernel_rfl) rfl (.there (.there (.there (.there (.there .here))))) (V.load rfl inEnt (cell1.ld _) sc_3) rfl (by kernel_rfl) rfl ?_
        refine XQ.call (i := 8) (l' := #[true, true, true, true, true, true, true, true, true, false]) rfl (by kernel_rfl) rfl rfl (g_room _ _ _ (by assumption) (by assumption)) .nil cl_81 rfl (by rintro _ _ ⟨rfl, rfl⟩; all_goals (intro _ hw'; exact ⟨fun hs => (hs 8 (by simp) rfl).elim, fun hs => (hs 8 (by simp) rfl).elim, fun hs => (hs 8 (by simp) rfl).elim, fun hs => (hs 8 (by simp) rfl).elim, trivial⟩)) ?_
        rintro _ _ ⟨rfl, rfl⟩
        refine XQ.pv (i := 9) (l' := #[true, true, true, true, true, true, true, true, true, true]) rfl (by kernel_rfl) rfl (V.not rfl) rfl rfl ?_
        refine XQ.done (by kernel_rfl) ?_
        refine XE.nextB ?_
        refine XB.keep [(8, _), (35, _)] (Sub.cons rfl (Sub.cons rfl (Sub.nil _))) ?_
        refine XB.cond rfl (fun h3 => ?_) (fun h3 => ?_)
        · try simp only [decide_eq_true_eq, decide_eq_false_iff_not, Bool.not_eq_true', Bool.not_eq_false', Bool.not_eq_eq_eq_not, Bool.not_true, Bool.not_false, beq_iff_eq, bne_iff_ne, ne_eq, beq_eq_false_iff_ne, bne_eq_false_iff_eq, Int.not_lt, Int.not_le, gt_iff_lt, ge_iff_le, Bool.and_eq_true, Bool.or_eq_true, Bool.and_eq_false_iff, Bool.or_eq_false_iff, Decidable.not_not] at h3
          have hX := h3
          refine XB.seq ?_
          refine XB.region ?_
          refine XO.v (V.makeIface rfl Try.underlying106 (by simp)) rfl ?_
          refine XO.store rfl rfl (.there (.there (.there (.there (.there (.there .here)))))) (cell1.st _ _) rfl sz_33_1 ?_
          refine XO.nil ?_
          refine XE.nextB ?_
          refine XB.keep [(8, _)] (Sub.cons rfl (Sub.nil _)) ?_
          refine XB.ret ?_
          refine XE.blockRet ?_
          refine XE.leave hx ?_ rfl (fun w2 hw2 => ?_)
          · skip
            exact ⟨x, by simp, by simpa [TG.room] using hX⟩
          · skip
            exact XM.pick (.cons .here (.cons .here (.cons .here (.cons .here (.cons .here (.cons .here (.cons .here .nil))))))) hw2
        · try simp only [decide_eq_true_eq, decide_eq_false_iff_not, Bool.not_eq_true', Bool.not_eq_false', Bool.not_eq_eq_eq_not, Bool.not_true, Bool.not_false, beq_iff_eq, bne_iff_ne, ne_eq, beq_eq_false_iff_ne, bne_eq_false_iff_eq, Int.not_lt, Int.not_le, gt_iff_lt, ge_iff_le, Bool.and_eq_true, Bool.or_eq_true, Bool.and_eq_false_iff, Bool.or_eq_false_iff, Decidable.not_not] at h3
          have hX := h3
          refine XB.skip ?_
          refine XE.blockNormal ?_
          refine XE.goOn hx ?_ rfl (fun w2 hg => pathR_of (by rfl) hg .here (.there .here) (.there (.there .here))) (fun w2 hw2 => ?_)
          · skip
            intro y hy
            rcases List.mem_append.1 hy with hy | hy
            · exact hV y hy
            · simp at hy; subst hy; simpa [TG.room] using hX
          · skip
            exact XM.pick (.cons .here (.cons .here (.cons .here (.cons .here (.cons .here (.cons .here (.cons .here .nil))))))) hw2
      · intro hV D hD
        have hc : s.chE n q m = 0 := by unfold TG.chE; rw [if_neg (by omega)]; exact (TG.bnd_0 _ _).2 j0
        have hr : s.chargeE n q m = 0 := by
          unfold TG.chargeE
          rw [if_neg (by omega), if_pos]
          rw [← hxs]
          simp only [vals, List.all_map, List.all_eq_true]
          exact hV
        have hc2 : s.charge n q m = s.lay (s.way n) q m := by unfold TG.charge; rw [if_pos hr]
        refine XE.blockNormal ?_
        refine XE.next ?_
        refine XC.keep [(1, _), (4, _), (6, _), (7, _), (8, _)] (Sub.cons rfl (Sub.cons rfl (Sub.cons rfl (Sub.cons rfl (Sub.cons rfl (Sub.nil _)))))) ?_
        refine XC.seq ?_
        refine XC.region ?_
        refine XO.v (V.load rfl (inXM (.there (.there (.there (.there .here))))) (cell1.ld _) sc_48) rfl ?_
        refine XO.v (V.move rfl) rfl ?_
        refine XO.v (V.load rfl (inXM (.there (.there (.there (.there (.there .here)))))) (cell1.ld _) sc_3) rfl ?_
        refine XO.v (V.load rfl (inXM (.there (.there (.there (.there (.there (.there .here))))))) (cell1.ld _) sc_3) rfl ?_
        refine XO.call rfl (g_add _ _ s hO _ (by first | assumption | exact ⟨by omega, by omega, by assumption⟩) _ _ (by omega) (by omega) Bd hB hS) (.cons (.there (.there (.there .here))) .nil) cl_82 rfl ?_
        rintro _ _ ⟨rfl, rfl⟩
        refine XO.nil ?_
        refine XE.next ?_
        refine XC.keep [(8, _)] (Sub.cons rfl (Sub.nil _)) ?_
        refine XC.seq ?_
        refine XC.region ?_
        refine XO.store rfl rfl (.there (.there (.there (.there (.there (.there (.there .here))))))) (cell1.st _ _) rfl sz_33_1 ?_
        refine XO.nil ?_
        refine XE.next ?_
        refine XC.keep [(8, _)] (Sub.cons rfl (Sub.nil _)) ?_
        refine XC.ret ?_
        refine XE.markM (.inr rfl) (.there .here) rfl hD ?_
        refine XE.retG1 rfl (.cell rfl (.there (.there (.there (.there (.there (.there .here)))))) (cell1.ld _) sc_33) (post_of (.cons .here .nil) rfl ?_)
        exact ⟨by rw [hr]; rfl, by rw [hc2]⟩
      · intro pre hp hV D hD
        have hc : s.chE n q m = 0 := by unfold TG.chE; rw [if_neg (by omega)]; exact (TG.bnd_0 _ _).2 j0
        have hr : s.chargeE n q m = 6 := by
          unfold TG.chargeE
          rw [if_neg (by omega), if_neg]
          rw [← hxs]
          simp only [vals, List.all_map, List.all_eq_true]
          obtain ⟨y, hy, e⟩ := hV
          intro h
          have := h y (hp.subset hy)
          simp only [Function.comp] at this
          rw [e] at this; cases this
        have hc2 : s.charge n q m = s := by unfold TG.charge; rw [if_neg (by omega)]
        refine XE.blockRet ?_
        refine XE.thenRet ?_
        refine XE.markM (.inr rfl) .here rfl hD ?_
        refine XE.retG1 rfl (.cell rfl (.there (.there (.there (.there (.there (.there .here)))))) (cell1.ld _) sc_33) (post_of (.cons (.there (.there .here)) .nil) rfl ?_)
        exact ⟨by rw [hr]; rfl, by rw [hc2]⟩
    · skip
      have j1 := h2
      refine XO.v (V.assign rfl) rfl ?_
      refine XO.nil ?_
      refine XE.next ?_
      refine XC.keep [(1, _), (4, _), (6, _), (7, _), (8, _), (9, _)] (Sub.cons rfl (Sub.cons rfl (Sub.cons rfl (Sub.cons rfl (Sub.cons rfl (Sub.cons rfl (Sub.nil _))))))) ?_
      refine XC.seq ?_
      refine XC.seq ?_
      refine XC.region ?_
      refine XO.v (V.move rfl) rfl ?_
      refine XO.v (V.ifaceNil rfl Try.underlying33 rfl) rfl ?_
      refine XO.nil ?_
      refine XE.next ?_
      refine XC.keep [(1, _), (4, _), (6, _), (7, _), (8, _), (9, _), (20, _)] (Sub.cons rfl (Sub.cons rfl (Sub.cons rfl (Sub.cons rfl (Sub.cons rfl (Sub.cons rfl (Sub.cons rfl (Sub.nil _)))))))) ?_
      refine XC.condT rfl rfl ?_
      refine XC.seq ?_
      refine XC.region ?_
      refine XO.v (V.move rfl) rfl ?_
      refine XO.store rfl rfl (.there .here) (cell1.st _ _) rfl sz_33_1 ?_
      refine XO.nil ?_
      refine XE.next ?_
      refine XC.keep [(8, _)] (Sub.cons rfl (Sub.nil _)) ?_
      refine XC.ret ?_
      refine XE.thenRet ?_
      refine XE.plainM (.inr rfl) ?_
      refine XE.retG1 rfl (.cell rfl (.there .here) (cell1.ld _) sc_33) (post_of (.cons .here .nil) rfl ?_)
      first
      | (have hc : s.chE n q m = s.isE n := by unfold TG.chE; rw [if_pos (by assumption)]
         have hr : s.chargeE n q m = s.isE n := by unfold TG.chargeE; rw [if_pos (by omega), hc]
         exact ⟨by rw [hr, errv_pos _ (by assumption)], by unfold TG.charge; rw [if_neg (by omega)]⟩)
      | (have hc : s.chE n q m = 1 := by unfold TG.chE; rw [if_neg (by omega)]; exact j1
         have hr : s.chargeE n q m = 1 := by unfold TG.chargeE; rw [if_pos (by omega), hc]
         exact ⟨by rw [hr]; rfl, by unfold TG.charge; rw [if_neg (by omega)]⟩)
  · skip
    have i0 := h1
    refine XO.v (V.assign rfl) rfl ?_
    refine XO.nil ?_
    refine XE.next ?_
    refine XC.keep [(1, _), (4, _), (6, _), (7, _), (8, _), (9, _)] (Sub.cons rfl (Sub.cons rfl (Sub.cons rfl (Sub.cons rfl (Sub.cons rfl (Sub.cons rfl (Sub.nil _))))))) ?_
    refine XC.seq ?_
    refine XC.seq ?_
    refine XC.region ?_
    refine XO.v (V.move rfl) rfl ?_
    refine XO.v (V.ifaceNil rfl Try.underlying33 rfl) rfl ?_
    refine XO.nil ?_
    refine XE.next ?_
    refine XC.keep [(1, _), (4, _), (6, _), (7, _), (8, _), (9, _), (15, _)] (Sub.cons rfl (Sub.cons rfl (Sub.cons rfl (Sub.cons rfl (Sub.cons rfl (Sub.cons rfl (Sub.cons rfl (Sub.nil _)))))))) ?_
    refine XC.condF rfl rfl ?_
    refine XC.skip ?_
    refine XE.next ?_
    refine XC.keep [(1, _), (4, _), (6, _), (7, _), (8, _), (9, _)] (Sub.cons rfl (Sub.cons rfl (Sub.cons rfl (Sub.cons rfl (Sub.cons rfl (Sub.cons rfl (Sub.nil _))))))) ?_
    refine XC.seq ?_
    refine XC.seq ?_
    refine XC.region ?_
    refine XO.v (V.move rfl) rfl ?_
    refine XO.v (V.ifaceNil rfl Try.underlying33 rfl) rfl ?_
    refine XO.nil ?_
    refine XE.next ?_
    refine XC.keep [(1, _), (4, _), (6, _), (7, _), (8, _), (9, _), (20, _)] (Sub.cons rfl (Sub.cons rfl (Sub.cons rfl (Sub.cons rfl (Sub.cons rfl (Sub.cons rfl (Sub.cons rfl (Sub.nil _)))))))) ?_
    refine XC.condT rfl rfl ?_
    refine XC.seq ?_
    refine XC.region ?_
    refine XO.v (V.move rfl) rfl ?_
    refine XO.store rfl rfl (.there .here) (cell1.st _ _) rfl sz_33_1 ?_
    refine XO.nil ?_
    refine XE.next ?_
    refine XC.keep [(8, _)] (Sub.cons rfl (Sub.nil _)) ?_
    refine XC.ret ?_
    refine XE.thenRet ?_
    refine XE.plainM (.inr rfl) ?_
    refine XE.retG1 rfl (.cell rfl (.there .here) (cell1.ld _) sc_33) (post_of (.cons .here .nil) rfl ?_)
    first
    | (have hc : s.chE n q m = s.isE n := by unfold TG.chE; rw [if_pos (by assumption)]
       have hr : s.chargeE n q m = s.isE n := by unfold TG.chargeE; rw [if_pos (by omega), hc]
       exact ⟨by rw [hr, errv_pos _ (by assumption)], by unfold TG.charge; rw [if_neg (by omega)]⟩)
    | (have hc : s.chE n q m = 1 := by unfold TG.chE; rw [if_neg (by omega)]; exact j1
       have hr : s.chargeE n q m = 1 := by unfold TG.chargeE; rw [if_pos (by omega), hc]
       exact ⟨by rw [hr]; rfl, by unfold TG.charge; rw [if_neg (by omega)]⟩)
end Go.X
