import Derived.Test.YtojlnbjpiccliaaGW2
namespace Go.X
open Go Go.Proofs
theorem ag_113 : aggT Try.prog 113 = true := by kernel_rfl
theorem cl_35 : callable Try.prog 35 = true := by kernel_rfl
theorem cl_37 : callable Try.prog 37 = true := by kernel_rfl
theorem cl_85 : callable Try.prog 85 = true := by kernel_rfl
theorem sz_113_10 : szOf Try.prog 113 = some 10 := by kernel_rfl
set_option maxRecDepth 10000 in
set_option maxHeartbeats 1000000 in
theorem g_lacks (p o : Nat) (s : TG) (hO : s.Ok) (n q m : Int) (Bd : Int) (hB : 0 ≤ Bd ∧ Bd ≤ 1000000000000) (hS : s.Small Bd) : Spec Try.prog 39 [ptr p o 0, .int .i64 n, .int .i64 q, .int .i64 m]
    [.cells p o 60 (encGt s)]
    (fun v H1 => v = .tuple #[.int .i64 ((s.lacks n q m).getD 0), .bool (s.lacks n q m).isSome] ∧ H1 = [.cells p o 60 (encGt s)]) := by
  refine Spec.introM Try.func39 rfl rfl ?_
  intro W
  refine XC.seq ?_
  refine XC.region ?_
  refine XO.box (m := 1) (C := cell1 (ptr p o 0)) rfl rfl (fun _ _ => rfl) rfl ?_
  intro bT
  refine XO.box (m := 1) (C := cell1 (.int .i64 q)) rfl rfl (fun _ _ => rfl) rfl ?_
  intro bq
  refine XO.box (m := 1) (C := cell1 (.int .i64 m)) rfl rfl (fun _ _ => rfl) rfl ?_
  intro bm
  refine XO.allocZ (z := .int .i64 0) (m := 1) (C := cell1 (.int .i64 0)) (by kernel_rfl) rfl (fun _ _ => rfl) rfl ?_
  intro br
  refine XO.allocZ (z := .bool false) (m := 1) (C := cell1 (.bool false)) (by kernel_rfl) rfl (fun _ _ => rfl) rfl ?_
  intro bo
  refine XO.nil ?_
  refine XE.next ?_
  refine XC.keep [(1, _), (4, _), (6, _), (7, _), (8, _), (9, _)] (Sub.cons rfl (Sub.cons rfl (Sub.cons rfl (Sub.cons rfl (Sub.cons rfl (Sub.cons rfl (Sub.nil _))))))) ?_
  refine XC.seq ?_
  refine XC.seq ?_
  refine XC.region ?_
  refine XO.v (V.load rfl (inXM (.there (.there (.there (.there .here))))) (cell1.ld _) sc_48) rfl ?_
  refine XO.v (V.move rfl) rfl ?_
  refine XO.call rfl (g_is _ _ _ _) (.cons (.there (.there (.there (.there (.there .here))))) .nil) cl_74 rfl ?_
  rintro _ _ (⟨h1, rfl, rfl⟩ | ⟨h1, rfl, rfl⟩)
  · skip
    obtain ⟨i0, i1, i2, i3⟩ := h1
    refine XO.v (V.nilNil rfl Try.underlying33 rfl) rfl ?_
    refine XO.v (V.move rfl) rfl ?_
    refine XO.guardRun rfl rfl rfl ?_
    refine XO.v (V.load rfl (inXM (.there (.there (.there (.there .here))))) (cell1.ld _) sc_3) rfl ?_
    refine XO.guardRun rfl rfl rfl ?_
    refine XO.v (V.load rfl (inXM (.there (.there (.there .here)))) (cell1.ld _) sc_3) rfl ?_
    refine XO.guardRun rfl rfl rfl ?_
    refine XO.call rfl (g_bounds _ _) .nil cl_79 rfl ?_
    rintro _ _ (⟨h2, rfl, rfl⟩ | ⟨h2, rfl, rfl⟩)
    · skip
      have j0 := h2
      refine XO.guardRun rfl rfl rfl ?_
      refine XO.v (V.nilNil rfl Try.underlying33 rfl) rfl ?_
      refine XO.v (V.pick rfl rfl rfl rfl) rfl ?_
      refine XO.nil ?_
      refine XE.next ?_
      refine XC.keep [(1, _), (4, _), (6, _), (7, _), (8, _), (9, _), (20, _)] (Sub.cons rfl (Sub.cons rfl (Sub.cons rfl (Sub.cons rfl (Sub.cons rfl (Sub.cons rfl (Sub.cons rfl (Sub.nil _)))))))) ?_
      refine XC.condF rfl rfl ?_
      refine XC.skip ?_
      refine XE.next ?_
      refine XC.keep [(1, _), (4, _), (6, _), (7, _), (8, _), (9, _)] (Sub.cons rfl (Sub.cons rfl (Sub.cons rfl (Sub.cons rfl (Sub.cons rfl (Sub.cons rfl (Sub.nil _))))))) ?_
      refine XC.seq ?_
      refine XC.seq ?_
      refine XC.region ?_
      have hway := hO.way i1 i2 i3
      obtain ⟨xs, hxs⟩ := lift_way _ hway.1.range
      have hlen5 : xs.length ≤ 4 := by
        have : (vals xs).length = xs.length := by simp [vals]
        rw [hxs] at this; omega
      refine XO.v (V.load rfl (inXM (.there (.there (.there (.there (.there .here)))))) (cell1.ld _) sc_48) rfl ?_
      refine XO.v (V.move rfl) rfl ?_
      refine XO.call rfl (g_path _ _ _) .nil cl_80 rfl ?_
      rintro _ _ ⟨b1, b2, rfl, rfl⟩
      refine XO.nil ?_
      refine XE.next ?_
      refine XC.keep [(4, _), (6, _), (7, _), (8, _), (9, _), (23, _)] (Sub.cons rfl (Sub.cons rfl (Sub.cons rfl (Sub.cons rfl (Sub.cons rfl (Sub.cons rfl (Sub.nil _))))))) ?_
      refine XC.block ?_
      refine XC.rangeA (xs := xs) (fun x : N10 => .int .i64 x.1) (fun pre => ∀ x ∈ pre, s.room q m x.1 = true) (fun pre => ∃ l x, pre = l ++ [x] ∧ (∀ y ∈ l, s.room q m y.1 = true) ∧ s.room q m x.1 = false) (fun pre => [.cells b1 0 1 (cell1 (.int .i64 n)), .cells b2 0 1 (cell1 (ptr p o 0)), .cells p o 60 (encGt s), .cells bT 0 1 (cell1 (ptr p o 0)), .cells bq 0 1 (cell1 (.int .i64 q)), .cells bm 0 1 (cell1 (.int .i64 m)), .cells br 0 1 (cell1 (.int .i64 0)), .cells bo 0 1 (cell1 (.bool false))]) (fun pre => [.cells b1 0 1 (cell1 (.int .i64 n)), .cells b2 0 1 (cell1 (ptr p o 0)), .cells p o 60 (encGt s), .cells bT 0 1 (cell1 (ptr p o 0)), .cells bq 0 1 (cell1 (.int .i64 q)), .cells bm 0 1 (cell1 (.int .i64 m)), .cells br 0 1 (cell1 (.int .i64 ((vals pre).getLast?.getD 0))), .cells bo 0 1 (cell1 (.bool true))]) rfl (call_enters cl_96) rfl rfl (fun w hw => path_seq p o b1 b2 n s.par xs (by rw [hxs]; exact hway.1) w (pathR_of (by rfl) hw.good .here (.there .here) (.there (.there .here)))) ?_ (fun _ hw => XM.pick (.cons .here (.cons .here (.cons .here (.cons (.there (.there (.there (.there .here)))) (.cons (.there (.there (.there .here))) (.cons (.there (.there .here)) (.cons (.there .here) (.cons .here .nil)))))))) hw) (fun _ => rfl) (fun _ => rfl) ?_ ?_ ?_
      · skip
        simp
      · intro pre x w hV hlen hx
        have hsm := hS x.1 x.2.1 x.2.2
        obtain ⟨x1, x2⟩ := x.2
        have hr0 : -9223372036854775808 ≤ (s.gv x.1).pr + q ∧ (s.gv x.1).pr + q ≤ 9223372036854775807 := by show _ ≤ s.pr x.1 + q ∧ s.pr x.1 + q ≤ _; omega
        have hr1 : -9223372036854775808 ≤ (s.gv x.1).pg + m ∧ (s.gv x.1).pg + m ≤ 9223372036854775807 := by show _ ≤ s.pg x.1 + m ∧ s.pg x.1 + m ≤ _; omega
        refine XB.block ?_
        refine XB.seq ?_
        refine XB.regionQ mixed (f := 10) (l := #[false, false, false, false, false, false, false, false, false, false]) rfl rfl XM.drawn' ?_
        refine XQ.load (i := 0) (l' := #[true, false, false, false, false, false, false, false, false, false]) (.cells _ _ _ _) [8] rfl (by kernel_rfl) rfl (.there (.there (.there .here))) (V.load rfl inEnt (cell1.ld _) sc_48) rfl (by kernel_rfl) rfl ?_
        refine XQ.pv (i := 1) (l' := #[true, true, false, false, false, false, false, false, false, false]) rfl (by kernel_rfl) rfl (V.move rfl) rfl rfl ?_
        refine XQ.pv (i := 2) (l' := #[true, true, true, false, false, false, false, false, false, false]) rfl (by kernel_rfl) rfl (V.nilCheckP rfl) rfl rfl ?_
        refine XQ.pv (i := 3) (l' := #[true, true, true, true, false, false, false, false, false, false]) rfl (by kernel_rfl) rfl (V.fieldAddr rfl fo_115_0) rfl rfl ?_
        refine XQ.pv (i := 4) (l' := #[true, true, true, true, true, false, false, false, false, false]) rfl (by kernel_rfl) rfl (V.indexArr rfl rfl ar_64 (by omega)) rfl rfl ?_
        refine XQ.load (i := 5) (l' := #[true, true, true, true, true, true, false, false, false, false]) (.cells _ _ _ _) [8] rfl (by kernel_rfl) rfl (.there (.there .here)) (V.loadAgg rfl inEnt (encGt_gv _ _ (by omega)) ag_63 sz_63_5) rfl (by kernel_rfl) rfl ?_
        refine XQ.load (i := 6) (l' := #[true, true, true, true, true, true, true, false, false, false]) (.cells _ _ _ _) [8] rfl (by kernel_rfl) rfl (.there (.there (.there (.there .here)))) (V.load rfl inEnt (cell1.ld _) sc_3) rfl (by kernel_rfl) rfl ?_
        refine XQ.load (i := 7) (l' := #[true, true, true, true, true, true, true, true, false, false]) (.cells _ _ _ _) [8] rfl (by kernel_rfl) rfl (.there (.there (.there (.there (.there .here))))) (V.load rfl inEnt (cell1.ld _) sc_3) rfl (by kernel_rfl) rfl ?_
        refine XQ.call (i := 8) (l' := #[true, true, true, true, true, true, true, true, true, false]) rfl (by kernel_rfl) rfl rfl (g_room _ _ _ (by assumption) (by assumption)) .nil cl_81 rfl (by rintro _ _ ⟨rfl, rfl⟩; all_goals (intro _ hw'; exact ⟨fun hs => (hs 8 (by simp) rfl).elim, fun hs => (hs 8 (by simp) rfl).elim, fun hs => (hs 8 (by simp) rfl).elim, fun hs => (hs 8 (by simp) rfl).elim, trivial⟩)) ?_
        rintro _ _ ⟨rfl, rfl⟩
        refine XQ.pv (i := 9) (l' := #[true, true, true, true, true, true, true, true, true, true]) rfl (by kernel_rfl) rfl (V.not rfl) rfl rfl ?_
        refine XQ.done (by kernel_rfl) ?_
        refine XE.nextB ?_
        refine XB.keep [(8, _), (9, _), (10, _), (34, _)] (Sub.cons rfl (Sub.cons rfl (Sub.cons rfl (Sub.cons rfl (Sub.nil _))))) ?_
        refine XB.cond rfl (fun h3 => ?_) (fun h3 => ?_)
        · try simp only [decide_eq_true_eq, decide_eq_false_iff_not, Bool.not_eq_true', Bool.not_eq_false', Bool.not_eq_eq_eq_not, Bool.not_true, Bool.not_false, beq_iff_eq, bne_iff_ne, ne_eq, beq_eq_false_iff_ne, bne_eq_false_iff_eq, Int.not_lt, Int.not_le, gt_iff_lt, ge_iff_le, Bool.and_eq_true, Bool.or_eq_true, Bool.and_eq_false_iff, Bool.or_eq_false_iff, Decidable.not_not] at h3
          have hX := h3
          refine XB.seq ?_
          refine XB.region ?_
          refine XO.v (V.move rfl) rfl ?_
          refine XO.store rfl rfl (.there (.there (.there (.there (.there (.there .here)))))) (cell1.st _ _) rfl sz_3_1 ?_
          refine XO.store rfl rfl (.there (.there (.there (.there (.there (.there (.there .here))))))) (cell1.st _ _) rfl sz_4_1 ?_
          refine XO.nil ?_
          refine XE.nextB ?_
          refine XB.keep [(8, _), (9, _)] (Sub.cons rfl (Sub.cons rfl (Sub.nil _))) ?_
          refine XB.ret ?_
          refine XE.blockRet ?_
          refine XE.leave hx ?_ rfl (fun w2 hw2 => ?_)
          · skip
            exact ⟨pre, x, rfl, hV, by simpa [TG.room] using hX⟩
          · skip
            have := XM.pick (.cons .here (.cons .here (.cons .here (.cons .here (.cons .here (.cons .here (.cons .here (.cons .here .nil)))))))) hw2
            have e : (vals (pre ++ [x])).getLast?.getD 0 = x.1 := by rw [vals_snoc]; simp
            rw [e]; exact this
        · try simp only [decide_eq_true_eq, decide_eq_false_iff_not, Bool.not_eq_true', Bool.not_eq_false', Bool.not_eq_eq_eq_not, Bool.not_true, Bool.not_false, beq_iff_eq, bne_iff_ne, ne_eq, beq_eq_false_iff_ne, bne_eq_false_iff_eq, Int.not_lt, Int.not_le, gt_iff_lt, ge_iff_le, Bool.and_eq_true, Bool.or_eq_true, Bool.and_eq_false_iff, Bool.or_eq_false_iff, Decidable.not_not] at h3
          have hX := h3
          refine XB.skip ?_
          refine XE.blockNormal ?_
          refine XE.goOn hx ?_ rfl (fun w2 hg => pathR_of (by rfl) hg .here (.there .here) (.there (.there .here))) (fun w2 hw2 => ?_)
          · skip
            intro y hy
            rcases List.mem_append.1 hy with hy | hy
            · exact hV y hy
            · simp at hy; subst hy; simpa [TG.room] using hX
          · skip
            exact XM.pick (.cons .here (.cons .here (.cons .here (.cons .here (.cons .here (.cons .here (.cons .here (.cons .here .nil)))))))) hw2
      · intro hV D hD
        have hc : s.chE n q m = 0 := by unfold TG.chE; rw [if_neg (by omega)]; exact (TG.bnd_0 _ _).2 j0
        have hr : s.lacks n q m = none := by
          unfold TG.lacks
          rw [if_neg (by omega), ← hxs]
          rw [List.find?_eq_none]
          intro y hy
          simp only [vals, List.mem_map] at hy
          obtain ⟨y, hy, rfl⟩ := hy
          have := hV y hy
          simp [this]
        refine XE.blockNormal ?_
        refine XE.next ?_
        refine XC.keep [(8, _), (9, _)] (Sub.cons rfl (Sub.cons rfl (Sub.nil _))) ?_
        refine XC.seq ?_
        refine XC.region ?_
        refine XO.store rfl rfl (.there (.there (.there (.there (.there (.there (.there .here))))))) (cell1.st _ _) rfl sz_3_1 ?_
        refine XO.store rfl rfl (.there (.there (.there (.there (.there (.there (.there (.there .here)))))))) (cell1.st _ _) rfl sz_4_1 ?_
        refine XO.nil ?_
        refine XE.next ?_
        refine XC.keep [(8, _), (9, _)] (Sub.cons rfl (Sub.cons rfl (Sub.nil _))) ?_
        refine XC.ret ?_
        refine XE.markM (.inr rfl) .here rfl hD ?_
        refine XE.retG2 rfl (.cell rfl (.there (.there (.there (.there (.there (.there .here)))))) (cell1.ld _) sc_3) (.cell rfl (.there (.there (.there (.there (.there (.there (.there .here))))))) (cell1.ld _) sc_4) (post_of (.cons (.there (.there .here)) .nil) rfl ?_)
        exact ⟨by rw [hr]; rfl, rfl⟩
      · intro pre hp hV D hD
        have hc : s.chE n q m = 0 := by unfold TG.chE; rw [if_neg (by omega)]; exact (TG.bnd_0 _ _).2 j0
        have hr : s.lacks n q m = some ((vals pre).getLast?.getD 0) := by
          unfold TG.lacks
          rw [if_neg (by omega), ← hxs]
          obtain ⟨l, x, rfl, h1, h2⟩ := hV
          obtain ⟨r, rfl⟩ := hp
          have e : (vals (l ++ [x])).getLast?.getD 0 = x.1 := by rw [vals_snoc]; simp
          rw [e]
          simp only [vals, List.map_append, List.map_cons, List.map_nil, List.append_assoc, List.find?_append]
          have e2 : List.find? (fun x => !s.room q m x) (l.map (·.1)) = none := by
            rw [List.find?_eq_none]
            intro y hy
            simp only [List.mem_map] at hy
            obtain ⟨y, hy, rfl⟩ := hy
            simp [h1 y hy]
          rw [e2]
          simp [h2]
        refine XE.blockRet ?_
        refine XE.thenRet ?_
        refine XE.markM (.inr rfl) .here rfl hD ?_
        refine XE.retG2 rfl (.cell rfl (.there (.there (.there (.there (.there (.there .here)))))) (cell1.ld _) sc_3) (.cell rfl (.there (.there (.there (.there (.there (.there (.there .here))))))) (cell1.ld _) sc_4) (post_of (.cons (.there (.there .here)) .nil) rfl ?_)
        exact ⟨by rw [hr]; rfl, rfl⟩
    · skip
      have j1 := h2
      refine XO.guardRun rfl rfl rfl ?_
      refine XO.v (V.ifaceNil rfl Try.underlying33 rfl) rfl ?_
      refine XO.v (V.pick rfl rfl rfl rfl) rfl ?_
      refine XO.nil ?_
      refine XE.next ?_
      refine XC.keep [(1, _), (4, _), (6, _), (7, _), (8, _), (9, _), (20, _)] (Sub.cons rfl (Sub.cons rfl (Sub.cons rfl (Sub.cons rfl (Sub.cons rfl (Sub.cons rfl (Sub.cons rfl (Sub.nil _)))))))) ?_
      refine XC.condT rfl rfl ?_
      refine XC.seq ?_
      refine XC.region ?_
      refine XO.store rfl rfl (.there (.there .here)) (cell1.st _ _) rfl sz_3_1 ?_
      refine XO.store rfl rfl (.there .here) (cell1.st _ _) rfl sz_4_1 ?_
      refine XO.nil ?_
      refine XE.next ?_
      refine XC.keep [(8, _), (9, _)] (Sub.cons rfl (Sub.cons rfl (Sub.nil _))) ?_
      refine XC.ret ?_
      refine XE.thenRet ?_
      refine XE.plainM (.inr rfl) ?_
      refine XE.retG2 rfl (.cell rfl (.there (.there .here)) (cell1.ld _) sc_3) (.cell rfl (.there .here) (cell1.ld _) sc_4) (post_of (.cons .here .nil) rfl ?_)
      first
      | (have hc : s.chE n q m = s.isE n := by unfold TG.chE; rw [if_pos (by assumption)]
         have hr : s.lacks n q m = none := by unfold TG.lacks; rw [if_pos (by omega)]
         exact ⟨by rw [hr]; rfl, rfl⟩)
      | (have hc : s.chE n q m = 1 := by unfold TG.chE; rw [if_neg (by omega)]; exact j1
         have hr : s.lacks n q m = none := by unfold TG.lacks; rw [if_pos (by omega)]
         exact ⟨by rw [hr]; rfl, rfl⟩)
  · skip
    have i0 := h1
    refine XO.v (V.ifaceNil rfl Try.underlying33 rfl) rfl ?_
    refine XO.v (V.move rfl) rfl ?_
    refine XO.guardSkip rfl rfl rfl rfl rfl ?_
    refine XO.guardSkip rfl rfl rfl rfl rfl ?_
    refine XO.guardSkip rfl rfl rfl rfl rfl ?_
    refine XO.guardSkip rfl rfl rfl rfl rfl ?_
    refine XO.v (V.pick rfl rfl rfl rfl) rfl ?_
    refine XO.nil ?_
    refine XE.next ?_
    refine XC.keep [(1, _), (4, _), (6, _), (7, _), (8, _), (9, _), (20, _)] (Sub.cons rfl (Sub.cons rfl (Sub.cons rfl (Sub.cons rfl (Sub.cons rfl (Sub.cons rfl (Sub.cons rfl (Sub.nil _)))))))) ?_
    refine XC.condT rfl rfl ?_
    refine XC.seq ?_
    refine XC.region ?_
    refine XO.store rfl rfl (.there (.there .here)) (cell1.st _ _) rfl sz_3_1 ?_
    refine XO.store rfl rfl (.there .here) (cell1.st _ _) rfl sz_4_1 ?_
    refine XO.nil ?_
    refine XE.next ?_
    refine XC.keep [(8, _), (9, _)] (Sub.cons rfl (Sub.cons rfl (Sub.nil _))) ?_
    refine XC.ret ?_
    refine XE.thenRet ?_
    refine XE.plainM (.inr rfl) ?_
    refine XE.retG2 rfl (.cell rfl (.there (.there .here)) (cell1.ld _) sc_3) (.cell rfl (.there .here) (cell1.ld _) sc_4) (post_of (.cons .here .nil) rfl ?_)
    first
    | (have hc : s.chE n q m = s.isE n := by unfold TG.chE; rw [if_pos (by assumption)]
       have hr : s.lacks n q m = none := by unfold TG.lacks; rw [if_pos (by omega)]
       exact ⟨by rw [hr]; rfl, rfl⟩)
    | (have hc : s.chE n q m = 1 := by unfold TG.chE; rw [if_neg (by omega)]; exact j1
       have hr : s.lacks n q m = none := by unfold TG.lacks; rw [if_pos (by omega)]
       exact ⟨by rw [hr]; rfl, rfl⟩)
set_option maxRecDepth 10000 in
set_option maxHeartbeats 400000 in
theorem g_within (p o : Nat) (s : TG) (n : Int) (hn : 0 ≤ n ∧ n < 10) (q m : Int) (Bd : Int) (hB : 0 ≤ Bd ∧ Bd ≤ 1000000000000) (hS : s.Small Bd) : Spec Try.prog 85 [ptr p o 0, .int .i64 n, .int .i64 q, .int .i64 m]
    [.cells p o 60 (encGt s)]
    (fun v H1 => v = .bool (decide (q ≤ s.left s.pr n ∧ m ≤ s.left s.pg n)) ∧ H1 = [.cells p o 60 (encGt s)]) := by
  refine Spec.intro Try.func85 rfl rfl ?_
  intro W
  refine XC.seq ?_
  refine XC.region ?_
  refine XO.v (V.assign rfl) rfl ?_
  refine XO.nil ?_
  refine XE.next ?_
  refine XC.keep [(0, _), (1, _), (2, _), (3, _)] (Sub.cons rfl (Sub.cons rfl (Sub.cons rfl (Sub.cons rfl (Sub.nil _))))) ?_
  refine XC.seq ?_
  refine XC.regionQ mixed (f := 16) (l := #[false, false, false, false, false, false, false, false, false, false, false, false, false, false, false, false]) rfl rfl XM.drawn' ?_
  refine XQ.pv (i := 0) (l' := #[true, false, false, false, false, false, false, false, false, false, false, false, false, false, false, false]) rfl (by kernel_rfl) rfl (V.move rfl) rfl rfl ?_
  refine XQ.pv (i := 1) (l' := #[true, true, false, false, false, false, false, false, false, false, false, false, false, false, false, false]) rfl (by kernel_rfl) rfl (V.move rfl) rfl rfl ?_
  refine XQ.pv (i := 2) (l' := #[true, true, true, false, false, false, false, false, false, false, false, false, false, false, false, false]) rfl (by kernel_rfl) rfl (V.nilCheckP rfl) rfl rfl ?_
  refine XQ.pv (i := 3) (l' := #[true, true, true, true, false, false, false, false, false, false, false, false, false, false, false, false]) rfl (by kernel_rfl) rfl (V.fieldAddr rfl fo_115_0) rfl rfl ?_
  refine XQ.pv (i := 4) (l' := #[true, true, true, true, true, false, false, false, false, false, false, false, false, false, false, false]) rfl (by kernel_rfl) rfl (V.indexArr rfl rfl ar_64 (by omega)) rfl rfl ?_
  refine XQ.pv (i := 5) (l' := #[true, true, true, true, true, true, false, false, false, false, false, false, false, false, false, false]) rfl (by kernel_rfl) rfl (V.fieldAddr rfl fo_63_3) rfl rfl ?_
  refine XQ.load (i := 6) (l' := #[true, true, true, true, true, true, true, false, false, false, false, false, false, false, false, false]) (.cells _ _ _ _) [] rfl (by kernel_rfl) rfl .here (V.load rfl inEnt (encGt.ld_g_I_Procs _ _ (by omega)) sc_3) rfl (by kernel_rfl) rfl ?_
  refine XQ.pv (i := 7) (l' := #[true, true, true, true, true, true, true, true, false, false, false, false, false, false, false, false]) rfl (by kernel_rfl) rfl (V.move rfl) rfl rfl ?_
  refine XQ.pv (i := 8) (l' := #[true, true, true, true, true, true, true, true, true, false, false, false, false, false, false, false]) rfl (by kernel_rfl) rfl (V.move rfl) rfl rfl ?_
  refine XQ.pv (i := 9) (l' := #[true, true, true, true, true, true, true, true, true, true, false, false, false, false, false, false]) rfl (by kernel_rfl) rfl (V.nilCheckP rfl) rfl rfl ?_
  refine XQ.pv (i := 10) (l' := #[true, true, true, true, true, true, true, true, true, true, true, false, false, false, false, false]) rfl (by kernel_rfl) rfl (V.fieldAddr rfl fo_115_0) rfl rfl ?_
  refine XQ.pv (i := 11) (l' := #[true, true, true, true, true, true, true, true, true, true, true, true, false, false, false, false]) rfl (by kernel_rfl) rfl (V.indexArr rfl rfl ar_64 (by omega)) rfl rfl ?_
  refine XQ.pv (i := 12) (l' := #[true, true, true, true, true, true, true, true, true, true, true, true, true, false, false, false]) rfl (by kernel_rfl) rfl (V.fieldAddr rfl fo_63_4) rfl rfl ?_
  refine XQ.load (i := 13) (l' := #[true, true, true, true, true, true, true, true, true, true, true, true, true, true, false, false]) (.cells _ _ _ _) [] rfl (by kernel_rfl) rfl .here (V.load rfl inEnt (encGt.ld_g_I_Pages _ _ (by omega)) sc_3) rfl (by kernel_rfl) rfl ?_
  refine XQ.pv (i := 14) (l' := #[true, true, true, true, true, true, true, true, true, true, true, true, true, true, true, false]) rfl (by kernel_rfl) rfl (V.assign rfl) rfl rfl ?_
  refine XQ.pv (i := 15) (l' := #[true, true, true, true, true, true, true, true, true, true, true, true, true, true, true, true]) rfl (by kernel_rfl) rfl (V.assign rfl) rfl rfl ?_
  refine XQ.done (by kernel_rfl) ?_
  refine XE.next ?_
  refine XC.keep [(0, _), (1, _), (2, _), (3, _), (9, _), (10, _)] (Sub.cons rfl (Sub.cons rfl (Sub.cons rfl (Sub.cons rfl (Sub.cons rfl (Sub.cons rfl (Sub.nil _))))))) ?_
  refine XC.seq ?_
  refine XC.seq ?_
  refine XC.region ?_
  refine XO.v (V.move rfl) rfl ?_
  refine XO.v (V.nilCheckP rfl) rfl ?_
  refine XO.v (V.fieldAddr rfl fo_115_1) rfl ?_
  refine XO.v (V.loadAgg rfl (inXM .here) (encGt_here _) ag_113 sz_113_10) rfl ?_
  refine XO.v (V.move rfl) rfl ?_
  refine XO.nil ?_
  refine XE.next ?_
  refine XC.keep [(0, _), (1, _), (2, _), (3, _), (9, _), (10, _), (30, _), (31, _)] (Sub.cons rfl (Sub.cons rfl (Sub.cons rfl (Sub.cons rfl (Sub.cons rfl (Sub.cons rfl (Sub.cons rfl (Sub.cons rfl (Sub.nil _))))))))) ?_
  refine XC.block ?_
  refine XC.loop (σ := Int) (fun k => (10 - k).toNat) (fun k => 0 ≤ k ∧ k ≤ 10) (fun k => [(31, .int .i64 k), (9, .int .i64 (s.pr n - sumN (s.kid s.pr n) k.toNat)), (10, .int .i64 (s.pg n - sumN (s.kid s.pg n) k.toNat)), (0, ptr p o 0), (1, .int .i64 n), (2, .int .i64 q), (3, .int .i64 m), (30, .agg (arrB s.here 10))]) (fun k => XM W (foot [.cells p o 60 (encGt s)]) [.cells p o 60 (encGt s)]) (0) ?_ (Sub.cons rfl (Sub.cons (by rw [show s.pr n - sumN (s.kid s.pr n) (0 : Int).toNat = s.pr n from by simp [sumN]]; rfl) (Sub.cons (by rw [show s.pg n - sumN (s.kid s.pg n) (0 : Int).toNat = s.pg n from by simp [sumN]]; rfl) (Sub.cons rfl (Sub.cons rfl (Sub.cons rfl (Sub.cons rfl (Sub.cons rfl (Sub.nil _))))))))) (fun _ hw => XM.pick (.cons .here .nil) hw) ?_
  · skip
    omega
  intro k hk
  have hst1 := kid_step s s.pr n hk.1
  have hst2 := kid_step s s.pg n hk.1
  have hbd := kid_small hS hB hn (k := k) hk.1
  refine XC.seq ?_
  refine XC.region ?_
  refine XO.v (V.cmp rfl rfl rfl) rfl ?_
  refine XO.nil ?_
  refine XE.next ?_
  refine XC.keep [(0, _), (1, _), (2, _), (3, _), (9, _), (10, _), (30, _), (31, _), (32, _)] (Sub.cons rfl (Sub.cons rfl (Sub.cons rfl (Sub.cons rfl (Sub.cons rfl (Sub.cons rfl (Sub.cons rfl (Sub.cons rfl (Sub.cons rfl (Sub.nil _)))))))))) ?_
  refine XC.seq ?_
  refine XC.condP rfl (fun h1 => ?_) (fun h1 => ?_)
  · skip
    have hSn := hS n hn.1 hn.2
    have hSk := hS k hk.1 (by omega)
    refine XC.skip ?_
    refine XE.next ?_
    refine XC.keep [(0, _), (1, _), (2, _), (3, _), (9, _), (10, _), (30, _), (31, _)] (Sub.cons rfl (Sub.cons rfl (Sub.cons rfl (Sub.cons rfl (Sub.cons rfl (Sub.cons rfl (Sub.cons rfl (Sub.cons rfl (Sub.nil _))))))))) ?_
    refine XC.seq ?_
    refine XC.block ?_
    refine XC.seq ?_
    refine XC.region ?_
    refine XO.v (V.move rfl) rfl ?_
    refine XO.v (V.indexAgg rfl rfl Try.underlying113 sz_4_1 sc_4 (by omega) (arrB_at (by omega))) rfl ?_
    refine XO.v (V.assign rfl) rfl ?_
    refine XO.v (V.assign rfl) rfl ?_
    refine XO.nil ?_
    refine XE.next ?_
    refine XC.keep [(0, _), (1, _), (2, _), (3, _), (9, _), (10, _), (11, _), (12, _), (30, _), (31, _)] (Sub.cons rfl (Sub.cons rfl (Sub.cons rfl (Sub.cons rfl (Sub.cons rfl (Sub.cons rfl (Sub.cons rfl (Sub.cons rfl (Sub.cons rfl (Sub.cons rfl (Sub.nil _))))))))))) ?_
    refine XC.seq ?_
    refine XC.region ?_
    refine XO.v (V.move rfl) rfl ?_
    refine XO.v (V.move rfl) rfl ?_
    refine XO.split (d := 36) rfl (fun h2 => ?_) (fun h2 => ?_)
    · try simp only [decide_eq_true_eq, decide_eq_false_iff_not, Bool.not_eq_true', Bool.not_eq_false', Bool.not_eq_eq_eq_not, Bool.not_true, Bool.not_false, beq_iff_eq, bne_iff_ne, ne_eq, beq_eq_false_iff_ne, bne_eq_false_iff_eq, Int.not_lt, Int.not_le, gt_iff_lt, ge_iff_le, Bool.and_eq_true, Bool.or_eq_true, Bool.and_eq_false_iff, Bool.or_eq_false_iff, Decidable.not_not] at h2
      refine XO.guardRun rfl rfl rfl ?_
      refine XO.v (V.move rfl) rfl ?_
      refine XO.guardRun rfl rfl rfl ?_
      refine XO.v (V.move rfl) rfl ?_
      refine XO.guardRun rfl rfl rfl ?_
      refine XO.v (V.nilCheckP rfl) rfl ?_
      refine XO.guardRun rfl rfl rfl ?_
      refine XO.v (V.fieldAddr rfl fo_115_0) rfl ?_
      refine XO.guardRun rfl rfl rfl ?_
      refine XO.v (V.indexArr rfl rfl ar_64 (by omega)) rfl ?_
      refine XO.guardRun rfl rfl rfl ?_
      refine XO.v (V.fieldAddr rfl fo_63_0) rfl ?_
      refine XO.guardRun rfl rfl rfl ?_
      refine XO.v (V.load rfl (inXM .here) (encGt.ld_g_I_Parent _ _ (by omega)) sc_3) rfl ?_
      refine XO.guardRun rfl rfl rfl ?_
      refine XO.v (V.move rfl) rfl ?_
      refine XO.guardRun rfl rfl rfl ?_
      refine XO.v (V.cmp rfl rfl rfl) rfl ?_
      refine XO.v (V.pick rfl rfl rfl rfl) rfl ?_
      refine XO.nil ?_
      refine XE.next ?_
      refine XC.keep [(0, _), (1, _), (2, _), (3, _), (9, _), (10, _), (11, _), (30, _), (31, _), (46, _)] (Sub.cons rfl (Sub.cons rfl (Sub.cons rfl (Sub.cons rfl (Sub.cons rfl (Sub.cons rfl (Sub.cons rfl (Sub.cons rfl (Sub.cons rfl (Sub.cons rfl (Sub.nil _))))))))))) ?_
      refine XC.condP rfl (fun h3 => ?_) (fun h3 => ?_)
      · skip
        refine XC.seq ?_
        refine XC.region ?_
        refine XO.v (V.move rfl) rfl ?_
        refine XO.v (V.move rfl) rfl ?_
        refine XO.v (V.move rfl) rfl ?_
        refine XO.v (V.nilCheckP rfl) rfl ?_
        refine XO.v (V.fieldAddr rfl fo_115_0) rfl ?_
        refine XO.v (V.indexArr rfl rfl ar_64 (by omega)) rfl ?_
        refine XO.v (V.fieldAddr rfl fo_63_3) rfl ?_
        refine XO.v (V.load rfl (inXM .here) (encGt.ld_g_I_Procs _ _ (by omega)) sc_3) rfl ?_
        refine XO.v (V.sub rfl rfl _ (IntWalk.i64_in _ (by omega))) rfl ?_
        refine XO.v (V.assign rfl) rfl ?_
        refine XO.nil ?_
        refine XE.next ?_
        refine XC.keep [(0, _), (1, _), (2, _), (3, _), (9, _), (10, _), (11, _), (30, _), (31, _)] (Sub.cons rfl (Sub.cons rfl (Sub.cons rfl (Sub.cons rfl (Sub.cons rfl (Sub.cons rfl (Sub.cons rfl (Sub.cons rfl (Sub.cons rfl (Sub.nil _)))))))))) ?_
        refine XC.region ?_
        refine XO.v (V.move rfl) rfl ?_
        refine XO.v (V.move rfl) rfl ?_
        refine XO.v (V.move rfl) rfl ?_
        refine XO.v (V.nilCheckP rfl) rfl ?_
        refine XO.v (V.fieldAddr rfl fo_115_0) rfl ?_
        refine XO.v (V.indexArr rfl rfl ar_64 (by omega)) rfl ?_
        refine XO.v (V.fieldAddr rfl fo_63_4) rfl ?_
        refine XO.v (V.load rfl (inXM .here) (encGt.ld_g_I_Pages _ _ (by omega)) sc_3) rfl ?_
        refine XO.v (V.sub rfl rfl _ (IntWalk.i64_in _ (by omega))) rfl ?_
        refine XO.v (V.assign rfl) rfl ?_
        refine XO.nil ?_
        refine XE.blockNormal ?_
        refine XE.next ?_
        refine XC.keep [(0, _), (1, _), (2, _), (3, _), (9, _), (10, _), (30, _), (31, _)] (Sub.cons rfl (Sub.cons rfl (Sub.cons rfl (Sub.cons rfl (Sub.cons rfl (Sub.cons rfl (Sub.cons rfl (Sub.cons rfl (Sub.nil _))))))))) ?_
        refine XC.region ?_
        refine XO.v (V.add rfl rfl _ (IntWalk.i64_in _ (by omega))) rfl ?_
        refine XO.v (V.move rfl) rfl ?_
        refine XO.nil ?_
        refine XE.again (k + 1) ?_ ?_ (Sub.cons rfl (Sub.cons (by rw [hst1]; rw [show s.kid s.pr n k = s.pr k from by unfold TG.kid; rw [if_pos ⟨by simp_all, by simp_all⟩]]; exact eqi (by omega)) (Sub.cons (by rw [hst2]; rw [show s.kid s.pg n k = s.pg k from by unfold TG.kid; rw [if_pos ⟨by simp_all, by simp_all⟩]]; exact eqi (by omega)) (Sub.cons rfl (Sub.cons rfl (Sub.cons rfl (Sub.cons rfl (Sub.cons rfl (Sub.nil _))))))))) (fun _ hw => XM.pick (.cons .here .nil) hw)
        · skip
          (first | omega | (simp; done) | (simp; omega))
        · skip
          (first | omega | (simp; done) | (simp; omega))
      · skip
        refine XC.skip ?_
        refine XE.blockNormal ?_
        refine XE.next ?_
        refine XC.keep [(0, _), (1, _), (2, _), (3, _), (9, _), (10, _), (30, _), (31, _)] (Sub.cons rfl (Sub.cons rfl (Sub.cons rfl (Sub.cons rfl (Sub.cons rfl (Sub.cons rfl (Sub.cons rfl (Sub.cons rfl (Sub.nil _))))))))) ?_
        refine XC.region ?_
        refine XO.v (V.add rfl rfl _ (IntWalk.i64_in _ (by omega))) rfl ?_
        refine XO.v (V.move rfl) rfl ?_
        refine XO.nil ?_
        refine XE.again (k + 1) ?_ ?_ (Sub.cons rfl (Sub.cons (by rw [hst1]; rw [show s.kid s.pr n k = 0 from by unfold TG.kid; rw [if_neg (by simp_all)]]; exact eqi (by omega)) (Sub.cons (by rw [hst2]; rw [show s.kid s.pg n k = 0 from by unfold TG.kid; rw [if_neg (by simp_all)]]; exact eqi (by omega)) (Sub.cons rfl (Sub.cons rfl (Sub.cons rfl (Sub.cons rfl (Sub.cons rfl (Sub.nil _))))))))) (fun _ hw => XM.pick (.cons .here .nil) hw)
        · skip
          (first | omega | (simp; done) | (simp; omega))
        · skip
          (first | omega | (simp; done) | (simp; omega))
    · try simp only [decide_eq_true_eq, decide_eq_false_iff_not, Bool.not_eq_true', Bool.not_eq_false', Bool.not_eq_eq_eq_not, Bool.not_true, Bool.not_false, beq_iff_eq, bne_iff_ne, ne_eq, beq_eq_false_iff_ne, bne_eq_false_iff_eq, Int.not_lt, Int.not_le, gt_iff_lt, ge_iff_le, Bool.and_eq_true, Bool.or_eq_true, Bool.and_eq_false_iff, Bool.or_eq_false_iff, Decidable.not_not] at h2
      refine XO.guardSkip rfl rfl rfl rfl rfl ?_
      refine XO.guardSkip rfl rfl rfl rfl rfl ?_
      refine XO.guardSkip rfl rfl rfl rfl rfl ?_
      refine XO.guardSkip rfl rfl rfl rfl rfl ?_
      refine XO.guardSkip rfl rfl rfl rfl rfl ?_
      refine XO.guardSkip rfl rfl rfl rfl rfl ?_
      refine XO.guardSkip rfl rfl rfl rfl rfl ?_
      refine XO.guardSkip rfl rfl rfl rfl rfl ?_
      refine XO.guardSkip rfl rfl rfl rfl rfl ?_
      refine XO.v (V.pick rfl rfl rfl rfl) rfl ?_
      refine XO.nil ?_
      refine XE.next ?_
      refine XC.keep [(0, _), (1, _), (2, _), (3, _), (9, _), (10, _), (11, _), (30, _), (31, _), (46, _)] (Sub.cons rfl (Sub.cons rfl (Sub.cons rfl (Sub.cons rfl (Sub.cons rfl (Sub.cons rfl (Sub.cons rfl (Sub.cons rfl (Sub.cons rfl (Sub.cons rfl (Sub.nil _))))))))))) ?_
      refine XC.condF rfl rfl ?_
      refine XC.skip ?_
      refine XE.blockNormal ?_
      refine XE.next ?_
      refine XC.keep [(0, _), (1, _), (2, _), (3, _), (9, _), (10, _), (30, _), (31, _)] (Sub.cons rfl (Sub.cons rfl (Sub.cons rfl (Sub.cons rfl (Sub.cons rfl (Sub.cons rfl (Sub.cons rfl (Sub.cons rfl (Sub.nil _))))))))) ?_
      refine XC.region ?_
      refine XO.v (V.add rfl rfl _ (IntWalk.i64_in _ (by omega))) rfl ?_
      refine XO.v (V.move rfl) rfl ?_
      refine XO.nil ?_
      refine XE.again (k + 1) ?_ ?_ (Sub.cons rfl (Sub.cons (by rw [hst1]; rw [show s.kid s.pr n k = 0 from by unfold TG.kid; rw [if_neg (by simp_all)]]; exact eqi (by omega)) (Sub.cons (by rw [hst2]; rw [show s.kid s.pg n k = 0 from by unfold TG.kid; rw [if_neg (by simp_all)]]; exact eqi (by omega)) (Sub.cons rfl (Sub.cons rfl (Sub.cons rfl (Sub.cons rfl (Sub.cons rfl (Sub.nil _))))))))) (fun _ hw => XM.pick (.cons .here .nil) hw)
      · skip
        (first | omega | (simp; done) | (simp; omega))
      · skip
        (first | omega | (simp; done) | (simp; omega))
  · skip
    refine XC.exit ?_
    refine XE.thenExit ?_
    refine XE.thenExit ?_
    refine XE.blockExit ?_
    refine XE.next ?_
    refine XC.keep [(2, _), (3, _), (9, _), (10, _)] (Sub.cons rfl (Sub.cons rfl (Sub.cons rfl (Sub.cons rfl (Sub.nil _))))) ?_
    refine XC.seq ?_
    refine XC.region ?_
    refine XO.v (V.move rfl) rfl ?_
    refine XO.v (V.move rfl) rfl ?_
    refine XO.v (V.cmp rfl rfl rfl) rfl ?_
    refine XO.v (V.move rfl) rfl ?_
    refine XO.splitP (d := 69) rfl (fun h4 => ?_) (fun h4 => ?_)
    · skip
      refine XO.guardRun rfl rfl rfl ?_
      refine XO.v (V.move rfl) rfl ?_
      refine XO.guardRun rfl rfl rfl ?_
      refine XO.v (V.move rfl) rfl ?_
      refine XO.guardRun rfl rfl rfl ?_
      refine XO.v (V.cmp rfl rfl rfl) rfl ?_
      refine XO.v (V.pick rfl rfl rfl rfl) rfl ?_
      refine XO.v (V.assign rfl) rfl ?_
      refine XO.nil ?_
      refine XE.next ?_
      refine XC.keep [(8, _)] (Sub.cons rfl (Sub.nil _)) ?_
      refine XC.ret ?_
      refine XE.ret1 rfl rfl (post_of (.cons .here .nil) rfl ?_)
      obtain rfl : k = 10 := by omega
      refine ⟨congrArg Value.bool ?_, rfl⟩
      unfold TG.left
      rw [show (10 : Int).toNat = 10 from rfl] at *
      first
      | exact decide_eq_decide.2 (by omega)
      | exact (decide_eq_false (by omega)).symm
    · skip
      refine XO.guardSkip rfl rfl rfl rfl rfl ?_
      refine XO.guardSkip rfl rfl rfl rfl rfl ?_
      refine XO.guardSkip rfl rfl rfl rfl rfl ?_
      refine XO.v (V.pick rfl rfl rfl rfl) rfl ?_
      refine XO.v (V.assign rfl) rfl ?_
      refine XO.nil ?_
      refine XE.next ?_
      refine XC.keep [(8, _)] (Sub.cons rfl (Sub.nil _)) ?_
      refine XC.ret ?_
      refine XE.ret1 rfl rfl (post_of (.cons .here .nil) rfl ?_)
      obtain rfl : k = 10 := by omega
      refine ⟨congrArg Value.bool ?_, rfl⟩
      unfold TG.left
      rw [show (10 : Int).toNat = 10 from rfl] at *
      first
      | exact decide_eq_decide.2 (by omega)
      | exact (decide_eq_false (by omega)).symm
set_option maxRecDepth 10000 in
set_option maxHeartbeats 400000 in
theorem g_uncharge (p o : Nat) (s : TG) (hO : s.Ok) (n q m : Int) (Bd : Int) (hB : 0 ≤ Bd ∧ Bd ≤ 1000000000000) (hS : s.Small Bd) : Spec Try.prog 37 [ptr p o 0, .int .i64 n, .int .i64 q, .int .i64 m]
    [.cells p o 60 (encGt s)]
    (fun v H1 => v = errv 106 (s.unchE n q m) ∧ H1 = [.cells p o 60 (encGt (s.unch n q m))]) := by
  refine Spec.intro Try.func37 rfl rfl ?_
  intro W
  refine XC.seq ?_
  refine XC.region ?_
  refine XO.v (V.assign rfl) rfl ?_
  refine XO.nil ?_
  refine XE.next ?_
  refine XC.keep [(0, _), (1, _), (2, _), (3, _)] (Sub.cons rfl (Sub.cons rfl (Sub.cons rfl (Sub.cons rfl (Sub.nil _))))) ?_
  refine XC.seq ?_
  refine XC.region ?_
  refine XO.v (V.move rfl) rfl ?_
  refine XO.v (V.move rfl) rfl ?_
  refine XO.call rfl (g_is _ _ _ _) (.cons .here .nil) cl_74 rfl ?_
  rintro _ _ (⟨h1, rfl, rfl⟩ | ⟨h1, rfl, rfl⟩)
  · skip
    obtain ⟨i0, i1, i2, i3⟩ := h1
    refine XO.v (V.assign rfl) rfl ?_
    refine XO.nil ?_
    refine XE.next ?_
    refine XC.keep [(0, _), (1, _), (2, _), (3, _), (9, _)] (Sub.cons rfl (Sub.cons rfl (Sub.cons rfl (Sub.cons rfl (Sub.cons rfl (Sub.nil _)))))) ?_
    refine XC.seq ?_
    refine XC.seq ?_
    refine XC.region ?_
    refine XO.v (V.move rfl) rfl ?_
    refine XO.v (V.nilNil rfl Try.underlying33 rfl) rfl ?_
    refine XO.nil ?_
    refine XE.next ?_
    refine XC.keep [(0, _), (1, _), (2, _), (3, _), (9, _), (14, _)] (Sub.cons rfl (Sub.cons rfl (Sub.cons rfl (Sub.cons rfl (Sub.cons rfl (Sub.cons rfl (Sub.nil _))))))) ?_
    refine XC.condT rfl rfl ?_
    refine XC.region ?_
    refine XO.v (V.move rfl) rfl ?_
    refine XO.v (V.move rfl) rfl ?_
    refine XO.call rfl (g_bounds _ _) .nil cl_79 rfl ?_
    rintro _ _ (⟨h2, rfl, rfl⟩ | ⟨h2, rfl, rfl⟩)
    · skip
      have j0 := h2
      refine XO.v (V.assign rfl) rfl ?_
      refine XO.nil ?_
      refine XE.next ?_
      refine XC.keep [(0, _), (1, _), (2, _), (3, _), (9, _)] (Sub.cons rfl (Sub.cons rfl (Sub.cons rfl (Sub.cons rfl (Sub.cons rfl (Sub.nil _)))))) ?_
      refine XC.seq ?_
      refine XC.seq ?_
      refine XC.region ?_
      refine XO.v (V.move rfl) rfl ?_
      refine XO.v (V.nilNil rfl Try.underlying33 rfl) rfl ?_
      refine XO.nil ?_
      refine XE.next ?_
      refine XC.keep [(0, _), (1, _), (2, _), (3, _), (9, _), (19, _)] (Sub.cons rfl (Sub.cons rfl (Sub.cons rfl (Sub.cons rfl (Sub.cons rfl (Sub.cons rfl (Sub.nil _))))))) ?_
      refine XC.condF rfl rfl ?_
      refine XC.skip ?_
      refine XE.next ?_
      refine XC.keep [(0, _), (1, _), (2, _), (3, _)] (Sub.cons rfl (Sub.cons rfl (Sub.cons rfl (Sub.cons rfl (Sub.nil _))))) ?_
      refine XC.seq ?_
      refine XC.seq ?_
      refine XC.region ?_
      refine XO.v (V.move rfl) rfl ?_
      refine XO.v (V.move rfl) rfl ?_
      refine XO.v (V.move rfl) rfl ?_
      refine XO.v (V.move rfl) rfl ?_
      refine XO.call rfl (g_within _ _ s _ ⟨by omega, by omega⟩ _ _ Bd hB hS) (.cons .here .nil) cl_85 rfl ?_
      rintro _ _ ⟨rfl, rfl⟩
      refine XO.v (V.notP rfl) rfl ?_
      refine XO.nil ?_
      refine XE.next ?_
      refine XC.keep [(0, _), (1, _), (2, _), (3, _), (26, _)] (Sub.cons rfl (Sub.cons rfl (Sub.cons rfl (Sub.cons rfl (Sub.cons rfl (Sub.nil _)))))) ?_
      refine XC.condP rfl (fun h3 => ?_) (fun h3 => ?_)
      · skip
        refine XC.seq ?_
        refine XC.region ?_
        refine XO.v (V.makeIface rfl Try.underlying106 (by simp)) rfl ?_
        refine XO.v (V.assign rfl) rfl ?_
        refine XO.nil ?_
        refine XE.next ?_
        refine XC.keep [(8, _)] (Sub.cons rfl (Sub.nil _)) ?_
        refine XC.ret ?_
        refine XE.thenRet ?_
        refine XE.ret1 rfl rfl (post_of (.cons .here .nil) rfl ?_)
        have hc : s.chE n q m = 0 := by unfold TG.chE; rw [if_neg (by omega)]; exact (TG.bnd_0 _ _).2 j0
        have hr : s.unchE n q m = 8 := by unfold TG.unchE; rw [if_neg (by omega), if_neg (by simp_all)]
        exact ⟨by rw [hr]; rfl, by unfold TG.unch; rw [if_neg (by omega)]⟩
      · skip
        refine XC.skip ?_
        refine XE.next ?_
        refine XC.keep [(0, _), (1, _), (2, _), (3, _)] (Sub.cons rfl (Sub.cons rfl (Sub.cons rfl (Sub.cons rfl (Sub.nil _))))) ?_
        refine XC.seq ?_
        refine XC.region ?_
        refine XO.v (V.move rfl) rfl ?_
        refine XO.v (V.move rfl) rfl ?_
        refine XO.v (V.move rfl) rfl ?_
        refine XO.v (V.neg rfl _ (IntWalk.i64_in _ (by omega))) rfl ?_
        refine XO.v (V.move rfl) rfl ?_
        refine XO.v (V.neg rfl _ (IntWalk.i64_in _ (by omega))) rfl ?_
        refine XO.call rfl (g_add _ _ s hO _ (by first | assumption | exact ⟨by omega, by omega, by assumption⟩) _ _ (by omega) (by omega) Bd hB hS) (.cons .here .nil) cl_82 rfl ?_
        rintro _ _ ⟨rfl, rfl⟩
        refine XO.nil ?_
        refine XE.next ?_
        refine XC.keep [] (Sub.nil _) ?_
        refine XC.seq ?_
        refine XC.region ?_
        refine XO.v (V.assign rfl) rfl ?_
        refine XO.nil ?_
        refine XE.next ?_
        refine XC.keep [(8, _)] (Sub.cons rfl (Sub.nil _)) ?_
        refine XC.ret ?_
        refine XE.ret1 rfl rfl (post_of (.cons .here .nil) rfl ?_)
        have hc : s.chE n q m = 0 := by unfold TG.chE; rw [if_neg (by omega)]; exact (TG.bnd_0 _ _).2 j0
        have hr : s.unchE n q m = 0 := by unfold TG.unchE; rw [if_neg (by omega), if_pos (by simp_all)]
        exact ⟨by rw [hr]; rfl, by unfold TG.unch; rw [if_pos hr]; simp only [Int.zero_sub]⟩
    · skip
      have j1 := h2
      refine XO.v (V.assign rfl) rfl ?_
      refine XO.nil ?_
      refine XE.next ?_
      refine XC.keep [(0, _), (1, _), (2, _), (3, _), (9, _)] (Sub.cons rfl (Sub.cons rfl (Sub.cons rfl (Sub.cons rfl (Sub.cons rfl (Sub.nil _)))))) ?_
      refine XC.seq ?_
      refine XC.seq ?_
      refine XC.region ?_
      refine XO.v (V.move rfl) rfl ?_
      refine XO.v (V.ifaceNil rfl Try.underlying33 rfl) rfl ?_
      refine XO.nil ?_
      refine XE.next ?_
      refine XC.keep [(0, _), (1, _), (2, _), (3, _), (9, _), (19, _)] (Sub.cons rfl (Sub.cons rfl (Sub.cons rfl (Sub.cons rfl (Sub.cons rfl (Sub.cons rfl (Sub.nil _))))))) ?_
      refine XC.condT rfl rfl ?_
      refine XC.seq ?_
      refine XC.region ?_
      refine XO.v (V.move rfl) rfl ?_
      refine XO.v (V.assign rfl) rfl ?_
      refine XO.nil ?_
      refine XE.next ?_
      refine XC.keep [(8, _)] (Sub.cons rfl (Sub.nil _)) ?_
      refine XC.ret ?_
      refine XE.thenRet ?_
      refine XE.ret1 rfl rfl (post_of (.cons .here .nil) rfl ?_)
      first
      | (have hc : s.chE n q m = s.isE n := by unfold TG.chE; rw [if_pos (by assumption)]
         have hr : s.unchE n q m = s.isE n := by unfold TG.unchE; rw [if_pos (by omega), hc]
         exact ⟨by rw [hr, errv_pos _ (by assumption)], by unfold TG.unch; rw [if_neg (by omega)]⟩)
      | (have hc : s.chE n q m = 1 := by unfold TG.chE; rw [if_neg (by omega)]; exact j1
         have hr : s.unchE n q m = 1 := by unfold TG.unchE; rw [if_pos (by omega), hc]
         exact ⟨by rw [hr]; rfl, by unfold TG.unch; rw [if_neg (by omega)]⟩)
  · skip
    have i0 := h1
    refine XO.v (V.assign rfl) rfl ?_
    refine XO.nil ?_
    refine XE.next ?_
    refine XC.keep [(0, _), (1, _), (2, _), (3, _), (9, _)] (Sub.cons rfl (Sub.cons rfl (Sub.cons rfl (Sub.cons rfl (Sub.cons rfl (Sub.nil _)))))) ?_
    refine XC.seq ?_
    refine XC.seq ?_
    refine XC.region ?_
    refine XO.v (V.move rfl) rfl ?_
    refine XO.v (V.ifaceNil rfl Try.underlying33 rfl) rfl ?_
    refine XO.nil ?_
    refine XE.next ?_
    refine XC.keep [(0, _), (1, _), (2, _), (3, _), (9, _), (14, _)] (Sub.cons rfl (Sub.cons rfl (Sub.cons rfl (Sub.cons rfl (Sub.cons rfl (Sub.cons rfl (Sub.nil _))))))) ?_
    refine XC.condF rfl rfl ?_
    refine XC.skip ?_
    refine XE.next ?_
    refine XC.keep [(0, _), (1, _), (2, _), (3, _), (9, _)] (Sub.cons rfl (Sub.cons rfl (Sub.cons rfl (Sub.cons rfl (Sub.cons rfl (Sub.nil _)))))) ?_
    refine XC.seq ?_
    refine XC.seq ?_
    refine XC.region ?_
    refine XO.v (V.move rfl) rfl ?_
    refine XO.v (V.ifaceNil rfl Try.underlying33 rfl) rfl ?_
    refine XO.nil ?_
    refine XE.next ?_
    refine XC.keep [(0, _), (1, _), (2, _), (3, _), (9, _), (19, _)] (Sub.cons rfl (Sub.cons rfl (Sub.cons rfl (Sub.cons rfl (Sub.cons rfl (Sub.cons rfl (Sub.nil _))))))) ?_
    refine XC.condT rfl rfl ?_
    refine XC.seq ?_
    refine XC.region ?_
    refine XO.v (V.move rfl) rfl ?_
    refine XO.v (V.assign rfl) rfl ?_
    refine XO.nil ?_
    refine XE.next ?_
    refine XC.keep [(8, _)] (Sub.cons rfl (Sub.nil _)) ?_
    refine XC.ret ?_
    refine XE.thenRet ?_
    refine XE.ret1 rfl rfl (post_of (.cons .here .nil) rfl ?_)
    first
    | (have hc : s.chE n q m = s.isE n := by unfold TG.chE; rw [if_pos (by assumption)]
       have hr : s.unchE n q m = s.isE n := by unfold TG.unchE; rw [if_pos (by omega), hc]
       exact ⟨by rw [hr, errv_pos _ (by assumption)], by unfold TG.unch; rw [if_neg (by omega)]⟩)
    | (have hc : s.chE n q m = 1 := by unfold TG.chE; rw [if_neg (by omega)]; exact j1
       have hr : s.unchE n q m = 1 := by unfold TG.unchE; rw [if_pos (by omega), hc]
       exact ⟨by rw [hr]; rfl, by unfold TG.unch; rw [if_neg (by omega)]⟩)
set_option maxRecDepth 10000 in
set_option maxHeartbeats 1000000 in
theorem g_move (p o : Nat) (s : TG) (hO : s.Ok) (a b q m : Int) (Bd : Int) (hB : 0 ≤ Bd ∧ Bd ≤ 900000000000) (hS : s.Small Bd) : Spec Try.prog 43 [ptr p o 0, .int .i64 a, .int .i64 b, .int .i64 q, .int .i64 m]
    [.cells p o 60 (encGt s)]
    (fun v H1 => v = errv 106 (s.moveE a b q m) ∧ H1 = [.cells p o 60 (encGt (s.move a b q m))]) := by
  have hO2 : (s.unch a q m).Ok := hO.unch
  have hB2 : 0 ≤ Bd + 320 ∧ Bd + 320 ≤ 2000000000000 := by omega
  refine Spec.intro Try.func43 rfl rfl ?_
  intro W
  refine XC.seq ?_
  refine XC.region ?_
  refine XO.v (V.assign rfl) rfl ?_
  refine XO.nil ?_
  refine XE.next ?_
  refine XC.keep [(0, _), (1, _), (2, _), (3, _), (4, _)] (Sub.cons rfl (Sub.cons rfl (Sub.cons rfl (Sub.cons rfl (Sub.cons rfl (Sub.nil _)))))) ?_
  refine XC.seq ?_
  refine XC.region ?_
  refine XO.v (V.move rfl) rfl ?_
  refine XO.v (V.move rfl) rfl ?_
  refine XO.call rfl (g_is _ _ _ _) (.cons .here .nil) cl_74 rfl ?_
  rintro _ _ (⟨h1, rfl, rfl⟩ | ⟨h1, rfl, rfl⟩)
  · skip
    obtain ⟨i0, i1, i2, i3⟩ := h1
    refine XO.v (V.assign rfl) rfl ?_
    refine XO.nil ?_
    refine XE.next ?_
    refine XC.keep [(0, _), (1, _), (2, _), (3, _), (4, _), (11, _)] (Sub.cons rfl (Sub.cons rfl (Sub.cons rfl (Sub.cons rfl (Sub.cons rfl (Sub.cons rfl (Sub.nil _))))))) ?_
    refine XC.seq ?_
    refine XC.seq ?_
    refine XC.region ?_
    refine XO.v (V.move rfl) rfl ?_
    refine XO.v (V.nilNil rfl Try.underlying33 rfl) rfl ?_
    refine XO.nil ?_
    refine XE.next ?_
    refine XC.keep [(0, _), (1, _), (2, _), (3, _), (4, _), (11, _), (16, _)] (Sub.cons rfl (Sub.cons rfl (Sub.cons rfl (Sub.cons rfl (Sub.cons rfl (Sub.cons rfl (Sub.cons rfl (Sub.nil _)))))))) ?_
    refine XC.condF rfl rfl ?_
    refine XC.skip ?_
    refine XE.next ?_
    refine XC.keep [(0, _), (1, _), (2, _), (3, _), (4, _)] (Sub.cons rfl (Sub.cons rfl (Sub.cons rfl (Sub.cons rfl (Sub.cons rfl (Sub.nil _)))))) ?_
    refine XC.seq ?_
    refine XC.region ?_
    refine XO.v (V.move rfl) rfl ?_
    refine XO.v (V.move rfl) rfl ?_
    refine XO.v (V.move rfl) rfl ?_
    refine XO.v (V.move rfl) rfl ?_
    refine XO.call rfl (g_uncharge _ _ s hO _ _ _ Bd (by omega) hS) (.cons .here .nil) cl_37 rfl ?_
    rintro _ _ ⟨rfl, rfl⟩
    refine XO.v (V.assign rfl) rfl ?_
    refine XO.nil ?_
    refine XE.next ?_
    refine XC.keep [(0, _), (1, _), (2, _), (3, _), (4, _), (11, _)] (Sub.cons rfl (Sub.cons rfl (Sub.cons rfl (Sub.cons rfl (Sub.cons rfl (Sub.cons rfl (Sub.nil _))))))) ?_
    refine XC.seq ?_
    refine XC.seq ?_
    refine XC.region ?_
    refine XO.v (V.move rfl) rfl ?_
    refine XO.v (V.errNil rfl Try.underlying33 rfl) rfl ?_
    refine XO.nil ?_
    refine XE.next ?_
    refine XC.keep [(0, _), (1, _), (2, _), (3, _), (4, _), (11, _), (24, _)] (Sub.cons rfl (Sub.cons rfl (Sub.cons rfl (Sub.cons rfl (Sub.cons rfl (Sub.cons rfl (Sub.cons rfl (Sub.nil _)))))))) ?_
    refine XC.condP rfl (fun h2 => ?_) (fun h2 => ?_)
    · skip
      refine XC.seq ?_
      refine XC.region ?_
      refine XO.v (V.move rfl) rfl ?_
      refine XO.v (V.assign rfl) rfl ?_
      refine XO.nil ?_
      refine XE.next ?_
      refine XC.keep [(10, _)] (Sub.cons rfl (Sub.nil _)) ?_
      refine XC.ret ?_
      refine XE.thenRet ?_
      refine XE.ret1 rfl rfl (post_of (.cons .here .nil) rfl ?_)
      exact ⟨by unfold TG.moveE; rw [if_neg (by omega), if_pos (by assumption)], by rw [show s.unch a q m = s from by unfold TG.unch; rw [if_neg (by assumption)], show s.move a b q m = s from by unfold TG.move; rw [if_pos (Or.inr (by assumption))]]⟩
    · skip
      have hS2 : (s.unch a q m).Small (Bd + 320) := hS.unch hO a q m
      obtain ⟨⟨a1, a2, a3⟩, q1, q2, m1, m2⟩ := TG.unchE_0 (by omega : s.unchE a q m = 0)
      have hu : s.unch a q m = s.lay (s.way a) (-q) (-m) := by unfold TG.unch; rw [if_pos (by omega)]
      refine XC.skip ?_
      refine XE.next ?_
      refine XC.keep [(0, _), (1, _), (2, _), (3, _), (4, _)] (Sub.cons rfl (Sub.cons rfl (Sub.cons rfl (Sub.cons rfl (Sub.cons rfl (Sub.nil _)))))) ?_
      refine XC.seq ?_
      refine XC.region ?_
      refine XO.v (V.move rfl) rfl ?_
      refine XO.v (V.move rfl) rfl ?_
      refine XO.v (V.move rfl) rfl ?_
      refine XO.v (V.move rfl) rfl ?_
      refine XO.call rfl (g_charge _ _ _ hO2 _ _ _ (Bd + 320) (by omega) hS2) (.cons .here .nil) cl_35 rfl ?_
      rintro _ _ ⟨rfl, rfl⟩
      refine XO.v (V.assign rfl) rfl ?_
      refine XO.nil ?_
      refine XE.next ?_
      refine XC.keep [(0, _), (1, _), (3, _), (4, _), (11, _)] (Sub.cons rfl (Sub.cons rfl (Sub.cons rfl (Sub.cons rfl (Sub.cons rfl (Sub.nil _)))))) ?_
      refine XC.seq ?_
      refine XC.seq ?_
      refine XC.region ?_
      refine XO.v (V.move rfl) rfl ?_
      refine XO.v (V.errNil rfl Try.underlying33 rfl) rfl ?_
      refine XO.nil ?_
      refine XE.next ?_
      refine XC.keep [(0, _), (1, _), (3, _), (4, _), (11, _), (32, _)] (Sub.cons rfl (Sub.cons rfl (Sub.cons rfl (Sub.cons rfl (Sub.cons rfl (Sub.cons rfl (Sub.nil _))))))) ?_
      refine XC.condP rfl (fun h3 => ?_) (fun h3 => ?_)
      · skip
        refine XC.region ?_
        have hch : (s.unch a q m).charge b q m = s.unch a q m := by unfold TG.charge; rw [if_neg (by omega)]
        rw [hch]
        refine XO.v (V.move rfl) rfl ?_
        refine XO.v (V.move rfl) rfl ?_
        refine XO.v (V.move rfl) rfl ?_
        refine XO.v (V.move rfl) rfl ?_
        refine XO.call rfl (g_add _ _ (s.unch a q m) hO2 a (by rw [hu]; exact ⟨a1, a2, a3⟩) q m (by omega) (by omega) (Bd + 320) (by omega) hS2) (.cons .here .nil) cl_82 rfl ?_
        rintro _ _ ⟨rfl, rfl⟩
        refine XO.nil ?_
        refine XE.next ?_
        refine XC.keep [(11, _)] (Sub.cons rfl (Sub.nil _)) ?_
        refine XC.seq ?_
        refine XC.region ?_
        refine XO.v (V.move rfl) rfl ?_
        refine XO.v (V.assign rfl) rfl ?_
        refine XO.nil ?_
        refine XE.next ?_
        refine XC.keep [(10, _)] (Sub.cons rfl (Sub.nil _)) ?_
        refine XC.ret ?_
        refine XE.ret1 rfl rfl (post_of (.cons .here .nil) rfl ?_)
        have hv : s.moveE a b q m = (s.unch a q m).chargeE b q m := by unfold TG.moveE; rw [if_neg (by omega), if_neg (by omega)]
        have hm : s.move a b q m = s := by unfold TG.move; rw [if_neg (by omega), if_neg (by assumption)]
        exact ⟨by rw [hv], by rw [hm, TG.way_unch, hu, TG.lay_back]⟩
      · skip
        refine XC.skip ?_
        refine XE.next ?_
        refine XC.keep [(11, _)] (Sub.cons rfl (Sub.nil _)) ?_
        refine XC.seq ?_
        refine XC.region ?_
        refine XO.v (V.move rfl) rfl ?_
        refine XO.v (V.assign rfl) rfl ?_
        refine XO.nil ?_
        refine XE.next ?_
        refine XC.keep [(10, _)] (Sub.cons rfl (Sub.nil _)) ?_
        refine XC.ret ?_
        refine XE.ret1 rfl rfl (post_of (.cons .here .nil) rfl ?_)
        have hv : s.moveE a b q m = (s.unch a q m).chargeE b q m := by unfold TG.moveE; rw [if_neg (by omega), if_neg (by omega)]
        have hm : s.move a b q m = (s.unch a q m).charge b q m := by unfold TG.move; rw [if_neg (by omega), if_pos (by omega)]
        exact ⟨by rw [hv], by rw [hm]⟩
  · skip
    have i0 := h1
    refine XO.v (V.assign rfl) rfl ?_
    refine XO.nil ?_
    refine XE.next ?_
    refine XC.keep [(0, _), (1, _), (2, _), (3, _), (4, _), (11, _)] (Sub.cons rfl (Sub.cons rfl (Sub.cons rfl (Sub.cons rfl (Sub.cons rfl (Sub.cons rfl (Sub.nil _))))))) ?_
    refine XC.seq ?_
    refine XC.seq ?_
    refine XC.region ?_
    refine XO.v (V.move rfl) rfl ?_
    refine XO.v (V.ifaceNil rfl Try.underlying33 rfl) rfl ?_
    refine XO.nil ?_
    refine XE.next ?_
    refine XC.keep [(0, _), (1, _), (2, _), (3, _), (4, _), (11, _), (16, _)] (Sub.cons rfl (Sub.cons rfl (Sub.cons rfl (Sub.cons rfl (Sub.cons rfl (Sub.cons rfl (Sub.cons rfl (Sub.nil _)))))))) ?_
    refine XC.condT rfl rfl ?_
    refine XC.seq ?_
    refine XC.region ?_
    refine XO.v (V.move rfl) rfl ?_
    refine XO.v (V.assign rfl) rfl ?_
    refine XO.nil ?_
    refine XE.next ?_
    refine XC.keep [(10, _)] (Sub.cons rfl (Sub.nil _)) ?_
    refine XC.ret ?_
    refine XE.thenRet ?_
    refine XE.ret1 rfl rfl (post_of (.cons .here .nil) rfl ?_)
    exact ⟨by unfold TG.moveE; rw [if_pos (by assumption), errv_pos _ (by assumption)], by unfold TG.move; rw [if_pos (.inl (by assumption))]⟩
set_option maxRecDepth 10000 in
set_option maxHeartbeats 400000 in
theorem g_limit (p o : Nat) (s : TG) (n q m : Int) : Spec Try.prog 33 [ptr p o 0, .int .i64 n, .int .i64 q, .int .i64 m]
    [.cells p o 60 (encGt s)]
    (fun v H1 => v = errv 106 (s.limitE n q m) ∧ H1 = [.cells p o 60 (encGt (s.limit n q m))]) := by
  refine Spec.intro Try.func33 rfl rfl ?_
  intro W
  refine XC.seq ?_
  refine XC.region ?_
  refine XO.v (V.assign rfl) rfl ?_
  refine XO.nil ?_
  refine XE.next ?_
  refine XC.keep [(0, _), (1, _), (2, _), (3, _)] (Sub.cons rfl (Sub.cons rfl (Sub.cons rfl (Sub.cons rfl (Sub.nil _))))) ?_
  refine XC.seq ?_
  refine XC.region ?_
  refine XO.v (V.move rfl) rfl ?_
  refine XO.v (V.move rfl) rfl ?_
  refine XO.call rfl (g_is _ _ _ _) (.cons .here .nil) cl_74 rfl ?_
  rintro _ _ (⟨h1, rfl, rfl⟩ | ⟨h1, rfl, rfl⟩)
  · skip
    obtain ⟨i0, i1, i2, i3⟩ := h1
    refine XO.v (V.assign rfl) rfl ?_
    refine XO.nil ?_
    refine XE.next ?_
    refine XC.keep [(0, _), (1, _), (2, _), (3, _), (9, _)] (Sub.cons rfl (Sub.cons rfl (Sub.cons rfl (Sub.cons rfl (Sub.cons rfl (Sub.nil _)))))) ?_
    refine XC.seq ?_
    refine XC.seq ?_
    refine XC.region ?_
    refine XO.v (V.move rfl) rfl ?_
    refine XO.v (V.nilNil rfl Try.underlying33 rfl) rfl ?_
    refine XO.nil ?_
    refine XE.next ?_
    refine XC.keep [(0, _), (1, _), (2, _), (3, _), (9, _), (14, _)] (Sub.cons rfl (Sub.cons rfl (Sub.cons rfl (Sub.cons rfl (Sub.cons rfl (Sub.cons rfl (Sub.nil _))))))) ?_
    refine XC.condF rfl rfl ?_
    refine XC.skip ?_
    refine XE.next ?_
    refine XC.keep [(0, _), (1, _), (2, _), (3, _)] (Sub.cons rfl (Sub.cons rfl (Sub.cons rfl (Sub.cons rfl (Sub.nil _))))) ?_
    refine XC.seq ?_
    refine XC.seq ?_
    refine XC.region ?_
    refine XO.v (V.move rfl) rfl ?_
    refine XO.v (V.cmp rfl rfl rfl) rfl ?_
    refine XO.v (V.move rfl) rfl ?_
    refine XO.splitP (d := 18) rfl (fun h2 => ?_) (fun h2 => ?_)
    · skip
      refine XO.guardSkip rfl rfl rfl rfl rfl ?_
      refine XO.guardSkip rfl rfl rfl rfl rfl ?_
      refine XO.v (V.pick rfl rfl rfl rfl) rfl ?_
      refine XO.v (V.move rfl) rfl ?_
      refine XO.guardSkip rfl rfl rfl rfl rfl ?_
      refine XO.guardSkip rfl rfl rfl rfl rfl ?_
      refine XO.v (V.pick rfl rfl rfl rfl) rfl ?_
      refine XO.v (V.move rfl) rfl ?_
      refine XO.guardSkip rfl rfl rfl rfl rfl ?_
      refine XO.guardSkip rfl rfl rfl rfl rfl ?_
      refine XO.v (V.pick rfl rfl rfl rfl) rfl ?_
      refine XO.nil ?_
      refine XE.next ?_
      refine XC.keep [(0, _), (1, _), (2, _), (3, _), (29, _)] (Sub.cons rfl (Sub.cons rfl (Sub.cons rfl (Sub.cons rfl (Sub.cons rfl (Sub.nil _)))))) ?_
      refine XC.condT rfl rfl ?_
      refine XC.seq ?_
      refine XC.region ?_
      refine XO.v (V.makeIface rfl Try.underlying106 (by simp)) rfl ?_
      refine XO.v (V.assign rfl) rfl ?_
      refine XO.nil ?_
      refine XE.next ?_
      refine XC.keep [(8, _)] (Sub.cons rfl (Sub.nil _)) ?_
      refine XC.ret ?_
      refine XE.thenRet ?_
      refine XE.ret1 rfl rfl (post_of (.cons .here .nil) rfl ?_)
      have hr : s.limitE n q m = 1 := by unfold TG.limitE; rw [if_neg (by omega), if_pos (by omega)]
      exact ⟨by rw [hr]; rfl, by unfold TG.limit; rw [if_neg (by omega)]⟩
    · skip
      refine XO.guardRun rfl rfl rfl ?_
      refine XO.v (V.move rfl) rfl ?_
      refine XO.guardRun rfl rfl rfl ?_
      refine XO.v (V.cmp rfl rfl rfl) rfl ?_
      refine XO.v (V.pick rfl rfl rfl rfl) rfl ?_
      refine XO.v (V.move rfl) rfl ?_
      refine XO.splitP (d := 22) rfl (fun h3 => ?_) (fun h3 => ?_)
      · skip
        refine XO.guardSkip rfl rfl rfl rfl rfl ?_
        refine XO.guardSkip rfl rfl rfl rfl rfl ?_
        refine XO.v (V.pick rfl rfl rfl rfl) rfl ?_
        refine XO.v (V.move rfl) rfl ?_
        refine XO.guardSkip rfl rfl rfl rfl rfl ?_
        refine XO.guardSkip rfl rfl rfl rfl rfl ?_
        refine XO.v (V.pick rfl rfl rfl rfl) rfl ?_
        refine XO.nil ?_
        refine XE.next ?_
        refine XC.keep [(0, _), (1, _), (2, _), (3, _), (29, _)] (Sub.cons rfl (Sub.cons rfl (Sub.cons rfl (Sub.cons rfl (Sub.cons rfl (Sub.nil _)))))) ?_
        refine XC.condT rfl rfl ?_
        refine XC.seq ?_
        refine XC.region ?_
        refine XO.v (V.makeIface rfl Try.underlying106 (by simp)) rfl ?_
        refine XO.v (V.assign rfl) rfl ?_
        refine XO.nil ?_
        refine XE.next ?_
        refine XC.keep [(8, _)] (Sub.cons rfl (Sub.nil _)) ?_
        refine XC.ret ?_
        refine XE.thenRet ?_
        refine XE.ret1 rfl rfl (post_of (.cons .here .nil) rfl ?_)
        have hr : s.limitE n q m = 1 := by unfold TG.limitE; rw [if_neg (by omega), if_pos (by omega)]
        exact ⟨by rw [hr]; rfl, by unfold TG.limit; rw [if_neg (by omega)]⟩
      · skip
        refine XO.guardRun rfl rfl rfl ?_
        refine XO.v (V.move rfl) rfl ?_
        refine XO.guardRun rfl rfl rfl ?_
        refine XO.v (V.cmp rfl rfl rfl) rfl ?_
        refine XO.v (V.pick rfl rfl rfl rfl) rfl ?_
        refine XO.v (V.move rfl) rfl ?_
        refine XO.splitP (d := 26) rfl (fun h4 => ?_) (fun h4 => ?_)
        · skip
          refine XO.guardSkip rfl rfl rfl rfl rfl ?_
          refine XO.guardSkip rfl rfl rfl rfl rfl ?_
          refine XO.v (V.pick rfl rfl rfl rfl) rfl ?_
          refine XO.nil ?_
          refine XE.next ?_
          refine XC.keep [(0, _), (1, _), (2, _), (3, _), (29, _)] (Sub.cons rfl (Sub.cons rfl (Sub.cons rfl (Sub.cons rfl (Sub.cons rfl (Sub.nil _)))))) ?_
          refine XC.condT rfl rfl ?_
          refine XC.seq ?_
          refine XC.region ?_
          refine XO.v (V.makeIface rfl Try.underlying106 (by simp)) rfl ?_
          refine XO.v (V.assign rfl) rfl ?_
          refine XO.nil ?_
          refine XE.next ?_
          refine XC.keep [(8, _)] (Sub.cons rfl (Sub.nil _)) ?_
          refine XC.ret ?_
          refine XE.thenRet ?_
          refine XE.ret1 rfl rfl (post_of (.cons .here .nil) rfl ?_)
          have hr : s.limitE n q m = 1 := by unfold TG.limitE; rw [if_neg (by omega), if_pos (by omega)]
          exact ⟨by rw [hr]; rfl, by unfold TG.limit; rw [if_neg (by omega)]⟩
        · skip
          refine XO.guardRun rfl rfl rfl ?_
          refine XO.v (V.move rfl) rfl ?_
          refine XO.guardRun rfl rfl rfl ?_
          refine XO.v (V.cmp rfl rfl rfl) rfl ?_
          refine XO.v (V.pick rfl rfl rfl rfl) rfl ?_
          refine XO.nil ?_
          refine XE.next ?_
          refine XC.keep [(0, _), (1, _), (2, _), (3, _), (29, _)] (Sub.cons rfl (Sub.cons rfl (Sub.cons rfl (Sub.cons rfl (Sub.cons rfl (Sub.nil _)))))) ?_
          refine XC.condP rfl (fun h5 => ?_) (fun h5 => ?_)
          · skip
            refine XC.seq ?_
            refine XC.region ?_
            refine XO.v (V.makeIface rfl Try.underlying106 (by simp)) rfl ?_
            refine XO.v (V.assign rfl) rfl ?_
            refine XO.nil ?_
            refine XE.next ?_
            refine XC.keep [(8, _)] (Sub.cons rfl (Sub.nil _)) ?_
            refine XC.ret ?_
            refine XE.thenRet ?_
            refine XE.ret1 rfl rfl (post_of (.cons .here .nil) rfl ?_)
            have hr : s.limitE n q m = 1 := by unfold TG.limitE; rw [if_neg (by omega), if_pos (by omega)]
            exact ⟨by rw [hr]; rfl, by unfold TG.limit; rw [if_neg (by omega)]⟩
          · skip
            refine XC.skip ?_
            refine XE.next ?_
            refine XC.keep [(0, _), (1, _), (2, _), (3, _)] (Sub.cons rfl (Sub.cons rfl (Sub.cons rfl (Sub.cons rfl (Sub.nil _))))) ?_
            refine XC.seq ?_
            refine XC.regionQ mixed (f := 16) (l := #[false, false, false, false, false, false, false, false, false, false, false, false, false, false, false, false]) rfl rfl XM.drawn' ?_
            refine XQ.pv (i := 0) (l' := #[true, false, false, false, false, false, false, false, false, false, false, false, false, false, false, false]) rfl (by kernel_rfl) rfl (V.move rfl) rfl rfl ?_
            refine XQ.pv (i := 1) (l' := #[true, true, false, false, false, false, false, false, false, false, false, false, false, false, false, false]) rfl (by kernel_rfl) rfl (V.move rfl) rfl rfl ?_
            refine XQ.pv (i := 2) (l' := #[true, true, true, false, false, false, false, false, false, false, false, false, false, false, false, false]) rfl (by kernel_rfl) rfl (V.move rfl) rfl rfl ?_
            refine XQ.pv (i := 3) (l' := #[true, true, true, true, false, false, false, false, false, false, false, false, false, false, false, false]) rfl (by kernel_rfl) rfl (V.move rfl) rfl rfl ?_
            refine XQ.pv (i := 4) (l' := #[true, true, true, true, true, false, false, false, false, false, false, false, false, false, false, false]) rfl (by kernel_rfl) rfl (V.move rfl) rfl rfl ?_
            refine XQ.pv (i := 5) (l' := #[true, true, true, true, true, true, false, false, false, false, false, false, false, false, false, false]) rfl (by kernel_rfl) rfl (V.move rfl) rfl rfl ?_
            refine XQ.pv (i := 6) (l' := #[true, true, true, true, true, true, true, false, false, false, false, false, false, false, false, false]) rfl (by kernel_rfl) rfl (V.nilCheckP rfl) rfl rfl ?_
            refine XQ.pv (i := 7) (l' := #[true, true, true, true, true, true, true, true, false, false, false, false, false, false, false, false]) rfl (by kernel_rfl) rfl (V.fieldAddr rfl fo_115_0) rfl rfl ?_
            refine XQ.pv (i := 8) (l' := #[true, true, true, true, true, true, true, true, true, false, false, false, false, false, false, false]) rfl (by kernel_rfl) rfl (V.indexArr rfl rfl ar_64 (by omega)) rfl rfl ?_
            refine XQ.pv (i := 9) (l' := #[true, true, true, true, true, true, true, true, true, true, false, false, false, false, false, false]) rfl (by kernel_rfl) rfl (V.fieldAddr rfl fo_63_1) rfl rfl ?_
            refine XQ.pv (i := 11) (l' := #[true, true, true, true, true, true, true, true, true, true, false, true, false, false, false, false]) rfl (by kernel_rfl) rfl (V.nilCheckP rfl) rfl rfl ?_
            refine XQ.pv (i := 12) (l' := #[true, true, true, true, true, true, true, true, true, true, false, true, true, false, false, false]) rfl (by kernel_rfl) rfl (V.fieldAddr rfl fo_115_0) rfl rfl ?_
            refine XQ.store (i := 10) (l' := #[true, true, true, true, true, true, true, true, true, true, true, true, true, false, false, false]) rfl (by kernel_rfl) rfl rfl rfl .here (encGt.st_g_I_MaxProcs _ _ (by omega) _) rfl sz_3_1 (fun _ hw' => trivial) ?_
            refine XQ.pv (i := 13) (l' := #[true, true, true, true, true, true, true, true, true, true, true, true, true, true, false, false]) rfl (by kernel_rfl) rfl (V.indexArr rfl rfl ar_64 (by omega)) rfl rfl ?_
            refine XQ.pv (i := 14) (l' := #[true, true, true, true, true, true, true, true, true, true, true, true, true, true, true, false]) rfl (by kernel_rfl) rfl (V.fieldAddr rfl fo_63_2) rfl rfl ?_
            refine XQ.store (i := 15) (l' := #[true, true, true, true, true, true, true, true, true, true, true, true, true, true, true, true]) rfl (by kernel_rfl) rfl rfl rfl .here (encGt.st_g_I_MaxPages _ _ (by omega) _) rfl sz_3_1 (fun _ hw' => trivial) ?_
            refine XQ.done (by kernel_rfl) ?_
            refine XE.next ?_
            refine XC.keep [] (Sub.nil _) ?_
            refine XC.seq ?_
            refine XC.region ?_
            refine XO.v (V.assign rfl) rfl ?_
            refine XO.nil ?_
            refine XE.next ?_
            refine XC.keep [(8, _)] (Sub.cons rfl (Sub.nil _)) ?_
            refine XC.ret ?_
            refine XE.ret1 rfl rfl (post_of (.cons .here .nil) rfl ?_)
            have hr : s.limitE n q m = 0 := by unfold TG.limitE; rw [if_neg (by omega), if_neg (by omega)]
            exact ⟨by rw [hr]; rfl, by unfold TG.limit; rw [if_pos hr]⟩
  · skip
    have i0 := h1
    refine XO.v (V.assign rfl) rfl ?_
    refine XO.nil ?_
    refine XE.next ?_
    refine XC.keep [(0, _), (1, _), (2, _), (3, _), (9, _)] (Sub.cons rfl (Sub.cons rfl (Sub.cons rfl (Sub.cons rfl (Sub.cons rfl (Sub.nil _)))))) ?_
    refine XC.seq ?_
    refine XC.seq ?_
    refine XC.region ?_
    refine XO.v (V.move rfl) rfl ?_
    refine XO.v (V.ifaceNil rfl Try.underlying33 rfl) rfl ?_
    refine XO.nil ?_
    refine XE.next ?_
    refine XC.keep [(0, _), (1, _), (2, _), (3, _), (9, _), (14, _)] (Sub.cons rfl (Sub.cons rfl (Sub.cons rfl (Sub.cons rfl (Sub.cons rfl (Sub.cons rfl (Sub.nil _))))))) ?_
    refine XC.condT rfl rfl ?_
    refine XC.seq ?_
    refine XC.region ?_
    refine XO.v (V.move rfl) rfl ?_
    refine XO.v (V.assign rfl) rfl ?_
    refine XO.nil ?_
    refine XE.next ?_
    refine XC.keep [(8, _)] (Sub.cons rfl (Sub.nil _)) ?_
    refine XC.ret ?_
    refine XE.thenRet ?_
    refine XE.ret1 rfl rfl (post_of (.cons .here .nil) rfl ?_)
    have hr : s.limitE n q m = s.isE n := by unfold TG.limitE; rw [if_pos (by assumption)]
    exact ⟨by rw [hr, errv_pos _ (by assumption)], by unfold TG.limit; rw [if_neg (by omega)]⟩
set_option maxRecDepth 10000 in
set_option maxHeartbeats 400000 in
theorem g_of (p o : Nat) (s : TG) (n : Int) : Spec Try.prog 46 [ptr p o 0, .int .i64 n]
    [.cells p o 60 (encGt s)]
    (fun v H1 => v = .tuple #[.agg (if s.isE n = 0 then s.gv n else GV.zero).arr, errv 106 (s.isE n)] ∧ H1 = [.cells p o 60 (encGt s)]) := by
  refine Spec.intro Try.func46 rfl rfl ?_
  intro W
  refine XC.seq ?_
  refine XC.region ?_
  refine XO.allocZ (z := .agg GV.zero.arr) (m := 5) (C := encV GV.zero) (by kernel_rfl) rfl (encV_box _) rfl ?_
  intro bg
  refine XO.v (V.assign rfl) rfl ?_
  refine XO.nil ?_
  refine XE.next ?_
  refine XC.keep [(0, _), (1, _), (4, _)] (Sub.cons rfl (Sub.cons rfl (Sub.cons rfl (Sub.nil _)))) ?_
  refine XC.seq ?_
  refine XC.region ?_
  refine XO.v (V.move rfl) rfl ?_
  refine XO.v (V.move rfl) rfl ?_
  refine XO.call rfl (g_is _ _ _ _) (.cons (.there .here) .nil) cl_74 rfl ?_
  rintro _ _ (⟨h1, rfl, rfl⟩ | ⟨h1, rfl, rfl⟩)
  · skip
    obtain ⟨i0, i1, i2, i3⟩ := h1
    refine XO.v (V.assign rfl) rfl ?_
    refine XO.nil ?_
    refine XE.next ?_
    refine XC.keep [(0, _), (1, _), (4, _), (6, _)] (Sub.cons rfl (Sub.cons rfl (Sub.cons rfl (Sub.cons rfl (Sub.nil _))))) ?_
    refine XC.seq ?_
    refine XC.seq ?_
    refine XC.region ?_
    refine XO.v (V.move rfl) rfl ?_
    refine XO.v (V.nilNil rfl Try.underlying33 rfl) rfl ?_
    refine XO.nil ?_
    refine XE.next ?_
    refine XC.keep [(0, _), (1, _), (4, _), (6, _), (11, _)] (Sub.cons rfl (Sub.cons rfl (Sub.cons rfl (Sub.cons rfl (Sub.cons rfl (Sub.nil _)))))) ?_
    refine XC.condF rfl rfl ?_
    refine XC.skip ?_
    refine XE.next ?_
    refine XC.keep [(0, _), (1, _), (4, _)] (Sub.cons rfl (Sub.cons rfl (Sub.cons rfl (Sub.nil _)))) ?_
    refine XC.seq ?_
    refine XC.region ?_
    refine XO.v (V.move rfl) rfl ?_
    refine XO.v (V.move rfl) rfl ?_
    refine XO.v (V.nilCheckP rfl) rfl ?_
    refine XO.v (V.fieldAddr rfl fo_115_0) rfl ?_
    refine XO.v (V.indexArr rfl rfl ar_64 (by omega)) rfl ?_
    refine XO.v (V.loadAgg rfl (inXM .here) (encGt_gv _ _ (by omega)) ag_63 sz_63_5) rfl ?_
    refine XO.storeAgg rfl rfl (.there .here) (encV_st _ _) ⟨rfl, rfl⟩ sz_63_5 ?_
    refine XO.v (V.assign rfl) rfl ?_
    refine XO.nil ?_
    refine XE.next ?_
    refine XC.keep [(4, _), (5, _)] (Sub.cons rfl (Sub.cons rfl (Sub.nil _))) ?_
    refine XC.ret ?_
    refine XE.retG2 rfl (.agg rfl (.there .here) (encV_gv _) ag_63 sz_63_5) (.tmp rfl) (post_of (.cons .here .nil) rfl ?_)
    exact ⟨by rw [if_pos (by omega), show s.isE n = 0 from by omega]; rfl, rfl⟩
  · skip
    have i0 := h1
    refine XO.v (V.assign rfl) rfl ?_
    refine XO.nil ?_
    refine XE.next ?_
    refine XC.keep [(0, _), (1, _), (4, _), (6, _)] (Sub.cons rfl (Sub.cons rfl (Sub.cons rfl (Sub.cons rfl (Sub.nil _))))) ?_
    refine XC.seq ?_
    refine XC.seq ?_
    refine XC.region ?_
    refine XO.v (V.move rfl) rfl ?_
    refine XO.v (V.ifaceNil rfl Try.underlying33 rfl) rfl ?_
    refine XO.nil ?_
    refine XE.next ?_
    refine XC.keep [(0, _), (1, _), (4, _), (6, _), (11, _)] (Sub.cons rfl (Sub.cons rfl (Sub.cons rfl (Sub.cons rfl (Sub.cons rfl (Sub.nil _)))))) ?_
    refine XC.condT rfl rfl ?_
    refine XC.seq ?_
    refine XC.region ?_
    refine XO.v (V.build (vs := #[]) rfl (v := .agg GV.zero.arr) (fun _ => by kernel_rfl)) rfl ?_
    refine XO.v (V.move rfl) rfl ?_
    refine XO.storeAgg rfl rfl (.there .here) (encV_st _ _) ⟨rfl, rfl⟩ sz_63_5 ?_
    refine XO.v (V.assign rfl) rfl ?_
    refine XO.nil ?_
    refine XE.next ?_
    refine XC.keep [(4, _), (5, _)] (Sub.cons rfl (Sub.cons rfl (Sub.nil _))) ?_
    refine XC.ret ?_
    refine XE.thenRet ?_
    refine XE.retG2 rfl (.agg rfl (.there .here) (encV_gv _) ag_63 sz_63_5) (.tmp rfl) (post_of (.cons .here .nil) rfl ?_)
    exact ⟨by rw [if_neg (by assumption), errv_pos _ (by assumption)], rfl⟩
end Go.X
