import Derived.Test.YtojlnbjpiccliaaTW
namespace Go.X
open Go Go.Proofs
theorem ar_102 : arrOf Try.prog 102 = some (6, 23) := by kernel_rfl
theorem cl_62 : callable Try.prog 62 = true := by kernel_rfl
theorem cl_63 : callable Try.prog 63 = true := by kernel_rfl
theorem cl_65 : callable Try.prog 65 = true := by kernel_rfl
theorem cl_67 : callable Try.prog 67 = true := by kernel_rfl
theorem cl_69 : callable Try.prog 69 = true := by kernel_rfl
theorem fo_101_0 : fieldOff Try.prog 101 0 = some 0 := by kernel_rfl
theorem fo_101_1 : fieldOff Try.prog 101 1 = some 1 := by kernel_rfl
theorem fo_101_2 : fieldOff Try.prog 101 2 = some 2 := by kernel_rfl
theorem fo_104_0 : fieldOff Try.prog 104 0 = some 0 := by kernel_rfl
theorem fo_104_1 : fieldOff Try.prog 104 1 = some 138 := by kernel_rfl
theorem sz_101_23 : szOf Try.prog 101 = some 23 := by kernel_rfl
set_option maxRecDepth 10000 in
set_option maxHeartbeats 400000 in
theorem u_Is (b o : Nat) (s : SS) (n : Int) : Spec Try.prog 62 [ptr b o 0, .int .i64 n]
    [.cells b o 158 (encU s)]
    (fun v H1 => (v = .int .i64 (s.is n) ∧ 0 ≤ s.is n ∧ (s.is n = 0 → 0 ≤ n ∧ n < 6 ∧ s.here n = true)) ∧ H1 = [.cells b o 158 (encU s)]) := by
  refine Spec.intro Try.func62 rfl rfl ?_
  intro W
  refine XC.seq ?_
  refine XC.region ?_
  refine XO.v (V.assign rfl) rfl ?_
  refine XO.nil ?_
  refine XE.next ?_
  refine XC.keep [(0, _), (1, _)] (Sub.cons rfl (Sub.cons rfl (Sub.nil _))) ?_
  refine XC.seq ?_
  refine XC.seq ?_
  refine XC.region ?_
  refine XO.v (V.move rfl) rfl ?_
  refine XO.v (V.cmp rfl rfl rfl) rfl ?_
  refine XO.v (V.move rfl) rfl ?_
  refine XO.splitP (d := 7) rfl (fun h1 => ?_) (fun h1 => ?_)
  · skip
    refine XO.guardSkip rfl rfl rfl rfl rfl ?_
    refine XO.guardSkip rfl rfl rfl rfl rfl ?_
    refine XO.v (V.pick rfl rfl rfl rfl) rfl ?_
    refine XO.nil ?_
    refine XE.next ?_
    refine XC.keep [(0, _), (1, _), (10, _)] (Sub.cons rfl (Sub.cons rfl (Sub.cons rfl (Sub.nil _)))) ?_
    refine XC.condT rfl rfl ?_
    refine XC.seq ?_
    refine XC.region ?_
    refine XO.v (V.assign rfl) rfl ?_
    refine XO.nil ?_
    refine XE.next ?_
    refine XC.keep [(4, _)] (Sub.cons rfl (Sub.nil _)) ?_
    refine XC.ret ?_
    refine XE.thenRet ?_
    refine XE.ret1 rfl rfl (post_of (.cons .here .nil) rfl ?_)
    rcases s.is_cases n with ⟨q, q1, q2, q3⟩ | ⟨q, q1⟩ | ⟨q, q1, q2, q3⟩ <;> first | (exfalso; omega) | (exfalso; simp_all; done) | exact ⟨⟨by rw [q], by omega, fun _ => ⟨by omega, by omega, by assumption⟩⟩, rfl⟩ | exact ⟨⟨by rw [q], by omega, fun h => absurd h (by omega)⟩, rfl⟩
  · skip
    refine XO.guardRun rfl rfl rfl ?_
    refine XO.v (V.move rfl) rfl ?_
    refine XO.guardRun rfl rfl rfl ?_
    refine XO.v (V.cmp rfl rfl rfl) rfl ?_
    refine XO.v (V.pick rfl rfl rfl rfl) rfl ?_
    refine XO.nil ?_
    refine XE.next ?_
    refine XC.keep [(0, _), (1, _), (10, _)] (Sub.cons rfl (Sub.cons rfl (Sub.cons rfl (Sub.nil _)))) ?_
    refine XC.condP rfl (fun h2 => ?_) (fun h2 => ?_)
    · skip
      refine XC.seq ?_
      refine XC.region ?_
      refine XO.v (V.assign rfl) rfl ?_
      refine XO.nil ?_
      refine XE.next ?_
      refine XC.keep [(4, _)] (Sub.cons rfl (Sub.nil _)) ?_
      refine XC.ret ?_
      refine XE.thenRet ?_
      refine XE.ret1 rfl rfl (post_of (.cons .here .nil) rfl ?_)
      rcases s.is_cases n with ⟨q, q1, q2, q3⟩ | ⟨q, q1⟩ | ⟨q, q1, q2, q3⟩ <;> first | (exfalso; omega) | (exfalso; simp_all; done) | exact ⟨⟨by rw [q], by omega, fun _ => ⟨by omega, by omega, by assumption⟩⟩, rfl⟩ | exact ⟨⟨by rw [q], by omega, fun h => absurd h (by omega)⟩, rfl⟩
    · skip
      refine XC.skip ?_
      refine XE.next ?_
      refine XC.keep [(0, _), (1, _)] (Sub.cons rfl (Sub.cons rfl (Sub.nil _))) ?_
      refine XC.seq ?_
      refine XC.seq ?_
      refine XC.region ?_
      refine XO.v (V.move rfl) rfl ?_
      refine XO.v (V.move rfl) rfl ?_
      refine XO.v (V.nilCheckP rfl) rfl ?_
      refine XO.v (V.fieldAddr rfl fo_104_0) rfl ?_
      refine XO.v (V.indexArr rfl rfl ar_102 (by omega)) rfl ?_
      refine XO.v (V.fieldAddr rfl fo_101_0) rfl ?_
      refine XO.v (V.load rfl (inXM .here) (encU.ld_S_I_Here _ _ (by omega)) sc_4) rfl ?_
      refine XO.v (V.not rfl) rfl ?_
      refine XO.nil ?_
      refine XE.next ?_
      refine XC.keep [(18, _)] (Sub.cons rfl (Sub.nil _)) ?_
      refine XC.cond rfl (fun h3 => ?_) (fun h3 => ?_)
      · try simp only [decide_eq_true_eq, decide_eq_false_iff_not, Bool.not_eq_true', Bool.not_eq_false', Bool.not_eq_eq_eq_not, Bool.not_true, Bool.not_false, beq_iff_eq, bne_iff_ne, ne_eq, beq_eq_false_iff_ne, bne_eq_false_iff_eq, Int.not_lt, Int.not_le, gt_iff_lt, ge_iff_le, Bool.and_eq_true, Bool.or_eq_true, Bool.and_eq_false_iff, Bool.or_eq_false_iff, Decidable.not_not] at h3
        refine XC.seq ?_
        refine XC.region ?_
        refine XO.v (V.assign rfl) rfl ?_
        refine XO.nil ?_
        refine XE.next ?_
        refine XC.keep [(4, _)] (Sub.cons rfl (Sub.nil _)) ?_
        refine XC.ret ?_
        refine XE.thenRet ?_
        refine XE.ret1 rfl rfl (post_of (.cons .here .nil) rfl ?_)
        rcases s.is_cases n with ⟨q, q1, q2, q3⟩ | ⟨q, q1⟩ | ⟨q, q1, q2, q3⟩ <;> first | (exfalso; omega) | (exfalso; simp_all; done) | exact ⟨⟨by rw [q], by omega, fun _ => ⟨by omega, by omega, by assumption⟩⟩, rfl⟩ | exact ⟨⟨by rw [q], by omega, fun h => absurd h (by omega)⟩, rfl⟩
      · try simp only [decide_eq_true_eq, decide_eq_false_iff_not, Bool.not_eq_true', Bool.not_eq_false', Bool.not_eq_eq_eq_not, Bool.not_true, Bool.not_false, beq_iff_eq, bne_iff_ne, ne_eq, beq_eq_false_iff_ne, bne_eq_false_iff_eq, Int.not_lt, Int.not_le, gt_iff_lt, ge_iff_le, Bool.and_eq_true, Bool.or_eq_true, Bool.and_eq_false_iff, Bool.or_eq_false_iff, Decidable.not_not] at h3
        refine XC.skip ?_
        refine XE.next ?_
        refine XC.keep [] (Sub.nil _) ?_
        refine XC.seq ?_
        refine XC.region ?_
        refine XO.v (V.assign rfl) rfl ?_
        refine XO.nil ?_
        refine XE.next ?_
        refine XC.keep [(4, _)] (Sub.cons rfl (Sub.nil _)) ?_
        refine XC.ret ?_
        refine XE.ret1 rfl rfl (post_of (.cons .here .nil) rfl ?_)
        rcases s.is_cases n with ⟨q, q1, q2, q3⟩ | ⟨q, q1⟩ | ⟨q, q1, q2, q3⟩ <;> first | (exfalso; omega) | (exfalso; simp_all; done) | exact ⟨⟨by rw [q], by omega, fun _ => ⟨by omega, by omega, by assumption⟩⟩, rfl⟩ | exact ⟨⟨by rw [q], by omega, fun h => absurd h (by omega)⟩, rfl⟩
set_option maxRecDepth 10000 in
set_option maxHeartbeats 400000 in
theorem u_Way (b o : Nat) (s : SS) (dep : Int → Nat) (hD : s.Deep dep) (n : Int) (hn : 0 ≤ n ∧ n < 6 ∧ s.here n = true) : Spec Try.prog 63 [ptr b o 0, .int .i64 n]
    [.cells b o 158 (encU s)]
    (fun v H1 => ∃ p cap, v = .slice p (s.way dep n).length cap ∧ H1 = [irow p cap 3 (s.way dep n), .cells b o 158 (encU s)]) := by
  refine Spec.intro Try.func63 rfl rfl ?_
  intro W
  refine XC.seq ?_
  refine XC.region ?_
  refine XO.v (V.assign rfl) rfl ?_
  refine XO.nil ?_
  refine XE.next ?_
  refine XC.keep [(0, _), (1, _)] (Sub.cons rfl (Sub.cons rfl (Sub.nil _))) ?_
  refine XC.seq ?_
  refine XC.region ?_
  refine XO.v (V.assign rfl) rfl ?_
  refine XO.nilRow 3 1 ?_
  refine XO.nil ?_
  refine XE.next ?_
  refine XC.keep [(0, _), (1, _), (5, _)] (Sub.cons rfl (Sub.cons rfl (Sub.cons rfl (Sub.nil _)))) ?_
  refine XC.seq ?_
  refine XC.block ?_
  refine XC.loop (σ := Int × List Int × Option Addr × Nat) (fun x => if x.1 = -1 then 0 else dep x.1) (fun x => (x.1 = -1 ∧ x.2.1 = s.way dep n) ∨ ((0 ≤ x.1 ∧ x.1 < 6 ∧ s.here x.1 = true) ∧ x.2.1 ++ s.wayF (dep x.1) x.1 = s.way dep n)) (fun x => [(5, .slice x.2.2.1 x.2.1.length x.2.2.2), (1, .int .i64 x.1), (0, ptr b o 0)]) (fun x => XM W (foot [.cells b o 158 (encU s)]) [irow x.2.2.1 x.2.2.2 3 x.2.1, .cells b o 158 (encU s)]) ((n, [], none, 0)) ?_ (Sub.cons rfl (Sub.cons rfl (Sub.cons rfl (Sub.nil _)))) (fun _ hw => XM.pick (.cons .here (.cons .here .nil)) hw) ?_
  · skip
    exact .inr ⟨hn, rfl⟩
  intro x hx
  refine XC.seq ?_
  refine XC.seq ?_
  refine XC.region ?_
  refine XO.v (V.move rfl) rfl ?_
  refine XO.v (V.cmp rfl rfl rfl) rfl ?_
  refine XO.nil ?_
  refine XE.next ?_
  refine XC.keep [(0, _), (1, _), (5, _), (7, _)] (Sub.cons rfl (Sub.cons rfl (Sub.cons rfl (Sub.cons rfl (Sub.nil _))))) ?_
  refine XC.condP rfl (fun h1 => ?_) (fun h1 => ?_)
  · skip
    obtain ⟨hx, hw⟩ := hx.resolve_left (by omega)
    have hlen : x.2.1.length ≤ 4 := by
      have h9 := congrArg List.length hw
      rw [List.length_append, SS.way, SS.wayF_length, SS.wayF_length] at h9
      have := (hD.d n hn.1 hn.2.1 hn.2.2).2.1
      omega
    obtain ⟨hx1, hx2, hx3⟩ := id hx
    refine XC.skip ?_
    refine XE.next ?_
    refine XC.keep [(0, _), (1, _), (5, _)] (Sub.cons rfl (Sub.cons rfl (Sub.cons rfl (Sub.nil _)))) ?_
    refine XC.block ?_
    refine XC.seq ?_
    refine XC.region ?_
    refine XO.v (V.move rfl) rfl ?_
    refine XO.v (V.move rfl) rfl ?_
    refine XO.buildSlice (A := #[.int .i64 _]) (vs := #[(0, .int .i64 _)]) rfl (bs1_85 _) rfl rfl ?_
    intro h2
    refine XO.appendI (e := 3) rfl rfl Try.underlying85 rt_3_1 (.there .here) .here (by omega) rfl ?_
    intro h3 h4
    refine XO.v (V.assign rfl) rfl ?_
    refine XO.nil ?_
    refine XE.next ?_
    refine XC.keep [(0, _), (1, _), (5, _)] (Sub.cons rfl (Sub.cons rfl (Sub.cons rfl (Sub.nil _)))) ?_
    refine XC.region ?_
    refine XO.v (V.move rfl) rfl ?_
    refine XO.v (V.move rfl) rfl ?_
    refine XO.v (V.nilCheckP rfl) rfl ?_
    refine XO.v (V.fieldAddr rfl fo_104_0) rfl ?_
    refine XO.v (V.indexArr rfl rfl ar_102 (by omega)) rfl ?_
    refine XO.v (V.fieldAddr rfl fo_101_1) rfl ?_
    refine XO.v (V.load rfl (inXM (.there (.there .here))) (encU.ld_S_I_Parent _ _ (by omega)) sc_3) rfl ?_
    refine XO.v (V.assign rfl) rfl ?_
    refine XO.nil ?_
    refine XE.blockNormal ?_
    refine XE.again ((s.par x.1, x.2.1 ++ [x.1], _, _)) ?_ ?_ (Sub.cons rfl (Sub.cons rfl (Sub.cons rfl (Sub.nil _)))) (fun _ hw => XM.pick (.cons .here (.cons (.there .here) .nil)) hw)
    · skip
      show (if s.par x.1 = -1 then 0 else dep (s.par x.1)) < (if x.1 = -1 then 0 else dep x.1)
      obtain ⟨h1, h2, h3⟩ := hx
      by_cases q : s.par x.1 = -1
      · have := (hD.d x.1 h1 h2 h3).1
        rw [if_pos q, if_neg (by omega)]; omega
      · have := (SS.way_next hD ⟨h1, h2, h3⟩ q).2.2.2.2
        rw [if_neg q, if_neg (by omega)]; omega
    · skip
      by_cases q : s.par x.1 = -1
      · refine .inl ⟨q, ?_⟩
        rw [← hw, SS.way_nil hD hx q]
      · obtain ⟨e1, e2, e3, e4, _⟩ := SS.way_next hD hx q
        refine .inr ⟨⟨e2, e3, e4⟩, ?_⟩
        rw [← hw, e1]; simp
  · skip
    refine XC.exit ?_
    refine XE.thenExit ?_
    refine XE.thenExit ?_
    refine XE.blockExit ?_
    refine XE.next ?_
    refine XC.keep [(5, _)] (Sub.cons rfl (Sub.nil _)) ?_
    refine XC.seq ?_
    refine XC.region ?_
    refine XO.v (V.move rfl) rfl ?_
    refine XO.v (V.assign rfl) rfl ?_
    refine XO.nil ?_
    refine XE.next ?_
    refine XC.keep [(4, _)] (Sub.cons rfl (Sub.nil _)) ?_
    refine XC.ret ?_
    refine XE.ret1 rfl rfl (post_of (.cons .here (.cons .here .nil)) rfl ?_)
    rcases hx with ⟨_, hw⟩ | ⟨⟨h1, _⟩, _⟩
    · exact ⟨_, _, by rw [← hw], by rw [← hw]⟩
    · omega
set_option maxRecDepth 10000 in
set_option maxHeartbeats 400000 in
theorem u_In (b o : Nat) (s : SS) (p : Int) (hl : -1 ≤ s.loc p ∧ s.loc p < 6) : Spec Try.prog 69 [ptr b o 0, .int .i64 p]
    [.cells b o 158 (encU s)]
    (fun v H1 => (v = .tuple #[.int .i64 (s.in_ p).1, .int .i64 (s.in_ p).2] ∧ ((s.in_ p).2 = 0 → 0 ≤ p ∧ p < 20) ∧ 0 ≤ (s.in_ p).2) ∧ H1 = [.cells b o 158 (encU s)]) := by
  refine Spec.intro Try.func69 rfl rfl ?_
  intro W
  refine XC.seq ?_
  refine XC.region ?_
  refine XO.v (V.assign rfl) rfl ?_
  refine XO.v (V.assign rfl) rfl ?_
  refine XO.nil ?_
  refine XE.next ?_
  refine XC.keep [(0, _), (1, _)] (Sub.cons rfl (Sub.cons rfl (Sub.nil _))) ?_
  refine XC.seq ?_
  refine XC.seq ?_
  refine XC.region ?_
  refine XO.v (V.move rfl) rfl ?_
  refine XO.v (V.cmp rfl rfl rfl) rfl ?_
  refine XO.v (V.move rfl) rfl ?_
  refine XO.splitP (d := 8) rfl (fun h1 => ?_) (fun h1 => ?_)
  · skip
    refine XO.guardSkip rfl rfl rfl rfl rfl ?_
    refine XO.guardSkip rfl rfl rfl rfl rfl ?_
    refine XO.v (V.pick rfl rfl rfl rfl) rfl ?_
    refine XO.nil ?_
    refine XE.next ?_
    refine XC.keep [(0, _), (1, _), (11, _)] (Sub.cons rfl (Sub.cons rfl (Sub.cons rfl (Sub.nil _)))) ?_
    refine XC.condT rfl rfl ?_
    refine XC.seq ?_
    refine XC.region ?_
    refine XO.v (V.assign rfl) rfl ?_
    refine XO.v (V.assign rfl) rfl ?_
    refine XO.nil ?_
    refine XE.next ?_
    refine XC.keep [(4, _), (5, _)] (Sub.cons rfl (Sub.cons rfl (Sub.nil _))) ?_
    refine XC.ret ?_
    refine XE.thenRet ?_
    refine XE.ret2 rfl rfl rfl (post_of (.cons .here .nil) rfl ?_)
    first
    | (rw [SS.in_bound (by omega)]; exact ⟨⟨rfl, fun q => by simp at q, by simp⟩, rfl⟩)
    | (rw [SS.in_none (by omega) (by omega)]; exact ⟨⟨rfl, fun q => by simp at q, by simp⟩, rfl⟩)
    | (rw [SS.in_ok (by omega) (by omega)]; refine ⟨⟨?_, fun _ => ⟨by omega, by omega⟩, by simp⟩, rfl⟩; rw [show s.loc p + 1 - 1 = s.loc p from by omega])
  · skip
    refine XO.guardRun rfl rfl rfl ?_
    refine XO.v (V.move rfl) rfl ?_
    refine XO.guardRun rfl rfl rfl ?_
    refine XO.v (V.cmp rfl rfl rfl) rfl ?_
    refine XO.v (V.pick rfl rfl rfl rfl) rfl ?_
    refine XO.nil ?_
    refine XE.next ?_
    refine XC.keep [(0, _), (1, _), (11, _)] (Sub.cons rfl (Sub.cons rfl (Sub.cons rfl (Sub.nil _)))) ?_
    refine XC.condP rfl (fun h2 => ?_) (fun h2 => ?_)
    · skip
      refine XC.seq ?_
      refine XC.region ?_
      refine XO.v (V.assign rfl) rfl ?_
      refine XO.v (V.assign rfl) rfl ?_
      refine XO.nil ?_
      refine XE.next ?_
      refine XC.keep [(4, _), (5, _)] (Sub.cons rfl (Sub.cons rfl (Sub.nil _))) ?_
      refine XC.ret ?_
      refine XE.thenRet ?_
      refine XE.ret2 rfl rfl rfl (post_of (.cons .here .nil) rfl ?_)
      first
      | (rw [SS.in_bound (by omega)]; exact ⟨⟨rfl, fun q => by simp at q, by simp⟩, rfl⟩)
      | (rw [SS.in_none (by omega) (by omega)]; exact ⟨⟨rfl, fun q => by simp at q, by simp⟩, rfl⟩)
      | (rw [SS.in_ok (by omega) (by omega)]; refine ⟨⟨?_, fun _ => ⟨by omega, by omega⟩, by simp⟩, rfl⟩; rw [show s.loc p + 1 - 1 = s.loc p from by omega])
    · skip
      refine XC.skip ?_
      refine XE.next ?_
      refine XC.keep [(0, _), (1, _)] (Sub.cons rfl (Sub.cons rfl (Sub.nil _))) ?_
      refine XC.seq ?_
      refine XC.seq ?_
      refine XC.region ?_
      refine XO.v (V.move rfl) rfl ?_
      refine XO.v (V.move rfl) rfl ?_
      refine XO.v (V.nilCheckP rfl) rfl ?_
      refine XO.v (V.fieldAddr rfl fo_104_1) rfl ?_
      refine XO.v (V.indexArr rfl rfl ar_96 (by omega)) rfl ?_
      refine XO.v (V.load rfl (inXM .here) (encU.ld_Of_I _ _ (by omega)) sc_3) rfl ?_
      refine XO.v (V.cmp rfl rfl rfl) rfl ?_
      refine XO.nil ?_
      refine XE.next ?_
      refine XC.keep [(0, _), (1, _), (18, _)] (Sub.cons rfl (Sub.cons rfl (Sub.cons rfl (Sub.nil _)))) ?_
      refine XC.condP rfl (fun h3 => ?_) (fun h3 => ?_)
      · skip
        refine XC.seq ?_
        refine XC.region ?_
        refine XO.v (V.assign rfl) rfl ?_
        refine XO.v (V.assign rfl) rfl ?_
        refine XO.nil ?_
        refine XE.next ?_
        refine XC.keep [(4, _), (5, _)] (Sub.cons rfl (Sub.cons rfl (Sub.nil _))) ?_
        refine XC.ret ?_
        refine XE.thenRet ?_
        refine XE.ret2 rfl rfl rfl (post_of (.cons .here .nil) rfl ?_)
        first
        | (rw [SS.in_bound (by omega)]; exact ⟨⟨rfl, fun q => by simp at q, by simp⟩, rfl⟩)
        | (rw [SS.in_none (by omega) (by omega)]; exact ⟨⟨rfl, fun q => by simp at q, by simp⟩, rfl⟩)
        | (rw [SS.in_ok (by omega) (by omega)]; refine ⟨⟨?_, fun _ => ⟨by omega, by omega⟩, by simp⟩, rfl⟩; rw [show s.loc p + 1 - 1 = s.loc p from by omega])
      · skip
        refine XC.skip ?_
        refine XE.next ?_
        refine XC.keep [(0, _), (1, _)] (Sub.cons rfl (Sub.cons rfl (Sub.nil _))) ?_
        refine XC.seq ?_
        refine XC.region ?_
        refine XO.v (V.move rfl) rfl ?_
        refine XO.v (V.move rfl) rfl ?_
        refine XO.v (V.nilCheckP rfl) rfl ?_
        refine XO.v (V.fieldAddr rfl fo_104_1) rfl ?_
        refine XO.v (V.indexArr rfl rfl ar_96 (by omega)) rfl ?_
        refine XO.v (V.load rfl (inXM .here) (encU.ld_Of_I _ _ (by omega)) sc_3) rfl ?_
        refine XO.v (V.sub rfl rfl _ (IntWalk.i64_in _ (by omega))) rfl ?_
        refine XO.v (V.assign rfl) rfl ?_
        refine XO.v (V.assign rfl) rfl ?_
        refine XO.nil ?_
        refine XE.next ?_
        refine XC.keep [(4, _), (5, _)] (Sub.cons rfl (Sub.cons rfl (Sub.nil _))) ?_
        refine XC.ret ?_
        refine XE.ret2 rfl rfl rfl (post_of (.cons .here .nil) rfl ?_)
        first
        | (rw [SS.in_bound (by omega)]; exact ⟨⟨rfl, fun q => by simp at q, by simp⟩, rfl⟩)
        | (rw [SS.in_none (by omega) (by omega)]; exact ⟨⟨rfl, fun q => by simp at q, by simp⟩, rfl⟩)
        | (rw [SS.in_ok (by omega) (by omega)]; refine ⟨⟨?_, fun _ => ⟨by omega, by omega⟩, by simp⟩, rfl⟩; rw [show s.loc p + 1 - 1 = s.loc p from by omega])
set_option maxRecDepth 10000 in
set_option maxHeartbeats 400000 in
theorem u_Members (b o : Nat) (s : SS) (dep : Int → Nat) (hI : s.Inv dep) (n : Int) : Spec Try.prog 65 [ptr b o 0, .int .i64 n]
    [.cells b o 158 (encU s)]
    (fun v H1 => ∃ p cap, v = .tuple #[.slice p (s.mem n).1.length cap, .int .i64 (s.mem n).2] ∧ H1 = [irow p cap 3 (s.mem n).1, .cells b o 158 (encU s)]) := by
  refine Spec.intro Try.func65 rfl rfl ?_
  intro W
  refine XC.seq ?_
  refine XC.region ?_
  refine XO.v (V.assign rfl) rfl ?_
  refine XO.v (V.assign rfl) rfl ?_
  refine XO.nil ?_
  refine XE.next ?_
  refine XC.keep [(0, _), (1, _)] (Sub.cons rfl (Sub.cons rfl (Sub.nil _))) ?_
  refine XC.seq ?_
  refine XC.seq ?_
  refine XC.region ?_
  refine XO.v (V.move rfl) rfl ?_
  refine XO.v (V.move rfl) rfl ?_
  refine XO.call rfl (u_Is _ _ _ _) (.cons .here .nil) cl_62 rfl ?_
  rintro _ _ ⟨⟨rfl, h1, h2⟩, rfl⟩
  have is0 := h1
  have is1 := h2
  refine XO.v (V.assign rfl) rfl ?_
  refine XO.nil ?_
  refine XE.next ?_
  refine XC.keep [(0, _), (1, _), (6, _)] (Sub.cons rfl (Sub.cons rfl (Sub.cons rfl (Sub.nil _)))) ?_
  refine XC.seq ?_
  refine XC.region ?_
  refine XO.v (V.move rfl) rfl ?_
  refine XO.v (V.cmp rfl rfl rfl) rfl ?_
  refine XO.nil ?_
  refine XE.next ?_
  refine XC.keep [(0, _), (1, _), (6, _), (13, _)] (Sub.cons rfl (Sub.cons rfl (Sub.cons rfl (Sub.cons rfl (Sub.nil _))))) ?_
  refine XC.condP rfl (fun h3 => ?_) (fun h3 => ?_)
  · skip
    have i0 : s.is n ≠ 0 := by omega
    refine XC.seq ?_
    refine XC.region ?_
    refine XO.v (V.move rfl) rfl ?_
    refine XO.v (V.assign rfl) rfl ?_
    refine XO.nilRow 3 1 ?_
    refine XO.v (V.assign rfl) rfl ?_
    refine XO.nil ?_
    refine XE.next ?_
    refine XC.keep [(4, _), (5, _)] (Sub.cons rfl (Sub.cons rfl (Sub.nil _))) ?_
    refine XC.ret ?_
    refine XE.thenRet ?_
    refine XE.ret2 rfl rfl rfl (post_of (.cons .here (.cons .here .nil)) rfl ?_)
    rw [SS.mem_err i0]; exact ⟨none, 0, rfl, rfl⟩
  · skip
    have i0 : s.is n = 0 := by omega
    obtain ⟨i1, i2, i3⟩ := is1 i0
    refine XC.skip ?_
    refine XE.next ?_
    refine XC.keep [(0, _), (1, _)] (Sub.cons rfl (Sub.cons rfl (Sub.nil _))) ?_
    refine XC.seq ?_
    refine XC.region ?_
    refine XO.v (V.assign rfl) rfl ?_
    refine XO.nilRow 3 1 ?_
    refine XO.nil ?_
    refine XE.next ?_
    refine XC.keep [(0, _), (1, _), (7, _)] (Sub.cons rfl (Sub.cons rfl (Sub.cons rfl (Sub.nil _)))) ?_
    refine XC.seq ?_
    refine XC.seq ?_
    refine XC.region ?_
    refine XO.v (V.assign rfl) rfl ?_
    refine XO.nil ?_
    refine XE.next ?_
    refine XC.keep [(0, _), (1, _), (7, _), (8, _)] (Sub.cons rfl (Sub.cons rfl (Sub.cons rfl (Sub.cons rfl (Sub.nil _))))) ?_
    refine XC.block ?_
    refine XC.loop (σ := Int × List Int × Option Addr × Nat) (fun x => (21 - x.1).toNat) (fun x => (1 ≤ x.1 ∧ x.1 ≤ 21) ∧ x.2.1 = membersL (s.who n) x.1.toNat) (fun x => [(7, .slice x.2.2.1 x.2.1.length x.2.2.2), (8, .int .i64 x.1), (0, ptr b o 0), (1, .int .i64 n)]) (fun x => XM W (foot [.cells b o 158 (encU s)]) [irow x.2.2.1 x.2.2.2 3 x.2.1, .cells b o 158 (encU s)]) ((1, [], none, 0)) ?_ (Sub.cons rfl (Sub.cons rfl (Sub.cons rfl (Sub.cons rfl (Sub.nil _))))) (fun _ hw => XM.pick (.cons .here (.cons .here .nil)) hw) ?_
    · skip
      exact ⟨by omega, by have := hI.z n; simp [membersL, this]⟩
    intro x hx
    obtain ⟨hx, hL⟩ := hx
    have hlen := membersL_length (s.who n) x.1.toNat
    rw [← hL] at hlen
    have hnx := membersI_next (s.who n) (k := x.1) (by omega)
    have hbd := hI.bnd n x.1
    refine XC.seq ?_
    refine XC.seq ?_
    refine XC.region ?_
    refine XO.v (V.move rfl) rfl ?_
    refine XO.v (V.cmp rfl rfl rfl) rfl ?_
    refine XO.nil ?_
    refine XE.next ?_
    refine XC.keep [(0, _), (1, _), (7, _), (8, _), (16, _)] (Sub.cons rfl (Sub.cons rfl (Sub.cons rfl (Sub.cons rfl (Sub.cons rfl (Sub.nil _)))))) ?_
    refine XC.condP rfl (fun h4 => ?_) (fun h4 => ?_)
    · skip
      refine XC.skip ?_
      refine XE.next ?_
      refine XC.keep [(0, _), (1, _), (7, _), (8, _)] (Sub.cons rfl (Sub.cons rfl (Sub.cons rfl (Sub.cons rfl (Sub.nil _))))) ?_
      refine XC.seq ?_
      refine XC.block ?_
      refine XC.seq ?_
      refine XC.region ?_
      refine XO.v (V.move rfl) rfl ?_
      refine XO.v (V.move rfl) rfl ?_
      refine XO.v (V.move rfl) rfl ?_
      refine XO.v (V.nilCheckP rfl) rfl ?_
      refine XO.v (V.fieldAddr rfl fo_104_0) rfl ?_
      refine XO.v (V.indexArr rfl rfl ar_102 (by omega)) rfl ?_
      refine XO.v (V.fieldAddr rfl fo_101_2) rfl ?_
      refine XO.v (V.indexArr rfl rfl ar_92 (by omega)) rfl ?_
      refine XO.v (V.load rfl (inXM (.there .here)) (encU.ld_S_I_Who_I _ _ _ (by omega) (by omega)) sc_3) rfl ?_
      refine XO.v (V.cmp rfl rfl rfl) rfl ?_
      refine XO.nil ?_
      refine XE.next ?_
      refine XC.keep [(0, _), (1, _), (7, _), (8, _), (28, _)] (Sub.cons rfl (Sub.cons rfl (Sub.cons rfl (Sub.cons rfl (Sub.cons rfl (Sub.nil _)))))) ?_
      refine XC.condP rfl (fun h5 => ?_) (fun h5 => ?_)
      · skip
        refine XC.region ?_
        refine XO.v (V.move rfl) rfl ?_
        refine XO.v (V.move rfl) rfl ?_
        refine XO.v (V.move rfl) rfl ?_
        refine XO.v (V.move rfl) rfl ?_
        refine XO.v (V.nilCheckP rfl) rfl ?_
        refine XO.v (V.fieldAddr rfl fo_104_0) rfl ?_
        refine XO.v (V.indexArr rfl rfl ar_102 (by omega)) rfl ?_
        refine XO.v (V.fieldAddr rfl fo_101_2) rfl ?_
        refine XO.v (V.indexArr rfl rfl ar_92 (by omega)) rfl ?_
        refine XO.v (V.load rfl (inXM (.there .here)) (encU.ld_S_I_Who_I _ _ _ (by omega) (by omega)) sc_3) rfl ?_
        refine XO.v (V.sub rfl rfl (s.who n x.1) (by rw [show s.who n x.1 + 1 - 1 = s.who n x.1 from by omega]; exact IntWalk.i64_in _ (by omega))) rfl ?_
        refine XO.buildSlice (A := #[.int .i64 _]) (vs := #[(0, .int .i64 _)]) rfl (bs1_85 _) rfl rfl ?_
        intro h6
        refine XO.appendI (e := 3) rfl rfl Try.underlying85 rt_3_1 (.there .here) .here (by omega) rfl ?_
        intro h7 h8
        refine XO.v (V.assign rfl) rfl ?_
        refine XO.nil ?_
        refine XE.blockNormal ?_
        refine XE.next ?_
        refine XC.keep [(0, _), (1, _), (7, _), (8, _)] (Sub.cons rfl (Sub.cons rfl (Sub.cons rfl (Sub.cons rfl (Sub.nil _))))) ?_
        refine XC.region ?_
        refine XO.v (V.move rfl) rfl ?_
        refine XO.v (V.add rfl rfl _ (IntWalk.i64_in _ (by omega))) rfl ?_
        refine XO.v (V.assign rfl) rfl ?_
        refine XO.nil ?_
        refine XE.again ((x.1 + 1, x.2.1 ++ [s.who n x.1], _, _)) ?_ ?_ (Sub.cons rfl (Sub.cons rfl (Sub.cons rfl (Sub.cons rfl (Sub.nil _))))) (fun _ hw => XM.pick (.cons .here (.cons (.there .here) .nil)) hw)
        · skip
          (first | omega | (simp; done) | (simp; omega))
        · skip
          exact ⟨by omega, by rw [hL]; exact (hnx.1 (by omega)).symm⟩
      · skip
        refine XC.skip ?_
        refine XE.blockNormal ?_
        refine XE.next ?_
        refine XC.keep [(0, _), (1, _), (7, _), (8, _)] (Sub.cons rfl (Sub.cons rfl (Sub.cons rfl (Sub.cons rfl (Sub.nil _))))) ?_
        refine XC.region ?_
        refine XO.v (V.move rfl) rfl ?_
        refine XO.v (V.add rfl rfl _ (IntWalk.i64_in _ (by omega))) rfl ?_
        refine XO.v (V.assign rfl) rfl ?_
        refine XO.nil ?_
        refine XE.again ((x.1 + 1, x.2.1, _, _)) ?_ ?_ (Sub.cons rfl (Sub.cons rfl (Sub.cons rfl (Sub.cons rfl (Sub.nil _))))) (fun _ hw => XM.pick (.cons .here (.cons .here .nil)) hw)
        · skip
          (first | omega | (simp; done) | (simp; omega))
        · skip
          exact ⟨by omega, by rw [hL]; exact (hnx.2 (by omega)).symm⟩
    · skip
      refine XC.exit ?_
      refine XE.thenExit ?_
      refine XE.thenExit ?_
      refine XE.blockExit ?_
      refine XE.next ?_
      refine XC.keep [(7, _)] (Sub.cons rfl (Sub.nil _)) ?_
      refine XC.seq ?_
      refine XC.region ?_
      refine XO.v (V.move rfl) rfl ?_
      refine XO.v (V.assign rfl) rfl ?_
      refine XO.v (V.assign rfl) rfl ?_
      refine XO.nil ?_
      refine XE.next ?_
      refine XC.keep [(4, _), (5, _)] (Sub.cons rfl (Sub.cons rfl (Sub.nil _))) ?_
      refine XC.ret ?_
      refine XE.ret2 rfl rfl rfl (post_of (.cons .here (.cons .here .nil)) rfl ?_)
      have hx21 : x.1 = 21 := by omega
      rw [hx21] at hL
      rw [SS.mem_ok i0]
      exact ⟨_, _, by rw [hL]; rfl, by rw [hL]; rfl⟩
set_option maxRecDepth 10000 in
set_option maxHeartbeats 400000 in
theorem u_Pid (b o : Nat) (s : SS) (p n : Int) (hz : s.who n 0 = -1) : Spec Try.prog 67 [ptr b o 0, .int .i64 p, .int .i64 n]
    [.cells b o 158 (encU s)]
    (fun v H1 => v = .tuple #[.int .i64 (s.pid p n).1, .int .i64 (s.pid p n).2] ∧ H1 = [.cells b o 158 (encU s)]) := by
  refine Spec.intro Try.func67 rfl rfl ?_
  intro W
  refine XC.seq ?_
  refine XC.region ?_
  refine XO.v (V.assign rfl) rfl ?_
  refine XO.v (V.assign rfl) rfl ?_
  refine XO.nil ?_
  refine XE.next ?_
  refine XC.keep [(0, _), (1, _), (2, _)] (Sub.cons rfl (Sub.cons rfl (Sub.cons rfl (Sub.nil _)))) ?_
  refine XC.seq ?_
  refine XC.seq ?_
  refine XC.region ?_
  refine XO.v (V.move rfl) rfl ?_
  refine XO.v (V.move rfl) rfl ?_
  refine XO.call rfl (u_Is _ _ _ _) (.cons .here .nil) cl_62 rfl ?_
  rintro _ _ ⟨⟨rfl, h1, h2⟩, rfl⟩
  have is0 := h1
  have is1 := h2
  refine XO.v (V.assign rfl) rfl ?_
  refine XO.nil ?_
  refine XE.next ?_
  refine XC.keep [(0, _), (1, _), (2, _), (8, _)] (Sub.cons rfl (Sub.cons rfl (Sub.cons rfl (Sub.cons rfl (Sub.nil _))))) ?_
  refine XC.seq ?_
  refine XC.region ?_
  refine XO.v (V.move rfl) rfl ?_
  refine XO.v (V.cmp rfl rfl rfl) rfl ?_
  refine XO.nil ?_
  refine XE.next ?_
  refine XC.keep [(0, _), (1, _), (2, _), (8, _), (14, _)] (Sub.cons rfl (Sub.cons rfl (Sub.cons rfl (Sub.cons rfl (Sub.cons rfl (Sub.nil _)))))) ?_
  refine XC.condP rfl (fun h3 => ?_) (fun h3 => ?_)
  · skip
    have i0 : s.is n ≠ 0 := by omega
    refine XC.seq ?_
    refine XC.region ?_
    refine XO.v (V.move rfl) rfl ?_
    refine XO.v (V.assign rfl) rfl ?_
    refine XO.v (V.assign rfl) rfl ?_
    refine XO.nil ?_
    refine XE.next ?_
    refine XC.keep [(6, _), (7, _)] (Sub.cons rfl (Sub.cons rfl (Sub.nil _))) ?_
    refine XC.ret ?_
    refine XE.thenRet ?_
    refine XE.ret2 rfl rfl rfl (post_of (.cons .here .nil) rfl ?_)
    first
    | (rw [SS.pid_err i0]; exact ⟨rfl, rfl⟩)
    | (rw [SS.pid_bound i0 (by omega)]; exact ⟨rfl, rfl⟩)
    | (rw [SS.pid_some (q := k) i0 (by omega) (by omega) (by omega) (fun j h1 h2 => by
        by_cases q : j = 0
        · rw [q, hz]; omega
        · exact hk2 j (by omega) h2)]; exact ⟨rfl, rfl⟩)
    | (rw [SS.pid_none i0 (by omega) (fun j h1 h2 => by
        by_cases q : j = 0
        · rw [q, hz]; omega
        · exact hk2 j (by omega) (by omega))]; exact ⟨rfl, rfl⟩)
  · skip
    have i0 : s.is n = 0 := by omega
    obtain ⟨i1, i2, i3⟩ := is1 i0
    refine XC.skip ?_
    refine XE.next ?_
    refine XC.keep [(0, _), (1, _), (2, _)] (Sub.cons rfl (Sub.cons rfl (Sub.cons rfl (Sub.nil _)))) ?_
    refine XC.seq ?_
    refine XC.seq ?_
    refine XC.region ?_
    refine XO.v (V.move rfl) rfl ?_
    refine XO.v (V.cmp rfl rfl rfl) rfl ?_
    refine XO.v (V.move rfl) rfl ?_
    refine XO.splitP (d := 18) rfl (fun h4 => ?_) (fun h4 => ?_)
    · skip
      refine XO.guardSkip rfl rfl rfl rfl rfl ?_
      refine XO.guardSkip rfl rfl rfl rfl rfl ?_
      refine XO.v (V.pick rfl rfl rfl rfl) rfl ?_
      refine XO.nil ?_
      refine XE.next ?_
      refine XC.keep [(0, _), (1, _), (2, _), (21, _)] (Sub.cons rfl (Sub.cons rfl (Sub.cons rfl (Sub.cons rfl (Sub.nil _))))) ?_
      refine XC.condT rfl rfl ?_
      refine XC.seq ?_
      refine XC.region ?_
      refine XO.v (V.assign rfl) rfl ?_
      refine XO.v (V.assign rfl) rfl ?_
      refine XO.nil ?_
      refine XE.next ?_
      refine XC.keep [(6, _), (7, _)] (Sub.cons rfl (Sub.cons rfl (Sub.nil _))) ?_
      refine XC.ret ?_
      refine XE.thenRet ?_
      refine XE.ret2 rfl rfl rfl (post_of (.cons .here .nil) rfl ?_)
      first
      | (rw [SS.pid_err i0]; exact ⟨rfl, rfl⟩)
      | (rw [SS.pid_bound i0 (by omega)]; exact ⟨rfl, rfl⟩)
      | (rw [SS.pid_some (q := k) i0 (by omega) (by omega) (by omega) (fun j h1 h2 => by
          by_cases q : j = 0
          · rw [q, hz]; omega
          · exact hk2 j (by omega) h2)]; exact ⟨rfl, rfl⟩)
      | (rw [SS.pid_none i0 (by omega) (fun j h1 h2 => by
          by_cases q : j = 0
          · rw [q, hz]; omega
          · exact hk2 j (by omega) (by omega))]; exact ⟨rfl, rfl⟩)
    · skip
      refine XO.guardRun rfl rfl rfl ?_
      refine XO.v (V.move rfl) rfl ?_
      refine XO.guardRun rfl rfl rfl ?_
      refine XO.v (V.cmp rfl rfl rfl) rfl ?_
      refine XO.v (V.pick rfl rfl rfl rfl) rfl ?_
      refine XO.nil ?_
      refine XE.next ?_
      refine XC.keep [(0, _), (1, _), (2, _), (21, _)] (Sub.cons rfl (Sub.cons rfl (Sub.cons rfl (Sub.cons rfl (Sub.nil _))))) ?_
      refine XC.condP rfl (fun h5 => ?_) (fun h5 => ?_)
      · skip
        refine XC.seq ?_
        refine XC.region ?_
        refine XO.v (V.assign rfl) rfl ?_
        refine XO.v (V.assign rfl) rfl ?_
        refine XO.nil ?_
        refine XE.next ?_
        refine XC.keep [(6, _), (7, _)] (Sub.cons rfl (Sub.cons rfl (Sub.nil _))) ?_
        refine XC.ret ?_
        refine XE.thenRet ?_
        refine XE.ret2 rfl rfl rfl (post_of (.cons .here .nil) rfl ?_)
        first
        | (rw [SS.pid_err i0]; exact ⟨rfl, rfl⟩)
        | (rw [SS.pid_bound i0 (by omega)]; exact ⟨rfl, rfl⟩)
        | (rw [SS.pid_some (q := k) i0 (by omega) (by omega) (by omega) (fun j h1 h2 => by
            by_cases q : j = 0
            · rw [q, hz]; omega
            · exact hk2 j (by omega) h2)]; exact ⟨rfl, rfl⟩)
        | (rw [SS.pid_none i0 (by omega) (fun j h1 h2 => by
            by_cases q : j = 0
            · rw [q, hz]; omega
            · exact hk2 j (by omega) (by omega))]; exact ⟨rfl, rfl⟩)
      · skip
        refine XC.skip ?_
        refine XE.next ?_
        refine XC.keep [(0, _), (1, _), (2, _)] (Sub.cons rfl (Sub.cons rfl (Sub.cons rfl (Sub.nil _)))) ?_
        refine XC.seq ?_
        refine XC.seq ?_
        refine XC.region ?_
        refine XO.v (V.assign rfl) rfl ?_
        refine XO.nil ?_
        refine XE.next ?_
        refine XC.keep [(0, _), (1, _), (2, _), (9, _)] (Sub.cons rfl (Sub.cons rfl (Sub.cons rfl (Sub.cons rfl (Sub.nil _))))) ?_
        refine XC.block ?_
        refine XC.loop (σ := Int) (fun k => (21 - k).toNat) (fun k => (1 ≤ k ∧ k ≤ 21) ∧ ∀ j : Int, 1 ≤ j → j < k → s.who n j ≠ p) (fun k => [(9, .int .i64 k), (0, ptr b o 0), (1, .int .i64 p), (2, .int .i64 n)]) (fun k => XM W (foot [.cells b o 158 (encU s)]) [.cells b o 158 (encU s)]) (1) ?_ (Sub.cons rfl (Sub.cons rfl (Sub.cons rfl (Sub.cons rfl (Sub.nil _))))) (fun _ hw => XM.pick (.cons .here .nil) hw) ?_
        · skip
          exact ⟨by omega, fun j h1 h2 => by omega⟩
        intro k hk
        obtain ⟨hk, hk2⟩ := hk
        refine XC.seq ?_
        refine XC.seq ?_
        refine XC.region ?_
        refine XO.v (V.move rfl) rfl ?_
        refine XO.v (V.cmp rfl rfl rfl) rfl ?_
        refine XO.nil ?_
        refine XE.next ?_
        refine XC.keep [(0, _), (1, _), (2, _), (9, _), (23, _)] (Sub.cons rfl (Sub.cons rfl (Sub.cons rfl (Sub.cons rfl (Sub.cons rfl (Sub.nil _)))))) ?_
        refine XC.condP rfl (fun h6 => ?_) (fun h6 => ?_)
        · skip
          refine XC.skip ?_
          refine XE.next ?_
          refine XC.keep [(0, _), (1, _), (2, _), (9, _)] (Sub.cons rfl (Sub.cons rfl (Sub.cons rfl (Sub.cons rfl (Sub.nil _))))) ?_
          refine XC.seq ?_
          refine XC.block ?_
          refine XC.seq ?_
          refine XC.region ?_
          refine XO.v (V.move rfl) rfl ?_
          refine XO.v (V.move rfl) rfl ?_
          refine XO.v (V.move rfl) rfl ?_
          refine XO.v (V.nilCheckP rfl) rfl ?_
          refine XO.v (V.fieldAddr rfl fo_104_0) rfl ?_
          refine XO.v (V.indexArr rfl rfl ar_102 (by omega)) rfl ?_
          refine XO.v (V.fieldAddr rfl fo_101_2) rfl ?_
          refine XO.v (V.indexArr rfl rfl ar_92 (by omega)) rfl ?_
          refine XO.v (V.load rfl (inXM .here) (encU.ld_S_I_Who_I _ _ _ (by omega) (by omega)) sc_3) rfl ?_
          refine XO.v (V.move rfl) rfl ?_
          refine XO.v (V.add rfl rfl _ (IntWalk.i64_in _ (by omega))) rfl ?_
          refine XO.v (V.cmp rfl rfl rfl) rfl ?_
          refine XO.nil ?_
          refine XE.next ?_
          refine XC.keep [(0, _), (1, _), (2, _), (9, _), (37, _)] (Sub.cons rfl (Sub.cons rfl (Sub.cons rfl (Sub.cons rfl (Sub.cons rfl (Sub.nil _)))))) ?_
          refine XC.condP rfl (fun h7 => ?_) (fun h7 => ?_)
          · skip
            refine XC.seq ?_
            refine XC.region ?_
            refine XO.v (V.move rfl) rfl ?_
            refine XO.v (V.assign rfl) rfl ?_
            refine XO.v (V.assign rfl) rfl ?_
            refine XO.nil ?_
            refine XE.next ?_
            refine XC.keep [(6, _), (7, _)] (Sub.cons rfl (Sub.cons rfl (Sub.nil _))) ?_
            refine XC.ret ?_
            refine XE.blockRet ?_
            refine XE.thenRet ?_
            refine XE.thenRet ?_
            refine XE.blockRet ?_
            refine XE.thenRet ?_
            refine XE.ret2 rfl rfl rfl (post_of (.cons .here .nil) rfl ?_)
            first
            | (rw [SS.pid_err i0]; exact ⟨rfl, rfl⟩)
            | (rw [SS.pid_bound i0 (by omega)]; exact ⟨rfl, rfl⟩)
            | (rw [SS.pid_some (q := k) i0 (by omega) (by omega) (by omega) (fun j h1 h2 => by
                by_cases q : j = 0
                · rw [q, hz]; omega
                · exact hk2 j (by omega) h2)]; exact ⟨rfl, rfl⟩)
            | (rw [SS.pid_none i0 (by omega) (fun j h1 h2 => by
                by_cases q : j = 0
                · rw [q, hz]; omega
                · exact hk2 j (by omega) (by omega))]; exact ⟨rfl, rfl⟩)
          · skip
            refine XC.skip ?_
            refine XE.blockNormal ?_
            refine XE.next ?_
            refine XC.keep [(0, _), (1, _), (2, _), (9, _)] (Sub.cons rfl (Sub.cons rfl (Sub.cons rfl (Sub.cons rfl (Sub.nil _))))) ?_
            refine XC.region ?_
            refine XO.v (V.move rfl) rfl ?_
            refine XO.v (V.add rfl rfl _ (IntWalk.i64_in _ (by omega))) rfl ?_
            refine XO.v (V.assign rfl) rfl ?_
            refine XO.nil ?_
            refine XE.again (k + 1) ?_ ?_ (Sub.cons rfl (Sub.cons rfl (Sub.cons rfl (Sub.cons rfl (Sub.nil _))))) (fun _ hw => XM.pick (.cons .here .nil) hw)
            · skip
              (first | omega | (simp; done) | (simp; omega))
            · skip
              refine ⟨by omega, fun j h1 h2 => ?_⟩
              by_cases hj : j = k
              · subst hj; omega
              · exact hk2 j h1 (by omega)
        · skip
          refine XC.exit ?_
          refine XE.thenExit ?_
          refine XE.thenExit ?_
          refine XE.blockExit ?_
          refine XE.next ?_
          refine XC.keep [] (Sub.nil _) ?_
          refine XC.seq ?_
          refine XC.region ?_
          refine XO.v (V.assign rfl) rfl ?_
          refine XO.v (V.assign rfl) rfl ?_
          refine XO.nil ?_
          refine XE.next ?_
          refine XC.keep [(6, _), (7, _)] (Sub.cons rfl (Sub.cons rfl (Sub.nil _))) ?_
          refine XC.ret ?_
          refine XE.ret2 rfl rfl rfl (post_of (.cons .here .nil) rfl ?_)
          first
          | (rw [SS.pid_err i0]; exact ⟨rfl, rfl⟩)
          | (rw [SS.pid_bound i0 (by omega)]; exact ⟨rfl, rfl⟩)
          | (rw [SS.pid_some (q := k) i0 (by omega) (by omega) (by omega) (fun j h1 h2 => by
              by_cases q : j = 0
              · rw [q, hz]; omega
              · exact hk2 j (by omega) h2)]; exact ⟨rfl, rfl⟩)
          | (rw [SS.pid_none i0 (by omega) (fun j h1 h2 => by
              by_cases q : j = 0
              · rw [q, hz]; omega
              · exact hk2 j (by omega) (by omega))]; exact ⟨rfl, rfl⟩)
set_option maxRecDepth 10000 in
set_option maxHeartbeats 400000 in
theorem u_Find (b o : Nat) (s : SS) (dep : Int → Nat) (hI : s.Inv dep) (n q : Int) : Spec Try.prog 71 [ptr b o 0, .int .i64 n, .int .i64 q]
    [.cells b o 158 (encU s)]
    (fun v H1 => v = .tuple #[.int .i64 (s.find n q).1, .int .i64 (s.find n q).2] ∧ H1 = [.cells b o 158 (encU s)]) := by
  have hbd := hI.bnd n q
  refine Spec.intro Try.func71 rfl rfl ?_
  intro W
  refine XC.seq ?_
  refine XC.region ?_
  refine XO.v (V.assign rfl) rfl ?_
  refine XO.v (V.assign rfl) rfl ?_
  refine XO.nil ?_
  refine XE.next ?_
  refine XC.keep [(0, _), (1, _), (2, _)] (Sub.cons rfl (Sub.cons rfl (Sub.cons rfl (Sub.nil _)))) ?_
  refine XC.seq ?_
  refine XC.seq ?_
  refine XC.region ?_
  refine XO.v (V.move rfl) rfl ?_
  refine XO.v (V.move rfl) rfl ?_
  refine XO.call rfl (u_Is _ _ _ _) (.cons .here .nil) cl_62 rfl ?_
  rintro _ _ ⟨⟨rfl, h1, h2⟩, rfl⟩
  have is0 := h1
  have is1 := h2
  refine XO.v (V.assign rfl) rfl ?_
  refine XO.nil ?_
  refine XE.next ?_
  refine XC.keep [(0, _), (1, _), (2, _), (8, _)] (Sub.cons rfl (Sub.cons rfl (Sub.cons rfl (Sub.cons rfl (Sub.nil _))))) ?_
  refine XC.seq ?_
  refine XC.region ?_
  refine XO.v (V.move rfl) rfl ?_
  refine XO.v (V.cmp rfl rfl rfl) rfl ?_
  refine XO.nil ?_
  refine XE.next ?_
  refine XC.keep [(0, _), (1, _), (2, _), (8, _), (13, _)] (Sub.cons rfl (Sub.cons rfl (Sub.cons rfl (Sub.cons rfl (Sub.cons rfl (Sub.nil _)))))) ?_
  refine XC.condP rfl (fun h3 => ?_) (fun h3 => ?_)
  · skip
    have i0 : s.is n ≠ 0 := by omega
    refine XC.seq ?_
    refine XC.region ?_
    refine XO.v (V.move rfl) rfl ?_
    refine XO.v (V.assign rfl) rfl ?_
    refine XO.v (V.assign rfl) rfl ?_
    refine XO.nil ?_
    refine XE.next ?_
    refine XC.keep [(6, _), (7, _)] (Sub.cons rfl (Sub.cons rfl (Sub.nil _))) ?_
    refine XC.ret ?_
    refine XE.thenRet ?_
    refine XE.ret2 rfl rfl rfl (post_of (.cons .here .nil) rfl ?_)
    first
    | (rw [SS.find_err i0]; exact ⟨rfl, rfl⟩)
    | (rw [SS.find_none i0 (by omega)]; exact ⟨rfl, rfl⟩)
    | (rw [SS.find_ok i0 (by omega) (by omega)]; exact ⟨rfl, rfl⟩)
  · skip
    have i0 : s.is n = 0 := by omega
    obtain ⟨i1, i2, i3⟩ := is1 i0
    refine XC.skip ?_
    refine XE.next ?_
    refine XC.keep [(0, _), (1, _), (2, _)] (Sub.cons rfl (Sub.cons rfl (Sub.cons rfl (Sub.nil _)))) ?_
    refine XC.seq ?_
    refine XC.seq ?_
    refine XC.region ?_
    refine XO.v (V.move rfl) rfl ?_
    refine XO.v (V.cmp rfl rfl rfl) rfl ?_
    refine XO.v (V.move rfl) rfl ?_
    refine XO.splitP (d := 17) rfl (fun h4 => ?_) (fun h4 => ?_)
    · skip
      refine XO.guardSkip rfl rfl rfl rfl rfl ?_
      refine XO.guardSkip rfl rfl rfl rfl rfl ?_
      refine XO.v (V.pick rfl rfl rfl rfl) rfl ?_
      refine XO.v (V.move rfl) rfl ?_
      refine XO.guardSkip rfl rfl rfl rfl rfl ?_
      refine XO.guardSkip rfl rfl rfl rfl rfl ?_
      refine XO.guardSkip rfl rfl rfl rfl rfl ?_
      refine XO.guardSkip rfl rfl rfl rfl rfl ?_
      refine XO.guardSkip rfl rfl rfl rfl rfl ?_
      refine XO.guardSkip rfl rfl rfl rfl rfl ?_
      refine XO.guardSkip rfl rfl rfl rfl rfl ?_
      refine XO.guardSkip rfl rfl rfl rfl rfl ?_
      refine XO.guardSkip rfl rfl rfl rfl rfl ?_
      refine XO.guardSkip rfl rfl rfl rfl rfl ?_
      refine XO.v (V.pick rfl rfl rfl rfl) rfl ?_
      refine XO.nil ?_
      refine XE.next ?_
      refine XC.keep [(0, _), (1, _), (2, _), (32, _)] (Sub.cons rfl (Sub.cons rfl (Sub.cons rfl (Sub.cons rfl (Sub.nil _))))) ?_
      refine XC.condT rfl rfl ?_
      refine XC.seq ?_
      refine XC.region ?_
      refine XO.v (V.assign rfl) rfl ?_
      refine XO.v (V.assign rfl) rfl ?_
      refine XO.nil ?_
      refine XE.next ?_
      refine XC.keep [(6, _), (7, _)] (Sub.cons rfl (Sub.cons rfl (Sub.nil _))) ?_
      refine XC.ret ?_
      refine XE.thenRet ?_
      refine XE.ret2 rfl rfl rfl (post_of (.cons .here .nil) rfl ?_)
      first
      | (rw [SS.find_err i0]; exact ⟨rfl, rfl⟩)
      | (rw [SS.find_none i0 (by omega)]; exact ⟨rfl, rfl⟩)
      | (rw [SS.find_ok i0 (by omega) (by omega)]; exact ⟨rfl, rfl⟩)
    · skip
      refine XO.guardRun rfl rfl rfl ?_
      refine XO.v (V.move rfl) rfl ?_
      refine XO.guardRun rfl rfl rfl ?_
      refine XO.v (V.cmp rfl rfl rfl) rfl ?_
      refine XO.v (V.pick rfl rfl rfl rfl) rfl ?_
      refine XO.v (V.move rfl) rfl ?_
      refine XO.splitP (d := 21) rfl (fun h5 => ?_) (fun h5 => ?_)
      · skip
        refine XO.guardSkip rfl rfl rfl rfl rfl ?_
        refine XO.guardSkip rfl rfl rfl rfl rfl ?_
        refine XO.guardSkip rfl rfl rfl rfl rfl ?_
        refine XO.guardSkip rfl rfl rfl rfl rfl ?_
        refine XO.guardSkip rfl rfl rfl rfl rfl ?_
        refine XO.guardSkip rfl rfl rfl rfl rfl ?_
        refine XO.guardSkip rfl rfl rfl rfl rfl ?_
        refine XO.guardSkip rfl rfl rfl rfl rfl ?_
        refine XO.guardSkip rfl rfl rfl rfl rfl ?_
        refine XO.guardSkip rfl rfl rfl rfl rfl ?_
        refine XO.v (V.pick rfl rfl rfl rfl) rfl ?_
        refine XO.nil ?_
        refine XE.next ?_
        refine XC.keep [(0, _), (1, _), (2, _), (32, _)] (Sub.cons rfl (Sub.cons rfl (Sub.cons rfl (Sub.cons rfl (Sub.nil _))))) ?_
        refine XC.condT rfl rfl ?_
        refine XC.seq ?_
        refine XC.region ?_
        refine XO.v (V.assign rfl) rfl ?_
        refine XO.v (V.assign rfl) rfl ?_
        refine XO.nil ?_
        refine XE.next ?_
        refine XC.keep [(6, _), (7, _)] (Sub.cons rfl (Sub.cons rfl (Sub.nil _))) ?_
        refine XC.ret ?_
        refine XE.thenRet ?_
        refine XE.ret2 rfl rfl rfl (post_of (.cons .here .nil) rfl ?_)
        first
        | (rw [SS.find_err i0]; exact ⟨rfl, rfl⟩)
        | (rw [SS.find_none i0 (by omega)]; exact ⟨rfl, rfl⟩)
        | (rw [SS.find_ok i0 (by omega) (by omega)]; exact ⟨rfl, rfl⟩)
      · skip
        refine XO.guardRun rfl rfl rfl ?_
        refine XO.v (V.move rfl) rfl ?_
        refine XO.guardRun rfl rfl rfl ?_
        refine XO.v (V.move rfl) rfl ?_
        refine XO.guardRun rfl rfl rfl ?_
        refine XO.v (V.move rfl) rfl ?_
        refine XO.guardRun rfl rfl rfl ?_
        refine XO.v (V.nilCheckP rfl) rfl ?_
        refine XO.guardRun rfl rfl rfl ?_
        refine XO.v (V.fieldAddr rfl fo_104_0) rfl ?_
        refine XO.guardRun rfl rfl rfl ?_
        refine XO.v (V.indexArr rfl rfl ar_102 (by omega)) rfl ?_
        refine XO.guardRun rfl rfl rfl ?_
        refine XO.v (V.fieldAddr rfl fo_101_2) rfl ?_
        refine XO.guardRun rfl rfl rfl ?_
        refine XO.v (V.indexArr rfl rfl ar_92 (by omega)) rfl ?_
        refine XO.guardRun rfl rfl rfl ?_
        refine XO.v (V.load rfl (inXM .here) (encU.ld_S_I_Who_I _ _ _ (by omega) (by omega)) sc_3) rfl ?_
        refine XO.guardRun rfl rfl rfl ?_
        refine XO.v (V.cmp rfl rfl rfl) rfl ?_
        refine XO.v (V.pick rfl rfl rfl rfl) rfl ?_
        refine XO.nil ?_
        refine XE.next ?_
        refine XC.keep [(0, _), (1, _), (2, _), (32, _)] (Sub.cons rfl (Sub.cons rfl (Sub.cons rfl (Sub.cons rfl (Sub.nil _))))) ?_
        refine XC.condP rfl (fun h6 => ?_) (fun h6 => ?_)
        · skip
          refine XC.seq ?_
          refine XC.region ?_
          refine XO.v (V.assign rfl) rfl ?_
          refine XO.v (V.assign rfl) rfl ?_
          refine XO.nil ?_
          refine XE.next ?_
          refine XC.keep [(6, _), (7, _)] (Sub.cons rfl (Sub.cons rfl (Sub.nil _))) ?_
          refine XC.ret ?_
          refine XE.thenRet ?_
          refine XE.ret2 rfl rfl rfl (post_of (.cons .here .nil) rfl ?_)
          first
          | (rw [SS.find_err i0]; exact ⟨rfl, rfl⟩)
          | (rw [SS.find_none i0 (by omega)]; exact ⟨rfl, rfl⟩)
          | (rw [SS.find_ok i0 (by omega) (by omega)]; exact ⟨rfl, rfl⟩)
        · skip
          refine XC.skip ?_
          refine XE.next ?_
          refine XC.keep [(0, _), (1, _), (2, _)] (Sub.cons rfl (Sub.cons rfl (Sub.cons rfl (Sub.nil _)))) ?_
          refine XC.seq ?_
          refine XC.region ?_
          refine XO.v (V.move rfl) rfl ?_
          refine XO.v (V.move rfl) rfl ?_
          refine XO.v (V.move rfl) rfl ?_
          refine XO.v (V.nilCheckP rfl) rfl ?_
          refine XO.v (V.fieldAddr rfl fo_104_0) rfl ?_
          refine XO.v (V.indexArr rfl rfl ar_102 (by omega)) rfl ?_
          refine XO.v (V.fieldAddr rfl fo_101_2) rfl ?_
          refine XO.v (V.indexArr rfl rfl ar_92 (by omega)) rfl ?_
          refine XO.v (V.load rfl (inXM .here) (encU.ld_S_I_Who_I _ _ _ (by omega) (by omega)) sc_3) rfl ?_
          refine XO.v (V.sub rfl rfl (s.who n q) (by rw [show s.who n q + 1 - 1 = s.who n q from by omega]; exact IntWalk.i64_in _ (by omega))) rfl ?_
          refine XO.v (V.assign rfl) rfl ?_
          refine XO.v (V.assign rfl) rfl ?_
          refine XO.nil ?_
          refine XE.next ?_
          refine XC.keep [(6, _), (7, _)] (Sub.cons rfl (Sub.cons rfl (Sub.nil _))) ?_
          refine XC.ret ?_
          refine XE.ret2 rfl rfl rfl (post_of (.cons .here .nil) rfl ?_)
          first
          | (rw [SS.find_err i0]; exact ⟨rfl, rfl⟩)
          | (rw [SS.find_none i0 (by omega)]; exact ⟨rfl, rfl⟩)
          | (rw [SS.find_ok i0 (by omega) (by omega)]; exact ⟨rfl, rfl⟩)
set_option maxRecDepth 10000 in
set_option maxHeartbeats 400000 in
theorem u_All (b o : Nat) (s : SS) : Spec Try.prog 73 [ptr b o 0]
    [.cells b o 158 (encU s)]
    (fun v H1 => ∃ p cap, v = .slice p (allL s.here 6).length cap ∧ H1 = [irow p cap 3 (allL s.here 6), .cells b o 158 (encU s)]) := by
  refine Spec.intro Try.func73 rfl rfl ?_
  intro W
  refine XC.seq ?_
  refine XC.region ?_
  refine XO.v (V.assign rfl) rfl ?_
  refine XO.nil ?_
  refine XE.next ?_
  refine XC.keep [(0, _)] (Sub.cons rfl (Sub.nil _)) ?_
  refine XC.seq ?_
  refine XC.region ?_
  refine XO.v (V.assign rfl) rfl ?_
  refine XO.nilRow 3 1 ?_
  refine XO.nil ?_
  refine XE.next ?_
  refine XC.keep [(0, _), (3, _)] (Sub.cons rfl (Sub.cons rfl (Sub.nil _))) ?_
  refine XC.seq ?_
  refine XC.seq ?_
  refine XC.region ?_
  refine XO.v (V.assign rfl) rfl ?_
  refine XO.nil ?_
  refine XE.next ?_
  refine XC.keep [(0, _), (3, _), (4, _)] (Sub.cons rfl (Sub.cons rfl (Sub.cons rfl (Sub.nil _)))) ?_
  refine XC.block ?_
  refine XC.loop (σ := Int × List Int × Option Addr × Nat) (fun x => (6 - x.1).toNat) (fun x => (0 ≤ x.1 ∧ x.1 ≤ 6) ∧ x.2.1 = allL s.here x.1.toNat) (fun x => [(3, .slice x.2.2.1 x.2.1.length x.2.2.2), (4, .int .i64 x.1), (0, ptr b o 0)]) (fun x => XM W (foot [.cells b o 158 (encU s)]) [irow x.2.2.1 x.2.2.2 3 x.2.1, .cells b o 158 (encU s)]) ((0, [], none, 0)) ?_ (Sub.cons rfl (Sub.cons rfl (Sub.cons rfl (Sub.nil _)))) (fun _ hw => XM.pick (.cons .here (.cons .here .nil)) hw) ?_
  · skip
    exact ⟨by omega, rfl⟩
  intro x hx
  obtain ⟨hx, hL⟩ := hx
  have hlen := allL_length s.here x.1.toNat
  rw [← hL] at hlen
  have hnx := allI_next s.here hx.1
  refine XC.seq ?_
  refine XC.seq ?_
  refine XC.region ?_
  refine XO.v (V.move rfl) rfl ?_
  refine XO.v (V.cmp rfl rfl rfl) rfl ?_
  refine XO.nil ?_
  refine XE.next ?_
  refine XC.keep [(0, _), (3, _), (4, _), (6, _)] (Sub.cons rfl (Sub.cons rfl (Sub.cons rfl (Sub.cons rfl (Sub.nil _))))) ?_
  refine XC.condP rfl (fun h1 => ?_) (fun h1 => ?_)
  · skip
    refine XC.skip ?_
    refine XE.next ?_
    refine XC.keep [(0, _), (3, _), (4, _)] (Sub.cons rfl (Sub.cons rfl (Sub.cons rfl (Sub.nil _)))) ?_
    refine XC.seq ?_
    refine XC.block ?_
    refine XC.seq ?_
    refine XC.region ?_
    refine XO.v (V.move rfl) rfl ?_
    refine XO.v (V.move rfl) rfl ?_
    refine XO.v (V.nilCheckP rfl) rfl ?_
    refine XO.v (V.fieldAddr rfl fo_104_0) rfl ?_
    refine XO.v (V.indexArr rfl rfl ar_102 (by omega)) rfl ?_
    refine XO.v (V.fieldAddr rfl fo_101_0) rfl ?_
    refine XO.v (V.load rfl (inXM (.there .here)) (encU.ld_S_I_Here _ _ (by omega)) sc_4) rfl ?_
    refine XO.nil ?_
    refine XE.next ?_
    refine XC.keep [(0, _), (3, _), (4, _), (15, _)] (Sub.cons rfl (Sub.cons rfl (Sub.cons rfl (Sub.cons rfl (Sub.nil _))))) ?_
    refine XC.cond rfl (fun h2 => ?_) (fun h2 => ?_)
    · try simp only [decide_eq_true_eq, decide_eq_false_iff_not, Bool.not_eq_true', Bool.not_eq_false', Bool.not_eq_eq_eq_not, Bool.not_true, Bool.not_false, beq_iff_eq, bne_iff_ne, ne_eq, beq_eq_false_iff_ne, bne_eq_false_iff_eq, Int.not_lt, Int.not_le, gt_iff_lt, ge_iff_le, Bool.and_eq_true, Bool.or_eq_true, Bool.and_eq_false_iff, Bool.or_eq_false_iff, Decidable.not_not] at h2
      refine XC.region ?_
      refine XO.v (V.move rfl) rfl ?_
      refine XO.v (V.move rfl) rfl ?_
      refine XO.buildSlice (A := #[.int .i64 _]) (vs := #[(0, .int .i64 _)]) rfl (bs1_85 _) rfl rfl ?_
      intro h3
      refine XO.appendI (e := 3) rfl rfl Try.underlying85 rt_3_1 (.there .here) .here (by omega) rfl ?_
      intro h4 h5
      refine XO.v (V.assign rfl) rfl ?_
      refine XO.nil ?_
      refine XE.blockNormal ?_
      refine XE.next ?_
      refine XC.keep [(0, _), (3, _), (4, _)] (Sub.cons rfl (Sub.cons rfl (Sub.cons rfl (Sub.nil _)))) ?_
      refine XC.region ?_
      refine XO.v (V.move rfl) rfl ?_
      refine XO.v (V.add rfl rfl _ (IntWalk.i64_in _ (by omega))) rfl ?_
      refine XO.v (V.assign rfl) rfl ?_
      refine XO.nil ?_
      refine XE.again ((x.1 + 1, x.2.1 ++ [x.1], _, _)) ?_ ?_ (Sub.cons rfl (Sub.cons rfl (Sub.cons rfl (Sub.nil _)))) (fun _ hw => XM.pick (.cons .here (.cons (.there .here) .nil)) hw)
      · skip
        (first | omega | (simp; done) | (simp; omega))
      · skip
        exact ⟨by omega, by rw [hL]; exact (hnx.1 (by assumption)).symm⟩
    · try simp only [decide_eq_true_eq, decide_eq_false_iff_not, Bool.not_eq_true', Bool.not_eq_false', Bool.not_eq_eq_eq_not, Bool.not_true, Bool.not_false, beq_iff_eq, bne_iff_ne, ne_eq, beq_eq_false_iff_ne, bne_eq_false_iff_eq, Int.not_lt, Int.not_le, gt_iff_lt, ge_iff_le, Bool.and_eq_true, Bool.or_eq_true, Bool.and_eq_false_iff, Bool.or_eq_false_iff, Decidable.not_not] at h2
      refine XC.skip ?_
      refine XE.blockNormal ?_
      refine XE.next ?_
      refine XC.keep [(0, _), (3, _), (4, _)] (Sub.cons rfl (Sub.cons rfl (Sub.cons rfl (Sub.nil _)))) ?_
      refine XC.region ?_
      refine XO.v (V.move rfl) rfl ?_
      refine XO.v (V.add rfl rfl _ (IntWalk.i64_in _ (by omega))) rfl ?_
      refine XO.v (V.assign rfl) rfl ?_
      refine XO.nil ?_
      refine XE.again ((x.1 + 1, x.2.1, _, _)) ?_ ?_ (Sub.cons rfl (Sub.cons rfl (Sub.cons rfl (Sub.nil _)))) (fun _ hw => XM.pick (.cons .here (.cons .here .nil)) hw)
      · skip
        (first | omega | (simp; done) | (simp; omega))
      · skip
        exact ⟨by omega, by rw [hL]; exact (hnx.2 (by assumption)).symm⟩
  · skip
    refine XC.exit ?_
    refine XE.thenExit ?_
    refine XE.thenExit ?_
    refine XE.blockExit ?_
    refine XE.next ?_
    refine XC.keep [(3, _)] (Sub.cons rfl (Sub.nil _)) ?_
    refine XC.seq ?_
    refine XC.region ?_
    refine XO.v (V.move rfl) rfl ?_
    refine XO.v (V.assign rfl) rfl ?_
    refine XO.nil ?_
    refine XE.next ?_
    refine XC.keep [(2, _)] (Sub.cons rfl (Sub.nil _)) ?_
    refine XC.ret ?_
    refine XE.ret1 rfl rfl (post_of (.cons .here (.cons .here .nil)) rfl ?_)
    have hx21 : x.1 = 6 := by omega
    rw [hx21] at hL
    exact ⟨_, _, by rw [hL]; rfl, by rw [hL]; rfl⟩
set_option maxRecDepth 10000 in
set_option maxHeartbeats 400000 in
theorem u_New  : Spec Try.prog 12 []
    []
    (fun v H1 => ∃ b, v = ptr b 0 0 ∧ H1 = [.cells b 0 158 (encU SS.init)]) := by
  refine Spec.intro Try.func12 rfl rfl ?_
  intro W
  refine XC.seq ?_
  refine XC.region ?_
  refine XO.v (V.assign rfl) rfl ?_
  refine XO.nil ?_
  refine XE.next ?_
  refine XC.keep [] (Sub.nil _) ?_
  refine XC.seq ?_
  refine XC.region ?_
  refine XO.v (V.build (vs := #[]) rfl (v := .agg tZero) (fun _ => by kernel_rfl)) rfl ?_
  refine XO.box (m := 158) (C := encU SS.zeroU) rfl rfl boxU_init rfl ?_
  intro bs
  refine XO.v (V.assign rfl) rfl ?_
  refine XO.nil ?_
  refine XE.next ?_
  refine XC.keep [(1, _)] (Sub.cons rfl (Sub.nil _)) ?_
  refine XC.seq ?_
  refine XC.region ?_
  refine XO.v (V.move rfl) rfl ?_
  refine XO.v (V.build (vs := #[(0, .bool true), (1, .int .i64 (-1))]) rfl (v := .agg (frU (-1))) (fun _ => by kernel_rfl)) rfl ?_
  refine XO.v (V.nilCheckP rfl) rfl ?_
  refine XO.v (V.fieldAddr rfl fo_104_0) rfl ?_
  refine XO.v (V.indexArr rfl rfl ar_102 (by omega)) rfl ?_
  refine XO.storeAgg rfl rfl .here (encU_fresh _ _ _ (by omega) (fun _ => rfl)) ⟨rfl, rfl⟩ sz_101_23 ?_
  refine XO.nil ?_
  refine XE.next ?_
  refine XC.keep [(1, _)] (Sub.cons rfl (Sub.nil _)) ?_
  refine XC.seq ?_
  refine XC.region ?_
  refine XO.v (V.move rfl) rfl ?_
  refine XO.v (V.assign rfl) rfl ?_
  refine XO.nil ?_
  refine XE.next ?_
  refine XC.keep [(0, _)] (Sub.cons rfl (Sub.nil _)) ?_
  refine XC.ret ?_
  refine XE.ret1 rfl rfl (post_of (.cons .here .nil) rfl ?_)
  exact ⟨_, rfl, rfl⟩
set_option maxRecDepth 10000 in
set_option maxHeartbeats 400000 in
theorem u_Add (b o : Nat) (s : SS) (dep : Int → Nat) (hI : s.Inv dep) (n : Int) : Spec Try.prog 14 [ptr b o 0, .int .i64 n]
    [.cells b o 158 (encU s)]
    (fun v H1 => v = .tuple #[.int .i64 (s.add dep n).1, .int .i64 (s.add dep n).2.1] ∧ H1 = [.cells b o 158 (encU (s.add dep n).2.2)]) := by
  have hD := hI.D
  refine Spec.intro Try.func14 rfl rfl ?_
  intro W
  refine XC.seq ?_
  refine XC.region ?_
  refine XO.v (V.assign rfl) rfl ?_
  refine XO.v (V.assign rfl) rfl ?_
  refine XO.nil ?_
  refine XE.next ?_
  refine XC.keep [(0, _), (1, _)] (Sub.cons rfl (Sub.cons rfl (Sub.nil _))) ?_
  refine XC.seq ?_
  refine XC.seq ?_
  refine XC.region ?_
  refine XO.v (V.move rfl) rfl ?_
  refine XO.v (V.move rfl) rfl ?_
  refine XO.call rfl (u_Is _ _ _ _) (.cons .here .nil) cl_62 rfl ?_
  rintro _ _ ⟨⟨rfl, h1, h2⟩, rfl⟩
  have is0 := h1
  have is1 := h2
  refine XO.v (V.assign rfl) rfl ?_
  refine XO.nil ?_
  refine XE.next ?_
  refine XC.keep [(0, _), (1, _), (6, _)] (Sub.cons rfl (Sub.cons rfl (Sub.cons rfl (Sub.nil _)))) ?_
  refine XC.seq ?_
  refine XC.region ?_
  refine XO.v (V.move rfl) rfl ?_
  refine XO.v (V.cmp rfl rfl rfl) rfl ?_
  refine XO.nil ?_
  refine XE.next ?_
  refine XC.keep [(0, _), (1, _), (6, _), (12, _)] (Sub.cons rfl (Sub.cons rfl (Sub.cons rfl (Sub.cons rfl (Sub.nil _))))) ?_
  refine XC.condP rfl (fun h3 => ?_) (fun h3 => ?_)
  · skip
    have i0 : s.is n ≠ 0 := by omega
    refine XC.seq ?_
    refine XC.region ?_
    refine XO.v (V.move rfl) rfl ?_
    refine XO.v (V.assign rfl) rfl ?_
    refine XO.v (V.assign rfl) rfl ?_
    refine XO.nil ?_
    refine XE.next ?_
    refine XC.keep [(4, _), (5, _)] (Sub.cons rfl (Sub.cons rfl (Sub.nil _))) ?_
    refine XC.ret ?_
    refine XE.thenRet ?_
    refine XE.ret2 rfl rfl rfl (post_of (.cons .here .nil) rfl ?_)
    rw [SS.add_err i0]; exact ⟨rfl, rfl⟩
  · skip
    have i0 : s.is n = 0 := by omega
    obtain ⟨i1, i2, i3⟩ := is1 i0
    refine XC.skip ?_
    refine XE.next ?_
    refine XC.keep [(0, _), (1, _)] (Sub.cons rfl (Sub.cons rfl (Sub.nil _))) ?_
    refine XC.seq ?_
    refine XC.seq ?_
    refine XC.region ?_
    refine XO.v (V.move rfl) rfl ?_
    refine XO.v (V.move rfl) rfl ?_
    refine XO.call rfl (u_Way _ _ _ dep hD _ ⟨by omega, by omega, by assumption⟩) (.cons .here .nil) cl_63 rfl ?_
    rintro _ _ ⟨pl, cl, rfl, rfl⟩
    refine XO.v (V.lenSl rfl Try.underlying85) rfl ?_
    refine XO.v (V.cmp rfl rfl rfl) rfl ?_
    refine XO.nil ?_
    refine XE.next ?_
    refine XC.keep [(0, _), (1, _), (18, _)] (Sub.cons rfl (Sub.cons rfl (Sub.cons rfl (Sub.nil _)))) ?_
    refine XC.condP rfl (fun h4 => ?_) (fun h4 => ?_)
    · skip
      have hdp := s.way_len dep n
      refine XC.seq ?_
      refine XC.region ?_
      refine XO.v (V.assign rfl) rfl ?_
      refine XO.v (V.assign rfl) rfl ?_
      refine XO.nil ?_
      refine XE.next ?_
      refine XC.keep [(4, _), (5, _)] (Sub.cons rfl (Sub.cons rfl (Sub.nil _))) ?_
      refine XC.ret ?_
      refine XE.thenRet ?_
      refine XE.ret2 rfl rfl rfl (post_of (.cons (.there .here) .nil) rfl ?_)
      rw [SS.add_deep i0 (by omega)]; exact ⟨rfl, rfl⟩
    · skip
      have hdp := s.way_len dep n
      refine XC.skip ?_
      refine XE.next ?_
      refine XC.keep [(0, _), (1, _)] (Sub.cons rfl (Sub.cons rfl (Sub.nil _))) ?_
      refine XC.seq ?_
      refine XC.seq ?_
      refine XC.region ?_
      refine XO.v (V.assign rfl) rfl ?_
      refine XO.nil ?_
      refine XE.next ?_
      refine XC.keep [(0, _), (1, _), (7, _)] (Sub.cons rfl (Sub.cons rfl (Sub.cons rfl (Sub.nil _)))) ?_
      refine XC.block ?_
      refine XC.loop (σ := Int) (fun k => (6 - k).toNat) (fun k => (0 ≤ k ∧ k ≤ 6) ∧ ∀ j : Int, 0 ≤ j → j < k → s.here j = true) (fun k => [(7, .int .i64 k), (0, ptr b o 0), (1, .int .i64 n)]) (fun k => XM W (foot [.cells b o 158 (encU s)]) [.cells b o 158 (encU s)]) (0) ?_ (Sub.cons rfl (Sub.cons rfl (Sub.cons rfl (Sub.nil _)))) (fun _ hw => XM.pick (.cons (.there .here) .nil) hw) ?_
      · skip
        exact ⟨by omega, fun j h1 h2 => by omega⟩
      intro k hk
      obtain ⟨hk, hk2⟩ := hk
      refine XC.seq ?_
      refine XC.seq ?_
      refine XC.region ?_
      refine XO.v (V.move rfl) rfl ?_
      refine XO.v (V.cmp rfl rfl rfl) rfl ?_
      refine XO.nil ?_
      refine XE.next ?_
      refine XC.keep [(0, _), (1, _), (7, _), (20, _)] (Sub.cons rfl (Sub.cons rfl (Sub.cons rfl (Sub.cons rfl (Sub.nil _))))) ?_
      refine XC.condP rfl (fun h5 => ?_) (fun h5 => ?_)
      · skip
        refine XC.skip ?_
        refine XE.next ?_
        refine XC.keep [(0, _), (1, _), (7, _)] (Sub.cons rfl (Sub.cons rfl (Sub.cons rfl (Sub.nil _)))) ?_
        refine XC.seq ?_
        refine XC.block ?_
        refine XC.seq ?_
        refine XC.region ?_
        refine XO.v (V.move rfl) rfl ?_
        refine XO.v (V.move rfl) rfl ?_
        refine XO.v (V.nilCheckP rfl) rfl ?_
        refine XO.v (V.fieldAddr rfl fo_104_0) rfl ?_
        refine XO.v (V.indexArr rfl rfl ar_102 (by omega)) rfl ?_
        refine XO.v (V.fieldAddr rfl fo_101_0) rfl ?_
        refine XO.v (V.load rfl (inXM .here) (encU.ld_S_I_Here _ _ (by omega)) sc_4) rfl ?_
        refine XO.v (V.not rfl) rfl ?_
        refine XO.nil ?_
        refine XE.next ?_
        refine XC.keep [(0, _), (1, _), (7, _), (30, _)] (Sub.cons rfl (Sub.cons rfl (Sub.cons rfl (Sub.cons rfl (Sub.nil _))))) ?_
        refine XC.cond rfl (fun h6 => ?_) (fun h6 => ?_)
        · try simp only [decide_eq_true_eq, decide_eq_false_iff_not, Bool.not_eq_true', Bool.not_eq_false', Bool.not_eq_eq_eq_not, Bool.not_true, Bool.not_false, beq_iff_eq, bne_iff_ne, ne_eq, beq_eq_false_iff_ne, bne_eq_false_iff_eq, Int.not_lt, Int.not_le, gt_iff_lt, ge_iff_le, Bool.and_eq_true, Bool.or_eq_true, Bool.and_eq_false_iff, Bool.or_eq_false_iff, Decidable.not_not] at h6
          refine XC.seq ?_
          refine XC.region ?_
          refine XO.v (V.move rfl) rfl ?_
          refine XO.v (V.move rfl) rfl ?_
          refine XO.v (V.move rfl) rfl ?_
          refine XO.v (V.build (vs := #[(0, .bool true), (1, .int .i64 n)]) rfl (v := .agg (frU n)) (fun _ => by kernel_rfl)) rfl ?_
          refine XO.v (V.nilCheckP rfl) rfl ?_
          refine XO.v (V.fieldAddr rfl fo_104_0) rfl ?_
          refine XO.v (V.indexArr rfl rfl ar_102 (by omega)) rfl ?_
          refine XO.storeAgg rfl rfl .here (encU_fresh _ _ _ (by omega) (hI.A _ (by assumption))) ⟨rfl, rfl⟩ sz_101_23 ?_
          refine XO.nil ?_
          refine XE.next ?_
          refine XC.keep [(7, _)] (Sub.cons rfl (Sub.nil _)) ?_
          refine XC.seq ?_
          refine XC.region ?_
          refine XO.v (V.move rfl) rfl ?_
          refine XO.v (V.assign rfl) rfl ?_
          refine XO.v (V.assign rfl) rfl ?_
          refine XO.nil ?_
          refine XE.next ?_
          refine XC.keep [(4, _), (5, _)] (Sub.cons rfl (Sub.cons rfl (Sub.nil _))) ?_
          refine XC.ret ?_
          refine XE.blockRet ?_
          refine XE.thenRet ?_
          refine XE.thenRet ?_
          refine XE.blockRet ?_
          refine XE.thenRet ?_
          refine XE.ret2 rfl rfl rfl (post_of (.cons .here .nil) rfl ?_)
          rw [SS.add_some (k := k) i0 (by omega) (by omega) (by assumption) hk2]; exact ⟨rfl, rfl⟩
        · try simp only [decide_eq_true_eq, decide_eq_false_iff_not, Bool.not_eq_true', Bool.not_eq_false', Bool.not_eq_eq_eq_not, Bool.not_true, Bool.not_false, beq_iff_eq, bne_iff_ne, ne_eq, beq_eq_false_iff_ne, bne_eq_false_iff_eq, Int.not_lt, Int.not_le, gt_iff_lt, ge_iff_le, Bool.and_eq_true, Bool.or_eq_true, Bool.and_eq_false_iff, Bool.or_eq_false_iff, Decidable.not_not] at h6
          refine XC.skip ?_
          refine XE.blockNormal ?_
          refine XE.next ?_
          refine XC.keep [(0, _), (1, _), (7, _)] (Sub.cons rfl (Sub.cons rfl (Sub.cons rfl (Sub.nil _)))) ?_
          refine XC.region ?_
          refine XO.v (V.move rfl) rfl ?_
          refine XO.v (V.add rfl rfl _ (IntWalk.i64_in _ (by omega))) rfl ?_
          refine XO.v (V.assign rfl) rfl ?_
          refine XO.nil ?_
          refine XE.again (k + 1) ?_ ?_ (Sub.cons rfl (Sub.cons rfl (Sub.cons rfl (Sub.nil _)))) (fun _ hw => XM.pick (.cons .here .nil) hw)
          · skip
            (first | omega | (simp; done) | (simp; omega))
          · skip
            refine ⟨by omega, fun j h1 h2 => ?_⟩
            by_cases hj : j = k
            · subst hj; assumption
            · exact hk2 j h1 (by omega)
      · skip
        refine XC.exit ?_
        refine XE.thenExit ?_
        refine XE.thenExit ?_
        refine XE.blockExit ?_
        refine XE.next ?_
        refine XC.keep [] (Sub.nil _) ?_
        refine XC.seq ?_
        refine XC.region ?_
        refine XO.v (V.assign rfl) rfl ?_
        refine XO.v (V.assign rfl) rfl ?_
        refine XO.nil ?_
        refine XE.next ?_
        refine XC.keep [(4, _), (5, _)] (Sub.cons rfl (Sub.cons rfl (Sub.nil _))) ?_
        refine XC.ret ?_
        refine XE.ret2 rfl rfl rfl (post_of (.cons .here .nil) rfl ?_)
        rw [SS.add_none i0 (by omega) (fun j h1 h2 => hk2 j h1 (by omega))]; exact ⟨rfl, rfl⟩
set_option maxRecDepth 10000 in
set_option maxHeartbeats 400000 in
theorem u_Drop (b o : Nat) (s : SS) (dep : Int → Nat) (hI : s.Inv dep) (n : Int) : Spec Try.prog 17 [ptr b o 0, .int .i64 n]
    [.cells b o 158 (encU s)]
    (fun v H1 => v = .int .i64 (s.drop n).1 ∧ H1 = [.cells b o 158 (encU (s.drop n).2)]) := by
  refine Spec.intro Try.func17 rfl rfl ?_
  intro W
  refine XC.seq ?_
  refine XC.region ?_
  refine XO.v (V.assign rfl) rfl ?_
  refine XO.nil ?_
  refine XE.next ?_
  refine XC.keep [(0, _), (1, _)] (Sub.cons rfl (Sub.cons rfl (Sub.nil _))) ?_
  refine XC.seq ?_
  refine XC.seq ?_
  refine XC.region ?_
  refine XO.v (V.move rfl) rfl ?_
  refine XO.v (V.move rfl) rfl ?_
  refine XO.call rfl (u_Is _ _ _ _) (.cons .here .nil) cl_62 rfl ?_
  rintro _ _ ⟨⟨rfl, h1, h2⟩, rfl⟩
  have is0 := h1
  have is1 := h2
  refine XO.v (V.assign rfl) rfl ?_
  refine XO.nil ?_
  refine XE.next ?_
  refine XC.keep [(0, _), (1, _), (5, _)] (Sub.cons rfl (Sub.cons rfl (Sub.cons rfl (Sub.nil _)))) ?_
  refine XC.seq ?_
  refine XC.region ?_
  refine XO.v (V.move rfl) rfl ?_
  refine XO.v (V.cmp rfl rfl rfl) rfl ?_
  refine XO.nil ?_
  refine XE.next ?_
  refine XC.keep [(0, _), (1, _), (5, _), (14, _)] (Sub.cons rfl (Sub.cons rfl (Sub.cons rfl (Sub.cons rfl (Sub.nil _))))) ?_
  refine XC.condP rfl (fun h3 => ?_) (fun h3 => ?_)
  · skip
    have i0 : s.is n ≠ 0 := by omega
    refine XC.seq ?_
    refine XC.region ?_
    refine XO.v (V.move rfl) rfl ?_
    refine XO.v (V.assign rfl) rfl ?_
    refine XO.nil ?_
    refine XE.next ?_
    refine XC.keep [(4, _)] (Sub.cons rfl (Sub.nil _)) ?_
    refine XC.ret ?_
    refine XE.thenRet ?_
    refine XE.ret1 rfl rfl (post_of (.cons .here .nil) rfl ?_)
    rw [SS.drop_err i0]; exact ⟨rfl, rfl⟩
  · skip
    have i0 : s.is n = 0 := by omega
    obtain ⟨i1, i2, i3⟩ := is1 i0
    refine XC.skip ?_
    refine XE.next ?_
    refine XC.keep [(0, _), (1, _)] (Sub.cons rfl (Sub.cons rfl (Sub.nil _))) ?_
    refine XC.seq ?_
    refine XC.region ?_
    refine XO.v (V.move rfl) rfl ?_
    refine XO.v (V.move rfl) rfl ?_
    refine XO.call rfl (u_Members _ _ _ dep hI _) (.cons .here .nil) cl_65 rfl ?_
    rintro _ _ ⟨pl, cl, rfl, rfl⟩
    refine XO.v (V.move rfl) rfl ?_
    refine XO.v (V.extract rfl rfl) rfl ?_
    refine XO.v (V.extract rfl rfl) rfl ?_
    refine XO.v (V.assign rfl) rfl ?_
    refine XO.v (V.assign rfl) rfl ?_
    refine XO.nil ?_
    refine XE.next ?_
    refine XC.keep [(0, _), (1, _), (6, _)] (Sub.cons rfl (Sub.cons rfl (Sub.cons rfl (Sub.nil _)))) ?_
    refine XC.seq ?_
    refine XC.region ?_
    have hmm : (s.mem n).1 = s.members n := by rw [SS.mem_ok i0]
    refine XO.v (V.move rfl) rfl ?_
    refine XO.v (V.cmp rfl rfl rfl) rfl ?_
    refine XO.v (V.move rfl) rfl ?_
    refine XO.splitP (d := 24) rfl (fun h4 => ?_) (fun h4 => ?_)
    · skip
      refine XO.guardSkip rfl rfl rfl rfl rfl ?_
      refine XO.guardSkip rfl rfl rfl rfl rfl ?_
      refine XO.guardSkip rfl rfl rfl rfl rfl ?_
      refine XO.v (V.pick rfl rfl rfl rfl) rfl ?_
      refine XO.v (V.assign rfl) rfl ?_
      refine XO.nil ?_
      refine XE.next ?_
      refine XC.keep [(0, _), (1, _), (8, _)] (Sub.cons rfl (Sub.cons rfl (Sub.cons rfl (Sub.nil _)))) ?_
      refine XC.seq ?_
      refine XC.seq ?_
      refine XC.region ?_
      refine XO.v (V.assign rfl) rfl ?_
      refine XO.nil ?_
      refine XE.next ?_
      refine XC.keep [(0, _), (1, _), (8, _), (9, _)] (Sub.cons rfl (Sub.cons rfl (Sub.cons rfl (Sub.cons rfl (Sub.nil _))))) ?_
      refine XC.block ?_
      refine XC.loop (σ := Int × Bool) (fun x => (6 - x.1).toNat) (fun x => (0 ≤ x.1 ∧ x.1 ≤ 6) ∧ (x.2 = true ↔ ((n = 0 ∨ (s.members n).length > 0) ∨ ∃ j : Int, 0 ≤ j ∧ j < x.1 ∧ s.here j = true ∧ s.par j = n))) (fun x => [(8, .bool x.2), (9, .int .i64 x.1), (0, ptr b o 0), (1, .int .i64 n)]) (fun x => XM W (foot [.cells b o 158 (encU s)]) [.cells b o 158 (encU s)]) ((0, true)) ?_ (Sub.cons rfl (Sub.cons rfl (Sub.cons rfl (Sub.cons rfl (Sub.nil _))))) (fun _ hw => XM.pick (.cons (.there .here) .nil) hw) ?_
      · skip
        exact ⟨by simp, by simp; exact .inl (.inl (by assumption))⟩
      intro x hx
      obtain ⟨hx, hb⟩ := hx
      refine XC.seq ?_
      refine XC.seq ?_
      refine XC.region ?_
      refine XO.v (V.move rfl) rfl ?_
      refine XO.v (V.cmp rfl rfl rfl) rfl ?_
      refine XO.nil ?_
      refine XE.next ?_
      refine XC.keep [(0, _), (1, _), (8, _), (9, _), (30, _)] (Sub.cons rfl (Sub.cons rfl (Sub.cons rfl (Sub.cons rfl (Sub.cons rfl (Sub.nil _)))))) ?_
      refine XC.condP rfl (fun h5 => ?_) (fun h5 => ?_)
      · skip
        refine XC.skip ?_
        refine XE.next ?_
        refine XC.keep [(0, _), (1, _), (8, _), (9, _)] (Sub.cons rfl (Sub.cons rfl (Sub.cons rfl (Sub.cons rfl (Sub.nil _))))) ?_
        refine XC.seq ?_
        refine XC.block ?_
        refine XC.region ?_
        refine XO.v (V.move rfl) rfl ?_
        refine XO.v (V.move rfl) rfl ?_
        refine XO.split (d := 34) rfl (fun h6 => ?_) (fun h6 => ?_)
        · try simp only [decide_eq_true_eq, decide_eq_false_iff_not, Bool.not_eq_true', Bool.not_eq_false', Bool.not_eq_eq_eq_not, Bool.not_true, Bool.not_false, beq_iff_eq, bne_iff_ne, ne_eq, beq_eq_false_iff_ne, bne_eq_false_iff_eq, Int.not_lt, Int.not_le, gt_iff_lt, ge_iff_le, Bool.and_eq_true, Bool.or_eq_true, Bool.and_eq_false_iff, Bool.or_eq_false_iff, Decidable.not_not] at h6
          refine XO.guardSkip rfl rfl rfl rfl rfl ?_
          refine XO.guardSkip rfl rfl rfl rfl rfl ?_
          refine XO.guardSkip rfl rfl rfl rfl rfl ?_
          refine XO.guardSkip rfl rfl rfl rfl rfl ?_
          refine XO.guardSkip rfl rfl rfl rfl rfl ?_
          refine XO.guardSkip rfl rfl rfl rfl rfl ?_
          refine XO.guardSkip rfl rfl rfl rfl rfl ?_
          refine XO.guardSkip rfl rfl rfl rfl rfl ?_
          refine XO.guardSkipU rfl rfl rfl rfl rfl ?_
          refine XO.guardSkipU rfl rfl rfl rfl rfl ?_
          refine XO.guardSkipU rfl rfl rfl rfl rfl ?_
          refine XO.guardSkipU rfl rfl rfl rfl rfl ?_
          refine XO.guardSkipU rfl rfl rfl rfl rfl ?_
          refine XO.guardSkipU rfl rfl rfl rfl rfl ?_
          refine XO.guardSkipU rfl rfl rfl rfl rfl ?_
          refine XO.guardSkipU rfl rfl rfl rfl rfl ?_
          refine XO.guardSkipU rfl rfl rfl rfl rfl ?_
          refine XO.guardSkip rfl rfl rfl rfl rfl ?_
          refine XO.v (V.pick rfl rfl rfl rfl) rfl ?_
          refine XO.v (V.assign rfl) rfl ?_
          refine XO.nil ?_
          refine XE.blockNormal ?_
          refine XE.next ?_
          refine XC.keep [(0, _), (1, _), (8, _), (9, _)] (Sub.cons rfl (Sub.cons rfl (Sub.cons rfl (Sub.cons rfl (Sub.nil _))))) ?_
          refine XC.region ?_
          refine XO.v (V.move rfl) rfl ?_
          refine XO.v (V.add rfl rfl _ (IntWalk.i64_in _ (by omega))) rfl ?_
          refine XO.v (V.assign rfl) rfl ?_
          refine XO.nil ?_
          refine XE.again ((x.1 + 1, true)) ?_ ?_ (Sub.cons rfl (Sub.cons rfl (Sub.cons rfl (Sub.cons rfl (Sub.nil _))))) (fun _ hw => XM.pick (.cons .here .nil) hw)
          · skip
            (first | omega | (simp; done) | (simp; omega))
          · skip
            refine ⟨by simp; omega, ?_⟩
            simp only [true_iff]
            rcases hb.1 (by assumption) with q | ⟨j, q1, q2, q3⟩
            · exact .inl q
            · exact .inr ⟨j, q1, by omega, q3⟩
        · try simp only [decide_eq_true_eq, decide_eq_false_iff_not, Bool.not_eq_true', Bool.not_eq_false', Bool.not_eq_eq_eq_not, Bool.not_true, Bool.not_false, beq_iff_eq, bne_iff_ne, ne_eq, beq_eq_false_iff_ne, bne_eq_false_iff_eq, Int.not_lt, Int.not_le, gt_iff_lt, ge_iff_le, Bool.and_eq_true, Bool.or_eq_true, Bool.and_eq_false_iff, Bool.or_eq_false_iff, Decidable.not_not] at h6
          refine XO.guardRun rfl rfl rfl ?_
          refine XO.v (V.move rfl) rfl ?_
          refine XO.guardRun rfl rfl rfl ?_
          refine XO.v (V.move rfl) rfl ?_
          refine XO.guardRun rfl rfl rfl ?_
          refine XO.v (V.nilCheckP rfl) rfl ?_
          refine XO.guardRun rfl rfl rfl ?_
          refine XO.v (V.fieldAddr rfl fo_104_0) rfl ?_
          refine XO.guardRun rfl rfl rfl ?_
          refine XO.v (V.indexArr rfl rfl ar_102 (by omega)) rfl ?_
          refine XO.guardRun rfl rfl rfl ?_
          refine XO.v (V.fieldAddr rfl fo_101_0) rfl ?_
          refine XO.guardRun rfl rfl rfl ?_
          refine XO.v (V.load rfl (inXM .here) (encU.ld_S_I_Here _ _ (by omega)) sc_4) rfl ?_
          refine XO.guardRun rfl rfl rfl ?_
          refine XO.v (V.move rfl) rfl ?_
          refine XO.split (d := 42) rfl (fun h7 => ?_) (fun h7 => ?_)
          · try simp only [decide_eq_true_eq, decide_eq_false_iff_not, Bool.not_eq_true', Bool.not_eq_false', Bool.not_eq_eq_eq_not, Bool.not_true, Bool.not_false, beq_iff_eq, bne_iff_ne, ne_eq, beq_eq_false_iff_ne, bne_eq_false_iff_eq, Int.not_lt, Int.not_le, gt_iff_lt, ge_iff_le, Bool.and_eq_true, Bool.or_eq_true, Bool.and_eq_false_iff, Bool.or_eq_false_iff, Decidable.not_not] at h7
            refine XO.guardRun rfl rfl rfl ?_
            refine XO.v (V.move rfl) rfl ?_
            refine XO.guardRun rfl rfl rfl ?_
            refine XO.v (V.move rfl) rfl ?_
            refine XO.guardRun rfl rfl rfl ?_
            refine XO.v (V.nilCheckP rfl) rfl ?_
            refine XO.guardRun rfl rfl rfl ?_
            refine XO.v (V.fieldAddr rfl fo_104_0) rfl ?_
            refine XO.guardRun rfl rfl rfl ?_
            refine XO.v (V.indexArr rfl rfl ar_102 (by omega)) rfl ?_
            refine XO.guardRun rfl rfl rfl ?_
            refine XO.v (V.fieldAddr rfl fo_101_1) rfl ?_
            refine XO.guardRun rfl rfl rfl ?_
            refine XO.v (V.load rfl (inXM .here) (encU.ld_S_I_Parent _ _ (by omega)) sc_3) rfl ?_
            refine XO.guardRun rfl rfl rfl ?_
            refine XO.v (V.move rfl) rfl ?_
            refine XO.guardRun rfl rfl rfl ?_
            refine XO.v (V.cmp rfl rfl rfl) rfl ?_
            refine XO.guardRun rfl rfl rfl ?_
            refine XO.v (V.pick rfl rfl rfl rfl) rfl ?_
            refine XO.v (V.pick rfl rfl rfl rfl) rfl ?_
            refine XO.v (V.assign rfl) rfl ?_
            refine XO.nil ?_
            refine XE.blockNormal ?_
            refine XE.next ?_
            refine XC.keep [(0, _), (1, _), (8, _), (9, _)] (Sub.cons rfl (Sub.cons rfl (Sub.cons rfl (Sub.cons rfl (Sub.nil _))))) ?_
            refine XC.region ?_
            refine XO.v (V.move rfl) rfl ?_
            refine XO.v (V.add rfl rfl _ (IntWalk.i64_in _ (by omega))) rfl ?_
            refine XO.v (V.assign rfl) rfl ?_
            refine XO.nil ?_
            refine XE.again ((x.1 + 1, decide (s.par x.1 = n))) ?_ ?_ (Sub.cons rfl (Sub.cons rfl (Sub.cons rfl (Sub.cons rfl (Sub.nil _))))) (fun _ hw => XM.pick (.cons .here .nil) hw)
            · skip
              (first | omega | (simp; done) | (simp; omega))
            · skip
              refine ⟨by simp; omega, ?_⟩
              simp only [decide_eq_true_eq]
              constructor
              · intro q; exact .inr ⟨x.1, by omega, by omega, by assumption, q⟩
              · rintro (q | ⟨j, q1, q2, q3, q4⟩)
                · have := hb.2 (.inl q); simp_all
                · by_cases hj : j = x.1
                  · rw [← hj]; exact q4
                  · have := hb.2 (.inr ⟨j, q1, by omega, q3, q4⟩); simp_all
          · try simp only [decide_eq_true_eq, decide_eq_false_iff_not, Bool.not_eq_true', Bool.not_eq_false', Bool.not_eq_eq_eq_not, Bool.not_true, Bool.not_false, beq_iff_eq, bne_iff_ne, ne_eq, beq_eq_false_iff_ne, bne_eq_false_iff_eq, Int.not_lt, Int.not_le, gt_iff_lt, ge_iff_le, Bool.and_eq_true, Bool.or_eq_true, Bool.and_eq_false_iff, Bool.or_eq_false_iff, Decidable.not_not] at h7
            refine XO.guardSkip rfl rfl rfl rfl rfl ?_
            refine XO.guardSkip rfl rfl rfl rfl rfl ?_
            refine XO.guardSkip rfl rfl rfl rfl rfl ?_
            refine XO.guardSkip rfl rfl rfl rfl rfl ?_
            refine XO.guardSkip rfl rfl rfl rfl rfl ?_
            refine XO.guardSkip rfl rfl rfl rfl rfl ?_
            refine XO.guardSkip rfl rfl rfl rfl rfl ?_
            refine XO.guardSkip rfl rfl rfl rfl rfl ?_
            refine XO.guardSkip rfl rfl rfl rfl rfl ?_
            refine XO.guardRun rfl rfl rfl ?_
            refine XO.v (V.pick rfl rfl rfl rfl) rfl ?_
            refine XO.v (V.pick rfl rfl rfl rfl) rfl ?_
            refine XO.v (V.assign rfl) rfl ?_
            refine XO.nil ?_
            refine XE.blockNormal ?_
            refine XE.next ?_
            refine XC.keep [(0, _), (1, _), (8, _), (9, _)] (Sub.cons rfl (Sub.cons rfl (Sub.cons rfl (Sub.cons rfl (Sub.nil _))))) ?_
            refine XC.region ?_
            refine XO.v (V.move rfl) rfl ?_
            refine XO.v (V.add rfl rfl _ (IntWalk.i64_in _ (by omega))) rfl ?_
            refine XO.v (V.assign rfl) rfl ?_
            refine XO.nil ?_
            refine XE.again ((x.1 + 1, false)) ?_ ?_ (Sub.cons rfl (Sub.cons rfl (Sub.cons rfl (Sub.cons rfl (Sub.nil _))))) (fun _ hw => XM.pick (.cons .here .nil) hw)
            · skip
              (first | omega | (simp; done) | (simp; omega))
            · skip
              refine ⟨by simp; omega, ?_⟩
              simp only [Bool.false_eq_true, false_iff]
              rintro (q | ⟨j, q1, q2, q3, q4⟩)
              · have := hb.2 (.inl q); simp_all
              · by_cases hj : j = x.1
                · subst hj; simp_all
                · have := hb.2 (.inr ⟨j, q1, by omega, q3, q4⟩); simp_all
      · skip
        refine XC.exit ?_
        refine XE.thenExit ?_
        refine XE.thenExit ?_
        refine XE.blockExit ?_
        refine XE.next ?_
        refine XC.keep [(0, _), (1, _), (8, _)] (Sub.cons rfl (Sub.cons rfl (Sub.cons rfl (Sub.nil _)))) ?_
        refine XC.seq ?_
        refine XC.seq ?_
        refine XC.region ?_
        refine XO.v (V.move rfl) rfl ?_
        refine XO.nil ?_
        refine XE.next ?_
        refine XC.keep [(0, _), (1, _), (54, _)] (Sub.cons rfl (Sub.cons rfl (Sub.cons rfl (Sub.nil _)))) ?_
        refine XC.cond rfl (fun h8 => ?_) (fun h8 => ?_)
        · try simp only [decide_eq_true_eq, decide_eq_false_iff_not, Bool.not_eq_true', Bool.not_eq_false', Bool.not_eq_eq_eq_not, Bool.not_true, Bool.not_false, beq_iff_eq, bne_iff_ne, ne_eq, beq_eq_false_iff_ne, bne_eq_false_iff_eq, Int.not_lt, Int.not_le, gt_iff_lt, ge_iff_le, Bool.and_eq_true, Bool.or_eq_true, Bool.and_eq_false_iff, Bool.or_eq_false_iff, Decidable.not_not] at h8
          refine XC.seq ?_
          refine XC.region ?_
          refine XO.v (V.assign rfl) rfl ?_
          refine XO.nil ?_
          refine XE.next ?_
          refine XC.keep [(4, _)] (Sub.cons rfl (Sub.nil _)) ?_
          refine XC.ret ?_
          refine XE.thenRet ?_
          refine XE.ret1 rfl rfl (post_of (.cons .here .nil) rfl ?_)
          rcases hb.1 (by assumption) with q | ⟨j, q1, q2, q3, q4⟩
          · rw [SS.drop_busy i0 q]; exact ⟨rfl, rfl⟩
          · rw [SS.drop_any i0 ⟨j, q1, by omega, q3, q4⟩]; exact ⟨rfl, rfl⟩
        · try simp only [decide_eq_true_eq, decide_eq_false_iff_not, Bool.not_eq_true', Bool.not_eq_false', Bool.not_eq_eq_eq_not, Bool.not_true, Bool.not_false, beq_iff_eq, bne_iff_ne, ne_eq, beq_eq_false_iff_ne, bne_eq_false_iff_eq, Int.not_lt, Int.not_le, gt_iff_lt, ge_iff_le, Bool.and_eq_true, Bool.or_eq_true, Bool.and_eq_false_iff, Bool.or_eq_false_iff, Decidable.not_not] at h8
          have hno : ¬ ((n = 0 ∨ (s.members n).length > 0) ∨ ∃ j : Int, 0 ≤ j ∧ j < x.1 ∧ s.here j = true ∧ s.par j = n) := fun q => by have := hb.2 q; simp_all
          refine XC.skip ?_
          refine XE.next ?_
          refine XC.keep [(0, _), (1, _)] (Sub.cons rfl (Sub.cons rfl (Sub.nil _))) ?_
          refine XC.seq ?_
          refine XC.region ?_
          refine XO.v (V.move rfl) rfl ?_
          refine XO.v (V.move rfl) rfl ?_
          refine XO.v (V.build (vs := #[]) rfl (v := .agg spZero) (fun _ => by kernel_rfl)) rfl ?_
          refine XO.v (V.nilCheckP rfl) rfl ?_
          refine XO.v (V.fieldAddr rfl fo_104_0) rfl ?_
          refine XO.v (V.indexArr rfl rfl ar_102 (by omega)) rfl ?_
          refine XO.storeAgg rfl rfl .here (encU_clear _ _ (by omega) (fun j _ _ => hI.none_in (fun q => hno (.inl (.inr q))) j)) ⟨rfl, rfl⟩ sz_101_23 ?_
          refine XO.nil ?_
          refine XE.next ?_
          refine XC.keep [] (Sub.nil _) ?_
          refine XC.seq ?_
          refine XC.region ?_
          refine XO.v (V.assign rfl) rfl ?_
          refine XO.nil ?_
          refine XE.next ?_
          refine XC.keep [(4, _)] (Sub.cons rfl (Sub.nil _)) ?_
          refine XC.ret ?_
          refine XE.ret1 rfl rfl (post_of (.cons .here .nil) rfl ?_)
          rw [SS.drop_ok i0 (fun q => hno (.inl q)) (fun j h1 h2 h3 => hno (.inr ⟨j, h1, by omega, h3.1, h3.2⟩))]; exact ⟨rfl, rfl⟩
    · skip
      refine XO.guardRun rfl rfl rfl ?_
      refine XO.v (V.move rfl) rfl ?_
      refine XO.guardRun rfl rfl rfl ?_
      refine XO.v (V.lenSl rfl Try.underlying85) rfl ?_
      refine XO.guardRun rfl rfl rfl ?_
      refine XO.v (V.cmp rfl rfl rfl) rfl ?_
      refine XO.v (V.pick rfl rfl rfl rfl) rfl ?_
      refine XO.v (V.assign rfl) rfl ?_
      refine XO.nil ?_
      refine XE.next ?_
      refine XC.keep [(0, _), (1, _), (8, _)] (Sub.cons rfl (Sub.cons rfl (Sub.cons rfl (Sub.nil _)))) ?_
      refine XC.seq ?_
      refine XC.seq ?_
      refine XC.region ?_
      refine XO.v (V.assign rfl) rfl ?_
      refine XO.nil ?_
      refine XE.next ?_
      refine XC.keep [(0, _), (1, _), (8, _), (9, _)] (Sub.cons rfl (Sub.cons rfl (Sub.cons rfl (Sub.cons rfl (Sub.nil _))))) ?_
      refine XC.block ?_
      refine XC.loop (σ := Int × Bool) (fun x => (6 - x.1).toNat) (fun x => (0 ≤ x.1 ∧ x.1 ≤ 6) ∧ (x.2 = true ↔ ((n = 0 ∨ (s.members n).length > 0) ∨ ∃ j : Int, 0 ≤ j ∧ j < x.1 ∧ s.here j = true ∧ s.par j = n))) (fun x => [(8, .bool x.2), (9, .int .i64 x.1), (0, ptr b o 0), (1, .int .i64 n)]) (fun x => XM W (foot [.cells b o 158 (encU s)]) [.cells b o 158 (encU s)]) ((0, decide ((s.mem n).1.length > (0 : Int)))) ?_ (Sub.cons rfl (Sub.cons rfl (Sub.cons rfl (Sub.cons rfl (Sub.nil _))))) (fun _ hw => XM.pick (.cons (.there .here) .nil) hw) ?_
      · skip
        refine ⟨by simp, ?_⟩
        rw [hmm]
        simp
        constructor
        · intro q; exact .inl (.inr (by omega))
        · rintro ((q | q) | ⟨j, q1, q2, _⟩)
          · contradiction
          · omega
          · omega
      intro x hx
      obtain ⟨hx, hb⟩ := hx
      refine XC.seq ?_
      refine XC.seq ?_
      refine XC.region ?_
      refine XO.v (V.move rfl) rfl ?_
      refine XO.v (V.cmp rfl rfl rfl) rfl ?_
      refine XO.nil ?_
      refine XE.next ?_
      refine XC.keep [(0, _), (1, _), (8, _), (9, _), (30, _)] (Sub.cons rfl (Sub.cons rfl (Sub.cons rfl (Sub.cons rfl (Sub.cons rfl (Sub.nil _)))))) ?_
      refine XC.condP rfl (fun h9 => ?_) (fun h9 => ?_)
      · skip
        refine XC.skip ?_
        refine XE.next ?_
        refine XC.keep [(0, _), (1, _), (8, _), (9, _)] (Sub.cons rfl (Sub.cons rfl (Sub.cons rfl (Sub.cons rfl (Sub.nil _))))) ?_
        refine XC.seq ?_
        refine XC.block ?_
        refine XC.region ?_
        refine XO.v (V.move rfl) rfl ?_
        refine XO.v (V.move rfl) rfl ?_
        refine XO.split (d := 34) rfl (fun h10 => ?_) (fun h10 => ?_)
        · try simp only [decide_eq_true_eq, decide_eq_false_iff_not, Bool.not_eq_true', Bool.not_eq_false', Bool.not_eq_eq_eq_not, Bool.not_true, Bool.not_false, beq_iff_eq, bne_iff_ne, ne_eq, beq_eq_false_iff_ne, bne_eq_false_iff_eq, Int.not_lt, Int.not_le, gt_iff_lt, ge_iff_le, Bool.and_eq_true, Bool.or_eq_true, Bool.and_eq_false_iff, Bool.or_eq_false_iff, Decidable.not_not] at h10
          refine XO.guardSkip rfl rfl rfl rfl rfl ?_
          refine XO.guardSkip rfl rfl rfl rfl rfl ?_
          refine XO.guardSkip rfl rfl rfl rfl rfl ?_
          refine XO.guardSkip rfl rfl rfl rfl rfl ?_
          refine XO.guardSkip rfl rfl rfl rfl rfl ?_
          refine XO.guardSkip rfl rfl rfl rfl rfl ?_
          refine XO.guardSkip rfl rfl rfl rfl rfl ?_
          refine XO.guardSkip rfl rfl rfl rfl rfl ?_
          refine XO.guardSkipU rfl rfl rfl rfl rfl ?_
          refine XO.guardSkipU rfl rfl rfl rfl rfl ?_
          refine XO.guardSkipU rfl rfl rfl rfl rfl ?_
          refine XO.guardSkipU rfl rfl rfl rfl rfl ?_
          refine XO.guardSkipU rfl rfl rfl rfl rfl ?_
          refine XO.guardSkipU rfl rfl rfl rfl rfl ?_
          refine XO.guardSkipU rfl rfl rfl rfl rfl ?_
          refine XO.guardSkipU rfl rfl rfl rfl rfl ?_
          refine XO.guardSkipU rfl rfl rfl rfl rfl ?_
          refine XO.guardSkip rfl rfl rfl rfl rfl ?_
          refine XO.v (V.pick rfl rfl rfl rfl) rfl ?_
          refine XO.v (V.assign rfl) rfl ?_
          refine XO.nil ?_
          refine XE.blockNormal ?_
          refine XE.next ?_
          refine XC.keep [(0, _), (1, _), (8, _), (9, _)] (Sub.cons rfl (Sub.cons rfl (Sub.cons rfl (Sub.cons rfl (Sub.nil _))))) ?_
          refine XC.region ?_
          refine XO.v (V.move rfl) rfl ?_
          refine XO.v (V.add rfl rfl _ (IntWalk.i64_in _ (by omega))) rfl ?_
          refine XO.v (V.assign rfl) rfl ?_
          refine XO.nil ?_
          refine XE.again ((x.1 + 1, true)) ?_ ?_ (Sub.cons rfl (Sub.cons rfl (Sub.cons rfl (Sub.cons rfl (Sub.nil _))))) (fun _ hw => XM.pick (.cons .here .nil) hw)
          · skip
            (first | omega | (simp; done) | (simp; omega))
          · skip
            refine ⟨by simp; omega, ?_⟩
            simp only [true_iff]
            rcases hb.1 (by assumption) with q | ⟨j, q1, q2, q3⟩
            · exact .inl q
            · exact .inr ⟨j, q1, by omega, q3⟩
        · try simp only [decide_eq_true_eq, decide_eq_false_iff_not, Bool.not_eq_true', Bool.not_eq_false', Bool.not_eq_eq_eq_not, Bool.not_true, Bool.not_false, beq_iff_eq, bne_iff_ne, ne_eq, beq_eq_false_iff_ne, bne_eq_false_iff_eq, Int.not_lt, Int.not_le, gt_iff_lt, ge_iff_le, Bool.and_eq_true, Bool.or_eq_true, Bool.and_eq_false_iff, Bool.or_eq_false_iff, Decidable.not_not] at h10
          refine XO.guardRun rfl rfl rfl ?_
          refine XO.v (V.move rfl) rfl ?_
          refine XO.guardRun rfl rfl rfl ?_
          refine XO.v (V.move rfl) rfl ?_
          refine XO.guardRun rfl rfl rfl ?_
          refine XO.v (V.nilCheckP rfl) rfl ?_
          refine XO.guardRun rfl rfl rfl ?_
          refine XO.v (V.fieldAddr rfl fo_104_0) rfl ?_
          refine XO.guardRun rfl rfl rfl ?_
          refine XO.v (V.indexArr rfl rfl ar_102 (by omega)) rfl ?_
          refine XO.guardRun rfl rfl rfl ?_
          refine XO.v (V.fieldAddr rfl fo_101_0) rfl ?_
          refine XO.guardRun rfl rfl rfl ?_
          refine XO.v (V.load rfl (inXM .here) (encU.ld_S_I_Here _ _ (by omega)) sc_4) rfl ?_
          refine XO.guardRun rfl rfl rfl ?_
          refine XO.v (V.move rfl) rfl ?_
          refine XO.split (d := 42) rfl (fun h11 => ?_) (fun h11 => ?_)
          · try simp only [decide_eq_true_eq, decide_eq_false_iff_not, Bool.not_eq_true', Bool.not_eq_false', Bool.not_eq_eq_eq_not, Bool.not_true, Bool.not_false, beq_iff_eq, bne_iff_ne, ne_eq, beq_eq_false_iff_ne, bne_eq_false_iff_eq, Int.not_lt, Int.not_le, gt_iff_lt, ge_iff_le, Bool.and_eq_true, Bool.or_eq_true, Bool.and_eq_false_iff, Bool.or_eq_false_iff, Decidable.not_not] at h11
            refine XO.guardRun rfl rfl rfl ?_
            refine XO.v (V.move rfl) rfl ?_
            refine XO.guardRun rfl rfl rfl ?_
            refine XO.v (V.move rfl) rfl ?_
            refine XO.guardRun rfl rfl rfl ?_
            refine XO.v (V.nilCheckP rfl) rfl ?_
            refine XO.guardRun rfl rfl rfl ?_
            refine XO.v (V.fieldAddr rfl fo_104_0) rfl ?_
            refine XO.guardRun rfl rfl rfl ?_
            refine XO.v (V.indexArr rfl rfl ar_102 (by omega)) rfl ?_
            refine XO.guardRun rfl rfl rfl ?_
            refine XO.v (V.fieldAddr rfl fo_101_1) rfl ?_
            refine XO.guardRun rfl rfl rfl ?_
            refine XO.v (V.load rfl (inXM .here) (encU.ld_S_I_Parent _ _ (by omega)) sc_3) rfl ?_
            refine XO.guardRun rfl rfl rfl ?_
            refine XO.v (V.move rfl) rfl ?_
            refine XO.guardRun rfl rfl rfl ?_
            refine XO.v (V.cmp rfl rfl rfl) rfl ?_
            refine XO.guardRun rfl rfl rfl ?_
            refine XO.v (V.pick rfl rfl rfl rfl) rfl ?_
            refine XO.v (V.pick rfl rfl rfl rfl) rfl ?_
            refine XO.v (V.assign rfl) rfl ?_
            refine XO.nil ?_
            refine XE.blockNormal ?_
            refine XE.next ?_
            refine XC.keep [(0, _), (1, _), (8, _), (9, _)] (Sub.cons rfl (Sub.cons rfl (Sub.cons rfl (Sub.cons rfl (Sub.nil _))))) ?_
            refine XC.region ?_
            refine XO.v (V.move rfl) rfl ?_
            refine XO.v (V.add rfl rfl _ (IntWalk.i64_in _ (by omega))) rfl ?_
            refine XO.v (V.assign rfl) rfl ?_
            refine XO.nil ?_
            refine XE.again ((x.1 + 1, decide (s.par x.1 = n))) ?_ ?_ (Sub.cons rfl (Sub.cons rfl (Sub.cons rfl (Sub.cons rfl (Sub.nil _))))) (fun _ hw => XM.pick (.cons .here .nil) hw)
            · skip
              (first | omega | (simp; done) | (simp; omega))
            · skip
              refine ⟨by simp; omega, ?_⟩
              simp only [decide_eq_true_eq]
              constructor
              · intro q; exact .inr ⟨x.1, by omega, by omega, by assumption, q⟩
              · rintro (q | ⟨j, q1, q2, q3, q4⟩)
                · have := hb.2 (.inl q); simp_all
                · by_cases hj : j = x.1
                  · rw [← hj]; exact q4
                  · have := hb.2 (.inr ⟨j, q1, by omega, q3, q4⟩); simp_all
          · try simp only [decide_eq_true_eq, decide_eq_false_iff_not, Bool.not_eq_true', Bool.not_eq_false', Bool.not_eq_eq_eq_not, Bool.not_true, Bool.not_false, beq_iff_eq, bne_iff_ne, ne_eq, beq_eq_false_iff_ne, bne_eq_false_iff_eq, Int.not_lt, Int.not_le, gt_iff_lt, ge_iff_le, Bool.and_eq_true, Bool.or_eq_true, Bool.and_eq_false_iff, Bool.or_eq_false_iff, Decidable.not_not] at h11
            refine XO.guardSkip rfl rfl rfl rfl rfl ?_
            refine XO.guardSkip rfl rfl rfl rfl rfl ?_
            refine XO.guardSkip rfl rfl rfl rfl rfl ?_
            refine XO.guardSkip rfl rfl rfl rfl rfl ?_
            refine XO.guardSkip rfl rfl rfl rfl rfl ?_
            refine XO.guardSkip rfl rfl rfl rfl rfl ?_
            refine XO.guardSkip rfl rfl rfl rfl rfl ?_
            refine XO.guardSkip rfl rfl rfl rfl rfl ?_
            refine XO.guardSkip rfl rfl rfl rfl rfl ?_
            refine XO.guardRun rfl rfl rfl ?_
            refine XO.v (V.pick rfl rfl rfl rfl) rfl ?_
            refine XO.v (V.pick rfl rfl rfl rfl) rfl ?_
            refine XO.v (V.assign rfl) rfl ?_
            refine XO.nil ?_
            refine XE.blockNormal ?_
            refine XE.next ?_
            refine XC.keep [(0, _), (1, _), (8, _), (9, _)] (Sub.cons rfl (Sub.cons rfl (Sub.cons rfl (Sub.cons rfl (Sub.nil _))))) ?_
            refine XC.region ?_
            refine XO.v (V.move rfl) rfl ?_
            refine XO.v (V.add rfl rfl _ (IntWalk.i64_in _ (by omega))) rfl ?_
            refine XO.v (V.assign rfl) rfl ?_
            refine XO.nil ?_
            refine XE.again ((x.1 + 1, false)) ?_ ?_ (Sub.cons rfl (Sub.cons rfl (Sub.cons rfl (Sub.cons rfl (Sub.nil _))))) (fun _ hw => XM.pick (.cons .here .nil) hw)
            · skip
              (first | omega | (simp; done) | (simp; omega))
            · skip
              refine ⟨by simp; omega, ?_⟩
              simp only [Bool.false_eq_true, false_iff]
              rintro (q | ⟨j, q1, q2, q3, q4⟩)
              · have := hb.2 (.inl q); simp_all
              · by_cases hj : j = x.1
                · subst hj; simp_all
                · have := hb.2 (.inr ⟨j, q1, by omega, q3, q4⟩); simp_all
      · skip
        refine XC.exit ?_
        refine XE.thenExit ?_
        refine XE.thenExit ?_
        refine XE.blockExit ?_
        refine XE.next ?_
        refine XC.keep [(0, _), (1, _), (8, _)] (Sub.cons rfl (Sub.cons rfl (Sub.cons rfl (Sub.nil _)))) ?_
        refine XC.seq ?_
        refine XC.seq ?_
        refine XC.region ?_
        refine XO.v (V.move rfl) rfl ?_
        refine XO.nil ?_
        refine XE.next ?_
        refine XC.keep [(0, _), (1, _), (54, _)] (Sub.cons rfl (Sub.cons rfl (Sub.cons rfl (Sub.nil _)))) ?_
        refine XC.cond rfl (fun h12 => ?_) (fun h12 => ?_)
        · try simp only [decide_eq_true_eq, decide_eq_false_iff_not, Bool.not_eq_true', Bool.not_eq_false', Bool.not_eq_eq_eq_not, Bool.not_true, Bool.not_false, beq_iff_eq, bne_iff_ne, ne_eq, beq_eq_false_iff_ne, bne_eq_false_iff_eq, Int.not_lt, Int.not_le, gt_iff_lt, ge_iff_le, Bool.and_eq_true, Bool.or_eq_true, Bool.and_eq_false_iff, Bool.or_eq_false_iff, Decidable.not_not] at h12
          refine XC.seq ?_
          refine XC.region ?_
          refine XO.v (V.assign rfl) rfl ?_
          refine XO.nil ?_
          refine XE.next ?_
          refine XC.keep [(4, _)] (Sub.cons rfl (Sub.nil _)) ?_
          refine XC.ret ?_
          refine XE.thenRet ?_
          refine XE.ret1 rfl rfl (post_of (.cons .here .nil) rfl ?_)
          rcases hb.1 (by assumption) with q | ⟨j, q1, q2, q3, q4⟩
          · rw [SS.drop_busy i0 q]; exact ⟨rfl, rfl⟩
          · rw [SS.drop_any i0 ⟨j, q1, by omega, q3, q4⟩]; exact ⟨rfl, rfl⟩
        · try simp only [decide_eq_true_eq, decide_eq_false_iff_not, Bool.not_eq_true', Bool.not_eq_false', Bool.not_eq_eq_eq_not, Bool.not_true, Bool.not_false, beq_iff_eq, bne_iff_ne, ne_eq, beq_eq_false_iff_ne, bne_eq_false_iff_eq, Int.not_lt, Int.not_le, gt_iff_lt, ge_iff_le, Bool.and_eq_true, Bool.or_eq_true, Bool.and_eq_false_iff, Bool.or_eq_false_iff, Decidable.not_not] at h12
          have hno : ¬ ((n = 0 ∨ (s.members n).length > 0) ∨ ∃ j : Int, 0 ≤ j ∧ j < x.1 ∧ s.here j = true ∧ s.par j = n) := fun q => by have := hb.2 q; simp_all
          refine XC.skip ?_
          refine XE.next ?_
          refine XC.keep [(0, _), (1, _)] (Sub.cons rfl (Sub.cons rfl (Sub.nil _))) ?_
          refine XC.seq ?_
          refine XC.region ?_
          refine XO.v (V.move rfl) rfl ?_
          refine XO.v (V.move rfl) rfl ?_
          refine XO.v (V.build (vs := #[]) rfl (v := .agg spZero) (fun _ => by kernel_rfl)) rfl ?_
          refine XO.v (V.nilCheckP rfl) rfl ?_
          refine XO.v (V.fieldAddr rfl fo_104_0) rfl ?_
          refine XO.v (V.indexArr rfl rfl ar_102 (by omega)) rfl ?_
          refine XO.storeAgg rfl rfl .here (encU_clear _ _ (by omega) (fun j _ _ => hI.none_in (fun q => hno (.inl (.inr q))) j)) ⟨rfl, rfl⟩ sz_101_23 ?_
          refine XO.nil ?_
          refine XE.next ?_
          refine XC.keep [] (Sub.nil _) ?_
          refine XC.seq ?_
          refine XC.region ?_
          refine XO.v (V.assign rfl) rfl ?_
          refine XO.nil ?_
          refine XE.next ?_
          refine XC.keep [(4, _)] (Sub.cons rfl (Sub.nil _)) ?_
          refine XC.ret ?_
          refine XE.ret1 rfl rfl (post_of (.cons .here .nil) rfl ?_)
          rw [SS.drop_ok i0 (fun q => hno (.inl q)) (fun j h1 h2 h3 => hno (.inr ⟨j, h1, by omega, h3.1, h3.2⟩))]; exact ⟨rfl, rfl⟩
set_option maxRecDepth 10000 in
set_option maxHeartbeats 1000000 in
theorem u_Enter (b o : Nat) (s : SS) (dep : Int → Nat) (hI : s.Inv dep) (n p : Int) : Spec Try.prog 19 [ptr b o 0, .int .i64 n, .int .i64 p]
    [.cells b o 158 (encU s)]
    (fun v H1 => v = .tuple #[.int .i64 (s.enter dep n p).1, .int .i64 (s.enter dep n p).2.1] ∧ H1 = [.cells b o 158 (encU (s.enter dep n p).2.2)]) := by
  have hD := hI.D
  have hbl := hI.loc p
  refine Spec.intro Try.func19 rfl rfl ?_
  intro W
  refine XC.seq ?_
  refine XC.region ?_
  refine XO.v (V.assign rfl) rfl ?_
  refine XO.v (V.assign rfl) rfl ?_
  refine XO.nil ?_
  refine XE.next ?_
  refine XC.keep [(0, _), (1, _), (2, _)] (Sub.cons rfl (Sub.cons rfl (Sub.cons rfl (Sub.nil _)))) ?_
  refine XC.seq ?_
  refine XC.seq ?_
  refine XC.region ?_
  refine XO.v (V.move rfl) rfl ?_
  refine XO.v (V.move rfl) rfl ?_
  refine XO.call rfl (u_Is _ _ _ _) (.cons .here .nil) cl_62 rfl ?_
  rintro _ _ ⟨⟨rfl, h1, h2⟩, rfl⟩
  have is0 := h1
  have is1 := h2
  refine XO.v (V.assign rfl) rfl ?_
  refine XO.nil ?_
  refine XE.next ?_
  refine XC.keep [(0, _), (1, _), (2, _), (8, _)] (Sub.cons rfl (Sub.cons rfl (Sub.cons rfl (Sub.cons rfl (Sub.nil _))))) ?_
  refine XC.seq ?_
  refine XC.region ?_
  refine XO.v (V.move rfl) rfl ?_
  refine XO.v (V.cmp rfl rfl rfl) rfl ?_
  refine XO.nil ?_
  refine XE.next ?_
  refine XC.keep [(0, _), (1, _), (2, _), (8, _), (16, _)] (Sub.cons rfl (Sub.cons rfl (Sub.cons rfl (Sub.cons rfl (Sub.cons rfl (Sub.nil _)))))) ?_
  refine XC.condP rfl (fun h3 => ?_) (fun h3 => ?_)
  · skip
    have i0 : s.is n ≠ 0 := by omega
    refine XC.seq ?_
    refine XC.region ?_
    refine XO.v (V.move rfl) rfl ?_
    refine XO.v (V.assign rfl) rfl ?_
    refine XO.v (V.assign rfl) rfl ?_
    refine XO.nil ?_
    refine XE.next ?_
    refine XC.keep [(6, _), (7, _)] (Sub.cons rfl (Sub.cons rfl (Sub.nil _))) ?_
    refine XC.ret ?_
    refine XE.thenRet ?_
    refine XE.ret2 rfl rfl rfl (post_of (.cons .here .nil) rfl ?_)
    rw [SS.enter_err i0]; exact ⟨rfl, rfl⟩
  · skip
    have i0 : s.is n = 0 := by omega
    obtain ⟨i1, i2, i3⟩ := is1 i0
    refine XC.skip ?_
    refine XE.next ?_
    refine XC.keep [(0, _), (1, _), (2, _)] (Sub.cons rfl (Sub.cons rfl (Sub.cons rfl (Sub.nil _)))) ?_
    refine XC.seq ?_
    refine XC.seq ?_
    refine XC.region ?_
    refine XO.v (V.move rfl) rfl ?_
    refine XO.v (V.cmp rfl rfl rfl) rfl ?_
    refine XO.v (V.move rfl) rfl ?_
    refine XO.splitP (d := 20) rfl (fun h4 => ?_) (fun h4 => ?_)
    · skip
      refine XO.guardSkip rfl rfl rfl rfl rfl ?_
      refine XO.guardSkip rfl rfl rfl rfl rfl ?_
      refine XO.v (V.pick rfl rfl rfl rfl) rfl ?_
      refine XO.nil ?_
      refine XE.next ?_
      refine XC.keep [(0, _), (1, _), (2, _), (23, _)] (Sub.cons rfl (Sub.cons rfl (Sub.cons rfl (Sub.cons rfl (Sub.nil _))))) ?_
      refine XC.condT rfl rfl ?_
      refine XC.seq ?_
      refine XC.region ?_
      refine XO.v (V.assign rfl) rfl ?_
      refine XO.v (V.assign rfl) rfl ?_
      refine XO.nil ?_
      refine XE.next ?_
      refine XC.keep [(6, _), (7, _)] (Sub.cons rfl (Sub.cons rfl (Sub.nil _))) ?_
      refine XC.ret ?_
      refine XE.thenRet ?_
      refine XE.ret2 rfl rfl rfl (post_of (.cons .here .nil) rfl ?_)
      rw [SS.enter_bound i0 (by omega)]; exact ⟨rfl, rfl⟩
    · skip
      refine XO.guardRun rfl rfl rfl ?_
      refine XO.v (V.move rfl) rfl ?_
      refine XO.guardRun rfl rfl rfl ?_
      refine XO.v (V.cmp rfl rfl rfl) rfl ?_
      refine XO.v (V.pick rfl rfl rfl rfl) rfl ?_
      refine XO.nil ?_
      refine XE.next ?_
      refine XC.keep [(0, _), (1, _), (2, _), (23, _)] (Sub.cons rfl (Sub.cons rfl (Sub.cons rfl (Sub.cons rfl (Sub.nil _))))) ?_
      refine XC.condP rfl (fun h5 => ?_) (fun h5 => ?_)
      · skip
        refine XC.seq ?_
        refine XC.region ?_
        refine XO.v (V.assign rfl) rfl ?_
        refine XO.v (V.assign rfl) rfl ?_
        refine XO.nil ?_
        refine XE.next ?_
        refine XC.keep [(6, _), (7, _)] (Sub.cons rfl (Sub.cons rfl (Sub.nil _))) ?_
        refine XC.ret ?_
        refine XE.thenRet ?_
        refine XE.ret2 rfl rfl rfl (post_of (.cons .here .nil) rfl ?_)
        rw [SS.enter_bound i0 (by omega)]; exact ⟨rfl, rfl⟩
      · skip
        refine XC.skip ?_
        refine XE.next ?_
        refine XC.keep [(0, _), (1, _), (2, _)] (Sub.cons rfl (Sub.cons rfl (Sub.cons rfl (Sub.nil _)))) ?_
        refine XC.seq ?_
        refine XC.seq ?_
        refine XC.region ?_
        refine XO.v (V.move rfl) rfl ?_
        refine XO.v (V.move rfl) rfl ?_
        refine XO.v (V.nilCheckP rfl) rfl ?_
        refine XO.v (V.fieldAddr rfl fo_104_1) rfl ?_
        refine XO.v (V.indexArr rfl rfl ar_96 (by omega)) rfl ?_
        refine XO.v (V.load rfl (inXM .here) (encU.ld_Of_I _ _ (by omega)) sc_3) rfl ?_
        refine XO.v (V.cmp rfl rfl rfl) rfl ?_
        refine XO.nil ?_
        refine XE.next ?_
        refine XC.keep [(0, _), (1, _), (2, _), (30, _)] (Sub.cons rfl (Sub.cons rfl (Sub.cons rfl (Sub.cons rfl (Sub.nil _))))) ?_
        refine XC.condP rfl (fun h6 => ?_) (fun h6 => ?_)
        · skip
          refine XC.seq ?_
          refine XC.region ?_
          refine XO.v (V.assign rfl) rfl ?_
          refine XO.v (V.assign rfl) rfl ?_
          refine XO.nil ?_
          refine XE.next ?_
          refine XC.keep [(6, _), (7, _)] (Sub.cons rfl (Sub.cons rfl (Sub.nil _))) ?_
          refine XC.ret ?_
          refine XE.thenRet ?_
          refine XE.ret2 rfl rfl rfl (post_of (.cons .here .nil) rfl ?_)
          rw [SS.enter_exist i0 (by omega) (by omega)]; exact ⟨rfl, rfl⟩
        · skip
          refine XC.skip ?_
          refine XE.next ?_
          refine XC.keep [(0, _), (1, _), (2, _)] (Sub.cons rfl (Sub.cons rfl (Sub.cons rfl (Sub.nil _)))) ?_
          refine XC.seq ?_
          refine XC.region ?_
          refine XO.v (V.move rfl) rfl ?_
          refine XO.v (V.move rfl) rfl ?_
          refine XO.v (V.move rfl) rfl ?_
          refine XO.v (V.add rfl rfl _ (IntWalk.i64_in _ (by omega))) rfl ?_
          refine XO.v (V.nilCheckP rfl) rfl ?_
          refine XO.v (V.fieldAddr rfl fo_104_1) rfl ?_
          refine XO.v (V.indexArr rfl rfl ar_96 (by omega)) rfl ?_
          refine XO.store rfl rfl .here (encU_of _ _ _ (by omega)) rfl sz_3_1 ?_
          refine XO.nil ?_
          refine XE.next ?_
          refine XC.keep [(0, _), (1, _), (2, _)] (Sub.cons rfl (Sub.cons rfl (Sub.cons rfl (Sub.nil _)))) ?_
          refine XC.seq ?_
          refine XC.region ?_
          have hD1 : ({ s with loc := fset s.loc p n } : SS).Deep dep := ⟨hD.d⟩
          have hay := ({ s with loc := fset s.loc p n } : SS).way_len dep n
          have hdn := hD.d n i1 i2 i3
          have hwe : (({ s with loc := fset s.loc p n } : SS).way dep n) = s.way dep n := SS.wayF_congr (s := s) (s' := ({ s with loc := fset s.loc p n } : SS)) rfl _ _
          refine XO.v (V.move rfl) rfl ?_
          refine XO.v (V.move rfl) rfl ?_
          refine XO.call rfl (u_Way _ _ ({ s with loc := fset s.loc p n } : SS) dep hD1 n ⟨i1, i2, i3⟩) (.cons .here .nil) cl_63 rfl ?_
          rintro _ _ ⟨pl, cl, rfl, rfl⟩
          refine XO.v (V.assign rfl) rfl ?_
          refine XO.nil ?_
          refine XE.next ?_
          refine XC.keep [(0, _), (1, _), (2, _), (9, _)] (Sub.cons rfl (Sub.cons rfl (Sub.cons rfl (Sub.cons rfl (Sub.nil _))))) ?_
          refine XC.seq ?_
          refine XC.seq ?_
          refine XC.region ?_
          refine XO.v (V.assign rfl) rfl ?_
          refine XO.nil ?_
          refine XE.next ?_
          refine XC.keep [(0, _), (1, _), (2, _), (9, _), (10, _)] (Sub.cons rfl (Sub.cons rfl (Sub.cons rfl (Sub.cons rfl (Sub.cons rfl (Sub.nil _)))))) ?_
          refine XC.block ?_
          refine XC.loop (σ := Int × (Int → Int → Int)) (fun x => ((({ s with loc := fset s.loc p n } : SS).way dep n).length - x.1).toNat) (fun x => (0 ≤ x.1 ∧ x.1 ≤ (({ s with loc := fset s.loc p n } : SS).way dep n).length) ∧ enterL x.2 p ((({ s with loc := fset s.loc p n } : SS).way dep n).drop x.1.toNat) = enterL s.who p (({ s with loc := fset s.loc p n } : SS).way dep n) ∧ (∀ a ∈ (s.way dep n).drop x.1.toNat, x.2 a = s.who a) ∧ ∀ m q, -1 ≤ x.2 m q ∧ x.2 m q < 20) (fun x => [(10, .int .i64 x.1), (0, ptr b o 0), (1, .int .i64 n), (2, .int .i64 p), (9, .slice pl (({ s with loc := fset s.loc p n } : SS).way dep n).length cl)]) (fun x => XM W (foot [.cells b o 158 (encU s)]) [irow pl cl 3 (({ s with loc := fset s.loc p n } : SS).way dep n), .cells b o 158 (encU { s with loc := fset s.loc p n, who := x.2 })]) ((0, s.who)) ?_ (Sub.cons rfl (Sub.cons rfl (Sub.cons rfl (Sub.cons rfl (Sub.cons rfl (Sub.nil _)))))) (fun _ hw => XM.pick (.cons .here (.cons .here .nil)) hw) ?_
          · skip
            exact ⟨by omega, rfl, fun _ _ => rfl, hI.bnd⟩
          intro x hx
          obtain ⟨hx, hw, hsm, hxb⟩ := hx
          refine XC.seq ?_
          refine XC.seq ?_
          refine XC.region ?_
          refine XO.v (V.move rfl) rfl ?_
          refine XO.v (V.move rfl) rfl ?_
          refine XO.v (V.lenSl rfl Try.underlying85) rfl ?_
          refine XO.v (V.cmp rfl rfl rfl) rfl ?_
          refine XO.nil ?_
          refine XE.next ?_
          refine XC.keep [(0, _), (1, _), (2, _), (9, _), (10, _), (44, _)] (Sub.cons rfl (Sub.cons rfl (Sub.cons rfl (Sub.cons rfl (Sub.cons rfl (Sub.cons rfl (Sub.nil _))))))) ?_
          refine XC.condP rfl (fun h7 => ?_) (fun h7 => ?_)
          · skip
            obtain ⟨a0, a1, a2⟩ := SS.way_at hD1 (n := n) ⟨i1, i2, i3⟩ (z := x.1) ⟨hx.1, by omega⟩
            have hfr : ∃ q, 1 ≤ q ∧ q ≤ 20 ∧ x.2 (at0 (({ s with loc := fset s.loc p n } : SS).way dep n) x.1) q < 0 := by
              have h8 := (hI.entered_free (p := p) ⟨i1, i2, i3⟩ ⟨hx.1, by rw [← hwe]; omega⟩ hsm 0 0).1
              rw [← hwe] at h8
              rw [h8]
              exact hI.free (p := p) (by omega) (by omega) _
            refine XC.skip ?_
            refine XE.next ?_
            refine XC.keep [(0, _), (1, _), (2, _), (9, _), (10, _)] (Sub.cons rfl (Sub.cons rfl (Sub.cons rfl (Sub.cons rfl (Sub.cons rfl (Sub.nil _)))))) ?_
            refine XC.seq ?_
            refine XC.block ?_
            refine XC.seq ?_
            refine XC.openRow .here (by omega) ?_
            intro gA h8
            subst h8
            refine XC.region ?_
            refine XO.v (V.assign rfl) rfl ?_
            refine XO.nil ?_
            refine XE.next ?_
            refine XC.keep [(0, _), (1, _), (2, _), (9, _), (10, _), (11, _)] (Sub.cons rfl (Sub.cons rfl (Sub.cons rfl (Sub.cons rfl (Sub.cons rfl (Sub.cons rfl (Sub.nil _))))))) ?_
            refine XC.seq ?_
            refine XC.block ?_
            refine XC.loop (σ := Int) (fun k => (21 - k).toNat) (fun k => (1 ≤ k ∧ k ≤ 20) ∧ ∀ j : Int, 1 ≤ j → j < k → ¬ x.2 (at0 (({ s with loc := fset s.loc p n } : SS).way dep n) x.1) j < 0) (fun k => [(11, .int .i64 k), (0, ptr b o 0), (1, .int .i64 n), (2, .int .i64 p), (9, .slice (some ⟨gA, 0, none⟩) (({ s with loc := fset s.loc p n } : SS).way dep n).length cl), (10, .int .i64 x.1)]) (fun k => XM W (foot [.cells b o 158 (encU s)]) [irow (some ⟨gA, 0, none⟩) cl 3 (({ s with loc := fset s.loc p n } : SS).way dep n), .cells b o 158 (encU { s with loc := fset s.loc p n, who := x.2 })]) (1) ?_ (Sub.cons rfl (Sub.cons rfl (Sub.cons rfl (Sub.cons rfl (Sub.cons rfl (Sub.cons rfl (Sub.nil _))))))) (fun _ hw => XM.pick (.cons .here (.cons .here .nil)) hw) ?_
            · skip
              exact ⟨by omega, fun j h1 h2 => by omega⟩
            intro k hk
            obtain ⟨hk, hk2⟩ := hk
            have hxk := hxb (at0 (({ s with loc := fset s.loc p n } : SS).way dep n) x.1) k
            refine XC.seq ?_
            refine XC.seq ?_
            refine XC.regionQ mixed (f := 13) (l := #[false, false, false, false, false, false, false, false, false, false, false, false, false]) rfl rfl XM.drawn' ?_
            refine XQ.pv (i := 0) (l' := #[true, false, false, false, false, false, false, false, false, false, false, false, false]) rfl (by kernel_rfl) rfl (V.move rfl) rfl rfl ?_
            refine XQ.pv (i := 1) (l' := #[true, true, false, false, false, false, false, false, false, false, false, false, false]) rfl (by kernel_rfl) rfl (V.move rfl) rfl rfl ?_
            refine XQ.pv (i := 2) (l' := #[true, true, true, false, false, false, false, false, false, false, false, false, false]) rfl (by kernel_rfl) rfl (V.move rfl) rfl rfl ?_
            refine XQ.pv (i := 3) (l' := #[true, true, true, true, false, false, false, false, false, false, false, false, false]) rfl (by kernel_rfl) rfl (V.indexSl rfl rfl sl_85 (by omega)) rfl rfl ?_
            refine XQ.load (i := 4) (l' := #[true, true, true, true, true, false, false, false, false, false, false, false, false]) (.row _ _ _ _ _) [] rfl (by kernel_rfl) rfl .here (V.loadRow rfl inEnt (ints_at (by omega)) sc_3) rfl (by kernel_rfl) rfl ?_
            refine XQ.pv (i := 5) (l' := #[true, true, true, true, true, true, false, false, false, false, false, false, false]) rfl (by kernel_rfl) rfl (V.move rfl) rfl rfl ?_
            refine XQ.pv (i := 6) (l' := #[true, true, true, true, true, true, true, false, false, false, false, false, false]) rfl (by kernel_rfl) rfl (V.nilCheckP rfl) rfl rfl ?_
            refine XQ.pv (i := 7) (l' := #[true, true, true, true, true, true, true, true, false, false, false, false, false]) rfl (by kernel_rfl) rfl (V.fieldAddr rfl fo_104_0) rfl rfl ?_
            refine XQ.pv (i := 8) (l' := #[true, true, true, true, true, true, true, true, true, false, false, false, false]) rfl (by kernel_rfl) rfl (V.indexArr rfl rfl ar_102 (by omega)) rfl rfl ?_
            refine XQ.pv (i := 9) (l' := #[true, true, true, true, true, true, true, true, true, true, false, false, false]) rfl (by kernel_rfl) rfl (V.fieldAddr rfl fo_101_2) rfl rfl ?_
            refine XQ.pv (i := 10) (l' := #[true, true, true, true, true, true, true, true, true, true, true, false, false]) rfl (by kernel_rfl) rfl (V.indexArr rfl rfl ar_92 (by omega)) rfl rfl ?_
            refine XQ.load (i := 11) (l' := #[true, true, true, true, true, true, true, true, true, true, true, true, false]) (.cells _ _ _ _) [] rfl (by kernel_rfl) rfl (.there .here) (V.load rfl inEnt (encU.ld_S_I_Who_I _ _ _ (by omega) (by omega)) sc_3) rfl (by kernel_rfl) rfl ?_
            refine XQ.pv (i := 12) (l' := #[true, true, true, true, true, true, true, true, true, true, true, true, true]) rfl (by kernel_rfl) rfl (V.cmp rfl rfl rfl) rfl rfl ?_
            refine XQ.done (by kernel_rfl) ?_
            refine XE.next ?_
            refine XC.keep [(0, _), (1, _), (2, _), (9, _), (10, _), (11, _), (59, _)] (Sub.cons rfl (Sub.cons rfl (Sub.cons rfl (Sub.cons rfl (Sub.cons rfl (Sub.cons rfl (Sub.cons rfl (Sub.nil _)))))))) ?_
            refine XC.condP rfl (fun h9 => ?_) (fun h9 => ?_)
            · skip
              have hge : ¬ x.2 (at0 (({ s with loc := fset s.loc p n } : SS).way dep n) x.1) k < 0 := by
                have h9 : x.2 (at0 (({ s with loc := fset s.loc p n } : SS).way dep n) x.1) k + 1 > 0 := h9
                omega
              refine XC.skip ?_
              refine XE.next ?_
              refine XC.keep [(0, _), (1, _), (2, _), (9, _), (10, _), (11, _)] (Sub.cons rfl (Sub.cons rfl (Sub.cons rfl (Sub.cons rfl (Sub.cons rfl (Sub.cons rfl (Sub.nil _))))))) ?_
              refine XC.block ?_
              refine XC.region ?_
              refine XO.v (V.move rfl) rfl ?_
              refine XO.v (V.add rfl rfl _ (IntWalk.i64_in _ (by omega))) rfl ?_
              refine XO.v (V.assign rfl) rfl ?_
              refine XO.nil ?_
              refine XE.blockNormal ?_
              refine XE.again (k + 1) ?_ ?_ (Sub.cons rfl (Sub.cons rfl (Sub.cons rfl (Sub.cons rfl (Sub.cons rfl (Sub.cons rfl (Sub.nil _))))))) (fun _ hw => XM.pick (.cons .here (.cons .here .nil)) hw)
              · skip
                (first | omega | (simp; done) | (simp; omega))
              · skip
                have hk20 : ¬ k = 20 := by
                  intro e
                  obtain ⟨q, q1, q2, q3⟩ := hfr
                  by_cases c : q = k
                  · rw [c] at q3; omega
                  · exact hk2 q q1 (by omega) q3
                refine ⟨by omega, fun j h1 h2 => ?_⟩
                by_cases hj : j = k
                · subst hj; omega
                · exact hk2 j h1 (by omega)
            · skip
              have hlt : x.2 (at0 (({ s with loc := fset s.loc p n } : SS).way dep n) x.1) k < 0 := by
                have h9 : ¬ x.2 (at0 (({ s with loc := fset s.loc p n } : SS).way dep n) x.1) k + 1 > 0 := h9
                omega
              refine XC.exit ?_
              refine XE.thenExit ?_
              refine XE.thenExit ?_
              refine XE.blockExit ?_
              refine XE.next ?_
              refine XC.keep [(0, _), (1, _), (2, _), (9, _), (10, _), (11, _)] (Sub.cons rfl (Sub.cons rfl (Sub.cons rfl (Sub.cons rfl (Sub.cons rfl (Sub.cons rfl (Sub.nil _))))))) ?_
              refine XC.regionQ mixed (f := 14) (l := #[false, false, false, false, false, false, false, false, false, false, false, false, false, false]) rfl rfl XM.drawn' ?_
              refine XQ.pv (i := 0) (l' := #[true, false, false, false, false, false, false, false, false, false, false, false, false, false]) rfl (by kernel_rfl) rfl (V.move rfl) rfl rfl ?_
              refine XQ.pv (i := 1) (l' := #[true, true, false, false, false, false, false, false, false, false, false, false, false, false]) rfl (by kernel_rfl) rfl (V.move rfl) rfl rfl ?_
              refine XQ.pv (i := 2) (l' := #[true, true, true, false, false, false, false, false, false, false, false, false, false, false]) rfl (by kernel_rfl) rfl (V.move rfl) rfl rfl ?_
              refine XQ.pv (i := 3) (l' := #[true, true, true, true, false, false, false, false, false, false, false, false, false, false]) rfl (by kernel_rfl) rfl (V.indexSl rfl rfl sl_85 (by omega)) rfl rfl ?_
              refine XQ.load (i := 4) (l' := #[true, true, true, true, true, false, false, false, false, false, false, false, false, false]) (.row _ _ _ _ _) [13] rfl (by kernel_rfl) rfl .here (V.loadRow rfl inEnt (ints_at (by omega)) sc_3) rfl (by kernel_rfl) rfl ?_
              refine XQ.pv (i := 5) (l' := #[true, true, true, true, true, true, false, false, false, false, false, false, false, false]) rfl (by kernel_rfl) rfl (V.move rfl) rfl rfl ?_
              refine XQ.pv (i := 6) (l' := #[true, true, true, true, true, true, true, false, false, false, false, false, false, false]) rfl (by kernel_rfl) rfl (V.move rfl) rfl rfl ?_
              refine XQ.pv (i := 7) (l' := #[true, true, true, true, true, true, true, true, false, false, false, false, false, false]) rfl (by kernel_rfl) rfl (V.add rfl rfl _ (IntWalk.i64_in _ (by omega))) rfl rfl ?_
              refine XQ.pv (i := 8) (l' := #[true, true, true, true, true, true, true, true, true, false, false, false, false, false]) rfl (by kernel_rfl) rfl (V.nilCheckP rfl) rfl rfl ?_
              refine XQ.pv (i := 9) (l' := #[true, true, true, true, true, true, true, true, true, true, false, false, false, false]) rfl (by kernel_rfl) rfl (V.fieldAddr rfl fo_104_0) rfl rfl ?_
              refine XQ.pv (i := 10) (l' := #[true, true, true, true, true, true, true, true, true, true, true, false, false, false]) rfl (by kernel_rfl) rfl (V.indexArr rfl rfl ar_102 (by omega)) rfl rfl ?_
              refine XQ.pv (i := 11) (l' := #[true, true, true, true, true, true, true, true, true, true, true, true, false, false]) rfl (by kernel_rfl) rfl (V.fieldAddr rfl fo_101_2) rfl rfl ?_
              refine XQ.pv (i := 12) (l' := #[true, true, true, true, true, true, true, true, true, true, true, true, true, false]) rfl (by kernel_rfl) rfl (V.indexArr rfl rfl ar_92 (by omega)) rfl rfl ?_
              refine XQ.store (i := 13) (l' := #[true, true, true, true, true, true, true, true, true, true, true, true, true, true]) rfl (by kernel_rfl) rfl rfl rfl (.there .here) (encU_who _ _ _ _ (by omega) (by omega)) rfl sz_3_1 (fun _ hw' => ⟨fun hs => (hs 13 (by simp) rfl).elim, trivial⟩) ?_
              refine XQ.done (by kernel_rfl) ?_
              refine XE.blockNormal ?_
              refine XE.next ?_
              refine XC.keep [(0, _), (1, _), (2, _), (9, _), (10, _)] (Sub.cons rfl (Sub.cons rfl (Sub.cons rfl (Sub.cons rfl (Sub.cons rfl (Sub.nil _)))))) ?_
              refine XC.region ?_
              refine XO.v (V.move rfl) rfl ?_
              refine XO.v (V.add rfl rfl _ (IntWalk.i64_in _ (by omega))) rfl ?_
              refine XO.v (V.assign rfl) rfl ?_
              refine XO.nil ?_
              refine XE.again ((x.1 + 1, fset2 x.2 (at0 (({ s with loc := fset s.loc p n } : SS).way dep n) x.1) k p)) ?_ ?_ (Sub.cons rfl (Sub.cons rfl (Sub.cons rfl (Sub.cons rfl (Sub.cons rfl (Sub.nil _)))))) (fun _ hw => XM.pick (.cons .here (.cons .here .nil)) hw)
              · skip
                (first | omega | (simp; done) | (simp; omega))
              · skip
                refine ⟨by simp; omega, ?_, ?_, fun m q => ?_⟩
                · rw [← hw, drop_at0 ⟨hx.1, by omega⟩, enterL, put1_some ⟨by omega, by omega⟩ hlt (fun j h1 h2 => hk2 j h1 h2)]
                · have := (hI.entered_free (p := p) ⟨i1, i2, i3⟩ ⟨hx.1, by rw [← hwe]; omega⟩ hsm k p).2
                  rw [← hwe] at this ⊢
                  exact this
                · have := hxb m q
                  show -1 ≤ fset2 x.2 _ k p m q ∧ fset2 x.2 _ k p m q < 20
                  unfold fset2; split <;> omega
          · skip
            refine XC.exit ?_
            refine XE.thenExit ?_
            refine XE.thenExit ?_
            refine XE.blockExit ?_
            refine XE.next ?_
            refine XC.keep [(0, _), (1, _), (2, _)] (Sub.cons rfl (Sub.cons rfl (Sub.cons rfl (Sub.nil _)))) ?_
            refine XC.seq ?_
            refine XC.region ?_
            have hxe : x.1 = (({ s with loc := fset s.loc p n } : SS).way dep n).length := by omega
            have he : x.2 = enterL s.who p (s.way dep n) := by
              rw [hxe] at hw
              simp at hw
              exact (show x.2 = enterL x.2 p [] from rfl).trans (hw.trans (congrArg (enterL s.who p) hwe))
            have hI2 : (s.entered dep n p).Inv dep := hI.entered ⟨i1, i2, i3⟩ (by omega) (by omega)
            refine XO.v (V.move rfl) rfl ?_
            refine XO.v (V.move rfl) rfl ?_
            refine XO.v (V.move rfl) rfl ?_
            refine XO.call rfl (u_Pid _ _ _ _ _ (by show x.2 n 0 = -1; rw [he]; exact hI2.z n)) (.cons (.there .here) .nil) cl_67 rfl ?_
            rintro _ _ ⟨rfl, rfl⟩
            refine XO.v (V.extract rfl rfl) rfl ?_
            refine XO.v (V.extract rfl rfl) rfl ?_
            refine XO.v (V.assign rfl) rfl ?_
            refine XO.v (V.assign rfl) rfl ?_
            refine XO.nil ?_
            refine XE.next ?_
            refine XC.keep [(6, _), (7, _)] (Sub.cons rfl (Sub.cons rfl (Sub.nil _))) ?_
            refine XC.ret ?_
            refine XE.ret2 rfl rfl rfl (post_of (.cons .here .nil) rfl ?_)
            rw [SS.enter_ok i0 (by omega) (by omega)]
            unfold SS.entered
            rw [← he]
            exact ⟨rfl, rfl⟩
set_option maxRecDepth 10000 in
set_option maxHeartbeats 1000000 in
theorem u_Leave (b o : Nat) (s : SS) (dep : Int → Nat) (hI : s.Inv dep) (p : Int) : Spec Try.prog 21 [ptr b o 0, .int .i64 p]
    [.cells b o 158 (encU s)]
    (fun v H1 => v = .int .i64 (s.leave p).1 ∧ H1 = [.cells b o 158 (encU (s.leave p).2)]) := by
  have hbl := hI.loc p
  refine Spec.intro Try.func21 rfl rfl ?_
  intro W
  refine XC.seq ?_
  refine XC.region ?_
  refine XO.v (V.assign rfl) rfl ?_
  refine XO.nil ?_
  refine XE.next ?_
  refine XC.keep [(0, _), (1, _)] (Sub.cons rfl (Sub.cons rfl (Sub.nil _))) ?_
  refine XC.seq ?_
  refine XC.region ?_
  refine XO.v (V.move rfl) rfl ?_
  refine XO.v (V.move rfl) rfl ?_
  refine XO.call rfl (u_In _ _ _ _ hbl) (.cons .here .nil) cl_69 rfl ?_
  rintro _ _ ⟨⟨rfl, hin, hin0⟩, rfl⟩
  refine XO.v (V.move rfl) rfl ?_
  refine XO.v (V.extract rfl rfl) rfl ?_
  refine XO.v (V.extract rfl rfl) rfl ?_
  refine XO.v (V.assign rfl) rfl ?_
  refine XO.v (V.assign rfl) rfl ?_
  refine XO.nil ?_
  refine XE.next ?_
  refine XC.keep [(0, _), (1, _), (6, _)] (Sub.cons rfl (Sub.cons rfl (Sub.cons rfl (Sub.nil _)))) ?_
  refine XC.seq ?_
  refine XC.seq ?_
  refine XC.region ?_
  refine XO.v (V.move rfl) rfl ?_
  refine XO.v (V.cmp rfl rfl rfl) rfl ?_
  refine XO.nil ?_
  refine XE.next ?_
  refine XC.keep [(0, _), (1, _), (6, _), (16, _)] (Sub.cons rfl (Sub.cons rfl (Sub.cons rfl (Sub.cons rfl (Sub.nil _))))) ?_
  refine XC.condP rfl (fun h1 => ?_) (fun h1 => ?_)
  · skip
    refine XC.seq ?_
    refine XC.region ?_
    refine XO.v (V.move rfl) rfl ?_
    refine XO.v (V.assign rfl) rfl ?_
    refine XO.nil ?_
    refine XE.next ?_
    refine XC.keep [(4, _)] (Sub.cons rfl (Sub.nil _)) ?_
    refine XC.ret ?_
    refine XE.thenRet ?_
    refine XE.ret1 rfl rfl (post_of (.cons .here .nil) rfl ?_)
    have hv : s.leave p = ((s.in_ p).2, s) := by unfold SS.leave; rw [if_pos (by omega)]
    rw [hv]; exact ⟨rfl, rfl⟩
  · skip
    have hi0 : (s.in_ p).2 = 0 := by omega
    obtain ⟨p0, p20⟩ := hin hi0
    refine XC.skip ?_
    refine XE.next ?_
    refine XC.keep [(0, _), (1, _)] (Sub.cons rfl (Sub.cons rfl (Sub.nil _))) ?_
    refine XC.seq ?_
    refine XC.seq ?_
    refine XC.region ?_
    refine XO.v (V.assign rfl) rfl ?_
    refine XO.nil ?_
    refine XE.next ?_
    refine XC.keep [(0, _), (1, _), (7, _)] (Sub.cons rfl (Sub.cons rfl (Sub.cons rfl (Sub.nil _)))) ?_
    refine XC.block ?_
    refine XC.loop (σ := Int) (fun y => (6 - y).toNat) (fun y => 0 ≤ y ∧ y ≤ 6) (fun y => [(7, .int .i64 y), (0, ptr b o 0), (1, .int .i64 p)]) (fun y => XM W (foot [.cells b o 158 (encU s)]) [.cells b o 158 (encU { s with who := clrN s.who p y 1 })]) (0) ?_ (Sub.cons rfl (Sub.cons rfl (Sub.cons rfl (Sub.nil _)))) (fun _ hw2 => by rw [clrN_zero]; exact XM.pick (.cons .here .nil) hw2) ?_
    · skip
      omega
    intro y hy
    refine XC.seq ?_
    refine XC.seq ?_
    refine XC.region ?_
    refine XO.v (V.move rfl) rfl ?_
    refine XO.v (V.cmp rfl rfl rfl) rfl ?_
    refine XO.nil ?_
    refine XE.next ?_
    refine XC.keep [(0, _), (1, _), (7, _), (19, _)] (Sub.cons rfl (Sub.cons rfl (Sub.cons rfl (Sub.cons rfl (Sub.nil _))))) ?_
    refine XC.condP rfl (fun h2 => ?_) (fun h2 => ?_)
    · skip
      refine XC.skip ?_
      refine XE.next ?_
      refine XC.keep [(0, _), (1, _), (7, _)] (Sub.cons rfl (Sub.cons rfl (Sub.cons rfl (Sub.nil _)))) ?_
      refine XC.seq ?_
      refine XC.block ?_
      refine XC.seq ?_
      refine XC.region ?_
      refine XO.v (V.assign rfl) rfl ?_
      refine XO.nil ?_
      refine XE.next ?_
      refine XC.keep [(0, _), (1, _), (7, _), (8, _)] (Sub.cons rfl (Sub.cons rfl (Sub.cons rfl (Sub.cons rfl (Sub.nil _))))) ?_
      refine XC.block ?_
      refine XC.loop (σ := Int) (fun k => (21 - k).toNat) (fun k => 1 ≤ k ∧ k ≤ 21) (fun k => [(8, .int .i64 k), (0, ptr b o 0), (1, .int .i64 p), (7, .int .i64 y)]) (fun k => XM W (foot [.cells b o 158 (encU s)]) [.cells b o 158 (encU { s with who := clrN s.who p y k })]) (1) ?_ (Sub.cons rfl (Sub.cons rfl (Sub.cons rfl (Sub.cons rfl (Sub.nil _))))) (fun _ hw => XM.pick (.cons .here .nil) hw) ?_
      · skip
        omega
      intro k hk
      have hat := clrN_at s.who p y k
      have hbk := hI.bnd y k
      refine XC.seq ?_
      refine XC.seq ?_
      refine XC.region ?_
      refine XO.v (V.move rfl) rfl ?_
      refine XO.v (V.cmp rfl rfl rfl) rfl ?_
      refine XO.nil ?_
      refine XE.next ?_
      refine XC.keep [(0, _), (1, _), (7, _), (8, _), (23, _)] (Sub.cons rfl (Sub.cons rfl (Sub.cons rfl (Sub.cons rfl (Sub.cons rfl (Sub.nil _)))))) ?_
      refine XC.condP rfl (fun h3 => ?_) (fun h3 => ?_)
      · skip
        refine XC.skip ?_
        refine XE.next ?_
        refine XC.keep [(0, _), (1, _), (7, _), (8, _)] (Sub.cons rfl (Sub.cons rfl (Sub.cons rfl (Sub.cons rfl (Sub.nil _))))) ?_
        refine XC.seq ?_
        refine XC.block ?_
        refine XC.seq ?_
        refine XC.region ?_
        refine XO.v (V.move rfl) rfl ?_
        refine XO.v (V.move rfl) rfl ?_
        refine XO.v (V.move rfl) rfl ?_
        refine XO.v (V.nilCheckP rfl) rfl ?_
        refine XO.v (V.fieldAddr rfl fo_104_0) rfl ?_
        refine XO.v (V.indexArr rfl rfl ar_102 (by omega)) rfl ?_
        refine XO.v (V.fieldAddr rfl fo_101_2) rfl ?_
        refine XO.v (V.indexArr rfl rfl ar_92 (by omega)) rfl ?_
        refine XO.v (V.load rfl (inXM .here) (encU.ld_S_I_Who_I _ _ _ (by omega) (by omega)) sc_3) rfl ?_
        refine XO.v (V.move rfl) rfl ?_
        refine XO.v (V.add rfl rfl _ (IntWalk.i64_in _ (by omega))) rfl ?_
        refine XO.v (V.cmp rfl rfl rfl) rfl ?_
        refine XO.nil ?_
        refine XE.next ?_
        refine XC.keep [(0, _), (1, _), (7, _), (8, _), (37, _)] (Sub.cons rfl (Sub.cons rfl (Sub.cons rfl (Sub.cons rfl (Sub.cons rfl (Sub.nil _)))))) ?_
        refine XC.condP rfl (fun h4 => ?_) (fun h4 => ?_)
        · skip
          have h9 : clrN s.who p y k y k + 1 = p + 1 := h4
          rw [hat] at h9
          refine XC.region ?_
          refine XO.v (V.move rfl) rfl ?_
          refine XO.v (V.move rfl) rfl ?_
          refine XO.v (V.move rfl) rfl ?_
          refine XO.v (V.nilCheckP rfl) rfl ?_
          refine XO.v (V.fieldAddr rfl fo_104_0) rfl ?_
          refine XO.v (V.indexArr rfl rfl ar_102 (by omega)) rfl ?_
          refine XO.v (V.fieldAddr rfl fo_101_2) rfl ?_
          refine XO.v (V.indexArr rfl rfl ar_92 (by omega)) rfl ?_
          refine XO.store rfl rfl .here (encU_who0 _ _ _ (by omega) (by omega)) rfl sz_3_1 ?_
          refine XO.nil ?_
          refine XE.blockNormal ?_
          refine XE.next ?_
          refine XC.keep [(0, _), (1, _), (7, _), (8, _)] (Sub.cons rfl (Sub.cons rfl (Sub.cons rfl (Sub.cons rfl (Sub.nil _))))) ?_
          refine XC.region ?_
          refine XO.v (V.move rfl) rfl ?_
          refine XO.v (V.add rfl rfl _ (IntWalk.i64_in _ (by omega))) rfl ?_
          refine XO.v (V.assign rfl) rfl ?_
          refine XO.nil ?_
          refine XE.again (k + 1) ?_ ?_ (Sub.cons rfl (Sub.cons rfl (Sub.cons rfl (Sub.cons rfl (Sub.nil _))))) (fun _ hw2 => by first | (rw [← clrN_set (by omega) (by omega)]; exact XM.pick (.cons .here .nil) hw2) | (rw [← clrN_skip (by omega)]; exact XM.pick (.cons .here .nil) hw2))
          · skip
            (first | omega | (simp; done) | (simp; omega))
          · skip
            (first | omega | (simp; done) | (simp; omega))
        · skip
          have h9 : ¬ clrN s.who p y k y k + 1 = p + 1 := h4
          rw [hat] at h9
          refine XC.skip ?_
          refine XE.blockNormal ?_
          refine XE.next ?_
          refine XC.keep [(0, _), (1, _), (7, _), (8, _)] (Sub.cons rfl (Sub.cons rfl (Sub.cons rfl (Sub.cons rfl (Sub.nil _))))) ?_
          refine XC.region ?_
          refine XO.v (V.move rfl) rfl ?_
          refine XO.v (V.add rfl rfl _ (IntWalk.i64_in _ (by omega))) rfl ?_
          refine XO.v (V.assign rfl) rfl ?_
          refine XO.nil ?_
          refine XE.again (k + 1) ?_ ?_ (Sub.cons rfl (Sub.cons rfl (Sub.cons rfl (Sub.cons rfl (Sub.nil _))))) (fun _ hw2 => by first | (rw [← clrN_set (by omega) (by omega)]; exact XM.pick (.cons .here .nil) hw2) | (rw [← clrN_skip (by omega)]; exact XM.pick (.cons .here .nil) hw2))
          · skip
            (first | omega | (simp; done) | (simp; omega))
          · skip
            (first | omega | (simp; done) | (simp; omega))
      · skip
        refine XC.exit ?_
        refine XE.thenExit ?_
        refine XE.thenExit ?_
        refine XE.blockExit ?_
        refine XE.blockNormal ?_
        refine XE.next ?_
        refine XC.keep [(0, _), (1, _), (7, _)] (Sub.cons rfl (Sub.cons rfl (Sub.cons rfl (Sub.nil _)))) ?_
        refine XC.region ?_
        refine XO.v (V.move rfl) rfl ?_
        refine XO.v (V.add rfl rfl _ (IntWalk.i64_in _ (by omega))) rfl ?_
        refine XO.v (V.assign rfl) rfl ?_
        refine XO.nil ?_
        refine XE.again (y + 1) ?_ ?_ (Sub.cons rfl (Sub.cons rfl (Sub.cons rfl (Sub.nil _)))) (fun _ hw2 => by rw [show k = 21 from by omega, clrN_row hy.1] at hw2; exact XM.pick (.cons .here .nil) hw2)
        · skip
          (first | omega | (simp; done) | (simp; omega))
        · skip
          (first | omega | (simp; done) | (simp; omega))
    · skip
      refine XC.exit ?_
      refine XE.thenExit ?_
      refine XE.thenExit ?_
      refine XE.blockExit ?_
      refine XE.next ?_
      refine XC.keep [(0, _), (1, _)] (Sub.cons rfl (Sub.cons rfl (Sub.nil _))) ?_
      refine XC.seq ?_
      refine XC.region ?_
      refine XO.v (V.move rfl) rfl ?_
      refine XO.v (V.move rfl) rfl ?_
      refine XO.v (V.nilCheckP rfl) rfl ?_
      refine XO.v (V.fieldAddr rfl fo_104_1) rfl ?_
      refine XO.v (V.indexArr rfl rfl ar_96 (by omega)) rfl ?_
      refine XO.store rfl rfl .here (encU_of0 _ _ (by omega)) rfl sz_3_1 ?_
      refine XO.nil ?_
      refine XE.next ?_
      refine XC.keep [] (Sub.nil _) ?_
      refine XC.seq ?_
      refine XC.region ?_
      refine XO.v (V.assign rfl) rfl ?_
      refine XO.nil ?_
      refine XE.next ?_
      refine XC.keep [(4, _)] (Sub.cons rfl (Sub.nil _)) ?_
      refine XC.ret ?_
      refine XE.ret1 rfl rfl (post_of (.cons .here .nil) rfl ?_)
      obtain rfl : y = 6 := by omega
      have hv : s.leave p = (0, s.left p) := by unfold SS.leave; rw [if_neg (by omega)]
      rw [hv]
      unfold SS.left
      rw [← clrN_all (w := s.who) (p := p) (fun n q e => by
        obtain ⟨e1, e2, e3, e4, e5⟩ := hI.mem n q p p0 e
        obtain ⟨f1, f2, _⟩ := SS.way_mem hI.D _ _ rfl e4 (hI.loc p).2 (hI.at_ p p0 e1 e4) n e5
        exact ⟨⟨f1, f2⟩, by omega, by omega⟩)]
      exact ⟨rfl, rfl⟩
end Go.X
