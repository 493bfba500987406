import Derived.Test.YtojlnbjpiccliaaTP
import Derived.Test.YtojlnbjpiccliaaProg
import Derived.KernelRfl
namespace Go.X
open Go Go.Proofs
theorem mixed : Try.prog.follows .mixedOrders = true := by kernel_rfl
theorem ag_92 : aggT Try.prog 92 = true := by kernel_rfl
theorem ag_94 : aggT Try.prog 94 = true := by kernel_rfl
theorem ar_92 : arrOf Try.prog 92 = some (21, 1) := by kernel_rfl
theorem ar_95 : arrOf Try.prog 95 = some (6, 23) := by kernel_rfl
theorem ar_96 : arrOf Try.prog 96 = some (20, 1) := by kernel_rfl
theorem bs1_85 (z : Int) : ∀ w, (Instr.buildSlice 85 1 #[(0, .int .i64 z)]).run Try.prog w = .ok (.slice (some ⟨w.heap.size, 0, none⟩) 1 1) (w.alloc (.cells #[.int .i64 z] 3)) := fun w => by kernel_rfl
theorem cl_59 : callable Try.prog 59 = true := by kernel_rfl
theorem cl_60 : callable Try.prog 60 = true := by kernel_rfl
theorem cl_61 : callable Try.prog 61 = true := by kernel_rfl
theorem cl_64 : callable Try.prog 64 = true := by kernel_rfl
theorem cl_66 : callable Try.prog 66 = true := by kernel_rfl
theorem cl_68 : callable Try.prog 68 = true := by kernel_rfl
theorem fo_94_0 : fieldOff Try.prog 94 0 = some 0 := by kernel_rfl
theorem fo_94_1 : fieldOff Try.prog 94 1 = some 1 := by kernel_rfl
theorem fo_94_2 : fieldOff Try.prog 94 2 = some 2 := by kernel_rfl
theorem fo_98_0 : fieldOff Try.prog 98 0 = some 0 := by kernel_rfl
theorem fo_98_1 : fieldOff Try.prog 98 1 = some 138 := by kernel_rfl
theorem rt_3_1 : rowT Try.prog 3 1 = true := by kernel_rfl
theorem sc_3 : scal Try.prog 3 = true := by kernel_rfl
theorem sc_4 : scal Try.prog 4 = true := by kernel_rfl
theorem sl_85 : sliceOf Try.prog 85 = some (3, 1) := by kernel_rfl
theorem sz_3_1 : szOf Try.prog 3 = some 1 := by kernel_rfl
theorem sz_92_21 : szOf Try.prog 92 = some 21 := by kernel_rfl
theorem sz_94_23 : szOf Try.prog 94 = some 23 := by kernel_rfl
set_option maxRecDepth 10000 in
set_option maxHeartbeats 400000 in
theorem t_fresh (p : Int) : Spec Try.prog 59 [.int .i64 p]
    []
    (fun v H1 => v = .agg (frSp p) ∧ H1 = []) := by
  refine Spec.intro Try.func59 rfl rfl ?_
  intro W
  refine XC.seq ?_
  refine XC.region ?_
  refine XO.allocZ (z := .agg spZero) (m := 23) (C := cellsOf spZero) (by kernel_rfl) rfl (fun _ _ => rfl) rfl ?_
  intro br
  refine XO.nil ?_
  refine XE.next ?_
  refine XC.keep [(0, _), (2, _)] (Sub.cons rfl (Sub.cons rfl (Sub.nil _))) ?_
  refine XC.seq ?_
  refine XC.region ?_
  refine XO.v (V.move rfl) rfl ?_
  refine XO.v (V.build (vs := #[(0, .bool true), (1, .int .i64 p)]) rfl (v := .agg #[.bool true, .int .i64 p, .int .i64 0, .int .i64 0, .int .i64 0, .int .i64 0, .int .i64 0, .int .i64 0, .int .i64 0, .int .i64 0, .int .i64 0, .int .i64 0, .int .i64 0, .int .i64 0, .int .i64 0, .int .i64 0, .int .i64 0, .int .i64 0, .int .i64 0, .int .i64 0, .int .i64 0, .int .i64 0, .int .i64 0]) (fun _ => by kernel_rfl)) rfl ?_
  refine XO.allocZ (z := .agg spZero) (m := 23) (C := cellsOf spZero) (by kernel_rfl) rfl (fun _ _ => rfl) rfl ?_
  intro bx
  refine XO.storeAgg rfl rfl .here (fr_store p _ zero_out) ⟨rfl, rfl⟩ sz_94_23 ?_
  refine XO.nil ?_
  refine XE.next ?_
  refine XC.keep [(2, _), (3, _)] (Sub.cons rfl (Sub.cons rfl (Sub.nil _))) ?_
  refine XC.seq ?_
  refine XC.seq ?_
  refine XC.region ?_
  refine XO.v (V.move rfl) rfl ?_
  refine XO.nil ?_
  refine XE.next ?_
  refine XC.keep [(2, _), (3, _), (7, _)] (Sub.cons rfl (Sub.cons rfl (Sub.cons rfl (Sub.nil _)))) ?_
  refine XC.block ?_
  refine XC.loop (σ := Int) (fun k => (21 - k).toNat) (fun k => 0 ≤ k ∧ k ≤ 21) (fun k => [(7, .int .i64 k), (2, ptr br 0 0), (3, ptr bx 0 0)]) (fun k => XM W (foot []) [.cells br 0 23 (cellsOf spZero), .cells bx 0 23 (encFr ⟨p, frf k⟩)]) (0) ?_ (Sub.cons rfl (Sub.cons rfl (Sub.cons rfl (Sub.nil _)))) (fun _ hw => XM.pick (.cons (.there .here) (.cons .here .nil)) hw) ?_
  · skip
    omega
  intro k hk
  refine XC.seq ?_
  refine XC.region ?_
  refine XO.v (V.cmp rfl rfl rfl) rfl ?_
  refine XO.nil ?_
  refine XE.next ?_
  refine XC.keep [(2, _), (3, _), (7, _), (8, _)] (Sub.cons rfl (Sub.cons rfl (Sub.cons rfl (Sub.cons rfl (Sub.nil _))))) ?_
  refine XC.seq ?_
  refine XC.condP rfl (fun h1 => ?_) (fun h1 => ?_)
  · skip
    refine XC.skip ?_
    refine XE.next ?_
    refine XC.keep [(2, _), (3, _), (7, _)] (Sub.cons rfl (Sub.cons rfl (Sub.cons rfl (Sub.nil _)))) ?_
    refine XC.seq ?_
    refine XC.block ?_
    refine XC.seq ?_
    refine XC.region ?_
    refine XO.v (V.move rfl) rfl ?_
    refine XO.v (V.assign rfl) rfl ?_
    refine XO.nil ?_
    refine XE.next ?_
    refine XC.keep [(2, _), (3, _), (4, _), (7, _)] (Sub.cons rfl (Sub.cons rfl (Sub.cons rfl (Sub.cons rfl (Sub.nil _))))) ?_
    refine XC.region ?_
    refine XO.v (V.move rfl) rfl ?_
    refine XO.v (V.fieldAddr rfl fo_94_2) rfl ?_
    refine XO.v (V.indexArr rfl rfl ar_92 (by omega)) rfl ?_
    refine XO.store rfl rfl (.there .here) (encFr.st_who_I _ _ (by omega) _) rfl sz_3_1 ?_
    refine XO.nil ?_
    refine XE.blockNormal ?_
    refine XE.next ?_
    refine XC.keep [(2, _), (3, _), (7, _)] (Sub.cons rfl (Sub.cons rfl (Sub.cons rfl (Sub.nil _)))) ?_
    refine XC.region ?_
    refine XO.v (V.add rfl rfl _ (IntWalk.i64_in _ (by omega))) rfl ?_
    refine XO.v (V.move rfl) rfl ?_
    refine XO.nil ?_
    refine XE.again (k + 1) ?_ ?_ (Sub.cons rfl (Sub.cons rfl (Sub.cons rfl (Sub.nil _)))) (fun _ hw => by rw [← frf_next k (by omega)]; exact XM.pick (.cons .here (.cons .here .nil)) hw)
    · skip
      (first | omega | (simp; done) | (simp; omega))
    · skip
      (first | omega | (simp; done) | (simp; omega))
  · skip
    refine XC.exit ?_
    refine XE.thenExit ?_
    refine XE.thenExit ?_
    refine XE.blockExit ?_
    refine XE.next ?_
    refine XC.keep [(2, _), (3, _)] (Sub.cons rfl (Sub.cons rfl (Sub.nil _))) ?_
    refine XC.seq ?_
    refine XC.region ?_
    obtain rfl : k = 21 := by omega
    refine XO.v (V.loadAgg rfl (inXM (.there .here)) (fr_agg p) ag_94 sz_94_23) rfl ?_
    refine XO.storeAgg rfl rfl .here (fr_put _ zero_out p) ⟨rfl, rfl⟩ sz_94_23 ?_
    refine XO.nil ?_
    refine XE.next ?_
    refine XC.keep [(2, _)] (Sub.cons rfl (Sub.nil _)) ?_
    refine XC.ret ?_
    refine XE.retC rfl rfl .here (fr_agg p) ag_94 sz_94_23 (post_of .nil rfl ?_)
    exact ⟨rfl, rfl⟩
set_option maxRecDepth 10000 in
set_option maxHeartbeats 400000 in
theorem t_is (b o : Nat) (s : SS) (n : Int) : Spec Try.prog 60 [ptr b o 0, .int .i64 n]
    [.cells b o 158 (encT s)]
    (fun v H1 => ((s.is n = 0 ∧ 0 ≤ n ∧ n < 6 ∧ s.here n = true) ∧ v = .nilIface ∧ H1 = [.cells b o 158 (encT s)]) ∨ (s.is n ≠ 0 ∧ v = .iface 106 (.int .i64 (s.is n)) ∧ H1 = [.cells b o 158 (encT s)])) := by
  refine Spec.intro Try.func60 rfl rfl ?_
  intro W
  refine XC.seq ?_
  refine XC.region ?_
  refine XO.v (V.assign rfl) rfl ?_
  refine XO.nil ?_
  refine XE.next ?_
  refine XC.keep [(0, _), (1, _)] (Sub.cons rfl (Sub.cons rfl (Sub.nil _))) ?_
  refine XC.seq ?_
  refine XC.seq ?_
  refine XC.region ?_
  refine XO.v (V.move rfl) rfl ?_
  refine XO.v (V.cmp rfl rfl rfl) rfl ?_
  refine XO.v (V.move rfl) rfl ?_
  refine XO.splitP (d := 7) rfl (fun h1 => ?_) (fun h1 => ?_)
  · skip
    refine XO.guardSkip rfl rfl rfl rfl rfl ?_
    refine XO.guardSkip rfl rfl rfl rfl rfl ?_
    refine XO.v (V.pick rfl rfl rfl rfl) rfl ?_
    refine XO.nil ?_
    refine XE.next ?_
    refine XC.keep [(0, _), (1, _), (10, _)] (Sub.cons rfl (Sub.cons rfl (Sub.cons rfl (Sub.nil _)))) ?_
    refine XC.condT rfl rfl ?_
    refine XC.seq ?_
    refine XC.region ?_
    refine XO.v (V.makeIface rfl Try.underlying106 (by simp)) rfl ?_
    refine XO.v (V.assign rfl) rfl ?_
    refine XO.nil ?_
    refine XE.next ?_
    refine XC.keep [(4, _)] (Sub.cons rfl (Sub.nil _)) ?_
    refine XC.ret ?_
    refine XE.thenRet ?_
    refine XE.ret1 rfl rfl (post_of (.cons .here .nil) rfl ?_)
    rcases s.is_cases n with ⟨q, q1, q2, q3⟩ | ⟨q, q1⟩ | ⟨q, q1, q2, q3⟩ <;> first | (exfalso; omega) | (exfalso; simp_all; done) | exact .inl ⟨⟨q, q1, q2, q3⟩, rfl, rfl⟩ | exact .inr ⟨by omega, by rw [q], rfl⟩
  · skip
    refine XO.guardRun rfl rfl rfl ?_
    refine XO.v (V.move rfl) rfl ?_
    refine XO.guardRun rfl rfl rfl ?_
    refine XO.v (V.cmp rfl rfl rfl) rfl ?_
    refine XO.v (V.pick rfl rfl rfl rfl) rfl ?_
    refine XO.nil ?_
    refine XE.next ?_
    refine XC.keep [(0, _), (1, _), (10, _)] (Sub.cons rfl (Sub.cons rfl (Sub.cons rfl (Sub.nil _)))) ?_
    refine XC.condP rfl (fun h2 => ?_) (fun h2 => ?_)
    · skip
      refine XC.seq ?_
      refine XC.region ?_
      refine XO.v (V.makeIface rfl Try.underlying106 (by simp)) rfl ?_
      refine XO.v (V.assign rfl) rfl ?_
      refine XO.nil ?_
      refine XE.next ?_
      refine XC.keep [(4, _)] (Sub.cons rfl (Sub.nil _)) ?_
      refine XC.ret ?_
      refine XE.thenRet ?_
      refine XE.ret1 rfl rfl (post_of (.cons .here .nil) rfl ?_)
      rcases s.is_cases n with ⟨q, q1, q2, q3⟩ | ⟨q, q1⟩ | ⟨q, q1, q2, q3⟩ <;> first | (exfalso; omega) | (exfalso; simp_all; done) | exact .inl ⟨⟨q, q1, q2, q3⟩, rfl, rfl⟩ | exact .inr ⟨by omega, by rw [q], rfl⟩
    · skip
      refine XC.skip ?_
      refine XE.next ?_
      refine XC.keep [(0, _), (1, _)] (Sub.cons rfl (Sub.cons rfl (Sub.nil _))) ?_
      refine XC.seq ?_
      refine XC.seq ?_
      refine XC.region ?_
      refine XO.v (V.move rfl) rfl ?_
      refine XO.v (V.move rfl) rfl ?_
      refine XO.v (V.nilCheckP rfl) rfl ?_
      refine XO.v (V.fieldAddr rfl fo_98_0) rfl ?_
      refine XO.v (V.indexArr rfl rfl ar_95 (by omega)) rfl ?_
      refine XO.v (V.fieldAddr rfl fo_94_0) rfl ?_
      refine XO.v (V.load rfl (inXM .here) (encT.ld_s_I_here _ _ (by omega)) sc_4) rfl ?_
      refine XO.v (V.not rfl) rfl ?_
      refine XO.nil ?_
      refine XE.next ?_
      refine XC.keep [(19, _)] (Sub.cons rfl (Sub.nil _)) ?_
      refine XC.cond rfl (fun h3 => ?_) (fun h3 => ?_)
      · try simp only [decide_eq_true_eq, decide_eq_false_iff_not, Bool.not_eq_true', Bool.not_eq_false', Bool.not_eq_eq_eq_not, Bool.not_true, Bool.not_false, beq_iff_eq, bne_iff_ne, ne_eq, beq_eq_false_iff_ne, bne_eq_false_iff_eq, Int.not_lt, Int.not_le, gt_iff_lt, ge_iff_le, Bool.and_eq_true, Bool.or_eq_true, Bool.and_eq_false_iff, Bool.or_eq_false_iff, Decidable.not_not] at h3
        refine XC.seq ?_
        refine XC.region ?_
        refine XO.v (V.makeIface rfl Try.underlying106 (by simp)) rfl ?_
        refine XO.v (V.assign rfl) rfl ?_
        refine XO.nil ?_
        refine XE.next ?_
        refine XC.keep [(4, _)] (Sub.cons rfl (Sub.nil _)) ?_
        refine XC.ret ?_
        refine XE.thenRet ?_
        refine XE.ret1 rfl rfl (post_of (.cons .here .nil) rfl ?_)
        rcases s.is_cases n with ⟨q, q1, q2, q3⟩ | ⟨q, q1⟩ | ⟨q, q1, q2, q3⟩ <;> first | (exfalso; omega) | (exfalso; simp_all; done) | exact .inl ⟨⟨q, q1, q2, q3⟩, rfl, rfl⟩ | exact .inr ⟨by omega, by rw [q], rfl⟩
      · try simp only [decide_eq_true_eq, decide_eq_false_iff_not, Bool.not_eq_true', Bool.not_eq_false', Bool.not_eq_eq_eq_not, Bool.not_true, Bool.not_false, beq_iff_eq, bne_iff_ne, ne_eq, beq_eq_false_iff_ne, bne_eq_false_iff_eq, Int.not_lt, Int.not_le, gt_iff_lt, ge_iff_le, Bool.and_eq_true, Bool.or_eq_true, Bool.and_eq_false_iff, Bool.or_eq_false_iff, Decidable.not_not] at h3
        refine XC.skip ?_
        refine XE.next ?_
        refine XC.keep [] (Sub.nil _) ?_
        refine XC.seq ?_
        refine XC.region ?_
        refine XO.v (V.assign rfl) rfl ?_
        refine XO.nil ?_
        refine XE.next ?_
        refine XC.keep [(4, _)] (Sub.cons rfl (Sub.nil _)) ?_
        refine XC.ret ?_
        refine XE.ret1 rfl rfl (post_of (.cons .here .nil) rfl ?_)
        rcases s.is_cases n with ⟨q, q1, q2, q3⟩ | ⟨q, q1⟩ | ⟨q, q1, q2, q3⟩ <;> first | (exfalso; omega) | (exfalso; simp_all; done) | exact .inl ⟨⟨q, q1, q2, q3⟩, rfl, rfl⟩ | exact .inr ⟨by omega, by rw [q], rfl⟩
set_option maxRecDepth 10000 in
set_option maxHeartbeats 400000 in
theorem t_up (b o : Nat) (s : SS) (dep : Int → Nat) (hD : s.Deep dep) (n : Int) (hn : 0 ≤ n ∧ n < 6 ∧ s.here n = true) : Spec Try.prog 61 [ptr b o 0, .int .i64 n]
    [.cells b o 158 (encT s)]
    (fun v H1 => ∃ p cap, v = .slice p (s.way dep n).length cap ∧ H1 = [irow p cap 3 (s.way dep n), .cells b o 158 (encT s)]) := by
  refine Spec.intro Try.func61 rfl rfl ?_
  intro W
  refine XC.seq ?_
  refine XC.region ?_
  refine XO.v (V.assign rfl) rfl ?_
  refine XO.nil ?_
  refine XE.next ?_
  refine XC.keep [(0, _), (1, _)] (Sub.cons rfl (Sub.cons rfl (Sub.nil _))) ?_
  refine XC.seq ?_
  refine XC.region ?_
  refine XO.v (V.assign rfl) rfl ?_
  refine XO.nilRow 3 1 ?_
  refine XO.nil ?_
  refine XE.next ?_
  refine XC.keep [(0, _), (1, _), (5, _)] (Sub.cons rfl (Sub.cons rfl (Sub.cons rfl (Sub.nil _)))) ?_
  refine XC.seq ?_
  refine XC.seq ?_
  refine XC.region ?_
  refine XO.v (V.move rfl) rfl ?_
  refine XO.v (V.assign rfl) rfl ?_
  refine XO.nil ?_
  refine XE.next ?_
  refine XC.keep [(0, _), (5, _), (6, _)] (Sub.cons rfl (Sub.cons rfl (Sub.cons rfl (Sub.nil _)))) ?_
  refine XC.block ?_
  refine XC.loop (σ := Int × List Int × Option Addr × Nat) (fun x => if x.1 = -1 then 0 else dep x.1) (fun x => (x.1 = -1 ∧ x.2.1 = s.way dep n) ∨ ((0 ≤ x.1 ∧ x.1 < 6 ∧ s.here x.1 = true) ∧ x.2.1 ++ s.wayF (dep x.1) x.1 = s.way dep n)) (fun x => [(5, .slice x.2.2.1 x.2.1.length x.2.2.2), (6, .int .i64 x.1), (0, ptr b o 0)]) (fun x => XM W (foot [.cells b o 158 (encT s)]) [irow x.2.2.1 x.2.2.2 3 x.2.1, .cells b o 158 (encT s)]) ((n, [], none, 0)) ?_ (Sub.cons rfl (Sub.cons rfl (Sub.cons rfl (Sub.nil _)))) (fun _ hw => XM.pick (.cons .here (.cons .here .nil)) hw) ?_
  · skip
    exact .inr ⟨hn, rfl⟩
  intro x hx
  refine XC.seq ?_
  refine XC.seq ?_
  refine XC.region ?_
  refine XO.v (V.move rfl) rfl ?_
  refine XO.v (V.cmp rfl rfl rfl) rfl ?_
  refine XO.nil ?_
  refine XE.next ?_
  refine XC.keep [(0, _), (5, _), (6, _), (9, _)] (Sub.cons rfl (Sub.cons rfl (Sub.cons rfl (Sub.cons rfl (Sub.nil _))))) ?_
  refine XC.condP rfl (fun h1 => ?_) (fun h1 => ?_)
  · skip
    obtain ⟨hx, hw⟩ := hx.resolve_left (by omega)
    have hlen : x.2.1.length ≤ 4 := by
      have h9 := congrArg List.length hw
      rw [List.length_append, SS.way, SS.wayF_length, SS.wayF_length] at h9
      have := (hD.d n hn.1 hn.2.1 hn.2.2).2.1
      omega
    obtain ⟨hx1, hx2, hx3⟩ := id hx
    refine XC.skip ?_
    refine XE.next ?_
    refine XC.keep [(0, _), (5, _), (6, _)] (Sub.cons rfl (Sub.cons rfl (Sub.cons rfl (Sub.nil _)))) ?_
    refine XC.seq ?_
    refine XC.block ?_
    refine XC.region ?_
    refine XO.v (V.move rfl) rfl ?_
    refine XO.v (V.move rfl) rfl ?_
    refine XO.buildSlice (A := #[.int .i64 _]) (vs := #[(0, .int .i64 _)]) rfl (bs1_85 _) rfl rfl ?_
    intro h2
    refine XO.appendI (e := 3) rfl rfl Try.underlying85 rt_3_1 (.there .here) .here (by omega) rfl ?_
    intro h3 h4
    refine XO.v (V.assign rfl) rfl ?_
    refine XO.nil ?_
    refine XE.blockNormal ?_
    refine XE.next ?_
    refine XC.keep [(0, _), (5, _), (6, _)] (Sub.cons rfl (Sub.cons rfl (Sub.cons rfl (Sub.nil _)))) ?_
    refine XC.region ?_
    refine XO.v (V.move rfl) rfl ?_
    refine XO.v (V.move rfl) rfl ?_
    refine XO.v (V.nilCheckP rfl) rfl ?_
    refine XO.v (V.fieldAddr rfl fo_98_0) rfl ?_
    refine XO.v (V.indexArr rfl rfl ar_95 (by omega)) rfl ?_
    refine XO.v (V.fieldAddr rfl fo_94_1) rfl ?_
    refine XO.v (V.load rfl (inXM (.there (.there .here))) (encT.ld_s_I_parent _ _ (by omega)) sc_3) rfl ?_
    refine XO.v (V.assign rfl) rfl ?_
    refine XO.nil ?_
    refine XE.again ((s.par x.1, x.2.1 ++ [x.1], _, _)) ?_ ?_ (Sub.cons rfl (Sub.cons rfl (Sub.cons rfl (Sub.nil _)))) (fun _ hw => XM.pick (.cons .here (.cons (.there .here) .nil)) hw)
    · skip
      show (if s.par x.1 = -1 then 0 else dep (s.par x.1)) < (if x.1 = -1 then 0 else dep x.1)
      obtain ⟨h1, h2, h3⟩ := hx
      by_cases q : s.par x.1 = -1
      · have := (hD.d x.1 h1 h2 h3).1
        rw [if_pos q, if_neg (by omega)]; omega
      · have := (SS.way_next hD ⟨h1, h2, h3⟩ q).2.2.2.2
        rw [if_neg q, if_neg (by omega)]; omega
    · skip
      by_cases q : s.par x.1 = -1
      · refine .inl ⟨q, ?_⟩
        rw [← hw, SS.way_nil hD hx q]
      · obtain ⟨e1, e2, e3, e4, _⟩ := SS.way_next hD hx q
        refine .inr ⟨⟨e2, e3, e4⟩, ?_⟩
        rw [← hw, e1]; simp
  · skip
    refine XC.exit ?_
    refine XE.thenExit ?_
    refine XE.thenExit ?_
    refine XE.blockExit ?_
    refine XE.next ?_
    refine XC.keep [(5, _)] (Sub.cons rfl (Sub.nil _)) ?_
    refine XC.seq ?_
    refine XC.region ?_
    refine XO.v (V.move rfl) rfl ?_
    refine XO.v (V.assign rfl) rfl ?_
    refine XO.nil ?_
    refine XE.next ?_
    refine XC.keep [(4, _)] (Sub.cons rfl (Sub.nil _)) ?_
    refine XC.ret ?_
    refine XE.ret1 rfl rfl (post_of (.cons .here (.cons .here .nil)) rfl ?_)
    rcases hx with ⟨_, hw⟩ | ⟨⟨h1, _⟩, _⟩
    · exact ⟨_, _, by rw [← hw], by rw [← hw]⟩
    · omega
set_option maxRecDepth 10000 in
set_option maxHeartbeats 400000 in
theorem t_members (b o : Nat) (s : SS) (n : Int) (hn : 0 ≤ n ∧ n < 6) (hh : s.here n = true) : Spec Try.prog 64 [ptr b o 0, .int .i64 n]
    [.cells b o 158 (encT s)]
    (fun v H1 => ∃ p cap, v = .slice p (s.members n).length cap ∧ H1 = [irow p cap 3 (s.members n), .cells b o 158 (encT s)]) := by
  refine Spec.intro Try.func64 rfl rfl ?_
  intro W
  refine XC.seq ?_
  refine XC.region ?_
  refine XO.v (V.assign rfl) rfl ?_
  refine XO.nil ?_
  refine XE.next ?_
  refine XC.keep [(0, _), (1, _)] (Sub.cons rfl (Sub.cons rfl (Sub.nil _))) ?_
  refine XC.seq ?_
  refine XC.region ?_
  refine XO.v (V.assign rfl) rfl ?_
  refine XO.nilRow 3 1 ?_
  refine XO.nil ?_
  refine XE.next ?_
  refine XC.keep [(0, _), (1, _), (5, _)] (Sub.cons rfl (Sub.cons rfl (Sub.cons rfl (Sub.nil _)))) ?_
  refine XC.seq ?_
  refine XC.seq ?_
  refine XC.region ?_
  refine XO.v (V.move rfl) rfl ?_
  refine XO.v (V.move rfl) rfl ?_
  refine XO.v (V.nilCheckP rfl) rfl ?_
  refine XO.v (V.fieldAddr rfl fo_98_0) rfl ?_
  refine XO.v (V.indexArr rfl rfl ar_95 (by omega)) rfl ?_
  refine XO.v (V.fieldAddr rfl fo_94_2) rfl ?_
  refine XO.v (V.loadAgg rfl (inXM (.there .here)) (encT_who _ _ (by omega) (by assumption)) ag_92 sz_92_21) rfl ?_
  refine XO.v (V.move rfl) rfl ?_
  refine XO.nil ?_
  refine XE.next ?_
  refine XC.keep [(5, _), (14, _), (15, _)] (Sub.cons rfl (Sub.cons rfl (Sub.cons rfl (Sub.nil _)))) ?_
  refine XC.block ?_
  refine XC.loop (σ := Int × List Int × Option Addr × Nat) (fun x => (21 - x.1).toNat) (fun x => (0 ≤ x.1 ∧ x.1 ≤ 21) ∧ x.2.1 = membersL (s.who n) x.1.toNat) (fun x => [(5, .slice x.2.2.1 x.2.1.length x.2.2.2), (15, .int .i64 x.1), (14, .agg (arrV (s.who n) 21))]) (fun x => XM W (foot [.cells b o 158 (encT s)]) [irow x.2.2.1 x.2.2.2 3 x.2.1, .cells b o 158 (encT s)]) ((0, [], none, 0)) ?_ (Sub.cons rfl (Sub.cons rfl (Sub.cons rfl (Sub.nil _)))) (fun _ hw => XM.pick (.cons .here (.cons .here .nil)) hw) ?_
  · skip
    exact ⟨by omega, rfl⟩
  intro x hx
  obtain ⟨hx, hL⟩ := hx
  have hlen := membersL_length (s.who n) x.1.toNat
  rw [← hL] at hlen
  have hnx := membersI_next (s.who n) hx.1
  refine XC.seq ?_
  refine XC.region ?_
  refine XO.v (V.cmp rfl rfl rfl) rfl ?_
  refine XO.nil ?_
  refine XE.next ?_
  refine XC.keep [(5, _), (14, _), (15, _), (16, _)] (Sub.cons rfl (Sub.cons rfl (Sub.cons rfl (Sub.cons rfl (Sub.nil _))))) ?_
  refine XC.seq ?_
  refine XC.condP rfl (fun h1 => ?_) (fun h1 => ?_)
  · skip
    refine XC.skip ?_
    refine XE.next ?_
    refine XC.keep [(5, _), (14, _), (15, _)] (Sub.cons rfl (Sub.cons rfl (Sub.cons rfl (Sub.nil _)))) ?_
    refine XC.seq ?_
    refine XC.block ?_
    refine XC.seq ?_
    refine XC.region ?_
    refine XO.v (V.indexArrV rfl rfl Try.underlying92 sz_3_1 sc_3 (by omega)) rfl ?_
    refine XO.v (V.assign rfl) rfl ?_
    refine XO.nil ?_
    refine XE.next ?_
    refine XC.keep [(5, _), (7, _), (14, _), (15, _)] (Sub.cons rfl (Sub.cons rfl (Sub.cons rfl (Sub.cons rfl (Sub.nil _))))) ?_
    refine XC.seq ?_
    refine XC.region ?_
    refine XO.v (V.move rfl) rfl ?_
    refine XO.v (V.cmp rfl rfl rfl) rfl ?_
    refine XO.nil ?_
    refine XE.next ?_
    refine XC.keep [(5, _), (7, _), (14, _), (15, _), (19, _)] (Sub.cons rfl (Sub.cons rfl (Sub.cons rfl (Sub.cons rfl (Sub.cons rfl (Sub.nil _)))))) ?_
    refine XC.condP rfl (fun h2 => ?_) (fun h2 => ?_)
    · skip
      refine XC.region ?_
      refine XO.v (V.move rfl) rfl ?_
      refine XO.v (V.move rfl) rfl ?_
      refine XO.buildSlice (A := #[.int .i64 _]) (vs := #[(0, .int .i64 _)]) rfl (bs1_85 _) rfl rfl ?_
      intro h3
      refine XO.appendI (e := 3) rfl rfl Try.underlying85 rt_3_1 (.there .here) .here (by omega) rfl ?_
      intro h4 h5
      refine XO.v (V.assign rfl) rfl ?_
      refine XO.nil ?_
      refine XE.blockNormal ?_
      refine XE.next ?_
      refine XC.keep [(5, _), (14, _), (15, _)] (Sub.cons rfl (Sub.cons rfl (Sub.cons rfl (Sub.nil _)))) ?_
      refine XC.region ?_
      refine XO.v (V.add rfl rfl _ (IntWalk.i64_in _ (by omega))) rfl ?_
      refine XO.v (V.move rfl) rfl ?_
      refine XO.nil ?_
      refine XE.again ((x.1 + 1, x.2.1 ++ [s.who n x.1], _, _)) ?_ ?_ (Sub.cons rfl (Sub.cons rfl (Sub.cons rfl (Sub.nil _)))) (fun _ hw => XM.pick (.cons .here (.cons (.there .here) .nil)) hw)
      · skip
        (first | omega | (simp; done) | (simp; omega))
      · skip
        exact ⟨by omega, by rw [hL]; exact (hnx.1 (by omega)).symm⟩
    · skip
      refine XC.skip ?_
      refine XE.blockNormal ?_
      refine XE.next ?_
      refine XC.keep [(5, _), (14, _), (15, _)] (Sub.cons rfl (Sub.cons rfl (Sub.cons rfl (Sub.nil _)))) ?_
      refine XC.region ?_
      refine XO.v (V.add rfl rfl _ (IntWalk.i64_in _ (by omega))) rfl ?_
      refine XO.v (V.move rfl) rfl ?_
      refine XO.nil ?_
      refine XE.again ((x.1 + 1, x.2.1, _, _)) ?_ ?_ (Sub.cons rfl (Sub.cons rfl (Sub.cons rfl (Sub.nil _)))) (fun _ hw => XM.pick (.cons .here (.cons .here .nil)) hw)
      · skip
        (first | omega | (simp; done) | (simp; omega))
      · skip
        exact ⟨by omega, by rw [hL]; exact (hnx.2 (by omega)).symm⟩
  · skip
    refine XC.exit ?_
    refine XE.thenExit ?_
    refine XE.thenExit ?_
    refine XE.blockExit ?_
    refine XE.next ?_
    refine XC.keep [(5, _)] (Sub.cons rfl (Sub.nil _)) ?_
    refine XC.seq ?_
    refine XC.region ?_
    refine XO.v (V.move rfl) rfl ?_
    refine XO.v (V.assign rfl) rfl ?_
    refine XO.nil ?_
    refine XE.next ?_
    refine XC.keep [(4, _)] (Sub.cons rfl (Sub.nil _)) ?_
    refine XC.ret ?_
    refine XE.ret1 rfl rfl (post_of (.cons .here (.cons .here .nil)) rfl ?_)
    have hx21 : x.1 = 21 := by omega
    rw [hx21] at hL
    exact ⟨_, _, by rw [hL]; rfl, by rw [hL]; rfl⟩
set_option maxRecDepth 10000 in
set_option maxHeartbeats 400000 in
theorem t_Of (b o : Nat) (s : SS) (p : Int) : Spec Try.prog 68 [ptr b o 0, .int .i64 p]
    [.cells b o 158 (encT s)]
    (fun v H1 => (v = .tuple #[.int .i64 (s.in_ p).1, errv 106 (s.in_ p).2] ∧ ((s.in_ p).2 = 0 → (0 ≤ p ∧ p < 20) ∧ 0 ≤ s.loc p ∧ (s.in_ p).1 = s.loc p)) ∧ H1 = [.cells b o 158 (encT s)]) := by
  refine Spec.intro Try.func68 rfl rfl ?_
  intro W
  refine XC.seq ?_
  refine XC.region ?_
  refine XO.v (V.assign rfl) rfl ?_
  refine XO.v (V.assign rfl) rfl ?_
  refine XO.nil ?_
  refine XE.next ?_
  refine XC.keep [(0, _), (1, _)] (Sub.cons rfl (Sub.cons rfl (Sub.nil _))) ?_
  refine XC.seq ?_
  refine XC.seq ?_
  refine XC.region ?_
  refine XO.v (V.move rfl) rfl ?_
  refine XO.v (V.cmp rfl rfl rfl) rfl ?_
  refine XO.v (V.move rfl) rfl ?_
  refine XO.splitP (d := 8) rfl (fun h1 => ?_) (fun h1 => ?_)
  · skip
    refine XO.guardSkip rfl rfl rfl rfl rfl ?_
    refine XO.guardSkip rfl rfl rfl rfl rfl ?_
    refine XO.v (V.pick rfl rfl rfl rfl) rfl ?_
    refine XO.nil ?_
    refine XE.next ?_
    refine XC.keep [(0, _), (1, _), (11, _)] (Sub.cons rfl (Sub.cons rfl (Sub.cons rfl (Sub.nil _)))) ?_
    refine XC.condT rfl rfl ?_
    refine XC.seq ?_
    refine XC.region ?_
    refine XO.v (V.makeIface rfl Try.underlying106 (by simp)) rfl ?_
    refine XO.v (V.assign rfl) rfl ?_
    refine XO.v (V.assign rfl) rfl ?_
    refine XO.nil ?_
    refine XE.next ?_
    refine XC.keep [(4, _), (5, _)] (Sub.cons rfl (Sub.cons rfl (Sub.nil _))) ?_
    refine XC.ret ?_
    refine XE.thenRet ?_
    refine XE.ret2 rfl rfl rfl (post_of (.cons .here .nil) rfl ?_)
    first
    | (rw [SS.in_bound (by omega)]; exact ⟨⟨rfl, fun q => by simp at q⟩, rfl⟩)
    | (rw [SS.in_none (by omega) (by assumption)]; exact ⟨⟨rfl, fun q => by simp at q⟩, rfl⟩)
    | (rw [SS.in_ok (by omega) (by omega)]; exact ⟨⟨rfl, fun _ => ⟨by omega, by omega, rfl⟩⟩, rfl⟩)
  · skip
    refine XO.guardRun rfl rfl rfl ?_
    refine XO.v (V.move rfl) rfl ?_
    refine XO.guardRun rfl rfl rfl ?_
    refine XO.v (V.cmp rfl rfl rfl) rfl ?_
    refine XO.v (V.pick rfl rfl rfl rfl) rfl ?_
    refine XO.nil ?_
    refine XE.next ?_
    refine XC.keep [(0, _), (1, _), (11, _)] (Sub.cons rfl (Sub.cons rfl (Sub.cons rfl (Sub.nil _)))) ?_
    refine XC.condP rfl (fun h2 => ?_) (fun h2 => ?_)
    · skip
      refine XC.seq ?_
      refine XC.region ?_
      refine XO.v (V.makeIface rfl Try.underlying106 (by simp)) rfl ?_
      refine XO.v (V.assign rfl) rfl ?_
      refine XO.v (V.assign rfl) rfl ?_
      refine XO.nil ?_
      refine XE.next ?_
      refine XC.keep [(4, _), (5, _)] (Sub.cons rfl (Sub.cons rfl (Sub.nil _))) ?_
      refine XC.ret ?_
      refine XE.thenRet ?_
      refine XE.ret2 rfl rfl rfl (post_of (.cons .here .nil) rfl ?_)
      first
      | (rw [SS.in_bound (by omega)]; exact ⟨⟨rfl, fun q => by simp at q⟩, rfl⟩)
      | (rw [SS.in_none (by omega) (by assumption)]; exact ⟨⟨rfl, fun q => by simp at q⟩, rfl⟩)
      | (rw [SS.in_ok (by omega) (by omega)]; exact ⟨⟨rfl, fun _ => ⟨by omega, by omega, rfl⟩⟩, rfl⟩)
    · skip
      refine XC.skip ?_
      refine XE.next ?_
      refine XC.keep [(0, _), (1, _)] (Sub.cons rfl (Sub.cons rfl (Sub.nil _))) ?_
      refine XC.seq ?_
      refine XC.seq ?_
      refine XC.region ?_
      refine XO.v (V.move rfl) rfl ?_
      refine XO.v (V.move rfl) rfl ?_
      refine XO.v (V.nilCheckP rfl) rfl ?_
      refine XO.v (V.fieldAddr rfl fo_98_1) rfl ?_
      refine XO.v (V.indexArr rfl rfl ar_96 (by omega)) rfl ?_
      refine XO.v (V.load rfl (inXM .here) (encT.ld_of_I _ _ (by omega)) sc_3) rfl ?_
      refine XO.v (V.cmp rfl rfl rfl) rfl ?_
      refine XO.nil ?_
      refine XE.next ?_
      refine XC.keep [(0, _), (1, _), (19, _)] (Sub.cons rfl (Sub.cons rfl (Sub.cons rfl (Sub.nil _)))) ?_
      refine XC.condP rfl (fun h3 => ?_) (fun h3 => ?_)
      · skip
        refine XC.seq ?_
        refine XC.region ?_
        refine XO.v (V.makeIface rfl Try.underlying106 (by simp)) rfl ?_
        refine XO.v (V.assign rfl) rfl ?_
        refine XO.v (V.assign rfl) rfl ?_
        refine XO.nil ?_
        refine XE.next ?_
        refine XC.keep [(4, _), (5, _)] (Sub.cons rfl (Sub.cons rfl (Sub.nil _))) ?_
        refine XC.ret ?_
        refine XE.thenRet ?_
        refine XE.ret2 rfl rfl rfl (post_of (.cons .here .nil) rfl ?_)
        first
        | (rw [SS.in_bound (by omega)]; exact ⟨⟨rfl, fun q => by simp at q⟩, rfl⟩)
        | (rw [SS.in_none (by omega) (by assumption)]; exact ⟨⟨rfl, fun q => by simp at q⟩, rfl⟩)
        | (rw [SS.in_ok (by omega) (by omega)]; exact ⟨⟨rfl, fun _ => ⟨by omega, by omega, rfl⟩⟩, rfl⟩)
      · skip
        refine XC.skip ?_
        refine XE.next ?_
        refine XC.keep [(0, _), (1, _)] (Sub.cons rfl (Sub.cons rfl (Sub.nil _))) ?_
        refine XC.seq ?_
        refine XC.region ?_
        refine XO.v (V.move rfl) rfl ?_
        refine XO.v (V.move rfl) rfl ?_
        refine XO.v (V.nilCheckP rfl) rfl ?_
        refine XO.v (V.fieldAddr rfl fo_98_1) rfl ?_
        refine XO.v (V.indexArr rfl rfl ar_96 (by omega)) rfl ?_
        refine XO.v (V.load rfl (inXM .here) (encT.ld_of_I _ _ (by omega)) sc_3) rfl ?_
        refine XO.v (V.assign rfl) rfl ?_
        refine XO.v (V.assign rfl) rfl ?_
        refine XO.nil ?_
        refine XE.next ?_
        refine XC.keep [(4, _), (5, _)] (Sub.cons rfl (Sub.cons rfl (Sub.nil _))) ?_
        refine XC.ret ?_
        refine XE.ret2 rfl rfl rfl (post_of (.cons .here .nil) rfl ?_)
        first
        | (rw [SS.in_bound (by omega)]; exact ⟨⟨rfl, fun q => by simp at q⟩, rfl⟩)
        | (rw [SS.in_none (by omega) (by assumption)]; exact ⟨⟨rfl, fun q => by simp at q⟩, rfl⟩)
        | (rw [SS.in_ok (by omega) (by omega)]; exact ⟨⟨rfl, fun _ => ⟨by omega, by omega, rfl⟩⟩, rfl⟩)
set_option maxRecDepth 10000 in
set_option maxHeartbeats 400000 in
theorem t_Members (b o : Nat) (s : SS) (n : Int) : Spec Try.prog 70 [ptr b o 0, .int .i64 n]
    [.cells b o 158 (encT s)]
    (fun v H1 => ∃ p cap, v = .tuple #[.slice p (s.mem n).1.length cap, errv 106 (s.mem n).2] ∧ H1 = [irow p cap 3 (s.mem n).1, .cells b o 158 (encT s)]) := by
  refine Spec.intro Try.func70 rfl rfl ?_
  intro W
  refine XC.seq ?_
  refine XC.region ?_
  refine XO.v (V.assign rfl) rfl ?_
  refine XO.v (V.assign rfl) rfl ?_
  refine XO.nil ?_
  refine XE.next ?_
  refine XC.keep [(0, _), (1, _)] (Sub.cons rfl (Sub.cons rfl (Sub.nil _))) ?_
  refine XC.seq ?_
  refine XC.region ?_
  refine XO.v (V.move rfl) rfl ?_
  refine XO.v (V.move rfl) rfl ?_
  refine XO.call rfl (t_is _ _ _ _) (.cons .here .nil) cl_60 rfl ?_
  rintro _ _ (⟨h1, rfl, rfl⟩ | ⟨h1, rfl, rfl⟩)
  · skip
    obtain ⟨i0, i1, i2, i3⟩ := h1
    refine XO.v (V.assign rfl) rfl ?_
    refine XO.nil ?_
    refine XE.next ?_
    refine XC.keep [(0, _), (1, _), (6, _)] (Sub.cons rfl (Sub.cons rfl (Sub.cons rfl (Sub.nil _)))) ?_
    refine XC.seq ?_
    refine XC.seq ?_
    refine XC.region ?_
    refine XO.v (V.move rfl) rfl ?_
    refine XO.v (V.nilNil rfl Try.underlying33 rfl) rfl ?_
    refine XO.nil ?_
    refine XE.next ?_
    refine XC.keep [(0, _), (1, _), (6, _), (11, _)] (Sub.cons rfl (Sub.cons rfl (Sub.cons rfl (Sub.cons rfl (Sub.nil _))))) ?_
    refine XC.condF rfl rfl ?_
    refine XC.skip ?_
    refine XE.next ?_
    refine XC.keep [(0, _), (1, _)] (Sub.cons rfl (Sub.cons rfl (Sub.nil _))) ?_
    refine XC.seq ?_
    refine XC.region ?_
    refine XO.v (V.move rfl) rfl ?_
    refine XO.v (V.move rfl) rfl ?_
    refine XO.call rfl (t_members _ _ _ _ (by omega) (by assumption)) (.cons .here .nil) cl_64 rfl ?_
    rintro _ _ ⟨pl, cl, rfl, rfl⟩
    refine XO.v (V.assign rfl) rfl ?_
    refine XO.v (V.assign rfl) rfl ?_
    refine XO.nil ?_
    refine XE.next ?_
    refine XC.keep [(4, _), (5, _)] (Sub.cons rfl (Sub.cons rfl (Sub.nil _))) ?_
    refine XC.ret ?_
    refine XE.ret2 rfl rfl rfl (post_of (.cons .here (.cons .here .nil)) rfl ?_)
    first
    | (have hm : s.mem n = ([], s.is n) := by unfold SS.mem; rw [if_pos (by assumption)]
       rw [hm]; exact ⟨none, 0, by rw [errv_pos _ (by assumption)]; rfl, rfl⟩)
    | (have hm : s.mem n = (s.members n, 0) := by unfold SS.mem; rw [if_neg (by simp_all)]
       rw [hm]; exact ⟨_, _, rfl, rfl⟩)
  · skip
    have i0 := h1
    refine XO.v (V.assign rfl) rfl ?_
    refine XO.nil ?_
    refine XE.next ?_
    refine XC.keep [(0, _), (1, _), (6, _)] (Sub.cons rfl (Sub.cons rfl (Sub.cons rfl (Sub.nil _)))) ?_
    refine XC.seq ?_
    refine XC.seq ?_
    refine XC.region ?_
    refine XO.v (V.move rfl) rfl ?_
    refine XO.v (V.ifaceNil rfl Try.underlying33 rfl) rfl ?_
    refine XO.nil ?_
    refine XE.next ?_
    refine XC.keep [(0, _), (1, _), (6, _), (11, _)] (Sub.cons rfl (Sub.cons rfl (Sub.cons rfl (Sub.cons rfl (Sub.nil _))))) ?_
    refine XC.condT rfl rfl ?_
    refine XC.seq ?_
    refine XC.region ?_
    refine XO.v (V.move rfl) rfl ?_
    refine XO.v (V.assign rfl) rfl ?_
    refine XO.nilRow 3 1 ?_
    refine XO.v (V.assign rfl) rfl ?_
    refine XO.nil ?_
    refine XE.next ?_
    refine XC.keep [(4, _), (5, _)] (Sub.cons rfl (Sub.cons rfl (Sub.nil _))) ?_
    refine XC.ret ?_
    refine XE.thenRet ?_
    refine XE.ret2 rfl rfl rfl (post_of (.cons .here (.cons .here .nil)) rfl ?_)
    first
    | (have hm : s.mem n = ([], s.is n) := by unfold SS.mem; rw [if_pos (by assumption)]
       rw [hm]; exact ⟨none, 0, by rw [errv_pos _ (by assumption)]; rfl, rfl⟩)
    | (have hm : s.mem n = (s.members n, 0) := by unfold SS.mem; rw [if_neg (by simp_all)]
       rw [hm]; exact ⟨_, _, rfl, rfl⟩)
set_option maxRecDepth 10000 in
set_option maxHeartbeats 400000 in
theorem t_All (b o : Nat) (s : SS) : Spec Try.prog 72 [ptr b o 0]
    [.cells b o 158 (encT s)]
    (fun v H1 => ∃ p cap, v = .slice p (allL s.here 6).length cap ∧ H1 = [irow p cap 3 (allL s.here 6), .cells b o 158 (encT s)]) := by
  refine Spec.intro Try.func72 rfl rfl ?_
  intro W
  refine XC.seq ?_
  refine XC.region ?_
  refine XO.v (V.assign rfl) rfl ?_
  refine XO.nil ?_
  refine XE.next ?_
  refine XC.keep [(0, _)] (Sub.cons rfl (Sub.nil _)) ?_
  refine XC.seq ?_
  refine XC.region ?_
  refine XO.v (V.assign rfl) rfl ?_
  refine XO.nilRow 3 1 ?_
  refine XO.nil ?_
  refine XE.next ?_
  refine XC.keep [(0, _), (3, _)] (Sub.cons rfl (Sub.cons rfl (Sub.nil _))) ?_
  refine XC.seq ?_
  refine XC.seq ?_
  refine XC.region ?_
  refine XO.v (V.move rfl) rfl ?_
  refine XO.nil ?_
  refine XE.next ?_
  refine XC.keep [(0, _), (3, _), (5, _)] (Sub.cons rfl (Sub.cons rfl (Sub.cons rfl (Sub.nil _)))) ?_
  refine XC.block ?_
  refine XC.loop (σ := Int × List Int × Option Addr × Nat) (fun x => (6 - x.1).toNat) (fun x => (0 ≤ x.1 ∧ x.1 ≤ 6) ∧ x.2.1 = allL s.here x.1.toNat) (fun x => [(3, .slice x.2.2.1 x.2.1.length x.2.2.2), (5, .int .i64 x.1), (0, ptr b o 0)]) (fun x => XM W (foot [.cells b o 158 (encT s)]) [irow x.2.2.1 x.2.2.2 3 x.2.1, .cells b o 158 (encT s)]) ((0, [], none, 0)) ?_ (Sub.cons rfl (Sub.cons rfl (Sub.cons rfl (Sub.nil _)))) (fun _ hw => XM.pick (.cons .here (.cons .here .nil)) hw) ?_
  · skip
    exact ⟨by omega, rfl⟩
  intro x hx
  obtain ⟨hx, hL⟩ := hx
  have hlen := allL_length s.here x.1.toNat
  rw [← hL] at hlen
  have hnx := allI_next s.here hx.1
  refine XC.seq ?_
  refine XC.region ?_
  refine XO.v (V.cmp rfl rfl rfl) rfl ?_
  refine XO.nil ?_
  refine XE.next ?_
  refine XC.keep [(0, _), (3, _), (5, _), (6, _)] (Sub.cons rfl (Sub.cons rfl (Sub.cons rfl (Sub.cons rfl (Sub.nil _))))) ?_
  refine XC.seq ?_
  refine XC.condP rfl (fun h1 => ?_) (fun h1 => ?_)
  · skip
    refine XC.skip ?_
    refine XE.next ?_
    refine XC.keep [(0, _), (3, _), (5, _)] (Sub.cons rfl (Sub.cons rfl (Sub.cons rfl (Sub.nil _)))) ?_
    refine XC.seq ?_
    refine XC.block ?_
    refine XC.seq ?_
    refine XC.region ?_
    refine XO.v (V.move rfl) rfl ?_
    refine XO.v (V.assign rfl) rfl ?_
    refine XO.nil ?_
    refine XE.next ?_
    refine XC.keep [(0, _), (3, _), (4, _), (5, _)] (Sub.cons rfl (Sub.cons rfl (Sub.cons rfl (Sub.cons rfl (Sub.nil _))))) ?_
    refine XC.seq ?_
    refine XC.region ?_
    refine XO.v (V.move rfl) rfl ?_
    refine XO.v (V.move rfl) rfl ?_
    refine XO.v (V.nilCheckP rfl) rfl ?_
    refine XO.v (V.fieldAddr rfl fo_98_0) rfl ?_
    refine XO.v (V.indexArr rfl rfl ar_95 (by omega)) rfl ?_
    refine XO.v (V.fieldAddr rfl fo_94_0) rfl ?_
    refine XO.v (V.load rfl (inXM (.there .here)) (encT.ld_s_I_here _ _ (by omega)) sc_4) rfl ?_
    refine XO.nil ?_
    refine XE.next ?_
    refine XC.keep [(0, _), (3, _), (4, _), (5, _), (14, _)] (Sub.cons rfl (Sub.cons rfl (Sub.cons rfl (Sub.cons rfl (Sub.cons rfl (Sub.nil _)))))) ?_
    refine XC.cond rfl (fun h2 => ?_) (fun h2 => ?_)
    · try simp only [decide_eq_true_eq, decide_eq_false_iff_not, Bool.not_eq_true', Bool.not_eq_false', Bool.not_eq_eq_eq_not, Bool.not_true, Bool.not_false, beq_iff_eq, bne_iff_ne, ne_eq, beq_eq_false_iff_ne, bne_eq_false_iff_eq, Int.not_lt, Int.not_le, gt_iff_lt, ge_iff_le, Bool.and_eq_true, Bool.or_eq_true, Bool.and_eq_false_iff, Bool.or_eq_false_iff, Decidable.not_not] at h2
      refine XC.region ?_
      refine XO.v (V.move rfl) rfl ?_
      refine XO.v (V.move rfl) rfl ?_
      refine XO.buildSlice (A := #[.int .i64 _]) (vs := #[(0, .int .i64 _)]) rfl (bs1_85 _) rfl rfl ?_
      intro h3
      refine XO.appendI (e := 3) rfl rfl Try.underlying85 rt_3_1 (.there .here) .here (by omega) rfl ?_
      intro h4 h5
      refine XO.v (V.assign rfl) rfl ?_
      refine XO.nil ?_
      refine XE.blockNormal ?_
      refine XE.next ?_
      refine XC.keep [(0, _), (3, _), (5, _)] (Sub.cons rfl (Sub.cons rfl (Sub.cons rfl (Sub.nil _)))) ?_
      refine XC.region ?_
      refine XO.v (V.add rfl rfl _ (IntWalk.i64_in _ (by omega))) rfl ?_
      refine XO.v (V.move rfl) rfl ?_
      refine XO.nil ?_
      refine XE.again ((x.1 + 1, x.2.1 ++ [x.1], _, _)) ?_ ?_ (Sub.cons rfl (Sub.cons rfl (Sub.cons rfl (Sub.nil _)))) (fun _ hw => XM.pick (.cons .here (.cons (.there .here) .nil)) hw)
      · skip
        (first | omega | (simp; done) | (simp; omega))
      · skip
        exact ⟨by omega, by rw [hL]; exact (hnx.1 (by assumption)).symm⟩
    · try simp only [decide_eq_true_eq, decide_eq_false_iff_not, Bool.not_eq_true', Bool.not_eq_false', Bool.not_eq_eq_eq_not, Bool.not_true, Bool.not_false, beq_iff_eq, bne_iff_ne, ne_eq, beq_eq_false_iff_ne, bne_eq_false_iff_eq, Int.not_lt, Int.not_le, gt_iff_lt, ge_iff_le, Bool.and_eq_true, Bool.or_eq_true, Bool.and_eq_false_iff, Bool.or_eq_false_iff, Decidable.not_not] at h2
      refine XC.skip ?_
      refine XE.blockNormal ?_
      refine XE.next ?_
      refine XC.keep [(0, _), (3, _), (5, _)] (Sub.cons rfl (Sub.cons rfl (Sub.cons rfl (Sub.nil _)))) ?_
      refine XC.region ?_
      refine XO.v (V.add rfl rfl _ (IntWalk.i64_in _ (by omega))) rfl ?_
      refine XO.v (V.move rfl) rfl ?_
      refine XO.nil ?_
      refine XE.again ((x.1 + 1, x.2.1, _, _)) ?_ ?_ (Sub.cons rfl (Sub.cons rfl (Sub.cons rfl (Sub.nil _)))) (fun _ hw => XM.pick (.cons .here (.cons .here .nil)) hw)
      · skip
        (first | omega | (simp; done) | (simp; omega))
      · skip
        exact ⟨by omega, by rw [hL]; exact (hnx.2 (by assumption)).symm⟩
  · skip
    refine XC.exit ?_
    refine XE.thenExit ?_
    refine XE.thenExit ?_
    refine XE.blockExit ?_
    refine XE.next ?_
    refine XC.keep [(3, _)] (Sub.cons rfl (Sub.nil _)) ?_
    refine XC.seq ?_
    refine XC.region ?_
    refine XO.v (V.move rfl) rfl ?_
    refine XO.v (V.assign rfl) rfl ?_
    refine XO.nil ?_
    refine XE.next ?_
    refine XC.keep [(2, _)] (Sub.cons rfl (Sub.nil _)) ?_
    refine XC.ret ?_
    refine XE.ret1 rfl rfl (post_of (.cons .here (.cons .here .nil)) rfl ?_)
    have hx21 : x.1 = 6 := by omega
    rw [hx21] at hL
    exact ⟨_, _, by rw [hL]; rfl, by rw [hL]; rfl⟩
set_option maxRecDepth 10000 in
set_option maxHeartbeats 400000 in
theorem t_Pid (b o : Nat) (s : SS) (p n : Int) : Spec Try.prog 66 [ptr b o 0, .int .i64 p, .int .i64 n]
    [.cells b o 158 (encT s)]
    (fun v H1 => v = .tuple #[.int .i64 (s.pid p n).1, errv 106 (s.pid p n).2] ∧ H1 = [.cells b o 158 (encT s)]) := by
  refine Spec.intro Try.func66 rfl rfl ?_
  intro W
  refine XC.seq ?_
  refine XC.region ?_
  refine XO.v (V.assign rfl) rfl ?_
  refine XO.v (V.assign rfl) rfl ?_
  refine XO.nil ?_
  refine XE.next ?_
  refine XC.keep [(0, _), (1, _), (2, _)] (Sub.cons rfl (Sub.cons rfl (Sub.cons rfl (Sub.nil _)))) ?_
  refine XC.seq ?_
  refine XC.region ?_
  refine XO.v (V.move rfl) rfl ?_
  refine XO.v (V.move rfl) rfl ?_
  refine XO.call rfl (t_is _ _ _ _) (.cons .here .nil) cl_60 rfl ?_
  rintro _ _ (⟨h1, rfl, rfl⟩ | ⟨h1, rfl, rfl⟩)
  · skip
    obtain ⟨i0, i1, i2, i3⟩ := h1
    refine XO.v (V.assign rfl) rfl ?_
    refine XO.nil ?_
    refine XE.next ?_
    refine XC.keep [(0, _), (1, _), (2, _), (8, _)] (Sub.cons rfl (Sub.cons rfl (Sub.cons rfl (Sub.cons rfl (Sub.nil _))))) ?_
    refine XC.seq ?_
    refine XC.seq ?_
    refine XC.region ?_
    refine XO.v (V.move rfl) rfl ?_
    refine XO.v (V.nilNil rfl Try.underlying33 rfl) rfl ?_
    refine XO.nil ?_
    refine XE.next ?_
    refine XC.keep [(0, _), (1, _), (2, _), (8, _), (15, _)] (Sub.cons rfl (Sub.cons rfl (Sub.cons rfl (Sub.cons rfl (Sub.cons rfl (Sub.nil _)))))) ?_
    refine XC.condF rfl rfl ?_
    refine XC.skip ?_
    refine XE.next ?_
    refine XC.keep [(0, _), (1, _), (2, _)] (Sub.cons rfl (Sub.cons rfl (Sub.cons rfl (Sub.nil _)))) ?_
    refine XC.seq ?_
    refine XC.seq ?_
    refine XC.region ?_
    refine XO.v (V.move rfl) rfl ?_
    refine XO.v (V.cmp rfl rfl rfl) rfl ?_
    refine XO.v (V.move rfl) rfl ?_
    refine XO.splitP (d := 19) rfl (fun h2 => ?_) (fun h2 => ?_)
    · skip
      refine XO.guardSkip rfl rfl rfl rfl rfl ?_
      refine XO.guardSkip rfl rfl rfl rfl rfl ?_
      refine XO.v (V.pick rfl rfl rfl rfl) rfl ?_
      refine XO.nil ?_
      refine XE.next ?_
      refine XC.keep [(0, _), (1, _), (2, _), (22, _)] (Sub.cons rfl (Sub.cons rfl (Sub.cons rfl (Sub.cons rfl (Sub.nil _))))) ?_
      refine XC.condT rfl rfl ?_
      refine XC.seq ?_
      refine XC.region ?_
      refine XO.v (V.makeIface rfl Try.underlying106 (by simp)) rfl ?_
      refine XO.v (V.assign rfl) rfl ?_
      refine XO.v (V.assign rfl) rfl ?_
      refine XO.nil ?_
      refine XE.next ?_
      refine XC.keep [(6, _), (7, _)] (Sub.cons rfl (Sub.cons rfl (Sub.nil _))) ?_
      refine XC.ret ?_
      refine XE.thenRet ?_
      refine XE.ret2 rfl rfl rfl (post_of (.cons .here .nil) rfl ?_)
      first
      | (rw [SS.pid_err (by assumption)]; exact ⟨by show _ = Value.tuple #[_, errv 106 (s.is n)]; rw [errv_pos _ (by assumption)], rfl⟩)
      | (rw [SS.pid_bound (by assumption) (by omega)]; exact ⟨rfl, rfl⟩)
      | (rw [SS.pid_some (q := k) (by assumption) (by omega) (by omega) (by omega) hk2]; exact ⟨rfl, rfl⟩)
      | (rw [SS.pid_none (by assumption) (by omega) (fun j h1 h2 => hk2 j h1 (by omega))]; exact ⟨rfl, rfl⟩)
    · skip
      refine XO.guardRun rfl rfl rfl ?_
      refine XO.v (V.move rfl) rfl ?_
      refine XO.guardRun rfl rfl rfl ?_
      refine XO.v (V.cmp rfl rfl rfl) rfl ?_
      refine XO.v (V.pick rfl rfl rfl rfl) rfl ?_
      refine XO.nil ?_
      refine XE.next ?_
      refine XC.keep [(0, _), (1, _), (2, _), (22, _)] (Sub.cons rfl (Sub.cons rfl (Sub.cons rfl (Sub.cons rfl (Sub.nil _))))) ?_
      refine XC.condP rfl (fun h3 => ?_) (fun h3 => ?_)
      · skip
        refine XC.seq ?_
        refine XC.region ?_
        refine XO.v (V.makeIface rfl Try.underlying106 (by simp)) rfl ?_
        refine XO.v (V.assign rfl) rfl ?_
        refine XO.v (V.assign rfl) rfl ?_
        refine XO.nil ?_
        refine XE.next ?_
        refine XC.keep [(6, _), (7, _)] (Sub.cons rfl (Sub.cons rfl (Sub.nil _))) ?_
        refine XC.ret ?_
        refine XE.thenRet ?_
        refine XE.ret2 rfl rfl rfl (post_of (.cons .here .nil) rfl ?_)
        first
        | (rw [SS.pid_err (by assumption)]; exact ⟨by show _ = Value.tuple #[_, errv 106 (s.is n)]; rw [errv_pos _ (by assumption)], rfl⟩)
        | (rw [SS.pid_bound (by assumption) (by omega)]; exact ⟨rfl, rfl⟩)
        | (rw [SS.pid_some (q := k) (by assumption) (by omega) (by omega) (by omega) hk2]; exact ⟨rfl, rfl⟩)
        | (rw [SS.pid_none (by assumption) (by omega) (fun j h1 h2 => hk2 j h1 (by omega))]; exact ⟨rfl, rfl⟩)
      · skip
        refine XC.skip ?_
        refine XE.next ?_
        refine XC.keep [(0, _), (1, _), (2, _)] (Sub.cons rfl (Sub.cons rfl (Sub.cons rfl (Sub.nil _)))) ?_
        refine XC.seq ?_
        refine XC.seq ?_
        refine XC.region ?_
        refine XO.v (V.move rfl) rfl ?_
        refine XO.v (V.move rfl) rfl ?_
        refine XO.v (V.nilCheckP rfl) rfl ?_
        refine XO.v (V.fieldAddr rfl fo_98_0) rfl ?_
        refine XO.v (V.indexArr rfl rfl ar_95 (by omega)) rfl ?_
        refine XO.v (V.fieldAddr rfl fo_94_2) rfl ?_
        refine XO.v (V.loadAgg rfl (inXM .here) (encT_who _ _ (by omega) (by assumption)) ag_92 sz_92_21) rfl ?_
        refine XO.v (V.move rfl) rfl ?_
        refine XO.nil ?_
        refine XE.next ?_
        refine XC.keep [(1, _), (30, _), (31, _)] (Sub.cons rfl (Sub.cons rfl (Sub.cons rfl (Sub.nil _)))) ?_
        refine XC.block ?_
        refine XC.loop (σ := Int) (fun k => (21 - k).toNat) (fun k => (0 ≤ k ∧ k ≤ 21) ∧ ∀ j : Int, 0 ≤ j → j < k → s.who n j ≠ p) (fun k => [(31, .int .i64 k), (1, .int .i64 p), (30, .agg (arrV (s.who n) 21))]) (fun k => XM W (foot [.cells b o 158 (encT s)]) [.cells b o 158 (encT s)]) (0) ?_ (Sub.cons rfl (Sub.cons rfl (Sub.cons rfl (Sub.nil _)))) (fun _ hw => XM.pick (.cons .here .nil) hw) ?_
        · skip
          exact ⟨by omega, fun j h1 h2 => by omega⟩
        intro k hk
        obtain ⟨hk, hk2⟩ := hk
        refine XC.seq ?_
        refine XC.region ?_
        refine XO.v (V.cmp rfl rfl rfl) rfl ?_
        refine XO.nil ?_
        refine XE.next ?_
        refine XC.keep [(1, _), (30, _), (31, _), (32, _)] (Sub.cons rfl (Sub.cons rfl (Sub.cons rfl (Sub.cons rfl (Sub.nil _))))) ?_
        refine XC.seq ?_
        refine XC.condP rfl (fun h4 => ?_) (fun h4 => ?_)
        · skip
          refine XC.skip ?_
          refine XE.next ?_
          refine XC.keep [(1, _), (30, _), (31, _)] (Sub.cons rfl (Sub.cons rfl (Sub.cons rfl (Sub.nil _)))) ?_
          refine XC.seq ?_
          refine XC.block ?_
          refine XC.seq ?_
          refine XC.region ?_
          refine XO.v (V.move rfl) rfl ?_
          refine XO.v (V.indexArrV rfl rfl Try.underlying92 sz_3_1 sc_3 (by omega)) rfl ?_
          refine XO.v (V.assign rfl) rfl ?_
          refine XO.v (V.assign rfl) rfl ?_
          refine XO.nil ?_
          refine XE.next ?_
          refine XC.keep [(1, _), (9, _), (10, _), (30, _), (31, _)] (Sub.cons rfl (Sub.cons rfl (Sub.cons rfl (Sub.cons rfl (Sub.cons rfl (Sub.nil _)))))) ?_
          refine XC.seq ?_
          refine XC.region ?_
          refine XO.v (V.move rfl) rfl ?_
          refine XO.v (V.move rfl) rfl ?_
          refine XO.v (V.cmp rfl rfl rfl) rfl ?_
          refine XO.nil ?_
          refine XE.next ?_
          refine XC.keep [(1, _), (9, _), (30, _), (31, _), (37, _)] (Sub.cons rfl (Sub.cons rfl (Sub.cons rfl (Sub.cons rfl (Sub.cons rfl (Sub.nil _)))))) ?_
          refine XC.condP rfl (fun h5 => ?_) (fun h5 => ?_)
          · skip
            refine XC.seq ?_
            refine XC.region ?_
            refine XO.v (V.move rfl) rfl ?_
            refine XO.v (V.assign rfl) rfl ?_
            refine XO.v (V.assign rfl) rfl ?_
            refine XO.nil ?_
            refine XE.next ?_
            refine XC.keep [(6, _), (7, _)] (Sub.cons rfl (Sub.cons rfl (Sub.nil _))) ?_
            refine XC.ret ?_
            refine XE.blockRet ?_
            refine XE.thenRet ?_
            refine XE.thenRet ?_
            refine XE.blockRet ?_
            refine XE.thenRet ?_
            refine XE.ret2 rfl rfl rfl (post_of (.cons .here .nil) rfl ?_)
            first
            | (rw [SS.pid_err (by assumption)]; exact ⟨by show _ = Value.tuple #[_, errv 106 (s.is n)]; rw [errv_pos _ (by assumption)], rfl⟩)
            | (rw [SS.pid_bound (by assumption) (by omega)]; exact ⟨rfl, rfl⟩)
            | (rw [SS.pid_some (q := k) (by assumption) (by omega) (by omega) (by omega) hk2]; exact ⟨rfl, rfl⟩)
            | (rw [SS.pid_none (by assumption) (by omega) (fun j h1 h2 => hk2 j h1 (by omega))]; exact ⟨rfl, rfl⟩)
          · skip
            refine XC.skip ?_
            refine XE.blockNormal ?_
            refine XE.next ?_
            refine XC.keep [(1, _), (30, _), (31, _)] (Sub.cons rfl (Sub.cons rfl (Sub.cons rfl (Sub.nil _)))) ?_
            refine XC.region ?_
            refine XO.v (V.add rfl rfl _ (IntWalk.i64_in _ (by omega))) rfl ?_
            refine XO.v (V.move rfl) rfl ?_
            refine XO.nil ?_
            refine XE.again (k + 1) ?_ ?_ (Sub.cons rfl (Sub.cons rfl (Sub.cons rfl (Sub.nil _)))) (fun _ hw => XM.pick (.cons .here .nil) hw)
            · skip
              (first | omega | (simp; done) | (simp; omega))
            · skip
              refine ⟨by omega, fun j h1 h2 => ?_⟩
              by_cases hj : j = k
              · subst hj; assumption
              · exact hk2 j h1 (by omega)
        · skip
          refine XC.exit ?_
          refine XE.thenExit ?_
          refine XE.thenExit ?_
          refine XE.blockExit ?_
          refine XE.next ?_
          refine XC.keep [] (Sub.nil _) ?_
          refine XC.seq ?_
          refine XC.region ?_
          refine XO.v (V.makeIface rfl Try.underlying106 (by simp)) rfl ?_
          refine XO.v (V.assign rfl) rfl ?_
          refine XO.v (V.assign rfl) rfl ?_
          refine XO.nil ?_
          refine XE.next ?_
          refine XC.keep [(6, _), (7, _)] (Sub.cons rfl (Sub.cons rfl (Sub.nil _))) ?_
          refine XC.ret ?_
          refine XE.ret2 rfl rfl rfl (post_of (.cons .here .nil) rfl ?_)
          first
          | (rw [SS.pid_err (by assumption)]; exact ⟨by show _ = Value.tuple #[_, errv 106 (s.is n)]; rw [errv_pos _ (by assumption)], rfl⟩)
          | (rw [SS.pid_bound (by assumption) (by omega)]; exact ⟨rfl, rfl⟩)
          | (rw [SS.pid_some (q := k) (by assumption) (by omega) (by omega) (by omega) hk2]; exact ⟨rfl, rfl⟩)
          | (rw [SS.pid_none (by assumption) (by omega) (fun j h1 h2 => hk2 j h1 (by omega))]; exact ⟨rfl, rfl⟩)
  · skip
    have i0 := h1
    refine XO.v (V.assign rfl) rfl ?_
    refine XO.nil ?_
    refine XE.next ?_
    refine XC.keep [(0, _), (1, _), (2, _), (8, _)] (Sub.cons rfl (Sub.cons rfl (Sub.cons rfl (Sub.cons rfl (Sub.nil _))))) ?_
    refine XC.seq ?_
    refine XC.seq ?_
    refine XC.region ?_
    refine XO.v (V.move rfl) rfl ?_
    refine XO.v (V.ifaceNil rfl Try.underlying33 rfl) rfl ?_
    refine XO.nil ?_
    refine XE.next ?_
    refine XC.keep [(0, _), (1, _), (2, _), (8, _), (15, _)] (Sub.cons rfl (Sub.cons rfl (Sub.cons rfl (Sub.cons rfl (Sub.cons rfl (Sub.nil _)))))) ?_
    refine XC.condT rfl rfl ?_
    refine XC.seq ?_
    refine XC.region ?_
    refine XO.v (V.move rfl) rfl ?_
    refine XO.v (V.assign rfl) rfl ?_
    refine XO.v (V.assign rfl) rfl ?_
    refine XO.nil ?_
    refine XE.next ?_
    refine XC.keep [(6, _), (7, _)] (Sub.cons rfl (Sub.cons rfl (Sub.nil _))) ?_
    refine XC.ret ?_
    refine XE.thenRet ?_
    refine XE.ret2 rfl rfl rfl (post_of (.cons .here .nil) rfl ?_)
    first
    | (rw [SS.pid_err (by assumption)]; exact ⟨by show _ = Value.tuple #[_, errv 106 (s.is n)]; rw [errv_pos _ (by assumption)], rfl⟩)
    | (rw [SS.pid_bound (by assumption) (by omega)]; exact ⟨rfl, rfl⟩)
    | (rw [SS.pid_some (q := k) (by assumption) (by omega) (by omega) (by omega) hk2]; exact ⟨rfl, rfl⟩)
    | (rw [SS.pid_none (by assumption) (by omega) (fun j h1 h2 => hk2 j h1 (by omega))]; exact ⟨rfl, rfl⟩)
set_option maxRecDepth 10000 in
set_option maxHeartbeats 400000 in
theorem t_Find (b o : Nat) (s : SS) (n q : Int) : Spec Try.prog 23 [ptr b o 0, .int .i64 n, .int .i64 q]
    [.cells b o 158 (encT s)]
    (fun v H1 => v = .tuple #[.int .i64 (s.find n q).1, errv 106 (s.find n q).2] ∧ H1 = [.cells b o 158 (encT s)]) := by
  refine Spec.intro Try.func23 rfl rfl ?_
  intro W
  refine XC.seq ?_
  refine XC.region ?_
  refine XO.v (V.assign rfl) rfl ?_
  refine XO.v (V.assign rfl) rfl ?_
  refine XO.nil ?_
  refine XE.next ?_
  refine XC.keep [(0, _), (1, _), (2, _)] (Sub.cons rfl (Sub.cons rfl (Sub.cons rfl (Sub.nil _)))) ?_
  refine XC.seq ?_
  refine XC.region ?_
  refine XO.v (V.move rfl) rfl ?_
  refine XO.v (V.move rfl) rfl ?_
  refine XO.call rfl (t_is _ _ _ _) (.cons .here .nil) cl_60 rfl ?_
  rintro _ _ (⟨h1, rfl, rfl⟩ | ⟨h1, rfl, rfl⟩)
  · skip
    obtain ⟨i0, i1, i2, i3⟩ := h1
    refine XO.v (V.assign rfl) rfl ?_
    refine XO.nil ?_
    refine XE.next ?_
    refine XC.keep [(0, _), (1, _), (2, _), (8, _)] (Sub.cons rfl (Sub.cons rfl (Sub.cons rfl (Sub.cons rfl (Sub.nil _))))) ?_
    refine XC.seq ?_
    refine XC.seq ?_
    refine XC.region ?_
    refine XO.v (V.move rfl) rfl ?_
    refine XO.v (V.nilNil rfl Try.underlying33 rfl) rfl ?_
    refine XO.nil ?_
    refine XE.next ?_
    refine XC.keep [(0, _), (1, _), (2, _), (8, _), (13, _)] (Sub.cons rfl (Sub.cons rfl (Sub.cons rfl (Sub.cons rfl (Sub.cons rfl (Sub.nil _)))))) ?_
    refine XC.condF rfl rfl ?_
    refine XC.skip ?_
    refine XE.next ?_
    refine XC.keep [(0, _), (1, _), (2, _)] (Sub.cons rfl (Sub.cons rfl (Sub.cons rfl (Sub.nil _)))) ?_
    refine XC.seq ?_
    refine XC.seq ?_
    refine XC.region ?_
    refine XO.v (V.move rfl) rfl ?_
    refine XO.v (V.cmp rfl rfl rfl) rfl ?_
    refine XO.v (V.move rfl) rfl ?_
    refine XO.splitP (d := 17) rfl (fun h2 => ?_) (fun h2 => ?_)
    · skip
      refine XO.guardSkip rfl rfl rfl rfl rfl ?_
      refine XO.guardSkip rfl rfl rfl rfl rfl ?_
      refine XO.v (V.pick rfl rfl rfl rfl) rfl ?_
      refine XO.v (V.move rfl) rfl ?_
      refine XO.guardSkip rfl rfl rfl rfl rfl ?_
      refine XO.guardSkip rfl rfl rfl rfl rfl ?_
      refine XO.guardSkip rfl rfl rfl rfl rfl ?_
      refine XO.guardSkip rfl rfl rfl rfl rfl ?_
      refine XO.guardSkip rfl rfl rfl rfl rfl ?_
      refine XO.guardSkip rfl rfl rfl rfl rfl ?_
      refine XO.guardSkip rfl rfl rfl rfl rfl ?_
      refine XO.guardSkip rfl rfl rfl rfl rfl ?_
      refine XO.guardSkip rfl rfl rfl rfl rfl ?_
      refine XO.guardSkip rfl rfl rfl rfl rfl ?_
      refine XO.v (V.pick rfl rfl rfl rfl) rfl ?_
      refine XO.nil ?_
      refine XE.next ?_
      refine XC.keep [(0, _), (1, _), (2, _), (32, _)] (Sub.cons rfl (Sub.cons rfl (Sub.cons rfl (Sub.cons rfl (Sub.nil _))))) ?_
      refine XC.condT rfl rfl ?_
      refine XC.seq ?_
      refine XC.region ?_
      refine XO.v (V.makeIface rfl Try.underlying106 (by simp)) rfl ?_
      refine XO.v (V.assign rfl) rfl ?_
      refine XO.v (V.assign rfl) rfl ?_
      refine XO.nil ?_
      refine XE.next ?_
      refine XC.keep [(6, _), (7, _)] (Sub.cons rfl (Sub.cons rfl (Sub.nil _))) ?_
      refine XC.ret ?_
      refine XE.thenRet ?_
      refine XE.ret2 rfl rfl rfl (post_of (.cons .here .nil) rfl ?_)
      first
      | (rw [SS.find_err (by assumption)]; exact ⟨by show _ = Value.tuple #[_, errv 106 (s.is n)]; rw [errv_pos _ (by assumption)], rfl⟩)
      | (rw [SS.find_none (by assumption) (by omega)]; exact ⟨rfl, rfl⟩)
      | (rw [SS.find_ok (by assumption) (by omega) (by omega)]; exact ⟨rfl, rfl⟩)
    · skip
      refine XO.guardRun rfl rfl rfl ?_
      refine XO.v (V.move rfl) rfl ?_
      refine XO.guardRun rfl rfl rfl ?_
      refine XO.v (V.cmp rfl rfl rfl) rfl ?_
      refine XO.v (V.pick rfl rfl rfl rfl) rfl ?_
      refine XO.v (V.move rfl) rfl ?_
      refine XO.splitP (d := 21) rfl (fun h3 => ?_) (fun h3 => ?_)
      · skip
        refine XO.guardSkip rfl rfl rfl rfl rfl ?_
        refine XO.guardSkip rfl rfl rfl rfl rfl ?_
        refine XO.guardSkip rfl rfl rfl rfl rfl ?_
        refine XO.guardSkip rfl rfl rfl rfl rfl ?_
        refine XO.guardSkip rfl rfl rfl rfl rfl ?_
        refine XO.guardSkip rfl rfl rfl rfl rfl ?_
        refine XO.guardSkip rfl rfl rfl rfl rfl ?_
        refine XO.guardSkip rfl rfl rfl rfl rfl ?_
        refine XO.guardSkip rfl rfl rfl rfl rfl ?_
        refine XO.guardSkip rfl rfl rfl rfl rfl ?_
        refine XO.v (V.pick rfl rfl rfl rfl) rfl ?_
        refine XO.nil ?_
        refine XE.next ?_
        refine XC.keep [(0, _), (1, _), (2, _), (32, _)] (Sub.cons rfl (Sub.cons rfl (Sub.cons rfl (Sub.cons rfl (Sub.nil _))))) ?_
        refine XC.condT rfl rfl ?_
        refine XC.seq ?_
        refine XC.region ?_
        refine XO.v (V.makeIface rfl Try.underlying106 (by simp)) rfl ?_
        refine XO.v (V.assign rfl) rfl ?_
        refine XO.v (V.assign rfl) rfl ?_
        refine XO.nil ?_
        refine XE.next ?_
        refine XC.keep [(6, _), (7, _)] (Sub.cons rfl (Sub.cons rfl (Sub.nil _))) ?_
        refine XC.ret ?_
        refine XE.thenRet ?_
        refine XE.ret2 rfl rfl rfl (post_of (.cons .here .nil) rfl ?_)
        first
        | (rw [SS.find_err (by assumption)]; exact ⟨by show _ = Value.tuple #[_, errv 106 (s.is n)]; rw [errv_pos _ (by assumption)], rfl⟩)
        | (rw [SS.find_none (by assumption) (by omega)]; exact ⟨rfl, rfl⟩)
        | (rw [SS.find_ok (by assumption) (by omega) (by omega)]; exact ⟨rfl, rfl⟩)
      · skip
        refine XO.guardRun rfl rfl rfl ?_
        refine XO.v (V.move rfl) rfl ?_
        refine XO.guardRun rfl rfl rfl ?_
        refine XO.v (V.move rfl) rfl ?_
        refine XO.guardRun rfl rfl rfl ?_
        refine XO.v (V.move rfl) rfl ?_
        refine XO.guardRun rfl rfl rfl ?_
        refine XO.v (V.nilCheckP rfl) rfl ?_
        refine XO.guardRun rfl rfl rfl ?_
        refine XO.v (V.fieldAddr rfl fo_98_0) rfl ?_
        refine XO.guardRun rfl rfl rfl ?_
        refine XO.v (V.indexArr rfl rfl ar_95 (by omega)) rfl ?_
        refine XO.guardRun rfl rfl rfl ?_
        refine XO.v (V.fieldAddr rfl fo_94_2) rfl ?_
        refine XO.guardRun rfl rfl rfl ?_
        refine XO.v (V.indexArr rfl rfl ar_92 (by omega)) rfl ?_
        refine XO.guardRun rfl rfl rfl ?_
        refine XO.v (V.load rfl (inXM .here) (encT.ldc_s_I_who_I _ _ _ (by omega) (by omega) (by first | assumption | (simp_all; done))) sc_3) rfl ?_
        refine XO.guardRun rfl rfl rfl ?_
        refine XO.v (V.cmp rfl rfl rfl) rfl ?_
        refine XO.v (V.pick rfl rfl rfl rfl) rfl ?_
        refine XO.nil ?_
        refine XE.next ?_
        refine XC.keep [(0, _), (1, _), (2, _), (32, _)] (Sub.cons rfl (Sub.cons rfl (Sub.cons rfl (Sub.cons rfl (Sub.nil _))))) ?_
        refine XC.condP rfl (fun h4 => ?_) (fun h4 => ?_)
        · skip
          refine XC.seq ?_
          refine XC.region ?_
          refine XO.v (V.makeIface rfl Try.underlying106 (by simp)) rfl ?_
          refine XO.v (V.assign rfl) rfl ?_
          refine XO.v (V.assign rfl) rfl ?_
          refine XO.nil ?_
          refine XE.next ?_
          refine XC.keep [(6, _), (7, _)] (Sub.cons rfl (Sub.cons rfl (Sub.nil _))) ?_
          refine XC.ret ?_
          refine XE.thenRet ?_
          refine XE.ret2 rfl rfl rfl (post_of (.cons .here .nil) rfl ?_)
          first
          | (rw [SS.find_err (by assumption)]; exact ⟨by show _ = Value.tuple #[_, errv 106 (s.is n)]; rw [errv_pos _ (by assumption)], rfl⟩)
          | (rw [SS.find_none (by assumption) (by omega)]; exact ⟨rfl, rfl⟩)
          | (rw [SS.find_ok (by assumption) (by omega) (by omega)]; exact ⟨rfl, rfl⟩)
        · skip
          refine XC.skip ?_
          refine XE.next ?_
          refine XC.keep [(0, _), (1, _), (2, _)] (Sub.cons rfl (Sub.cons rfl (Sub.cons rfl (Sub.nil _)))) ?_
          refine XC.seq ?_
          refine XC.region ?_
          refine XO.v (V.move rfl) rfl ?_
          refine XO.v (V.move rfl) rfl ?_
          refine XO.v (V.move rfl) rfl ?_
          refine XO.v (V.nilCheckP rfl) rfl ?_
          refine XO.v (V.fieldAddr rfl fo_98_0) rfl ?_
          refine XO.v (V.indexArr rfl rfl ar_95 (by omega)) rfl ?_
          refine XO.v (V.fieldAddr rfl fo_94_2) rfl ?_
          refine XO.v (V.indexArr rfl rfl ar_92 (by omega)) rfl ?_
          refine XO.v (V.load rfl (inXM .here) (encT.ldc_s_I_who_I _ _ _ (by omega) (by omega) (by first | assumption | (simp_all; done))) sc_3) rfl ?_
          refine XO.v (V.assign rfl) rfl ?_
          refine XO.v (V.assign rfl) rfl ?_
          refine XO.nil ?_
          refine XE.next ?_
          refine XC.keep [(6, _), (7, _)] (Sub.cons rfl (Sub.cons rfl (Sub.nil _))) ?_
          refine XC.ret ?_
          refine XE.ret2 rfl rfl rfl (post_of (.cons .here .nil) rfl ?_)
          first
          | (rw [SS.find_err (by assumption)]; exact ⟨by show _ = Value.tuple #[_, errv 106 (s.is n)]; rw [errv_pos _ (by assumption)], rfl⟩)
          | (rw [SS.find_none (by assumption) (by omega)]; exact ⟨rfl, rfl⟩)
          | (rw [SS.find_ok (by assumption) (by omega) (by omega)]; exact ⟨rfl, rfl⟩)
  · skip
    have i0 := h1
    refine XO.v (V.assign rfl) rfl ?_
    refine XO.nil ?_
    refine XE.next ?_
    refine XC.keep [(0, _), (1, _), (2, _), (8, _)] (Sub.cons rfl (Sub.cons rfl (Sub.cons rfl (Sub.cons rfl (Sub.nil _))))) ?_
    refine XC.seq ?_
    refine XC.seq ?_
    refine XC.region ?_
    refine XO.v (V.move rfl) rfl ?_
    refine XO.v (V.ifaceNil rfl Try.underlying33 rfl) rfl ?_
    refine XO.nil ?_
    refine XE.next ?_
    refine XC.keep [(0, _), (1, _), (2, _), (8, _), (13, _)] (Sub.cons rfl (Sub.cons rfl (Sub.cons rfl (Sub.cons rfl (Sub.cons rfl (Sub.nil _)))))) ?_
    refine XC.condT rfl rfl ?_
    refine XC.seq ?_
    refine XC.region ?_
    refine XO.v (V.move rfl) rfl ?_
    refine XO.v (V.assign rfl) rfl ?_
    refine XO.v (V.assign rfl) rfl ?_
    refine XO.nil ?_
    refine XE.next ?_
    refine XC.keep [(6, _), (7, _)] (Sub.cons rfl (Sub.cons rfl (Sub.nil _))) ?_
    refine XC.ret ?_
    refine XE.thenRet ?_
    refine XE.ret2 rfl rfl rfl (post_of (.cons .here .nil) rfl ?_)
    first
    | (rw [SS.find_err (by assumption)]; exact ⟨by show _ = Value.tuple #[_, errv 106 (s.is n)]; rw [errv_pos _ (by assumption)], rfl⟩)
    | (rw [SS.find_none (by assumption) (by omega)]; exact ⟨rfl, rfl⟩)
    | (rw [SS.find_ok (by assumption) (by omega) (by omega)]; exact ⟨rfl, rfl⟩)
set_option maxRecDepth 10000 in
set_option maxHeartbeats 400000 in
theorem t_Add (b o : Nat) (s : SS) (dep : Int → Nat) (hD : s.Deep dep) (hA : ∀ k, s.here k = false → ∀ j, s.who k j = -1) (n : Int) : Spec Try.prog 13 [ptr b o 0, .int .i64 n]
    [.cells b o 158 (encT s)]
    (fun v H1 => v = .tuple #[.int .i64 (s.add dep n).1, errv 106 (s.add dep n).2.1] ∧ H1 = [.cells b o 158 (encT (s.add dep n).2.2)]) := by
  refine Spec.intro Try.func13 rfl rfl ?_
  intro W
  refine XC.seq ?_
  refine XC.region ?_
  refine XO.v (V.assign rfl) rfl ?_
  refine XO.v (V.assign rfl) rfl ?_
  refine XO.nil ?_
  refine XE.next ?_
  refine XC.keep [(0, _), (1, _)] (Sub.cons rfl (Sub.cons rfl (Sub.nil _))) ?_
  refine XC.seq ?_
  refine XC.region ?_
  refine XO.v (V.move rfl) rfl ?_
  refine XO.v (V.move rfl) rfl ?_
  refine XO.call rfl (t_is _ _ _ _) (.cons .here .nil) cl_60 rfl ?_
  rintro _ _ (⟨h1, rfl, rfl⟩ | ⟨h1, rfl, rfl⟩)
  · skip
    obtain ⟨i0, i1, i2, i3⟩ := h1
    refine XO.v (V.assign rfl) rfl ?_
    refine XO.nil ?_
    refine XE.next ?_
    refine XC.keep [(0, _), (1, _), (6, _)] (Sub.cons rfl (Sub.cons rfl (Sub.cons rfl (Sub.nil _)))) ?_
    refine XC.seq ?_
    refine XC.seq ?_
    refine XC.region ?_
    refine XO.v (V.move rfl) rfl ?_
    refine XO.v (V.nilNil rfl Try.underlying33 rfl) rfl ?_
    refine XO.nil ?_
    refine XE.next ?_
    refine XC.keep [(0, _), (1, _), (6, _), (12, _)] (Sub.cons rfl (Sub.cons rfl (Sub.cons rfl (Sub.cons rfl (Sub.nil _))))) ?_
    refine XC.condF rfl rfl ?_
    refine XC.skip ?_
    refine XE.next ?_
    refine XC.keep [(0, _), (1, _)] (Sub.cons rfl (Sub.cons rfl (Sub.nil _))) ?_
    refine XC.seq ?_
    refine XC.seq ?_
    refine XC.region ?_
    refine XO.v (V.move rfl) rfl ?_
    refine XO.v (V.move rfl) rfl ?_
    refine XO.call rfl (t_up _ _ _ dep hD _ ⟨by omega, by omega, by assumption⟩) (.cons .here .nil) cl_61 rfl ?_
    rintro _ _ ⟨pl, cl, rfl, rfl⟩
    refine XO.v (V.lenSl rfl Try.underlying85) rfl ?_
    refine XO.v (V.cmp rfl rfl rfl) rfl ?_
    refine XO.nil ?_
    refine XE.next ?_
    refine XC.keep [(0, _), (1, _), (18, _)] (Sub.cons rfl (Sub.cons rfl (Sub.cons rfl (Sub.nil _)))) ?_
    refine XC.condP rfl (fun h2 => ?_) (fun h2 => ?_)
    · skip
      have hdp := s.way_len dep n
      refine XC.seq ?_
      refine XC.region ?_
      refine XO.v (V.makeIface rfl Try.underlying106 (by simp)) rfl ?_
      refine XO.v (V.assign rfl) rfl ?_
      refine XO.v (V.assign rfl) rfl ?_
      refine XO.nil ?_
      refine XE.next ?_
      refine XC.keep [(4, _), (5, _)] (Sub.cons rfl (Sub.cons rfl (Sub.nil _))) ?_
      refine XC.ret ?_
      refine XE.thenRet ?_
      refine XE.ret2 rfl rfl rfl (post_of (.cons (.there .here) .nil) rfl ?_)
      rw [SS.add_deep (by assumption) (by omega)]; exact ⟨rfl, rfl⟩
    · skip
      have hdp := s.way_len dep n
      refine XC.skip ?_
      refine XE.next ?_
      refine XC.keep [(0, _), (1, _)] (Sub.cons rfl (Sub.cons rfl (Sub.nil _))) ?_
      refine XC.seq ?_
      refine XC.seq ?_
      refine XC.region ?_
      refine XO.v (V.move rfl) rfl ?_
      refine XO.nil ?_
      refine XE.next ?_
      refine XC.keep [(0, _), (1, _), (20, _)] (Sub.cons rfl (Sub.cons rfl (Sub.cons rfl (Sub.nil _)))) ?_
      refine XC.block ?_
      refine XC.loop (σ := Int) (fun k => (6 - k).toNat) (fun k => (0 ≤ k ∧ k ≤ 6) ∧ ∀ j : Int, 0 ≤ j → j < k → s.here j = true) (fun k => [(20, .int .i64 k), (0, ptr b o 0), (1, .int .i64 n)]) (fun k => XM W (foot [.cells b o 158 (encT s)]) [.cells b o 158 (encT s)]) (0) ?_ (Sub.cons rfl (Sub.cons rfl (Sub.cons rfl (Sub.nil _)))) (fun _ hw => XM.pick (.cons (.there .here) .nil) hw) ?_
      · skip
        exact ⟨by omega, fun j h1 h2 => by omega⟩
      intro k hk
      obtain ⟨hk, hk2⟩ := hk
      refine XC.seq ?_
      refine XC.region ?_
      refine XO.v (V.cmp rfl rfl rfl) rfl ?_
      refine XO.nil ?_
      refine XE.next ?_
      refine XC.keep [(0, _), (1, _), (20, _), (21, _)] (Sub.cons rfl (Sub.cons rfl (Sub.cons rfl (Sub.cons rfl (Sub.nil _))))) ?_
      refine XC.seq ?_
      refine XC.condP rfl (fun h3 => ?_) (fun h3 => ?_)
      · skip
        refine XC.skip ?_
        refine XE.next ?_
        refine XC.keep [(0, _), (1, _), (20, _)] (Sub.cons rfl (Sub.cons rfl (Sub.cons rfl (Sub.nil _)))) ?_
        refine XC.seq ?_
        refine XC.block ?_
        refine XC.seq ?_
        refine XC.region ?_
        refine XO.v (V.move rfl) rfl ?_
        refine XO.v (V.assign rfl) rfl ?_
        refine XO.nil ?_
        refine XE.next ?_
        refine XC.keep [(0, _), (1, _), (7, _), (20, _)] (Sub.cons rfl (Sub.cons rfl (Sub.cons rfl (Sub.cons rfl (Sub.nil _))))) ?_
        refine XC.seq ?_
        refine XC.region ?_
        refine XO.v (V.move rfl) rfl ?_
        refine XO.v (V.move rfl) rfl ?_
        refine XO.v (V.nilCheckP rfl) rfl ?_
        refine XO.v (V.fieldAddr rfl fo_98_0) rfl ?_
        refine XO.v (V.indexArr rfl rfl ar_95 (by omega)) rfl ?_
        refine XO.v (V.fieldAddr rfl fo_94_0) rfl ?_
        refine XO.v (V.load rfl (inXM .here) (encT.ld_s_I_here _ _ (by omega)) sc_4) rfl ?_
        refine XO.v (V.not rfl) rfl ?_
        refine XO.nil ?_
        refine XE.next ?_
        refine XC.keep [(0, _), (1, _), (7, _), (20, _), (30, _)] (Sub.cons rfl (Sub.cons rfl (Sub.cons rfl (Sub.cons rfl (Sub.cons rfl (Sub.nil _)))))) ?_
        refine XC.cond rfl (fun h4 => ?_) (fun h4 => ?_)
        · try simp only [decide_eq_true_eq, decide_eq_false_iff_not, Bool.not_eq_true', Bool.not_eq_false', Bool.not_eq_eq_eq_not, Bool.not_true, Bool.not_false, beq_iff_eq, bne_iff_ne, ne_eq, beq_eq_false_iff_ne, bne_eq_false_iff_eq, Int.not_lt, Int.not_le, gt_iff_lt, ge_iff_le, Bool.and_eq_true, Bool.or_eq_true, Bool.and_eq_false_iff, Bool.or_eq_false_iff, Decidable.not_not] at h4
          refine XC.seq ?_
          refine XC.regionQ mixed (f := 8) (l := #[false, false, false, false, false, false, false, false]) rfl rfl XM.drawn' ?_
          refine XQ.pv (i := 0) (l' := #[true, false, false, false, false, false, false, false]) rfl (by kernel_rfl) rfl (V.move rfl) rfl rfl ?_
          refine XQ.pv (i := 1) (l' := #[true, true, false, false, false, false, false, false]) rfl (by kernel_rfl) rfl (V.move rfl) rfl rfl ?_
          refine XQ.pv (i := 2) (l' := #[true, true, true, false, false, false, false, false]) rfl (by kernel_rfl) rfl (V.move rfl) rfl rfl ?_
          refine XQ.pv (i := 4) (l' := #[true, true, true, false, true, false, false, false]) rfl (by kernel_rfl) rfl (V.nilCheckP rfl) rfl rfl ?_
          refine XQ.pv (i := 5) (l' := #[true, true, true, false, true, true, false, false]) rfl (by kernel_rfl) rfl (V.fieldAddr rfl fo_98_0) rfl rfl ?_
          refine XQ.call (i := 3) (l' := #[true, true, true, true, true, true, false, false]) rfl (by kernel_rfl) rfl rfl (t_fresh _) .nil cl_59 rfl (by rintro _ _ ⟨rfl, rfl⟩; all_goals (intro _ hw'; exact trivial)) ?_
          rintro _ _ ⟨rfl, rfl⟩
          refine XQ.pv (i := 6) (l' := #[true, true, true, true, true, true, true, false]) rfl (by kernel_rfl) rfl (V.indexArr rfl rfl ar_95 (by omega)) rfl rfl ?_
          refine XQ.storeAgg (i := 7) (l' := #[true, true, true, true, true, true, true, true]) rfl (by kernel_rfl) rfl rfl rfl .here (encT_fresh _ _ _ (by omega) (hA _ (by assumption))) ⟨rfl, rfl⟩ sz_94_23 (fun _ hw' => trivial) ?_
          refine XQ.done (by kernel_rfl) ?_
          refine XE.next ?_
          refine XC.keep [(7, _)] (Sub.cons rfl (Sub.nil _)) ?_
          refine XC.seq ?_
          refine XC.region ?_
          refine XO.v (V.move rfl) rfl ?_
          refine XO.v (V.assign rfl) rfl ?_
          refine XO.v (V.assign rfl) rfl ?_
          refine XO.nil ?_
          refine XE.next ?_
          refine XC.keep [(4, _), (5, _)] (Sub.cons rfl (Sub.cons rfl (Sub.nil _))) ?_
          refine XC.ret ?_
          refine XE.blockRet ?_
          refine XE.thenRet ?_
          refine XE.thenRet ?_
          refine XE.blockRet ?_
          refine XE.thenRet ?_
          refine XE.ret2 rfl rfl rfl (post_of (.cons .here .nil) rfl ?_)
          rw [SS.add_some (k := k) (by assumption) (by omega) (by omega) (by assumption) hk2]; exact ⟨rfl, rfl⟩
        · try simp only [decide_eq_true_eq, decide_eq_false_iff_not, Bool.not_eq_true', Bool.not_eq_false', Bool.not_eq_eq_eq_not, Bool.not_true, Bool.not_false, beq_iff_eq, bne_iff_ne, ne_eq, beq_eq_false_iff_ne, bne_eq_false_iff_eq, Int.not_lt, Int.not_le, gt_iff_lt, ge_iff_le, Bool.and_eq_true, Bool.or_eq_true, Bool.and_eq_false_iff, Bool.or_eq_false_iff, Decidable.not_not] at h4
          refine XC.skip ?_
          refine XE.blockNormal ?_
          refine XE.next ?_
          refine XC.keep [(0, _), (1, _), (20, _)] (Sub.cons rfl (Sub.cons rfl (Sub.cons rfl (Sub.nil _)))) ?_
          refine XC.region ?_
          refine XO.v (V.add rfl rfl _ (IntWalk.i64_in _ (by omega))) rfl ?_
          refine XO.v (V.move rfl) rfl ?_
          refine XO.nil ?_
          refine XE.again (k + 1) ?_ ?_ (Sub.cons rfl (Sub.cons rfl (Sub.cons rfl (Sub.nil _)))) (fun _ hw => XM.pick (.cons .here .nil) hw)
          · skip
            (first | omega | (simp; done) | (simp; omega))
          · skip
            refine ⟨by omega, fun j h1 h2 => ?_⟩
            by_cases hj : j = k
            · subst hj; assumption
            · exact hk2 j h1 (by omega)
      · skip
        refine XC.exit ?_
        refine XE.thenExit ?_
        refine XE.thenExit ?_
        refine XE.blockExit ?_
        refine XE.next ?_
        refine XC.keep [] (Sub.nil _) ?_
        refine XC.seq ?_
        refine XC.region ?_
        refine XO.v (V.makeIface rfl Try.underlying106 (by simp)) rfl ?_
        refine XO.v (V.assign rfl) rfl ?_
        refine XO.v (V.assign rfl) rfl ?_
        refine XO.nil ?_
        refine XE.next ?_
        refine XC.keep [(4, _), (5, _)] (Sub.cons rfl (Sub.cons rfl (Sub.nil _))) ?_
        refine XC.ret ?_
        refine XE.ret2 rfl rfl rfl (post_of (.cons .here .nil) rfl ?_)
        rw [SS.add_none (by assumption) (by omega) (fun j h1 h2 => hk2 j h1 (by omega))]; exact ⟨rfl, rfl⟩
  · skip
    have i0 := h1
    refine XO.v (V.assign rfl) rfl ?_
    refine XO.nil ?_
    refine XE.next ?_
    refine XC.keep [(0, _), (1, _), (6, _)] (Sub.cons rfl (Sub.cons rfl (Sub.cons rfl (Sub.nil _)))) ?_
    refine XC.seq ?_
    refine XC.seq ?_
    refine XC.region ?_
    refine XO.v (V.move rfl) rfl ?_
    refine XO.v (V.ifaceNil rfl Try.underlying33 rfl) rfl ?_
    refine XO.nil ?_
    refine XE.next ?_
    refine XC.keep [(0, _), (1, _), (6, _), (12, _)] (Sub.cons rfl (Sub.cons rfl (Sub.cons rfl (Sub.cons rfl (Sub.nil _))))) ?_
    refine XC.condT rfl rfl ?_
    refine XC.seq ?_
    refine XC.region ?_
    refine XO.v (V.move rfl) rfl ?_
    refine XO.v (V.assign rfl) rfl ?_
    refine XO.v (V.assign rfl) rfl ?_
    refine XO.nil ?_
    refine XE.next ?_
    refine XC.keep [(4, _), (5, _)] (Sub.cons rfl (Sub.cons rfl (Sub.nil _))) ?_
    refine XC.ret ?_
    refine XE.thenRet ?_
    refine XE.ret2 rfl rfl rfl (post_of (.cons .here .nil) rfl ?_)
    rw [SS.add_err (by assumption)]; exact ⟨by rw [errv_pos _ (by assumption)], rfl⟩
set_option maxRecDepth 10000 in
set_option maxHeartbeats 400000 in
theorem t_Drop (b o : Nat) (s : SS) (n : Int) : Spec Try.prog 16 [ptr b o 0, .int .i64 n]
    [.cells b o 158 (encT s)]
    (fun v H1 => v = errv 106 (s.drop n).1 ∧ H1 = [.cells b o 158 (encT (s.drop n).2)]) := by
  refine Spec.intro Try.func16 rfl rfl ?_
  intro W
  refine XC.seq ?_
  refine XC.region ?_
  refine XO.v (V.assign rfl) rfl ?_
  refine XO.nil ?_
  refine XE.next ?_
  refine XC.keep [(0, _), (1, _)] (Sub.cons rfl (Sub.cons rfl (Sub.nil _))) ?_
  refine XC.seq ?_
  refine XC.region ?_
  refine XO.v (V.move rfl) rfl ?_
  refine XO.v (V.move rfl) rfl ?_
  refine XO.call rfl (t_is _ _ _ _) (.cons .here .nil) cl_60 rfl ?_
  rintro _ _ (⟨h1, rfl, rfl⟩ | ⟨h1, rfl, rfl⟩)
  · skip
    obtain ⟨i0, i1, i2, i3⟩ := h1
    refine XO.v (V.assign rfl) rfl ?_
    refine XO.nil ?_
    refine XE.next ?_
    refine XC.keep [(0, _), (1, _), (5, _)] (Sub.cons rfl (Sub.cons rfl (Sub.cons rfl (Sub.nil _)))) ?_
    refine XC.seq ?_
    refine XC.seq ?_
    refine XC.region ?_
    refine XO.v (V.move rfl) rfl ?_
    refine XO.v (V.nilNil rfl Try.underlying33 rfl) rfl ?_
    refine XO.nil ?_
    refine XE.next ?_
    refine XC.keep [(0, _), (1, _), (5, _), (11, _)] (Sub.cons rfl (Sub.cons rfl (Sub.cons rfl (Sub.cons rfl (Sub.nil _))))) ?_
    refine XC.condF rfl rfl ?_
    refine XC.skip ?_
    refine XE.next ?_
    refine XC.keep [(0, _), (1, _)] (Sub.cons rfl (Sub.cons rfl (Sub.nil _))) ?_
    refine XC.seq ?_
    refine XC.seq ?_
    refine XC.region ?_
    refine XO.v (V.move rfl) rfl ?_
    refine XO.v (V.cmp rfl rfl rfl) rfl ?_
    refine XO.v (V.move rfl) rfl ?_
    refine XO.splitP (d := 15) rfl (fun h2 => ?_) (fun h2 => ?_)
    · skip
      refine XO.guardSkip rfl rfl rfl rfl rfl ?_
      refine XO.guardSkip rfl rfl rfl rfl rfl ?_
      refine XO.guardSkip rfl rfl rfl rfl rfl ?_
      refine XO.guardSkip rfl rfl rfl rfl rfl ?_
      refine XO.guardSkip rfl rfl rfl rfl rfl ?_
      refine XO.v (V.pick rfl rfl rfl rfl) rfl ?_
      refine XO.nil ?_
      refine XE.next ?_
      refine XC.keep [(0, _), (1, _), (21, _)] (Sub.cons rfl (Sub.cons rfl (Sub.cons rfl (Sub.nil _)))) ?_
      refine XC.condT rfl rfl ?_
      refine XC.seq ?_
      refine XC.region ?_
      refine XO.v (V.makeIface rfl Try.underlying106 (by simp)) rfl ?_
      refine XO.v (V.assign rfl) rfl ?_
      refine XO.nil ?_
      refine XE.next ?_
      refine XC.keep [(4, _)] (Sub.cons rfl (Sub.nil _)) ?_
      refine XC.ret ?_
      refine XE.thenRet ?_
      refine XE.ret1 rfl rfl (post_of (.cons .here .nil) rfl ?_)
      rw [SS.drop_busy (by assumption) (by omega)]; exact ⟨rfl, rfl⟩
    · skip
      refine XO.guardRun rfl rfl rfl ?_
      refine XO.v (V.move rfl) rfl ?_
      refine XO.guardRun rfl rfl rfl ?_
      refine XO.v (V.move rfl) rfl ?_
      refine XO.guardRun rfl rfl rfl ?_
      refine XO.call rfl (t_members _ _ _ _ (by omega) (by assumption)) (.cons .here .nil) cl_64 rfl ?_
      rintro _ _ ⟨pl, cl, rfl, rfl⟩
      refine XO.guardRun rfl rfl rfl ?_
      refine XO.v (V.lenSl rfl Try.underlying85) rfl ?_
      refine XO.guardRun rfl rfl rfl ?_
      refine XO.v (V.cmp rfl rfl rfl) rfl ?_
      refine XO.v (V.pick rfl rfl rfl rfl) rfl ?_
      refine XO.nil ?_
      refine XE.next ?_
      refine XC.keep [(0, _), (1, _), (21, _)] (Sub.cons rfl (Sub.cons rfl (Sub.cons rfl (Sub.nil _)))) ?_
      refine XC.condP rfl (fun h3 => ?_) (fun h3 => ?_)
      · skip
        refine XC.seq ?_
        refine XC.region ?_
        refine XO.v (V.makeIface rfl Try.underlying106 (by simp)) rfl ?_
        refine XO.v (V.assign rfl) rfl ?_
        refine XO.nil ?_
        refine XE.next ?_
        refine XC.keep [(4, _)] (Sub.cons rfl (Sub.nil _)) ?_
        refine XC.ret ?_
        refine XE.thenRet ?_
        refine XE.ret1 rfl rfl (post_of (.cons (.there .here) .nil) rfl ?_)
        rw [SS.drop_busy (by assumption) (by omega)]; exact ⟨rfl, rfl⟩
      · skip
        refine XC.skip ?_
        refine XE.next ?_
        refine XC.keep [(0, _), (1, _)] (Sub.cons rfl (Sub.cons rfl (Sub.nil _))) ?_
        refine XC.seq ?_
        refine XC.seq ?_
        refine XC.region ?_
        refine XO.v (V.move rfl) rfl ?_
        refine XO.nil ?_
        refine XE.next ?_
        refine XC.keep [(0, _), (1, _), (23, _)] (Sub.cons rfl (Sub.cons rfl (Sub.cons rfl (Sub.nil _)))) ?_
        refine XC.block ?_
        refine XC.loop (σ := Int) (fun k => (6 - k).toNat) (fun k => (0 ≤ k ∧ k ≤ 6) ∧ ∀ j : Int, 0 ≤ j → j < k → ¬ (s.here j = true ∧ s.par j = n)) (fun k => [(23, .int .i64 k), (0, ptr b o 0), (1, .int .i64 n)]) (fun k => XM W (foot [.cells b o 158 (encT s)]) [.cells b o 158 (encT s)]) (0) ?_ (Sub.cons rfl (Sub.cons rfl (Sub.cons rfl (Sub.nil _)))) (fun _ hw => XM.pick (.cons (.there .here) .nil) hw) ?_
        · skip
          exact ⟨by omega, fun j h1 h2 => by omega⟩
        intro k hk
        obtain ⟨hk, hk2⟩ := hk
        refine XC.seq ?_
        refine XC.region ?_
        refine XO.v (V.cmp rfl rfl rfl) rfl ?_
        refine XO.nil ?_
        refine XE.next ?_
        refine XC.keep [(0, _), (1, _), (23, _), (24, _)] (Sub.cons rfl (Sub.cons rfl (Sub.cons rfl (Sub.cons rfl (Sub.nil _))))) ?_
        refine XC.seq ?_
        refine XC.condP rfl (fun h4 => ?_) (fun h4 => ?_)
        · skip
          refine XC.skip ?_
          refine XE.next ?_
          refine XC.keep [(0, _), (1, _), (23, _)] (Sub.cons rfl (Sub.cons rfl (Sub.cons rfl (Sub.nil _)))) ?_
          refine XC.seq ?_
          refine XC.block ?_
          refine XC.seq ?_
          refine XC.region ?_
          refine XO.v (V.move rfl) rfl ?_
          refine XO.v (V.assign rfl) rfl ?_
          refine XO.nil ?_
          refine XE.next ?_
          refine XC.keep [(0, _), (1, _), (6, _), (23, _)] (Sub.cons rfl (Sub.cons rfl (Sub.cons rfl (Sub.cons rfl (Sub.nil _))))) ?_
          refine XC.seq ?_
          refine XC.region ?_
          refine XO.v (V.move rfl) rfl ?_
          refine XO.v (V.move rfl) rfl ?_
          refine XO.v (V.nilCheckP rfl) rfl ?_
          refine XO.v (V.fieldAddr rfl fo_98_0) rfl ?_
          refine XO.v (V.indexArr rfl rfl ar_95 (by omega)) rfl ?_
          refine XO.v (V.fieldAddr rfl fo_94_0) rfl ?_
          refine XO.v (V.load rfl (inXM .here) (encT.ld_s_I_here _ _ (by omega)) sc_4) rfl ?_
          refine XO.v (V.move rfl) rfl ?_
          refine XO.split (d := 33) rfl (fun h5 => ?_) (fun h5 => ?_)
          · try simp only [decide_eq_true_eq, decide_eq_false_iff_not, Bool.not_eq_true', Bool.not_eq_false', Bool.not_eq_eq_eq_not, Bool.not_true, Bool.not_false, beq_iff_eq, bne_iff_ne, ne_eq, beq_eq_false_iff_ne, bne_eq_false_iff_eq, Int.not_lt, Int.not_le, gt_iff_lt, ge_iff_le, Bool.and_eq_true, Bool.or_eq_true, Bool.and_eq_false_iff, Bool.or_eq_false_iff, Decidable.not_not] at h5
            refine XO.guardRun rfl rfl rfl ?_
            refine XO.v (V.move rfl) rfl ?_
            refine XO.guardRun rfl rfl rfl ?_
            refine XO.v (V.move rfl) rfl ?_
            refine XO.guardRun rfl rfl rfl ?_
            refine XO.v (V.nilCheckP rfl) rfl ?_
            refine XO.guardRun rfl rfl rfl ?_
            refine XO.v (V.fieldAddr rfl fo_98_0) rfl ?_
            refine XO.guardRun rfl rfl rfl ?_
            refine XO.v (V.indexArr rfl rfl ar_95 (by omega)) rfl ?_
            refine XO.guardRun rfl rfl rfl ?_
            refine XO.v (V.fieldAddr rfl fo_94_1) rfl ?_
            refine XO.guardRun rfl rfl rfl ?_
            refine XO.v (V.load rfl (inXM .here) (encT.ld_s_I_parent _ _ (by omega)) sc_3) rfl ?_
            refine XO.guardRun rfl rfl rfl ?_
            refine XO.v (V.move rfl) rfl ?_
            refine XO.guardRun rfl rfl rfl ?_
            refine XO.v (V.cmp rfl rfl rfl) rfl ?_
            refine XO.v (V.pick rfl rfl rfl rfl) rfl ?_
            refine XO.nil ?_
            refine XE.next ?_
            refine XC.keep [(0, _), (1, _), (23, _), (43, _)] (Sub.cons rfl (Sub.cons rfl (Sub.cons rfl (Sub.cons rfl (Sub.nil _))))) ?_
            refine XC.condP rfl (fun h6 => ?_) (fun h6 => ?_)
            · skip
              refine XC.seq ?_
              refine XC.region ?_
              refine XO.v (V.makeIface rfl Try.underlying106 (by simp)) rfl ?_
              refine XO.v (V.assign rfl) rfl ?_
              refine XO.nil ?_
              refine XE.next ?_
              refine XC.keep [(4, _)] (Sub.cons rfl (Sub.nil _)) ?_
              refine XC.ret ?_
              refine XE.blockRet ?_
              refine XE.thenRet ?_
              refine XE.thenRet ?_
              refine XE.blockRet ?_
              refine XE.thenRet ?_
              refine XE.ret1 rfl rfl (post_of (.cons .here .nil) rfl ?_)
              rw [SS.drop_kid (k := k) (by assumption) (by omega) (by omega) (by simp_all) (by simp_all) hk2]; exact ⟨rfl, rfl⟩
            · skip
              refine XC.skip ?_
              refine XE.blockNormal ?_
              refine XE.next ?_
              refine XC.keep [(0, _), (1, _), (23, _)] (Sub.cons rfl (Sub.cons rfl (Sub.cons rfl (Sub.nil _)))) ?_
              refine XC.region ?_
              refine XO.v (V.add rfl rfl _ (IntWalk.i64_in _ (by omega))) rfl ?_
              refine XO.v (V.move rfl) rfl ?_
              refine XO.nil ?_
              refine XE.again (k + 1) ?_ ?_ (Sub.cons rfl (Sub.cons rfl (Sub.cons rfl (Sub.nil _)))) (fun _ hw => XM.pick (.cons .here .nil) hw)
              · skip
                (first | omega | (simp; done) | (simp; omega))
              · skip
                refine ⟨by omega, fun j h1 h2 => ?_⟩
                by_cases hj : j = k
                · subst hj; rintro ⟨q1, q2⟩; simp_all
                · exact hk2 j h1 (by omega)
          · try simp only [decide_eq_true_eq, decide_eq_false_iff_not, Bool.not_eq_true', Bool.not_eq_false', Bool.not_eq_eq_eq_not, Bool.not_true, Bool.not_false, beq_iff_eq, bne_iff_ne, ne_eq, beq_eq_false_iff_ne, bne_eq_false_iff_eq, Int.not_lt, Int.not_le, gt_iff_lt, ge_iff_le, Bool.and_eq_true, Bool.or_eq_true, Bool.and_eq_false_iff, Bool.or_eq_false_iff, Decidable.not_not] at h5
            refine XO.guardSkip rfl rfl rfl rfl rfl ?_
            refine XO.guardSkip rfl rfl rfl rfl rfl ?_
            refine XO.guardSkip rfl rfl rfl rfl rfl ?_
            refine XO.guardSkip rfl rfl rfl rfl rfl ?_
            refine XO.guardSkip rfl rfl rfl rfl rfl ?_
            refine XO.guardSkip rfl rfl rfl rfl rfl ?_
            refine XO.guardSkip rfl rfl rfl rfl rfl ?_
            refine XO.guardSkip rfl rfl rfl rfl rfl ?_
            refine XO.guardSkip rfl rfl rfl rfl rfl ?_
            refine XO.v (V.pick rfl rfl rfl rfl) rfl ?_
            refine XO.nil ?_
            refine XE.next ?_
            refine XC.keep [(0, _), (1, _), (23, _), (43, _)] (Sub.cons rfl (Sub.cons rfl (Sub.cons rfl (Sub.cons rfl (Sub.nil _))))) ?_
            refine XC.condF rfl rfl ?_
            refine XC.skip ?_
            refine XE.blockNormal ?_
            refine XE.next ?_
            refine XC.keep [(0, _), (1, _), (23, _)] (Sub.cons rfl (Sub.cons rfl (Sub.cons rfl (Sub.nil _)))) ?_
            refine XC.region ?_
            refine XO.v (V.add rfl rfl _ (IntWalk.i64_in _ (by omega))) rfl ?_
            refine XO.v (V.move rfl) rfl ?_
            refine XO.nil ?_
            refine XE.again (k + 1) ?_ ?_ (Sub.cons rfl (Sub.cons rfl (Sub.cons rfl (Sub.nil _)))) (fun _ hw => XM.pick (.cons .here .nil) hw)
            · skip
              (first | omega | (simp; done) | (simp; omega))
            · skip
              refine ⟨by omega, fun j h1 h2 => ?_⟩
              by_cases hj : j = k
              · subst hj; rintro ⟨q1, q2⟩; simp_all
              · exact hk2 j h1 (by omega)
        · skip
          refine XC.exit ?_
          refine XE.thenExit ?_
          refine XE.thenExit ?_
          refine XE.blockExit ?_
          refine XE.next ?_
          refine XC.keep [(0, _), (1, _)] (Sub.cons rfl (Sub.cons rfl (Sub.nil _))) ?_
          refine XC.seq ?_
          refine XC.region ?_
          refine XO.v (V.move rfl) rfl ?_
          refine XO.v (V.move rfl) rfl ?_
          refine XO.v (V.build (vs := #[]) rfl (v := .agg spZero) (fun _ => by kernel_rfl)) rfl ?_
          refine XO.v (V.nilCheckP rfl) rfl ?_
          refine XO.v (V.fieldAddr rfl fo_98_0) rfl ?_
          refine XO.v (V.indexArr rfl rfl ar_95 (by omega)) rfl ?_
          refine XO.storeAgg rfl rfl .here (encT_clear _ _ (by omega)) ⟨rfl, rfl⟩ sz_94_23 ?_
          refine XO.nil ?_
          refine XE.next ?_
          refine XC.keep [] (Sub.nil _) ?_
          refine XC.seq ?_
          refine XC.region ?_
          refine XO.v (V.assign rfl) rfl ?_
          refine XO.nil ?_
          refine XE.next ?_
          refine XC.keep [(4, _)] (Sub.cons rfl (Sub.nil _)) ?_
          refine XC.ret ?_
          refine XE.ret1 rfl rfl (post_of (.cons .here .nil) rfl ?_)
          rw [SS.drop_ok (by assumption) (by omega) (fun j h1 h2 => hk2 j h1 (by omega))]; exact ⟨rfl, rfl⟩
  · skip
    have i0 := h1
    refine XO.v (V.assign rfl) rfl ?_
    refine XO.nil ?_
    refine XE.next ?_
    refine XC.keep [(0, _), (1, _), (5, _)] (Sub.cons rfl (Sub.cons rfl (Sub.cons rfl (Sub.nil _)))) ?_
    refine XC.seq ?_
    refine XC.seq ?_
    refine XC.region ?_
    refine XO.v (V.move rfl) rfl ?_
    refine XO.v (V.ifaceNil rfl Try.underlying33 rfl) rfl ?_
    refine XO.nil ?_
    refine XE.next ?_
    refine XC.keep [(0, _), (1, _), (5, _), (11, _)] (Sub.cons rfl (Sub.cons rfl (Sub.cons rfl (Sub.cons rfl (Sub.nil _))))) ?_
    refine XC.condT rfl rfl ?_
    refine XC.seq ?_
    refine XC.region ?_
    refine XO.v (V.move rfl) rfl ?_
    refine XO.v (V.assign rfl) rfl ?_
    refine XO.nil ?_
    refine XE.next ?_
    refine XC.keep [(4, _)] (Sub.cons rfl (Sub.nil _)) ?_
    refine XC.ret ?_
    refine XE.thenRet ?_
    refine XE.ret1 rfl rfl (post_of (.cons .here .nil) rfl ?_)
    rw [SS.drop_err (by assumption)]; exact ⟨by rw [errv_pos _ (by assumption)], rfl⟩
set_option maxRecDepth 10000 in
set_option maxHeartbeats 400000 in
theorem t_New  : Spec Try.prog 11 []
    []
    (fun v H1 => ∃ b, v = ptr b 0 0 ∧ H1 = [.cells b 0 158 (encT SS.init)]) := by
  refine Spec.intro Try.func11 rfl rfl ?_
  intro W
  refine XC.seq ?_
  refine XC.region ?_
  refine XO.v (V.assign rfl) rfl ?_
  refine XO.nil ?_
  refine XE.next ?_
  refine XC.keep [] (Sub.nil _) ?_
  refine XC.seq ?_
  refine XC.region ?_
  refine XO.v (V.build (vs := #[]) rfl (v := .agg tZero) (fun _ => by kernel_rfl)) rfl ?_
  refine XO.box (m := 158) (C := encT SS.zero) rfl rfl boxT_init rfl ?_
  intro bs
  refine XO.v (V.assign rfl) rfl ?_
  refine XO.nil ?_
  refine XE.next ?_
  refine XC.keep [(1, _)] (Sub.cons rfl (Sub.nil _)) ?_
  refine XC.seq ?_
  refine XC.regionQ mixed (f := 6) (l := #[false, false, false, false, false, false]) rfl rfl XM.drawn' ?_
  refine XQ.pv (i := 0) (l' := #[true, false, false, false, false, false]) rfl (by kernel_rfl) rfl (V.move rfl) rfl rfl ?_
  refine XQ.pv (i := 2) (l' := #[true, false, true, false, false, false]) rfl (by kernel_rfl) rfl (V.nilCheckP rfl) rfl rfl ?_
  refine XQ.pv (i := 3) (l' := #[true, false, true, true, false, false]) rfl (by kernel_rfl) rfl (V.fieldAddr rfl fo_98_0) rfl rfl ?_
  refine XQ.call (i := 1) (l' := #[true, true, true, true, false, false]) rfl (by kernel_rfl) rfl rfl (t_fresh _) .nil cl_59 rfl (by rintro _ _ ⟨rfl, rfl⟩; all_goals (intro _ hw'; exact trivial)) ?_
  rintro _ _ ⟨rfl, rfl⟩
  refine XQ.pv (i := 4) (l' := #[true, true, true, true, true, false]) rfl (by kernel_rfl) rfl (V.indexArr rfl rfl ar_95 (by omega)) rfl rfl ?_
  refine XQ.storeAgg (i := 5) (l' := #[true, true, true, true, true, true]) rfl (by kernel_rfl) rfl rfl rfl .here (encT_fresh _ _ _ (by omega) (fun _ => rfl)) ⟨rfl, rfl⟩ sz_94_23 (fun _ hw' => trivial) ?_
  refine XQ.done (by kernel_rfl) ?_
  refine XE.next ?_
  refine XC.keep [(1, _)] (Sub.cons rfl (Sub.nil _)) ?_
  refine XC.seq ?_
  refine XC.seq ?_
  refine XC.region ?_
  refine XO.v (V.move rfl) rfl ?_
  refine XO.nil ?_
  refine XE.next ?_
  refine XC.keep [(1, _), (10, _)] (Sub.cons rfl (Sub.cons rfl (Sub.nil _))) ?_
  refine XC.block ?_
  refine XC.loop (σ := Int) (fun k => (20 - k).toNat) (fun k => 0 ≤ k ∧ k ≤ 20) (fun k => [(10, .int .i64 k), (1, ptr bs 0 0)]) (fun k => XM W (foot []) [.cells bs 0 158 (encT { SS.root with loc := frf k })]) (0) ?_ (Sub.cons rfl (Sub.cons rfl (Sub.nil _))) (fun _ hw => by rw [frf_zero]; exact XM.pick (.cons .here .nil) hw) ?_
  · skip
    omega
  intro k hk
  refine XC.seq ?_
  refine XC.region ?_
  refine XO.v (V.cmp rfl rfl rfl) rfl ?_
  refine XO.nil ?_
  refine XE.next ?_
  refine XC.keep [(1, _), (10, _), (11, _)] (Sub.cons rfl (Sub.cons rfl (Sub.cons rfl (Sub.nil _)))) ?_
  refine XC.seq ?_
  refine XC.condP rfl (fun h1 => ?_) (fun h1 => ?_)
  · skip
    refine XC.skip ?_
    refine XE.next ?_
    refine XC.keep [(1, _), (10, _)] (Sub.cons rfl (Sub.cons rfl (Sub.nil _))) ?_
    refine XC.seq ?_
    refine XC.block ?_
    refine XC.seq ?_
    refine XC.region ?_
    refine XO.v (V.move rfl) rfl ?_
    refine XO.v (V.assign rfl) rfl ?_
    refine XO.nil ?_
    refine XE.next ?_
    refine XC.keep [(1, _), (2, _), (10, _)] (Sub.cons rfl (Sub.cons rfl (Sub.cons rfl (Sub.nil _)))) ?_
    refine XC.region ?_
    refine XO.v (V.move rfl) rfl ?_
    refine XO.v (V.move rfl) rfl ?_
    refine XO.v (V.nilCheckP rfl) rfl ?_
    refine XO.v (V.fieldAddr rfl fo_98_1) rfl ?_
    refine XO.v (V.indexArr rfl rfl ar_96 (by omega)) rfl ?_
    refine XO.store rfl rfl .here (encT.st_of_I _ _ (by omega) _) rfl sz_3_1 ?_
    refine XO.nil ?_
    refine XE.blockNormal ?_
    refine XE.next ?_
    refine XC.keep [(1, _), (10, _)] (Sub.cons rfl (Sub.cons rfl (Sub.nil _))) ?_
    refine XC.region ?_
    refine XO.v (V.add rfl rfl _ (IntWalk.i64_in _ (by omega))) rfl ?_
    refine XO.v (V.move rfl) rfl ?_
    refine XO.nil ?_
    refine XE.again (k + 1) ?_ ?_ (Sub.cons rfl (Sub.cons rfl (Sub.nil _))) (fun _ hw => by rw [← frf_next k (by omega)]; exact XM.pick (.cons .here .nil) hw)
    · skip
      (first | omega | (simp; done) | (simp; omega))
    · skip
      (first | omega | (simp; done) | (simp; omega))
  · skip
    refine XC.exit ?_
    refine XE.thenExit ?_
    refine XE.thenExit ?_
    refine XE.blockExit ?_
    refine XE.next ?_
    refine XC.keep [(1, _)] (Sub.cons rfl (Sub.nil _)) ?_
    refine XC.seq ?_
    refine XC.region ?_
    refine XO.v (V.move rfl) rfl ?_
    refine XO.v (V.assign rfl) rfl ?_
    refine XO.nil ?_
    refine XE.next ?_
    refine XC.keep [(0, _)] (Sub.cons rfl (Sub.nil _)) ?_
    refine XC.ret ?_
    refine XE.ret1 rfl rfl (post_of (.cons .here .nil) rfl ?_)
    obtain rfl : k = 20 := by omega
    exact ⟨_, rfl, rfl⟩
set_option maxRecDepth 10000 in
set_option maxHeartbeats 1000000 in
theorem t_Enter (b o : Nat) (s : SS) (dep : Int → Nat) (hD : s.Deep dep) (n p : Int) : Spec Try.prog 18 [ptr b o 0, .int .i64 n, .int .i64 p]
    [.cells b o 158 (encT s)]
    (fun v H1 => v = .tuple #[.int .i64 (s.enter dep n p).1, errv 106 (s.enter dep n p).2.1] ∧ H1 = [.cells b o 158 (encT (s.enter dep n p).2.2)]) := by
  refine Spec.intro Try.func18 rfl rfl ?_
  intro W
  refine XC.seq ?_
  refine XC.region ?_
  refine XO.v (V.assign rfl) rfl ?_
  refine XO.v (V.assign rfl) rfl ?_
  refine XO.nil ?_
  refine XE.next ?_
  refine XC.keep [(0, _), (1, _), (2, _)] (Sub.cons rfl (Sub.cons rfl (Sub.cons rfl (Sub.nil _)))) ?_
  refine XC.seq ?_
  refine XC.region ?_
  refine XO.v (V.move rfl) rfl ?_
  refine XO.v (V.move rfl) rfl ?_
  refine XO.call rfl (t_is _ _ _ _) (.cons .here .nil) cl_60 rfl ?_
  rintro _ _ (⟨h1, rfl, rfl⟩ | ⟨h1, rfl, rfl⟩)
  · skip
    obtain ⟨i0, i1, i2, i3⟩ := h1
    refine XO.v (V.assign rfl) rfl ?_
    refine XO.nil ?_
    refine XE.next ?_
    refine XC.keep [(0, _), (1, _), (2, _), (8, _)] (Sub.cons rfl (Sub.cons rfl (Sub.cons rfl (Sub.cons rfl (Sub.nil _))))) ?_
    refine XC.seq ?_
    refine XC.seq ?_
    refine XC.region ?_
    refine XO.v (V.move rfl) rfl ?_
    refine XO.v (V.nilNil rfl Try.underlying33 rfl) rfl ?_
    refine XO.nil ?_
    refine XE.next ?_
    refine XC.keep [(0, _), (1, _), (2, _), (8, _), (16, _)] (Sub.cons rfl (Sub.cons rfl (Sub.cons rfl (Sub.cons rfl (Sub.cons rfl (Sub.nil _)))))) ?_
    refine XC.condF rfl rfl ?_
    refine XC.skip ?_
    refine XE.next ?_
    refine XC.keep [(0, _), (1, _), (2, _)] (Sub.cons rfl (Sub.cons rfl (Sub.cons rfl (Sub.nil _)))) ?_
    refine XC.seq ?_
    refine XC.seq ?_
    refine XC.region ?_
    refine XO.v (V.move rfl) rfl ?_
    refine XO.v (V.cmp rfl rfl rfl) rfl ?_
    refine XO.v (V.move rfl) rfl ?_
    refine XO.splitP (d := 20) rfl (fun h2 => ?_) (fun h2 => ?_)
    · skip
      refine XO.guardSkip rfl rfl rfl rfl rfl ?_
      refine XO.guardSkip rfl rfl rfl rfl rfl ?_
      refine XO.v (V.pick rfl rfl rfl rfl) rfl ?_
      refine XO.nil ?_
      refine XE.next ?_
      refine XC.keep [(0, _), (1, _), (2, _), (23, _)] (Sub.cons rfl (Sub.cons rfl (Sub.cons rfl (Sub.cons rfl (Sub.nil _))))) ?_
      refine XC.condT rfl rfl ?_
      refine XC.seq ?_
      refine XC.region ?_
      refine XO.v (V.makeIface rfl Try.underlying106 (by simp)) rfl ?_
      refine XO.v (V.assign rfl) rfl ?_
      refine XO.v (V.assign rfl) rfl ?_
      refine XO.nil ?_
      refine XE.next ?_
      refine XC.keep [(6, _), (7, _)] (Sub.cons rfl (Sub.cons rfl (Sub.nil _))) ?_
      refine XC.ret ?_
      refine XE.thenRet ?_
      refine XE.ret2 rfl rfl rfl (post_of (.cons .here .nil) rfl ?_)
      rw [SS.enter_bound (by assumption) (by omega)]; exact ⟨rfl, rfl⟩
    · skip
      refine XO.guardRun rfl rfl rfl ?_
      refine XO.v (V.move rfl) rfl ?_
      refine XO.guardRun rfl rfl rfl ?_
      refine XO.v (V.cmp rfl rfl rfl) rfl ?_
      refine XO.v (V.pick rfl rfl rfl rfl) rfl ?_
      refine XO.nil ?_
      refine XE.next ?_
      refine XC.keep [(0, _), (1, _), (2, _), (23, _)] (Sub.cons rfl (Sub.cons rfl (Sub.cons rfl (Sub.cons rfl (Sub.nil _))))) ?_
      refine XC.condP rfl (fun h3 => ?_) (fun h3 => ?_)
      · skip
        refine XC.seq ?_
        refine XC.region ?_
        refine XO.v (V.makeIface rfl Try.underlying106 (by simp)) rfl ?_
        refine XO.v (V.assign rfl) rfl ?_
        refine XO.v (V.assign rfl) rfl ?_
        refine XO.nil ?_
        refine XE.next ?_
        refine XC.keep [(6, _), (7, _)] (Sub.cons rfl (Sub.cons rfl (Sub.nil _))) ?_
        refine XC.ret ?_
        refine XE.thenRet ?_
        refine XE.ret2 rfl rfl rfl (post_of (.cons .here .nil) rfl ?_)
        rw [SS.enter_bound (by assumption) (by omega)]; exact ⟨rfl, rfl⟩
      · skip
        refine XC.skip ?_
        refine XE.next ?_
        refine XC.keep [(0, _), (1, _), (2, _)] (Sub.cons rfl (Sub.cons rfl (Sub.cons rfl (Sub.nil _)))) ?_
        refine XC.seq ?_
        refine XC.seq ?_
        refine XC.region ?_
        refine XO.v (V.move rfl) rfl ?_
        refine XO.v (V.move rfl) rfl ?_
        refine XO.v (V.nilCheckP rfl) rfl ?_
        refine XO.v (V.fieldAddr rfl fo_98_1) rfl ?_
        refine XO.v (V.indexArr rfl rfl ar_96 (by omega)) rfl ?_
        refine XO.v (V.load rfl (inXM .here) (encT.ld_of_I _ _ (by omega)) sc_3) rfl ?_
        refine XO.v (V.cmp rfl rfl rfl) rfl ?_
        refine XO.nil ?_
        refine XE.next ?_
        refine XC.keep [(0, _), (1, _), (2, _), (31, _)] (Sub.cons rfl (Sub.cons rfl (Sub.cons rfl (Sub.cons rfl (Sub.nil _))))) ?_
        refine XC.condP rfl (fun h4 => ?_) (fun h4 => ?_)
        · skip
          refine XC.seq ?_
          refine XC.region ?_
          refine XO.v (V.makeIface rfl Try.underlying106 (by simp)) rfl ?_
          refine XO.v (V.assign rfl) rfl ?_
          refine XO.v (V.assign rfl) rfl ?_
          refine XO.nil ?_
          refine XE.next ?_
          refine XC.keep [(6, _), (7, _)] (Sub.cons rfl (Sub.cons rfl (Sub.nil _))) ?_
          refine XC.ret ?_
          refine XE.thenRet ?_
          refine XE.ret2 rfl rfl rfl (post_of (.cons .here .nil) rfl ?_)
          rw [SS.enter_exist (by assumption) (by omega) (by omega)]; exact ⟨rfl, rfl⟩
        · skip
          refine XC.skip ?_
          refine XE.next ?_
          refine XC.keep [(0, _), (1, _), (2, _)] (Sub.cons rfl (Sub.cons rfl (Sub.cons rfl (Sub.nil _)))) ?_
          refine XC.seq ?_
          refine XC.region ?_
          refine XO.v (V.move rfl) rfl ?_
          refine XO.v (V.move rfl) rfl ?_
          refine XO.v (V.move rfl) rfl ?_
          refine XO.v (V.nilCheckP rfl) rfl ?_
          refine XO.v (V.fieldAddr rfl fo_98_1) rfl ?_
          refine XO.v (V.indexArr rfl rfl ar_96 (by omega)) rfl ?_
          refine XO.store rfl rfl .here (encT.st_of_I _ _ (by omega) _) rfl sz_3_1 ?_
          refine XO.nil ?_
          refine XE.next ?_
          refine XC.keep [(0, _), (1, _), (2, _)] (Sub.cons rfl (Sub.cons rfl (Sub.cons rfl (Sub.nil _)))) ?_
          refine XC.seq ?_
          refine XC.seq ?_
          refine XC.region ?_
          have hD1 : ({ s with loc := fset s.loc p n } : SS).Deep dep := ⟨hD.d⟩
          have hay := ({ s with loc := fset s.loc p n } : SS).way_len dep n
          have hdn := (hD.d n i1 i2 i3).2.1
          refine XO.v (V.move rfl) rfl ?_
          refine XO.v (V.move rfl) rfl ?_
          refine XO.call rfl (t_up _ _ ({ s with loc := fset s.loc p n } : SS) dep hD1 n ⟨i1, i2, i3⟩) (.cons .here .nil) cl_61 rfl ?_
          rintro _ _ ⟨pl, cl, rfl, rfl⟩
          refine XO.v (V.lenSl rfl Try.underlying85) rfl ?_
          refine XO.v (V.move rfl) rfl ?_
          refine XO.nil ?_
          refine XE.next ?_
          refine XC.keep [(0, _), (1, _), (2, _), (41, _), (42, _), (43, _)] (Sub.cons rfl (Sub.cons rfl (Sub.cons rfl (Sub.cons rfl (Sub.cons rfl (Sub.cons rfl (Sub.nil _))))))) ?_
          refine XC.block ?_
          refine XC.loop (σ := Int × (Int → Int → Int)) (fun x => ((({ s with loc := fset s.loc p n } : SS).way dep n).length - x.1).toNat) (fun x => (0 ≤ x.1 ∧ x.1 ≤ (({ s with loc := fset s.loc p n } : SS).way dep n).length) ∧ enterL x.2 p ((({ s with loc := fset s.loc p n } : SS).way dep n).drop x.1.toNat) = enterL s.who p (({ s with loc := fset s.loc p n } : SS).way dep n)) (fun x => [(43, .int .i64 x.1), (0, ptr b o 0), (1, .int .i64 n), (2, .int .i64 p), (41, .slice pl (({ s with loc := fset s.loc p n } : SS).way dep n).length cl), (42, .int .i64 (({ s with loc := fset s.loc p n } : SS).way dep n).length)]) (fun x => XM W (foot [.cells b o 158 (encT s)]) [irow pl cl 3 (({ s with loc := fset s.loc p n } : SS).way dep n), .cells b o 158 (encT { s with loc := fset s.loc p n, who := x.2 })]) ((0, s.who)) ?_ (Sub.cons rfl (Sub.cons rfl (Sub.cons rfl (Sub.cons rfl (Sub.cons rfl (Sub.cons rfl (Sub.nil _))))))) (fun _ hw => XM.pick (.cons .here (.cons .here .nil)) hw) ?_
          · skip
            exact ⟨by omega, rfl⟩
          intro x hx
          obtain ⟨hx, hw⟩ := hx
          refine XC.seq ?_
          refine XC.region ?_
          refine XO.v (V.cmp rfl rfl rfl) rfl ?_
          refine XO.nil ?_
          refine XE.next ?_
          refine XC.keep [(0, _), (1, _), (2, _), (41, _), (42, _), (43, _), (44, _)] (Sub.cons rfl (Sub.cons rfl (Sub.cons rfl (Sub.cons rfl (Sub.cons rfl (Sub.cons rfl (Sub.cons rfl (Sub.nil _)))))))) ?_
          refine XC.seq ?_
          refine XC.condP rfl (fun h5 => ?_) (fun h5 => ?_)
          · skip
            obtain ⟨a0, a1, a2⟩ := SS.way_at hD1 (n := n) ⟨i1, i2, i3⟩ (z := x.1) ⟨hx.1, by omega⟩
            refine XC.skip ?_
            refine XE.next ?_
            refine XC.keep [(0, _), (1, _), (2, _), (41, _), (42, _), (43, _)] (Sub.cons rfl (Sub.cons rfl (Sub.cons rfl (Sub.cons rfl (Sub.cons rfl (Sub.cons rfl (Sub.nil _))))))) ?_
            refine XC.seq ?_
            refine XC.block ?_
            refine XC.seq ?_
            refine XC.openRow .here (by omega) ?_
            intro gA h6
            subst h6
            refine XC.region ?_
            refine XO.v (V.indexSl rfl rfl sl_85 (by omega)) rfl ?_
            refine XO.v (V.loadRow rfl (inXM .here) (ints_at (by omega)) sc_3) rfl ?_
            refine XO.v (V.assign rfl) rfl ?_
            refine XO.nil ?_
            refine XE.next ?_
            refine XC.keep [(0, _), (1, _), (2, _), (10, _), (41, _), (42, _), (43, _)] (Sub.cons rfl (Sub.cons rfl (Sub.cons rfl (Sub.cons rfl (Sub.cons rfl (Sub.cons rfl (Sub.cons rfl (Sub.nil _)))))))) ?_
            refine XC.seq ?_
            refine XC.region ?_
            refine XO.v (V.assign rfl) rfl ?_
            refine XO.nil ?_
            refine XE.next ?_
            refine XC.keep [(0, _), (1, _), (2, _), (10, _), (11, _), (41, _), (42, _), (43, _)] (Sub.cons rfl (Sub.cons rfl (Sub.cons rfl (Sub.cons rfl (Sub.cons rfl (Sub.cons rfl (Sub.cons rfl (Sub.cons rfl (Sub.nil _))))))))) ?_
            refine XC.block ?_
            refine XC.loop (σ := Int) (fun k => (21 - k).toNat) (fun k => (1 ≤ k ∧ k ≤ 21) ∧ ∀ j : Int, 1 ≤ j → j < k → ¬ x.2 (at0 (({ s with loc := fset s.loc p n } : SS).way dep n) x.1) j < 0) (fun k => [(11, .int .i64 k), (0, ptr b o 0), (1, .int .i64 n), (2, .int .i64 p), (10, .int .i64 (at0 (({ s with loc := fset s.loc p n } : SS).way dep n) x.1)), (41, .slice (some ⟨gA, 0, none⟩) (({ s with loc := fset s.loc p n } : SS).way dep n).length cl), (42, .int .i64 (({ s with loc := fset s.loc p n } : SS).way dep n).length), (43, .int .i64 x.1)]) (fun k => XM W (foot [.cells b o 158 (encT s)]) [irow (some ⟨gA, 0, none⟩) cl 3 (({ s with loc := fset s.loc p n } : SS).way dep n), .cells b o 158 (encT { s with loc := fset s.loc p n, who := x.2 })]) (1) ?_ (Sub.cons rfl (Sub.cons rfl (Sub.cons rfl (Sub.cons rfl (Sub.cons rfl (Sub.cons rfl (Sub.cons rfl (Sub.cons rfl (Sub.nil _))))))))) (fun _ hw => XM.pick (.cons .here (.cons .here .nil)) hw) ?_
            · skip
              exact ⟨by omega, fun j h1 h2 => by omega⟩
            intro k hk
            obtain ⟨hk, hk2⟩ := hk
            refine XC.seq ?_
            refine XC.seq ?_
            refine XC.region ?_
            refine XO.v (V.move rfl) rfl ?_
            refine XO.v (V.cmp rfl rfl rfl) rfl ?_
            refine XO.nil ?_
            refine XE.next ?_
            refine XC.keep [(0, _), (1, _), (2, _), (10, _), (11, _), (41, _), (42, _), (43, _), (48, _)] (Sub.cons rfl (Sub.cons rfl (Sub.cons rfl (Sub.cons rfl (Sub.cons rfl (Sub.cons rfl (Sub.cons rfl (Sub.cons rfl (Sub.cons rfl (Sub.nil _)))))))))) ?_
            refine XC.condP rfl (fun h7 => ?_) (fun h7 => ?_)
            · skip
              refine XC.skip ?_
              refine XE.next ?_
              refine XC.keep [(0, _), (1, _), (2, _), (10, _), (11, _), (41, _), (42, _), (43, _)] (Sub.cons rfl (Sub.cons rfl (Sub.cons rfl (Sub.cons rfl (Sub.cons rfl (Sub.cons rfl (Sub.cons rfl (Sub.cons rfl (Sub.nil _))))))))) ?_
              refine XC.seq ?_
              refine XC.block ?_
              refine XC.seq ?_
              refine XC.region ?_
              refine XO.v (V.move rfl) rfl ?_
              refine XO.v (V.move rfl) rfl ?_
              refine XO.v (V.move rfl) rfl ?_
              refine XO.v (V.nilCheckP rfl) rfl ?_
              refine XO.v (V.fieldAddr rfl fo_98_0) rfl ?_
              refine XO.v (V.indexArr rfl rfl ar_95 (by omega)) rfl ?_
              refine XO.v (V.fieldAddr rfl fo_94_2) rfl ?_
              refine XO.v (V.indexArr rfl rfl ar_92 (by omega)) rfl ?_
              refine XO.v (V.load rfl (inXM (.there .here)) (encT.ldc_s_I_who_I _ _ _ (by omega) (by omega) (by first | assumption | (simp_all; done))) sc_3) rfl ?_
              refine XO.v (V.cmp rfl rfl rfl) rfl ?_
              refine XO.nil ?_
              refine XE.next ?_
              refine XC.keep [(0, _), (1, _), (2, _), (10, _), (11, _), (41, _), (42, _), (43, _), (60, _)] (Sub.cons rfl (Sub.cons rfl (Sub.cons rfl (Sub.cons rfl (Sub.cons rfl (Sub.cons rfl (Sub.cons rfl (Sub.cons rfl (Sub.cons rfl (Sub.nil _)))))))))) ?_
              refine XC.condP rfl (fun h8 => ?_) (fun h8 => ?_)
              · skip
                have hlt : x.2 (at0 (({ s with loc := fset s.loc p n } : SS).way dep n) x.1) k < 0 := h8
                refine XC.seq ?_
                refine XC.region ?_
                refine XO.v (V.move rfl) rfl ?_
                refine XO.v (V.move rfl) rfl ?_
                refine XO.v (V.move rfl) rfl ?_
                refine XO.v (V.move rfl) rfl ?_
                refine XO.v (V.nilCheckP rfl) rfl ?_
                refine XO.v (V.fieldAddr rfl fo_98_0) rfl ?_
                refine XO.v (V.indexArr rfl rfl ar_95 (by omega)) rfl ?_
                refine XO.v (V.fieldAddr rfl fo_94_2) rfl ?_
                refine XO.v (V.indexArr rfl rfl ar_92 (by omega)) rfl ?_
                refine XO.store rfl rfl (.there .here) (encT.st_s_I_who_I _ _ _ (by omega) (by omega) (by first | assumption | (simp_all; done)) _) rfl sz_3_1 ?_
                refine XO.nil ?_
                refine XE.next ?_
                refine XC.keep [(0, _), (1, _), (2, _), (41, _), (42, _), (43, _)] (Sub.cons rfl (Sub.cons rfl (Sub.cons rfl (Sub.cons rfl (Sub.cons rfl (Sub.cons rfl (Sub.nil _))))))) ?_
                refine XC.exit ?_
                refine XE.blockOther rfl ?_
                refine XE.thenExit ?_
                refine XE.thenExit ?_
                refine XE.blockExit ?_
                refine XE.blockNormal ?_
                refine XE.next ?_
                refine XC.keep [(0, _), (1, _), (2, _), (41, _), (42, _), (43, _)] (Sub.cons rfl (Sub.cons rfl (Sub.cons rfl (Sub.cons rfl (Sub.cons rfl (Sub.cons rfl (Sub.nil _))))))) ?_
                refine XC.region ?_
                refine XO.v (V.add rfl rfl _ (IntWalk.i64_in _ (by omega))) rfl ?_
                refine XO.v (V.move rfl) rfl ?_
                refine XO.nil ?_
                refine XE.again ((x.1 + 1, fset2 x.2 (at0 (({ s with loc := fset s.loc p n } : SS).way dep n) x.1) k p)) ?_ ?_ (Sub.cons rfl (Sub.cons rfl (Sub.cons rfl (Sub.cons rfl (Sub.cons rfl (Sub.cons rfl (Sub.nil _))))))) (fun _ hw => XM.pick (.cons .here (.cons .here .nil)) hw)
                · skip
                  (first | omega | (simp; done) | (simp; omega))
                · skip
                  refine ⟨by simp; omega, ?_⟩
                  rw [← hw, drop_at0 ⟨hx.1, by omega⟩, enterL, put1_some ⟨by omega, by omega⟩ hlt (fun j h1 h2 => hk2 j h1 h2)]
              · skip
                refine XC.skip ?_
                refine XE.blockNormal ?_
                refine XE.next ?_
                refine XC.keep [(0, _), (1, _), (2, _), (10, _), (11, _), (41, _), (42, _), (43, _)] (Sub.cons rfl (Sub.cons rfl (Sub.cons rfl (Sub.cons rfl (Sub.cons rfl (Sub.cons rfl (Sub.cons rfl (Sub.cons rfl (Sub.nil _))))))))) ?_
                refine XC.region ?_
                refine XO.v (V.move rfl) rfl ?_
                refine XO.v (V.add rfl rfl _ (IntWalk.i64_in _ (by omega))) rfl ?_
                refine XO.v (V.assign rfl) rfl ?_
                refine XO.nil ?_
                refine XE.again (k + 1) ?_ ?_ (Sub.cons rfl (Sub.cons rfl (Sub.cons rfl (Sub.cons rfl (Sub.cons rfl (Sub.cons rfl (Sub.cons rfl (Sub.cons rfl (Sub.nil _))))))))) (fun _ hw => XM.pick (.cons .here (.cons .here .nil)) hw)
                · skip
                  (first | omega | (simp; done) | (simp; omega))
                · skip
                  refine ⟨by omega, fun j h1 h2 => ?_⟩
                  by_cases hj : j = k
                  · subst hj; assumption
                  · exact hk2 j h1 (by omega)
            · skip
              refine XC.exit ?_
              refine XE.thenExit ?_
              refine XE.thenExit ?_
              refine XE.blockExit ?_
              refine XE.blockNormal ?_
              refine XE.next ?_
              refine XC.keep [(0, _), (1, _), (2, _), (41, _), (42, _), (43, _)] (Sub.cons rfl (Sub.cons rfl (Sub.cons rfl (Sub.cons rfl (Sub.cons rfl (Sub.cons rfl (Sub.nil _))))))) ?_
              refine XC.region ?_
              refine XO.v (V.add rfl rfl _ (IntWalk.i64_in _ (by omega))) rfl ?_
              refine XO.v (V.move rfl) rfl ?_
              refine XO.nil ?_
              refine XE.again ((x.1 + 1, x.2)) ?_ ?_ (Sub.cons rfl (Sub.cons rfl (Sub.cons rfl (Sub.cons rfl (Sub.cons rfl (Sub.cons rfl (Sub.nil _))))))) (fun _ hw => XM.pick (.cons .here (.cons .here .nil)) hw)
              · skip
                (first | omega | (simp; done) | (simp; omega))
              · skip
                refine ⟨by simp; omega, ?_⟩
                rw [← hw, drop_at0 ⟨hx.1, by omega⟩, enterL, put1_none (fun j h1 h2 => hk2 j h1 (by omega))]
          · skip
            refine XC.exit ?_
            refine XE.thenExit ?_
            refine XE.thenExit ?_
            refine XE.blockExit ?_
            refine XE.next ?_
            refine XC.keep [(0, _), (1, _), (2, _)] (Sub.cons rfl (Sub.cons rfl (Sub.cons rfl (Sub.nil _)))) ?_
            refine XC.seq ?_
            refine XC.region ?_
            refine XO.v (V.move rfl) rfl ?_
            refine XO.v (V.move rfl) rfl ?_
            refine XO.v (V.move rfl) rfl ?_
            refine XO.call rfl (t_Pid _ _ _ _ _) (.cons (.there .here) .nil) cl_66 rfl ?_
            rintro _ _ ⟨rfl, rfl⟩
            refine XO.v (V.extract rfl rfl) rfl ?_
            refine XO.v (V.extract rfl rfl) rfl ?_
            refine XO.v (V.assign rfl) rfl ?_
            refine XO.v (V.assign rfl) rfl ?_
            refine XO.nil ?_
            refine XE.next ?_
            refine XC.keep [(6, _), (7, _)] (Sub.cons rfl (Sub.cons rfl (Sub.nil _))) ?_
            refine XC.ret ?_
            refine XE.ret2 rfl rfl rfl (post_of (.cons .here .nil) rfl ?_)
            have hxe : x.1 = (({ s with loc := fset s.loc p n } : SS).way dep n).length := by omega
            have he : x.2 = enterL s.who p (s.way dep n) := by
              rw [hxe] at hw
              simp at hw
              exact (show x.2 = enterL x.2 p [] from rfl).trans (hw.trans (congrArg (enterL s.who p) (SS.wayF_congr (s := s) (s' := { s with loc := fset s.loc p n }) rfl _ _)))
            rw [SS.enter_ok (by assumption) (by omega) (by omega)]
            unfold SS.entered
            rw [← he]
            exact ⟨rfl, rfl⟩
  · skip
    have i0 := h1
    refine XO.v (V.assign rfl) rfl ?_
    refine XO.nil ?_
    refine XE.next ?_
    refine XC.keep [(0, _), (1, _), (2, _), (8, _)] (Sub.cons rfl (Sub.cons rfl (Sub.cons rfl (Sub.cons rfl (Sub.nil _))))) ?_
    refine XC.seq ?_
    refine XC.seq ?_
    refine XC.region ?_
    refine XO.v (V.move rfl) rfl ?_
    refine XO.v (V.ifaceNil rfl Try.underlying33 rfl) rfl ?_
    refine XO.nil ?_
    refine XE.next ?_
    refine XC.keep [(0, _), (1, _), (2, _), (8, _), (16, _)] (Sub.cons rfl (Sub.cons rfl (Sub.cons rfl (Sub.cons rfl (Sub.cons rfl (Sub.nil _)))))) ?_
    refine XC.condT rfl rfl ?_
    refine XC.seq ?_
    refine XC.region ?_
    refine XO.v (V.move rfl) rfl ?_
    refine XO.v (V.assign rfl) rfl ?_
    refine XO.v (V.assign rfl) rfl ?_
    refine XO.nil ?_
    refine XE.next ?_
    refine XC.keep [(6, _), (7, _)] (Sub.cons rfl (Sub.cons rfl (Sub.nil _))) ?_
    refine XC.ret ?_
    refine XE.thenRet ?_
    refine XE.ret2 rfl rfl rfl (post_of (.cons .here .nil) rfl ?_)
    rw [SS.enter_err (by assumption)]; exact ⟨by rw [errv_pos _ (by assumption)], rfl⟩
set_option maxRecDepth 10000 in
set_option maxHeartbeats 1000000 in
theorem t_Leave (b o : Nat) (s : SS) (dep : Int → Nat) (hD : s.Deep dep) (p : Int) (hl : 0 ≤ p → p < 20 → 0 ≤ s.loc p → s.loc p < 6 ∧ s.here (s.loc p) = true) (hW : 0 ≤ p → ∀ n q, s.who n q = p → n ∈ s.way dep (s.loc p) ∧ 0 ≤ q ∧ q < 21) : Spec Try.prog 20 [ptr b o 0, .int .i64 p]
    [.cells b o 158 (encT s)]
    (fun v H1 => v = errv 106 (s.leave p).1 ∧ H1 = [.cells b o 158 (encT (s.leave p).2)]) := by
  refine Spec.intro Try.func20 rfl rfl ?_
  intro W
  refine XC.seq ?_
  refine XC.region ?_
  refine XO.v (V.assign rfl) rfl ?_
  refine XO.nil ?_
  refine XE.next ?_
  refine XC.keep [(0, _), (1, _)] (Sub.cons rfl (Sub.cons rfl (Sub.nil _))) ?_
  refine XC.seq ?_
  refine XC.region ?_
  refine XO.v (V.move rfl) rfl ?_
  refine XO.v (V.move rfl) rfl ?_
  refine XO.call rfl (t_Of _ _ _ _) (.cons .here .nil) cl_68 rfl ?_
  rintro _ _ ⟨⟨rfl, hin⟩, rfl⟩
  refine XO.v (V.move rfl) rfl ?_
  refine XO.v (V.extract rfl rfl) rfl ?_
  refine XO.v (V.extract rfl rfl) rfl ?_
  refine XO.v (V.assign rfl) rfl ?_
  refine XO.v (V.assign rfl) rfl ?_
  refine XO.nil ?_
  refine XE.next ?_
  refine XC.keep [(0, _), (1, _), (5, _), (6, _)] (Sub.cons rfl (Sub.cons rfl (Sub.cons rfl (Sub.cons rfl (Sub.nil _))))) ?_
  refine XC.seq ?_
  refine XC.seq ?_
  refine XC.region ?_
  refine XO.v (V.move rfl) rfl ?_
  refine XO.v (V.errNil rfl Try.underlying33 rfl) rfl ?_
  refine XO.nil ?_
  refine XE.next ?_
  refine XC.keep [(0, _), (1, _), (5, _), (6, _), (18, _)] (Sub.cons rfl (Sub.cons rfl (Sub.cons rfl (Sub.cons rfl (Sub.cons rfl (Sub.nil _)))))) ?_
  refine XC.condP rfl (fun h1 => ?_) (fun h1 => ?_)
  · skip
    refine XC.seq ?_
    refine XC.region ?_
    refine XO.v (V.move rfl) rfl ?_
    refine XO.v (V.assign rfl) rfl ?_
    refine XO.nil ?_
    refine XE.next ?_
    refine XC.keep [(4, _)] (Sub.cons rfl (Sub.nil _)) ?_
    refine XC.ret ?_
    refine XE.thenRet ?_
    refine XE.ret1 rfl rfl (post_of (.cons .here .nil) rfl ?_)
    have hv : s.leave p = ((s.in_ p).2, s) := by unfold SS.leave; rw [if_pos (by omega)]
    rw [hv]; exact ⟨rfl, rfl⟩
  · skip
    obtain ⟨⟨p0, p20⟩, l0, hN⟩ := hin (by omega)
    have hl2 := hl p0 p20 l0
    have hup : 0 ≤ (s.in_ p).1 ∧ (s.in_ p).1 < 6 ∧ s.here (s.in_ p).1 = true := by rw [hN]; exact ⟨l0, hl2.1, hl2.2⟩
    have hay := s.way_len dep (s.in_ p).1
    have hdn := (hD.d _ hup.1 hup.2.1 hup.2.2).2.1
    refine XC.skip ?_
    refine XE.next ?_
    refine XC.keep [(0, _), (1, _), (5, _)] (Sub.cons rfl (Sub.cons rfl (Sub.cons rfl (Sub.nil _)))) ?_
    refine XC.seq ?_
    refine XC.seq ?_
    refine XC.region ?_
    refine XO.v (V.move rfl) rfl ?_
    refine XO.v (V.move rfl) rfl ?_
    refine XO.call rfl (t_up _ _ s dep hD (s.in_ p).1 hup) (.cons .here .nil) cl_61 rfl ?_
    rintro _ _ ⟨pl, cl, rfl, rfl⟩
    refine XO.v (V.lenSl rfl Try.underlying85) rfl ?_
    refine XO.v (V.move rfl) rfl ?_
    refine XO.nil ?_
    refine XE.next ?_
    refine XC.keep [(0, _), (1, _), (22, _), (23, _), (24, _)] (Sub.cons rfl (Sub.cons rfl (Sub.cons rfl (Sub.cons rfl (Sub.cons rfl (Sub.nil _)))))) ?_
    refine XC.block ?_
    refine XC.loop (σ := Int × (Int → Int → Int)) (fun x => ((s.way dep (s.in_ p).1).length - x.1).toNat) (fun x => (0 ≤ x.1 ∧ x.1 ≤ (s.way dep (s.in_ p).1).length) ∧ x.2 = clrL s.who ((s.way dep (s.in_ p).1).take x.1.toNat) p) (fun x => [(24, .int .i64 x.1), (0, ptr b o 0), (1, .int .i64 p), (22, .slice pl (s.way dep (s.in_ p).1).length cl), (23, .int .i64 (s.way dep (s.in_ p).1).length)]) (fun x => XM W (foot [.cells b o 158 (encT s)]) [irow pl cl 3 (s.way dep (s.in_ p).1), .cells b o 158 (encT { s with who := x.2 })]) ((0, s.who)) ?_ (Sub.cons rfl (Sub.cons rfl (Sub.cons rfl (Sub.cons rfl (Sub.cons rfl (Sub.nil _)))))) (fun _ hw => XM.pick (.cons .here (.cons .here .nil)) hw) ?_
    · skip
      exact ⟨by omega, (clrL_nil _ _).symm⟩
    intro x hx
    obtain ⟨hx, hw⟩ := hx
    refine XC.seq ?_
    refine XC.region ?_
    refine XO.v (V.cmp rfl rfl rfl) rfl ?_
    refine XO.nil ?_
    refine XE.next ?_
    refine XC.keep [(0, _), (1, _), (22, _), (23, _), (24, _), (25, _)] (Sub.cons rfl (Sub.cons rfl (Sub.cons rfl (Sub.cons rfl (Sub.cons rfl (Sub.cons rfl (Sub.nil _))))))) ?_
    refine XC.seq ?_
    refine XC.condP rfl (fun h2 => ?_) (fun h2 => ?_)
    · skip
      obtain ⟨a0, a1, a2⟩ := SS.way_at hD (n := (s.in_ p).1) hup (z := x.1) ⟨hx.1, by omega⟩
      refine XC.skip ?_
      refine XE.next ?_
      refine XC.keep [(0, _), (1, _), (22, _), (23, _), (24, _)] (Sub.cons rfl (Sub.cons rfl (Sub.cons rfl (Sub.cons rfl (Sub.cons rfl (Sub.nil _)))))) ?_
      refine XC.seq ?_
      refine XC.block ?_
      refine XC.seq ?_
      refine XC.openRow .here (by omega) ?_
      intro gA h3
      subst h3
      refine XC.region ?_
      refine XO.v (V.indexSl rfl rfl sl_85 (by omega)) rfl ?_
      refine XO.v (V.loadRow rfl (inXM .here) (ints_at (by omega)) sc_3) rfl ?_
      refine XO.v (V.assign rfl) rfl ?_
      refine XO.nil ?_
      refine XE.next ?_
      refine XC.keep [(0, _), (1, _), (8, _), (22, _), (23, _), (24, _)] (Sub.cons rfl (Sub.cons rfl (Sub.cons rfl (Sub.cons rfl (Sub.cons rfl (Sub.cons rfl (Sub.nil _))))))) ?_
      refine XC.seq ?_
      refine XC.region ?_
      refine XO.v (V.move rfl) rfl ?_
      refine XO.v (V.move rfl) rfl ?_
      refine XO.v (V.nilCheckP rfl) rfl ?_
      refine XO.v (V.fieldAddr rfl fo_98_0) rfl ?_
      refine XO.v (V.indexArr rfl rfl ar_95 (by omega)) rfl ?_
      refine XO.v (V.fieldAddr rfl fo_94_2) rfl ?_
      refine XO.v (V.loadAgg rfl (inXM (.there .here)) (encT_who _ _ (by omega) (by assumption)) ag_92 sz_92_21) rfl ?_
      refine XO.v (V.move rfl) rfl ?_
      refine XO.nil ?_
      refine XE.next ?_
      refine XC.keep [(0, _), (1, _), (8, _), (22, _), (23, _), (24, _), (34, _), (35, _)] (Sub.cons rfl (Sub.cons rfl (Sub.cons rfl (Sub.cons rfl (Sub.cons rfl (Sub.cons rfl (Sub.cons rfl (Sub.cons rfl (Sub.nil _))))))))) ?_
      refine XC.block ?_
      refine XC.loop (σ := Int) (fun k => (21 - k).toNat) (fun k => 0 ≤ k ∧ k ≤ 21) (fun k => [(35, .int .i64 k), (0, ptr b o 0), (1, .int .i64 p), (8, .int .i64 (at0 (s.way dep (s.in_ p).1) x.1)), (22, .slice (some ⟨gA, 0, none⟩) (s.way dep (s.in_ p).1).length cl), (23, .int .i64 (s.way dep (s.in_ p).1).length), (24, .int .i64 x.1), (34, .agg (arrV (x.2 (at0 (s.way dep (s.in_ p).1) x.1)) 21))]) (fun k => XM W (foot [.cells b o 158 (encT s)]) [irow (some ⟨gA, 0, none⟩) cl 3 (s.way dep (s.in_ p).1), .cells b o 158 (encT { s with who := clrK x.2 (at0 (s.way dep (s.in_ p).1) x.1) p k })]) (0) ?_ (Sub.cons rfl (Sub.cons rfl (Sub.cons rfl (Sub.cons rfl (Sub.cons rfl (Sub.cons rfl (Sub.cons rfl (Sub.cons rfl (Sub.nil _))))))))) (fun _ hw2 => by rw [clrK_zero]; exact XM.pick (.cons .here (.cons .here .nil)) hw2) ?_
      · skip
        omega
      intro k hk
      refine XC.seq ?_
      refine XC.region ?_
      refine XO.v (V.cmp rfl rfl rfl) rfl ?_
      refine XO.nil ?_
      refine XE.next ?_
      refine XC.keep [(0, _), (1, _), (8, _), (22, _), (23, _), (24, _), (34, _), (35, _), (36, _)] (Sub.cons rfl (Sub.cons rfl (Sub.cons rfl (Sub.cons rfl (Sub.cons rfl (Sub.cons rfl (Sub.cons rfl (Sub.cons rfl (Sub.cons rfl (Sub.nil _)))))))))) ?_
      refine XC.seq ?_
      refine XC.condP rfl (fun h4 => ?_) (fun h4 => ?_)
      · skip
        refine XC.skip ?_
        refine XE.next ?_
        refine XC.keep [(0, _), (1, _), (8, _), (22, _), (23, _), (24, _), (34, _), (35, _)] (Sub.cons rfl (Sub.cons rfl (Sub.cons rfl (Sub.cons rfl (Sub.cons rfl (Sub.cons rfl (Sub.cons rfl (Sub.cons rfl (Sub.nil _))))))))) ?_
        refine XC.seq ?_
        refine XC.block ?_
        refine XC.seq ?_
        refine XC.region ?_
        refine XO.v (V.move rfl) rfl ?_
        refine XO.v (V.indexArrV rfl rfl Try.underlying92 sz_3_1 sc_3 (by omega)) rfl ?_
        refine XO.v (V.assign rfl) rfl ?_
        refine XO.v (V.assign rfl) rfl ?_
        refine XO.nil ?_
        refine XE.next ?_
        refine XC.keep [(0, _), (1, _), (8, _), (9, _), (10, _), (22, _), (23, _), (24, _), (34, _), (35, _)] (Sub.cons rfl (Sub.cons rfl (Sub.cons rfl (Sub.cons rfl (Sub.cons rfl (Sub.cons rfl (Sub.cons rfl (Sub.cons rfl (Sub.cons rfl (Sub.cons rfl (Sub.nil _))))))))))) ?_
        refine XC.seq ?_
        refine XC.region ?_
        refine XO.v (V.move rfl) rfl ?_
        refine XO.v (V.move rfl) rfl ?_
        refine XO.v (V.cmp rfl rfl rfl) rfl ?_
        refine XO.nil ?_
        refine XE.next ?_
        refine XC.keep [(0, _), (1, _), (8, _), (9, _), (22, _), (23, _), (24, _), (34, _), (35, _), (41, _)] (Sub.cons rfl (Sub.cons rfl (Sub.cons rfl (Sub.cons rfl (Sub.cons rfl (Sub.cons rfl (Sub.cons rfl (Sub.cons rfl (Sub.cons rfl (Sub.cons rfl (Sub.nil _))))))))))) ?_
        refine XC.condP rfl (fun h5 => ?_) (fun h5 => ?_)
        · skip
          refine XC.region ?_
          refine XO.v (V.move rfl) rfl ?_
          refine XO.v (V.move rfl) rfl ?_
          refine XO.v (V.move rfl) rfl ?_
          refine XO.v (V.nilCheckP rfl) rfl ?_
          refine XO.v (V.fieldAddr rfl fo_98_0) rfl ?_
          refine XO.v (V.indexArr rfl rfl ar_95 (by omega)) rfl ?_
          refine XO.v (V.fieldAddr rfl fo_94_2) rfl ?_
          refine XO.v (V.indexArr rfl rfl ar_92 (by omega)) rfl ?_
          refine XO.store rfl rfl (.there .here) (encT.st_s_I_who_I _ _ _ (by omega) (by omega) (by first | assumption | (simp_all; done)) _) rfl sz_3_1 ?_
          refine XO.nil ?_
          refine XE.blockNormal ?_
          refine XE.next ?_
          refine XC.keep [(0, _), (1, _), (8, _), (22, _), (23, _), (24, _), (34, _), (35, _)] (Sub.cons rfl (Sub.cons rfl (Sub.cons rfl (Sub.cons rfl (Sub.cons rfl (Sub.cons rfl (Sub.cons rfl (Sub.cons rfl (Sub.nil _))))))))) ?_
          refine XC.region ?_
          refine XO.v (V.add rfl rfl _ (IntWalk.i64_in _ (by omega))) rfl ?_
          refine XO.v (V.move rfl) rfl ?_
          refine XO.nil ?_
          refine XE.again (k + 1) ?_ ?_ (Sub.cons rfl (Sub.cons rfl (Sub.cons rfl (Sub.cons rfl (Sub.cons rfl (Sub.cons rfl (Sub.cons rfl (Sub.cons rfl (Sub.nil _))))))))) (fun _ hw2 => by first | (rw [← clrK_set (by omega) (by assumption)]; exact XM.pick (.cons .here (.cons .here .nil)) hw2) | (rw [← clrK_skip (by assumption)]; exact XM.pick (.cons .here (.cons .here .nil)) hw2))
          · skip
            (first | omega | (simp; done) | (simp; omega))
          · skip
            (first | omega | (simp; done) | (simp; omega))
        · skip
          refine XC.skip ?_
          refine XE.blockNormal ?_
          refine XE.next ?_
          refine XC.keep [(0, _), (1, _), (8, _), (22, _), (23, _), (24, _), (34, _), (35, _)] (Sub.cons rfl (Sub.cons rfl (Sub.cons rfl (Sub.cons rfl (Sub.cons rfl (Sub.cons rfl (Sub.cons rfl (Sub.cons rfl (Sub.nil _))))))))) ?_
          refine XC.region ?_
          refine XO.v (V.add rfl rfl _ (IntWalk.i64_in _ (by omega))) rfl ?_
          refine XO.v (V.move rfl) rfl ?_
          refine XO.nil ?_
          refine XE.again (k + 1) ?_ ?_ (Sub.cons rfl (Sub.cons rfl (Sub.cons rfl (Sub.cons rfl (Sub.cons rfl (Sub.cons rfl (Sub.cons rfl (Sub.cons rfl (Sub.nil _))))))))) (fun _ hw2 => by first | (rw [← clrK_set (by omega) (by assumption)]; exact XM.pick (.cons .here (.cons .here .nil)) hw2) | (rw [← clrK_skip (by assumption)]; exact XM.pick (.cons .here (.cons .here .nil)) hw2))
          · skip
            (first | omega | (simp; done) | (simp; omega))
          · skip
            (first | omega | (simp; done) | (simp; omega))
      · skip
        refine XC.exit ?_
        refine XE.thenExit ?_
        refine XE.thenExit ?_
        refine XE.blockExit ?_
        refine XE.blockNormal ?_
        refine XE.next ?_
        refine XC.keep [(0, _), (1, _), (22, _), (23, _), (24, _)] (Sub.cons rfl (Sub.cons rfl (Sub.cons rfl (Sub.cons rfl (Sub.cons rfl (Sub.nil _)))))) ?_
        refine XC.region ?_
        obtain rfl : k = 21 := by omega
        refine XO.v (V.add rfl rfl _ (IntWalk.i64_in _ (by omega))) rfl ?_
        refine XO.v (V.move rfl) rfl ?_
        refine XO.nil ?_
        refine XE.again ((x.1 + 1, clrK x.2 (at0 (s.way dep (s.in_ p).1) x.1) p 21)) ?_ ?_ (Sub.cons rfl (Sub.cons rfl (Sub.cons rfl (Sub.cons rfl (Sub.cons rfl (Sub.nil _)))))) (fun _ hw => XM.pick (.cons .here (.cons .here .nil)) hw)
        · skip
          (first | omega | (simp; done) | (simp; omega))
        · skip
          refine ⟨by simp; omega, ?_⟩
          rw [hw]; exact clrL_next p0 ⟨hx.1, by omega⟩
    · skip
      refine XC.exit ?_
      refine XE.thenExit ?_
      refine XE.thenExit ?_
      refine XE.blockExit ?_
      refine XE.next ?_
      refine XC.keep [(0, _), (1, _)] (Sub.cons rfl (Sub.cons rfl (Sub.nil _))) ?_
      refine XC.seq ?_
      refine XC.region ?_
      refine XO.v (V.move rfl) rfl ?_
      refine XO.v (V.move rfl) rfl ?_
      refine XO.v (V.nilCheckP rfl) rfl ?_
      refine XO.v (V.fieldAddr rfl fo_98_1) rfl ?_
      refine XO.v (V.indexArr rfl rfl ar_96 (by omega)) rfl ?_
      refine XO.store rfl rfl (.there .here) (encT.st_of_I _ _ (by omega) _) rfl sz_3_1 ?_
      refine XO.nil ?_
      refine XE.next ?_
      refine XC.keep [] (Sub.nil _) ?_
      refine XC.seq ?_
      refine XC.region ?_
      refine XO.v (V.assign rfl) rfl ?_
      refine XO.nil ?_
      refine XE.next ?_
      refine XC.keep [(4, _)] (Sub.cons rfl (Sub.nil _)) ?_
      refine XC.ret ?_
      refine XE.ret1 rfl rfl (post_of (.cons (.there .here) .nil) rfl ?_)
      have hxe : x.1 = (s.way dep (s.in_ p).1).length := by omega
      rw [hxe] at hw
      simp at hw
      have hv : s.leave p = (0, s.left p) := by unfold SS.leave; rw [if_neg (by omega)]
      rw [hv]
      unfold SS.left
      rw [← clrL_all (l := (s.way dep (s.in_ p).1)) (by rw [hN]; exact hW p0), ← hw]
      exact ⟨rfl, rfl⟩
end Go.X
