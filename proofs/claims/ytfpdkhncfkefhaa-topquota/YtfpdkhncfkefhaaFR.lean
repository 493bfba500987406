import Derived.Test.YtfpdkhncfkefhaaFRM
import Derived.Test.YtfpdkhncfkefhaaFW5
namespace Go.X
open Go Go.Proofs
theorem ag_35 : aggT Try.prog 35 = true := by kernel_rfl
theorem ar_36 : arrOf Try.prog 36 = some (30, 12) := by kernel_rfl
theorem cl_42 : callable Try.prog 42 = true := by kernel_rfl
theorem fo_35_0 : fieldOff Try.prog 35 0 = some 0 := by kernel_rfl
theorem fo_35_1 : fieldOff Try.prog 35 1 = some 1 := by kernel_rfl
theorem fo_35_11 : fieldOff Try.prog 35 11 = some 11 := by kernel_rfl
theorem fo_35_2 : fieldOff Try.prog 35 2 = some 2 := by kernel_rfl
theorem fo_35_3 : fieldOff Try.prog 35 3 = some 3 := by kernel_rfl
theorem fo_35_4 : fieldOff Try.prog 35 4 = some 4 := by kernel_rfl
theorem fo_35_7 : fieldOff Try.prog 35 7 = some 7 := by kernel_rfl
theorem fo_35_8 : fieldOff Try.prog 35 8 = some 8 := by kernel_rfl
theorem fo_35_9 : fieldOff Try.prog 35 9 = some 9 := by kernel_rfl
theorem fo_38_0 : fieldOff Try.prog 38 0 = some 0 := by kernel_rfl
theorem sz_35_12 : szOf Try.prog 35 = some 12 := by kernel_rfl
set_option maxRecDepth 10000 in
set_option maxHeartbeats 400000 in
theorem r_Group (b o : Nat) (s : SF) (n : Int) : Spec Try.prog 40 [ptr b o 0, .int .i64 n]
    [.cells b o 361 (encR s)]
    (fun v H1 => v = .int .i64 (s.grE n) ∧ H1 = [.cells b o 361 (encR s)]) := by
  refine Spec.intro Try.func40 rfl rfl ?_
  intro W
  refine XC.seq ?_
  refine XC.region ?_
  refine XO.v (V.assign rfl) rfl ?_
  refine XO.nil ?_
  refine XE.next ?_
  refine XC.keep [(0, _), (1, _)] (Sub.cons rfl (Sub.cons rfl (Sub.nil _))) ?_
  refine XC.seq ?_
  refine XC.seq ?_
  refine XC.region ?_
  refine XO.v (V.move rfl) rfl ?_
  refine XO.v (V.cmp rfl rfl rfl) rfl ?_
  refine XO.v (V.move rfl) rfl ?_
  refine XO.splitP (d := 7) rfl (fun h1 => ?_) (fun h1 => ?_)
  · skip
    refine XO.guardSkip rfl rfl rfl rfl rfl ?_
    refine XO.guardSkip rfl rfl rfl rfl rfl ?_
    refine XO.v (V.pick rfl rfl rfl rfl) rfl ?_
    refine XO.nil ?_
    refine XE.next ?_
    refine XC.keep [(0, _), (1, _), (10, _)] (Sub.cons rfl (Sub.cons rfl (Sub.cons rfl (Sub.nil _)))) ?_
    refine XC.condT rfl rfl ?_
    refine XC.seq ?_
    refine XC.region ?_
    refine XO.v (V.assign rfl) rfl ?_
    refine XO.nil ?_
    refine XE.next ?_
    refine XC.keep [(4, _)] (Sub.cons rfl (Sub.nil _)) ?_
    refine XC.ret ?_
    refine XE.thenRet ?_
    refine XE.ret1 rfl rfl (post_of (.cons .here .nil) rfl ?_)
    exact ⟨by unfold SF.grE; rw [if_pos (by omega)], rfl⟩
  · skip
    refine XO.guardRun rfl rfl rfl ?_
    refine XO.v (V.move rfl) rfl ?_
    refine XO.guardRun rfl rfl rfl ?_
    refine XO.v (V.cmp rfl rfl rfl) rfl ?_
    refine XO.v (V.pick rfl rfl rfl rfl) rfl ?_
    refine XO.nil ?_
    refine XE.next ?_
    refine XC.keep [(0, _), (1, _), (10, _)] (Sub.cons rfl (Sub.cons rfl (Sub.cons rfl (Sub.nil _)))) ?_
    refine XC.condP rfl (fun h2 => ?_) (fun h2 => ?_)
    · skip
      refine XC.seq ?_
      refine XC.region ?_
      refine XO.v (V.assign rfl) rfl ?_
      refine XO.nil ?_
      refine XE.next ?_
      refine XC.keep [(4, _)] (Sub.cons rfl (Sub.nil _)) ?_
      refine XC.ret ?_
      refine XE.thenRet ?_
      refine XE.ret1 rfl rfl (post_of (.cons .here .nil) rfl ?_)
      exact ⟨by unfold SF.grE; rw [if_pos (by omega)], rfl⟩
    · skip
      refine XC.skip ?_
      refine XE.next ?_
      refine XC.keep [(0, _), (1, _)] (Sub.cons rfl (Sub.cons rfl (Sub.nil _))) ?_
      refine XC.seq ?_
      refine XC.seq ?_
      refine XC.region ?_
      refine XO.v (V.move rfl) rfl ?_
      refine XO.v (V.move rfl) rfl ?_
      refine XO.v (V.nilCheckP rfl) rfl ?_
      refine XO.v (V.fieldAddr rfl fo_38_0) rfl ?_
      refine XO.v (V.indexArr rfl rfl ar_36 (by omega)) rfl ?_
      refine XO.v (V.fieldAddr rfl fo_35_0) rfl ?_
      refine XO.v (V.load rfl (inXM .here) (encR.ld_U_Here _ _ (by omega)) sc_4) rfl ?_
      refine XO.v (V.not rfl) rfl ?_
      refine XO.nil ?_
      refine XE.next ?_
      refine XC.keep [(18, _)] (Sub.cons rfl (Sub.nil _)) ?_
      refine XC.cond rfl (fun h3 => ?_) (fun h3 => ?_)
      · try simp only [sb] at h3
        refine XC.seq ?_
        refine XC.region ?_
        refine XO.v (V.assign rfl) rfl ?_
        refine XO.nil ?_
        refine XE.next ?_
        refine XC.keep [(4, _)] (Sub.cons rfl (Sub.nil _)) ?_
        refine XC.ret ?_
        refine XE.thenRet ?_
        refine XE.ret1 rfl rfl (post_of (.cons .here .nil) rfl ?_)
        exact ⟨by unfold SF.grE; rw [if_neg (by omega), if_neg (by simp_all)], rfl⟩
      · try simp only [sb] at h3
        refine XC.skip ?_
        refine XE.next ?_
        refine XC.keep [] (Sub.nil _) ?_
        refine XC.seq ?_
        refine XC.region ?_
        refine XO.v (V.assign rfl) rfl ?_
        refine XO.nil ?_
        refine XE.next ?_
        refine XC.keep [(4, _)] (Sub.cons rfl (Sub.nil _)) ?_
        refine XC.ret ?_
        refine XE.ret1 rfl rfl (post_of (.cons .here .nil) rfl ?_)
        exact ⟨by unfold SF.grE; rw [if_neg (by omega), if_pos (by simp_all)], rfl⟩
set_option maxRecDepth 10000 in
set_option maxHeartbeats 400000 in
theorem r_Task (b o : Nat) (s : SF) (n : Int) : Spec Try.prog 14 [ptr b o 0, .int .i64 n]
    [.cells b o 361 (encR s)]
    (fun v H1 => v = .int .i64 (s.tkE n) ∧ H1 = [.cells b o 361 (encR s)]) := by
  refine Spec.intro Try.func14 rfl rfl ?_
  intro W
  refine XC.seq ?_
  refine XC.region ?_
  refine XO.v (V.assign rfl) rfl ?_
  refine XO.nil ?_
  refine XE.next ?_
  refine XC.keep [(0, _), (1, _)] (Sub.cons rfl (Sub.cons rfl (Sub.nil _))) ?_
  refine XC.seq ?_
  refine XC.seq ?_
  refine XC.region ?_
  refine XO.v (V.move rfl) rfl ?_
  refine XO.v (V.cmp rfl rfl rfl) rfl ?_
  refine XO.v (V.move rfl) rfl ?_
  refine XO.splitP (d := 7) rfl (fun h1 => ?_) (fun h1 => ?_)
  · skip
    refine XO.guardSkip rfl rfl rfl rfl rfl ?_
    refine XO.guardSkip rfl rfl rfl rfl rfl ?_
    refine XO.v (V.pick rfl rfl rfl rfl) rfl ?_
    refine XO.nil ?_
    refine XE.next ?_
    refine XC.keep [(0, _), (1, _), (10, _)] (Sub.cons rfl (Sub.cons rfl (Sub.cons rfl (Sub.nil _)))) ?_
    refine XC.condT rfl rfl ?_
    refine XC.seq ?_
    refine XC.region ?_
    refine XO.v (V.assign rfl) rfl ?_
    refine XO.nil ?_
    refine XE.next ?_
    refine XC.keep [(4, _)] (Sub.cons rfl (Sub.nil _)) ?_
    refine XC.ret ?_
    refine XE.thenRet ?_
    refine XE.ret1 rfl rfl (post_of (.cons .here .nil) rfl ?_)
    exact ⟨by unfold SF.tkE; rw [if_pos (by omega)], rfl⟩
  · skip
    refine XO.guardRun rfl rfl rfl ?_
    refine XO.v (V.move rfl) rfl ?_
    refine XO.guardRun rfl rfl rfl ?_
    refine XO.v (V.cmp rfl rfl rfl) rfl ?_
    refine XO.v (V.pick rfl rfl rfl rfl) rfl ?_
    refine XO.nil ?_
    refine XE.next ?_
    refine XC.keep [(0, _), (1, _), (10, _)] (Sub.cons rfl (Sub.cons rfl (Sub.cons rfl (Sub.nil _)))) ?_
    refine XC.condP rfl (fun h2 => ?_) (fun h2 => ?_)
    · skip
      refine XC.seq ?_
      refine XC.region ?_
      refine XO.v (V.assign rfl) rfl ?_
      refine XO.nil ?_
      refine XE.next ?_
      refine XC.keep [(4, _)] (Sub.cons rfl (Sub.nil _)) ?_
      refine XC.ret ?_
      refine XE.thenRet ?_
      refine XE.ret1 rfl rfl (post_of (.cons .here .nil) rfl ?_)
      exact ⟨by unfold SF.tkE; rw [if_pos (by omega)], rfl⟩
    · skip
      refine XC.skip ?_
      refine XE.next ?_
      refine XC.keep [(0, _), (1, _)] (Sub.cons rfl (Sub.cons rfl (Sub.nil _))) ?_
      refine XC.seq ?_
      refine XC.seq ?_
      refine XC.region ?_
      refine XO.v (V.move rfl) rfl ?_
      refine XO.v (V.move rfl) rfl ?_
      refine XO.v (V.add rfl rfl _ (IntWalk.i64_in _ (by omega))) rfl ?_
      refine XO.v (V.nilCheckP rfl) rfl ?_
      refine XO.v (V.fieldAddr rfl fo_38_0) rfl ?_
      refine XO.v (V.indexArr rfl rfl ar_36 (by omega)) rfl ?_
      refine XO.v (V.fieldAddr rfl fo_35_0) rfl ?_
      refine XO.v (V.load rfl (inXM .here) (encR.ld_U_Here _ _ (by omega)) sc_4) rfl ?_
      refine XO.v (V.not rfl) rfl ?_
      refine XO.nil ?_
      refine XE.next ?_
      refine XC.keep [(19, _)] (Sub.cons rfl (Sub.nil _)) ?_
      refine XC.cond rfl (fun h3 => ?_) (fun h3 => ?_)
      · try simp only [sb] at h3
        refine XC.seq ?_
        refine XC.region ?_
        refine XO.v (V.assign rfl) rfl ?_
        refine XO.nil ?_
        refine XE.next ?_
        refine XC.keep [(4, _)] (Sub.cons rfl (Sub.nil _)) ?_
        refine XC.ret ?_
        refine XE.thenRet ?_
        refine XE.ret1 rfl rfl (post_of (.cons .here .nil) rfl ?_)
        exact ⟨by unfold SF.tkE; rw [if_neg (by omega), if_neg (by simp_all)], rfl⟩
      · try simp only [sb] at h3
        refine XC.skip ?_
        refine XE.next ?_
        refine XC.keep [] (Sub.nil _) ?_
        refine XC.seq ?_
        refine XC.region ?_
        refine XO.v (V.assign rfl) rfl ?_
        refine XO.nil ?_
        refine XE.next ?_
        refine XC.keep [(4, _)] (Sub.cons rfl (Sub.nil _)) ?_
        refine XC.ret ?_
        refine XE.ret1 rfl rfl (post_of (.cons .here .nil) rfl ?_)
        exact ⟨by unfold SF.tkE; rw [if_neg (by omega), if_pos (by simp_all)], rfl⟩
set_option maxRecDepth 10000 in
set_option maxHeartbeats 1000000 in
theorem r_Ready (b o : Nat) (s : SF) (d : Int → Nat) (hI : s.Inv d) (n : Int) (hn : 0 ≤ n ∧ n < 30) : Spec Try.prog 42 [ptr b o 0, .int .i64 n]
    [.cells b o 361 (encR s)]
    (fun v H1 => v = .bool (s.ready n) ∧ H1 = [.cells b o 361 (encR s)]) := by
  have hq := hI.quo n hn.1 hn.2
  refine Spec.intro Try.func42 rfl rfl ?_
  intro W
  refine XC.seq ?_
  refine XC.region ?_
  refine XO.v (V.assign rfl) rfl ?_
  refine XO.nil ?_
  refine XE.next ?_
  refine XC.keep [(0, _), (1, _)] (Sub.cons rfl (Sub.cons rfl (Sub.nil _))) ?_
  refine XC.seq ?_
  refine XC.region ?_
  refine XO.v (V.move rfl) rfl ?_
  refine XO.v (V.move rfl) rfl ?_
  refine XO.v (V.nilCheckP rfl) rfl ?_
  refine XO.v (V.fieldAddr rfl fo_38_0) rfl ?_
  refine XO.v (V.indexArr rfl rfl ar_36 (by omega)) rfl ?_
  refine XO.v (V.loadAgg rfl (inXM .here) (encR.agg _ _ (by omega)) ag_35 sz_35_12) rfl ?_
  refine XO.allocZ (z := .agg (arrR (freshR false 0 0 0))) (m := 12) (C := encR.cell (freshR false 0 0 0)) (by kernel_rfl) (arrR_ok _).2 (encR.c_box _) rfl ?_
  intro bu
  refine XO.storeAgg rfl rfl .here (encR.c_put _ _) (arrR_ok _) sz_35_12 ?_
  refine XO.nil ?_
  refine XE.next ?_
  refine XC.keep [(0, _), (1, _), (5, _)] (Sub.cons rfl (Sub.cons rfl (Sub.cons rfl (Sub.nil _)))) ?_
  refine XC.seq ?_
  refine XC.seq ?_
  refine XC.region ?_
  refine XO.v (V.move rfl) rfl ?_
  refine XO.v (V.cmp rfl rfl rfl) rfl ?_
  refine XO.nil ?_
  refine XE.next ?_
  refine XC.keep [(0, _), (1, _), (5, _), (14, _)] (Sub.cons rfl (Sub.cons rfl (Sub.cons rfl (Sub.cons rfl (Sub.nil _))))) ?_
  refine XC.condP rfl (fun h1 => ?_) (fun h1 => ?_)
  · skip
    refine XC.seq ?_
    refine XC.region ?_
    refine XO.v (V.fieldAddr rfl fo_35_1) rfl ?_
    refine XO.v (V.load rfl (inXM .here) (encR.c_awake _ _) sc_4) rfl ?_
    refine XO.v (V.assign rfl) rfl ?_
    refine XO.nil ?_
    refine XE.next ?_
    refine XC.keep [(4, _)] (Sub.cons rfl (Sub.nil _)) ?_
    refine XC.ret ?_
    refine XE.thenRet ?_
    refine XE.ret1 rfl rfl (post_of (.cons (.there .here) .nil) rfl ?_)
    exact ⟨by unfold SF.ready; rw [if_pos (by omega)], rfl⟩
  · skip
    refine XC.skip ?_
    refine XE.next ?_
    refine XC.keep [(0, _), (1, _), (5, _)] (Sub.cons rfl (Sub.cons rfl (Sub.cons rfl (Sub.nil _)))) ?_
    refine XC.seq ?_
    refine XC.seq ?_
    refine XC.region ?_
    refine XO.v (V.fieldAddr rfl fo_35_2) rfl ?_
    refine XO.v (V.load rfl (inXM .here) (encR.c_frz _ _) sc_4) rfl ?_
    refine XO.v (V.move rfl) rfl ?_
    refine XO.split (d := 19) rfl (fun h2 => ?_) (fun h2 => ?_)
    · try simp only [sb] at h2
      refine XO.guardSkip rfl rfl rfl rfl rfl ?_
      refine XO.guardSkip rfl rfl rfl rfl rfl ?_
      refine XO.guardSkip rfl rfl rfl rfl rfl ?_
      refine XO.guardSkip rfl rfl rfl rfl rfl ?_
      refine XO.guardSkipU rfl rfl rfl rfl rfl ?_
      refine XO.guardSkipU rfl rfl rfl rfl rfl ?_
      refine XO.guardSkipU rfl rfl rfl rfl rfl ?_
      refine XO.guardSkipU rfl rfl rfl rfl rfl ?_
      refine XO.guardSkipU rfl rfl rfl rfl rfl ?_
      refine XO.guardSkip rfl rfl rfl rfl rfl ?_
      refine XO.v (V.pick rfl rfl rfl rfl) rfl ?_
      refine XO.nil ?_
      refine XE.next ?_
      refine XC.keep [(0, _), (1, _), (30, _)] (Sub.cons rfl (Sub.cons rfl (Sub.cons rfl (Sub.nil _)))) ?_
      refine XC.condT rfl rfl ?_
      refine XC.seq ?_
      refine XC.region ?_
      refine XO.v (V.assign rfl) rfl ?_
      refine XO.nil ?_
      refine XE.next ?_
      refine XC.keep [(4, _)] (Sub.cons rfl (Sub.nil _)) ?_
      refine XC.ret ?_
      refine XE.thenRet ?_
      refine XE.ret1 rfl rfl (post_of (.cons (.there .here) .nil) rfl ?_)
      have hr : s.ready n = false := by
        unfold SF.ready
        rw [if_neg (by omega)]
        first
        | (rw [show s.frz n = true from by assumption]; simp; done)
        | (rw [decide_eq_false (by omega : ¬ s.quota n = 0), decide_eq_false (by omega : ¬ s.used n < s.quota n)]; simp; done)
      exact ⟨by rw [hr], rfl⟩
    · try simp only [sb] at h2
      refine XO.guardRun rfl rfl rfl ?_
      refine XO.v (V.fieldAddr rfl fo_35_9) rfl ?_
      refine XO.guardRun rfl rfl rfl ?_
      refine XO.v (V.load rfl (inXM .here) (encR.c_quota _ _) sc_3) rfl ?_
      refine XO.guardRun rfl rfl rfl ?_
      refine XO.v (V.cmp rfl rfl rfl) rfl ?_
      refine XO.guardRun rfl rfl rfl ?_
      refine XO.v (V.move rfl) rfl ?_
      refine XO.splitP (d := 23) rfl (fun h3 => ?_) (fun h3 => ?_)
      · skip
        refine XO.guardRun rfl rfl rfl ?_
        refine XO.v (V.fieldAddr rfl fo_35_11) rfl ?_
        refine XO.guardRun rfl rfl rfl ?_
        refine XO.v (V.load rfl (inXM .here) (encR.c_used _ _) sc_3) rfl ?_
        refine XO.guardRun rfl rfl rfl ?_
        refine XO.v (V.fieldAddr rfl fo_35_9) rfl ?_
        refine XO.guardRun rfl rfl rfl ?_
        refine XO.v (V.load rfl (inXM .here) (encR.c_quota _ _) sc_3) rfl ?_
        refine XO.guardRun rfl rfl rfl ?_
        refine XO.v (V.cmp rfl rfl rfl) rfl ?_
        refine XO.guardRun rfl rfl rfl ?_
        refine XO.v (V.pick rfl rfl rfl rfl) rfl ?_
        refine XO.v (V.pick rfl rfl rfl rfl) rfl ?_
        refine XO.nil ?_
        refine XE.next ?_
        refine XC.keep [(0, _), (1, _), (30, _)] (Sub.cons rfl (Sub.cons rfl (Sub.cons rfl (Sub.nil _)))) ?_
        refine XC.condP rfl (fun h4 => ?_) (fun h4 => ?_)
        · skip
          refine XC.seq ?_
          refine XC.region ?_
          refine XO.v (V.assign rfl) rfl ?_
          refine XO.nil ?_
          refine XE.next ?_
          refine XC.keep [(4, _)] (Sub.cons rfl (Sub.nil _)) ?_
          refine XC.ret ?_
          refine XE.thenRet ?_
          refine XE.ret1 rfl rfl (post_of (.cons (.there .here) .nil) rfl ?_)
          have hr : s.ready n = false := by
            unfold SF.ready
            rw [if_neg (by omega)]
            first
            | (rw [show s.frz n = true from by assumption]; simp; done)
            | (rw [decide_eq_false (by omega : ¬ s.quota n = 0), decide_eq_false (by omega : ¬ s.used n < s.quota n)]; simp; done)
          exact ⟨by rw [hr], rfl⟩
        · skip
          refine XC.skip ?_
          refine XE.next ?_
          refine XC.keep [(0, _), (1, _)] (Sub.cons rfl (Sub.cons rfl (Sub.nil _))) ?_
          refine XC.seq ?_
          refine XC.seq ?_
          refine XC.region ?_
          have rq1 : (!s.frz n) = true := by simp_all
          have rq2 : (decide (s.quota n = 0) || decide (s.used n < s.quota n)) = true := by
            by_cases c : s.quota n = 0
            · simp [c]
            · have : s.used n < s.quota n := by omega
              simp [this]
          refine XO.v (V.assign rfl) rfl ?_
          refine XO.nil ?_
          refine XE.next ?_
          refine XC.keep [(0, _), (1, _), (6, _)] (Sub.cons rfl (Sub.cons rfl (Sub.cons rfl (Sub.nil _)))) ?_
          refine XC.block ?_
          refine XC.loop (σ := Int) (fun k => (30 - k).toNat) (fun k => (1 ≤ k ∧ k ≤ 30) ∧ ∀ j : Int, 1 ≤ j → j < k → ¬ (s.here j = true ∧ s.par j = n ∧ s.was j = true)) (fun k => [(6, .int .i64 k), (0, ptr b o 0), (1, .int .i64 n)]) (fun k => XM W (foot [.cells b o 361 (encR s)]) [.cells b o 361 (encR s)]) (1) ?_ (Sub.cons rfl (Sub.cons rfl (Sub.cons rfl (Sub.nil _)))) (fun _ hw => XM.pick (.cons (.there .here) .nil) hw) ?_
          · skip
            exact ⟨by omega, fun j h1 h2 => by omega⟩
          intro k hk
          obtain ⟨hk, hk2⟩ := hk
          refine XC.seq ?_
          refine XC.seq ?_
          refine XC.region ?_
          refine XO.v (V.move rfl) rfl ?_
          refine XO.v (V.cmp rfl rfl rfl) rfl ?_
          refine XO.nil ?_
          refine XE.next ?_
          refine XC.keep [(0, _), (1, _), (6, _), (32, _)] (Sub.cons rfl (Sub.cons rfl (Sub.cons rfl (Sub.cons rfl (Sub.nil _))))) ?_
          refine XC.condP rfl (fun h5 => ?_) (fun h5 => ?_)
          · skip
            refine XC.skip ?_
            refine XE.next ?_
            refine XC.keep [(0, _), (1, _), (6, _)] (Sub.cons rfl (Sub.cons rfl (Sub.cons rfl (Sub.nil _)))) ?_
            refine XC.seq ?_
            refine XC.block ?_
            refine XC.seq ?_
            refine XC.region ?_
            refine XO.v (V.move rfl) rfl ?_
            refine XO.v (V.move rfl) rfl ?_
            refine XO.v (V.nilCheckP rfl) rfl ?_
            refine XO.v (V.fieldAddr rfl fo_38_0) rfl ?_
            refine XO.v (V.indexArr rfl rfl ar_36 (by omega)) rfl ?_
            refine XO.v (V.fieldAddr rfl fo_35_0) rfl ?_
            refine XO.v (V.load rfl (inXM .here) (encR.ld_U_Here _ _ (by omega)) sc_4) rfl ?_
            refine XO.v (V.move rfl) rfl ?_
            refine XO.split (d := 42) rfl (fun h6 => ?_) (fun h6 => ?_)
            · try simp only [sb] at h6
              refine XO.guardRun rfl rfl rfl ?_
              refine XO.v (V.move rfl) rfl ?_
              refine XO.guardRun rfl rfl rfl ?_
              refine XO.v (V.move rfl) rfl ?_
              refine XO.guardRun rfl rfl rfl ?_
              refine XO.v (V.nilCheckP rfl) rfl ?_
              refine XO.guardRun rfl rfl rfl ?_
              refine XO.v (V.fieldAddr rfl fo_38_0) rfl ?_
              refine XO.guardRun rfl rfl rfl ?_
              refine XO.v (V.indexArr rfl rfl ar_36 (by omega)) rfl ?_
              refine XO.guardRun rfl rfl rfl ?_
              refine XO.v (V.fieldAddr rfl fo_35_4) rfl ?_
              refine XO.guardRun rfl rfl rfl ?_
              refine XO.v (V.load rfl (inXM .here) (encR.ld_U_In _ _ (by omega)) sc_3) rfl ?_
              refine XO.guardRun rfl rfl rfl ?_
              refine XO.v (V.move rfl) rfl ?_
              refine XO.guardRun rfl rfl rfl ?_
              refine XO.v (V.cmp rfl rfl rfl) rfl ?_
              refine XO.v (V.pick rfl rfl rfl rfl) rfl ?_
              refine XO.v (V.move rfl) rfl ?_
              refine XO.splitP (d := 53) rfl (fun h7 => ?_) (fun h7 => ?_)
              · skip
                refine XO.guardRun rfl rfl rfl ?_
                refine XO.v (V.move rfl) rfl ?_
                refine XO.guardRun rfl rfl rfl ?_
                refine XO.v (V.move rfl) rfl ?_
                refine XO.guardRun rfl rfl rfl ?_
                refine XO.v (V.nilCheckP rfl) rfl ?_
                refine XO.guardRun rfl rfl rfl ?_
                refine XO.v (V.fieldAddr rfl fo_38_0) rfl ?_
                refine XO.guardRun rfl rfl rfl ?_
                refine XO.v (V.indexArr rfl rfl ar_36 (by omega)) rfl ?_
                refine XO.guardRun rfl rfl rfl ?_
                refine XO.v (V.fieldAddr rfl fo_35_3) rfl ?_
                refine XO.guardRun rfl rfl rfl ?_
                refine XO.v (V.load rfl (inXM .here) (encR.ld_U_Was _ _ (by omega)) sc_4) rfl ?_
                refine XO.v (V.pick rfl rfl rfl rfl) rfl ?_
                refine XO.nil ?_
                refine XE.next ?_
                refine XC.keep [(0, _), (1, _), (6, _), (61, _)] (Sub.cons rfl (Sub.cons rfl (Sub.cons rfl (Sub.cons rfl (Sub.nil _))))) ?_
                refine XC.cond rfl (fun h8 => ?_) (fun h8 => ?_)
                · try simp only [sb] at h8
                  refine XC.seq ?_
                  refine XC.region ?_
                  refine XO.v (V.assign rfl) rfl ?_
                  refine XO.nil ?_
                  refine XE.next ?_
                  refine XC.keep [(4, _)] (Sub.cons rfl (Sub.nil _)) ?_
                  refine XC.ret ?_
                  refine XE.blockRet ?_
                  refine XE.thenRet ?_
                  refine XE.thenRet ?_
                  refine XE.blockRet ?_
                  refine XE.thenRet ?_
                  refine XE.ret1 rfl rfl (post_of (.cons .here .nil) rfl ?_)
                  have hkd : s.kid n = true := (s.kid_true n).2 ⟨k, by omega, by omega, by simp_all, by simp_all⟩
                  have hr : s.ready n = true := by
                    unfold SF.ready
                    rw [if_neg (by omega), hkd, rq1, rq2]; rfl
                  exact ⟨by rw [hr], rfl⟩
                · try simp only [sb] at h8
                  refine XC.skip ?_
                  refine XE.blockNormal ?_
                  refine XE.next ?_
                  refine XC.keep [(0, _), (1, _), (6, _)] (Sub.cons rfl (Sub.cons rfl (Sub.cons rfl (Sub.nil _)))) ?_
                  refine XC.region ?_
                  refine XO.v (V.move rfl) rfl ?_
                  refine XO.v (V.add rfl rfl _ (IntWalk.i64_in _ (by omega))) rfl ?_
                  refine XO.v (V.assign rfl) rfl ?_
                  refine XO.nil ?_
                  refine XE.again (k + 1) ?_ ?_ (Sub.cons rfl (Sub.cons rfl (Sub.cons rfl (Sub.nil _)))) (fun _ hw => XM.pick (.cons .here .nil) hw)
                  · skip
                    (first | omega | (simp; done) | (simp; omega))
                  · skip
                    refine ⟨by omega, fun j h1 h2 => ?_⟩
                    by_cases hj : j = k
                    · subst hj; rintro ⟨q1, q2, q3⟩; simp_all
                    · exact hk2 j h1 (by omega)
              · skip
                refine XO.guardSkip rfl rfl rfl rfl rfl ?_
                refine XO.guardSkip rfl rfl rfl rfl rfl ?_
                refine XO.guardSkip rfl rfl rfl rfl rfl ?_
                refine XO.guardSkip rfl rfl rfl rfl rfl ?_
                refine XO.guardSkip rfl rfl rfl rfl rfl ?_
                refine XO.guardSkip rfl rfl rfl rfl rfl ?_
                refine XO.guardSkip rfl rfl rfl rfl rfl ?_
                refine XO.v (V.pick rfl rfl rfl rfl) rfl ?_
                refine XO.nil ?_
                refine XE.next ?_
                refine XC.keep [(0, _), (1, _), (6, _), (61, _)] (Sub.cons rfl (Sub.cons rfl (Sub.cons rfl (Sub.cons rfl (Sub.nil _))))) ?_
                refine XC.condF rfl rfl ?_
                refine XC.skip ?_
                refine XE.blockNormal ?_
                refine XE.next ?_
                refine XC.keep [(0, _), (1, _), (6, _)] (Sub.cons rfl (Sub.cons rfl (Sub.cons rfl (Sub.nil _)))) ?_
                refine XC.region ?_
                refine XO.v (V.move rfl) rfl ?_
                refine XO.v (V.add rfl rfl _ (IntWalk.i64_in _ (by omega))) rfl ?_
                refine XO.v (V.assign rfl) rfl ?_
                refine XO.nil ?_
                refine XE.again (k + 1) ?_ ?_ (Sub.cons rfl (Sub.cons rfl (Sub.cons rfl (Sub.nil _)))) (fun _ hw => XM.pick (.cons .here .nil) hw)
                · skip
                  (first | omega | (simp; done) | (simp; omega))
                · skip
                  refine ⟨by omega, fun j h1 h2 => ?_⟩
                  by_cases hj : j = k
                  · subst hj; rintro ⟨q1, q2, q3⟩; simp_all
                  · exact hk2 j h1 (by omega)
            · try simp only [sb] at h6
              refine XO.guardSkip rfl rfl rfl rfl rfl ?_
              refine XO.guardSkip rfl rfl rfl rfl rfl ?_
              refine XO.guardSkip rfl rfl rfl rfl rfl ?_
              refine XO.guardSkip rfl rfl rfl rfl rfl ?_
              refine XO.guardSkip rfl rfl rfl rfl rfl ?_
              refine XO.guardSkip rfl rfl rfl rfl rfl ?_
              refine XO.guardSkip rfl rfl rfl rfl rfl ?_
              refine XO.guardSkip rfl rfl rfl rfl rfl ?_
              refine XO.guardSkip rfl rfl rfl rfl rfl ?_
              refine XO.v (V.pick rfl rfl rfl rfl) rfl ?_
              refine XO.v (V.move rfl) rfl ?_
              refine XO.guardSkip rfl rfl rfl rfl rfl ?_
              refine XO.guardSkip rfl rfl rfl rfl rfl ?_
              refine XO.guardSkip rfl rfl rfl rfl rfl ?_
              refine XO.guardSkip rfl rfl rfl rfl rfl ?_
              refine XO.guardSkip rfl rfl rfl rfl rfl ?_
              refine XO.guardSkip rfl rfl rfl rfl rfl ?_
              refine XO.guardSkip rfl rfl rfl rfl rfl ?_
              refine XO.v (V.pick rfl rfl rfl rfl) rfl ?_
              refine XO.nil ?_
              refine XE.next ?_
              refine XC.keep [(0, _), (1, _), (6, _), (61, _)] (Sub.cons rfl (Sub.cons rfl (Sub.cons rfl (Sub.cons rfl (Sub.nil _))))) ?_
              refine XC.condF rfl rfl ?_
              refine XC.skip ?_
              refine XE.blockNormal ?_
              refine XE.next ?_
              refine XC.keep [(0, _), (1, _), (6, _)] (Sub.cons rfl (Sub.cons rfl (Sub.cons rfl (Sub.nil _)))) ?_
              refine XC.region ?_
              refine XO.v (V.move rfl) rfl ?_
              refine XO.v (V.add rfl rfl _ (IntWalk.i64_in _ (by omega))) rfl ?_
              refine XO.v (V.assign rfl) rfl ?_
              refine XO.nil ?_
              refine XE.again (k + 1) ?_ ?_ (Sub.cons rfl (Sub.cons rfl (Sub.cons rfl (Sub.nil _)))) (fun _ hw => XM.pick (.cons .here .nil) hw)
              · skip
                (first | omega | (simp; done) | (simp; omega))
              · skip
                refine ⟨by omega, fun j h1 h2 => ?_⟩
                by_cases hj : j = k
                · subst hj; rintro ⟨q1, q2, q3⟩; simp_all
                · exact hk2 j h1 (by omega)
          · skip
            refine XC.exit ?_
            refine XE.thenExit ?_
            refine XE.thenExit ?_
            refine XE.blockExit ?_
            refine XE.next ?_
            refine XC.keep [] (Sub.nil _) ?_
            refine XC.seq ?_
            refine XC.region ?_
            refine XO.v (V.assign rfl) rfl ?_
            refine XO.nil ?_
            refine XE.next ?_
            refine XC.keep [(4, _)] (Sub.cons rfl (Sub.nil _)) ?_
            refine XC.ret ?_
            refine XE.ret1 rfl rfl (post_of (.cons .here .nil) rfl ?_)
            have hkd : s.kid n = false := by
              cases q : s.kid n with
              | false => rfl
              | true =>
                obtain ⟨i, i0, i1, i2, i3⟩ := (s.kid_true n).1 q
                have := hI.was i i2
                exact absurd ⟨this.2.2, i3, i2⟩ (hk2 i (by omega) (by omega))
            have hr : s.ready n = false := by
              unfold SF.ready
              rw [if_neg (by omega), hkd]; rfl
            exact ⟨by rw [hr], rfl⟩
      · skip
        refine XO.guardSkip rfl rfl rfl rfl rfl ?_
        refine XO.guardSkip rfl rfl rfl rfl rfl ?_
        refine XO.guardSkip rfl rfl rfl rfl rfl ?_
        refine XO.guardSkip rfl rfl rfl rfl rfl ?_
        refine XO.guardSkip rfl rfl rfl rfl rfl ?_
        refine XO.guardRun rfl rfl rfl ?_
        refine XO.v (V.pick rfl rfl rfl rfl) rfl ?_
        refine XO.v (V.pick rfl rfl rfl rfl) rfl ?_
        refine XO.nil ?_
        refine XE.next ?_
        refine XC.keep [(0, _), (1, _), (30, _)] (Sub.cons rfl (Sub.cons rfl (Sub.cons rfl (Sub.nil _)))) ?_
        refine XC.condF rfl rfl ?_
        refine XC.skip ?_
        refine XE.next ?_
        refine XC.keep [(0, _), (1, _)] (Sub.cons rfl (Sub.cons rfl (Sub.nil _))) ?_
        refine XC.seq ?_
        refine XC.seq ?_
        refine XC.region ?_
        have rq1 : (!s.frz n) = true := by simp_all
        have rq2 : (decide (s.quota n = 0) || decide (s.used n < s.quota n)) = true := by
          by_cases c : s.quota n = 0
          · simp [c]
          · have : s.used n < s.quota n := by omega
            simp [this]
        refine XO.v (V.assign rfl) rfl ?_
        refine XO.nil ?_
        refine XE.next ?_
        refine XC.keep [(0, _), (1, _), (6, _)] (Sub.cons rfl (Sub.cons rfl (Sub.cons rfl (Sub.nil _)))) ?_
        refine XC.block ?_
        refine XC.loop (σ := Int) (fun k => (30 - k).toNat) (fun k => (1 ≤ k ∧ k ≤ 30) ∧ ∀ j : Int, 1 ≤ j → j < k → ¬ (s.here j = true ∧ s.par j = n ∧ s.was j = true)) (fun k => [(6, .int .i64 k), (0, ptr b o 0), (1, .int .i64 n)]) (fun k => XM W (foot [.cells b o 361 (encR s)]) [.cells b o 361 (encR s)]) (1) ?_ (Sub.cons rfl (Sub.cons rfl (Sub.cons rfl (Sub.nil _)))) (fun _ hw => XM.pick (.cons (.there .here) .nil) hw) ?_
        · skip
          exact ⟨by omega, fun j h1 h2 => by omega⟩
        intro k hk
        obtain ⟨hk, hk2⟩ := hk
        refine XC.seq ?_
        refine XC.seq ?_
        refine XC.region ?_
        refine XO.v (V.move rfl) rfl ?_
        refine XO.v (V.cmp rfl rfl rfl) rfl ?_
        refine XO.nil ?_
        refine XE.next ?_
        refine XC.keep [(0, _), (1, _), (6, _), (32, _)] (Sub.cons rfl (Sub.cons rfl (Sub.cons rfl (Sub.cons rfl (Sub.nil _))))) ?_
        refine XC.condP rfl (fun h9 => ?_) (fun h9 => ?_)
        · skip
          refine XC.skip ?_
          refine XE.next ?_
          refine XC.keep [(0, _), (1, _), (6, _)] (Sub.cons rfl (Sub.cons rfl (Sub.cons rfl (Sub.nil _)))) ?_
          refine XC.seq ?_
          refine XC.block ?_
          refine XC.seq ?_
          refine XC.region ?_
          refine XO.v (V.move rfl) rfl ?_
          refine XO.v (V.move rfl) rfl ?_
          refine XO.v (V.nilCheckP rfl) rfl ?_
          refine XO.v (V.fieldAddr rfl fo_38_0) rfl ?_
          refine XO.v (V.indexArr rfl rfl ar_36 (by omega)) rfl ?_
          refine XO.v (V.fieldAddr rfl fo_35_0) rfl ?_
          refine XO.v (V.load rfl (inXM .here) (encR.ld_U_Here _ _ (by omega)) sc_4) rfl ?_
          refine XO.v (V.move rfl) rfl ?_
          refine XO.split (d := 42) rfl (fun h10 => ?_) (fun h10 => ?_)
          · try simp only [sb] at h10
            refine XO.guardRun rfl rfl rfl ?_
            refine XO.v (V.move rfl) rfl ?_
            refine XO.guardRun rfl rfl rfl ?_
            refine XO.v (V.move rfl) rfl ?_
            refine XO.guardRun rfl rfl rfl ?_
            refine XO.v (V.nilCheckP rfl) rfl ?_
            refine XO.guardRun rfl rfl rfl ?_
            refine XO.v (V.fieldAddr rfl fo_38_0) rfl ?_
            refine XO.guardRun rfl rfl rfl ?_
            refine XO.v (V.indexArr rfl rfl ar_36 (by omega)) rfl ?_
            refine XO.guardRun rfl rfl rfl ?_
            refine XO.v (V.fieldAddr rfl fo_35_4) rfl ?_
            refine XO.guardRun rfl rfl rfl ?_
            refine XO.v (V.load rfl (inXM .here) (encR.ld_U_In _ _ (by omega)) sc_3) rfl ?_
            refine XO.guardRun rfl rfl rfl ?_
            refine XO.v (V.move rfl) rfl ?_
            refine XO.guardRun rfl rfl rfl ?_
            refine XO.v (V.cmp rfl rfl rfl) rfl ?_
            refine XO.v (V.pick rfl rfl rfl rfl) rfl ?_
            refine XO.v (V.move rfl) rfl ?_
            refine XO.splitP (d := 53) rfl (fun h11 => ?_) (fun h11 => ?_)
            · skip
              refine XO.guardRun rfl rfl rfl ?_
              refine XO.v (V.move rfl) rfl ?_
              refine XO.guardRun rfl rfl rfl ?_
              refine XO.v (V.move rfl) rfl ?_
              refine XO.guardRun rfl rfl rfl ?_
              refine XO.v (V.nilCheckP rfl) rfl ?_
              refine XO.guardRun rfl rfl rfl ?_
              refine XO.v (V.fieldAddr rfl fo_38_0) rfl ?_
              refine XO.guardRun rfl rfl rfl ?_
              refine XO.v (V.indexArr rfl rfl ar_36 (by omega)) rfl ?_
              refine XO.guardRun rfl rfl rfl ?_
              refine XO.v (V.fieldAddr rfl fo_35_3) rfl ?_
              refine XO.guardRun rfl rfl rfl ?_
              refine XO.v (V.load rfl (inXM .here) (encR.ld_U_Was _ _ (by omega)) sc_4) rfl ?_
              refine XO.v (V.pick rfl rfl rfl rfl) rfl ?_
              refine XO.nil ?_
              refine XE.next ?_
              refine XC.keep [(0, _), (1, _), (6, _), (61, _)] (Sub.cons rfl (Sub.cons rfl (Sub.cons rfl (Sub.cons rfl (Sub.nil _))))) ?_
              refine XC.cond rfl (fun h12 => ?_) (fun h12 => ?_)
              · try simp only [sb] at h12
                refine XC.seq ?_
                refine XC.region ?_
                refine XO.v (V.assign rfl) rfl ?_
                refine XO.nil ?_
                refine XE.next ?_
                refine XC.keep [(4, _)] (Sub.cons rfl (Sub.nil _)) ?_
                refine XC.ret ?_
                refine XE.blockRet ?_
                refine XE.thenRet ?_
                refine XE.thenRet ?_
                refine XE.blockRet ?_
                refine XE.thenRet ?_
                refine XE.ret1 rfl rfl (post_of (.cons .here .nil) rfl ?_)
                have hkd : s.kid n = true := (s.kid_true n).2 ⟨k, by omega, by omega, by simp_all, by simp_all⟩
                have hr : s.ready n = true := by
                  unfold SF.ready
                  rw [if_neg (by omega), hkd, rq1, rq2]; rfl
                exact ⟨by rw [hr], rfl⟩
              · try simp only [sb] at h12
                refine XC.skip ?_
                refine XE.blockNormal ?_
                refine XE.next ?_
                refine XC.keep [(0, _), (1, _), (6, _)] (Sub.cons rfl (Sub.cons rfl (Sub.cons rfl (Sub.nil _)))) ?_
                refine XC.region ?_
                refine XO.v (V.move rfl) rfl ?_
                refine XO.v (V.add rfl rfl _ (IntWalk.i64_in _ (by omega))) rfl ?_
                refine XO.v (V.assign rfl) rfl ?_
                refine XO.nil ?_
                refine XE.again (k + 1) ?_ ?_ (Sub.cons rfl (Sub.cons rfl (Sub.cons rfl (Sub.nil _)))) (fun _ hw => XM.pick (.cons .here .nil) hw)
                · skip
                  (first | omega | (simp; done) | (simp; omega))
                · skip
                  refine ⟨by omega, fun j h1 h2 => ?_⟩
                  by_cases hj : j = k
                  · subst hj; rintro ⟨q1, q2, q3⟩; simp_all
                  · exact hk2 j h1 (by omega)
            · skip
              refine XO.guardSkip rfl rfl rfl rfl rfl ?_
              refine XO.guardSkip rfl rfl rfl rfl rfl ?_
              refine XO.guardSkip rfl rfl rfl rfl rfl ?_
              refine XO.guardSkip rfl rfl rfl rfl rfl ?_
              refine XO.guardSkip rfl rfl rfl rfl rfl ?_
              refine XO.guardSkip rfl rfl rfl rfl rfl ?_
              refine XO.guardSkip rfl rfl rfl rfl rfl ?_
              refine XO.v (V.pick rfl rfl rfl rfl) rfl ?_
              refine XO.nil ?_
              refine XE.next ?_
              refine XC.keep [(0, _), (1, _), (6, _), (61, _)] (Sub.cons rfl (Sub.cons rfl (Sub.cons rfl (Sub.cons rfl (Sub.nil _))))) ?_
              refine XC.condF rfl rfl ?_
              refine XC.skip ?_
              refine XE.blockNormal ?_
              refine XE.next ?_
              refine XC.keep [(0, _), (1, _), (6, _)] (Sub.cons rfl (Sub.cons rfl (Sub.cons rfl (Sub.nil _)))) ?_
              refine XC.region ?_
              refine XO.v (V.move rfl) rfl ?_
              refine XO.v (V.add rfl rfl _ (IntWalk.i64_in _ (by omega))) rfl ?_
              refine XO.v (V.assign rfl) rfl ?_
              refine XO.nil ?_
              refine XE.again (k + 1) ?_ ?_ (Sub.cons rfl (Sub.cons rfl (Sub.cons rfl (Sub.nil _)))) (fun _ hw => XM.pick (.cons .here .nil) hw)
              · skip
                (first | omega | (simp; done) | (simp; omega))
              · skip
                refine ⟨by omega, fun j h1 h2 => ?_⟩
                by_cases hj : j = k
                · subst hj; rintro ⟨q1, q2, q3⟩; simp_all
                · exact hk2 j h1 (by omega)
          · try simp only [sb] at h10
            refine XO.guardSkip rfl rfl rfl rfl rfl ?_
            refine XO.guardSkip rfl rfl rfl rfl rfl ?_
            refine XO.guardSkip rfl rfl rfl rfl rfl ?_
            refine XO.guardSkip rfl rfl rfl rfl rfl ?_
            refine XO.guardSkip rfl rfl rfl rfl rfl ?_
            refine XO.guardSkip rfl rfl rfl rfl rfl ?_
            refine XO.guardSkip rfl rfl rfl rfl rfl ?_
            refine XO.guardSkip rfl rfl rfl rfl rfl ?_
            refine XO.guardSkip rfl rfl rfl rfl rfl ?_
            refine XO.v (V.pick rfl rfl rfl rfl) rfl ?_
            refine XO.v (V.move rfl) rfl ?_
            refine XO.guardSkip rfl rfl rfl rfl rfl ?_
            refine XO.guardSkip rfl rfl rfl rfl rfl ?_
            refine XO.guardSkip rfl rfl rfl rfl rfl ?_
            refine XO.guardSkip rfl rfl rfl rfl rfl ?_
            refine XO.guardSkip rfl rfl rfl rfl rfl ?_
            refine XO.guardSkip rfl rfl rfl rfl rfl ?_
            refine XO.guardSkip rfl rfl rfl rfl rfl ?_
            refine XO.v (V.pick rfl rfl rfl rfl) rfl ?_
            refine XO.nil ?_
            refine XE.next ?_
            refine XC.keep [(0, _), (1, _), (6, _), (61, _)] (Sub.cons rfl (Sub.cons rfl (Sub.cons rfl (Sub.cons rfl (Sub.nil _))))) ?_
            refine XC.condF rfl rfl ?_
            refine XC.skip ?_
            refine XE.blockNormal ?_
            refine XE.next ?_
            refine XC.keep [(0, _), (1, _), (6, _)] (Sub.cons rfl (Sub.cons rfl (Sub.cons rfl (Sub.nil _)))) ?_
            refine XC.region ?_
            refine XO.v (V.move rfl) rfl ?_
            refine XO.v (V.add rfl rfl _ (IntWalk.i64_in _ (by omega))) rfl ?_
            refine XO.v (V.assign rfl) rfl ?_
            refine XO.nil ?_
            refine XE.again (k + 1) ?_ ?_ (Sub.cons rfl (Sub.cons rfl (Sub.cons rfl (Sub.nil _)))) (fun _ hw => XM.pick (.cons .here .nil) hw)
            · skip
              (first | omega | (simp; done) | (simp; omega))
            · skip
              refine ⟨by omega, fun j h1 h2 => ?_⟩
              by_cases hj : j = k
              · subst hj; rintro ⟨q1, q2, q3⟩; simp_all
              · exact hk2 j h1 (by omega)
        · skip
          refine XC.exit ?_
          refine XE.thenExit ?_
          refine XE.thenExit ?_
          refine XE.blockExit ?_
          refine XE.next ?_
          refine XC.keep [] (Sub.nil _) ?_
          refine XC.seq ?_
          refine XC.region ?_
          refine XO.v (V.assign rfl) rfl ?_
          refine XO.nil ?_
          refine XE.next ?_
          refine XC.keep [(4, _)] (Sub.cons rfl (Sub.nil _)) ?_
          refine XC.ret ?_
          refine XE.ret1 rfl rfl (post_of (.cons .here .nil) rfl ?_)
          have hkd : s.kid n = false := by
            cases q : s.kid n with
            | false => rfl
            | true =>
              obtain ⟨i, i0, i1, i2, i3⟩ := (s.kid_true n).1 q
              have := hI.was i i2
              exact absurd ⟨this.2.2, i3, i2⟩ (hk2 i (by omega) (by omega))
          have hr : s.ready n = false := by
            unfold SF.ready
            rw [if_neg (by omega), hkd]; rfl
          exact ⟨by rw [hr], rfl⟩
set_option maxRecDepth 10000 in
set_option maxHeartbeats 2000000 in
theorem r_look (b o : Nat) (s : SF) (d : Int → Nat) (hI : s.Inv d) (n : Int) (hn : n = 0 ∨ (0 < n ∧ n < 30 ∧ s.here n = true)) : Spec Try.prog 41 [ptr b o 0, .int .i64 n]
    [.cells b o 361 (encR s)]
    (fun v H1 => v = .tuple #[] ∧ H1 = [.cells b o 361 (encR (s.look d n))]) := by
  refine Spec.intro Try.func41 rfl rfl ?_
  intro W
  refine XC.block ?_
  refine XC.loop (σ := SF × Int) (fun x => if x.2 = 0 then 0 else d x.2 + 1) (fun x => x.1.Inv d ∧ (x.2 = 0 ∨ (0 < x.2 ∧ x.2 < 30 ∧ x.1.here x.2 = true)) ∧ ∃ k, d x.2 + 1 ≤ k ∧ SF.lookF k x.1 x.2 = s.look d n) (fun x => [(1, .int .i64 x.2), (0, ptr b o 0)]) (fun x => XM W (foot [.cells b o 361 (encR s)]) [.cells b o 361 (encR x.1)]) ((s, n)) ?_ (Sub.cons rfl (Sub.cons rfl (Sub.nil _))) (fun _ hw => XM.pick (.cons .here .nil) hw) ?_
  · skip
    exact ⟨hI, hn, d n + 1, Nat.le_refl _, rfl⟩
  intro x hx
  obtain ⟨xI, xn, k, hk, xl⟩ := hx
  refine XC.seq ?_
  refine XC.seq ?_
  refine XC.region ?_
  refine XO.v (V.move rfl) rfl ?_
  refine XO.v (V.cmp rfl rfl rfl) rfl ?_
  refine XO.nil ?_
  refine XE.next ?_
  refine XC.keep [(0, _), (1, _), (6, _)] (Sub.cons rfl (Sub.cons rfl (Sub.cons rfl (Sub.nil _)))) ?_
  refine XC.condP rfl (fun h1 => ?_) (fun h1 => ?_)
  · skip
    obtain ⟨n0, n1, n2⟩ := xn.resolve_left (by omega)
    obtain ⟨p0, pp1, p2, p3⟩ := xI.up x.2 n0 n1 n2
    obtain ⟨k, rfl⟩ : ∃ k2, k = k2 + 1 := ⟨k - 1, by omega⟩
    rw [SF.lookF_go _ _ n0] at xl
    have hpn : (x.1.par x.2) = 0 ∨ (0 < (x.1.par x.2) ∧ (x.1.par x.2) < 30 ∧ x.1.here (x.1.par x.2) = true) := by
      by_cases c : (x.1.par x.2) = 0
      · exact .inl c
      · exact .inr ⟨by omega, by omega, p2⟩
    refine XC.skip ?_
    refine XE.next ?_
    refine XC.keep [(0, _), (1, _)] (Sub.cons rfl (Sub.cons rfl (Sub.nil _))) ?_
    refine XC.block ?_
    refine XC.seq ?_
    refine XC.region ?_
    refine XO.v (V.move rfl) rfl ?_
    refine XO.v (V.move rfl) rfl ?_
    refine XO.call rfl (r_Ready _ _ _ d xI _ (by omega)) (.cons .here .nil) cl_42 rfl ?_
    rintro _ _ ⟨rfl, rfl⟩
    refine XO.v (V.assign rfl) rfl ?_
    refine XO.nil ?_
    refine XE.next ?_
    refine XC.keep [(0, _), (1, _), (4, _)] (Sub.cons rfl (Sub.cons rfl (Sub.cons rfl (Sub.nil _)))) ?_
    refine XC.seq ?_
    refine XC.seq ?_
    refine XC.region ?_
    refine XO.v (V.move rfl) rfl ?_
    refine XO.v (V.move rfl) rfl ?_
    refine XO.split (d := 11) rfl (fun h2 => ?_) (fun h2 => ?_)
    · try simp only [sb] at h2
      have hrd : x.1.ready x.2 = true := h2
      refine XO.guardRun rfl rfl rfl ?_
      refine XO.v (V.move rfl) rfl ?_
      refine XO.guardRun rfl rfl rfl ?_
      refine XO.v (V.move rfl) rfl ?_
      refine XO.guardRun rfl rfl rfl ?_
      refine XO.v (V.nilCheckP rfl) rfl ?_
      refine XO.guardRun rfl rfl rfl ?_
      refine XO.v (V.fieldAddr rfl fo_38_0) rfl ?_
      refine XO.guardRun rfl rfl rfl ?_
      refine XO.v (V.indexArr rfl rfl ar_36 (by omega)) rfl ?_
      refine XO.guardRun rfl rfl rfl ?_
      refine XO.v (V.fieldAddr rfl fo_35_3) rfl ?_
      refine XO.guardRun rfl rfl rfl ?_
      refine XO.v (V.load rfl (inXM .here) (encR.ld_U_Was _ _ (by omega)) sc_4) rfl ?_
      refine XO.guardRun rfl rfl rfl ?_
      refine XO.v (V.not rfl) rfl ?_
      refine XO.v (V.pick rfl rfl rfl rfl) rfl ?_
      refine XO.nil ?_
      refine XE.next ?_
      refine XC.keep [(0, _), (1, _), (4, _), (20, _)] (Sub.cons rfl (Sub.cons rfl (Sub.cons rfl (Sub.cons rfl (Sub.nil _))))) ?_
      refine XC.cond rfl (fun h3 => ?_) (fun h3 => ?_)
      · try simp only [sb] at h3
        have hwf : x.1.was x.2 = false := by simpa using h3
        refine XC.regionQ mixed (f := 28) (l := #[false, false, false, false, false, false, false, false, false, false, false, false, false, false, false, false, false, false, false, false, false, false, false, false, false, false, false, false]) rfl rfl XM.drawn' ?_
        have hstT : x.1.stp x.2 = { x.1 with v := fset x.1.v x.2 (max (x.1.v x.2) (x.1.floor (x.1.par x.2))), was := fset x.1.was x.2 (x.1.ready x.2) } := by unfold SF.stp; rw [if_pos ⟨hrd, hwf⟩]
        refine XQ.pv (i := 0) (l' := #[true, false, false, false, false, false, false, false, false, false, false, false, false, false, false, false, false, false, false, false, false, false, false, false, false, false, false, false]) rfl (by kernel_rfl) rfl (V.move rfl) rfl rfl ?_
        refine XQ.pv (i := 1) (l' := #[true, true, false, false, false, false, false, false, false, false, false, false, false, false, false, false, false, false, false, false, false, false, false, false, false, false, false, false]) rfl (by kernel_rfl) rfl (V.move rfl) rfl rfl ?_
        refine XQ.pv (i := 2) (l' := #[true, true, true, false, false, false, false, false, false, false, false, false, false, false, false, false, false, false, false, false, false, false, false, false, false, false, false, false]) rfl (by kernel_rfl) rfl (V.move rfl) rfl rfl ?_
        refine XQ.pv (i := 3) (l' := #[true, true, true, true, false, false, false, false, false, false, false, false, false, false, false, false, false, false, false, false, false, false, false, false, false, false, false, false]) rfl (by kernel_rfl) rfl (V.move rfl) rfl rfl ?_
        refine XQ.pv (i := 4) (l' := #[true, true, true, true, true, false, false, false, false, false, false, false, false, false, false, false, false, false, false, false, false, false, false, false, false, false, false, false]) rfl (by kernel_rfl) rfl (V.nilCheckP rfl) rfl rfl ?_
        refine XQ.pv (i := 5) (l' := #[true, true, true, true, true, true, false, false, false, false, false, false, false, false, false, false, false, false, false, false, false, false, false, false, false, false, false, false]) rfl (by kernel_rfl) rfl (V.fieldAddr rfl fo_38_0) rfl rfl ?_
        refine XQ.pv (i := 6) (l' := #[true, true, true, true, true, true, true, false, false, false, false, false, false, false, false, false, false, false, false, false, false, false, false, false, false, false, false, false]) rfl (by kernel_rfl) rfl (V.indexArr rfl rfl ar_36 (by omega)) rfl rfl ?_
        refine XQ.pv (i := 7) (l' := #[true, true, true, true, true, true, true, true, false, false, false, false, false, false, false, false, false, false, false, false, false, false, false, false, false, false, false, false]) rfl (by kernel_rfl) rfl (V.fieldAddr rfl fo_35_7) rfl rfl ?_
        refine XQ.load (i := 8) (l' := #[true, true, true, true, true, true, true, true, true, false, false, false, false, false, false, false, false, false, false, false, false, false, false, false, false, false, false, false]) (.cells _ _ _ _) [27] rfl (by kernel_rfl) rfl .here (V.load rfl inEnt (encR.ld_U_Time _ _ (by omega)) sc_3) rfl (by kernel_rfl) rfl ?_
        refine XQ.pv (i := 9) (l' := #[true, true, true, true, true, true, true, true, true, true, false, false, false, false, false, false, false, false, false, false, false, false, false, false, false, false, false, false]) rfl (by kernel_rfl) rfl (V.move rfl) rfl rfl ?_
        refine XQ.pv (i := 10) (l' := #[true, true, true, true, true, true, true, true, true, true, true, false, false, false, false, false, false, false, false, false, false, false, false, false, false, false, false, false]) rfl (by kernel_rfl) rfl (V.move rfl) rfl rfl ?_
        refine XQ.pv (i := 11) (l' := #[true, true, true, true, true, true, true, true, true, true, true, true, false, false, false, false, false, false, false, false, false, false, false, false, false, false, false, false]) rfl (by kernel_rfl) rfl (V.move rfl) rfl rfl ?_
        refine XQ.pv (i := 12) (l' := #[true, true, true, true, true, true, true, true, true, true, true, true, true, false, false, false, false, false, false, false, false, false, false, false, false, false, false, false]) rfl (by kernel_rfl) rfl (V.nilCheckP rfl) rfl rfl ?_
        refine XQ.pv (i := 13) (l' := #[true, true, true, true, true, true, true, true, true, true, true, true, true, true, false, false, false, false, false, false, false, false, false, false, false, false, false, false]) rfl (by kernel_rfl) rfl (V.fieldAddr rfl fo_38_0) rfl rfl ?_
        refine XQ.pv (i := 14) (l' := #[true, true, true, true, true, true, true, true, true, true, true, true, true, true, true, false, false, false, false, false, false, false, false, false, false, false, false, false]) rfl (by kernel_rfl) rfl (V.indexArr rfl rfl ar_36 (by omega)) rfl rfl ?_
        refine XQ.pv (i := 15) (l' := #[true, true, true, true, true, true, true, true, true, true, true, true, true, true, true, true, false, false, false, false, false, false, false, false, false, false, false, false]) rfl (by kernel_rfl) rfl (V.fieldAddr rfl fo_35_4) rfl rfl ?_
        refine XQ.load (i := 16) (l' := #[true, true, true, true, true, true, true, true, true, true, true, true, true, true, true, true, true, false, false, false, false, false, false, false, false, false, false, false]) (.cells _ _ _ _) [27] rfl (by kernel_rfl) rfl .here (V.load rfl inEnt (encR.ld_U_In _ _ (by omega)) sc_3) rfl (by kernel_rfl) rfl ?_
        refine XQ.pv (i := 17) (l' := #[true, true, true, true, true, true, true, true, true, true, true, true, true, true, true, true, true, true, false, false, false, false, false, false, false, false, false, false]) rfl (by kernel_rfl) rfl (V.nilCheckP rfl) rfl rfl ?_
        refine XQ.pv (i := 18) (l' := #[true, true, true, true, true, true, true, true, true, true, true, true, true, true, true, true, true, true, true, false, false, false, false, false, false, false, false, false]) rfl (by kernel_rfl) rfl (V.fieldAddr rfl fo_38_0) rfl rfl ?_
        refine XQ.pv (i := 19) (l' := #[true, true, true, true, true, true, true, true, true, true, true, true, true, true, true, true, true, true, true, true, false, false, false, false, false, false, false, false]) rfl (by kernel_rfl) rfl (V.indexArr rfl rfl ar_36 (by omega)) rfl rfl ?_
        refine XQ.pv (i := 20) (l' := #[true, true, true, true, true, true, true, true, true, true, true, true, true, true, true, true, true, true, true, true, true, false, false, false, false, false, false, false]) rfl (by kernel_rfl) rfl (V.fieldAddr rfl fo_35_8) rfl rfl ?_
        refine XQ.load (i := 21) (l' := #[true, true, true, true, true, true, true, true, true, true, true, true, true, true, true, true, true, true, true, true, true, true, false, false, false, false, false, false]) (.cells _ _ _ _) [27] rfl (by kernel_rfl) rfl .here (V.load rfl inEnt (encR.ld_U_Floor _ _ (by omega)) sc_3) rfl (by kernel_rfl) rfl ?_
        refine XQ.pv (i := 22) (l' := #[true, true, true, true, true, true, true, true, true, true, true, true, true, true, true, true, true, true, true, true, true, true, true, false, false, false, false, false]) rfl (by kernel_rfl) rfl (V.max2 rfl rfl) rfl rfl ?_
        refine XQ.pv (i := 23) (l' := #[true, true, true, true, true, true, true, true, true, true, true, true, true, true, true, true, true, true, true, true, true, true, true, true, false, false, false, false]) rfl (by kernel_rfl) rfl (V.nilCheckP rfl) rfl rfl ?_
        refine XQ.pv (i := 24) (l' := #[true, true, true, true, true, true, true, true, true, true, true, true, true, true, true, true, true, true, true, true, true, true, true, true, true, false, false, false]) rfl (by kernel_rfl) rfl (V.fieldAddr rfl fo_38_0) rfl rfl ?_
        refine XQ.pv (i := 25) (l' := #[true, true, true, true, true, true, true, true, true, true, true, true, true, true, true, true, true, true, true, true, true, true, true, true, true, true, false, false]) rfl (by kernel_rfl) rfl (V.indexArr rfl rfl ar_36 (by omega)) rfl rfl ?_
        refine XQ.pv (i := 26) (l' := #[true, true, true, true, true, true, true, true, true, true, true, true, true, true, true, true, true, true, true, true, true, true, true, true, true, true, true, false]) rfl (by kernel_rfl) rfl (V.fieldAddr rfl fo_35_7) rfl rfl ?_
        refine XQ.store (i := 27) (l' := #[true, true, true, true, true, true, true, true, true, true, true, true, true, true, true, true, true, true, true, true, true, true, true, true, true, true, true, true]) rfl (by kernel_rfl) rfl rfl rfl .here (encR.st_U_Time _ _ (by omega) _) rfl sz_3_1 (fun _ hw' => ⟨fun hs => (hs 27 (by simp) rfl).elim, fun hs => (hs 27 (by simp) rfl).elim, fun hs => (hs 27 (by simp) rfl).elim, trivial⟩) ?_
        refine XQ.done (by kernel_rfl) ?_
        refine XE.next ?_
        refine XC.keep [(0, _), (1, _), (4, _)] (Sub.cons rfl (Sub.cons rfl (Sub.cons rfl (Sub.nil _)))) ?_
        refine XC.seq ?_
        refine XC.region ?_
        have hstF : ¬ (x.1.ready x.2 = true ∧ x.1.was x.2 = false) → x.1.stp x.2 = { x.1 with was := fset x.1.was x.2 (x.1.ready x.2) } := fun q => by unfold SF.stp; rw [if_neg q, fset_same x.1.v rfl]
        refine XO.v (V.move rfl) rfl ?_
        refine XO.v (V.move rfl) rfl ?_
        refine XO.v (V.move rfl) rfl ?_
        refine XO.v (V.nilCheckP rfl) rfl ?_
        refine XO.v (V.fieldAddr rfl fo_38_0) rfl ?_
        refine XO.v (V.indexArr rfl rfl ar_36 (by omega)) rfl ?_
        refine XO.v (V.fieldAddr rfl fo_35_3) rfl ?_
        refine XO.store rfl rfl .here (encR.st_U_Was _ _ (by omega) _) rfl sz_4_1 ?_
        refine XO.nil ?_
        refine XE.next ?_
        refine XC.keep [(0, _), (1, _)] (Sub.cons rfl (Sub.cons rfl (Sub.nil _))) ?_
        refine XC.region ?_
        refine XO.v (V.move rfl) rfl ?_
        refine XO.v (V.move rfl) rfl ?_
        refine XO.v (V.nilCheckP rfl) rfl ?_
        refine XO.v (V.fieldAddr rfl fo_38_0) rfl ?_
        refine XO.v (V.indexArr rfl rfl ar_36 (by omega)) rfl ?_
        refine XO.v (V.fieldAddr rfl fo_35_4) rfl ?_
        refine XO.v (V.load rfl (inXM .here) (encR.ld_U_In _ _ (by omega)) sc_3) rfl ?_
        refine XO.v (V.assign rfl) rfl ?_
        refine XO.nil ?_
        refine XE.blockNormal ?_
        refine XE.again ((x.1.stp x.2, (x.1.par x.2))) ?_ ?_ (Sub.cons rfl (Sub.cons rfl (Sub.nil _))) (fun _ hw => by rw [hstT]; exact XM.pick (.cons .here .nil) hw)
        · skip
          show (if (x.1.par x.2) = 0 then 0 else d (x.1.par x.2) + 1) < (if x.2 = 0 then 0 else d x.2 + 1)
          rw [if_neg (show ¬ x.2 = 0 by omega)]
          split <;> omega
        · skip
          exact ⟨xI.stp n0 n1 n2, hpn, k, by show d (x.1.par x.2) + 1 ≤ k; omega, xl⟩
      · try simp only [sb] at h3
        have hwt : x.1.was x.2 = true := by simpa using h3
        refine XC.skip ?_
        refine XE.next ?_
        refine XC.keep [(0, _), (1, _), (4, _)] (Sub.cons rfl (Sub.cons rfl (Sub.cons rfl (Sub.nil _)))) ?_
        refine XC.seq ?_
        refine XC.region ?_
        have hstF : ¬ (x.1.ready x.2 = true ∧ x.1.was x.2 = false) → x.1.stp x.2 = { x.1 with was := fset x.1.was x.2 (x.1.ready x.2) } := fun q => by unfold SF.stp; rw [if_neg q, fset_same x.1.v rfl]
        refine XO.v (V.move rfl) rfl ?_
        refine XO.v (V.move rfl) rfl ?_
        refine XO.v (V.move rfl) rfl ?_
        refine XO.v (V.nilCheckP rfl) rfl ?_
        refine XO.v (V.fieldAddr rfl fo_38_0) rfl ?_
        refine XO.v (V.indexArr rfl rfl ar_36 (by omega)) rfl ?_
        refine XO.v (V.fieldAddr rfl fo_35_3) rfl ?_
        refine XO.store rfl rfl .here (encR.st_U_Was _ _ (by omega) _) rfl sz_4_1 ?_
        refine XO.nil ?_
        refine XE.next ?_
        refine XC.keep [(0, _), (1, _)] (Sub.cons rfl (Sub.cons rfl (Sub.nil _))) ?_
        refine XC.region ?_
        refine XO.v (V.move rfl) rfl ?_
        refine XO.v (V.move rfl) rfl ?_
        refine XO.v (V.nilCheckP rfl) rfl ?_
        refine XO.v (V.fieldAddr rfl fo_38_0) rfl ?_
        refine XO.v (V.indexArr rfl rfl ar_36 (by omega)) rfl ?_
        refine XO.v (V.fieldAddr rfl fo_35_4) rfl ?_
        refine XO.v (V.load rfl (inXM .here) (encR.ld_U_In _ _ (by omega)) sc_3) rfl ?_
        refine XO.v (V.assign rfl) rfl ?_
        refine XO.nil ?_
        refine XE.blockNormal ?_
        refine XE.again ((x.1.stp x.2, (x.1.par x.2))) ?_ ?_ (Sub.cons rfl (Sub.cons rfl (Sub.nil _))) (fun _ hw => by rw [hstF (fun q => by rcases q with ⟨q1, q2⟩; simp_all)]; exact XM.pick (.cons .here .nil) hw)
        · skip
          show (if (x.1.par x.2) = 0 then 0 else d (x.1.par x.2) + 1) < (if x.2 = 0 then 0 else d x.2 + 1)
          rw [if_neg (show ¬ x.2 = 0 by omega)]
          split <;> omega
        · skip
          exact ⟨xI.stp n0 n1 n2, hpn, k, by show d (x.1.par x.2) + 1 ≤ k; omega, xl⟩
    · try simp only [sb] at h2
      have hrd : x.1.ready x.2 = false := h2
      refine XO.guardSkip rfl rfl rfl rfl rfl ?_
      refine XO.guardSkip rfl rfl rfl rfl rfl ?_
      refine XO.guardSkip rfl rfl rfl rfl rfl ?_
      refine XO.guardSkip rfl rfl rfl rfl rfl ?_
      refine XO.guardSkip rfl rfl rfl rfl rfl ?_
      refine XO.guardSkip rfl rfl rfl rfl rfl ?_
      refine XO.guardSkip rfl rfl rfl rfl rfl ?_
      refine XO.guardSkip rfl rfl rfl rfl rfl ?_
      refine XO.v (V.pick rfl rfl rfl rfl) rfl ?_
      refine XO.nil ?_
      refine XE.next ?_
      refine XC.keep [(0, _), (1, _), (4, _), (20, _)] (Sub.cons rfl (Sub.cons rfl (Sub.cons rfl (Sub.cons rfl (Sub.nil _))))) ?_
      refine XC.condF rfl rfl ?_
      refine XC.skip ?_
      refine XE.next ?_
      refine XC.keep [(0, _), (1, _), (4, _)] (Sub.cons rfl (Sub.cons rfl (Sub.cons rfl (Sub.nil _)))) ?_
      refine XC.seq ?_
      refine XC.region ?_
      have hstF : ¬ (x.1.ready x.2 = true ∧ x.1.was x.2 = false) → x.1.stp x.2 = { x.1 with was := fset x.1.was x.2 (x.1.ready x.2) } := fun q => by unfold SF.stp; rw [if_neg q, fset_same x.1.v rfl]
      refine XO.v (V.move rfl) rfl ?_
      refine XO.v (V.move rfl) rfl ?_
      refine XO.v (V.move rfl) rfl ?_
      refine XO.v (V.nilCheckP rfl) rfl ?_
      refine XO.v (V.fieldAddr rfl fo_38_0) rfl ?_
      refine XO.v (V.indexArr rfl rfl ar_36 (by omega)) rfl ?_
      refine XO.v (V.fieldAddr rfl fo_35_3) rfl ?_
      refine XO.store rfl rfl .here (encR.st_U_Was _ _ (by omega) _) rfl sz_4_1 ?_
      refine XO.nil ?_
      refine XE.next ?_
      refine XC.keep [(0, _), (1, _)] (Sub.cons rfl (Sub.cons rfl (Sub.nil _))) ?_
      refine XC.region ?_
      refine XO.v (V.move rfl) rfl ?_
      refine XO.v (V.move rfl) rfl ?_
      refine XO.v (V.nilCheckP rfl) rfl ?_
      refine XO.v (V.fieldAddr rfl fo_38_0) rfl ?_
      refine XO.v (V.indexArr rfl rfl ar_36 (by omega)) rfl ?_
      refine XO.v (V.fieldAddr rfl fo_35_4) rfl ?_
      refine XO.v (V.load rfl (inXM .here) (encR.ld_U_In _ _ (by omega)) sc_3) rfl ?_
      refine XO.v (V.assign rfl) rfl ?_
      refine XO.nil ?_
      refine XE.blockNormal ?_
      refine XE.again ((x.1.stp x.2, (x.1.par x.2))) ?_ ?_ (Sub.cons rfl (Sub.cons rfl (Sub.nil _))) (fun _ hw => by rw [hstF (fun q => by rcases q with ⟨q1, q2⟩; simp_all)]; exact XM.pick (.cons .here .nil) hw)
      · skip
        show (if (x.1.par x.2) = 0 then 0 else d (x.1.par x.2) + 1) < (if x.2 = 0 then 0 else d x.2 + 1)
        rw [if_neg (show ¬ x.2 = 0 by omega)]
        split <;> omega
      · skip
        exact ⟨xI.stp n0 n1 n2, hpn, k, by show d (x.1.par x.2) + 1 ≤ k; omega, xl⟩
  · skip
    refine XC.exit ?_
    refine XE.thenExit ?_
    refine XE.thenExit ?_
    refine XE.blockExit ?_
    refine XE.end0 rfl (post_of (.cons .here .nil) rfl ?_)
    have hx0 : x.2 = 0 := by
      rcases xn with q | q
      · exact q
      · omega
    rw [hx0, SF.lookF_stop _ _ (by omega)] at xl
    exact ⟨rfl, by rw [xl]⟩
end Go.X
