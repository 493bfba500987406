import Derived.Test.YtfpdkhncfkefhaaFW
namespace Go.X
open Go Go.Proofs
theorem fo_62_2 : fieldOff Try.prog 62 2 = some 2 := by kernel_rfl
theorem fo_62_4 : fieldOff Try.prog 62 4 = some 4 := by kernel_rfl
set_option maxRecDepth 10000 in
set_option maxHeartbeats 2000000 in
theorem f_charge (b o : Nat) (s : SC) (d : Int → Nat) (hI : s.toSF.Inv d) (hR : s.Rep) (B : Int) (hB : 0 ≤ B ∧ B ≤ 1000000000000000) (hS : s.toSF.Small B) (n : Int) (hn : 0 < n ∧ n < 30 ∧ s.here n = true) (hwn : s.was n = true) : Spec Try.prog 38 [ptr b o 0, .int .i64 n]
    [.cells b o 2281 (encS s), .fam fam30 (s.rows 86)]
    (fun v H1 => v = .tuple #[] ∧ ∃ t : SC, t.toSF = s.toSF.chg n ∧ t.Rep ∧ H1 = [.cells b o 2281 (encS t), .fam fam30 (t.rows 86)]) := by
  obtain ⟨n0, n1, n2⟩ := hn
  obtain ⟨p0, pp1, p2, p3⟩ := hI.up n n0 n1 n2
  have hgq := hR (s.par n) p0 (by omega)
  obtain ⟨hc1, hc2⟩ := hR.cut1 (n := n) ⟨by omega, n1⟩ ⟨p0, by omega⟩ hwn
  have hsn := hS n (by omega) n1
  have hsg := hS (s.par n) p0 (by omega)
  have hwt := hI.wt n (by omega) n1 n2
  have hpn : s.par n ≠ n := fun e => by rw [e] at p3; omega
  have hq0 : 0 ≤ 1048576 / s.wt n ∧ 1048576 / s.wt n ≤ 1048576 := ⟨Int.ediv_nonneg (by omega) (by omega), Int.ediv_le_self _ (by omega)⟩
  have hw1 : ∀ i, fset s.was n false i = true → 0 < i ∧ i < 30 := fun i hi => by
    by_cases c : i = n
    · subst c; exact ⟨n0, n1⟩
    · rw [fset_ne _ _ c] at hi; exact ⟨(hI.was i hi).1, (hI.was i hi).2.1⟩
  refine Spec.intro Try.func38 rfl rfl ?_
  intro W
  refine XC.seq ?_
  refine XC.region ?_
  refine XO.v (V.move rfl) rfl ?_
  refine XO.v (V.move rfl) rfl ?_
  refine XO.v (V.nilCheckP rfl) rfl ?_
  refine XO.v (V.fieldAddr rfl fo_65_0) rfl ?_
  refine XO.v (V.indexArr rfl rfl ar_63 (by omega)) rfl ?_
  refine XO.v (V.assign rfl) rfl ?_
  refine XO.nil ?_
  refine XE.next ?_
  refine XC.keep [(0, _), (1, _), (4, _)] (Sub.cons rfl (Sub.cons rfl (Sub.cons rfl (Sub.nil _)))) ?_
  refine XC.seq ?_
  refine XC.regionQ mixed (f := 9) (l := #[false, false, false, false, false, false, false, false, false]) rfl rfl XM.drawn' ?_
  refine XQ.pv (i := 0) (l' := #[true, false, false, false, false, false, false, false, false]) rfl (by kernel_rfl) rfl (V.move rfl) rfl rfl ?_
  refine XQ.pv (i := 1) (l' := #[true, true, false, false, false, false, false, false, false]) rfl (by kernel_rfl) rfl (V.move rfl) rfl rfl ?_
  refine XQ.pv (i := 2) (l' := #[true, true, true, false, false, false, false, false, false]) rfl (by kernel_rfl) rfl (V.nilCheckP rfl) rfl rfl ?_
  refine XQ.pv (i := 3) (l' := #[true, true, true, true, false, false, false, false, false]) rfl (by kernel_rfl) rfl (V.fieldAddr rfl fo_62_1) rfl rfl ?_
  refine XQ.load (i := 4) (l' := #[true, true, true, true, true, false, false, false, false]) (.cells _ _ _ _) [] rfl (by kernel_rfl) rfl .here (V.load rfl inEnt (encS.ld_u_parent _ _ (by omega)) sc_3) rfl (by kernel_rfl) rfl ?_
  refine XQ.pv (i := 5) (l' := #[true, true, true, true, true, true, false, false, false]) rfl (by kernel_rfl) rfl (V.nilCheckP rfl) rfl rfl ?_
  refine XQ.pv (i := 6) (l' := #[true, true, true, true, true, true, true, false, false]) rfl (by kernel_rfl) rfl (V.fieldAddr rfl fo_65_0) rfl rfl ?_
  refine XQ.pv (i := 7) (l' := #[true, true, true, true, true, true, true, true, false]) rfl (by kernel_rfl) rfl (V.indexArr rfl rfl ar_63 (by omega)) rfl rfl ?_
  refine XQ.pv (i := 8) (l' := #[true, true, true, true, true, true, true, true, true]) rfl (by kernel_rfl) rfl (V.assign rfl) rfl rfl ?_
  refine XQ.done (by kernel_rfl) ?_
  refine XE.next ?_
  refine XC.keep [(0, _), (1, _), (4, _), (5, _)] (Sub.cons rfl (Sub.cons rfl (Sub.cons rfl (Sub.cons rfl (Sub.nil _))))) ?_
  refine XC.seq ?_
  refine XC.region ?_
  refine XO.v (V.move rfl) rfl ?_
  refine XO.v (V.nilCheckP rfl) rfl ?_
  refine XO.v (V.fieldAddr rfl fo_62_6) rfl ?_
  refine XO.v (V.move rfl) rfl ?_
  refine XO.mono (fun _ hw3 => XM.openS (z := (s.par n)) (by omega) (.cons .here (.cons .here .nil)) hw3) ?_
  refine XO.call rfl (q_Cut _ _ _ _ _ hgq.ok hgq.heap _) (.cons .here (.cons .here .nil)) cl_46 rfl ?_
  rintro _ _ ⟨p1, c1, rfl, rfl⟩
  rw [hc1]
  have hRm : SC.Rep (⟨{ s.toSF.chg1 n with was := fset s.was n false }, fset s.Q (s.par n) ((s.Q (s.par n)).cut n).2.2, fset s.P (s.par n) p1, fset s.C (s.par n) c1⟩ : SC) := hR.leave (n := n) ⟨by omega, n1⟩ ⟨p0, by omega⟩ hwn { s.toSF.chg1 n with was := fset s.was n false } rfl (fun i hi => fset_ne _ _ hi) rfl _ _
  have hgm := hRm (s.par n) p0 (by omega)
  refine XO.mono (fun _ hw3 => XM.closeS (z := (s.par n)) (by omega) (.cons .here (.cons .here (.cons .here (.cons .here (.cons .here .nil))))) hw3) ?_
  refine XO.mono (fun _ hw3 => XM.wasS (fset s.was n false) (.cons .here (.cons .here .nil)) hw3) ?_
  refine XO.v (V.move rfl) rfl ?_
  refine XO.v (V.extract rfl rfl) rfl ?_
  refine XO.v (V.extract rfl rfl) rfl ?_
  refine XO.v (V.assign rfl) rfl ?_
  refine XO.v (V.assign rfl) rfl ?_
  refine XO.nil ?_
  refine XE.next ?_
  refine XC.keep [(0, _), (1, _), (4, _), (5, _), (6, _), (7, _)] (Sub.cons rfl (Sub.cons rfl (Sub.cons rfl (Sub.cons rfl (Sub.cons rfl (Sub.cons rfl (Sub.nil _))))))) ?_
  refine XC.seq ?_
  refine XC.seq ?_
  refine XC.region ?_
  refine XO.v (V.move rfl) rfl ?_
  refine XO.v (V.errNil rfl Try.underlying40 rfl) rfl ?_
  refine XO.nil ?_
  refine XE.next ?_
  refine XC.keep [(0, _), (1, _), (4, _), (5, _), (6, _), (30, _)] (Sub.cons rfl (Sub.cons rfl (Sub.cons rfl (Sub.cons rfl (Sub.cons rfl (Sub.cons rfl (Sub.nil _))))))) ?_
  refine XC.condFP rfl (by rw [hc2]; simp) ?_
  refine XC.skip ?_
  refine XE.next ?_
  refine XC.keep [(0, _), (1, _), (4, _), (5, _), (6, _)] (Sub.cons rfl (Sub.cons rfl (Sub.cons rfl (Sub.cons rfl (Sub.cons rfl (Sub.nil _)))))) ?_
  refine XC.seq ?_
  refine XC.region ?_
  refine XO.v (V.move rfl) rfl ?_
  refine XO.v (V.move rfl) rfl ?_
  refine XO.v (V.nilCheckP rfl) rfl ?_
  refine XO.v (V.fieldAddr rfl fo_62_7) rfl ?_
  refine XO.v (V.load rfl (inXM .here) (show _ ∧ _ = Value.int .u64 (s.floor (s.par n)) from encS.ld_u_floor _ _ (by omega)) sc_30) rfl ?_
  refine XO.v (V.move rfl) rfl ?_
  refine XO.v (V.max2 rfl rfl) rfl ?_
  refine XO.v (V.nilCheckP rfl) rfl ?_
  refine XO.v (V.fieldAddr rfl fo_62_7) rfl ?_
  refine XO.store rfl rfl .here (encS.st_u_floor _ _ (by omega) _) rfl sz_30_1 ?_
  refine XO.nil ?_
  refine XE.next ?_
  refine XC.keep [(0, _), (1, _), (4, _), (5, _), (6, _)] (Sub.cons rfl (Sub.cons rfl (Sub.cons rfl (Sub.cons rfl (Sub.cons rfl (Sub.nil _)))))) ?_
  refine XC.seq ?_
  refine XC.region ?_
  refine XO.v (V.move rfl) rfl ?_
  refine XO.v (V.move rfl) rfl ?_
  refine XO.v (V.move rfl) rfl ?_
  refine XO.v (V.nilCheckP rfl) rfl ?_
  refine XO.v (V.fieldAddr rfl fo_62_2) rfl ?_
  refine XO.v (V.load rfl (inXM .here) (show _ ∧ _ = Value.int .i64 (s.wt n) from encS.ld_u_weight _ _ (by omega)) sc_3) rfl ?_
  refine XO.v (V.quo rfl rfl (by first | decide | omega) _ (quo_nn (by omega) (by omega) (by omega))) rfl ?_
  refine XO.v (V.convInt rfl Try.underlying3 Try.underlying30 _ (IntWalk.u64_in _ (by omega))) rfl ?_
  refine XO.v (V.add rfl rfl _ (IntWalk.u64_in _ (by omega))) rfl ?_
  refine XO.v (V.nilCheckP rfl) rfl ?_
  refine XO.v (V.fieldAddr rfl fo_62_3) rfl ?_
  refine XO.store rfl rfl .here (encS.st_u_v _ _ (by omega) _) rfl sz_30_1 ?_
  refine XO.nil ?_
  refine XE.next ?_
  refine XC.keep [(0, _), (1, _), (4, _), (5, _)] (Sub.cons rfl (Sub.cons rfl (Sub.cons rfl (Sub.cons rfl (Sub.nil _))))) ?_
  refine XC.seq ?_
  refine XC.region ?_
  refine XO.v (V.move rfl) rfl ?_
  refine XO.v (V.nilCheckP rfl) rfl ?_
  refine XO.v (V.fieldAddr rfl fo_62_4) rfl ?_
  refine XO.v (V.load rfl (inXM .here) (show _ ∧ _ = Value.int .i64 (s.ran n) from encS.ld_u_ran _ _ (by omega)) sc_3) rfl ?_
  refine XO.v (V.add rfl rfl _ (IntWalk.i64_in _ (by omega))) rfl ?_
  refine XO.v (V.nilCheckP rfl) rfl ?_
  refine XO.v (V.fieldAddr rfl fo_62_4) rfl ?_
  refine XO.store rfl rfl .here (encS.st_u_ran _ _ (by omega) _) rfl sz_3_1 ?_
  refine XO.nil ?_
  refine XE.next ?_
  refine XC.keep [(0, _), (1, _), (4, _), (5, _)] (Sub.cons rfl (Sub.cons rfl (Sub.cons rfl (Sub.cons rfl (Sub.nil _))))) ?_
  refine XC.cut [(0, ptr b o 0), (1, .int .i64 n), (4, ptr b o (0 + 0 + n.toNat * 76)), (5, ptr b o (0 + 0 + (s.par n).toNat * 76))] (XM W (foot [.cells b o 2281 (encS s), .fam fam30 (s.rows 86)]) [.cells b o 2281 (encS (⟨{ s.toSF.chg1 n with was := fset s.was n false }, fset s.Q (s.par n) ((s.Q (s.par n)).cut n).2.2, fset s.P (s.par n) p1, fset s.C (s.par n) c1⟩ : SC)), .fam fam30 (SC.rows 86 (⟨{ s.toSF.chg1 n with was := fset s.was n false }, fset s.Q (s.par n) ((s.Q (s.par n)).cut n).2.2, fset s.P (s.par n) p1, fset s.C (s.par n) c1⟩ : SC))]) ?_ ?_
  · skip
    refine XC.seq ?_
    refine XC.region ?_
    refine XO.v (V.move rfl) rfl ?_
    refine XO.v (V.nilCheckP rfl) rfl ?_
    refine XO.v (V.fieldAddr rfl fo_62_9) rfl ?_
    refine XO.v (V.load rfl (inXM .here) (show _ ∧ _ = Value.int .i64 (s.quota n) from encS.ld_u_quota _ _ (by omega)) sc_3) rfl ?_
    refine XO.v (V.cmp rfl rfl rfl) rfl ?_
    refine XO.nil ?_
    refine XE.next ?_
    refine XC.keep [(0, _), (1, _), (4, _), (5, _), (62, _)] (Sub.cons rfl (Sub.cons rfl (Sub.cons rfl (Sub.cons rfl (Sub.cons rfl (Sub.nil _)))))) ?_
    refine XC.condP rfl (fun h1 => ?_) (fun h1 => ?_)
    · skip
      have hM : (⟨{ s.toSF.chg1 n with was := fset s.was n false }, fset s.Q (s.par n) ((s.Q (s.par n)).cut n).2.2, fset s.P (s.par n) p1, fset s.C (s.par n) c1⟩ : SC) = (⟨{ s.toSF with floor := fset s.floor (s.par n) (max (s.floor (s.par n)) (s.v n)), v := fset s.v n (s.v n + 1048576 / s.wt n), ran := fset s.ran n (s.ran n + 1), used := fset s.used n (s.used n + 1), was := fset s.was n false }, fset s.Q (s.par n) ((s.Q (s.par n)).cut n).2.2, fset s.P (s.par n) p1, fset s.C (s.par n) c1⟩ : SC) := by unfold SF.chg1; rw [if_pos h1]
      refine XC.region ?_
      refine XO.v (V.move rfl) rfl ?_
      refine XO.v (V.nilCheckP rfl) rfl ?_
      refine XO.v (V.fieldAddr rfl fo_62_11) rfl ?_
      refine XO.v (V.load rfl (inXM .here) (show _ ∧ _ = Value.int .i64 (s.used n) from encS.ld_u_used _ _ (by omega)) sc_3) rfl ?_
      refine XO.v (V.add rfl rfl _ (IntWalk.i64_in _ (by omega))) rfl ?_
      refine XO.v (V.nilCheckP rfl) rfl ?_
      refine XO.v (V.fieldAddr rfl fo_62_11) rfl ?_
      refine XO.store rfl rfl .here (encS.st_u_used _ _ (by omega) _) rfl sz_3_1 ?_
      refine XO.nil ?_
      refine XE.meet (Sub.cons rfl (Sub.cons rfl (Sub.cons rfl (Sub.cons rfl (Sub.nil _))))) (fun _ hw2 => by rw [hM]; exact XM.pick (.cons .here (.cons .here .nil)) hw2)
    · skip
      have hM : (⟨{ s.toSF.chg1 n with was := fset s.was n false }, fset s.Q (s.par n) ((s.Q (s.par n)).cut n).2.2, fset s.P (s.par n) p1, fset s.C (s.par n) c1⟩ : SC) = (⟨{ s.toSF with floor := fset s.floor (s.par n) (max (s.floor (s.par n)) (s.v n)), v := fset s.v n (s.v n + 1048576 / s.wt n), ran := fset s.ran n (s.ran n + 1), used := s.used, was := fset s.was n false }, fset s.Q (s.par n) ((s.Q (s.par n)).cut n).2.2, fset s.P (s.par n) p1, fset s.C (s.par n) c1⟩ : SC) := by unfold SF.chg1; rw [if_neg h1]
      refine XC.skip ?_
      refine XE.meet (Sub.cons rfl (Sub.cons rfl (Sub.cons rfl (Sub.cons rfl (Sub.nil _))))) (fun _ hw2 => by rw [hM]; exact XM.pick (.cons .here (.cons .here .nil)) hw2)
  have hrr : SF.ready { s.toSF.chg1 n with was := fset s.was n false } n = (s.toSF.chg1 n).ready n := SF.ready_was (s := s.toSF.chg1 n) hpn false
  refine XC.seq ?_
  refine XC.region ?_
  refine XO.v (V.move rfl) rfl ?_
  refine XO.v (V.move rfl) rfl ?_
  refine XO.call rfl (f_ready b o (⟨{ s.toSF.chg1 n with was := fset s.was n false }, fset s.Q (s.par n) ((s.Q (s.par n)).cut n).2.2, fset s.P (s.par n) p1, fset s.C (s.par n) c1⟩ : SC) hRm hw1 n ⟨by omega, n1⟩) (.cons .here (.cons .here .nil)) cl_44 rfl ?_
  rintro _ _ ⟨rfl, rfl⟩
  refine XO.nil ?_
  refine XE.next ?_
  refine XC.keep [(1, _), (4, _), (5, _), (72, _)] (Sub.cons rfl (Sub.cons rfl (Sub.cons rfl (Sub.cons rfl (Sub.nil _))))) ?_
  refine XC.cond rfl (fun h2 => ?_) (fun h2 => ?_)
  · try simp only [sb] at h2
    refine XC.regionQ mixed (f := 9) (l := #[false, false, false, false, false, false, false, false, false]) rfl rfl XM.drawn' ?_
    refine XQ.pv (i := 0) (l' := #[true, false, false, false, false, false, false, false, false]) rfl (by kernel_rfl) rfl (V.move rfl) rfl rfl ?_
    refine XQ.pv (i := 1) (l' := #[true, true, false, false, false, false, false, false, false]) rfl (by kernel_rfl) rfl (V.nilCheckP rfl) rfl rfl ?_
    refine XQ.pv (i := 2) (l' := #[true, true, true, false, false, false, false, false, false]) rfl (by kernel_rfl) rfl (V.fieldAddr rfl fo_62_6) rfl rfl ?_
    refine XQ.pv (i := 3) (l' := #[true, true, true, true, false, false, false, false, false]) rfl (by kernel_rfl) rfl (V.move rfl) rfl rfl ?_
    refine XQ.pv (i := 4) (l' := #[true, true, true, true, true, false, false, false, false]) rfl (by kernel_rfl) rfl (V.move rfl) rfl rfl ?_
    refine XQ.pv (i := 5) (l' := #[true, true, true, true, true, true, false, false, false]) rfl (by kernel_rfl) rfl (V.nilCheckP rfl) rfl rfl ?_
    refine XQ.pv (i := 6) (l' := #[true, true, true, true, true, true, true, false, false]) rfl (by kernel_rfl) rfl (V.fieldAddr rfl fo_62_3) rfl rfl ?_
    refine XQ.load (i := 7) (l' := #[true, true, true, true, true, true, true, true, false]) (.cells _ _ _ _) [8] rfl (by kernel_rfl) rfl .here (V.load rfl inEnt (show _ ∧ _ = Value.int .u64 (s.v n + 1048576 / s.wt n) from ⟨by omega, (encS.ld_u_v (⟨{ s.toSF.chg1 n with was := fset s.was n false }, fset s.Q (s.par n) ((s.Q (s.par n)).cut n).2.2, fset s.P (s.par n) p1, fset s.C (s.par n) c1⟩ : SC) n (by omega)).2.trans (congrArg (Value.int .u64) (fset_eq s.v n (s.v n + 1048576 / s.wt n)))⟩) sc_30) rfl (by kernel_rfl) rfl ?_
    refine XQ.mono (fun _ hw3 => XM.openS (z := (s.par n)) (by omega) (.cons .here (.cons .here .nil)) hw3) ?_
    refine XQ.call (i := 8) (l' := #[true, true, true, true, true, true, true, true, true]) rfl (by kernel_rfl) rfl rfl (q_Put _ _ _ _ _ hgm.ok _ _) (.cons .here (.cons .here .nil)) cl_45 rfl (by rintro _ _ ⟨p2, c2, rfl, rfl⟩; all_goals (intro _ hw'; exact ⟨fun hs => (hs 8 (by simp) rfl).elim, trivial⟩)) ?_
    rintro _ _ ⟨p2, c2, rfl, rfl⟩
    refine XQ.mono (fun _ hw3 => XM.closeS (z := (s.par n)) (by omega) (.cons .here (.cons .here (.cons .here (.cons .here (.cons .here .nil))))) hw3) ?_
    refine XQ.mono (fun _ hw3 => XM.wasS (fset s.was n true) (.cons .here (.cons .here .nil)) hw3) ?_
    refine XQ.done (by kernel_rfl) ?_
    refine XE.end0 rfl (post_of (.cons .here (.cons .here .nil)) rfl ?_)
    refine ⟨rfl, _, ?_, ?_, rfl⟩
    · have h9 : SF.ready { s.toSF.chg1 n with was := fset s.was n false } n = true := by assumption
      rw [hrr] at h9
      show _ = s.toSF.chg n
      unfold SF.chg
      rw [h9]
    · have hp30 : s.par n < 30 := by omega
      have := hRm.enter (n := n) ⟨by omega, n1⟩ ⟨p0, hp30⟩ (fset_eq _ _ _) { s.toSF.chg1 n with was := fset s.was n true } (by funext i; show fset s.was n true i = fset (fset s.was n false) n true i; unfold fset; split <;> rfl) (fun i hi => rfl) rfl (s.v n + 1048576 / s.wt n) (fset_eq _ _ _) (fset (fset s.P (s.par n) p1) (s.par n) p2) (fset (fset s.C (s.par n) c1) (s.par n) c2)
      exact this
  · try simp only [sb] at h2
    refine XC.skip ?_
    refine XE.end0 rfl (post_of (.cons .here (.cons .here .nil)) rfl ?_)
    refine ⟨rfl, (⟨{ s.toSF.chg1 n with was := fset s.was n false }, fset s.Q (s.par n) ((s.Q (s.par n)).cut n).2.2, fset s.P (s.par n) p1, fset s.C (s.par n) c1⟩ : SC), ?_, hRm, rfl⟩
    have h9 : SF.ready { s.toSF.chg1 n with was := fset s.was n false } n = false := by assumption
    rw [hrr] at h9
    show _ = s.toSF.chg n
    unfold SF.chg
    rw [h9]
end Go.X
