import Derived.Test.YtfpdkhncfkefhaaFW3
import Derived.Test.YtfpdkhncfkefhaaFT
namespace Go.X
open Go Go.Proofs

set_option maxRecDepth 10000 in
set_option maxHeartbeats 2000000 in
theorem f_DropGroup (b o : Nat) (s : SC) (d : Int → Nat) (hI : s.toSF.Inv d) (hR : s.Rep) (n : Int) (hset : ∀ n, 0 ≤ n → n < 10 → s.here n = true → (∀ i, s.was i = true → s.par i ≠ n) → s.was n = false) : Spec Try.prog 24 [ptr b o 0, .int .i64 n]
    [.cells b o 2281 (encS s), .fam fam30 (s.rows 86)]
    (fun v H1 => v = errv 74 (s.dropGE n) ∧ ∃ t : SC, t.toSF = s.toSF.dropG n ∧ t.Rep ∧ H1 = [.cells b o 2281 (encS t), .fam fam30 (t.rows 86)]) := by
  refine Spec.intro Try.func24 rfl rfl ?_
  intro W
  refine XC.seq ?_
  refine XC.region ?_
  refine XO.v (V.assign rfl) rfl ?_
  refine XO.nil ?_
  refine XE.next ?_
  refine XC.keep [(0, _), (1, _)] (Sub.cons rfl (Sub.cons rfl (Sub.nil _))) ?_
  refine XC.seq ?_
  refine XC.region ?_
  refine XO.v (V.move rfl) rfl ?_
  refine XO.v (V.move rfl) rfl ?_
  refine XO.call rfl (f_group _ _ _ _) (.cons .here .nil) cl_35 rfl ?_
  rintro _ _ (⟨h1, rfl, rfl⟩ | ⟨h1, rfl, rfl⟩)
  · skip
    obtain ⟨i0, i1, i2, i3⟩ := h1
    refine XO.v (V.move rfl) rfl ?_
    refine XO.v (V.extract rfl rfl) rfl ?_
    refine XO.v (V.extract rfl rfl) rfl ?_
    refine XO.v (V.assign rfl) rfl ?_
    refine XO.v (V.assign rfl) rfl ?_
    refine XO.nil ?_
    refine XE.next ?_
    refine XC.keep [(0, _), (1, _), (6, _)] (Sub.cons rfl (Sub.cons rfl (Sub.cons rfl (Sub.nil _)))) ?_
    refine XC.seq ?_
    refine XC.seq ?_
    refine XC.region ?_
    refine XO.v (V.move rfl) rfl ?_
    refine XO.v (V.nilNil rfl Try.underlying40 rfl) rfl ?_
    refine XO.nil ?_
    refine XE.next ?_
    refine XC.keep [(0, _), (1, _), (6, _), (15, _)] (Sub.cons rfl (Sub.cons rfl (Sub.cons rfl (Sub.cons rfl (Sub.nil _))))) ?_
    refine XC.condF rfl rfl ?_
    refine XC.skip ?_
    refine XE.next ?_
    refine XC.keep [(0, _), (1, _)] (Sub.cons rfl (Sub.cons rfl (Sub.nil _))) ?_
    refine XC.seq ?_
    refine XC.seq ?_
    refine XC.region ?_
    refine XO.v (V.move rfl) rfl ?_
    refine XO.v (V.cmp rfl rfl rfl) rfl ?_
    refine XO.nil ?_
    refine XE.next ?_
    refine XC.keep [(0, _), (1, _), (18, _)] (Sub.cons rfl (Sub.cons rfl (Sub.cons rfl (Sub.nil _)))) ?_
    refine XC.condP rfl (fun h2 => ?_) (fun h2 => ?_)
    · skip
      refine XC.seq ?_
      refine XC.region ?_
      refine XO.v (V.makeIface rfl Try.underlying74 (by simp)) rfl ?_
      refine XO.v (V.assign rfl) rfl ?_
      refine XO.nil ?_
      refine XE.next ?_
      refine XC.keep [(4, _)] (Sub.cons rfl (Sub.nil _)) ?_
      refine XC.ret ?_
      refine XE.thenRet ?_
      refine XE.ret1 rfl rfl (post_of (.cons .here (.cons .here .nil)) rfl ?_)
      have e : s.dropGE n = 5 := by unfold SF.dropGE; rw [if_neg (by omega), if_pos (.inl (by omega))]
      exact ⟨by rw [e]; rfl, s, by unfold SF.dropG; rw [if_neg (by omega)], hR, rfl⟩
    · skip
      refine XC.skip ?_
      refine XE.next ?_
      refine XC.keep [(0, _), (1, _)] (Sub.cons rfl (Sub.cons rfl (Sub.nil _))) ?_
      refine XC.seq ?_
      refine XC.seq ?_
      refine XC.region ?_
      refine XO.v (V.move rfl) rfl ?_
      refine XO.nil ?_
      refine XE.next ?_
      refine XC.keep [(0, _), (1, _), (20, _)] (Sub.cons rfl (Sub.cons rfl (Sub.cons rfl (Sub.nil _)))) ?_
      refine XC.block ?_
      refine XC.loop (σ := Int) (fun k => (30 - k).toNat) (fun k => (0 ≤ k ∧ k ≤ 30) ∧ ∀ j : Int, 0 ≤ j → j < k → ¬ (s.here j = true ∧ s.par j = n)) (fun k => [(20, .int .i64 k), (0, ptr b o 0), (1, .int .i64 n)]) (fun k => XM W (foot [.cells b o 2281 (encS s), .fam fam30 (s.rows 86)]) [.cells b o 2281 (encS s), .fam fam30 (s.rows 86)]) (0) ?_ (Sub.cons rfl (Sub.cons rfl (Sub.cons rfl (Sub.nil _)))) (fun _ hw => XM.pick (.cons .here (.cons .here .nil)) hw) ?_
      · skip
        exact ⟨by omega, fun j h1 h2 => by omega⟩
      intro k hk
      obtain ⟨hk, hk2⟩ := hk
      refine XC.seq ?_
      refine XC.region ?_
      refine XO.v (V.cmp rfl rfl rfl) rfl ?_
      refine XO.nil ?_
      refine XE.next ?_
      refine XC.keep [(0, _), (1, _), (20, _), (21, _)] (Sub.cons rfl (Sub.cons rfl (Sub.cons rfl (Sub.cons rfl (Sub.nil _))))) ?_
      refine XC.seq ?_
      refine XC.condP rfl (fun h3 => ?_) (fun h3 => ?_)
      · skip
        refine XC.skip ?_
        refine XE.next ?_
        refine XC.keep [(0, _), (1, _), (20, _)] (Sub.cons rfl (Sub.cons rfl (Sub.cons rfl (Sub.nil _)))) ?_
        refine XC.seq ?_
        refine XC.block ?_
        refine XC.seq ?_
        refine XC.region ?_
        refine XO.v (V.move rfl) rfl ?_
        refine XO.v (V.assign rfl) rfl ?_
        refine XO.nil ?_
        refine XE.next ?_
        refine XC.keep [(0, _), (1, _), (7, _), (20, _)] (Sub.cons rfl (Sub.cons rfl (Sub.cons rfl (Sub.cons rfl (Sub.nil _))))) ?_
        refine XC.seq ?_
        refine XC.region ?_
        refine XO.v (V.move rfl) rfl ?_
        refine XO.v (V.move rfl) rfl ?_
        refine XO.v (V.nilCheckP rfl) rfl ?_
        refine XO.v (V.fieldAddr rfl fo_65_0) rfl ?_
        refine XO.v (V.indexArr rfl rfl ar_63 (by omega)) rfl ?_
        refine XO.v (V.fieldAddr rfl fo_62_0) rfl ?_
        refine XO.v (V.load rfl (inXM .here) (encS.ld_u_here _ _ (by omega)) sc_4) rfl ?_
        refine XO.v (V.move rfl) rfl ?_
        refine XO.split (d := 30) rfl (fun h4 => ?_) (fun h4 => ?_)
        · try simp only [sb] at h4
          refine XO.guardRun rfl rfl rfl ?_
          refine XO.v (V.move rfl) rfl ?_
          refine XO.guardRun rfl rfl rfl ?_
          refine XO.v (V.move rfl) rfl ?_
          refine XO.guardRun rfl rfl rfl ?_
          refine XO.v (V.nilCheckP rfl) rfl ?_
          refine XO.guardRun rfl rfl rfl ?_
          refine XO.v (V.fieldAddr rfl fo_65_0) rfl ?_
          refine XO.guardRun rfl rfl rfl ?_
          refine XO.v (V.indexArr rfl rfl ar_63 (by omega)) rfl ?_
          refine XO.guardRun rfl rfl rfl ?_
          refine XO.v (V.fieldAddr rfl fo_62_1) rfl ?_
          refine XO.guardRun rfl rfl rfl ?_
          refine XO.v (V.load rfl (inXM .here) (encS.ld_u_parent _ _ (by omega)) sc_3) rfl ?_
          refine XO.guardRun rfl rfl rfl ?_
          refine XO.v (V.move rfl) rfl ?_
          refine XO.guardRun rfl rfl rfl ?_
          refine XO.v (V.cmp rfl rfl rfl) rfl ?_
          refine XO.v (V.pick rfl rfl rfl rfl) rfl ?_
          refine XO.nil ?_
          refine XE.next ?_
          refine XC.keep [(0, _), (1, _), (20, _), (40, _)] (Sub.cons rfl (Sub.cons rfl (Sub.cons rfl (Sub.cons rfl (Sub.nil _))))) ?_
          refine XC.condP rfl (fun h5 => ?_) (fun h5 => ?_)
          · skip
            refine XC.seq ?_
            refine XC.region ?_
            refine XO.v (V.makeIface rfl Try.underlying74 (by simp)) rfl ?_
            refine XO.v (V.assign rfl) rfl ?_
            refine XO.nil ?_
            refine XE.next ?_
            refine XC.keep [(4, _)] (Sub.cons rfl (Sub.nil _)) ?_
            refine XC.ret ?_
            refine XE.blockRet ?_
            refine XE.thenRet ?_
            refine XE.thenRet ?_
            refine XE.blockRet ?_
            refine XE.thenRet ?_
            refine XE.ret1 rfl rfl (post_of (.cons .here (.cons .here .nil)) rfl ?_)
            have ha := SF.anyU_of (s := s.toSF) (n := n) hk.1 (by omega) (by simp_all) (by simp_all)
            have e : s.dropGE n = 5 := by unfold SF.dropGE; rw [if_neg (by omega), if_pos (.inr ha)]
            exact ⟨by rw [e]; rfl, s, by unfold SF.dropG; rw [if_neg (by omega)], hR, rfl⟩
          · skip
            refine XC.skip ?_
            refine XE.blockNormal ?_
            refine XE.next ?_
            refine XC.keep [(0, _), (1, _), (20, _)] (Sub.cons rfl (Sub.cons rfl (Sub.cons rfl (Sub.nil _)))) ?_
            refine XC.region ?_
            refine XO.v (V.add rfl rfl _ (IntWalk.i64_in _ (by omega))) rfl ?_
            refine XO.v (V.move rfl) rfl ?_
            refine XO.nil ?_
            refine XE.again (k + 1) ?_ ?_ (Sub.cons rfl (Sub.cons rfl (Sub.cons rfl (Sub.nil _)))) (fun _ hw => XM.pick (.cons .here (.cons .here .nil)) hw)
            · skip
              (first | omega | (simp; done) | (simp; omega))
            · skip
              refine ⟨by omega, fun j h1 h2 => ?_⟩
              by_cases hj : j = k
              · subst hj; rintro ⟨q1, q2⟩; simp_all
              · exact hk2 j h1 (by omega)
        · try simp only [sb] at h4
          refine XO.guardSkip rfl rfl rfl rfl rfl ?_
          refine XO.guardSkip rfl rfl rfl rfl rfl ?_
          refine XO.guardSkip rfl rfl rfl rfl rfl ?_
          refine XO.guardSkip rfl rfl rfl rfl rfl ?_
          refine XO.guardSkip rfl rfl rfl rfl rfl ?_
          refine XO.guardSkip rfl rfl rfl rfl rfl ?_
          refine XO.guardSkip rfl rfl rfl rfl rfl ?_
          refine XO.guardSkip rfl rfl rfl rfl rfl ?_
          refine XO.guardSkip rfl rfl rfl rfl rfl ?_
          refine XO.v (V.pick rfl rfl rfl rfl) rfl ?_
          refine XO.nil ?_
          refine XE.next ?_
          refine XC.keep [(0, _), (1, _), (20, _), (40, _)] (Sub.cons rfl (Sub.cons rfl (Sub.cons rfl (Sub.cons rfl (Sub.nil _))))) ?_
          refine XC.condF rfl rfl ?_
          refine XC.skip ?_
          refine XE.blockNormal ?_
          refine XE.next ?_
          refine XC.keep [(0, _), (1, _), (20, _)] (Sub.cons rfl (Sub.cons rfl (Sub.cons rfl (Sub.nil _)))) ?_
          refine XC.region ?_
          refine XO.v (V.add rfl rfl _ (IntWalk.i64_in _ (by omega))) rfl ?_
          refine XO.v (V.move rfl) rfl ?_
          refine XO.nil ?_
          refine XE.again (k + 1) ?_ ?_ (Sub.cons rfl (Sub.cons rfl (Sub.cons rfl (Sub.nil _)))) (fun _ hw => XM.pick (.cons .here (.cons .here .nil)) hw)
          · skip
            (first | omega | (simp; done) | (simp; omega))
          · skip
            refine ⟨by omega, fun j h1 h2 => ?_⟩
            by_cases hj : j = k
            · subst hj; rintro ⟨q1, q2⟩; simp_all
            · exact hk2 j h1 (by omega)
      · skip
        refine XC.exit ?_
        refine XE.thenExit ?_
        refine XE.thenExit ?_
        refine XE.blockExit ?_
        refine XE.next ?_
        refine XC.keep [(0, _), (1, _)] (Sub.cons rfl (Sub.cons rfl (Sub.nil _))) ?_
        refine XC.seq ?_
        refine XC.region ?_
        refine XO.v (V.move rfl) rfl ?_
        refine XO.v (V.move rfl) rfl ?_
        refine XO.v (V.build (vs := #[]) rfl (v := .agg (unitArr (freshU false 0 0))) (fun _ => by kernel_rfl)) rfl ?_
        refine XO.v (V.nilCheckP rfl) rfl ?_
        refine XO.v (V.fieldAddr rfl fo_65_0) rfl ?_
        refine XO.v (V.indexArr rfl rfl ar_63 (by omega)) rfl ?_
        refine XO.storeAgg rfl rfl .here (encS_new _ n 0 0 false (by omega)) (unitArr_ok _) sz_62_76 ?_
        refine XO.mono (fun _ hw3 => XM.newRow (s := s) (z := n) (by omega) (.cons (.there .here) .nil) hw3) ?_
        refine XO.nil ?_
        refine XE.next ?_
        refine XC.keep [] (Sub.nil _) ?_
        refine XC.seq ?_
        refine XC.region ?_
        refine XO.v (V.assign rfl) rfl ?_
        refine XO.nil ?_
        refine XE.next ?_
        refine XC.keep [(4, _)] (Sub.cons rfl (Sub.nil _)) ?_
        refine XC.ret ?_
        refine XE.ret1 rfl rfl (post_of (.cons (.there .here) (.cons .here .nil)) rfl ?_)
        have hk3 : ∀ j : Int, 0 ≤ j → j < 30 → ¬ (s.here j = true ∧ s.par j = n) := fun j a b => hk2 j a (by omega)
        have ha := SF.anyU_no (s := s.toSF) (n := n) hk3
        have e : s.dropGE n = 0 := by unfold SF.dropGE; rw [if_neg (by omega), if_neg (by rw [ha]; simp; omega)]
        have hk9 : ∀ i, s.was i = true → s.par i ≠ n := fun i hi e9 => by
          obtain ⟨a, b9, c⟩ := hI.was i hi
          exact hk3 i (by omega) b9 ⟨c, e9⟩
        exact ⟨by rw [e]; rfl, _, by unfold SF.dropG; rw [if_pos e], hR.new (hset n i1 i2 i3 hk9) hk9 0 0 false, rfl⟩
  · skip
    have i0 := h1
    refine XO.v (V.move rfl) rfl ?_
    refine XO.v (V.extract rfl rfl) rfl ?_
    refine XO.v (V.extract rfl rfl) rfl ?_
    refine XO.v (V.assign rfl) rfl ?_
    refine XO.v (V.assign rfl) rfl ?_
    refine XO.nil ?_
    refine XE.next ?_
    refine XC.keep [(0, _), (1, _), (6, _)] (Sub.cons rfl (Sub.cons rfl (Sub.cons rfl (Sub.nil _)))) ?_
    refine XC.seq ?_
    refine XC.seq ?_
    refine XC.region ?_
    refine XO.v (V.move rfl) rfl ?_
    refine XO.v (V.ifaceNil rfl Try.underlying40 rfl) rfl ?_
    refine XO.nil ?_
    refine XE.next ?_
    refine XC.keep [(0, _), (1, _), (6, _), (15, _)] (Sub.cons rfl (Sub.cons rfl (Sub.cons rfl (Sub.cons rfl (Sub.nil _))))) ?_
    refine XC.condT rfl rfl ?_
    refine XC.seq ?_
    refine XC.region ?_
    refine XO.v (V.move rfl) rfl ?_
    refine XO.v (V.assign rfl) rfl ?_
    refine XO.nil ?_
    refine XE.next ?_
    refine XC.keep [(4, _)] (Sub.cons rfl (Sub.nil _)) ?_
    refine XC.ret ?_
    refine XE.thenRet ?_
    refine XE.ret1 rfl rfl (post_of (.cons .here (.cons .here .nil)) rfl ?_)
    have e : s.dropGE n = s.grE n := by unfold SF.dropGE; rw [if_pos (by assumption)]
    exact ⟨by rw [e, errv_pos _ (by assumption)], s, by unfold SF.dropG; rw [if_neg (by omega)], hR, rfl⟩
set_option maxRecDepth 10000 in
set_option maxHeartbeats 2000000 in
theorem f_DropTask (b o : Nat) (s : SC) (d : Int → Nat) (hI : s.toSF.Inv d) (hR : s.Rep) (n : Int) : Spec Try.prog 26 [ptr b o 0, .int .i64 n]
    [.cells b o 2281 (encS s), .fam fam30 (s.rows 86)]
    (fun v H1 => v = errv 74 (s.tkE n) ∧ ∃ t : SC, t.toSF = s.toSF.dropT d n ∧ t.Rep ∧ H1 = [.cells b o 2281 (encS t), .fam fam30 (t.rows 86)]) := by
  refine Spec.intro Try.func26 rfl rfl ?_
  intro W
  refine XC.seq ?_
  refine XC.region ?_
  refine XO.v (V.assign rfl) rfl ?_
  refine XO.nil ?_
  refine XE.next ?_
  refine XC.keep [(0, _), (1, _)] (Sub.cons rfl (Sub.cons rfl (Sub.nil _))) ?_
  refine XC.seq ?_
  refine XC.region ?_
  refine XO.v (V.move rfl) rfl ?_
  refine XO.v (V.move rfl) rfl ?_
  refine XO.call rfl (f_task _ _ _ _) (.cons .here .nil) cl_34 rfl ?_
  rintro _ _ (⟨h1, rfl, rfl⟩ | ⟨h1, rfl, rfl⟩)
  · skip
    obtain ⟨i0, i1, i2, i3⟩ := h1
    refine XO.v (V.move rfl) rfl ?_
    refine XO.v (V.extract rfl rfl) rfl ?_
    refine XO.v (V.extract rfl rfl) rfl ?_
    refine XO.v (V.assign rfl) rfl ?_
    refine XO.v (V.assign rfl) rfl ?_
    refine XO.nil ?_
    refine XE.next ?_
    refine XC.keep [(0, _), (1, _), (5, _), (6, _)] (Sub.cons rfl (Sub.cons rfl (Sub.cons rfl (Sub.cons rfl (Sub.nil _))))) ?_
    refine XC.seq ?_
    refine XC.seq ?_
    refine XC.region ?_
    refine XO.v (V.move rfl) rfl ?_
    refine XO.v (V.nilNil rfl Try.underlying40 rfl) rfl ?_
    refine XO.nil ?_
    refine XE.next ?_
    refine XC.keep [(0, _), (1, _), (5, _), (6, _), (14, _)] (Sub.cons rfl (Sub.cons rfl (Sub.cons rfl (Sub.cons rfl (Sub.cons rfl (Sub.nil _)))))) ?_
    refine XC.condF rfl rfl ?_
    refine XC.skip ?_
    refine XE.next ?_
    refine XC.keep [(0, _), (1, _), (5, _)] (Sub.cons rfl (Sub.cons rfl (Sub.cons rfl (Sub.nil _)))) ?_
    refine XC.seq ?_
    refine XC.region ?_
    refine XO.v (V.move rfl) rfl ?_
    refine XO.v (V.nilCheckP rfl) rfl ?_
    refine XO.v (V.fieldAddr rfl fo_62_5) rfl ?_
    refine XO.store rfl rfl .here (encS.st_u_awake _ _ (by omega) _) rfl sz_4_1 ?_
    refine XO.nil ?_
    refine XE.next ?_
    refine XC.keep [(0, _), (1, _)] (Sub.cons rfl (Sub.cons rfl (Sub.nil _))) ?_
    refine XC.seq ?_
    refine XC.region ?_
    refine XO.v (V.move rfl) rfl ?_
    refine XO.v (V.move rfl) rfl ?_
    refine XO.v (V.add rfl rfl _ (IntWalk.i64_in _ (by omega))) rfl ?_
    refine XO.call rfl (f_settle _ _ { s with awake := fset s.awake (10 + n) false } d ⟨hI.h0, hI.up, hI.was, hI.quo, hI.wt⟩ hR _ (.inr ⟨by omega, by omega, i3⟩)) (.cons .here (.cons .here .nil)) cl_36 rfl ?_
    rintro _ _ ⟨rfl, t, tl, tR, rfl⟩
    have tw : t.toSF = s.toSF.wake d n false := by rw [tl]; unfold SF.wake; rw [if_pos i0]
    have twz : t.was (10 + n) = false := by
      show t.toSF.was (10 + n) = false
      rw [tl, SF.look_at (s := ({ s with awake := fset s.awake (10 + n) false } : SC).toSF) ⟨hI.h0, hI.up, hI.was, hI.quo, hI.wt⟩ (by omega) (by omega) i3]
      unfold SF.ready
      rw [if_pos (by omega)]
      exact fset_eq _ _ _
    have tI : t.toSF.Inv d := by rw [tl]; exact SF.look_inv (s := ({ s with awake := fset s.awake (10 + n) false } : SC).toSF) ⟨hI.h0, hI.up, hI.was, hI.quo, hI.wt⟩ (.inr ⟨by omega, by omega, i3⟩)
    have thp : t.toSF.here = s.here ∧ t.toSF.par = s.par := by rw [tl]; exact ⟨SF.look_here _ _ _, SF.look_par _ _ _⟩
    refine XO.nil ?_
    refine XE.next ?_
    refine XC.keep [(0, _), (1, _)] (Sub.cons rfl (Sub.cons rfl (Sub.nil _))) ?_
    refine XC.seq ?_
    refine XC.region ?_
    refine XO.v (V.move rfl) rfl ?_
    refine XO.v (V.move rfl) rfl ?_
    refine XO.v (V.add rfl rfl _ (IntWalk.i64_in _ (by omega))) rfl ?_
    refine XO.v (V.build (vs := #[]) rfl (v := .agg (unitArr (freshU false 0 0))) (fun _ => by kernel_rfl)) rfl ?_
    refine XO.v (V.nilCheckP rfl) rfl ?_
    refine XO.v (V.fieldAddr rfl fo_65_0) rfl ?_
    refine XO.v (V.indexArr rfl rfl ar_63 (by omega)) rfl ?_
    refine XO.storeAgg rfl rfl .here (encS_new _ (10 + n) 0 0 false (by omega)) (unitArr_ok _) sz_62_76 ?_
    refine XO.mono (fun _ hw3 => XM.newRow (s := t) (z := (10 + n)) (by omega) (.cons (.there .here) .nil) hw3) ?_
    refine XO.nil ?_
    refine XE.next ?_
    refine XC.keep [] (Sub.nil _) ?_
    refine XC.seq ?_
    refine XC.region ?_
    refine XO.v (V.assign rfl) rfl ?_
    refine XO.nil ?_
    refine XE.next ?_
    refine XC.keep [(4, _)] (Sub.cons rfl (Sub.nil _)) ?_
    refine XC.ret ?_
    refine XE.ret1 rfl rfl (post_of (.cons (.there .here) (.cons .here .nil)) rfl ?_)
    have hk9 : ∀ i, t.was i = true → t.par i ≠ 10 + n := fun i hi e9 => by
      obtain ⟨a, b9, c⟩ := tI.was i hi
      have h9 := (tI.up i a b9 c).2.1
      have e9b : t.toSF.par i = 10 + n := e9
      omega
    exact ⟨by rw [i0]; rfl, _, by show t.toSF.newU _ _ _ _ = _; unfold SF.dropT; rw [if_pos i0, tw], tR.new twz hk9 0 0 false, rfl⟩
  · skip
    have i0 := h1
    refine XO.v (V.move rfl) rfl ?_
    refine XO.v (V.extract rfl rfl) rfl ?_
    refine XO.v (V.extract rfl rfl) rfl ?_
    refine XO.v (V.assign rfl) rfl ?_
    refine XO.v (V.assign rfl) rfl ?_
    refine XO.nil ?_
    refine XE.next ?_
    refine XC.keep [(0, _), (1, _), (5, _), (6, _)] (Sub.cons rfl (Sub.cons rfl (Sub.cons rfl (Sub.cons rfl (Sub.nil _))))) ?_
    refine XC.seq ?_
    refine XC.seq ?_
    refine XC.region ?_
    refine XO.v (V.move rfl) rfl ?_
    refine XO.v (V.ifaceNil rfl Try.underlying40 rfl) rfl ?_
    refine XO.nil ?_
    refine XE.next ?_
    refine XC.keep [(0, _), (1, _), (5, _), (6, _), (14, _)] (Sub.cons rfl (Sub.cons rfl (Sub.cons rfl (Sub.cons rfl (Sub.cons rfl (Sub.nil _)))))) ?_
    refine XC.condT rfl rfl ?_
    refine XC.seq ?_
    refine XC.region ?_
    refine XO.v (V.move rfl) rfl ?_
    refine XO.v (V.assign rfl) rfl ?_
    refine XO.nil ?_
    refine XE.next ?_
    refine XC.keep [(4, _)] (Sub.cons rfl (Sub.nil _)) ?_
    refine XC.ret ?_
    refine XE.thenRet ?_
    refine XE.ret1 rfl rfl (post_of (.cons .here (.cons .here .nil)) rfl ?_)
    exact ⟨by rw [errv_pos _ (by assumption)], s, by unfold SF.dropT; rw [if_neg (by assumption)], hR, rfl⟩
set_option maxRecDepth 10000 in
set_option maxHeartbeats 2000000 in
theorem f_MoveTask (b o : Nat) (s : SC) (d : Int → Nat) (hI : s.toSF.Inv d) (hR : s.Rep) (n g : Int) : Spec Try.prog 28 [ptr b o 0, .int .i64 n, .int .i64 g]
    [.cells b o 2281 (encS s), .fam fam30 (s.rows 86)]
    (fun v H1 => v = errv 74 (s.moveE n g) ∧ ∃ t : SC, t.toSF = s.toSF.move d n g ∧ t.Rep ∧ H1 = [.cells b o 2281 (encS t), .fam fam30 (t.rows 86)]) := by
  refine Spec.intro Try.func28 rfl rfl ?_
  intro W
  refine XC.seq ?_
  refine XC.region ?_
  refine XO.v (V.assign rfl) rfl ?_
  refine XO.nil ?_
  refine XE.next ?_
  refine XC.keep [(0, _), (1, _), (2, _)] (Sub.cons rfl (Sub.cons rfl (Sub.cons rfl (Sub.nil _)))) ?_
  refine XC.seq ?_
  refine XC.region ?_
  refine XO.v (V.move rfl) rfl ?_
  refine XO.v (V.move rfl) rfl ?_
  refine XO.call rfl (f_task _ _ _ _) (.cons .here .nil) cl_34 rfl ?_
  rintro _ _ (⟨h1, rfl, rfl⟩ | ⟨h1, rfl, rfl⟩)
  · skip
    obtain ⟨i0, i1, i2, i3⟩ := h1
    refine XO.v (V.move rfl) rfl ?_
    refine XO.v (V.extract rfl rfl) rfl ?_
    refine XO.v (V.extract rfl rfl) rfl ?_
    refine XO.v (V.assign rfl) rfl ?_
    refine XO.v (V.assign rfl) rfl ?_
    refine XO.nil ?_
    refine XE.next ?_
    refine XC.keep [(0, _), (1, _), (2, _), (7, _), (8, _)] (Sub.cons rfl (Sub.cons rfl (Sub.cons rfl (Sub.cons rfl (Sub.cons rfl (Sub.nil _)))))) ?_
    refine XC.seq ?_
    refine XC.seq ?_
    refine XC.region ?_
    refine XO.v (V.move rfl) rfl ?_
    refine XO.v (V.nilNil rfl Try.underlying40 rfl) rfl ?_
    refine XO.nil ?_
    refine XE.next ?_
    refine XC.keep [(0, _), (1, _), (2, _), (7, _), (8, _), (17, _)] (Sub.cons rfl (Sub.cons rfl (Sub.cons rfl (Sub.cons rfl (Sub.cons rfl (Sub.cons rfl (Sub.nil _))))))) ?_
    refine XC.condF rfl rfl ?_
    refine XC.skip ?_
    refine XE.next ?_
    refine XC.keep [(0, _), (1, _), (2, _), (7, _)] (Sub.cons rfl (Sub.cons rfl (Sub.cons rfl (Sub.cons rfl (Sub.nil _))))) ?_
    refine XC.seq ?_
    refine XC.region ?_
    refine XO.v (V.move rfl) rfl ?_
    refine XO.v (V.move rfl) rfl ?_
    refine XO.call rfl (f_group _ _ _ _) (.cons .here .nil) cl_35 rfl ?_
    rintro _ _ (⟨h2, rfl, rfl⟩ | ⟨h2, rfl, rfl⟩)
    · skip
      obtain ⟨k0, k1, k2, k3⟩ := h2
      refine XO.v (V.move rfl) rfl ?_
      refine XO.v (V.extract rfl rfl) rfl ?_
      refine XO.v (V.extract rfl rfl) rfl ?_
      refine XO.v (V.assign rfl) rfl ?_
      refine XO.nil ?_
      refine XE.next ?_
      refine XC.keep [(0, _), (1, _), (2, _), (7, _), (8, _)] (Sub.cons rfl (Sub.cons rfl (Sub.cons rfl (Sub.cons rfl (Sub.cons rfl (Sub.nil _)))))) ?_
      refine XC.seq ?_
      refine XC.seq ?_
      refine XC.region ?_
      refine XO.v (V.move rfl) rfl ?_
      refine XO.v (V.nilNil rfl Try.underlying40 rfl) rfl ?_
      refine XO.nil ?_
      refine XE.next ?_
      refine XC.keep [(0, _), (1, _), (2, _), (7, _), (8, _), (26, _)] (Sub.cons rfl (Sub.cons rfl (Sub.cons rfl (Sub.cons rfl (Sub.cons rfl (Sub.cons rfl (Sub.nil _))))))) ?_
      refine XC.condF rfl rfl ?_
      refine XC.skip ?_
      refine XE.next ?_
      refine XC.keep [(0, _), (1, _), (2, _), (7, _)] (Sub.cons rfl (Sub.cons rfl (Sub.cons rfl (Sub.cons rfl (Sub.nil _))))) ?_
      refine XC.seq ?_
      refine XC.region ?_
      refine XO.v (V.move rfl) rfl ?_
      refine XO.v (V.nilCheckP rfl) rfl ?_
      refine XO.v (V.fieldAddr rfl fo_62_5) rfl ?_
      refine XO.v (V.load rfl (inXM .here) (encS.ld_u_awake _ _ (by omega)) sc_4) rfl ?_
      refine XO.v (V.assign rfl) rfl ?_
      refine XO.nil ?_
      refine XE.next ?_
      refine XC.keep [(0, _), (1, _), (2, _), (7, _), (9, _)] (Sub.cons rfl (Sub.cons rfl (Sub.cons rfl (Sub.cons rfl (Sub.cons rfl (Sub.nil _)))))) ?_
      refine XC.seq ?_
      refine XC.region ?_
      refine XO.v (V.move rfl) rfl ?_
      refine XO.v (V.nilCheckP rfl) rfl ?_
      refine XO.v (V.fieldAddr rfl fo_62_5) rfl ?_
      refine XO.store rfl rfl .here (encS.st_u_awake _ _ (by omega) _) rfl sz_4_1 ?_
      refine XO.nil ?_
      refine XE.next ?_
      refine XC.keep [(0, _), (1, _), (2, _), (7, _), (9, _)] (Sub.cons rfl (Sub.cons rfl (Sub.cons rfl (Sub.cons rfl (Sub.cons rfl (Sub.nil _)))))) ?_
      refine XC.seq ?_
      refine XC.region ?_
      refine XO.v (V.move rfl) rfl ?_
      refine XO.v (V.move rfl) rfl ?_
      refine XO.v (V.add rfl rfl _ (IntWalk.i64_in _ (by omega))) rfl ?_
      refine XO.call rfl (f_settle _ _ { s with awake := fset s.awake (10 + n) false } d ⟨hI.h0, hI.up, hI.was, hI.quo, hI.wt⟩ hR _ (.inr ⟨by omega, by omega, i3⟩)) (.cons .here (.cons .here .nil)) cl_36 rfl ?_
      rintro _ _ ⟨rfl, t, tl, tR, rfl⟩
      have tw : t.toSF = s.toSF.wake d n false := by rw [tl]; unfold SF.wake; rw [if_pos i0]
      have twz : t.was (10 + n) = false := by
        show t.toSF.was (10 + n) = false
        rw [tl, SF.look_at (s := ({ s with awake := fset s.awake (10 + n) false } : SC).toSF) ⟨hI.h0, hI.up, hI.was, hI.quo, hI.wt⟩ (by omega) (by omega) i3]
        unfold SF.ready
        rw [if_pos (by omega)]
        exact fset_eq _ _ _
      have tI : t.toSF.Inv d := by rw [tl]; exact SF.look_inv (s := ({ s with awake := fset s.awake (10 + n) false } : SC).toSF) ⟨hI.h0, hI.up, hI.was, hI.quo, hI.wt⟩ (.inr ⟨by omega, by omega, i3⟩)
      have thp : t.toSF.here = s.here ∧ t.toSF.par = s.par := by rw [tl]; exact ⟨SF.look_here _ _ _, SF.look_par _ _ _⟩
      have hI2 : SF.Inv ({ t with par := fset t.par (10 + n) g, v := fset t.v (10 + n) 0, awake := fset t.awake (10 + n) (s.awake (10 + n)) } : SC).toSF (fset d (10 + n) (d g + 1)) := tI.moved (n := 10 + n) (g := g) (by omega) ⟨k1, k2, by rw [thp.1]; exact k3⟩ twz _ _
      have hR2 : SC.Rep { t with par := fset t.par (10 + n) g, v := fset t.v (10 + n) 0, awake := fset t.awake (10 + n) (s.awake (10 + n)) } := tR.idle (z := 10 + n) twz ({ t with par := fset t.par (10 + n) g, v := fset t.v (10 + n) 0, awake := fset t.awake (10 + n) (s.awake (10 + n)) } : SC).toSF rfl (fun i hi => fset_ne _ _ hi) (fun i hi => fset_ne _ _ hi)
      refine XO.nil ?_
      refine XE.next ?_
      refine XC.keep [(0, _), (1, _), (2, _), (7, _), (9, _)] (Sub.cons rfl (Sub.cons rfl (Sub.cons rfl (Sub.cons rfl (Sub.cons rfl (Sub.nil _)))))) ?_
      refine XC.seq ?_
      refine XC.region ?_
      refine XO.v (V.move rfl) rfl ?_
      refine XO.v (V.move rfl) rfl ?_
      refine XO.v (V.move rfl) rfl ?_
      refine XO.v (V.move rfl) rfl ?_
      refine XO.v (V.move rfl) rfl ?_
      refine XO.v (V.nilCheckP rfl) rfl ?_
      refine XO.v (V.fieldAddr rfl fo_62_1) rfl ?_
      refine XO.store rfl rfl .here (encS.st_u_parent _ _ (by omega) _) rfl sz_3_1 ?_
      refine XO.v (V.nilCheckP rfl) rfl ?_
      refine XO.v (V.fieldAddr rfl fo_62_3) rfl ?_
      refine XO.store rfl rfl .here (encS.st_u_v _ _ (by omega) _) rfl sz_30_1 ?_
      refine XO.v (V.nilCheckP rfl) rfl ?_
      refine XO.v (V.fieldAddr rfl fo_62_5) rfl ?_
      refine XO.store rfl rfl .here (encS.st_u_awake _ _ (by omega) _) rfl sz_4_1 ?_
      refine XO.nil ?_
      refine XE.next ?_
      refine XC.keep [(0, _), (1, _)] (Sub.cons rfl (Sub.cons rfl (Sub.nil _))) ?_
      refine XC.seq ?_
      refine XC.region ?_
      refine XO.v (V.move rfl) rfl ?_
      refine XO.v (V.move rfl) rfl ?_
      refine XO.v (V.add rfl rfl _ (IntWalk.i64_in _ (by omega))) rfl ?_
      refine XO.call rfl (f_settle _ _ { t with par := fset t.par (10 + n) g, v := fset t.v (10 + n) 0, awake := fset t.awake (10 + n) (s.awake (10 + n)) } (fset d (10 + n) (d g + 1)) hI2 hR2 _ (.inr ⟨by omega, by omega, by show t.toSF.here _ = true; rw [thp.1]; exact i3⟩)) (.cons .here (.cons .here .nil)) cl_36 rfl ?_
      rintro _ _ ⟨rfl, r, rl, rR, rfl⟩
      refine XO.nil ?_
      refine XE.next ?_
      refine XC.keep [] (Sub.nil _) ?_
      refine XC.seq ?_
      refine XC.region ?_
      refine XO.v (V.assign rfl) rfl ?_
      refine XO.nil ?_
      refine XE.next ?_
      refine XC.keep [(6, _)] (Sub.cons rfl (Sub.nil _)) ?_
      refine XC.ret ?_
      refine XE.ret1 rfl rfl (post_of (.cons .here (.cons .here .nil)) rfl ?_)
      have e : s.moveE n g = 0 := by unfold SF.moveE; rw [if_neg (by omega)]; exact k0
      exact ⟨by rw [e]; rfl, r, by rw [rl]; unfold SF.move SF.mv1; rw [if_pos e, ← tw], rR, rfl⟩
    · skip
      have k0 := h2
      refine XO.v (V.move rfl) rfl ?_
      refine XO.v (V.extract rfl rfl) rfl ?_
      refine XO.v (V.extract rfl rfl) rfl ?_
      refine XO.v (V.assign rfl) rfl ?_
      refine XO.nil ?_
      refine XE.next ?_
      refine XC.keep [(0, _), (1, _), (2, _), (7, _), (8, _)] (Sub.cons rfl (Sub.cons rfl (Sub.cons rfl (Sub.cons rfl (Sub.cons rfl (Sub.nil _)))))) ?_
      refine XC.seq ?_
      refine XC.seq ?_
      refine XC.region ?_
      refine XO.v (V.move rfl) rfl ?_
      refine XO.v (V.ifaceNil rfl Try.underlying40 rfl) rfl ?_
      refine XO.nil ?_
      refine XE.next ?_
      refine XC.keep [(0, _), (1, _), (2, _), (7, _), (8, _), (26, _)] (Sub.cons rfl (Sub.cons rfl (Sub.cons rfl (Sub.cons rfl (Sub.cons rfl (Sub.cons rfl (Sub.nil _))))))) ?_
      refine XC.condT rfl rfl ?_
      refine XC.seq ?_
      refine XC.region ?_
      refine XO.v (V.move rfl) rfl ?_
      refine XO.v (V.assign rfl) rfl ?_
      refine XO.nil ?_
      refine XE.next ?_
      refine XC.keep [(6, _)] (Sub.cons rfl (Sub.nil _)) ?_
      refine XC.ret ?_
      refine XE.thenRet ?_
      refine XE.ret1 rfl rfl (post_of (.cons .here (.cons .here .nil)) rfl ?_)
      have e : s.moveE n g = s.grE g := by unfold SF.moveE; rw [if_neg (by omega)]
      exact ⟨by rw [e, errv_pos _ (by assumption)], s, by unfold SF.move; rw [if_neg (by omega)], hR, rfl⟩
  · skip
    have i0 := h1
    refine XO.v (V.move rfl) rfl ?_
    refine XO.v (V.extract rfl rfl) rfl ?_
    refine XO.v (V.extract rfl rfl) rfl ?_
    refine XO.v (V.assign rfl) rfl ?_
    refine XO.v (V.assign rfl) rfl ?_
    refine XO.nil ?_
    refine XE.next ?_
    refine XC.keep [(0, _), (1, _), (2, _), (7, _), (8, _)] (Sub.cons rfl (Sub.cons rfl (Sub.cons rfl (Sub.cons rfl (Sub.cons rfl (Sub.nil _)))))) ?_
    refine XC.seq ?_
    refine XC.seq ?_
    refine XC.region ?_
    refine XO.v (V.move rfl) rfl ?_
    refine XO.v (V.ifaceNil rfl Try.underlying40 rfl) rfl ?_
    refine XO.nil ?_
    refine XE.next ?_
    refine XC.keep [(0, _), (1, _), (2, _), (7, _), (8, _), (17, _)] (Sub.cons rfl (Sub.cons rfl (Sub.cons rfl (Sub.cons rfl (Sub.cons rfl (Sub.cons rfl (Sub.nil _))))))) ?_
    refine XC.condT rfl rfl ?_
    refine XC.seq ?_
    refine XC.region ?_
    refine XO.v (V.move rfl) rfl ?_
    refine XO.v (V.assign rfl) rfl ?_
    refine XO.nil ?_
    refine XE.next ?_
    refine XC.keep [(6, _)] (Sub.cons rfl (Sub.nil _)) ?_
    refine XC.ret ?_
    refine XE.thenRet ?_
    refine XE.ret1 rfl rfl (post_of (.cons .here (.cons .here .nil)) rfl ?_)
    have e : s.moveE n g = s.tkE n := by unfold SF.moveE; rw [if_pos (by assumption)]
    exact ⟨by rw [e, errv_pos _ (by assumption)], s, by unfold SF.move; rw [if_neg (by omega)], hR, rfl⟩
end Go.X
