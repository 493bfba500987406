import Derived.Test.YtfpdkhncfkefhaaFW2
import Derived.Test.YtfpdkhncfkefhaaFP
namespace Go.X
open Go Go.Proofs
theorem cl_34 : callable Try.prog 34 = true := by kernel_rfl
theorem cl_35 : callable Try.prog 35 = true := by kernel_rfl
theorem cl_36 : callable Try.prog 36 = true := by kernel_rfl
theorem fo_62_10 : fieldOff Try.prog 62 10 = some 74 := by kernel_rfl
theorem fo_65_1 : fieldOff Try.prog 65 1 = some 2280 := by kernel_rfl
theorem sz_4_1 : szOf Try.prog 4 = some 1 := by kernel_rfl
theorem sz_62_76 : szOf Try.prog 62 = some 76 := by kernel_rfl
set_option maxRecDepth 10000 in
set_option maxHeartbeats 400000 in
theorem f_now (b o : Nat) (s : SC) : Spec Try.prog 12 [ptr b o 0]
    [.cells b o 2281 (encS s)]
    (fun v H1 => v = .int .i64 s.now ∧ H1 = [.cells b o 2281 (encS s)]) := by
  refine Spec.intro Try.func12 rfl rfl ?_
  intro W
  refine XC.seq ?_
  refine XC.region ?_
  refine XO.v (V.assign rfl) rfl ?_
  refine XO.nil ?_
  refine XE.next ?_
  refine XC.keep [(0, _)] (Sub.cons rfl (Sub.nil _)) ?_
  refine XC.seq ?_
  refine XC.region ?_
  refine XO.v (V.move rfl) rfl ?_
  refine XO.v (V.nilCheckP rfl) rfl ?_
  refine XO.v (V.fieldAddr rfl fo_65_1) rfl ?_
  refine XO.v (V.load rfl (inXM .here) (encS.ld_now _) sc_3) rfl ?_
  refine XO.v (V.assign rfl) rfl ?_
  refine XO.nil ?_
  refine XE.next ?_
  refine XC.keep [(2, _)] (Sub.cons rfl (Sub.nil _)) ?_
  refine XC.ret ?_
  refine XE.ret1 rfl rfl (post_of (.cons .here .nil) rfl ?_)
  exact ⟨rfl, rfl⟩
set_option maxRecDepth 10000 in
set_option maxHeartbeats 400000 in
theorem f_ran (b o : Nat) (s : SC) (n : Int) : Spec Try.prog 13 [ptr b o 0, .int .i64 n]
    [.cells b o 2281 (encS s)]
    (fun v H1 => v = .tuple #[.int .i64 (if s.tkE n = 0 then s.ran (10 + n) else 0), errv 74 (s.tkE n)] ∧ H1 = [.cells b o 2281 (encS s)]) := by
  refine Spec.intro Try.func13 rfl rfl ?_
  intro W
  refine XC.seq ?_
  refine XC.region ?_
  refine XO.v (V.assign rfl) rfl ?_
  refine XO.v (V.assign rfl) rfl ?_
  refine XO.nil ?_
  refine XE.next ?_
  refine XC.keep [(0, _), (1, _)] (Sub.cons rfl (Sub.cons rfl (Sub.nil _))) ?_
  refine XC.seq ?_
  refine XC.region ?_
  refine XO.v (V.move rfl) rfl ?_
  refine XO.v (V.move rfl) rfl ?_
  refine XO.call rfl (f_task _ _ _ _) (.cons .here .nil) cl_34 rfl ?_
  rintro _ _ (⟨h1, rfl, rfl⟩ | ⟨h1, rfl, rfl⟩)
  · skip
    obtain ⟨i0, i1, i2, i3⟩ := h1
    refine XO.v (V.move rfl) rfl ?_
    refine XO.v (V.extract rfl rfl) rfl ?_
    refine XO.v (V.extract rfl rfl) rfl ?_
    refine XO.v (V.assign rfl) rfl ?_
    refine XO.v (V.assign rfl) rfl ?_
    refine XO.nil ?_
    refine XE.next ?_
    refine XC.keep [(6, _), (7, _)] (Sub.cons rfl (Sub.cons rfl (Sub.nil _))) ?_
    refine XC.seq ?_
    refine XC.seq ?_
    refine XC.region ?_
    refine XO.v (V.move rfl) rfl ?_
    refine XO.v (V.nilNil rfl Try.underlying40 rfl) rfl ?_
    refine XO.nil ?_
    refine XE.next ?_
    refine XC.keep [(6, _), (7, _), (15, _)] (Sub.cons rfl (Sub.cons rfl (Sub.cons rfl (Sub.nil _)))) ?_
    refine XC.condF rfl rfl ?_
    refine XC.skip ?_
    refine XE.next ?_
    refine XC.keep [(6, _)] (Sub.cons rfl (Sub.nil _)) ?_
    refine XC.seq ?_
    refine XC.region ?_
    refine XO.v (V.move rfl) rfl ?_
    refine XO.v (V.nilCheckP rfl) rfl ?_
    refine XO.v (V.fieldAddr rfl fo_62_4) rfl ?_
    refine XO.v (V.load rfl (inXM .here) (encS.ld_u_ran _ _ (by omega)) sc_3) rfl ?_
    refine XO.v (V.assign rfl) rfl ?_
    refine XO.v (V.assign rfl) rfl ?_
    refine XO.nil ?_
    refine XE.next ?_
    refine XC.keep [(4, _), (5, _)] (Sub.cons rfl (Sub.cons rfl (Sub.nil _))) ?_
    refine XC.ret ?_
    refine XE.ret2 rfl rfl rfl (post_of (.cons .here .nil) rfl ?_)
    exact ⟨by rw [i0, if_pos rfl]; rfl, rfl⟩
  · skip
    have i0 := h1
    refine XO.v (V.move rfl) rfl ?_
    refine XO.v (V.extract rfl rfl) rfl ?_
    refine XO.v (V.extract rfl rfl) rfl ?_
    refine XO.v (V.assign rfl) rfl ?_
    refine XO.v (V.assign rfl) rfl ?_
    refine XO.nil ?_
    refine XE.next ?_
    refine XC.keep [(6, _), (7, _)] (Sub.cons rfl (Sub.cons rfl (Sub.nil _))) ?_
    refine XC.seq ?_
    refine XC.seq ?_
    refine XC.region ?_
    refine XO.v (V.move rfl) rfl ?_
    refine XO.v (V.ifaceNil rfl Try.underlying40 rfl) rfl ?_
    refine XO.nil ?_
    refine XE.next ?_
    refine XC.keep [(6, _), (7, _), (15, _)] (Sub.cons rfl (Sub.cons rfl (Sub.cons rfl (Sub.nil _)))) ?_
    refine XC.condT rfl rfl ?_
    refine XC.seq ?_
    refine XC.region ?_
    refine XO.v (V.move rfl) rfl ?_
    refine XO.v (V.assign rfl) rfl ?_
    refine XO.v (V.assign rfl) rfl ?_
    refine XO.nil ?_
    refine XE.next ?_
    refine XC.keep [(4, _), (5, _)] (Sub.cons rfl (Sub.cons rfl (Sub.nil _))) ?_
    refine XC.ret ?_
    refine XE.thenRet ?_
    refine XE.ret2 rfl rfl rfl (post_of (.cons .here .nil) rfl ?_)
    exact ⟨by rw [if_neg (by assumption), errv_pos _ (by assumption)], rfl⟩
set_option maxRecDepth 10000 in
set_option maxHeartbeats 1000000 in
theorem f_wake (b o : Nat) (s : SC) (d : Int → Nat) (hI : s.toSF.Inv d) (hR : s.Rep) (n : Int) (on : Bool) : Spec Try.prog 17 [ptr b o 0, .int .i64 n, .bool on]
    [.cells b o 2281 (encS s), .fam fam30 (s.rows 86)]
    (fun v H1 => v = errv 74 (s.tkE n) ∧ ∃ t : SC, t.toSF = s.toSF.wake d n on ∧ t.Rep ∧ H1 = [.cells b o 2281 (encS t), .fam fam30 (t.rows 86)]) := by
  refine Spec.intro Try.func17 rfl rfl ?_
  intro W
  refine XC.seq ?_
  refine XC.region ?_
  refine XO.v (V.assign rfl) rfl ?_
  refine XO.nil ?_
  refine XE.next ?_
  refine XC.keep [(0, _), (1, _), (2, _)] (Sub.cons rfl (Sub.cons rfl (Sub.cons rfl (Sub.nil _)))) ?_
  refine XC.seq ?_
  refine XC.region ?_
  refine XO.v (V.move rfl) rfl ?_
  refine XO.v (V.move rfl) rfl ?_
  refine XO.call rfl (f_task _ _ _ _) (.cons .here .nil) cl_34 rfl ?_
  rintro _ _ (⟨h1, rfl, rfl⟩ | ⟨h1, rfl, rfl⟩)
  · skip
    obtain ⟨i0, i1, i2, i3⟩ := h1
    refine XO.v (V.move rfl) rfl ?_
    refine XO.v (V.extract rfl rfl) rfl ?_
    refine XO.v (V.extract rfl rfl) rfl ?_
    refine XO.v (V.assign rfl) rfl ?_
    refine XO.v (V.assign rfl) rfl ?_
    refine XO.nil ?_
    refine XE.next ?_
    refine XC.keep [(0, _), (1, _), (2, _), (7, _), (8, _)] (Sub.cons rfl (Sub.cons rfl (Sub.cons rfl (Sub.cons rfl (Sub.cons rfl (Sub.nil _)))))) ?_
    refine XC.seq ?_
    refine XC.seq ?_
    refine XC.region ?_
    refine XO.v (V.move rfl) rfl ?_
    refine XO.v (V.nilNil rfl Try.underlying40 rfl) rfl ?_
    refine XO.nil ?_
    refine XE.next ?_
    refine XC.keep [(0, _), (1, _), (2, _), (7, _), (8, _), (16, _)] (Sub.cons rfl (Sub.cons rfl (Sub.cons rfl (Sub.cons rfl (Sub.cons rfl (Sub.cons rfl (Sub.nil _))))))) ?_
    refine XC.condF rfl rfl ?_
    refine XC.skip ?_
    refine XE.next ?_
    refine XC.keep [(0, _), (1, _), (2, _), (7, _)] (Sub.cons rfl (Sub.cons rfl (Sub.cons rfl (Sub.cons rfl (Sub.nil _))))) ?_
    refine XC.seq ?_
    refine XC.region ?_
    refine XO.v (V.move rfl) rfl ?_
    refine XO.v (V.move rfl) rfl ?_
    refine XO.v (V.nilCheckP rfl) rfl ?_
    refine XO.v (V.fieldAddr rfl fo_62_5) rfl ?_
    refine XO.store rfl rfl .here (encS.st_u_awake _ _ (by omega) _) rfl sz_4_1 ?_
    refine XO.nil ?_
    refine XE.next ?_
    refine XC.keep [(0, _), (1, _)] (Sub.cons rfl (Sub.cons rfl (Sub.nil _))) ?_
    refine XC.seq ?_
    refine XC.region ?_
    refine XO.v (V.move rfl) rfl ?_
    refine XO.v (V.move rfl) rfl ?_
    refine XO.v (V.add rfl rfl _ (IntWalk.i64_in _ (by omega))) rfl ?_
    refine XO.call rfl (f_settle _ _ { s with awake := fset s.awake (10 + n) on } d ⟨hI.h0, hI.up, hI.was, hI.quo, hI.wt⟩ hR _ (.inr ⟨by omega, by omega, i3⟩)) (.cons .here (.cons .here .nil)) cl_36 rfl ?_
    rintro _ _ ⟨rfl, t, tl, tR, rfl⟩
    refine XO.nil ?_
    refine XE.next ?_
    refine XC.keep [] (Sub.nil _) ?_
    refine XC.seq ?_
    refine XC.region ?_
    refine XO.v (V.assign rfl) rfl ?_
    refine XO.nil ?_
    refine XE.next ?_
    refine XC.keep [(6, _)] (Sub.cons rfl (Sub.nil _)) ?_
    refine XC.ret ?_
    refine XE.ret1 rfl rfl (post_of (.cons .here (.cons .here .nil)) rfl ?_)
    exact ⟨by rw [i0]; rfl, t, by rw [tl]; unfold SF.wake; rw [if_pos i0], tR, rfl⟩
  · skip
    have i0 := h1
    refine XO.v (V.move rfl) rfl ?_
    refine XO.v (V.extract rfl rfl) rfl ?_
    refine XO.v (V.extract rfl rfl) rfl ?_
    refine XO.v (V.assign rfl) rfl ?_
    refine XO.v (V.assign rfl) rfl ?_
    refine XO.nil ?_
    refine XE.next ?_
    refine XC.keep [(0, _), (1, _), (2, _), (7, _), (8, _)] (Sub.cons rfl (Sub.cons rfl (Sub.cons rfl (Sub.cons rfl (Sub.cons rfl (Sub.nil _)))))) ?_
    refine XC.seq ?_
    refine XC.seq ?_
    refine XC.region ?_
    refine XO.v (V.move rfl) rfl ?_
    refine XO.v (V.ifaceNil rfl Try.underlying40 rfl) rfl ?_
    refine XO.nil ?_
    refine XE.next ?_
    refine XC.keep [(0, _), (1, _), (2, _), (7, _), (8, _), (16, _)] (Sub.cons rfl (Sub.cons rfl (Sub.cons rfl (Sub.cons rfl (Sub.cons rfl (Sub.cons rfl (Sub.nil _))))))) ?_
    refine XC.condT rfl rfl ?_
    refine XC.seq ?_
    refine XC.region ?_
    refine XO.v (V.move rfl) rfl ?_
    refine XO.v (V.assign rfl) rfl ?_
    refine XO.nil ?_
    refine XE.next ?_
    refine XC.keep [(6, _)] (Sub.cons rfl (Sub.nil _)) ?_
    refine XC.ret ?_
    refine XE.thenRet ?_
    refine XE.ret1 rfl rfl (post_of (.cons .here (.cons .here .nil)) rfl ?_)
    exact ⟨by rw [errv_pos _ (by assumption)], s, by unfold SF.wake; rw [if_neg (by assumption)], hR, rfl⟩
set_option maxRecDepth 10000 in
set_option maxHeartbeats 1000000 in
theorem f_freeze (b o : Nat) (s : SC) (d : Int → Nat) (hI : s.toSF.Inv d) (hR : s.Rep) (n : Int) (on : Bool) : Spec Try.prog 21 [ptr b o 0, .int .i64 n, .bool on]
    [.cells b o 2281 (encS s), .fam fam30 (s.rows 86)]
    (fun v H1 => v = errv 74 (s.frzE n) ∧ ∃ t : SC, t.toSF = s.toSF.freeze d n on ∧ t.Rep ∧ H1 = [.cells b o 2281 (encS t), .fam fam30 (t.rows 86)]) := by
  refine Spec.intro Try.func21 rfl rfl ?_
  intro W
  refine XC.seq ?_
  refine XC.region ?_
  refine XO.v (V.assign rfl) rfl ?_
  refine XO.nil ?_
  refine XE.next ?_
  refine XC.keep [(0, _), (1, _), (2, _)] (Sub.cons rfl (Sub.cons rfl (Sub.cons rfl (Sub.nil _)))) ?_
  refine XC.seq ?_
  refine XC.region ?_
  refine XO.v (V.move rfl) rfl ?_
  refine XO.v (V.move rfl) rfl ?_
  refine XO.call rfl (f_group _ _ _ _) (.cons .here .nil) cl_35 rfl ?_
  rintro _ _ (⟨h1, rfl, rfl⟩ | ⟨h1, rfl, rfl⟩)
  · skip
    obtain ⟨i0, i1, i2, i3⟩ := h1
    refine XO.v (V.move rfl) rfl ?_
    refine XO.v (V.extract rfl rfl) rfl ?_
    refine XO.v (V.extract rfl rfl) rfl ?_
    refine XO.v (V.assign rfl) rfl ?_
    refine XO.v (V.assign rfl) rfl ?_
    refine XO.nil ?_
    refine XE.next ?_
    refine XC.keep [(0, _), (1, _), (2, _), (7, _), (8, _)] (Sub.cons rfl (Sub.cons rfl (Sub.cons rfl (Sub.cons rfl (Sub.cons rfl (Sub.nil _)))))) ?_
    refine XC.seq ?_
    refine XC.seq ?_
    refine XC.region ?_
    refine XO.v (V.move rfl) rfl ?_
    refine XO.v (V.nilNil rfl Try.underlying40 rfl) rfl ?_
    refine XO.nil ?_
    refine XE.next ?_
    refine XC.keep [(0, _), (1, _), (2, _), (7, _), (8, _), (16, _)] (Sub.cons rfl (Sub.cons rfl (Sub.cons rfl (Sub.cons rfl (Sub.cons rfl (Sub.cons rfl (Sub.nil _))))))) ?_
    refine XC.condF rfl rfl ?_
    refine XC.skip ?_
    refine XE.next ?_
    refine XC.keep [(0, _), (1, _), (2, _), (7, _)] (Sub.cons rfl (Sub.cons rfl (Sub.cons rfl (Sub.cons rfl (Sub.nil _))))) ?_
    refine XC.seq ?_
    refine XC.seq ?_
    refine XC.region ?_
    refine XO.v (V.move rfl) rfl ?_
    refine XO.v (V.cmp rfl rfl rfl) rfl ?_
    refine XO.nil ?_
    refine XE.next ?_
    refine XC.keep [(0, _), (1, _), (2, _), (7, _), (19, _)] (Sub.cons rfl (Sub.cons rfl (Sub.cons rfl (Sub.cons rfl (Sub.cons rfl (Sub.nil _)))))) ?_
    refine XC.condP rfl (fun h2 => ?_) (fun h2 => ?_)
    · skip
      refine XC.seq ?_
      refine XC.region ?_
      refine XO.v (V.makeIface rfl Try.underlying74 (by simp)) rfl ?_
      refine XO.v (V.assign rfl) rfl ?_
      refine XO.nil ?_
      refine XE.next ?_
      refine XC.keep [(6, _)] (Sub.cons rfl (Sub.nil _)) ?_
      refine XC.ret ?_
      refine XE.thenRet ?_
      refine XE.ret1 rfl rfl (post_of (.cons .here (.cons .here .nil)) rfl ?_)
      have e : s.frzE n = 8 := by unfold SF.frzE; rw [if_neg (by omega), if_pos (by omega)]
      exact ⟨by rw [e]; rfl, s, by unfold SF.freeze; rw [if_neg (by omega)], hR, rfl⟩
    · skip
      refine XC.skip ?_
      refine XE.next ?_
      refine XC.keep [(0, _), (1, _), (2, _), (7, _)] (Sub.cons rfl (Sub.cons rfl (Sub.cons rfl (Sub.cons rfl (Sub.nil _))))) ?_
      refine XC.seq ?_
      refine XC.region ?_
      refine XO.v (V.move rfl) rfl ?_
      refine XO.v (V.move rfl) rfl ?_
      refine XO.v (V.nilCheckP rfl) rfl ?_
      refine XO.v (V.fieldAddr rfl fo_62_8) rfl ?_
      refine XO.store rfl rfl .here (encS.st_u_frozen _ _ (by omega) _) rfl sz_4_1 ?_
      refine XO.nil ?_
      refine XE.next ?_
      refine XC.keep [(0, _), (1, _)] (Sub.cons rfl (Sub.cons rfl (Sub.nil _))) ?_
      refine XC.seq ?_
      refine XC.region ?_
      refine XO.v (V.move rfl) rfl ?_
      refine XO.v (V.move rfl) rfl ?_
      refine XO.call rfl (f_settle _ _ { s with frz := fset s.frz n on } d ⟨hI.h0, hI.up, hI.was, hI.quo, hI.wt⟩ hR _ (.inr ⟨by omega, by omega, i3⟩)) (.cons .here (.cons .here .nil)) cl_36 rfl ?_
      rintro _ _ ⟨rfl, t, tl, tR, rfl⟩
      refine XO.nil ?_
      refine XE.next ?_
      refine XC.keep [] (Sub.nil _) ?_
      refine XC.seq ?_
      refine XC.region ?_
      refine XO.v (V.assign rfl) rfl ?_
      refine XO.nil ?_
      refine XE.next ?_
      refine XC.keep [(6, _)] (Sub.cons rfl (Sub.nil _)) ?_
      refine XC.ret ?_
      refine XE.ret1 rfl rfl (post_of (.cons .here (.cons .here .nil)) rfl ?_)
      have e : s.frzE n = 0 := by unfold SF.frzE; rw [if_neg (by omega), if_neg (by omega)]
      exact ⟨by rw [e]; rfl, t, by rw [tl]; unfold SF.freeze; rw [if_pos e], tR, rfl⟩
  · skip
    have i0 := h1
    refine XO.v (V.move rfl) rfl ?_
    refine XO.v (V.extract rfl rfl) rfl ?_
    refine XO.v (V.extract rfl rfl) rfl ?_
    refine XO.v (V.assign rfl) rfl ?_
    refine XO.v (V.assign rfl) rfl ?_
    refine XO.nil ?_
    refine XE.next ?_
    refine XC.keep [(0, _), (1, _), (2, _), (7, _), (8, _)] (Sub.cons rfl (Sub.cons rfl (Sub.cons rfl (Sub.cons rfl (Sub.cons rfl (Sub.nil _)))))) ?_
    refine XC.seq ?_
    refine XC.seq ?_
    refine XC.region ?_
    refine XO.v (V.move rfl) rfl ?_
    refine XO.v (V.ifaceNil rfl Try.underlying40 rfl) rfl ?_
    refine XO.nil ?_
    refine XE.next ?_
    refine XC.keep [(0, _), (1, _), (2, _), (7, _), (8, _), (16, _)] (Sub.cons rfl (Sub.cons rfl (Sub.cons rfl (Sub.cons rfl (Sub.cons rfl (Sub.cons rfl (Sub.nil _))))))) ?_
    refine XC.condT rfl rfl ?_
    refine XC.seq ?_
    refine XC.region ?_
    refine XO.v (V.move rfl) rfl ?_
    refine XO.v (V.assign rfl) rfl ?_
    refine XO.nil ?_
    refine XE.next ?_
    refine XC.keep [(6, _)] (Sub.cons rfl (Sub.nil _)) ?_
    refine XC.ret ?_
    refine XE.thenRet ?_
    refine XE.ret1 rfl rfl (post_of (.cons .here (.cons .here .nil)) rfl ?_)
    have e : s.frzE n = s.grE n := by unfold SF.frzE; rw [if_pos (by assumption)]
    exact ⟨by rw [e, errv_pos _ (by assumption)], s, by unfold SF.freeze; rw [if_neg (by omega)], hR, rfl⟩
set_option maxRecDepth 10000 in
set_option maxHeartbeats 1000000 in
theorem f_quota (b o : Nat) (s : SC) (d : Int → Nat) (hI : s.toSF.Inv d) (hR : s.Rep) (n q p : Int) : Spec Try.prog 20 [ptr b o 0, .int .i64 n, .int .i64 q, .int .i64 p]
    [.cells b o 2281 (encS s), .fam fam30 (s.rows 86)]
    (fun v H1 => v = errv 74 (s.quoE n q p) ∧ ∃ t : SC, t.toSF = s.toSF.setQ d n q p ∧ t.Rep ∧ H1 = [.cells b o 2281 (encS t), .fam fam30 (t.rows 86)]) := by
  refine Spec.intro Try.func20 rfl rfl ?_
  intro W
  refine XC.seq ?_
  refine XC.region ?_
  refine XO.v (V.assign rfl) rfl ?_
  refine XO.nil ?_
  refine XE.next ?_
  refine XC.keep [(0, _), (1, _), (2, _), (3, _)] (Sub.cons rfl (Sub.cons rfl (Sub.cons rfl (Sub.cons rfl (Sub.nil _))))) ?_
  refine XC.seq ?_
  refine XC.region ?_
  refine XO.v (V.move rfl) rfl ?_
  refine XO.v (V.move rfl) rfl ?_
  refine XO.call rfl (f_group _ _ _ _) (.cons .here .nil) cl_35 rfl ?_
  rintro _ _ (⟨h1, rfl, rfl⟩ | ⟨h1, rfl, rfl⟩)
  · skip
    obtain ⟨i0, i1, i2, i3⟩ := h1
    refine XO.v (V.move rfl) rfl ?_
    refine XO.v (V.extract rfl rfl) rfl ?_
    refine XO.v (V.extract rfl rfl) rfl ?_
    refine XO.v (V.assign rfl) rfl ?_
    refine XO.v (V.assign rfl) rfl ?_
    refine XO.nil ?_
    refine XE.next ?_
    refine XC.keep [(0, _), (1, _), (2, _), (3, _), (9, _), (10, _)] (Sub.cons rfl (Sub.cons rfl (Sub.cons rfl (Sub.cons rfl (Sub.cons rfl (Sub.cons rfl (Sub.nil _))))))) ?_
    refine XC.seq ?_
    refine XC.seq ?_
    refine XC.region ?_
    refine XO.v (V.move rfl) rfl ?_
    refine XO.v (V.nilNil rfl Try.underlying40 rfl) rfl ?_
    refine XO.nil ?_
    refine XE.next ?_
    refine XC.keep [(0, _), (1, _), (2, _), (3, _), (9, _), (10, _), (18, _)] (Sub.cons rfl (Sub.cons rfl (Sub.cons rfl (Sub.cons rfl (Sub.cons rfl (Sub.cons rfl (Sub.cons rfl (Sub.nil _)))))))) ?_
    refine XC.condF rfl rfl ?_
    refine XC.skip ?_
    refine XE.next ?_
    refine XC.keep [(0, _), (1, _), (2, _), (3, _), (9, _)] (Sub.cons rfl (Sub.cons rfl (Sub.cons rfl (Sub.cons rfl (Sub.cons rfl (Sub.nil _)))))) ?_
    refine XC.seq ?_
    refine XC.seq ?_
    refine XC.region ?_
    refine XO.v (V.move rfl) rfl ?_
    refine XO.v (V.cmp rfl rfl rfl) rfl ?_
    refine XO.nil ?_
    refine XE.next ?_
    refine XC.keep [(0, _), (1, _), (2, _), (3, _), (9, _), (21, _)] (Sub.cons rfl (Sub.cons rfl (Sub.cons rfl (Sub.cons rfl (Sub.cons rfl (Sub.cons rfl (Sub.nil _))))))) ?_
    refine XC.condP rfl (fun h2 => ?_) (fun h2 => ?_)
    · skip
      refine XC.seq ?_
      refine XC.region ?_
      refine XO.v (V.makeIface rfl Try.underlying74 (by simp)) rfl ?_
      refine XO.v (V.assign rfl) rfl ?_
      refine XO.nil ?_
      refine XE.next ?_
      refine XC.keep [(8, _)] (Sub.cons rfl (Sub.nil _)) ?_
      refine XC.ret ?_
      refine XE.thenRet ?_
      refine XE.ret1 rfl rfl (post_of (.cons .here (.cons .here .nil)) rfl ?_)
      have e : s.quoE n q p = 8 := by unfold SF.quoE; rw [if_neg (by omega), if_pos (by omega)]
      exact ⟨by rw [e]; rfl, s, by unfold SF.setQ; rw [if_neg (by omega)], hR, rfl⟩
    · skip
      refine XC.skip ?_
      refine XE.next ?_
      refine XC.keep [(0, _), (1, _), (2, _), (3, _), (9, _)] (Sub.cons rfl (Sub.cons rfl (Sub.cons rfl (Sub.cons rfl (Sub.cons rfl (Sub.nil _)))))) ?_
      refine XC.seq ?_
      refine XC.seq ?_
      refine XC.region ?_
      refine XO.v (V.move rfl) rfl ?_
      refine XO.v (V.cmp rfl rfl rfl) rfl ?_
      refine XO.v (V.move rfl) rfl ?_
      refine XO.splitP (d := 25) rfl (fun h3 => ?_) (fun h3 => ?_)
      · skip
        refine XO.guardSkip rfl rfl rfl rfl rfl ?_
        refine XO.guardSkip rfl rfl rfl rfl rfl ?_
        refine XO.v (V.pick rfl rfl rfl rfl) rfl ?_
        refine XO.v (V.move rfl) rfl ?_
        refine XO.guardSkip rfl rfl rfl rfl rfl ?_
        refine XO.guardSkip rfl rfl rfl rfl rfl ?_
        refine XO.v (V.pick rfl rfl rfl rfl) rfl ?_
        refine XO.v (V.move rfl) rfl ?_
        refine XO.guardSkip rfl rfl rfl rfl rfl ?_
        refine XO.guardSkip rfl rfl rfl rfl rfl ?_
        refine XO.guardSkip rfl rfl rfl rfl rfl ?_
        refine XO.v (V.pick rfl rfl rfl rfl) rfl ?_
        refine XO.nil ?_
        refine XE.next ?_
        refine XC.keep [(0, _), (1, _), (2, _), (3, _), (9, _), (37, _)] (Sub.cons rfl (Sub.cons rfl (Sub.cons rfl (Sub.cons rfl (Sub.cons rfl (Sub.cons rfl (Sub.nil _))))))) ?_
        refine XC.condT rfl rfl ?_
        refine XC.seq ?_
        refine XC.region ?_
        refine XO.v (V.makeIface rfl Try.underlying74 (by simp)) rfl ?_
        refine XO.v (V.assign rfl) rfl ?_
        refine XO.nil ?_
        refine XE.next ?_
        refine XC.keep [(8, _)] (Sub.cons rfl (Sub.nil _)) ?_
        refine XC.ret ?_
        refine XE.thenRet ?_
        refine XE.ret1 rfl rfl (post_of (.cons .here (.cons .here .nil)) rfl ?_)
        have e : s.quoE n q p = 1 := by unfold SF.quoE; rw [if_neg (by omega), if_neg (by omega), if_pos (by omega)]
        exact ⟨by rw [e]; rfl, s, by unfold SF.setQ; rw [if_neg (by omega)], hR, rfl⟩
      · skip
        refine XO.guardRun rfl rfl rfl ?_
        refine XO.v (V.move rfl) rfl ?_
        refine XO.guardRun rfl rfl rfl ?_
        refine XO.v (V.cmp rfl rfl rfl) rfl ?_
        refine XO.v (V.pick rfl rfl rfl rfl) rfl ?_
        refine XO.v (V.move rfl) rfl ?_
        refine XO.splitP (d := 29) rfl (fun h4 => ?_) (fun h4 => ?_)
        · skip
          refine XO.guardSkip rfl rfl rfl rfl rfl ?_
          refine XO.guardSkip rfl rfl rfl rfl rfl ?_
          refine XO.v (V.pick rfl rfl rfl rfl) rfl ?_
          refine XO.v (V.move rfl) rfl ?_
          refine XO.guardSkip rfl rfl rfl rfl rfl ?_
          refine XO.guardSkip rfl rfl rfl rfl rfl ?_
          refine XO.guardSkip rfl rfl rfl rfl rfl ?_
          refine XO.v (V.pick rfl rfl rfl rfl) rfl ?_
          refine XO.nil ?_
          refine XE.next ?_
          refine XC.keep [(0, _), (1, _), (2, _), (3, _), (9, _), (37, _)] (Sub.cons rfl (Sub.cons rfl (Sub.cons rfl (Sub.cons rfl (Sub.cons rfl (Sub.cons rfl (Sub.nil _))))))) ?_
          refine XC.condT rfl rfl ?_
          refine XC.seq ?_
          refine XC.region ?_
          refine XO.v (V.makeIface rfl Try.underlying74 (by simp)) rfl ?_
          refine XO.v (V.assign rfl) rfl ?_
          refine XO.nil ?_
          refine XE.next ?_
          refine XC.keep [(8, _)] (Sub.cons rfl (Sub.nil _)) ?_
          refine XC.ret ?_
          refine XE.thenRet ?_
          refine XE.ret1 rfl rfl (post_of (.cons .here (.cons .here .nil)) rfl ?_)
          have e : s.quoE n q p = 1 := by unfold SF.quoE; rw [if_neg (by omega), if_neg (by omega), if_pos (by omega)]
          exact ⟨by rw [e]; rfl, s, by unfold SF.setQ; rw [if_neg (by omega)], hR, rfl⟩
        · skip
          refine XO.guardRun rfl rfl rfl ?_
          refine XO.v (V.move rfl) rfl ?_
          refine XO.guardRun rfl rfl rfl ?_
          refine XO.v (V.cmp rfl rfl rfl) rfl ?_
          refine XO.v (V.pick rfl rfl rfl rfl) rfl ?_
          refine XO.v (V.move rfl) rfl ?_
          refine XO.splitP (d := 33) rfl (fun h5 => ?_) (fun h5 => ?_)
          · skip
            refine XO.guardSkip rfl rfl rfl rfl rfl ?_
            refine XO.guardSkip rfl rfl rfl rfl rfl ?_
            refine XO.guardSkip rfl rfl rfl rfl rfl ?_
            refine XO.v (V.pick rfl rfl rfl rfl) rfl ?_
            refine XO.nil ?_
            refine XE.next ?_
            refine XC.keep [(0, _), (1, _), (2, _), (3, _), (9, _), (37, _)] (Sub.cons rfl (Sub.cons rfl (Sub.cons rfl (Sub.cons rfl (Sub.cons rfl (Sub.cons rfl (Sub.nil _))))))) ?_
            refine XC.condT rfl rfl ?_
            refine XC.seq ?_
            refine XC.region ?_
            refine XO.v (V.makeIface rfl Try.underlying74 (by simp)) rfl ?_
            refine XO.v (V.assign rfl) rfl ?_
            refine XO.nil ?_
            refine XE.next ?_
            refine XC.keep [(8, _)] (Sub.cons rfl (Sub.nil _)) ?_
            refine XC.ret ?_
            refine XE.thenRet ?_
            refine XE.ret1 rfl rfl (post_of (.cons .here (.cons .here .nil)) rfl ?_)
            have e : s.quoE n q p = 1 := by unfold SF.quoE; rw [if_neg (by omega), if_neg (by omega), if_pos (by omega)]
            exact ⟨by rw [e]; rfl, s, by unfold SF.setQ; rw [if_neg (by omega)], hR, rfl⟩
          · skip
            refine XO.guardRun rfl rfl rfl ?_
            refine XO.v (V.move rfl) rfl ?_
            refine XO.guardRun rfl rfl rfl ?_
            refine XO.v (V.move rfl) rfl ?_
            refine XO.guardRun rfl rfl rfl ?_
            refine XO.v (V.cmp rfl rfl rfl) rfl ?_
            refine XO.v (V.pick rfl rfl rfl rfl) rfl ?_
            refine XO.nil ?_
            refine XE.next ?_
            refine XC.keep [(0, _), (1, _), (2, _), (3, _), (9, _), (37, _)] (Sub.cons rfl (Sub.cons rfl (Sub.cons rfl (Sub.cons rfl (Sub.cons rfl (Sub.cons rfl (Sub.nil _))))))) ?_
            refine XC.condP rfl (fun h6 => ?_) (fun h6 => ?_)
            · skip
              refine XC.seq ?_
              refine XC.region ?_
              refine XO.v (V.makeIface rfl Try.underlying74 (by simp)) rfl ?_
              refine XO.v (V.assign rfl) rfl ?_
              refine XO.nil ?_
              refine XE.next ?_
              refine XC.keep [(8, _)] (Sub.cons rfl (Sub.nil _)) ?_
              refine XC.ret ?_
              refine XE.thenRet ?_
              refine XE.ret1 rfl rfl (post_of (.cons .here (.cons .here .nil)) rfl ?_)
              have e : s.quoE n q p = 1 := by unfold SF.quoE; rw [if_neg (by omega), if_neg (by omega), if_pos (by omega)]
              exact ⟨by rw [e]; rfl, s, by unfold SF.setQ; rw [if_neg (by omega)], hR, rfl⟩
            · skip
              refine XC.skip ?_
              refine XE.next ?_
              refine XC.keep [(0, _), (1, _), (2, _), (3, _), (9, _)] (Sub.cons rfl (Sub.cons rfl (Sub.cons rfl (Sub.cons rfl (Sub.cons rfl (Sub.nil _)))))) ?_
              refine XC.seq ?_
              refine XC.region ?_
              refine XO.v (V.move rfl) rfl ?_
              refine XO.v (V.move rfl) rfl ?_
              refine XO.v (V.move rfl) rfl ?_
              refine XO.v (V.move rfl) rfl ?_
              refine XO.v (V.move rfl) rfl ?_
              refine XO.v (V.nilCheckP rfl) rfl ?_
              refine XO.v (V.fieldAddr rfl fo_62_9) rfl ?_
              refine XO.store rfl rfl .here (encS.st_u_quota _ _ (by omega) _) rfl sz_3_1 ?_
              refine XO.v (V.nilCheckP rfl) rfl ?_
              refine XO.v (V.fieldAddr rfl fo_62_10) rfl ?_
              refine XO.store rfl rfl .here (encS.st_u_period _ _ (by omega) _) rfl sz_3_1 ?_
              refine XO.v (V.nilCheckP rfl) rfl ?_
              refine XO.v (V.fieldAddr rfl fo_62_11) rfl ?_
              refine XO.store rfl rfl .here (encS.st_u_used _ _ (by omega) _) rfl sz_3_1 ?_
              refine XO.nil ?_
              refine XE.next ?_
              refine XC.keep [(0, _), (1, _)] (Sub.cons rfl (Sub.cons rfl (Sub.nil _))) ?_
              refine XC.seq ?_
              refine XC.region ?_
              have hq := (show SF.Inv (s.toSF.quo1 n q p) d from ⟨hI.h0, hI.up, hI.was, fun i a b => by
                show 0 ≤ fset s.quota n q i ∧ (0 < fset s.quota n q i → 1 ≤ fset s.period n p i)
                unfold fset; split
                · omega
                · exact hI.quo i a b, hI.wt⟩)
              refine XO.v (V.move rfl) rfl ?_
              refine XO.v (V.move rfl) rfl ?_
              refine XO.call rfl (f_settle _ _ { s with quota := fset s.quota n q, period := fset s.period n p, used := fset s.used n 0 } d hq hR _ (.inr ⟨by omega, by omega, i3⟩)) (.cons .here (.cons .here .nil)) cl_36 rfl ?_
              rintro _ _ ⟨rfl, t, tl, tR, rfl⟩
              refine XO.nil ?_
              refine XE.next ?_
              refine XC.keep [] (Sub.nil _) ?_
              refine XC.seq ?_
              refine XC.region ?_
              refine XO.v (V.assign rfl) rfl ?_
              refine XO.nil ?_
              refine XE.next ?_
              refine XC.keep [(8, _)] (Sub.cons rfl (Sub.nil _)) ?_
              refine XC.ret ?_
              refine XE.ret1 rfl rfl (post_of (.cons .here (.cons .here .nil)) rfl ?_)
              have e : s.quoE n q p = 0 := by unfold SF.quoE; rw [if_neg (by omega), if_neg (by omega), if_neg (by omega)]
              exact ⟨by rw [e]; rfl, t, by rw [tl]; unfold SF.setQ; rw [if_pos e]; rfl, tR, rfl⟩
  · skip
    have i0 := h1
    refine XO.v (V.move rfl) rfl ?_
    refine XO.v (V.extract rfl rfl) rfl ?_
    refine XO.v (V.extract rfl rfl) rfl ?_
    refine XO.v (V.assign rfl) rfl ?_
    refine XO.v (V.assign rfl) rfl ?_
    refine XO.nil ?_
    refine XE.next ?_
    refine XC.keep [(0, _), (1, _), (2, _), (3, _), (9, _), (10, _)] (Sub.cons rfl (Sub.cons rfl (Sub.cons rfl (Sub.cons rfl (Sub.cons rfl (Sub.cons rfl (Sub.nil _))))))) ?_
    refine XC.seq ?_
    refine XC.seq ?_
    refine XC.region ?_
    refine XO.v (V.move rfl) rfl ?_
    refine XO.v (V.ifaceNil rfl Try.underlying40 rfl) rfl ?_
    refine XO.nil ?_
    refine XE.next ?_
    refine XC.keep [(0, _), (1, _), (2, _), (3, _), (9, _), (10, _), (18, _)] (Sub.cons rfl (Sub.cons rfl (Sub.cons rfl (Sub.cons rfl (Sub.cons rfl (Sub.cons rfl (Sub.cons rfl (Sub.nil _)))))))) ?_
    refine XC.condT rfl rfl ?_
    refine XC.seq ?_
    refine XC.region ?_
    refine XO.v (V.move rfl) rfl ?_
    refine XO.v (V.assign rfl) rfl ?_
    refine XO.nil ?_
    refine XE.next ?_
    refine XC.keep [(8, _)] (Sub.cons rfl (Sub.nil _)) ?_
    refine XC.ret ?_
    refine XE.thenRet ?_
    refine XE.ret1 rfl rfl (post_of (.cons .here (.cons .here .nil)) rfl ?_)
    have e : s.quoE n q p = s.grE n := by unfold SF.quoE; rw [if_pos (by assumption)]
    exact ⟨by rw [e, errv_pos _ (by assumption)], s, by unfold SF.setQ; rw [if_neg (by omega)], hR, rfl⟩
set_option maxRecDepth 10000 in
set_option maxHeartbeats 2000000 in
theorem f_AddGroup (b o : Nat) (s : SC) (d : Int → Nat) (hI : s.toSF.Inv d) (hR : s.Rep) (n p w : Int) : Spec Try.prog 19 [ptr b o 0, .int .i64 n, .int .i64 p, .int .i64 w]
    [.cells b o 2281 (encS s), .fam fam30 (s.rows 86)]
    (fun v H1 => v = errv 74 (s.addGE n p w) ∧ ∃ t : SC, t.toSF = s.toSF.addG n p w ∧ t.Rep ∧ H1 = [.cells b o 2281 (encS t), .fam fam30 (t.rows 86)]) := by
  refine Spec.intro Try.func19 rfl rfl ?_
  intro W
  refine XC.seq ?_
  refine XC.region ?_
  refine XO.v (V.assign rfl) rfl ?_
  refine XO.nil ?_
  refine XE.next ?_
  refine XC.keep [(0, _), (1, _), (2, _), (3, _)] (Sub.cons rfl (Sub.cons rfl (Sub.cons rfl (Sub.cons rfl (Sub.nil _))))) ?_
  refine XC.seq ?_
  refine XC.seq ?_
  refine XC.region ?_
  refine XO.v (V.move rfl) rfl ?_
  refine XO.v (V.cmp rfl rfl rfl) rfl ?_
  refine XO.v (V.move rfl) rfl ?_
  refine XO.splitP (d := 13) rfl (fun h1 => ?_) (fun h1 => ?_)
  · skip
    refine XO.guardSkip rfl rfl rfl rfl rfl ?_
    refine XO.guardSkip rfl rfl rfl rfl rfl ?_
    refine XO.v (V.pick rfl rfl rfl rfl) rfl ?_
    refine XO.v (V.move rfl) rfl ?_
    refine XO.guardSkip rfl rfl rfl rfl rfl ?_
    refine XO.guardSkip rfl rfl rfl rfl rfl ?_
    refine XO.v (V.pick rfl rfl rfl rfl) rfl ?_
    refine XO.v (V.move rfl) rfl ?_
    refine XO.guardSkip rfl rfl rfl rfl rfl ?_
    refine XO.guardSkip rfl rfl rfl rfl rfl ?_
    refine XO.v (V.pick rfl rfl rfl rfl) rfl ?_
    refine XO.nil ?_
    refine XE.next ?_
    refine XC.keep [(0, _), (1, _), (2, _), (3, _), (24, _)] (Sub.cons rfl (Sub.cons rfl (Sub.cons rfl (Sub.cons rfl (Sub.cons rfl (Sub.nil _)))))) ?_
    refine XC.condT rfl rfl ?_
    refine XC.seq ?_
    refine XC.region ?_
    refine XO.v (V.makeIface rfl Try.underlying74 (by simp)) rfl ?_
    refine XO.v (V.assign rfl) rfl ?_
    refine XO.nil ?_
    refine XE.next ?_
    refine XC.keep [(8, _)] (Sub.cons rfl (Sub.nil _)) ?_
    refine XC.ret ?_
    refine XE.thenRet ?_
    refine XE.ret1 rfl rfl (post_of (.cons .here (.cons .here .nil)) rfl ?_)
    have e : s.addGE n p w = 1 := by unfold SF.addGE; rw [if_pos (by omega)]
    exact ⟨by rw [e]; rfl, s, by unfold SF.addG; rw [if_neg (by omega)], hR, rfl⟩
  · skip
    refine XO.guardRun rfl rfl rfl ?_
    refine XO.v (V.move rfl) rfl ?_
    refine XO.guardRun rfl rfl rfl ?_
    refine XO.v (V.cmp rfl rfl rfl) rfl ?_
    refine XO.v (V.pick rfl rfl rfl rfl) rfl ?_
    refine XO.v (V.move rfl) rfl ?_
    refine XO.splitP (d := 17) rfl (fun h2 => ?_) (fun h2 => ?_)
    · skip
      refine XO.guardSkip rfl rfl rfl rfl rfl ?_
      refine XO.guardSkip rfl rfl rfl rfl rfl ?_
      refine XO.v (V.pick rfl rfl rfl rfl) rfl ?_
      refine XO.v (V.move rfl) rfl ?_
      refine XO.guardSkip rfl rfl rfl rfl rfl ?_
      refine XO.guardSkip rfl rfl rfl rfl rfl ?_
      refine XO.v (V.pick rfl rfl rfl rfl) rfl ?_
      refine XO.nil ?_
      refine XE.next ?_
      refine XC.keep [(0, _), (1, _), (2, _), (3, _), (24, _)] (Sub.cons rfl (Sub.cons rfl (Sub.cons rfl (Sub.cons rfl (Sub.cons rfl (Sub.nil _)))))) ?_
      refine XC.condT rfl rfl ?_
      refine XC.seq ?_
      refine XC.region ?_
      refine XO.v (V.makeIface rfl Try.underlying74 (by simp)) rfl ?_
      refine XO.v (V.assign rfl) rfl ?_
      refine XO.nil ?_
      refine XE.next ?_
      refine XC.keep [(8, _)] (Sub.cons rfl (Sub.nil _)) ?_
      refine XC.ret ?_
      refine XE.thenRet ?_
      refine XE.ret1 rfl rfl (post_of (.cons .here (.cons .here .nil)) rfl ?_)
      have e : s.addGE n p w = 1 := by unfold SF.addGE; rw [if_pos (by omega)]
      exact ⟨by rw [e]; rfl, s, by unfold SF.addG; rw [if_neg (by omega)], hR, rfl⟩
    · skip
      refine XO.guardRun rfl rfl rfl ?_
      refine XO.v (V.move rfl) rfl ?_
      refine XO.guardRun rfl rfl rfl ?_
      refine XO.v (V.cmp rfl rfl rfl) rfl ?_
      refine XO.v (V.pick rfl rfl rfl rfl) rfl ?_
      refine XO.v (V.move rfl) rfl ?_
      refine XO.splitP (d := 21) rfl (fun h3 => ?_) (fun h3 => ?_)
      · skip
        refine XO.guardSkip rfl rfl rfl rfl rfl ?_
        refine XO.guardSkip rfl rfl rfl rfl rfl ?_
        refine XO.v (V.pick rfl rfl rfl rfl) rfl ?_
        refine XO.nil ?_
        refine XE.next ?_
        refine XC.keep [(0, _), (1, _), (2, _), (3, _), (24, _)] (Sub.cons rfl (Sub.cons rfl (Sub.cons rfl (Sub.cons rfl (Sub.cons rfl (Sub.nil _)))))) ?_
        refine XC.condT rfl rfl ?_
        refine XC.seq ?_
        refine XC.region ?_
        refine XO.v (V.makeIface rfl Try.underlying74 (by simp)) rfl ?_
        refine XO.v (V.assign rfl) rfl ?_
        refine XO.nil ?_
        refine XE.next ?_
        refine XC.keep [(8, _)] (Sub.cons rfl (Sub.nil _)) ?_
        refine XC.ret ?_
        refine XE.thenRet ?_
        refine XE.ret1 rfl rfl (post_of (.cons .here (.cons .here .nil)) rfl ?_)
        have e : s.addGE n p w = 1 := by unfold SF.addGE; rw [if_pos (by omega)]
        exact ⟨by rw [e]; rfl, s, by unfold SF.addG; rw [if_neg (by omega)], hR, rfl⟩
      · skip
        refine XO.guardRun rfl rfl rfl ?_
        refine XO.v (V.move rfl) rfl ?_
        refine XO.guardRun rfl rfl rfl ?_
        refine XO.v (V.cmp rfl rfl rfl) rfl ?_
        refine XO.v (V.pick rfl rfl rfl rfl) rfl ?_
        refine XO.nil ?_
        refine XE.next ?_
        refine XC.keep [(0, _), (1, _), (2, _), (3, _), (24, _)] (Sub.cons rfl (Sub.cons rfl (Sub.cons rfl (Sub.cons rfl (Sub.cons rfl (Sub.nil _)))))) ?_
        refine XC.condP rfl (fun h4 => ?_) (fun h4 => ?_)
        · skip
          refine XC.seq ?_
          refine XC.region ?_
          refine XO.v (V.makeIface rfl Try.underlying74 (by simp)) rfl ?_
          refine XO.v (V.assign rfl) rfl ?_
          refine XO.nil ?_
          refine XE.next ?_
          refine XC.keep [(8, _)] (Sub.cons rfl (Sub.nil _)) ?_
          refine XC.ret ?_
          refine XE.thenRet ?_
          refine XE.ret1 rfl rfl (post_of (.cons .here (.cons .here .nil)) rfl ?_)
          have e : s.addGE n p w = 1 := by unfold SF.addGE; rw [if_pos (by omega)]
          exact ⟨by rw [e]; rfl, s, by unfold SF.addG; rw [if_neg (by omega)], hR, rfl⟩
        · skip
          refine XC.skip ?_
          refine XE.next ?_
          refine XC.keep [(0, _), (1, _), (2, _), (3, _)] (Sub.cons rfl (Sub.cons rfl (Sub.cons rfl (Sub.cons rfl (Sub.nil _))))) ?_
          refine XC.seq ?_
          refine XC.seq ?_
          refine XC.region ?_
          refine XO.v (V.move rfl) rfl ?_
          refine XO.v (V.move rfl) rfl ?_
          refine XO.v (V.nilCheckP rfl) rfl ?_
          refine XO.v (V.fieldAddr rfl fo_65_0) rfl ?_
          refine XO.v (V.indexArr rfl rfl ar_63 (by omega)) rfl ?_
          refine XO.v (V.fieldAddr rfl fo_62_0) rfl ?_
          refine XO.v (V.load rfl (inXM .here) (encS.ld_u_here _ _ (by omega)) sc_4) rfl ?_
          refine XO.nil ?_
          refine XE.next ?_
          refine XC.keep [(0, _), (1, _), (2, _), (3, _), (32, _)] (Sub.cons rfl (Sub.cons rfl (Sub.cons rfl (Sub.cons rfl (Sub.cons rfl (Sub.nil _)))))) ?_
          refine XC.cond rfl (fun h5 => ?_) (fun h5 => ?_)
          · try simp only [sb] at h5
            refine XC.seq ?_
            refine XC.region ?_
            refine XO.v (V.makeIface rfl Try.underlying74 (by simp)) rfl ?_
            refine XO.v (V.assign rfl) rfl ?_
            refine XO.nil ?_
            refine XE.next ?_
            refine XC.keep [(8, _)] (Sub.cons rfl (Sub.nil _)) ?_
            refine XC.ret ?_
            refine XE.thenRet ?_
            refine XE.ret1 rfl rfl (post_of (.cons .here (.cons .here .nil)) rfl ?_)
            have e : s.addGE n p w = 3 := by unfold SF.addGE; rw [if_neg (by omega), if_pos (by assumption)]
            exact ⟨by rw [e]; rfl, s, by unfold SF.addG; rw [if_neg (by omega)], hR, rfl⟩
          · try simp only [sb] at h5
            have hno : s.here n = false := by
              cases q : s.here n with
              | false => rfl
              | true => rw [q] at h5; simp at h5
            refine XC.skip ?_
            refine XE.next ?_
            refine XC.keep [(0, _), (1, _), (2, _), (3, _)] (Sub.cons rfl (Sub.cons rfl (Sub.cons rfl (Sub.cons rfl (Sub.nil _))))) ?_
            refine XC.seq ?_
            refine XC.region ?_
            refine XO.v (V.move rfl) rfl ?_
            refine XO.v (V.move rfl) rfl ?_
            refine XO.call rfl (f_group _ _ _ _) (.cons .here .nil) cl_35 rfl ?_
            rintro _ _ (⟨h6, rfl, rfl⟩ | ⟨h6, rfl, rfl⟩)
            · skip
              obtain ⟨i0, i1, i2, i3⟩ := h6
              refine XO.v (V.move rfl) rfl ?_
              refine XO.v (V.extract rfl rfl) rfl ?_
              refine XO.v (V.extract rfl rfl) rfl ?_
              refine XO.v (V.assign rfl) rfl ?_
              refine XO.v (V.assign rfl) rfl ?_
              refine XO.nil ?_
              refine XE.next ?_
              refine XC.keep [(0, _), (1, _), (2, _), (3, _), (10, _)] (Sub.cons rfl (Sub.cons rfl (Sub.cons rfl (Sub.cons rfl (Sub.cons rfl (Sub.nil _)))))) ?_
              refine XC.seq ?_
              refine XC.seq ?_
              refine XC.region ?_
              refine XO.v (V.move rfl) rfl ?_
              refine XO.v (V.nilNil rfl Try.underlying40 rfl) rfl ?_
              refine XO.nil ?_
              refine XE.next ?_
              refine XC.keep [(0, _), (1, _), (2, _), (3, _), (10, _), (41, _)] (Sub.cons rfl (Sub.cons rfl (Sub.cons rfl (Sub.cons rfl (Sub.cons rfl (Sub.cons rfl (Sub.nil _))))))) ?_
              refine XC.condF rfl rfl ?_
              refine XC.skip ?_
              refine XE.next ?_
              refine XC.keep [(0, _), (1, _), (2, _), (3, _)] (Sub.cons rfl (Sub.cons rfl (Sub.cons rfl (Sub.cons rfl (Sub.nil _))))) ?_
              refine XC.seq ?_
              refine XC.region ?_
              refine XO.v (V.move rfl) rfl ?_
              refine XO.v (V.move rfl) rfl ?_
              refine XO.v (V.move rfl) rfl ?_
              refine XO.v (V.move rfl) rfl ?_
              refine XO.v (V.build (vs := #[(0, .bool true), (1, .int .i64 p), (2, .int .i64 w)]) rfl (v := .agg (unitArr (freshU true p w))) (fun _ => by kernel_rfl)) rfl ?_
              refine XO.v (V.nilCheckP rfl) rfl ?_
              refine XO.v (V.fieldAddr rfl fo_65_0) rfl ?_
              refine XO.v (V.indexArr rfl rfl ar_63 (by omega)) rfl ?_
              refine XO.storeAgg rfl rfl .here (encS_new _ n p w true (by omega)) (unitArr_ok _) sz_62_76 ?_
              refine XO.mono (fun _ hw3 => XM.newRow (s := s) (z := n) (by omega) (.cons (.there .here) .nil) hw3) ?_
              refine XO.nil ?_
              refine XE.next ?_
              refine XC.keep [] (Sub.nil _) ?_
              refine XC.seq ?_
              refine XC.region ?_
              refine XO.v (V.assign rfl) rfl ?_
              refine XO.nil ?_
              refine XE.next ?_
              refine XC.keep [(8, _)] (Sub.cons rfl (Sub.nil _)) ?_
              refine XC.ret ?_
              refine XE.ret1 rfl rfl (post_of (.cons (.there .here) (.cons .here .nil)) rfl ?_)
              have e : s.addGE n p w = 0 := by unfold SF.addGE; rw [if_neg (by omega), if_neg (by rw [hno]; simp)]; exact i0
              have hwz : s.was n = false := by
                cases q : s.was n with
                | false => rfl
                | true => have := (hI.was _ q).2.2; rw [hno] at this; cases this
              have hk9 : ∀ i, s.was i = true → s.par i ≠ n := fun i hi e9 => by
                obtain ⟨a, b9, c⟩ := hI.was i hi
                have h9 := (hI.up i a b9 c).2.2.1
                rw [e9, hno] at h9; cases h9
              exact ⟨by rw [e]; rfl, _, by unfold SF.addG; rw [if_pos e], hR.new hwz hk9 p w true, rfl⟩
            · skip
              have i0 := h6
              refine XO.v (V.move rfl) rfl ?_
              refine XO.v (V.extract rfl rfl) rfl ?_
              refine XO.v (V.extract rfl rfl) rfl ?_
              refine XO.v (V.assign rfl) rfl ?_
              refine XO.v (V.assign rfl) rfl ?_
              refine XO.nil ?_
              refine XE.next ?_
              refine XC.keep [(0, _), (1, _), (2, _), (3, _), (10, _)] (Sub.cons rfl (Sub.cons rfl (Sub.cons rfl (Sub.cons rfl (Sub.cons rfl (Sub.nil _)))))) ?_
              refine XC.seq ?_
              refine XC.seq ?_
              refine XC.region ?_
              refine XO.v (V.move rfl) rfl ?_
              refine XO.v (V.ifaceNil rfl Try.underlying40 rfl) rfl ?_
              refine XO.nil ?_
              refine XE.next ?_
              refine XC.keep [(0, _), (1, _), (2, _), (3, _), (10, _), (41, _)] (Sub.cons rfl (Sub.cons rfl (Sub.cons rfl (Sub.cons rfl (Sub.cons rfl (Sub.cons rfl (Sub.nil _))))))) ?_
              refine XC.condT rfl rfl ?_
              refine XC.seq ?_
              refine XC.region ?_
              refine XO.v (V.move rfl) rfl ?_
              refine XO.v (V.assign rfl) rfl ?_
              refine XO.nil ?_
              refine XE.next ?_
              refine XC.keep [(8, _)] (Sub.cons rfl (Sub.nil _)) ?_
              refine XC.ret ?_
              refine XE.thenRet ?_
              refine XE.ret1 rfl rfl (post_of (.cons .here (.cons .here .nil)) rfl ?_)
              have e : s.addGE n p w = s.grE p := by unfold SF.addGE; rw [if_neg (by omega), if_neg (by rw [hno]; simp)]
              exact ⟨by rw [e, errv_pos _ (by assumption)], s, by unfold SF.addG; rw [if_neg (by omega)], hR, rfl⟩
set_option maxRecDepth 10000 in
set_option maxHeartbeats 2000000 in
theorem f_AddTask (b o : Nat) (s : SC) (d : Int → Nat) (hI : s.toSF.Inv d) (hR : s.Rep) (n p w : Int) : Spec Try.prog 16 [ptr b o 0, .int .i64 n, .int .i64 p, .int .i64 w]
    [.cells b o 2281 (encS s), .fam fam30 (s.rows 86)]
    (fun v H1 => v = errv 74 (s.addTE n p w) ∧ ∃ t : SC, t.toSF = s.toSF.addT n p w ∧ t.Rep ∧ H1 = [.cells b o 2281 (encS t), .fam fam30 (t.rows 86)]) := by
  refine Spec.intro Try.func16 rfl rfl ?_
  intro W
  refine XC.seq ?_
  refine XC.region ?_
  refine XO.v (V.assign rfl) rfl ?_
  refine XO.nil ?_
  refine XE.next ?_
  refine XC.keep [(0, _), (1, _), (2, _), (3, _)] (Sub.cons rfl (Sub.cons rfl (Sub.cons rfl (Sub.cons rfl (Sub.nil _))))) ?_
  refine XC.seq ?_
  refine XC.seq ?_
  refine XC.region ?_
  refine XO.v (V.move rfl) rfl ?_
  refine XO.v (V.cmp rfl rfl rfl) rfl ?_
  refine XO.v (V.move rfl) rfl ?_
  refine XO.splitP (d := 13) rfl (fun h1 => ?_) (fun h1 => ?_)
  · skip
    refine XO.guardSkip rfl rfl rfl rfl rfl ?_
    refine XO.guardSkip rfl rfl rfl rfl rfl ?_
    refine XO.v (V.pick rfl rfl rfl rfl) rfl ?_
    refine XO.v (V.move rfl) rfl ?_
    refine XO.guardSkip rfl rfl rfl rfl rfl ?_
    refine XO.guardSkip rfl rfl rfl rfl rfl ?_
    refine XO.v (V.pick rfl rfl rfl rfl) rfl ?_
    refine XO.v (V.move rfl) rfl ?_
    refine XO.guardSkip rfl rfl rfl rfl rfl ?_
    refine XO.guardSkip rfl rfl rfl rfl rfl ?_
    refine XO.v (V.pick rfl rfl rfl rfl) rfl ?_
    refine XO.nil ?_
    refine XE.next ?_
    refine XC.keep [(0, _), (1, _), (2, _), (3, _), (24, _)] (Sub.cons rfl (Sub.cons rfl (Sub.cons rfl (Sub.cons rfl (Sub.cons rfl (Sub.nil _)))))) ?_
    refine XC.condT rfl rfl ?_
    refine XC.seq ?_
    refine XC.region ?_
    refine XO.v (V.makeIface rfl Try.underlying74 (by simp)) rfl ?_
    refine XO.v (V.assign rfl) rfl ?_
    refine XO.nil ?_
    refine XE.next ?_
    refine XC.keep [(8, _)] (Sub.cons rfl (Sub.nil _)) ?_
    refine XC.ret ?_
    refine XE.thenRet ?_
    refine XE.ret1 rfl rfl (post_of (.cons .here (.cons .here .nil)) rfl ?_)
    have e : s.addTE n p w = 1 := by unfold SF.addTE; rw [if_pos (by omega)]
    exact ⟨by rw [e]; rfl, s, by unfold SF.addT; rw [if_neg (by omega)], hR, rfl⟩
  · skip
    refine XO.guardRun rfl rfl rfl ?_
    refine XO.v (V.move rfl) rfl ?_
    refine XO.guardRun rfl rfl rfl ?_
    refine XO.v (V.cmp rfl rfl rfl) rfl ?_
    refine XO.v (V.pick rfl rfl rfl rfl) rfl ?_
    refine XO.v (V.move rfl) rfl ?_
    refine XO.splitP (d := 17) rfl (fun h2 => ?_) (fun h2 => ?_)
    · skip
      refine XO.guardSkip rfl rfl rfl rfl rfl ?_
      refine XO.guardSkip rfl rfl rfl rfl rfl ?_
      refine XO.v (V.pick rfl rfl rfl rfl) rfl ?_
      refine XO.v (V.move rfl) rfl ?_
      refine XO.guardSkip rfl rfl rfl rfl rfl ?_
      refine XO.guardSkip rfl rfl rfl rfl rfl ?_
      refine XO.v (V.pick rfl rfl rfl rfl) rfl ?_
      refine XO.nil ?_
      refine XE.next ?_
      refine XC.keep [(0, _), (1, _), (2, _), (3, _), (24, _)] (Sub.cons rfl (Sub.cons rfl (Sub.cons rfl (Sub.cons rfl (Sub.cons rfl (Sub.nil _)))))) ?_
      refine XC.condT rfl rfl ?_
      refine XC.seq ?_
      refine XC.region ?_
      refine XO.v (V.makeIface rfl Try.underlying74 (by simp)) rfl ?_
      refine XO.v (V.assign rfl) rfl ?_
      refine XO.nil ?_
      refine XE.next ?_
      refine XC.keep [(8, _)] (Sub.cons rfl (Sub.nil _)) ?_
      refine XC.ret ?_
      refine XE.thenRet ?_
      refine XE.ret1 rfl rfl (post_of (.cons .here (.cons .here .nil)) rfl ?_)
      have e : s.addTE n p w = 1 := by unfold SF.addTE; rw [if_pos (by omega)]
      exact ⟨by rw [e]; rfl, s, by unfold SF.addT; rw [if_neg (by omega)], hR, rfl⟩
    · skip
      refine XO.guardRun rfl rfl rfl ?_
      refine XO.v (V.move rfl) rfl ?_
      refine XO.guardRun rfl rfl rfl ?_
      refine XO.v (V.cmp rfl rfl rfl) rfl ?_
      refine XO.v (V.pick rfl rfl rfl rfl) rfl ?_
      refine XO.v (V.move rfl) rfl ?_
      refine XO.splitP (d := 21) rfl (fun h3 => ?_) (fun h3 => ?_)
      · skip
        refine XO.guardSkip rfl rfl rfl rfl rfl ?_
        refine XO.guardSkip rfl rfl rfl rfl rfl ?_
        refine XO.v (V.pick rfl rfl rfl rfl) rfl ?_
        refine XO.nil ?_
        refine XE.next ?_
        refine XC.keep [(0, _), (1, _), (2, _), (3, _), (24, _)] (Sub.cons rfl (Sub.cons rfl (Sub.cons rfl (Sub.cons rfl (Sub.cons rfl (Sub.nil _)))))) ?_
        refine XC.condT rfl rfl ?_
        refine XC.seq ?_
        refine XC.region ?_
        refine XO.v (V.makeIface rfl Try.underlying74 (by simp)) rfl ?_
        refine XO.v (V.assign rfl) rfl ?_
        refine XO.nil ?_
        refine XE.next ?_
        refine XC.keep [(8, _)] (Sub.cons rfl (Sub.nil _)) ?_
        refine XC.ret ?_
        refine XE.thenRet ?_
        refine XE.ret1 rfl rfl (post_of (.cons .here (.cons .here .nil)) rfl ?_)
        have e : s.addTE n p w = 1 := by unfold SF.addTE; rw [if_pos (by omega)]
        exact ⟨by rw [e]; rfl, s, by unfold SF.addT; rw [if_neg (by omega)], hR, rfl⟩
      · skip
        refine XO.guardRun rfl rfl rfl ?_
        refine XO.v (V.move rfl) rfl ?_
        refine XO.guardRun rfl rfl rfl ?_
        refine XO.v (V.cmp rfl rfl rfl) rfl ?_
        refine XO.v (V.pick rfl rfl rfl rfl) rfl ?_
        refine XO.nil ?_
        refine XE.next ?_
        refine XC.keep [(0, _), (1, _), (2, _), (3, _), (24, _)] (Sub.cons rfl (Sub.cons rfl (Sub.cons rfl (Sub.cons rfl (Sub.cons rfl (Sub.nil _)))))) ?_
        refine XC.condP rfl (fun h4 => ?_) (fun h4 => ?_)
        · skip
          refine XC.seq ?_
          refine XC.region ?_
          refine XO.v (V.makeIface rfl Try.underlying74 (by simp)) rfl ?_
          refine XO.v (V.assign rfl) rfl ?_
          refine XO.nil ?_
          refine XE.next ?_
          refine XC.keep [(8, _)] (Sub.cons rfl (Sub.nil _)) ?_
          refine XC.ret ?_
          refine XE.thenRet ?_
          refine XE.ret1 rfl rfl (post_of (.cons .here (.cons .here .nil)) rfl ?_)
          have e : s.addTE n p w = 1 := by unfold SF.addTE; rw [if_pos (by omega)]
          exact ⟨by rw [e]; rfl, s, by unfold SF.addT; rw [if_neg (by omega)], hR, rfl⟩
        · skip
          refine XC.skip ?_
          refine XE.next ?_
          refine XC.keep [(0, _), (1, _), (2, _), (3, _)] (Sub.cons rfl (Sub.cons rfl (Sub.cons rfl (Sub.cons rfl (Sub.nil _))))) ?_
          refine XC.seq ?_
          refine XC.seq ?_
          refine XC.region ?_
          refine XO.v (V.move rfl) rfl ?_
          refine XO.v (V.move rfl) rfl ?_
          refine XO.v (V.add rfl rfl _ (IntWalk.i64_in _ (by omega))) rfl ?_
          refine XO.v (V.nilCheckP rfl) rfl ?_
          refine XO.v (V.fieldAddr rfl fo_65_0) rfl ?_
          refine XO.v (V.indexArr rfl rfl ar_63 (by omega)) rfl ?_
          refine XO.v (V.fieldAddr rfl fo_62_0) rfl ?_
          refine XO.v (V.load rfl (inXM .here) (encS.ld_u_here _ _ (by omega)) sc_4) rfl ?_
          refine XO.nil ?_
          refine XE.next ?_
          refine XC.keep [(0, _), (1, _), (2, _), (3, _), (33, _)] (Sub.cons rfl (Sub.cons rfl (Sub.cons rfl (Sub.cons rfl (Sub.cons rfl (Sub.nil _)))))) ?_
          refine XC.cond rfl (fun h5 => ?_) (fun h5 => ?_)
          · try simp only [sb] at h5
            refine XC.seq ?_
            refine XC.region ?_
            refine XO.v (V.makeIface rfl Try.underlying74 (by simp)) rfl ?_
            refine XO.v (V.assign rfl) rfl ?_
            refine XO.nil ?_
            refine XE.next ?_
            refine XC.keep [(8, _)] (Sub.cons rfl (Sub.nil _)) ?_
            refine XC.ret ?_
            refine XE.thenRet ?_
            refine XE.ret1 rfl rfl (post_of (.cons .here (.cons .here .nil)) rfl ?_)
            have e : s.addTE n p w = 3 := by unfold SF.addTE; rw [if_neg (by omega), if_pos (by assumption)]
            exact ⟨by rw [e]; rfl, s, by unfold SF.addT; rw [if_neg (by omega)], hR, rfl⟩
          · try simp only [sb] at h5
            have hno : s.here (10 + n) = false := by
              cases q : s.here (10 + n) with
              | false => rfl
              | true => rw [q] at h5; simp at h5
            refine XC.skip ?_
            refine XE.next ?_
            refine XC.keep [(0, _), (1, _), (2, _), (3, _)] (Sub.cons rfl (Sub.cons rfl (Sub.cons rfl (Sub.cons rfl (Sub.nil _))))) ?_
            refine XC.seq ?_
            refine XC.region ?_
            refine XO.v (V.move rfl) rfl ?_
            refine XO.v (V.move rfl) rfl ?_
            refine XO.call rfl (f_group _ _ _ _) (.cons .here .nil) cl_35 rfl ?_
            rintro _ _ (⟨h6, rfl, rfl⟩ | ⟨h6, rfl, rfl⟩)
            · skip
              obtain ⟨i0, i1, i2, i3⟩ := h6
              refine XO.v (V.move rfl) rfl ?_
              refine XO.v (V.extract rfl rfl) rfl ?_
              refine XO.v (V.extract rfl rfl) rfl ?_
              refine XO.v (V.assign rfl) rfl ?_
              refine XO.v (V.assign rfl) rfl ?_
              refine XO.nil ?_
              refine XE.next ?_
              refine XC.keep [(0, _), (1, _), (2, _), (3, _), (10, _)] (Sub.cons rfl (Sub.cons rfl (Sub.cons rfl (Sub.cons rfl (Sub.cons rfl (Sub.nil _)))))) ?_
              refine XC.seq ?_
              refine XC.seq ?_
              refine XC.region ?_
              refine XO.v (V.move rfl) rfl ?_
              refine XO.v (V.nilNil rfl Try.underlying40 rfl) rfl ?_
              refine XO.nil ?_
              refine XE.next ?_
              refine XC.keep [(0, _), (1, _), (2, _), (3, _), (10, _), (42, _)] (Sub.cons rfl (Sub.cons rfl (Sub.cons rfl (Sub.cons rfl (Sub.cons rfl (Sub.cons rfl (Sub.nil _))))))) ?_
              refine XC.condF rfl rfl ?_
              refine XC.skip ?_
              refine XE.next ?_
              refine XC.keep [(0, _), (1, _), (2, _), (3, _)] (Sub.cons rfl (Sub.cons rfl (Sub.cons rfl (Sub.cons rfl (Sub.nil _))))) ?_
              refine XC.seq ?_
              refine XC.region ?_
              refine XO.v (V.move rfl) rfl ?_
              refine XO.v (V.move rfl) rfl ?_
              refine XO.v (V.add rfl rfl _ (IntWalk.i64_in _ (by omega))) rfl ?_
              refine XO.v (V.move rfl) rfl ?_
              refine XO.v (V.move rfl) rfl ?_
              refine XO.v (V.build (vs := #[(0, .bool true), (1, .int .i64 p), (2, .int .i64 w)]) rfl (v := .agg (unitArr (freshU true p w))) (fun _ => by kernel_rfl)) rfl ?_
              refine XO.v (V.nilCheckP rfl) rfl ?_
              refine XO.v (V.fieldAddr rfl fo_65_0) rfl ?_
              refine XO.v (V.indexArr rfl rfl ar_63 (by omega)) rfl ?_
              refine XO.storeAgg rfl rfl .here (encS_new _ (10 + n) p w true (by omega)) (unitArr_ok _) sz_62_76 ?_
              refine XO.mono (fun _ hw3 => XM.newRow (s := s) (z := (10 + n)) (by omega) (.cons (.there .here) .nil) hw3) ?_
              refine XO.nil ?_
              refine XE.next ?_
              refine XC.keep [] (Sub.nil _) ?_
              refine XC.seq ?_
              refine XC.region ?_
              refine XO.v (V.assign rfl) rfl ?_
              refine XO.nil ?_
              refine XE.next ?_
              refine XC.keep [(8, _)] (Sub.cons rfl (Sub.nil _)) ?_
              refine XC.ret ?_
              refine XE.ret1 rfl rfl (post_of (.cons (.there .here) (.cons .here .nil)) rfl ?_)
              have e : s.addTE n p w = 0 := by unfold SF.addTE; rw [if_neg (by omega), if_neg (by rw [hno]; simp)]; exact i0
              have hwz : s.was (10 + n) = false := by
                cases q : s.was (10 + n) with
                | false => rfl
                | true => have := (hI.was _ q).2.2; rw [hno] at this; cases this
              have hk9 : ∀ i, s.was i = true → s.par i ≠ (10 + n) := fun i hi e9 => by
                obtain ⟨a, b9, c⟩ := hI.was i hi
                have h9 := (hI.up i a b9 c).2.2.1
                rw [e9, hno] at h9; cases h9
              exact ⟨by rw [e]; rfl, _, by unfold SF.addT; rw [if_pos e], hR.new hwz hk9 p w true, rfl⟩
            · skip
              have i0 := h6
              refine XO.v (V.move rfl) rfl ?_
              refine XO.v (V.extract rfl rfl) rfl ?_
              refine XO.v (V.extract rfl rfl) rfl ?_
              refine XO.v (V.assign rfl) rfl ?_
              refine XO.v (V.assign rfl) rfl ?_
              refine XO.nil ?_
              refine XE.next ?_
              refine XC.keep [(0, _), (1, _), (2, _), (3, _), (10, _)] (Sub.cons rfl (Sub.cons rfl (Sub.cons rfl (Sub.cons rfl (Sub.cons rfl (Sub.nil _)))))) ?_
              refine XC.seq ?_
              refine XC.seq ?_
              refine XC.region ?_
              refine XO.v (V.move rfl) rfl ?_
              refine XO.v (V.ifaceNil rfl Try.underlying40 rfl) rfl ?_
              refine XO.nil ?_
              refine XE.next ?_
              refine XC.keep [(0, _), (1, _), (2, _), (3, _), (10, _), (42, _)] (Sub.cons rfl (Sub.cons rfl (Sub.cons rfl (Sub.cons rfl (Sub.cons rfl (Sub.cons rfl (Sub.nil _))))))) ?_
              refine XC.condT rfl rfl ?_
              refine XC.seq ?_
              refine XC.region ?_
              refine XO.v (V.move rfl) rfl ?_
              refine XO.v (V.assign rfl) rfl ?_
              refine XO.nil ?_
              refine XE.next ?_
              refine XC.keep [(8, _)] (Sub.cons rfl (Sub.nil _)) ?_
              refine XC.ret ?_
              refine XE.thenRet ?_
              refine XE.ret1 rfl rfl (post_of (.cons .here (.cons .here .nil)) rfl ?_)
              have e : s.addTE n p w = s.grE p := by unfold SF.addTE; rw [if_neg (by omega), if_neg (by rw [hno]; simp)]
              exact ⟨by rw [e, errv_pos _ (by assumption)], s, by unfold SF.addT; rw [if_neg (by omega)], hR, rfl⟩
end Go.X
