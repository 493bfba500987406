import Derived.Test.YtpnddggohipdnaaDoorVW5
import Derived.Test.YtpnddggohipdnaaDoorBR
namespace Go.X
open Go Go.Proofs
set_option maxRecDepth 20000
set_option maxHeartbeats 4000000

theorem r_NewBank  : Spec Tryd.prog 8 []
 []
 (fun v H1 => ∃ rk rp, v = ptr rk 0 0 ∧ H1 = [.cells rk 0 577 (encRK rp VB.init.by_ VB.init.rf), .cells rp 0 128 (encM VB.init.bb)]) := by
  refine Spec.go 4 [0] [] Tryd.func8 rfl rfl rfl ?_
  intro W
  refine ca (u_New) .nil ?_
  rintro _ _ ⟨rp, rfl, rfl⟩
  refine gO ?_
  refine XO.v (V.build (vs := #[(0, ptr rp 0 0)]) rfl (v := .agg (zKl rp).toArray) (fun _ => by kernel_rfl)) rfl (gO ?_)
  refine XO.box (m := 577) (C := encRK rp VB.init.by_ VB.init.rf) rfl rfl (zK_box _) rfl ?_
  intro rk
  refine gO ?_
  refine XE.ret1 rfl rfl (post_of .h2 rfl ?_)
  exact ⟨_, _, rfl, rfl⟩
theorem r_take (rk rp : Nat) (v : VB) (hv : v.Ok) : Spec Tryd.prog 63 [ptr rk 0 0]
 [.cells rk 0 577 (encRK rp v.by_ v.rf), .cells rp 0 128 (encM v.bb)]
 (fun x H1 => x = .tuple #[.int .i64 v.take.1, .int .i64 v.take.2.1] ∧ H1 = [.cells rk 0 577 (encRK rp v.take.2.2.by_ v.take.2.2.rf), .cells rp 0 128 (encM v.take.2.2.bb)]) := by
  refine Spec.go 29 [0, 2, 3, 4, 5, 15] [] Tryd.func63 rfl rfl rfl ?_
  intro W
  refine ld .here (encRK.ld_P _ _ _) ?_
  refine ca (u_Take _ _ _ hv.bb _) (.cons (.there .here) .nil) ?_
  rintro _ _ ⟨rfl, rfl⟩
  refine gO ?_
  refine cd rfl ?_ ?_ <;> intro h1
  · skip
    have hok : (v.bb.take 0).2.1 = 0 := h1
    have hw := (hv.bb.take_win hok).2.1
    refine sd (by omega) ?_
    refine st (.there .here) (encRK.st_Refs_I _ _ _ _ (by omega) _) rfl ?_
    refine XO.v (V.build (vs := #[]) rfl (v := .agg (arrY (fun _ => 0))) (fun _ => by kernel_rfl)) rfl (gO ?_)
    refine sd (by omega) ?_
    refine stA (.there .here) (encRK_srow _ _ _ _ _ (by omega)) rfl ⟨rfl, rfl⟩ ?_
    refine XE.ret2 rfl rfl rfl (post_of (.cons (.there .here) .h1) rfl ?_)
    rw [VB.take_ok hok]; exact ⟨by show Value.tuple #[_, .int .i64 (v.bb.take 0).2.1] = _; rw [hok]; rfl, rfl⟩
  · skip
    have hno : ¬ (v.bb.take 0).2.1 = 0 := h1
    have hfl := BB.take_fail hno
    have hz := BB.take_z hno
    refine XE.ret2 rfl rfl rfl (post_of (.cons (.there .here) .h1) rfl ?_)
    rw [VB.take_no hno]; exact ⟨by show Value.tuple #[.int .i64 (v.bb.take 0).1, _] = _; rw [hz]; rfl, by rw [hfl]⟩
theorem r_drop (rk rp : Nat) (v : VB) (hv : v.Ok) (f : Int) (hf : 0 ≤ f ∧ f < 64) (h1 : 1 ≤ v.rf f) : Spec Tryd.prog 53 [ptr rk 0 0, .int .i64 f]
 [.cells rk 0 577 (encRK rp v.by_ v.rf), .cells rp 0 128 (encM v.bb)]
 (fun x H1 => x = .tuple #[] ∧ H1 = [.cells rk 0 577 (encRK rp (v.drop f).by_ (v.drop f).rf), .cells rp 0 128 (encM (v.drop f).bb)]) := by
  have hb := hv.rf f
  have e1 : fset v.rf f (v.rf f - 1) f = v.rf f - 1 := fset_eq _ _ _
  refine Spec.go 27 [0, 1, 20] [] Tryd.func53 rfl rfl rfl ?_
  intro W
  refine rq [0, 1, 2, 3, 4, 5, 6, 7, 8, 9, 10] mixed (by kernel_rfl) ?_
  refine sd (by omega) ?_
  refine ld .here (encRK.ld_Refs_I _ _ _ _ (by omega)) ?_
  refine sd (by omega) ?_
  refine sd (by omega) ?_
  refine st .here (encRK.st_Refs_I _ _ _ _ (by omega) _) rfl ?_
  refine sd (by omega) ?_
  refine ld .here (encRK.ld_Refs_I _ _ _ _ (by omega)) ?_
  refine cd rfl ?_ ?_ <;> intro h1
  · skip
    refine ld .here (encRK.ld_P _ _ _) ?_
    refine ca (u_Give _ _ _ hv.bb _) (.cons (.there .here) .nil) ?_
    rintro _ _ ⟨rfl, rfl⟩
    refine gO ?_
    refine XE.end0 rfl (post_of (.cons (.there .here) .h1) rfl ?_)
    rw [VB.drop_p (by omega)]; exact ⟨rfl, rfl⟩
  · skip
    refine XE.end0 rfl (post_of .h2 rfl ?_)
    rw [VB.drop_n (by omega)]; exact ⟨rfl, rfl⟩
theorem r_bad (a n : Int) : Spec Tryd.prog 51 [.int .i64 a, .int .i64 n]
 []
 (fun x H1 => x = .bool (decide (badS a n)) ∧ H1 = []) := by
  refine Spec.go 21 [0, 1, 4] [] Tryd.func51 rfl rfl rfl ?_
  intro W
  refine sp 7 rfl ?_ ?_ <;> intro h1
  · skip
    refine XE.ret1 rfl rfl (post_of .nil rfl ?_)
    exact ⟨congrArg Value.bool (by first | (rw [eq_comm, decide_eq_true_iff]; unfold badS; omega) | (rw [eq_comm, decide_eq_false_iff_not]; unfold badS; omega) | (rw [decide_eq_decide]; unfold badS; omega)), rfl⟩
  · skip
    refine sp 11 rfl ?_ ?_ <;> intro h2
    · skip
      refine XE.ret1 rfl rfl (post_of .nil rfl ?_)
      exact ⟨congrArg Value.bool (by first | (rw [eq_comm, decide_eq_true_iff]; unfold badS; omega) | (rw [eq_comm, decide_eq_false_iff_not]; unfold badS; omega) | (rw [decide_eq_decide]; unfold badS; omega)), rfl⟩
    · skip
      refine sp 15 rfl ?_ ?_ <;> intro h3
      · skip
        refine XE.ret1 rfl rfl (post_of .nil rfl ?_)
        exact ⟨congrArg Value.bool (by first | (rw [eq_comm, decide_eq_true_iff]; unfold badS; omega) | (rw [eq_comm, decide_eq_false_iff_not]; unfold badS; omega) | (rw [decide_eq_decide]; unfold badS; omega)), rfl⟩
      · skip
        refine sd (by omega) ?_
        refine XE.ret1 rfl rfl (post_of .nil rfl ?_)
        exact ⟨congrArg Value.bool (by first | (rw [eq_comm, decide_eq_true_iff]; unfold badS; omega) | (rw [eq_comm, decide_eq_false_iff_not]; unfold badS; omega) | (rw [decide_eq_decide]; unfold badS; omega)), rfl⟩
theorem r_lay (rk rm : Nat) (m : MS) (a n : Int) (w : Bool) (hb : ¬ badS a n) : Spec Tryd.prog 52 [ptr rm 0 0, .int .i64 a, .int .i64 n, .bool w]
 [.cells rm 0 49 (encRN rk m.is_ m.fr m.own)]
 (fun x H1 => x = .tuple #[] ∧ H1 = [.cells rm 0 49 (encRN rk (m.lay a n w).is_ (m.lay a n w).fr (m.lay a n w).own)]) := by
  unfold badS at hb
  refine Spec.go 28 [0, 1, 2, 3, 8, 14, 22] [] Tryd.func52 rfl rfl rfl ?_
  intro W
  refine lp (σ := Int) (fun i => (a + n - i).toNat) (fun i => a ≤ i ∧ i ≤ a + n) (fun i => [(8, .int .i64 i), (0, ptr rm 0 0), (1, .int .i64 a), (2, .int .i64 n), (3, .bool w)]) (fun i => XM W (foot [.cells rm 0 49 (encRN rk m.is_ m.fr m.own)]) [.cells rm 0 49 (encRN rk (setI m.is_ a (i - a) (kd w)) m.fr m.own)]) (a) ?_ (S5 rfl rfl rfl rfl rfl) (fun _ hw => by show XM _ _ [.cells rm 0 49 (encRN rk (setI m.is_ a (a - a) _) _ _)] _; rw [setI_none]; exact XM.pick .h1 hw) ?_
  · skip
    omega
  intro i hi
  refine gC ?_
  refine sd (by omega) ?_
  refine cd rfl ?_ ?_ <;> intro h1
  · skip
    refine sd (by omega) ?_
    refine st .here (encRN.st_Is_I _ _ _ _ _ (by omega) _) rfl ?_
    refine cdB rfl ?_ ?_ <;> intro h2
    · try simp only [sb] at h2
      refine sd (by omega) ?_
      refine st .here (encRN.st_Is_I _ _ _ _ _ (by omega) _) rfl ?_
      refine sd (by omega) ?_
      refine ag (i + 1) ?_ ?_ (S5 rfl rfl rfl rfl rfl) (fun _ hw => by rw [fset_fset, setI_grow hi.1 (show 2 = kd w by simp_all [kd])] at hw; exact XM.pick .h1 hw)
      · skip
        (first | omega | (simp; done) | (simp; omega))
      · skip
        (first | omega | (simp; done) | (simp; omega))
    · try simp only [sb] at h2
      refine sd (by omega) ?_
      refine ag (i + 1) ?_ ?_ (S5 rfl rfl rfl rfl rfl) (fun _ hw => by rw [setI_grow hi.1 (show 1 = kd w by simp_all [kd])] at hw; exact XM.pick .h1 hw)
      · skip
        (first | omega | (simp; done) | (simp; omega))
      · skip
        (first | omega | (simp; done) | (simp; omega))
  · skip
    refine XE.end0 rfl (post_of .h1 rfl ?_)
    have e : i = a + n := by omega
    subst e
    exact ⟨rfl, by rw [show a + n - a = n from by omega]; rfl⟩
theorem r_Map (rk rm : Nat) (m : MS) (hm : m.Ok) (a n : Int) (w : Bool) : Spec Tryd.prog 32 [ptr rm 0 0, .int .i64 a, .int .i64 n, .bool w]
 [.cells rm 0 49 (encRN rk m.is_ m.fr m.own)]
 (fun x H1 => x = .int .i64 (m.mapE a n) ∧ H1 = [.cells rm 0 49 (encRN rk (m.map a n w).is_ (m.map a n w).fr (m.map a n w).own)]) := by
  refine Spec.go 33 [0, 1, 2, 3, 8, 9, 12, 18, 27] [] Tryd.func32 rfl rfl rfl ?_
  intro W
  refine ca (r_bad _ _) .nil ?_
  rintro _ _ ⟨rfl, rfl⟩
  refine gO ?_
  refine cd rfl ?_ ?_ <;> intro h1
  · skip
    have hb : badS a n := h1
    refine XE.ret1 rfl rfl (post_of .h1 rfl ?_)
    have e : m.mapE a n = 1 := MS.mapE_1 hb
    exact ⟨by rw [e]; rfl, by rw [MS.map_no (by rw [e]; decide)]⟩
  · skip
    have hb : ¬ badS a n := h1
    have hb2 := hb
    unfold badS at hb2
    refine lp (σ := Int) (fun i => (a + n - i).toNat) (fun i => (a ≤ i ∧ i ≤ a + n) ∧ ∀ j, a ≤ j → j < i → m.is_ j = 0) (fun i => [(9, .int .i64 i), (0, ptr rm 0 0), (1, .int .i64 a), (2, .int .i64 n), (3, .bool w)]) (fun i => XM W (foot [.cells rm 0 49 (encRN rk m.is_ m.fr m.own)]) [.cells rm 0 49 (encRN rk m.is_ m.fr m.own)]) (a) ?_ (S5 rfl rfl rfl rfl rfl) (fun _ hw => XM.pick .h1 hw) ?_
    · skip
      exact ⟨by omega, fun j h1 h2 => by omega⟩
    intro i hi
    obtain ⟨hi, hno⟩ := hi
    have hfv := hm.f.v i
    refine gC ?_
    refine sd (by omega) ?_
    refine cd rfl ?_ ?_ <;> intro h2
    · skip
      refine sd (by omega) ?_
      refine ld .here (encRN.ld_Is_I _ _ _ _ _ (by omega)) ?_
      refine cd rfl ?_ ?_ <;> intro h3
      · skip
        refine XE.ret1 rfl rfl (post_of .h1 rfl ?_)
        have e : m.mapE a n = 3 := MS.mapE_3 hb (i := i) (by omega) (by omega)
        exact ⟨by rw [e]; rfl, by rw [MS.map_no (by rw [e]; decide)]⟩
      · skip
        refine sd (by omega) ?_
        refine ag (i + 1) ?_ ?_ (S5 rfl rfl rfl rfl rfl) (fun _ hw => XM.pick .h1 hw)
        · skip
          (first | omega | (simp; done) | (simp; omega))
        · skip
          refine ⟨by omega, fun j h1 h2 => ?_⟩
          by_cases e : j = i
          · subst e; omega
          · exact hno j h1 (by omega)
    · skip
      have e := MS.mapE_0 (m := m) hb (fun j h1 h2 => hno j h1 (by omega))
      refine ca (r_lay _ _ m _ _ _ hb) .h1 ?_
      rintro _ _ ⟨rfl, rfl⟩
      refine gO ?_
      refine XE.ret1 rfl rfl (post_of .h1 rfl ?_)
      exact ⟨by rw [e]; rfl, by rw [MS.map_yes e]⟩
theorem r_Protect (rk rm : Nat) (m : MS) (hm : m.Ok) (a n : Int) (w : Bool) : Spec Tryd.prog 34 [ptr rm 0 0, .int .i64 a, .int .i64 n, .bool w]
 [.cells rm 0 49 (encRN rk m.is_ m.fr m.own)]
 (fun x H1 => x = .int .i64 (m.protE a n) ∧ H1 = [.cells rm 0 49 (encRN rk (m.prot a n w).is_ (m.prot a n w).fr (m.prot a n w).own)]) := by
  refine Spec.go 33 [0, 1, 2, 3, 8, 9, 12, 18, 27] [] Tryd.func34 rfl rfl rfl ?_
  intro W
  refine ca (r_bad _ _) .nil ?_
  rintro _ _ ⟨rfl, rfl⟩
  refine gO ?_
  refine cd rfl ?_ ?_ <;> intro h1
  · skip
    have hb : badS a n := h1
    refine XE.ret1 rfl rfl (post_of .h1 rfl ?_)
    have e : m.protE a n = 1 := MS.protE_1 hb
    exact ⟨by rw [e]; rfl, by rw [MS.prot_no (by rw [e]; decide)]⟩
  · skip
    have hb : ¬ badS a n := h1
    have hb2 := hb
    unfold badS at hb2
    refine lp (σ := Int) (fun i => (a + n - i).toNat) (fun i => (a ≤ i ∧ i ≤ a + n) ∧ ∀ j, a ≤ j → j < i → m.is_ j ≠ 0) (fun i => [(9, .int .i64 i), (0, ptr rm 0 0), (1, .int .i64 a), (2, .int .i64 n), (3, .bool w)]) (fun i => XM W (foot [.cells rm 0 49 (encRN rk m.is_ m.fr m.own)]) [.cells rm 0 49 (encRN rk m.is_ m.fr m.own)]) (a) ?_ (S5 rfl rfl rfl rfl rfl) (fun _ hw => XM.pick .h1 hw) ?_
    · skip
      exact ⟨by omega, fun j h1 h2 => by omega⟩
    intro i hi
    obtain ⟨hi, hno⟩ := hi
    have hfv := hm.f.v i
    refine gC ?_
    refine sd (by omega) ?_
    refine cd rfl ?_ ?_ <;> intro h2
    · skip
      refine sd (by omega) ?_
      refine ld .here (encRN.ld_Is_I _ _ _ _ _ (by omega)) ?_
      refine cd rfl ?_ ?_ <;> intro h3
      · skip
        refine XE.ret1 rfl rfl (post_of .h1 rfl ?_)
        have e : m.protE a n = 10 := MS.protE_10 hb (i := i) (by omega) (by omega)
        exact ⟨by rw [e]; rfl, by rw [MS.prot_no (by rw [e]; decide)]⟩
      · skip
        refine sd (by omega) ?_
        refine ag (i + 1) ?_ ?_ (S5 rfl rfl rfl rfl rfl) (fun _ hw => XM.pick .h1 hw)
        · skip
          (first | omega | (simp; done) | (simp; omega))
        · skip
          refine ⟨by omega, fun j h1 h2 => ?_⟩
          by_cases e : j = i
          · subst e; omega
          · exact hno j h1 (by omega)
    · skip
      have e := MS.protE_0 (m := m) hb (fun j h1 h2 => hno j h1 (by omega))
      refine ca (r_lay _ _ m _ _ _ hb) .h1 ?_
      rintro _ _ ⟨rfl, rfl⟩
      refine gO ?_
      refine XE.ret1 rfl rfl (post_of .h1 rfl ?_)
      exact ⟨by rw [e]; rfl, by rw [MS.prot_yes e]⟩
end Go.X
