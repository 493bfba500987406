import Derived.Test.YtpnddggohipdnaaDoorVW4
namespace Go.X
open Go Go.Proofs
set_option maxRecDepth 20000
set_option maxHeartbeats 4000000
theorem cl_31 : callable Tryd.prog 31 = true := by kernel_rfl
theorem fo_80_0 : fieldOff Tryd.prog 80 0 = some 0 := by kernel_rfl
theorem fo_80_1 : fieldOff Tryd.prog 80 1 = some 1 := by kernel_rfl
theorem sc_25 : scal Tryd.prog 25 = true := by kernel_rfl
theorem sc_69 : scal Tryd.prog 69 = true := by kernel_rfl
theorem v_May (kb mb : Nat) (p : Option Addr) (c : Nat) (m : MS) (hm : m.Ok) (a : Int) (w : Bool) : Spec Tryd.prog 22 [ptr mb 0 0, .int .i64 a, .bool w]
 [.cells mb 0 34 (encN kb p (runs m.is_).length c m.fr m.own), frow p c 83 3 (runs m.is_).length (rgC (runs m.is_))]
 (fun x H1 => x = .bool (m.may a w) ∧ H1 = [.cells mb 0 34 (encN kb p (runs m.is_).length c m.fr m.own), frow p c 83 3 (runs m.is_).length (rgC (runs m.is_))]) := by
  refine Spec.go 34 [0, 1, 2, 6, 7, 13] [] Tryd.func22 rfl rfl rfl ?_
  intro W
  refine sp 10 rfl ?_ ?_ <;> intro h1
  · skip
    refine XE.ret1 rfl rfl (post_of .h2 rfl ?_)
    first | exact ⟨by rw [MS.may_out (by omega)]; rfl, rfl⟩ | (refine ⟨?_, rfl⟩; rw [MS.may_at hm hk (by omega)]; first | (rw [decide_eq_false (p := 0 ≤ k) (by omega)]; rfl) | (rw [decide_eq_true (p := 0 ≤ k) (by omega)]; cases w <;> first | rfl | contradiction))
  · skip
    refine cd rfl ?_ ?_ <;> intro h2
    · skip
      refine XE.ret1 rfl rfl (post_of .h2 rfl ?_)
      first | exact ⟨by rw [MS.may_out (by omega)]; rfl, rfl⟩ | (refine ⟨?_, rfl⟩; rw [MS.may_at hm hk (by omega)]; first | (rw [decide_eq_false (p := 0 ≤ k) (by omega)]; rfl) | (rw [decide_eq_true (p := 0 ≤ k) (by omega)]; cases w <;> first | rfl | contradiction))
    · skip
      refine XO.v (V.quo rfl rfl (by first | decide | omega) _ (quo_nn (by omega) (by omega) (by omega))) rfl (gO ?_)
      refine ca (v_at _ _ _ _ _ hm _) .h2 ?_
      rintro _ _ ⟨⟨k, rfl, hk⟩, rfl⟩
      have hrn : k < (runs m.is_).length := by rcases hk with ⟨rfl, _⟩ | ⟨q, _⟩ <;> omega
      refine gO ?_
      refine sp 20 rfl ?_ ?_ <;> intro h3
      · skip
        refine spB 23 rfl ?_ ?_ <;> intro h4
        · try simp only [sb] at h4
          try (refine XR.openRow (.there .here) (by omega) ?_; intro g1 hg1; subst hg1)
          refine XE.ret1 rfl rfl (post_of .h2 rfl ?_)
          first | exact ⟨by rw [MS.may_out (by omega)]; rfl, rfl⟩ | (refine ⟨?_, rfl⟩; rw [MS.may_at hm hk (by omega)]; first | (rw [decide_eq_false (p := 0 ≤ k) (by omega)]; rfl) | (rw [decide_eq_true (p := 0 ≤ k) (by omega)]; cases w <;> first | rfl | contradiction))
        · try simp only [sb] at h4
          refine ld .here (encN.ld_r _ _ _ _ _ _) ?_
          try (refine XR.openRow (.there .here) (by omega) ?_; intro g1 hg1; subst hg1)
          refine sd (by omega) ?_
          refine ldF (.there .here) (rgC.w (by omega)) ?_
          refine XE.ret1 rfl rfl (post_of .h2 rfl ?_)
          first | exact ⟨by rw [MS.may_out (by omega)]; rfl, rfl⟩ | (refine ⟨?_, rfl⟩; rw [MS.may_at hm hk (by omega)]; first | (rw [decide_eq_false (p := 0 ≤ k) (by omega)]; rfl) | (rw [decide_eq_true (p := 0 ≤ k) (by omega)]; cases w <;> first | rfl | contradiction))
      · skip
        try (refine XR.openRow (.there .here) (by omega) ?_; intro g1 hg1; subst hg1)
        refine XE.ret1 rfl rfl (post_of .h2 rfl ?_)
        first | exact ⟨by rw [MS.may_out (by omega)]; rfl, rfl⟩ | (refine ⟨?_, rfl⟩; rw [MS.may_at hm hk (by omega)]; first | (rw [decide_eq_false (p := 0 ≤ k) (by omega)]; rfl) | (rw [decide_eq_true (p := 0 ≤ k) (by omega)]; cases w <;> first | rfl | contradiction))
theorem v_Wants (kb mb : Nat) (p : Option Addr) (c : Nat) (m : MS) (hm : m.Ok) (a : Int) : Spec Tryd.prog 26 [ptr mb 0 0, .int .i64 a]
 [.cells mb 0 34 (encN kb p (runs m.is_).length c m.fr m.own), frow p c 83 3 (runs m.is_).length (rgC (runs m.is_))]
 (fun x H1 => x = .bool (m.wants a) ∧ H1 = [.cells mb 0 34 (encN kb p (runs m.is_).length c m.fr m.own), frow p c 83 3 (runs m.is_).length (rgC (runs m.is_))]) := by
  refine Spec.go 29 [0, 1, 4] [] Tryd.func26 rfl rfl rfl ?_
  intro W
  refine sp 7 rfl ?_ ?_ <;> intro h1
  · skip
    refine sp 11 rfl ?_ ?_ <;> intro h2
    · skip
      refine XO.v (V.quo rfl rfl (by first | decide | omega) _ (quo_nn (by omega) (by omega) (by omega))) rfl (gO ?_)
      refine ca (v_at _ _ _ _ _ hm _) .h2 ?_
      rintro _ _ ⟨⟨k, rfl, hk⟩, rfl⟩
      refine gO ?_
      refine sp 18 rfl ?_ ?_ <;> intro h3
      · skip
        refine XO.v (V.quo rfl rfl (by first | decide | omega) _ (quo_nn (by omega) (by omega) (by omega))) rfl (gO ?_)
        refine sd (by omega) ?_
        refine ld .here (encN.ld_p_I_frame _ _ _ _ _ _ _ (by omega)) ?_
        refine XE.ret1 rfl rfl (post_of .h2 rfl ?_)
        first | exact ⟨by unfold MS.wants; rw [MS.may_out (by omega)]; rfl, rfl⟩ | (refine ⟨?_, rfl⟩; rw [MS.wants_at hm hk (by omega)]; first | (rw [decide_eq_false (p := 0 ≤ k) (by omega)]; rfl) | (rw [decide_eq_true (p := 0 ≤ k) (by omega)]; rfl))
      · skip
        refine XE.ret1 rfl rfl (post_of .h2 rfl ?_)
        first | exact ⟨by unfold MS.wants; rw [MS.may_out (by omega)]; rfl, rfl⟩ | (refine ⟨?_, rfl⟩; rw [MS.wants_at hm hk (by omega)]; first | (rw [decide_eq_false (p := 0 ≤ k) (by omega)]; rfl) | (rw [decide_eq_true (p := 0 ≤ k) (by omega)]; rfl))
    · skip
      refine XE.ret1 rfl rfl (post_of .h2 rfl ?_)
      first | exact ⟨by unfold MS.wants; rw [MS.may_out (by omega)]; rfl, rfl⟩ | (refine ⟨?_, rfl⟩; rw [MS.wants_at hm hk (by omega)]; first | (rw [decide_eq_false (p := 0 ≤ k) (by omega)]; rfl) | (rw [decide_eq_true (p := 0 ≤ k) (by omega)]; rfl))
  · skip
    refine XE.ret1 rfl rfl (post_of .h2 rfl ?_)
    first | exact ⟨by unfold MS.wants; rw [MS.may_out (by omega)]; rfl, rfl⟩ | (refine ⟨?_, rfl⟩; rw [MS.wants_at hm hk (by omega)]; first | (rw [decide_eq_false (p := 0 ≤ k) (by omega)]; rfl) | (rw [decide_eq_true (p := 0 ≤ k) (by omega)]; rfl))
set_option maxHeartbeats 8000000 in
theorem v_touch (kb pb mb : Nat) (v : VB) (hv : v.Ok) (p : Option Addr) (c : Nat) (m : MS) (hm : m.Ok) (a : Int) (w : Bool) : Spec Tryd.prog 50 [ptr mb 0 0, .int .i64 a, .bool w]
 [.cells kb 0 577 (encK pb v.by_ v.rf), .cells pb 0 71 (encP v.bb.pool), .cells mb 0 34 (encN kb p (runs m.is_).length c m.fr m.own), frow p c 83 3 (runs m.is_).length (rgC (runs m.is_)), .ro 0 0 64 tab64]
 (fun x H1 => x = .tuple #[.int .i64 (m.touch v a w).1, errv 95 (m.touch v a w).2.1] ∧ H1 = [.cells kb 0 577 (encK pb (m.touch v a w).2.2.1.by_ (m.touch v a w).2.2.1.rf), .cells pb 0 71 (encP (m.touch v a w).2.2.1.bb.pool), .cells mb 0 34 (encN kb p (runs m.is_).length c (m.touch v a w).2.2.2.fr (m.touch v a w).2.2.2.own), frow p c 83 3 (runs m.is_).length (rgC (runs m.is_))]) := by
  refine Spec.go 123 [0, 1, 2, 6, 7, 8, 9, 10, 11, 12, 17, 25, 40, 46, 79, 114] [] Tryd.func50 rfl rfl rfl ?_
  intro W
  refine ca (v_May _ _ _ _ _ hm _ _) (.cons (.t2 .here) (.cons (.t2 .here) .nil)) ?_
  rintro _ _ ⟨rfl, rfl⟩
  refine gO ?_
  refine cdB rfl ?_ ?_ <;> intro h1
  · try simp only [sb] at h1
    have hmay : m.may a w = false := by simpa using h1
    refine XE.ret2 rfl rfl rfl (post_of (.cons (.t2 .here) (.cons (.t2 .here) .h2)) rfl ?_)
    first
      | (rw [MS.touch_no hmay]; exact ⟨rfl, rfl⟩)
      | (rw [MS.touch_newbad hmay h0 ht]; exact ⟨rfl, by rw [htb.2]⟩)
      | (rw [MS.touch_new hmay h0 ht]; exact ⟨by show Value.tuple #[.int .i64 (fset m.fr (a / 8) (v.take.1 + 1) (a / 8) - 1), _] = _; rw [fset_eq, show v.take.1 + 1 - 1 = v.take.1 from by omega]; rfl, rfl⟩)
      | (rw [MS.touch_bad hmay h0 (by first | assumption | omega | (simp_all; done)) (by first | assumption | omega | (simp_all; done)) (by omega) ht]; exact ⟨rfl, by rw [htb.2]⟩)
      | (rw [MS.touch_copy hmay h0 (by first | assumption | omega | (simp_all; done)) (by first | assumption | omega | (simp_all; done)) (by omega) ht]; exact ⟨by show Value.tuple #[.int .i64 (fset m.fr (a / 8) (v.take.1 + 1) (a / 8) - 1), _] = _; rw [fset_eq, show v.take.1 + 1 - 1 = v.take.1 from by omega]; rfl, rfl⟩)
      | (rw [MS.touch_one hmay h0 (by first | assumption | omega | (simp_all; done)) (by first | assumption | omega | (simp_all; done)) (by omega)]; exact ⟨rfl, rfl⟩)
      | (have q : w = false := by first | assumption | omega | (simp_all; done)
         rw [MS.touch_old hmay h0 (.inl q)]; exact ⟨rfl, rfl⟩)
      | (have q : m.own (a / 8) = true := by first | assumption | omega | (simp_all; done)
         rw [MS.touch_old hmay h0 (.inr q)]; first | exact ⟨rfl, rfl⟩ | (rw [fset_self m.own (a / 8) q]; exact ⟨rfl, rfl⟩))
      | (exfalso; (first | assumption | omega | (simp_all; done)))
  · try simp only [sb] at h1
    have hmay : m.may a w = true := by simpa using h1
    have ha := MS.may_rng hmay
    have hlo := hm.lo (a / 8)
    refine XO.v (V.quo rfl rfl (by first | decide | omega) _ (quo_nn (by omega) (by omega) (by omega))) rfl (gO ?_)
    refine sd (by omega) ?_
    refine ld .here (encN.ld_p_I_frame _ _ _ _ _ _ _ (by omega)) ?_
    refine cd rfl ?_ ?_ <;> intro h2
    · skip
      have h0 : m.fr (a / 8) = 0 := by omega
      refine ld .here (encN.ld_b _ _ _ _ _ _) ?_
      refine caR 2 (v_take _ _ _ hv) (.cons (.t2 .here) (.cons (.t2 .here) (.cons (.t2 .here) .nil))) rfl ?_
      rintro _ _ ⟨rfl, rfl⟩
      refine gO ?_
      refine cd rfl ?_ ?_ <;> intro h3
      · skip
        have ht := h3
        have htb := VB.take_bad ht
        refine XE.ret2 rfl rfl rfl (post_of (.cons .here (.cons .here (.cons (.there .here) (.cons (.there .here) .nil)))) rfl ?_)
        first
          | (rw [MS.touch_no hmay]; exact ⟨rfl, rfl⟩)
          | (rw [MS.touch_newbad hmay h0 ht]; exact ⟨rfl, by rw [htb.2]⟩)
          | (rw [MS.touch_new hmay h0 ht]; exact ⟨by show Value.tuple #[.int .i64 (fset m.fr (a / 8) (v.take.1 + 1) (a / 8) - 1), _] = _; rw [fset_eq, show v.take.1 + 1 - 1 = v.take.1 from by omega]; rfl, rfl⟩)
          | (rw [MS.touch_bad hmay h0 (by first | assumption | omega | (simp_all; done)) (by first | assumption | omega | (simp_all; done)) (by omega) ht]; exact ⟨rfl, by rw [htb.2]⟩)
          | (rw [MS.touch_copy hmay h0 (by first | assumption | omega | (simp_all; done)) (by first | assumption | omega | (simp_all; done)) (by omega) ht]; exact ⟨by show Value.tuple #[.int .i64 (fset m.fr (a / 8) (v.take.1 + 1) (a / 8) - 1), _] = _; rw [fset_eq, show v.take.1 + 1 - 1 = v.take.1 from by omega]; rfl, rfl⟩)
          | (rw [MS.touch_one hmay h0 (by first | assumption | omega | (simp_all; done)) (by first | assumption | omega | (simp_all; done)) (by omega)]; exact ⟨rfl, rfl⟩)
          | (have q : w = false := by first | assumption | omega | (simp_all; done)
             rw [MS.touch_old hmay h0 (.inl q)]; exact ⟨rfl, rfl⟩)
          | (have q : m.own (a / 8) = true := by first | assumption | omega | (simp_all; done)
             rw [MS.touch_old hmay h0 (.inr q)]; first | exact ⟨rfl, rfl⟩ | (rw [fset_self m.own (a / 8) q]; exact ⟨rfl, rfl⟩))
          | (exfalso; (first | assumption | omega | (simp_all; done)))
      · skip
        have ht : v.take.2.1 = 0 := by omega
        have htr := VB.take_rng hv ht
        refine XO.v (V.build (vs := #[(0, .int .i64 v.take.1), (1, .bool true)]) rfl (v := .agg #[.int .i64 v.take.1, .bool true]) (fun _ => by kernel_rfl)) rfl (gO ?_)
        refine stA (.t3 .here) (encN_spage _ _ _ _ _ _ _ _ _ (by omega)) rfl ⟨rfl, rfl⟩ ?_
        refine ld (.t3 .here) (encN.ld_p_I_frame _ _ _ _ _ _ _ (by omega)) ?_
        refine XE.ret2 rfl rfl rfl (post_of (.cons .here (.cons .here (.cons (.there .here) (.cons (.there .here) .nil)))) rfl ?_)
        first
          | (rw [MS.touch_no hmay]; exact ⟨rfl, rfl⟩)
          | (rw [MS.touch_newbad hmay h0 ht]; exact ⟨rfl, by rw [htb.2]⟩)
          | (rw [MS.touch_new hmay h0 ht]; exact ⟨by show Value.tuple #[.int .i64 (fset m.fr (a / 8) (v.take.1 + 1) (a / 8) - 1), _] = _; rw [fset_eq, show v.take.1 + 1 - 1 = v.take.1 from by omega]; rfl, rfl⟩)
          | (rw [MS.touch_bad hmay h0 (by first | assumption | omega | (simp_all; done)) (by first | assumption | omega | (simp_all; done)) (by omega) ht]; exact ⟨rfl, by rw [htb.2]⟩)
          | (rw [MS.touch_copy hmay h0 (by first | assumption | omega | (simp_all; done)) (by first | assumption | omega | (simp_all; done)) (by omega) ht]; exact ⟨by show Value.tuple #[.int .i64 (fset m.fr (a / 8) (v.take.1 + 1) (a / 8) - 1), _] = _; rw [fset_eq, show v.take.1 + 1 - 1 = v.take.1 from by omega]; rfl, rfl⟩)
          | (rw [MS.touch_one hmay h0 (by first | assumption | omega | (simp_all; done)) (by first | assumption | omega | (simp_all; done)) (by omega)]; exact ⟨rfl, rfl⟩)
          | (have q : w = false := by first | assumption | omega | (simp_all; done)
             rw [MS.touch_old hmay h0 (.inl q)]; exact ⟨rfl, rfl⟩)
          | (have q : m.own (a / 8) = true := by first | assumption | omega | (simp_all; done)
             rw [MS.touch_old hmay h0 (.inr q)]; first | exact ⟨rfl, rfl⟩ | (rw [fset_self m.own (a / 8) q]; exact ⟨rfl, rfl⟩))
          | (exfalso; (first | assumption | omega | (simp_all; done)))
    · skip
      have h0 : ¬ m.fr (a / 8) = 0 := by omega
      refine rq [0, 1, 2, 3, 4, 5, 6, 7, 8, 9, 10, 11, 12, 13, 14, 15, 16, 17, 18, 19, 20, 21, 22, 23] mixed (by kernel_rfl) ?_
      refine spB 48 rfl ?_ ?_ <;> intro h4
      · try simp only [sb] at h4
        refine ld .here (encN.ld_p_I_write _ _ _ _ _ _ _ (by omega)) ?_
        refine spB 55 rfl ?_ ?_ <;> intro h5
        · try simp only [sb] at h5
          refine ld .here (encN.ld_b _ _ _ _ _ _) ?_
          refine ld .here (encN.ld_p_I_frame _ _ _ _ _ _ _ (by omega)) ?_
          refine sd (by omega) ?_
          refine ld (.t2 .here) (encK.ld_refs_I _ _ _ _ (by omega)) ?_
          refine cd rfl ?_ ?_ <;> intro h6
          · skip
            refine ld .here (encN.ld_b _ _ _ _ _ _) ?_
            refine caR 2 (v_take _ _ _ hv) (.cons (.t2 .here) (.cons (.t2 .here) (.cons (.t2 .here) .nil))) rfl ?_
            rintro _ _ ⟨rfl, rfl⟩
            refine gO ?_
            refine cd rfl ?_ ?_ <;> intro h7
            · skip
              have ht := h7
              have htb := VB.take_bad ht
              refine XE.ret2 rfl rfl rfl (post_of (.cons .here (.cons .here (.cons (.there .here) (.cons (.there .here) .nil)))) rfl ?_)
              first
                | (rw [MS.touch_no hmay]; exact ⟨rfl, rfl⟩)
                | (rw [MS.touch_newbad hmay h0 ht]; exact ⟨rfl, by rw [htb.2]⟩)
                | (rw [MS.touch_new hmay h0 ht]; exact ⟨by show Value.tuple #[.int .i64 (fset m.fr (a / 8) (v.take.1 + 1) (a / 8) - 1), _] = _; rw [fset_eq, show v.take.1 + 1 - 1 = v.take.1 from by omega]; rfl, rfl⟩)
                | (rw [MS.touch_bad hmay h0 (by first | assumption | omega | (simp_all; done)) (by first | assumption | omega | (simp_all; done)) (by omega) ht]; exact ⟨rfl, by rw [htb.2]⟩)
                | (rw [MS.touch_copy hmay h0 (by first | assumption | omega | (simp_all; done)) (by first | assumption | omega | (simp_all; done)) (by omega) ht]; exact ⟨by show Value.tuple #[.int .i64 (fset m.fr (a / 8) (v.take.1 + 1) (a / 8) - 1), _] = _; rw [fset_eq, show v.take.1 + 1 - 1 = v.take.1 from by omega]; rfl, rfl⟩)
                | (rw [MS.touch_one hmay h0 (by first | assumption | omega | (simp_all; done)) (by first | assumption | omega | (simp_all; done)) (by omega)]; exact ⟨rfl, rfl⟩)
                | (have q : w = false := by first | assumption | omega | (simp_all; done)
                   rw [MS.touch_old hmay h0 (.inl q)]; exact ⟨rfl, rfl⟩)
                | (have q : m.own (a / 8) = true := by first | assumption | omega | (simp_all; done)
                   rw [MS.touch_old hmay h0 (.inr q)]; first | exact ⟨rfl, rfl⟩ | (rw [fset_self m.own (a / 8) q]; exact ⟨rfl, rfl⟩))
                | (exfalso; (first | assumption | omega | (simp_all; done)))
            · skip
              have ht : v.take.2.1 = 0 := by omega
              have htr := VB.take_rng hv ht
              refine rq [0, 1, 2, 3, 4, 5, 6, 7, 8, 9, 10, 11, 12, 13, 14, 15, 16, 17, 18, 19, 20] mixed (by kernel_rfl) ?_
              refine ld (.t3 .here) (encN.ld_b _ _ _ _ _ _) ?_
              refine ld (.t3 .here) (encN.ld_b _ _ _ _ _ _) ?_
              refine ld (.t3 .here) (encN.ld_p_I_frame _ _ _ _ _ _ _ (by omega)) ?_
              refine sd (by omega) ?_
              refine ldA .here (encK_row _ _ _ _ (by omega)) ?_
              refine sd (by omega) ?_
              refine stA .here (encK_srow _ _ _ _ _ (by omega)) rfl ⟨rfl, rfl⟩ ?_
              refine rq [0, 1, 2, 3, 4, 5, 6, 7, 8] mixed (by kernel_rfl) ?_
              refine ld (.t3 .here) (encN.ld_b _ _ _ _ _ _) ?_
              refine ld (.t3 .here) (encN.ld_p_I_frame _ _ _ _ _ _ _ (by omega)) ?_
              refine caR 2 (v_drop _ _ (v.take.2.2.copy v.take.1 (m.fr (a / 8) - 1)) (hv.take.copy _ _) (m.fr (a / 8) - 1) (by omega) (VB.take_rf1 ht (by omega))) .h3 rfl ?_
              rintro _ _ ⟨rfl, rfl⟩
              refine gO ?_
              refine XO.v (V.build (vs := #[(0, .int .i64 v.take.1), (1, .bool true)]) rfl (v := .agg #[.int .i64 v.take.1, .bool true]) (fun _ => by kernel_rfl)) rfl (gO ?_)
              refine stA (.t3 .here) (encN_spage _ _ _ _ _ _ _ _ _ (by omega)) rfl ⟨rfl, rfl⟩ ?_
              refine ld (.t3 .here) (encN.ld_p_I_frame _ _ _ _ _ _ _ (by omega)) ?_
              refine XE.ret2 rfl rfl rfl (post_of (.cons .here (.cons .here (.cons (.there .here) (.cons (.there .here) .nil)))) rfl ?_)
              first
                | (rw [MS.touch_no hmay]; exact ⟨rfl, rfl⟩)
                | (rw [MS.touch_newbad hmay h0 ht]; exact ⟨rfl, by rw [htb.2]⟩)
                | (rw [MS.touch_new hmay h0 ht]; exact ⟨by show Value.tuple #[.int .i64 (fset m.fr (a / 8) (v.take.1 + 1) (a / 8) - 1), _] = _; rw [fset_eq, show v.take.1 + 1 - 1 = v.take.1 from by omega]; rfl, rfl⟩)
                | (rw [MS.touch_bad hmay h0 (by first | assumption | omega | (simp_all; done)) (by first | assumption | omega | (simp_all; done)) (by omega) ht]; exact ⟨rfl, by rw [htb.2]⟩)
                | (rw [MS.touch_copy hmay h0 (by first | assumption | omega | (simp_all; done)) (by first | assumption | omega | (simp_all; done)) (by omega) ht]; exact ⟨by show Value.tuple #[.int .i64 (fset m.fr (a / 8) (v.take.1 + 1) (a / 8) - 1), _] = _; rw [fset_eq, show v.take.1 + 1 - 1 = v.take.1 from by omega]; rfl, rfl⟩)
                | (rw [MS.touch_one hmay h0 (by first | assumption | omega | (simp_all; done)) (by first | assumption | omega | (simp_all; done)) (by omega)]; exact ⟨rfl, rfl⟩)
                | (have q : w = false := by first | assumption | omega | (simp_all; done)
                   rw [MS.touch_old hmay h0 (.inl q)]; exact ⟨rfl, rfl⟩)
                | (have q : m.own (a / 8) = true := by first | assumption | omega | (simp_all; done)
                   rw [MS.touch_old hmay h0 (.inr q)]; first | exact ⟨rfl, rfl⟩ | (rw [fset_self m.own (a / 8) q]; exact ⟨rfl, rfl⟩))
                | (exfalso; (first | assumption | omega | (simp_all; done)))
          · skip
            refine cdB rfl ?_ ?_ <;> intro h8
            · try simp only [sb] at h8
              refine st .here (encN.st_p_I_write _ _ _ _ _ _ _ (by omega) _) rfl ?_
              refine ld .here (encN.ld_p_I_frame _ _ _ _ _ _ _ (by omega)) ?_
              refine XE.ret2 rfl rfl rfl (post_of (.cons (.t2 .here) (.cons (.t2 .here) .h2)) rfl ?_)
              first
                | (rw [MS.touch_no hmay]; exact ⟨rfl, rfl⟩)
                | (rw [MS.touch_newbad hmay h0 ht]; exact ⟨rfl, by rw [htb.2]⟩)
                | (rw [MS.touch_new hmay h0 ht]; exact ⟨by show Value.tuple #[.int .i64 (fset m.fr (a / 8) (v.take.1 + 1) (a / 8) - 1), _] = _; rw [fset_eq, show v.take.1 + 1 - 1 = v.take.1 from by omega]; rfl, rfl⟩)
                | (rw [MS.touch_bad hmay h0 (by first | assumption | omega | (simp_all; done)) (by first | assumption | omega | (simp_all; done)) (by omega) ht]; exact ⟨rfl, by rw [htb.2]⟩)
                | (rw [MS.touch_copy hmay h0 (by first | assumption | omega | (simp_all; done)) (by first | assumption | omega | (simp_all; done)) (by omega) ht]; exact ⟨by show Value.tuple #[.int .i64 (fset m.fr (a / 8) (v.take.1 + 1) (a / 8) - 1), _] = _; rw [fset_eq, show v.take.1 + 1 - 1 = v.take.1 from by omega]; rfl, rfl⟩)
                | (rw [MS.touch_one hmay h0 (by first | assumption | omega | (simp_all; done)) (by first | assumption | omega | (simp_all; done)) (by omega)]; exact ⟨rfl, rfl⟩)
                | (have q : w = false := by first | assumption | omega | (simp_all; done)
                   rw [MS.touch_old hmay h0 (.inl q)]; exact ⟨rfl, rfl⟩)
                | (have q : m.own (a / 8) = true := by first | assumption | omega | (simp_all; done)
                   rw [MS.touch_old hmay h0 (.inr q)]; first | exact ⟨rfl, rfl⟩ | (rw [fset_self m.own (a / 8) q]; exact ⟨rfl, rfl⟩))
                | (exfalso; (first | assumption | omega | (simp_all; done)))
            · try simp only [sb] at h8
              refine ld .here (encN.ld_p_I_frame _ _ _ _ _ _ _ (by omega)) ?_
              refine XE.ret2 rfl rfl rfl (post_of (.cons (.t2 .here) (.cons (.t2 .here) .h2)) rfl ?_)
              first
                | (rw [MS.touch_no hmay]; exact ⟨rfl, rfl⟩)
                | (rw [MS.touch_newbad hmay h0 ht]; exact ⟨rfl, by rw [htb.2]⟩)
                | (rw [MS.touch_new hmay h0 ht]; exact ⟨by show Value.tuple #[.int .i64 (fset m.fr (a / 8) (v.take.1 + 1) (a / 8) - 1), _] = _; rw [fset_eq, show v.take.1 + 1 - 1 = v.take.1 from by omega]; rfl, rfl⟩)
                | (rw [MS.touch_bad hmay h0 (by first | assumption | omega | (simp_all; done)) (by first | assumption | omega | (simp_all; done)) (by omega) ht]; exact ⟨rfl, by rw [htb.2]⟩)
                | (rw [MS.touch_copy hmay h0 (by first | assumption | omega | (simp_all; done)) (by first | assumption | omega | (simp_all; done)) (by omega) ht]; exact ⟨by show Value.tuple #[.int .i64 (fset m.fr (a / 8) (v.take.1 + 1) (a / 8) - 1), _] = _; rw [fset_eq, show v.take.1 + 1 - 1 = v.take.1 from by omega]; rfl, rfl⟩)
                | (rw [MS.touch_one hmay h0 (by first | assumption | omega | (simp_all; done)) (by first | assumption | omega | (simp_all; done)) (by omega)]; exact ⟨rfl, rfl⟩)
                | (have q : w = false := by first | assumption | omega | (simp_all; done)
                   rw [MS.touch_old hmay h0 (.inl q)]; exact ⟨rfl, rfl⟩)
                | (have q : m.own (a / 8) = true := by first | assumption | omega | (simp_all; done)
                   rw [MS.touch_old hmay h0 (.inr q)]; first | exact ⟨rfl, rfl⟩ | (rw [fset_self m.own (a / 8) q]; exact ⟨rfl, rfl⟩))
                | (exfalso; (first | assumption | omega | (simp_all; done)))
        · try simp only [sb] at h5
          refine cdB rfl ?_ ?_ <;> intro h9
          · try simp only [sb] at h9
            refine st .here (encN.st_p_I_write _ _ _ _ _ _ _ (by omega) _) rfl ?_
            refine ld .here (encN.ld_p_I_frame _ _ _ _ _ _ _ (by omega)) ?_
            refine XE.ret2 rfl rfl rfl (post_of (.cons (.t2 .here) (.cons (.t2 .here) .h2)) rfl ?_)
            first
              | (rw [MS.touch_no hmay]; exact ⟨rfl, rfl⟩)
              | (rw [MS.touch_newbad hmay h0 ht]; exact ⟨rfl, by rw [htb.2]⟩)
              | (rw [MS.touch_new hmay h0 ht]; exact ⟨by show Value.tuple #[.int .i64 (fset m.fr (a / 8) (v.take.1 + 1) (a / 8) - 1), _] = _; rw [fset_eq, show v.take.1 + 1 - 1 = v.take.1 from by omega]; rfl, rfl⟩)
              | (rw [MS.touch_bad hmay h0 (by first | assumption | omega | (simp_all; done)) (by first | assumption | omega | (simp_all; done)) (by omega) ht]; exact ⟨rfl, by rw [htb.2]⟩)
              | (rw [MS.touch_copy hmay h0 (by first | assumption | omega | (simp_all; done)) (by first | assumption | omega | (simp_all; done)) (by omega) ht]; exact ⟨by show Value.tuple #[.int .i64 (fset m.fr (a / 8) (v.take.1 + 1) (a / 8) - 1), _] = _; rw [fset_eq, show v.take.1 + 1 - 1 = v.take.1 from by omega]; rfl, rfl⟩)
              | (rw [MS.touch_one hmay h0 (by first | assumption | omega | (simp_all; done)) (by first | assumption | omega | (simp_all; done)) (by omega)]; exact ⟨rfl, rfl⟩)
              | (have q : w = false := by first | assumption | omega | (simp_all; done)
                 rw [MS.touch_old hmay h0 (.inl q)]; exact ⟨rfl, rfl⟩)
              | (have q : m.own (a / 8) = true := by first | assumption | omega | (simp_all; done)
                 rw [MS.touch_old hmay h0 (.inr q)]; first | exact ⟨rfl, rfl⟩ | (rw [fset_self m.own (a / 8) q]; exact ⟨rfl, rfl⟩))
              | (exfalso; (first | assumption | omega | (simp_all; done)))
          · try simp only [sb] at h9
            refine ld .here (encN.ld_p_I_frame _ _ _ _ _ _ _ (by omega)) ?_
            refine XE.ret2 rfl rfl rfl (post_of (.cons (.t2 .here) (.cons (.t2 .here) .h2)) rfl ?_)
            first
              | (rw [MS.touch_no hmay]; exact ⟨rfl, rfl⟩)
              | (rw [MS.touch_newbad hmay h0 ht]; exact ⟨rfl, by rw [htb.2]⟩)
              | (rw [MS.touch_new hmay h0 ht]; exact ⟨by show Value.tuple #[.int .i64 (fset m.fr (a / 8) (v.take.1 + 1) (a / 8) - 1), _] = _; rw [fset_eq, show v.take.1 + 1 - 1 = v.take.1 from by omega]; rfl, rfl⟩)
              | (rw [MS.touch_bad hmay h0 (by first | assumption | omega | (simp_all; done)) (by first | assumption | omega | (simp_all; done)) (by omega) ht]; exact ⟨rfl, by rw [htb.2]⟩)
              | (rw [MS.touch_copy hmay h0 (by first | assumption | omega | (simp_all; done)) (by first | assumption | omega | (simp_all; done)) (by omega) ht]; exact ⟨by show Value.tuple #[.int .i64 (fset m.fr (a / 8) (v.take.1 + 1) (a / 8) - 1), _] = _; rw [fset_eq, show v.take.1 + 1 - 1 = v.take.1 from by omega]; rfl, rfl⟩)
              | (rw [MS.touch_one hmay h0 (by first | assumption | omega | (simp_all; done)) (by first | assumption | omega | (simp_all; done)) (by omega)]; exact ⟨rfl, rfl⟩)
              | (have q : w = false := by first | assumption | omega | (simp_all; done)
                 rw [MS.touch_old hmay h0 (.inl q)]; exact ⟨rfl, rfl⟩)
              | (have q : m.own (a / 8) = true := by first | assumption | omega | (simp_all; done)
                 rw [MS.touch_old hmay h0 (.inr q)]; first | exact ⟨rfl, rfl⟩ | (rw [fset_self m.own (a / 8) q]; exact ⟨rfl, rfl⟩))
              | (exfalso; (first | assumption | omega | (simp_all; done)))
      · try simp only [sb] at h4
        refine cdB rfl ?_ ?_ <;> intro h10
        · try simp only [sb] at h10
          refine st .here (encN.st_p_I_write _ _ _ _ _ _ _ (by omega) _) rfl ?_
          refine ld .here (encN.ld_p_I_frame _ _ _ _ _ _ _ (by omega)) ?_
          refine XE.ret2 rfl rfl rfl (post_of (.cons (.t2 .here) (.cons (.t2 .here) .h2)) rfl ?_)
          first
            | (rw [MS.touch_no hmay]; exact ⟨rfl, rfl⟩)
            | (rw [MS.touch_newbad hmay h0 ht]; exact ⟨rfl, by rw [htb.2]⟩)
            | (rw [MS.touch_new hmay h0 ht]; exact ⟨by show Value.tuple #[.int .i64 (fset m.fr (a / 8) (v.take.1 + 1) (a / 8) - 1), _] = _; rw [fset_eq, show v.take.1 + 1 - 1 = v.take.1 from by omega]; rfl, rfl⟩)
            | (rw [MS.touch_bad hmay h0 (by first | assumption | omega | (simp_all; done)) (by first | assumption | omega | (simp_all; done)) (by omega) ht]; exact ⟨rfl, by rw [htb.2]⟩)
            | (rw [MS.touch_copy hmay h0 (by first | assumption | omega | (simp_all; done)) (by first | assumption | omega | (simp_all; done)) (by omega) ht]; exact ⟨by show Value.tuple #[.int .i64 (fset m.fr (a / 8) (v.take.1 + 1) (a / 8) - 1), _] = _; rw [fset_eq, show v.take.1 + 1 - 1 = v.take.1 from by omega]; rfl, rfl⟩)
            | (rw [MS.touch_one hmay h0 (by first | assumption | omega | (simp_all; done)) (by first | assumption | omega | (simp_all; done)) (by omega)]; exact ⟨rfl, rfl⟩)
            | (have q : w = false := by first | assumption | omega | (simp_all; done)
               rw [MS.touch_old hmay h0 (.inl q)]; exact ⟨rfl, rfl⟩)
            | (have q : m.own (a / 8) = true := by first | assumption | omega | (simp_all; done)
               rw [MS.touch_old hmay h0 (.inr q)]; first | exact ⟨rfl, rfl⟩ | (rw [fset_self m.own (a / 8) q]; exact ⟨rfl, rfl⟩))
            | (exfalso; (first | assumption | omega | (simp_all; done)))
        · try simp only [sb] at h10
          refine ld .here (encN.ld_p_I_frame _ _ _ _ _ _ _ (by omega)) ?_
          refine XE.ret2 rfl rfl rfl (post_of (.cons (.t2 .here) (.cons (.t2 .here) .h2)) rfl ?_)
          first
            | (rw [MS.touch_no hmay]; exact ⟨rfl, rfl⟩)
            | (rw [MS.touch_newbad hmay h0 ht]; exact ⟨rfl, by rw [htb.2]⟩)
            | (rw [MS.touch_new hmay h0 ht]; exact ⟨by show Value.tuple #[.int .i64 (fset m.fr (a / 8) (v.take.1 + 1) (a / 8) - 1), _] = _; rw [fset_eq, show v.take.1 + 1 - 1 = v.take.1 from by omega]; rfl, rfl⟩)
            | (rw [MS.touch_bad hmay h0 (by first | assumption | omega | (simp_all; done)) (by first | assumption | omega | (simp_all; done)) (by omega) ht]; exact ⟨rfl, by rw [htb.2]⟩)
            | (rw [MS.touch_copy hmay h0 (by first | assumption | omega | (simp_all; done)) (by first | assumption | omega | (simp_all; done)) (by omega) ht]; exact ⟨by show Value.tuple #[.int .i64 (fset m.fr (a / 8) (v.take.1 + 1) (a / 8) - 1), _] = _; rw [fset_eq, show v.take.1 + 1 - 1 = v.take.1 from by omega]; rfl, rfl⟩)
            | (rw [MS.touch_one hmay h0 (by first | assumption | omega | (simp_all; done)) (by first | assumption | omega | (simp_all; done)) (by omega)]; exact ⟨rfl, rfl⟩)
            | (have q : w = false := by first | assumption | omega | (simp_all; done)
               rw [MS.touch_old hmay h0 (.inl q)]; exact ⟨rfl, rfl⟩)
            | (have q : m.own (a / 8) = true := by first | assumption | omega | (simp_all; done)
               rw [MS.touch_old hmay h0 (.inr q)]; first | exact ⟨rfl, rfl⟩ | (rw [fset_self m.own (a / 8) q]; exact ⟨rfl, rfl⟩))
            | (exfalso; (first | assumption | omega | (simp_all; done)))
set_option maxHeartbeats 8000000 in
theorem v_Load (kb pb mb : Nat) (v : VB) (hv : v.Ok) (p : Option Addr) (c : Nat) (m : MS) (hm : m.Ok) (a : Int) : Spec Tryd.prog 21 [ptr mb 0 0, .int .i64 a]
 [.cells kb 0 577 (encK pb v.by_ v.rf), .cells pb 0 71 (encP v.bb.pool), .cells mb 0 34 (encN kb p (runs m.is_).length c m.fr m.own), frow p c 83 3 (runs m.is_).length (rgC (runs m.is_)), .ro 0 0 64 tab64]
 (fun x H1 => x = .tuple #[.int .u8 (m.load v a).1, errv 95 (m.load v a).2.1] ∧ H1 = [.cells kb 0 577 (encK pb (m.load v a).2.2.1.by_ (m.load v a).2.2.1.rf), .cells pb 0 71 (encP (m.load v a).2.2.1.bb.pool), .cells mb 0 34 (encN kb p (runs m.is_).length c (m.load v a).2.2.2.fr (m.load v a).2.2.2.own), frow p c 83 3 (runs m.is_).length (rgC (runs m.is_))]) := by
  refine Spec.go 29 [0, 1, 4, 5, 6, 7, 15] [] Tryd.func21 rfl rfl rfl ?_
  intro W
  refine caR 4 (v_touch _ _ _ _ hv _ _ _ hm a false) .h5 rfl ?_
  rintro _ _ ⟨rfl, rfl⟩
  refine gO ?_
  refine cd rfl ?_ ?_ <;> intro h1
  · skip
    have ht := h1
    refine XE.ret2 rfl rfl rfl (post_of .h4 rfl ?_)
    rw [MS.load_bad ht]; exact ⟨rfl, rfl⟩
  · skip
    have ht : (m.touch v a false).2.1 = 0 := by omega
    have hr := MS.touch_rng hv hm ht
    refine ld (.t2 .here) (encN.ld_b _ _ _ _ _ _) ?_
    refine XO.v (V.rem rfl rfl (by first | decide | omega) _ (Int.tmod_eq_emod_of_nonneg (by omega))) rfl (gO ?_)
    refine sd (by omega) ?_
    refine sd (by omega) ?_
    refine ld .here (encK.ld_b_I_I _ _ _ _ _ (by omega) (by omega)) ?_
    refine XE.ret2 rfl rfl rfl (post_of .h4 rfl ?_)
    rw [MS.load_ok ht]; exact ⟨rfl, rfl⟩
set_option maxHeartbeats 8000000 in
theorem v_Store (kb pb mb : Nat) (v : VB) (hv : v.Ok) (p : Option Addr) (c : Nat) (m : MS) (hm : m.Ok) (a b : Int) : Spec Tryd.prog 23 [ptr mb 0 0, .int .i64 a, .int .u8 b]
 [.cells kb 0 577 (encK pb v.by_ v.rf), .cells pb 0 71 (encP v.bb.pool), .cells mb 0 34 (encN kb p (runs m.is_).length c m.fr m.own), frow p c 83 3 (runs m.is_).length (rgC (runs m.is_)), .ro 0 0 64 tab64]
 (fun x H1 => x = errv 95 (m.store v a b).1 ∧ H1 = [.cells kb 0 577 (encK pb (m.store v a b).2.1.by_ (m.store v a b).2.1.rf), .cells pb 0 71 (encP (m.store v a b).2.1.bb.pool), .cells mb 0 34 (encN kb p (runs m.is_).length c (m.store v a b).2.2.fr (m.store v a b).2.2.own), frow p c 83 3 (runs m.is_).length (rgC (runs m.is_))]) := by
  refine Spec.go 30 [0, 1, 2, 6, 7, 8, 16] [] Tryd.func23 rfl rfl rfl ?_
  intro W
  refine caR 4 (v_touch _ _ _ _ hv _ _ _ hm a true) .h5 rfl ?_
  rintro _ _ ⟨rfl, rfl⟩
  refine gO ?_
  refine cd rfl ?_ ?_ <;> intro h1
  · skip
    have ht := h1
    refine XE.ret1 rfl rfl (post_of .h4 rfl ?_)
    rw [MS.store_bad ht]; exact ⟨rfl, rfl⟩
  · skip
    have ht : (m.touch v a true).2.1 = 0 := by omega
    have hr := MS.touch_rng hv hm ht
    refine ld (.t2 .here) (encN.ld_b _ _ _ _ _ _) ?_
    refine XO.v (V.rem rfl rfl (by first | decide | omega) _ (Int.tmod_eq_emod_of_nonneg (by omega))) rfl (gO ?_)
    refine sd (by omega) ?_
    refine sd (by omega) ?_
    refine st .here (encK.st_b_I_I _ _ _ _ _ (by omega) (by omega) _) rfl ?_
    refine XE.ret1 rfl rfl (post_of .h4 rfl ?_)
    rw [MS.store_ok ht]; exact ⟨rfl, rfl⟩
set_option maxHeartbeats 8000000 in
theorem v_Fork (kb pb mb : Nat) (v : VB) (hv : v.Ok) (p : Option Addr) (c : Nat) (m : MS) (hm : m.Ok) : Spec Tryd.prog 10 [ptr mb 0 0]
 [.cells kb 0 577 (encK pb v.by_ v.rf), .cells mb 0 34 (encN kb p (runs m.is_).length c m.fr m.own), frow p c 83 3 (runs m.is_).length (rgC (runs m.is_))]
 (fun x H1 => ∃ nb p1 c1, x = ptr nb 0 0 ∧ H1 = [.cells kb 0 577 (encK pb (v.fork m).by_ (v.fork m).rf), .cells mb 0 34 (encN kb p (runs m.is_).length c m.fr (fun _ => false)), frow p c 83 3 (runs m.is_).length (rgC (runs m.is_)), .cells nb 0 34 (encN kb p1 (runs m.is_).length c1 m.fr (fun _ => false)), frow p1 c1 83 3 (runs m.is_).length (rgC (runs m.is_))]) := by
  refine Spec.go 65 [0, 2, 3, 4, 16, 17, 43] [] Tryd.func10 rfl rfl rfl ?_
  intro W
  refine XC.regionQ mixed (f := 12) (l := #[false, false, false, false, false, false, false, false, false, false, false, false]) rfl rfl XM.drawn' ?_
  refine XQ.pv (i := 0) (l' := #[true, false, false, false, false, false, false, false, false, false, false, false]) rfl (by kernel_rfl) rfl (V.move rfl) rfl rfl ?_
  refine XQ.pv (i := 1) (l' := #[true, true, false, false, false, false, false, false, false, false, false, false]) rfl (by kernel_rfl) rfl (V.nilCheckP rfl) rfl rfl ?_
  refine XQ.pv (i := 2) (l' := #[true, true, true, false, false, false, false, false, false, false, false, false]) rfl (by kernel_rfl) rfl (V.fieldAddr rfl fo_80_0) rfl rfl ?_
  refine XQ.load (i := 3) (l' := #[true, true, true, true, false, false, false, false, false, false, false, false]) (.cells _ _ _ _) [10] rfl (by kernel_rfl) rfl (.there .here) (V.load rfl inEnt (encN.ld_b _ _ _ _ _ _) sc_25) rfl (by kernel_rfl) rfl ?_
  refine XQ.pv (i := 4) (l' := #[true, true, true, true, true, false, false, false, false, false, false, false]) rfl (by kernel_rfl) rfl (V.move rfl) rfl rfl ?_
  refine XQ.pv (i := 5) (l' := #[true, true, true, true, true, true, false, false, false, false, false, false]) rfl (by kernel_rfl) rfl (V.nilCheckP rfl) rfl rfl ?_
  refine XQ.pv (i := 6) (l' := #[true, true, true, true, true, true, true, false, false, false, false, false]) rfl (by kernel_rfl) rfl (V.fieldAddr rfl fo_80_1) rfl rfl ?_
  refine XQ.load (i := 7) (l' := #[true, true, true, true, true, true, true, true, false, false, false, false]) (.cells _ _ _ _) [8, 10] rfl (by kernel_rfl) rfl (.there .here) (V.load rfl inEnt (encN.ld_r _ _ _ _ _ _) sc_69) rfl (by kernel_rfl) rfl ?_
  refine XQ.call (i := 8) (l' := #[true, true, true, true, true, true, true, true, true, false, false, false]) rfl (by kernel_rfl) rfl rfl (v_Clone _ _ _ (by have := runs_len m.is_; omega)) (.cons (.t2 .here) .nil) cl_31 rfl (by rintro _ _ ⟨p1, c1, rfl, rfl⟩; all_goals (intro _ hw'; exact ⟨fun hs => (hs 8 (by first | (simp; done) | (simp; rfl)) rfl).elim, fun _ => inXM (.t3 .here) _ hw', trivial⟩)) ?_
  rintro _ _ ⟨p1, c1, rfl, rfl⟩
  refine XQ.pv (i := 9) (l' := #[true, true, true, true, true, true, true, true, true, true, false, false]) rfl (by kernel_rfl) rfl (V.build (vs := #[(0, ptr kb 0 0), (1, .slice p1 (runs m.is_).length c1)]) rfl (v := .agg (zNs kb p1 (runs m.is_).length c1).toArray) (fun _ => by kernel_rfl)) rfl rfl ?_
  refine XQ.box (i := 10) (l' := #[true, true, true, true, true, true, true, true, true, true, true, false]) (m := 34) (C := encN kb p1 (runs m.is_).length c1 (fun _ => 1) (fun _ => false)) rfl (by kernel_rfl) rfl rfl rfl (zNs_box _ _ _ _) rfl (fun _ _ hw' => ⟨fun hs => (hs 8 (by first | (simp; done) | (simp; rfl)) rfl).elim, fun hs => (hs 10 (by first | (simp; done) | (simp; rfl)) rfl).elim, trivial⟩) ?_
  intro nb
  refine XQ.pv (i := 11) (l' := #[true, true, true, true, true, true, true, true, true, true, true, true]) rfl (by kernel_rfl) rfl (V.assign rfl) rfl rfl ?_
  refine XQ.done (by kernel_rfl) ?_
  refine gE ?_
  refine lp (σ := Int) (fun i => (16 - i).toNat) (fun i => 0 ≤ i ∧ i ≤ 16) (fun i => [(16, .int .i64 i), (0, ptr mb 0 0), (3, ptr nb 0 0)]) (fun i => XM W (foot [.cells kb 0 577 (encK pb v.by_ v.rf), .cells mb 0 34 (encN kb p (runs m.is_).length c m.fr m.own), frow p c 83 3 (runs m.is_).length (rgC (runs m.is_))]) [.cells kb 0 577 (encK pb v.by_ (upN v.rf m.fr i.toNat)), .cells mb 0 34 (encN kb p (runs m.is_).length c m.fr (cutI (fun _ => false) m.own i)), frow p c 83 3 (runs m.is_).length (rgC (runs m.is_)), .cells nb 0 34 (encN kb p1 (runs m.is_).length c1 (cutI m.fr (fun _ => 1) i) (fun _ => false)), frow p1 c1 83 3 (runs m.is_).length (rgC (runs m.is_))]) (0) ?_ (S3 rfl rfl rfl) (fun _ hw => by show XM _ _ [_, .cells mb 0 34 (encN _ _ _ _ _ (cutI (fun _ => false) m.own 0)), _, .cells nb 0 34 (encN _ _ _ _ (cutI m.fr (fun _ => 1) 0) _), _] _; rw [cutI_zero, cutI_zero]; exact XM.pick (.cons (.t3 .here) (.cons (.t3 .here) (.cons (.there .here) .h2))) hw) ?_
  · skip
    omega
  intro i hi
  have hlo := hm.lo i
  have hup := upN_le v.rf m.fr i.toNat (m.fr i - 1)
  have hrf := hv.rf (m.fr i - 1)
  refine gC ?_
  refine cd rfl ?_ ?_ <;> intro h1
  · skip
    refine sd (by omega) ?_
    refine st (.there .here) (encN.st_p_I_write _ _ _ _ _ _ _ (by omega) _) rfl ?_
    refine rq [0, 1, 2, 3, 4, 5, 6, 7, 8, 9, 10, 11] mixed (by kernel_rfl) ?_
    refine sd (by omega) ?_
    refine ldA (.there .here) (encN_page _ _ _ _ _ _ _ (by omega)) ?_
    refine sd (by omega) ?_
    refine stA (.t3 .here) (encN_spage _ _ _ _ _ _ _ _ _ (by omega)) rfl ⟨rfl, rfl⟩ ?_
    refine sd (by omega) ?_
    refine ld (.there .here) (encN.ld_p_I_frame _ _ _ _ _ _ _ (by omega)) ?_
    refine cd rfl ?_ ?_ <;> intro h2
    · skip
      refine rq [0, 1, 2, 3, 4, 5, 6, 7, 8, 9, 10, 11, 12, 13, 14, 15, 16, 17, 18, 19] mixed (by kernel_rfl) ?_
      refine ld (.there .here) (encN.ld_b _ _ _ _ _ _) ?_
      refine sd (by omega) ?_
      refine ld (.there .here) (encN.ld_p_I_frame _ _ _ _ _ _ _ (by omega)) ?_
      refine sd (by omega) ?_
      refine ld .here (encK.ld_refs_I _ _ _ _ (by omega)) ?_
      refine sd (by omega) ?_
      refine sd (by omega) ?_
      refine st .here (encK.st_refs_I _ _ _ _ (by omega) _) rfl ?_
      refine sd (by omega) ?_
      have hU : upN v.rf m.fr (i + 1).toNat = fset (upN v.rf m.fr i.toNat) (m.fr i - 1) (upN v.rf m.fr i.toNat (m.fr i - 1) + 1) := by rw [upN_next hi.1, if_pos (by omega)]
      refine ag (i + 1) ?_ ?_ (S3 rfl rfl rfl) (fun _ hw => by rw [fset_eq (cutI (fun _ => false) m.own i) i false, fset_self (fun _ => false) i rfl] at hw; show XM _ _ [.cells kb 0 577 (encK pb v.by_ (upN v.rf m.fr (i + 1).toNat)), _, _, _, _] _; rw [hU, ← cutI_next hi.1 (f := (fun _ => false)) (g := m.own) (v := false) rfl, ← cutI_next hi.1 (f := m.fr) (g := fun _ => 1) (v := m.fr i - 1 + 1) (by omega)]; exact XM.pick .h5 hw)
      · skip
        (first | omega | (simp; done) | (simp; omega))
      · skip
        (first | omega | (simp; done) | (simp; omega))
    · skip
      refine sd (by omega) ?_
      have hU : upN v.rf m.fr (i + 1).toNat = upN v.rf m.fr i.toNat := by rw [upN_next hi.1, if_neg (by omega)]
      refine ag (i + 1) ?_ ?_ (S3 rfl rfl rfl) (fun _ hw => by rw [fset_eq (cutI (fun _ => false) m.own i) i false, fset_self (fun _ => false) i rfl] at hw; show XM _ _ [.cells kb 0 577 (encK pb v.by_ (upN v.rf m.fr (i + 1).toNat)), _, _, _, _] _; rw [hU, ← cutI_next hi.1 (f := (fun _ => false)) (g := m.own) (v := false) rfl, ← cutI_next hi.1 (f := m.fr) (g := fun _ => 1) (v := m.fr i - 1 + 1) (by omega)]; exact XM.pick .h5 hw)
      · skip
        (first | omega | (simp; done) | (simp; omega))
      · skip
        (first | omega | (simp; done) | (simp; omega))
  · skip
    refine XE.ret1 rfl rfl (post_of .h5 rfl ?_)
    have e : i = 16 := by omega
    subst e
    exact ⟨nb, p1, c1, rfl, by rw [encN_congr (f := cutI m.fr (fun _ => 1) 16) (f' := m.fr) (o := (fun _ => false)) (o' := (fun _ => false)) (fun i h0 h1 => ⟨by unfold cutI; rw [if_pos (by omega)], rfl⟩), encN_congr (f := m.fr) (f' := m.fr) (o := cutI (fun _ => false) m.own 16) (o' := (fun _ => false)) (fun i h0 h1 => ⟨rfl, by unfold cutI; rw [if_pos (by omega)]⟩)]; rfl⟩
end Go.X
