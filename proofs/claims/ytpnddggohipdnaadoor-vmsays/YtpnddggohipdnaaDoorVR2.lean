import Derived.Test.YtpnddggohipdnaaDoorVR
namespace Go.X
open Go Go.Proofs
set_option maxRecDepth 20000
set_option maxHeartbeats 4000000
theorem sz_36_49 : szOf Tryd.prog 36 = some 49 := by kernel_rfl
set_option maxHeartbeats 8000000 in
theorem r_Unmap (rk rp rm : Nat) (v : VB) (hv : v.Ok) (m : MS) (hm : m.Ok) (hin : m.In v) (a n : Int) : Spec Tryd.prog 33 [ptr rm 0 0, .int .i64 a, .int .i64 n]
 [.cells rk 0 577 (encRK rp v.by_ v.rf), .cells rp 0 128 (encM v.bb), .cells rm 0 49 (encRN rk m.is_ m.fr m.own)]
 (fun x H1 => x = .tuple #[.int .i64 (m.unmap v a n).1, .int .i64 (m.unmap v a n).2.1] ∧ H1 = [.cells rk 0 577 (encRK rp (m.unmap v a n).2.2.1.by_ (m.unmap v a n).2.2.1.rf), .cells rp 0 128 (encM (m.unmap v a n).2.2.1.bb), .cells rm 0 49 (encRN rk (m.unmap v a n).2.2.2.is_ (m.unmap v a n).2.2.2.fr (m.unmap v a n).2.2.2.own)]) := by
  refine Spec.go 58 [0, 1, 2, 6, 7, 8, 9, 12, 18, 32] [] Tryd.func33 rfl rfl rfl ?_
  intro W
  refine ca (r_bad _ _) .nil ?_
  rintro _ _ ⟨rfl, rfl⟩
  refine gO ?_
  refine cd rfl ?_ ?_ <;> intro h1
  · skip
    have hb : badS a n := h1
    refine XE.ret2 rfl rfl rfl (post_of .h3 rfl ?_)
    rw [MS.unmap_bad hb]; exact ⟨rfl, rfl⟩
  · skip
    have hb : ¬ badS a n := h1
    have hb2 := hb
    unfold badS at hb2
    refine lp (σ := Int) (fun i => (a + n - i).toNat) (fun i => a ≤ i ∧ i ≤ a + n) (fun i => [(9, .int .i64 i), (8, .int .i64 (unN v m.fr a (i - a).toNat).1), (0, ptr rm 0 0), (1, .int .i64 a), (2, .int .i64 n)]) (fun i => XM W (foot [.cells rk 0 577 (encRK rp v.by_ v.rf), .cells rp 0 128 (encM v.bb), .cells rm 0 49 (encRN rk m.is_ m.fr m.own)]) [.cells rk 0 577 (encRK rp (unN v m.fr a (i - a).toNat).2.by_ (unN v m.fr a (i - a).toNat).2.rf), .cells rp 0 128 (encM (unN v m.fr a (i - a).toNat).2.bb), .cells rm 0 49 (encRN rk (setI m.is_ a (i - a) 0) (setI m.fr a (i - a) 0) (setI m.own a (i - a) false))]) (a) ?_ (S5 rfl (by show lk _ _ = some (.int .i64 (unN v m.fr a (a - a).toNat).1); rw [show (a - a).toNat = 0 from by omega]; rfl) rfl rfl rfl) (fun _ hw => by show XM _ _ [.cells rk 0 577 (encRK rp (unN v m.fr a (a - a).toNat).2.by_ (unN v m.fr a (a - a).toNat).2.rf), .cells rp 0 128 (encM (unN v m.fr a (a - a).toNat).2.bb), .cells rm 0 49 (encRN rk (setI m.is_ a (a - a) 0) (setI m.fr a (a - a) 0) (setI m.own a (a - a) false))] _; rw [setI_none, setI_none, setI_none, show (a - a).toNat = 0 from by omega]; exact XM.pick .h3 hw) ?_
    · skip
      omega
    intro i hi
    refine gC ?_
    refine sd (by omega) ?_
    refine cd rfl ?_ ?_ <;> intro h2
    · skip
      have hlo := hm.lo i
      have hu := unN_ok hv hm hin a (i - a).toNat
      have e0 := setI_at m.fr a i 0
      have e1 := setI_at m.own a i false
      refine sd (by omega) ?_
      refine st (.t2 .here) (encRN.st_Is_I _ _ _ _ _ (by omega) _) rfl ?_
      refine sd (by omega) ?_
      refine ld (.t2 .here) (encRN.ld_Frame_I _ _ _ _ _ (by omega)) ?_
      refine cd rfl ?_ ?_ <;> intro h3
      · skip
        have hpos : 0 < m.fr i := by omega
        have hrf : 1 ≤ (unN v m.fr a (i - a).toNat).2.rf (m.fr i - 1) := by
          rw [hu.2.2 (m.fr i - 1) (fun j h1 h2 q => by have := hm.inj i j hpos (by omega); omega)]; exact hin i hpos
        refine rq [0, 1, 2, 3, 4, 5, 6, 7, 8, 9, 10, 11] mixed (by kernel_rfl) ?_
        refine ld (.t2 .here) (encRN.ld_B _ _ _ _) ?_
        refine sd (by omega) ?_
        refine ld (.t2 .here) (encRN.ld_Frame_I _ _ _ _ _ (by omega)) ?_
        refine sd (by omega) ?_
        refine ca (r_drop _ _ _ hu.1 (setI m.fr a (i - a) 0 i - 1) (by omega) (by rw [e0]; exact hrf)) .h2 ?_
        rintro _ _ ⟨rfl, rfl⟩
        refine gO ?_
        refine sd (by omega) ?_
        refine st (.t2 .here) (encRN.st_Frame_I _ _ _ _ _ (by omega) _) rfl ?_
        refine sd (by omega) ?_
        refine sd (by omega) ?_
        refine st (.t2 .here) (encRN.st_Own_I _ _ _ _ _ (by omega) _) rfl ?_
        refine sd (by omega) ?_
        have hS : (unN v m.fr a (i + 1 - a).toNat) = ((unN v m.fr a (i - a).toNat).1 + 1, (unN v m.fr a (i - a).toNat).2.drop (setI m.fr a (i - a) 0 i - 1)) := by rw [unN_next hi.1]; unfold unS; rw [if_pos hpos, e0]
        have hC : setI m.fr a (i + 1 - a) 0 = fset (setI m.fr a (i - a) 0) i 0 := (setI_grow hi.1 rfl).symm
        refine ag (i + 1) ?_ ?_ (S5 rfl (by show lk _ _ = some (.int .i64 (unN v m.fr a (i + 1 - a).toNat).1); rw [hS]; rfl) rfl rfl rfl) (fun _ hw => by show XM _ _ [.cells rk 0 577 (encRK rp (unN v m.fr a (i + 1 - a).toNat).2.by_ (unN v m.fr a (i + 1 - a).toNat).2.rf), .cells rp 0 128 (encM (unN v m.fr a (i + 1 - a).toNat).2.bb), .cells rm 0 49 (encRN rk (setI m.is_ a (i + 1 - a) 0) (setI m.fr a (i + 1 - a) 0) (setI m.own a (i + 1 - a) false))] _; rw [hS, hC, ← setI_grow (f := m.is_) hi.1 rfl, ← setI_grow (f := m.own) hi.1 rfl]; exact XM.pick .h3 hw)
        · skip
          (first | omega | (simp; done) | (simp; omega))
        · skip
          (first | omega | (simp; done) | (simp; omega))
      · skip
        refine sd (by omega) ?_
        refine st (.t2 .here) (encRN.st_Own_I _ _ _ _ _ (by omega) _) rfl ?_
        refine sd (by omega) ?_
        have hS : (unN v m.fr a (i + 1 - a).toNat) = (unN v m.fr a (i - a).toNat) := by rw [unN_next hi.1]; unfold unS; rw [if_neg (by omega)]
        have hC : setI m.fr a (i + 1 - a) 0 = setI m.fr a (i - a) 0 := setI_skip hi.1 (by omega)
        refine ag (i + 1) ?_ ?_ (S5 rfl (by show lk _ _ = some (.int .i64 (unN v m.fr a (i + 1 - a).toNat).1); rw [hS]; rfl) rfl rfl rfl) (fun _ hw => by show XM _ _ [.cells rk 0 577 (encRK rp (unN v m.fr a (i + 1 - a).toNat).2.by_ (unN v m.fr a (i + 1 - a).toNat).2.rf), .cells rp 0 128 (encM (unN v m.fr a (i + 1 - a).toNat).2.bb), .cells rm 0 49 (encRN rk (setI m.is_ a (i + 1 - a) 0) (setI m.fr a (i + 1 - a) 0) (setI m.own a (i + 1 - a) false))] _; rw [hS, hC, ← setI_grow (f := m.is_) hi.1 rfl, ← setI_grow (f := m.own) hi.1 rfl]; exact XM.pick .h3 hw)
        · skip
          (first | omega | (simp; done) | (simp; omega))
        · skip
          (first | omega | (simp; done) | (simp; omega))
    · skip
      refine XE.ret2 rfl rfl rfl (post_of .h3 rfl ?_)
      have e : i = a + n := by omega
      subst e
      unfold MS.unmap
      rw [if_neg hb]
      rw [show a + n - a = n from by omega]
      exact ⟨rfl, rfl⟩
theorem r_May (rk rm : Nat) (m : MS) (a : Int) (w : Bool) : Spec Tryd.prog 40 [ptr rm 0 0, .int .i64 a, .bool w]
 [.cells rm 0 49 (encRN rk m.is_ m.fr m.own)]
 (fun x H1 => x = .bool (m.may a w) ∧ H1 = [.cells rm 0 49 (encRN rk m.is_ m.fr m.own)]) := by
  refine Spec.go 35 [0, 1, 2, 6, 12] [] Tryd.func40 rfl rfl rfl ?_
  intro W
  refine sp 9 rfl ?_ ?_ <;> intro h1
  · skip
    refine XE.ret1 rfl rfl (post_of .h1 rfl ?_)
    first | exact ⟨by rw [MS.may_out (by omega)]; rfl, rfl⟩ | (refine ⟨?_, rfl⟩; rw [MS.may_in ⟨by omega, by omega⟩]; first | (rw [decide_eq_true (p := m.is_ (a / 8) = 2) (by assumption)]; rfl) | (rw [decide_eq_false (p := m.is_ (a / 8) = 2) (by assumption), decide_eq_true (p := m.is_ (a / 8) = 1) (by assumption)]; rfl) | (rw [decide_eq_false (p := m.is_ (a / 8) = 2) (by assumption), decide_eq_false (p := m.is_ (a / 8) = 1) (by assumption)]; rfl))
  · skip
    refine cd rfl ?_ ?_ <;> intro h2
    · skip
      refine XE.ret1 rfl rfl (post_of .h1 rfl ?_)
      first | exact ⟨by rw [MS.may_out (by omega)]; rfl, rfl⟩ | (refine ⟨?_, rfl⟩; rw [MS.may_in ⟨by omega, by omega⟩]; first | (rw [decide_eq_true (p := m.is_ (a / 8) = 2) (by assumption)]; rfl) | (rw [decide_eq_false (p := m.is_ (a / 8) = 2) (by assumption), decide_eq_true (p := m.is_ (a / 8) = 1) (by assumption)]; rfl) | (rw [decide_eq_false (p := m.is_ (a / 8) = 2) (by assumption), decide_eq_false (p := m.is_ (a / 8) = 1) (by assumption)]; rfl))
    · skip
      refine XO.v (V.quo rfl rfl (by first | decide | omega) _ (quo_nn (by omega) (by omega) (by omega))) rfl (gO ?_)
      refine sd (by omega) ?_
      refine ld .here (encRN.ld_Is_I _ _ _ _ _ (by omega)) ?_
      refine sp 21 rfl ?_ ?_ <;> intro h3
      · skip
        refine XE.ret1 rfl rfl (post_of .h1 rfl ?_)
        first | exact ⟨by rw [MS.may_out (by omega)]; rfl, rfl⟩ | (refine ⟨?_, rfl⟩; rw [MS.may_in ⟨by omega, by omega⟩]; first | (rw [decide_eq_true (p := m.is_ (a / 8) = 2) (by assumption)]; rfl) | (rw [decide_eq_false (p := m.is_ (a / 8) = 2) (by assumption), decide_eq_true (p := m.is_ (a / 8) = 1) (by assumption)]; rfl) | (rw [decide_eq_false (p := m.is_ (a / 8) = 2) (by assumption), decide_eq_false (p := m.is_ (a / 8) = 1) (by assumption)]; rfl))
      · skip
        refine XO.v (V.quo rfl rfl (by first | decide | omega) _ (quo_nn (by omega) (by omega) (by omega))) rfl (gO ?_)
        refine sd (by omega) ?_
        refine ld .here (encRN.ld_Is_I _ _ _ _ _ (by omega)) ?_
        refine sp 30 rfl ?_ ?_ <;> intro h4
        · skip
          refine XE.ret1 rfl rfl (post_of .h1 rfl ?_)
          first | exact ⟨by rw [MS.may_out (by omega)]; rfl, rfl⟩ | (refine ⟨?_, rfl⟩; rw [MS.may_in ⟨by omega, by omega⟩]; first | (rw [decide_eq_true (p := m.is_ (a / 8) = 2) (by assumption)]; rfl) | (rw [decide_eq_false (p := m.is_ (a / 8) = 2) (by assumption), decide_eq_true (p := m.is_ (a / 8) = 1) (by assumption)]; rfl) | (rw [decide_eq_false (p := m.is_ (a / 8) = 2) (by assumption), decide_eq_false (p := m.is_ (a / 8) = 1) (by assumption)]; rfl))
        · skip
          refine XE.ret1 rfl rfl (post_of .h1 rfl ?_)
          first | exact ⟨by rw [MS.may_out (by omega)]; rfl, rfl⟩ | (refine ⟨?_, rfl⟩; rw [MS.may_in ⟨by omega, by omega⟩]; first | (rw [decide_eq_true (p := m.is_ (a / 8) = 2) (by assumption)]; rfl) | (rw [decide_eq_false (p := m.is_ (a / 8) = 2) (by assumption), decide_eq_true (p := m.is_ (a / 8) = 1) (by assumption)]; rfl) | (rw [decide_eq_false (p := m.is_ (a / 8) = 2) (by assumption), decide_eq_false (p := m.is_ (a / 8) = 1) (by assumption)]; rfl))
theorem r_Wants (rk rm : Nat) (m : MS) (a : Int) : Spec Tryd.prog 41 [ptr rm 0 0, .int .i64 a]
 [.cells rm 0 49 (encRN rk m.is_ m.fr m.own)]
 (fun x H1 => x = .bool (m.wants a) ∧ H1 = [.cells rm 0 49 (encRN rk m.is_ m.fr m.own)]) := by
  refine Spec.go 20 [0, 1, 4, 5] [] Tryd.func41 rfl rfl rfl ?_
  intro W
  refine ca (r_May _ _ m _ _) .h1 ?_
  rintro _ _ ⟨rfl, rfl⟩
  refine gO ?_
  refine spB 10 rfl ?_ ?_ <;> intro h1
  · try simp only [sb] at h1
    have hmay : m.may a false = true := h1
    have ha := MS.may_rng hmay
    refine XO.v (V.quo rfl rfl (by first | decide | omega) _ (quo_nn (by omega) (by omega) (by omega))) rfl (gO ?_)
    refine sd (by omega) ?_
    refine ld .here (encRN.ld_Frame_I _ _ _ _ _ (by omega)) ?_
    refine XE.ret1 rfl rfl (post_of .h1 rfl ?_)
    exact ⟨by unfold MS.wants; rw [hmay]; rfl, rfl⟩
  · try simp only [sb] at h1
    have hmay : m.may a false = false := by simpa using h1
    refine XE.ret1 rfl rfl (post_of .h1 rfl ?_)
    exact ⟨by unfold MS.wants; rw [hmay]; rfl, rfl⟩
theorem r_Resident (rk rm : Nat) (m : MS) (hm : m.Ok) : Spec Tryd.prog 42 [ptr rm 0 0]
 [.cells rm 0 49 (encRN rk m.is_ m.fr m.own)]
 (fun x H1 => x = .int .i64 m.res ∧ H1 = [.cells rm 0 49 (encRN rk m.is_ m.fr m.own)]) := by
  refine Spec.go 19 [0, 2, 3, 4, 6, 15] [] Tryd.func42 rfl rfl rfl ?_
  intro W
  refine lp (σ := Int) (fun i => (16 - i).toNat) (fun i => 0 ≤ i ∧ i ≤ 16) (fun i => [(4, .int .i64 i), (3, .int .i64 (resN m.fr i.toNat)), (0, ptr rm 0 0)]) (fun i => XM W (foot [.cells rm 0 49 (encRN rk m.is_ m.fr m.own)]) [.cells rm 0 49 (encRN rk m.is_ m.fr m.own)]) (0) ?_ (S3 rfl rfl rfl) (fun _ hw => XM.pick .h1 hw) ?_
  · skip
    omega
  intro i hi
  have hlo := hm.lo i
  have hrs := resN_le m.fr i.toNat
  refine gC ?_
  refine cd rfl ?_ ?_ <;> intro h1
  · skip
    refine sd (by omega) ?_
    refine ld .here (encRN.ld_Frame_I _ _ _ _ _ (by omega)) ?_
    refine cd rfl ?_ ?_ <;> intro h2
    · skip
      refine sd (by omega) ?_
      refine sd (by omega) ?_
      refine ag (i + 1) ?_ ?_ (S3 rfl (eqi (by rw [resN_next _ hi.1, if_pos (by omega)])) rfl) (fun _ hw => XM.pick .h1 hw)
      · skip
        (first | omega | (simp; done) | (simp; omega))
      · skip
        (first | omega | (simp; done) | (simp; omega))
    · skip
      refine sd (by omega) ?_
      refine ag (i + 1) ?_ ?_ (S3 rfl (eqi (by rw [resN_next _ hi.1, if_neg (by omega)]; omega)) rfl) (fun _ hw => XM.pick .h1 hw)
      · skip
        (first | omega | (simp; done) | (simp; omega))
      · skip
        (first | omega | (simp; done) | (simp; omega))
  · skip
    refine XE.ret1 rfl rfl (post_of .h1 rfl ?_)
    have e : i = 16 := by omega
    subst e
    exact ⟨rfl, rfl⟩
set_option maxHeartbeats 8000000 in
theorem r_Touch (rk rp rm : Nat) (v : VB) (hv : v.Ok) (m : MS) (hm : m.Ok) (hin : m.In v) (a : Int) (w : Bool) : Spec Tryd.prog 54 [ptr rm 0 0, .int .i64 a, .bool w]
 [.cells rk 0 577 (encRK rp v.by_ v.rf), .cells rp 0 128 (encM v.bb), .cells rm 0 49 (encRN rk m.is_ m.fr m.own)]
 (fun x H1 => x = .tuple #[.int .i64 (m.touch v a w).1, .int .i64 (m.touch v a w).2.1] ∧ H1 = [.cells rk 0 577 (encRK rp (m.touch v a w).2.2.1.by_ (m.touch v a w).2.2.1.rf), .cells rp 0 128 (encM (m.touch v a w).2.2.1.bb), .cells rm 0 49 (encRN rk (m.touch v a w).2.2.2.is_ (m.touch v a w).2.2.2.fr (m.touch v a w).2.2.2.own)]) := by
  refine Spec.go 112 [0, 1, 2, 6, 7, 8, 9, 10, 11, 12, 18, 41, 56, 72, 75] [] Tryd.func54 rfl rfl rfl ?_
  intro W
  refine ca (r_May _ _ m _ _) (.cons (.t2 .here) .nil) ?_
  rintro _ _ ⟨rfl, rfl⟩
  refine gO ?_
  refine cdB rfl ?_ ?_ <;> intro h1
  · try simp only [sb] at h1
    have hmay : m.may a w = false := by simpa using h1
    refine XE.ret2 rfl rfl rfl (post_of (.cons (.there .here) (.cons (.there .here) .h1)) rfl ?_)
    first
      | (rw [MS.touch_no hmay]; exact ⟨rfl, rfl⟩)
      | (have h0 : m.fr (a / 8) = 0 := by omega
         first
           | (rw [MS.touch_newbad hmay h0 ht]; exact ⟨rfl, by rw [htb.2]⟩)
           | (rw [MS.touch_new hmay h0 ht]; exact ⟨rfl, rfl⟩))
      | (have h0 : ¬ m.fr (a / 8) = 0 := by omega
         have hrf := hrf (by omega)
         first
           | (have q : w = false := by first | assumption | omega | (simp_all; done)
              rw [MS.touch_old hmay h0 (.inl q)]; exact ⟨rfl, rfl⟩)
           | (have q : m.own (a / 8) = true := by first | assumption | omega | (simp_all; done)
              rw [MS.touch_old hmay h0 (.inr q)]; exact ⟨rfl, rfl⟩)
           | (have q : w = true := by first | assumption | omega | (simp_all; done)
              have q2 : m.own (a / 8) = false := by first | assumption | omega | (simp_all; done)
              first
                | (rw [MS.touch_one hmay h0 q q2 (by omega)]; exact ⟨rfl, rfl⟩)
                | (rw [MS.touch_bad hmay h0 q q2 (by omega) ht]; exact ⟨rfl, by rw [htb.2]⟩)
                | (rw [MS.touch_copy hmay h0 q q2 (by omega) ht]; exact ⟨rfl, rfl⟩)))
  · try simp only [sb] at h1
    have hmay : m.may a w = true := by simpa using h1
    have ha := MS.may_rng hmay
    have hlo := hm.lo (a / 8)
    have hrf := hin (a / 8)
    have hnn := v.take_nn
    refine XO.v (V.quo rfl rfl (by first | decide | omega) _ (quo_nn (by omega) (by omega) (by omega))) rfl (gO ?_)
    refine sd (by omega) ?_
    refine ld .here (encRN.ld_Frame_I _ _ _ _ _ (by omega)) ?_
    refine sd (by omega) ?_
    refine sp 30 rfl ?_ ?_ <;> intro h2
    · skip
      refine spB 33 rfl ?_ ?_ <;> intro h3
      · try simp only [sb] at h3
        refine XE.ret2 rfl rfl rfl (post_of (.cons (.there .here) (.cons (.there .here) .h1)) rfl ?_)
        first
          | (rw [MS.touch_no hmay]; exact ⟨rfl, rfl⟩)
          | (have h0 : m.fr (a / 8) = 0 := by omega
             first
               | (rw [MS.touch_newbad hmay h0 ht]; exact ⟨rfl, by rw [htb.2]⟩)
               | (rw [MS.touch_new hmay h0 ht]; exact ⟨rfl, rfl⟩))
          | (have h0 : ¬ m.fr (a / 8) = 0 := by omega
             have hrf := hrf (by omega)
             first
               | (have q : w = false := by first | assumption | omega | (simp_all; done)
                  rw [MS.touch_old hmay h0 (.inl q)]; exact ⟨rfl, rfl⟩)
               | (have q : m.own (a / 8) = true := by first | assumption | omega | (simp_all; done)
                  rw [MS.touch_old hmay h0 (.inr q)]; exact ⟨rfl, rfl⟩)
               | (have q : w = true := by first | assumption | omega | (simp_all; done)
                  have q2 : m.own (a / 8) = false := by first | assumption | omega | (simp_all; done)
                  first
                    | (rw [MS.touch_one hmay h0 q q2 (by omega)]; exact ⟨rfl, rfl⟩)
                    | (rw [MS.touch_bad hmay h0 q q2 (by omega) ht]; exact ⟨rfl, by rw [htb.2]⟩)
                    | (rw [MS.touch_copy hmay h0 q q2 (by omega) ht]; exact ⟨rfl, rfl⟩)))
      · try simp only [sb] at h3
        refine sd (by omega) ?_
        refine ld .here (encRN.ld_Own_I _ _ _ _ _ (by omega)) ?_
        refine cdB rfl ?_ ?_ <;> intro h4
        · try simp only [sb] at h4
          refine XE.ret2 rfl rfl rfl (post_of (.cons (.there .here) (.cons (.there .here) .h1)) rfl ?_)
          first
            | (rw [MS.touch_no hmay]; exact ⟨rfl, rfl⟩)
            | (have h0 : m.fr (a / 8) = 0 := by omega
               first
                 | (rw [MS.touch_newbad hmay h0 ht]; exact ⟨rfl, by rw [htb.2]⟩)
                 | (rw [MS.touch_new hmay h0 ht]; exact ⟨rfl, rfl⟩))
            | (have h0 : ¬ m.fr (a / 8) = 0 := by omega
               have hrf := hrf (by omega)
               first
                 | (have q : w = false := by first | assumption | omega | (simp_all; done)
                    rw [MS.touch_old hmay h0 (.inl q)]; exact ⟨rfl, rfl⟩)
                 | (have q : m.own (a / 8) = true := by first | assumption | omega | (simp_all; done)
                    rw [MS.touch_old hmay h0 (.inr q)]; exact ⟨rfl, rfl⟩)
                 | (have q : w = true := by first | assumption | omega | (simp_all; done)
                    have q2 : m.own (a / 8) = false := by first | assumption | omega | (simp_all; done)
                    first
                      | (rw [MS.touch_one hmay h0 q q2 (by omega)]; exact ⟨rfl, rfl⟩)
                      | (rw [MS.touch_bad hmay h0 q q2 (by omega) ht]; exact ⟨rfl, by rw [htb.2]⟩)
                      | (rw [MS.touch_copy hmay h0 q q2 (by omega) ht]; exact ⟨rfl, rfl⟩)))
        · try simp only [sb] at h4
          refine sp 45 rfl ?_ ?_ <;> intro h5
          · skip
            refine ld .here (encRN.ld_B _ _ _ _) ?_
            refine sd (by omega) ?_
            refine ld (.there .here) (encRK.ld_Refs_I _ _ _ _ (by omega)) ?_
            refine cd rfl ?_ ?_ <;> intro h6
            · skip
              refine sd (by omega) ?_
              refine st .here (encRN.st_Own_I _ _ _ _ _ (by omega) _) rfl ?_
              refine XE.ret2 rfl rfl rfl (post_of (.cons (.there .here) (.cons (.there .here) .h1)) rfl ?_)
              first
                | (rw [MS.touch_no hmay]; exact ⟨rfl, rfl⟩)
                | (have h0 : m.fr (a / 8) = 0 := by omega
                   first
                     | (rw [MS.touch_newbad hmay h0 ht]; exact ⟨rfl, by rw [htb.2]⟩)
                     | (rw [MS.touch_new hmay h0 ht]; exact ⟨rfl, rfl⟩))
                | (have h0 : ¬ m.fr (a / 8) = 0 := by omega
                   have hrf := hrf (by omega)
                   first
                     | (have q : w = false := by first | assumption | omega | (simp_all; done)
                        rw [MS.touch_old hmay h0 (.inl q)]; exact ⟨rfl, rfl⟩)
                     | (have q : m.own (a / 8) = true := by first | assumption | omega | (simp_all; done)
                        rw [MS.touch_old hmay h0 (.inr q)]; exact ⟨rfl, rfl⟩)
                     | (have q : w = true := by first | assumption | omega | (simp_all; done)
                        have q2 : m.own (a / 8) = false := by first | assumption | omega | (simp_all; done)
                        first
                          | (rw [MS.touch_one hmay h0 q q2 (by omega)]; exact ⟨rfl, rfl⟩)
                          | (rw [MS.touch_bad hmay h0 q q2 (by omega) ht]; exact ⟨rfl, by rw [htb.2]⟩)
                          | (rw [MS.touch_copy hmay h0 q q2 (by omega) ht]; exact ⟨rfl, rfl⟩)))
            · skip
              refine ld .here (encRN.ld_B _ _ _ _) ?_
              refine ca (r_take _ _ _ hv) (.cons (.there .here) (.cons (.there .here) .nil)) ?_
              rintro _ _ ⟨rfl, rfl⟩
              refine gO ?_
              refine cd rfl ?_ ?_ <;> intro h7
              · skip
                have ht : ¬ v.take.2.1 = 0 := by omega
                have htb := VB.take_bad ht
                refine XE.ret2 rfl rfl rfl (post_of .h3 rfl ?_)
                first
                  | (rw [MS.touch_no hmay]; exact ⟨rfl, rfl⟩)
                  | (have h0 : m.fr (a / 8) = 0 := by omega
                     first
                       | (rw [MS.touch_newbad hmay h0 ht]; exact ⟨rfl, by rw [htb.2]⟩)
                       | (rw [MS.touch_new hmay h0 ht]; exact ⟨rfl, rfl⟩))
                  | (have h0 : ¬ m.fr (a / 8) = 0 := by omega
                     have hrf := hrf (by omega)
                     first
                       | (have q : w = false := by first | assumption | omega | (simp_all; done)
                          rw [MS.touch_old hmay h0 (.inl q)]; exact ⟨rfl, rfl⟩)
                       | (have q : m.own (a / 8) = true := by first | assumption | omega | (simp_all; done)
                          rw [MS.touch_old hmay h0 (.inr q)]; exact ⟨rfl, rfl⟩)
                       | (have q : w = true := by first | assumption | omega | (simp_all; done)
                          have q2 : m.own (a / 8) = false := by first | assumption | omega | (simp_all; done)
                          first
                            | (rw [MS.touch_one hmay h0 q q2 (by omega)]; exact ⟨rfl, rfl⟩)
                            | (rw [MS.touch_bad hmay h0 q q2 (by omega) ht]; exact ⟨rfl, by rw [htb.2]⟩)
                            | (rw [MS.touch_copy hmay h0 q q2 (by omega) ht]; exact ⟨rfl, rfl⟩)))
              · skip
                have ht : v.take.2.1 = 0 := by omega
                have htr := VB.take_rng hv ht
                refine cd rfl ?_ ?_ <;> intro h8
                · skip
                  refine rq [0, 1, 2, 3, 4, 5, 6, 7, 8, 9, 10, 11, 12, 13, 14, 15, 16, 17] mixed (by kernel_rfl) ?_
                  refine ld (.t2 .here) (encRN.ld_B _ _ _ _) ?_
                  refine ld (.t2 .here) (encRN.ld_B _ _ _ _) ?_
                  refine sd (by omega) ?_
                  refine ldA .here (encRK_row _ _ _ _ (by omega)) ?_
                  refine sd (by omega) ?_
                  refine stA .here (encRK_srow _ _ _ _ _ (by omega)) rfl ⟨rfl, rfl⟩ ?_
                  refine ld (.t2 .here) (encRN.ld_B _ _ _ _) ?_
                  refine ca (r_drop _ _ (v.take.2.2.copy v.take.1 (m.fr (a / 8) - 1)) (hv.take.copy _ _) (m.fr (a / 8) - 1) (by omega) (VB.take_rf1 ht (by have := hrf (by omega); omega))) .h2 ?_
                  rintro _ _ ⟨rfl, rfl⟩
                  refine gO ?_
                  refine sd (by omega) ?_
                  refine sd (by omega) ?_
                  refine st (.t2 .here) (encRN.st_Frame_I _ _ _ _ _ (by omega) _) rfl ?_
                  refine sd (by omega) ?_
                  refine st (.t2 .here) (encRN.st_Own_I _ _ _ _ _ (by omega) _) rfl ?_
                  refine XE.ret2 rfl rfl rfl (post_of .h3 rfl ?_)
                  first
                    | (rw [MS.touch_no hmay]; exact ⟨rfl, rfl⟩)
                    | (have h0 : m.fr (a / 8) = 0 := by omega
                       first
                         | (rw [MS.touch_newbad hmay h0 ht]; exact ⟨rfl, by rw [htb.2]⟩)
                         | (rw [MS.touch_new hmay h0 ht]; exact ⟨rfl, rfl⟩))
                    | (have h0 : ¬ m.fr (a / 8) = 0 := by omega
                       have hrf := hrf (by omega)
                       first
                         | (have q : w = false := by first | assumption | omega | (simp_all; done)
                            rw [MS.touch_old hmay h0 (.inl q)]; exact ⟨rfl, rfl⟩)
                         | (have q : m.own (a / 8) = true := by first | assumption | omega | (simp_all; done)
                            rw [MS.touch_old hmay h0 (.inr q)]; exact ⟨rfl, rfl⟩)
                         | (have q : w = true := by first | assumption | omega | (simp_all; done)
                            have q2 : m.own (a / 8) = false := by first | assumption | omega | (simp_all; done)
                            first
                              | (rw [MS.touch_one hmay h0 q q2 (by omega)]; exact ⟨rfl, rfl⟩)
                              | (rw [MS.touch_bad hmay h0 q q2 (by omega) ht]; exact ⟨rfl, by rw [htb.2]⟩)
                              | (rw [MS.touch_copy hmay h0 q q2 (by omega) ht]; exact ⟨rfl, rfl⟩)))
                · skip
                  refine sd (by omega) ?_
                  refine sd (by omega) ?_
                  refine st (.t2 .here) (encRN.st_Frame_I _ _ _ _ _ (by omega) _) rfl ?_
                  refine sd (by omega) ?_
                  refine st (.t2 .here) (encRN.st_Own_I _ _ _ _ _ (by omega) _) rfl ?_
                  refine XE.ret2 rfl rfl rfl (post_of .h3 rfl ?_)
                  first
                    | (rw [MS.touch_no hmay]; exact ⟨rfl, rfl⟩)
                    | (have h0 : m.fr (a / 8) = 0 := by omega
                       first
                         | (rw [MS.touch_newbad hmay h0 ht]; exact ⟨rfl, by rw [htb.2]⟩)
                         | (rw [MS.touch_new hmay h0 ht]; exact ⟨rfl, rfl⟩))
                    | (have h0 : ¬ m.fr (a / 8) = 0 := by omega
                       have hrf := hrf (by omega)
                       first
                         | (have q : w = false := by first | assumption | omega | (simp_all; done)
                            rw [MS.touch_old hmay h0 (.inl q)]; exact ⟨rfl, rfl⟩)
                         | (have q : m.own (a / 8) = true := by first | assumption | omega | (simp_all; done)
                            rw [MS.touch_old hmay h0 (.inr q)]; exact ⟨rfl, rfl⟩)
                         | (have q : w = true := by first | assumption | omega | (simp_all; done)
                            have q2 : m.own (a / 8) = false := by first | assumption | omega | (simp_all; done)
                            first
                              | (rw [MS.touch_one hmay h0 q q2 (by omega)]; exact ⟨rfl, rfl⟩)
                              | (rw [MS.touch_bad hmay h0 q q2 (by omega) ht]; exact ⟨rfl, by rw [htb.2]⟩)
                              | (rw [MS.touch_copy hmay h0 q q2 (by omega) ht]; exact ⟨rfl, rfl⟩)))
          · skip
            refine ld .here (encRN.ld_B _ _ _ _) ?_
            refine ca (r_take _ _ _ hv) (.cons (.there .here) (.cons (.there .here) .nil)) ?_
            rintro _ _ ⟨rfl, rfl⟩
            refine gO ?_
            refine cd rfl ?_ ?_ <;> intro h9
            · skip
              have ht : ¬ v.take.2.1 = 0 := by omega
              have htb := VB.take_bad ht
              refine XE.ret2 rfl rfl rfl (post_of .h3 rfl ?_)
              first
                | (rw [MS.touch_no hmay]; exact ⟨rfl, rfl⟩)
                | (have h0 : m.fr (a / 8) = 0 := by omega
                   first
                     | (rw [MS.touch_newbad hmay h0 ht]; exact ⟨rfl, by rw [htb.2]⟩)
                     | (rw [MS.touch_new hmay h0 ht]; exact ⟨rfl, rfl⟩))
                | (have h0 : ¬ m.fr (a / 8) = 0 := by omega
                   have hrf := hrf (by omega)
                   first
                     | (have q : w = false := by first | assumption | omega | (simp_all; done)
                        rw [MS.touch_old hmay h0 (.inl q)]; exact ⟨rfl, rfl⟩)
                     | (have q : m.own (a / 8) = true := by first | assumption | omega | (simp_all; done)
                        rw [MS.touch_old hmay h0 (.inr q)]; exact ⟨rfl, rfl⟩)
                     | (have q : w = true := by first | assumption | omega | (simp_all; done)
                        have q2 : m.own (a / 8) = false := by first | assumption | omega | (simp_all; done)
                        first
                          | (rw [MS.touch_one hmay h0 q q2 (by omega)]; exact ⟨rfl, rfl⟩)
                          | (rw [MS.touch_bad hmay h0 q q2 (by omega) ht]; exact ⟨rfl, by rw [htb.2]⟩)
                          | (rw [MS.touch_copy hmay h0 q q2 (by omega) ht]; exact ⟨rfl, rfl⟩)))
            · skip
              have ht : v.take.2.1 = 0 := by omega
              have htr := VB.take_rng hv ht
              refine cd rfl ?_ ?_ <;> intro h10
              · skip
                refine rq [0, 1, 2, 3, 4, 5, 6, 7, 8, 9, 10, 11, 12, 13, 14, 15, 16, 17] mixed (by kernel_rfl) ?_
                refine ld (.t2 .here) (encRN.ld_B _ _ _ _) ?_
                refine ld (.t2 .here) (encRN.ld_B _ _ _ _) ?_
                refine sd (by omega) ?_
                refine ldA .here (encRK_row _ _ _ _ (by omega)) ?_
                refine sd (by omega) ?_
                refine stA .here (encRK_srow _ _ _ _ _ (by omega)) rfl ⟨rfl, rfl⟩ ?_
                refine ld (.t2 .here) (encRN.ld_B _ _ _ _) ?_
                refine ca (r_drop _ _ (v.take.2.2.copy v.take.1 (m.fr (a / 8) - 1)) (hv.take.copy _ _) (m.fr (a / 8) - 1) (by omega) (VB.take_rf1 ht (by have := hrf (by omega); omega))) .h2 ?_
                rintro _ _ ⟨rfl, rfl⟩
                refine gO ?_
                refine sd (by omega) ?_
                refine sd (by omega) ?_
                refine st (.t2 .here) (encRN.st_Frame_I _ _ _ _ _ (by omega) _) rfl ?_
                refine sd (by omega) ?_
                refine st (.t2 .here) (encRN.st_Own_I _ _ _ _ _ (by omega) _) rfl ?_
                refine XE.ret2 rfl rfl rfl (post_of .h3 rfl ?_)
                first
                  | (rw [MS.touch_no hmay]; exact ⟨rfl, rfl⟩)
                  | (have h0 : m.fr (a / 8) = 0 := by omega
                     first
                       | (rw [MS.touch_newbad hmay h0 ht]; exact ⟨rfl, by rw [htb.2]⟩)
                       | (rw [MS.touch_new hmay h0 ht]; exact ⟨rfl, rfl⟩))
                  | (have h0 : ¬ m.fr (a / 8) = 0 := by omega
                     have hrf := hrf (by omega)
                     first
                       | (have q : w = false := by first | assumption | omega | (simp_all; done)
                          rw [MS.touch_old hmay h0 (.inl q)]; exact ⟨rfl, rfl⟩)
                       | (have q : m.own (a / 8) = true := by first | assumption | omega | (simp_all; done)
                          rw [MS.touch_old hmay h0 (.inr q)]; exact ⟨rfl, rfl⟩)
                       | (have q : w = true := by first | assumption | omega | (simp_all; done)
                          have q2 : m.own (a / 8) = false := by first | assumption | omega | (simp_all; done)
                          first
                            | (rw [MS.touch_one hmay h0 q q2 (by omega)]; exact ⟨rfl, rfl⟩)
                            | (rw [MS.touch_bad hmay h0 q q2 (by omega) ht]; exact ⟨rfl, by rw [htb.2]⟩)
                            | (rw [MS.touch_copy hmay h0 q q2 (by omega) ht]; exact ⟨rfl, rfl⟩)))
              · skip
                refine sd (by omega) ?_
                refine sd (by omega) ?_
                refine st (.t2 .here) (encRN.st_Frame_I _ _ _ _ _ (by omega) _) rfl ?_
                refine sd (by omega) ?_
                refine st (.t2 .here) (encRN.st_Own_I _ _ _ _ _ (by omega) _) rfl ?_
                refine XE.ret2 rfl rfl rfl (post_of .h3 rfl ?_)
                first
                  | (rw [MS.touch_no hmay]; exact ⟨rfl, rfl⟩)
                  | (have h0 : m.fr (a / 8) = 0 := by omega
                     first
                       | (rw [MS.touch_newbad hmay h0 ht]; exact ⟨rfl, by rw [htb.2]⟩)
                       | (rw [MS.touch_new hmay h0 ht]; exact ⟨rfl, rfl⟩))
                  | (have h0 : ¬ m.fr (a / 8) = 0 := by omega
                     have hrf := hrf (by omega)
                     first
                       | (have q : w = false := by first | assumption | omega | (simp_all; done)
                          rw [MS.touch_old hmay h0 (.inl q)]; exact ⟨rfl, rfl⟩)
                       | (have q : m.own (a / 8) = true := by first | assumption | omega | (simp_all; done)
                          rw [MS.touch_old hmay h0 (.inr q)]; exact ⟨rfl, rfl⟩)
                       | (have q : w = true := by first | assumption | omega | (simp_all; done)
                          have q2 : m.own (a / 8) = false := by first | assumption | omega | (simp_all; done)
                          first
                            | (rw [MS.touch_one hmay h0 q q2 (by omega)]; exact ⟨rfl, rfl⟩)
                            | (rw [MS.touch_bad hmay h0 q q2 (by omega) ht]; exact ⟨rfl, by rw [htb.2]⟩)
                            | (rw [MS.touch_copy hmay h0 q q2 (by omega) ht]; exact ⟨rfl, rfl⟩)))
    · skip
      refine sp 45 rfl ?_ ?_ <;> intro h11
      · skip
        refine ld .here (encRN.ld_B _ _ _ _) ?_
        refine sd (by omega) ?_
        refine ld (.there .here) (encRK.ld_Refs_I _ _ _ _ (by omega)) ?_
        refine cd rfl ?_ ?_ <;> intro h12
        · skip
          refine sd (by omega) ?_
          refine st .here (encRN.st_Own_I _ _ _ _ _ (by omega) _) rfl ?_
          refine XE.ret2 rfl rfl rfl (post_of (.cons (.there .here) (.cons (.there .here) .h1)) rfl ?_)
          first
            | (rw [MS.touch_no hmay]; exact ⟨rfl, rfl⟩)
            | (have h0 : m.fr (a / 8) = 0 := by omega
               first
                 | (rw [MS.touch_newbad hmay h0 ht]; exact ⟨rfl, by rw [htb.2]⟩)
                 | (rw [MS.touch_new hmay h0 ht]; exact ⟨rfl, rfl⟩))
            | (have h0 : ¬ m.fr (a / 8) = 0 := by omega
               have hrf := hrf (by omega)
               first
                 | (have q : w = false := by first | assumption | omega | (simp_all; done)
                    rw [MS.touch_old hmay h0 (.inl q)]; exact ⟨rfl, rfl⟩)
                 | (have q : m.own (a / 8) = true := by first | assumption | omega | (simp_all; done)
                    rw [MS.touch_old hmay h0 (.inr q)]; exact ⟨rfl, rfl⟩)
                 | (have q : w = true := by first | assumption | omega | (simp_all; done)
                    have q2 : m.own (a / 8) = false := by first | assumption | omega | (simp_all; done)
                    first
                      | (rw [MS.touch_one hmay h0 q q2 (by omega)]; exact ⟨rfl, rfl⟩)
                      | (rw [MS.touch_bad hmay h0 q q2 (by omega) ht]; exact ⟨rfl, by rw [htb.2]⟩)
                      | (rw [MS.touch_copy hmay h0 q q2 (by omega) ht]; exact ⟨rfl, rfl⟩)))
        · skip
          refine ld .here (encRN.ld_B _ _ _ _) ?_
          refine ca (r_take _ _ _ hv) (.cons (.there .here) (.cons (.there .here) .nil)) ?_
          rintro _ _ ⟨rfl, rfl⟩
          refine gO ?_
          refine cd rfl ?_ ?_ <;> intro h13
          · skip
            have ht : ¬ v.take.2.1 = 0 := by omega
            have htb := VB.take_bad ht
            refine XE.ret2 rfl rfl rfl (post_of .h3 rfl ?_)
            first
              | (rw [MS.touch_no hmay]; exact ⟨rfl, rfl⟩)
              | (have h0 : m.fr (a / 8) = 0 := by omega
                 first
                   | (rw [MS.touch_newbad hmay h0 ht]; exact ⟨rfl, by rw [htb.2]⟩)
                   | (rw [MS.touch_new hmay h0 ht]; exact ⟨rfl, rfl⟩))
              | (have h0 : ¬ m.fr (a / 8) = 0 := by omega
                 have hrf := hrf (by omega)
                 first
                   | (have q : w = false := by first | assumption | omega | (simp_all; done)
                      rw [MS.touch_old hmay h0 (.inl q)]; exact ⟨rfl, rfl⟩)
                   | (have q : m.own (a / 8) = true := by first | assumption | omega | (simp_all; done)
                      rw [MS.touch_old hmay h0 (.inr q)]; exact ⟨rfl, rfl⟩)
                   | (have q : w = true := by first | assumption | omega | (simp_all; done)
                      have q2 : m.own (a / 8) = false := by first | assumption | omega | (simp_all; done)
                      first
                        | (rw [MS.touch_one hmay h0 q q2 (by omega)]; exact ⟨rfl, rfl⟩)
                        | (rw [MS.touch_bad hmay h0 q q2 (by omega) ht]; exact ⟨rfl, by rw [htb.2]⟩)
                        | (rw [MS.touch_copy hmay h0 q q2 (by omega) ht]; exact ⟨rfl, rfl⟩)))
          · skip
            have ht : v.take.2.1 = 0 := by omega
            have htr := VB.take_rng hv ht
            refine cd rfl ?_ ?_ <;> intro h14
            · skip
              refine rq [0, 1, 2, 3, 4, 5, 6, 7, 8, 9, 10, 11, 12, 13, 14, 15, 16, 17] mixed (by kernel_rfl) ?_
              refine ld (.t2 .here) (encRN.ld_B _ _ _ _) ?_
              refine ld (.t2 .here) (encRN.ld_B _ _ _ _) ?_
              refine sd (by omega) ?_
              refine ldA .here (encRK_row _ _ _ _ (by omega)) ?_
              refine sd (by omega) ?_
              refine stA .here (encRK_srow _ _ _ _ _ (by omega)) rfl ⟨rfl, rfl⟩ ?_
              refine ld (.t2 .here) (encRN.ld_B _ _ _ _) ?_
              refine ca (r_drop _ _ (v.take.2.2.copy v.take.1 (m.fr (a / 8) - 1)) (hv.take.copy _ _) (m.fr (a / 8) - 1) (by omega) (VB.take_rf1 ht (by have := hrf (by omega); omega))) .h2 ?_
              rintro _ _ ⟨rfl, rfl⟩
              refine gO ?_
              refine sd (by omega) ?_
              refine sd (by omega) ?_
              refine st (.t2 .here) (encRN.st_Frame_I _ _ _ _ _ (by omega) _) rfl ?_
              refine sd (by omega) ?_
              refine st (.t2 .here) (encRN.st_Own_I _ _ _ _ _ (by omega) _) rfl ?_
              refine XE.ret2 rfl rfl rfl (post_of .h3 rfl ?_)
              first
                | (rw [MS.touch_no hmay]; exact ⟨rfl, rfl⟩)
                | (have h0 : m.fr (a / 8) = 0 := by omega
                   first
                     | (rw [MS.touch_newbad hmay h0 ht]; exact ⟨rfl, by rw [htb.2]⟩)
                     | (rw [MS.touch_new hmay h0 ht]; exact ⟨rfl, rfl⟩))
                | (have h0 : ¬ m.fr (a / 8) = 0 := by omega
                   have hrf := hrf (by omega)
                   first
                     | (have q : w = false := by first | assumption | omega | (simp_all; done)
                        rw [MS.touch_old hmay h0 (.inl q)]; exact ⟨rfl, rfl⟩)
                     | (have q : m.own (a / 8) = true := by first | assumption | omega | (simp_all; done)
                        rw [MS.touch_old hmay h0 (.inr q)]; exact ⟨rfl, rfl⟩)
                     | (have q : w = true := by first | assumption | omega | (simp_all; done)
                        have q2 : m.own (a / 8) = false := by first | assumption | omega | (simp_all; done)
                        first
                          | (rw [MS.touch_one hmay h0 q q2 (by omega)]; exact ⟨rfl, rfl⟩)
                          | (rw [MS.touch_bad hmay h0 q q2 (by omega) ht]; exact ⟨rfl, by rw [htb.2]⟩)
                          | (rw [MS.touch_copy hmay h0 q q2 (by omega) ht]; exact ⟨rfl, rfl⟩)))
            · skip
              refine sd (by omega) ?_
              refine sd (by omega) ?_
              refine st (.t2 .here) (encRN.st_Frame_I _ _ _ _ _ (by omega) _) rfl ?_
              refine sd (by omega) ?_
              refine st (.t2 .here) (encRN.st_Own_I _ _ _ _ _ (by omega) _) rfl ?_
              refine XE.ret2 rfl rfl rfl (post_of .h3 rfl ?_)
              first
                | (rw [MS.touch_no hmay]; exact ⟨rfl, rfl⟩)
                | (have h0 : m.fr (a / 8) = 0 := by omega
                   first
                     | (rw [MS.touch_newbad hmay h0 ht]; exact ⟨rfl, by rw [htb.2]⟩)
                     | (rw [MS.touch_new hmay h0 ht]; exact ⟨rfl, rfl⟩))
                | (have h0 : ¬ m.fr (a / 8) = 0 := by omega
                   have hrf := hrf (by omega)
                   first
                     | (have q : w = false := by first | assumption | omega | (simp_all; done)
                        rw [MS.touch_old hmay h0 (.inl q)]; exact ⟨rfl, rfl⟩)
                     | (have q : m.own (a / 8) = true := by first | assumption | omega | (simp_all; done)
                        rw [MS.touch_old hmay h0 (.inr q)]; exact ⟨rfl, rfl⟩)
                     | (have q : w = true := by first | assumption | omega | (simp_all; done)
                        have q2 : m.own (a / 8) = false := by first | assumption | omega | (simp_all; done)
                        first
                          | (rw [MS.touch_one hmay h0 q q2 (by omega)]; exact ⟨rfl, rfl⟩)
                          | (rw [MS.touch_bad hmay h0 q q2 (by omega) ht]; exact ⟨rfl, by rw [htb.2]⟩)
                          | (rw [MS.touch_copy hmay h0 q q2 (by omega) ht]; exact ⟨rfl, rfl⟩)))
      · skip
        refine ld .here (encRN.ld_B _ _ _ _) ?_
        refine ca (r_take _ _ _ hv) (.cons (.there .here) (.cons (.there .here) .nil)) ?_
        rintro _ _ ⟨rfl, rfl⟩
        refine gO ?_
        refine cd rfl ?_ ?_ <;> intro h15
        · skip
          have ht : ¬ v.take.2.1 = 0 := by omega
          have htb := VB.take_bad ht
          refine XE.ret2 rfl rfl rfl (post_of .h3 rfl ?_)
          first
            | (rw [MS.touch_no hmay]; exact ⟨rfl, rfl⟩)
            | (have h0 : m.fr (a / 8) = 0 := by omega
               first
                 | (rw [MS.touch_newbad hmay h0 ht]; exact ⟨rfl, by rw [htb.2]⟩)
                 | (rw [MS.touch_new hmay h0 ht]; exact ⟨rfl, rfl⟩))
            | (have h0 : ¬ m.fr (a / 8) = 0 := by omega
               have hrf := hrf (by omega)
               first
                 | (have q : w = false := by first | assumption | omega | (simp_all; done)
                    rw [MS.touch_old hmay h0 (.inl q)]; exact ⟨rfl, rfl⟩)
                 | (have q : m.own (a / 8) = true := by first | assumption | omega | (simp_all; done)
                    rw [MS.touch_old hmay h0 (.inr q)]; exact ⟨rfl, rfl⟩)
                 | (have q : w = true := by first | assumption | omega | (simp_all; done)
                    have q2 : m.own (a / 8) = false := by first | assumption | omega | (simp_all; done)
                    first
                      | (rw [MS.touch_one hmay h0 q q2 (by omega)]; exact ⟨rfl, rfl⟩)
                      | (rw [MS.touch_bad hmay h0 q q2 (by omega) ht]; exact ⟨rfl, by rw [htb.2]⟩)
                      | (rw [MS.touch_copy hmay h0 q q2 (by omega) ht]; exact ⟨rfl, rfl⟩)))
        · skip
          have ht : v.take.2.1 = 0 := by omega
          have htr := VB.take_rng hv ht
          refine cd rfl ?_ ?_ <;> intro h16
          · skip
            refine rq [0, 1, 2, 3, 4, 5, 6, 7, 8, 9, 10, 11, 12, 13, 14, 15, 16, 17] mixed (by kernel_rfl) ?_
            refine ld (.t2 .here) (encRN.ld_B _ _ _ _) ?_
            refine ld (.t2 .here) (encRN.ld_B _ _ _ _) ?_
            refine sd (by omega) ?_
            refine ldA .here (encRK_row _ _ _ _ (by omega)) ?_
            refine sd (by omega) ?_
            refine stA .here (encRK_srow _ _ _ _ _ (by omega)) rfl ⟨rfl, rfl⟩ ?_
            refine ld (.t2 .here) (encRN.ld_B _ _ _ _) ?_
            refine ca (r_drop _ _ (v.take.2.2.copy v.take.1 (m.fr (a / 8) - 1)) (hv.take.copy _ _) (m.fr (a / 8) - 1) (by omega) (VB.take_rf1 ht (by have := hrf (by omega); omega))) .h2 ?_
            rintro _ _ ⟨rfl, rfl⟩
            refine gO ?_
            refine sd (by omega) ?_
            refine sd (by omega) ?_
            refine st (.t2 .here) (encRN.st_Frame_I _ _ _ _ _ (by omega) _) rfl ?_
            refine sd (by omega) ?_
            refine st (.t2 .here) (encRN.st_Own_I _ _ _ _ _ (by omega) _) rfl ?_
            refine XE.ret2 rfl rfl rfl (post_of .h3 rfl ?_)
            first
              | (rw [MS.touch_no hmay]; exact ⟨rfl, rfl⟩)
              | (have h0 : m.fr (a / 8) = 0 := by omega
                 first
                   | (rw [MS.touch_newbad hmay h0 ht]; exact ⟨rfl, by rw [htb.2]⟩)
                   | (rw [MS.touch_new hmay h0 ht]; exact ⟨rfl, rfl⟩))
              | (have h0 : ¬ m.fr (a / 8) = 0 := by omega
                 have hrf := hrf (by omega)
                 first
                   | (have q : w = false := by first | assumption | omega | (simp_all; done)
                      rw [MS.touch_old hmay h0 (.inl q)]; exact ⟨rfl, rfl⟩)
                   | (have q : m.own (a / 8) = true := by first | assumption | omega | (simp_all; done)
                      rw [MS.touch_old hmay h0 (.inr q)]; exact ⟨rfl, rfl⟩)
                   | (have q : w = true := by first | assumption | omega | (simp_all; done)
                      have q2 : m.own (a / 8) = false := by first | assumption | omega | (simp_all; done)
                      first
                        | (rw [MS.touch_one hmay h0 q q2 (by omega)]; exact ⟨rfl, rfl⟩)
                        | (rw [MS.touch_bad hmay h0 q q2 (by omega) ht]; exact ⟨rfl, by rw [htb.2]⟩)
                        | (rw [MS.touch_copy hmay h0 q q2 (by omega) ht]; exact ⟨rfl, rfl⟩)))
          · skip
            refine sd (by omega) ?_
            refine sd (by omega) ?_
            refine st (.t2 .here) (encRN.st_Frame_I _ _ _ _ _ (by omega) _) rfl ?_
            refine sd (by omega) ?_
            refine st (.t2 .here) (encRN.st_Own_I _ _ _ _ _ (by omega) _) rfl ?_
            refine XE.ret2 rfl rfl rfl (post_of .h3 rfl ?_)
            first
              | (rw [MS.touch_no hmay]; exact ⟨rfl, rfl⟩)
              | (have h0 : m.fr (a / 8) = 0 := by omega
                 first
                   | (rw [MS.touch_newbad hmay h0 ht]; exact ⟨rfl, by rw [htb.2]⟩)
                   | (rw [MS.touch_new hmay h0 ht]; exact ⟨rfl, rfl⟩))
              | (have h0 : ¬ m.fr (a / 8) = 0 := by omega
                 have hrf := hrf (by omega)
                 first
                   | (have q : w = false := by first | assumption | omega | (simp_all; done)
                      rw [MS.touch_old hmay h0 (.inl q)]; exact ⟨rfl, rfl⟩)
                   | (have q : m.own (a / 8) = true := by first | assumption | omega | (simp_all; done)
                      rw [MS.touch_old hmay h0 (.inr q)]; exact ⟨rfl, rfl⟩)
                   | (have q : w = true := by first | assumption | omega | (simp_all; done)
                      have q2 : m.own (a / 8) = false := by first | assumption | omega | (simp_all; done)
                      first
                        | (rw [MS.touch_one hmay h0 q q2 (by omega)]; exact ⟨rfl, rfl⟩)
                        | (rw [MS.touch_bad hmay h0 q q2 (by omega) ht]; exact ⟨rfl, by rw [htb.2]⟩)
                        | (rw [MS.touch_copy hmay h0 q q2 (by omega) ht]; exact ⟨rfl, rfl⟩)))
theorem r_Load (rk rp rm : Nat) (v : VB) (hv : v.Ok) (m : MS) (hm : m.Ok) (hin : m.In v) (a : Int) : Spec Tryd.prog 35 [ptr rm 0 0, .int .i64 a]
 [.cells rk 0 577 (encRK rp v.by_ v.rf), .cells rp 0 128 (encM v.bb), .cells rm 0 49 (encRN rk m.is_ m.fr m.own)]
 (fun x H1 => x = .tuple #[.int .u8 (m.load v a).1, .int .i64 (m.load v a).2.1] ∧ H1 = [.cells rk 0 577 (encRK rp (m.load v a).2.2.1.by_ (m.load v a).2.2.1.rf), .cells rp 0 128 (encM (m.load v a).2.2.1.bb), .cells rm 0 49 (encRN rk (m.load v a).2.2.2.is_ (m.load v a).2.2.2.fr (m.load v a).2.2.2.own)]) := by
  have hnn : 0 ≤ (m.touch v a false).2.1 := MS.touch_nn
  refine Spec.go 29 [0, 1, 4, 5, 6, 7, 15] [] Tryd.func35 rfl rfl rfl ?_
  intro W
  refine ca (r_Touch _ _ _ _ hv _ hm hin a false) .h3 ?_
  rintro _ _ ⟨rfl, rfl⟩
  refine gO ?_
  refine cd rfl ?_ ?_ <;> intro h1
  · skip
    have ht : ¬ (m.touch v a false).2.1 = 0 := by omega
    refine XE.ret2 rfl rfl rfl (post_of .h3 rfl ?_)
    rw [MS.load_bad ht]; exact ⟨rfl, rfl⟩
  · skip
    have ht : (m.touch v a false).2.1 = 0 := by omega
    have hr := MS.touch_rng hv hm ht
    refine ld (.t2 .here) (encRN.ld_B _ _ _ _) ?_
    refine XO.v (V.rem rfl rfl (by first | decide | omega) _ (Int.tmod_eq_emod_of_nonneg (by omega))) rfl (gO ?_)
    refine sd (by omega) ?_
    refine sd (by omega) ?_
    refine ld .here (encRK.ld_B_I_I _ _ _ _ _ (by omega) (by omega)) ?_
    refine XE.ret2 rfl rfl rfl (post_of .h3 rfl ?_)
    rw [MS.load_ok ht]; exact ⟨rfl, rfl⟩
theorem r_Store (rk rp rm : Nat) (v : VB) (hv : v.Ok) (m : MS) (hm : m.Ok) (hin : m.In v) (a b : Int) : Spec Tryd.prog 36 [ptr rm 0 0, .int .i64 a, .int .u8 b]
 [.cells rk 0 577 (encRK rp v.by_ v.rf), .cells rp 0 128 (encM v.bb), .cells rm 0 49 (encRN rk m.is_ m.fr m.own)]
 (fun x H1 => x = .int .i64 (m.store v a b).1 ∧ H1 = [.cells rk 0 577 (encRK rp (m.store v a b).2.1.by_ (m.store v a b).2.1.rf), .cells rp 0 128 (encM (m.store v a b).2.1.bb), .cells rm 0 49 (encRN rk (m.store v a b).2.2.is_ (m.store v a b).2.2.fr (m.store v a b).2.2.own)]) := by
  refine Spec.go 30 [0, 1, 2, 6, 7, 8, 16] [] Tryd.func36 rfl rfl rfl ?_
  intro W
  refine ca (r_Touch _ _ _ _ hv _ hm hin a true) .h3 ?_
  rintro _ _ ⟨rfl, rfl⟩
  refine gO ?_
  refine cd rfl ?_ ?_ <;> intro h1
  · skip
    have ht : (m.touch v a true).2.1 = 0 := h1
    have hr := MS.touch_rng hv hm ht
    refine ld (.t2 .here) (encRN.ld_B _ _ _ _) ?_
    refine XO.v (V.rem rfl rfl (by first | decide | omega) _ (Int.tmod_eq_emod_of_nonneg (by omega))) rfl (gO ?_)
    refine sd (by omega) ?_
    refine sd (by omega) ?_
    refine st .here (encRK.st_B_I_I _ _ _ _ _ (by omega) (by omega) _) rfl ?_
    refine XE.ret1 rfl rfl (post_of .h3 rfl ?_)
    rw [MS.store_ok ht]; exact ⟨by rw [ht]; rfl, rfl⟩
  · skip
    have ht : ¬ (m.touch v a true).2.1 = 0 := h1
    refine XE.ret1 rfl rfl (post_of .h3 rfl ?_)
    rw [MS.store_bad ht]; exact ⟨rfl, rfl⟩
set_option maxHeartbeats 8000000 in
theorem r_Fork (rk rp rm : Nat) (v : VB) (hv : v.Ok) (m : MS) (hm : m.Ok) : Spec Tryd.prog 11 [ptr rm 0 0]
 [.cells rk 0 577 (encRK rp v.by_ v.rf), .cells rm 0 49 (encRN rk m.is_ m.fr m.own)]
 (fun x H1 => ∃ rn, x = ptr rn 0 0 ∧ H1 = [.cells rk 0 577 (encRK rp (v.fork m).by_ (v.fork m).rf), .cells rm 0 49 (encRN rk m.is_ m.fr (fun _ => false)), .cells rn 0 49 (encRN rk m.is_ m.fr (fun _ => false))]) := by
  refine Spec.go 42 [0, 2, 3, 4, 13, 22] [] Tryd.func11 rfl rfl rfl ?_
  intro W
  refine XO.v (V.build (vs := #[]) rfl (v := .agg (arrB (fun _ => false) 16)) (fun _ => by kernel_rfl)) rfl (gO ?_)
  refine stA (.there .here) (encRN_bare _ _ _ _) rfl ⟨rfl, rfl⟩ ?_
  refine ldA (.there .here) (encRN_all _ _ _ _) ?_
  refine XO.allocZ (z := .agg zRl.toArray) (m := 49) (C := zRN) (by kernel_rfl) rfl zRN_box rfl ?_
  intro rn
  refine gO ?_
  refine oS ?_
  refine XO.storeAgg (cs := allRN rk m.is_ m.fr (fun _ => false)) rfl rfl .here (zRN_st _ _ _ _) ⟨rfl, rfl⟩ sz_36_49 ?_
  refine gO ?_
  refine lp (σ := Int) (fun i => (16 - i).toNat) (fun i => 0 ≤ i ∧ i ≤ 16) (fun i => [(4, .int .i64 i), (0, ptr rm 0 0), (3, ptr rn 0 0)]) (fun i => XM W (foot [.cells rk 0 577 (encRK rp v.by_ v.rf), .cells rm 0 49 (encRN rk m.is_ m.fr m.own)]) [.cells rk 0 577 (encRK rp v.by_ (upN v.rf m.fr i.toNat)), .cells rm 0 49 (encRN rk m.is_ m.fr (fun _ => false)), .cells rn 0 49 (encRN rk m.is_ m.fr (fun _ => false))]) (0) ?_ (S3 rfl rfl rfl) (fun _ hw => XM.pick (.cons (.there .here) (.cons (.there .here) .h1)) hw) ?_
  · skip
    omega
  intro i hi
  have hlo := hm.lo i
  have hup := upN_le v.rf m.fr i.toNat (m.fr i - 1)
  have hrf := hv.rf (m.fr i - 1)
  refine gC ?_
  refine cd rfl ?_ ?_ <;> intro h1
  · skip
    refine sd (by omega) ?_
    refine ld (.there .here) (encRN.ld_Frame_I _ _ _ _ _ (by omega)) ?_
    refine cd rfl ?_ ?_ <;> intro h2
    · skip
      refine rq [0, 1, 2, 3, 4, 5, 6, 7, 8, 9, 10, 11, 12, 13, 14, 15, 16, 17, 18, 19] mixed (by kernel_rfl) ?_
      refine ld (.there .here) (encRN.ld_B _ _ _ _) ?_
      refine sd (by omega) ?_
      refine ld (.there .here) (encRN.ld_Frame_I _ _ _ _ _ (by omega)) ?_
      refine sd (by omega) ?_
      refine sd (by omega) ?_
      refine ld .here (encRK.ld_Refs_I _ _ _ _ (by omega)) ?_
      refine sd (by omega) ?_
      refine sd (by omega) ?_
      refine st .here (encRK.st_Refs_I _ _ _ _ (by omega) _) rfl ?_
      refine sd (by omega) ?_
      have hU : upN v.rf m.fr (i + 1).toNat = fset (upN v.rf m.fr i.toNat) (m.fr i - 1) (upN v.rf m.fr i.toNat (m.fr i - 1) + 1) := by rw [upN_next hi.1, if_pos (by omega)]
      refine ag (i + 1) ?_ ?_ (S3 rfl rfl rfl) (fun _ hw => by show XM _ _ [.cells rk 0 577 (encRK rp v.by_ (upN v.rf m.fr (i + 1).toNat)), _, _] _; rw [hU]; exact XM.pick .h3 hw)
      · skip
        (first | omega | (simp; done) | (simp; omega))
      · skip
        (first | omega | (simp; done) | (simp; omega))
    · skip
      refine sd (by omega) ?_
      have hU : upN v.rf m.fr (i + 1).toNat = upN v.rf m.fr i.toNat := by rw [upN_next hi.1, if_neg (by omega)]
      refine ag (i + 1) ?_ ?_ (S3 rfl rfl rfl) (fun _ hw => by show XM _ _ [.cells rk 0 577 (encRK rp v.by_ (upN v.rf m.fr (i + 1).toNat)), _, _] _; rw [hU]; exact XM.pick .h3 hw)
      · skip
        (first | omega | (simp; done) | (simp; omega))
      · skip
        (first | omega | (simp; done) | (simp; omega))
  · skip
    refine XE.ret1 rfl rfl (post_of .h3 rfl ?_)
    have e : i = 16 := by omega
    subst e
    exact ⟨rn, rfl, rfl⟩
end Go.X
