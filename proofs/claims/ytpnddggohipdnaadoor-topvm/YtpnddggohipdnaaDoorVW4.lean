import Derived.Test.YtpnddggohipdnaaDoorVW3
import Derived.Test.YtpnddggohipdnaaDoorVA
namespace Go.X
open Go Go.Proofs
set_option maxRecDepth 20000
set_option maxHeartbeats 4000000

theorem v_Map (kb mb : Nat) (p : Option Addr) (c : Nat) (m : MS) (hm : m.Ok) (a n : Int) (w : Bool) : Spec Tryd.prog 18 [ptr mb 0 0, .int .i64 a, .int .i64 n, .bool w]
 [.cells mb 0 34 (encN kb p (runs m.is_).length c m.fr m.own), frow p c 83 3 (runs m.is_).length (rgC (runs m.is_))]
 (fun x H1 => x = errv 95 (m.mapE a n) ∧ ∃ p2 c2, H1 = [.cells mb 0 34 (encN kb p2 (runs (m.map a n w).is_).length c2 (m.map a n w).fr (m.map a n w).own), frow p2 c2 83 3 (runs (m.map a n w).is_).length (rgC (runs (m.map a n w).is_))]) := by
  refine Spec.go 45 [0, 1, 2, 3, 8, 9, 10, 15, 22, 28] [] Tryd.func18 rfl rfl rfl ?_
  intro W
  refine ca (v_span _ _) .nil ?_
  rintro _ _ ⟨rfl, rfl⟩
  refine gO ?_
  refine cd rfl ?_ ?_ <;> intro h1
  · skip
    have hb : badS a n := by
      by_cases q : badS a n
      · exact q
      · exact absurd (if_neg q) h1
    refine XE.ret1 rfl rfl (post_of .h2 rfl ?_)
    exact ⟨by rw [if_pos hb, MS.mapE_1 hb]; rfl, p, c, by rw [MS.map_no (by rw [MS.mapE_1 hb]; decide)]⟩
  · skip
    have hb : ¬ badS a n := fun q => h1 (fun q2 => by rw [if_pos q] at q2; omega)
    have hb2 := hb
    unfold badS at hb2
    have hn : 0 < n := by omega
    have hL := runs_len m.is_
    refine lp (σ := Int) (fun i => (a + n - i).toNat) (fun i => (a ≤ i ∧ i ≤ a + n) ∧ ∀ j, a ≤ j → j < i → m.is_ j = 0) (fun i => [(10, .int .i64 i), (0, ptr mb 0 0), (1, .int .i64 a), (2, .int .i64 n), (3, .bool w)]) (fun i => XM W (foot [.cells mb 0 34 (encN kb p (runs m.is_).length c m.fr m.own), frow p c 83 3 (runs m.is_).length (rgC (runs m.is_))]) [.cells mb 0 34 (encN kb p (runs m.is_).length c m.fr m.own), frow p c 83 3 (runs m.is_).length (rgC (runs m.is_))]) (a) ?_ (S5 rfl rfl rfl rfl rfl) (fun _ hw => XM.pick .h2 hw) ?_
    · skip
      exact ⟨by omega, fun j h1 h2 => by omega⟩
    intro i hi
    obtain ⟨hi, hno⟩ := hi
    refine gC ?_
    refine sd (by omega) ?_
    refine cd rfl ?_ ?_ <;> intro h2
    · skip
      refine ca (v_at _ _ _ _ _ hm _) .h2 ?_
      rintro _ _ ⟨⟨k, rfl, hk⟩, rfl⟩
      refine gO ?_
      refine cd rfl ?_ ?_ <;> intro h3
      · skip
        refine XE.ret1 rfl rfl (post_of .h2 rfl ?_)
        have e : m.mapE a n = 3 := MS.mapE_3 hb (i := i) (by omega) (fun e => by have := (atP_none hm.f hk).1.2 e; omega)
        exact ⟨by rw [e]; rfl, p, c, by rw [MS.map_no (by rw [e]; decide)]⟩
      · skip
        refine sd (by omega) ?_
        refine ag (i + 1) ?_ ?_ (S5 rfl rfl rfl rfl rfl) (fun _ hw => XM.pick .h2 hw)
        · skip
          (first | omega | (simp; done) | (simp; omega))
        · skip
          refine ⟨by omega, fun j h1 h2 => ?_⟩
          by_cases e : j = i
          · subst e; exact ((atP_none hm.f hk).1).1 (by omega)
          · exact hno j h1 (by omega)
    · skip
      have hall : ∀ j, a ≤ j → j < a + n → m.is_ j = 0 := fun j h1 h2 => hno j h1 (by omega)
      have hout := free_out (runs_ok hm.f) hn hall
      have e := MS.mapE_0 (m := m) hb hall
      refine ld .here (encN.ld_r _ _ _ _ _ _) ?_
      refine XO.v (V.build (vs := #[(0, .int .i64 a), (1, .int .i64 n), (2, .bool w)]) rfl (v := .agg (RG.mk a n w).arr) (fun _ => by kernel_rfl)) rfl (gO ?_)
      refine XO.buildSlice (e := 83) (vs := #[(0, .agg (RG.mk a n w).arr)]) (A := (RG.mk a n w).arr) rfl (fun _ => by kernel_rfl) rfl rfl ?_
      intro nb
      refine gO ?_
      refine XO.appendRG (e := 83) (acc := (runs m.is_)) (r := (RG.mk a n w)) rfl rfl Tryd.underlying69 rt_83_3 (.t2 .here) .here (by omega) rfl ?_
      intro p3 c3
      refine gO ?_
      refine st (.t2 .here) (encN_r _ _ _ _ _ _ _ _ _) rfl ?_
      refine ca (v_tidy _ _ _ _ _ _ _ _ (hm.f.setI hb (kd_or w)) (laid_gl (runs_gl hm.f) hb hout) (laid_cov (runs_cov hm.f) hout (fun _ _ => rfl)) (by first | omega | (simp only [List.length_append, List.length_singleton]; omega))) (.cons (.t2 .here) .h1) ?_
      rintro _ _ ⟨rfl, p2, c2, rfl⟩
      refine gO ?_
      refine XE.ret1 rfl rfl (post_of .h2 rfl ?_)
      exact ⟨by rw [e]; rfl, p2, c2, by rw [MS.map_yes e]; rfl⟩
theorem v_Protect (kb mb : Nat) (p : Option Addr) (c : Nat) (m : MS) (hm : m.Ok) (a n : Int) (w : Bool) : Spec Tryd.prog 19 [ptr mb 0 0, .int .i64 a, .int .i64 n, .bool w]
 [.cells mb 0 34 (encN kb p (runs m.is_).length c m.fr m.own), frow p c 83 3 (runs m.is_).length (rgC (runs m.is_))]
 (fun x H1 => x = errv 95 (m.protE a n) ∧ ∃ p2 c2, H1 = [.cells mb 0 34 (encN kb p2 (runs (m.prot a n w).is_).length c2 (m.prot a n w).fr (m.prot a n w).own), frow p2 c2 83 3 (runs (m.prot a n w).is_).length (rgC (runs (m.prot a n w).is_))]) := by
  refine Spec.go 49 [0, 1, 2, 3, 8, 9, 10, 15, 22, 28] [] Tryd.func19 rfl rfl rfl ?_
  intro W
  refine ca (v_span _ _) .nil ?_
  rintro _ _ ⟨rfl, rfl⟩
  refine gO ?_
  refine cd rfl ?_ ?_ <;> intro h1
  · skip
    have hb : badS a n := by
      by_cases q : badS a n
      · exact q
      · exact absurd (if_neg q) h1
    refine XE.ret1 rfl rfl (post_of .h2 rfl ?_)
    exact ⟨by rw [if_pos hb, MS.protE_1 hb]; rfl, p, c, by rw [MS.prot_no (by rw [MS.protE_1 hb]; decide)]⟩
  · skip
    have hb : ¬ badS a n := fun q => h1 (fun q2 => by rw [if_pos q] at q2; omega)
    have hb2 := hb
    unfold badS at hb2
    have hn : 0 < n := by omega
    have hL := runs_len m.is_
    refine lp (σ := Int) (fun i => (a + n - i).toNat) (fun i => (a ≤ i ∧ i ≤ a + n) ∧ ∀ j, a ≤ j → j < i → m.is_ j ≠ 0) (fun i => [(10, .int .i64 i), (0, ptr mb 0 0), (1, .int .i64 a), (2, .int .i64 n), (3, .bool w)]) (fun i => XM W (foot [.cells mb 0 34 (encN kb p (runs m.is_).length c m.fr m.own), frow p c 83 3 (runs m.is_).length (rgC (runs m.is_))]) [.cells mb 0 34 (encN kb p (runs m.is_).length c m.fr m.own), frow p c 83 3 (runs m.is_).length (rgC (runs m.is_))]) (a) ?_ (S5 rfl rfl rfl rfl rfl) (fun _ hw => XM.pick .h2 hw) ?_
    · skip
      exact ⟨by omega, fun j h1 h2 => by omega⟩
    intro i hi
    obtain ⟨hi, hno⟩ := hi
    refine gC ?_
    refine sd (by omega) ?_
    refine cd rfl ?_ ?_ <;> intro h2
    · skip
      refine ca (v_at _ _ _ _ _ hm _) .h2 ?_
      rintro _ _ ⟨⟨k, rfl, hk⟩, rfl⟩
      refine gO ?_
      refine cd rfl ?_ ?_ <;> intro h3
      · skip
        refine XE.ret1 rfl rfl (post_of .h2 rfl ?_)
        have e : m.protE a n = 10 := MS.protE_10 hb (i := i) (by omega) ((atP_none hm.f hk).1.1 (by omega))
        exact ⟨by rw [e]; rfl, p, c, by rw [MS.prot_no (by rw [e]; decide)]⟩
      · skip
        refine sd (by omega) ?_
        refine ag (i + 1) ?_ ?_ (S5 rfl rfl rfl rfl rfl) (fun _ hw => XM.pick .h2 hw)
        · skip
          (first | omega | (simp; done) | (simp; omega))
        · skip
          refine ⟨by omega, fun j h1 h2 => ?_⟩
          by_cases e : j = i
          · subst e; intro e; have := (atP_none hm.f hk).1.2 e; omega
          · exact hno j h1 (by omega)
    · skip
      have e := MS.protE_0 (m := m) hb (fun j h1 h2 => hno j h1 (by omega))
      refine ca (v_carve _ _ _ _ _ hm _ _ hb) .h2 ?_
      rintro _ _ ⟨p4, c4, p5, c5, rfl, rfl⟩
      have hcl := carved_len (runs m.is_) a n
      refine gO ?_
      refine ld .here (encN.ld_r _ _ _ _ _ _) ?_
      refine XO.v (V.build (vs := #[(0, .int .i64 a), (1, .int .i64 n), (2, .bool w)]) rfl (v := .agg (RG.mk a n w).arr) (fun _ => by kernel_rfl)) rfl (gO ?_)
      refine XO.buildSlice (e := 83) (vs := #[(0, .agg (RG.mk a n w).arr)]) (A := (RG.mk a n w).arr) rfl (fun _ => by kernel_rfl) rfl rfl ?_
      intro nb
      refine gO ?_
      refine XO.appendRG (e := 83) (acc := ((runs m.is_).flatMap (cvR a n))) (r := (RG.mk a n w)) rfl rfl Tryd.underlying69 rt_83_3 (.t2 .here) .here (by omega) rfl ?_
      intro p3 c3
      refine gO ?_
      refine st (.t2 .here) (encN_r _ _ _ _ _ _ _ _ _) rfl ?_
      refine ca (v_tidy _ _ _ _ _ _ _ _ (hm.f.setI hb (kd_or w)) (laid_gl (carved_gl (runs_ok hm.f) hn) hb (fun r hr => ((carved (runs_ok hm.f) hn).2 r hr).2)) (laid_cov (carved_cov (runs_ok hm.f) (runs_cov hm.f) hn) (fun r hr => ((carved (runs_ok hm.f) hn).2 r hr).2) (fun i hi => by unfold setI; rw [if_neg hi])) (by first | omega | (simp only [List.length_append, List.length_singleton]; omega))) (.cons (.t2 .here) .h1) ?_
      rintro _ _ ⟨rfl, p2, c2, rfl⟩
      refine gO ?_
      refine XE.ret1 rfl rfl (post_of .h2 rfl ?_)
      exact ⟨by rw [e]; rfl, p2, c2, by rw [MS.prot_yes e]; rfl⟩
set_option maxHeartbeats 8000000 in
theorem v_Unmap (kb pb mb : Nat) (v : VB) (hv : v.Ok) (p : Option Addr) (c : Nat) (m : MS) (hm : m.Ok) (hin : m.In v) (a n : Int) : Spec Tryd.prog 20 [ptr mb 0 0, .int .i64 a, .int .i64 n]
 [.cells kb 0 577 (encK pb v.by_ v.rf), .cells pb 0 71 (encP v.bb.pool), .cells mb 0 34 (encN kb p (runs m.is_).length c m.fr m.own), frow p c 83 3 (runs m.is_).length (rgC (runs m.is_)), .ro 0 0 64 tab64]
 (fun x H1 => x = .tuple #[.int .i64 (m.unmap v a n).1, errv 95 (m.unmap v a n).2.1] ∧ ∃ p2 c2, H1 = [.cells kb 0 577 (encK pb (m.unmap v a n).2.2.1.by_ (m.unmap v a n).2.2.1.rf), .cells pb 0 71 (encP (m.unmap v a n).2.2.1.bb.pool), .cells mb 0 34 (encN kb p2 (runs (m.unmap v a n).2.2.2.is_).length c2 (m.unmap v a n).2.2.2.fr (m.unmap v a n).2.2.2.own), frow p2 c2 83 3 (runs (m.unmap v a n).2.2.2.is_).length (rgC (runs (m.unmap v a n).2.2.2.is_))]) := by
  refine Spec.go 59 [0, 1, 2, 6, 7, 8, 9, 11, 16, 21, 22, 23, 24, 34] [] Tryd.func20 rfl rfl rfl ?_
  intro W
  refine ca (v_span _ _) .nil ?_
  rintro _ _ ⟨rfl, rfl⟩
  refine gO ?_
  refine cd rfl ?_ ?_ <;> intro h1
  · skip
    have hb : badS a n := by
      by_cases q : badS a n
      · exact q
      · exact absurd (if_neg q) h1
    refine XE.ret2 rfl rfl rfl (post_of .h4 rfl ?_)
    exact ⟨by rw [if_pos hb, MS.unmap_bad hb]; rfl, p, c, by rw [MS.unmap_bad hb]⟩
  · skip
    have hb : ¬ badS a n := fun q => h1 (fun q2 => by rw [if_pos q] at q2; omega)
    have hb2 := hb
    unfold badS at hb2
    have hn : 0 < n := by omega
    have hL := runs_len m.is_
    refine ca (v_carve _ _ _ _ _ hm _ _ hb) (.cons (.t2 .here) (.cons (.t2 .here) .nil)) ?_
    rintro _ _ ⟨p4, c4, p5, c5, rfl, rfl⟩
    have hcl := carved_len (runs m.is_) a n
    rw [hits_span hm.f hb]
    generalize hq : spanL (fun i => m.is_ i != 0) a n.toNat = l
    have hls : ∀ i ∈ l, a ≤ i ∧ i < a + n := fun i hi => by rw [← hq, mem_spanL] at hi; omega
    have hst : l.Pairwise (fun x y => x < y) := hq ▸ spanL_sorted _
    have hle : l.length ≤ 16 := by rw [← hq]; have := spanL_len (p := fun i => m.is_ i != 0) (a := a) n.toNat; omega
    refine gO ?_
    refine lp (σ := Int) (fun i => (l.length - i).toNat) (fun i => 0 ≤ i ∧ i ≤ l.length) (fun i => [(23, .int .i64 i), (9, .int .i64 (unL v m.fr (l.take i.toNat)).1), (0, ptr mb 0 0), (21, .slice p5 l.length c5), (22, .int .i64 l.length)]) (fun i => XM W (foot [.cells kb 0 577 (encK pb v.by_ v.rf), .cells pb 0 71 (encP v.bb.pool), .cells mb 0 34 (encN kb p (runs m.is_).length c m.fr m.own), frow p c 83 3 (runs m.is_).length (rgC (runs m.is_)), .ro 0 0 64 tab64]) [.cells kb 0 577 (encK pb (unL v m.fr (l.take i.toNat)).2.by_ (unL v m.fr (l.take i.toNat)).2.rf), .cells pb 0 71 (encP (unL v m.fr (l.take i.toNat)).2.bb.pool), .cells mb 0 34 (encN kb p4 ((runs m.is_).flatMap (cvR a n)).length c4 (cut0 m.fr (l.take i.toNat)) (cutF m.own (l.take i.toNat))), frow p4 c4 83 3 ((runs m.is_).flatMap (cvR a n)).length (rgC ((runs m.is_).flatMap (cvR a n))), irow p5 c5 3 l, .ro 0 0 64 tab64]) (0) ?_ (S5 rfl rfl rfl rfl rfl) (fun _ hw => by show XM _ _ [_, _, .cells mb 0 34 (encN kb p4 _ c4 (cut0 m.fr []) (cutF m.own [])), _, _, _] _; rw [cut0_nil, cutF_nil]; exact XM.pick (.cons (.t3 .here) (.cons (.t3 .here) .h4)) hw) ?_
    · skip
      omega
    intro i hi
    refine gC ?_
    refine cd rfl ?_ ?_ <;> intro h2
    · skip
      refine XR.openRow (.t4 .here) (by omega) ?_
      intro g1 h3
      subst h3
      refine sd (by omega) ?_
      refine ldR (.t4 .here) (ints_at (by omega)) ?_
      have hmm := at0_mem (l := l) (i := i) (by omega)
      have ha := hls _ hmm
      have hnew := at0_new hst (i := i) (by omega)
      have e0 : cut0 m.fr (l.take i.toNat) (at0 l i) = m.fr (at0 l i) := by unfold cut0; rw [if_neg hnew]
      have hit := itake (l := l) (i := i) (by omega)
      have hu := unL_ok hv hm hin _ (l.take i.toNat) rfl (nodup_take hst _)
      have hTl : (l.take i.toNat).length ≤ 16 := by rw [List.length_take]; omega
      have hlo := hm.lo (at0 l i)
      refine sd (by omega) ?_
      refine ld (.t2 .here) (encN.ld_p_I_frame _ _ _ _ _ _ _ (by omega)) ?_
      refine cd rfl ?_ ?_ <;> intro h4
      · skip
        have hpos : 0 < m.fr (at0 l i) := by omega
        have hrf : 1 ≤ (unL v m.fr (l.take i.toNat)).2.rf (cut0 m.fr (l.take i.toNat) (at0 l i) - 1) := by
          rw [e0, hu.2.2 (m.fr (at0 l i) - 1) (fun j hj q => hnew ((hm.inj _ j hpos (by omega)) ▸ hj))]; exact hin _ hpos
        refine rq [0, 1, 2, 3, 4, 5, 6, 7, 8, 9, 10, 11] mixed (by kernel_rfl) ?_
        refine ld (.t2 .here) (encN.ld_b _ _ _ _ _ _) ?_
        refine sd (by omega) ?_
        refine ld (.t2 .here) (encN.ld_p_I_frame _ _ _ _ _ _ _ (by omega)) ?_
        refine caR 2 (v_drop _ _ _ hu.1 (cut0 m.fr (l.take i.toNat) (at0 l i) - 1) (by omega) hrf) (.cons .here (.cons .here (.cons (.t3 .here) .nil))) rfl ?_
        rintro _ _ ⟨rfl, rfl⟩
        refine gO ?_
        refine XO.v (V.build (vs := #[(0, .int .i64 (-1))]) rfl (v := .agg #[.int .i64 (-1), .bool false]) (fun _ => by kernel_rfl)) rfl (gO ?_)
        refine sd (by omega) ?_
        refine stA (.t3 .here) (encN_spage _ _ _ _ _ _ _ _ _ (by omega)) rfl ⟨rfl, rfl⟩ ?_
        refine sd (by omega) ?_
        refine sd (by omega) ?_
        have hS : (unL v m.fr (l.take (i + 1).toNat)) = ((unL v m.fr (l.take i.toNat)).1 + 1, (unL v m.fr (l.take i.toNat)).2.drop (cut0 m.fr (l.take i.toNat) (at0 l i) - 1)) := by rw [hit, unL_snoc]; unfold unS; rw [if_pos hpos, e0]
        have hC : cut0 m.fr (l.take (i + 1).toNat) = fset (cut0 m.fr (l.take i.toNat)) (at0 l i) (-1 + 1) := by rw [hit, cut0_snoc]
        have hF : cutF m.own (l.take (i + 1).toNat) = fset (cutF m.own (l.take i.toNat)) (at0 l i) false := by rw [hit, cutF_snoc]
        refine ag (i + 1) ?_ ?_ (S5 rfl (by show lk _ _ = some (.int .i64 (unL v m.fr (l.take (i + 1).toNat)).1); rw [hS]; rfl) rfl rfl rfl) (fun _ hw => by show XM _ _ [.cells kb 0 577 (encK pb (unL v m.fr (l.take (i + 1).toNat)).2.by_ (unL v m.fr (l.take (i + 1).toNat)).2.rf), .cells pb 0 71 (encP (unL v m.fr (l.take (i + 1).toNat)).2.bb.pool), .cells mb 0 34 (encN kb p4 ((runs m.is_).flatMap (cvR a n)).length c4 (cut0 m.fr (l.take (i + 1).toNat)) (cutF m.own (l.take (i + 1).toNat))), frow p4 c4 83 3 ((runs m.is_).flatMap (cvR a n)).length (rgC ((runs m.is_).flatMap (cvR a n))), _, .ro 0 0 64 tab64] _; rw [hS, hC, hF]; exact XM.pick (.cons .here (.cons .here (.cons (.there .here) (.cons (.there .here) (.cons (.there .here) .h1))))) hw)
        · skip
          (first | omega | (simp; done) | (simp; omega))
        · skip
          (first | omega | (simp; done) | (simp; omega))
      · skip
        refine sd (by omega) ?_
        have h0 : m.fr (at0 l i) = 0 := by omega
        have hS : (unL v m.fr (l.take (i + 1).toNat)) = (unL v m.fr (l.take i.toNat)) := by rw [hit, unL_snoc]; unfold unS; rw [if_neg (by omega)]
        have hC : cut0 m.fr (l.take (i + 1).toNat) = cut0 m.fr (l.take i.toNat) := by rw [hit, cut0_same h0]
        have hF : cutF m.own (l.take (i + 1).toNat) = cutF m.own (l.take i.toNat) := by rw [hit, cutF_same (hm.ow _ h0)]
        refine ag (i + 1) ?_ ?_ (S5 rfl (by show lk _ _ = some (.int .i64 (unL v m.fr (l.take (i + 1).toNat)).1); rw [hS]; rfl) rfl rfl rfl) (fun _ hw => by show XM _ _ [.cells kb 0 577 (encK pb (unL v m.fr (l.take (i + 1).toNat)).2.by_ (unL v m.fr (l.take (i + 1).toNat)).2.rf), .cells pb 0 71 (encP (unL v m.fr (l.take (i + 1).toNat)).2.bb.pool), .cells mb 0 34 (encN kb p4 ((runs m.is_).flatMap (cvR a n)).length c4 (cut0 m.fr (l.take (i + 1).toNat)) (cutF m.own (l.take (i + 1).toNat))), frow p4 c4 83 3 ((runs m.is_).flatMap (cvR a n)).length (rgC ((runs m.is_).flatMap (cvR a n))), _, .ro 0 0 64 tab64] _; rw [hS, hC, hF]; exact XM.pick .h6 hw)
        · skip
          (first | omega | (simp; done) | (simp; omega))
        · skip
          (first | omega | (simp; done) | (simp; omega))
    · skip
      have e : (l.take i.toNat) = l := List.take_of_length_le (by omega)
      rw [e]
      have eu := MS.unmap_ok v hm hb
      rw [hq] at eu
      refine ca (v_tidy _ _ _ _ _ _ _ _ (hm.f.setI hb (.inl rfl)) (carved_gl (runs_ok hm.f) hn) (carved_cov (runs_ok hm.f) (runs_cov hm.f) hn) (by first | omega | (simp only [List.length_append, List.length_singleton]; omega))) (.cons (.t2 .here) (.cons (.t2 .here) .nil)) ?_
      rintro _ _ ⟨rfl, p2, c2, rfl⟩
      refine gO ?_
      refine XE.ret2 rfl rfl rfl (post_of (.cons (.t2 .here) (.cons (.t2 .here) .h2)) rfl ?_)
      exact ⟨by rw [eu]; rfl, p2, c2, by rw [eu]⟩
end Go.X
