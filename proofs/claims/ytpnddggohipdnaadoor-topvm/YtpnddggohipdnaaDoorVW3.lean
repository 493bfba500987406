import Derived.Test.YtpnddggohipdnaaDoorVW2
namespace Go.X
open Go Go.Proofs
set_option maxRecDepth 20000
set_option maxHeartbeats 4000000
theorem rt_3_1 : rowT Tryd.prog 3 1 = true := by kernel_rfl
theorem v_tidy (kb mb : Nat) (p : Option Addr) (c : Nat) (l : List RG) (fr : Int → Int) (own : Int → Bool) (f : Int → Int) (hf : OkF f) (hg : GL l) (hc : Cov l f) (hl : l.length ≤ 100) : Spec Tryd.prog 47 [ptr mb 0 0]
 [.cells mb 0 34 (encN kb p l.length c fr own), frow p c 83 3 l.length (rgC l)]
 (fun v H1 => v = .tuple #[] ∧ ∃ p2 c2, H1 = [.cells mb 0 34 (encN kb p2 (runs f).length c2 fr own), frow p2 c2 83 3 (runs f).length (rgC (runs f))]) := by
  refine Spec.go 70 [0, 2, 4, 5, 14, 15, 16, 17, 50] [] Tryd.func47 rfl rfl rfl ?_
  intro W
  refine ld .here (encN.ld_r _ _ _ _ _ _) ?_
  refine ca (v_sort _ _ _ (sorted_rb hg) (by omega)) (.cons (.there .here) .nil) ?_
  rintro _ _ ⟨rfl, l2, hp, hs, rfl⟩
  have hn : l.length = l2.length := hp.length_eq
  have hmg := mg_runs (hg.perm hp) (hc.perm hp) hf hs
  refine gO ?_
  refine XR.nilRow 83 3 ?_
  refine ld (.t2 .here) (encN.ld_r _ _ _ _ _ _) ?_
  refine lp (σ := Int × List RG × Option Addr × Nat) (fun x => (l.length - x.1).toNat) (fun x => (0 ≤ x.1 ∧ x.1 ≤ l.length) ∧ x.2.1 = mg (l2.take x.1.toNat)) (fun x => [(16, .int .i64 x.1), (2, .slice x.2.2.1 x.2.1.length x.2.2.2), (0, ptr mb 0 0), (14, .slice p l.length c), (15, .int .i64 l.length)]) (fun x => XM W (foot [.cells mb 0 34 (encN kb p l.length c fr own), frow p c 83 3 l.length (rgC l)]) [.cells mb 0 34 (encN kb p l.length c fr own), frow p c 83 3 l.length (rgC l2), frow x.2.2.1 x.2.2.2 83 3 x.2.1.length (rgC x.2.1)]) ((0, [], none, 0)) ?_ (S5 rfl rfl rfl rfl rfl) (fun _ hw => XM.pick (.cons (.t2 .here) (.cons (.there .here) .h1)) hw) ?_
  · skip
    exact ⟨by simp, rfl⟩
  intro x hx
  obtain ⟨hi, hac⟩ := hx
  have hal : x.2.1.length ≤ x.1 := by
    rw [hac]; exact Int.le_trans (Int.ofNat_le.2 (mg_len _ _ rfl)) (by rw [List.length_take]; omega)
  have hab : ∀ r ∈ x.2.1, 0 ≤ r.fr ∧ 0 < r.n ∧ r.fr + r.n ≤ 16 := by
    rw [hac]; exact mg_b _ _ rfl (fun r hr => (hg.perm hp).b r (List.mem_of_mem_take hr))
  refine gC ?_
  refine cd rfl ?_ ?_ <;> intro h1
  · skip
    refine XR.openRow (.there .here) (by omega) ?_
    intro g1 h2
    subst h2
    refine sd (by omega) ?_
    refine ldAF (.there .here) (rgC.agg2 hn (by omega)) ?_
    refine XO.allocZ (z := .agg RG.nil.arr) (m := 3) (C := rgB RG.nil) (by kernel_rfl) rfl (rgB.box _) rfl ?_
    intro rb
    refine gO ?_
    refine stA .here (rgB.st _ _) rfl ⟨rfl, rfl⟩ ?_
    refine sd (by omega) ?_
    refine rq [0, 1, 2, 3, 4, 5, 6, 7, 8, 9, 10, 11, 12, 13, 14, 15, 16, 17, 18, 19, 20, 21, 22, 23, 24, 25, 26, 27] mixed (by kernel_rfl) ?_
    refine sp 25 rfl ?_ ?_ <;> intro h3
    · skip
      have hpos : 0 < x.2.1.length := by omega
      have hlb := hab _ (rat_mem (z := (x.2.1.length : Int) - 1) (by omega))
      have hrb := (hg.perm hp).b _ (rat_mem (z := x.1) (by omega))
      refine XR.openRow (.t3 .here) (by omega) ?_
      intro ga hga
      rw [hga]
      refine sd (by omega) ?_
      refine ldF (.t3 .here) (rgC.f (by omega)) ?_
      refine sd (by omega) ?_
      refine ldF (.t3 .here) (rgC.n (by omega)) ?_
      refine sd (by omega) ?_
      refine ld .here (rgB.f _) ?_
      refine sp 41 rfl ?_ ?_ <;> intro h4
      · skip
        have h16 := h4
        refine sd (by omega) ?_
        refine ldF (.t3 .here) (rgC.w (by omega)) ?_
        refine ld .here (rgB.w _) ?_
        refine XO.v (V.boolEq rfl rfl Tryd.underlying4 rfl) rfl (gO ?_)
        refine cdB rfl ?_ ?_ <;> intro h5
        · try simp only [sb] at h5
          have h26 := h5
          refine rq [0, 1, 2, 3, 4, 5, 6, 7, 8, 9, 10] mixed (by kernel_rfl) ?_
          refine sd (by omega) ?_
          refine ldF (.t3 .here) (rgC.n (by omega)) ?_
          refine ld .here (rgB.n _) ?_
          refine sd (by omega) ?_
          refine sd (by omega) ?_
          refine stF (.t3 .here) (rgC.grow (by omega) _) rfl ?_
          refine sd (by omega) ?_
          refine ag ((x.1 + 1, lset x.2.1 { (rat x.2.1 ((x.2.1.length : Int) - 1)) with n := (rat x.2.1 ((x.2.1.length : Int) - 1)).n + (rat l2 x.1).n }, some ⟨ga, 0, none⟩, x.2.2.2)) ?_ ?_ (S5 rfl (by show lk _ _ = some (Value.slice _ (lset _ _).length _); rw [lset_length hpos]; rfl) rfl rfl rfl) (fun _ hw => by show XM _ _ [_, _, frow _ _ _ _ (lset _ _).length _] _; rw [lset_length hpos]; exact XM.pick (.cons (.there .here) (.cons (.there .here) (.cons (.there .here) .nil))) hw)
          · skip
            (simp; omega)
          · skip
            refine ⟨by simp; omega, ?_⟩
            show lset _ _ = mg (l2.take (x.1 + 1).toNat)
            rw [take_snoc (by omega), mg_snoc, ← hac, mgS_hit hpos h16 h26]
        · try simp only [sb] at h5
          have h27 := h5
          refine ldA .here (rgB.agg _) ?_
          refine XO.buildSlice (e := 83) (vs := #[(0, .agg (rat l2 x.1).arr)]) (A := (rat l2 x.1).arr) rfl (fun _ => by kernel_rfl) rfl rfl ?_
          intro nb
          refine gO ?_
          refine XO.appendRG (e := 83) (acc := x.2.1) (r := (rat l2 x.1)) rfl rfl Tryd.underlying69 rt_83_3 (.t4 .here) .here (by omega) rfl ?_
          intro p3 c3
          refine gO ?_
          refine sd (by omega) ?_
          refine ag ((x.1 + 1, x.2.1 ++ [(rat l2 x.1)], p3, c3)) ?_ ?_ (S5 rfl rfl rfl rfl rfl) (fun _ hw => XM.pick (.cons (.t3 .here) (.cons (.t3 .here) .h1)) hw)
          · skip
            (simp; omega)
          · skip
            refine ⟨by simp; omega, ?_⟩
            show _ ++ _ = mg (l2.take (x.1 + 1).toNat)
            rw [take_snoc (by omega), mg_snoc, ← hac, mgS_miss (by intro hp2 hh; first | omega | exact absurd hh.1 (by assumption) | exact absurd hh.2 (by assumption))]
      · skip
        refine ldA .here (rgB.agg _) ?_
        refine XO.buildSlice (e := 83) (vs := #[(0, .agg (rat l2 x.1).arr)]) (A := (rat l2 x.1).arr) rfl (fun _ => by kernel_rfl) rfl rfl ?_
        intro nb
        refine gO ?_
        refine XO.appendRG (e := 83) (acc := x.2.1) (r := (rat l2 x.1)) rfl rfl Tryd.underlying69 rt_83_3 (.t4 .here) .here (by omega) rfl ?_
        intro p3 c3
        refine gO ?_
        refine sd (by omega) ?_
        refine ag ((x.1 + 1, x.2.1 ++ [(rat l2 x.1)], p3, c3)) ?_ ?_ (S5 rfl rfl rfl rfl rfl) (fun _ hw => XM.pick (.cons (.t3 .here) (.cons (.t3 .here) .h1)) hw)
        · skip
          (simp; omega)
        · skip
          refine ⟨by simp; omega, ?_⟩
          show _ ++ _ = mg (l2.take (x.1 + 1).toNat)
          rw [take_snoc (by omega), mg_snoc, ← hac, mgS_miss (by intro hp2 hh; first | omega | exact absurd hh.1 (by assumption) | exact absurd hh.2 (by assumption))]
    · skip
      refine ldA .here (rgB.agg _) ?_
      refine XO.buildSlice (e := 83) (vs := #[(0, .agg (rat l2 x.1).arr)]) (A := (rat l2 x.1).arr) rfl (fun _ => by kernel_rfl) rfl rfl ?_
      intro nb
      refine gO ?_
      refine XO.appendRG (e := 83) (acc := x.2.1) (r := (rat l2 x.1)) rfl rfl Tryd.underlying69 rt_83_3 (.t4 .here) .here (by omega) rfl ?_
      intro p3 c3
      refine gO ?_
      refine sd (by omega) ?_
      refine ag ((x.1 + 1, x.2.1 ++ [(rat l2 x.1)], p3, c3)) ?_ ?_ (S5 rfl rfl rfl rfl rfl) (fun _ hw => XM.pick (.cons (.t3 .here) (.cons (.t3 .here) .h1)) hw)
      · skip
        (simp; omega)
      · skip
        refine ⟨by simp; omega, ?_⟩
        show _ ++ _ = mg (l2.take (x.1 + 1).toNat)
        rw [take_snoc (by omega), mg_snoc, ← hac, mgS_miss (by intro hp2 hh; first | omega | exact absurd hh.1 (by assumption) | exact absurd hh.2 (by assumption))]
  · skip
    refine st .here (encN_r _ _ _ _ _ _ _ _ _) rfl ?_
    refine XE.end0 rfl (post_of (.cons .here (.cons (.there .here) .nil)) rfl ?_)
    have e : x.1 = l.length := by omega
    have e2 : x.2.1 = runs f := by rw [hac, e, ← hmg, List.take_of_length_le (by omega)]
    exact ⟨rfl, x.2.2.1, x.2.2.2, by rw [← e2]⟩
set_option maxHeartbeats 8000000 in
theorem v_carve (kb mb : Nat) (p : Option Addr) (c : Nat) (m : MS) (hm : m.Ok) (a n : Int) (hb : ¬ badS a n) : Spec Tryd.prog 48 [ptr mb 0 0, .int .i64 a, .int .i64 n]
 [.cells mb 0 34 (encN kb p (runs m.is_).length c m.fr m.own), frow p c 83 3 (runs m.is_).length (rgC (runs m.is_))]
 (fun v H1 => ∃ p2 c2 p3 c3, v = .slice p3 ((runs m.is_).flatMap (cvH a n)).length c3 ∧ H1 = [.cells mb 0 34 (encN kb p2 ((runs m.is_).flatMap (cvR a n)).length c2 m.fr m.own), frow p2 c2 83 3 ((runs m.is_).flatMap (cvR a n)).length (rgC ((runs m.is_).flatMap (cvR a n))), irow p3 c3 3 ((runs m.is_).flatMap (cvH a n))]) := by
  have hLo := runs_ok hm.f
  have hL := runs_len m.is_
  have hb2 := hb
  unfold badS at hb2
  refine Spec.go 96 [0, 1, 2, 6, 7, 8, 10, 11, 12, 13, 17, 18, 19, 20, 38, 46, 65, 83] [(9, 1), (11, 1)] Tryd.func48 rfl rfl rfl ?_
  intro W
  refine XR.nilRow 83 3 ?_
  refine XR.nilRow 3 1 ?_
  refine ld (.t2 .here) (encN.ld_r _ _ _ _ _ _) ?_
  refine lp (σ := Int × (Option Addr × Nat) × (Option Addr × Nat)) (fun x => ((runs m.is_).length - x.1).toNat) (fun x => (0 ≤ x.1 ∧ x.1 ≤ (runs m.is_).length) ∧ (List.flatMap (cvR a n) (List.take x.1.toNat (runs m.is_))).length ≤ 2 * x.1 ∧ (List.flatMap (cvH a n) (List.take x.1.toNat (runs m.is_))).length ≤ 16 * x.1) (fun x => [(19, .int .i64 x.1), (7, .slice x.2.1.1 (List.flatMap (cvR a n) (List.take x.1.toNat (runs m.is_))).length x.2.1.2), (8, .slice x.2.2.1 (List.flatMap (cvH a n) (List.take x.1.toNat (runs m.is_))).length x.2.2.2), (0, ptr mb 0 0), (1, .int .i64 a), (2, .int .i64 n), (17, .slice p (runs m.is_).length c), (18, .int .i64 (runs m.is_).length)]) (fun x => XM W (foot [.cells mb 0 34 (encN kb p (runs m.is_).length c m.fr m.own), frow p c 83 3 (runs m.is_).length (rgC (runs m.is_))]) [.cells mb 0 34 (encN kb p (runs m.is_).length c m.fr m.own), frow p c 83 3 (runs m.is_).length (rgC (runs m.is_)), frow x.2.1.1 x.2.1.2 83 3 (List.flatMap (cvR a n) (List.take x.1.toNat (runs m.is_))).length (rgC (List.flatMap (cvR a n) (List.take x.1.toNat (runs m.is_)))), irow x.2.2.1 x.2.2.2 3 (List.flatMap (cvH a n) (List.take x.1.toNat (runs m.is_)))]) ((0, (none, 0), (none, 0))) ?_ (.cons rfl (.cons rfl (S6 rfl rfl rfl rfl rfl rfl))) (fun _ hw => XM.pick (.cons (.t2 .here) (.cons (.t2 .here) (.cons (.there .here) .h1))) hw) ?_
  · skip
    exact ⟨by simp, by simp, by simp⟩
  intro x hx
  obtain ⟨hi, hal, hhl⟩ := hx
  refine gC ?_
  refine cd rfl ?_ ?_ <;> intro h1
  · skip
    refine XR.openRow (.there .here) (by omega) ?_
    intro g1 h2
    subst h2
    refine sd (by omega) ?_
    refine ldAF (.there .here) (rgC.agg (by omega)) ?_
    refine XO.allocZ (z := .agg RG.nil.arr) (m := 3) (C := rgB RG.nil) (by kernel_rfl) rfl (rgB.box _) rfl ?_
    intro rb
    refine gO ?_
    refine stA .here (rgB.st _ _) rfl ⟨rfl, rfl⟩ ?_
    refine rq [0, 1, 2, 3, 4, 5, 6, 7, 8, 9, 10, 11, 12, 13, 14] mixed (by kernel_rfl) ?_
    have hrb := hLo.b _ (rat_mem (z := x.1) (by omega))
    refine ld .here (rgB.f _) ?_
    refine ld .here (rgB.f _) ?_
    refine ld .here (rgB.n _) ?_
    refine sd (by omega) ?_
    refine sd (by omega) ?_
    refine cd rfl ?_ ?_ <;> intro h3
    · skip
      have ho := cvR_out (a := a) (n := n) (r := (rat (runs m.is_) x.1)) (by omega)
      refine ldA .here (rgB.agg _) ?_
      refine XO.buildSlice (e := 83) (vs := #[(0, .agg (rat (runs m.is_) x.1).arr)]) (A := (rat (runs m.is_) x.1).arr) rfl (fun _ => by kernel_rfl) rfl rfl ?_
      intro nb
      refine gO ?_
      refine XO.appendRG (e := 83) (acc := (List.flatMap (cvR a n) (List.take x.1.toNat (runs m.is_)))) (r := (rat (runs m.is_) x.1)) rfl rfl Tryd.underlying69 rt_83_3 (.t4 .here) .here (by omega) rfl ?_
      intro p3 c3
      refine gO ?_
      refine sd (by omega) ?_
      have hA : (List.flatMap (cvR a n) (List.take (x.1 + 1).toNat (runs m.is_))) = (List.flatMap (cvR a n) (List.take x.1.toNat (runs m.is_))) ++ [(rat (runs m.is_) x.1)] := by rw [flat_take _ ⟨hi.1, by omega⟩, ho.1]
      have hH : (List.flatMap (cvH a n) (List.take (x.1 + 1).toNat (runs m.is_))) = (List.flatMap (cvH a n) (List.take x.1.toNat (runs m.is_))) := by rw [flat_take _ ⟨hi.1, by omega⟩, ho.2, List.append_nil]
      refine ag ((x.1 + 1, (p3, c3), x.2.2)) ?_ ?_ (.cons rfl (.cons (by show lk _ _ = some (Value.slice _ (List.flatMap (cvR a n) (List.take (x.1 + 1).toNat (runs m.is_))).length _); rw [hA]; rfl) (S6 (by show lk _ _ = some (Value.slice _ (List.flatMap (cvH a n) (List.take (x.1 + 1).toNat (runs m.is_))).length _); rw [hH]; rfl) rfl rfl rfl rfl rfl))) (fun _ hw => by show XM _ _ [_, _, frow _ _ _ _ (List.flatMap (cvR a n) (List.take (x.1 + 1).toNat (runs m.is_))).length (rgC (List.flatMap (cvR a n) (List.take (x.1 + 1).toNat (runs m.is_)))), irow _ _ _ (List.flatMap (cvH a n) (List.take (x.1 + 1).toNat (runs m.is_)))] _; rw [hA, hH]; exact XM.pick (.cons (.t3 .here) (.cons (.t3 .here) (.cons .here (.cons (.t2 .here) .nil)))) hw)
      · skip
        (simp; omega)
      · skip
        refine ⟨by simp; omega, ?_, ?_⟩
        · show ((List.flatMap (cvR a n) (List.take (x.1 + 1).toNat (runs m.is_))).length : Int) ≤ 2 * (x.1 + 1); rw [hA, List.length_append, List.length_singleton]; omega
        · show ((List.flatMap (cvH a n) (List.take (x.1 + 1).toNat (runs m.is_))).length : Int) ≤ 16 * (x.1 + 1); rw [hH]; omega
    · skip
      have hin := cvR_in (a := a) (n := n) (r := (rat (runs m.is_) x.1)) (by omega)
      refine ctG (σ := Option Addr × Nat) (fun _ => True) (fun y => [(0, ptr mb 0 0), (1, .int .i64 a), (2, .int .i64 n), (7, .slice y.1 ((List.flatMap (cvR a n) (List.take x.1.toNat (runs m.is_))) ++ (if (rat (runs m.is_) x.1).fr < (max (rat (runs m.is_) x.1).fr a) then [(⟨(rat (runs m.is_) x.1).fr, (max (rat (runs m.is_) x.1).fr a) - (rat (runs m.is_) x.1).fr, (rat (runs m.is_) x.1).w⟩ : RG)] else [])).length y.2), (8, .slice x.2.2.1 (List.flatMap (cvH a n) (List.take x.1.toNat (runs m.is_))).length x.2.2.2), (10, ptr rb 0 0), (11, .int .i64 (max (rat (runs m.is_) x.1).fr a)), (12, .int .i64 (min ((rat (runs m.is_) x.1).fr + (rat (runs m.is_) x.1).n) (a + n))), (17, .slice (some ⟨g1, 0, none⟩) (runs m.is_).length c), (18, .int .i64 (runs m.is_).length), (19, .int .i64 x.1)]) (fun y => XM W (foot [.cells mb 0 34 (encN kb (some ⟨g1, 0, none⟩) (runs m.is_).length c m.fr m.own), frow (some ⟨g1, 0, none⟩) c 83 3 (runs m.is_).length (rgC (runs m.is_))]) [.cells rb 0 3 (rgB (rat (runs m.is_) x.1)), .cells mb 0 34 (encN kb (some ⟨g1, 0, none⟩) (runs m.is_).length c m.fr m.own), frow (some ⟨g1, 0, none⟩) c 83 3 (runs m.is_).length (rgC (runs m.is_)), frow y.1 y.2 83 3 ((List.flatMap (cvR a n) (List.take x.1.toNat (runs m.is_))) ++ (if (rat (runs m.is_) x.1).fr < (max (rat (runs m.is_) x.1).fr a) then [(⟨(rat (runs m.is_) x.1).fr, (max (rat (runs m.is_) x.1).fr a) - (rat (runs m.is_) x.1).fr, (rat (runs m.is_) x.1).w⟩ : RG)] else [])).length (rgC ((List.flatMap (cvR a n) (List.take x.1.toNat (runs m.is_))) ++ (if (rat (runs m.is_) x.1).fr < (max (rat (runs m.is_) x.1).fr a) then [(⟨(rat (runs m.is_) x.1).fr, (max (rat (runs m.is_) x.1).fr a) - (rat (runs m.is_) x.1).fr, (rat (runs m.is_) x.1).w⟩ : RG)] else []))), irow x.2.2.1 x.2.2.2 3 (List.flatMap (cvH a n) (List.take x.1.toNat (runs m.is_)))]) ?_ ?_
      · skip
        refine ld .here (rgB.f _) ?_
        refine cd rfl ?_ ?_ <;> intro h4
        · skip
          refine ld .here (rgB.f _) ?_
          refine ld .here (rgB.f _) ?_
          refine sd (by omega) ?_
          refine ld .here (rgB.w _) ?_
          refine XO.v (V.build (vs := #[(0, .int .i64 (rat (runs m.is_) x.1).fr), (1, .int .i64 ((max (rat (runs m.is_) x.1).fr a) - (rat (runs m.is_) x.1).fr)), (2, .bool (rat (runs m.is_) x.1).w)]) rfl (v := .agg (RG.mk (rat (runs m.is_) x.1).fr ((max (rat (runs m.is_) x.1).fr a) - (rat (runs m.is_) x.1).fr) (rat (runs m.is_) x.1).w).arr) (fun _ => by kernel_rfl)) rfl (gO ?_)
          refine XO.buildSlice (e := 83) (vs := #[(0, .agg (RG.mk (rat (runs m.is_) x.1).fr ((max (rat (runs m.is_) x.1).fr a) - (rat (runs m.is_) x.1).fr) (rat (runs m.is_) x.1).w).arr)]) (A := (RG.mk (rat (runs m.is_) x.1).fr ((max (rat (runs m.is_) x.1).fr a) - (rat (runs m.is_) x.1).fr) (rat (runs m.is_) x.1).w).arr) rfl (fun _ => by kernel_rfl) rfl rfl ?_
          intro nb
          refine gO ?_
          refine XO.appendRG (e := 83) (acc := (List.flatMap (cvR a n) (List.take x.1.toNat (runs m.is_)))) (r := (RG.mk (rat (runs m.is_) x.1).fr ((max (rat (runs m.is_) x.1).fr a) - (rat (runs m.is_) x.1).fr) (rat (runs m.is_) x.1).w)) rfl rfl Tryd.underlying69 rt_83_3 (.t4 .here) .here (by omega) rfl ?_
          intro p3 c3
          refine gO ?_
          refine mtG ((p3, c3)) ?_ (.cons rfl (.cons rfl (.cons rfl (.cons (by rw [if_pos (by assumption)]; rfl) (.cons rfl (S6 rfl rfl rfl rfl rfl rfl)))))) (fun _ hw => by rw [if_pos (by assumption)]; exact XM.pick (.cons (.t2 .here) (.cons (.t2 .here) (.cons (.t2 .here) (.cons .here (.cons (.there .here) .nil))))) hw)
          exact trivial
        · skip
          refine mtG ((x.2.1.1, x.2.1.2)) ?_ (.cons rfl (.cons rfl (.cons rfl (.cons (by rw [if_neg (by assumption), List.append_nil]; rfl) (.cons rfl (S6 rfl rfl rfl rfl rfl rfl)))))) (fun _ hw => by rw [if_neg (by assumption), List.append_nil]; exact XM.pick .h5 hw)
          exact trivial
      intro y _
      refine gC ?_
      refine ctG (σ := Option Addr × Nat) (fun _ => True) (fun u => [(0, ptr mb 0 0), (1, .int .i64 a), (2, .int .i64 n), (7, .slice u.1 ((List.flatMap (cvR a n) (List.take x.1.toNat (runs m.is_))) ++ (if (rat (runs m.is_) x.1).fr < (max (rat (runs m.is_) x.1).fr a) then [(⟨(rat (runs m.is_) x.1).fr, (max (rat (runs m.is_) x.1).fr a) - (rat (runs m.is_) x.1).fr, (rat (runs m.is_) x.1).w⟩ : RG)] else []) ++ (if (min ((rat (runs m.is_) x.1).fr + (rat (runs m.is_) x.1).n) (a + n)) < (rat (runs m.is_) x.1).fr + (rat (runs m.is_) x.1).n then [(⟨(min ((rat (runs m.is_) x.1).fr + (rat (runs m.is_) x.1).n) (a + n)), (rat (runs m.is_) x.1).fr + (rat (runs m.is_) x.1).n - (min ((rat (runs m.is_) x.1).fr + (rat (runs m.is_) x.1).n) (a + n)), (rat (runs m.is_) x.1).w⟩ : RG)] else [])).length u.2), (8, .slice x.2.2.1 (List.flatMap (cvH a n) (List.take x.1.toNat (runs m.is_))).length x.2.2.2), (10, ptr rb 0 0), (11, .int .i64 (max (rat (runs m.is_) x.1).fr a)), (12, .int .i64 (min ((rat (runs m.is_) x.1).fr + (rat (runs m.is_) x.1).n) (a + n))), (17, .slice (some ⟨g1, 0, none⟩) (runs m.is_).length c), (18, .int .i64 (runs m.is_).length), (19, .int .i64 x.1)]) (fun u => XM W (foot [.cells mb 0 34 (encN kb (some ⟨g1, 0, none⟩) (runs m.is_).length c m.fr m.own), frow (some ⟨g1, 0, none⟩) c 83 3 (runs m.is_).length (rgC (runs m.is_))]) [.cells rb 0 3 (rgB (rat (runs m.is_) x.1)), .cells mb 0 34 (encN kb (some ⟨g1, 0, none⟩) (runs m.is_).length c m.fr m.own), frow (some ⟨g1, 0, none⟩) c 83 3 (runs m.is_).length (rgC (runs m.is_)), frow u.1 u.2 83 3 ((List.flatMap (cvR a n) (List.take x.1.toNat (runs m.is_))) ++ (if (rat (runs m.is_) x.1).fr < (max (rat (runs m.is_) x.1).fr a) then [(⟨(rat (runs m.is_) x.1).fr, (max (rat (runs m.is_) x.1).fr a) - (rat (runs m.is_) x.1).fr, (rat (runs m.is_) x.1).w⟩ : RG)] else []) ++ (if (min ((rat (runs m.is_) x.1).fr + (rat (runs m.is_) x.1).n) (a + n)) < (rat (runs m.is_) x.1).fr + (rat (runs m.is_) x.1).n then [(⟨(min ((rat (runs m.is_) x.1).fr + (rat (runs m.is_) x.1).n) (a + n)), (rat (runs m.is_) x.1).fr + (rat (runs m.is_) x.1).n - (min ((rat (runs m.is_) x.1).fr + (rat (runs m.is_) x.1).n) (a + n)), (rat (runs m.is_) x.1).w⟩ : RG)] else [])).length (rgC ((List.flatMap (cvR a n) (List.take x.1.toNat (runs m.is_))) ++ (if (rat (runs m.is_) x.1).fr < (max (rat (runs m.is_) x.1).fr a) then [(⟨(rat (runs m.is_) x.1).fr, (max (rat (runs m.is_) x.1).fr a) - (rat (runs m.is_) x.1).fr, (rat (runs m.is_) x.1).w⟩ : RG)] else []) ++ (if (min ((rat (runs m.is_) x.1).fr + (rat (runs m.is_) x.1).n) (a + n)) < (rat (runs m.is_) x.1).fr + (rat (runs m.is_) x.1).n then [(⟨(min ((rat (runs m.is_) x.1).fr + (rat (runs m.is_) x.1).n) (a + n)), (rat (runs m.is_) x.1).fr + (rat (runs m.is_) x.1).n - (min ((rat (runs m.is_) x.1).fr + (rat (runs m.is_) x.1).n) (a + n)), (rat (runs m.is_) x.1).w⟩ : RG)] else []))), irow x.2.2.1 x.2.2.2 3 (List.flatMap (cvH a n) (List.take x.1.toNat (runs m.is_)))]) ?_ ?_
      · skip
        refine ld .here (rgB.f _) ?_
        refine ld .here (rgB.n _) ?_
        refine sd (by omega) ?_
        refine cd rfl ?_ ?_ <;> intro h5
        · skip
          refine ld .here (rgB.f _) ?_
          refine ld .here (rgB.n _) ?_
          refine sd (by omega) ?_
          refine sd (by omega) ?_
          refine ld .here (rgB.w _) ?_
          refine XO.v (V.build (vs := #[(0, .int .i64 (min ((rat (runs m.is_) x.1).fr + (rat (runs m.is_) x.1).n) (a + n))), (1, .int .i64 ((rat (runs m.is_) x.1).fr + (rat (runs m.is_) x.1).n - (min ((rat (runs m.is_) x.1).fr + (rat (runs m.is_) x.1).n) (a + n)))), (2, .bool (rat (runs m.is_) x.1).w)]) rfl (v := .agg (RG.mk (min ((rat (runs m.is_) x.1).fr + (rat (runs m.is_) x.1).n) (a + n)) ((rat (runs m.is_) x.1).fr + (rat (runs m.is_) x.1).n - (min ((rat (runs m.is_) x.1).fr + (rat (runs m.is_) x.1).n) (a + n))) (rat (runs m.is_) x.1).w).arr) (fun _ => by kernel_rfl)) rfl (gO ?_)
          refine XO.buildSlice (e := 83) (vs := #[(0, .agg (RG.mk (min ((rat (runs m.is_) x.1).fr + (rat (runs m.is_) x.1).n) (a + n)) ((rat (runs m.is_) x.1).fr + (rat (runs m.is_) x.1).n - (min ((rat (runs m.is_) x.1).fr + (rat (runs m.is_) x.1).n) (a + n))) (rat (runs m.is_) x.1).w).arr)]) (A := (RG.mk (min ((rat (runs m.is_) x.1).fr + (rat (runs m.is_) x.1).n) (a + n)) ((rat (runs m.is_) x.1).fr + (rat (runs m.is_) x.1).n - (min ((rat (runs m.is_) x.1).fr + (rat (runs m.is_) x.1).n) (a + n))) (rat (runs m.is_) x.1).w).arr) rfl (fun _ => by kernel_rfl) rfl rfl ?_
          intro nb
          refine gO ?_
          refine XO.appendRG (e := 83) (acc := ((List.flatMap (cvR a n) (List.take x.1.toNat (runs m.is_))) ++ (if (rat (runs m.is_) x.1).fr < (max (rat (runs m.is_) x.1).fr a) then [(⟨(rat (runs m.is_) x.1).fr, (max (rat (runs m.is_) x.1).fr a) - (rat (runs m.is_) x.1).fr, (rat (runs m.is_) x.1).w⟩ : RG)] else []))) (r := (RG.mk (min ((rat (runs m.is_) x.1).fr + (rat (runs m.is_) x.1).n) (a + n)) ((rat (runs m.is_) x.1).fr + (rat (runs m.is_) x.1).n - (min ((rat (runs m.is_) x.1).fr + (rat (runs m.is_) x.1).n) (a + n))) (rat (runs m.is_) x.1).w)) rfl rfl Tryd.underlying69 rt_83_3 (.t4 .here) .here (by rw [List.length_append]; have hx1 := iteLen ((rat (runs m.is_) x.1).fr < (max (rat (runs m.is_) x.1).fr a)) (⟨(rat (runs m.is_) x.1).fr, (max (rat (runs m.is_) x.1).fr a) - (rat (runs m.is_) x.1).fr, (rat (runs m.is_) x.1).w⟩ : RG); omega) rfl ?_
          intro p3 c3
          refine gO ?_
          refine mtG ((p3, c3)) ?_ (.cons rfl (.cons rfl (.cons rfl (.cons (by rw [if_pos (c := (min ((rat (runs m.is_) x.1).fr + (rat (runs m.is_) x.1).n) (a + n)) < _) (by assumption)]; rfl) (.cons rfl (S6 rfl rfl rfl rfl rfl rfl)))))) (fun _ hw => by rw [if_pos (c := (min ((rat (runs m.is_) x.1).fr + (rat (runs m.is_) x.1).n) (a + n)) < _) (by assumption)]; exact XM.pick (.cons (.t2 .here) (.cons (.t2 .here) (.cons (.t2 .here) (.cons .here (.cons (.there .here) .nil))))) hw)
          exact trivial
        · skip
          refine mtG ((y.1, y.2)) ?_ (.cons rfl (.cons rfl (.cons rfl (.cons (by rw [if_neg (c := (min ((rat (runs m.is_) x.1).fr + (rat (runs m.is_) x.1).n) (a + n)) < _) (by assumption), List.append_nil]; rfl) (.cons rfl (S6 rfl rfl rfl rfl rfl rfl)))))) (fun _ hw => by rw [if_neg (c := (min ((rat (runs m.is_) x.1).fr + (rat (runs m.is_) x.1).n) (a + n)) < _) (by assumption), List.append_nil]; exact XM.pick .h5 hw)
          exact trivial
      intro u _
      refine gC ?_
      refine lp (σ := Int × Option Addr × Nat) (fun z => ((min ((rat (runs m.is_) x.1).fr + (rat (runs m.is_) x.1).n) (a + n)) - z.1).toNat) (fun z => (max (rat (runs m.is_) x.1).fr a) ≤ z.1 ∧ z.1 ≤ (min ((rat (runs m.is_) x.1).fr + (rat (runs m.is_) x.1).n) (a + n))) (fun z => [(13, .int .i64 z.1), (8, .slice z.2.1 ((List.flatMap (cvH a n) (List.take x.1.toNat (runs m.is_))) ++ intsF (max (rat (runs m.is_) x.1).fr a) (z.1 - (max (rat (runs m.is_) x.1).fr a)).toNat).length z.2.2), (0, ptr mb 0 0), (1, .int .i64 a), (2, .int .i64 n), (7, .slice u.1 ((List.flatMap (cvR a n) (List.take x.1.toNat (runs m.is_))) ++ (if (rat (runs m.is_) x.1).fr < (max (rat (runs m.is_) x.1).fr a) then [(⟨(rat (runs m.is_) x.1).fr, (max (rat (runs m.is_) x.1).fr a) - (rat (runs m.is_) x.1).fr, (rat (runs m.is_) x.1).w⟩ : RG)] else []) ++ (if (min ((rat (runs m.is_) x.1).fr + (rat (runs m.is_) x.1).n) (a + n)) < (rat (runs m.is_) x.1).fr + (rat (runs m.is_) x.1).n then [(⟨(min ((rat (runs m.is_) x.1).fr + (rat (runs m.is_) x.1).n) (a + n)), (rat (runs m.is_) x.1).fr + (rat (runs m.is_) x.1).n - (min ((rat (runs m.is_) x.1).fr + (rat (runs m.is_) x.1).n) (a + n)), (rat (runs m.is_) x.1).w⟩ : RG)] else [])).length u.2), (12, .int .i64 (min ((rat (runs m.is_) x.1).fr + (rat (runs m.is_) x.1).n) (a + n))), (17, .slice (some ⟨g1, 0, none⟩) (runs m.is_).length c), (18, .int .i64 (runs m.is_).length), (19, .int .i64 x.1)]) (fun z => XM W (foot [.cells mb 0 34 (encN kb (some ⟨g1, 0, none⟩) (runs m.is_).length c m.fr m.own), frow (some ⟨g1, 0, none⟩) c 83 3 (runs m.is_).length (rgC (runs m.is_))]) [.cells mb 0 34 (encN kb (some ⟨g1, 0, none⟩) (runs m.is_).length c m.fr m.own), frow (some ⟨g1, 0, none⟩) c 83 3 (runs m.is_).length (rgC (runs m.is_)), frow u.1 u.2 83 3 ((List.flatMap (cvR a n) (List.take x.1.toNat (runs m.is_))) ++ (if (rat (runs m.is_) x.1).fr < (max (rat (runs m.is_) x.1).fr a) then [(⟨(rat (runs m.is_) x.1).fr, (max (rat (runs m.is_) x.1).fr a) - (rat (runs m.is_) x.1).fr, (rat (runs m.is_) x.1).w⟩ : RG)] else []) ++ (if (min ((rat (runs m.is_) x.1).fr + (rat (runs m.is_) x.1).n) (a + n)) < (rat (runs m.is_) x.1).fr + (rat (runs m.is_) x.1).n then [(⟨(min ((rat (runs m.is_) x.1).fr + (rat (runs m.is_) x.1).n) (a + n)), (rat (runs m.is_) x.1).fr + (rat (runs m.is_) x.1).n - (min ((rat (runs m.is_) x.1).fr + (rat (runs m.is_) x.1).n) (a + n)), (rat (runs m.is_) x.1).w⟩ : RG)] else [])).length (rgC ((List.flatMap (cvR a n) (List.take x.1.toNat (runs m.is_))) ++ (if (rat (runs m.is_) x.1).fr < (max (rat (runs m.is_) x.1).fr a) then [(⟨(rat (runs m.is_) x.1).fr, (max (rat (runs m.is_) x.1).fr a) - (rat (runs m.is_) x.1).fr, (rat (runs m.is_) x.1).w⟩ : RG)] else []) ++ (if (min ((rat (runs m.is_) x.1).fr + (rat (runs m.is_) x.1).n) (a + n)) < (rat (runs m.is_) x.1).fr + (rat (runs m.is_) x.1).n then [(⟨(min ((rat (runs m.is_) x.1).fr + (rat (runs m.is_) x.1).n) (a + n)), (rat (runs m.is_) x.1).fr + (rat (runs m.is_) x.1).n - (min ((rat (runs m.is_) x.1).fr + (rat (runs m.is_) x.1).n) (a + n)), (rat (runs m.is_) x.1).w⟩ : RG)] else []))), irow z.2.1 z.2.2 3 ((List.flatMap (cvH a n) (List.take x.1.toNat (runs m.is_))) ++ intsF (max (rat (runs m.is_) x.1).fr a) (z.1 - (max (rat (runs m.is_) x.1).fr a)).toNat)]) (((max (rat (runs m.is_) x.1).fr a), x.2.2)) ?_ (.cons rfl (.cons (by show lk _ _ = some (Value.slice _ ((List.flatMap (cvH a n) (List.take x.1.toNat (runs m.is_))) ++ intsF (max (rat (runs m.is_) x.1).fr a) ((max (rat (runs m.is_) x.1).fr a) - (max (rat (runs m.is_) x.1).fr a)).toNat).length _); rw [show ((max (rat (runs m.is_) x.1).fr a) - (max (rat (runs m.is_) x.1).fr a)).toNat = 0 from by omega, intsF, List.append_nil]; rfl) (.cons rfl (.cons rfl (S6 rfl rfl rfl rfl rfl rfl))))) (fun _ hw => by show XM _ _ [_, _, _, irow _ _ _ ((List.flatMap (cvH a n) (List.take x.1.toNat (runs m.is_))) ++ intsF (max (rat (runs m.is_) x.1).fr a) ((max (rat (runs m.is_) x.1).fr a) - (max (rat (runs m.is_) x.1).fr a)).toNat)] _; rw [show ((max (rat (runs m.is_) x.1).fr a) - (max (rat (runs m.is_) x.1).fr a)).toNat = 0 from by omega, intsF, List.append_nil]; exact XM.pick (.cons (.there .here) (.cons (.there .here) (.cons (.there .here) (.cons (.there .here) .nil)))) hw) ?_
      · skip
        exact ⟨Int.le_refl _, by show (max (rat (runs m.is_) x.1).fr a) ≤ (min ((rat (runs m.is_) x.1).fr + (rat (runs m.is_) x.1).n) (a + n)); omega⟩
      intro z hz
      have hil := intsF_len (max (rat (runs m.is_) x.1).fr a) (z.1 - (max (rat (runs m.is_) x.1).fr a)).toNat
      have hll : ((List.flatMap (cvH a n) (List.take x.1.toNat (runs m.is_))) ++ intsF (max (rat (runs m.is_) x.1).fr a) (z.1 - (max (rat (runs m.is_) x.1).fr a)).toNat).length = (List.flatMap (cvH a n) (List.take x.1.toNat (runs m.is_))).length + (z.1 - (max (rat (runs m.is_) x.1).fr a)).toNat := by rw [List.length_append, hil]
      refine gC ?_
      refine cd rfl ?_ ?_ <;> intro h6
      · skip
        refine XO.buildSlice (e := 3) (vs := #[(0, .int .i64 z.1)]) (A := #[.int .i64 z.1]) rfl (fun _ => by kernel_rfl) rfl rfl ?_
        intro nb
        refine gO ?_
        refine XO.appendI (e := 3) (z := z.1) (zs := ((List.flatMap (cvH a n) (List.take x.1.toNat (runs m.is_))) ++ intsF (max (rat (runs m.is_) x.1).fr a) (z.1 - (max (rat (runs m.is_) x.1).fr a)).toNat)) rfl rfl Tryd.underlying98 rt_3_1 (.t4 .here) .here (by omega) rfl ?_
        intro p3 c3
        refine gO ?_
        refine sd (by omega) ?_
        have hZ : (List.flatMap (cvH a n) (List.take x.1.toNat (runs m.is_))) ++ intsF (max (rat (runs m.is_) x.1).fr a) (z.1 + 1 - (max (rat (runs m.is_) x.1).fr a)).toNat = ((List.flatMap (cvH a n) (List.take x.1.toNat (runs m.is_))) ++ intsF (max (rat (runs m.is_) x.1).fr a) (z.1 - (max (rat (runs m.is_) x.1).fr a)).toNat) ++ [z.1] := by rw [show z.1 + 1 - (max (rat (runs m.is_) x.1).fr a) = (z.1 - (max (rat (runs m.is_) x.1).fr a)) + 1 from by omega, intsF_snoc _ (by omega), ← List.append_assoc]; congr 2; omega
        refine ag ((z.1 + 1, p3, c3)) ?_ ?_ (.cons rfl (.cons (by show lk _ _ = some (Value.slice _ ((List.flatMap (cvH a n) (List.take x.1.toNat (runs m.is_))) ++ intsF (max (rat (runs m.is_) x.1).fr a) (z.1 + 1 - (max (rat (runs m.is_) x.1).fr a)).toNat).length _); rw [hZ]; rfl) (.cons rfl (.cons rfl (S6 rfl rfl rfl rfl rfl rfl))))) (fun _ hw => by show XM _ _ [_, _, _, irow _ _ _ ((List.flatMap (cvH a n) (List.take x.1.toNat (runs m.is_))) ++ intsF (max (rat (runs m.is_) x.1).fr a) (z.1 + 1 - (max (rat (runs m.is_) x.1).fr a)).toNat)] _; rw [hZ]; exact XM.pick (.cons (.t2 .here) (.cons (.t2 .here) (.cons (.t2 .here) .h1))) hw)
        · skip
          (simp; omega)
        · skip
          (show _ ≤ z.1 + 1 ∧ z.1 + 1 ≤ _; omega)
      · skip
        refine sd (by omega) ?_
        have hA : (List.flatMap (cvR a n) (List.take (x.1 + 1).toNat (runs m.is_))) = (List.flatMap (cvR a n) (List.take x.1.toNat (runs m.is_))) ++ (if (rat (runs m.is_) x.1).fr < (max (rat (runs m.is_) x.1).fr a) then [(⟨(rat (runs m.is_) x.1).fr, (max (rat (runs m.is_) x.1).fr a) - (rat (runs m.is_) x.1).fr, (rat (runs m.is_) x.1).w⟩ : RG)] else []) ++ (if (min ((rat (runs m.is_) x.1).fr + (rat (runs m.is_) x.1).n) (a + n)) < (rat (runs m.is_) x.1).fr + (rat (runs m.is_) x.1).n then [(⟨(min ((rat (runs m.is_) x.1).fr + (rat (runs m.is_) x.1).n) (a + n)), (rat (runs m.is_) x.1).fr + (rat (runs m.is_) x.1).n - (min ((rat (runs m.is_) x.1).fr + (rat (runs m.is_) x.1).n) (a + n)), (rat (runs m.is_) x.1).w⟩ : RG)] else []) := by rw [flat_take _ ⟨hi.1, by omega⟩, hin, List.append_assoc]
        have ez : z.1 = (min ((rat (runs m.is_) x.1).fr + (rat (runs m.is_) x.1).n) (a + n)) := by omega
        have hH : (List.flatMap (cvH a n) (List.take (x.1 + 1).toNat (runs m.is_))) = (List.flatMap (cvH a n) (List.take x.1.toNat (runs m.is_))) ++ intsF (max (rat (runs m.is_) x.1).fr a) (z.1 - (max (rat (runs m.is_) x.1).fr a)).toNat := by rw [flat_take _ ⟨hi.1, by omega⟩, ez]; rfl
        have hq1 := cvR_len a n (rat (runs m.is_) x.1)
        rw [hin] at hq1
        simp only [List.length_append] at hq1
        refine ag ((x.1 + 1, u, z.2)) ?_ ?_ (.cons rfl (.cons (by show lk _ _ = some (Value.slice _ (List.flatMap (cvR a n) (List.take (x.1 + 1).toNat (runs m.is_))).length _); rw [hA]; rfl) (S6 (by show lk _ _ = some (Value.slice _ (List.flatMap (cvH a n) (List.take (x.1 + 1).toNat (runs m.is_))).length _); rw [hH]; rfl) rfl rfl rfl rfl rfl))) (fun _ hw => by show XM _ _ [_, _, frow _ _ _ _ (List.flatMap (cvR a n) (List.take (x.1 + 1).toNat (runs m.is_))).length (rgC (List.flatMap (cvR a n) (List.take (x.1 + 1).toNat (runs m.is_)))), irow _ _ _ (List.flatMap (cvH a n) (List.take (x.1 + 1).toNat (runs m.is_)))] _; rw [hA, hH]; exact XM.pick .h4 hw)
        · skip
          (simp; omega)
        · skip
          refine ⟨by simp; omega, ?_, ?_⟩
          · show ((List.flatMap (cvR a n) (List.take (x.1 + 1).toNat (runs m.is_))).length : Int) ≤ 2 * (x.1 + 1); rw [hA]; simp only [List.length_append]; omega
          · show ((List.flatMap (cvH a n) (List.take (x.1 + 1).toNat (runs m.is_))).length : Int) ≤ 16 * (x.1 + 1); rw [hH, List.length_append, intsF_len]; omega
  · skip
    refine st .here (encN_r _ _ _ _ _ _ _ _ _) rfl ?_
    refine XE.ret1 rfl rfl (post_of (.cons .here (.cons (.there .here) (.cons (.there .here) .nil))) rfl ?_)
    have e : List.take x.1.toNat (runs m.is_) = (runs m.is_) := List.take_of_length_le (by omega)
    exact ⟨x.2.1.1, x.2.1.2, x.2.2.1, x.2.2.2, by rw [e]; rfl, by rw [e]⟩
end Go.X
