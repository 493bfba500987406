import Derived.Test.YthdinakloheinaaGreatDoorkVW2
import Derived.Test.YthdinakloheinaaGreatDoorkFT
namespace Go.X.Vm
open Go Go.Proofs Go.X
set_option maxRecDepth 20000
set_option maxHeartbeats 4000000
theorem rt_3_1 : rowT Tryz.prog 3 1 = true := by kernel_rfl
theorem v_tidy (kb mb : Nat) (p : Option Addr) (c : Nat) (l : List RG) (fr : Int → Int) (own : Int → Bool) (f : Int → Int) (hf : OkF f) (hg : GL l) (hc : Cov l f) (hl : l.length ≤ 100) : Spec Tryz.prog 180 [ptr mb 0 0]
 [.cells mb 0 34 (encN kb p l.length c fr own), frow p c 171 3 l.length (rgC l)]
 (fun v H1 => v = .tuple #[] ∧ ∃ p2 c2, H1 = [.cells mb 0 34 (encN kb p2 (runs f).length c2 fr own), frow p2 c2 171 3 (runs f).length (rgC (runs f))]) := by
  refine Spec.go 70 [0, 2, 4, 5, 14, 15, 16, 17, 50] [] Tryz.func180 rfl rfl rfl ?_
  intro W
  refine ld .here (encN.ld_r _ _ _ _ _ _) ?_
  refine ca (v_sort _ _ _ (sorted_rb hg) (by omega)) (.cons (.there .here) .nil) ?_
  rintro _ _ ⟨rfl, l2, hp, hs, rfl⟩
  have hn : l.length = l2.length := hp.length_eq
  have hmg := mg_runs (hg.perm hp) (hc.perm hp) hf hs
  refine gO ?_
  refine XR.nilRow 171 3 ?_
  refine ld (.t2 .here) (encN.ld_r _ _ _ _ _ _) ?_
  refine lp (σ := Int × List RG × Option Addr × Nat) (fun x => (l.length - x.1).toNat) (fun x => (0 ≤ x.1 ∧ x.1 ≤ l.length) ∧ x.2.1 = mg (l2.take x.1.toNat)) (fun x => [(16, .int .i64 x.1), (2, .slice x.2.2.1 x.2.1.length x.2.2.2), (0, ptr mb 0 0), (14, .slice p l.length c), (15, .int .i64 l.length)]) (fun x => XM W (foot [.cells mb 0 34 (encN kb p l.length c fr own), frow p c 171 3 l.length (rgC l)]) [.cells mb 0 34 (encN kb p l.length c fr own), frow p c 171 3 l.length (rgC l2), frow x.2.2.1 x.2.2.2 171 3 x.2.1.length (rgC x.2.1)]) ((0, [], none, 0)) ?_ (S5 rfl rfl rfl rfl rfl) (fun _ hw => XM.pick (.cons (.t2 .here) (.cons (.there .here) .h1)) hw) ?_
  · skip
    exact ⟨by simp, rfl⟩
  intro x hx
  obtain ⟨hi, hac⟩ := hx
  have hal : x.2.1.length ≤ x.1 := by
    rw [hac]; exact Int.le_trans (Int.ofNat_le.2 (mg_len _ _ rfl)) (by rw [List.length_take]; omega)
  have hab : ∀ r ∈ x.2.1, 0 ≤ r.fr ∧ 0 < r.n ∧ r.fr + r.n ≤ 16 := by
    rw [hac]; exact mg_b _ _ rfl (fun r hr => (hg.perm hp).b r (List.mem_of_mem_take hr))
  refine gC ?_
  refine cd rfl ?_ ?_ <;> intro h1
  · skip
    refine XR.openRow (.there .here) (by omega) ?_
    intro g1 h2
    subst h2
    refine sd (by omega) ?_
    refine ldAF (.there .here) (rgC.agg2 hn (by omega)) ?_
    refine XO.allocZ (z := .agg RG.nil.arr) (m := 3) (C := rgB RG.nil) (by kernel_rfl) rfl (rgB.box _) rfl ?_
    intro rb
    refine gO ?_
    refine stA .here (rgB.st _ _) rfl ⟨rfl, rfl⟩ ?_
    refine sd (by omega) ?_
    refine rq [0, 1, 2, 3, 4, 5, 6, 7, 8, 9, 10, 11, 12, 13, 14, 15, 16, 17, 18, 19, 20, 21, 22, 23, 24, 25, 26, 27] mixed (by kernel_rfl) ?_
    refine sp 25 rfl ?_ ?_ <;> intro h3
    · skip
      have hpos : 0 < x.2.1.length := by omega
      have hlb := hab _ (rat_mem (z := (x.2.1.length : Int) - 1) (by omega))
      have hrb := (hg.perm hp).b _ (rat_mem (z := x.1) (by omega))
      refine XR.openRow (.t3 .here) (by omega) ?_
      intro ga hga
      rw [hga]
      refine sd (by omega) ?_
      refine ldF (.t3 .here) (rgC.f (by omega)) ?_
      refine sd (by omega) ?_
      refine ldF (.t3 .here) (rgC.n (by omega)) ?_
      refine sd (by omega) ?_
      refine ld .here (rgB.f _) ?_
      refine sp 41 rfl ?_ ?_ <;> intro h4
      · skip
        have h16 := h4
        refine sd (by omega) ?_
        refine ldF (.t3 .here) (rgC.w (by omega)) ?_
        refine ld .here (rgB.w _) ?_
        refine XO.v (V.boolEq rfl rfl Tryz.underlying4 rfl) rfl (gO ?_)
        refine cdB rfl ?_ ?_ <;> intro h5
        · try simp only [sb] at h5
          have h26 := h5
          refine rq [0, 1, 2, 3, 4, 5, 6, 7, 8, 9, 10] mixed (by kernel_rfl) ?_
          refine sd (by omega) ?_
          refine ldF (.t3 .here) (rgC.n (by omega)) ?_
          refine ld .here (rgB.n _) ?_
          refine sd (by omega) ?_
          refine sd (by omega) ?_
          refine stF (.t3 .here) (rgC.grow (by omega) _) rfl ?_
          refine sd (by omega) ?_
          refine ag ((x.1 + 1, lset x.2.1 { (rat x.2.1 ((x.2.1.length : Int) - 1)) with n := (rat x.2.1 ((x.2.1.length : Int) - 1)).n + (rat l2 x.1).n }, some ⟨ga, 0, none⟩, x.2.2.2)) ?_ ?_ (S5 rfl (by show lk _ _ = some (Value.slice _ (lset _ _).length _); rw [lset_length hpos]; rfl) rfl rfl rfl) (fun _ hw => by show XM _ _ [_, _, frow _ _ _ _ (lset _ _).length _] _; rw [lset_length hpos]; exact XM.pick (.cons (.there .here) (.cons (.there .here) (.cons (.there .here) .nil))) hw)
          · skip
            (simp; omega)
          · skip
            refine ⟨by simp; omega, ?_⟩
            show lset _ _ = mg (l2.take (x.1 + 1).toNat)
            rw [take_snoc (by omega), mg_snoc, ← hac, mgS_hit hpos h16 h26]
        · try simp only [sb] at h5
          have h27 := h5
          refine ldA .here (rgB.agg _) ?_
          refine XO.buildSlice (e := 171) (vs := #[(0, .agg (rat l2 x.1).arr)]) (A := (rat l2 x.1).arr) rfl (fun _ => by kernel_rfl) rfl rfl ?_
          intro nb
          refine gO ?_
          refine XO.appendRG (e := 171) (acc := x.2.1) (r := (rat l2 x.1)) rfl rfl Tryz.underlying140 rt_171_3 (.t4 .here) .here (by omega) rfl ?_
          intro p3 c3
          refine gO ?_
          refine sd (by omega) ?_
          refine ag ((x.1 + 1, x.2.1 ++ [(rat l2 x.1)], p3, c3)) ?_ ?_ (S5 rfl rfl rfl rfl rfl) (fun _ hw => XM.pick (.cons (.t3 .here) (.cons (.t3 .here) .h1)) hw)
          · skip
            (simp; omega)
          · skip
            refine ⟨by simp; omega, ?_⟩
            show _ ++ _ = mg (l2.take (x.1 + 1).toNat)
            rw [take_snoc (by omega), mg_snoc, ← hac, mgS_miss (by intro hp2 hh; first | omega | exact absurd hh.1 (by assumption) | exact absurd hh.2 (by assumption))]
      · skip
        refine ldA .here (rgB.agg _) ?_
        refine XO.buildSlice (e := 171) (vs := #[(0, .agg (rat l2 x.1).arr)]) (A := (rat l2 x.1).arr) rfl (fun _ => by kernel_rfl) rfl rfl ?_
        intro nb
        refine gO ?_
        refine XO.appendRG (e := 171) (acc := x.2.1) (r := (rat l2 x.1)) rfl rfl Tryz.underlying140 rt_171_3 (.t4 .here) .here (by omega) rfl ?_
        intro p3 c3
        refine gO ?_
        refine sd (by omega) ?_
        refine ag ((x.1 + 1, x.2.1 ++ [(rat l2 x.1)], p3, c3)) ?_ ?_ (S5 rfl rfl rfl rfl rfl) (fun _ hw => XM.pick (.cons (.t3 .here) (.cons (.t3 .here) .h1)) hw)
        · skip
          (simp; omega)
        · skip
          refine ⟨by simp; omega, ?_⟩
          show _ ++ _ = mg (l2.take (x.1 + 1).toNat)
          rw [take_snoc (by omega), mg_snoc, ← hac, mgS_miss (by intro hp2 hh; first | omega | exact absurd hh.1 (by assumption) | exact absurd hh.2 (by assumption))]
    · skip
      refine ldA .here (rgB.agg _) ?_
      refine XO.buildSlice (e := 171) (vs := #[(0, .agg (rat l2 x.1).arr)]) (A := (rat l2 x.1).arr) rfl (fun _ => by kernel_rfl) rfl rfl ?_
      intro nb
      refine gO ?_
      refine XO.appendRG (e := 171) (acc := x.2.1) (r := (rat l2 x.1)) rfl rfl Tryz.underlying140 rt_171_3 (.t4 .here) .here (by omega) rfl ?_
      intro p3 c3
      refine gO ?_
      refine sd (by omega) ?_
      refine ag ((x.1 + 1, x.2.1 ++ [(rat l2 x.1)], p3, c3)) ?_ ?_ (S5 rfl rfl rfl rfl rfl) (fun _ hw => XM.pick (.cons (.t3 .here) (.cons (.t3 .here) .h1)) hw)
      · skip
        (simp; omega)
      · skip
        refine ⟨by simp; omega, ?_⟩
        show _ ++ _ = mg (l2.take (x.1 + 1).toNat)
        rw [take_snoc (by omega), mg_snoc, ← hac, mgS_miss (by intro hp2 hh; first | omega | exact absurd hh.1 (by assumption) | exact absurd hh.2 (by assumption))]
  · skip
    refine st .here (encN_r _ _ _ _ _ _ _ _ _) rfl ?_
    refine XE.end0 rfl (post_of (.cons .here (.cons (.there .here) .nil)) rfl ?_)
    have e : x.1 = l.length := by omega
    have e2 : x.2.1 = runs f := by rw [hac, e, ← hmg, List.take_of_length_le (by omega)]
    exact ⟨rfl, x.2.2.1, x.2.2.2, by rw [← e2]⟩
set_option maxHeartbeats 8000000 in
theorem v_carve (kb mb : Nat) (p : Option Addr) (c : Nat) (m : MS) (hm : m.Ok) (a n : Int) (hb : ¬ badS a n) : Spec Tryz.prog 178 [ptr mb 0 0, .int .i64 a, .int .i64 n]
 [.cells mb 0 34 (encN kb p (runs m.is_).length c m.fr m.own), frow p c 171 3 (runs m.is_).length (rgC (runs m.is_))]
 (fun v H1 => ∃ p2 c2 p3 c3, v = .slice p3 ((runs m.is_).flatMap (cvH a n)).length c3 ∧ H1 = [.cells mb 0 34 (encN kb p2 ((runs m.is_).flatMap (cvR a n)).length c2 m.fr m.own), frow p2 c2 171 3 ((runs m.is_).flatMap (cvR a n)).length (rgC ((runs m.is_).flatMap (cvR a n))), irow p3 c3 3 ((runs m.is_).flatMap (cvH a n))]) := by
  have hLo := runs_ok hm.f
  have hL := runs_len m.is_
  have hb2 := hb
  unfold badS at hb2
  refine Spec.go 96 [0, 1, 2, 6, 7, 8, 10, 11, 12, 13, 17, 18, 19, 20, 38, 46, 65, 83] [(9, 1), (11, 1)] Tryz.func178 rfl rfl rfl ?_
  intro W
  refine XR.nilRow 171 3 ?_
  refine XR.nilRow 3 1 ?_
  refine ld (.t2 .here) (encN.ld_r _ _ _ _ _ _) ?_
  refine lp (σ := Int × (Option Addr × Nat) × (Option Addr × Nat)) (fun x => ((runs m.is_).length - x.1).toNat) (fun x => (0 ≤ x.1 ∧ x.1 ≤ (runs m.is_).length) ∧ (List.flatMap (cvR a n) (List.take x.1.toNat (runs m.is_))).length ≤ 2 * x.1 ∧ (List.flatMap (cvH a n) (List.take x.1.toNat (runs m.is_))).length ≤ 16 * x.1) (fun x => [(19, .int .i64 x.1), (7, .slice x.2.1.1 (List.flatMap (cvR a n) (List.take x.1.toNat (runs m.is_))).length x.2.1.2), (8, .slice x.2.2.1 (List.flatMap (cvH a n) (List.take x.1.toNat (runs m.is_))).length x.2.2.2), (0, ptr mb 0 0), (1, .int .i64 a), (2, .int .i64 n), (17, .slice p (runs m.is_).length c), (18, .int .i64 (runs m.is_).length)]) (fun x => XM W (foot [.cells mb 0 34 (encN kb p (runs m.is_).length c m.fr m.own), frow p c 171 3 (runs m.is_).length (rgC (runs m.is_))]) [.cells mb 0 34 (encN kb p (runs m.is_).length c m.fr m.own), frow p c 171 3 (runs m.is_).length (rgC (runs m.is_)), frow x.2.1.1 x.2.1.2 171 3 (List.flatMap (cvR a n) (List.take x.1.toNat (runs m.is_))).length (rgC (List.flatMap (cvR a n) (List.take x.1.toNat (runs m.is_)))), irow x.2.2.1 x.2.2.2 3 (List.flatMap (cvH a n) (List.take x.1.toNat (runs m.is_)))]) ((0, (none, 0), (none, 0))) ?_ (.cons rfl (.cons rfl (S6 rfl rfl rfl rfl rfl rfl))) (fun _ hw => XM.pick (.cons (.t2 .here) (.cons (.t2 .here) (.cons (.there .here) .h1))) hw) ?_
  · skip
    exact ⟨by simp, by simp, by simp⟩
  intro x hx
  obtain ⟨hi, hal, hhl⟩ := hx
  refine gC ?_
  refine cd rfl ?_ ?_ <;> intro h1
  · skip
    refine XR.openRow (.there .here) (by omega) ?_
    intro g1 h2
    subst h2
    refine sd (by omega) ?_
    refine ldAF (.there .here) (rgC.agg (by omega)) ?_
    refine XO.allocZ (z := .agg RG.nil.arr) (m := 3) (C := rgB RG.nil) (by kernel_rfl) rfl (rgB.box _) rfl ?_
    intro rb
    refine gO ?_
    refine stA .here (rgB.st _ _) rfl ⟨rfl, rfl⟩ ?_
    refine rq [0, 1, 2, 3, 4, 5, 6, 7, 8, 9, 10, 11, 12, 13, 14] mixed (by kernel_rfl) ?_
    have hrb := hLo.b _ (rat_mem (z := x.1) (by omega))
    refine ld .here (rgB.f _) ?_
    refine ld .here (rgB.f _) ?_
    refine ld .here (rgB.n _) ?_
    refine sd (by omega) ?_
    refine sd (by omega) ?_
    refine cd rfl ?_ ?_ <;> intro h3
    · skip
      have ho := cvR_out (a := a) (n := n) (r := (rat (runs m.is_) x.1)) (by omega)
      refine ldA .here (rgB.agg _) ?_
      refine XO.buildSlice (e := 171) (vs := #[(0, .agg (rat (runs m.is_) x.1).arr)]) (A := (rat (runs m.is_) x.1).arr) rfl (fun _ => by kernel_rfl) rfl rfl ?_
      intro nb
      refine gO ?_
      refine XO.appendRG (e := 171) (acc := (List.flatMap (cvR a n) (List.take x.1.toNat (runs m.is_)))) (r := (rat (runs m.is_) x.1)) rfl rfl Tryz.underlying140 rt_171_3 (.t4 .here) .here (by omega) rfl ?_
      intro p3 c3
      refine gO ?_
      refine sd (by omega) ?_
      have hA : (List.flatMap (cvR a n) (List.take (x.1 + 1).toNat (runs m.is_))) = (List.flatMap (cvR a n) (List.take x.1.toNat (runs m.is_))) ++ [(rat (runs m.is_) x.1)] := by rw [flat_take _ ⟨hi.1, by omega⟩, ho.1]
      have hH : (List.flatMap (cvH a n) (List.take (x.1 + 1).toNat (runs m.is_))) = (List.flatMap (cvH a n) (List.take x.1.toNat (runs m.is_))) := by rw [flat_take _ ⟨hi.1, by omega⟩, ho.2, List.append_nil]
      refine ag ((x.1 + 1, (p3, c3), x.2.2)) ?_ ?_ (.cons rfl (.cons (by show lk _ _ = some (Value.slice _ (List.flatMap (cvR a n) (List.take (x.1 + 1).toNat (runs m.is_))).length _); rw [hA]; rfl) (S6 (by show lk _ _ = some (Value.slice _ (List.flatMap (cvH a n) (List.take (x.1 + 1).toNat (runs m.is_))).length _); rw [hH]; rfl) rfl rfl rfl rfl rfl))) (fun _ hw => by show XM _ _ [_, _, frow _ _ _ _ (List.flatMap (cvR a n) (List.take (x.1 + 1).toNat (runs m.is_))).length (rgC (List.flatMap (cvR a n) (List.take (x.1 + 1).toNat (runs m.is_)))), irow _ _ _ (List.flatMap (cvH a n) (List.take (x.1 + 1).toNat (runs m.is_)))] _; rw [hA, hH]; exact XM.pick (.cons (.t3 .here) (.cons (.t3 .here) (.cons .here (.cons (.t2 .here) .nil)))) hw)
      · skip
        (simp; omega)
      · skip
        refine ⟨by simp; omega, ?_, ?_⟩
        · show ((List.flatMap (cvR a n) (List.take (x.1 + 1).toNat (runs m.is_))).length : Int) ≤ 2 * (x.1 + 1); rw [hA, List.length_append, List.length_singleton]; omega
        · show ((List.flatMap (cvH a n) (List.take (x.1 + 1).toNat (runs m.is_))).length : Int) ≤ 16 * (x.1 + 1); rw [hH]; omega
    · skip
      have hin := cvR_in (a := a) (n := n) (r := (rat (runs m.is_) x.1)) (by omega)
      refine ctG (σ := Option Addr × Nat) (fun _ => True) (fun y => [(0, ptr mb 0 0), (1, .int .i64 a), (2, .int .i64 n), (7, .slice y.1 ((List.flatMap (cvR a n) (List.take x.1.toNat (runs m.is_))) ++ (if (rat (runs m.is_) x.1).fr < (max (rat (runs m.is_) x.1).fr a) then [(⟨(rat (runs m.is_) x.1).fr, (max (rat (runs m.is_) x.1).fr a) - (rat (runs m.is_) x.1).fr, (rat (runs m.is_) x.1).w⟩ : RG)] else [])).length y.2), (8, .slice x.2.2.1 (List.flatMap (cvH a n) (List.take x.1.toNat (runs m.is_))).length x.2.2.2), (10, ptr rb 0 0), (11, .int .i64 (max (rat (runs m.is_) x.1).fr a)), (12, .int .i64 (min ((rat (runs m.is_) x.1).fr + (rat (runs m.is_) x.1).n) (a + n))), (17, .slice (some ⟨g1, 0, none⟩) (runs m.is_).length c), (18, .int .i64 (runs m.is_).length), (19, .int .i64 x.1)]) (fun y => XM W (foot [.cells mb 0 34 (encN kb (some ⟨g1, 0, none⟩) (runs m.is_).length c m.fr m.own), frow (some ⟨g1, 0, none⟩) c 171 3 (runs m.is_).length (rgC (runs m.is_))]) [.cells rb 0 3 (rgB (rat (runs m.is_) x.1)), .cells mb 0 34 (encN kb (some ⟨g1, 0, none⟩) (runs m.is_).length c m.fr m.own), frow (some ⟨g1, 0, none⟩) c 171 3 (runs m.is_).length (rgC (runs m.is_)), frow y.1 y.2 171 3 ((List.flatMap (cvR a n) (List.take x.1.toNat (runs m.is_))) ++ (if (rat (runs m.is_) x.1).fr < (max (rat (runs m.is_) x.1).fr a) then [(⟨(rat (runs m.is_) x.1).fr, (max (rat (runs m.is_) x.1).fr a) - (rat (runs m.is_) x.1).fr, (rat (runs m.is_) x.1).w⟩ : RG)] else [])).length (rgC ((List.flatMap (cvR a n) (List.take x.1.toNat (runs m.is_))) ++ (if (rat (runs m.is_) x.1).fr < (max (rat (runs m.is_) x.1).fr a) then [(⟨(rat (runs m.is_) x.1).fr, (max (rat (runs m.is_) x.1).fr a) - (rat (runs m.is_) x.1).fr, (rat (runs m.is_) x.1).w⟩ : RG)] else []))), irow x.2.2.1 x.2.2.2 3 (List.flatMap (cvH a n) (List.take x.1.toNat (runs m.is_)))]) ?_ ?_
      · skip
        refine ld .here (rgB.f _) ?_
        refine cd rfl ?_ ?_ <;> intro h4
        · skip
          refine ld .here (rgB.f _) ?_
          refine ld .here (rgB.f _) ?_
          refine sd (by omega) ?_
          refine ld .here (rgB.w _) ?_
          refine XO.v (V.build (vs := #[(0, .int .i64 (rat (runs m.is_) x.1).fr), (1, .int .i64 ((max (rat (runs m.is_) x.1).fr a) - (rat (runs m.is_) x.1).fr)), (2, .bool (rat (runs m.is_) x.1).w)]) rfl (v := .agg (RG.mk (rat (runs m.is_) x.1).fr ((max (rat (runs m.is_) x.1).fr a) - (rat (runs m.is_) x.1).fr) (rat (runs m.is_) x.1).w).arr) (fun _ => by kernel_rfl)) rfl (gO ?_)
          refine XO.buildSlice (e := 171) (vs := #[(0, .agg (RG.mk (rat (runs m.is_) x.1).fr ((max (rat (runs m.is_) x.1).fr a) - (rat (runs m.is_) x.1).fr) (rat (runs m.is_) x.1).w).arr)]) (A := (RG.mk (rat (runs m.is_) x.1).fr ((max (rat (runs m.is_) x.1).fr a) - (rat (runs m.is_) x.1).fr) (rat (runs m.is_) x.1).w).arr) rfl (fun _ => by kernel_rfl) rfl rfl ?_
          intro nb
          refine gO ?_
          refine XO.appendRG (e := 171) (acc := (List.flatMap (cvR a n) (List.take x.1.toNat (runs m.is_)))) (r := (RG.mk (rat (runs m.is_) x.1).fr ((max (rat (runs m.is_) x.1).fr a) - (rat (runs m.is_) x.1).fr) (rat (runs m.is_) x.1).w)) rfl rfl Tryz.underlying140 rt_171_3 (.t4 .here) .here (by omega) rfl ?_
          intro p3 c3
          refine gO ?_
          refine mtG ((p3, c3)) ?_ (.cons rfl (.cons rfl (.cons rfl (.cons (by rw [if_pos (by assumption)]; rfl) (.cons rfl (S6 rfl rfl rfl rfl rfl rfl)))))) (fun _ hw => by rw [if_pos (by assumption)]; exact XM.pick (.cons (.t2 .here) (.cons (.t2 .here) (.cons (.t2 .here) (.cons .here (.cons (.there .here) .nil))))) hw)
          exact trivial
        · skip
          refine mtG ((x.2.1.1, x.2.1.2)) ?_ (.cons rfl (.cons rfl (.cons rfl (.cons (by rw [if_neg (by assumption), List.append_nil]; rfl) (.cons rfl (S6 rfl rfl rfl rfl rfl rfl)))))) (fun _ hw => by rw [if_neg (by assumption), List.append_nil]; exact XM.pick .h5 hw)
          exact trivial
      intro y _
      refine gC ?_
      refine ctG (σ := Option Addr × Nat) (fun _ => True) (fun u => [(0, ptr mb 0 0), (1, .int .i64 a), (2, .int .i64 n), (7, .slice u.1 ((List.flatMap (cvR a n) (List.take x.1.toNat (runs m.is_))) ++ (if (rat (runs m.is_) x.1).fr < (max (rat (runs m.is_) x.1).fr a) then [(⟨(rat (runs m.is_) x.1).fr, (max (rat (runs m.is_) x.1).fr a) - (rat (runs m.is_) x.1).fr, (rat (runs m.is_) x.1).w⟩ : RG)] else []) ++ (if (min ((rat (runs m.is_) x.1).fr + (rat (runs m.is_) x.1).n) (a + n)) < (rat (runs m.is_) x.1).fr + (rat (runs m.is_) x.1).n then [(⟨(min ((rat (runs m.is_) x.1).fr + (rat (runs m.is_) x.1).n) (a + n)), (rat (runs m.is_) x.1).fr + (rat (runs m.is_) x.1).n - (min ((rat (runs m.is_) x.1).fr + (rat (runs m.is_) x.1).n) (a + n)), (rat (runs m.is_) x.1).w⟩ : RG)] else [])).length u.2), (8, .slice x.2.2.1 (List.flatMap (cvH a n) (List.take x.1.toNat (runs m.is_))).length x.2.2.2), (10, ptr rb 0 0), (11, .int .i64 (max (rat (runs m.is_) x.1).fr a)), (12, .int .i64 (min ((rat (runs m.is_) x.1).fr + (rat (runs m.is_) x.1).n) (a + n))), (17, .slice (some ⟨g1, 0, none⟩) (runs m.is_).length c), (18, .int .i64 (runs m.is_).length), (19, .int .i64 x.1)]) (fun u => XM W (foot [.cells mb 0 34 (encN kb (some ⟨g1, 0, none⟩) (runs m.is_).length c m.fr m.own), frow (some ⟨g1, 0, none⟩) c 171 3 (runs m.is_).length (rgC (runs m.is_))]) [.cells rb 0 3 (rgB (rat (runs m.is_) x.1)), .cells mb 0 34 (encN kb (some ⟨g1, 0, none⟩) (runs m.is_).length c m.fr m.own), frow (some ⟨g1, 0, none⟩) c 171 3 (runs m.is_).length (rgC (runs m.is_)), frow u.1 u.2 171 3 ((List.flatMap (cvR a n) (List.take x.1.toNat (runs m.is_))) ++ (if (rat (runs m.is_) x.1).fr < (max (rat (runs m.is_) x.1).fr a) then [(⟨(rat (runs m.is_) x.1).fr, (max (rat (runs m.is_) x.1).fr a) - (rat (runs m.is_) x.1).fr, (rat (runs m.is_) x.1).w⟩ : RG)] else []) ++ (if (min ((rat (runs m.is_) x.1).fr + (rat (runs m.is_) x.1).n) (a + n)) < (rat (runs m.is_) x.1).fr + (rat (runs m.is_) x.1).n then [(⟨(min ((rat (runs m.is_) x.1).fr + (rat (runs m.is_) x.1).n) (a + n)), (rat (runs m.is_) x.1).fr + (rat (runs m.is_) x.1).n - (min ((rat (runs m.is_) x.1).fr + (rat (runs m.is_) x.1).n) (a + n)), (rat (runs m.is_) x.1).w⟩ : RG)] else [])).length (rgC ((List.flatMap (cvR a n) (List.take x.1.toNat (runs m.is_))) ++ (if (rat (runs m.is_) x.1).fr < (max (rat (runs m.is_) x.1).fr a) then [(⟨(rat (runs m.is_) x.1).fr, (max (rat (runs m.is_) x.1).fr a) - (rat (runs m.is_) x.1).fr, (rat (runs m.is_) x.1).w⟩ : RG)] else []) ++ (if (min ((rat (runs m.is_) x.1).fr + (rat (runs m.is_) x.1).n) (a + n)) < (rat (runs m.is_) x.1).fr + (rat (runs m.is_) x.1).n then [(⟨(min ((rat (runs m.is_) x.1).fr + (rat (runs m.is_) x.1).n) (a + n)), (rat (runs m.is_) x.1).fr + (rat (runs m.is_) x.1).n - (min ((rat (runs m.is_) x.1).fr + (rat (runs m.is_) x.1).n) (a + n)), (rat (runs m.is_) x.1).w⟩ : RG)] else []))), irow x.2.2.1 x.2.2.2 3 (List.flatMap (cvH a n) (List.take x.1.toNat (runs m.is_)))]) ?_ ?_
      · skip
        refine ld .here (rgB.f _) ?_
        refine ld .here (rgB.n _) ?_
        refine sd (by omega) ?_
        refine cd rfl ?_ ?_ <;> intro h5
        · skip
          refine ld .here (rgB.f _) ?_
          refine ld .here (rgB.n _) ?_
          refine sd (by omega) ?_
          refine sd (by omega) ?_
          refine ld .here (rgB.w _) ?_
          refine XO.v (V.build (vs := #[(0, .int .i64 (min ((rat (runs m.is_) x.1).fr + (rat (runs m.is_) x.1).n) (a + n))), (1, .int .i64 ((rat (runs m.is_) x.1).fr + (rat (runs m.is_) x.1).n - (min ((rat (runs m.is_) x.1).fr + (rat (runs m.is_) x.1).n) (a + n)))), (2, .bool (rat (runs m.is_) x.1).w)]) rfl (v := .agg (RG.mk (min ((rat (runs m.is_) x.1).fr + (rat (runs m.is_) x.1).n) (a + n)) ((rat (runs m.is_) x.1).fr + (rat (runs m.is_) x.1).n - (min ((rat (runs m.is_) x.1).fr + (rat (runs m.is_) x.1).n) (a + n))) (rat (runs m.is_) x.1).w).arr) (fun _ => by kernel_rfl)) rfl (gO ?_)
          refine XO.buildSlice (e := 171) (vs := #[(0, .agg (RG.mk (min ((rat (runs m.is_) x.1).fr + (rat (runs m.is_) x.1).n) (a + n)) ((rat (runs m.is_) x.1).fr + (rat (runs m.is_) x.1).n - (min ((rat (runs m.is_) x.1).fr + (rat (runs m.is_) x.1).n) (a + n))) (rat (runs m.is_) x.1).w).arr)]) (A := (RG.mk (min ((rat (runs m.is_) x.1).fr + (rat (runs m.is_) x.1).n) (a + n)) ((rat (runs m.is_) x.1).fr + (rat (runs m.is_) x.1).n - (min ((rat (runs m.is_) x.1).fr + (rat (runs m.is_) x.1).n) (a + n))) (rat (runs m.is_) x.1).w).arr) rfl (fun _ => by kernel_rfl) rfl rfl ?_
          intro nb
          refine gO ?_
          refine XO.appendRG (e := 171) (acc := ((List.flatMap (cvR a n) (List.take x.1.toNat (runs m.is_))) ++ (if (rat (runs m.is_) x.1).fr < (max (rat (runs m.is_) x.1).fr a) then [(⟨(rat (runs m.is_) x.1).fr, (max (rat (runs m.is_) x.1).fr a) - (rat (runs m.is_) x.1).fr, (rat (runs m.is_) x.1).w⟩ : RG)] else []))) (r := (RG.mk (min ((rat (runs m.is_) x.1).fr + (rat (runs m.is_) x.1).n) (a + n)) ((rat (runs m.is_) x.1).fr + (rat (runs m.is_) x.1).n - (min ((rat (runs m.is_) x.1).fr + (rat (runs m.is_) x.1).n) (a + n))) (rat (runs m.is_) x.1).w)) rfl rfl Tryz.underlying140 rt_171_3 (.t4 .here) .here (by rw [List.length_append]; have hx1 := iteLen ((rat (runs m.is_) x.1).fr < (max (rat (runs m.is_) x.1).fr a)) (⟨(rat (runs m.is_) x.1).fr, (max (rat (runs m.is_) x.1).fr a) - (rat (runs m.is_) x.1).fr, (rat (runs m.is_) x.1).w⟩ : RG); omega) rfl ?_
          intro p3 c3
          refine gO ?_
          refine mtG ((p3, c3)) ?_ (.cons rfl (.cons rfl (.cons rfl (.cons (by rw [if_pos (c := (min ((rat (runs m.is_) x.1).fr + (rat (runs m.is_) x.1).n) (a + n)) < _) (by assumption)]; rfl) (.cons rfl (S6 rfl rfl rfl rfl rfl rfl)))))) (fun _ hw => by rw [if_pos (c := (min ((rat (runs m.is_) x.1).fr + (rat (runs m.is_) x.1).n) (a + n)) < _) (by assumption)]; exact XM.pick (.cons (.t2 .here) (.cons (.t2 .here) (.cons (.t2 .here) (.cons .here (.cons (.there .here) .nil))))) hw)
          exact trivial
        · skip
          refine mtG ((y.1, y.2)) ?_ (.cons rfl (.cons rfl (.cons rfl (.cons (by rw [if_neg (c := (min ((rat (runs m.is_) x.1).fr + (rat (runs m.is_) x.1).n) (a + n)) < _) (by assumption), List.append_nil]; rfl) (.cons rfl (S6 rfl rfl rfl rfl rfl rfl)))))) (fun _ hw => by rw [if_neg (c := (min ((rat (runs m.is_) x.1).fr + (rat (runs m.is_) x.1).n) (a + n)) < _) (by assumption), List.append_nil]; exact XM.pick .h5 hw)
          exact trivial
      intro u _
      refine gC ?_
      refine lp (σ := Int × Option Addr × Nat) (fun z => ((min ((rat (runs m.is_) x.1).fr + (rat (runs m.is_) x.1).n) (a + n)) - z.1).toNat) (fun z => (max (rat (runs m.is_) x.1).fr a) ≤ z.1 ∧ z.1 ≤ (min ((rat (runs m.is_) x.1).fr + (rat (runs m.is_) x.1).n) (a + n))) (fun z => [(13, .int .i64 z.1), (8, .slice z.2.1 ((List.flatMap (cvH a n) (List.take x.1.toNat (runs m.is_))) ++ intsF (max (rat (runs m.is_) x.1).fr a) (z.1 - (max (rat (runs m.is_) x.1).fr a)).toNat).length z.2.2), (0, ptr mb 0 0), (1, .int .i64 a), (2, .int .i64 n), (7, .slice u.1 ((List.flatMap (cvR a n) (List.take x.1.toNat (runs m.is_))) ++ (if (rat (runs m.is_) x.1).fr < (max (rat (runs m.is_) x.1).fr a) then [(⟨(rat (runs m.is_) x.1).fr, (max (rat (runs m.is_) x.1).fr a) - (rat (runs m.is_) x.1).fr, (rat (runs m.is_) x.1).w⟩ : RG)] else []) ++ (if (min ((rat (runs m.is_) x.1).fr + (rat (runs m.is_) x.1).n) (a + n)) < (rat (runs m.is_) x.1).fr + (rat (runs m.is_) x.1).n then [(⟨(min ((rat (runs m.is_) x.1).fr + (rat (runs m.is_) x.1).n) (a + n)), (rat (runs m.is_) x.1).fr + (rat (runs m.is_) x.1).n - (min ((rat (runs m.is_) x.1).fr + (rat (runs m.is_) x.1).n) (a + n)), (rat (runs m.is_) x.1).w⟩ : RG)] else [])).length u.2), (12, .int .i64 (min ((rat (runs m.is_) x.1).fr + (rat (runs m.is_) x.1).n) (a + n))), (17, .slice (some ⟨g1, 0, none⟩) (runs m.is_).length c), (18, .int .i64 (runs m.is_).length), (19, .int .i64 x.1)]) (fun z => XM W (foot [.cells mb 0 34 (encN kb (some ⟨g1, 0, none⟩) (runs m.is_).length c m.fr m.own), frow (some ⟨g1, 0, none⟩) c 171 3 (runs m.is_).length (rgC (runs m.is_))]) [.cells mb 0 34 (encN kb (some ⟨g1, 0, none⟩) (runs m.is_).length c m.fr m.own), frow (some ⟨g1, 0, none⟩) c 171 3 (runs m.is_).length (rgC (runs m.is_)), frow u.1 u.2 171 3 ((List.flatMap (cvR a n) (List.take x.1.toNat (runs m.is_))) ++ (if (rat (runs m.is_) x.1).fr < (max (rat (runs m.is_) x.1).fr a) then [(⟨(rat (runs m.is_) x.1).fr, (max (rat (runs m.is_) x.1).fr a) - (rat (runs m.is_) x.1).fr, (rat (runs m.is_) x.1).w⟩ : RG)] else []) ++ (if (min ((rat (runs m.is_) x.1).fr + (rat (runs m.is_) x.1).n) (a + n)) < (rat (runs m.is_) x.1).fr + (rat (runs m.is_) x.1).n then [(⟨(min ((rat (runs m.is_) x.1).fr + (rat (runs m.is_) x.1).n) (a + n)), (rat (runs m.is_) x.1).fr + (rat (runs m.is_) x.1).n - (min ((rat (runs m.is_) x.1).fr + (rat (runs m.is_) x.1).n) (a + n)), (rat (runs m.is_) x.1).w⟩ : RG)] else [])).length (rgC ((List.flatMap (cvR a n) (List.take x.1.toNat (runs m.is_))) ++ (if (rat (runs m.is_) x.1).fr < (max (rat (runs m.is_) x.1).fr a) then [(⟨(rat (runs m.is_) x.1).fr, (max (rat (runs m.is_) x.1).fr a) - (rat (runs m.is_) x.1).fr, (rat (runs m.is_) x.1).w⟩ : RG)] else []) ++ (if (min ((rat (runs m.is_) x.1).fr + (rat (runs m.is_) x.1).n) (a + n)) < (rat (runs m.is_) x.1).fr + (rat (runs m.is_) x.1).n then [(⟨(min ((rat (runs m.is_) x.1).fr + (rat (runs m.is_) x.1).n) (a + n)), (rat (runs m.is_) x.1).fr + (rat (runs m.is_) x.1).n - (min ((rat (runs m.is_) x.1).fr + (rat (runs m.is_) x.1).n) (a + n)), (rat (runs m.is_) x.1).w⟩ : RG)] else []))), irow z.2.1 z.2.2 3 ((List.flatMap (cvH a n) (List.take x.1.toNat (runs m.is_))) ++ intsF (max (rat (runs m.is_) x.1).fr a) (z.1 - (max (rat (runs m.is_) x.1).fr a)).toNat)]) (((max (rat (runs m.is_) x.1).fr a), x.2.2)) ?_ (.cons rfl (.cons (by show lk _ _ = some (Value.slice _ ((List.flatMap (cvH a n) (List.take x.1.toNat (runs m.is_))) ++ intsF (max (rat (runs m.is_) x.1).fr a) ((max (rat (runs m.is_) x.1).fr a) - (max (rat (runs m.is_) x.1).fr a)).toNat).length _); rw [show ((max (rat (runs m.is_) x.1).fr a) - (max (rat (runs m.is_) x.1).fr a)).toNat = 0 from by omega, intsF, List.append_nil]; rfl) (.cons rfl (.cons rfl (S6 rfl rfl rfl rfl rfl rfl))))) (fun _ hw => by show XM _ _ [_, _, _, irow _ _ _ ((List.flatMap (cvH a n) (List.take x.1.toNat (runs m.is_))) ++ intsF (max (rat (runs m.is_) x.1).fr a) ((max (rat (runs m.is_) x.1).fr a) - (max (rat (runs m.is_) x.1).fr a)).toNat)] _; rw [show ((max (rat (runs m.is_) x.1).fr a) - (max (rat (runs m.is_) x.1).fr a)).toNat = 0 from by omega, intsF, List.append_nil]; exact XM.pick (.cons (.there .here) (.cons (.there .here) (.cons (.there .here) (.cons (.there .here) .nil)))) hw) ?_
      · skip
        exact ⟨Int.le_refl _, by show (max (rat (runs m.is_) x.1).fr a) ≤ (min ((rat (runs m.is_) x.1).fr + (rat (runs m.is_) x.1).n) (a + n)); omega⟩
      intro z hz
      have hil := intsF_len (max (rat (runs m.is_) x.1).fr a) (z.1 - (max (rat (runs m.is_) x.1).fr a)).toNat
      have hll : ((List.flatMap (cvH a n) (List.take x.1.toNat (runs m.is_))) ++ intsF (max (rat (runs m.is_) x.1).fr a) (z.1 - (max (rat (runs m.is_) x.1).fr a)).toNat).length = (List.flatMap (cvH a n) (List.take x.1.toNat (runs m.is_))).length + (z.1 - (max (rat (runs m.is_) x.1).fr a)).toNat := by rw [List.length_append, hil]
      refine gC ?_
      refine cd rfl ?_ ?_ <;> intro h6
      · skip
        refine XO.buildSlice (e := 3) (vs := #[(0, .int .i64 z.1)]) (A := #[.int .i64 z.1]) rfl (fun _ => by kernel_rfl) rfl rfl ?_
        intro nb
        refine gO ?_
        refine XO.appendI (e := 3) (z := z.1) (zs := ((List.flatMap (cvH a n) (List.take x.1.toNat (runs m.is_))) ++ intsF (max (rat (runs m.is_) x.1).fr a) (z.1 - (max (rat (runs m.is_) x.1).fr a)).toNat)) rfl rfl Tryz.underlying55 rt_3_1 (.t4 .here) .here (by omega) rfl ?_
        intro p3 c3
        refine gO ?_
        refine sd (by omega) ?_
        have hZ : (List.flatMap (cvH a n) (List.take x.1.toNat (runs m.is_))) ++ intsF (max (rat (runs m.is_) x.1).fr a) (z.1 + 1 - (max (rat (runs m.is_) x.1).fr a)).toNat = ((List.flatMap (cvH a n) (List.take x.1.toNat (runs m.is_))) ++ intsF (max (rat (runs m.is_) x.1).fr a) (z.1 - (max (rat (runs m.is_) x.1).fr a)).toNat) ++ [z.1] := by rw [show z.1 + 1 - (max (rat (runs m.is_) x.1).fr a) = (z.1 - (max (rat (runs m.is_) x.1).fr a)) + 1 from by omega, intsF_snoc _ (by omega), ← List.append_assoc]; congr 2; omega
        refine ag ((z.1 + 1, p3, c3)) ?_ ?_ (.cons rfl (.cons (by show lk _ _ = some (Value.slice _ ((List.flatMap (cvH a n) (List.take x.1.toNat (runs m.is_))) ++ intsF (max (rat (runs m.is_) x.1).fr a) (z.1 + 1 - (max (rat (runs m.is_) x.1).fr a)).toNat).length _); rw [hZ]; rfl) (.cons rfl (.cons rfl (S6 rfl rfl rfl rfl rfl rfl))))) (fun _ hw => by show XM _ _ [_, _, _, irow _ _ _ ((List.flatMap (cvH a n) (List.take x.1.toNat (runs m.is_))) ++ intsF (max (rat (runs m.is_) x.1).fr a) (z.1 + 1 - (max (rat (runs m.is_) x.1).fr a)).toNat)] _; rw [hZ]; exact XM.pick (.cons (.t2 .here) (.cons (.t2 .here) (.cons (.t2 .here) .h1))) hw)
        · skip
          (simp; omega)
        · skip
          (show _ ≤ z.1 + 1 ∧ z.1 + 1 ≤ _; omega)
      · skip
        refine sd (by omega) ?_
        have hA : (List.flatMap (cvR a n) (List.take (x.1 + 1).toNat (runs m.is_))) = (List.flatMap (cvR a n) (List.take x.1.toNat (runs m.is_))) ++ (if (rat (runs m.is_) x.1).fr < (max (rat (runs m.is_) x.1).fr a) then [(⟨(rat (runs m.is_) x.1).fr, (max (rat (runs m.is_) x.1).fr a) - (rat (runs m.is_) x.1).fr, (rat (runs m.is_) x.1).w⟩ : RG)] else []) ++ (if (min ((rat (runs m.is_) x.1).fr + (rat (runs m.is_) x.1).n) (a + n)) < (rat (runs m.is_) x.1).fr + (rat (runs m.is_) x.1).n then [(⟨(min ((rat (runs m.is_) x.1).fr + (rat (runs m.is_) x.1).n) (a + n)), (rat (runs m.is_) x.1).fr + (rat (runs m.is_) x.1).n - (min ((rat (runs m.is_) x.1).fr + (rat (runs m.is_) x.1).n) (a + n)), (rat (runs m.is_) x.1).w⟩ : RG)] else []) := by rw [flat_take _ ⟨hi.1, by omega⟩, hin, List.append_assoc]
        have ez : z.1 = (min ((rat (runs m.is_) x.1).fr + (rat (runs m.is_) x.1).n) (a + n)) := by omega
        have hH : (List.flatMap (cvH a n) (List.take (x.1 + 1).toNat (runs m.is_))) = (List.flatMap (cvH a n) (List.take x.1.toNat (runs m.is_))) ++ intsF (max (rat (runs m.is_) x.1).fr a) (z.1 - (max (rat (runs m.is_) x.1).fr a)).toNat := by rw [flat_take _ ⟨hi.1, by omega⟩, ez]; rfl
        have hq1 := cvR_len a n (rat (runs m.is_) x.1)
        rw [hin] at hq1
        simp only [List.length_append] at hq1
        refine ag ((x.1 + 1, u, z.2)) ?_ ?_ (.cons rfl (.cons (by show lk _ _ = some (Value.slice _ (List.flatMap (cvR a n) (List.take (x.1 + 1).toNat (runs m.is_))).length _); rw [hA]; rfl) (S6 (by show lk _ _ = some (Value.slice _ (List.flatMap (cvH a n) (List.take (x.1 + 1).toNat (runs m.is_))).length _); rw [hH]; rfl) rfl rfl rfl rfl rfl))) (fun _ hw => by show XM _ _ [_, _, frow _ _ _ _ (List.flatMap (cvR a n) (List.take (x.1 + 1).toNat (runs m.is_))).length (rgC (List.flatMap (cvR a n) (List.take (x.1 + 1).toNat (runs m.is_)))), irow _ _ _ (List.flatMap (cvH a n) (List.take (x.1 + 1).toNat (runs m.is_)))] _; rw [hA, hH]; exact XM.pick .h4 hw)
        · skip
          (simp; omega)
        · skip
          refine ⟨by simp; omega, ?_, ?_⟩
          · show ((List.flatMap (cvR a n) (List.take (x.1 + 1).toNat (runs m.is_))).length : Int) ≤ 2 * (x.1 + 1); rw [hA]; simp only [List.length_append]; omega
          · show ((List.flatMap (cvH a n) (List.take (x.1 + 1).toNat (runs m.is_))).length : Int) ≤ 16 * (x.1 + 1); rw [hH, List.length_append, intsF_len]; omega
  · skip
    refine st .here (encN_r _ _ _ _ _ _ _ _ _) rfl ?_
    refine XE.ret1 rfl rfl (post_of (.cons .here (.cons (.there .here) (.cons (.there .here) .nil))) rfl ?_)
    have e : List.take x.1.toNat (runs m.is_) = (runs m.is_) := List.take_of_length_le (by omega)
    exact ⟨x.2.1.1, x.2.1.2, x.2.2.1, x.2.2.2, by rw [e]; rfl, by rw [e]⟩
end Go.X.Vm

namespace Go.X.Vm
open Go Go.X
/-! ### vm: what the acts answer -/
theorem carved_len (l : List RG) (a n : Int) : (l.flatMap (cvR a n)).length ≤ 2 * l.length := by
  induction l with
  | nil => simp
  | cons r l ih => rw [List.flatMap_cons, List.length_append, List.length_cons]; have := cvR_len a n r; omega
theorem cut0_nil (f : Int → Int) : cut0 f [] = f := by funext i; simp [cut0]
theorem cutF_nil (f : Int → Bool) : cutF f [] = f := by funext i; simp [cutF]
theorem MS.unmap_bad {v : VB} {m : MS} {a n : Int} (hb : badS a n) : m.unmap v a n = (0, 1, v, m) := by unfold MS.unmap; rw [if_pos hb]
theorem MS.unmap_ok (v : VB) {m : MS} (hm : m.Ok) {a n : Int} (hb : ¬ badS a n) : m.unmap v a n = ((unL v m.fr (spanL (fun i => m.is_ i != 0) a n.toNat)).1, 0, (unL v m.fr (spanL (fun i => m.is_ i != 0) a n.toNat)).2, ⟨setI m.is_ a n 0, cut0 m.fr (spanL (fun i => m.is_ i != 0) a n.toNat), cutF m.own (spanL (fun i => m.is_ i != 0) a n.toNat)⟩) := by
  unfold MS.unmap
  have hb2 := hb
  unfold badS at hb2
  have hz : ∀ i, i ∉ spanL (fun i => m.is_ i != 0) a n.toNat → a ≤ i ∧ i < a + n → m.is_ i = 0 := fun i h1 h2 => by
    rw [mem_spanL] at h1
    by_cases c : m.is_ i = 0
    · exact c
    · exact absurd ⟨⟨h2.1, by omega⟩, by simp [c]⟩ h1
  have hs : ∀ i, i ∈ spanL (fun i => m.is_ i != 0) a n.toNat → a ≤ i ∧ i < a + n := fun i h => by
    have := (mem_spanL.1 h).1; omega
  have e1 : setI m.fr a n 0 = cut0 m.fr (spanL (fun i => m.is_ i != 0) a n.toNat) := by
    funext i; unfold setI cut0
    by_cases c : i ∈ spanL (fun i => m.is_ i != 0) a n.toNat
    · rw [if_pos c, if_pos (hs i c)]
    · rw [if_neg c]; split
      · rename_i d; exact (hm.un i (hz i c d)).symm
      · rfl
  have e2 : setI m.own a n false = cutF m.own (spanL (fun i => m.is_ i != 0) a n.toNat) := by
    funext i; unfold setI cutF
    by_cases c : i ∈ spanL (fun i => m.is_ i != 0) a n.toNat
    · rw [if_pos c, if_pos (hs i c)]
    · rw [if_neg c]; split
      · rename_i d; exact (hm.ow i (hm.un i (hz i c d))).symm
      · rfl
  rw [if_neg hb, unN_span v (p := fun i => m.is_ i != 0) (fun i h => hm.un i (by simpa using h)), e1, e2]
theorem VB.take_rf {v : VB} (h : v.take.2.1 = 0) : v.take.2.2.rf = fset v.rf v.take.1 1 ∧ v.take.2.2.by_ = brow v.by_ v.take.1 (fun _ => 0) := by
  by_cases c : (v.bb.take 0).2.1 = 0
  · rw [VB.take_ok c]; exact ⟨rfl, rfl⟩
  · rw [VB.take_no c] at h; exact absurd h c
theorem VB.Ok.copy {v : VB} (h : v.Ok) (f g : Int) : (v.copy f g).Ok := ⟨h.bb, h.rf, fun x j => by
  show 0 ≤ brow v.by_ f (v.by_ g) x j ∧ brow v.by_ f (v.by_ g) x j < 256
  unfold brow; split
  · exact h.by_ g j
  · exact h.by_ x j⟩
theorem VB.take_rf1 {v : VB} (h : v.take.2.1 = 0) {f : Int} (hf : 1 < v.rf f) : 1 ≤ v.take.2.2.rf f := by
  rw [(VB.take_rf h).1]; unfold fset; split <;> omega
theorem MS.touch_no {v : VB} {m : MS} {a : Int} {w : Bool} (h : m.may a w = false) : m.touch v a w = (0, 10, v, m) := by unfold MS.touch; rw [if_pos h]
theorem MS.touch_new {v : VB} {m : MS} {a : Int} {w : Bool} (h : m.may a w = true) (h0 : m.fr (a / 8) = 0) (e : v.take.2.1 = 0) : m.touch v a w = (v.take.1, 0, v.take.2.2, m.page (a / 8) v.take.1) := by
  unfold MS.touch; rw [if_neg (by simp [h]), if_pos h0, if_neg (by omega)]
theorem MS.touch_newbad {v : VB} {m : MS} {a : Int} {w : Bool} (h : m.may a w = true) (h0 : m.fr (a / 8) = 0) (e : ¬ v.take.2.1 = 0) : m.touch v a w = (0, v.take.2.1, v, m) := by
  unfold MS.touch; rw [if_neg (by simp [h]), if_pos h0, if_pos e]
theorem MS.touch_old {v : VB} {m : MS} {a : Int} {w : Bool} (h : m.may a w = true) (h0 : ¬ m.fr (a / 8) = 0) (q : w = false ∨ m.own (a / 8) = true) : m.touch v a w = (m.fr (a / 8) - 1, 0, v, m) := by
  unfold MS.touch; rw [if_neg (by simp [h]), if_neg h0, if_pos q]
theorem MS.touch_one {v : VB} {m : MS} {a : Int} {w : Bool} (h : m.may a w = true) (h0 : ¬ m.fr (a / 8) = 0) (q : w = true) (q2 : m.own (a / 8) = false) (r : v.rf (m.fr (a / 8) - 1) ≤ 1) : m.touch v a w = (m.fr (a / 8) - 1, 0, v, { m with own := fset m.own (a / 8) true }) := by
  unfold MS.touch; rw [if_neg (by simp [h]), if_neg h0, if_neg (by simp [q, q2]), if_pos r]
theorem MS.touch_bad {v : VB} {m : MS} {a : Int} {w : Bool} (h : m.may a w = true) (h0 : ¬ m.fr (a / 8) = 0) (q : w = true) (q2 : m.own (a / 8) = false) (r : 1 < v.rf (m.fr (a / 8) - 1)) (e : ¬ v.take.2.1 = 0) : m.touch v a w = (0, v.take.2.1, v, m) := by
  unfold MS.touch; rw [if_neg (by simp [h]), if_neg h0, if_neg (by simp [q, q2]), if_neg (by omega), if_pos e]
theorem MS.touch_copy {v : VB} {m : MS} {a : Int} {w : Bool} (h : m.may a w = true) (h0 : ¬ m.fr (a / 8) = 0) (q : w = true) (q2 : m.own (a / 8) = false) (r : 1 < v.rf (m.fr (a / 8) - 1)) (e : v.take.2.1 = 0) : m.touch v a w = (v.take.1, 0, (v.take.2.2.copy v.take.1 (m.fr (a / 8) - 1)).drop (m.fr (a / 8) - 1), m.page (a / 8) v.take.1) := by
  unfold MS.touch; rw [if_neg (by simp [h]), if_neg h0, if_neg (by simp [q, q2]), if_neg (by omega), if_neg (by omega)]
/-- the ways of a touch -/
theorem MS.touch_cases (v : VB) (m : MS) (a : Int) (w : Bool) :
    (m.may a w = false ∧ m.touch v a w = (0, 10, v, m)) ∨ (m.may a w = true ∧
    ((¬ v.take.2.1 = 0 ∧ m.touch v a w = (0, v.take.2.1, v, m)) ∨
     (m.fr (a / 8) = 0 ∧ v.take.2.1 = 0 ∧ m.touch v a w = (v.take.1, 0, v.take.2.2, m.page (a / 8) v.take.1)) ∨
     (¬ m.fr (a / 8) = 0 ∧ (w = false ∨ m.own (a / 8) = true) ∧ m.touch v a w = (m.fr (a / 8) - 1, 0, v, m)) ∨
     (¬ m.fr (a / 8) = 0 ∧ v.rf (m.fr (a / 8) - 1) ≤ 1 ∧ w = true ∧ m.touch v a w = (m.fr (a / 8) - 1, 0, v, { m with own := fset m.own (a / 8) true })) ∨
     (¬ m.fr (a / 8) = 0 ∧ v.take.2.1 = 0 ∧ 1 < v.rf (m.fr (a / 8) - 1) ∧ w = true ∧ m.touch v a w = (v.take.1, 0, (v.take.2.2.copy v.take.1 (m.fr (a / 8) - 1)).drop (m.fr (a / 8) - 1), m.page (a / 8) v.take.1)))) := by
  cases h : m.may a w with
  | false => exact .inl ⟨rfl, MS.touch_no h⟩
  | true =>
    refine .inr ⟨rfl, ?_⟩
    by_cases h0 : m.fr (a / 8) = 0
    · by_cases e : v.take.2.1 = 0
      · exact .inr (.inl ⟨h0, e, MS.touch_new h h0 e⟩)
      · exact .inl ⟨e, MS.touch_newbad h h0 e⟩
    · by_cases q : w = false ∨ m.own (a / 8) = true
      · exact .inr (.inr (.inl ⟨h0, q, MS.touch_old h h0 q⟩))
      · have q1 : w = true := by cases w <;> simp_all
        have q2 : m.own (a / 8) = false := by simpa [q1] using q
        by_cases r : v.rf (m.fr (a / 8) - 1) ≤ 1
        · exact .inr (.inr (.inr (.inl ⟨h0, r, q1, MS.touch_one h h0 q1 q2 r⟩)))
        · by_cases e : v.take.2.1 = 0
          · exact .inr (.inr (.inr (.inr ⟨h0, e, by omega, q1, MS.touch_copy h h0 q1 q2 (by omega) e⟩)))
          · exact .inl ⟨e, MS.touch_bad h h0 q1 q2 (by omega) e⟩
theorem VB.Ok.touch {v : VB} {m : MS} (hv : v.Ok) (a : Int) (w : Bool) : (m.touch v a w).2.2.1.Ok := by
  rcases MS.touch_cases v m a w with ⟨_, e⟩ | ⟨_, ⟨_, e⟩ | ⟨_, _, e⟩ | ⟨_, _, e⟩ | ⟨_, _, _, e⟩ | ⟨_, q, r, _, e⟩⟩ <;> rw [e]
  · exact hv
  · exact hv
  · exact hv.take
  · exact hv
  · exact hv
  · exact (hv.take.copy _ _).drop (VB.take_rf1 q r)
theorem upN_le (rf fr : Int → Int) : ∀ (k : Nat) (g : Int), rf g ≤ upN rf fr k g ∧ upN rf fr k g ≤ rf g + k
  | 0, g => by simp [upN]
  | k + 1, g => by
    have := upN_le rf fr k g
    rw [upN]; split
    · unfold fset; split
      · rename_i c; subst c; omega
      · omega
    · omega
theorem upN_next {rf fr : Int → Int} {i : Int} (h : 0 ≤ i) : upN rf fr (i + 1).toNat = if 0 < fr i then fset (upN rf fr i.toNat) (fr i - 1) (upN rf fr i.toNat (fr i - 1) + 1) else upN rf fr i.toNat := by
  rw [show (i + 1).toNat = i.toNat + 1 from by omega, upN, show ((i.toNat : Nat) : Int) = i from by omega]
/-- up to i the new, from i on the old -/
def cutI {α : Type} (f g : Int → α) (i : Int) : Int → α := fun j => if 0 ≤ j ∧ j < i then f j else g j
theorem cutI_next {α : Type} {f g : Int → α} {i : Int} (h : 0 ≤ i) {v : α} (e : f i = v) : fset (cutI f g i) i v = cutI f g (i + 1) := by
  funext j
  unfold fset cutI
  by_cases c : j = i
  · rw [if_pos c, if_pos (by omega), c, e]
  · rw [if_neg c]
    by_cases d : 0 ≤ j ∧ j < i
    · rw [if_pos d, if_pos (by omega)]
    · rw [if_neg d, if_neg (by omega)]

theorem fset_self (f : Int → Bool) (i : Int) {v : Bool} (h : f i = v) : fset f i v = f := by
  funext j; unfold fset; split
  · rename_i c; rw [c, h]
  · rfl
theorem cutI_zero {α : Type} (f g : Int → α) : cutI f g 0 = g := by funext j; unfold cutI; rw [if_neg (by omega)]
def zNs (b : Nat) (p : Option Addr) (n c : Nat) : List Value := ptr b 0 0 :: .slice p n c :: (List.replicate 16 [Value.int .i64 0, Value.bool false]).flatten
theorem zNs_box (b : Nat) (p : Option Addr) (n c : Nat) : ∀ i, i < 34 → cellsOf (zNs b p n c).toArray i = encN b p n c (fun _ => 1) (fun _ => false) i := fun i hi => by
  unfold cellsOf zNs
  by_cases h1 : i = 1
  · subst h1; rfl
  · have e := zN_box b i hi
    unfold cellsOf zNl at e
    rw [Array.getD_eq_getD_getElem?, List.getElem?_toArray] at e ⊢
    have e2 : encN b none 0 0 (fun _ => 1) (fun _ => false) i = encN b p n c (fun _ => 1) (fun _ => false) i := by
      unfold encN; rw [if_neg h1, if_neg h1]
    rw [← e2, ← e]
    match i, h1 with
    | 0, _ => rfl
    | k + 2, _ => rfl
/-! ### the reference -/
theorem fset_fset {α : Type} (f : Int → α) (i : Int) (u v : α) : fset (fset f i u) i v = fset f i v := by
  funext j; unfold fset; split <;> rfl
end Go.X.Vm

namespace Go.X.Vm
open Go Go.Proofs Go.X
set_option maxRecDepth 20000
set_option maxHeartbeats 4000000

end Go.X.Vm

namespace Go.X.Vm
open Go Go.Proofs Go.X
set_option maxRecDepth 20000
set_option maxHeartbeats 4000000
theorem cl_124 : callable Tryz.prog 124 = true := by kernel_rfl
theorem fo_145_0 : fieldOff Tryz.prog 145 0 = some 0 := by kernel_rfl
theorem fo_145_1 : fieldOff Tryz.prog 145 1 = some 1 := by kernel_rfl
theorem sc_140 : scal Tryz.prog 140 = true := by kernel_rfl
theorem sc_94 : scal Tryz.prog 94 = true := by kernel_rfl
set_option maxHeartbeats 8000000 in
theorem v_Fork (kb pb mb : Nat) (v : VB) (hv : v.Ok) (p : Option Addr) (c : Nat) (m : MS) (hm : m.Ok) : Spec Tryz.prog 57 [ptr mb 0 0]
 [.cells kb 0 577 (encK pb v.by_ v.rf), .cells mb 0 34 (encN kb p (runs m.is_).length c m.fr m.own), frow p c 171 3 (runs m.is_).length (rgC (runs m.is_))]
 (fun x H1 => ∃ nb p1 c1, x = ptr nb 0 0 ∧ H1 = [.cells kb 0 577 (encK pb (v.fork m).by_ (v.fork m).rf), .cells mb 0 34 (encN kb p (runs m.is_).length c m.fr (fun _ => false)), frow p c 171 3 (runs m.is_).length (rgC (runs m.is_)), .cells nb 0 34 (encN kb p1 (runs m.is_).length c1 m.fr (fun _ => false)), frow p1 c1 171 3 (runs m.is_).length (rgC (runs m.is_))]) := by
  refine Spec.go 65 [0, 2, 3, 4, 16, 17, 43] [] Tryz.func57 rfl rfl rfl ?_
  intro W
  refine XC.regionQ mixed (f := 12) (l := #[false, false, false, false, false, false, false, false, false, false, false, false]) rfl rfl XM.drawn' ?_
  refine XQ.pv (i := 0) (l' := #[true, false, false, false, false, false, false, false, false, false, false, false]) rfl (by kernel_rfl) rfl (V.move rfl) rfl rfl ?_
  refine XQ.pv (i := 1) (l' := #[true, true, false, false, false, false, false, false, false, false, false, false]) rfl (by kernel_rfl) rfl (V.nilCheckP rfl) rfl rfl ?_
  refine XQ.pv (i := 2) (l' := #[true, true, true, false, false, false, false, false, false, false, false, false]) rfl (by kernel_rfl) rfl (V.fieldAddr rfl fo_145_0) rfl rfl ?_
  refine XQ.load (i := 3) (l' := #[true, true, true, true, false, false, false, false, false, false, false, false]) (.cells _ _ _ _) [10] rfl (by kernel_rfl) rfl (.there .here) (V.load rfl inEnt (encN.ld_b _ _ _ _ _ _) sc_94) rfl (by kernel_rfl) rfl ?_
  refine XQ.pv (i := 4) (l' := #[true, true, true, true, true, false, false, false, false, false, false, false]) rfl (by kernel_rfl) rfl (V.move rfl) rfl rfl ?_
  refine XQ.pv (i := 5) (l' := #[true, true, true, true, true, true, false, false, false, false, false, false]) rfl (by kernel_rfl) rfl (V.nilCheckP rfl) rfl rfl ?_
  refine XQ.pv (i := 6) (l' := #[true, true, true, true, true, true, true, false, false, false, false, false]) rfl (by kernel_rfl) rfl (V.fieldAddr rfl fo_145_1) rfl rfl ?_
  refine XQ.load (i := 7) (l' := #[true, true, true, true, true, true, true, true, false, false, false, false]) (.cells _ _ _ _) [8, 10] rfl (by kernel_rfl) rfl (.there .here) (V.load rfl inEnt (encN.ld_r _ _ _ _ _ _) sc_140) rfl (by kernel_rfl) rfl ?_
  refine XQ.call (i := 8) (l' := #[true, true, true, true, true, true, true, true, true, false, false, false]) rfl (by kernel_rfl) rfl rfl (v_Clone _ _ _ (by have := runs_len m.is_; omega)) (.cons (.t2 .here) .nil) cl_124 rfl (by rintro _ _ ⟨p1, c1, rfl, rfl⟩; all_goals (intro _ hw'; exact ⟨fun hs => (hs 8 (by first | (simp; done) | (simp; rfl)) rfl).elim, fun _ => inXM (.t3 .here) _ hw', trivial⟩)) ?_
  rintro _ _ ⟨p1, c1, rfl, rfl⟩
  refine XQ.pv (i := 9) (l' := #[true, true, true, true, true, true, true, true, true, true, false, false]) rfl (by kernel_rfl) rfl (V.build (vs := #[(0, ptr kb 0 0), (1, .slice p1 (runs m.is_).length c1)]) rfl (v := .agg (zNs kb p1 (runs m.is_).length c1).toArray) (fun _ => by kernel_rfl)) rfl rfl ?_
  refine XQ.box (i := 10) (l' := #[true, true, true, true, true, true, true, true, true, true, true, false]) (m := 34) (C := encN kb p1 (runs m.is_).length c1 (fun _ => 1) (fun _ => false)) rfl (by kernel_rfl) rfl rfl rfl (zNs_box _ _ _ _) rfl (fun _ _ hw' => ⟨fun hs => (hs 8 (by first | (simp; done) | (simp; rfl)) rfl).elim, fun hs => (hs 10 (by first | (simp; done) | (simp; rfl)) rfl).elim, trivial⟩) ?_
  intro nb
  refine XQ.pv (i := 11) (l' := #[true, true, true, true, true, true, true, true, true, true, true, true]) rfl (by kernel_rfl) rfl (V.assign rfl) rfl rfl ?_
  refine XQ.done (by kernel_rfl) ?_
  refine gE ?_
  refine lp (σ := Int) (fun i => (16 - i).toNat) (fun i => 0 ≤ i ∧ i ≤ 16) (fun i => [(16, .int .i64 i), (0, ptr mb 0 0), (3, ptr nb 0 0)]) (fun i => XM W (foot [.cells kb 0 577 (encK pb v.by_ v.rf), .cells mb 0 34 (encN kb p (runs m.is_).length c m.fr m.own), frow p c 171 3 (runs m.is_).length (rgC (runs m.is_))]) [.cells kb 0 577 (encK pb v.by_ (upN v.rf m.fr i.toNat)), .cells mb 0 34 (encN kb p (runs m.is_).length c m.fr (cutI (fun _ => false) m.own i)), frow p c 171 3 (runs m.is_).length (rgC (runs m.is_)), .cells nb 0 34 (encN kb p1 (runs m.is_).length c1 (cutI m.fr (fun _ => 1) i) (fun _ => false)), frow p1 c1 171 3 (runs m.is_).length (rgC (runs m.is_))]) (0) ?_ (S3 rfl rfl rfl) (fun _ hw => by show XM _ _ [_, .cells mb 0 34 (encN _ _ _ _ _ (cutI (fun _ => false) m.own 0)), _, .cells nb 0 34 (encN _ _ _ _ (cutI m.fr (fun _ => 1) 0) _), _] _; rw [cutI_zero, cutI_zero]; exact XM.pick (.cons (.t3 .here) (.cons (.t3 .here) (.cons (.there .here) .h2))) hw) ?_
  · skip
    omega
  intro i hi
  have hlo := hm.lo i
  have hup := upN_le v.rf m.fr i.toNat (m.fr i - 1)
  have hrf := hv.rf (m.fr i - 1)
  refine gC ?_
  refine cd rfl ?_ ?_ <;> intro h1
  · skip
    refine sd (by omega) ?_
    refine st (.there .here) (encN.st_p_I_write _ _ _ _ _ _ _ (by omega) _) rfl ?_
    refine rq [0, 1, 2, 3, 4, 5, 6, 7, 8, 9, 10, 11] mixed (by kernel_rfl) ?_
    refine sd (by omega) ?_
    refine ldA (.there .here) (encN_page _ _ _ _ _ _ _ (by omega)) ?_
    refine sd (by omega) ?_
    refine stA (.t3 .here) (encN_spage _ _ _ _ _ _ _ _ _ (by omega)) rfl ⟨rfl, rfl⟩ ?_
    refine sd (by omega) ?_
    refine ld (.there .here) (encN.ld_p_I_frame _ _ _ _ _ _ _ (by omega)) ?_
    refine cd rfl ?_ ?_ <;> intro h2
    · skip
      refine rq [0, 1, 2, 3, 4, 5, 6, 7, 8, 9, 10, 11, 12, 13, 14, 15, 16, 17, 18, 19] mixed (by kernel_rfl) ?_
      refine ld (.there .here) (encN.ld_b _ _ _ _ _ _) ?_
      refine sd (by omega) ?_
      refine ld (.there .here) (encN.ld_p_I_frame _ _ _ _ _ _ _ (by omega)) ?_
      refine sd (by omega) ?_
      refine ld .here (encK.ld_refs_I _ _ _ _ (by omega)) ?_
      refine sd (by omega) ?_
      refine sd (by omega) ?_
      refine st .here (encK.st_refs_I _ _ _ _ (by omega) _) rfl ?_
      refine sd (by omega) ?_
      have hU : upN v.rf m.fr (i + 1).toNat = fset (upN v.rf m.fr i.toNat) (m.fr i - 1) (upN v.rf m.fr i.toNat (m.fr i - 1) + 1) := by rw [upN_next hi.1, if_pos (by omega)]
      refine ag (i + 1) ?_ ?_ (S3 rfl rfl rfl) (fun _ hw => by rw [fset_eq (cutI (fun _ => false) m.own i) i false, fset_self (fun _ => false) i rfl] at hw; show XM _ _ [.cells kb 0 577 (encK pb v.by_ (upN v.rf m.fr (i + 1).toNat)), _, _, _, _] _; rw [hU, ← cutI_next hi.1 (f := (fun _ => false)) (g := m.own) (v := false) rfl, ← cutI_next hi.1 (f := m.fr) (g := fun _ => 1) (v := m.fr i - 1 + 1) (by omega)]; exact XM.pick .h5 hw)
      · skip
        (first | omega | (simp; done) | (simp; omega))
      · skip
        (first | omega | (simp; done) | (simp; omega))
    · skip
      refine sd (by omega) ?_
      have hU : upN v.rf m.fr (i + 1).toNat = upN v.rf m.fr i.toNat := by rw [upN_next hi.1, if_neg (by omega)]
      refine ag (i + 1) ?_ ?_ (S3 rfl rfl rfl) (fun _ hw => by rw [fset_eq (cutI (fun _ => false) m.own i) i false, fset_self (fun _ => false) i rfl] at hw; show XM _ _ [.cells kb 0 577 (encK pb v.by_ (upN v.rf m.fr (i + 1).toNat)), _, _, _, _] _; rw [hU, ← cutI_next hi.1 (f := (fun _ => false)) (g := m.own) (v := false) rfl, ← cutI_next hi.1 (f := m.fr) (g := fun _ => 1) (v := m.fr i - 1 + 1) (by omega)]; exact XM.pick .h5 hw)
      · skip
        (first | omega | (simp; done) | (simp; omega))
      · skip
        (first | omega | (simp; done) | (simp; omega))
  · skip
    refine XE.ret1 rfl rfl (post_of .h5 rfl ?_)
    have e : i = 16 := by omega
    subst e
    exact ⟨nb, p1, c1, rfl, by rw [encN_congr (f := cutI m.fr (fun _ => 1) 16) (f' := m.fr) (o := (fun _ => false)) (o' := (fun _ => false)) (fun i h0 h1 => ⟨by unfold cutI; rw [if_pos (by omega)], rfl⟩), encN_congr (f := m.fr) (f' := m.fr) (o := cutI (fun _ => false) m.own 16) (o' := (fun _ => false)) (fun i h0 h1 => ⟨rfl, by unfold cutI; rw [if_pos (by omega)]⟩)]; rfl⟩
end Go.X.Vm
