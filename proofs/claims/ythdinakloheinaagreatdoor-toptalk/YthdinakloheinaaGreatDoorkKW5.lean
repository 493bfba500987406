import Derived.Test.YthdinakloheinaaGreatDoorkVW2
import Derived.Test.YthdinakloheinaaGreatDoorkVA
import Derived.Test.YthdinakloheinaaGreatDoorkKW
import Derived.Test.YthdinakloheinaaGreatDoorkGW4
import Derived.Test.YthdinakloheinaaGreatDoorkFPL
namespace Go.X.Vm
open Go Go.Proofs Go.X
set_option maxRecDepth 20000
set_option maxHeartbeats 4000000
theorem rt_3_1 : rowT Tryz.prog 3 1 = true := by kernel_rfl
theorem v_tidy (kb mb : Nat) (p : Option Addr) (c : Nat) (l : List RG) (fr : Int → Int) (own : Int → Bool) (f : Int → Int) (hf : OkF f) (hg : GL l) (hc : Cov l f) (hl : l.length ≤ 100) : Spec Tryz.prog 180 [ptr mb 0 0]
 [.cells mb 0 34 (encN kb p l.length c fr own), frow p c 171 3 l.length (rgC l)]
 (fun v H1 => v = .tuple #[] ∧ ∃ p2 c2, H1 = [.cells mb 0 34 (encN kb p2 (runs f).length c2 fr own), frow p2 c2 171 3 (runs f).length (rgC (runs f))]) := by
  refine Spec.go 70 [0, 2, 4, 5, 14, 15, 16, 17, 50] [] Tryz.func180 rfl rfl rfl ?_
  intro W
  refine ld .here (encN.ld_r _ _ _ _ _ _) ?_
  refine ca (v_sort _ _ _ (sorted_rb hg) (by omega)) (.cons (.there .here) .nil) ?_
  rintro _ _ ⟨rfl, l2, hp, hs, rfl⟩
  have hn : l.length = l2.length := hp.length_eq
  have hmg := mg_runs (hg.perm hp) (hc.perm hp) hf hs
  refine gO ?_
  refine XR.nilRow 171 3 ?_
  refine ld (.t2 .here) (encN.ld_r _ _ _ _ _ _) ?_
  refine lp (σ := Int × List RG × Option Addr × Nat) (fun x => (l.length - x.1).toNat) (fun x => (0 ≤ x.1 ∧ x.1 ≤ l.length) ∧ x.2.1 = mg (l2.take x.1.toNat)) (fun x => [(16, .int .i64 x.1), (2, .slice x.2.2.1 x.2.1.length x.2.2.2), (0, ptr mb 0 0), (14, .slice p l.length c), (15, .int .i64 l.length)]) (fun x => XM W (foot [.cells mb 0 34 (encN kb p l.length c fr own), frow p c 171 3 l.length (rgC l)]) [.cells mb 0 34 (encN kb p l.length c fr own), frow p c 171 3 l.length (rgC l2), frow x.2.2.1 x.2.2.2 171 3 x.2.1.length (rgC x.2.1)]) ((0, [], none, 0)) ?_ (S5 rfl rfl rfl rfl rfl) (fun _ hw => XM.pick (.cons (.t2 .here) (.cons (.there .here) .h1)) hw) ?_
  · skip
    exact ⟨by simp, rfl⟩
  intro x hx
  obtain ⟨hi, hac⟩ := hx
  have hal : x.2.1.length ≤ x.1 := by
    rw [hac]; exact Int.le_trans (Int.ofNat_le.2 (mg_len _ _ rfl)) (by rw [List.length_take]; omega)
  have hab : ∀ r ∈ x.2.1, 0 ≤ r.fr ∧ 0 < r.n ∧ r.fr + r.n ≤ 16 := by
    rw [hac]; exact mg_b _ _ rfl (fun r hr => (hg.perm hp).b r (List.mem_of_mem_take hr))
  refine gC ?_
  refine cd rfl ?_ ?_ <;> intro h1
  · skip
    refine XR.openRow (.there .here) (by omega) ?_
    intro g1 h2
    subst h2
    refine sd (by omega) ?_
    refine ldAF (.there .here) (rgC.agg2 hn (by omega)) ?_
    refine XO.allocZ (z := .agg RG.nil.arr) (m := 3) (C := rgB RG.nil) (by kernel_rfl) rfl (rgB.box _) rfl ?_
    intro rb
    refine gO ?_
    refine stA .here (rgB.st _ _) rfl ⟨rfl, rfl⟩ ?_
    refine sd (by omega) ?_
    refine rq [0, 1, 2, 3, 4, 5, 6, 7, 8, 9, 10, 11, 12, 13, 14, 15, 16, 17, 18, 19, 20, 21, 22, 23, 24, 25, 26, 27] mixed (by kernel_rfl) ?_
    refine sp 25 rfl ?_ ?_ <;> intro h3
    · skip
      have hpos : 0 < x.2.1.length := by omega
      have hlb := hab _ (rat_mem (z := (x.2.1.length : Int) - 1) (by omega))
      have hrb := (hg.perm hp).b _ (rat_mem (z := x.1) (by omega))
      refine XR.openRow (.t3 .here) (by omega) ?_
      intro ga hga
      rw [hga]
      refine sd (by omega) ?_
      refine ldF (.t3 .here) (rgC.f (by omega)) ?_
      refine sd (by omega) ?_
      refine ldF (.t3 .here) (rgC.n (by omega)) ?_
      refine sd (by omega) ?_
      refine ld .here (rgB.f _) ?_
      refine sp 41 rfl ?_ ?_ <;> intro h4
      · skip
        have h16 := h4
        refine sd (by omega) ?_
        refine ldF (.t3 .here) (rgC.w (by omega)) ?_
        refine ld .here (rgB.w _) ?_
        refine XO.v (V.boolEq rfl rfl Tryz.underlying4 rfl) rfl (gO ?_)
        refine cdB rfl ?_ ?_ <;> intro h5
        · try simp only [sb] at h5
          have h26 := h5
          refine rq [0, 1, 2, 3, 4, 5, 6, 7, 8, 9, 10] mixed (by kernel_rfl) ?_
          refine sd (by omega) ?_
          refine ldF (.t3 .here) (rgC.n (by omega)) ?_
          refine ld .here (rgB.n _) ?_
          refine sd (by omega) ?_
          refine sd (by omega) ?_
          refine stF (.t3 .here) (rgC.grow (by omega) _) rfl ?_
          refine sd (by omega) ?_
          refine ag ((x.1 + 1, lset x.2.1 { (rat x.2.1 ((x.2.1.length : Int) - 1)) with n := (rat x.2.1 ((x.2.1.length : Int) - 1)).n + (rat l2 x.1).n }, some ⟨ga, 0, none⟩, x.2.2.2)) ?_ ?_ (S5 rfl (by show lk _ _ = some (Value.slice _ (lset _ _).length _); rw [lset_length hpos]; rfl) rfl rfl rfl) (fun _ hw => by show XM _ _ [_, _, frow _ _ _ _ (lset _ _).length _] _; rw [lset_length hpos]; exact XM.pick (.cons (.there .here) (.cons (.there .here) (.cons (.there .here) .nil))) hw)
          · skip
            (simp; omega)
          · skip
            refine ⟨by simp; omega, ?_⟩
            show lset _ _ = mg (l2.take (x.1 + 1).toNat)
            rw [take_snoc (by omega), mg_snoc, ← hac, mgS_hit hpos h16 h26]
        · try simp only [sb] at h5
          have h27 := h5
          refine ldA .here (rgB.agg _) ?_
          refine XO.buildSlice (e := 171) (vs := #[(0, .agg (rat l2 x.1).arr)]) (A := (rat l2 x.1).arr) rfl (fun _ => by kernel_rfl) rfl rfl ?_
          intro nb
          refine gO ?_
          refine XO.appendRG (e := 171) (acc := x.2.1) (r := (rat l2 x.1)) rfl rfl Tryz.underlying140 rt_171_3 (.t4 .here) .here (by omega) rfl ?_
          intro p3 c3
          refine gO ?_
          refine sd (by omega) ?_
          refine ag ((x.1 + 1, x.2.1 ++ [(rat l2 x.1)], p3, c3)) ?_ ?_ (S5 rfl rfl rfl rfl rfl) (fun _ hw => XM.pick (.cons (.t3 .here) (.cons (.t3 .here) .h1)) hw)
          · skip
            (simp; omega)
          · skip
            refine ⟨by simp; omega, ?_⟩
            show _ ++ _ = mg (l2.take (x.1 + 1).toNat)
            rw [take_snoc (by omega), mg_snoc, ← hac, mgS_miss (by intro hp2 hh; first | omega | exact absurd hh.1 (by assumption) | exact absurd hh.2 (by assumption))]
      · skip
        refine ldA .here (rgB.agg _) ?_
        refine XO.buildSlice (e := 171) (vs := #[(0, .agg (rat l2 x.1).arr)]) (A := (rat l2 x.1).arr) rfl (fun _ => by kernel_rfl) rfl rfl ?_
        intro nb
        refine gO ?_
        refine XO.appendRG (e := 171) (acc := x.2.1) (r := (rat l2 x.1)) rfl rfl Tryz.underlying140 rt_171_3 (.t4 .here) .here (by omega) rfl ?_
        intro p3 c3
        refine gO ?_
        refine sd (by omega) ?_
        refine ag ((x.1 + 1, x.2.1 ++ [(rat l2 x.1)], p3, c3)) ?_ ?_ (S5 rfl rfl rfl rfl rfl) (fun _ hw => XM.pick (.cons (.t3 .here) (.cons (.t3 .here) .h1)) hw)
        · skip
          (simp; omega)
        · skip
          refine ⟨by simp; omega, ?_⟩
          show _ ++ _ = mg (l2.take (x.1 + 1).toNat)
          rw [take_snoc (by omega), mg_snoc, ← hac, mgS_miss (by intro hp2 hh; first | omega | exact absurd hh.1 (by assumption) | exact absurd hh.2 (by assumption))]
    · skip
      refine ldA .here (rgB.agg _) ?_
      refine XO.buildSlice (e := 171) (vs := #[(0, .agg (rat l2 x.1).arr)]) (A := (rat l2 x.1).arr) rfl (fun _ => by kernel_rfl) rfl rfl ?_
      intro nb
      refine gO ?_
      refine XO.appendRG (e := 171) (acc := x.2.1) (r := (rat l2 x.1)) rfl rfl Tryz.underlying140 rt_171_3 (.t4 .here) .here (by omega) rfl ?_
      intro p3 c3
      refine gO ?_
      refine sd (by omega) ?_
      refine ag ((x.1 + 1, x.2.1 ++ [(rat l2 x.1)], p3, c3)) ?_ ?_ (S5 rfl rfl rfl rfl rfl) (fun _ hw => XM.pick (.cons (.t3 .here) (.cons (.t3 .here) .h1)) hw)
      · skip
        (simp; omega)
      · skip
        refine ⟨by simp; omega, ?_⟩
        show _ ++ _ = mg (l2.take (x.1 + 1).toNat)
        rw [take_snoc (by omega), mg_snoc, ← hac, mgS_miss (by intro hp2 hh; first | omega | exact absurd hh.1 (by assumption) | exact absurd hh.2 (by assumption))]
  · skip
    refine st .here (encN_r _ _ _ _ _ _ _ _ _) rfl ?_
    refine XE.end0 rfl (post_of (.cons .here (.cons (.there .here) .nil)) rfl ?_)
    have e : x.1 = l.length := by omega
    have e2 : x.2.1 = runs f := by rw [hac, e, ← hmg, List.take_of_length_le (by omega)]
    exact ⟨rfl, x.2.2.1, x.2.2.2, by rw [← e2]⟩
set_option maxHeartbeats 8000000 in
theorem v_carve (kb mb : Nat) (p : Option Addr) (c : Nat) (m : MS) (hm : m.Ok) (a n : Int) (hb : ¬ badS a n) : Spec Tryz.prog 178 [ptr mb 0 0, .int .i64 a, .int .i64 n]
 [.cells mb 0 34 (encN kb p (runs m.is_).length c m.fr m.own), frow p c 171 3 (runs m.is_).length (rgC (runs m.is_))]
 (fun v H1 => ∃ p2 c2 p3 c3, v = .slice p3 ((runs m.is_).flatMap (cvH a n)).length c3 ∧ H1 = [.cells mb 0 34 (encN kb p2 ((runs m.is_).flatMap (cvR a n)).length c2 m.fr m.own), frow p2 c2 171 3 ((runs m.is_).flatMap (cvR a n)).length (rgC ((runs m.is_).flatMap (cvR a n))), irow p3 c3 3 ((runs m.is_).flatMap (cvH a n))]) := by
  have hLo := runs_ok hm.f
  have hL := runs_len m.is_
  have hb2 := hb
  unfold badS at hb2
  refine Spec.go 96 [0, 1, 2, 6, 7, 8, 10, 11, 12, 13, 17, 18, 19, 20, 38, 46, 65, 83] [(9, 1), (11, 1)] Tryz.func178 rfl rfl rfl ?_
  intro W
  refine XR.nilRow 171 3 ?_
  refine XR.nilRow 3 1 ?_
  refine ld (.t2 .here) (encN.ld_r _ _ _ _ _ _) ?_
  refine lp (σ := Int × (Option Addr × Nat) × (Option Addr × Nat)) (fun x => ((runs m.is_).length - x.1).toNat) (fun x => (0 ≤ x.1 ∧ x.1 ≤ (runs m.is_).length) ∧ (List.flatMap (cvR a n) (List.take x.1.toNat (runs m.is_))).length ≤ 2 * x.1 ∧ (List.flatMap (cvH a n) (List.take x.1.toNat (runs m.is_))).length ≤ 16 * x.1) (fun x => [(19, .int .i64 x.1), (7, .slice x.2.1.1 (List.flatMap (cvR a n) (List.take x.1.toNat (runs m.is_))).length x.2.1.2), (8, .slice x.2.2.1 (List.flatMap (cvH a n) (List.take x.1.toNat (runs m.is_))).length x.2.2.2), (0, ptr mb 0 0), (1, .int .i64 a), (2, .int .i64 n), (17, .slice p (runs m.is_).length c), (18, .int .i64 (runs m.is_).length)]) (fun x => XM W (foot [.cells mb 0 34 (encN kb p (runs m.is_).length c m.fr m.own), frow p c 171 3 (runs m.is_).length (rgC (runs m.is_))]) [.cells mb 0 34 (encN kb p (runs m.is_).length c m.fr m.own), frow p c 171 3 (runs m.is_).length (rgC (runs m.is_)), frow x.2.1.1 x.2.1.2 171 3 (List.flatMap (cvR a n) (List.take x.1.toNat (runs m.is_))).length (rgC (List.flatMap (cvR a n) (List.take x.1.toNat (runs m.is_)))), irow x.2.2.1 x.2.2.2 3 (List.flatMap (cvH a n) (List.take x.1.toNat (runs m.is_)))]) ((0, (none, 0), (none, 0))) ?_ (.cons rfl (.cons rfl (S6 rfl rfl rfl rfl rfl rfl))) (fun _ hw => XM.pick (.cons (.t2 .here) (.cons (.t2 .here) (.cons (.there .here) .h1))) hw) ?_
  · skip
    exact ⟨by simp, by simp, by simp⟩
  intro x hx
  obtain ⟨hi, hal, hhl⟩ := hx
  refine gC ?_
  refine cd rfl ?_ ?_ <;> intro h1
  · skip
    refine XR.openRow (.there .here) (by omega) ?_
    intro g1 h2
    subst h2
    refine sd (by omega) ?_
    refine ldAF (.there .here) (rgC.agg (by omega)) ?_
    refine XO.allocZ (z := .agg RG.nil.arr) (m := 3) (C := rgB RG.nil) (by kernel_rfl) rfl (rgB.box _) rfl ?_
    intro rb
    refine gO ?_
    refine stA .here (rgB.st _ _) rfl ⟨rfl, rfl⟩ ?_
    refine rq [0, 1, 2, 3, 4, 5, 6, 7, 8, 9, 10, 11, 12, 13, 14] mixed (by kernel_rfl) ?_
    have hrb := hLo.b _ (rat_mem (z := x.1) (by omega))
    refine ld .here (rgB.f _) ?_
    refine ld .here (rgB.f _) ?_
    refine ld .here (rgB.n _) ?_
    refine sd (by omega) ?_
    refine sd (by omega) ?_
    refine cd rfl ?_ ?_ <;> intro h3
    · skip
      have ho := cvR_out (a := a) (n := n) (r := (rat (runs m.is_) x.1)) (by omega)
      refine ldA .here (rgB.agg _) ?_
      refine XO.buildSlice (e := 171) (vs := #[(0, .agg (rat (runs m.is_) x.1).arr)]) (A := (rat (runs m.is_) x.1).arr) rfl (fun _ => by kernel_rfl) rfl rfl ?_
      intro nb
      refine gO ?_
      refine XO.appendRG (e := 171) (acc := (List.flatMap (cvR a n) (List.take x.1.toNat (runs m.is_)))) (r := (rat (runs m.is_) x.1)) rfl rfl Tryz.underlying140 rt_171_3 (.t4 .here) .here (by omega) rfl ?_
      intro p3 c3
      refine gO ?_
      refine sd (by omega) ?_
      have hA : (List.flatMap (cvR a n) (List.take (x.1 + 1).toNat (runs m.is_))) = (List.flatMap (cvR a n) (List.take x.1.toNat (runs m.is_))) ++ [(rat (runs m.is_) x.1)] := by rw [flat_take _ ⟨hi.1, by omega⟩, ho.1]
      have hH : (List.flatMap (cvH a n) (List.take (x.1 + 1).toNat (runs m.is_))) = (List.flatMap (cvH a n) (List.take x.1.toNat (runs m.is_))) := by rw [flat_take _ ⟨hi.1, by omega⟩, ho.2, List.append_nil]
      refine ag ((x.1 + 1, (p3, c3), x.2.2)) ?_ ?_ (.cons rfl (.cons (by show lk _ _ = some (Value.slice _ (List.flatMap (cvR a n) (List.take (x.1 + 1).toNat (runs m.is_))).length _); rw [hA]; rfl) (S6 (by show lk _ _ = some (Value.slice _ (List.flatMap (cvH a n) (List.take (x.1 + 1).toNat (runs m.is_))).length _); rw [hH]; rfl) rfl rfl rfl rfl rfl))) (fun _ hw => by show XM _ _ [_, _, frow _ _ _ _ (List.flatMap (cvR a n) (List.take (x.1 + 1).toNat (runs m.is_))).length (rgC (List.flatMap (cvR a n) (List.take (x.1 + 1).toNat (runs m.is_)))), irow _ _ _ (List.flatMap (cvH a n) (List.take (x.1 + 1).toNat (runs m.is_)))] _; rw [hA, hH]; exact XM.pick (.cons (.t3 .here) (.cons (.t3 .here) (.cons .here (.cons (.t2 .here) .nil)))) hw)
      · skip
        (simp; omega)
      · skip
        refine ⟨by simp; omega, ?_, ?_⟩
        · show ((List.flatMap (cvR a n) (List.take (x.1 + 1).toNat (runs m.is_))).length : Int) ≤ 2 * (x.1 + 1); rw [hA, List.length_append, List.length_singleton]; omega
        · show ((List.flatMap (cvH a n) (List.take (x.1 + 1).toNat (runs m.is_))).length : Int) ≤ 16 * (x.1 + 1); rw [hH]; omega
    · skip
      have hin := cvR_in (a := a) (n := n) (r := (rat (runs m.is_) x.1)) (by omega)
      refine ctG (σ := Option Addr × Nat) (fun _ => True) (fun y => [(0, ptr mb 0 0), (1, .int .i64 a), (2, .int .i64 n), (7, .slice y.1 ((List.flatMap (cvR a n) (List.take x.1.toNat (runs m.is_))) ++ (if (rat (runs m.is_) x.1).fr < (max (rat (runs m.is_) x.1).fr a) then [(⟨(rat (runs m.is_) x.1).fr, (max (rat (runs m.is_) x.1).fr a) - (rat (runs m.is_) x.1).fr, (rat (runs m.is_) x.1).w⟩ : RG)] else [])).length y.2), (8, .slice x.2.2.1 (List.flatMap (cvH a n) (List.take x.1.toNat (runs m.is_))).length x.2.2.2), (10, ptr rb 0 0), (11, .int .i64 (max (rat (runs m.is_) x.1).fr a)), (12, .int .i64 (min ((rat (runs m.is_) x.1).fr + (rat (runs m.is_) x.1).n) (a + n))), (17, .slice (some ⟨g1, 0, none⟩) (runs m.is_).length c), (18, .int .i64 (runs m.is_).length), (19, .int .i64 x.1)]) (fun y => XM W (foot [.cells mb 0 34 (encN kb (some ⟨g1, 0, none⟩) (runs m.is_).length c m.fr m.own), frow (some ⟨g1, 0, none⟩) c 171 3 (runs m.is_).length (rgC (runs m.is_))]) [.cells rb 0 3 (rgB (rat (runs m.is_) x.1)), .cells mb 0 34 (encN kb (some ⟨g1, 0, none⟩) (runs m.is_).length c m.fr m.own), frow (some ⟨g1, 0, none⟩) c 171 3 (runs m.is_).length (rgC (runs m.is_)), frow y.1 y.2 171 3 ((List.flatMap (cvR a n) (List.take x.1.toNat (runs m.is_))) ++ (if (rat (runs m.is_) x.1).fr < (max (rat (runs m.is_) x.1).fr a) then [(⟨(rat (runs m.is_) x.1).fr, (max (rat (runs m.is_) x.1).fr a) - (rat (runs m.is_) x.1).fr, (rat (runs m.is_) x.1).w⟩ : RG)] else [])).length (rgC ((List.flatMap (cvR a n) (List.take x.1.toNat (runs m.is_))) ++ (if (rat (runs m.is_) x.1).fr < (max (rat (runs m.is_) x.1).fr a) then [(⟨(rat (runs m.is_) x.1).fr, (max (rat (runs m.is_) x.1).fr a) - (rat (runs m.is_) x.1).fr, (rat (runs m.is_) x.1).w⟩ : RG)] else []))), irow x.2.2.1 x.2.2.2 3 (List.flatMap (cvH a n) (List.take x.1.toNat (runs m.is_)))]) ?_ ?_
      · skip
        refine ld .here (rgB.f _) ?_
        refine cd rfl ?_ ?_ <;> intro h4
        · skip
          refine ld .here (rgB.f _) ?_
          refine ld .here (rgB.f _) ?_
          refine sd (by omega) ?_
          refine ld .here (rgB.w _) ?_
          refine XO.v (V.build (vs := #[(0, .int .i64 (rat (runs m.is_) x.1).fr), (1, .int .i64 ((max (rat (runs m.is_) x.1).fr a) - (rat (runs m.is_) x.1).fr)), (2, .bool (rat (runs m.is_) x.1).w)]) rfl (v := .agg (RG.mk (rat (runs m.is_) x.1).fr ((max (rat (runs m.is_) x.1).fr a) - (rat (runs m.is_) x.1).fr) (rat (runs m.is_) x.1).w).arr) (fun _ => by kernel_rfl)) rfl (gO ?_)
          refine XO.buildSlice (e := 171) (vs := #[(0, .agg (RG.mk (rat (runs m.is_) x.1).fr ((max (rat (runs m.is_) x.1).fr a) - (rat (runs m.is_) x.1).fr) (rat (runs m.is_) x.1).w).arr)]) (A := (RG.mk (rat (runs m.is_) x.1).fr ((max (rat (runs m.is_) x.1).fr a) - (rat (runs m.is_) x.1).fr) (rat (runs m.is_) x.1).w).arr) rfl (fun _ => by kernel_rfl) rfl rfl ?_
          intro nb
          refine gO ?_
          refine XO.appendRG (e := 171) (acc := (List.flatMap (cvR a n) (List.take x.1.toNat (runs m.is_)))) (r := (RG.mk (rat (runs m.is_) x.1).fr ((max (rat (runs m.is_) x.1).fr a) - (rat (runs m.is_) x.1).fr) (rat (runs m.is_) x.1).w)) rfl rfl Tryz.underlying140 rt_171_3 (.t4 .here) .here (by omega) rfl ?_
          intro p3 c3
          refine gO ?_
          refine mtG ((p3, c3)) ?_ (.cons rfl (.cons rfl (.cons rfl (.cons (by rw [if_pos (by assumption)]; rfl) (.cons rfl (S6 rfl rfl rfl rfl rfl rfl)))))) (fun _ hw => by rw [if_pos (by assumption)]; exact XM.pick (.cons (.t2 .here) (.cons (.t2 .here) (.cons (.t2 .here) (.cons .here (.cons (.there .here) .nil))))) hw)
          exact trivial
        · skip
          refine mtG ((x.2.1.1, x.2.1.2)) ?_ (.cons rfl (.cons rfl (.cons rfl (.cons (by rw [if_neg (by assumption), List.append_nil]; rfl) (.cons rfl (S6 rfl rfl rfl rfl rfl rfl)))))) (fun _ hw => by rw [if_neg (by assumption), List.append_nil]; exact XM.pick .h5 hw)
          exact trivial
      intro y _
      refine gC ?_
      refine ctG (σ := Option Addr × Nat) (fun _ => True) (fun u => [(0, ptr mb 0 0), (1, .int .i64 a), (2, .int .i64 n), (7, .slice u.1 ((List.flatMap (cvR a n) (List.take x.1.toNat (runs m.is_))) ++ (if (rat (runs m.is_) x.1).fr < (max (rat (runs m.is_) x.1).fr a) then [(⟨(rat (runs m.is_) x.1).fr, (max (rat (runs m.is_) x.1).fr a) - (rat (runs m.is_) x.1).fr, (rat (runs m.is_) x.1).w⟩ : RG)] else []) ++ (if (min ((rat (runs m.is_) x.1).fr + (rat (runs m.is_) x.1).n) (a + n)) < (rat (runs m.is_) x.1).fr + (rat (runs m.is_) x.1).n then [(⟨(min ((rat (runs m.is_) x.1).fr + (rat (runs m.is_) x.1).n) (a + n)), (rat (runs m.is_) x.1).fr + (rat (runs m.is_) x.1).n - (min ((rat (runs m.is_) x.1).fr + (rat (runs m.is_) x.1).n) (a + n)), (rat (runs m.is_) x.1).w⟩ : RG)] else [])).length u.2), (8, .slice x.2.2.1 (List.flatMap (cvH a n) (List.take x.1.toNat (runs m.is_))).length x.2.2.2), (10, ptr rb 0 0), (11, .int .i64 (max (rat (runs m.is_) x.1).fr a)), (12, .int .i64 (min ((rat (runs m.is_) x.1).fr + (rat (runs m.is_) x.1).n) (a + n))), (17, .slice (some ⟨g1, 0, none⟩) (runs m.is_).length c), (18, .int .i64 (runs m.is_).length), (19, .int .i64 x.1)]) (fun u => XM W (foot [.cells mb 0 34 (encN kb (some ⟨g1, 0, none⟩) (runs m.is_).length c m.fr m.own), frow (some ⟨g1, 0, none⟩) c 171 3 (runs m.is_).length (rgC (runs m.is_))]) [.cells rb 0 3 (rgB (rat (runs m.is_) x.1)), .cells mb 0 34 (encN kb (some ⟨g1, 0, none⟩) (runs m.is_).length c m.fr m.own), frow (some ⟨g1, 0, none⟩) c 171 3 (runs m.is_).length (rgC (runs m.is_)), frow u.1 u.2 171 3 ((List.flatMap (cvR a n) (List.take x.1.toNat (runs m.is_))) ++ (if (rat (runs m.is_) x.1).fr < (max (rat (runs m.is_) x.1).fr a) then [(⟨(rat (runs m.is_) x.1).fr, (max (rat (runs m.is_) x.1).fr a) - (rat (runs m.is_) x.1).fr, (rat (runs m.is_) x.1).w⟩ : RG)] else []) ++ (if (min ((rat (runs m.is_) x.1).fr + (rat (runs m.is_) x.1).n) (a + n)) < (rat (runs m.is_) x.1).fr + (rat (runs m.is_) x.1).n then [(⟨(min ((rat (runs m.is_) x.1).fr + (rat (runs m.is_) x.1).n) (a + n)), (rat (runs m.is_) x.1).fr + (rat (runs m.is_) x.1).n - (min ((rat (runs m.is_) x.1).fr + (rat (runs m.is_) x.1).n) (a + n)), (rat (runs m.is_) x.1).w⟩ : RG)] else [])).length (rgC ((List.flatMap (cvR a n) (List.take x.1.toNat (runs m.is_))) ++ (if (rat (runs m.is_) x.1).fr < (max (rat (runs m.is_) x.1).fr a) then [(⟨(rat (runs m.is_) x.1).fr, (max (rat (runs m.is_) x.1).fr a) - (rat (runs m.is_) x.1).fr, (rat (runs m.is_) x.1).w⟩ : RG)] else []) ++ (if (min ((rat (runs m.is_) x.1).fr + (rat (runs m.is_) x.1).n) (a + n)) < (rat (runs m.is_) x.1).fr + (rat (runs m.is_) x.1).n then [(⟨(min ((rat (runs m.is_) x.1).fr + (rat (runs m.is_) x.1).n) (a + n)), (rat (runs m.is_) x.1).fr + (rat (runs m.is_) x.1).n - (min ((rat (runs m.is_) x.1).fr + (rat (runs m.is_) x.1).n) (a + n)), (rat (runs m.is_) x.1).w⟩ : RG)] else []))), irow x.2.2.1 x.2.2.2 3 (List.flatMap (cvH a n) (List.take x.1.toNat (runs m.is_)))]) ?_ ?_
      · skip
        refine ld .here (rgB.f _) ?_
        refine ld .here (rgB.n _) ?_
        refine sd (by omega) ?_
        refine cd rfl ?_ ?_ <;> intro h5
        · skip
          refine ld .here (rgB.f _) ?_
          refine ld .here (rgB.n _) ?_
          refine sd (by omega) ?_
          refine sd (by omega) ?_
          refine ld .here (rgB.w _) ?_
          refine XO.v (V.build (vs := #[(0, .int .i64 (min ((rat (runs m.is_) x.1).fr + (rat (runs m.is_) x.1).n) (a + n))), (1, .int .i64 ((rat (runs m.is_) x.1).fr + (rat (runs m.is_) x.1).n - (min ((rat (runs m.is_) x.1).fr + (rat (runs m.is_) x.1).n) (a + n)))), (2, .bool (rat (runs m.is_) x.1).w)]) rfl (v := .agg (RG.mk (min ((rat (runs m.is_) x.1).fr + (rat (runs m.is_) x.1).n) (a + n)) ((rat (runs m.is_) x.1).fr + (rat (runs m.is_) x.1).n - (min ((rat (runs m.is_) x.1).fr + (rat (runs m.is_) x.1).n) (a + n))) (rat (runs m.is_) x.1).w).arr) (fun _ => by kernel_rfl)) rfl (gO ?_)
          refine XO.buildSlice (e := 171) (vs := #[(0, .agg (RG.mk (min ((rat (runs m.is_) x.1).fr + (rat (runs m.is_) x.1).n) (a + n)) ((rat (runs m.is_) x.1).fr + (rat (runs m.is_) x.1).n - (min ((rat (runs m.is_) x.1).fr + (rat (runs m.is_) x.1).n) (a + n))) (rat (runs m.is_) x.1).w).arr)]) (A := (RG.mk (min ((rat (runs m.is_) x.1).fr + (rat (runs m.is_) x.1).n) (a + n)) ((rat (runs m.is_) x.1).fr + (rat (runs m.is_) x.1).n - (min ((rat (runs m.is_) x.1).fr + (rat (runs m.is_) x.1).n) (a + n))) (rat (runs m.is_) x.1).w).arr) rfl (fun _ => by kernel_rfl) rfl rfl ?_
          intro nb
          refine gO ?_
          refine XO.appendRG (e := 171) (acc := ((List.flatMap (cvR a n) (List.take x.1.toNat (runs m.is_))) ++ (if (rat (runs m.is_) x.1).fr < (max (rat (runs m.is_) x.1).fr a) then [(⟨(rat (runs m.is_) x.1).fr, (max (rat (runs m.is_) x.1).fr a) - (rat (runs m.is_) x.1).fr, (rat (runs m.is_) x.1).w⟩ : RG)] else []))) (r := (RG.mk (min ((rat (runs m.is_) x.1).fr + (rat (runs m.is_) x.1).n) (a + n)) ((rat (runs m.is_) x.1).fr + (rat (runs m.is_) x.1).n - (min ((rat (runs m.is_) x.1).fr + (rat (runs m.is_) x.1).n) (a + n))) (rat (runs m.is_) x.1).w)) rfl rfl Tryz.underlying140 rt_171_3 (.t4 .here) .here (by rw [List.length_append]; have hx1 := iteLen ((rat (runs m.is_) x.1).fr < (max (rat (runs m.is_) x.1).fr a)) (⟨(rat (runs m.is_) x.1).fr, (max (rat (runs m.is_) x.1).fr a) - (rat (runs m.is_) x.1).fr, (rat (runs m.is_) x.1).w⟩ : RG); omega) rfl ?_
          intro p3 c3
          refine gO ?_
          refine mtG ((p3, c3)) ?_ (.cons rfl (.cons rfl (.cons rfl (.cons (by rw [if_pos (c := (min ((rat (runs m.is_) x.1).fr + (rat (runs m.is_) x.1).n) (a + n)) < _) (by assumption)]; rfl) (.cons rfl (S6 rfl rfl rfl rfl rfl rfl)))))) (fun _ hw => by rw [if_pos (c := (min ((rat (runs m.is_) x.1).fr + (rat (runs m.is_) x.1).n) (a + n)) < _) (by assumption)]; exact XM.pick (.cons (.t2 .here) (.cons (.t2 .here) (.cons (.t2 .here) (.cons .here (.cons (.there .here) .nil))))) hw)
          exact trivial
        · skip
          refine mtG ((y.1, y.2)) ?_ (.cons rfl (.cons rfl (.cons rfl (.cons (by rw [if_neg (c := (min ((rat (runs m.is_) x.1).fr + (rat (runs m.is_) x.1).n) (a + n)) < _) (by assumption), List.append_nil]; rfl) (.cons rfl (S6 rfl rfl rfl rfl rfl rfl)))))) (fun _ hw => by rw [if_neg (c := (min ((rat (runs m.is_) x.1).fr + (rat (runs m.is_) x.1).n) (a + n)) < _) (by assumption), List.append_nil]; exact XM.pick .h5 hw)
          exact trivial
      intro u _
      refine gC ?_
      refine lp (σ := Int × Option Addr × Nat) (fun z => ((min ((rat (runs m.is_) x.1).fr + (rat (runs m.is_) x.1).n) (a + n)) - z.1).toNat) (fun z => (max (rat (runs m.is_) x.1).fr a) ≤ z.1 ∧ z.1 ≤ (min ((rat (runs m.is_) x.1).fr + (rat (runs m.is_) x.1).n) (a + n))) (fun z => [(13, .int .i64 z.1), (8, .slice z.2.1 ((List.flatMap (cvH a n) (List.take x.1.toNat (runs m.is_))) ++ intsF (max (rat (runs m.is_) x.1).fr a) (z.1 - (max (rat (runs m.is_) x.1).fr a)).toNat).length z.2.2), (0, ptr mb 0 0), (1, .int .i64 a), (2, .int .i64 n), (7, .slice u.1 ((List.flatMap (cvR a n) (List.take x.1.toNat (runs m.is_))) ++ (if (rat (runs m.is_) x.1).fr < (max (rat (runs m.is_) x.1).fr a) then [(⟨(rat (runs m.is_) x.1).fr, (max (rat (runs m.is_) x.1).fr a) - (rat (runs m.is_) x.1).fr, (rat (runs m.is_) x.1).w⟩ : RG)] else []) ++ (if (min ((rat (runs m.is_) x.1).fr + (rat (runs m.is_) x.1).n) (a + n)) < (rat (runs m.is_) x.1).fr + (rat (runs m.is_) x.1).n then [(⟨(min ((rat (runs m.is_) x.1).fr + (rat (runs m.is_) x.1).n) (a + n)), (rat (runs m.is_) x.1).fr + (rat (runs m.is_) x.1).n - (min ((rat (runs m.is_) x.1).fr + (rat (runs m.is_) x.1).n) (a + n)), (rat (runs m.is_) x.1).w⟩ : RG)] else [])).length u.2), (12, .int .i64 (min ((rat (runs m.is_) x.1).fr + (rat (runs m.is_) x.1).n) (a + n))), (17, .slice (some ⟨g1, 0, none⟩) (runs m.is_).length c), (18, .int .i64 (runs m.is_).length), (19, .int .i64 x.1)]) (fun z => XM W (foot [.cells mb 0 34 (encN kb (some ⟨g1, 0, none⟩) (runs m.is_).length c m.fr m.own), frow (some ⟨g1, 0, none⟩) c 171 3 (runs m.is_).length (rgC (runs m.is_))]) [.cells mb 0 34 (encN kb (some ⟨g1, 0, none⟩) (runs m.is_).length c m.fr m.own), frow (some ⟨g1, 0, none⟩) c 171 3 (runs m.is_).length (rgC (runs m.is_)), frow u.1 u.2 171 3 ((List.flatMap (cvR a n) (List.take x.1.toNat (runs m.is_))) ++ (if (rat (runs m.is_) x.1).fr < (max (rat (runs m.is_) x.1).fr a) then [(⟨(rat (runs m.is_) x.1).fr, (max (rat (runs m.is_) x.1).fr a) - (rat (runs m.is_) x.1).fr, (rat (runs m.is_) x.1).w⟩ : RG)] else []) ++ (if (min ((rat (runs m.is_) x.1).fr + (rat (runs m.is_) x.1).n) (a + n)) < (rat (runs m.is_) x.1).fr + (rat (runs m.is_) x.1).n then [(⟨(min ((rat (runs m.is_) x.1).fr + (rat (runs m.is_) x.1).n) (a + n)), (rat (runs m.is_) x.1).fr + (rat (runs m.is_) x.1).n - (min ((rat (runs m.is_) x.1).fr + (rat (runs m.is_) x.1).n) (a + n)), (rat (runs m.is_) x.1).w⟩ : RG)] else [])).length (rgC ((List.flatMap (cvR a n) (List.take x.1.toNat (runs m.is_))) ++ (if (rat (runs m.is_) x.1).fr < (max (rat (runs m.is_) x.1).fr a) then [(⟨(rat (runs m.is_) x.1).fr, (max (rat (runs m.is_) x.1).fr a) - (rat (runs m.is_) x.1).fr, (rat (runs m.is_) x.1).w⟩ : RG)] else []) ++ (if (min ((rat (runs m.is_) x.1).fr + (rat (runs m.is_) x.1).n) (a + n)) < (rat (runs m.is_) x.1).fr + (rat (runs m.is_) x.1).n then [(⟨(min ((rat (runs m.is_) x.1).fr + (rat (runs m.is_) x.1).n) (a + n)), (rat (runs m.is_) x.1).fr + (rat (runs m.is_) x.1).n - (min ((rat (runs m.is_) x.1).fr + (rat (runs m.is_) x.1).n) (a + n)), (rat (runs m.is_) x.1).w⟩ : RG)] else []))), irow z.2.1 z.2.2 3 ((List.flatMap (cvH a n) (List.take x.1.toNat (runs m.is_))) ++ intsF (max (rat (runs m.is_) x.1).fr a) (z.1 - (max (rat (runs m.is_) x.1).fr a)).toNat)]) (((max (rat (runs m.is_) x.1).fr a), x.2.2)) ?_ (.cons rfl (.cons (by show lk _ _ = some (Value.slice _ ((List.flatMap (cvH a n) (List.take x.1.toNat (runs m.is_))) ++ intsF (max (rat (runs m.is_) x.1).fr a) ((max (rat (runs m.is_) x.1).fr a) - (max (rat (runs m.is_) x.1).fr a)).toNat).length _); rw [show ((max (rat (runs m.is_) x.1).fr a) - (max (rat (runs m.is_) x.1).fr a)).toNat = 0 from by omega, intsF, List.append_nil]; rfl) (.cons rfl (.cons rfl (S6 rfl rfl rfl rfl rfl rfl))))) (fun _ hw => by show XM _ _ [_, _, _, irow _ _ _ ((List.flatMap (cvH a n) (List.take x.1.toNat (runs m.is_))) ++ intsF (max (rat (runs m.is_) x.1).fr a) ((max (rat (runs m.is_) x.1).fr a) - (max (rat (runs m.is_) x.1).fr a)).toNat)] _; rw [show ((max (rat (runs m.is_) x.1).fr a) - (max (rat (runs m.is_) x.1).fr a)).toNat = 0 from by omega, intsF, List.append_nil]; exact XM.pick (.cons (.there .here) (.cons (.there .here) (.cons (.there .here) (.cons (.there .here) .nil)))) hw) ?_
      · skip
        exact ⟨Int.le_refl _, by show (max (rat (runs m.is_) x.1).fr a) ≤ (min ((rat (runs m.is_) x.1).fr + (rat (runs m.is_) x.1).n) (a + n)); omega⟩
      intro z hz
      have hil := intsF_len (max (rat (runs m.is_) x.1).fr a) (z.1 - (max (rat (runs m.is_) x.1).fr a)).toNat
      have hll : ((List.flatMap (cvH a n) (List.take x.1.toNat (runs m.is_))) ++ intsF (max (rat (runs m.is_) x.1).fr a) (z.1 - (max (rat (runs m.is_) x.1).fr a)).toNat).length = (List.flatMap (cvH a n) (List.take x.1.toNat (runs m.is_))).length + (z.1 - (max (rat (runs m.is_) x.1).fr a)).toNat := by rw [List.length_append, hil]
      refine gC ?_
      refine cd rfl ?_ ?_ <;> intro h6
      · skip
        refine XO.buildSlice (e := 3) (vs := #[(0, .int .i64 z.1)]) (A := #[.int .i64 z.1]) rfl (fun _ => by kernel_rfl) rfl rfl ?_
        intro nb
        refine gO ?_
        refine XO.appendI (e := 3) (z := z.1) (zs := ((List.flatMap (cvH a n) (List.take x.1.toNat (runs m.is_))) ++ intsF (max (rat (runs m.is_) x.1).fr a) (z.1 - (max (rat (runs m.is_) x.1).fr a)).toNat)) rfl rfl Tryz.underlying55 rt_3_1 (.t4 .here) .here (by omega) rfl ?_
        intro p3 c3
        refine gO ?_
        refine sd (by omega) ?_
        have hZ : (List.flatMap (cvH a n) (List.take x.1.toNat (runs m.is_))) ++ intsF (max (rat (runs m.is_) x.1).fr a) (z.1 + 1 - (max (rat (runs m.is_) x.1).fr a)).toNat = ((List.flatMap (cvH a n) (List.take x.1.toNat (runs m.is_))) ++ intsF (max (rat (runs m.is_) x.1).fr a) (z.1 - (max (rat (runs m.is_) x.1).fr a)).toNat) ++ [z.1] := by rw [show z.1 + 1 - (max (rat (runs m.is_) x.1).fr a) = (z.1 - (max (rat (runs m.is_) x.1).fr a)) + 1 from by omega, intsF_snoc _ (by omega), ← List.append_assoc]; congr 2; omega
        refine ag ((z.1 + 1, p3, c3)) ?_ ?_ (.cons rfl (.cons (by show lk _ _ = some (Value.slice _ ((List.flatMap (cvH a n) (List.take x.1.toNat (runs m.is_))) ++ intsF (max (rat (runs m.is_) x.1).fr a) (z.1 + 1 - (max (rat (runs m.is_) x.1).fr a)).toNat).length _); rw [hZ]; rfl) (.cons rfl (.cons rfl (S6 rfl rfl rfl rfl rfl rfl))))) (fun _ hw => by show XM _ _ [_, _, _, irow _ _ _ ((List.flatMap (cvH a n) (List.take x.1.toNat (runs m.is_))) ++ intsF (max (rat (runs m.is_) x.1).fr a) (z.1 + 1 - (max (rat (runs m.is_) x.1).fr a)).toNat)] _; rw [hZ]; exact XM.pick (.cons (.t2 .here) (.cons (.t2 .here) (.cons (.t2 .here) .h1))) hw)
        · skip
          (simp; omega)
        · skip
          (show _ ≤ z.1 + 1 ∧ z.1 + 1 ≤ _; omega)
      · skip
        refine sd (by omega) ?_
        have hA : (List.flatMap (cvR a n) (List.take (x.1 + 1).toNat (runs m.is_))) = (List.flatMap (cvR a n) (List.take x.1.toNat (runs m.is_))) ++ (if (rat (runs m.is_) x.1).fr < (max (rat (runs m.is_) x.1).fr a) then [(⟨(rat (runs m.is_) x.1).fr, (max (rat (runs m.is_) x.1).fr a) - (rat (runs m.is_) x.1).fr, (rat (runs m.is_) x.1).w⟩ : RG)] else []) ++ (if (min ((rat (runs m.is_) x.1).fr + (rat (runs m.is_) x.1).n) (a + n)) < (rat (runs m.is_) x.1).fr + (rat (runs m.is_) x.1).n then [(⟨(min ((rat (runs m.is_) x.1).fr + (rat (runs m.is_) x.1).n) (a + n)), (rat (runs m.is_) x.1).fr + (rat (runs m.is_) x.1).n - (min ((rat (runs m.is_) x.1).fr + (rat (runs m.is_) x.1).n) (a + n)), (rat (runs m.is_) x.1).w⟩ : RG)] else []) := by rw [flat_take _ ⟨hi.1, by omega⟩, hin, List.append_assoc]
        have ez : z.1 = (min ((rat (runs m.is_) x.1).fr + (rat (runs m.is_) x.1).n) (a + n)) := by omega
        have hH : (List.flatMap (cvH a n) (List.take (x.1 + 1).toNat (runs m.is_))) = (List.flatMap (cvH a n) (List.take x.1.toNat (runs m.is_))) ++ intsF (max (rat (runs m.is_) x.1).fr a) (z.1 - (max (rat (runs m.is_) x.1).fr a)).toNat := by rw [flat_take _ ⟨hi.1, by omega⟩, ez]; rfl
        have hq1 := cvR_len a n (rat (runs m.is_) x.1)
        rw [hin] at hq1
        simp only [List.length_append] at hq1
        refine ag ((x.1 + 1, u, z.2)) ?_ ?_ (.cons rfl (.cons (by show lk _ _ = some (Value.slice _ (List.flatMap (cvR a n) (List.take (x.1 + 1).toNat (runs m.is_))).length _); rw [hA]; rfl) (S6 (by show lk _ _ = some (Value.slice _ (List.flatMap (cvH a n) (List.take (x.1 + 1).toNat (runs m.is_))).length _); rw [hH]; rfl) rfl rfl rfl rfl rfl))) (fun _ hw => by show XM _ _ [_, _, frow _ _ _ _ (List.flatMap (cvR a n) (List.take (x.1 + 1).toNat (runs m.is_))).length (rgC (List.flatMap (cvR a n) (List.take (x.1 + 1).toNat (runs m.is_)))), irow _ _ _ (List.flatMap (cvH a n) (List.take (x.1 + 1).toNat (runs m.is_)))] _; rw [hA, hH]; exact XM.pick .h4 hw)
        · skip
          (simp; omega)
        · skip
          refine ⟨by simp; omega, ?_, ?_⟩
          · show ((List.flatMap (cvR a n) (List.take (x.1 + 1).toNat (runs m.is_))).length : Int) ≤ 2 * (x.1 + 1); rw [hA]; simp only [List.length_append]; omega
          · show ((List.flatMap (cvH a n) (List.take (x.1 + 1).toNat (runs m.is_))).length : Int) ≤ 16 * (x.1 + 1); rw [hH, List.length_append, intsF_len]; omega
  · skip
    refine st .here (encN_r _ _ _ _ _ _ _ _ _) rfl ?_
    refine XE.ret1 rfl rfl (post_of (.cons .here (.cons (.there .here) (.cons (.there .here) .nil))) rfl ?_)
    have e : List.take x.1.toNat (runs m.is_) = (runs m.is_) := List.take_of_length_le (by omega)
    exact ⟨x.2.1.1, x.2.1.2, x.2.2.1, x.2.2.2, by rw [e]; rfl, by rw [e]⟩
end Go.X.Vm

namespace Go.X.Vm
open Go Go.Proofs Go.X
set_option maxRecDepth 20000
set_option maxHeartbeats 4000000

end Go.X.Vm

namespace Go.X.Vm
open Go Go.Proofs Go.X
set_option maxRecDepth 20000
set_option maxHeartbeats 4000000
theorem cl_124 : callable Tryz.prog 124 = true := by kernel_rfl
theorem fo_145_0 : fieldOff Tryz.prog 145 0 = some 0 := by kernel_rfl
theorem fo_145_1 : fieldOff Tryz.prog 145 1 = some 1 := by kernel_rfl
theorem sc_140 : scal Tryz.prog 140 = true := by kernel_rfl
theorem sc_94 : scal Tryz.prog 94 = true := by kernel_rfl
set_option maxHeartbeats 8000000 in
theorem v_Fork (kb pb mb : Nat) (v : VB) (hv : v.Ok) (p : Option Addr) (c : Nat) (m : MS) (hm : m.Ok) : Spec Tryz.prog 57 [ptr mb 0 0]
 [.cells kb 0 577 (encK pb v.by_ v.rf), .cells mb 0 34 (encN kb p (runs m.is_).length c m.fr m.own), frow p c 171 3 (runs m.is_).length (rgC (runs m.is_))]
 (fun x H1 => ∃ nb p1 c1, x = ptr nb 0 0 ∧ H1 = [.cells kb 0 577 (encK pb (v.fork m).by_ (v.fork m).rf), .cells mb 0 34 (encN kb p (runs m.is_).length c m.fr (fun _ => false)), frow p c 171 3 (runs m.is_).length (rgC (runs m.is_)), .cells nb 0 34 (encN kb p1 (runs m.is_).length c1 m.fr (fun _ => false)), frow p1 c1 171 3 (runs m.is_).length (rgC (runs m.is_))]) := by
  refine Spec.go 65 [0, 2, 3, 4, 16, 17, 43] [] Tryz.func57 rfl rfl rfl ?_
  intro W
  refine XC.regionQ mixed (f := 12) (l := #[false, false, false, false, false, false, false, false, false, false, false, false]) rfl rfl XM.drawn' ?_
  refine XQ.pv (i := 0) (l' := #[true, false, false, false, false, false, false, false, false, false, false, false]) rfl (by kernel_rfl) rfl (V.move rfl) rfl rfl ?_
  refine XQ.pv (i := 1) (l' := #[true, true, false, false, false, false, false, false, false, false, false, false]) rfl (by kernel_rfl) rfl (V.nilCheckP rfl) rfl rfl ?_
  refine XQ.pv (i := 2) (l' := #[true, true, true, false, false, false, false, false, false, false, false, false]) rfl (by kernel_rfl) rfl (V.fieldAddr rfl fo_145_0) rfl rfl ?_
  refine XQ.load (i := 3) (l' := #[true, true, true, true, false, false, false, false, false, false, false, false]) (.cells _ _ _ _) [10] rfl (by kernel_rfl) rfl (.there .here) (V.load rfl inEnt (encN.ld_b _ _ _ _ _ _) sc_94) rfl (by kernel_rfl) rfl ?_
  refine XQ.pv (i := 4) (l' := #[true, true, true, true, true, false, false, false, false, false, false, false]) rfl (by kernel_rfl) rfl (V.move rfl) rfl rfl ?_
  refine XQ.pv (i := 5) (l' := #[true, true, true, true, true, true, false, false, false, false, false, false]) rfl (by kernel_rfl) rfl (V.nilCheckP rfl) rfl rfl ?_
  refine XQ.pv (i := 6) (l' := #[true, true, true, true, true, true, true, false, false, false, false, false]) rfl (by kernel_rfl) rfl (V.fieldAddr rfl fo_145_1) rfl rfl ?_
  refine XQ.load (i := 7) (l' := #[true, true, true, true, true, true, true, true, false, false, false, false]) (.cells _ _ _ _) [8, 10] rfl (by kernel_rfl) rfl (.there .here) (V.load rfl inEnt (encN.ld_r _ _ _ _ _ _) sc_140) rfl (by kernel_rfl) rfl ?_
  refine XQ.call (i := 8) (l' := #[true, true, true, true, true, true, true, true, true, false, false, false]) rfl (by kernel_rfl) rfl rfl (v_Clone _ _ _ (by have := runs_len m.is_; omega)) (.cons (.t2 .here) .nil) cl_124 rfl (by rintro _ _ ⟨p1, c1, rfl, rfl⟩; all_goals (intro _ hw'; exact ⟨fun hs => (hs 8 (by first | (simp; done) | (simp; rfl)) rfl).elim, fun _ => inXM (.t3 .here) _ hw', trivial⟩)) ?_
  rintro _ _ ⟨p1, c1, rfl, rfl⟩
  refine XQ.pv (i := 9) (l' := #[true, true, true, true, true, true, true, true, true, true, false, false]) rfl (by kernel_rfl) rfl (V.build (vs := #[(0, ptr kb 0 0), (1, .slice p1 (runs m.is_).length c1)]) rfl (v := .agg (zNs kb p1 (runs m.is_).length c1).toArray) (fun _ => by kernel_rfl)) rfl rfl ?_
  refine XQ.box (i := 10) (l' := #[true, true, true, true, true, true, true, true, true, true, true, false]) (m := 34) (C := encN kb p1 (runs m.is_).length c1 (fun _ => 1) (fun _ => false)) rfl (by kernel_rfl) rfl rfl rfl (zNs_box _ _ _ _) rfl (fun _ _ hw' => ⟨fun hs => (hs 8 (by first | (simp; done) | (simp; rfl)) rfl).elim, fun hs => (hs 10 (by first | (simp; done) | (simp; rfl)) rfl).elim, trivial⟩) ?_
  intro nb
  refine XQ.pv (i := 11) (l' := #[true, true, true, true, true, true, true, true, true, true, true, true]) rfl (by kernel_rfl) rfl (V.assign rfl) rfl rfl ?_
  refine XQ.done (by kernel_rfl) ?_
  refine gE ?_
  refine lp (σ := Int) (fun i => (16 - i).toNat) (fun i => 0 ≤ i ∧ i ≤ 16) (fun i => [(16, .int .i64 i), (0, ptr mb 0 0), (3, ptr nb 0 0)]) (fun i => XM W (foot [.cells kb 0 577 (encK pb v.by_ v.rf), .cells mb 0 34 (encN kb p (runs m.is_).length c m.fr m.own), frow p c 171 3 (runs m.is_).length (rgC (runs m.is_))]) [.cells kb 0 577 (encK pb v.by_ (upN v.rf m.fr i.toNat)), .cells mb 0 34 (encN kb p (runs m.is_).length c m.fr (cutI (fun _ => false) m.own i)), frow p c 171 3 (runs m.is_).length (rgC (runs m.is_)), .cells nb 0 34 (encN kb p1 (runs m.is_).length c1 (cutI m.fr (fun _ => 1) i) (fun _ => false)), frow p1 c1 171 3 (runs m.is_).length (rgC (runs m.is_))]) (0) ?_ (S3 rfl rfl rfl) (fun _ hw => by show XM _ _ [_, .cells mb 0 34 (encN _ _ _ _ _ (cutI (fun _ => false) m.own 0)), _, .cells nb 0 34 (encN _ _ _ _ (cutI m.fr (fun _ => 1) 0) _), _] _; rw [cutI_zero, cutI_zero]; exact XM.pick (.cons (.t3 .here) (.cons (.t3 .here) (.cons (.there .here) .h2))) hw) ?_
  · skip
    omega
  intro i hi
  have hlo := hm.lo i
  have hup := upN_le v.rf m.fr i.toNat (m.fr i - 1)
  have hrf := hv.rf (m.fr i - 1)
  refine gC ?_
  refine cd rfl ?_ ?_ <;> intro h1
  · skip
    refine sd (by omega) ?_
    refine st (.there .here) (encN.st_p_I_write _ _ _ _ _ _ _ (by omega) _) rfl ?_
    refine rq [0, 1, 2, 3, 4, 5, 6, 7, 8, 9, 10, 11] mixed (by kernel_rfl) ?_
    refine sd (by omega) ?_
    refine ldA (.there .here) (encN_page _ _ _ _ _ _ _ (by omega)) ?_
    refine sd (by omega) ?_
    refine stA (.t3 .here) (encN_spage _ _ _ _ _ _ _ _ _ (by omega)) rfl ⟨rfl, rfl⟩ ?_
    refine sd (by omega) ?_
    refine ld (.there .here) (encN.ld_p_I_frame _ _ _ _ _ _ _ (by omega)) ?_
    refine cd rfl ?_ ?_ <;> intro h2
    · skip
      refine rq [0, 1, 2, 3, 4, 5, 6, 7, 8, 9, 10, 11, 12, 13, 14, 15, 16, 17, 18, 19] mixed (by kernel_rfl) ?_
      refine ld (.there .here) (encN.ld_b _ _ _ _ _ _) ?_
      refine sd (by omega) ?_
      refine ld (.there .here) (encN.ld_p_I_frame _ _ _ _ _ _ _ (by omega)) ?_
      refine sd (by omega) ?_
      refine ld .here (encK.ld_refs_I _ _ _ _ (by omega)) ?_
      refine sd (by omega) ?_
      refine sd (by omega) ?_
      refine st .here (encK.st_refs_I _ _ _ _ (by omega) _) rfl ?_
      refine sd (by omega) ?_
      have hU : upN v.rf m.fr (i + 1).toNat = fset (upN v.rf m.fr i.toNat) (m.fr i - 1) (upN v.rf m.fr i.toNat (m.fr i - 1) + 1) := by rw [upN_next hi.1, if_pos (by omega)]
      refine ag (i + 1) ?_ ?_ (S3 rfl rfl rfl) (fun _ hw => by rw [fset_eq (cutI (fun _ => false) m.own i) i false, fset_self (fun _ => false) i rfl] at hw; show XM _ _ [.cells kb 0 577 (encK pb v.by_ (upN v.rf m.fr (i + 1).toNat)), _, _, _, _] _; rw [hU, ← cutI_next hi.1 (f := (fun _ => false)) (g := m.own) (v := false) rfl, ← cutI_next hi.1 (f := m.fr) (g := fun _ => 1) (v := m.fr i - 1 + 1) (by omega)]; exact XM.pick .h5 hw)
      · skip
        (first | omega | (simp; done) | (simp; omega))
      · skip
        (first | omega | (simp; done) | (simp; omega))
    · skip
      refine sd (by omega) ?_
      have hU : upN v.rf m.fr (i + 1).toNat = upN v.rf m.fr i.toNat := by rw [upN_next hi.1, if_neg (by omega)]
      refine ag (i + 1) ?_ ?_ (S3 rfl rfl rfl) (fun _ hw => by rw [fset_eq (cutI (fun _ => false) m.own i) i false, fset_self (fun _ => false) i rfl] at hw; show XM _ _ [.cells kb 0 577 (encK pb v.by_ (upN v.rf m.fr (i + 1).toNat)), _, _, _, _] _; rw [hU, ← cutI_next hi.1 (f := (fun _ => false)) (g := m.own) (v := false) rfl, ← cutI_next hi.1 (f := m.fr) (g := fun _ => 1) (v := m.fr i - 1 + 1) (by omega)]; exact XM.pick .h5 hw)
      · skip
        (first | omega | (simp; done) | (simp; omega))
      · skip
        (first | omega | (simp; done) | (simp; omega))
  · skip
    refine XE.ret1 rfl rfl (post_of .h5 rfl ?_)
    have e : i = 16 := by omega
    subst e
    exact ⟨nb, p1, c1, rfl, by rw [encN_congr (f := cutI m.fr (fun _ => 1) 16) (f' := m.fr) (o := (fun _ => false)) (o' := (fun _ => false)) (fun i h0 h1 => ⟨by unfold cutI; rw [if_pos (by omega)], rfl⟩), encN_congr (f := m.fr) (f' := m.fr) (o := cutI (fun _ => false) m.own 16) (o' := (fun _ => false)) (fun i h0 h1 => ⟨rfl, by unfold cutI; rw [if_pos (by omega)]⟩)]; rfl⟩
end Go.X.Vm

namespace Go.X.Vm
open Go Go.Proofs Go.X
set_option maxRecDepth 20000
set_option maxHeartbeats 4000000

theorem v_dropN (kb pb : Nat) (v : VB) (hv : v.Ok) (f : Int) (hf : 0 ≤ f ∧ f < 64) (h1 : 1 ≤ v.rf f) : Spec Tryz.prog 179 [ptr kb 0 0, .int .i64 f]
 [.cells kb 0 577 (encK pb v.by_ v.rf), .cells pb 0 71 (encP v.bb.pool)]
 (fun x H1 => x = .tuple #[] ∧ H1 = [.cells kb 0 577 (encK pb (v.drop f).by_ (v.drop f).rf), .cells pb 0 71 (encP (v.drop f).bb.pool)]) := by
  have hb := hv.rf f
  refine Spec.go 27 [0, 1, 20] [] Tryz.func179 rfl rfl rfl ?_
  intro W
  refine rq [0, 1, 2, 3, 4, 5, 6, 7, 8, 9, 10] mixed (by kernel_rfl) ?_
  refine sd (by omega) ?_
  refine ld .here (encK.ld_refs_I _ _ _ _ (by omega)) ?_
  refine sd (by omega) ?_
  refine sd (by omega) ?_
  refine st .here (encK.st_refs_I _ _ _ _ (by omega) _) rfl ?_
  refine sd (by omega) ?_
  refine ld .here (encK.ld_refs_I _ _ _ _ (by omega)) ?_
  have e1 : fset v.rf f (v.rf f - 1) f = v.rf f - 1 := fset_eq _ _ _
  refine cd rfl ?_ ?_ <;> intro h1
  · skip
    refine ld .here (encK.ld_p _ _ _) ?_
    refine ca (p_Give _ _ _ hv.bb _) (.cons (.there .here) .nil) ?_
    rintro _ _ ⟨rfl, rfl⟩
    refine gO ?_
    refine XE.end0 rfl (post_of (.cons (.there .here) .h1) rfl ?_)
    rw [VB.drop_p (by omega)]; exact ⟨rfl, rfl⟩
  · skip
    refine XE.end0 rfl (post_of .h2 rfl ?_)
    rw [VB.drop_n (by omega)]; exact ⟨rfl, rfl⟩
set_option maxHeartbeats 8000000 in
theorem v_UnmapN (kb pb mb : Nat) (v : VB) (hv : v.Ok) (p : Option Addr) (c : Nat) (m : MS) (hm : m.Ok) (hin : m.In v) (a n : Int) : Spec Tryz.prog 107 [ptr mb 0 0, .int .i64 a, .int .i64 n]
 [.cells kb 0 577 (encK pb v.by_ v.rf), .cells pb 0 71 (encP v.bb.pool), .cells mb 0 34 (encN kb p (runs m.is_).length c m.fr m.own), frow p c 171 3 (runs m.is_).length (rgC (runs m.is_))]
 (fun x H1 => x = .tuple #[.int .i64 (m.unmap v a n).1, errv 102 (m.unmap v a n).2.1] ∧ ∃ p2 c2, H1 = [.cells kb 0 577 (encK pb (m.unmap v a n).2.2.1.by_ (m.unmap v a n).2.2.1.rf), .cells pb 0 71 (encP (m.unmap v a n).2.2.1.bb.pool), .cells mb 0 34 (encN kb p2 (runs (m.unmap v a n).2.2.2.is_).length c2 (m.unmap v a n).2.2.2.fr (m.unmap v a n).2.2.2.own), frow p2 c2 171 3 (runs (m.unmap v a n).2.2.2.is_).length (rgC (runs (m.unmap v a n).2.2.2.is_))]) := by
  refine Spec.go 59 [0, 1, 2, 6, 7, 8, 9, 11, 16, 21, 22, 23, 24, 34] [] Tryz.func107 rfl rfl rfl ?_
  intro W
  refine ca (v_span _ _) .nil ?_
  rintro _ _ ⟨rfl, rfl⟩
  refine gO ?_
  refine cd rfl ?_ ?_ <;> intro h1
  · skip
    have hb : badS a n := by
      by_cases q : badS a n
      · exact q
      · exact absurd (if_neg q) h1
    refine XE.ret2 rfl rfl rfl (post_of .h4 rfl ?_)
    exact ⟨by rw [if_pos hb, MS.unmap_bad hb]; rfl, p, c, by rw [MS.unmap_bad hb]⟩
  · skip
    have hb : ¬ badS a n := fun q => h1 (fun q2 => by rw [if_pos q] at q2; omega)
    have hb2 := hb
    unfold badS at hb2
    have hn : 0 < n := by omega
    have hL := runs_len m.is_
    refine ca (v_carve _ _ _ _ _ hm _ _ hb) (.cons (.t2 .here) (.cons (.t2 .here) .nil)) ?_
    rintro _ _ ⟨p4, c4, p5, c5, rfl, rfl⟩
    have hcl := carved_len (runs m.is_) a n
    rw [hits_span hm.f hb]
    generalize hq : spanL (fun i => m.is_ i != 0) a n.toNat = l
    have hls : ∀ i ∈ l, a ≤ i ∧ i < a + n := fun i hi => by rw [← hq, mem_spanL] at hi; omega
    have hst : l.Pairwise (fun x y => x < y) := hq ▸ spanL_sorted _
    have hle : l.length ≤ 16 := by rw [← hq]; have := spanL_len (p := fun i => m.is_ i != 0) (a := a) n.toNat; omega
    refine gO ?_
    refine lp (σ := Int) (fun i => (l.length - i).toNat) (fun i => 0 ≤ i ∧ i ≤ l.length) (fun i => [(23, .int .i64 i), (9, .int .i64 (unL v m.fr (l.take i.toNat)).1), (0, ptr mb 0 0), (21, .slice p5 l.length c5), (22, .int .i64 l.length)]) (fun i => XM W (foot [.cells kb 0 577 (encK pb v.by_ v.rf), .cells pb 0 71 (encP v.bb.pool), .cells mb 0 34 (encN kb p (runs m.is_).length c m.fr m.own), frow p c 171 3 (runs m.is_).length (rgC (runs m.is_))]) [.cells kb 0 577 (encK pb (unL v m.fr (l.take i.toNat)).2.by_ (unL v m.fr (l.take i.toNat)).2.rf), .cells pb 0 71 (encP (unL v m.fr (l.take i.toNat)).2.bb.pool), .cells mb 0 34 (encN kb p4 ((runs m.is_).flatMap (cvR a n)).length c4 (cut0 m.fr (l.take i.toNat)) (cutF m.own (l.take i.toNat))), frow p4 c4 171 3 ((runs m.is_).flatMap (cvR a n)).length (rgC ((runs m.is_).flatMap (cvR a n))), irow p5 c5 3 l]) (0) ?_ (S5 rfl rfl rfl rfl rfl) (fun _ hw => by show XM _ _ [_, _, .cells mb 0 34 (encN kb p4 _ c4 (cut0 m.fr []) (cutF m.own [])), _, _] _; rw [cut0_nil, cutF_nil]; exact XM.pick (.cons (.t3 .here) (.cons (.t3 .here) .h3)) hw) ?_
    · skip
      omega
    intro i hi
    refine gC ?_
    refine cd rfl ?_ ?_ <;> intro h2
    · skip
      refine XR.openRow (.t4 .here) (by omega) ?_
      intro g1 h3
      subst h3
      refine sd (by omega) ?_
      refine ldR (.t4 .here) (ints_at (by omega)) ?_
      have hmm := at0_mem (l := l) (i := i) (by omega)
      have ha := hls _ hmm
      have hnew := at0_new hst (i := i) (by omega)
      have e0 : cut0 m.fr (l.take i.toNat) (at0 l i) = m.fr (at0 l i) := by unfold cut0; rw [if_neg hnew]
      have hit := itake (l := l) (i := i) (by omega)
      have hu := unL_ok hv hm hin _ (l.take i.toNat) rfl (nodup_take hst _)
      have hTl : (l.take i.toNat).length ≤ 16 := by rw [List.length_take]; omega
      have hlo := hm.lo (at0 l i)
      refine sd (by omega) ?_
      refine ld (.t2 .here) (encN.ld_p_I_frame _ _ _ _ _ _ _ (by omega)) ?_
      refine cd rfl ?_ ?_ <;> intro h4
      · skip
        have hpos : 0 < m.fr (at0 l i) := by omega
        have hrf : 1 ≤ (unL v m.fr (l.take i.toNat)).2.rf (cut0 m.fr (l.take i.toNat) (at0 l i) - 1) := by
          rw [e0, hu.2.2 (m.fr (at0 l i) - 1) (fun j hj q => hnew ((hm.inj _ j hpos (by omega)) ▸ hj))]; exact hin _ hpos
        refine rq [0, 1, 2, 3, 4, 5, 6, 7, 8, 9, 10, 11] mixed (by kernel_rfl) ?_
        refine ld (.t2 .here) (encN.ld_b _ _ _ _ _ _) ?_
        refine sd (by omega) ?_
        refine ld (.t2 .here) (encN.ld_p_I_frame _ _ _ _ _ _ _ (by omega)) ?_
        refine ca (v_dropN _ _ _ hu.1 (cut0 m.fr (l.take i.toNat) (at0 l i) - 1) (by omega) hrf) .h2 ?_
        rintro _ _ ⟨rfl, rfl⟩
        refine gO ?_
        refine XO.v (V.build (vs := #[(0, .int .i64 (-1))]) rfl (v := .agg #[.int .i64 (-1), .bool false]) (fun _ => by kernel_rfl)) rfl (gO ?_)
        refine sd (by omega) ?_
        refine stA (.t2 .here) (encN_spage _ _ _ _ _ _ _ _ _ (by omega)) rfl ⟨rfl, rfl⟩ ?_
        refine sd (by omega) ?_
        refine sd (by omega) ?_
        have hS : (unL v m.fr (l.take (i + 1).toNat)) = ((unL v m.fr (l.take i.toNat)).1 + 1, (unL v m.fr (l.take i.toNat)).2.drop (cut0 m.fr (l.take i.toNat) (at0 l i) - 1)) := by rw [hit, unL_snoc]; unfold unS; rw [if_pos hpos, e0]
        have hC : cut0 m.fr (l.take (i + 1).toNat) = fset (cut0 m.fr (l.take i.toNat)) (at0 l i) (-1 + 1) := by rw [hit, cut0_snoc]
        have hF : cutF m.own (l.take (i + 1).toNat) = fset (cutF m.own (l.take i.toNat)) (at0 l i) false := by rw [hit, cutF_snoc]
        refine ag (i + 1) ?_ ?_ (S5 rfl (by show lk _ _ = some (.int .i64 (unL v m.fr (l.take (i + 1).toNat)).1); rw [hS]; rfl) rfl rfl rfl) (fun _ hw => by show XM _ _ [.cells kb 0 577 (encK pb (unL v m.fr (l.take (i + 1).toNat)).2.by_ (unL v m.fr (l.take (i + 1).toNat)).2.rf), .cells pb 0 71 (encP (unL v m.fr (l.take (i + 1).toNat)).2.bb.pool), .cells mb 0 34 (encN kb p4 ((runs m.is_).flatMap (cvR a n)).length c4 (cut0 m.fr (l.take (i + 1).toNat)) (cutF m.own (l.take (i + 1).toNat))), frow p4 c4 171 3 ((runs m.is_).flatMap (cvR a n)).length (rgC ((runs m.is_).flatMap (cvR a n))), _] _; rw [hS, hC, hF]; exact XM.pick .h5 hw)
        · skip
          (first | omega | (simp; done) | (simp; omega))
        · skip
          (first | omega | (simp; done) | (simp; omega))
      · skip
        refine sd (by omega) ?_
        have h0 : m.fr (at0 l i) = 0 := by omega
        have hS : (unL v m.fr (l.take (i + 1).toNat)) = (unL v m.fr (l.take i.toNat)) := by rw [hit, unL_snoc]; unfold unS; rw [if_neg (by omega)]
        have hC : cut0 m.fr (l.take (i + 1).toNat) = cut0 m.fr (l.take i.toNat) := by rw [hit, cut0_same h0]
        have hF : cutF m.own (l.take (i + 1).toNat) = cutF m.own (l.take i.toNat) := by rw [hit, cutF_same (hm.ow _ h0)]
        refine ag (i + 1) ?_ ?_ (S5 rfl (by show lk _ _ = some (.int .i64 (unL v m.fr (l.take (i + 1).toNat)).1); rw [hS]; rfl) rfl rfl rfl) (fun _ hw => by show XM _ _ [.cells kb 0 577 (encK pb (unL v m.fr (l.take (i + 1).toNat)).2.by_ (unL v m.fr (l.take (i + 1).toNat)).2.rf), .cells pb 0 71 (encP (unL v m.fr (l.take (i + 1).toNat)).2.bb.pool), .cells mb 0 34 (encN kb p4 ((runs m.is_).flatMap (cvR a n)).length c4 (cut0 m.fr (l.take (i + 1).toNat)) (cutF m.own (l.take (i + 1).toNat))), frow p4 c4 171 3 ((runs m.is_).flatMap (cvR a n)).length (rgC ((runs m.is_).flatMap (cvR a n))), _] _; rw [hS, hC, hF]; exact XM.pick .h5 hw)
        · skip
          (first | omega | (simp; done) | (simp; omega))
        · skip
          (first | omega | (simp; done) | (simp; omega))
    · skip
      have e : (l.take i.toNat) = l := List.take_of_length_le (by omega)
      rw [e]
      have eu := MS.unmap_ok v hm hb
      rw [hq] at eu
      refine ca (v_tidy _ _ _ _ _ _ _ _ (hm.f.setI hb (.inl rfl)) (carved_gl (runs_ok hm.f) hn) (carved_cov (runs_ok hm.f) (runs_cov hm.f) hn) (by first | omega | (simp only [List.length_append, List.length_singleton]; omega))) (.cons (.t2 .here) (.cons (.t2 .here) .nil)) ?_
      rintro _ _ ⟨rfl, p2, c2, rfl⟩
      refine gO ?_
      refine XE.ret2 rfl rfl rfl (post_of (.cons (.t2 .here) (.cons (.t2 .here) .h2)) rfl ?_)
      exact ⟨by rw [eu]; rfl, p2, c2, by rw [eu]⟩
end Go.X.Vm

namespace Go.X.Kn
open Go Go.Proofs Go.X
set_option maxRecDepth 20000
set_option maxHeartbeats 4000000
theorem sc_3 : scal Tryz.prog 3 = true := by kernel_rfl
theorem sz_3_1 : szOf Tryz.prog 3 = some 1 := by kernel_rfl
theorem k_Child (kb : Nat) (k : KP) (n : Int) (hn : 0 ≤ n ∧ n < 20) : Spec Tryz.prog 58 [ptr kb 0 (offB n)]
 [.cells kb 0 453 (encKn k)]
 (fun v H1 => ∃ c, v = ptr c 0 0 ∧ H1 = [.cells c 0 11 (Sg.encB (k.u n).bx.child), .cells kb 0 453 (encKn k)]) := by
  refine Spec.go 8 [0, 2, 3] [] Tryz.func58 rfl rfl rfl ?_
  intro W
  refine ldA .here (encKn.ld_bx _ (by omega)) ?_
  refine XO.allocZ (z := .agg #[.int .u16 0, .int .u16 0, .int .i64 0, .int .i64 0, .int .i64 0, .int .i64 0, .int .i64 0, .int .i64 0, .int .i64 0, .int .i64 0, .int .i64 0]) (m := 11) (C := Sg.encB Sg.BS.init) (by kernel_rfl) rfl Sg.boxB_init rfl ?_
  intro c
  refine gO ?_
  refine stA .here (Sg.encB_put Sg.encB_out _) rfl ⟨rfl, rfl⟩ ?_
  refine st .here (Sg.encB_wait _ (w' := fun _ => false) rfl) rfl ?_
  refine XE.ret1 rfl rfl (post_of .h2 rfl ?_)
  try dsimp only [SW.den, SV.den, dens, ofC]
  exact ⟨c, rfl, rfl⟩
end Go.X.Kn

namespace Go.X.Kn
open Go Go.Proofs Go.X
set_option maxRecDepth 20000
set_option maxHeartbeats 4000000

end Go.X.Kn

namespace Go.X.Kn
open Go Go.Proofs Go.X
set_option maxRecDepth 20000
set_option maxHeartbeats 4000000
theorem ag_39 : aggT Tryz.prog 39 = true := by kernel_rfl
theorem sz_39_2 : szOf Tryz.prog 39 = some 2 := by kernel_rfl
end Go.X.Kn

namespace Go.X.Kn
open Go Go.Proofs Go.X
set_option maxRecDepth 20000
set_option maxHeartbeats 4000000
theorem ag_83 : aggT Tryz.prog 83 = true := by kernel_rfl
theorem ag_87 : aggT Tryz.prog 87 = true := by kernel_rfl
theorem cl_57 : callable Tryz.prog 57 = true := by kernel_rfl
theorem cl_58 : callable Tryz.prog 58 = true := by kernel_rfl
theorem fo_89_2 : fieldOff Tryz.prog 89 2 = some 2 := by kernel_rfl
theorem fo_89_4 : fieldOff Tryz.prog 89 4 = some 4 := by kernel_rfl
theorem fo_89_5 : fieldOff Tryz.prog 89 5 = some 5 := by kernel_rfl
theorem fo_89_6 : fieldOff Tryz.prog 89 6 = some 11 := by kernel_rfl
theorem sc_82 : scal Tryz.prog 82 = true := by kernel_rfl
theorem sz_83_6 : szOf Tryz.prog 83 = some 6 := by kernel_rfl
theorem sz_87_11 : szOf Tryz.prog 87 = some 11 := by kernel_rfl
theorem sz_89_22 : szOf Tryz.prog 89 = some 22 := by kernel_rfl
theorem kid_build (n g : Int) (nb : Nat) (f : Int → Int) (b : Sg.BS) : ∀ w, (Instr.build 89 #[(0, .int .i64 1), (1, .int .i64 n), (2, .int .i64 g), (4, ptr nb 0 0), (5, .agg (fdA f)), (6, .agg (bxA b))]).run Tryz.prog w = .ok (.agg (PU.arr ⟨1, n, g, 0, ptr nb 0 0, f, b⟩)) w := fun w => by kernel_rfl
end Go.X.Kn
