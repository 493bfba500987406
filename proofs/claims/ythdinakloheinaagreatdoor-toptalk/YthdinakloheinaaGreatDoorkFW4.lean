import Derived.Test.YthdinakloheinaaGreatDoorkFO
import Derived.Test.YthdinakloheinaaGreatDoorKB
import Derived.Test.YthdinakloheinaaGreatDoorXBytes
import Derived.Test.YthdinakloheinaaGreatDoorkFP
import Derived.Test.YthdinakloheinaaGreatDoorkFPL
namespace Go.X.Fa
open Go Go.Proofs Go.X
set_option maxRecDepth 20000
set_option maxHeartbeats 4000000
theorem rt_254_2 : rowT Tryz.prog 254 2 = true := by kernel_rfl
theorem sz_254_2 : szOf Tryz.prog 254 = some 2 := by kernel_rfl
theorem q_less (k i k2 i2 : Int) : Spec Tryz.prog 243 [.agg #[.int .u64 (k), .int .i64 (i)], .agg #[.int .u64 (k2), .int .i64 (i2)]]
 []
 (fun v H1 => v = .bool (decide (lt2 k i k2 i2)) ∧ H1 = []) := by
  refine Spec.go 24 [2, 3, 4] [] Tryz.func243 rfl rfl rfl ?_
  intro W
  refine XO.box (m := 2) (C := encIt k i) rfl rfl (encIt_box _ _) rfl ?_
  intro ba
  refine gO ?_
  refine XO.box (m := 2) (C := encIt k2 i2) rfl rfl (encIt_box _ _) rfl ?_
  intro bc
  refine gO ?_
  refine ld (.there .here) (encIt_key _ _) ?_
  refine ld .here (encIt_key _ _) ?_
  refine sp 10 rfl ?_ ?_ <;> intro h1
  · skip
    refine XE.ret1 rfl rfl (post_of .nil rfl ?_)
    try dsimp only [SW.den, SV.den, dens, ofC]
    refine ⟨congrArg Value.bool ?_, rfl⟩
    first
    | exact (decide_eq_true (.inl (by assumption))).symm
    | exact (decide_eq_false (by unfold lt2; omega)).symm
    | (have e : lt2 k i k2 i2 ↔ i < i2 := by unfold lt2; omega
       simp only [e])
  · skip
    refine ld (.there .here) (encIt_key _ _) ?_
    refine ld .here (encIt_key _ _) ?_
    refine sp 16 rfl ?_ ?_ <;> intro h2
    · skip
      refine ld (.there .here) (encIt_id _ _) ?_
      refine ld .here (encIt_id _ _) ?_
      refine XE.ret1 rfl rfl (post_of .nil rfl ?_)
      try dsimp only [SW.den, SV.den, dens, ofC]
      refine ⟨congrArg Value.bool ?_, rfl⟩
      first
      | exact (decide_eq_true (.inl (by assumption))).symm
      | exact (decide_eq_false (by unfold lt2; omega)).symm
      | (have e : lt2 k i k2 i2 ↔ i < i2 := by unfold lt2; omega
         simp only [e])
    · skip
      refine XE.ret1 rfl rfl (post_of .nil rfl ?_)
      try dsimp only [SW.den, SV.den, dens, ofC]
      refine ⟨congrArg Value.bool ?_, rfl⟩
      first
      | exact (decide_eq_true (.inl (by assumption))).symm
      | exact (decide_eq_false (by unfold lt2; omega)).symm
      | (have e : lt2 k i k2 i2 ↔ i < i2 := by unfold lt2; omega
         simp only [e])
theorem q_put (b o g cap : Nat) (s : QS) (i k id : Int) (hi : 0 ≤ i ∧ i < s.n) (hd : 0 ≤ id ∧ id < 64) (hn : s.n ≤ 1000) : Spec Tryz.prog 224 [ptr b o 0, .int .i64 i, .agg #[.int .u64 (k), .int .i64 (id)]]
 [.cells b o 65 (encQ (s) (some ⟨g, 0, none⟩) cap), frow (some ⟨g, 0, none⟩) cap 254 2 (s).n (encH (s))]
 (fun v H1 => v = .tuple #[] ∧ H1 = [.cells b o 65 (encQ (s.set i k id) (some ⟨g, 0, none⟩) cap), frow (some ⟨g, 0, none⟩) cap 254 2 (s.set i k id).n (encH (s.set i k id))]) := by
  refine Spec.go 21 [0, 1, 5] [] Tryz.func224 rfl rfl rfl ?_
  intro W
  refine XO.box (m := 2) (C := encIt k id) rfl rfl (encIt_box _ _) rfl ?_
  intro bx
  refine gO ?_
  refine rq [0, 1, 2, 3, 4, 5, 6, 7] mixed (by kernel_rfl) ?_
  refine ld (.there .here) (encQ_h _ _ _) ?_
  refine ldA .here (encIt_item _ _) ?_
  refine sd (by omega) ?_
  refine stFA (.t2 .here) (encH_set _ _ _ _ _ (by omega)) rfl ⟨rfl, rfl⟩ ?_
  refine rq [0, 1, 2, 3, 4, 5, 6, 7, 8] mixed (by kernel_rfl) ?_
  refine ld .here (encIt_id _ _) ?_
  refine sd (by omega) ?_
  refine sd (by omega) ?_
  refine st (.there .here) (encQ_setat _ _ _ _ _ (by omega)) rfl ?_
  refine XE.end0 rfl (post_of (.cons (.there .here) (.cons (.there .here) .nil)) rfl ?_)
  try dsimp only [SW.den, SV.den, dens, ofC]
  exact ⟨rfl, rfl⟩
theorem q_up (b o g cap : Nat) (s : QS) (i : Int) (hi : 0 ≤ i ∧ i < s.n) (hR : s.Rng) (hn : s.n ≤ 1000) : Spec Tryz.prog 223 [ptr b o 0, .int .i64 i]
 [.cells b o 65 (encQ (s) (some ⟨g, 0, none⟩) cap), frow (some ⟨g, 0, none⟩) cap 254 2 (s).n (encH (s))]
 (fun v H1 => v = .tuple #[] ∧ H1 = [.cells b o 65 (encQ (s.up i) (some ⟨g, 0, none⟩) cap), frow (some ⟨g, 0, none⟩) cap 254 2 (s.up i).n (encH (s.up i))]) := by
  obtain ⟨r1, r2⟩ := hR i hi.1 hi.2
  refine Spec.go 46 [0, 1, 4, 26] [] Tryz.func223 rfl rfl rfl ?_
  intro W
  refine ld .here (encQ_h _ _ _) ?_
  refine sd (by omega) ?_
  refine ldAF (.there .here) (encH_item _ _ _ (by omega)) ?_
  refine XO.allocZ (z := .agg #[.int .u64 0, .int .i64 0]) (m := 2) (C := cellsOf #[.int .u64 0, .int .i64 0]) (by kernel_rfl) rfl (fun _ _ => rfl) rfl ?_
  intro bx
  refine gO ?_
  refine stA .here (encIt_set _ _) rfl ⟨rfl, rfl⟩ ?_
  refine lp (σ := QS × Int) (fun x => x.2.toNat) (fun x => x.1.n = s.n ∧ (0 ≤ x.2 ∧ x.2 < s.n) ∧ x.1.Rng ∧ QS.upF x.2.toNat x.1 x.2 (s.K i) (s.I i) = s.up i) (fun x => [(1, .int .i64 x.2), (0, ptr b o 0), (4, ptr bx 0 0)]) (fun x => XM W (foot [.cells b o 65 (encQ (s) (some ⟨g, 0, none⟩) cap), frow (some ⟨g, 0, none⟩) cap 254 2 (s).n (encH (s))]) [.cells bx 0 2 (encIt (s.K i) (s.I i)), .cells b o 65 (encQ (x.1) (some ⟨g, 0, none⟩) cap), frow (some ⟨g, 0, none⟩) cap 254 2 (x.1).n (encH (x.1))]) ((s, i)) ?_ (S3 rfl rfl rfl) (fun _ hw => XM.pick .h3 hw) ?_
  · skip
    exact ⟨rfl, hi, hR, rfl⟩
  intro x hx
  obtain ⟨xn, xi, xR, xu⟩ := hx
  refine gC ?_
  refine rq [0, 1, 2, 3, 4, 5, 6, 7, 8, 9, 10, 11, 12, 13, 14] mixed (by kernel_rfl) ?_
  refine sp 14 rfl ?_ ?_ <;> intro h1
  · skip
    have hp0 : 0 ≤ ((x.2 - 1) / 2) ∧ ((x.2 - 1) / 2) < x.1.n := by omega
    have hpr := xR ((x.2 - 1) / 2) hp0.1 hp0.2
    refine ldA .here (encIt_item _ _) ?_
    refine ld (.there .here) (encQ_h _ _ _) ?_
    refine sd (by omega) ?_
    refine XO.v (V.quo rfl rfl (by first | decide | omega) _ (quo_nn (by omega) (by omega) (by omega))) rfl (gO ?_)
    refine sd (by omega) ?_
    refine ldAF (.t2 .here) (encH_item _ _ _ (by omega)) ?_
    refine ca (q_less _ _ _ _) .nil ?_
    rintro _ _ ⟨rfl, rfl⟩
    refine gO ?_
    refine cd rfl ?_ ?_ <;> intro h2
    · skip
      have hst : QS.upF x.2.toNat x.1 x.2 (s.K i) (s.I i) = QS.upF (((x.2 - 1) / 2)).toNat (x.1.set x.2 (x.1.K ((x.2 - 1) / 2)) (x.1.I ((x.2 - 1) / 2))) ((x.2 - 1) / 2) (s.K i) (s.I i) := QS.upF_step (by omega) h2
      refine ld (.there .here) (encQ_h _ _ _) ?_
      refine sd (by omega) ?_
      refine XO.v (V.quo rfl rfl (by first | decide | omega) _ (quo_nn (by omega) (by omega) (by omega))) rfl (gO ?_)
      refine sd (by omega) ?_
      refine ldAF (.t2 .here) (encH_item _ _ _ (by omega)) ?_
      refine ca (q_put _ _ _ _ _ _ _ _ (by omega) (by omega) (by omega)) (.cons (.there .here) (.cons (.there .here) .nil)) ?_
      rintro _ _ ⟨rfl, rfl⟩
      refine gO ?_
      refine sd (by omega) ?_
      refine XO.v (V.quo rfl rfl (by first | decide | omega) _ (quo_nn (by omega) (by omega) (by omega))) rfl (gO ?_)
      refine ag ((x.1.set x.2 (x.1.K ((x.2 - 1) / 2)) (x.1.I ((x.2 - 1) / 2)), ((x.2 - 1) / 2))) ?_ ?_ (S3 rfl rfl rfl) (fun _ hw => XM.pick (.cons (.t2 .here) .h2) hw)
      · skip
        (show (((x.2 - 1) / 2)).toNat < x.2.toNat; omega)
      · skip
        exact ⟨xn, by simp; omega, xR.set hpr, by rw [← xu, hst]⟩
    · skip
      have hst : QS.upF x.2.toNat x.1 x.2 (s.K i) (s.I i) = x.1.set x.2 (s.K i) (s.I i) := QS.upF_stop (fun q => h2 q.2)
      rw [hst] at xu
      refine ldA .here (encIt_item _ _) ?_
      refine ca (q_put _ _ _ _ _ _ _ _ (by omega) (by omega) (by omega)) (.cons (.there .here) (.cons (.there .here) .nil)) ?_
      rintro _ _ ⟨rfl, rfl⟩
      refine gO ?_
      refine XE.end0 rfl (post_of .h2 rfl ?_)
      try dsimp only [SW.den, SV.den, dens, ofC]
      rw [← xu]; exact ⟨rfl, rfl⟩
  · skip
    have hst : QS.upF x.2.toNat x.1 x.2 (s.K i) (s.I i) = x.1.set x.2 (s.K i) (s.I i) := QS.upF_stop (fun q => by omega)
    rw [hst] at xu
    refine ldA .here (encIt_item _ _) ?_
    refine ca (q_put _ _ _ _ _ _ _ _ (by omega) (by omega) (by omega)) (.cons (.there .here) (.cons (.there .here) .nil)) ?_
    rintro _ _ ⟨rfl, rfl⟩
    refine gO ?_
    refine XE.end0 rfl (post_of .h2 rfl ?_)
    try dsimp only [SW.den, SV.den, dens, ofC]
    rw [← xu]; exact ⟨rfl, rfl⟩
theorem q_down (b o g cap : Nat) (s : QS) (i : Int) (hi : 0 ≤ i ∧ i < s.n) (hR : s.Rng) (hn : s.n ≤ 1000) : Spec Tryz.prog 225 [ptr b o 0, .int .i64 i]
 [.cells b o 65 (encQ (s) (some ⟨g, 0, none⟩) cap), frow (some ⟨g, 0, none⟩) cap 254 2 (s).n (encH (s))]
 (fun v H1 => v = .tuple #[] ∧ H1 = [.cells b o 65 (encQ (s.down i) (some ⟨g, 0, none⟩) cap), frow (some ⟨g, 0, none⟩) cap 254 2 (s.down i).n (encH (s.down i))]) := by
  obtain ⟨r1, r2⟩ := hR i hi.1 hi.2
  refine Spec.go 78 [0, 1, 4, 5, 41, 62] [(2, 1)] Tryz.func225 rfl rfl rfl ?_
  intro W
  refine ld .here (encQ_h _ _ _) ?_
  refine sd (by omega) ?_
  refine ldAF (.there .here) (encH_item _ _ _ (by omega)) ?_
  refine XO.allocZ (z := .agg #[.int .u64 0, .int .i64 0]) (m := 2) (C := cellsOf #[.int .u64 0, .int .i64 0]) (by kernel_rfl) rfl (fun _ _ => rfl) rfl ?_
  intro bx
  refine gO ?_
  refine stA .here (encIt_set _ _) rfl ⟨rfl, rfl⟩ ?_
  refine lp (σ := QS × Int) (fun x => s.n - x.2.toNat) (fun x => x.1.n = s.n ∧ (0 ≤ x.2 ∧ x.2 < s.n) ∧ x.1.Rng ∧ QS.downF (x.1.n - x.2.toNat) x.1 x.2 (s.K i) (s.I i) = s.down i) (fun x => [(1, .int .i64 x.2), (0, ptr b o 0), (4, ptr bx 0 0)]) (fun x => XM W (foot [.cells b o 65 (encQ (s) (some ⟨g, 0, none⟩) cap), frow (some ⟨g, 0, none⟩) cap 254 2 (s).n (encH (s))]) [.cells bx 0 2 (encIt (s.K i) (s.I i)), .cells b o 65 (encQ (x.1) (some ⟨g, 0, none⟩) cap), frow (some ⟨g, 0, none⟩) cap 254 2 (x.1).n (encH (x.1))]) ((s, i)) ?_ (S3 rfl rfl rfl) (fun _ hw => XM.pick .h3 hw) ?_
  · skip
    exact ⟨rfl, hi, hR, rfl⟩
  intro x hx
  obtain ⟨xn, xi, xR, xu⟩ := hx
  refine gC ?_
  refine sd (by omega) ?_
  refine sd (by omega) ?_
  refine ct [(0, ptr b o 0), (1, .int .i64 x.2), (4, ptr bx 0 0), (5, .int .i64 (x.1.child x.2))] (XM W (foot [.cells b o 65 (encQ (s) (some ⟨g, 0, none⟩) cap), frow (some ⟨g, 0, none⟩) cap 254 2 (s).n (encH (s))]) [.cells bx 0 2 (encIt (s.K i) (s.I i)), .cells b o 65 (encQ (x.1) (some ⟨g, 0, none⟩) cap), frow (some ⟨g, 0, none⟩) cap 254 2 (x.1).n (encH (x.1))]) ?_ ?_
  · skip
    refine rq [0, 1, 2, 3, 4, 5, 6, 7, 8, 9, 10, 11, 12, 13, 14, 15, 16, 17, 18, 19, 20, 21, 22, 23, 24, 25] mixed (by kernel_rfl) ?_
    refine sd (by omega) ?_
    refine ld (.there .here) (encQ_h _ _ _) ?_
    refine sp 24 rfl ?_ ?_ <;> intro h1
    · skip
      refine ld (.there .here) (encQ_h _ _ _) ?_
      refine sd (by omega) ?_
      refine sd (by omega) ?_
      refine ldAF (.t2 .here) (encH_item _ _ _ (by omega)) ?_
      refine ld (.there .here) (encQ_h _ _ _) ?_
      refine sd (by omega) ?_
      refine ldAF (.t2 .here) (encH_item _ _ _ (by omega)) ?_
      refine ca (q_less _ _ _ _) .nil ?_
      rintro _ _ ⟨rfl, rfl⟩
      refine gO ?_
      refine cd rfl ?_ ?_ <;> intro h2
      · skip
        have hc : 2 * x.2 + 1 + 1 = (x.1.child x.2) := by unfold QS.child; rw [if_pos ⟨by omega, h2⟩]
        refine sd (by omega) ?_
        refine mt (S4 rfl rfl rfl (eqi hc)) (fun _ hw => XM.pick .h3 hw)
      · skip
        have hc : 2 * x.2 + 1 = (x.1.child x.2) := by unfold QS.child; rw [if_neg (fun q => h2 q.2)]
        refine mt (S4 rfl rfl rfl (eqi hc)) (fun _ hw => XM.pick .h3 hw)
    · skip
      have hc : 2 * x.2 + 1 = (x.1.child x.2) := by unfold QS.child; rw [if_neg (fun q => by omega)]
      refine mt (S4 rfl rfl rfl (eqi hc)) (fun _ hw => XM.pick .h3 hw)
  have hcc : x.2 < (x.1.child x.2) := by rcases x.1.child_cases x.2 with ⟨e, _⟩ | ⟨e, _⟩ <;> omega
  have hpr := xR (x.1.child x.2) (by omega)
  have hcu : (x.1.child x.2) ≤ 2 * x.2 + 2 := by rcases x.1.child_cases x.2 with ⟨e, _⟩ | ⟨e, _⟩ <;> omega
  refine gC ?_
  refine rq [0, 1, 2, 3, 4, 5, 6, 7, 8, 9, 10, 11, 12, 13, 14, 15, 16, 17, 18] mixed (by kernel_rfl) ?_
  refine ld (.there .here) (encQ_h _ _ _) ?_
  refine sp 51 rfl ?_ ?_ <;> intro h3
  · skip
    have hst : QS.downF (x.1.n - x.2.toNat) x.1 x.2 (s.K i) (s.I i) = x.1.set x.2 (s.K i) (s.I i) := QS.downF_stop (fun q => by omega)
    rw [hst] at xu
    refine ldA .here (encIt_item _ _) ?_
    refine ca (q_put _ _ _ _ _ _ _ _ (by omega) (by omega) (by omega)) (.cons (.there .here) (.cons (.there .here) .nil)) ?_
    rintro _ _ ⟨rfl, rfl⟩
    refine gO ?_
    refine XE.end0 rfl (post_of .h2 rfl ?_)
    try dsimp only [SW.den, SV.den, dens, ofC]
    rw [← xu]; exact ⟨rfl, rfl⟩
  · skip
    have hpr := hpr (by omega)
    refine ld (.there .here) (encQ_h _ _ _) ?_
    refine sd (by omega) ?_
    refine ldAF (.t2 .here) (encH_item _ _ _ (by omega)) ?_
    refine ldA .here (encIt_item _ _) ?_
    refine ca (q_less _ _ _ _) .nil ?_
    rintro _ _ ⟨rfl, rfl⟩
    refine gO ?_
    refine cd rfl ?_ ?_ <;> intro h4
    · skip
      have hst : QS.downF (x.1.n - x.2.toNat) x.1 x.2 (s.K i) (s.I i) = x.1.set x.2 (s.K i) (s.I i) := QS.downF_stop (fun q => h4 q.2)
      rw [hst] at xu
      refine ldA .here (encIt_item _ _) ?_
      refine ca (q_put _ _ _ _ _ _ _ _ (by omega) (by omega) (by omega)) (.cons (.there .here) (.cons (.there .here) .nil)) ?_
      rintro _ _ ⟨rfl, rfl⟩
      refine gO ?_
      refine XE.end0 rfl (post_of .h2 rfl ?_)
      try dsimp only [SW.den, SV.den, dens, ofC]
      rw [← xu]; exact ⟨rfl, rfl⟩
    · skip
      have hst := QS.downF_step (s := x.1) (k := s.K i) (id := s.I i) xi.1 (by omega) (by omega) (Decidable.not_not.mp h4)
      refine ld (.there .here) (encQ_h _ _ _) ?_
      refine sd (by omega) ?_
      refine ldAF (.t2 .here) (encH_item _ _ _ (by omega)) ?_
      refine ca (q_put _ _ _ _ _ _ _ _ (by omega) (by omega) (by omega)) (.cons (.there .here) (.cons (.there .here) .nil)) ?_
      rintro _ _ ⟨rfl, rfl⟩
      refine gO ?_
      refine ag ((x.1.set x.2 (x.1.K (x.1.child x.2)) (x.1.I (x.1.child x.2)), (x.1.child x.2))) ?_ ?_ (S3 rfl rfl rfl) (fun _ hw => XM.pick (.cons (.t2 .here) .h2) hw)
      · skip
        (show s.n - (x.1.child x.2).toNat < s.n - x.2.toNat; omega)
      · skip
        exact ⟨xn, by simp; omega, xR.set hpr, by rw [← xu, hst]; rfl⟩
theorem q_Put (b o cap : Nat) (p : Option Addr) (s : QS) (hO : s.Ok) (id key : Int) : Spec Tryz.prog 188 [ptr b o 0, .int .i64 id, .int .u64 key]
 [.cells b o 65 (encQ (s) p cap), frow p cap 254 2 (s).n (encH (s))]
 (fun v H1 => ∃ p1 c1, v = errv 102 (s.put id key).1 ∧ H1 = [.cells b o 65 (encQ ((s.put id key).2) p1 c1), frow p1 c1 254 2 ((s.put id key).2).n (encH ((s.put id key).2))]) := by
  refine Spec.go 42 [0, 1, 2, 6, 12, 20] [] Tryz.func188 rfl rfl rfl ?_
  intro W
  refine sp 9 rfl ?_ ?_ <;> intro h1
  · skip
    refine XE.ret1 rfl rfl (post_of .h2 rfl ?_)
    try dsimp only [SW.den, SV.den, dens, ofC]
    rw [QS.put_bound (by omega)]; exact ⟨_, _, rfl, rfl⟩
  · skip
    refine cd rfl ?_ ?_ <;> intro h2
    · skip
      refine XE.ret1 rfl rfl (post_of .h2 rfl ?_)
      try dsimp only [SW.den, SV.den, dens, ofC]
      rw [QS.put_bound (by omega)]; exact ⟨_, _, rfl, rfl⟩
    · skip
      refine sd (by omega) ?_
      refine ld .here (encQ_at _ _ _ _ (by omega)) ?_
      refine cd rfl ?_ ?_ <;> intro h3
      · skip
        refine XE.ret1 rfl rfl (post_of .h2 rfl ?_)
        try dsimp only [SW.den, SV.den, dens, ofC]
        rw [QS.put_exist (by omega) (by omega)]; exact ⟨_, _, rfl, rfl⟩
      · skip
        have hat := hO.at2 id (by omega) (by omega)
        have hroom := hO.room (id := id) (by omega) (by omega)
        refine ld .here (encQ_h _ _ _) ?_
        refine XO.v (V.build (vs := #[(0, .int .u64 key), (1, .int .i64 id)]) rfl (v := .agg #[.int .u64 key, .int .i64 id]) (fun _ => by kernel_rfl)) rfl (gO ?_)
        refine XO.buildSlice (e := 254) (vs := #[(0, .agg #[.int .u64 key, .int .i64 id])]) (A := #[.int .u64 key, .int .i64 id]) rfl (fun _ => by kernel_rfl) rfl rfl ?_
        intro h4
        refine gO ?_
        refine XO.appendF (e := 254) (C2 := encH (s.more key id)) rfl rfl Tryz.underlying183 rt_254_2 (.there (.there .here)) .here rfl rfl (by omega) (by omega) (encH_more s key id) rfl ?_
        intro p1 c1
        refine gO ?_
        refine st (.t2 .here) (encQ_put s _ _ _ _ key id) rfl ?_
        refine XR.openRow .here (by omega) ?_
        intro g1 h5
        subst h5
        have hn1 : (s.more key id).n = s.n + 1 := rfl
        have hR : (s.more key id).Rng := fun j j0 j1 => by
          show 0 ≤ fset s.I s.n id j ∧ fset s.I s.n id j < 64
          unfold fset; split
          · omega
          · exact hO.rng j j0 (by omega)
        refine ld (.t2 .here) (show 0 + 0 < 65 ∧ encQ (s.more key id) _ _ (0 + 0) = .slice _ (s.n + 1) _ from ⟨by omega, rfl⟩) ?_
        refine oV ?_
        refine XO.v (V.sub rfl rfl (s.n : Int) (by rw [show ((s.n + 1 : Nat) : Int) - 1 = s.n from by omega]; exact IntWalk.i64_in _ (by omega))) rfl (gO ?_)
        refine ca (q_up _ _ _ _ (s.more key id) _ (by omega) hR (by omega)) (.cons (.t2 .here) .h1) ?_
        rintro _ _ ⟨rfl, rfl⟩
        refine gO ?_
        refine XE.ret1 rfl rfl (post_of .h2 rfl ?_)
        try dsimp only [SW.den, SV.den, dens, ofC]
        rw [QS.put_done (by omega) (by omega)]; exact ⟨_, _, rfl, rfl⟩
theorem q_Cut (b o cap : Nat) (p : Option Addr) (s : QS) (hO : s.Ok) (hH : s.Heap) (id : Int) : Spec Tryz.prog 189 [ptr b o 0, .int .i64 id]
 [.cells b o 65 (encQ (s) p cap), frow p cap 254 2 (s).n (encH (s))]
 (fun v H1 => ∃ p1 c1, v = .tuple #[.int .u64 (s.cut id).1, errv 102 (s.cut id).2.1] ∧ H1 = [.cells b o 65 (encQ ((s.cut id).2.2) p1 c1), frow p1 c1 254 2 ((s.cut id).2.2).n (encH ((s.cut id).2.2))]) := by
  refine Spec.go 83 [0, 1, 4, 5, 6, 7, 8, 9, 15, 25, 64] [] Tryz.func189 rfl rfl rfl ?_
  intro W
  refine sp 12 rfl ?_ ?_ <;> intro h1
  · skip
    refine XE.ret2 rfl rfl rfl (post_of .h2 rfl ?_)
    try dsimp only [SW.den, SV.den, dens, ofC]
    rw [QS.cut_bound (by omega)]; exact ⟨_, _, rfl, rfl⟩
  · skip
    refine cd rfl ?_ ?_ <;> intro h2
    · skip
      refine XE.ret2 rfl rfl rfl (post_of .h2 rfl ?_)
      try dsimp only [SW.den, SV.den, dens, ofC]
      rw [QS.cut_bound (by omega)]; exact ⟨_, _, rfl, rfl⟩
    · skip
      have hat := hO.at2 id (by omega) (by omega)
      have hn64 := hO.n64
      refine sd (by omega) ?_
      refine ld .here (encQ_at _ _ _ _ (by omega)) ?_
      refine sd (by omega) ?_
      refine cd rfl ?_ ?_ <;> intro h3
      · skip
        refine XE.ret2 rfl rfl rfl (post_of .h2 rfl ?_)
        try dsimp only [SW.den, SV.den, dens, ofC]
        rw [QS.cut_none (by omega) (by omega)]; exact ⟨_, _, rfl, rfl⟩
      · skip
        refine XR.openRow (.there .here) (by omega) ?_
        intro g1 h4
        subst h4
        refine ld .here (encQ_h _ _ _) ?_
        refine sd (by omega) ?_
        refine ldF (.there .here) (encH_key _ _ _ (by omega)) ?_
        refine ld .here (encQ_h _ _ _) ?_
        refine sd (by omega) ?_
        refine ld .here (encQ_h _ _ _) ?_
        refine sd (by omega) ?_
        refine ldAF (.there .here) (encH_item _ _ _ (by omega)) ?_
        refine XO.allocZ (z := .agg #[.int .u64 0, .int .i64 0]) (m := 2) (C := cellsOf #[.int .u64 0, .int .i64 0]) (by kernel_rfl) rfl (fun _ _ => rfl) rfl ?_
        intro bx
        refine gO ?_
        refine stA .here (encIt_set _ _) rfl ⟨rfl, rfl⟩ ?_
        refine XR.rowLen (.t2 .here) ?_
        intro hcap
        refine ld (.there .here) (encQ_h _ _ _) ?_
        refine XO.cutRow (k2 := s.n - 1) (C' := encH (s.less1 id)) rfl rfl Tryz.underlying183 sz_254_2 (by omega) (by omega) hcap (fun _ _ => rfl) (.t2 .here) rfl (gO ?_)
        refine st (.there .here) (encQ_seth _ _ _ _ _ _) rfl ?_
        refine sd (by omega) ?_
        refine st (.there .here) (encQ_cut s _ _ id (by omega)) rfl ?_
        refine cd rfl ?_ ?_ <;> intro h5
        · skip
          have hn1 : (s.less1 id).n = s.n - 1 := rfl
          obtain ⟨m1, m2, m3, q, m4, _, m5⟩ := hO.mid hH (xk := s.K ((s.n : Int) - 1)) (id := id) (by omega) (by omega) rfl rfl (by omega)
          have hr9 := hO.rng ((s.n : Int) - 1) (by omega) (by omega)
          have m6 : (((s.less1 id).set (s.at_ id - 1) (s.K ((s.n : Int) - 1)) (s.I ((s.n : Int) - 1))).down (s.at_ id - 1)).n = ((s.less1 id).set (s.at_ id - 1) (s.K ((s.n : Int) - 1)) (s.I ((s.n : Int) - 1))).n := QS.down_n _ _
          have m7 : ((s.less1 id).set (s.at_ id - 1) (s.K ((s.n : Int) - 1)) (s.I ((s.n : Int) - 1))).n = s.n - 1 := rfl
          refine ldA .here (encIt_item _ _) ?_
          refine ca (q_put _ _ _ _ (s.less1 id) _ _ _ (by omega) (by omega) (by omega)) (.cons (.there .here) (.cons (.there .here) .nil)) ?_
          rintro _ _ ⟨rfl, rfl⟩
          refine gO ?_
          refine ca (q_down _ _ _ _ ((s.less1 id).set (s.at_ id - 1) (s.K ((s.n : Int) - 1)) (s.I ((s.n : Int) - 1))) _ (by omega) (fun j j0 j1 => m1.rng j j0 j1) (by omega)) .h2 ?_
          rintro _ _ ⟨rfl, rfl⟩
          refine gO ?_
          refine rq [0, 1, 2, 3, 4, 5, 6, 7, 8, 9] mixed (by kernel_rfl) ?_
          refine ld (.t2 .here) (encIt_id _ _) ?_
          refine sd (by omega) ?_
          refine ld .here (encQ_at _ _ _ _ (by omega)) ?_
          refine sd (by omega) ?_
          refine ca (q_up _ _ _ _ (((s.less1 id).set (s.at_ id - 1) (s.K ((s.n : Int) - 1)) (s.I ((s.n : Int) - 1))).down (s.at_ id - 1)) _ (by omega) (fun j j0 j1 => m2.rng j j0 j1) (by omega)) .h2 ?_
          rintro _ _ ⟨rfl, rfl⟩
          refine gO ?_
          refine XE.ret2 rfl rfl rfl (post_of .h2 rfl ?_)
          try dsimp only [SW.den, SV.den, dens, ofC]
          rw [QS.cut_done (by omega) (by omega)]
          unfold QS.cutOk
          rw [if_pos (by omega)]
          exact ⟨_, _, rfl, rfl⟩
        · skip
          refine XE.ret2 rfl rfl rfl (post_of (.cons (.there .here) (.cons (.there .here) .nil)) rfl ?_)
          try dsimp only [SW.den, SV.den, dens, ofC]
          rw [QS.cut_done (by omega) (by omega)]
          unfold QS.cutOk
          rw [if_neg (by omega)]
          exact ⟨_, _, rfl, rfl⟩
theorem q_Key (b o cap : Nat) (p : Option Addr) (s : QS) (hO : s.Ok) (id : Int) : Spec Tryz.prog 186 [ptr b o 0, .int .i64 id]
 [.cells b o 65 (encQ (s) p cap), frow p cap 254 2 (s).n (encH (s))]
 (fun v H1 => v = .tuple #[.int .u64 (s.key id).1, errv 102 (s.key id).2] ∧ H1 = [.cells b o 65 (encQ (s) p cap), frow p cap 254 2 (s).n (encH (s))]) := by
  refine Spec.go 35 [0, 1, 4, 5, 11, 19] [] Tryz.func186 rfl rfl rfl ?_
  intro W
  refine sp 8 rfl ?_ ?_ <;> intro h1
  · skip
    refine XE.ret2 rfl rfl rfl (post_of .h2 rfl ?_)
    try dsimp only [SW.den, SV.den, dens, ofC]
    rw [QS.key_bound (by omega)]; exact ⟨rfl, rfl⟩
  · skip
    refine cd rfl ?_ ?_ <;> intro h2
    · skip
      refine XE.ret2 rfl rfl rfl (post_of .h2 rfl ?_)
      try dsimp only [SW.den, SV.den, dens, ofC]
      rw [QS.key_bound (by omega)]; exact ⟨rfl, rfl⟩
    · skip
      refine sd (by omega) ?_
      refine ld .here (encQ_at _ _ _ _ (by omega)) ?_
      refine cd rfl ?_ ?_ <;> intro h3
      · skip
        refine XE.ret2 rfl rfl rfl (post_of .h2 rfl ?_)
        try dsimp only [SW.den, SV.den, dens, ofC]
        rw [QS.key_none (by omega) (by omega)]; exact ⟨rfl, rfl⟩
      · skip
        have hat := hO.at2 id (by omega) (by omega)
        have hn64 := hO.n64
        refine XR.openRow (.there .here) (by omega) ?_
        intro g1 h4
        subst h4
        refine rq [0, 1, 2, 3, 4, 5, 6, 7, 8, 9, 10, 11, 12, 13, 14, 15] mixed (by kernel_rfl) ?_
        refine ld .here (encQ_h _ _ _) ?_
        refine sd (by omega) ?_
        refine ld .here (encQ_at _ _ _ _ (by omega)) ?_
        refine sd (by omega) ?_
        refine sd (by omega) ?_
        refine ldF (.there .here) (encH_key _ _ _ (by omega)) ?_
        refine XE.ret2 rfl rfl rfl (post_of .h2 rfl ?_)
        try dsimp only [SW.den, SV.den, dens, ofC]
        rw [QS.key_done (by omega) (by omega)]; exact ⟨rfl, rfl⟩
theorem q_First (b o cap : Nat) (p : Option Addr) (s : QS) : Spec Tryz.prog 182 [ptr b o 0]
 [.cells b o 65 (encQ (s) p cap), frow p cap 254 2 (s).n (encH (s))]
 (fun v H1 => v = .tuple #[.int .i64 s.first.1, .int .u64 s.first.2.1, .bool s.first.2.2] ∧ H1 = [.cells b o 65 (encQ (s) p cap), frow p cap 254 2 (s).n (encH (s))]) := by
  refine Spec.go 25 [0, 2, 3, 4, 10] [] Tryz.func182 rfl rfl rfl ?_
  intro W
  refine ld .here (encQ_h _ _ _) ?_
  refine cd rfl ?_ ?_ <;> intro h1
  · skip
    refine XE.ret3 rfl rfl rfl rfl (post_of .h2 rfl ?_)
    try dsimp only [SW.den, SV.den, dens, ofC]
    have e : s.first = (0, 0, false) := by unfold QS.first; rw [if_pos (by omega)]
    rw [e]; exact ⟨rfl, rfl⟩
  · skip
    refine XR.openRow (.there .here) (by omega) ?_
    intro g1 h2
    subst h2
    refine rq [0, 1, 2, 3, 4, 5, 6, 7, 8, 9, 10, 11, 12, 13, 14, 15, 16] mixed (by kernel_rfl) ?_
    refine ld .here (encQ_h _ _ _) ?_
    refine sd (by omega) ?_
    refine ldF (.there .here) (encH_id _ _ _ (by omega)) ?_
    refine ld .here (encQ_h _ _ _) ?_
    refine sd (by omega) ?_
    refine ldF (.there .here) (encH_key _ _ _ (by omega)) ?_
    refine XE.ret3 rfl rfl rfl rfl (post_of .h2 rfl ?_)
    try dsimp only [SW.den, SV.den, dens, ofC]
    have e : s.first = (s.I 0, s.K 0, true) := by unfold QS.first; rw [if_neg (by omega)]
    rw [e]; exact ⟨rfl, rfl⟩
theorem q_Len (b o cap : Nat) (p : Option Addr) (s : QS) : Spec Tryz.prog 222 [ptr b o 0]
 [.cells b o 65 (encQ (s) p cap), frow p cap 254 2 (s).n (encH (s))]
 (fun v H1 => v = .int .i64 (s.n : Int) ∧ H1 = [.cells b o 65 (encQ (s) p cap), frow p cap 254 2 (s).n (encH (s))]) := by
  refine Spec.go 8 [0, 2] [] Tryz.func222 rfl rfl rfl ?_
  intro W
  refine ld .here (encQ_h _ _ _) ?_
  refine XE.ret1 rfl rfl (post_of .h2 rfl ?_)
  try dsimp only [SW.den, SV.den, dens, ofC]
  exact ⟨rfl, rfl⟩
end Go.X.Fa

namespace Go.X.Fa
open Go Go.Proofs Go.X
set_option maxRecDepth 20000
set_option maxHeartbeats 4000000

theorem f_group (b o : Nat) (s : SC) (n : Int) : Spec Tryz.prog 126 [ptr b o 0, .int .i64 n]
 [.cells b o 2281 (encS s)]
 (fun v H1 => ((s.grE n = 0 ∧ 0 ≤ n ∧ n < 10 ∧ s.here n = true) ∧ v = .tuple #[ptr b o (0 + 0 + n.toNat * 76), .nilIface] ∧ H1 = [.cells b o 2281 (encS s)]) ∨ (s.grE n ≠ 0 ∧ v = .tuple #[.pointer none, .iface 102 (.int .i64 (s.grE n))] ∧ H1 = [.cells b o 2281 (encS s)])) := by
  refine Spec.go 27 [0, 1, 4, 5, 11, 20] [] Tryz.func126 rfl rfl rfl ?_
  intro W
  refine sp 8 rfl ?_ ?_ <;> intro h1
  · skip
    refine XE.ret2 rfl rfl rfl (post_of .h1 rfl ?_)
    try dsimp only [SW.den, SV.den, dens, ofC]
    have e : s.grE n = 1 := by unfold SF.grE; rw [if_pos (by omega)]
    exact .inr ⟨by omega, by rw [e], rfl⟩
  · skip
    refine cd rfl ?_ ?_ <;> intro h2
    · skip
      refine XE.ret2 rfl rfl rfl (post_of .h1 rfl ?_)
      try dsimp only [SW.den, SV.den, dens, ofC]
      have e : s.grE n = 1 := by unfold SF.grE; rw [if_pos (by omega)]
      exact .inr ⟨by omega, by rw [e], rfl⟩
    · skip
      refine sd (by omega) ?_
      refine ld .here (encS.ld_u_here _ _ (by omega)) ?_
      refine cdB rfl ?_ ?_ <;> intro h3
      · try simp only [sb] at h3
        refine XE.ret2 rfl rfl rfl (post_of .h1 rfl ?_)
        try dsimp only [SW.den, SV.den, dens, ofC]
        have e : s.grE n = 2 := by unfold SF.grE; rw [if_neg (by omega), if_neg (by simp_all)]
        exact .inr ⟨by omega, by rw [e], rfl⟩
      · try simp only [sb] at h3
        refine sd (by omega) ?_
        refine XE.ret2 rfl rfl rfl (post_of .h1 rfl ?_)
        try dsimp only [SW.den, SV.den, dens, ofC]
        have e : s.grE n = 0 := by unfold SF.grE; rw [if_neg (by omega), if_pos (by simp_all)]
        exact .inl ⟨⟨e, by omega, by omega, by simp_all⟩, rfl, rfl⟩
theorem f_task (b o : Nat) (s : SC) (n : Int) : Spec Tryz.prog 127 [ptr b o 0, .int .i64 n]
 [.cells b o 2281 (encS s)]
 (fun v H1 => ((s.tkE n = 0 ∧ 0 ≤ n ∧ n < 20 ∧ s.here (10 + n) = true) ∧ v = .tuple #[ptr b o (0 + 0 + (10 + n).toNat * 76), .nilIface] ∧ H1 = [.cells b o 2281 (encS s)]) ∨ (s.tkE n ≠ 0 ∧ v = .tuple #[.pointer none, .iface 102 (.int .i64 (s.tkE n))] ∧ H1 = [.cells b o 2281 (encS s)])) := by
  refine Spec.go 29 [0, 1, 4, 5, 11, 21] [] Tryz.func127 rfl rfl rfl ?_
  intro W
  refine sp 8 rfl ?_ ?_ <;> intro h1
  · skip
    refine XE.ret2 rfl rfl rfl (post_of .h1 rfl ?_)
    try dsimp only [SW.den, SV.den, dens, ofC]
    have e : s.tkE n = 1 := by unfold SF.tkE; rw [if_pos (by omega)]
    exact .inr ⟨by omega, by rw [e], rfl⟩
  · skip
    refine cd rfl ?_ ?_ <;> intro h2
    · skip
      refine XE.ret2 rfl rfl rfl (post_of .h1 rfl ?_)
      try dsimp only [SW.den, SV.den, dens, ofC]
      have e : s.tkE n = 1 := by unfold SF.tkE; rw [if_pos (by omega)]
      exact .inr ⟨by omega, by rw [e], rfl⟩
    · skip
      refine sd (by omega) ?_
      refine sd (by omega) ?_
      refine ld .here (encS.ld_u_here _ _ (by omega)) ?_
      refine cdB rfl ?_ ?_ <;> intro h3
      · try simp only [sb] at h3
        refine XE.ret2 rfl rfl rfl (post_of .h1 rfl ?_)
        try dsimp only [SW.den, SV.den, dens, ofC]
        have e : s.tkE n = 2 := by unfold SF.tkE; rw [if_neg (by omega), if_neg (by simp_all)]
        exact .inr ⟨by omega, by rw [e], rfl⟩
      · try simp only [sb] at h3
        refine sd (by omega) ?_
        refine sd (by omega) ?_
        refine XE.ret2 rfl rfl rfl (post_of .h1 rfl ?_)
        try dsimp only [SW.den, SV.den, dens, ofC]
        have e : s.tkE n = 0 := by unfold SF.tkE; rw [if_neg (by omega), if_pos (by simp_all)]
        exact .inl ⟨⟨e, by omega, by omega, by simp_all⟩, rfl, rfl⟩
theorem f_ready (b o : Nat) (s : SC) (hR : s.Rep) (hw : ∀ i, s.was i = true → 0 < i ∧ i < 30) (n : Int) (hn : 0 ≤ n ∧ n < 30) : Spec Tryz.prog 187 [ptr b o 0, .int .i64 n]
 [.cells b o 2281 (encS s), .fam fam30 (s.rows 254)]
 (fun v H1 => v = .bool (s.toSF.ready n) ∧ H1 = [.cells b o 2281 (encS s), .fam fam30 (s.rows 254)]) := by
  have hk := hR.kid hw hn.1 hn.2
  refine Spec.go 47 [0, 1, 4, 5, 12] [] Tryz.func187 rfl rfl rfl ?_
  intro W
  refine sd (by omega) ?_
  refine cd rfl ?_ ?_ <;> intro h1
  · skip
    refine ld .here (encS.ld_u_awake _ _ (by omega)) ?_
    refine XE.ret1 rfl rfl (post_of .h2 rfl ?_)
    try dsimp only [SW.den, SV.den, dens, ofC]
    exact ⟨by unfold SF.ready; rw [if_pos (by omega)], rfl⟩
  · skip
    refine rq [0, 1, 2, 3, 4, 5, 6, 7, 8, 9, 10, 11, 12, 13, 14, 15, 16, 17, 18, 19, 20, 21, 22, 23, 24, 25, 26, 27, 28, 29, 30] mixed (by kernel_rfl) ?_
    refine XR.mono (fun _ hw3 => XM.openS (z := n) (by omega) .h2 hw3) ?_
    refine ca (q_Len _ _ _ _ _) .h2 ?_
    rintro _ _ ⟨rfl, rfl⟩
    refine XO.mono (fun _ hw3 => XM.closeS0 (z := n) (by omega) .h5 hw3) ?_
    refine gO ?_
    refine sp 22 rfl ?_ ?_ <;> intro h2
    · skip
      refine ld .here (encS.ld_u_frozen _ _ (by omega)) ?_
      refine spB 29 rfl ?_ ?_ <;> intro h3
      · try simp only [sb] at h3
        refine ld .here (encS.ld_u_quota _ _ (by omega)) ?_
        refine sp 35 rfl ?_ ?_ <;> intro h4
        · skip
          refine XE.ret1 rfl rfl (post_of .h2 rfl ?_)
          try dsimp only [SW.den, SV.den, dens, ofC]
          refine ⟨congrArg Value.bool ?_, rfl⟩
          unfold SF.ready
          rw [if_neg (by omega), hk]
          simp_all
        · skip
          refine ld .here (encS.ld_u_used _ _ (by omega)) ?_
          refine ld .here (encS.ld_u_quota _ _ (by omega)) ?_
          refine XE.ret1 rfl rfl (post_of .h2 rfl ?_)
          try dsimp only [SW.den, SV.den, dens, ofC]
          refine ⟨congrArg Value.bool ?_, rfl⟩
          unfold SF.ready
          rw [if_neg (by omega), hk]
          simp_all
      · try simp only [sb] at h3
        refine XE.ret1 rfl rfl (post_of .h2 rfl ?_)
        try dsimp only [SW.den, SV.den, dens, ofC]
        refine ⟨congrArg Value.bool ?_, rfl⟩
        unfold SF.ready
        rw [if_neg (by omega), hk]
        simp_all
    · skip
      refine XE.ret1 rfl rfl (post_of .h2 rfl ?_)
      try dsimp only [SW.den, SV.den, dens, ofC]
      refine ⟨congrArg Value.bool ?_, rfl⟩
      unfold SF.ready
      rw [if_neg (by omega), hk]
      simp_all
theorem f_settle (b o : Nat) (s : SC) (d : Int → Nat) (hI : s.toSF.Inv d) (hR : s.Rep) (n : Int) (hn : n = 0 ∨ (0 < n ∧ n < 30 ∧ s.here n = true)) : Spec Tryz.prog 128 [ptr b o 0, .int .i64 n]
 [.cells b o 2281 (encS s), .fam fam30 (s.rows 254)]
 (fun v H1 => v = .tuple #[] ∧ ∃ t : SC, t.toSF = s.toSF.look d n ∧ t.Rep ∧ H1 = [.cells b o 2281 (encS t), .fam fam30 (t.rows 254)]) := by
  refine Spec.go 88 [0, 4, 5, 6, 8, 9, 10, 13, 47, 74] [] Tryz.func128 rfl rfl rfl ?_
  intro W
  refine lp (σ := SC × Int) (fun x => if x.2 = 0 then 0 else d x.2 + 1) (fun x => x.1.Rep ∧ x.1.toSF.Inv d ∧ (x.2 = 0 ∨ (0 < x.2 ∧ x.2 < 30 ∧ x.1.here x.2 = true)) ∧ ∃ k, d x.2 + 1 ≤ k ∧ SF.lookF k x.1.toSF x.2 = s.toSF.look d n) (fun x => [(4, .int .i64 x.2), (0, ptr b o 0)]) (fun x => XM W (foot [.cells b o 2281 (encS s), .fam fam30 (s.rows 254)]) [.cells b o 2281 (encS x.1), .fam fam30 (x.1.rows 254)]) ((s, n)) ?_ (S2 rfl rfl) (fun _ hw => XM.pick .h2 hw) ?_
  · skip
    exact ⟨hR, hI, hn, d n + 1, Nat.le_refl _, rfl⟩
  intro x hx
  obtain ⟨xR, xI, xn, k, hk, xl⟩ := hx
  refine gC ?_
  refine cd rfl ?_ ?_ <;> intro h1
  · skip
    obtain ⟨n0, n1, n2⟩ := xn.resolve_left (by omega)
    obtain ⟨p0, pp1, p2, p3⟩ := xI.up x.2 n0 n1 n2
    have hin := xR.in_ (n := x.2) ⟨by omega, n1⟩ ⟨p0, by omega⟩
    obtain ⟨k, rfl⟩ : ∃ k2, k = k2 + 1 := ⟨k - 1, by omega⟩
    rw [SF.lookF_go _ _ n0] at xl
    have hw : ∀ i, x.1.was i = true → 0 < i ∧ i < 30 := fun i hi => ⟨(xI.was i hi).1, (xI.was i hi).2.1⟩
    have hgq := xR (x.1.par x.2) p0 (by omega)
    have hpn : (x.1.par x.2) = 0 ∨ (0 < (x.1.par x.2) ∧ (x.1.par x.2) < 30 ∧ x.1.here (x.1.par x.2) = true) := by
      by_cases c : (x.1.par x.2) = 0
      · exact .inl c
      · exact .inr ⟨by omega, by omega, p2⟩
    refine sd (by omega) ?_
    refine rq [0, 1, 2, 3, 4, 5, 6, 7, 8] mixed (by kernel_rfl) ?_
    refine ld .here (encS.ld_u_parent _ _ (by omega)) ?_
    refine sd (by omega) ?_
    refine XR.mono (fun _ hw3 => XM.openS (z := (x.1.par x.2)) (by omega) .h2 hw3) ?_
    refine ca (q_Key _ _ _ _ _ hgq.ok _) .h2 ?_
    rintro _ _ ⟨rfl, rfl⟩
    refine XO.mono (fun _ hw3 => XM.closeS0 (z := (x.1.par x.2)) (by omega) .h5 hw3) ?_
    refine gO ?_
    refine rq [0, 1, 2, 3, 4, 5, 6] mixed (by kernel_rfl) ?_
    refine ca (f_ready _ _ _ xR hw _ (by omega)) .h2 ?_
    rintro _ _ ⟨rfl, rfl⟩
    refine gO ?_
    refine spB 49 rfl ?_ ?_ <;> intro h2
    · try simp only [sb] at h2
      have hrd : x.1.toSF.ready x.2 = true := h2
      refine cd rfl ?_ ?_ <;> intro h3
      · skip
        have hwf : x.1.was x.2 = false := by
          cases q : x.1.was x.2 with
          | false => rfl
          | true =>
            rw [if_pos q] at hin
            omega
        refine rq [0, 1, 2, 3, 4, 5, 6, 7, 8, 9, 10, 11, 12] mixed (by kernel_rfl) ?_
        refine ld .here (encS.ld_u_v _ _ (by omega)) ?_
        refine ld .here (encS.ld_u_floor _ _ (by omega)) ?_
        refine st .here (encS.st_u_v _ _ (by omega) _) rfl ?_
        refine rq [0, 1, 2, 3, 4, 5, 6, 7, 8] mixed (by kernel_rfl) ?_
        refine ld .here (encS_v_at _ _ _ (by omega)) ?_
        refine XR.mono (fun _ hw3 => XM.openS (z := (x.1.par x.2)) (by omega) .h2 hw3) ?_
        refine ca (q_Put _ _ _ _ _ hgq.ok _ _) .h2 ?_
        rintro _ _ ⟨p1, c1, rfl, rfl⟩
        refine XO.mono (fun _ hw3 => XM.closeS (z := (x.1.par x.2)) (by omega) .h5 hw3) ?_
        refine gO ?_
        refine sd (by omega) ?_
        refine ld .here (encS.ld_u_parent _ _ (by omega)) ?_
        refine ag ((⟨{ x.1.toSF with v := fset x.1.v x.2 (max (x.1.v x.2) (x.1.floor (x.1.par x.2))), was := fset x.1.was x.2 true }, fset x.1.Q (x.1.par x.2) ((x.1.Q (x.1.par x.2)).put x.2 (max (x.1.v x.2) (x.1.floor (x.1.par x.2)))).2, fset x.1.P (x.1.par x.2) p1, fset x.1.C (x.1.par x.2) c1⟩, (x.1.par x.2))) ?_ ?_ (S2 rfl rfl) (fun _ hw => XM.pick .h2 hw)
        · skip
          show (if (x.1.par x.2) = 0 then 0 else d (x.1.par x.2) + 1) < (if x.2 = 0 then 0 else d x.2 + 1)
          rw [if_neg (show ¬ x.2 = 0 by omega)]
          split <;> omega
        · skip
          have e : ({ x.1.toSF with v := fset x.1.v x.2 (max (x.1.v x.2) (x.1.floor (x.1.par x.2))), was := fset x.1.was x.2 true } : SF) = x.1.toSF.stp x.2 := by unfold SF.stp; rw [if_pos ⟨hrd, hwf⟩, hrd]
          refine ⟨?_, by show SF.Inv _ d; rw [e]; exact xI.stp n0 n1 n2, hpn, k, by show d (x.1.par x.2) + 1 ≤ k; omega, by show SF.lookF k _ _ = _; rw [e]; exact xl⟩
          have hh := xR.enter (n := x.2) ⟨by omega, n1⟩ ⟨p0, by omega⟩ hwf { x.1.toSF with v := fset x.1.v x.2 (max (x.1.v x.2) (x.1.floor (x.1.par x.2))), was := fset x.1.was x.2 true } rfl (fun i hi => fset_ne _ _ hi) rfl (max (x.1.v x.2) (x.1.floor (x.1.par x.2))) (fset_eq _ _ _) (fset x.1.P (x.1.par x.2) p1) (fset x.1.C (x.1.par x.2) c1)
          exact hh
      · skip
        have hwt : x.1.was x.2 = true := by
          cases q : x.1.was x.2 with
          | true => rfl
          | false =>
            rw [if_neg (by rw [q]; simp)] at hin
            omega
        refine spB 77 rfl ?_ ?_ <;> intro h4
        · try simp only [sb] at h4
          all_goals (simp_all)
        · try simp only [sb] at h4
          refine sd (by omega) ?_
          refine ld .here (encS.ld_u_parent _ _ (by omega)) ?_
          refine ag ((x.1, (x.1.par x.2))) ?_ ?_ (S2 rfl rfl) (fun _ hw => XM.pick .h2 hw)
          · skip
            show (if (x.1.par x.2) = 0 then 0 else d (x.1.par x.2) + 1) < (if x.2 = 0 then 0 else d x.2 + 1)
            rw [if_neg (show ¬ x.2 = 0 by omega)]
            split <;> omega
          · skip
            have e : x.1.toSF.stp x.2 = x.1.toSF := SF.stp_same (by simp_all)
            rw [e] at xl
            exact ⟨xR, xI, hpn, k, by show d (x.1.par x.2) + 1 ≤ k; omega, xl⟩
    · try simp only [sb] at h2
      have hrd : x.1.toSF.ready x.2 = false := h2
      refine spB 77 rfl ?_ ?_ <;> intro h5
      · try simp only [sb] at h5
        refine cd rfl ?_ ?_ <;> intro h6
        · skip
          have hwt : x.1.was x.2 = true := by
            cases q : x.1.was x.2 with
            | true => rfl
            | false =>
              rw [if_neg (by rw [q]; simp)] at hin
              omega
          refine XR.mono (fun _ hw3 => XM.openS (z := (x.1.par x.2)) (by omega) .h2 hw3) ?_
          refine ca (q_Cut _ _ _ _ _ hgq.ok hgq.heap _) .h2 ?_
          rintro _ _ ⟨p1, c1, rfl, rfl⟩
          refine XO.mono (fun _ hw3 => XM.closeS (z := (x.1.par x.2)) (by omega) .h5 hw3) ?_
          refine gO ?_
          refine sd (by omega) ?_
          refine ld .here (encS.ld_u_parent _ _ (by omega)) ?_
          refine ag ((⟨{ x.1.toSF with was := fset x.1.was x.2 false }, fset x.1.Q (x.1.par x.2) ((x.1.Q (x.1.par x.2)).cut x.2).2.2, fset x.1.P (x.1.par x.2) p1, fset x.1.C (x.1.par x.2) c1⟩, (x.1.par x.2))) ?_ ?_ (S2 rfl rfl) (fun _ hw => XM.pick .h2 hw)
          · skip
            show (if (x.1.par x.2) = 0 then 0 else d (x.1.par x.2) + 1) < (if x.2 = 0 then 0 else d x.2 + 1)
            rw [if_neg (show ¬ x.2 = 0 by omega)]
            split <;> omega
          · skip
            have e : ({ x.1.toSF with was := fset x.1.was x.2 false } : SF) = x.1.toSF.stp x.2 := by unfold SF.stp; rw [if_neg (by rw [hrd]; simp), hrd, fset_same x.1.v rfl]
            exact ⟨xR.leave (n := x.2) ⟨by omega, n1⟩ ⟨p0, by omega⟩ hwt { x.1.toSF with was := fset x.1.was x.2 false } rfl (fun i hi => rfl) rfl _ _, by show SF.Inv _ d; rw [e]; exact xI.stp n0 n1 n2, hpn, k, by show d (x.1.par x.2) + 1 ≤ k; omega, by show SF.lookF k _ _ = _; rw [e]; exact xl⟩
        · skip
          have hwf : x.1.was x.2 = false := by
            cases q : x.1.was x.2 with
            | false => rfl
            | true =>
              rw [if_pos q] at hin
              omega
          refine sd (by omega) ?_
          refine ld .here (encS.ld_u_parent _ _ (by omega)) ?_
          refine ag ((x.1, (x.1.par x.2))) ?_ ?_ (S2 rfl rfl) (fun _ hw => XM.pick .h2 hw)
          · skip
            show (if (x.1.par x.2) = 0 then 0 else d (x.1.par x.2) + 1) < (if x.2 = 0 then 0 else d x.2 + 1)
            rw [if_neg (show ¬ x.2 = 0 by omega)]
            split <;> omega
          · skip
            have e : x.1.toSF.stp x.2 = x.1.toSF := SF.stp_same (by simp_all)
            rw [e] at xl
            exact ⟨xR, xI, hpn, k, by show d (x.1.par x.2) + 1 ≤ k; omega, xl⟩
      · try simp only [sb] at h5
        all_goals (simp_all)
  · skip
    refine XE.end0 rfl (post_of .h2 rfl ?_)
    try dsimp only [SW.den, SV.den, dens, ofC]
    refine ⟨rfl, x.1, ?_, xR, rfl⟩
    have hx0 : x.2 = 0 := by
      rcases xn with q | q
      · exact q
      · omega
    rw [hx0, SF.lookF_stop _ _ (by omega)] at xl
    exact xl
end Go.X.Fa

namespace Go.X.Fa
open Go Go.Proofs Go.X
set_option maxRecDepth 20000
set_option maxHeartbeats 4000000

theorem f_charge (b o : Nat) (s : SC) (d : Int → Nat) (hI : s.toSF.Inv d) (hR : s.Rep) (B : Int) (hB : 0 ≤ B ∧ B ≤ 1000000000000000) (hS : s.toSF.Small B) (n : Int) (hn : 0 < n ∧ n < 30 ∧ s.here n = true) (hwn : s.was n = true) : Spec Tryz.prog 183 [ptr b o 0, .int .i64 n]
 [.cells b o 2281 (encS s), .fam fam30 (s.rows 254)]
 (fun v H1 => v = .tuple #[] ∧ ∃ t : SC, t.toSF = s.toSF.chg n ∧ t.Rep ∧ H1 = [.cells b o 2281 (encS t), .fam fam30 (t.rows 254)]) := by
  obtain ⟨n0, n1, n2⟩ := hn
  obtain ⟨p0, pp1, p2, p3⟩ := hI.up n n0 n1 n2
  have hgq := hR (s.par n) p0 (by omega)
  obtain ⟨hc1, hc2⟩ := hR.cut1 (n := n) ⟨by omega, n1⟩ ⟨p0, by omega⟩ hwn
  have hsn := hS n (by omega) n1
  have hsg := hS (s.par n) p0 (by omega)
  have hwt := hI.wt n (by omega) n1 n2
  have hpn : s.par n ≠ n := fun e => by rw [e] at p3; omega
  have hq0 : 0 ≤ 1048576 / s.wt n ∧ 1048576 / s.wt n ≤ 1048576 := ⟨Int.ediv_nonneg (by omega) (by omega), Int.ediv_le_self _ (by omega)⟩
  have hw1 : ∀ i, fset s.was n false i = true → 0 < i ∧ i < 30 := fun i hi => by
    by_cases c : i = n
    · subst c; exact ⟨n0, n1⟩
    · rw [fset_ne _ _ c] at hi; exact ⟨(hI.was i hi).1, (hI.was i hi).2.1⟩
  refine Spec.go 82 [0, 1, 4, 5, 6, 7, 30, 62, 72] [(7, 1)] Tryz.func183 rfl rfl rfl ?_
  intro W
  refine sd (by omega) ?_
  refine rq [0, 1, 2, 3, 4, 5, 6, 7, 8] mixed (by kernel_rfl) ?_
  refine ld .here (encS.ld_u_parent _ _ (by omega)) ?_
  refine sd (by omega) ?_
  refine XR.mono (fun _ hw3 => XM.openS (z := (s.par n)) (by omega) .h2 hw3) ?_
  refine ca (q_Cut _ _ _ _ _ hgq.ok hgq.heap _) .h2 ?_
  rintro _ _ ⟨p1, c1, rfl, rfl⟩
  rw [hc1]
  have hRm : SC.Rep (⟨{ s.toSF.chg1 n with was := fset s.was n false }, fset s.Q (s.par n) ((s.Q (s.par n)).cut n).2.2, fset s.P (s.par n) p1, fset s.C (s.par n) c1⟩ : SC) := hR.leave (n := n) ⟨by omega, n1⟩ ⟨p0, by omega⟩ hwn { s.toSF.chg1 n with was := fset s.was n false } rfl (fun i hi => fset_ne _ _ hi) rfl _ _
  have hgm := hRm (s.par n) p0 (by omega)
  refine XO.mono (fun _ hw3 => XM.closeS (z := (s.par n)) (by omega) .h5 hw3) ?_
  refine XO.mono (fun _ hw3 => XM.wasS (fset s.was n false) .h2 hw3) ?_
  refine gO ?_
  refine cdF rfl (by rw [hc2]; simp) ?_
  refine ld .here (show _ ∧ _ = Value.int .u64 (s.floor (s.par n)) from encS.ld_u_floor _ _ (by omega)) ?_
  refine st .here (encS.st_u_floor _ _ (by omega) _) rfl ?_
  refine ld .here (show _ ∧ _ = Value.int .i64 (s.wt n) from encS.ld_u_weight _ _ (by omega)) ?_
  refine XO.v (V.quo rfl rfl (by first | decide | omega) _ (quo_nn (by omega) (by omega) (by omega))) rfl (gO ?_)
  refine XO.v (V.convInt rfl Tryz.underlying3 Tryz.underlying29 _ (IntWalk.u64_in _ (by omega))) rfl (gO ?_)
  refine XO.v (V.add rfl rfl _ (IntWalk.u64_in _ (by omega))) rfl (gO ?_)
  refine st .here (encS.st_u_v _ _ (by omega) _) rfl ?_
  refine ld .here (show _ ∧ _ = Value.int .i64 (s.ran n) from encS.ld_u_ran _ _ (by omega)) ?_
  refine sd (by omega) ?_
  refine st .here (encS.st_u_ran _ _ (by omega) _) rfl ?_
  refine ct [(0, ptr b o 0), (1, .int .i64 n), (4, ptr b o (0 + 0 + n.toNat * 76)), (5, ptr b o (0 + 0 + (s.par n).toNat * 76))] (XM W (foot [.cells b o 2281 (encS s), .fam fam30 (s.rows 254)]) [.cells b o 2281 (encS (⟨{ s.toSF.chg1 n with was := fset s.was n false }, fset s.Q (s.par n) ((s.Q (s.par n)).cut n).2.2, fset s.P (s.par n) p1, fset s.C (s.par n) c1⟩ : SC)), .fam fam30 (SC.rows 254 (⟨{ s.toSF.chg1 n with was := fset s.was n false }, fset s.Q (s.par n) ((s.Q (s.par n)).cut n).2.2, fset s.P (s.par n) p1, fset s.C (s.par n) c1⟩ : SC))]) ?_ ?_
  · skip
    refine ld .here (show _ ∧ _ = Value.int .i64 (s.quota n) from encS.ld_u_quota _ _ (by omega)) ?_
    refine cd rfl ?_ ?_ <;> intro h1
    · skip
      have hM : (⟨{ s.toSF.chg1 n with was := fset s.was n false }, fset s.Q (s.par n) ((s.Q (s.par n)).cut n).2.2, fset s.P (s.par n) p1, fset s.C (s.par n) c1⟩ : SC) = (⟨{ s.toSF with floor := fset s.floor (s.par n) (max (s.floor (s.par n)) (s.v n)), v := fset s.v n (s.v n + 1048576 / s.wt n), ran := fset s.ran n (s.ran n + 1), used := fset s.used n (s.used n + 1), was := fset s.was n false }, fset s.Q (s.par n) ((s.Q (s.par n)).cut n).2.2, fset s.P (s.par n) p1, fset s.C (s.par n) c1⟩ : SC) := by unfold SF.chg1; rw [if_pos h1]
      refine ld .here (show _ ∧ _ = Value.int .i64 (s.used n) from encS.ld_u_used _ _ (by omega)) ?_
      refine sd (by omega) ?_
      refine st .here (encS.st_u_used _ _ (by omega) _) rfl ?_
      refine mt (S4 rfl rfl rfl rfl) (fun _ hw2 => by rw [hM]; exact XM.pick .h2 hw2)
    · skip
      have hM : (⟨{ s.toSF.chg1 n with was := fset s.was n false }, fset s.Q (s.par n) ((s.Q (s.par n)).cut n).2.2, fset s.P (s.par n) p1, fset s.C (s.par n) c1⟩ : SC) = (⟨{ s.toSF with floor := fset s.floor (s.par n) (max (s.floor (s.par n)) (s.v n)), v := fset s.v n (s.v n + 1048576 / s.wt n), ran := fset s.ran n (s.ran n + 1), used := s.used, was := fset s.was n false }, fset s.Q (s.par n) ((s.Q (s.par n)).cut n).2.2, fset s.P (s.par n) p1, fset s.C (s.par n) c1⟩ : SC) := by unfold SF.chg1; rw [if_neg h1]
      refine mt (S4 rfl rfl rfl rfl) (fun _ hw2 => by rw [hM]; exact XM.pick .h2 hw2)
  have hrr : SF.ready { s.toSF.chg1 n with was := fset s.was n false } n = (s.toSF.chg1 n).ready n := SF.ready_was (s := s.toSF.chg1 n) hpn false
  refine gC ?_
  refine ca (f_ready b o (⟨{ s.toSF.chg1 n with was := fset s.was n false }, fset s.Q (s.par n) ((s.Q (s.par n)).cut n).2.2, fset s.P (s.par n) p1, fset s.C (s.par n) c1⟩ : SC) hRm hw1 n ⟨by omega, n1⟩) .h2 ?_
  rintro _ _ ⟨rfl, rfl⟩
  refine gO ?_
  refine cdB rfl ?_ ?_ <;> intro h2
  · try simp only [sb] at h2
    refine rq [0, 1, 2, 3, 4, 5, 6, 7, 8] mixed (by kernel_rfl) ?_
    refine ld .here (show _ ∧ _ = Value.int .u64 (s.v n + 1048576 / s.wt n) from ⟨by omega, (encS.ld_u_v (⟨{ s.toSF.chg1 n with was := fset s.was n false }, fset s.Q (s.par n) ((s.Q (s.par n)).cut n).2.2, fset s.P (s.par n) p1, fset s.C (s.par n) c1⟩ : SC) n (by omega)).2.trans (congrArg (Value.int .u64) (fset_eq s.v n (s.v n + 1048576 / s.wt n)))⟩) ?_
    refine XR.mono (fun _ hw3 => XM.openS (z := (s.par n)) (by omega) .h2 hw3) ?_
    refine ca (q_Put _ _ _ _ _ hgm.ok _ _) .h2 ?_
    rintro _ _ ⟨p2, c2, rfl, rfl⟩
    refine XO.mono (fun _ hw3 => XM.closeS (z := (s.par n)) (by omega) .h5 hw3) ?_
    refine XO.mono (fun _ hw3 => XM.wasS (fset s.was n true) .h2 hw3) ?_
    refine gO ?_
    refine XE.end0 rfl (post_of .h2 rfl ?_)
    try dsimp only [SW.den, SV.den, dens, ofC]
    refine ⟨rfl, _, ?_, ?_, rfl⟩
    · have h9 : SF.ready { s.toSF.chg1 n with was := fset s.was n false } n = true := by assumption
      rw [hrr] at h9
      show _ = s.toSF.chg n
      unfold SF.chg
      rw [h9]
    · have hp30 : s.par n < 30 := by omega
      have := hRm.enter (n := n) ⟨by omega, n1⟩ ⟨p0, hp30⟩ (fset_eq _ _ _) { s.toSF.chg1 n with was := fset s.was n true } (by funext i; show fset s.was n true i = fset (fset s.was n false) n true i; unfold fset; split <;> rfl) (fun i hi => rfl) rfl (s.v n + 1048576 / s.wt n) (fset_eq _ _ _) (fset (fset s.P (s.par n) p1) (s.par n) p2) (fset (fset s.C (s.par n) c1) (s.par n) c2)
      exact this
  · try simp only [sb] at h2
    refine XE.end0 rfl (post_of .h2 rfl ?_)
    try dsimp only [SW.den, SV.den, dens, ofC]
    refine ⟨rfl, (⟨{ s.toSF.chg1 n with was := fset s.was n false }, fset s.Q (s.par n) ((s.Q (s.par n)).cut n).2.2, fset s.P (s.par n) p1, fset s.C (s.par n) c1⟩ : SC), ?_, hRm, rfl⟩
    have h9 : SF.ready { s.toSF.chg1 n with was := fset s.was n false } n = false := by assumption
    rw [hrr] at h9
    show _ = s.toSF.chg n
    unfold SF.chg
    rw [h9]
end Go.X.Fa

namespace Go.X.Fa
open Go Go.Proofs Go.X
set_option maxRecDepth 20000
set_option maxHeartbeats 4000000
theorem sz_187_76 : szOf Tryz.prog 187 = some 76 := by kernel_rfl

theorem f_wake (b o : Nat) (s : SC) (d : Int → Nat) (hI : s.toSF.Inv d) (hR : s.Rep) (n : Int) (on : Bool) : Spec Tryz.prog 61 [ptr b o 0, .int .i64 n, .bool on]
 [.cells b o 2281 (encS s), .fam fam30 (s.rows 254)]
 (fun v H1 => v = errv 102 (s.tkE n) ∧ ∃ t : SC, t.toSF = s.toSF.wake d n on ∧ t.Rep ∧ H1 = [.cells b o 2281 (encS t), .fam fam30 (t.rows 254)]) := by
  refine Spec.go 26 [0, 1, 2, 6, 7, 8, 16] [] Tryz.func61 rfl rfl rfl ?_
  intro W
  refine ca (f_task _ _ _ _) .h1 ?_
  rintro _ _ (⟨h1, rfl, rfl⟩ | ⟨h1, rfl, rfl⟩)
  · skip
    try dsimp only [errvL0, errvL1, errvL2, errvL3, errvL4, errvL5, errvL6, errvL7, errvL8, errvL9, errvL10, errvL11, errvL12, errvL13]
    obtain ⟨i0, i1, i2, i3⟩ := h1
    refine gO ?_
    refine st .here (encS.st_u_awake _ _ (by omega) _) rfl ?_
    refine sd (by omega) ?_
    refine ca (f_settle _ _ { s with awake := fset s.awake (10 + n) on } d ⟨hI.h0, hI.up, hI.was, hI.quo, hI.wt⟩ hR _ (.inr ⟨by omega, by omega, i3⟩)) .h2 ?_
    rintro _ _ ⟨rfl, t, tl, tR, rfl⟩
    refine gO ?_
    refine XE.ret1 rfl rfl (post_of .h2 rfl ?_)
    try dsimp only [SW.den, SV.den, dens, ofC]
    exact ⟨by rw [i0]; rfl, t, by rw [tl]; unfold SF.wake; rw [if_pos i0], tR, rfl⟩
  · skip
    try dsimp only [errvL0, errvL1, errvL2, errvL3, errvL4, errvL5, errvL6, errvL7, errvL8, errvL9, errvL10, errvL11, errvL12, errvL13]
    have i0 := h1
    refine gO ?_
    refine XE.ret1 rfl rfl (post_of .h2 rfl ?_)
    try dsimp only [SW.den, SV.den, dens, ofC]
    exact ⟨by rw [errv_pos _ (by assumption)], s, by unfold SF.wake; rw [if_neg (by assumption)], hR, rfl⟩
theorem f_AddTask (b o : Nat) (s : SC) (d : Int → Nat) (hI : s.toSF.Inv d) (hR : s.Rep) (n p w : Int) : Spec Tryz.prog 60 [ptr b o 0, .int .i64 n, .int .i64 p, .int .i64 w]
 [.cells b o 2281 (encS s), .fam fam30 (s.rows 254)]
 (fun v H1 => v = errv 102 (s.addTE n p w) ∧ ∃ t : SC, t.toSF = s.toSF.addT n p w ∧ t.Rep ∧ H1 = [.cells b o 2281 (encS t), .fam fam30 (t.rows 254)]) := by
  refine Spec.go 53 [0, 1, 2, 3, 8, 10, 24, 33, 42] [] Tryz.func60 rfl rfl rfl ?_
  intro W
  refine sp 13 rfl ?_ ?_ <;> intro h1
  · skip
    refine XE.ret1 rfl rfl (post_of .h2 rfl ?_)
    try dsimp only [SW.den, SV.den, dens, ofC]
    have e : s.addTE n p w = 1 := by unfold SF.addTE; rw [if_pos (by omega)]
    exact ⟨by rw [e] <;> rfl, s, by unfold SF.addT; rw [if_neg (by omega)], hR, rfl⟩
  · skip
    refine sp 17 rfl ?_ ?_ <;> intro h2
    · skip
      refine XE.ret1 rfl rfl (post_of .h2 rfl ?_)
      try dsimp only [SW.den, SV.den, dens, ofC]
      have e : s.addTE n p w = 1 := by unfold SF.addTE; rw [if_pos (by omega)]
      exact ⟨by rw [e] <;> rfl, s, by unfold SF.addT; rw [if_neg (by omega)], hR, rfl⟩
    · skip
      refine sp 21 rfl ?_ ?_ <;> intro h3
      · skip
        refine XE.ret1 rfl rfl (post_of .h2 rfl ?_)
        try dsimp only [SW.den, SV.den, dens, ofC]
        have e : s.addTE n p w = 1 := by unfold SF.addTE; rw [if_pos (by omega)]
        exact ⟨by rw [e] <;> rfl, s, by unfold SF.addT; rw [if_neg (by omega)], hR, rfl⟩
      · skip
        refine cd rfl ?_ ?_ <;> intro h4
        · skip
          refine XE.ret1 rfl rfl (post_of .h2 rfl ?_)
          try dsimp only [SW.den, SV.den, dens, ofC]
          have e : s.addTE n p w = 1 := by unfold SF.addTE; rw [if_pos (by omega)]
          exact ⟨by rw [e] <;> rfl, s, by unfold SF.addT; rw [if_neg (by omega)], hR, rfl⟩
        · skip
          refine sd (by omega) ?_
          refine sd (by omega) ?_
          refine ld .here (encS.ld_u_here _ _ (by omega)) ?_
          refine cdB rfl ?_ ?_ <;> intro h5
          · try simp only [sb] at h5
            refine XE.ret1 rfl rfl (post_of .h2 rfl ?_)
            try dsimp only [SW.den, SV.den, dens, ofC]
            have e : s.addTE n p w = 3 := by unfold SF.addTE; rw [if_neg (by omega), if_pos (by assumption)]
            exact ⟨by rw [e] <;> rfl, s, by unfold SF.addT; rw [if_neg (by omega)], hR, rfl⟩
          · try simp only [sb] at h5
            have hno : s.here (10 + n) = false := by
              cases q : s.here (10 + n) with
              | false => rfl
              | true => rw [q] at h5; simp at h5
            refine ca (f_group _ _ _ _) .h1 ?_
            rintro _ _ (⟨h6, rfl, rfl⟩ | ⟨h6, rfl, rfl⟩)
            · skip
              try dsimp only [errvL0, errvL1, errvL2, errvL3, errvL4, errvL5, errvL6, errvL7, errvL8, errvL9, errvL10, errvL11, errvL12, errvL13]
              obtain ⟨i0, i1, i2, i3⟩ := h6
              refine gO ?_
              refine sd (by omega) ?_
              refine XO.v (V.build (vs := #[(0, .bool true), (1, .int .i64 p), (2, .int .i64 w)]) rfl (v := .agg (unitArr (freshU true p w))) (fun _ => by kernel_rfl)) rfl (gO ?_)
              refine sd (by omega) ?_
              refine oS ?_
              refine XO.storeAgg rfl rfl .here (encS_new _ (10 + n) p w true (by omega)) (unitArr_ok _) sz_187_76 ?_
              refine XO.mono (fun _ hw3 => XM.newRow (s := s) (z := (10 + n)) (by omega) (.cons (.there .here) .nil) hw3) ?_
              refine gO ?_
              refine XE.ret1 rfl rfl (post_of (.cons (.there .here) .h1) rfl ?_)
              try dsimp only [SW.den, SV.den, dens, ofC]
              have e : s.addTE n p w = 0 := by unfold SF.addTE; rw [if_neg (by omega), if_neg (by rw [hno]; simp)]; exact i0
              have hwz : s.was (10 + n) = false := by
                cases q : s.was (10 + n) with
                | false => rfl
                | true => have := (hI.was _ q).2.2; rw [hno] at this; cases this
              have hk9 : ∀ i, s.was i = true → s.par i ≠ (10 + n) := fun i hi e9 => by
                obtain ⟨a, b9, c⟩ := hI.was i hi
                have h9 := (hI.up i a b9 c).2.2.1
                rw [e9, hno] at h9; cases h9
              exact ⟨by rw [e] <;> rfl, _, by unfold SF.addT; rw [if_pos e], hR.new hwz hk9 p w true, rfl⟩
            · skip
              try dsimp only [errvL0, errvL1, errvL2, errvL3, errvL4, errvL5, errvL6, errvL7, errvL8, errvL9, errvL10, errvL11, errvL12, errvL13]
              have i0 := h6
              refine gO ?_
              refine XE.ret1 rfl rfl (post_of .h2 rfl ?_)
              try dsimp only [SW.den, SV.den, dens, ofC]
              have e : s.addTE n p w = s.grE p := by unfold SF.addTE; rw [if_neg (by omega), if_neg (by rw [hno]; simp)]
              exact ⟨by rw [e, errv_pos _ (by assumption)], s, by unfold SF.addT; rw [if_neg (by omega)], hR, rfl⟩
end Go.X.Fa

namespace Go.X.Fa
open Go Go.Proofs Go.X
set_option maxRecDepth 20000
set_option maxHeartbeats 4000000

theorem f_DropTask (b o : Nat) (s : SC) (d : Int → Nat) (hI : s.toSF.Inv d) (hR : s.Rep) (n : Int) : Spec Tryz.prog 190 [ptr b o 0, .int .i64 n]
 [.cells b o 2281 (encS s), .fam fam30 (s.rows 254)]
 (fun v H1 => v = errv 102 (s.tkE n) ∧ ∃ t : SC, t.toSF = s.toSF.dropT d n ∧ t.Rep ∧ H1 = [.cells b o 2281 (encS t), .fam fam30 (t.rows 254)]) := by
  refine Spec.go 30 [0, 1, 4, 5, 6, 14] [] Tryz.func190 rfl rfl rfl ?_
  intro W
  refine ca (f_task _ _ _ _) .h1 ?_
  rintro _ _ (⟨h1, rfl, rfl⟩ | ⟨h1, rfl, rfl⟩)
  · skip
    try dsimp only [errvL0, errvL1, errvL2, errvL3, errvL4, errvL5, errvL6, errvL7, errvL8, errvL9, errvL10, errvL11, errvL12, errvL13]
    obtain ⟨i0, i1, i2, i3⟩ := h1
    refine gO ?_
    refine st .here (encS.st_u_awake _ _ (by omega) _) rfl ?_
    refine sd (by omega) ?_
    refine ca (f_settle _ _ { s with awake := fset s.awake (10 + n) false } d ⟨hI.h0, hI.up, hI.was, hI.quo, hI.wt⟩ hR _ (.inr ⟨by omega, by omega, i3⟩)) .h2 ?_
    rintro _ _ ⟨rfl, t, tl, tR, rfl⟩
    have tw : t.toSF = s.toSF.wake d n false := by rw [tl]; unfold SF.wake; rw [if_pos i0]
    have twz : t.was (10 + n) = false := by
      show t.toSF.was (10 + n) = false
      rw [tl, SF.look_at (s := ({ s with awake := fset s.awake (10 + n) false } : SC).toSF) ⟨hI.h0, hI.up, hI.was, hI.quo, hI.wt⟩ (by omega) (by omega) i3]
      unfold SF.ready
      rw [if_pos (by omega)]
      exact fset_eq _ _ _
    have tI : t.toSF.Inv d := by rw [tl]; exact SF.look_inv (s := ({ s with awake := fset s.awake (10 + n) false } : SC).toSF) ⟨hI.h0, hI.up, hI.was, hI.quo, hI.wt⟩ (.inr ⟨by omega, by omega, i3⟩)
    have thp : t.toSF.here = s.here ∧ t.toSF.par = s.par := by rw [tl]; exact ⟨SF.look_here _ _ _, SF.look_par _ _ _⟩
    refine gO ?_
    refine sd (by omega) ?_
    refine XO.v (V.build (vs := #[]) rfl (v := .agg (unitArr (freshU false 0 0))) (fun _ => by kernel_rfl)) rfl (gO ?_)
    refine sd (by omega) ?_
    refine oS ?_
    refine XO.storeAgg rfl rfl .here (encS_new _ (10 + n) 0 0 false (by omega)) (unitArr_ok _) sz_187_76 ?_
    refine XO.mono (fun _ hw3 => XM.newRow (s := t) (z := (10 + n)) (by omega) (.cons (.there .here) .nil) hw3) ?_
    refine gO ?_
    refine XE.ret1 rfl rfl (post_of (.cons (.there .here) .h1) rfl ?_)
    try dsimp only [SW.den, SV.den, dens, ofC]
    have hk9 : ∀ i, t.was i = true → t.par i ≠ 10 + n := fun i hi e9 => by
      obtain ⟨a, b9, c⟩ := tI.was i hi
      have h9 := (tI.up i a b9 c).2.1
      have e9b : t.toSF.par i = 10 + n := e9
      omega
    exact ⟨by rw [i0]; rfl, _, by show t.toSF.newU _ _ _ _ = _; unfold SF.dropT; rw [if_pos i0, tw], tR.new twz hk9 0 0 false, rfl⟩
  · skip
    try dsimp only [errvL0, errvL1, errvL2, errvL3, errvL4, errvL5, errvL6, errvL7, errvL8, errvL9, errvL10, errvL11, errvL12, errvL13]
    have i0 := h1
    refine gO ?_
    refine XE.ret1 rfl rfl (post_of .h2 rfl ?_)
    try dsimp only [SW.den, SV.den, dens, ofC]
    exact ⟨by rw [errv_pos _ (by assumption)], s, by unfold SF.dropT; rw [if_neg (by assumption)], hR, rfl⟩
end Go.X.Fa
