import Derived.Test.YthdinakloheinaaGreatDoorkSM
import Derived.Test.YthdinakloheinaaGreatDoorKB
import Derived.Test.YthdinakloheinaaGreatDoorkGM
import Derived.Test.YthdinakloheinaaGreatDoorXFn
namespace Go.X.Sg
open Go Go.Proofs Go.X
set_option maxRecDepth 20000
set_option maxHeartbeats 4000000
theorem ar_256 : arrOf Tryz.prog 256 = some (32, 1) := by kernel_rfl
theorem s_number (n : Int) : Spec Tryz.prog 141 [.int .i64 n]
 []
 (fun v H1 => ((1 ≤ n ∧ n ≤ 8) ∧ v = .nilIface ∧ H1 = []) ∨ ((n < 1 ∨ n > 8) ∧ v = .iface 102 (.int .i64 1) ∧ H1 = [])) := by
  refine Spec.go 10 [0, 2, 8] [] Tryz.func141 rfl rfl rfl ?_
  intro W
  refine sp 5 rfl ?_ ?_ <;> intro h1
  · skip
    refine XE.ret1 rfl rfl (post_of .nil rfl ?_)
    try dsimp only [SW.den, SV.den, dens, ofC]
    first | exact .inl ⟨by omega, rfl, rfl⟩ | exact .inr ⟨by omega, rfl, rfl⟩
  · skip
    refine cd rfl ?_ ?_ <;> intro h2
    · skip
      refine XE.ret1 rfl rfl (post_of .nil rfl ?_)
      try dsimp only [SW.den, SV.den, dens, ofC]
      first | exact .inl ⟨by omega, rfl, rfl⟩ | exact .inr ⟨by omega, rfl, rfl⟩
    · skip
      refine XE.ret1 rfl rfl (post_of .nil rfl ?_)
      try dsimp only [SW.den, SV.den, dens, ofC]
      first | exact .inl ⟨by omega, rfl, rfl⟩ | exact .inr ⟨by omega, rfl, rfl⟩
theorem s_does (b o : Nat) (s : BS) (n : Int) (hn : 1 ≤ n ∧ n ≤ 8) : Spec Tryz.prog 142 [ptr b o 0, .int .i64 n]
 [.cells b o 11 (encB s)]
 (fun v H1 => v = .int .i64 (s.does n) ∧ H1 = [.cells b o 11 (encB s)]) := by
  refine Spec.go 22 [0, 1, 4, 15] [] Tryz.func142 rfl rfl rfl ?_
  intro W
  refine sp 7 rfl ?_ ?_ <;> intro h1
  · skip
    refine sd (by omega) ?_
    refine ld .here (encB.ld_how_I _ _ (by omega)) ?_
    refine cd rfl ?_ ?_ <;> intro h2
    · skip
      refine XE.ret1 rfl rfl (post_of .h1 rfl ?_)
      try dsimp only [SW.den, SV.den, dens, ofC]
      first | exact ⟨by unfold BS.does; rw [if_pos (by omega)], rfl⟩ | exact ⟨by unfold BS.does; rw [if_neg (by omega)], rfl⟩
    · skip
      refine sd (by omega) ?_
      refine ld .here (encB.ld_how_I _ _ (by omega)) ?_
      refine XE.ret1 rfl rfl (post_of .h1 rfl ?_)
      try dsimp only [SW.den, SV.den, dens, ofC]
      first | exact ⟨by unfold BS.does; rw [if_pos (by omega)], rfl⟩ | exact ⟨by unfold BS.does; rw [if_neg (by omega)], rfl⟩
  · skip
    refine sd (by omega) ?_
    refine ld .here (encB.ld_how_I _ _ (by omega)) ?_
    refine XE.ret1 rfl rfl (post_of .h1 rfl ?_)
    try dsimp only [SW.den, SV.den, dens, ofC]
    first | exact ⟨by unfold BS.does; rw [if_pos (by omega)], rfl⟩ | exact ⟨by unfold BS.does; rw [if_neg (by omega)], rfl⟩
theorem s_Send (b o : Nat) (s : BS) (n : Int) : Spec Tryz.prog 138 [ptr b o 0, .int .i64 n]
 [.cells b o 11 (encB s)]
 (fun v H1 => v = errv 102 (s.send n).1 ∧ H1 = [.cells b o 11 (encB (s.send n).2)]) := by
  refine Spec.go 26 [0, 1, 4, 5, 15] [] Tryz.func138 rfl rfl rfl ?_
  intro W
  refine ca (s_number _) .nil ?_
  rintro _ _ (⟨h1, rfl, rfl⟩ | ⟨h1, rfl, rfl⟩)
  · skip
    try dsimp only [errvL0, errvL1, errvL2, errvL3, errvL4, errvL5, errvL6, errvL7, errvL8, errvL9, errvL10, errvL11, errvL12, errvL13]
    refine gO ?_
    refine ca (s_does _ _ _ _ (by omega)) .h1 ?_
    rintro _ _ ⟨rfl, rfl⟩
    refine gO ?_
    refine cd rfl ?_ ?_ <;> intro h2
    · skip
      refine rq [0, 1, 2, 3, 4, 5, 6, 7, 8, 9] mixed (by kernel_rfl) ?_
      refine ld .here (encB.ld_wait _) ?_
      refine XO.v (V.shl rfl rfl (by omega) _ (shl_u16 (by omega))) rfl (gO ?_)
      refine XO.v (V.bits rfl rfl rfl (by first | exact pack_lt _ | exact two_lt (by omega) | (rw [IntKind.bits]; omega)) (by first | exact pack_lt _ | exact two_lt (by omega) | (rw [IntKind.bits]; omega)) rfl) rfl (gO ?_)
      refine st .here (encB_wait _ (pack_set _ (by omega))) rfl ?_
      refine XE.ret1 rfl rfl (post_of .h1 rfl ?_)
      try dsimp only [SW.den, SV.den, dens, ofC]
      first
      | (rw [BS.send_no (by omega)]; exact ⟨rfl, rfl⟩)
      | (rw [BS.send_ign (by omega) (by omega)]; exact ⟨rfl, rfl⟩)
      | (rw [BS.send_ok (by omega) (by omega)]; exact ⟨rfl, rfl⟩)
    · skip
      refine XE.ret1 rfl rfl (post_of .h1 rfl ?_)
      try dsimp only [SW.den, SV.den, dens, ofC]
      first
      | (rw [BS.send_no (by omega)]; exact ⟨rfl, rfl⟩)
      | (rw [BS.send_ign (by omega) (by omega)]; exact ⟨rfl, rfl⟩)
      | (rw [BS.send_ok (by omega) (by omega)]; exact ⟨rfl, rfl⟩)
  · skip
    try dsimp only [errvL0, errvL1, errvL2, errvL3, errvL4, errvL5, errvL6, errvL7, errvL8, errvL9, errvL10, errvL11, errvL12, errvL13]
    refine gO ?_
    refine XE.ret1 rfl rfl (post_of .h1 rfl ?_)
    try dsimp only [SW.den, SV.den, dens, ofC]
    first
    | (rw [BS.send_no (by omega)]; exact ⟨rfl, rfl⟩)
    | (rw [BS.send_ign (by omega) (by omega)]; exact ⟨rfl, rfl⟩)
    | (rw [BS.send_ok (by omega) (by omega)]; exact ⟨rfl, rfl⟩)
theorem s_tz (x t : Nat) (hx : x < 65536) (ht : x.testBit t = true) (hl : ∀ j, j < t → x.testBit j = false) (ht16 : t < 16) : Spec Tryz.prog 197 [.int .u16 (x : Int)]
 [.ro 0 0 32 tab32]
 (fun v H1 => v = .int .i64 (t : Int) ∧ H1 = []) := by
  have hx0 : 0 < x := by
    rcases Nat.eq_zero_or_pos x with q | q
    · rw [q] at ht; simp at ht
    · exact q
  obtain ⟨z1, z2, z3, z4, z5⟩ := tz_ok ht16
  refine Spec.go 15 [0, 2, 4] [] Tryz.func197 rfl rfl rfl ?_
  intro W
  refine cdF rfl (by simp; omega) ?_
  refine XO.v (V.neg rfl _ (neg_u16 ⟨hx0, hx⟩)) rfl (gO ?_)
  refine XO.v (V.bits (r := 2 ^ t) rfl rfl rfl hx (Nat.sub_lt (by decide) hx0) (congrArg some (low_bit (w := 16) ht hl hx ht16))) rfl (gO ?_)
  refine XO.v (V.convInt rfl Tryz.underlying84 Tryz.underlying257 _ z1) rfl (gO ?_)
  refine XO.v (V.mul rfl rfl _ z2) rfl (gO ?_)
  refine XO.v (V.shr rfl rfl (by omega) _ z3) rfl (gO ?_)
  refine XO.v (V.indexGl rfl rfl ar_256 (by omega)) rfl (gO ?_)
  refine ldRo .here (tz_tab ht16) ?_
  refine XO.v (V.convInt rfl Tryz.underlying5 Tryz.underlying3 _ z5) rfl (gO ?_)
  refine XE.ret1 rfl rfl (post_of .nil rfl ?_)
  try dsimp only [SW.den, SV.den, dens, ofC]
  exact ⟨rfl, rfl⟩
theorem s_first (b o : Nat) (s : BS) (hz : s.wait 0 = false) (h : Int) : Spec Tryz.prog 146 [ptr b o 0, .int .i64 h]
 [.cells b o 11 (encB s), .ro 0 0 32 tab32]
 (fun v H1 => v = .tuple #[.int .i64 (s.first h), .bool (decide (s.first h ≠ 0))] ∧ H1 = [.cells b o 11 (encB s)]) := by
  refine Spec.go 34 [0, 1, 4, 5, 6, 7, 18, 32] [] Tryz.func146 rfl rfl rfl ?_
  intro W
  refine rq [0, 1, 2, 3, 4, 5, 6, 7, 8, 9] mixed (by kernel_rfl) ?_
  refine ld .here (encB.ld_wait _) ?_
  refine ld .here (encB.ld_held _) ?_
  refine XO.v (V.bits rfl rfl rfl (by first | exact pack_lt _ | exact two_lt (by omega) | (rw [IntKind.bits]; omega)) (by first | exact pack_lt _ | exact two_lt (by omega) | (rw [IntKind.bits]; omega)) rfl) rfl (gO ?_)
  refine lp (σ := Nat × Nat) (fun x => 9 - x.2) (fun x => x.1 < 512 ∧ x.2 ≤ 9 ∧ (∀ j : Nat, x.1.testBit j = (decide (x.2 ≤ j) && (decide (j < 9) && s.wait j && !s.held j))) ∧ ∀ j : Int, 0 ≤ j → j < x.2 → ¬ (s.wait j = true ∧ s.held j = false ∧ s.how j = h)) (fun x => [(6, .int .u16 (x.1 : Int)), (0, ptr b o 0), (1, .int .i64 h)]) (fun x => XM W (foot [.cells b o 11 (encB s), .ro 0 0 32 tab32]) [.cells b o 11 (encB s), .ro 0 0 32 tab32]) ((nandn (pack s.wait) (pack s.held), 0)) ?_ (S3 rfl rfl rfl) (fun _ hw => XM.pick .h2 hw) ?_
  · skip
    refine ⟨Nat.lt_of_le_of_lt (nandn_le _ _) (pack_lt9 _), by omega, fun j => ?_, fun j h1 h2 => by simp at h2; omega⟩
    rw [testBit_nandn, testBit_pack, testBit_pack]
    by_cases q : j < 9 <;> simp [q]
  intro x hx
  obtain ⟨hx1, hx2, hx3, hx4⟩ := hx
  refine gC ?_
  refine cd rfl ?_ ?_ <;> intro h1
  · skip
    have hne : x.1 ≠ 0 := by omega
    obtain ⟨t, ht, hl⟩ := low_exists hne
    have hb := ht
    rw [hx3] at hb
    simp only [Bool.and_eq_true, decide_eq_true_eq, Bool.not_eq_true'] at hb
    obtain ⟨hb1, ⟨hb2, hb3⟩, hb4⟩ := hb
    refine caR 0 (s_tz x.1 t (by omega) ht hl (by omega)) (.cons (.there .here) .nil) rfl ?_
    rintro _ _ ⟨rfl, rfl⟩
    refine gO ?_
    refine sd (by omega) ?_
    refine ld (.there .here) (encB.ld_how_I _ _ (by omega)) ?_
    refine cd rfl ?_ ?_ <;> intro h2
    · skip
      refine XE.ret2 rfl rfl rfl (post_of (.cons (.there .here) .nil) rfl ?_)
      try dsimp only [SW.den, SV.den, dens, ofC]
      rw [BS.first_some (k := (t : Int)) (by omega) hb3 hb4 (by assumption) (fun j h1 h2 => ?_)]
      · have ht0 : (t : Int) ≠ 0 := by
          rintro q
          rw [q, hz] at hb3; cases hb3
        exact ⟨by simp [show t ≠ 0 from by omega], rfl⟩
      · by_cases q2 : j < x.2
        · exact hx4 j h1 q2
        · have q4 := hl j.toNat (by omega)
          rw [hx3, show ((j.toNat : Nat) : Int) = j from by omega] at q4
          have q5 : x.2 ≤ j.toNat := by omega
          have q6 : j.toNat < 9 := by omega
          simp [q5, q6] at q4
          rintro ⟨e1, e2, _⟩
          rw [q4 e1] at e2; cases e2
    · skip
      refine XO.v (V.sub rfl rfl _ (sub_u16 ⟨by omega, by omega⟩)) rfl (gO ?_)
      refine XO.v (V.bits rfl rfl rfl (show x.1 < 65536 by omega) (show x.1 - 1 < 65536 by omega) rfl) rfl (gO ?_)
      refine ag ((x.1 &&& (x.1 - 1), t + 1)) ?_ ?_ (S3 rfl rfl rfl) (fun _ hw => XM.pick (.cons (.there .here) .h1) hw)
      · skip
        (simp; omega)
      · skip
        refine ⟨Nat.lt_of_le_of_lt Nat.and_le_left hx1, by simp; omega, fun j => ?_, fun j h1 h2 => ?_⟩
        · show (x.1 &&& (x.1 - 1)).testBit j = _
          rw [low_clear ht hl, hx3]
          by_cases q1 : j < t
          · have q2 := hl j q1
            rw [hx3] at q2
            have q3 : ¬ t + 1 ≤ j := by omega
            simp only [q2, q3]; rfl
          · by_cases q2 : j = t
            · subst q2; simp; intro q; omega
            · have q3 : t + 1 ≤ j := by omega
              have q4 : x.2 ≤ j := by omega
              simp [q2, q3, q4]
        · by_cases q1 : j = t
          · subst q1; rintro ⟨_, _, q⟩; contradiction
          · by_cases q2 : j < x.2
            · exact hx4 j h1 q2
            · have q3 : j < t := by simp at h2; omega
              have q4 := hl j.toNat (by omega)
              rw [hx3, show ((j.toNat : Nat) : Int) = j from by omega] at q4
              have q5 : x.2 ≤ j.toNat := by omega
              have q6 : j.toNat < 9 := by omega
              simp [q5, q6] at q4
              rintro ⟨e1, e2, _⟩
              rw [q4 e1] at e2; cases e2
  · skip
    refine XE.ret2 rfl rfl rfl (post_of .h1 rfl ?_)
    try dsimp only [SW.den, SV.den, dens, ofC]
    have hx0 : x.1 = 0 := by omega
    rw [BS.first_none (fun j h1 h2 => ?_)]
    · exact ⟨rfl, rfl⟩
    · by_cases q2 : j < x.2
      · exact hx4 j h1 q2
      · have q4 := hx3 j.toNat
        rw [hx0, show ((j.toNat : Nat) : Int) = j from by omega] at q4
        have q5 : x.2 ≤ j.toNat := by omega
        have q6 : j.toNat < 9 := by omega
        simp [q5, q6] at q4
        rintro ⟨e1, e2, _⟩
        rw [q4 e1] at e2; cases e2
theorem s_Ends (b o : Nat) (s : BS) (hz : s.wait 0 = false) : Spec Tryz.prog 143 [ptr b o 0]
 [.cells b o 11 (encB s), .ro 0 0 32 tab32]
 (fun v H1 => v = .tuple #[.int .i64 (s.first 0), .bool (decide (s.first 0 ≠ 0))] ∧ H1 = [.cells b o 11 (encB s)]) := by
  refine Spec.go 8 [0, 2, 3] [] Tryz.func143 rfl rfl rfl ?_
  intro W
  refine caR 1 (s_first _ _ _ hz _) .h2 rfl ?_
  rintro _ _ ⟨rfl, rfl⟩
  refine gO ?_
  refine XE.ret2 rfl rfl rfl (post_of .h1 rfl ?_)
  try dsimp only [SW.den, SV.den, dens, ofC]
  exact ⟨rfl, rfl⟩
end Go.X.Sg

namespace Go.X.Gr
open Go Go.RowKit Go.Proofs Go.X
theorem ar_67 : arrOf Tryz.prog 67 = some (10, 5) := by kernel_rfl
theorem fo_151_0 : fieldOff Tryz.prog 151 0 = some 0 := by kernel_rfl
theorem fo_66_0 : fieldOff Tryz.prog 66 0 = some 0 := by kernel_rfl
theorem sc_3 : scal Tryz.prog 3 = true := by kernel_rfl
theorem sc_91 : scal Tryz.prog 91 = true := by kernel_rfl
def pathR (p o b1 b2 : Nat) (n : Int) (par : Int → Int) : List (Addr × Value) :=
  (⟨b1, 0, none⟩, .int .i64 n) :: (⟨b2, 0, none⟩, ptr p o 0) :: (List.range 10).map (fun k => (⟨p, o + (0 + 0 + k * 5 + 0), none⟩, .int .i64 (par (k : Int))))
theorem pathR_of {p o b1 b2 : Nat} {n : Int} {par : Int → Int} {s' : TG} (hp : s'.par = par) {H : List Ent} {w : World} (hg : Go.X.Good H w)
    (h1 : Has H (.cells b1 0 1 (cell1 (.int .i64 n)))) (h2 : Has H (.cells b2 0 1 (cell1 (ptr p o 0)))) (h3 : Has H (.cells p o 60 (encGt s'))) : ∀ y ∈ pathR p o b1 b2 n par, w.cell? y.1 = some y.2 := fun y hy => by
  simp only [pathR, List.mem_cons, List.mem_map, List.mem_range] at hy
  rcases hy with rfl | rfl | ⟨k, hk, rfl⟩
  · exact cell_of_holds (i := 0) (hg.1 _ h1.mem) (by omega)
  · exact cell_of_holds (i := 0) (hg.1 _ h2.mem) (by omega)
  · have h4 := cell_of_holds (hg.1 _ h3.mem) (encGt.ld_g_I_Parent s' (k : Int) (by omega)).1
    rw [(encGt.ld_g_I_Parent s' (k : Int) (by omega)).2, hp] at h4
    exact h4
theorem pathR_par {p o b1 b2 : Nat} {n : Int} {par : Int → Int} {w : World} (h : ∀ y ∈ pathR p o b1 b2 n par, w.cell? y.1 = some y.2) {z : Int} (h0 : 0 ≤ z ∧ z < 10) : w.cell? ⟨p, o + (0 + 0 + z.toNat * 5 + 0), none⟩ = some (.int .i64 (par z)) := by
  have := h (⟨p, o + (0 + 0 + z.toNat * 5 + 0), none⟩, .int .i64 (par (z.toNat : Int))) (by
    simp only [pathR, List.mem_cons, List.mem_map, List.mem_range]
    exact .inr (.inr ⟨z.toNat, by omega, rfl⟩))
  rw [show ((z.toNat : Nat) : Int) = z from by omega] at this
  exact this
set_option maxHeartbeats 1000000 in theorem path_seq (p o b1 b2 : Nat) (n : Int) (par : Int → Int) (xs : List N10) (hway : IsWay par n (vals xs)) (w : World) (hR : ∀ y ∈ pathR p o b1 b2 n par, w.cell? y.1 = some y.2) :
    SeqStopsK Fence.wide 2 Tryz.prog 184 #[ptr b1 0 0, ptr b2 0 0] (fun x : N10 => #[.int .i64 x.1]) (KpR (pathR p o b1 b2 n par)) (· = xs) (· <+: xs) xs.length w := by
  intro l J Jx W hW hJ hJx hY h0
  have hR0 : ∀ y ∈ pathR p o b1 b2 n par, W.cell? y.1 = some y.2 := fun y hy => by
    rw [hW.cell (cell_lt (hR y hy))]; exact hR y hy
  have e : (#[.func (.yield l) #[] #[]] ++ #[ptr b1 0 0, ptr b2 0 0] : Array Value) = [.func (.yield l) #[] #[], ptr b1 0 0, ptr b2 0 0].toArray := rfl
  rw [e]
  refine callsIn_wide.2 (enter (ps := []) (cs := []) (M := fun w => J [] w ∧ ∀ y ∈ pathR p o b1 b2 n par, w.cell? y.1 = some y.2) Tryz.func184 rfl rfl ?_ ⟨h0, hR0⟩)
  refine XC.seq ?_
  refine XC.region ?_
  refine XO.l (V.loadCell (b := b1) (o := 0) (v := .int .i64 n) rfl (fun w hw => hw.2 (⟨b1, 0, none⟩, .int .i64 n) (by simp [pathR])) sc_3) rfl ?_
  refine XO.v (V.assign rfl) rfl ?_
  refine XO.nil ?_
  refine XE.next ?_
  refine XC.keep [(0, _), (2, _), (4, _)] (Sub.cons rfl (Sub.cons rfl (Sub.cons rfl (Sub.nil _)))) ?_
  refine XC.block ?_
  refine XC.loop (σ := List N10 × List N10 × Int) (fun x => x.2.1.length) (fun x => x.1 ++ x.2.1 = xs ∧ IsWay par x.2.2 (vals x.2.1)) (fun x => [(0, .func (.yield l) #[] #[]), (2, ptr b2 0 0), (4, .int .i64 x.2.2)]) (fun x w => J x.1 w ∧ ∀ y ∈ pathR p o b1 b2 n par, w.cell? y.1 = some y.2) ([], xs, n) ⟨rfl, hway⟩ (Sub.cons rfl (Sub.cons rfl (Sub.cons rfl (Sub.nil _)))) (fun _ hw => hw) ?_
  rintro ⟨pre, rest, q⟩ ⟨hx, hq⟩
  refine XC.seq ?_
  refine XC.seq ?_
  refine XC.region ?_
  refine XO.v (V.move rfl) rfl ?_
  refine XO.v (V.cmp rfl rfl rfl) rfl ?_
  refine XO.nil ?_
  refine XE.next ?_
  refine XC.condP rfl (fun hq0 => ?_) (fun hq0 => ?_)
  · have hq1 : q ≥ 0 := hq0
    match rest, hq with
    | [], hq => exact absurd hq (by show ¬ q < 0; omega)
    | x :: rest, hq =>
      obtain ⟨e1, e2, e3, e4⟩ := hq
      have e1' : x.1 = q := e1
      subst e1'
      refine XC.skip ?_
      refine XE.next ?_
      refine XC.keep [(0, _), (2, _), (4, _)] (Sub.cons rfl (Sub.cons rfl (Sub.cons rfl (Sub.nil _)))) ?_
      refine XC.seq ?_
      refine XC.block ?_
      refine XC.seq ?_
      refine XC.regionI ?_
      refine XI.v (V.move rfl) rfl ?_
      refine XI.v (V.move rfl) rfl ?_
      refine XI.yield (R := fun e w' => (e = .returned (.bool true) ∧ J (pre ++ [x]) w' ∧ ∀ y ∈ pathR p o b1 b2 n par, w'.cell? y.1 = some y.2) ∨ (e = .returned (.bool false) ∧ Jx (pre ++ [x]) w')) rfl rfl (fun w hw => YieldAt.weak (hY pre x w hw.1 (by rw [← hx]; simp)) (fun e w' h => ?_)) rfl (fun e w' h => ?_)
      · rcases h with ⟨h1, h2, h3⟩ | h
        · exact .inl ⟨h1, h2, fun y hy => h3 y hy (hw.2 y hy)⟩
        · exact .inr h
      · rcases h with ⟨rfl, h2⟩ | ⟨rfl, h2⟩
        · refine ⟨true, rfl, ?_⟩
          refine XI.v (V.not rfl) rfl ?_
          refine XI.nil ?_
          refine XE.next ?_
          refine XC.condF rfl rfl ?_
          refine XC.skip ?_
          refine XE.blockNormal ?_
          refine XE.next ?_
          refine XC.keep [(0, _), (2, _), (4, _)] (Sub.cons rfl (Sub.cons rfl (Sub.cons rfl (Sub.nil _)))) ?_
          refine XC.mono (M' := fun w' => J (pre ++ [x]) w' ∧ ∀ y ∈ pathR p o b1 b2 n par, w'.cell? y.1 = some y.2) (fun w' hw' => by
            rcases hw' with ⟨_, h⟩ | ⟨h, _⟩
            · exact h
            · simp at h) ?_
          refine XC.region ?_
          refine XO.l (V.loadCell (b := b2) (o := 0) (v := ptr p o 0) rfl (fun w hw => hw.2 (⟨b2, 0, none⟩, ptr p o 0) (by simp [pathR])) sc_91) rfl ?_
          refine XO.v (V.move rfl) rfl ?_
          refine XO.v (V.nilCheckP rfl) rfl ?_
          refine XO.v (V.fieldAddr rfl fo_151_0) rfl ?_
          refine XO.v (V.indexArr rfl rfl ar_67 ⟨e2, e3⟩) rfl ?_
          refine XO.v (V.fieldAddr rfl fo_66_0) rfl ?_
          refine XO.l (V.loadCell rfl (fun w hw => pathR_par hw.2 ⟨e2, e3⟩) sc_3) rfl ?_
          refine XO.v (V.assign rfl) rfl ?_
          refine XO.nil ?_
          refine XE.again (pre ++ [x], rest, par x.1) (by simp) ⟨by rw [← hx]; simp, e4⟩ (Sub.cons rfl (Sub.cons rfl (Sub.cons rfl (Sub.nil _)))) (fun _ hw => hw)
        · refine ⟨false, rfl, ?_⟩
          refine XI.v (V.not rfl) rfl ?_
          refine XI.nil ?_
          refine XE.next ?_
          refine XC.condT rfl rfl ?_
          refine XC.ret ?_
          refine XE.blockRet ?_
          refine XE.thenRet ?_
          refine XE.thenRet ?_
          refine XE.blockRet ?_
          refine XE.ret0 rfl (fun w' hw' => ⟨⟨_, rfl⟩, .inr ⟨pre ++ [x], ?_, ?_⟩⟩)
          · exact ⟨rest, by rw [← hx]; simp⟩
          · rcases hw' with ⟨h, _⟩ | ⟨_, h⟩
            · simp at h
            · exact h
  · refine XC.exit ?_
    refine XE.thenExit ?_
    refine XE.thenExit ?_
    refine XE.blockExit ?_
    refine XE.end0 rfl (fun w' hw' => ⟨⟨_, rfl⟩, .inl ⟨pre, ?_, hw'.1⟩⟩)
    match rest, hq with
    | [], _ => rw [← hx]; simp
    | x :: rest, hq =>
      have hq1 : ¬ q ≥ 0 := hq0
      exact absurd hq.2.1 hq1

end Go.X.Gr

namespace Go.X.Gr
open Go Go.Proofs Go.X
set_option maxRecDepth 20000
set_option maxHeartbeats 4000000
theorem cl_184 : callable Tryz.prog 184 = true := by kernel_rfl
theorem sz_3_1 : szOf Tryz.prog 3 = some 1 := by kernel_rfl
theorem g_is (p o : Nat) (s : TG) (n : Int) : Spec Tryz.prog 113 [ptr p o 0, .int .i64 n]
 [.cells p o 60 (encGt s)]
 (fun v H1 => ((s.isE n = 0 ∧ 0 ≤ n ∧ n < 10 ∧ s.here n = true) ∧ v = .nilIface ∧ H1 = [.cells p o 60 (encGt s)]) ∨ (s.isE n ≠ 0 ∧ v = .iface 102 (.int .i64 (s.isE n)) ∧ H1 = [.cells p o 60 (encGt s)])) := by
  refine Spec.go 20 [0, 1, 4, 10, 18] [] Tryz.func113 rfl rfl rfl ?_
  intro W
  refine sp 7 rfl ?_ ?_ <;> intro h1
  · skip
    refine XE.ret1 rfl rfl (post_of .h1 rfl ?_)
    try dsimp only [SW.den, SV.den, dens, ofC]
    have e : s.isE n = 1 := by unfold TG.isE; rw [if_pos (by omega)]
    exact .inr ⟨by omega, by rw [e], rfl⟩
  · skip
    refine cd rfl ?_ ?_ <;> intro h2
    · skip
      refine XE.ret1 rfl rfl (post_of .h1 rfl ?_)
      try dsimp only [SW.den, SV.den, dens, ofC]
      have e : s.isE n = 1 := by unfold TG.isE; rw [if_pos (by omega)]
      exact .inr ⟨by omega, by rw [e], rfl⟩
    · skip
      refine sd (by omega) ?_
      refine ld .here (encGt.ld_here_I _ _ (by omega)) ?_
      refine cdB rfl ?_ ?_ <;> intro h3
      · try simp only [sb] at h3
        refine XE.ret1 rfl rfl (post_of .h1 rfl ?_)
        try dsimp only [SW.den, SV.den, dens, ofC]
        have e : s.isE n = 2 := by unfold TG.isE; rw [if_neg (by omega), if_neg (by simp_all)]
        exact .inr ⟨by omega, by rw [e], rfl⟩
      · try simp only [sb] at h3
        refine XE.ret1 rfl rfl (post_of .h1 rfl ?_)
        try dsimp only [SW.den, SV.den, dens, ofC]
        have e : s.isE n = 0 := by unfold TG.isE; rw [if_neg (by omega), if_pos (by simp_all)]
        exact .inl ⟨⟨e, by omega, by omega, by simp_all⟩, rfl, rfl⟩
theorem g_bounds (q m : Int) : Spec Tryz.prog 114 [.int .i64 q, .int .i64 m]
 []
 (fun v H1 => ((0 ≤ q ∧ q ≤ 20 ∧ 0 ≤ m ∧ m ≤ 64) ∧ v = .nilIface ∧ H1 = []) ∨ (TG.bnd q m = 1 ∧ v = .iface 102 (.int .i64 1) ∧ H1 = [])) := by
  refine Spec.go 20 [0, 1, 4, 18] [] Tryz.func114 rfl rfl rfl ?_
  intro W
  refine sp 7 rfl ?_ ?_ <;> intro h1
  · skip
    refine XE.ret1 rfl rfl (post_of .nil rfl ?_)
    try dsimp only [SW.den, SV.den, dens, ofC]
    first
    | exact .inr ⟨by unfold TG.bnd; rw [if_pos (by omega)], rfl, rfl⟩
    | exact .inl ⟨by omega, rfl, rfl⟩
  · skip
    refine sp 11 rfl ?_ ?_ <;> intro h2
    · skip
      refine XE.ret1 rfl rfl (post_of .nil rfl ?_)
      try dsimp only [SW.den, SV.den, dens, ofC]
      first
      | exact .inr ⟨by unfold TG.bnd; rw [if_pos (by omega)], rfl, rfl⟩
      | exact .inl ⟨by omega, rfl, rfl⟩
    · skip
      refine sp 15 rfl ?_ ?_ <;> intro h3
      · skip
        refine XE.ret1 rfl rfl (post_of .nil rfl ?_)
        try dsimp only [SW.den, SV.den, dens, ofC]
        first
        | exact .inr ⟨by unfold TG.bnd; rw [if_pos (by omega)], rfl, rfl⟩
        | exact .inl ⟨by omega, rfl, rfl⟩
      · skip
        refine cd rfl ?_ ?_ <;> intro h4
        · skip
          refine XE.ret1 rfl rfl (post_of .nil rfl ?_)
          try dsimp only [SW.den, SV.den, dens, ofC]
          first
          | exact .inr ⟨by unfold TG.bnd; rw [if_pos (by omega)], rfl, rfl⟩
          | exact .inl ⟨by omega, rfl, rfl⟩
        · skip
          refine XE.ret1 rfl rfl (post_of .nil rfl ?_)
          try dsimp only [SW.den, SV.den, dens, ofC]
          first
          | exact .inr ⟨by unfold TG.bnd; rw [if_pos (by omega)], rfl, rfl⟩
          | exact .inl ⟨by omega, rfl, rfl⟩
theorem g_room (g : GV) (q m : Int) (h0 : -9223372036854775808 ≤ g.pr + q ∧ g.pr + q ≤ 9223372036854775807) (h1 : -9223372036854775808 ≤ g.pg + m ∧ g.pg + m ≤ 9223372036854775807) : Spec Tryz.prog 116 [.agg g.arr, .int .i64 q, .int .i64 m]
 []
 (fun v H1 => v = .bool (g.room q m) ∧ H1 = []) := by
  refine Spec.go 41 [1, 2, 3, 6] [] Tryz.func116 rfl rfl rfl ?_
  intro W
  refine XO.box (m := 5) (C := encV g) rfl rfl (encV_box g) rfl ?_
  intro bg
  refine gO ?_
  refine sp 9 rfl ?_ ?_ <;> intro h1
  · skip
    refine sp 26 rfl ?_ ?_ <;> intro h2
    · skip
      refine XE.ret1 rfl rfl (post_of .nil rfl ?_)
      try dsimp only [SW.den, SV.den, dens, ofC]
      refine ⟨?_, rfl⟩
      unfold GV.room
      first | (simp_all; done) | (simp_all; omega)
    · skip
      refine ld .here (encV.ld_MaxPages _) ?_
      refine sp 31 rfl ?_ ?_ <;> intro h3
      · skip
        refine XE.ret1 rfl rfl (post_of .nil rfl ?_)
        try dsimp only [SW.den, SV.den, dens, ofC]
        refine ⟨?_, rfl⟩
        unfold GV.room
        first | (simp_all; done) | (simp_all; omega)
      · skip
        refine ld .here (encV.ld_Pages _) ?_
        refine sd (by omega) ?_
        refine ld .here (encV.ld_MaxPages _) ?_
        refine XE.ret1 rfl rfl (post_of .nil rfl ?_)
        try dsimp only [SW.den, SV.den, dens, ofC]
        refine ⟨?_, rfl⟩
        unfold GV.room
        first | (simp_all; done) | (simp_all; omega)
  · skip
    refine ld .here (encV.ld_MaxProcs _) ?_
    refine sp 14 rfl ?_ ?_ <;> intro h4
    · skip
      refine sp 26 rfl ?_ ?_ <;> intro h5
      · skip
        refine XE.ret1 rfl rfl (post_of .nil rfl ?_)
        try dsimp only [SW.den, SV.den, dens, ofC]
        refine ⟨?_, rfl⟩
        unfold GV.room
        first | (simp_all; done) | (simp_all; omega)
      · skip
        refine ld .here (encV.ld_MaxPages _) ?_
        refine sp 31 rfl ?_ ?_ <;> intro h6
        · skip
          refine XE.ret1 rfl rfl (post_of .nil rfl ?_)
          try dsimp only [SW.den, SV.den, dens, ofC]
          refine ⟨?_, rfl⟩
          unfold GV.room
          first | (simp_all; done) | (simp_all; omega)
        · skip
          refine ld .here (encV.ld_Pages _) ?_
          refine sd (by omega) ?_
          refine ld .here (encV.ld_MaxPages _) ?_
          refine XE.ret1 rfl rfl (post_of .nil rfl ?_)
          try dsimp only [SW.den, SV.den, dens, ofC]
          refine ⟨?_, rfl⟩
          unfold GV.room
          first | (simp_all; done) | (simp_all; omega)
    · skip
      refine ld .here (encV.ld_Procs _) ?_
      refine sd (by omega) ?_
      refine ld .here (encV.ld_MaxProcs _) ?_
      refine sp 23 rfl ?_ ?_ <;> intro h7
      · skip
        refine sp 26 rfl ?_ ?_ <;> intro h8
        · skip
          refine XE.ret1 rfl rfl (post_of .nil rfl ?_)
          try dsimp only [SW.den, SV.den, dens, ofC]
          refine ⟨?_, rfl⟩
          unfold GV.room
          first | (simp_all; done) | (simp_all; omega)
        · skip
          refine ld .here (encV.ld_MaxPages _) ?_
          refine sp 31 rfl ?_ ?_ <;> intro h9
          · skip
            refine XE.ret1 rfl rfl (post_of .nil rfl ?_)
            try dsimp only [SW.den, SV.den, dens, ofC]
            refine ⟨?_, rfl⟩
            unfold GV.room
            first | (simp_all; done) | (simp_all; omega)
          · skip
            refine ld .here (encV.ld_Pages _) ?_
            refine sd (by omega) ?_
            refine ld .here (encV.ld_MaxPages _) ?_
            refine XE.ret1 rfl rfl (post_of .nil rfl ?_)
            try dsimp only [SW.den, SV.den, dens, ofC]
            refine ⟨?_, rfl⟩
            unfold GV.room
            first | (simp_all; done) | (simp_all; omega)
      · skip
        refine XE.ret1 rfl rfl (post_of .nil rfl ?_)
        try dsimp only [SW.den, SV.den, dens, ofC]
        refine ⟨?_, rfl⟩
        unfold GV.room
        first | (simp_all; done) | (simp_all; omega)
theorem g_path (p o : Nat) (n : Int) : Spec Tryz.prog 115 [ptr p o 0, .int .i64 n]
 []
 (fun v H1 => ∃ b1 b2, v = .func (.func 184) #[] #[ptr b1 0 0, ptr b2 0 0] ∧ H1 = [.cells b1 0 1 (cell1 (.int .i64 n)), .cells b2 0 1 (cell1 (ptr p o 0))]) := by
  refine Spec.go 6 [2, 3, 4] [] Tryz.func115 rfl rfl rfl ?_
  intro W
  refine XO.box (m := 1) (C := cell1 (ptr p o 0)) rfl rfl (fun _ _ => rfl) rfl ?_
  intro b2
  refine gO ?_
  refine XO.box (m := 1) (C := cell1 (.int .i64 n)) rfl rfl (fun _ _ => rfl) rfl ?_
  intro b1
  refine gO ?_
  refine XO.v (V.makeFunc2 rfl rfl) rfl ?_
  refine gO ?_
  refine XE.ret1 rfl rfl (post_of .h2 rfl ?_)
  try dsimp only [SW.den, SV.den, dens, ofC]
  exact ⟨_, _, rfl, rfl⟩
end Go.X.Gr

namespace Go.X.Gr
open Go Go.Proofs Go.X
set_option maxRecDepth 20000
set_option maxHeartbeats 4000000
theorem ag_66 : aggT Tryz.prog 66 = true := by kernel_rfl
theorem cl_116 : callable Tryz.prog 116 = true := by kernel_rfl
theorem fo_66_3 : fieldOff Tryz.prog 66 3 = some 3 := by kernel_rfl
theorem fo_66_4 : fieldOff Tryz.prog 66 4 = some 4 := by kernel_rfl
theorem sc_33 : scal Tryz.prog 33 = true := by kernel_rfl
theorem sc_4 : scal Tryz.prog 4 = true := by kernel_rfl
theorem sz_33_1 : szOf Tryz.prog 33 = some 1 := by kernel_rfl
theorem sz_4_1 : szOf Tryz.prog 4 = some 1 := by kernel_rfl
theorem sz_66_5 : szOf Tryz.prog 66 = some 5 := by kernel_rfl
theorem g_add (p o : Nat) (s : TG) (hO : s.Ok) (n : Int) (hn : 0 ≤ n ∧ n < 10 ∧ s.here n = true) (q m : Int) (hq : -20 ≤ q ∧ q ≤ 20) (hm : -64 ≤ m ∧ m ≤ 64) (Bd : Int) (hB : 0 ≤ Bd ∧ Bd ≤ 1000000000000) (hS : s.Small Bd) : Spec Tryz.prog 117 [ptr p o 0, .int .i64 n, .int .i64 q, .int .i64 m]
 [.cells p o 60 (encGt s)]
 (fun v H1 => v = .tuple #[] ∧ H1 = [.cells p o 60 (encGt (s.lay (s.way n) q m))]) := by
  have hway := hO.way hn.1 hn.2.1 hn.2.2
  obtain ⟨xs, hxs⟩ := lift_way _ hway.1.range
  have hlen5 : xs.length ≤ 4 := by
    have : (vals xs).length = xs.length := by simp [vals]
    rw [hxs] at this; omega
  refine Spec.goM 39 [1, 4, 6, 7, 11] [] Tryz.func117 rfl rfl rfl ?_
  intro W
  refine XO.box (m := 1) (C := cell1 (ptr p o 0)) rfl rfl (fun _ _ => rfl) rfl ?_
  intro bT
  refine gO ?_
  refine XO.box (m := 1) (C := cell1 (.int .i64 q)) rfl rfl (fun _ _ => rfl) rfl ?_
  intro bq
  refine gO ?_
  refine XO.box (m := 1) (C := cell1 (.int .i64 m)) rfl rfl (fun _ _ => rfl) rfl ?_
  intro bm
  refine gO ?_
  refine ld (.t2 .here) (cell1.ld _) ?_
  refine ca (g_path _ _ _) .nil ?_
  rintro _ _ ⟨b1, b2, rfl, rfl⟩
  refine gO ?_
  refine XC.rangeA (xs := xs) (fun x : N10 => .int .i64 x.1) (fun pre => pre.length ≤ xs.length) (fun _ => False) (fun pre => [.cells b1 0 1 (cell1 (.int .i64 n)), .cells b2 0 1 (cell1 (ptr p o 0)), .cells p o 60 (encGt (s.lay (vals pre) q m)), .cells bT 0 1 (cell1 (ptr p o 0)), .cells bq 0 1 (cell1 (.int .i64 q)), .cells bm 0 1 (cell1 (.int .i64 m))]) (fun pre => [.cells b1 0 1 (cell1 (.int .i64 n)), .cells b2 0 1 (cell1 (ptr p o 0)), .cells p o 60 (encGt (s.lay (vals pre) q m)), .cells bT 0 1 (cell1 (ptr p o 0)), .cells bq 0 1 (cell1 (.int .i64 q)), .cells bm 0 1 (cell1 (.int .i64 m))]) rfl (call_enters cl_184) rfl rfl (fun w hw => path_seq p o b1 b2 n s.par xs (by rw [hxs]; exact hway.1) w (pathR_of (by rfl) hw.good .here (.there .here) (.t5 .here))) ?_ (fun _ hw => by rw [show s.lay (vals []) q m = s from TG.lay_nil s q m]; exact XM.pick (.cons .here (.cons .here (.cons (.t3 .here) (.cons (.t2 .here) (.cons (.there .here) .h1))))) hw) (fun _ => rfl) (fun _ => rfl) ?_ ?_ ?_
  · skip
    simp
  · intro pre x w hV hlen hx
    have hsm := hS.lay (l := vals pre) (by simp [vals]; omega) hq hm x.1 x.2.1 x.2.2
    obtain ⟨x1, x2⟩ := x.2
    refine XB.block ?_
    refine XB.seq ?_
    refine XB.regionQ mixed (f := 14) (l := #[false, false, false, false, false, false, false, false, false, false, false, false, false, false]) rfl rfl XM.drawn' ?_
    refine XQ.load (i := 0) (l' := #[true, false, false, false, false, false, false, false, false, false, false, false, false, false]) (.cells _ _ _ _) [13] rfl (by kernel_rfl) rfl (.t3 .here) (V.load rfl inEnt (cell1.ld _) sc_91) rfl (by kernel_rfl) rfl ?_
    refine XQ.pv (i := 1) (l' := #[true, true, false, false, false, false, false, false, false, false, false, false, false, false]) rfl (by kernel_rfl) rfl (V.move rfl) rfl rfl ?_
    refine XQ.pv (i := 2) (l' := #[true, true, true, false, false, false, false, false, false, false, false, false, false, false]) rfl (by kernel_rfl) rfl (V.nilCheckP rfl) rfl rfl ?_
    refine XQ.pv (i := 3) (l' := #[true, true, true, true, false, false, false, false, false, false, false, false, false, false]) rfl (by kernel_rfl) rfl (V.fieldAddr rfl fo_151_0) rfl rfl ?_
    refine XQ.pv (i := 4) (l' := #[true, true, true, true, true, false, false, false, false, false, false, false, false, false]) rfl (by kernel_rfl) rfl (V.indexArr rfl rfl ar_67 (by omega)) rfl rfl ?_
    refine XQ.pv (i := 5) (l' := #[true, true, true, true, true, true, false, false, false, false, false, false, false, false]) rfl (by kernel_rfl) rfl (V.fieldAddr rfl fo_66_3) rfl rfl ?_
    refine XQ.load (i := 6) (l' := #[true, true, true, true, true, true, true, false, false, false, false, false, false, false]) (.cells _ _ _ _) [13] rfl (by kernel_rfl) rfl (.t2 .here) (V.load rfl inEnt (encGt.ld_g_I_Procs _ _ (by omega)) sc_3) rfl (by kernel_rfl) rfl ?_
    refine XQ.load (i := 7) (l' := #[true, true, true, true, true, true, true, true, false, false, false, false, false, false]) (.cells _ _ _ _) [13] rfl (by kernel_rfl) rfl (.t4 .here) (V.load rfl inEnt (cell1.ld _) sc_3) rfl (by kernel_rfl) rfl ?_
    refine XQ.pv (i := 8) (l' := #[true, true, true, true, true, true, true, true, true, false, false, false, false, false]) rfl (by kernel_rfl) rfl (V.add rfl rfl _ (IntWalk.i64_in _ (by omega))) rfl rfl ?_
    refine XQ.pv (i := 9) (l' := #[true, true, true, true, true, true, true, true, true, true, false, false, false, false]) rfl (by kernel_rfl) rfl (V.nilCheckP rfl) rfl rfl ?_
    refine XQ.pv (i := 10) (l' := #[true, true, true, true, true, true, true, true, true, true, true, false, false, false]) rfl (by kernel_rfl) rfl (V.fieldAddr rfl fo_151_0) rfl rfl ?_
    refine XQ.pv (i := 11) (l' := #[true, true, true, true, true, true, true, true, true, true, true, true, false, false]) rfl (by kernel_rfl) rfl (V.indexArr rfl rfl ar_67 (by omega)) rfl rfl ?_
    refine XQ.pv (i := 12) (l' := #[true, true, true, true, true, true, true, true, true, true, true, true, true, false]) rfl (by kernel_rfl) rfl (V.fieldAddr rfl fo_66_3) rfl rfl ?_
    refine XQ.store (i := 13) (l' := #[true, true, true, true, true, true, true, true, true, true, true, true, true, true]) rfl (by kernel_rfl) rfl rfl rfl (.t2 .here) (encGt.st_g_I_Procs _ _ (by omega) _) rfl sz_3_1 (fun _ hw' => ⟨fun hs => (hs 13 (by first | (simp; done) | (simp; rfl)) rfl).elim, fun hs => (hs 13 (by first | (simp; done) | (simp; rfl)) rfl).elim, fun hs => (hs 13 (by first | (simp; done) | (simp; rfl)) rfl).elim, trivial⟩) ?_
    refine XQ.done (by kernel_rfl) ?_
    refine XE.nextB ?_
    refine XB.keep [(4, _), (7, _), (8, _)] (S3 rfl rfl rfl) ?_
    refine XB.regionQ mixed (f := 14) (l := #[false, false, false, false, false, false, false, false, false, false, false, false, false, false]) rfl rfl XM.drawn' ?_
    refine XQ.load (i := 0) (l' := #[true, false, false, false, false, false, false, false, false, false, false, false, false, false]) (.cells _ _ _ _) [13] rfl (by kernel_rfl) rfl (.t3 .here) (V.load rfl inEnt (cell1.ld _) sc_91) rfl (by kernel_rfl) rfl ?_
    refine XQ.pv (i := 1) (l' := #[true, true, false, false, false, false, false, false, false, false, false, false, false, false]) rfl (by kernel_rfl) rfl (V.move rfl) rfl rfl ?_
    refine XQ.pv (i := 2) (l' := #[true, true, true, false, false, false, false, false, false, false, false, false, false, false]) rfl (by kernel_rfl) rfl (V.nilCheckP rfl) rfl rfl ?_
    refine XQ.pv (i := 3) (l' := #[true, true, true, true, false, false, false, false, false, false, false, false, false, false]) rfl (by kernel_rfl) rfl (V.fieldAddr rfl fo_151_0) rfl rfl ?_
    refine XQ.pv (i := 4) (l' := #[true, true, true, true, true, false, false, false, false, false, false, false, false, false]) rfl (by kernel_rfl) rfl (V.indexArr rfl rfl ar_67 (by omega)) rfl rfl ?_
    refine XQ.pv (i := 5) (l' := #[true, true, true, true, true, true, false, false, false, false, false, false, false, false]) rfl (by kernel_rfl) rfl (V.fieldAddr rfl fo_66_4) rfl rfl ?_
    refine XQ.load (i := 6) (l' := #[true, true, true, true, true, true, true, false, false, false, false, false, false, false]) (.cells _ _ _ _) [13] rfl (by kernel_rfl) rfl (.t2 .here) (V.load rfl inEnt (encGt.ld_g_I_Pages _ _ (by omega)) sc_3) rfl (by kernel_rfl) rfl ?_
    refine XQ.load (i := 7) (l' := #[true, true, true, true, true, true, true, true, false, false, false, false, false, false]) (.cells _ _ _ _) [13] rfl (by kernel_rfl) rfl (.t5 .here) (V.load rfl inEnt (cell1.ld _) sc_3) rfl (by kernel_rfl) rfl ?_
    refine XQ.pv (i := 8) (l' := #[true, true, true, true, true, true, true, true, true, false, false, false, false, false]) rfl (by kernel_rfl) rfl (V.add rfl rfl _ (IntWalk.i64_in _ (by have := hsm.2.2; show _ ≤ (s.lay (vals pre) q m).pg x.1 + m ∧ (s.lay (vals pre) q m).pg x.1 + m ≤ _; omega))) rfl rfl ?_
    refine XQ.pv (i := 9) (l' := #[true, true, true, true, true, true, true, true, true, true, false, false, false, false]) rfl (by kernel_rfl) rfl (V.nilCheckP rfl) rfl rfl ?_
    refine XQ.pv (i := 10) (l' := #[true, true, true, true, true, true, true, true, true, true, true, false, false, false]) rfl (by kernel_rfl) rfl (V.fieldAddr rfl fo_151_0) rfl rfl ?_
    refine XQ.pv (i := 11) (l' := #[true, true, true, true, true, true, true, true, true, true, true, true, false, false]) rfl (by kernel_rfl) rfl (V.indexArr rfl rfl ar_67 (by omega)) rfl rfl ?_
    refine XQ.pv (i := 12) (l' := #[true, true, true, true, true, true, true, true, true, true, true, true, true, false]) rfl (by kernel_rfl) rfl (V.fieldAddr rfl fo_66_4) rfl rfl ?_
    refine XQ.store (i := 13) (l' := #[true, true, true, true, true, true, true, true, true, true, true, true, true, true]) rfl (by kernel_rfl) rfl rfl rfl (.t2 .here) (encGt.st_g_I_Pages _ _ (by omega) _) rfl sz_3_1 (fun _ hw' => ⟨fun hs => (hs 13 (by first | (simp; done) | (simp; rfl)) rfl).elim, fun hs => (hs 13 (by first | (simp; done) | (simp; rfl)) rfl).elim, fun hs => (hs 13 (by first | (simp; done) | (simp; rfl)) rfl).elim, trivial⟩) ?_
    refine XQ.done (by kernel_rfl) ?_
    refine XE.blockNormal ?_
    refine XE.goOn hx ?_ rfl (fun w2 hg => pathR_of (by rfl) hg .here (.there .here) (.t2 .here)) (fun w2 hw2 => ?_)
    · skip
      simp; omega
    · skip
      have := XM.pick .h6 hw2
      rw [vals_snoc, TG.lay_snoc]
      exact this
  · intro hV D hD
    refine gE ?_
    refine XE.markM (.inl rfl) .here rfl hD ?_
    refine XE.end0 rfl (post_of (.cons (.t2 .here) .nil) rfl ?_)
    try dsimp only [SW.den, SV.den, dens, ofC]
    refine ⟨rfl, ?_⟩
    rw [hxs]
  · intro pre hp hV D hD
    exact hV.elim
theorem g_charge (p o : Nat) (s : TG) (hO : s.Ok) (n q m : Int) (Bd : Int) (hB : 0 ≤ Bd ∧ Bd ≤ 1000000000000) (hS : s.Small Bd) : Spec Tryz.prog 51 [ptr p o 0, .int .i64 n, .int .i64 q, .int .i64 m]
 [.cells p o 60 (encGt s)]
 (fun v H1 => v = errv 102 (s.chargeE n q m) ∧ H1 = [.cells p o 60 (encGt (s.charge n q m))]) := by
  refine Spec.goM 42 [1, 4, 6, 7, 8, 9, 15, 20, 24] [] Tryz.func51 rfl rfl rfl ?_
  intro W
  refine XO.box (m := 1) (C := cell1 (ptr p o 0)) rfl rfl (fun _ _ => rfl) rfl ?_
  intro bT
  refine gO ?_
  refine XO.box (m := 1) (C := cell1 (.int .i64 q)) rfl rfl (fun _ _ => rfl) rfl ?_
  intro bq
  refine gO ?_
  refine XO.box (m := 1) (C := cell1 (.int .i64 m)) rfl rfl (fun _ _ => rfl) rfl ?_
  intro bm
  refine gO ?_
  refine XO.allocZ (z := .nilIface) (m := 1) (C := cell1 (.nilIface)) (by kernel_rfl) rfl (fun _ _ => rfl) rfl ?_
  intro be
  refine gO ?_
  refine ld (.t3 .here) (cell1.ld _) ?_
  refine ca (g_is _ _ _ _) (.cons (.t4 .here) .nil) ?_
  rintro _ _ (⟨h1, rfl, rfl⟩ | ⟨h1, rfl, rfl⟩)
  · skip
    try dsimp only [errvL0, errvL1, errvL2, errvL3, errvL4, errvL5, errvL6, errvL7, errvL8, errvL9, errvL10, errvL11, errvL12, errvL13]
    obtain ⟨i0, i1, i2, i3⟩ := h1
    refine gO ?_
    refine ld (.t3 .here) (cell1.ld _) ?_
    refine ld (.t2 .here) (cell1.ld _) ?_
    refine ca (g_bounds _ _) .nil ?_
    rintro _ _ (⟨h2, rfl, rfl⟩ | ⟨h2, rfl, rfl⟩)
    · skip
      try dsimp only [errvL0, errvL1, errvL2, errvL3, errvL4, errvL5, errvL6, errvL7, errvL8, errvL9, errvL10, errvL11, errvL12, errvL13]
      have j0 := h2
      have hway := hO.way i1 i2 i3
      obtain ⟨xs, hxs⟩ := lift_way _ hway.1.range
      have hlen5 : xs.length ≤ 4 := by
        have : (vals xs).length = xs.length := by simp [vals]
        rw [hxs] at this; omega
      refine gO ?_
      refine ld (.t4 .here) (cell1.ld _) ?_
      refine ca (g_path _ _ _) .nil ?_
      rintro _ _ ⟨b1, b2, rfl, rfl⟩
      refine gO ?_
      refine XC.rangeA (xs := xs) (fun x : N10 => .int .i64 x.1) (fun pre => ∀ x ∈ pre, s.room q m x.1 = true) (fun pre => ∃ x ∈ pre, s.room q m x.1 = false) (fun pre => [.cells b1 0 1 (cell1 (.int .i64 n)), .cells b2 0 1 (cell1 (ptr p o 0)), .cells p o 60 (encGt s), .cells bT 0 1 (cell1 (ptr p o 0)), .cells bq 0 1 (cell1 (.int .i64 q)), .cells bm 0 1 (cell1 (.int .i64 m)), .cells be 0 1 (cell1 (.nilIface))]) (fun pre => [.cells b1 0 1 (cell1 (.int .i64 n)), .cells b2 0 1 (cell1 (ptr p o 0)), .cells p o 60 (encGt s), .cells bT 0 1 (cell1 (ptr p o 0)), .cells bq 0 1 (cell1 (.int .i64 q)), .cells bm 0 1 (cell1 (.int .i64 m)), .cells be 0 1 (cell1 (.iface 102 (.int .i64 6)))]) rfl (call_enters cl_184) rfl rfl (fun w hw => path_seq p o b1 b2 n s.par xs (by rw [hxs]; exact hway.1) w (pathR_of (by rfl) hw.good .here (.there .here) (.t2 .here))) ?_ (fun _ hw => XM.pick (.cons .here (.cons .here (.cons .here (.cons (.t3 .here) (.cons (.t2 .here) (.cons (.there .here) .h1)))))) hw) (fun _ => rfl) (fun _ => rfl) ?_ ?_ ?_
      · skip
        simp
      · intro pre x w hV hlen hx
        have hsm := hS x.1 x.2.1 x.2.2
        obtain ⟨x1, x2⟩ := x.2
        have hr0 : -9223372036854775808 ≤ (s.gv x.1).pr + q ∧ (s.gv x.1).pr + q ≤ 9223372036854775807 := by show _ ≤ s.pr x.1 + q ∧ s.pr x.1 + q ≤ _; omega
        have hr1 : -9223372036854775808 ≤ (s.gv x.1).pg + m ∧ (s.gv x.1).pg + m ≤ 9223372036854775807 := by show _ ≤ s.pg x.1 + m ∧ s.pg x.1 + m ≤ _; omega
        refine XB.block ?_
        refine XB.seq ?_
        refine XB.regionQ mixed (f := 10) (l := #[false, false, false, false, false, false, false, false, false, false]) rfl rfl XM.drawn' ?_
        refine XQ.load (i := 0) (l' := #[true, false, false, false, false, false, false, false, false, false]) (.cells _ _ _ _) [8] rfl (by kernel_rfl) rfl (.t3 .here) (V.load rfl inEnt (cell1.ld _) sc_91) rfl (by kernel_rfl) rfl ?_
        refine XQ.pv (i := 1) (l' := #[true, true, false, false, false, false, false, false, false, false]) rfl (by kernel_rfl) rfl (V.move rfl) rfl rfl ?_
        refine XQ.pv (i := 2) (l' := #[true, true, true, false, false, false, false, false, false, false]) rfl (by kernel_rfl) rfl (V.nilCheckP rfl) rfl rfl ?_
        refine XQ.pv (i := 3) (l' := #[true, true, true, true, false, false, false, false, false, false]) rfl (by kernel_rfl) rfl (V.fieldAddr rfl fo_151_0) rfl rfl ?_
        refine XQ.pv (i := 4) (l' := #[true, true, true, true, true, false, false, false, false, false]) rfl (by kernel_rfl) rfl (V.indexArr rfl rfl ar_67 (by omega)) rfl rfl ?_
        refine XQ.load (i := 5) (l' := #[true, true, true, true, true, true, false, false, false, false]) (.cells _ _ _ _) [8] rfl (by kernel_rfl) rfl (.t2 .here) (V.loadAgg rfl inEnt (encGt_gv _ _ (by omega)) ag_66 sz_66_5) rfl (by kernel_rfl) rfl ?_
        refine XQ.load (i := 6) (l' := #[true, true, true, true, true, true, true, false, false, false]) (.cells _ _ _ _) [8] rfl (by kernel_rfl) rfl (.t4 .here) (V.load rfl inEnt (cell1.ld _) sc_3) rfl (by kernel_rfl) rfl ?_
        refine XQ.load (i := 7) (l' := #[true, true, true, true, true, true, true, true, false, false]) (.cells _ _ _ _) [8] rfl (by kernel_rfl) rfl (.t5 .here) (V.load rfl inEnt (cell1.ld _) sc_3) rfl (by kernel_rfl) rfl ?_
        refine XQ.call (i := 8) (l' := #[true, true, true, true, true, true, true, true, true, false]) rfl (by kernel_rfl) rfl rfl (g_room _ _ _ (by assumption) (by assumption)) .nil cl_116 rfl (by rintro _ _ ⟨rfl, rfl⟩; all_goals (intro _ hw'; exact ⟨fun hs => (hs 8 (by first | (simp; done) | (simp; rfl)) rfl).elim, fun hs => (hs 8 (by first | (simp; done) | (simp; rfl)) rfl).elim, fun hs => (hs 8 (by first | (simp; done) | (simp; rfl)) rfl).elim, fun hs => (hs 8 (by first | (simp; done) | (simp; rfl)) rfl).elim, trivial⟩)) ?_
        rintro _ _ ⟨rfl, rfl⟩
        refine XQ.pv (i := 9) (l' := #[true, true, true, true, true, true, true, true, true, true]) rfl (by kernel_rfl) rfl (V.not rfl) rfl rfl ?_
        refine XQ.done (by kernel_rfl) ?_
        refine XE.nextB ?_
        refine XB.keep [(8, _), (35, _)] (S2 rfl rfl) ?_
        refine XB.cond rfl (fun h3 => ?_) (fun h3 => ?_)
        · try simp only [sb] at h3
          have hX := h3
          refine XB.seq ?_
          refine XB.region ?_
          refine XO.v (V.makeIface rfl Tryz.underlying102 (by simp)) rfl ?_
          refine XO.store rfl rfl (.t6 .here) (cell1.st _ _) rfl sz_33_1 ?_
          refine XO.nil ?_
          refine XE.nextB ?_
          refine XB.keep [(8, _)] (S1 rfl) ?_
          refine XB.ret ?_
          refine XE.blockRet ?_
          refine XE.leave hx ?_ rfl (fun w2 hw2 => ?_)
          · skip
            exact ⟨x, by simp, by simpa [TG.room] using hX⟩
          · skip
            exact XM.pick .h7 hw2
        · try simp only [sb] at h3
          have hX := h3
          refine XB.skip ?_
          refine XE.blockNormal ?_
          refine XE.goOn hx ?_ rfl (fun w2 hg => pathR_of (by rfl) hg .here (.there .here) (.t2 .here)) (fun w2 hw2 => ?_)
          · skip
            intro y hy
            rcases List.mem_append.1 hy with hy | hy
            · exact hV y hy
            · simp at hy; subst hy; simpa [TG.room] using hX
          · skip
            exact XM.pick .h7 hw2
      · intro hV D hD
        have hc : s.chE n q m = 0 := by unfold TG.chE; rw [if_neg (by omega)]; exact (TG.bnd_0 _ _).2 j0
        have hr : s.chargeE n q m = 0 := by
          unfold TG.chargeE
          rw [if_neg (by omega), if_pos]
          rw [← hxs]
          simp only [vals, List.all_map, List.all_eq_true]
          exact hV
        have hc2 : s.charge n q m = s.lay (s.way n) q m := by unfold TG.charge; rw [if_pos hr]
        refine gE ?_
        refine ld (.t4 .here) (cell1.ld _) ?_
        refine ld (.t5 .here) (cell1.ld _) ?_
        refine ld (.t6 .here) (cell1.ld _) ?_
        refine ca (g_add _ _ s hO _ (by first | assumption | exact ⟨by omega, by omega, by assumption⟩) _ _ (by omega) (by omega) Bd hB hS) (.cons (.t3 .here) .nil) ?_
        rintro _ _ ⟨rfl, rfl⟩
        refine gO ?_
        refine st (.t7 .here) (cell1.st _ _) rfl ?_
        refine XE.markM (.inr rfl) (.there .here) rfl hD ?_
        refine XE.retG1 rfl (.cell rfl (.t6 .here) (cell1.ld _) sc_33) (post_of .h1 rfl ?_)
        try dsimp only [SW.den, SV.den, dens, ofC]
        exact ⟨by rw [hr]; rfl, by rw [hc2]⟩
      · intro pre hp hV D hD
        have hc : s.chE n q m = 0 := by unfold TG.chE; rw [if_neg (by omega)]; exact (TG.bnd_0 _ _).2 j0
        have hr : s.chargeE n q m = 6 := by
          unfold TG.chargeE
          rw [if_neg (by omega), if_neg]
          rw [← hxs]
          simp only [vals, List.all_map, List.all_eq_true]
          obtain ⟨y, hy, e⟩ := hV
          intro h
          have := h y (hp.subset hy)
          simp only [Function.comp] at this
          rw [e] at this; cases this
        have hc2 : s.charge n q m = s := by unfold TG.charge; rw [if_neg (by omega)]
        refine gE ?_
        refine XE.markM (.inr rfl) .here rfl hD ?_
        refine XE.retG1 rfl (.cell rfl (.t6 .here) (cell1.ld _) sc_33) (post_of (.cons (.t2 .here) .nil) rfl ?_)
        try dsimp only [SW.den, SV.den, dens, ofC]
        exact ⟨by rw [hr]; rfl, by rw [hc2]⟩
    · skip
      try dsimp only [errvL0, errvL1, errvL2, errvL3, errvL4, errvL5, errvL6, errvL7, errvL8, errvL9, errvL10, errvL11, errvL12, errvL13]
      have j1 := h2
      refine gO ?_
      refine st (.there .here) (cell1.st _ _) rfl ?_
      refine XE.plainM (.inr rfl) ?_
      refine XE.retG1 rfl (.cell rfl (.there .here) (cell1.ld _) sc_33) (post_of .h1 rfl ?_)
      try dsimp only [SW.den, SV.den, dens, ofC]
      first
      | (have hc : s.chE n q m = s.isE n := by unfold TG.chE; rw [if_pos (by assumption)]
         have hr : s.chargeE n q m = s.isE n := by unfold TG.chargeE; rw [if_pos (by omega), hc]
         exact ⟨by rw [hr, errv_pos _ (by assumption)], by unfold TG.charge; rw [if_neg (by omega)]⟩)
      | (have hc : s.chE n q m = 1 := by unfold TG.chE; rw [if_neg (by omega)]; exact j1
         have hr : s.chargeE n q m = 1 := by unfold TG.chargeE; rw [if_pos (by omega), hc]
         exact ⟨by rw [hr]; rfl, by unfold TG.charge; rw [if_neg (by omega)]⟩)
  · skip
    try dsimp only [errvL0, errvL1, errvL2, errvL3, errvL4, errvL5, errvL6, errvL7, errvL8, errvL9, errvL10, errvL11, errvL12, errvL13]
    have i0 := h1
    refine gO ?_
    refine st (.there .here) (cell1.st _ _) rfl ?_
    refine XE.plainM (.inr rfl) ?_
    refine XE.retG1 rfl (.cell rfl (.there .here) (cell1.ld _) sc_33) (post_of .h1 rfl ?_)
    try dsimp only [SW.den, SV.den, dens, ofC]
    first
    | (have hc : s.chE n q m = s.isE n := by unfold TG.chE; rw [if_pos (by assumption)]
       have hr : s.chargeE n q m = s.isE n := by unfold TG.chargeE; rw [if_pos (by omega), hc]
       exact ⟨by rw [hr, errv_pos _ (by assumption)], by unfold TG.charge; rw [if_neg (by omega)]⟩)
    | (have hc : s.chE n q m = 1 := by unfold TG.chE; rw [if_neg (by omega)]; exact j1
       have hr : s.chargeE n q m = 1 := by unfold TG.chargeE; rw [if_pos (by omega), hc]
       exact ⟨by rw [hr]; rfl, by unfold TG.charge; rw [if_neg (by omega)]⟩)
end Go.X.Gr

namespace Go.X.Gr
open Go Go.Proofs Go.X
set_option maxRecDepth 20000
set_option maxHeartbeats 4000000

theorem g_within (p o : Nat) (s : TG) (n : Int) (hn : 0 ≤ n ∧ n < 10) (q m : Int) (Bd : Int) (hB : 0 ≤ Bd ∧ Bd ≤ 1000000000000) (hS : s.Small Bd) : Spec Tryz.prog 122 [ptr p o 0, .int .i64 n, .int .i64 q, .int .i64 m]
 [.cells p o 60 (encGt s)]
 (fun v H1 => v = .bool (decide (q ≤ s.left s.pr n ∧ m ≤ s.left s.pg n)) ∧ H1 = [.cells p o 60 (encGt s)]) := by
  refine Spec.go 74 [0, 1, 2, 3, 8, 9, 10, 11, 12, 30, 31, 32, 46] [] Tryz.func122 rfl rfl rfl ?_
  intro W
  refine rq [0, 1, 2, 3, 4, 5, 6, 7, 8, 9, 10, 11, 12, 13, 14, 15] mixed (by kernel_rfl) ?_
  refine sd (by omega) ?_
  refine ld .here (encGt.ld_g_I_Procs _ _ (by omega)) ?_
  refine sd (by omega) ?_
  refine ld .here (encGt.ld_g_I_Pages _ _ (by omega)) ?_
  refine ldA .here (encGt_here _) ?_
  refine lp (σ := Int) (fun k => (10 - k).toNat) (fun k => 0 ≤ k ∧ k ≤ 10) (fun k => [(31, .int .i64 k), (9, .int .i64 (s.pr n - sumN (s.kid s.pr n) k.toNat)), (10, .int .i64 (s.pg n - sumN (s.kid s.pg n) k.toNat)), (0, ptr p o 0), (1, .int .i64 n), (2, .int .i64 q), (3, .int .i64 m), (30, .agg (arrB s.here 10))]) (fun k => XM W (foot [.cells p o 60 (encGt s)]) [.cells p o 60 (encGt s)]) (0) ?_ (.cons rfl (.cons (by rw [show s.pr n - sumN (s.kid s.pr n) (0 : Int).toNat = s.pr n from by simp [sumN]]; rfl) (S6 (by rw [show s.pg n - sumN (s.kid s.pg n) (0 : Int).toNat = s.pg n from by simp [sumN]]; rfl) rfl rfl rfl rfl rfl))) (fun _ hw => XM.pick .h1 hw) ?_
  · skip
    omega
  intro k hk
  have hst1 := kid_step s s.pr n hk.1
  have hst2 := kid_step s s.pg n hk.1
  have hbd := kid_small hS hB hn (k := k) hk.1
  refine gC ?_
  refine cd rfl ?_ ?_ <;> intro h1
  · skip
    have hSn := hS n hn.1 hn.2
    have hSk := hS k hk.1 (by omega)
    refine XO.v (V.indexAgg rfl rfl Tryz.underlying149 sz_4_1 sc_4 (by omega) (arrB_at (by omega))) rfl (gO ?_)
    refine spB 36 rfl ?_ ?_ <;> intro h2
    · try simp only [sb] at h2
      refine sd (by omega) ?_
      refine ld .here (encGt.ld_g_I_Parent _ _ (by omega)) ?_
      refine cd rfl ?_ ?_ <;> intro h3
      · skip
        refine sd (by omega) ?_
        refine ld .here (encGt.ld_g_I_Procs _ _ (by omega)) ?_
        refine sd (by omega) ?_
        refine sd (by omega) ?_
        refine ld .here (encGt.ld_g_I_Pages _ _ (by omega)) ?_
        refine sd (by omega) ?_
        refine sd (by omega) ?_
        refine ag (k + 1) ?_ ?_ (.cons rfl (.cons (by rw [hst1]; rw [show s.kid s.pr n k = s.pr k from by unfold TG.kid; rw [if_pos ⟨by simp_all, by simp_all⟩]]; exact eqi (by omega)) (S6 (by rw [hst2]; rw [show s.kid s.pg n k = s.pg k from by unfold TG.kid; rw [if_pos ⟨by simp_all, by simp_all⟩]]; exact eqi (by omega)) rfl rfl rfl rfl rfl))) (fun _ hw => XM.pick .h1 hw)
        · skip
          (first | omega | (simp; done) | (simp; omega))
        · skip
          (first | omega | (simp; done) | (simp; omega))
      · skip
        refine sd (by omega) ?_
        refine ag (k + 1) ?_ ?_ (.cons rfl (.cons (by rw [hst1]; rw [show s.kid s.pr n k = 0 from by unfold TG.kid; rw [if_neg (by simp_all)]]; exact eqi (by omega)) (S6 (by rw [hst2]; rw [show s.kid s.pg n k = 0 from by unfold TG.kid; rw [if_neg (by simp_all)]]; exact eqi (by omega)) rfl rfl rfl rfl rfl))) (fun _ hw => XM.pick .h1 hw)
        · skip
          (first | omega | (simp; done) | (simp; omega))
        · skip
          (first | omega | (simp; done) | (simp; omega))
    · try simp only [sb] at h2
      refine sd (by omega) ?_
      refine ag (k + 1) ?_ ?_ (.cons rfl (.cons (by rw [hst1]; rw [show s.kid s.pr n k = 0 from by unfold TG.kid; rw [if_neg (by simp_all)]]; exact eqi (by omega)) (S6 (by rw [hst2]; rw [show s.kid s.pg n k = 0 from by unfold TG.kid; rw [if_neg (by simp_all)]]; exact eqi (by omega)) rfl rfl rfl rfl rfl))) (fun _ hw => XM.pick .h1 hw)
      · skip
        (first | omega | (simp; done) | (simp; omega))
      · skip
        (first | omega | (simp; done) | (simp; omega))
  · skip
    refine sp 69 rfl ?_ ?_ <;> intro h4
    · skip
      refine XE.ret1 rfl rfl (post_of .h1 rfl ?_)
      try dsimp only [SW.den, SV.den, dens, ofC]
      obtain rfl : k = 10 := by omega
      refine ⟨congrArg Value.bool ?_, rfl⟩
      unfold TG.left
      rw [show (10 : Int).toNat = 10 from rfl] at *
      first
      | exact decide_eq_decide.2 (by omega)
      | exact (decide_eq_false (by omega)).symm
    · skip
      refine XE.ret1 rfl rfl (post_of .h1 rfl ?_)
      try dsimp only [SW.den, SV.den, dens, ofC]
      obtain rfl : k = 10 := by omega
      refine ⟨congrArg Value.bool ?_, rfl⟩
      unfold TG.left
      rw [show (10 : Int).toNat = 10 from rfl] at *
      first
      | exact decide_eq_decide.2 (by omega)
      | exact (decide_eq_false (by omega)).symm
theorem g_uncharge (p o : Nat) (s : TG) (hO : s.Ok) (n q m : Int) (Bd : Int) (hB : 0 ≤ Bd ∧ Bd ≤ 1000000000000) (hS : s.Small Bd) : Spec Tryz.prog 54 [ptr p o 0, .int .i64 n, .int .i64 q, .int .i64 m]
 [.cells p o 60 (encGt s)]
 (fun v H1 => v = errv 102 (s.unchE n q m) ∧ H1 = [.cells p o 60 (encGt (s.unch n q m))]) := by
  refine Spec.go 35 [0, 1, 2, 3, 8, 9, 14, 19, 26] [] Tryz.func54 rfl rfl rfl ?_
  intro W
  refine ca (g_is _ _ _ _) .h1 ?_
  rintro _ _ (⟨h1, rfl, rfl⟩ | ⟨h1, rfl, rfl⟩)
  · skip
    try dsimp only [errvL0, errvL1, errvL2, errvL3, errvL4, errvL5, errvL6, errvL7, errvL8, errvL9, errvL10, errvL11, errvL12, errvL13]
    obtain ⟨i0, i1, i2, i3⟩ := h1
    refine gO ?_
    refine ca (g_bounds _ _) .nil ?_
    rintro _ _ (⟨h2, rfl, rfl⟩ | ⟨h2, rfl, rfl⟩)
    · skip
      try dsimp only [errvL0, errvL1, errvL2, errvL3, errvL4, errvL5, errvL6, errvL7, errvL8, errvL9, errvL10, errvL11, errvL12, errvL13]
      have j0 := h2
      refine gO ?_
      refine ca (g_within _ _ s _ ⟨by omega, by omega⟩ _ _ Bd hB hS) .h1 ?_
      rintro _ _ ⟨rfl, rfl⟩
      refine gO ?_
      refine cd rfl ?_ ?_ <;> intro h3
      · skip
        refine XE.ret1 rfl rfl (post_of .h1 rfl ?_)
        try dsimp only [SW.den, SV.den, dens, ofC]
        have hc : s.chE n q m = 0 := by unfold TG.chE; rw [if_neg (by omega)]; exact (TG.bnd_0 _ _).2 j0
        have hr : s.unchE n q m = 8 := by unfold TG.unchE; rw [if_neg (by omega), if_neg (by simp_all)]
        exact ⟨by rw [hr]; rfl, by unfold TG.unch; rw [if_neg (by omega)]⟩
      · skip
        refine sd (by omega) ?_
        refine sd (by omega) ?_
        refine ca (g_add _ _ s hO _ (by first | assumption | exact ⟨by omega, by omega, by assumption⟩) _ _ (by omega) (by omega) Bd hB hS) .h1 ?_
        rintro _ _ ⟨rfl, rfl⟩
        refine gO ?_
        refine XE.ret1 rfl rfl (post_of .h1 rfl ?_)
        try dsimp only [SW.den, SV.den, dens, ofC]
        have hc : s.chE n q m = 0 := by unfold TG.chE; rw [if_neg (by omega)]; exact (TG.bnd_0 _ _).2 j0
        have hr : s.unchE n q m = 0 := by unfold TG.unchE; rw [if_neg (by omega), if_pos (by simp_all)]
        exact ⟨by rw [hr]; rfl, by unfold TG.unch; rw [if_pos hr]; simp only [Int.zero_sub]⟩
    · skip
      try dsimp only [errvL0, errvL1, errvL2, errvL3, errvL4, errvL5, errvL6, errvL7, errvL8, errvL9, errvL10, errvL11, errvL12, errvL13]
      have j1 := h2
      refine gO ?_
      refine XE.ret1 rfl rfl (post_of .h1 rfl ?_)
      try dsimp only [SW.den, SV.den, dens, ofC]
      first
      | (have hc : s.chE n q m = s.isE n := by unfold TG.chE; rw [if_pos (by assumption)]
         have hr : s.unchE n q m = s.isE n := by unfold TG.unchE; rw [if_pos (by omega), hc]
         exact ⟨by rw [hr, errv_pos _ (by assumption)], by unfold TG.unch; rw [if_neg (by omega)]⟩)
      | (have hc : s.chE n q m = 1 := by unfold TG.chE; rw [if_neg (by omega)]; exact j1
         have hr : s.unchE n q m = 1 := by unfold TG.unchE; rw [if_pos (by omega), hc]
         exact ⟨by rw [hr]; rfl, by unfold TG.unch; rw [if_neg (by omega)]⟩)
  · skip
    try dsimp only [errvL0, errvL1, errvL2, errvL3, errvL4, errvL5, errvL6, errvL7, errvL8, errvL9, errvL10, errvL11, errvL12, errvL13]
    have i0 := h1
    refine gO ?_
    refine XE.ret1 rfl rfl (post_of .h1 rfl ?_)
    try dsimp only [SW.den, SV.den, dens, ofC]
    first
    | (have hc : s.chE n q m = s.isE n := by unfold TG.chE; rw [if_pos (by assumption)]
       have hr : s.unchE n q m = s.isE n := by unfold TG.unchE; rw [if_pos (by omega), hc]
       exact ⟨by rw [hr, errv_pos _ (by assumption)], by unfold TG.unch; rw [if_neg (by omega)]⟩)
    | (have hc : s.chE n q m = 1 := by unfold TG.chE; rw [if_neg (by omega)]; exact j1
       have hr : s.unchE n q m = 1 := by unfold TG.unchE; rw [if_pos (by omega), hc]
       exact ⟨by rw [hr]; rfl, by unfold TG.unch; rw [if_neg (by omega)]⟩)
end Go.X.Gr

namespace Go.X.Gr
open Go Go.Proofs Go.X
set_option maxRecDepth 20000
set_option maxHeartbeats 4000000

theorem g_new  : Spec Tryz.prog 95 []
 []
 (fun v H1 => ∃ p, v = ptr p 0 0 ∧ H1 = [.cells p 0 60 (encGt TG.init)]) := by
  refine Spec.go 14 [0, 1] [] Tryz.func95 rfl rfl rfl ?_
  intro W
  refine XO.v (V.build (vs := #[]) rfl (v := .agg #[.int .i64 0, .int .i64 0, .int .i64 0, .int .i64 0, .int .i64 0, .int .i64 0, .int .i64 0, .int .i64 0, .int .i64 0, .int .i64 0, .int .i64 0, .int .i64 0, .int .i64 0, .int .i64 0, .int .i64 0, .int .i64 0, .int .i64 0, .int .i64 0, .int .i64 0, .int .i64 0, .int .i64 0, .int .i64 0, .int .i64 0, .int .i64 0, .int .i64 0, .int .i64 0, .int .i64 0, .int .i64 0, .int .i64 0, .int .i64 0, .int .i64 0, .int .i64 0, .int .i64 0, .int .i64 0, .int .i64 0, .int .i64 0, .int .i64 0, .int .i64 0, .int .i64 0, .int .i64 0, .int .i64 0, .int .i64 0, .int .i64 0, .int .i64 0, .int .i64 0, .int .i64 0, .int .i64 0, .int .i64 0, .int .i64 0, .int .i64 0, .bool false, .bool false, .bool false, .bool false, .bool false, .bool false, .bool false, .bool false, .bool false, .bool false]) (fun _ => by kernel_rfl)) rfl (gO ?_)
  refine XO.box (m := 60) (C := encGt TG.void) rfl rfl boxGt rfl ?_
  intro p
  refine gO ?_
  refine sd (by omega) ?_
  refine st .here (encGt.st_here_I _ _ (by omega) _) rfl ?_
  refine XO.v (V.build (vs := #[(0, .int .i64 (-1)), (1, .int .i64 (-1)), (2, .int .i64 (-1))]) rfl (v := .agg (GV.arr ⟨-1, -1, -1, 0, 0⟩)) (fun _ => by kernel_rfl)) rfl (gO ?_)
  refine sd (by omega) ?_
  refine stA .here (encGt_put _ _ (by omega) _) rfl ⟨rfl, rfl⟩ ?_
  refine XE.ret1 rfl rfl (post_of .h1 rfl ?_)
  try dsimp only [SW.den, SV.den, dens, ofC]
  exact ⟨_, rfl, rfl⟩
end Go.X.Gr
