import Derived.Test.YtmkfmnhbckbfbabPL1
namespace Go.X
open Go

/-! ### TopPipe -/
theorem PS.read_inv' {s : PS} {K n m : Int} (h : s.Inv K) : (s.read n m).2.2.Inv K := by
  have hh := h
  unfold PS.read
  split
  · exact hh
  · split
    · exact hh
    · split
      · exact hh
      · split
        · exact hh
        · refine ⟨hh.e0, hh.e1, fun j hj => ?_, fun j => ?_⟩
          · have := h.cl j hj
            simp only [fset]; split
            · rename_i q; subst q; rw [this]
              rw [str_empty]
              simp [ByteArray.size_extract]; simp [ByteArray.size]
            · exact this
          · have := h.len j
            simp only [fset]; split
            · rename_i q; subst q; rw [ByteArray.size_extract]; omega
            · exact this
theorem PS.write_inv' {s : PS} {K n : Int} {t : ByteArray} (h : s.Inv K) : (s.write n t).2.2.Inv K := by
  have hh := h
  unfold PS.write
  split
  · exact hh
  · split
    · exact hh
    · rename_i h1
      split
      · exact hh
      · split
        · exact hh
        · refine ⟨hh.e0, hh.e1, fun j hj => ?_, fun j => ?_⟩
          · have := h.cl j hj
            simp only [fset]; split
            · rename_i q; subst q
              have := h.e0 j; have := h.e1 j
              simp only at hj
              omega
            · exact this
          · have := h.len j
            simp only [fset]; split
            · rename_i q; subst q
              rw [ByteArray.size_append, ByteArray.size_extract]
              omega
            · exact this
structure TPS where
  s : PS
  i : Int
  inn : ByteArray
  out : ByteArray
structure TPS.V (len : Nat) (x : TPS) : Prop where
  inv : x.s.Inv 1
  i0 : 0 ≤ x.i
  i1 : x.i ≤ len
  r : x.s.e 0 0 = 1
  w : x.s.e 0 1 = 1
  z : ∀ j : Int, 1 ≤ j → x.s.e j 0 + x.s.e j 1 = 0
  io : x.inn = x.out ++ x.s.b 0
  sz : x.inn.size ≤ 60 * x.i
theorem PS.is_open {s : PS} (h : s.e 0 0 = 1) (h' : 0 ≤ s.e 0 1) : s.is 0 = 0 := by
  unfold PS.is; rw [if_neg (by omega), if_neg (by omega)]
def PS.one : PS := ⟨fun _ => ⟨#[]⟩, fset2 (fset2 (fun _ _ => 0) 0 0 1) 0 1 1⟩
theorem PS.one_make : PS.init.make = (0, 0, PS.one) := by
  rw [PS.make_some (k := 0) (by omega) rfl (fun j h1 h2 => by omega)]
  rfl
theorem PS.one_inv : PS.one.Inv 1 := by
  have := PS.make_inv PS.Inv.init (by omega)
  rw [PS.one_make] at this
  exact this
def PS.wrote (s : PS) (t : ByteArray) (k : Int) : PS := { s with b := fset s.b 0 (s.b 0 ++ t.extract 0 k.toNat) }
def PS.taken (s : PS) (k : Int) : PS := { s with b := fset s.b 0 ((s.b 0).extract k.toNat (s.b 0).size) }
theorem PS.write_open {s : PS} (t : ByteArray) (h0 : s.e 0 0 = 1) (h1 : s.e 0 1 = 1) (hl : (s.b 0).size ≤ 12) :
    (∃ k : Int, 0 ≤ k ∧ k ≤ t.size ∧ (k = 0 → t = ⟨#[]⟩) ∧ s.write 0 t = (k, 0, s.wrote t k)) ∨ s.write 0 t = (0, 13, s) := by
  have hi := PS.is_open h0 (by omega)
  by_cases ha : min (t.size : Int) (12 - (s.b 0).size) = 0 ∧ t.size > 0
  · exact .inr (PS.write_again hi (by omega) (by omega) ha)
  · refine .inl ⟨_, ?_, ?_, ?_, PS.write_ok hi (by omega) (by omega) ha⟩
    · omega
    · omega
    · intro q; rw [str_empty]; omega
theorem PS.read_open {s : PS} (m : Int) (h0 : s.e 0 0 = 1) (h1 : s.e 0 1 = 1) :
    (∃ k : Int, 0 ≤ k ∧ k ≤ (s.b 0).size ∧ k ≤ m ∧ s.read 0 m = ((s.b 0).extract 0 k.toNat, 0, s.taken k)) ∨ ∃ c : Int, 0 < c ∧ s.read 0 m = (⟨#[]⟩, c, s) := by
  have hi := PS.is_open h0 (by omega)
  by_cases hm : m < 0
  · exact .inr ⟨1, by omega, PS.read_bound hi (by omega) hm⟩
  · by_cases ha : s.b 0 = ⟨#[]⟩ ∧ s.e 0 1 > 0 ∧ m > 0
    · exact .inr ⟨13, by omega, PS.read_again hi (by omega) hm ha⟩
    · exact .inl ⟨_, by omega, by omega, by omega, PS.read_ok hi (by omega) hm ha⟩
theorem TPS.V.wrote {len : Nat} {x : TPS} (h : x.V len) {t : ByteArray} {k : Int} (ht : t.size ≤ 60) (hi : x.i < len) (h0 : 0 ≤ k) (hk : k ≤ t.size) (he : x.s.write 0 t = (k, 0, x.s.wrote t k)) :
    TPS.V len ⟨x.s.wrote t k, x.i + 1, x.inn ++ t.extract 0 k.toNat, x.out⟩ := by
  have hv : (x.s.wrote t k).Inv 1 := by have := PS.write_inv' (n := 0) (t := t) h.inv; rw [he] at this; exact this
  refine ⟨hv, by have := h.i0; simp; omega, by simp; omega, h.r, h.w, h.z, ?_, ?_⟩
  · simp only [PS.wrote, fset, if_true]; rw [h.io, ByteArray.append_assoc]
  · have := h.sz; simp only [ByteArray.size_append, ByteArray.size_extract]; omega
theorem TPS.V.read {len : Nat} {x : TPS} (h : x.V len) {m k : Int} (hi : x.i < len) (h0 : 0 ≤ k) (hk : k ≤ (x.s.b 0).size) (he : x.s.read 0 m = ((x.s.b 0).extract 0 k.toNat, 0, x.s.taken k)) :
    TPS.V len ⟨x.s.taken k, x.i + 1, x.inn, x.out ++ (x.s.b 0).extract 0 k.toNat⟩ := by
  have hv : (x.s.taken k).Inv 1 := by have := PS.read_inv' (n := 0) (m := m) h.inv; rw [he] at this; exact this
  refine ⟨hv, by have := h.i0; simp; omega, by simp; omega, h.r, h.w, h.z, ?_, ?_⟩
  · simp only [PS.taken, fset, if_true]
    rw [h.io, ByteArray.append_assoc, ← ByteArray.extract_eq_extract_append_extract k.toNat (by omega) (by omega), ByteArray.extract_zero_size]
  · have := h.sz; simp only; omega
theorem TPS.V.same {len : Nat} {x : TPS} (h : x.V len) (hi : x.i < len) : TPS.V len ⟨x.s, x.i + 1, x.inn, x.out⟩ :=
  ⟨h.inv, by have := h.i0; simp; omega, by simp; omega, h.r, h.w, h.z, h.io, by have := h.sz; simp only; omega⟩
theorem TPS.V.facts {len : Nat} {x : TPS} (h : x.V len) : x.out.size ≤ x.inn.size ∧ x.out = x.inn.extract 0 x.out.size ∧ x.inn.size - x.out.size ≤ 12 := by
  have h1 := h.io
  have h2 := h.inv.len 0
  have h3 : x.inn.size = x.out.size + (x.s.b 0).size := by rw [h1, ByteArray.size_append]
  refine ⟨by omega, ?_, by omega⟩
  rw [h1]
  apply ByteArray.ext
  simp [ByteArray.data_extract, ByteArray.data_append]
  rw [show x.out.size = x.out.data.size from rfl, Array.extract_size]
/-- the writers are gone -/
def PS.half (s : PS) : PS := { s with e := fset2 s.e 0 1 0 }
theorem half_drop {s : PS} (h0 : s.e 0 0 = 1) (h1 : s.e 0 1 = 1) : s.turn 0 true (-1) = (0, s.half) := by
  rw [PS.turn_ok (PS.is_open h0 (by omega)) (by simp [sel]; omega) (by omega)]
  simp [PS.half, sel, h1]
theorem half_inv {s : PS} (h : s.Inv 1) (h0 : s.e 0 0 = 1) (h1 : s.e 0 1 = 1) : s.half.Inv 2 := by
  have := PS.turn_inv (n := 0) (w := true) (d := -1) h (.inr rfl)
  rw [half_drop h0 h1] at this
  exact this
theorem half_read {s : PS} (h0 : s.e 0 0 = 1) (hl : (s.b 0).size ≤ 12) : s.half.read 0 99 = (s.b 0, 0, { s.half with b := fset s.b 0 ⟨#[]⟩ }) := by
  have hi : s.half.is 0 = 0 := PS.is_open (by simp [PS.half, fset2, h0]) (by simp [PS.half, fset2])
  rw [PS.read_ok hi (by simp [PS.half, fset2, h0]) (by omega) (by simp [PS.half, fset2])]
  have hm : (min (99 : Int) (s.half.b 0).size).toNat = (s.b 0).size := by simp only [PS.half]; omega
  rw [hm]
  simp only [PS.half, ByteArray.extract_zero_size]
  rw [show (s.b 0).extract (s.b 0).size (s.b 0).size = ⟨#[]⟩ from by rw [str_empty, ByteArray.size_extract]; omega]
def PS.dry (s : PS) : PS := { s.half with b := fset s.b 0 ⟨#[]⟩ }
theorem dry_inv {s : PS} (h : s.Inv 1) (h0 : s.e 0 0 = 1) (h1 : s.e 0 1 = 1) : s.dry.Inv 2 := by
  have := PS.read_inv' (n := 0) (m := 99) (half_inv h h0 h1)
  rw [half_read h0 (h.len 0)] at this
  exact this
theorem dry_read {s : PS} (h0 : s.e 0 0 = 1) : s.dry.read 0 99 = (⟨#[]⟩, 0, s.dry) := by
  have hi : s.dry.is 0 = 0 := PS.is_open (by simp [PS.dry, PS.half, fset2, h0]) (by simp [PS.dry, PS.half, fset2])
  rw [PS.read_ok hi (by simp [PS.dry, PS.half, fset2, h0]) (by omega) (by simp [PS.dry, PS.half, fset2])]
  have hb : s.dry.b 0 = ⟨#[]⟩ := by simp [PS.dry, fset]
  rw [hb]
  have hx : ∀ a b : Nat, (⟨#[]⟩ : ByteArray).extract a b = ⟨#[]⟩ := fun a b => by rw [str_empty, ByteArray.size_extract]; simp [ByteArray.size]
  simp only [hx]
  rw [fset_same s.dry.b hb]
def PS.gone (s : PS) : PS := { b := fset s.dry.b 0 ⟨#[]⟩, e := fset2 s.dry.e 0 0 0 }
theorem gone_drop {s : PS} (h0 : s.e 0 0 = 1) : s.dry.turn 0 false (-1) = (0, s.gone) := by
  have hi : s.dry.is 0 = 0 := PS.is_open (by simp [PS.dry, PS.half, fset2, h0]) (by simp [PS.dry, PS.half, fset2])
  rw [PS.turn_zero hi (by simp [sel, PS.dry, PS.half, fset2, h0]) (by simp [PS.dry, PS.half, fset2, h0])]
  simp [PS.gone, sel, PS.dry, PS.half, fset2, h0]
theorem gone_inv {s : PS} (h : s.Inv 1) (h0 : s.e 0 0 = 1) (h1 : s.e 0 1 = 1) : s.gone.Inv 3 := by
  have := PS.turn_inv (n := 0) (w := false) (d := -1) (dry_inv h h0 h1) (.inr rfl)
  rw [gone_drop h0] at this
  exact this
theorem gone_open {s : PS} (hz : ∀ j : Int, 1 ≤ j → s.e j 0 + s.e j 1 = 0) : s.gone.open = 0 := by
  have hc : ∀ n : Nat, cntN (fun i => decide (s.gone.e i 0 + s.gone.e i 1 > 0)) n = 0 := by
    intro n
    induction n with
    | zero => rfl
    | succ n ih =>
      simp only [cntN, ih]
      by_cases hn : n = 0
      · subst hn; simp [PS.gone, PS.dry, PS.half, fset2]
      · have := hz (n : Int) (by omega)
        have h1 : ¬ (n : Int) = 0 := by omega
        simp [PS.gone, PS.dry, PS.half, fset2, h1, hn, this]
  exact hc 8

end Go.X
