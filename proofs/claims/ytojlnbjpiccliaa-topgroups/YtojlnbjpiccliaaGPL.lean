import Derived.Test.YtojlnbjpiccliaaGP
namespace Go.X
open Go

theorem encV_is {g g' : GV} (h : g = g') : 0 + 5 ≤ 5 ∧ aggOf (encV g) 0 5 = .agg g'.arr := by subst h; exact encV_gv g
theorem encGr_gvR {s t : TG} (hR : TG.Rel s t) (z : Int) (h : 0 ≤ z ∧ z < 10) (hh : s.here z = true) : 0 + 10 + z.toNat * 5 + 5 ≤ 60 ∧ aggOf (encGr t) (0 + 10 + z.toNat * 5) 5 = .agg (s.gv z).arr := by
  rw [hR.gv z h.1 h.2 hh]; exact encGr_gv t z h
theorem GV.ints (g : GV) : ∀ i, i < 5 → ∃ v, g.arr[i]? = some (.int .i64 v) := fun i h => match i, h with
  | 0, _ => ⟨_, rfl⟩
  | 1, _ => ⟨_, rfl⟩
  | 2, _ => ⟨_, rfl⟩
  | 3, _ => ⟨_, rfl⟩
  | 4, _ => ⟨_, rfl⟩
  | k + 5, h => absurd h (by omega)
theorem lacks_max (o : Option Int) (h : ∀ x, o = some x → 0 ≤ x) : (o.isSome == decide (o.getD (-1) ≥ 0)) = true ∧ o.getD 0 = max (o.getD (-1)) 0 := by
  cases o with
  | none => exact ⟨rfl, rfl⟩
  | some x =>
    have := h x rfl
    refine ⟨?_, ?_⟩
    · simp; omega
    · show x = max x 0; omega
theorem TG.lacks_rng {s : TG} (h : s.Ok) (n q m : Int) : ∀ x, s.lacks n q m = some x → 0 ≤ x := fun x hx => by
  unfold TG.lacks at hx
  split at hx
  · cases hx
  · rename_i hc
    obtain ⟨⟨n0, n1, n2⟩, _⟩ := TG.chE_0 (s := s) (n := n) (p := q) (m := m) (by omega)
    have := List.mem_of_find?_eq_some hx
    exact ((h.way n0 n1 n2).1.range x this).1

end Go.X
