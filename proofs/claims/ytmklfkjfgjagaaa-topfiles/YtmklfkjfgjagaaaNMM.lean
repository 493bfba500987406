import Derived.Test.YtmklfkjfgjagaaaNTM
namespace Go.X
open Go
/-! ### who is moved -/
theorem getD_ins (v : Int) : ∀ (l : List Int) (p : Nat), p ≤ l.length → (l.insertIdx p v).getD p 0 = v
  | l, 0, _ => by simp
  | a :: l, p + 1, h => by rw [List.insertIdx_succ_cons, List.getD_cons_succ]; exact getD_ins v l p (by simpa using h)
theorem hasn_insert_ne {l : List ByteArray} (hl : Rising l) {x y : ByteArray} (hx : hasn l x = false) (hy : hasn l y = false) (h : x ≠ y) : hasn (l.insertIdx (posn l y) y) x = false := by
  have hp := posn_le l y
  have hr := hl.insert hy
  cases c : hasn (l.insertIdx (posn l y) y) x with
  | false => rfl
  | true =>
    obtain ⟨p1, p2⟩ := hasn_iff.1 c
    rw [List.length_insertIdx, if_pos hp] at p1
    generalize posn (l.insertIdx (posn l y) y) x = j at p1 p2
    rw [ats_insert _ _ _ _ hp] at p2
    split at p2
    · exact absurd p2 (hasn_no hl hx (by omega))
    · split at p2
      · exact absurd p2.symm h
      · exact absurd p2 (hasn_no hl hx (by omega))
namespace FF
section
variable {s : FF} {d : Int → Nat} {n to : Int} {x y : ByteArray}
theorem move_err (h : s.Inv d) (hm : s.moveE d n x to y ≠ 0) : s.move d n x to y = s := by
  unfold moveE at hm
  unfold move
  split at hm
  · rename_i c; rw [if_pos c]
  · rename_i c
    rw [if_neg c, if_pos hm]
    have c' : s.moveE0 d n x to = 0 := by omega
    have hf : s.findE n x = 0 := by
      unfold moveE0 at c'
      split at c'
      · omega
      · omega
    obtain ⟨i1, i2, i3, i4, i5, i6⟩ := Ok.kid h hf
    obtain ⟨r1, r2, r3, r4⟩ := h.rise n i1 i2
    have e := putcut r1 i5 r2
    rw [i6] at e
    exact e
theorem moveE_find (hf : s.findE n x ≠ 0) : s.moveE d n x to y ≠ 0 := by
  have e0 : s.moveE0 d n x to = s.findE n x := by unfold moveE0; rw [if_pos hf]
  unfold moveE
  rw [if_pos (by rw [e0]; exact hf), e0]
  exact hf
theorem move_kind : (s.move d n x to y).kind = s.kind := by
  unfold move
  split
  · rfl
  · split
    · rfl
    · split <;> rfl
theorem cntN_congr {s t : FF} (h : t.kind = s.kind) : ∀ k, t.cntN k = s.cntN k
  | 0 => rfl
  | k + 1 => by unfold cntN; rw [cntN_congr h k, h]
theorem nodes_congr {s t : FF} (h : t.kind = s.kind) : t.nodes = s.nodes := cntN_congr h 40
theorem isE_congr {s t : FF} (h : t.kind = s.kind) (n k : Int) : t.isE n k = s.isE n k := by unfold isE; rw [h]
/-- what a move brings about -/
theorem move_ok (h : s.Inv d) (hm : s.moveE d n x to y = 0) : (s.move d n x to y).links = s.links ∧ (s.move d n x to y).held = s.held ∧ (s.move d n x to y).data = s.data ∧ (s.move d n x to y).names (s.findV n x) = s.names (s.findV n x) ∧ (s.move d n x to y).kids (s.findV n x) = s.kids (s.findV n x) ∧
    (s.move d n x to y).findE to y = 0 ∧ (s.move d n x to y).findV to y = s.findV n x ∧ ((s.move d n x to y).findE n x = 2 ∨ (n = to ∧ x = y ∧ (s.move d n x to y).findE n x = 0 ∧ (s.move d n x to y).findV n x = s.findV n x)) := by
  have hk := @move_kind s d n to x y
  have hm2 := hm
  unfold moveE at hm
  split at hm
  · omega
  · rename_i c
    have c' : s.moveE0 d n x to = 0 := by omega
    unfold moveE0 at c'
    split at c'
    · omega
    · split at c'
      · omega
      · split at c'
        · omega
        · split at c'
          · omega
          · rename_i c0 c1 c2 c3
            obtain ⟨i1, i2, i3, i4, i5, i6⟩ := Ok.kid h (show s.findE n x = 0 by omega)
            obtain ⟨k1, k2, k3, k4, k5⟩ := h.kids n i1 i2 _ i4
            obtain ⟨r1, r2, r3, r4⟩ := h.rise n i1 i2
            obtain ⟨a1, a2, a3, a4⟩ := roomE_0 (show (s.cutF n x).roomE to y = 0 from hm)
            obtain ⟨t1, t2, _, t4⟩ := isE_k0 a1
            have t5 : s.kind to = 2 := t4 (by omega)
            have hkn : s.findV n x ≠ n := fun e => by
              have := k5 (by rw [e]; exact i3)
              rw [e] at this; omega
            have hkt : s.findV n x ≠ to := fun e => c3 ⟨by rw [e]; exact t5, by rw [← e]; exact und_self _ _ _⟩
            have hc := h.cut (k := s.findV n x) i1 i2 i5 i6
            obtain ⟨q1, q2, q3, q4⟩ := hc.rise to t1 t2
            have hnm : (s.move d n x to y).names = ((s.cutF n x).putF to y (s.findV n x)).names := by
              unfold move; rw [if_neg c, if_neg (by omega)]; split <;> rfl
            have hkm : (s.move d n x to y).kids = ((s.cutF n x).putF to y (s.findV n x)).kids := by
              unfold move; rw [if_neg c, if_neg (by omega)]; split <;> rfl
            have hnt : (s.move d n x to y).names to = ((s.cutF n x).names to).insertIdx (posn ((s.cutF n x).names to) y) y := by rw [hnm]; exact fset_eq _ _ _
            have hktt : (s.move d n x to y).kids to = ((s.cutF n x).kids to).insertIdx (posn ((s.cutF n x).names to) y) (s.findV n x) := by rw [hkm]; exact fset_eq _ _ _
            have hto : (s.move d n x to y).isE to 2 = 0 := by rw [isE_congr hk]; exact (dir_isE t1 t2 t5).1
            have hpl := posn_le ((s.cutF n x).names to) y
            have hfe : (s.move d n x to y).findE to y = 0 := by
              unfold findE
              rw [if_neg (by omega), hnt, if_pos (hasn_insert q1 a3)]
            have hfv : (s.move d n x to y).findV to y = s.findV n x := by
              unfold findV
              rw [if_pos hfe, hnt, hktt, posn_insert q1 a3]
              show (List.insertIdx _ _ _).getD _ 0 = _
              exact getD_ins _ _ _ (by omega)
            have hnn : (s.move d n x to y).isE n 2 = 0 := by rw [isE_congr hk]; exact (dir_isE i1 i2 i3).1
            have hcn : (s.cutF n x).names n = (s.names n).eraseIdx (posn (s.names n) x) := fset_eq _ _ _
            have hno : hasn ((s.cutF n x).names n) x = false := by rw [hcn]; exact hasn_erase r1 i5
            refine ⟨?_, ?_, ?_, ?_, ?_, hfe, hfv, ?_⟩
            · unfold move; rw [if_neg c, if_neg (by omega)]; split <;> rfl
            · unfold move; rw [if_neg c, if_neg (by omega)]; split <;> rfl
            · unfold move; rw [if_neg c, if_neg (by omega)]; split <;> rfl
            · rw [hnm]
              show fset (fset s.names n _) to _ (s.findV n x) = _
              rw [fset_ne _ _ hkt, fset_ne _ _ hkn]
            · rw [hkm]
              show fset (fset s.kids n _) to _ (s.findV n x) = _
              rw [fset_ne _ _ hkt, fset_ne _ _ hkn]
            · by_cases e : n = to
              · subst e
                by_cases e2 : x = y
                · subst e2; exact .inr ⟨rfl, rfl, hfe, hfv⟩
                · left
                  unfold findE
                  rw [if_neg (by omega), hnt, hasn_insert_ne q1 hno a3 e2, if_neg (by simp)]
              · left
                have hn2 : (s.move d n x to y).names n = (s.cutF n x).names n := by rw [hnm]; exact fset_ne _ _ e
                unfold findE
                rw [if_neg (by omega), hn2, hno, if_neg (by simp)]
theorem move_same (h : s.Inv d) (hf : s.findE n x = 0) : (s.move d n x to y).names (s.findV n x) = s.names (s.findV n x) ∧ (s.move d n x to y).ofV (s.findV n x) = s.ofV (s.findV n x) ∧ ∀ a m, (s.move d n x to y).readV (s.findV n x) a m = s.readV (s.findV n x) a m := by
  have hk := @move_kind s d n to x y
  by_cases c : s.moveE d n x to y = 0
  · obtain ⟨m1, m2, m3, m4, m5, _⟩ := move_ok h c
    refine ⟨m4, ?_, fun a m => ?_⟩
    · unfold ofV; rw [isE_congr hk, hk, m1, m2, m3, m5]
    · unfold readV readE; rw [isE_congr hk, m3]
  · rw [move_err h c]; exact ⟨rfl, rfl, fun _ _ => rfl⟩
end
end FF

end Go.X
