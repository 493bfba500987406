import Derived.Test.YtpnddggohipdnaaDoorXRow
namespace Go.X
open Go

/-! ### rows that are written to: slices of structs -/
abbrev frow (p : Option Addr) (cap : Nat) (e : TypeId) (sz k : Nat) (C : Nat → Value) : Ent := .row (.slice p k cap) e sz k (newsOf C (k * sz))
theorem newsOf_at {C : Nat → Value} {m i : Nat} (h : i < m) : (newsOf C m)[i]? = some (C i) := by simp [newsOf, h]
theorem newsOf_length (C : Nat → Value) (m : Nat) : (newsOf C m).length = m := by simp [newsOf]
theorem newsOf_set (C : Nat → Value) (m i : Nat) (v : Value) : (newsOf C m).set i v = newsOf (upd C i v) m := by
  apply List.ext_getElem?
  intro j
  by_cases hj : j < m
  · rw [newsOf_at hj, List.getElem?_set, newsOf_length]
    by_cases h : i = j
    · subst h; simp [upd, hj]
    · have h2 : ¬ j = i := fun e => h e.symm
      rw [if_neg h, newsOf_at hj]; simp [upd, h2]
  · rw [List.getElem?_eq_none (by simp [newsOf_length]; omega), List.getElem?_eq_none (by simp [newsOf_length]; omega)]
theorem newsOf_congr {C D : Nat → Value} {m : Nat} (h : ∀ i, i < m → C i = D i) : newsOf C m = newsOf D m := by
  unfold newsOf
  apply List.map_congr_left
  intro j hj
  exact h j (by simpa using hj)
theorem frow_cell {w : World} {g cap sz k i : Nat} {e : TypeId} {C : Nat → Value} (h : (frow (some ⟨g, 0, none⟩) cap e sz k C).holds w) (hi : i < k * sz) : w.cell? ⟨g, i, none⟩ = some (C i) := by
  have := cell_of_row h (newsOf_at hi)
  rwa [Nat.zero_add] at this
theorem frow_open {w : World} {g cap sz k : Nat} {e : TypeId} {xs : List Value} (h : (Ent.row (.slice (some ⟨g, 0, none⟩) k cap) e sz k xs).holds w) :
    ∃ cur, w.heap[g]? = some (.cells cur e (0, 0)) ∧ k ≤ cap ∧ cap ≤ maxLen ∧ cur.size = cap * sz ∧ cur.toList.take (k * sz) = xs := by
  rcases h.2 with ⟨hv, _⟩ | ⟨g', cap', cur, hv, _, h1, h2, h3, h4, h5⟩
  · cases hv
  · simp only [Value.slice.injEq, Option.some.injEq, Addr.mk.injEq, and_true, true_and] at hv
    obtain ⟨rfl, rfl⟩ := hv
    exact ⟨cur, h1, h2, h3, h4, h5⟩
theorem XM.setFrow {W w : World} {S : Nat → Nat → Prop} {H H' : List Ent} {g cap sz k i : Nat} {e : TypeId} {C : Nat → Value} (h : XM W S H w) (hd : Del H (frow (some ⟨g, 0, none⟩) cap e sz k C) H') (hi : i < k * sz) (v : Value) :
    XM W S (frow (some ⟨g, 0, none⟩) cap e sz k (upd C i v) :: H') (w.setCell ⟨g, i, none⟩ v) := by
  have hh : (frow (some ⟨g, 0, none⟩) cap e sz k C).holds w := h.good.1 _ (hd.perm.mem_iff.2 (by simp))
  obtain ⟨cur, h1, h2, h3, h4, h5⟩ := frow_open hh
  have hS : (frow (some ⟨g, 0, none⟩) cap e sz k C).area g (0 + i) := rfl
  have hk : Keep w (w.setCell ⟨g, i, none⟩ v) (fun b o => (frow (some ⟨g, 0, none⟩) cap e sz k C).area b o) := by
    have := Keep.setCell h1 v hS
    rwa [Nat.zero_add] at this
  refine h.write (e' := frow (some ⟨g, 0, none⟩) cap e sz k (upd C i v)) hd rfl (fun b' o' ha => .inl ha) hk ?_
  refine ⟨by rw [newsOf_length], .inr ⟨g, cap, cur.setIfInBounds i v, rfl, Nat.zero_le _, by simp [World.setCell, Array.getElem?_modify, h1], h2, h3, by simpa using h4, ?_⟩⟩
  rw [Array.toList_setIfInBounds, List.take_set, h5, newsOf_set]
section
variable {P : Program} {n : Fr} {Q : Exit → Act → World → Prop} {L : PF} {ops : Md} {rest : List Oper} {ty : TypeId} {pos : String} {af : Array Edge} {d : Nat}
variable {W : World} {S : Nat → Nat → Prop} {H H' : List Ent}
theorem run_store_frow {w : World} {g cap sz k i : Nat} {e : TypeId} {C : Nat → Value} (h : (frow (some ⟨g, 0, none⟩) cap e sz k C).holds w) (hi : i < k * sz) {v : Value} (hv : one v = true) :
    (store ⟨g, i, none⟩ v).run P w = .ok () (w.setCell ⟨g, i, none⟩ v) := by
  rw [run_store P w _ v .plain (oneCell_of hv), frow_cell h hi]
  obtain ⟨cur, h1, h2, h3, h4, h5⟩ := frow_open h
  have : w.frozen? ⟨g, i, none⟩ = false := by
    simp only [World.frozen?, h1]
    simp
  simp [this]
theorem run_storeFrow {g cap sz k : Nat} {e : TypeId} : ∀ (vs : List Value) (i j : Nat) (C : Nat → Value) (w : World), XM W S (frow (some ⟨g, 0, none⟩) cap e sz k C :: H) w → i + j + vs.length ≤ k * sz → vs.all one = true →
    ∃ w', (storeCells ⟨g, i, none⟩ vs j).run P w = .ok () w' ∧ XM W S (frow (some ⟨g, 0, none⟩) cap e sz k (updL C (i + j) vs) :: H) w'
  | [], i, j, C, w, h, _, _ => ⟨w, by simp [storeCells], h⟩
  | v :: r, i, j, C, w, h, hl, h1 => by
    simp only [List.all_cons, Bool.and_eq_true] at h1
    simp only [List.length_cons] at hl
    have h2 := h.setFrow .here (i := i + j) (by omega) v
    obtain ⟨w', hr, hx⟩ := run_storeFrow r i (j + 1) _ _ h2 (by omega) h1.2
    refine ⟨w', ?_, by simpa only [updL, Nat.add_assoc] using hx⟩
    simp only [storeCells, Sem.run_bind, addr_add]
    rw [show (⟨g, i, none⟩ : Addr).add j = ⟨g, i + j, none⟩ from by
      have := addr_add g 0 i j
      simpa only [Nat.zero_add] using this, run_store_frow (show (frow (some ⟨g, 0, none⟩) cap e sz k C).holds w from h.good.1 _ (by simp)) (by omega) h1.1]
    exact hr
theorem exec_storeFrow {t : TypeId} {x y : Operand} {g cap sz k i m : Nat} {e : TypeId} {C : Nat → Value} {cs : Array Value} {a : Act} {w : World} (ha : Sat n L a) (hx : ev L x = some (ptr g 0 i)) (hy : ev L y = some (.agg cs))
    (hw : XM W S (frow (some ⟨g, 0, none⟩) cap e sz k C :: H) w) (hi : i + m ≤ k * sz) (hv : cs.toList.all one = true ∧ cs.size = m) (hs : szOf P t = some m) :
    ∃ w', (execOp a.eval ⟨none, .store t x y, ty, pos, af, none⟩).run P w = .ok .skip w' ∧ XM W S (frow (some ⟨g, 0, none⟩) cap e sz k (updL C i cs.toList) :: H) w' := by
  obtain ⟨w', hr, hx'⟩ := run_storeFrow (P := P) cs.toList i 0 C w hw (by simp; omega) hv.1
  simp only [Nat.add_zero] at hx'
  exact ⟨w', by simp [execOp, ev_eval ha hx, ev_eval ha hy, Instr.storeAt, Instr.sureAddr, ptr, storeVar, Value.cells, run_sizeOf hs, hv.2, hr], hx'⟩
theorem XO.storeFA {t : TypeId} {x y : Operand} {g cap sz k i m : Nat} {e : TypeId} {C C' : Nat → Value} {cs : Array Value} (hx : ev L x = some (ptr g 0 i)) (hy : ev L y = some (.agg cs)) (hH : Put H (frow (some ⟨g, 0, none⟩) cap e sz k C) (frow (some ⟨g, 0, none⟩) cap e sz k C') H')
    (hi : i + m ≤ k * sz ∧ updL C i cs.toList = C') (hv : cs.toList.all one = true ∧ cs.size = m) (hs : szOf P t = some m)
    (h : XO P n ops Q rest L (XM W S H')) : XO P n ops Q (⟨none, .store t x y, ty, pos, af, none⟩ :: rest) L (XM W S H) :=
  XO.op rfl fun a w ha hw => by
    obtain ⟨H1, hd, hp⟩ := hH.del
    obtain ⟨w', hr, hx'⟩ := exec_storeFrow (ty := ty) (pos := pos) (af := af) ha hx hy (hw.perm hd.perm) hi.1 hv hs
    rw [hi.2] at hx'
    unfold Oper.wp
    rw [hr]
    exact h _ _ ha (hx'.perm hp)
theorem V.loadF {t : TypeId} {x : Operand} {g i k cap sz : Nat} {e : TypeId} {C : Nat → Value} {v : Value} {φ : World → Prop} {gd : Option (Nat × Bool)} (hx : ev L x = some (ptr g 0 i)) (hH : ∀ w, φ w → (frow (some ⟨g, 0, none⟩) cap e sz k C).holds w) (hv : i < k * sz ∧ C i = v) (ht : scal P t = true) :
    RunsTo P n L φ (⟨some d, .load t x, ty, pos, af, gd⟩) v := V.loadRow hx hH (by rw [newsOf_at hv.1, hv.2]) ht
theorem V.loadFA {t : TypeId} {x : Operand} {g i k cap sz m : Nat} {e : TypeId} {C : Nat → Value} {v : Value} {φ : World → Prop} {gd : Option (Nat × Bool)} (hx : ev L x = some (ptr g 0 i)) (hH : ∀ w, φ w → (frow (some ⟨g, 0, none⟩) cap e sz k C).holds w) (hv : i + m ≤ k * sz ∧ aggOf C i m = v) (ht : aggT P t = true) (hs : szOf P t = some m) :
    RunsTo P n L φ (⟨some d, .load t x, ty, pos, af, gd⟩) v := fun a w ha hw => by
  have hr := run_loadVar_agg (P := P) (w := w) (b := g) (o := 0) (i := i) (C := C) ht hs (fun l hl => by
    have := frow_cell (hH w hw) (i := i + l) (by omega)
    rwa [Nat.zero_add])
  rw [hv.2] at hr
  simp only [Nat.zero_add] at hr
  simp [execOp, ev_eval ha hx, Instr.loadAt, Instr.sureAddr, ptr, hr]
/-- a slice cut short -/
theorem XO.cutRow {t e0 : TypeId} {x y : Operand} {p : Option Addr} {k k2 cap sz : Nat} {kk : IntKind} {z : Int} {e : TypeId} {C C' : Nat → Value} (hx : ev L x = some (.slice p k cap)) (hy : ev L y = some (.int kk z)) (ht : P.underlying t = some (.slice e0)) (hs : szOf P e0 = some sz) (hz : z = (k2 : Int)) (hk2 : k2 ≤ k) (hk : k ≤ cap)
    (hC : ∀ i, i < k2 * sz → C' i = C i) (hH : Put H (frow p cap e sz k C) (frow p cap e sz k2 C') H') (hd : Nat.blt d n.sz = true) (h : XO P n ops Q rest ((d, .slice p k2 cap) :: L) (XM W S H')) :
    XO P n ops Q (⟨some d, .slice t x none (some y) none, ty, pos, af, none⟩ :: rest) L (XM W S H) :=
  XO.mono (M' := XM W S H') (fun w hw => by
    obtain ⟨H1, hdel, hp⟩ := hH.del
    have hrow : (frow p cap e sz k C).holds w := hw.good.1 _ (hdel.perm.mem_iff.2 (by simp))
    have hsub : (frow p cap e sz k2 C').holds w := by
      refine ⟨by rw [newsOf_length], ?_⟩
      rcases hrow.2 with ⟨hv, hk0⟩ | ⟨g, cap', cur, hv, h0, h1, h2, h3, h4, h5⟩
      · simp only [Value.slice.injEq] at hv
        obtain ⟨rfl, rfl, rfl⟩ := hv
        have : k2 = 0 := by omega
        subst this; exact .inl ⟨rfl, rfl⟩
      · simp only [Value.slice.injEq, true_and] at hv
        obtain ⟨rfl, rfl⟩ := hv
        refine .inr ⟨g, cap, cur, rfl, h0, h1, by omega, h3, h4, ?_⟩
        have hle : k2 * sz ≤ k * sz := Nat.mul_le_mul_right _ hk2
        have := congrArg (List.take (k2 * sz)) h5
        rw [List.take_take, Nat.min_eq_left hle] at this
        rw [this]
        apply List.ext_getElem?
        intro j
        by_cases hj : j < k2 * sz
        · rw [List.getElem?_take_of_lt hj, newsOf_at (by omega), newsOf_at hj, hC j hj]
        · rw [List.getElem?_eq_none (by rw [List.length_take, newsOf_length]; exact Nat.le_trans (Nat.min_le_left _ _) (by omega)), List.getElem?_eq_none (by rw [newsOf_length]; omega)]
    have hx2 := hw.write (e' := frow p cap e sz k2 C') hdel rfl (fun b o hb => .inl (by cases p <;> exact hb)) (Keep.refl _ _) hsub
    exact hx2.perm hp) (XO.v (fun a w ha _ => by
    subst hz
    have hzc : (k2 : Int) ≤ (cap : Int) := by omega
    have : (execOp a.eval ⟨some d, .slice t x none (some y) none, ty, pos, af, none⟩).run P w = .ok (.value (.slice p k2 cap)) w := by
      have hp0 : (if cap = 0 then p else p.map (fun x => x.add (0 * sz))) = p := by
        split
        · rfl
        · cases p with
          | none => rfl
          | some a => simp [Addr.add]
      have hk3 : k2 ≤ cap := by omega
      simp [execOp, ev_eval ha hx, ev_eval ha hy, Instr.sliceAt, run_underlying ht, Instr.slice, Instr.sliceBounds, Instr.sliceBound, asIntOf, hk3, run_sizeOf hs]
      simpa using hp0
    exact this) (by simp [hd, isE]) h)
theorem frow_len {w : World} {p : Option Addr} {k cap sz : Nat} {e : TypeId} {xs : List Value} (h : (Ent.row (.slice p k cap) e sz k xs).holds w) : k ≤ cap := by
  rcases h.2 with ⟨hv, h0⟩ | ⟨g, cap', cur, hv, _, _, h2, _⟩
  · omega
  · simp only [Value.slice.injEq, true_and] at hv
    omega
theorem XC.rowLen {p : Option Addr} {k cap sz : Nat} {e : TypeId} {xs : List Value} {c : Code} (hH : Has H (.row (.slice p k cap) e sz k xs))
    (h : k ≤ cap → XC P n c Q L (XM W S H)) : XC P n c Q L (XM W S H) := fun a w ha hw => h (frow_len (hw.good.1 _ hH.mem)) a w ha hw
/-- an item put behind a row -/
theorem XO.appendF {t e : TypeId} {x y : Operand} {p : Option Addr} {k cap m c sz b N : Nat} {C C1 C2 : Nat → Value} (hx : ev L x = some (.slice p k cap)) (hy : ev L y = some (.slice (some ⟨b, 0, none⟩) m c))
    (ht : P.underlying t = some (.slice e)) (hr : rowT P e sz = true) (hH : Del H (frow p cap e sz k C) H') (hN : Has H (.cells b 0 N C1)) (hNm : N = m * sz) (h1 : (newsOf C1 N).all one = true) (hm : 0 < m) (hk : k + m ≤ 100000000000)
    (hC : ∀ i, i < (k + m) * sz → C2 i = if i < k * sz then C i else C1 (i - k * sz)) (hd : Nat.blt d n.sz = true)
    (h : ∀ p' cap', XO P n ops Q rest ((d, .slice p' (k + m) cap') :: L) (XM W S (frow p' cap' e sz (k + m) C2 :: H'))) :
    XO P n ops Q (⟨some d, .call ⟨.builtin .append, #[x, y], #[t, t]⟩, ty, pos, af, none⟩ :: rest) L (XM W S H) :=
  XO.append hx hy ht hr hH hN hNm h1 hm hk hd (fun p' cap' => by
    have e2 : newsOf C (k * sz) ++ newsOf C1 N = newsOf C2 ((k + m) * sz) := by
      apply List.ext_getElem?
      intro j
      have hl : (k + m) * sz = k * sz + N := by rw [hNm, Nat.add_mul]
      by_cases hj : j < k * sz
      · rw [List.getElem?_append_left (by rw [newsOf_length]; exact hj), newsOf_at hj, newsOf_at (by omega), hC j (by omega), if_pos hj]
      · by_cases hj2 : j < (k + m) * sz
        · rw [List.getElem?_append_right (by rw [newsOf_length]; omega), newsOf_length, newsOf_at (by omega), newsOf_at hj2, hC j hj2, if_neg hj]
        · rw [List.getElem?_eq_none (by simp [newsOf_length]; omega), List.getElem?_eq_none (by simp [newsOf_length]; omega)]
    rw [e2]
    exact h p' cap')
end
end Go.X
