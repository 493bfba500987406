import Derived.Test.YtmklfkjfgjagaaaGreatDoorXMore
import Derived.Test.YtmklfkjfgjagaaaGreatDoorXRes
import Derived.Laws.StructEq
namespace Go.X
open Go
/-! ### views of rows: slices cut short with their capacity -/
section
variable {P : Program} {n : Fr} {Q : Exit → Act → World → Prop} {L : PF} {ops : Array Oper} {rest : List Oper} {op : Op} {ty : TypeId} {pos : String} {af : Array Edge} {d : Nat}
variable {W : World} {S : Nat → Nat → Prop} {H H' : List Ent} {M : World → Prop} {α : Type}
/-- what an operation brings about -/
def RunsG (P : Program) (n : Fr) (L : PF) (M : World → Prop) (o : Oper) (G : α → Prop) (val : α → Value) (M' : α → World → Prop) : Prop :=
  ∀ a w, Sat n L a → M w → ∃ x w', G x ∧ (execOp a.eval o).run P w = .ok (.value (val x)) w' ∧ M' x w'
theorem XO.g {G : α → Prop} {val : α → Value} {M' : α → World → Prop} (hr : RunsG P n L M ⟨some d, op, ty, pos, af, none⟩ G val M') (hd : Nat.blt d n.sz = true)
    (h : ∀ x, G x → XO P n ops Q rest ((d, val x) :: L) (M' x)) : XO P n ops Q (⟨some d, op, ty, pos, af, none⟩ :: rest) L M :=
  XO.op rfl fun a w ha hw => by
    obtain ⟨x, w', hg, h1, h2⟩ := hr a w ha hw
    unfold Oper.wp
    rw [h1]
    exact h x hg _ _ (ha.put hd _) h2
theorem XQ.g {G : α → Prop} {val : α → Value} {M' : α → World → Prop} {B : Obl} {f i : Nat} {l l' : Array Bool} (ho : ops[i]? = some ⟨some d, op, ty, pos, af, none⟩) (hk : Region.ready .any ops l = [i]) (hl : l.setIfInBounds i true = l')
    (hr : RunsG P n L M ⟨some d, op, ty, pos, af, none⟩ G val M') (hd : Nat.blt d n.sz = true) (hob : ∀ x w, M' x w → JL B l' w)
    (h : ∀ x, G x → XQ P n ops Q B f l' ((d, val x) :: L) (M' x)) : XQ P n ops Q B (f + 1) l L M := by
  subst hl
  refine XQ.step ho rfl hk fun hcl a w ha hw hJ => ?_
  obtain ⟨x, w', hg, h1, h2⟩ := hr a w ha hw
  unfold Oper.wp
  rw [h1]
  exact h x hg hcl _ _ (ha.put hd _) h2 (hob x _ h2)

theorem newsOf_app (C C1 : Nat → Value) (a b : Nat) : newsOf C a ++ newsOf C1 b = newsOf (fun i => if i < a then C i else C1 (i - a)) (a + b) := by
  apply List.ext_getElem?
  intro j
  by_cases hj : j < a
  · rw [List.getElem?_append_left (by rw [newsOf_length]; exact hj), newsOf_at hj, newsOf_at (by omega), if_pos hj]
  · by_cases hj2 : j < a + b
    · rw [List.getElem?_append_right (by rw [newsOf_length]; omega), newsOf_length, newsOf_at (by omega), newsOf_at hj2, if_neg hj]
    · rw [List.getElem?_eq_none (by simp [newsOf_length]; omega), List.getElem?_eq_none (by simp [newsOf_length]; omega)]
theorem cells_news {w : World} {b N : Nat} {C : Nat → Value} (hc : (Ent.cells b 0 N C).holds w) : ∀ j u, (newsOf C N)[j]? = some u → w.cell? ((⟨b, 0, none⟩ : Addr).add j) = some u := fun j u hj => by
  have hlt : j < N := by
    have := (List.getElem?_eq_some_iff.1 hj).1
    rwa [newsOf_length] at this
  rw [newsOf_at hlt] at hj
  simp only [Option.some.injEq] at hj
  have hcc := cell_of_holds hc hlt
  have e0 : (⟨b, 0, none⟩ : Addr).add j = ⟨b, 0 + j, none⟩ := by cases j <;> simp [Addr.add]
  rw [e0, ← hj]; exact hcc

/-- a slice, and the row that it looks at -/
structure RV where
  p : Option Addr
  cap : Nat
  k : Nat
  len : Nat
  c : Nat
  C : Nat → Value
abbrev RV.ent (v : RV) (e : TypeId) (sz : Nat) : Ent := frow v.p v.cap e sz v.k v.C
abbrev RV.val (v : RV) : Value := .slice v.p v.len v.c
def RV.ok (v : RV) : Prop := (v.len = v.k ∧ v.c = v.cap) ∨ (v.c = v.len ∧ v.len ≤ v.k)
theorem RV.ok_le {v : RV} (h : v.ok) : v.len ≤ v.k := by rcases h with h | h <;> omega
/-- a new block, with a row in front -/
theorem grown_row {P : Program} {w : World} {e : TypeId} {sz : Nat} {i : TypeInfo} {z : Value} {xs : List Value} {k old : Nat} (hsize : i.size = sz) (hzs : z.cells.size = sz) (hl : xs.length = k * sz) (hmax : k ≤ maxLen) :
    (Ent.row (.slice (some ⟨w.heap.size, 0, none⟩) k (grownCap w k old e)) e sz k xs).holds (w.drew.alloc (.cells (xs.toArray ++ Builtin.zeroCells z.cells (grownCap w k old e - k)) e)) := by
  have hge := grownCap_ge w k old e
  have hcm : grownCap w k old e ≤ maxLen := grownCap_le_maxLen w k old e hmax
  refine ⟨hl, .inr ⟨w.heap.size, _, _, rfl, Nat.zero_le _, heap_alloc_new w.drew _, hge, hcm, ?_, ?_⟩⟩
  · simp only [Array.size_append, List.size_toArray, size_zeroCells, hzs, hl, ← Nat.add_mul]
    congr 1
    omega
  · simp only [Array.toList_append]
    rw [← hl]
    exact List.take_left
theorem frow_reads {w : World} {g cap sz k m : Nat} {e : TypeId} {C : Nat → Value} (h : (frow (some ⟨g, 0, none⟩) cap e sz k C).holds w) (hm : m ≤ k) (o : Nat) (ho : o + m * sz ≤ k * sz) :
    ∀ j u, (newsOf (fun i => C (o + i)) (m * sz))[j]? = some u → w.cell? ((⟨g, o, none⟩ : Addr).add j) = some u := fun j u hj => by
  have hlt : j < m * sz := by
    have := (List.getElem?_eq_some_iff.1 hj).1
    rwa [newsOf_length] at this
  rw [newsOf_at hlt] at hj
  simp only [Option.some.injEq] at hj
  have e0 : (⟨g, o, none⟩ : Addr).add j = ⟨g, o + j, none⟩ := by cases j <;> simp [Addr.add]
  rw [e0, ← hj]
  exact frow_cell h (by omega)
theorem keep_fresh (w : World) (o : Obj) (S : Nat → Nat → Prop) : Keep w (w.drew.alloc o) S := keep_drew (keep_alloc w.drew o S)
/-- an item put behind a view -/
theorem RG.append {t e : TypeId} {x y : Operand} {v : RV} {m c2 b N sz : Nat} {C1 : Nat → Value} (hv : v.ok) (hx : ev L x = some v.val) (hy : ev L y = some (.slice (some ⟨b, 0, none⟩) m c2)) (ht : P.underlying t = some (.slice e)) (hr : rowT P e sz = true)
    (hH : Del H (v.ent e sz) H') (hN : Has H (.cells b 0 N C1)) (hNm : N = m * sz) (h1 : (newsOf C1 N).all one = true) (hm : 0 < m) (hk : v.len + m ≤ 100000000000) :
    RunsG P n L (XM W S H) ⟨some d, .call ⟨.builtin .append, #[x, y], #[t, t]⟩, ty, pos, af, none⟩ (fun u : RV => u.ok ∧ u.len = v.len + m ∧ (∀ i, i < v.len * sz → u.C i = v.C i) ∧ ∀ i, i < m * sz → u.C (v.len * sz + i) = C1 i)
      (fun u => u.val) (fun u => XM W S (u.ent e sz :: H')) := fun a w ha hw => by
  have hc : (Ent.cells b 0 N C1).holds w := hw.good.1 _ hN.mem
  have hrow : (v.ent e sz).holds w := hw.good.1 _ (hH.perm.mem_iff.2 (by simp))
  obtain ⟨p, cap, k, len, c, C⟩ := v
  simp only [RV.ok, RV.val, RV.ent] at *
  have fin : ∀ (p' : Option Addr) (cap' : Nat) (w' : World), (Builtin.append_ #[t, t] ty #[.slice p len c, .slice (some ⟨b, 0, none⟩) m c2]).run P w = .ok (.slice p' (len + m) cap') w' →
      XM W S (.row (.slice p' (len + m) cap') e sz (len + m) (newsOf C (len * sz) ++ newsOf C1 N) :: H') w' → ∃ (u : RV) (w' : World), (u.ok ∧ u.len = len + m ∧ (∀ i, i < len * sz → u.C i = C i) ∧ ∀ i, i < m * sz → u.C (len * sz + i) = C1 i) ∧
        (execOp a.eval ⟨some d, .call ⟨.builtin .append, #[x, y], #[t, t]⟩, ty, pos, af, none⟩).run P w = .ok (.value u.val) w' ∧ XM W S (u.ent e sz :: H') w' := fun p' cap' w' h3 h4 => by
    refine ⟨⟨p', cap', len + m, len + m, cap', fun i => if i < len * sz then C i else C1 (i - len * sz)⟩, w', ⟨.inl ⟨rfl, rfl⟩, rfl, fun i hi => if_pos hi, fun i _ => ?_⟩, ?_, ?_⟩
    · show (if len * sz + i < len * sz then _ else _) = _
      rw [if_neg (by omega), Nat.add_sub_cancel_left]
    · simp [execOp, resolve, invoke, builtin, ev_eval ha hx, ev_eval ha hy, h3]
    · rw [newsOf_app, hNm, ← Nat.add_mul] at h4
      exact h4
  have full : len = k → c = cap → ∃ (u : RV) (w' : World), (u.ok ∧ u.len = len + m ∧ (∀ i, i < len * sz → u.C i = C i) ∧ ∀ i, i < m * sz → u.C (len * sz + i) = C1 i) ∧
        (execOp a.eval ⟨some d, .call ⟨.builtin .append, #[x, y], #[t, t]⟩, ty, pos, af, none⟩).run P w = .ok (.value u.val) w' ∧ XM W S (u.ent e sz :: H') w' := fun e1 e2 => by
    subst e1; subst e2
    obtain ⟨p', cap', w', h3, h4, h5, h6⟩ := run_append_row (ty := ty) (c := c2) (b := b) (news := newsOf C1 N) ht hr hrow hm (by rw [newsOf_length, hNm]) (cells_news hc) (fun u hu => oneCell_of (List.all_eq_true.1 h1 u hu)) hk
    exact fin p' cap' w' h3 (hw.write hH rfl h6 h5 h4)
  rcases hv with ⟨h1', h2'⟩ | ⟨h1', h2'⟩
  · exact full h1' h2'
  · rcases hrow.2 with ⟨hv, h0⟩ | ⟨g, cap', cur, hv, _⟩
    · simp only [Value.slice.injEq] at hv
      exact full (by omega) (by omega)
    · simp only [Value.slice.injEq, true_and] at hv
      obtain ⟨rfl, rfl⟩ := hv
      obtain ⟨i, z, hi, hz, hsize, hby, hzs, hsz⟩ := rowT_spec hr
      have hmax : len + m ≤ maxLen := by simp only [maxLen]; omega
      have hbytes : (len + m) * i.bytes ≤ 140737488355328 := Nat.le_trans (Nat.mul_le_mul hk hby) (by omega)
      have hle : len * sz ≤ k * sz := Nat.mul_le_mul_right _ h2'
      have hr2 := run_append_grow (P := P) w t ty e i z ht hi hz ⟨g, 0, none⟩ len c (newsOf C (len * sz)) (by rw [newsOf_length, hsize]) (fun j u hj => by
        have hlt : j < len * sz := by
          have := (List.getElem?_eq_some_iff.1 hj).1
          rwa [newsOf_length] at this
        exact frow_reads hrow h2' 0 (by omega) j u (by
          rw [newsOf_at hlt] at hj ⊢
          simpa using hj)) ⟨b, 0, none⟩ m c2 (newsOf C1 N) (by rw [newsOf_length, hNm, hsize]) (cells_news hc) (by omega) (by simp only [maxLen] at hmax; omega) (growslice_fits (by omega) hbytes)
      refine fin _ _ _ hr2 ?_
      have hg := grown_row (P := P) (w := w) (e := e) (sz := sz) (i := i) (z := z) (xs := newsOf C (len * sz) ++ newsOf C1 N) (k := len + m) (old := c) hsize hzs (by rw [List.length_append, newsOf_length, newsOf_length, hNm, Nat.add_mul]) hmax
      have e3 : (newsOf C (len * sz) ++ newsOf C1 N).toArray = (newsOf C (len * sz)).toArray ++ (newsOf C1 N).toArray := by simp
      rw [e3] at hg
      exact hw.write hH rfl (fun b' o hb => .inr (by simp only [Ent.area, Value.ownBlock, Option.some.injEq] at hb; omega)) (keep_fresh w _ _) hg
/-- a copy of a view -/
theorem RG.clone {t e : TypeId} {y : Operand} {v : RV} {sz : Nat} (hv : v.ok) (hy : ev L y = some v.val) (ht : P.underlying t = some (.slice e)) (hr : rowT P e sz = true) (hH : Has H (v.ent e sz)) (hk : v.len ≤ 100000000000) :
    RunsG P n L (XM W S H) ⟨some d, .call ⟨.builtin .append, #[.const (.slice none 0 0), y], #[t, t]⟩, ty, pos, af, none⟩ (fun u : RV => u.ok ∧ u.len = v.len ∧ ∀ i, i < v.len * sz → u.C i = v.C i)
      (fun u => u.val) (fun u => XM W S (u.ent e sz :: H)) := fun a w ha hw => by
  have hrow : (v.ent e sz).holds w := hw.good.1 _ hH.mem
  obtain ⟨p, cap, k, len, c, C⟩ := v
  simp only [RV.ok, RV.val, RV.ent] at *
  have hc : a.eval (.const (.slice none 0 0)) = .slice none 0 0 := rfl
  obtain ⟨i, z, hi, hz, hsize, hby, hzs, hsz⟩ := rowT_spec hr
  by_cases h0 : len = 0
  · subst h0
    refine ⟨⟨none, 0, 0, 0, 0, C⟩, w, ⟨.inl ⟨rfl, rfl⟩, rfl, fun i hi => rfl⟩, ?_, ?_⟩
    · have h3 : (Builtin.append_ #[t, t] ty #[.slice none 0 0, .slice p 0 c]).run P w = .ok (.slice none 0 0) w := by
        cases p <;> simp [Builtin.append_, run_underlying ht, Builtin.lenOf, Builtin.firstCells, loadCells, loadCellsFrom, sizeOf, run_typeInfo hi, hi]
      simp [execOp, resolve, invoke, builtin, ev_eval ha hy, hc, h3]
    · have := hw.nilRow e sz
      simpa [frow, newsOf] using this
  · have hlk : len ≤ k := by omega
    rcases hrow.2 with ⟨hv2, h0'⟩ | ⟨g, cap', cur, hv2, _⟩
    · omega
    · simp only [Value.slice.injEq, true_and] at hv2
      obtain ⟨rfl, rfl⟩ := hv2
      have hmax : len ≤ maxLen := by simp only [maxLen]; omega
      have hbytes : len * i.bytes ≤ 140737488355328 := Nat.le_trans (Nat.mul_le_mul hk hby) (by omega)
      have hle : len * sz ≤ k * sz := Nat.mul_le_mul_right _ hlk
      have hr2 := run_append_nil (P := P) w t ty e i z ht hi hz ⟨g, 0, none⟩ len c (newsOf C (len * sz)) (by rw [newsOf_length, hsize]) (fun j u hj => by
        have hlt : j < len * sz := by
          have := (List.getElem?_eq_some_iff.1 hj).1
          rwa [newsOf_length] at this
        exact frow_reads hrow hlk 0 (by omega) j u (by
          rw [newsOf_at hlt] at hj ⊢
          simpa using hj)) (by omega) (by simp only [maxLen] at hmax; omega) (by omega)
      have hg := grown_row (P := P) (w := w) (e := e) (sz := sz) (i := i) (z := z) (xs := newsOf C (len * sz)) (k := len) (old := 0) hsize hzs (by rw [newsOf_length]) hmax
      refine ⟨⟨some ⟨w.heap.size, 0, none⟩, grownCap w len 0 e, len, len, grownCap w len 0 e, C⟩, w.drew.alloc (.cells ((newsOf C (len * sz)).toArray ++ Builtin.zeroCells z.cells (grownCap w len 0 e - len)) e), ⟨.inl ⟨rfl, rfl⟩, rfl, fun i hi => rfl⟩, ?_, ?_⟩
      · simp [execOp, resolve, invoke, builtin, ev_eval ha hy, hc, hr2]
      · exact hw.fresh (fun b o hb => by simp only [Ent.area, Value.ownBlock, Option.some.injEq] at hb; omega) (keep_fresh w _ _) hg
/-- what is ahead of a place, with its capacity cut there -/
theorem V.slice3 {t e : TypeId} {x y y2 : Operand} {p : Option Addr} {len c m : Nat} {k k2 : IntKind} {z : Int} {φ : World → Prop} {gd : Option (Nat × Bool)} (hx : ev L x = some (.slice p len c)) (hy : ev L y = some (.int k z)) (hy2 : ev L y2 = some (.int k2 z)) (ht : P.underlying t = some (.slice e)) {sz : Nat} (hs : szOf P e = some sz)
    (hz : z = (m : Int)) (hm : m ≤ c) : RunsTo P n L φ ⟨some d, .slice t x none (some y) (some y2), ty, pos, af, gd⟩ (.slice p m m) := fun a w ha _ => by
  subst hz
  have hp0 : (if m = 0 then p else p.map (fun x => x.add (0 * sz))) = p := by
    split
    · rfl
    · cases p with
      | none => rfl
      | some a => simp [Addr.add]
  simp [execOp, ev_eval ha hx, ev_eval ha hy, ev_eval ha hy2, Instr.sliceAt, run_underlying ht, Instr.slice, Instr.sliceBounds, Instr.sliceBound, asIntOf, hm, run_sizeOf hs]
  simpa using hp0
/-- what is behind a place -/
theorem V.sliceTail {t e : TypeId} {x y : Operand} {g len c m : Nat} {k : IntKind} {z : Int} {φ : World → Prop} {gd : Option (Nat × Bool)} (hx : ev L x = some (.slice (some ⟨g, 0, none⟩) len c)) (hy : ev L y = some (.int k z)) (ht : P.underlying t = some (.slice e)) {sz : Nat} (hs : szOf P e = some sz)
    (hz : z = (m : Int)) (hm : m ≤ len) (hc : len ≤ c) : RunsTo P n L φ ⟨some d, .slice t x (some y) none none, ty, pos, af, gd⟩ (.slice (some ⟨g, if c = m then 0 else m * sz, none⟩) (len - m) (c - m)) := fun a w ha _ => by
  subst hz
  have e1 : (if c = m then some (⟨g, 0, none⟩ : Addr) else some ((⟨g, 0, none⟩ : Addr).add (m * sz))) = some ⟨g, if c = m then 0 else m * sz, none⟩ := by
    split
    · rfl
    · congr 1
      cases hq : m * sz <;> simp [Addr.add]
  simp [execOp, ev_eval ha hx, ev_eval ha hy, Instr.sliceAt, run_underlying ht, Instr.slice, Instr.sliceBounds, Instr.sliceBound, asIntOf, hm, run_sizeOf hs]
  simpa using e1
/-- one taken out of a view: append(v[:i:i], v[i+1:]...) -/
theorem RG.cut {t e : TypeId} {x y : Operand} {g cap k len c : Nat} {C : Nat → Value} {i q sz : Nat} (hv : RV.ok ⟨some ⟨g, 0, none⟩, cap, k, len, c, C⟩) (hi : i < len) (hx : ev L x = some (.slice (some ⟨g, 0, none⟩) i i))
    (hy : ev L y = some (.slice (some ⟨g, if c = i + 1 then 0 else (i + 1) * sz, none⟩) (len - (i + 1)) q)) (ht : P.underlying t = some (.slice e)) (hr : rowT P e sz = true) (hH : Del H (frow (some ⟨g, 0, none⟩) cap e sz k C) H') (hk : len ≤ 100000000000) :
    RunsG P n L (XM W S H) ⟨some d, .call ⟨.builtin .append, #[x, y], #[t, t]⟩, ty, pos, af, none⟩ (fun u : RV => u.ok ∧ u.len = len - 1 ∧ (∀ j, j < i * sz → u.C j = C j) ∧ ∀ j, i * sz ≤ j → j < (len - 1) * sz → u.C j = C (j + sz))
      (fun u => u.val) (fun u => XM W S (u.ent e sz :: H')) := fun a w ha hw => by
  have hrow : (frow (some ⟨g, 0, none⟩) cap e sz k C).holds w := hw.good.1 _ (hH.perm.mem_iff.2 (by simp))
  have hv : (len = k ∧ c = cap) ∨ (c = len ∧ len ≤ k) := hv
  obtain ⟨ii, z, hii, hz, hsize, hby, hzs, hsz⟩ := rowT_spec hr
  by_cases hl : len = i + 1
  · subst hl
    refine ⟨⟨some ⟨g, 0, none⟩, cap, k, i, i, C⟩, w, ⟨.inr ⟨rfl, show i ≤ k by omega⟩, by simp, fun j _ => rfl, fun j h1 h2 => by simp at h2; omega⟩, ?_, ?_⟩
    · have h3 : ∀ o, (Builtin.append_ #[t, t] ty #[.slice (some ⟨g, 0, none⟩) i i, .slice (some ⟨g, o, none⟩) 0 q]).run P w = .ok (.slice (some ⟨g, 0, none⟩) i i) w := fun o => by
        simp [Builtin.append_, run_underlying ht, Builtin.lenOf, Builtin.firstCells, loadCells, loadCellsFrom, storeCells, sizeOf, run_typeInfo hii, hii]
      rw [Nat.sub_self] at hy
      simp [execOp, resolve, invoke, builtin, ev_eval ha hx, ev_eval ha hy, h3]
    · exact hw.perm hH.perm
  · have hlk : len ≤ k := by omega
    have hcl : len ≤ c := by
      have := frow_len hrow
      omega
    have hmax : len - 1 ≤ maxLen := by simp only [maxLen]; omega
    have hbytes : (len - 1) * ii.bytes ≤ 140737488355328 := Nat.le_trans (Nat.mul_le_mul (show len - 1 ≤ 100000000000 by omega) hby) (by omega)
    have hle : len * sz ≤ k * sz := Nat.mul_le_mul_right _ hlk
    have hle2 : i * sz ≤ len * sz := Nat.mul_le_mul_right _ (by omega)
    have e1 : (len - (i + 1)) * sz + (i + 1) * sz = len * sz := by rw [← Nat.add_mul]; congr 1; omega
    have e2 : i * sz + (len - (i + 1)) * sz = (len - 1) * sz := by rw [← Nat.add_mul]; congr 1; omega
    have e4 : (i + 1) * sz = i * sz + sz := by rw [Nat.add_mul, Nat.one_mul]
    rw [if_neg (by omega)] at hy
    have hr2 := run_append_grow (P := P) w t ty e ii z ht hii hz ⟨g, 0, none⟩ i i (newsOf C (i * sz)) (by rw [newsOf_length, hsize]) (fun j u hj => by
      have hlt : j < i * sz := by
        have := (List.getElem?_eq_some_iff.1 hj).1
        rwa [newsOf_length] at this
      exact frow_reads hrow (show i ≤ k by omega) 0 (by omega) j u (by
        rw [newsOf_at hlt] at hj ⊢
        simpa using hj)) ⟨g, (i + 1) * sz, none⟩ (len - (i + 1)) q (newsOf (fun j => C ((i + 1) * sz + j)) ((len - (i + 1)) * sz)) (by rw [newsOf_length, hsize])
        (frow_reads hrow (show len - (i + 1) ≤ k by omega) ((i + 1) * sz) (by omega)) (by omega) (by simp only [maxLen] at hmax; omega) (growslice_fits (by omega) (by rw [show i + (len - (i + 1)) = len - 1 by omega]; exact hbytes))
    rw [show i + (len - (i + 1)) = len - 1 by omega] at hr2
    have hg := grown_row (P := P) (w := w) (e := e) (sz := sz) (i := ii) (z := z) (xs := newsOf C (i * sz) ++ newsOf (fun j => C ((i + 1) * sz + j)) ((len - (i + 1)) * sz)) (k := len - 1) (old := i) hsize hzs (by rw [List.length_append, newsOf_length, newsOf_length, e2]) hmax
    have e3 : (newsOf C (i * sz) ++ newsOf (fun j => C ((i + 1) * sz + j)) ((len - (i + 1)) * sz)).toArray = (newsOf C (i * sz)).toArray ++ (newsOf (fun j => C ((i + 1) * sz + j)) ((len - (i + 1)) * sz)).toArray := by simp
    rw [e3] at hg
    have hx2 := hw.write hH rfl (fun b' o hb => .inr (by simp only [Ent.area, Value.ownBlock, Option.some.injEq] at hb; omega)) (keep_fresh w _ _) hg
    rw [newsOf_app, e2] at hx2
    have fin : ∀ (v9 : Value) (w9 : World), (Builtin.append_ #[t, t] ty #[.slice (some ⟨g, 0, none⟩) i i, .slice (some ⟨g, (i + 1) * sz, none⟩) (len - (i + 1)) q]).run P w = .ok v9 w9 → (execOp a.eval ⟨some d, .call ⟨.builtin .append, #[x, y], #[t, t]⟩, ty, pos, af, none⟩).run P w = .ok (.value v9) w9 := fun v9 w9 h9 => by
      simp [execOp, resolve, invoke, builtin, ev_eval ha hx, ev_eval ha hy, h9]
    refine ⟨⟨_, _, len - 1, len - 1, _, fun j => if j < i * sz then C j else C ((i + 1) * sz + (j - i * sz))⟩, _, ⟨.inl ⟨rfl, rfl⟩, rfl, fun j hj => if_pos hj, fun j h1 h2 => ?_⟩, ?_, hx2⟩
    · show (if j < i * sz then _ else _) = _
      rw [if_neg (by omega)]
      congr 1
      omega
    · exact fin _ _ hr2
/-- a new variable -/
theorem RG.box {t : TypeId} {x : Operand} {v : Value} {m : Nat} {C : Nat → Value} (hx : ev L x = some v) (hm : v.cells.size = m) (hC : ∀ i, i < m → cellsOf v.cells i = C i) :
    RunsG P n L (XM W S H) ⟨some d, .box t x, ty, pos, af, none⟩ (fun _ : Nat => True) (fun b => ptr b 0 0) (fun b => XM W S (.cells b 0 m C :: H)) := fun a w ha hw => by
  have hx' := hw.alloc v.cells t C (fun i hi => by rw [cellsOf_spec _ _ hi, hC i (hm ▸ hi)])
  rw [hm] at hx'
  exact ⟨_, _, trivial, by simp [execOp, ev_eval ha hx, Instr.box, newVar, newRow, newObj, Sem.run, ptr], hx'⟩
/-- a slice of what is told -/
theorem RG.build {t e : TypeId} {parts : Array (Nat × Operand)} {vs : Array (Nat × Value)} {k m : Nat} {A : Array Value} (hp : parts.toList.mapM (fun x => (ev L x.2).map fun u => (x.1, u)) = some vs.toList)
    (hb : ∀ w, (Instr.buildSlice t k vs).run P w = .ok (.slice (some ⟨w.heap.size, 0, none⟩) k k) (w.alloc (.cells A e))) (hA : A.size = m) :
    RunsG P n L (XM W S H) ⟨some d, .buildSlice t k parts, ty, pos, af, none⟩ (fun _ : Nat => True) (fun b => .slice (some ⟨b, 0, none⟩) k k) (fun b => XM W S (.cells b 0 m (cellsOf A) :: H)) := fun a w ha hw => by
  have hx' := hw.alloc A e (cellsOf A) (fun i hi => cellsOf_spec _ _ hi)
  rw [hA] at hx'
  have hv : parts.map (fun (i, x) => (i, a.eval x)) = vs := by
    apply Array.toList_inj.1
    rw [Array.toList_map]
    exact mapM_parts ha _ _ hp
  exact ⟨_, _, trivial, by simp only [execOp, hv, Sem.run_bind, hb, Result.andThen_ok, Sem.run_pure], hx'⟩
/-! ### structs of two ints, held against one another -/
def okF2 (P : Program) (f : Field) (o : Nat) : Bool := (match P.underlying f.type with
  | some (.int _) => Nat.beq f.offset o
  | _ => false) && !(f.name == "_")
def two (P : Program) (t : TypeId) : Bool := match (P.fieldsOf t).toList with
  | [f, g] => okF2 P f 0 && okF2 P g 1
  | _ => false
theorem okF2_spec {P : Program} {f : Field} {o : Nat} (h : okF2 P f o = true) : (∃ k, P.underlying f.type = some (.int k)) ∧ f.offset = o ∧ f.name ≠ "_" := by
  unfold okF2 at h
  simp only [Bool.and_eq_true, Bool.not_eq_true', beq_eq_false_iff_ne] at h
  obtain ⟨h1, h2⟩ := h
  cases hu : P.underlying f.type with
  | none => simp [hu] at h1
  | some ds =>
    simp only [hu] at h1
    cases ds <;> simp only [] at h1 <;> try cases h1
    rename_i k
    exact ⟨⟨k, rfl⟩, by simpa using h1, h2⟩
theorem V.eq2 {op : BinOp} {t t' : TypeId} {x y : Operand} {a1 a2 b1 b2 : Int} {r : Bool} {φ : World → Prop} {gd : Option (Nat × Bool)} (hx : ev L x = some (.agg #[.int .i64 a1, .int .i64 a2])) (hy : ev L y = some (.agg #[.int .i64 b1, .int .i64 b2]))
    (hP : (P.underlying t = some (.struct (P.fieldsOf t)) ∧ P.stoodInHeld t = false) ∧ P.eqGuardType P.depth t = false ∧ two P t = true)
    (hr : (match op with | .eql => some (decide (a1 = b1 ∧ a2 = b2)) | .neq => some (!decide (a1 = b1 ∧ a2 = b2)) | _ => none) = some r) :
    RunsTo P n L φ ⟨some d, .binOp op t x y t', ty, pos, af, gd⟩ (.bool r) := fun a w ha _ => by
  obtain ⟨⟨h1, h2⟩, h3, h4⟩ := hP
  have he : (Op.equal t (.agg #[.int .i64 a1, .int .i64 a2]) (.agg #[.int .i64 b1, .int .i64 b2])).run P w = .ok (decide (a1 = b1 ∧ a2 = b2)) w := by
    refine (run_equalIn_struct w 9999 t _ _ h1 h2).trans ?_
    unfold two at h4
    split at h4
    · rename_i f g hfg
      rw [hfg]
      simp only [Bool.and_eq_true] at h4
      obtain ⟨⟨k1, u1⟩, o1, n1⟩ := okF2_spec h4.1
      obtain ⟨⟨k2, u2⟩, o2, n2⟩ := okF2_spec h4.2
      have p1 : ∀ q1 q2 : Int, (part f.type #[Value.int .i64 q1, .int .i64 q2] f.offset).run P w = .ok (.int .i64 q1) w := fun q1 q2 => by
        rw [o1]; simp [part, run_isAgg_scal (show scal P f.type = true by unfold scal; rw [u1])]
      have p2 : ∀ q1 q2 : Int, (part g.type #[Value.int .i64 q1, .int .i64 q2] g.offset).run P w = .ok (.int .i64 q2) w := fun q1 q2 => by
        rw [o2]; simp [part, run_isAgg_scal (show scal P g.type = true by unfold scal; rw [u2])]
      have e1 : (Op.equalIn 9999 f.type (.int .i64 a1) (.int .i64 b1)).run P w = .ok (a1 == b1) w := run_equalIn_int (P := P) (w := w) 9998 f.type .i64 k1 a1 b1 u1
      have e2 : (Op.equalIn 9999 g.type (.int .i64 a2) (.int .i64 b2)).run P w = .ok (a2 == b2) w := run_equalIn_int (P := P) (w := w) 9998 g.type .i64 k2 a2 b2 u2
      simp only [Op.eqFields, n1, n2, ne_eq, not_false_eq_true, if_true, Sem.run_bind, p1, p2, Result.andThen_ok, e1, e2]
      by_cases c1 : a1 = b1
      · subst c1
        by_cases c2 : a2 = b2
        · subst c2; simp [p2, e2]
        · simp [c2, p2, e2]
      · simp [c1, p2, e2]
    · cases h4
  have b1' : binOp .eql t (.agg #[.int .i64 a1, .int .i64 a2]) (.agg #[.int .i64 b1, .int .i64 b2]) = (do pure (.bool (← Op.equal t (.agg #[.int .i64 a1, .int .i64 a2]) (.agg #[.int .i64 b1, .int .i64 b2])))) := rfl
  have b2' : binOp .neq t (.agg #[.int .i64 a1, .int .i64 a2]) (.agg #[.int .i64 b1, .int .i64 b2]) = (do pure (.bool (!(← Op.equal t (.agg #[.int .i64 a1, .int .i64 a2]) (.agg #[.int .i64 b1, .int .i64 b2]))))) := rfl
  have g1 : (eqGuard .eql t x y (.agg #[.int .i64 a1, .int .i64 a2]) (.agg #[.int .i64 b1, .int .i64 b2])).run P w = .ok () w := by simp [eqGuard, run_program, h3]
  have g2 : (eqGuard .neq t x y (.agg #[.int .i64 a1, .int .i64 a2]) (.agg #[.int .i64 b1, .int .i64 b2])).run P w = .ok () w := by simp [eqGuard, run_program, h3]
  cases op <;> simp only [Option.some.injEq] at hr <;> (try cases hr) <;>
    simp only [execOp, ev_eval ha hx, ev_eval ha hy, b1', b2'] <;> simp [g1, g2, he]
/-- the front of a slice, its capacity kept -/
theorem V.slicePre {t e : TypeId} {x y : Operand} {p : Option Addr} {len c m : Nat} {k : IntKind} {z : Int} {φ : World → Prop} {gd : Option (Nat × Bool)} (hx : ev L x = some (.slice p len c)) (hy : ev L y = some (.int k z)) (ht : P.underlying t = some (.slice e)) {sz : Nat} (hs : szOf P e = some sz)
    (hz : z = (m : Int)) (hm : m ≤ c) : RunsTo P n L φ ⟨some d, .slice t x none (some y) none, ty, pos, af, gd⟩ (.slice p m c) := fun a w ha _ => by
  subst hz
  have hp0 : (if c = 0 then p else p.map (fun x => x.add (0 * sz))) = p := by
    split
    · rfl
    · cases p with
      | none => rfl
      | some a => simp [Addr.add]
  simp [execOp, ev_eval ha hx, ev_eval ha hy, Instr.sliceAt, run_underlying ht, Instr.slice, Instr.sliceBounds, Instr.sliceBound, asIntOf, hm, run_sizeOf hs]
  simpa using hp0
theorem XO.rowLen {p : Option Addr} {k cap sz : Nat} {e : TypeId} {xs : List Value} (hH : Has H (.row (.slice p k cap) e sz k xs))
    (h : k ≤ cap → XO P n ops Q rest L (XM W S H)) : XO P n ops Q rest L (XM W S H) := fun a w ha hw => h (frow_len (hw.good.1 _ hH.mem)) a w ha hw
theorem XQ.rowLen {p : Option Addr} {k cap sz f : Nat} {e : TypeId} {xs : List Value} {B : Obl} {l : Array Bool} (hH : Has H (.row (.slice p k cap) e sz k xs))
    (h : k ≤ cap → XQ P n ops Q B f l L (XM W S H)) : XQ P n ops Q B f l L (XM W S H) := fun hc a w ha hw hJ => h (frow_len (hw.good.1 _ hH.mem)) hc a w ha hw hJ
theorem XQ.openRow {p : Option Addr} {k cap sz f : Nat} {e : TypeId} {xs : List Value} {B : Obl} {l : Array Bool} (hH : Has H (.row (.slice p k cap) e sz k xs)) (hk : 0 < k)
    (h : ∀ g, p = some ⟨g, 0, none⟩ → XQ P n ops Q B f l L (XM W S H)) : XQ P n ops Q B f l L (XM W S H) := by
  intro hc a w ha hw hJ
  have hrow : (Ent.row (.slice p k cap) e sz k xs).holds w := hw.good.1 _ hH.mem
  rcases hrow.2 with ⟨hv, rfl⟩ | ⟨g, _, _, hv, _⟩
  · omega
  · simp only [Value.slice.injEq] at hv
    exact h g hv.1 hc a w ha hw hJ
theorem XE.retG3 {k : Nat} {fn : Func} {R : Ending → World → Prop} {M : World → Prop} {r r' r2 : ResultVar} {v v' v2 : Value} (hr : fn.results = #[r, r', r2]) (h1 : ResIs P (fr k) L M r v) (h2 : ResIs P (fr k) L M r' v') (h3 : ResIs P (fr k) L M r2 v2)
    (h : ∀ w, M w → R (.returned (.tuple #[v, v', v2])) w) : XE (fr k) (bodyPost P fn R) .ret L M := fun a w ha hw => by
  refine ⟨ha.1, .tuple #[v, v', v2], ?_, h w hw⟩
  have e1 := h1 a w ha hw
  have e2 := h2 a w ha hw
  have e3 := h3 a w ha hw
  rw [results_of, hr]
  simp [e1, e2, e3]
end
/-! ### where two can come next -/
section
variable {P : Program} {n : Fr} {L : PF} {ops : Array Oper} {Q : Exit → Act → World → Prop} {ty : TypeId} {pos : String} {af : Array Edge} {d f i : Nat} {B : Obl} {l l' : Array Bool}
def XS (P : Program) (n : Fr) (ops : Array Oper) (Q : Exit → Act → World → Prop) (B : Obl) (f : Nat) (l : Array Bool) (i : Nat) (L : PF) (M : World → Prop) : Prop :=
  i ∈ Region.ready .any ops l → Closed ops l → ∀ a w, Sat n L a → M w → JL B l w → wpOp P ops (nrm Q) i (wpJ P ops Q B f (l.setIfInBounds i true)) a w
theorem XQ.fork {i j : Nat} {M : World → Prop} (hk : Region.ready .any ops l = [i, j]) (h1 : XS P n ops Q B f l i L M) (h2 : XS P n ops Q B f l j L M) : XQ P n ops Q B (f + 1) l L M := by
  intro hc a w ha hw hJ
  refine ⟨hJ, fun h0 => (by rw [hk] at h0; cases h0), fun x hx => ?_⟩
  have hx' := hx
  rw [hk] at hx'
  rcases List.mem_cons.1 hx' with rfl | hx'
  · exact h1 hx hc a w ha hw hJ
  · obtain rfl := List.mem_singleton.1 hx'
    exact h2 hx hc a w ha hw hJ
theorem XS.step {o : Oper} {M : World → Prop} (ho : ops[i]? = some o) (hg : o.guard = none)
    (h : Closed ops (l.setIfInBounds i true) → ∀ a w, Sat n L a → M w → JL B l w → o.wp P a w (wpJ P ops Q B f (l.setIfInBounds i true)) (nrm Q)) : XS P n ops Q B f l i L M := by
  intro hr hc a w ha hw hJ
  unfold wpOp
  simp only [ho]
  rw [if_pos (by simp [Region.wanted, hg])]
  exact .inl (h (closed_set hc hr) a w ha hw hJ)
theorem XS.call {W : World} {S : Nat → Nat → Prop} {H : List Ent} {g : FuncId} {xs : List Operand} {vs : List Value} {ats : Array TypeId} {pre F : List Ent} {post : Value → List Ent → Prop}
    (ho : ops[i]? = some ⟨some d, .call ⟨.value (.func g), xs.toArray, ats⟩, ty, pos, af, none⟩) (hl : l.setIfInBounds i true = l') (he : evs L xs = some vs) (hs : Spec P g vs pre post) (hp : Pick H pre F)
    (hc : callable P g = true) (hd : Nat.blt d n.sz = true) (hob : ∀ v H1, post v H1 → ∀ w, XM W S (H1 ++ F) w → JL B l' w)
    (h : ∀ v H1, post v H1 → XQ P n ops Q B f l' ((d, v) :: L) (XM W S (H1 ++ F))) : XS P n ops Q B f l i L (XM W S H) := by
  subst hl
  refine XS.step ho rfl fun hcl a w ha hw hJ => ?_
  unfold Oper.wp
  rw [run_call hc (evs_eval ha xs vs he)]
  show Calls P g vs.toArray w _
  refine (hs w (hw.pick hp).good).mono ?_
  rintro e w' ⟨v, H1, rfl, hpost, hwr, hx⟩
  have hx' := hw.called hp hx (fun e he => List.all_eq_true.1 hwr e he)
  exact h v H1 hpost hcl _ _ (ha.put hd v) hx' (hob v H1 hpost _ hx')
theorem XS.allocZ {W : World} {S : Nat → Nat → Prop} {H : List Ent} {t : TypeId} {z : Value} {m : Nat} {C : Nat → Value} (ho : ops[i]? = some ⟨some d, .alloc t, ty, pos, af, none⟩) (hl : l.setIfInBounds i true = l')
    (hz : zeroOf P t = some z) (hm : z.cells.size = m) (hC : ∀ i, i < m → cellsOf z.cells i = C i) (hd : Nat.blt d n.sz = true) (hob : ∀ b w, XM W S (.cells b 0 m C :: H) w → JL B l' w)
    (h : ∀ b, XQ P n ops Q B f l' ((d, ptr b 0 0) :: L) (XM W S (.cells b 0 m C :: H))) : XS P n ops Q B f l i L (XM W S H) := by
  subst hl
  refine XS.step ho rfl fun hcl a w ha hw hJ => ?_
  have hx := hw.alloc z.cells t C (fun i hi => by rw [cellsOf_spec _ _ hi, hC i (hm ▸ hi)])
  rw [hm] at hx
  unfold Oper.wp
  have : (execOp a.eval ⟨some d, .alloc t, ty, pos, af, none⟩).run P w = .ok (.value (ptr w.heap.size 0 0)) (w.alloc (.cells z.cells t)) := by
    simp [execOp, Instr.alloc, run_zeroValue hz, newVar, newRow, newObj, Sem.run, ptr]
  rw [this]
  exact h _ hcl _ _ (ha.put hd _) hx (hob _ _ hx)
theorem XS.g {op : Op} {M : World → Prop} {α : Type} {G : α → Prop} {val : α → Value} {M' : α → World → Prop} (ho : ops[i]? = some ⟨some d, op, ty, pos, af, none⟩) (hl : l.setIfInBounds i true = l')
    (hr : RunsG P n L M ⟨some d, op, ty, pos, af, none⟩ G val M') (hd : Nat.blt d n.sz = true) (hob : ∀ x w, M' x w → JL B l' w)
    (h : ∀ x, G x → XQ P n ops Q B f l' ((d, val x) :: L) (M' x)) : XS P n ops Q B f l i L M := by
  subst hl
  refine XS.step ho rfl fun hcl a w ha hw hJ => ?_
  obtain ⟨x, w', hg, h1, h2⟩ := hr a w ha hw
  unfold Oper.wp
  rw [h1]
  exact h x hg hcl _ _ (ha.put hd _) h2 (hob x _ h2)
end
end Go.X
