import Derived.Test.YthdinakloheinaaGreatDoorXMore
import Derived.Test.YthdinakloheinaaGreatDoorXFam
import Derived.Laws.StructEq
import Derived.Test.YthdinakloheinaaGreatDoorXBytes
namespace Go.X
open Go
/-! ### views of rows: slices cut short with their capacity -/
section
variable {P : Program} {n : Fr} {Q : Exit → Act → World → Prop} {L : PF} {ops : Md} {rest : List Oper} {op : Op} {ty : TypeId} {pos : String} {af : Array Edge} {d : Nat}
variable {W : World} {S : Nat → Nat → Prop} {H H' : List Ent} {M : World → Prop} {α : Type}
/-- what an operation brings about -/
def RunsG (P : Program) (n : Fr) (L : PF) (M : World → Prop) (o : Oper) (G : α → Prop) (val : α → Value) (M' : α → World → Prop) : Prop :=
  ∀ a w, Sat n L a → M w → ∃ x w', G x ∧ (execOp a.eval o).run P w = .ok (.value (val x)) w' ∧ M' x w'
theorem XO.g {G : α → Prop} {val : α → Value} {M' : α → World → Prop} (hr : RunsG P n L M ⟨some d, op, ty, pos, af, none⟩ G val M') (hd : (Nat.blt d n.sz && isE op) = true)
    (h : ∀ x, G x → XO P n ops Q rest ((d, val x) :: L) (M' x)) : XO P n ops Q (⟨some d, op, ty, pos, af, none⟩ :: rest) L M :=
  XO.op (by simp only [Bool.and_eq_true] at hd; simp [hd.2]) fun a w ha hw => by
    simp only [Bool.and_eq_true] at hd
    obtain ⟨x, w', hg, h1, h2⟩ := hr a w ha hw
    unfold Oper.wp
    rw [h1]
    exact h x hg _ _ (ha.put hd.1 _) h2


theorem newsOf_app (C C1 : Nat → Value) (a b : Nat) : newsOf C a ++ newsOf C1 b = newsOf (fun i => if i < a then C i else C1 (i - a)) (a + b) := by
  apply List.ext_getElem?
  intro j
  by_cases hj : j < a
  · rw [List.getElem?_append_left (by rw [newsOf_length]; exact hj), newsOf_at hj, newsOf_at (by omega), if_pos hj]
  · by_cases hj2 : j < a + b
    · rw [List.getElem?_append_right (by rw [newsOf_length]; omega), newsOf_length, newsOf_at (by omega), newsOf_at hj2, if_neg hj]
    · rw [List.getElem?_eq_none (by simp [newsOf_length]; omega), List.getElem?_eq_none (by simp [newsOf_length]; omega)]
theorem cells_news {w : World} {b N : Nat} {C : Nat → Value} (hc : (Ent.cells b 0 N C).holds w) : ∀ j u, (newsOf C N)[j]? = some u → w.cell? ((⟨b, 0, none⟩ : Addr).add j) = some u := fun j u hj => by
  have hlt : j < N := by
    have := (List.getElem?_eq_some_iff.1 hj).1
    rwa [newsOf_length] at this
  rw [newsOf_at hlt] at hj
  simp only [Option.some.injEq] at hj
  have hcc := cell_of_holds hc hlt
  have e0 : (⟨b, 0, none⟩ : Addr).add j = ⟨b, 0 + j, none⟩ := by cases j <;> simp [Addr.add]
  rw [e0, ← hj]; exact hcc

/-- a slice, and the row that it looks at -/
structure RV where
  p : Option Addr
  cap : Nat
  k : Nat
  len : Nat
  c : Nat
  C : Nat → Value
abbrev RV.ent (v : RV) (e : TypeId) (sz : Nat) : Ent := frow v.p v.cap e sz v.k v.C
abbrev RV.val (v : RV) : Value := .slice v.p v.len v.c
def RV.ok (v : RV) : Prop := (v.len = v.k ∧ v.c = v.cap) ∨ (v.c = v.len ∧ v.len ≤ v.k)
theorem RV.ok_le {v : RV} (h : v.ok) : v.len ≤ v.k := by rcases h with h | h <;> omega
/-- a new block, with a row in front -/
theorem grown_row {P : Program} {w : World} {e : TypeId} {sz : Nat} {i : TypeInfo} {z : Value} {xs : List Value} {k old : Nat} (hsize : i.size = sz) (hzs : z.cells.size = sz) (hl : xs.length = k * sz) (hmax : k ≤ maxLen) :
    (Ent.row (.slice (some ⟨w.heap.size, 0, none⟩) k (grownCap w k old e)) e sz k xs).holds (w.drew.alloc (.cells (xs.toArray ++ Builtin.zeroCells z.cells (grownCap w k old e - k)) e)) := by
  have hge := grownCap_ge w k old e
  have hcm : grownCap w k old e ≤ maxLen := grownCap_le_maxLen w k old e hmax
  refine ⟨hl, .inr ⟨w.heap.size, _, _, rfl, Nat.zero_le _, heap_alloc_new w.drew _, hge, hcm, ?_, ?_⟩⟩
  · simp only [Array.size_append, List.size_toArray, size_zeroCells, hzs, hl, ← Nat.add_mul]
    congr 1
    omega
  · simp only [Array.toList_append]
    rw [← hl]
    exact List.take_left
theorem frow_reads {w : World} {g cap sz k m : Nat} {e : TypeId} {C : Nat → Value} (h : (frow (some ⟨g, 0, none⟩) cap e sz k C).holds w) (hm : m ≤ k) (o : Nat) (ho : o + m * sz ≤ k * sz) :
    ∀ j u, (newsOf (fun i => C (o + i)) (m * sz))[j]? = some u → w.cell? ((⟨g, o, none⟩ : Addr).add j) = some u := fun j u hj => by
  have hlt : j < m * sz := by
    have := (List.getElem?_eq_some_iff.1 hj).1
    rwa [newsOf_length] at this
  rw [newsOf_at hlt] at hj
  simp only [Option.some.injEq] at hj
  have e0 : (⟨g, o, none⟩ : Addr).add j = ⟨g, o + j, none⟩ := by cases j <;> simp [Addr.add]
  rw [e0, ← hj]
  exact frow_cell h (by omega)
theorem keep_fresh (w : World) (o : Obj) (S : Nat → Nat → Prop) : Keep w (w.drew.alloc o) S := keep_drew (keep_alloc w.drew o S)
/-- an item put behind a view -/
theorem RG.append {t e : TypeId} {x y : Operand} {v : RV} {m c2 b N sz : Nat} {C1 : Nat → Value} (hv : v.ok) (hx : ev L x = some v.val) (hy : ev L y = some (.slice (some ⟨b, 0, none⟩) m c2)) (ht : P.underlying t = some (.slice e)) (hr : rowT P e sz = true)
    (hH : Del H (v.ent e sz) H') (hN : Has H (.cells b 0 N C1)) (hNm : N = m * sz) (h1 : (newsOf C1 N).all one = true) (hm : 0 < m) (hk : v.len + m ≤ 100000000000) :
    RunsG P n L (XM W S H) ⟨some d, .call ⟨.builtin .append, #[x, y], #[t, t]⟩, ty, pos, af, none⟩ (fun u : RV => u.ok ∧ u.len = v.len + m ∧ (∀ i, i < v.len * sz → u.C i = v.C i) ∧ ∀ i, i < m * sz → u.C (v.len * sz + i) = C1 i)
      (fun u => u.val) (fun u => XM W S (u.ent e sz :: H')) := fun a w ha hw => by
  have hc : (Ent.cells b 0 N C1).holds w := hw.good.1 _ hN.mem
  have hrow : (v.ent e sz).holds w := hw.good.1 _ (hH.perm.mem_iff.2 (by simp))
  obtain ⟨p, cap, k, len, c, C⟩ := v
  simp only [RV.ok, RV.val, RV.ent] at *
  have fin : ∀ (p' : Option Addr) (cap' : Nat) (w' : World), (Builtin.append_ #[t, t] ty #[.slice p len c, .slice (some ⟨b, 0, none⟩) m c2]).run P w = .ok (.slice p' (len + m) cap') w' →
      XM W S (.row (.slice p' (len + m) cap') e sz (len + m) (newsOf C (len * sz) ++ newsOf C1 N) :: H') w' → ∃ (u : RV) (w' : World), (u.ok ∧ u.len = len + m ∧ (∀ i, i < len * sz → u.C i = C i) ∧ ∀ i, i < m * sz → u.C (len * sz + i) = C1 i) ∧
        (execOp a.eval ⟨some d, .call ⟨.builtin .append, #[x, y], #[t, t]⟩, ty, pos, af, none⟩).run P w = .ok (.value u.val) w' ∧ XM W S (u.ent e sz :: H') w' := fun p' cap' w' h3 h4 => by
    refine ⟨⟨p', cap', len + m, len + m, cap', fun i => if i < len * sz then C i else C1 (i - len * sz)⟩, w', ⟨.inl ⟨rfl, rfl⟩, rfl, fun i hi => if_pos hi, fun i _ => ?_⟩, ?_, ?_⟩
    · show (if len * sz + i < len * sz then _ else _) = _
      rw [if_neg (by omega), Nat.add_sub_cancel_left]
    · simp [execOp, resolve, invoke, builtin, ev_eval ha hx, ev_eval ha hy, h3]
    · rw [newsOf_app, hNm, ← Nat.add_mul] at h4
      exact h4
  have full : len = k → c = cap → ∃ (u : RV) (w' : World), (u.ok ∧ u.len = len + m ∧ (∀ i, i < len * sz → u.C i = C i) ∧ ∀ i, i < m * sz → u.C (len * sz + i) = C1 i) ∧
        (execOp a.eval ⟨some d, .call ⟨.builtin .append, #[x, y], #[t, t]⟩, ty, pos, af, none⟩).run P w = .ok (.value u.val) w' ∧ XM W S (u.ent e sz :: H') w' := fun e1 e2 => by
    subst e1; subst e2
    obtain ⟨p', cap', w', h3, h4, h5, h6⟩ := run_append_row (ty := ty) (c := c2) (b := b) (news := newsOf C1 N) ht hr hrow hm (by rw [newsOf_length, hNm]) (cells_news hc) (fun u hu => oneCell_of (List.all_eq_true.1 h1 u hu)) hk
    exact fin p' cap' w' h3 (hw.write hH rfl h6 h5 h4)
  rcases hv with ⟨h1', h2'⟩ | ⟨h1', h2'⟩
  · exact full h1' h2'
  · rcases hrow.2 with ⟨hv, h0⟩ | ⟨g, cap', cur, hv, _⟩
    · simp only [Value.slice.injEq] at hv
      exact full (by omega) (by omega)
    · simp only [Value.slice.injEq, true_and] at hv
      obtain ⟨rfl, rfl⟩ := hv
      obtain ⟨i, z, hi, hz, hsize, hby, hzs, hsz⟩ := rowT_spec hr
      have hmax : len + m ≤ maxLen := by simp only [maxLen]; omega
      have hbytes : (len + m) * i.bytes ≤ 140737488355328 := Nat.le_trans (Nat.mul_le_mul hk hby) (by omega)
      have hle : len * sz ≤ k * sz := Nat.mul_le_mul_right _ h2'
      have hr2 := run_append_grow (P := P) w t ty e i z ht hi hz ⟨g, 0, none⟩ len c (newsOf C (len * sz)) (by rw [newsOf_length, hsize]) (fun j u hj => by
        have hlt : j < len * sz := by
          have := (List.getElem?_eq_some_iff.1 hj).1
          rwa [newsOf_length] at this
        exact frow_reads hrow h2' 0 (by omega) j u (by
          rw [newsOf_at hlt] at hj ⊢
          simpa using hj)) ⟨b, 0, none⟩ m c2 (newsOf C1 N) (by rw [newsOf_length, hNm, hsize]) (cells_news hc) (by omega) (by simp only [maxLen] at hmax; omega) (growslice_fits (by omega) hbytes)
      refine fin _ _ _ hr2 ?_
      have hg := grown_row (P := P) (w := w) (e := e) (sz := sz) (i := i) (z := z) (xs := newsOf C (len * sz) ++ newsOf C1 N) (k := len + m) (old := c) hsize hzs (by rw [List.length_append, newsOf_length, newsOf_length, hNm, Nat.add_mul]) hmax
      have e3 : (newsOf C (len * sz) ++ newsOf C1 N).toArray = (newsOf C (len * sz)).toArray ++ (newsOf C1 N).toArray := by simp
      rw [e3] at hg
      exact hw.write hH rfl (fun b' o hb => .inr (by simp only [Ent.area, Value.ownBlock, Option.some.injEq] at hb; omega)) (keep_fresh w _ _) hg
/-- a copy of a view -/
theorem RG.clone {t e : TypeId} {y : Operand} {v : RV} {sz : Nat} (hv : v.ok) (hy : ev L y = some v.val) (ht : P.underlying t = some (.slice e)) (hr : rowT P e sz = true) (hH : Has H (v.ent e sz)) (hk : v.len ≤ 100000000000) :
    RunsG P n L (XM W S H) ⟨some d, .call ⟨.builtin .append, #[.const (.slice none 0 0), y], #[t, t]⟩, ty, pos, af, none⟩ (fun u : RV => u.ok ∧ u.len = v.len ∧ ∀ i, i < v.len * sz → u.C i = v.C i)
      (fun u => u.val) (fun u => XM W S (u.ent e sz :: H)) := fun a w ha hw => by
  have hrow : (v.ent e sz).holds w := hw.good.1 _ hH.mem
  obtain ⟨p, cap, k, len, c, C⟩ := v
  simp only [RV.ok, RV.val, RV.ent] at *
  have hc : a.eval (.const (.slice none 0 0)) = .slice none 0 0 := rfl
  obtain ⟨i, z, hi, hz, hsize, hby, hzs, hsz⟩ := rowT_spec hr
  by_cases h0 : len = 0
  · subst h0
    refine ⟨⟨none, 0, 0, 0, 0, C⟩, w, ⟨.inl ⟨rfl, rfl⟩, rfl, fun i hi => rfl⟩, ?_, ?_⟩
    · have h3 : (Builtin.append_ #[t, t] ty #[.slice none 0 0, .slice p 0 c]).run P w = .ok (.slice none 0 0) w := by
        cases p <;> simp [Builtin.append_, run_underlying ht, Builtin.lenOf, Builtin.firstCells, loadCells, loadCellsFrom, sizeOf, run_typeInfo hi, hi]
      simp [execOp, resolve, invoke, builtin, ev_eval ha hy, hc, h3]
    · have := hw.nilRow e sz
      simpa [frow, newsOf] using this
  · have hlk : len ≤ k := by omega
    rcases hrow.2 with ⟨hv2, h0'⟩ | ⟨g, cap', cur, hv2, _⟩
    · omega
    · simp only [Value.slice.injEq, true_and] at hv2
      obtain ⟨rfl, rfl⟩ := hv2
      have hmax : len ≤ maxLen := by simp only [maxLen]; omega
      have hbytes : len * i.bytes ≤ 140737488355328 := Nat.le_trans (Nat.mul_le_mul hk hby) (by omega)
      have hle : len * sz ≤ k * sz := Nat.mul_le_mul_right _ hlk
      have hr2 := run_append_nil (P := P) w t ty e i z ht hi hz ⟨g, 0, none⟩ len c (newsOf C (len * sz)) (by rw [newsOf_length, hsize]) (fun j u hj => by
        have hlt : j < len * sz := by
          have := (List.getElem?_eq_some_iff.1 hj).1
          rwa [newsOf_length] at this
        exact frow_reads hrow hlk 0 (by omega) j u (by
          rw [newsOf_at hlt] at hj ⊢
          simpa using hj)) (by omega) (by simp only [maxLen] at hmax; omega) (by omega)
      have hg := grown_row (P := P) (w := w) (e := e) (sz := sz) (i := i) (z := z) (xs := newsOf C (len * sz)) (k := len) (old := 0) hsize hzs (by rw [newsOf_length]) hmax
      refine ⟨⟨some ⟨w.heap.size, 0, none⟩, grownCap w len 0 e, len, len, grownCap w len 0 e, C⟩, w.drew.alloc (.cells ((newsOf C (len * sz)).toArray ++ Builtin.zeroCells z.cells (grownCap w len 0 e - len)) e), ⟨.inl ⟨rfl, rfl⟩, rfl, fun i hi => rfl⟩, ?_, ?_⟩
      · simp [execOp, resolve, invoke, builtin, ev_eval ha hy, hc, hr2]
      · exact hw.fresh (fun b o hb => by simp only [Ent.area, Value.ownBlock, Option.some.injEq] at hb; omega) (keep_fresh w _ _) hg
/-- one taken out of a view: append(v[:i:i], v[i+1:]...) -/
theorem RG.cut {t e : TypeId} {x y : Operand} {g cap k len c : Nat} {C : Nat → Value} {i q sz : Nat} (hv : RV.ok ⟨some ⟨g, 0, none⟩, cap, k, len, c, C⟩) (hi : i < len) (hx : ev L x = some (.slice (some ⟨g, 0, none⟩) i i))
    (hy : ev L y = some (.slice (some ⟨g, if c = i + 1 then 0 else (i + 1) * sz, none⟩) (len - (i + 1)) q)) (ht : P.underlying t = some (.slice e)) (hr : rowT P e sz = true) (hH : Del H (frow (some ⟨g, 0, none⟩) cap e sz k C) H') (hk : len ≤ 100000000000) :
    RunsG P n L (XM W S H) ⟨some d, .call ⟨.builtin .append, #[x, y], #[t, t]⟩, ty, pos, af, none⟩ (fun u : RV => u.ok ∧ u.len = len - 1 ∧ (∀ j, j < i * sz → u.C j = C j) ∧ ∀ j, i * sz ≤ j → j < (len - 1) * sz → u.C j = C (j + sz))
      (fun u => u.val) (fun u => XM W S (u.ent e sz :: H')) := fun a w ha hw => by
  have hrow : (frow (some ⟨g, 0, none⟩) cap e sz k C).holds w := hw.good.1 _ (hH.perm.mem_iff.2 (by simp))
  have hv : (len = k ∧ c = cap) ∨ (c = len ∧ len ≤ k) := hv
  obtain ⟨ii, z, hii, hz, hsize, hby, hzs, hsz⟩ := rowT_spec hr
  by_cases hl : len = i + 1
  · subst hl
    refine ⟨⟨some ⟨g, 0, none⟩, cap, k, i, i, C⟩, w, ⟨.inr ⟨rfl, show i ≤ k by omega⟩, by simp, fun j _ => rfl, fun j h1 h2 => by simp at h2; omega⟩, ?_, ?_⟩
    · have h3 : ∀ o, (Builtin.append_ #[t, t] ty #[.slice (some ⟨g, 0, none⟩) i i, .slice (some ⟨g, o, none⟩) 0 q]).run P w = .ok (.slice (some ⟨g, 0, none⟩) i i) w := fun o => by
        simp [Builtin.append_, run_underlying ht, Builtin.lenOf, Builtin.firstCells, loadCells, loadCellsFrom, storeCells, sizeOf, run_typeInfo hii, hii]
      rw [Nat.sub_self] at hy
      simp [execOp, resolve, invoke, builtin, ev_eval ha hx, ev_eval ha hy, h3]
    · exact hw.perm hH.perm
  · have hlk : len ≤ k := by omega
    have hcl : len ≤ c := by
      have := frow_len hrow
      omega
    have hmax : len - 1 ≤ maxLen := by simp only [maxLen]; omega
    have hbytes : (len - 1) * ii.bytes ≤ 140737488355328 := Nat.le_trans (Nat.mul_le_mul (show len - 1 ≤ 100000000000 by omega) hby) (by omega)
    have hle : len * sz ≤ k * sz := Nat.mul_le_mul_right _ hlk
    have hle2 : i * sz ≤ len * sz := Nat.mul_le_mul_right _ (by omega)
    have e1 : (len - (i + 1)) * sz + (i + 1) * sz = len * sz := by rw [← Nat.add_mul]; congr 1; omega
    have e2 : i * sz + (len - (i + 1)) * sz = (len - 1) * sz := by rw [← Nat.add_mul]; congr 1; omega
    have e4 : (i + 1) * sz = i * sz + sz := by rw [Nat.add_mul, Nat.one_mul]
    rw [if_neg (by omega)] at hy
    have hr2 := run_append_grow (P := P) w t ty e ii z ht hii hz ⟨g, 0, none⟩ i i (newsOf C (i * sz)) (by rw [newsOf_length, hsize]) (fun j u hj => by
      have hlt : j < i * sz := by
        have := (List.getElem?_eq_some_iff.1 hj).1
        rwa [newsOf_length] at this
      exact frow_reads hrow (show i ≤ k by omega) 0 (by omega) j u (by
        rw [newsOf_at hlt] at hj ⊢
        simpa using hj)) ⟨g, (i + 1) * sz, none⟩ (len - (i + 1)) q (newsOf (fun j => C ((i + 1) * sz + j)) ((len - (i + 1)) * sz)) (by rw [newsOf_length, hsize])
        (frow_reads hrow (show len - (i + 1) ≤ k by omega) ((i + 1) * sz) (by omega)) (by omega) (by simp only [maxLen] at hmax; omega) (growslice_fits (by omega) (by rw [show i + (len - (i + 1)) = len - 1 by omega]; exact hbytes))
    rw [show i + (len - (i + 1)) = len - 1 by omega] at hr2
    have hg := grown_row (P := P) (w := w) (e := e) (sz := sz) (i := ii) (z := z) (xs := newsOf C (i * sz) ++ newsOf (fun j => C ((i + 1) * sz + j)) ((len - (i + 1)) * sz)) (k := len - 1) (old := i) hsize hzs (by rw [List.length_append, newsOf_length, newsOf_length, e2]) hmax
    have e3 : (newsOf C (i * sz) ++ newsOf (fun j => C ((i + 1) * sz + j)) ((len - (i + 1)) * sz)).toArray = (newsOf C (i * sz)).toArray ++ (newsOf (fun j => C ((i + 1) * sz + j)) ((len - (i + 1)) * sz)).toArray := by simp
    rw [e3] at hg
    have hx2 := hw.write hH rfl (fun b' o hb => .inr (by simp only [Ent.area, Value.ownBlock, Option.some.injEq] at hb; omega)) (keep_fresh w _ _) hg
    rw [newsOf_app, e2] at hx2
    have fin : ∀ (v9 : Value) (w9 : World), (Builtin.append_ #[t, t] ty #[.slice (some ⟨g, 0, none⟩) i i, .slice (some ⟨g, (i + 1) * sz, none⟩) (len - (i + 1)) q]).run P w = .ok v9 w9 → (execOp a.eval ⟨some d, .call ⟨.builtin .append, #[x, y], #[t, t]⟩, ty, pos, af, none⟩).run P w = .ok (.value v9) w9 := fun v9 w9 h9 => by
      simp [execOp, resolve, invoke, builtin, ev_eval ha hx, ev_eval ha hy, h9]
    refine ⟨⟨_, _, len - 1, len - 1, _, fun j => if j < i * sz then C j else C ((i + 1) * sz + (j - i * sz))⟩, _, ⟨.inl ⟨rfl, rfl⟩, rfl, fun j hj => if_pos hj, fun j h1 h2 => ?_⟩, ?_, hx2⟩
    · show (if j < i * sz then _ else _) = _
      rw [if_neg (by omega)]
      congr 1
      omega
    · exact fin _ _ hr2
/-- a new variable -/
theorem RG.box {t : TypeId} {x : Operand} {v : Value} {m : Nat} {C : Nat → Value} (hx : ev L x = some v) (hm : v.cells.size = m) (hC : ∀ i, i < m → cellsOf v.cells i = C i) :
    RunsG P n L (XM W S H) ⟨some d, .box t x, ty, pos, af, none⟩ (fun _ : Nat => True) (fun b => ptr b 0 0) (fun b => XM W S (.cells b 0 m C :: H)) := fun a w ha hw => by
  have hx' := hw.alloc v.cells t C (fun i hi => by rw [cellsOf_spec _ _ hi, hC i (hm ▸ hi)])
  rw [hm] at hx'
  exact ⟨_, _, trivial, by simp [execOp, ev_eval ha hx, Instr.box, newVar, newRow, newObj, Sem.run, ptr], hx'⟩
/-- a slice of what is told -/
theorem RG.build {t e : TypeId} {parts : Array (Nat × Operand)} {vs : Array (Nat × Value)} {k m : Nat} {A : Array Value} (hp : parts.toList.mapM (fun x => (ev L x.2).map fun u => (x.1, u)) = some vs.toList)
    (hb : ∀ w, (Instr.buildSlice t k vs).run P w = .ok (.slice (some ⟨w.heap.size, 0, none⟩) k k) (w.alloc (.cells A e))) (hA : A.size = m) :
    RunsG P n L (XM W S H) ⟨some d, .buildSlice t k parts, ty, pos, af, none⟩ (fun _ : Nat => True) (fun b => .slice (some ⟨b, 0, none⟩) k k) (fun b => XM W S (.cells b 0 m (cellsOf A) :: H)) := fun a w ha hw => by
  have hx' := hw.alloc A e (cellsOf A) (fun i hi => cellsOf_spec _ _ hi)
  rw [hA] at hx'
  have hv : parts.map (fun (i, x) => (i, a.eval x)) = vs := by
    apply Array.toList_inj.1
    rw [Array.toList_map]
    exact mapM_parts ha _ _ hp
  exact ⟨_, _, trivial, by simp only [execOp, hv, Sem.run_bind, hb, Result.andThen_ok, Sem.run_pure], hx'⟩
/-! ### structs of two ints, held against one another -/
def okF2 (P : Program) (f : Field) (o : Nat) : Bool := (match P.underlying f.type with
  | some (.int _) => Nat.beq f.offset o
  | _ => false) && !(f.name == "_")
def two (P : Program) (t : TypeId) : Bool := match (P.fieldsOf t).toList with
  | [f, g] => okF2 P f 0 && okF2 P g 1
  | _ => false
theorem XO.rowLen {p : Option Addr} {k cap sz : Nat} {e : TypeId} {xs : List Value} (hH : Has H (.row (.slice p k cap) e sz k xs))
    (h : k ≤ cap → XO P n ops Q rest L (XM W S H)) : XO P n ops Q rest L (XM W S H) := fun a w ha hw => h (frow_len (hw.good.1 _ hH.mem)) a w ha hw
end
end Go.X

namespace Go.X
open Go
section
variable {P : Program} {n : Fr} {Q : Exit → Act → World → Prop} {L : PF} {ops : Array Oper} {rest : List Oper} {op : Op} {ty : TypeId} {pos : String} {af : Array Edge} {d : Nat}
variable {W : World} {S : Nat → Nat → Prop} {H H' : List Ent} {M : World → Prop} {α : Type}
theorem XQ.g {G : α → Prop} {val : α → Value} {M' : α → World → Prop} {B : Obl} {f i : Nat} {l l' : Array Bool} (ho : ops[i]? = some ⟨some d, op, ty, pos, af, none⟩) (hk : Region.ready .any ops l = [i]) (hl : l.setIfInBounds i true = l')
    (hr : RunsG P n L M ⟨some d, op, ty, pos, af, none⟩ G val M') (hd : Nat.blt d n.sz = true) (hob : ∀ x w, M' x w → JL B l' w)
    (h : ∀ x, G x → XQ P n ops Q B f l' ((d, val x) :: L) (M' x)) : XQ P n ops Q B (f + 1) l L M := by
  subst hl
  refine XQ.step ho rfl hk fun hcl a w ha hw hJ => ?_
  obtain ⟨x, w', hg, h1, h2⟩ := hr a w ha hw
  unfold Oper.wp
  rw [h1]
  exact h x hg hcl _ _ (ha.put hd _) h2 (hob x _ h2)
theorem XQ.rowLen {p : Option Addr} {k cap sz f : Nat} {e : TypeId} {xs : List Value} {B : Obl} {l : Array Bool} (hH : Has H (.row (.slice p k cap) e sz k xs))
    (h : k ≤ cap → XQ P n ops Q B f l L (XM W S H)) : XQ P n ops Q B f l L (XM W S H) := fun hc a w ha hw hJ => h (frow_len (hw.good.1 _ hH.mem)) hc a w ha hw hJ
theorem XQ.openRow {p : Option Addr} {k cap sz f : Nat} {e : TypeId} {xs : List Value} {B : Obl} {l : Array Bool} (hH : Has H (.row (.slice p k cap) e sz k xs)) (hk : 0 < k)
    (h : ∀ g, p = some ⟨g, 0, none⟩ → XQ P n ops Q B f l L (XM W S H)) : XQ P n ops Q B f l L (XM W S H) := by
  intro hc a w ha hw hJ
  have hrow : (Ent.row (.slice p k cap) e sz k xs).holds w := hw.good.1 _ hH.mem
  rcases hrow.2 with ⟨hv, rfl⟩ | ⟨g, _, _, hv, _⟩
  · omega
  · simp only [Value.slice.injEq] at hv
    exact h g hv.1 hc a w ha hw hJ
end
/-! ### where two can come next -/
section
variable {P : Program} {n : Fr} {L : PF} {ops : Array Oper} {Q : Exit → Act → World → Prop} {ty : TypeId} {pos : String} {af : Array Edge} {d f i : Nat} {B : Obl} {l l' : Array Bool}
def XS (P : Program) (n : Fr) (ops : Array Oper) (Q : Exit → Act → World → Prop) (B : Obl) (f : Nat) (l : Array Bool) (i : Nat) (L : PF) (M : World → Prop) : Prop :=
  i ∈ Region.ready .any ops l → Closed ops l → ∀ a w, Sat n L a → M w → JL B l w → wpOp P ops (nrm Q) i (wpJ P ops Q B f (l.setIfInBounds i true)) a w
theorem XQ.fork {i j : Nat} {M : World → Prop} (hk : Region.ready .any ops l = [i, j]) (h1 : XS P n ops Q B f l i L M) (h2 : XS P n ops Q B f l j L M) : XQ P n ops Q B (f + 1) l L M := by
  intro hc a w ha hw hJ
  refine ⟨hJ, fun h0 => (by rw [hk] at h0; cases h0), fun x hx => ?_⟩
  have hx' := hx
  rw [hk] at hx'
  rcases List.mem_cons.1 hx' with rfl | hx'
  · exact h1 hx hc a w ha hw hJ
  · obtain rfl := List.mem_singleton.1 hx'
    exact h2 hx hc a w ha hw hJ
theorem XS.step {o : Oper} {M : World → Prop} (ho : ops[i]? = some o) (hg : o.guard = none)
    (h : Closed ops (l.setIfInBounds i true) → ∀ a w, Sat n L a → M w → JL B l w → o.wp P a w (wpJ P ops Q B f (l.setIfInBounds i true)) (nrm Q)) : XS P n ops Q B f l i L M := by
  intro hr hc a w ha hw hJ
  unfold wpOp
  simp only [ho]
  rw [if_pos (by simp [Region.wanted, hg])]
  exact .inl (h (closed_set hc hr) a w ha hw hJ)
theorem XS.call {W : World} {S : Nat → Nat → Prop} {H : List Ent} {g : FuncId} {xs : List Operand} {vs : List Value} {ats : Array TypeId} {pre F : List Ent} {post : Value → List Ent → Prop}
    (ho : ops[i]? = some ⟨some d, .call ⟨.value (.func g), xs.toArray, ats⟩, ty, pos, af, none⟩) (hl : l.setIfInBounds i true = l') (he : evs L xs = some vs) (hs : Spec P g vs pre post) (hp : Pick H pre F)
    (hc : callable P g = true) (hd : Nat.blt d n.sz = true) (hob : ∀ v H1, post v H1 → ∀ w, XM W S (H1 ++ F) w → JL B l' w)
    (h : ∀ v H1, post v H1 → XQ P n ops Q B f l' ((d, v) :: L) (XM W S (H1 ++ F))) : XS P n ops Q B f l i L (XM W S H) := by
  subst hl
  refine XS.step ho rfl fun hcl a w ha hw hJ => ?_
  unfold Oper.wp
  rw [run_call hc (evs_eval ha xs vs he)]
  show Calls P g vs.toArray w _
  refine (hs w (hw.pick hp).good).mono ?_
  rintro e w' ⟨v, H1, rfl, hpost, hwr, hx⟩
  have hx' := hw.called hp hx (fun e he => List.all_eq_true.1 hwr e he)
  exact h v H1 hpost hcl _ _ (ha.put hd v) hx' (hob v H1 hpost _ hx')
theorem XS.allocZ {W : World} {S : Nat → Nat → Prop} {H : List Ent} {t : TypeId} {z : Value} {m : Nat} {C : Nat → Value} (ho : ops[i]? = some ⟨some d, .alloc t, ty, pos, af, none⟩) (hl : l.setIfInBounds i true = l')
    (hz : zeroOf P t = some z) (hm : z.cells.size = m) (hC : ∀ i, i < m → cellsOf z.cells i = C i) (hd : Nat.blt d n.sz = true) (hob : ∀ b w, XM W S (.cells b 0 m C :: H) w → JL B l' w)
    (h : ∀ b, XQ P n ops Q B f l' ((d, ptr b 0 0) :: L) (XM W S (.cells b 0 m C :: H))) : XS P n ops Q B f l i L (XM W S H) := by
  subst hl
  refine XS.step ho rfl fun hcl a w ha hw hJ => ?_
  have hx := hw.alloc z.cells t C (fun i hi => by rw [cellsOf_spec _ _ hi, hC i (hm ▸ hi)])
  rw [hm] at hx
  unfold Oper.wp
  have : (execOp a.eval ⟨some d, .alloc t, ty, pos, af, none⟩).run P w = .ok (.value (ptr w.heap.size 0 0)) (w.alloc (.cells z.cells t)) := by
    simp [execOp, Instr.alloc, run_zeroValue hz, newVar, newRow, newObj, Sem.run, ptr]
  rw [this]
  exact h _ hcl _ _ (ha.put hd _) hx (hob _ _ hx)
theorem XS.g {op : Op} {M : World → Prop} {α : Type} {G : α → Prop} {val : α → Value} {M' : α → World → Prop} (ho : ops[i]? = some ⟨some d, op, ty, pos, af, none⟩) (hl : l.setIfInBounds i true = l')
    (hr : RunsG P n L M ⟨some d, op, ty, pos, af, none⟩ G val M') (hd : Nat.blt d n.sz = true) (hob : ∀ x w, M' x w → JL B l' w)
    (h : ∀ x, G x → XQ P n ops Q B f l' ((d, val x) :: L) (M' x)) : XS P n ops Q B f l i L M := by
  subst hl
  refine XS.step ho rfl fun hcl a w ha hw hJ => ?_
  obtain ⟨x, w', hg, h1, h2⟩ := hr a w ha hw
  unfold Oper.wp
  rw [h1]
  exact h x hg hcl _ _ (ha.put hd _) h2 (hob x _ h2)
end
end Go.X

namespace Go.X
open Go
/-! ### long frames -/
theorem Has.t13 {H : List Ent} {e : Ent} {x0 x1 x2 x3 x4 x5 x6 x7 x8 x9 x10 x11 x12 : Ent} (h : Has H e) : Has (x0 :: x1 :: x2 :: x3 :: x4 :: x5 :: x6 :: x7 :: x8 :: x9 :: x10 :: x11 :: x12 :: H) e := .there (.t12 h)
theorem Has.t14 {H : List Ent} {e : Ent} {x0 x1 x2 x3 x4 x5 x6 x7 x8 x9 x10 x11 x12 x13 : Ent} (h : Has H e) : Has (x0 :: x1 :: x2 :: x3 :: x4 :: x5 :: x6 :: x7 :: x8 :: x9 :: x10 :: x11 :: x12 :: x13 :: H) e := .there (.t13 h)
theorem Has.t15 {H : List Ent} {e : Ent} {x0 x1 x2 x3 x4 x5 x6 x7 x8 x9 x10 x11 x12 x13 x14 : Ent} (h : Has H e) : Has (x0 :: x1 :: x2 :: x3 :: x4 :: x5 :: x6 :: x7 :: x8 :: x9 :: x10 :: x11 :: x12 :: x13 :: x14 :: H) e := .there (.t14 h)
theorem Has.t16 {H : List Ent} {e : Ent} {x0 x1 x2 x3 x4 x5 x6 x7 x8 x9 x10 x11 x12 x13 x14 x15 : Ent} (h : Has H e) : Has (x0 :: x1 :: x2 :: x3 :: x4 :: x5 :: x6 :: x7 :: x8 :: x9 :: x10 :: x11 :: x12 :: x13 :: x14 :: x15 :: H) e := .there (.t15 h)
theorem Has.t17 {H : List Ent} {e : Ent} {x0 x1 x2 x3 x4 x5 x6 x7 x8 x9 x10 x11 x12 x13 x14 x15 x16 : Ent} (h : Has H e) : Has (x0 :: x1 :: x2 :: x3 :: x4 :: x5 :: x6 :: x7 :: x8 :: x9 :: x10 :: x11 :: x12 :: x13 :: x14 :: x15 :: x16 :: H) e := .there (.t16 h)
theorem Has.t18 {H : List Ent} {e : Ent} {x0 x1 x2 x3 x4 x5 x6 x7 x8 x9 x10 x11 x12 x13 x14 x15 x16 x17 : Ent} (h : Has H e) : Has (x0 :: x1 :: x2 :: x3 :: x4 :: x5 :: x6 :: x7 :: x8 :: x9 :: x10 :: x11 :: x12 :: x13 :: x14 :: x15 :: x16 :: x17 :: H) e := .there (.t17 h)
theorem Has.t19 {H : List Ent} {e : Ent} {x0 x1 x2 x3 x4 x5 x6 x7 x8 x9 x10 x11 x12 x13 x14 x15 x16 x17 x18 : Ent} (h : Has H e) : Has (x0 :: x1 :: x2 :: x3 :: x4 :: x5 :: x6 :: x7 :: x8 :: x9 :: x10 :: x11 :: x12 :: x13 :: x14 :: x15 :: x16 :: x17 :: x18 :: H) e := .there (.t18 h)
theorem Has.t20 {H : List Ent} {e : Ent} {x0 x1 x2 x3 x4 x5 x6 x7 x8 x9 x10 x11 x12 x13 x14 x15 x16 x17 x18 x19 : Ent} (h : Has H e) : Has (x0 :: x1 :: x2 :: x3 :: x4 :: x5 :: x6 :: x7 :: x8 :: x9 :: x10 :: x11 :: x12 :: x13 :: x14 :: x15 :: x16 :: x17 :: x18 :: x19 :: H) e := .there (.t19 h)
theorem Has.t21 {H : List Ent} {e : Ent} {x0 x1 x2 x3 x4 x5 x6 x7 x8 x9 x10 x11 x12 x13 x14 x15 x16 x17 x18 x19 x20 : Ent} (h : Has H e) : Has (x0 :: x1 :: x2 :: x3 :: x4 :: x5 :: x6 :: x7 :: x8 :: x9 :: x10 :: x11 :: x12 :: x13 :: x14 :: x15 :: x16 :: x17 :: x18 :: x19 :: x20 :: H) e := .there (.t20 h)
theorem Has.t22 {H : List Ent} {e : Ent} {x0 x1 x2 x3 x4 x5 x6 x7 x8 x9 x10 x11 x12 x13 x14 x15 x16 x17 x18 x19 x20 x21 : Ent} (h : Has H e) : Has (x0 :: x1 :: x2 :: x3 :: x4 :: x5 :: x6 :: x7 :: x8 :: x9 :: x10 :: x11 :: x12 :: x13 :: x14 :: x15 :: x16 :: x17 :: x18 :: x19 :: x20 :: x21 :: H) e := .there (.t21 h)
theorem Has.t23 {H : List Ent} {e : Ent} {x0 x1 x2 x3 x4 x5 x6 x7 x8 x9 x10 x11 x12 x13 x14 x15 x16 x17 x18 x19 x20 x21 x22 : Ent} (h : Has H e) : Has (x0 :: x1 :: x2 :: x3 :: x4 :: x5 :: x6 :: x7 :: x8 :: x9 :: x10 :: x11 :: x12 :: x13 :: x14 :: x15 :: x16 :: x17 :: x18 :: x19 :: x20 :: x21 :: x22 :: H) e := .there (.t22 h)
theorem Has.t24 {H : List Ent} {e : Ent} {x0 x1 x2 x3 x4 x5 x6 x7 x8 x9 x10 x11 x12 x13 x14 x15 x16 x17 x18 x19 x20 x21 x22 x23 : Ent} (h : Has H e) : Has (x0 :: x1 :: x2 :: x3 :: x4 :: x5 :: x6 :: x7 :: x8 :: x9 :: x10 :: x11 :: x12 :: x13 :: x14 :: x15 :: x16 :: x17 :: x18 :: x19 :: x20 :: x21 :: x22 :: x23 :: H) e := .there (.t23 h)
theorem Has.t25 {H : List Ent} {e : Ent} {x0 x1 x2 x3 x4 x5 x6 x7 x8 x9 x10 x11 x12 x13 x14 x15 x16 x17 x18 x19 x20 x21 x22 x23 x24 : Ent} (h : Has H e) : Has (x0 :: x1 :: x2 :: x3 :: x4 :: x5 :: x6 :: x7 :: x8 :: x9 :: x10 :: x11 :: x12 :: x13 :: x14 :: x15 :: x16 :: x17 :: x18 :: x19 :: x20 :: x21 :: x22 :: x23 :: x24 :: H) e := .there (.t24 h)
theorem Has.t26 {H : List Ent} {e : Ent} {x0 x1 x2 x3 x4 x5 x6 x7 x8 x9 x10 x11 x12 x13 x14 x15 x16 x17 x18 x19 x20 x21 x22 x23 x24 x25 : Ent} (h : Has H e) : Has (x0 :: x1 :: x2 :: x3 :: x4 :: x5 :: x6 :: x7 :: x8 :: x9 :: x10 :: x11 :: x12 :: x13 :: x14 :: x15 :: x16 :: x17 :: x18 :: x19 :: x20 :: x21 :: x22 :: x23 :: x24 :: x25 :: H) e := .there (.t25 h)
theorem Has.t27 {H : List Ent} {e : Ent} {x0 x1 x2 x3 x4 x5 x6 x7 x8 x9 x10 x11 x12 x13 x14 x15 x16 x17 x18 x19 x20 x21 x22 x23 x24 x25 x26 : Ent} (h : Has H e) : Has (x0 :: x1 :: x2 :: x3 :: x4 :: x5 :: x6 :: x7 :: x8 :: x9 :: x10 :: x11 :: x12 :: x13 :: x14 :: x15 :: x16 :: x17 :: x18 :: x19 :: x20 :: x21 :: x22 :: x23 :: x24 :: x25 :: x26 :: H) e := .there (.t26 h)
theorem Has.t28 {H : List Ent} {e : Ent} {x0 x1 x2 x3 x4 x5 x6 x7 x8 x9 x10 x11 x12 x13 x14 x15 x16 x17 x18 x19 x20 x21 x22 x23 x24 x25 x26 x27 : Ent} (h : Has H e) : Has (x0 :: x1 :: x2 :: x3 :: x4 :: x5 :: x6 :: x7 :: x8 :: x9 :: x10 :: x11 :: x12 :: x13 :: x14 :: x15 :: x16 :: x17 :: x18 :: x19 :: x20 :: x21 :: x22 :: x23 :: x24 :: x25 :: x26 :: x27 :: H) e := .there (.t27 h)
theorem Has.t29 {H : List Ent} {e : Ent} {x0 x1 x2 x3 x4 x5 x6 x7 x8 x9 x10 x11 x12 x13 x14 x15 x16 x17 x18 x19 x20 x21 x22 x23 x24 x25 x26 x27 x28 : Ent} (h : Has H e) : Has (x0 :: x1 :: x2 :: x3 :: x4 :: x5 :: x6 :: x7 :: x8 :: x9 :: x10 :: x11 :: x12 :: x13 :: x14 :: x15 :: x16 :: x17 :: x18 :: x19 :: x20 :: x21 :: x22 :: x23 :: x24 :: x25 :: x26 :: x27 :: x28 :: H) e := .there (.t28 h)
theorem Has.t30 {H : List Ent} {e : Ent} {x0 x1 x2 x3 x4 x5 x6 x7 x8 x9 x10 x11 x12 x13 x14 x15 x16 x17 x18 x19 x20 x21 x22 x23 x24 x25 x26 x27 x28 x29 : Ent} (h : Has H e) : Has (x0 :: x1 :: x2 :: x3 :: x4 :: x5 :: x6 :: x7 :: x8 :: x9 :: x10 :: x11 :: x12 :: x13 :: x14 :: x15 :: x16 :: x17 :: x18 :: x19 :: x20 :: x21 :: x22 :: x23 :: x24 :: x25 :: x26 :: x27 :: x28 :: x29 :: H) e := .there (.t29 h)
theorem Has.t31 {H : List Ent} {e : Ent} {x0 x1 x2 x3 x4 x5 x6 x7 x8 x9 x10 x11 x12 x13 x14 x15 x16 x17 x18 x19 x20 x21 x22 x23 x24 x25 x26 x27 x28 x29 x30 : Ent} (h : Has H e) : Has (x0 :: x1 :: x2 :: x3 :: x4 :: x5 :: x6 :: x7 :: x8 :: x9 :: x10 :: x11 :: x12 :: x13 :: x14 :: x15 :: x16 :: x17 :: x18 :: x19 :: x20 :: x21 :: x22 :: x23 :: x24 :: x25 :: x26 :: x27 :: x28 :: x29 :: x30 :: H) e := .there (.t30 h)
theorem Has.t32 {H : List Ent} {e : Ent} {x0 x1 x2 x3 x4 x5 x6 x7 x8 x9 x10 x11 x12 x13 x14 x15 x16 x17 x18 x19 x20 x21 x22 x23 x24 x25 x26 x27 x28 x29 x30 x31 : Ent} (h : Has H e) : Has (x0 :: x1 :: x2 :: x3 :: x4 :: x5 :: x6 :: x7 :: x8 :: x9 :: x10 :: x11 :: x12 :: x13 :: x14 :: x15 :: x16 :: x17 :: x18 :: x19 :: x20 :: x21 :: x22 :: x23 :: x24 :: x25 :: x26 :: x27 :: x28 :: x29 :: x30 :: x31 :: H) e := .there (.t31 h)
theorem Del.t13 {H H2 : List Ent} {e : Ent} {x0 x1 x2 x3 x4 x5 x6 x7 x8 x9 x10 x11 x12 : Ent} (h : Del H e H2) : Del (x0 :: x1 :: x2 :: x3 :: x4 :: x5 :: x6 :: x7 :: x8 :: x9 :: x10 :: x11 :: x12 :: H) e (x0 :: x1 :: x2 :: x3 :: x4 :: x5 :: x6 :: x7 :: x8 :: x9 :: x10 :: x11 :: x12 :: H2) := .there (.t12 h)
theorem Del.t14 {H H2 : List Ent} {e : Ent} {x0 x1 x2 x3 x4 x5 x6 x7 x8 x9 x10 x11 x12 x13 : Ent} (h : Del H e H2) : Del (x0 :: x1 :: x2 :: x3 :: x4 :: x5 :: x6 :: x7 :: x8 :: x9 :: x10 :: x11 :: x12 :: x13 :: H) e (x0 :: x1 :: x2 :: x3 :: x4 :: x5 :: x6 :: x7 :: x8 :: x9 :: x10 :: x11 :: x12 :: x13 :: H2) := .there (.t13 h)
theorem Del.t15 {H H2 : List Ent} {e : Ent} {x0 x1 x2 x3 x4 x5 x6 x7 x8 x9 x10 x11 x12 x13 x14 : Ent} (h : Del H e H2) : Del (x0 :: x1 :: x2 :: x3 :: x4 :: x5 :: x6 :: x7 :: x8 :: x9 :: x10 :: x11 :: x12 :: x13 :: x14 :: H) e (x0 :: x1 :: x2 :: x3 :: x4 :: x5 :: x6 :: x7 :: x8 :: x9 :: x10 :: x11 :: x12 :: x13 :: x14 :: H2) := .there (.t14 h)
theorem Del.t16 {H H2 : List Ent} {e : Ent} {x0 x1 x2 x3 x4 x5 x6 x7 x8 x9 x10 x11 x12 x13 x14 x15 : Ent} (h : Del H e H2) : Del (x0 :: x1 :: x2 :: x3 :: x4 :: x5 :: x6 :: x7 :: x8 :: x9 :: x10 :: x11 :: x12 :: x13 :: x14 :: x15 :: H) e (x0 :: x1 :: x2 :: x3 :: x4 :: x5 :: x6 :: x7 :: x8 :: x9 :: x10 :: x11 :: x12 :: x13 :: x14 :: x15 :: H2) := .there (.t15 h)
theorem Del.t17 {H H2 : List Ent} {e : Ent} {x0 x1 x2 x3 x4 x5 x6 x7 x8 x9 x10 x11 x12 x13 x14 x15 x16 : Ent} (h : Del H e H2) : Del (x0 :: x1 :: x2 :: x3 :: x4 :: x5 :: x6 :: x7 :: x8 :: x9 :: x10 :: x11 :: x12 :: x13 :: x14 :: x15 :: x16 :: H) e (x0 :: x1 :: x2 :: x3 :: x4 :: x5 :: x6 :: x7 :: x8 :: x9 :: x10 :: x11 :: x12 :: x13 :: x14 :: x15 :: x16 :: H2) := .there (.t16 h)
theorem Del.t18 {H H2 : List Ent} {e : Ent} {x0 x1 x2 x3 x4 x5 x6 x7 x8 x9 x10 x11 x12 x13 x14 x15 x16 x17 : Ent} (h : Del H e H2) : Del (x0 :: x1 :: x2 :: x3 :: x4 :: x5 :: x6 :: x7 :: x8 :: x9 :: x10 :: x11 :: x12 :: x13 :: x14 :: x15 :: x16 :: x17 :: H) e (x0 :: x1 :: x2 :: x3 :: x4 :: x5 :: x6 :: x7 :: x8 :: x9 :: x10 :: x11 :: x12 :: x13 :: x14 :: x15 :: x16 :: x17 :: H2) := .there (.t17 h)
theorem Del.t19 {H H2 : List Ent} {e : Ent} {x0 x1 x2 x3 x4 x5 x6 x7 x8 x9 x10 x11 x12 x13 x14 x15 x16 x17 x18 : Ent} (h : Del H e H2) : Del (x0 :: x1 :: x2 :: x3 :: x4 :: x5 :: x6 :: x7 :: x8 :: x9 :: x10 :: x11 :: x12 :: x13 :: x14 :: x15 :: x16 :: x17 :: x18 :: H) e (x0 :: x1 :: x2 :: x3 :: x4 :: x5 :: x6 :: x7 :: x8 :: x9 :: x10 :: x11 :: x12 :: x13 :: x14 :: x15 :: x16 :: x17 :: x18 :: H2) := .there (.t18 h)
theorem Del.t20 {H H2 : List Ent} {e : Ent} {x0 x1 x2 x3 x4 x5 x6 x7 x8 x9 x10 x11 x12 x13 x14 x15 x16 x17 x18 x19 : Ent} (h : Del H e H2) : Del (x0 :: x1 :: x2 :: x3 :: x4 :: x5 :: x6 :: x7 :: x8 :: x9 :: x10 :: x11 :: x12 :: x13 :: x14 :: x15 :: x16 :: x17 :: x18 :: x19 :: H) e (x0 :: x1 :: x2 :: x3 :: x4 :: x5 :: x6 :: x7 :: x8 :: x9 :: x10 :: x11 :: x12 :: x13 :: x14 :: x15 :: x16 :: x17 :: x18 :: x19 :: H2) := .there (.t19 h)
theorem Del.t21 {H H2 : List Ent} {e : Ent} {x0 x1 x2 x3 x4 x5 x6 x7 x8 x9 x10 x11 x12 x13 x14 x15 x16 x17 x18 x19 x20 : Ent} (h : Del H e H2) : Del (x0 :: x1 :: x2 :: x3 :: x4 :: x5 :: x6 :: x7 :: x8 :: x9 :: x10 :: x11 :: x12 :: x13 :: x14 :: x15 :: x16 :: x17 :: x18 :: x19 :: x20 :: H) e (x0 :: x1 :: x2 :: x3 :: x4 :: x5 :: x6 :: x7 :: x8 :: x9 :: x10 :: x11 :: x12 :: x13 :: x14 :: x15 :: x16 :: x17 :: x18 :: x19 :: x20 :: H2) := .there (.t20 h)
theorem Del.t22 {H H2 : List Ent} {e : Ent} {x0 x1 x2 x3 x4 x5 x6 x7 x8 x9 x10 x11 x12 x13 x14 x15 x16 x17 x18 x19 x20 x21 : Ent} (h : Del H e H2) : Del (x0 :: x1 :: x2 :: x3 :: x4 :: x5 :: x6 :: x7 :: x8 :: x9 :: x10 :: x11 :: x12 :: x13 :: x14 :: x15 :: x16 :: x17 :: x18 :: x19 :: x20 :: x21 :: H) e (x0 :: x1 :: x2 :: x3 :: x4 :: x5 :: x6 :: x7 :: x8 :: x9 :: x10 :: x11 :: x12 :: x13 :: x14 :: x15 :: x16 :: x17 :: x18 :: x19 :: x20 :: x21 :: H2) := .there (.t21 h)
theorem Del.t23 {H H2 : List Ent} {e : Ent} {x0 x1 x2 x3 x4 x5 x6 x7 x8 x9 x10 x11 x12 x13 x14 x15 x16 x17 x18 x19 x20 x21 x22 : Ent} (h : Del H e H2) : Del (x0 :: x1 :: x2 :: x3 :: x4 :: x5 :: x6 :: x7 :: x8 :: x9 :: x10 :: x11 :: x12 :: x13 :: x14 :: x15 :: x16 :: x17 :: x18 :: x19 :: x20 :: x21 :: x22 :: H) e (x0 :: x1 :: x2 :: x3 :: x4 :: x5 :: x6 :: x7 :: x8 :: x9 :: x10 :: x11 :: x12 :: x13 :: x14 :: x15 :: x16 :: x17 :: x18 :: x19 :: x20 :: x21 :: x22 :: H2) := .there (.t22 h)
theorem Del.t24 {H H2 : List Ent} {e : Ent} {x0 x1 x2 x3 x4 x5 x6 x7 x8 x9 x10 x11 x12 x13 x14 x15 x16 x17 x18 x19 x20 x21 x22 x23 : Ent} (h : Del H e H2) : Del (x0 :: x1 :: x2 :: x3 :: x4 :: x5 :: x6 :: x7 :: x8 :: x9 :: x10 :: x11 :: x12 :: x13 :: x14 :: x15 :: x16 :: x17 :: x18 :: x19 :: x20 :: x21 :: x22 :: x23 :: H) e (x0 :: x1 :: x2 :: x3 :: x4 :: x5 :: x6 :: x7 :: x8 :: x9 :: x10 :: x11 :: x12 :: x13 :: x14 :: x15 :: x16 :: x17 :: x18 :: x19 :: x20 :: x21 :: x22 :: x23 :: H2) := .there (.t23 h)
theorem Del.t25 {H H2 : List Ent} {e : Ent} {x0 x1 x2 x3 x4 x5 x6 x7 x8 x9 x10 x11 x12 x13 x14 x15 x16 x17 x18 x19 x20 x21 x22 x23 x24 : Ent} (h : Del H e H2) : Del (x0 :: x1 :: x2 :: x3 :: x4 :: x5 :: x6 :: x7 :: x8 :: x9 :: x10 :: x11 :: x12 :: x13 :: x14 :: x15 :: x16 :: x17 :: x18 :: x19 :: x20 :: x21 :: x22 :: x23 :: x24 :: H) e (x0 :: x1 :: x2 :: x3 :: x4 :: x5 :: x6 :: x7 :: x8 :: x9 :: x10 :: x11 :: x12 :: x13 :: x14 :: x15 :: x16 :: x17 :: x18 :: x19 :: x20 :: x21 :: x22 :: x23 :: x24 :: H2) := .there (.t24 h)
theorem Del.t26 {H H2 : List Ent} {e : Ent} {x0 x1 x2 x3 x4 x5 x6 x7 x8 x9 x10 x11 x12 x13 x14 x15 x16 x17 x18 x19 x20 x21 x22 x23 x24 x25 : Ent} (h : Del H e H2) : Del (x0 :: x1 :: x2 :: x3 :: x4 :: x5 :: x6 :: x7 :: x8 :: x9 :: x10 :: x11 :: x12 :: x13 :: x14 :: x15 :: x16 :: x17 :: x18 :: x19 :: x20 :: x21 :: x22 :: x23 :: x24 :: x25 :: H) e (x0 :: x1 :: x2 :: x3 :: x4 :: x5 :: x6 :: x7 :: x8 :: x9 :: x10 :: x11 :: x12 :: x13 :: x14 :: x15 :: x16 :: x17 :: x18 :: x19 :: x20 :: x21 :: x22 :: x23 :: x24 :: x25 :: H2) := .there (.t25 h)
theorem Del.t27 {H H2 : List Ent} {e : Ent} {x0 x1 x2 x3 x4 x5 x6 x7 x8 x9 x10 x11 x12 x13 x14 x15 x16 x17 x18 x19 x20 x21 x22 x23 x24 x25 x26 : Ent} (h : Del H e H2) : Del (x0 :: x1 :: x2 :: x3 :: x4 :: x5 :: x6 :: x7 :: x8 :: x9 :: x10 :: x11 :: x12 :: x13 :: x14 :: x15 :: x16 :: x17 :: x18 :: x19 :: x20 :: x21 :: x22 :: x23 :: x24 :: x25 :: x26 :: H) e (x0 :: x1 :: x2 :: x3 :: x4 :: x5 :: x6 :: x7 :: x8 :: x9 :: x10 :: x11 :: x12 :: x13 :: x14 :: x15 :: x16 :: x17 :: x18 :: x19 :: x20 :: x21 :: x22 :: x23 :: x24 :: x25 :: x26 :: H2) := .there (.t26 h)
theorem Del.t28 {H H2 : List Ent} {e : Ent} {x0 x1 x2 x3 x4 x5 x6 x7 x8 x9 x10 x11 x12 x13 x14 x15 x16 x17 x18 x19 x20 x21 x22 x23 x24 x25 x26 x27 : Ent} (h : Del H e H2) : Del (x0 :: x1 :: x2 :: x3 :: x4 :: x5 :: x6 :: x7 :: x8 :: x9 :: x10 :: x11 :: x12 :: x13 :: x14 :: x15 :: x16 :: x17 :: x18 :: x19 :: x20 :: x21 :: x22 :: x23 :: x24 :: x25 :: x26 :: x27 :: H) e (x0 :: x1 :: x2 :: x3 :: x4 :: x5 :: x6 :: x7 :: x8 :: x9 :: x10 :: x11 :: x12 :: x13 :: x14 :: x15 :: x16 :: x17 :: x18 :: x19 :: x20 :: x21 :: x22 :: x23 :: x24 :: x25 :: x26 :: x27 :: H2) := .there (.t27 h)
theorem Del.t29 {H H2 : List Ent} {e : Ent} {x0 x1 x2 x3 x4 x5 x6 x7 x8 x9 x10 x11 x12 x13 x14 x15 x16 x17 x18 x19 x20 x21 x22 x23 x24 x25 x26 x27 x28 : Ent} (h : Del H e H2) : Del (x0 :: x1 :: x2 :: x3 :: x4 :: x5 :: x6 :: x7 :: x8 :: x9 :: x10 :: x11 :: x12 :: x13 :: x14 :: x15 :: x16 :: x17 :: x18 :: x19 :: x20 :: x21 :: x22 :: x23 :: x24 :: x25 :: x26 :: x27 :: x28 :: H) e (x0 :: x1 :: x2 :: x3 :: x4 :: x5 :: x6 :: x7 :: x8 :: x9 :: x10 :: x11 :: x12 :: x13 :: x14 :: x15 :: x16 :: x17 :: x18 :: x19 :: x20 :: x21 :: x22 :: x23 :: x24 :: x25 :: x26 :: x27 :: x28 :: H2) := .there (.t28 h)
theorem Del.t30 {H H2 : List Ent} {e : Ent} {x0 x1 x2 x3 x4 x5 x6 x7 x8 x9 x10 x11 x12 x13 x14 x15 x16 x17 x18 x19 x20 x21 x22 x23 x24 x25 x26 x27 x28 x29 : Ent} (h : Del H e H2) : Del (x0 :: x1 :: x2 :: x3 :: x4 :: x5 :: x6 :: x7 :: x8 :: x9 :: x10 :: x11 :: x12 :: x13 :: x14 :: x15 :: x16 :: x17 :: x18 :: x19 :: x20 :: x21 :: x22 :: x23 :: x24 :: x25 :: x26 :: x27 :: x28 :: x29 :: H) e (x0 :: x1 :: x2 :: x3 :: x4 :: x5 :: x6 :: x7 :: x8 :: x9 :: x10 :: x11 :: x12 :: x13 :: x14 :: x15 :: x16 :: x17 :: x18 :: x19 :: x20 :: x21 :: x22 :: x23 :: x24 :: x25 :: x26 :: x27 :: x28 :: x29 :: H2) := .there (.t29 h)
theorem Del.t31 {H H2 : List Ent} {e : Ent} {x0 x1 x2 x3 x4 x5 x6 x7 x8 x9 x10 x11 x12 x13 x14 x15 x16 x17 x18 x19 x20 x21 x22 x23 x24 x25 x26 x27 x28 x29 x30 : Ent} (h : Del H e H2) : Del (x0 :: x1 :: x2 :: x3 :: x4 :: x5 :: x6 :: x7 :: x8 :: x9 :: x10 :: x11 :: x12 :: x13 :: x14 :: x15 :: x16 :: x17 :: x18 :: x19 :: x20 :: x21 :: x22 :: x23 :: x24 :: x25 :: x26 :: x27 :: x28 :: x29 :: x30 :: H) e (x0 :: x1 :: x2 :: x3 :: x4 :: x5 :: x6 :: x7 :: x8 :: x9 :: x10 :: x11 :: x12 :: x13 :: x14 :: x15 :: x16 :: x17 :: x18 :: x19 :: x20 :: x21 :: x22 :: x23 :: x24 :: x25 :: x26 :: x27 :: x28 :: x29 :: x30 :: H2) := .there (.t30 h)
theorem Del.t32 {H H2 : List Ent} {e : Ent} {x0 x1 x2 x3 x4 x5 x6 x7 x8 x9 x10 x11 x12 x13 x14 x15 x16 x17 x18 x19 x20 x21 x22 x23 x24 x25 x26 x27 x28 x29 x30 x31 : Ent} (h : Del H e H2) : Del (x0 :: x1 :: x2 :: x3 :: x4 :: x5 :: x6 :: x7 :: x8 :: x9 :: x10 :: x11 :: x12 :: x13 :: x14 :: x15 :: x16 :: x17 :: x18 :: x19 :: x20 :: x21 :: x22 :: x23 :: x24 :: x25 :: x26 :: x27 :: x28 :: x29 :: x30 :: x31 :: H) e (x0 :: x1 :: x2 :: x3 :: x4 :: x5 :: x6 :: x7 :: x8 :: x9 :: x10 :: x11 :: x12 :: x13 :: x14 :: x15 :: x16 :: x17 :: x18 :: x19 :: x20 :: x21 :: x22 :: x23 :: x24 :: x25 :: x26 :: x27 :: x28 :: x29 :: x30 :: x31 :: H2) := .there (.t31 h)
theorem Put.t13 {H H2 : List Ent} {e e2 : Ent} {x0 x1 x2 x3 x4 x5 x6 x7 x8 x9 x10 x11 x12 : Ent} (h : Put H e e2 H2) : Put (x0 :: x1 :: x2 :: x3 :: x4 :: x5 :: x6 :: x7 :: x8 :: x9 :: x10 :: x11 :: x12 :: H) e e2 (x0 :: x1 :: x2 :: x3 :: x4 :: x5 :: x6 :: x7 :: x8 :: x9 :: x10 :: x11 :: x12 :: H2) := .there (.t12 h)
theorem Put.t14 {H H2 : List Ent} {e e2 : Ent} {x0 x1 x2 x3 x4 x5 x6 x7 x8 x9 x10 x11 x12 x13 : Ent} (h : Put H e e2 H2) : Put (x0 :: x1 :: x2 :: x3 :: x4 :: x5 :: x6 :: x7 :: x8 :: x9 :: x10 :: x11 :: x12 :: x13 :: H) e e2 (x0 :: x1 :: x2 :: x3 :: x4 :: x5 :: x6 :: x7 :: x8 :: x9 :: x10 :: x11 :: x12 :: x13 :: H2) := .there (.t13 h)
theorem Put.t15 {H H2 : List Ent} {e e2 : Ent} {x0 x1 x2 x3 x4 x5 x6 x7 x8 x9 x10 x11 x12 x13 x14 : Ent} (h : Put H e e2 H2) : Put (x0 :: x1 :: x2 :: x3 :: x4 :: x5 :: x6 :: x7 :: x8 :: x9 :: x10 :: x11 :: x12 :: x13 :: x14 :: H) e e2 (x0 :: x1 :: x2 :: x3 :: x4 :: x5 :: x6 :: x7 :: x8 :: x9 :: x10 :: x11 :: x12 :: x13 :: x14 :: H2) := .there (.t14 h)
theorem Put.t16 {H H2 : List Ent} {e e2 : Ent} {x0 x1 x2 x3 x4 x5 x6 x7 x8 x9 x10 x11 x12 x13 x14 x15 : Ent} (h : Put H e e2 H2) : Put (x0 :: x1 :: x2 :: x3 :: x4 :: x5 :: x6 :: x7 :: x8 :: x9 :: x10 :: x11 :: x12 :: x13 :: x14 :: x15 :: H) e e2 (x0 :: x1 :: x2 :: x3 :: x4 :: x5 :: x6 :: x7 :: x8 :: x9 :: x10 :: x11 :: x12 :: x13 :: x14 :: x15 :: H2) := .there (.t15 h)
theorem Put.t17 {H H2 : List Ent} {e e2 : Ent} {x0 x1 x2 x3 x4 x5 x6 x7 x8 x9 x10 x11 x12 x13 x14 x15 x16 : Ent} (h : Put H e e2 H2) : Put (x0 :: x1 :: x2 :: x3 :: x4 :: x5 :: x6 :: x7 :: x8 :: x9 :: x10 :: x11 :: x12 :: x13 :: x14 :: x15 :: x16 :: H) e e2 (x0 :: x1 :: x2 :: x3 :: x4 :: x5 :: x6 :: x7 :: x8 :: x9 :: x10 :: x11 :: x12 :: x13 :: x14 :: x15 :: x16 :: H2) := .there (.t16 h)
theorem Put.t18 {H H2 : List Ent} {e e2 : Ent} {x0 x1 x2 x3 x4 x5 x6 x7 x8 x9 x10 x11 x12 x13 x14 x15 x16 x17 : Ent} (h : Put H e e2 H2) : Put (x0 :: x1 :: x2 :: x3 :: x4 :: x5 :: x6 :: x7 :: x8 :: x9 :: x10 :: x11 :: x12 :: x13 :: x14 :: x15 :: x16 :: x17 :: H) e e2 (x0 :: x1 :: x2 :: x3 :: x4 :: x5 :: x6 :: x7 :: x8 :: x9 :: x10 :: x11 :: x12 :: x13 :: x14 :: x15 :: x16 :: x17 :: H2) := .there (.t17 h)
theorem Put.t19 {H H2 : List Ent} {e e2 : Ent} {x0 x1 x2 x3 x4 x5 x6 x7 x8 x9 x10 x11 x12 x13 x14 x15 x16 x17 x18 : Ent} (h : Put H e e2 H2) : Put (x0 :: x1 :: x2 :: x3 :: x4 :: x5 :: x6 :: x7 :: x8 :: x9 :: x10 :: x11 :: x12 :: x13 :: x14 :: x15 :: x16 :: x17 :: x18 :: H) e e2 (x0 :: x1 :: x2 :: x3 :: x4 :: x5 :: x6 :: x7 :: x8 :: x9 :: x10 :: x11 :: x12 :: x13 :: x14 :: x15 :: x16 :: x17 :: x18 :: H2) := .there (.t18 h)
theorem Put.t20 {H H2 : List Ent} {e e2 : Ent} {x0 x1 x2 x3 x4 x5 x6 x7 x8 x9 x10 x11 x12 x13 x14 x15 x16 x17 x18 x19 : Ent} (h : Put H e e2 H2) : Put (x0 :: x1 :: x2 :: x3 :: x4 :: x5 :: x6 :: x7 :: x8 :: x9 :: x10 :: x11 :: x12 :: x13 :: x14 :: x15 :: x16 :: x17 :: x18 :: x19 :: H) e e2 (x0 :: x1 :: x2 :: x3 :: x4 :: x5 :: x6 :: x7 :: x8 :: x9 :: x10 :: x11 :: x12 :: x13 :: x14 :: x15 :: x16 :: x17 :: x18 :: x19 :: H2) := .there (.t19 h)
theorem Put.t21 {H H2 : List Ent} {e e2 : Ent} {x0 x1 x2 x3 x4 x5 x6 x7 x8 x9 x10 x11 x12 x13 x14 x15 x16 x17 x18 x19 x20 : Ent} (h : Put H e e2 H2) : Put (x0 :: x1 :: x2 :: x3 :: x4 :: x5 :: x6 :: x7 :: x8 :: x9 :: x10 :: x11 :: x12 :: x13 :: x14 :: x15 :: x16 :: x17 :: x18 :: x19 :: x20 :: H) e e2 (x0 :: x1 :: x2 :: x3 :: x4 :: x5 :: x6 :: x7 :: x8 :: x9 :: x10 :: x11 :: x12 :: x13 :: x14 :: x15 :: x16 :: x17 :: x18 :: x19 :: x20 :: H2) := .there (.t20 h)
theorem Put.t22 {H H2 : List Ent} {e e2 : Ent} {x0 x1 x2 x3 x4 x5 x6 x7 x8 x9 x10 x11 x12 x13 x14 x15 x16 x17 x18 x19 x20 x21 : Ent} (h : Put H e e2 H2) : Put (x0 :: x1 :: x2 :: x3 :: x4 :: x5 :: x6 :: x7 :: x8 :: x9 :: x10 :: x11 :: x12 :: x13 :: x14 :: x15 :: x16 :: x17 :: x18 :: x19 :: x20 :: x21 :: H) e e2 (x0 :: x1 :: x2 :: x3 :: x4 :: x5 :: x6 :: x7 :: x8 :: x9 :: x10 :: x11 :: x12 :: x13 :: x14 :: x15 :: x16 :: x17 :: x18 :: x19 :: x20 :: x21 :: H2) := .there (.t21 h)
theorem Put.t23 {H H2 : List Ent} {e e2 : Ent} {x0 x1 x2 x3 x4 x5 x6 x7 x8 x9 x10 x11 x12 x13 x14 x15 x16 x17 x18 x19 x20 x21 x22 : Ent} (h : Put H e e2 H2) : Put (x0 :: x1 :: x2 :: x3 :: x4 :: x5 :: x6 :: x7 :: x8 :: x9 :: x10 :: x11 :: x12 :: x13 :: x14 :: x15 :: x16 :: x17 :: x18 :: x19 :: x20 :: x21 :: x22 :: H) e e2 (x0 :: x1 :: x2 :: x3 :: x4 :: x5 :: x6 :: x7 :: x8 :: x9 :: x10 :: x11 :: x12 :: x13 :: x14 :: x15 :: x16 :: x17 :: x18 :: x19 :: x20 :: x21 :: x22 :: H2) := .there (.t22 h)
theorem Put.t24 {H H2 : List Ent} {e e2 : Ent} {x0 x1 x2 x3 x4 x5 x6 x7 x8 x9 x10 x11 x12 x13 x14 x15 x16 x17 x18 x19 x20 x21 x22 x23 : Ent} (h : Put H e e2 H2) : Put (x0 :: x1 :: x2 :: x3 :: x4 :: x5 :: x6 :: x7 :: x8 :: x9 :: x10 :: x11 :: x12 :: x13 :: x14 :: x15 :: x16 :: x17 :: x18 :: x19 :: x20 :: x21 :: x22 :: x23 :: H) e e2 (x0 :: x1 :: x2 :: x3 :: x4 :: x5 :: x6 :: x7 :: x8 :: x9 :: x10 :: x11 :: x12 :: x13 :: x14 :: x15 :: x16 :: x17 :: x18 :: x19 :: x20 :: x21 :: x22 :: x23 :: H2) := .there (.t23 h)
theorem Put.t25 {H H2 : List Ent} {e e2 : Ent} {x0 x1 x2 x3 x4 x5 x6 x7 x8 x9 x10 x11 x12 x13 x14 x15 x16 x17 x18 x19 x20 x21 x22 x23 x24 : Ent} (h : Put H e e2 H2) : Put (x0 :: x1 :: x2 :: x3 :: x4 :: x5 :: x6 :: x7 :: x8 :: x9 :: x10 :: x11 :: x12 :: x13 :: x14 :: x15 :: x16 :: x17 :: x18 :: x19 :: x20 :: x21 :: x22 :: x23 :: x24 :: H) e e2 (x0 :: x1 :: x2 :: x3 :: x4 :: x5 :: x6 :: x7 :: x8 :: x9 :: x10 :: x11 :: x12 :: x13 :: x14 :: x15 :: x16 :: x17 :: x18 :: x19 :: x20 :: x21 :: x22 :: x23 :: x24 :: H2) := .there (.t24 h)
theorem Put.t26 {H H2 : List Ent} {e e2 : Ent} {x0 x1 x2 x3 x4 x5 x6 x7 x8 x9 x10 x11 x12 x13 x14 x15 x16 x17 x18 x19 x20 x21 x22 x23 x24 x25 : Ent} (h : Put H e e2 H2) : Put (x0 :: x1 :: x2 :: x3 :: x4 :: x5 :: x6 :: x7 :: x8 :: x9 :: x10 :: x11 :: x12 :: x13 :: x14 :: x15 :: x16 :: x17 :: x18 :: x19 :: x20 :: x21 :: x22 :: x23 :: x24 :: x25 :: H) e e2 (x0 :: x1 :: x2 :: x3 :: x4 :: x5 :: x6 :: x7 :: x8 :: x9 :: x10 :: x11 :: x12 :: x13 :: x14 :: x15 :: x16 :: x17 :: x18 :: x19 :: x20 :: x21 :: x22 :: x23 :: x24 :: x25 :: H2) := .there (.t25 h)
theorem Put.t27 {H H2 : List Ent} {e e2 : Ent} {x0 x1 x2 x3 x4 x5 x6 x7 x8 x9 x10 x11 x12 x13 x14 x15 x16 x17 x18 x19 x20 x21 x22 x23 x24 x25 x26 : Ent} (h : Put H e e2 H2) : Put (x0 :: x1 :: x2 :: x3 :: x4 :: x5 :: x6 :: x7 :: x8 :: x9 :: x10 :: x11 :: x12 :: x13 :: x14 :: x15 :: x16 :: x17 :: x18 :: x19 :: x20 :: x21 :: x22 :: x23 :: x24 :: x25 :: x26 :: H) e e2 (x0 :: x1 :: x2 :: x3 :: x4 :: x5 :: x6 :: x7 :: x8 :: x9 :: x10 :: x11 :: x12 :: x13 :: x14 :: x15 :: x16 :: x17 :: x18 :: x19 :: x20 :: x21 :: x22 :: x23 :: x24 :: x25 :: x26 :: H2) := .there (.t26 h)
theorem Put.t28 {H H2 : List Ent} {e e2 : Ent} {x0 x1 x2 x3 x4 x5 x6 x7 x8 x9 x10 x11 x12 x13 x14 x15 x16 x17 x18 x19 x20 x21 x22 x23 x24 x25 x26 x27 : Ent} (h : Put H e e2 H2) : Put (x0 :: x1 :: x2 :: x3 :: x4 :: x5 :: x6 :: x7 :: x8 :: x9 :: x10 :: x11 :: x12 :: x13 :: x14 :: x15 :: x16 :: x17 :: x18 :: x19 :: x20 :: x21 :: x22 :: x23 :: x24 :: x25 :: x26 :: x27 :: H) e e2 (x0 :: x1 :: x2 :: x3 :: x4 :: x5 :: x6 :: x7 :: x8 :: x9 :: x10 :: x11 :: x12 :: x13 :: x14 :: x15 :: x16 :: x17 :: x18 :: x19 :: x20 :: x21 :: x22 :: x23 :: x24 :: x25 :: x26 :: x27 :: H2) := .there (.t27 h)
theorem Put.t29 {H H2 : List Ent} {e e2 : Ent} {x0 x1 x2 x3 x4 x5 x6 x7 x8 x9 x10 x11 x12 x13 x14 x15 x16 x17 x18 x19 x20 x21 x22 x23 x24 x25 x26 x27 x28 : Ent} (h : Put H e e2 H2) : Put (x0 :: x1 :: x2 :: x3 :: x4 :: x5 :: x6 :: x7 :: x8 :: x9 :: x10 :: x11 :: x12 :: x13 :: x14 :: x15 :: x16 :: x17 :: x18 :: x19 :: x20 :: x21 :: x22 :: x23 :: x24 :: x25 :: x26 :: x27 :: x28 :: H) e e2 (x0 :: x1 :: x2 :: x3 :: x4 :: x5 :: x6 :: x7 :: x8 :: x9 :: x10 :: x11 :: x12 :: x13 :: x14 :: x15 :: x16 :: x17 :: x18 :: x19 :: x20 :: x21 :: x22 :: x23 :: x24 :: x25 :: x26 :: x27 :: x28 :: H2) := .there (.t28 h)
theorem Put.t30 {H H2 : List Ent} {e e2 : Ent} {x0 x1 x2 x3 x4 x5 x6 x7 x8 x9 x10 x11 x12 x13 x14 x15 x16 x17 x18 x19 x20 x21 x22 x23 x24 x25 x26 x27 x28 x29 : Ent} (h : Put H e e2 H2) : Put (x0 :: x1 :: x2 :: x3 :: x4 :: x5 :: x6 :: x7 :: x8 :: x9 :: x10 :: x11 :: x12 :: x13 :: x14 :: x15 :: x16 :: x17 :: x18 :: x19 :: x20 :: x21 :: x22 :: x23 :: x24 :: x25 :: x26 :: x27 :: x28 :: x29 :: H) e e2 (x0 :: x1 :: x2 :: x3 :: x4 :: x5 :: x6 :: x7 :: x8 :: x9 :: x10 :: x11 :: x12 :: x13 :: x14 :: x15 :: x16 :: x17 :: x18 :: x19 :: x20 :: x21 :: x22 :: x23 :: x24 :: x25 :: x26 :: x27 :: x28 :: x29 :: H2) := .there (.t29 h)
theorem Put.t31 {H H2 : List Ent} {e e2 : Ent} {x0 x1 x2 x3 x4 x5 x6 x7 x8 x9 x10 x11 x12 x13 x14 x15 x16 x17 x18 x19 x20 x21 x22 x23 x24 x25 x26 x27 x28 x29 x30 : Ent} (h : Put H e e2 H2) : Put (x0 :: x1 :: x2 :: x3 :: x4 :: x5 :: x6 :: x7 :: x8 :: x9 :: x10 :: x11 :: x12 :: x13 :: x14 :: x15 :: x16 :: x17 :: x18 :: x19 :: x20 :: x21 :: x22 :: x23 :: x24 :: x25 :: x26 :: x27 :: x28 :: x29 :: x30 :: H) e e2 (x0 :: x1 :: x2 :: x3 :: x4 :: x5 :: x6 :: x7 :: x8 :: x9 :: x10 :: x11 :: x12 :: x13 :: x14 :: x15 :: x16 :: x17 :: x18 :: x19 :: x20 :: x21 :: x22 :: x23 :: x24 :: x25 :: x26 :: x27 :: x28 :: x29 :: x30 :: H2) := .there (.t30 h)
theorem Put.t32 {H H2 : List Ent} {e e2 : Ent} {x0 x1 x2 x3 x4 x5 x6 x7 x8 x9 x10 x11 x12 x13 x14 x15 x16 x17 x18 x19 x20 x21 x22 x23 x24 x25 x26 x27 x28 x29 x30 x31 : Ent} (h : Put H e e2 H2) : Put (x0 :: x1 :: x2 :: x3 :: x4 :: x5 :: x6 :: x7 :: x8 :: x9 :: x10 :: x11 :: x12 :: x13 :: x14 :: x15 :: x16 :: x17 :: x18 :: x19 :: x20 :: x21 :: x22 :: x23 :: x24 :: x25 :: x26 :: x27 :: x28 :: x29 :: x30 :: x31 :: H) e e2 (x0 :: x1 :: x2 :: x3 :: x4 :: x5 :: x6 :: x7 :: x8 :: x9 :: x10 :: x11 :: x12 :: x13 :: x14 :: x15 :: x16 :: x17 :: x18 :: x19 :: x20 :: x21 :: x22 :: x23 :: x24 :: x25 :: x26 :: x27 :: x28 :: x29 :: x30 :: x31 :: H2) := .there (.t31 h)
theorem Pick.h15 {H : List Ent} {x0 x1 x2 x3 x4 x5 x6 x7 x8 x9 x10 x11 x12 x13 x14 : Ent} : Pick (x0 :: x1 :: x2 :: x3 :: x4 :: x5 :: x6 :: x7 :: x8 :: x9 :: x10 :: x11 :: x12 :: x13 :: x14 :: H) [x0, x1, x2, x3, x4, x5, x6, x7, x8, x9, x10, x11, x12, x13, x14] H := .cons .here .h14
theorem Pick.h16 {H : List Ent} {x0 x1 x2 x3 x4 x5 x6 x7 x8 x9 x10 x11 x12 x13 x14 x15 : Ent} : Pick (x0 :: x1 :: x2 :: x3 :: x4 :: x5 :: x6 :: x7 :: x8 :: x9 :: x10 :: x11 :: x12 :: x13 :: x14 :: x15 :: H) [x0, x1, x2, x3, x4, x5, x6, x7, x8, x9, x10, x11, x12, x13, x14, x15] H := .cons .here .h15
theorem Pick.h17 {H : List Ent} {x0 x1 x2 x3 x4 x5 x6 x7 x8 x9 x10 x11 x12 x13 x14 x15 x16 : Ent} : Pick (x0 :: x1 :: x2 :: x3 :: x4 :: x5 :: x6 :: x7 :: x8 :: x9 :: x10 :: x11 :: x12 :: x13 :: x14 :: x15 :: x16 :: H) [x0, x1, x2, x3, x4, x5, x6, x7, x8, x9, x10, x11, x12, x13, x14, x15, x16] H := .cons .here .h16
theorem Pick.h18 {H : List Ent} {x0 x1 x2 x3 x4 x5 x6 x7 x8 x9 x10 x11 x12 x13 x14 x15 x16 x17 : Ent} : Pick (x0 :: x1 :: x2 :: x3 :: x4 :: x5 :: x6 :: x7 :: x8 :: x9 :: x10 :: x11 :: x12 :: x13 :: x14 :: x15 :: x16 :: x17 :: H) [x0, x1, x2, x3, x4, x5, x6, x7, x8, x9, x10, x11, x12, x13, x14, x15, x16, x17] H := .cons .here .h17
theorem Pick.h19 {H : List Ent} {x0 x1 x2 x3 x4 x5 x6 x7 x8 x9 x10 x11 x12 x13 x14 x15 x16 x17 x18 : Ent} : Pick (x0 :: x1 :: x2 :: x3 :: x4 :: x5 :: x6 :: x7 :: x8 :: x9 :: x10 :: x11 :: x12 :: x13 :: x14 :: x15 :: x16 :: x17 :: x18 :: H) [x0, x1, x2, x3, x4, x5, x6, x7, x8, x9, x10, x11, x12, x13, x14, x15, x16, x17, x18] H := .cons .here .h18
theorem Pick.h20 {H : List Ent} {x0 x1 x2 x3 x4 x5 x6 x7 x8 x9 x10 x11 x12 x13 x14 x15 x16 x17 x18 x19 : Ent} : Pick (x0 :: x1 :: x2 :: x3 :: x4 :: x5 :: x6 :: x7 :: x8 :: x9 :: x10 :: x11 :: x12 :: x13 :: x14 :: x15 :: x16 :: x17 :: x18 :: x19 :: H) [x0, x1, x2, x3, x4, x5, x6, x7, x8, x9, x10, x11, x12, x13, x14, x15, x16, x17, x18, x19] H := .cons .here .h19
theorem Pick.h21 {H : List Ent} {x0 x1 x2 x3 x4 x5 x6 x7 x8 x9 x10 x11 x12 x13 x14 x15 x16 x17 x18 x19 x20 : Ent} : Pick (x0 :: x1 :: x2 :: x3 :: x4 :: x5 :: x6 :: x7 :: x8 :: x9 :: x10 :: x11 :: x12 :: x13 :: x14 :: x15 :: x16 :: x17 :: x18 :: x19 :: x20 :: H) [x0, x1, x2, x3, x4, x5, x6, x7, x8, x9, x10, x11, x12, x13, x14, x15, x16, x17, x18, x19, x20] H := .cons .here .h20
theorem Pick.h22 {H : List Ent} {x0 x1 x2 x3 x4 x5 x6 x7 x8 x9 x10 x11 x12 x13 x14 x15 x16 x17 x18 x19 x20 x21 : Ent} : Pick (x0 :: x1 :: x2 :: x3 :: x4 :: x5 :: x6 :: x7 :: x8 :: x9 :: x10 :: x11 :: x12 :: x13 :: x14 :: x15 :: x16 :: x17 :: x18 :: x19 :: x20 :: x21 :: H) [x0, x1, x2, x3, x4, x5, x6, x7, x8, x9, x10, x11, x12, x13, x14, x15, x16, x17, x18, x19, x20, x21] H := .cons .here .h21
theorem Pick.h23 {H : List Ent} {x0 x1 x2 x3 x4 x5 x6 x7 x8 x9 x10 x11 x12 x13 x14 x15 x16 x17 x18 x19 x20 x21 x22 : Ent} : Pick (x0 :: x1 :: x2 :: x3 :: x4 :: x5 :: x6 :: x7 :: x8 :: x9 :: x10 :: x11 :: x12 :: x13 :: x14 :: x15 :: x16 :: x17 :: x18 :: x19 :: x20 :: x21 :: x22 :: H) [x0, x1, x2, x3, x4, x5, x6, x7, x8, x9, x10, x11, x12, x13, x14, x15, x16, x17, x18, x19, x20, x21, x22] H := .cons .here .h22
theorem Pick.h24 {H : List Ent} {x0 x1 x2 x3 x4 x5 x6 x7 x8 x9 x10 x11 x12 x13 x14 x15 x16 x17 x18 x19 x20 x21 x22 x23 : Ent} : Pick (x0 :: x1 :: x2 :: x3 :: x4 :: x5 :: x6 :: x7 :: x8 :: x9 :: x10 :: x11 :: x12 :: x13 :: x14 :: x15 :: x16 :: x17 :: x18 :: x19 :: x20 :: x21 :: x22 :: x23 :: H) [x0, x1, x2, x3, x4, x5, x6, x7, x8, x9, x10, x11, x12, x13, x14, x15, x16, x17, x18, x19, x20, x21, x22, x23] H := .cons .here .h23
theorem Pick.h25 {H : List Ent} {x0 x1 x2 x3 x4 x5 x6 x7 x8 x9 x10 x11 x12 x13 x14 x15 x16 x17 x18 x19 x20 x21 x22 x23 x24 : Ent} : Pick (x0 :: x1 :: x2 :: x3 :: x4 :: x5 :: x6 :: x7 :: x8 :: x9 :: x10 :: x11 :: x12 :: x13 :: x14 :: x15 :: x16 :: x17 :: x18 :: x19 :: x20 :: x21 :: x22 :: x23 :: x24 :: H) [x0, x1, x2, x3, x4, x5, x6, x7, x8, x9, x10, x11, x12, x13, x14, x15, x16, x17, x18, x19, x20, x21, x22, x23, x24] H := .cons .here .h24
theorem Pick.h26 {H : List Ent} {x0 x1 x2 x3 x4 x5 x6 x7 x8 x9 x10 x11 x12 x13 x14 x15 x16 x17 x18 x19 x20 x21 x22 x23 x24 x25 : Ent} : Pick (x0 :: x1 :: x2 :: x3 :: x4 :: x5 :: x6 :: x7 :: x8 :: x9 :: x10 :: x11 :: x12 :: x13 :: x14 :: x15 :: x16 :: x17 :: x18 :: x19 :: x20 :: x21 :: x22 :: x23 :: x24 :: x25 :: H) [x0, x1, x2, x3, x4, x5, x6, x7, x8, x9, x10, x11, x12, x13, x14, x15, x16, x17, x18, x19, x20, x21, x22, x23, x24, x25] H := .cons .here .h25
theorem Pick.h27 {H : List Ent} {x0 x1 x2 x3 x4 x5 x6 x7 x8 x9 x10 x11 x12 x13 x14 x15 x16 x17 x18 x19 x20 x21 x22 x23 x24 x25 x26 : Ent} : Pick (x0 :: x1 :: x2 :: x3 :: x4 :: x5 :: x6 :: x7 :: x8 :: x9 :: x10 :: x11 :: x12 :: x13 :: x14 :: x15 :: x16 :: x17 :: x18 :: x19 :: x20 :: x21 :: x22 :: x23 :: x24 :: x25 :: x26 :: H) [x0, x1, x2, x3, x4, x5, x6, x7, x8, x9, x10, x11, x12, x13, x14, x15, x16, x17, x18, x19, x20, x21, x22, x23, x24, x25, x26] H := .cons .here .h26
end Go.X

namespace Go.X
open Go
theorem Spec.goM {P : Program} [Tb P] {L : SF} {c : Code} {f : FuncId} {fn : Func} {args : List Value} {pre : List Ent} {post : Value → List Ent → Prop} (k : Nat) (ps : List Nat) (cs : List (Nat × Nat)) (hf : P.funcs[f]? = some fn) (hb : fn.body = some c) (hk : fn.ntmps = k) (hn : Nat.ble args.length fn.ntmps = true)
    [r : RfL (ofArgs 0 args) L] (h : ∀ W, Run P (fr k ps cs) (bodyPostM Fence.wide 3 P fn fun e w' => ∃ v H', e = .returned v ∧ post v H' ∧ H'.all Ent.wr = true ∧ XM W (foot pre) H' w') (XM W (foot pre) pre) 3000 [] (.c c) L) : Spec P f args pre post := by
  subst hk
  refine Spec.introM (kp := ps) (cs := cs) hf hb hn fun W => ?_
  rw [← r.h]
  exact run_ok _ [] (.c _) _ (h W)
end Go.X

/-! regions whose order is open, in what an iterator calls -/
namespace Go.X
open Go
section
variable {P : Program} {n : Fr} {Q : Exit → Act → World → Prop} {L : PF} {M : World → Prop}
theorem XB.regionQ {i : Nat} {os : List Oper} {f : Nat} {l : Array Bool} (hm : P.follows .mixedOrders = true) (hf : os.length = f) (hl : Array.replicate f false = l) (hM : ∀ w k, M w → M { w with drawn := w.drawn + k })
    (h : XQ P n os.toArray Q [] f l L M) (hn : noDef os = true := by rfl) : XB P n (.region i os.toArray true) Q L M := fun a w ha hw => by
  subst hf; subst hl
  refine ⟨by simpa using hn, hm, ?_⟩
  have := wpAny_of_J _ _ _ _ (h (closed_none _ _) a _ ha (hM w 1 hw) trivial)
  simpa using this
end
end Go.X

namespace Go.X
open Go
/-! ### calls of function values -/
section
variable {P : Program} {n : Fr} {Q : Exit → Act → World → Prop} {L : PF} {ops : Md} {rest : List Oper} {ty : TypeId} {pos : String} {af : Array Edge} {d : Nat}
variable {W : World} {S : Nat → Nat → Prop} {H : List Ent}
theorem V.indexAggN {t e : TypeId} {x y : Operand} {A B : Array Value} {m sz : Nat} {k : IntKind} {z : Int} {φ : World → Prop} {gd : Option (Nat × Bool)} (hx : ev L x = some (.agg A)) (hy : ev L y = some (.int k z)) (ht : P.underlying t = some (.array m e)) (hs : szOf P e = some sz) (he : aggT P e = true) (hz : 0 ≤ z ∧ z < m) (hv : A.extract (z.toNat * sz) (z.toNat * sz + sz) = B) :
    RunsTo P n L φ ⟨some d, .index t x y, ty, pos, af, gd⟩ (.agg B) := fun a w ha _ => by
  have hp : (part e A (z.toNat * sz)).run P w = .ok (.agg B) w := by
    simp [part, run_isAgg_agg he, run_sizeOf hs, hv]
  simp only [execOp, ev_eval ha hx, ev_eval ha hy, Instr.index, asIntOf, Sem.run_bind, Sem.run_pure, Result.andThen_ok, run_underlying ht, hz, run_sizeOf hs]
  simp only [Sem.run_bind, run_sizeOf hs, Result.andThen_ok, hp, true_and, and_self, if_true]
/-! ### a variable of one cell -/

end
end Go.X
