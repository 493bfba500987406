import Derived.Test.YthdinakloheinaaGreatDoorXMore
import Derived.Test.YthdinakloheinaaGreatDoorXFam
import Derived.Laws.StructEq
import Derived.Test.YthdinakloheinaaGreatDoorXQ
import Derived.Shelf.SlSortCmp.WholeK
import Derived.Shelf.SlSortCmp.NoneTotal
import Derived.Shelf.Slices.Cells
import Derived.Shelf.Slices.Empties
import Derived.Shelf.Slices.Clone
import Derived.Shelf.Spec.SearchS
import Derived.Shelf.Spec.SlicesInsertGrow
import Derived.Laws.MakeOwn
import Derived.Lib.SlBytesRow
import Derived.Test.YthdinakloheinaaGreatDoorXLay
import Derived.ProofKit
import Derived.OpenShut
import Derived.Below
import Derived.ChangeSame
import Derived.Deep.Slices
import Derived.Deep.Fields
namespace Go.X
open Go
/-! ### views of rows: slices cut short with their capacity -/
section
variable {P : Program} {n : Fr} {Q : Exit → Act → World → Prop} {L : PF} {ops : Md} {rest : List Oper} {op : Op} {ty : TypeId} {pos : String} {af : Array Edge} {d : Nat}
variable {W : World} {S : Nat → Nat → Prop} {H H' : List Ent} {M : World → Prop} {α : Type}
/-- what an operation brings about -/
def RunsG (P : Program) (n : Fr) (L : PF) (M : World → Prop) (o : Oper) (G : α → Prop) (val : α → Value) (M' : α → World → Prop) : Prop :=
  ∀ a w, Sat n L a → M w → ∃ x w', G x ∧ (execOp a.eval o).run P w = .ok (.value (val x)) w' ∧ M' x w'
theorem XO.g {G : α → Prop} {val : α → Value} {M' : α → World → Prop} (hr : RunsG P n L M ⟨some d, op, ty, pos, af, none⟩ G val M') (hd : (Nat.blt d n.sz && isE op) = true)
    (h : ∀ x, G x → XO P n ops Q rest ((d, val x) :: L) (M' x)) : XO P n ops Q (⟨some d, op, ty, pos, af, none⟩ :: rest) L M :=
  XO.op (by simp only [Bool.and_eq_true] at hd; simp [hd.2]) fun a w ha hw => by
    simp only [Bool.and_eq_true] at hd
    obtain ⟨x, w', hg, h1, h2⟩ := hr a w ha hw
    unfold Oper.wp
    rw [h1]
    exact h x hg _ _ (ha.put hd.1 _) h2


theorem newsOf_app (C C1 : Nat → Value) (a b : Nat) : newsOf C a ++ newsOf C1 b = newsOf (fun i => if i < a then C i else C1 (i - a)) (a + b) := by
  apply List.ext_getElem?
  intro j
  by_cases hj : j < a
  · rw [List.getElem?_append_left (by rw [newsOf_length]; exact hj), newsOf_at hj, newsOf_at (by omega), if_pos hj]
  · by_cases hj2 : j < a + b
    · rw [List.getElem?_append_right (by rw [newsOf_length]; omega), newsOf_length, newsOf_at (by omega), newsOf_at hj2, if_neg hj]
    · rw [List.getElem?_eq_none (by simp [newsOf_length]; omega), List.getElem?_eq_none (by simp [newsOf_length]; omega)]
theorem cells_news {w : World} {b N : Nat} {C : Nat → Value} (hc : (Ent.cells b 0 N C).holds w) : ∀ j u, (newsOf C N)[j]? = some u → w.cell? ((⟨b, 0, none⟩ : Addr).add j) = some u := fun j u hj => by
  have hlt : j < N := by
    have := (List.getElem?_eq_some_iff.1 hj).1
    rwa [newsOf_length] at this
  rw [newsOf_at hlt] at hj
  simp only [Option.some.injEq] at hj
  have hcc := cell_of_holds hc hlt
  have e0 : (⟨b, 0, none⟩ : Addr).add j = ⟨b, 0 + j, none⟩ := by cases j <;> simp [Addr.add]
  rw [e0, ← hj]; exact hcc

/-- a slice, and the row that it looks at -/
structure RV where
  p : Option Addr
  cap : Nat
  k : Nat
  len : Nat
  c : Nat
  C : Nat → Value
abbrev RV.ent (v : RV) (e : TypeId) (sz : Nat) : Ent := frow v.p v.cap e sz v.k v.C
abbrev RV.val (v : RV) : Value := .slice v.p v.len v.c
def RV.ok (v : RV) : Prop := (v.len = v.k ∧ v.c = v.cap) ∨ (v.c = v.len ∧ v.len ≤ v.k)
/-- a new block, with a row in front -/
theorem grown_row {P : Program} {w : World} {e : TypeId} {sz : Nat} {i : TypeInfo} {z : Value} {xs : List Value} {k old : Nat} (hsize : i.size = sz) (hzs : z.cells.size = sz) (hl : xs.length = k * sz) (hmax : k ≤ maxLen) :
    (Ent.row (.slice (some ⟨w.heap.size, 0, none⟩) k (grownCap w k old e)) e sz k xs).holds (w.drew.alloc (.cells (xs.toArray ++ Builtin.zeroCells z.cells (grownCap w k old e - k)) e)) := by
  have hge := grownCap_ge w k old e
  have hcm : grownCap w k old e ≤ maxLen := grownCap_le_maxLen w k old e hmax
  refine ⟨hl, .inr ⟨w.heap.size, _, _, rfl, Nat.zero_le _, heap_alloc_new w.drew _, hge, hcm, ?_, ?_⟩⟩
  · simp only [Array.size_append, List.size_toArray, size_zeroCells, hzs, hl, ← Nat.add_mul]
    congr 1
    omega
  · simp only [Array.toList_append]
    rw [← hl]
    exact List.take_left
theorem frow_reads {w : World} {g cap sz k m : Nat} {e : TypeId} {C : Nat → Value} (h : (frow (some ⟨g, 0, none⟩) cap e sz k C).holds w) (hm : m ≤ k) (o : Nat) (ho : o + m * sz ≤ k * sz) :
    ∀ j u, (newsOf (fun i => C (o + i)) (m * sz))[j]? = some u → w.cell? ((⟨g, o, none⟩ : Addr).add j) = some u := fun j u hj => by
  have hlt : j < m * sz := by
    have := (List.getElem?_eq_some_iff.1 hj).1
    rwa [newsOf_length] at this
  rw [newsOf_at hlt] at hj
  simp only [Option.some.injEq] at hj
  have e0 : (⟨g, o, none⟩ : Addr).add j = ⟨g, o + j, none⟩ := by cases j <;> simp [Addr.add]
  rw [e0, ← hj]
  exact frow_cell h (by omega)
theorem keep_fresh (w : World) (o : Obj) (S : Nat → Nat → Prop) : Keep w (w.drew.alloc o) S := keep_drew (keep_alloc w.drew o S)
/-- an item put behind a view -/
theorem RG.append {t e : TypeId} {x y : Operand} {v : RV} {m c2 b N sz : Nat} {C1 : Nat → Value} (hv : v.ok) (hx : ev L x = some v.val) (hy : ev L y = some (.slice (some ⟨b, 0, none⟩) m c2)) (ht : P.underlying t = some (.slice e)) (hr : rowT P e sz = true)
    (hH : Del H (v.ent e sz) H') (hN : Has H (.cells b 0 N C1)) (hNm : N = m * sz) (h1 : (newsOf C1 N).all one = true) (hm : 0 < m) (hk : v.len + m ≤ 100000000000) :
    RunsG P n L (XM W S H) ⟨some d, .call ⟨.builtin .append, #[x, y], #[t, t]⟩, ty, pos, af, none⟩ (fun u : RV => u.ok ∧ u.len = v.len + m ∧ (∀ i, i < v.len * sz → u.C i = v.C i) ∧ ∀ i, i < m * sz → u.C (v.len * sz + i) = C1 i)
      (fun u => u.val) (fun u => XM W S (u.ent e sz :: H')) := fun a w ha hw => by
  have hc : (Ent.cells b 0 N C1).holds w := hw.good.1 _ hN.mem
  have hrow : (v.ent e sz).holds w := hw.good.1 _ (hH.perm.mem_iff.2 (by simp))
  obtain ⟨p, cap, k, len, c, C⟩ := v
  simp only [RV.ok, RV.val, RV.ent] at *
  have fin : ∀ (p' : Option Addr) (cap' : Nat) (w' : World), (Builtin.append_ #[t, t] ty #[.slice p len c, .slice (some ⟨b, 0, none⟩) m c2]).run P w = .ok (.slice p' (len + m) cap') w' →
      XM W S (.row (.slice p' (len + m) cap') e sz (len + m) (newsOf C (len * sz) ++ newsOf C1 N) :: H') w' → ∃ (u : RV) (w' : World), (u.ok ∧ u.len = len + m ∧ (∀ i, i < len * sz → u.C i = C i) ∧ ∀ i, i < m * sz → u.C (len * sz + i) = C1 i) ∧
        (execOp a.eval ⟨some d, .call ⟨.builtin .append, #[x, y], #[t, t]⟩, ty, pos, af, none⟩).run P w = .ok (.value u.val) w' ∧ XM W S (u.ent e sz :: H') w' := fun p' cap' w' h3 h4 => by
    refine ⟨⟨p', cap', len + m, len + m, cap', fun i => if i < len * sz then C i else C1 (i - len * sz)⟩, w', ⟨.inl ⟨rfl, rfl⟩, rfl, fun i hi => if_pos hi, fun i _ => ?_⟩, ?_, ?_⟩
    · show (if len * sz + i < len * sz then _ else _) = _
      rw [if_neg (by omega), Nat.add_sub_cancel_left]
    · simp [execOp, resolve, invoke, builtin, ev_eval ha hx, ev_eval ha hy, h3]
    · rw [newsOf_app, hNm, ← Nat.add_mul] at h4
      exact h4
  have full : len = k → c = cap → ∃ (u : RV) (w' : World), (u.ok ∧ u.len = len + m ∧ (∀ i, i < len * sz → u.C i = C i) ∧ ∀ i, i < m * sz → u.C (len * sz + i) = C1 i) ∧
        (execOp a.eval ⟨some d, .call ⟨.builtin .append, #[x, y], #[t, t]⟩, ty, pos, af, none⟩).run P w = .ok (.value u.val) w' ∧ XM W S (u.ent e sz :: H') w' := fun e1 e2 => by
    subst e1; subst e2
    obtain ⟨p', cap', w', h3, h4, h5, h6⟩ := run_append_row (ty := ty) (c := c2) (b := b) (news := newsOf C1 N) ht hr hrow hm (by rw [newsOf_length, hNm]) (cells_news hc) (fun u hu => oneCell_of (List.all_eq_true.1 h1 u hu)) hk
    exact fin p' cap' w' h3 (hw.write hH rfl h6 h5 h4)
  rcases hv with ⟨h1', h2'⟩ | ⟨h1', h2'⟩
  · exact full h1' h2'
  · rcases hrow.2 with ⟨hv, h0⟩ | ⟨g, cap', cur, hv, _⟩
    · simp only [Value.slice.injEq] at hv
      exact full (by omega) (by omega)
    · simp only [Value.slice.injEq, true_and] at hv
      obtain ⟨rfl, rfl⟩ := hv
      obtain ⟨i, z, hi, hz, hsize, hby, hzs, hsz⟩ := rowT_spec hr
      have hmax : len + m ≤ maxLen := by simp only [maxLen]; omega
      have hbytes : (len + m) * i.bytes ≤ 140737488355328 := Nat.le_trans (Nat.mul_le_mul hk hby) (by omega)
      have hle : len * sz ≤ k * sz := Nat.mul_le_mul_right _ h2'
      have hr2 := run_append_grow (P := P) w t ty e i z ht hi hz ⟨g, 0, none⟩ len c (newsOf C (len * sz)) (by rw [newsOf_length, hsize]) (fun j u hj => by
        have hlt : j < len * sz := by
          have := (List.getElem?_eq_some_iff.1 hj).1
          rwa [newsOf_length] at this
        exact frow_reads hrow h2' 0 (by omega) j u (by
          rw [newsOf_at hlt] at hj ⊢
          simpa using hj)) ⟨b, 0, none⟩ m c2 (newsOf C1 N) (by rw [newsOf_length, hNm, hsize]) (cells_news hc) (by omega) (by simp only [maxLen] at hmax; omega) (growslice_fits (by omega) hbytes)
      refine fin _ _ _ hr2 ?_
      have hg := grown_row (P := P) (w := w) (e := e) (sz := sz) (i := i) (z := z) (xs := newsOf C (len * sz) ++ newsOf C1 N) (k := len + m) (old := c) hsize hzs (by rw [List.length_append, newsOf_length, newsOf_length, hNm, Nat.add_mul]) hmax
      have e3 : (newsOf C (len * sz) ++ newsOf C1 N).toArray = (newsOf C (len * sz)).toArray ++ (newsOf C1 N).toArray := by simp
      rw [e3] at hg
      exact hw.write hH rfl (fun b' o hb => .inr (by simp only [Ent.area, Value.ownBlock, Option.some.injEq] at hb; omega)) (keep_fresh w _ _) hg
/-- one taken out of a view: append(v[:i:i], v[i+1:]...) -/
theorem RG.cut {t e : TypeId} {x y : Operand} {g cap k len c : Nat} {C : Nat → Value} {i q sz : Nat} (hv : RV.ok ⟨some ⟨g, 0, none⟩, cap, k, len, c, C⟩) (hi : i < len) (hx : ev L x = some (.slice (some ⟨g, 0, none⟩) i i))
    (hy : ev L y = some (.slice (some ⟨g, if c = i + 1 then 0 else (i + 1) * sz, none⟩) (len - (i + 1)) q)) (ht : P.underlying t = some (.slice e)) (hr : rowT P e sz = true) (hH : Del H (frow (some ⟨g, 0, none⟩) cap e sz k C) H') (hk : len ≤ 100000000000) :
    RunsG P n L (XM W S H) ⟨some d, .call ⟨.builtin .append, #[x, y], #[t, t]⟩, ty, pos, af, none⟩ (fun u : RV => u.ok ∧ u.len = len - 1 ∧ (∀ j, j < i * sz → u.C j = C j) ∧ ∀ j, i * sz ≤ j → j < (len - 1) * sz → u.C j = C (j + sz))
      (fun u => u.val) (fun u => XM W S (u.ent e sz :: H')) := fun a w ha hw => by
  have hrow : (frow (some ⟨g, 0, none⟩) cap e sz k C).holds w := hw.good.1 _ (hH.perm.mem_iff.2 (by simp))
  have hv : (len = k ∧ c = cap) ∨ (c = len ∧ len ≤ k) := hv
  obtain ⟨ii, z, hii, hz, hsize, hby, hzs, hsz⟩ := rowT_spec hr
  by_cases hl : len = i + 1
  · subst hl
    refine ⟨⟨some ⟨g, 0, none⟩, cap, k, i, i, C⟩, w, ⟨.inr ⟨rfl, show i ≤ k by omega⟩, by simp, fun j _ => rfl, fun j h1 h2 => by simp at h2; omega⟩, ?_, ?_⟩
    · have h3 : ∀ o, (Builtin.append_ #[t, t] ty #[.slice (some ⟨g, 0, none⟩) i i, .slice (some ⟨g, o, none⟩) 0 q]).run P w = .ok (.slice (some ⟨g, 0, none⟩) i i) w := fun o => by
        simp [Builtin.append_, run_underlying ht, Builtin.lenOf, Builtin.firstCells, loadCells, loadCellsFrom, storeCells, sizeOf, run_typeInfo hii, hii]
      rw [Nat.sub_self] at hy
      simp [execOp, resolve, invoke, builtin, ev_eval ha hx, ev_eval ha hy, h3]
    · exact hw.perm hH.perm
  · have hlk : len ≤ k := by omega
    have hcl : len ≤ c := by
      have := frow_len hrow
      omega
    have hmax : len - 1 ≤ maxLen := by simp only [maxLen]; omega
    have hbytes : (len - 1) * ii.bytes ≤ 140737488355328 := Nat.le_trans (Nat.mul_le_mul (show len - 1 ≤ 100000000000 by omega) hby) (by omega)
    have hle : len * sz ≤ k * sz := Nat.mul_le_mul_right _ hlk
    have hle2 : i * sz ≤ len * sz := Nat.mul_le_mul_right _ (by omega)
    have e1 : (len - (i + 1)) * sz + (i + 1) * sz = len * sz := by rw [← Nat.add_mul]; congr 1; omega
    have e2 : i * sz + (len - (i + 1)) * sz = (len - 1) * sz := by rw [← Nat.add_mul]; congr 1; omega
    have e4 : (i + 1) * sz = i * sz + sz := by rw [Nat.add_mul, Nat.one_mul]
    rw [if_neg (by omega)] at hy
    have hr2 := run_append_grow (P := P) w t ty e ii z ht hii hz ⟨g, 0, none⟩ i i (newsOf C (i * sz)) (by rw [newsOf_length, hsize]) (fun j u hj => by
      have hlt : j < i * sz := by
        have := (List.getElem?_eq_some_iff.1 hj).1
        rwa [newsOf_length] at this
      exact frow_reads hrow (show i ≤ k by omega) 0 (by omega) j u (by
        rw [newsOf_at hlt] at hj ⊢
        simpa using hj)) ⟨g, (i + 1) * sz, none⟩ (len - (i + 1)) q (newsOf (fun j => C ((i + 1) * sz + j)) ((len - (i + 1)) * sz)) (by rw [newsOf_length, hsize])
        (frow_reads hrow (show len - (i + 1) ≤ k by omega) ((i + 1) * sz) (by omega)) (by omega) (by simp only [maxLen] at hmax; omega) (growslice_fits (by omega) (by rw [show i + (len - (i + 1)) = len - 1 by omega]; exact hbytes))
    rw [show i + (len - (i + 1)) = len - 1 by omega] at hr2
    have hg := grown_row (P := P) (w := w) (e := e) (sz := sz) (i := ii) (z := z) (xs := newsOf C (i * sz) ++ newsOf (fun j => C ((i + 1) * sz + j)) ((len - (i + 1)) * sz)) (k := len - 1) (old := i) hsize hzs (by rw [List.length_append, newsOf_length, newsOf_length, e2]) hmax
    have e3 : (newsOf C (i * sz) ++ newsOf (fun j => C ((i + 1) * sz + j)) ((len - (i + 1)) * sz)).toArray = (newsOf C (i * sz)).toArray ++ (newsOf (fun j => C ((i + 1) * sz + j)) ((len - (i + 1)) * sz)).toArray := by simp
    rw [e3] at hg
    have hx2 := hw.write hH rfl (fun b' o hb => .inr (by simp only [Ent.area, Value.ownBlock, Option.some.injEq] at hb; omega)) (keep_fresh w _ _) hg
    rw [newsOf_app, e2] at hx2
    have fin : ∀ (v9 : Value) (w9 : World), (Builtin.append_ #[t, t] ty #[.slice (some ⟨g, 0, none⟩) i i, .slice (some ⟨g, (i + 1) * sz, none⟩) (len - (i + 1)) q]).run P w = .ok v9 w9 → (execOp a.eval ⟨some d, .call ⟨.builtin .append, #[x, y], #[t, t]⟩, ty, pos, af, none⟩).run P w = .ok (.value v9) w9 := fun v9 w9 h9 => by
      simp [execOp, resolve, invoke, builtin, ev_eval ha hx, ev_eval ha hy, h9]
    refine ⟨⟨_, _, len - 1, len - 1, _, fun j => if j < i * sz then C j else C ((i + 1) * sz + (j - i * sz))⟩, _, ⟨.inl ⟨rfl, rfl⟩, rfl, fun j hj => if_pos hj, fun j h1 h2 => ?_⟩, ?_, hx2⟩
    · show (if j < i * sz then _ else _) = _
      rw [if_neg (by omega)]
      congr 1
      omega
    · exact fin _ _ hr2
/-- a new variable -/
theorem RG.box {t : TypeId} {x : Operand} {v : Value} {m : Nat} {C : Nat → Value} (hx : ev L x = some v) (hm : v.cells.size = m) (hC : ∀ i, i < m → cellsOf v.cells i = C i) :
    RunsG P n L (XM W S H) ⟨some d, .box t x, ty, pos, af, none⟩ (fun _ : Nat => True) (fun b => ptr b 0 0) (fun b => XM W S (.cells b 0 m C :: H)) := fun a w ha hw => by
  have hx' := hw.alloc v.cells t C (fun i hi => by rw [cellsOf_spec _ _ hi, hC i (hm ▸ hi)])
  rw [hm] at hx'
  exact ⟨_, _, trivial, by simp [execOp, ev_eval ha hx, Instr.box, newVar, newRow, newObj, Sem.run, ptr], hx'⟩
/-- a slice of what is told -/
theorem RG.build {t e : TypeId} {parts : Array (Nat × Operand)} {vs : Array (Nat × Value)} {k m : Nat} {A : Array Value} (hp : parts.toList.mapM (fun x => (ev L x.2).map fun u => (x.1, u)) = some vs.toList)
    (hb : ∀ w, (Instr.buildSlice t k vs).run P w = .ok (.slice (some ⟨w.heap.size, 0, none⟩) k k) (w.alloc (.cells A e))) (hA : A.size = m) :
    RunsG P n L (XM W S H) ⟨some d, .buildSlice t k parts, ty, pos, af, none⟩ (fun _ : Nat => True) (fun b => .slice (some ⟨b, 0, none⟩) k k) (fun b => XM W S (.cells b 0 m (cellsOf A) :: H)) := fun a w ha hw => by
  have hx' := hw.alloc A e (cellsOf A) (fun i hi => cellsOf_spec _ _ hi)
  rw [hA] at hx'
  have hv : parts.map (fun (i, x) => (i, a.eval x)) = vs := by
    apply Array.toList_inj.1
    rw [Array.toList_map]
    exact mapM_parts ha _ _ hp
  exact ⟨_, _, trivial, by simp only [execOp, hv, Sem.run_bind, hb, Result.andThen_ok, Sem.run_pure], hx'⟩
/-! ### structs of two ints, held against one another -/
def okF2 (P : Program) (f : Field) (o : Nat) : Bool := (match P.underlying f.type with
  | some (.int _) => Nat.beq f.offset o
  | _ => false) && !(f.name == "_")
def two (P : Program) (t : TypeId) : Bool := match (P.fieldsOf t).toList with
  | [f, g] => okF2 P f 0 && okF2 P g 1
  | _ => false
theorem XO.rowLen {p : Option Addr} {k cap sz : Nat} {e : TypeId} {xs : List Value} (hH : Has H (.row (.slice p k cap) e sz k xs))
    (h : k ≤ cap → XO P n ops Q rest L (XM W S H)) : XO P n ops Q rest L (XM W S H) := fun a w ha hw => h (frow_len (hw.good.1 _ hH.mem)) a w ha hw
end
end Go.X

namespace Go.X
open Go
section
variable {P : Program} {n : Fr} {Q : Exit → Act → World → Prop} {L : PF} {ops : Array Oper} {rest : List Oper} {op : Op} {ty : TypeId} {pos : String} {af : Array Edge} {d : Nat}
variable {W : World} {S : Nat → Nat → Prop} {H H' : List Ent} {M : World → Prop} {α : Type}
theorem XQ.g {G : α → Prop} {val : α → Value} {M' : α → World → Prop} {B : Obl} {f i : Nat} {l l' : Array Bool} (ho : ops[i]? = some ⟨some d, op, ty, pos, af, none⟩) (hk : Region.ready .any ops l = [i]) (hl : l.setIfInBounds i true = l')
    (hr : RunsG P n L M ⟨some d, op, ty, pos, af, none⟩ G val M') (hd : Nat.blt d n.sz = true) (hob : ∀ x w, M' x w → JL B l' w)
    (h : ∀ x, G x → XQ P n ops Q B f l' ((d, val x) :: L) (M' x)) : XQ P n ops Q B (f + 1) l L M := by
  subst hl
  refine XQ.step ho rfl hk fun hcl a w ha hw hJ => ?_
  obtain ⟨x, w', hg, h1, h2⟩ := hr a w ha hw
  unfold Oper.wp
  rw [h1]
  exact h x hg hcl _ _ (ha.put hd _) h2 (hob x _ h2)
theorem XQ.rowLen {p : Option Addr} {k cap sz f : Nat} {e : TypeId} {xs : List Value} {B : Obl} {l : Array Bool} (hH : Has H (.row (.slice p k cap) e sz k xs))
    (h : k ≤ cap → XQ P n ops Q B f l L (XM W S H)) : XQ P n ops Q B f l L (XM W S H) := fun hc a w ha hw hJ => h (frow_len (hw.good.1 _ hH.mem)) hc a w ha hw hJ
theorem XQ.openRow {p : Option Addr} {k cap sz f : Nat} {e : TypeId} {xs : List Value} {B : Obl} {l : Array Bool} (hH : Has H (.row (.slice p k cap) e sz k xs)) (hk : 0 < k)
    (h : ∀ g, p = some ⟨g, 0, none⟩ → XQ P n ops Q B f l L (XM W S H)) : XQ P n ops Q B f l L (XM W S H) := by
  intro hc a w ha hw hJ
  have hrow : (Ent.row (.slice p k cap) e sz k xs).holds w := hw.good.1 _ hH.mem
  rcases hrow.2 with ⟨hv, rfl⟩ | ⟨g, _, _, hv, _⟩
  · omega
  · simp only [Value.slice.injEq] at hv
    exact h g hv.1 hc a w ha hw hJ
end
/-! ### where two can come next -/
section
variable {P : Program} {n : Fr} {L : PF} {ops : Array Oper} {Q : Exit → Act → World → Prop} {ty : TypeId} {pos : String} {af : Array Edge} {d f i : Nat} {B : Obl} {l l' : Array Bool}
def XS (P : Program) (n : Fr) (ops : Array Oper) (Q : Exit → Act → World → Prop) (B : Obl) (f : Nat) (l : Array Bool) (i : Nat) (L : PF) (M : World → Prop) : Prop :=
  i ∈ Region.ready .any ops l → Closed ops l → ∀ a w, Sat n L a → M w → JL B l w → wpOp P ops (nrm Q) i (wpJ P ops Q B f (l.setIfInBounds i true)) a w
theorem XQ.fork {i j : Nat} {M : World → Prop} (hk : Region.ready .any ops l = [i, j]) (h1 : XS P n ops Q B f l i L M) (h2 : XS P n ops Q B f l j L M) : XQ P n ops Q B (f + 1) l L M := by
  intro hc a w ha hw hJ
  refine ⟨hJ, fun h0 => (by rw [hk] at h0; cases h0), fun x hx => ?_⟩
  have hx' := hx
  rw [hk] at hx'
  rcases List.mem_cons.1 hx' with rfl | hx'
  · exact h1 hx hc a w ha hw hJ
  · obtain rfl := List.mem_singleton.1 hx'
    exact h2 hx hc a w ha hw hJ
theorem XS.step {o : Oper} {M : World → Prop} (ho : ops[i]? = some o) (hg : o.guard = none)
    (h : Closed ops (l.setIfInBounds i true) → ∀ a w, Sat n L a → M w → JL B l w → o.wp P a w (wpJ P ops Q B f (l.setIfInBounds i true)) (nrm Q)) : XS P n ops Q B f l i L M := by
  intro hr hc a w ha hw hJ
  unfold wpOp
  simp only [ho]
  rw [if_pos (by simp [Region.wanted, hg])]
  exact .inl (h (closed_set hc hr) a w ha hw hJ)
theorem XS.call {W : World} {S : Nat → Nat → Prop} {H : List Ent} {g : FuncId} {xs : List Operand} {vs : List Value} {ats : Array TypeId} {pre F : List Ent} {post : Value → List Ent → Prop}
    (ho : ops[i]? = some ⟨some d, .call ⟨.value (.func g), xs.toArray, ats⟩, ty, pos, af, none⟩) (hl : l.setIfInBounds i true = l') (he : evs L xs = some vs) (hs : Spec P g vs pre post) (hp : Pick H pre F)
    (hc : callable P g = true) (hd : Nat.blt d n.sz = true) (hob : ∀ v H1, post v H1 → ∀ w, XM W S (H1 ++ F) w → JL B l' w)
    (h : ∀ v H1, post v H1 → XQ P n ops Q B f l' ((d, v) :: L) (XM W S (H1 ++ F))) : XS P n ops Q B f l i L (XM W S H) := by
  subst hl
  refine XS.step ho rfl fun hcl a w ha hw hJ => ?_
  unfold Oper.wp
  rw [run_call hc (evs_eval ha xs vs he)]
  show Calls P g vs.toArray w _
  refine (hs w (hw.pick hp).good).mono ?_
  rintro e w' ⟨v, H1, rfl, hpost, hwr, hx⟩
  have hx' := hw.called hp hx (fun e he => List.all_eq_true.1 hwr e he)
  exact h v H1 hpost hcl _ _ (ha.put hd v) hx' (hob v H1 hpost _ hx')
theorem XS.allocZ {W : World} {S : Nat → Nat → Prop} {H : List Ent} {t : TypeId} {z : Value} {m : Nat} {C : Nat → Value} (ho : ops[i]? = some ⟨some d, .alloc t, ty, pos, af, none⟩) (hl : l.setIfInBounds i true = l')
    (hz : zeroOf P t = some z) (hm : z.cells.size = m) (hC : ∀ i, i < m → cellsOf z.cells i = C i) (hd : Nat.blt d n.sz = true) (hob : ∀ b w, XM W S (.cells b 0 m C :: H) w → JL B l' w)
    (h : ∀ b, XQ P n ops Q B f l' ((d, ptr b 0 0) :: L) (XM W S (.cells b 0 m C :: H))) : XS P n ops Q B f l i L (XM W S H) := by
  subst hl
  refine XS.step ho rfl fun hcl a w ha hw hJ => ?_
  have hx := hw.alloc z.cells t C (fun i hi => by rw [cellsOf_spec _ _ hi, hC i (hm ▸ hi)])
  rw [hm] at hx
  unfold Oper.wp
  have : (execOp a.eval ⟨some d, .alloc t, ty, pos, af, none⟩).run P w = .ok (.value (ptr w.heap.size 0 0)) (w.alloc (.cells z.cells t)) := by
    simp [execOp, Instr.alloc, run_zeroValue hz, newVar, newRow, newObj, Sem.run, ptr]
  rw [this]
  exact h _ hcl _ _ (ha.put hd _) hx (hob _ _ hx)
theorem XS.g {op : Op} {M : World → Prop} {α : Type} {G : α → Prop} {val : α → Value} {M' : α → World → Prop} (ho : ops[i]? = some ⟨some d, op, ty, pos, af, none⟩) (hl : l.setIfInBounds i true = l')
    (hr : RunsG P n L M ⟨some d, op, ty, pos, af, none⟩ G val M') (hd : Nat.blt d n.sz = true) (hob : ∀ x w, M' x w → JL B l' w)
    (h : ∀ x, G x → XQ P n ops Q B f l' ((d, val x) :: L) (M' x)) : XS P n ops Q B f l i L M := by
  subst hl
  refine XS.step ho rfl fun hcl a w ha hw hJ => ?_
  obtain ⟨x, w', hg, h1, h2⟩ := hr a w ha hw
  unfold Oper.wp
  rw [h1]
  exact h x hg hcl _ _ (ha.put hd _) h2 (hob x _ h2)
end
end Go.X

namespace Go.X
open Go
theorem Spec.goM {P : Program} [Tb P] {L : SF} {c : Code} {f : FuncId} {fn : Func} {args : List Value} {pre : List Ent} {post : Value → List Ent → Prop} (k : Nat) (ps : List Nat) (cs : List (Nat × Nat)) (hf : P.funcs[f]? = some fn) (hb : fn.body = some c) (hk : fn.ntmps = k) (hn : Nat.ble args.length fn.ntmps = true)
    [r : RfL (ofArgs 0 args) L] (h : ∀ W, Run P (fr k ps cs) (bodyPostM Fence.wide 3 P fn fun e w' => ∃ v H', e = .returned v ∧ post v H' ∧ H'.all Ent.wr = true ∧ XM W (foot pre) H' w') (XM W (foot pre) pre) 3000 [] (.c c) L) : Spec P f args pre post := by
  subst hk
  refine Spec.introM (kp := ps) (cs := cs) hf hb hn fun W => ?_
  rw [← r.h]
  exact run_ok _ [] (.c _) _ (h W)
end Go.X

/-! regions whose order is open, in what an iterator calls -/
namespace Go.X
open Go
section
variable {P : Program} {n : Fr} {Q : Exit → Act → World → Prop} {L : PF} {M : World → Prop}
theorem XB.regionQ {i : Nat} {os : List Oper} {f : Nat} {l : Array Bool} (hm : P.follows .mixedOrders = true) (hf : os.length = f) (hl : Array.replicate f false = l) (hM : ∀ w k, M w → M { w with drawn := w.drawn + k })
    (h : XQ P n os.toArray Q [] f l L M) (hn : noDef os = true := by rfl) : XB P n (.region i os.toArray true) Q L M := fun a w ha hw => by
  subst hf; subst hl
  refine ⟨by simpa using hn, hm, ?_⟩
  have := wpAny_of_J _ _ _ _ (h (closed_none _ _) a _ ha (hM w 1 hw) trivial)
  simpa using this
end
end Go.X

namespace Go.X
open Go
/-! ### calls of function values -/
section
variable {P : Program} {n : Fr} {Q : Exit → Act → World → Prop} {L : PF} {ops : Md} {rest : List Oper} {ty : TypeId} {pos : String} {af : Array Edge} {d : Nat}
variable {W : World} {S : Nat → Nat → Prop} {H : List Ent}
theorem V.indexAggN {t e : TypeId} {x y : Operand} {A B : Array Value} {m sz : Nat} {k : IntKind} {z : Int} {φ : World → Prop} {gd : Option (Nat × Bool)} (hx : ev L x = some (.agg A)) (hy : ev L y = some (.int k z)) (ht : P.underlying t = some (.array m e)) (hs : szOf P e = some sz) (he : aggT P e = true) (hz : 0 ≤ z ∧ z < m) (hv : A.extract (z.toNat * sz) (z.toNat * sz + sz) = B) :
    RunsTo P n L φ ⟨some d, .index t x y, ty, pos, af, gd⟩ (.agg B) := fun a w ha _ => by
  have hp : (part e A (z.toNat * sz)).run P w = .ok (.agg B) w := by
    simp [part, run_isAgg_agg he, run_sizeOf hs, hv]
  simp only [execOp, ev_eval ha hx, ev_eval ha hy, Instr.index, asIntOf, Sem.run_bind, Sem.run_pure, Result.andThen_ok, run_underlying ht, hz, run_sizeOf hs]
  simp only [Sem.run_bind, run_sizeOf hs, Result.andThen_ok, hp, true_and, and_self, if_true]
/-! ### a variable of one cell -/

end
end Go.X

namespace Go.X
open Go Go.Proofs Go.Shelf Go.Sort
/-! ### slices.SortFunc, by the kit's contract, as a contract of this engine -/
/-- what is asked of a comparison: it leaves all as it was, but for what it lays anew -/
def CmpC (P : Program) (gcl : Nat) {α : Type} (enc : α → List Value) (cf : α → α → Int) : Prop :=
  ∀ x y w, Calls P gcl #[.agg (enc x).toArray, .agg (enc y).toArray] w fun e w' => e = .returned (.int .i64 (cf x y)) ∧ ∃ os', w' = grow w os'
theorem cmp_lays {P : Program} {gcl : Nat} {α : Type} {enc : α → List Value} {k : Nat} {cf : α → α → Int} [Inhabited α]
    (h : CmpC P gcl enc cf) (blk off size : Nat) (w : World) : CmpLays P gcl #[] enc k cf blk off size w :=
  fun m os dk _ x y => (h x y _).mono fun e w' ⟨he, os', hw⟩ => ⟨he, 0, os', hw⟩
section
variable {P : Program} {n : Fr} {Q : Exit → Act → World → Prop} {L : PF} {ops : Md} {rest : List Oper} {ty : TypeId} {pos : String} {af : Array Edge} {d : Nat}
/-- a box, in a world that is known whole -/
theorem XO.boxW {t : TypeId} {x : Operand} {v : Value} {w1 : World} (hx : ev L x = some v) (hd : Nat.blt d n.sz = true)
    (h : XO P n ops Q rest ((d, ptr w1.heap.size 0 0) :: L) (fun w => w = w1.alloc (.cells v.cells t))) : XO P n ops Q (⟨some d, .box t x, ty, pos, af, none⟩ :: rest) L (fun w => w = w1) :=
  XO.op rfl fun a w ha hw => by
    subst hw
    unfold Oper.wp
    have : (execOp a.eval ⟨some d, .box t x, ty, pos, af, none⟩).run P w = .ok (.value (ptr w.heap.size 0 0)) (w.alloc (.cells v.cells t)) := by
      simp [execOp, ev_eval ha hx, Instr.box, newVar, newRow, newObj, Sem.run, ptr]
    rw [this]
    exact h _ _ (ha.put hd _) rfl
theorem boxW_at {w : World} {A B : Array Value} {t t' : TypeId} {i : Nat} {v : Value} (h : A[i]? = some v) : ((w.alloc (.cells A t)).alloc (.cells B t')).cell? ⟨w.heap.size, i, none⟩ = some v := by
  have e : ((w.alloc (.cells A t)).alloc (.cells B t')).heap[w.heap.size]? = some (.cells A t) := by
    rw [heap_alloc_old _ _ (by simp)]; exact heap_alloc_new w _
  simp [World.cell?, e, h]
theorem boxW_at2 {w : World} {A B : Array Value} {t t' : TypeId} {i : Nat} {v : Value} (h : B[i]? = some v) : ((w.alloc (.cells A t)).alloc (.cells B t')).cell? ⟨(w.alloc (.cells A t)).heap.size, i, none⟩ = some v := by
  have e : ((w.alloc (.cells A t)).alloc (.cells B t')).heap[(w.alloc (.cells A t)).heap.size]? = some (.cells B t') := heap_alloc_new _ _
  simp only [World.cell?, e, h]
  rfl
theorem V.loadW {t : TypeId} {x : Operand} {b i : Nat} {v : Value} {φ : World → Prop} (hx : ev L x = some (ptr b 0 i)) (hc : ∀ w, φ w → w.cell? ⟨b, i, none⟩ = some v) (ht : scal P t = true) :
    RunsTo P n L φ (⟨some d, .load t x, ty, pos, af, none⟩) v := fun a w ha hw => by
  have hc' := hc w hw
  have hr := run_loadVar_scal ht hc'
  simp [execOp, ev_eval ha hx, Instr.loadAt, Instr.sureAddr, ptr, hr]
theorem grow_two (w : World) (A B : Obj) : (w.alloc A).alloc B = grow w #[A, B] := by
  simp only [World.alloc_eq, grow]
  congr 1
end
theorem holds_of_row {w : World} {g cap n k : Nat} {e : TypeId} {F : Array Value} (h : (Ent.row (.slice (some ⟨g, 0, none⟩) n cap) e k n F.toList).holds w) : Holds id w g 0 F := by
  intro j hj
  have hc := cell_of_row h (j := j) (v := F[j]!) (by simp [hj])
  obtain ⟨cur, hb, _⟩ := frow_open h
  refine ⟨?_, ?_⟩
  · rw [Nat.zero_add] at hc ⊢; exact hc
  · simp [World.frozen?, hb]
theorem take_put (cur F : Array Value) (h : F.size ≤ cur.size) : (putCells id 0 F cur).toList.take F.size = F.toList := by
  apply List.ext_getElem?
  intro j
  by_cases hj : j < F.size
  · rw [List.getElem?_take_of_lt hj, Array.getElem?_toList, Array.getElem?_toList]
    simp [putCells, hj, show j < cur.size by omega]
  · rw [List.getElem?_take_eq_none (by omega), List.getElem?_eq_none (by simp; omega)]
theorem sorted_row {w : World} {g cap n k m : Nat} {e : TypeId} {F F' : Array Value} {os : Array Obj} (h : (Ent.row (.slice (some ⟨g, 0, none⟩) n cap) e k n F.toList).holds w) (hF : F'.size = F.size) :
    XM w (foot [.row (.slice (some ⟨g, 0, none⟩) n cap) e k n F.toList]) [.row (.slice (some ⟨g, 0, none⟩) n cap) e k n F'.toList] (grow (putRow id (Sort.ahead w m) g 0 F') os) := by
  obtain ⟨cur, hb, h1, h2, h3, h4⟩ := frow_open h
  have hg : g < w.heap.size := lt_of_heap hb
  have hFs : F.size = n * k := by simpa using h.1
  have hnk : n * k ≤ cur.size := by rw [h3]; exact Nat.mul_le_mul_right _ h1
  have hnew : (grow (putRow id (Sort.ahead w m) g 0 F') os).heap[g]? = some (.cells (putCells id 0 F' cur) e (0, 0)) := by
    rw [heap_grow_old _ _ (by simpa using hg)]
    simp [putRow, mapBlock, Sort.ahead, Array.getElem?_modify, hb, onCells]
  have hold : ∀ b, b < w.heap.size → ¬ b = g → (grow (putRow id (Sort.ahead w m) g 0 F') os).heap[b]? = w.heap[b]? := fun b hb2 hne => by
    rw [heap_grow_old _ _ (by simpa using hb2)]
    have : ¬ g = b := fun q => hne q.symm
    simp [putRow, mapBlock, Sort.ahead, Array.getElem?_modify, this]
  have hS : ∀ o, foot [.row (.slice (some ⟨g, 0, none⟩) n cap) e k n F.toList] g o := fun o => ⟨_, List.mem_singleton.2 rfl, rfl, rfl⟩
  refine ⟨⟨fun x hx => ?_, by simp⟩, ⟨rfl, rfl, rfl, by simp [putRow, mapBlock, Sort.ahead], fun b hb2 hn => hold b hb2 (fun q => hn 0 (by rw [q]; exact hS 0)), fun b A t fz hA => ?_⟩, fun x hx _ b o ha => .inr ?_⟩
  · simp only [List.mem_singleton] at hx
    subst hx
    refine ⟨by simp [hF, hFs], .inr ⟨g, cap, _, rfl, Nat.zero_le _, hnew, h1, h2, by simp [putCells, h3], ?_⟩⟩
    have := take_put cur F' (by omega)
    rw [hF, hFs] at this
    exact this
  · by_cases hbg : b = g
    · subst hbg
      rw [hb] at hA
      simp only [Option.some.injEq, Obj.cells.injEq] at hA
      obtain ⟨rfl, rfl, rfl⟩ := hA
      exact ⟨_, hnew, by simp [putCells], fun o hn => absurd (hS o) hn⟩
    · exact ⟨A, by rw [hold b (lt_of_heap hA) hbg]; exact hA, rfl, fun _ _ => rfl⟩
  · simp only [List.mem_singleton] at hx
    subst hx
    exact ⟨_, List.mem_singleton.2 rfl, rfl, ha⟩
theorem sort_row {P : Program} {ρ : Ren} {α : Type} [Inhabited α] (L : SlLaysF0.n6 P ρ) (k : Nat) (aE : ∀ w, (isAgg (ρ.t 24)).run P w = .ok true w) (zE : ∀ w, (Go.sizeOf (ρ.t 24)).run P w = .ok k w) (enc : α → List Value) (hk : ∀ x, (enc x).length = k)
    (h1 : ∀ x, ∀ v ∈ enc x, v.oneCell' = true) (cf : α → α → Int) (hO : SWO (ltOf cf)) (gcl : Nat) (eg : ∀ args w, (callFunc gcl args).run P w = .ok (.enter gcl args) w)
    (hc : CmpC P gcl enc cf) (p : Option Addr) (n cap : Nat) (e : TypeId) (d : Array α) (hn : d.size = n) (hlt : n ≤ 100000000000) :
    Spec P (ρ.f 6) [.slice p n cap, .func (.func gcl) #[] #[]] [.row (.slice p n cap) e k n (flatK enc k d).toList]
      (fun v H1 => v = .tuple #[] ∧ ∃ d', PermIn 0 n d d' ∧ SortedIn (ltOf cf) 0 n d' ∧ H1 = [.row (.slice p n cap) e k n (flatK enc k d').toList]) := by
  intro w hw
  have hrow := hw.1 _ (List.mem_singleton.2 rfl)
  rcases hrow.2 with ⟨hv, hn0⟩ | ⟨g, cap', cur, hv, _, hb, _⟩
  · simp only [Value.slice.injEq] at hv
    obtain ⟨rfl, _, rfl⟩ := hv
    subst hn0
    refine (AnyF.slices_SortFunc_none L none 0 _ w).mono fun ee w' ⟨he, hw'⟩ => ⟨_, _, he, ⟨rfl, d, ⟨rfl, fun _ _ => rfl, .refl _⟩, fun i j _ hij hj => by omega, rfl⟩, rfl, ?_⟩
    subst hw'
    exact XM.start hw
  · simp only [Value.slice.injEq, true_and] at hv
    obtain ⟨rfl, rfl⟩ := hv
    subst hn
    refine (AnyQ.slices_SortFunc L k aE zE enc hk h1 cf hO gcl #[] g 0 cap d w eg (cmp_lays hc g 0 d.size w) (holds_of_row hrow) (lt_of_heap hb) (by omega)).mono fun ee w' ⟨he, d', nn, os, hp, hs, hw'⟩ =>
      ⟨_, _, he, ⟨rfl, d', hp, hs, rfl⟩, rfl, ?_⟩
    subst hw'
    exact sorted_row hrow (by simp [hp.1])
end Go.X

namespace Go.X
open Go Go.Proofs Go.Shelf
/-! ### slices.BinarySearch, Insert, Delete, Clone by the kit's contracts, as contracts of this engine -/
def strs (l : List ByteArray) : List Value := l.map Value.string
def sat0 (l : List ByteArray) (z : Int) : ByteArray := l.getD z.toNat ByteArray.empty
abbrev srow (p : Option Addr) (cap : Nat) (e : TypeId) (l : List ByteArray) : Ent := .row (.slice p l.length cap) e 1 l.length (strs l)
/-- a run of cells written into an array -/
def setA (A : Array Value) : Nat → List Value → Array Value
  | _, [] => A
  | o, v :: r => setA (A.setIfInBounds o v) (o + 1) r
theorem Keep.more {a b : World} {S T : Nat → Nat → Prop} (h : Keep a b S) (hST : ∀ x o, S x o → T x o) : Keep a b T :=
  ⟨h.os, h.tape, h.output, h.size, fun b hb hn => h.same b hb (fun o q => hn o (hST b o q)), fun b A t fz hA => by
    obtain ⟨A', h1, h2, h3⟩ := h.part b A t fz hA
    exact ⟨A', h1, h2, fun o hn => h3 o (fun q => hn (hST b o q))⟩⟩
section
variable {P : Program} {ρ : Ren}
/-- what a call leaves of a row, as the engine wants it -/
structure Left (w w' : World) (v v' : Value) (e : TypeId) (k' : Nat) (xs' : List Value) : Prop where
  row : (Ent.row v' e 1 k' xs').holds w'
  keep : Keep w w' (fun b _ => v.ownBlock = some b)
  own : ∀ b, v'.ownBlock = some b → v.ownBlock = some b ∨ w.heap.size ≤ b
theorem row_view {w : World} {p : Option Addr} {cap k : Nat} {e : TypeId} {xs : List Value} (h : (Ent.row (.slice p k cap) e 1 k xs).holds w) :
    (p = none ∧ cap = 0 ∧ k = 0 ∧ xs = []) ∨ ∃ g cur, p = some ⟨g, 0, none⟩ ∧ w.heap[g]? = some (.cells cur e (0, 0)) ∧ k ≤ cap ∧ cap ≤ maxLen ∧ cur.size = cap ∧ xs.length = k ∧ cur.toList.take k = xs := by
  rcases h.2 with ⟨hv, rfl⟩ | ⟨g, cap', cur, hv, _, h1, h2, h3, h4, h5⟩
  · simp only [Value.slice.injEq] at hv
    obtain ⟨rfl, _, rfl⟩ := hv
    exact .inl ⟨rfl, rfl, rfl, List.eq_nil_of_length_eq_zero (by simpa using h.1)⟩
  · simp only [Value.slice.injEq, true_and] at hv
    obtain ⟨rfl, rfl⟩ := hv
    exact .inr ⟨g, cur, rfl, h1, h2, h3, by simpa using h4, by simpa using h.1, by simpa using h5⟩
def bsS (l : List ByteArray) (x : ByteArray) : Nat := Lib.bsGo (fun t => Op.bytesLess (l.getD t ByteArray.empty).toList x.toList) l.length 0 l.length
def bsHit (l : List ByteArray) (x : ByteArray) : Bool := decide (bsS l x < l.length ∧ l.getD (bsS l x) ByteArray.empty = x)
theorem strs_get {l : List ByteArray} {j : Nat} (h : j < l.length) : (strs l)[j]? = some (.string (l.getD j ByteArray.empty)) := by simp [strs, List.getD, h]
theorem search_row (L : Lays2.n26 P ρ) (p : Option Addr) (cap : Nat) (e : TypeId) (l : List ByteArray) (x : ByteArray) (hl : l.length ≤ 1000000) :
    Spec P (ρ.f 26) [.slice p l.length cap, .string x] [srow p cap e l] (fun v H1 => v = .tuple #[.int .i64 (bsS l x), .bool (bsHit l x)] ∧ H1 = [srow p cap e l]) := by
  intro w hw
  have hrow : (srow p cap e l).holds w := hw.1 _ (by simp)
  have nil : l = [] → Calls P (ρ.f 26) [.slice p l.length cap, .string x].toArray w fun ee w' => ∃ v H', ee = .returned v ∧ (v = .tuple #[.int .i64 (bsS l x), .bool (bsHit l x)] ∧ H' = [srow p cap e l]) ∧ H'.all Ent.wr = true ∧ XM w (foot [srow p cap e l]) H' w' := fun h => by
    subst h
    refine (Any2.slices_BinarySearch_string_empty L p cap x w).mono fun ee w' ⟨he, hw'⟩ => ⟨_, _, he, ⟨rfl, rfl⟩, rfl, ?_⟩
    subst hw'
    exact XM.start hw
  rcases row_view hrow with ⟨rfl, rfl, hk, hx⟩ | ⟨g, cur, rfl, h1, h2, h3, h4, h5, h6⟩
  · exact nil (List.eq_nil_of_length_eq_zero hk)
  · refine (Any2.slices_BinarySearch_string L g 0 l.length cap (fun t => l.getD t ByteArray.empty) x w (by omega) (fun j hj => cell_of_row hrow (strs_get hj))).mono fun ee w' ⟨he, q, hw'⟩ => ⟨_, _, he, ⟨rfl, rfl⟩, rfl, ?_⟩
    subst hw'
    exact (XM.start hw).drawn q
end
end Go.X

namespace Go.X
open Go Go.Proofs
/-! ### bytes: made, copied into, cut, told as a string -/
def byteT (P : Program) (t : TypeId) : Bool := match P.underlying t with
  | some (.slice e) => (match P.underlying e with
      | some (.int .u8) => true
      | _ => false) && (match P.info? e with
      | some i => Nat.beq i.size 1 && Nat.ble i.bytes 1000 && (match i.zero with
          | some (.int .u8 z) => decide (z = 0)
          | _ => false)
      | none => false)
  | _ => false
def bv (b : UInt8) : Value := .int .u8 (b.toNat : Int)
section
variable {P : Program} {n : Fr} {Q : Exit → Act → World → Prop} {L : PF} {ops : Md} {rest : List Oper} {ty : TypeId} {pos : String} {af : Array Edge} {d : Nat} {W : World} {S : Nat → Nat → Prop} {H H' : List Ent} {φ : World → Prop} {gd : Option (Nat × Bool)}
end
end Go.X

namespace Go.X
open Go Go.X

/-! ### acts -/
structure ActV where
  kind : ByteArray
  a : Int
  b : Int
  c : Int
  key : Int
  on : Bool
  s : ByteArray
  t : ByteArray
def actZero : Array Value := #[.string ⟨#[]⟩, .int .i64 0, .int .i64 0, .int .i64 0, .int .u64 0, .bool false, .string ⟨#[]⟩, .string ⟨#[]⟩]
def encAct (x : ActV) (i : Nat) : Value :=
  if i = 0 then .string (x.kind) else
  if i = 1 then .int .i64 (x.a) else
  if i = 2 then .int .i64 (x.b) else
  if i = 3 then .int .i64 (x.c) else
  if i = 4 then .int .u64 (x.key) else
  if i = 5 then .bool (x.on) else
  if i = 6 then .string (x.s) else
  if i = 7 then .string (x.t) else
  undef
theorem encAct.ld_Kind (x : ActV) : (0 + 0) < 8 ∧ encAct x (0 + 0) = .string (x.kind) := by
  refine ⟨by omega, ?_⟩
  unfold encAct
  rw [if_pos (by omega)]
theorem encAct.ld_A (x : ActV) : (0 + 1) < 8 ∧ encAct x (0 + 1) = .int .i64 (x.a) := by
  refine ⟨by omega, ?_⟩
  unfold encAct
  rw [if_neg (by omega)]
  rw [if_pos (by omega)]
theorem encAct.ld_B (x : ActV) : (0 + 2) < 8 ∧ encAct x (0 + 2) = .int .i64 (x.b) := by
  refine ⟨by omega, ?_⟩
  unfold encAct
  rw [if_neg (by omega)]
  rw [if_neg (by omega)]
  rw [if_pos (by omega)]
theorem encAct.ld_S (x : ActV) : (0 + 6) < 8 ∧ encAct x (0 + 6) = .string (x.s) := by
  refine ⟨by omega, ?_⟩
  unfold encAct
  rw [if_neg (by omega)]
  rw [if_neg (by omega)]
  rw [if_neg (by omega)]
  rw [if_neg (by omega)]
  rw [if_neg (by omega)]
  rw [if_neg (by omega)]
  rw [if_pos (by omega)]
theorem encAct.ld_T (x : ActV) : (0 + 7) < 8 ∧ encAct x (0 + 7) = .string (x.t) := by
  refine ⟨by omega, ?_⟩
  unfold encAct
  rw [if_neg (by omega)]
  rw [if_neg (by omega)]
  rw [if_neg (by omega)]
  rw [if_neg (by omega)]
  rw [if_neg (by omega)]
  rw [if_neg (by omega)]
  rw [if_neg (by omega)]
  rw [if_pos (by omega)]

structure ActV.ok (x : ActV) : Prop where
  a : -9223372036854775808 ≤ x.a ∧ x.a ≤ 9223372036854775807
  b : -9223372036854775808 ≤ x.b ∧ x.b ≤ 9223372036854775807
  c : -9223372036854775808 ≤ x.c ∧ x.c ≤ 9223372036854775807
  key : 0 ≤ x.key ∧ x.key ≤ 18446744073709551615
  s : x.s.size ≤ 9223372036854775807
  t : x.t.size ≤ 9223372036854775807
  kind : x.kind.size ≤ 9223372036854775807

def encActs (A : Int → ActV) (i : Nat) : Value := encAct (A ((i / 8 : Nat) : Int)) (i % 8)
theorem acts_load (A : Int → ActV) (len : Nat) (z : Int) (q : 0 ≤ z ∧ z < len) : 0 + z.toNat * 8 + 8 ≤ 8 * len ∧ aggOf (encActs A) (0 + z.toNat * 8) 8 =
    .agg #[.string (A z).kind, .int .i64 (A z).a, .int .i64 (A z).b, .int .i64 (A z).c, .int .u64 (A z).key, .bool (A z).on, .string (A z).s, .string (A z).t] := by
  refine ⟨by omega, ?_⟩
  have h : ∀ j, j < 8 → encActs A (0 + z.toNat * 8 + j) = encAct (A z) j := fun j hj => by
    unfold encActs
    rw [show (((0 + z.toNat * 8 + j) / 8 : Nat) : Int) = z from by omega, show (0 + z.toNat * 8 + j) % 8 = j from by omega]
  simp only [aggOf, List.range, List.range.loop, List.map_cons, List.map_nil]
  rw [h 0 (by omega), h 1 (by omega), h 2 (by omega), h 3 (by omega), h 4 (by omega), h 5 (by omega), h 6 (by omega), h 7 (by omega)]
  rfl
theorem acts_store (x : ActV) : 0 + 8 ≤ 8 ∧ updL (cellsOf actZero) 0 [.string x.kind, .int .i64 x.a, .int .i64 x.b, .int .i64 x.c, .int .u64 x.key, .bool x.on, .string x.s, .string x.t] = encAct x := by
  refine ⟨by omega, ?_⟩
  funext i
  match i with
  | 0 => rfl
  | 1 => rfl
  | 2 => rfl
  | 3 => rfl
  | 4 => rfl
  | 5 => rfl
  | 6 => rfl
  | 7 => rfl
  | k + 8 =>
    have e1 : updL (cellsOf actZero) 0 [.string x.kind, .int .i64 x.a, .int .i64 x.b, .int .i64 x.c, .int .u64 x.key, .bool x.on, .string x.s, .string x.t] (k + 8) = undef := by
      simp [updL, upd, cellsOf, actZero]
    have e2 : encAct x (k + 8) = undef := by simp [encAct]
    rw [e1, e2]

theorem acts_at (A : Int → ActV) (z : Int) (q : 0 ≤ z) (j : Nat) (hj : j < 8) : encActs A (0 + z.toNat * 8 + j) = encAct (A z) j := by
  unfold encActs
  rw [show (((0 + z.toNat * 8 + j) / 8 : Nat) : Int) = z from by omega, show (0 + z.toNat * 8 + j) % 8 = j from by omega]
theorem acts_ld_S (A : Int → ActV) (len : Nat) (z : Int) (q : 0 ≤ z ∧ z < len) : 0 + z.toNat * 8 + 6 < 8 * len ∧ encActs A (0 + z.toNat * 8 + 6) = .string (A z).s :=
  ⟨by omega, (acts_at A z q.1 6 (by omega)).trans (encAct.ld_S (A z)).2⟩
theorem acts_ld_T (A : Int → ActV) (len : Nat) (z : Int) (q : 0 ≤ z ∧ z < len) : 0 + z.toNat * 8 + 7 < 8 * len ∧ encActs A (0 + z.toNat * 8 + 7) = .string (A z).t :=
  ⟨by omega, (acts_at A z q.1 7 (by omega)).trans (encAct.ld_T (A z)).2⟩

end Go.X

namespace Go.X
open Go Go.ChangeShapes Go.WideShapes Go.Deep Go.RowKit Go.ChangeAt
/-! after the kit's pages on structs and on small lemmas -/
section
variable {H : Type} {enc : TypeId × Value → H} {P : Program} {w : World} {base : Nat} {spare : Nat → Bool} {held : Bool}
theorem open_slice_fields {t e : TypeId} {fs : Array Field} {fuel : Nat} {cs : List Value} {x : DataW H × List MemPlace} (ht : P.underlying t = some (.slice e)) (he : P.underlying e = some (.struct fs))
    (hone : oneCellFields P fs = true) (hC : P.cellsOf e = fs.size) (h : DataW.trod enc P w base spare held fuel t cs = some x) :
    (cs = [.slice none 0 0] ∧ x = (.nil, [])) ∨
    ∃ (a : Addr) (len cap m : Nat) (D : Nat → DataW H) (Pl : Nat → List MemPlace), cs = [.slice (some a) len cap] ∧ base ≤ a.block ∧ len ≤ cap ∧ cap ≤ maxLen ∧ m = (if spare a.block then cap else len) ∧
      x = (.slice ((List.range len).map D) ((List.range (m - len)).map fun j => D (len + j)), MemPlace.row a (m * fs.size) ++ (List.range m).flatMap Pl) ∧
      ∀ i, i < m → ∃ (ys : List (DataW H × List MemPlace)) (n : Nat), D i = .agg (ys.map (·.1)) ∧ Pl i = ys.flatMap (·.2) ∧ ys.length = fs.size ∧
        ∀ (j : Nat) (f : Field), fs[j]? = some f → ∃ (v : Value) (y : DataW H × List MemPlace), w.cell? (a.add (i * fs.size + j)) = some v ∧ ys[j]? = some y ∧ DataW.trod enc P w base spare held n f.type [v] = some y := by
  rcases open_slice ht h with h0 | ⟨a, len, cap, m, n, D, Pl, hcs, hb, hl, hm, hmm, hx, hi⟩
  · exact .inl h0
  · refine .inr ⟨a, len, cap, m, D, Pl, hcs, hb, hl, hm, hmm, by rw [hC] at hx; exact hx, fun i him => ?_⟩
    obtain ⟨cs', hc, ht'⟩ := hi i him
    rw [hC] at hc
    obtain ⟨ys, n', hn', hy, hlen, hyl, hf⟩ := DataW.trod_struct he ht'
    obtain ⟨_, hcl, hat⟩ := World.cells?_some hc
    simp only [Prod.mk.injEq] at hy
    refine ⟨ys, n', hy.1, hy.2, hyl, fun j f hj => ?_⟩
    obtain ⟨ho, hk⟩ := hone_of hone j f hj
    have hjl : j < fs.size := (Array.getElem?_eq_some_iff.1 hj).1
    have hcell := hat j hjl
    have hv : cs'[j]? = some (cs'[j]'(by omega)) := List.getElem?_eq_getElem (by omega)
    have h1 := hf j f hj
    rw [ho, hk] at h1
    have hone' : (cs'.drop j).take 1 = [cs'[j]'(by omega)] := by
      rw [List.drop_eq_getElem_cons (by omega)]
      rfl
    rw [hone'] at h1
    have hys : ys[j]? = some (ys[j]'(by omega)) := List.getElem?_eq_getElem (by omega)
    refine ⟨_, _, ?_, hys, h1.trans hys⟩
    rw [← Go.Deep.add_add, hcell, hv]
end
section
variable {H : Type} {enc : TypeId × Value → H} {P : Program}
theorem post_of_below {f : Func} {s : ChangeSpec} {apart fresh handsOn again : Bool} {W W' : World} {args : Array Value} {v : Value} {ds gs : List (DataW H)} {before pa pv : List MemPlace}
    (hW : DataW.Whole enc P f.params.toList s.vars apart W args.toList ds gs before)
    (hres : ∀ (b : Nat) (sp : Nat → Bool) (hd : Bool), DataW.TrodAll enc P W' b sp hd f.resultTypes.toList (v.resultList f.resultTypes.size) (s.fn H (ds ++ gs)).results [])
    (hargs : ∀ sp : Nat → Bool, (∀ p ∈ before, sp p.block = true) → DataW.TrodAll enc P W' 0 sp true f.params.toList args.toList (s.fn H (ds ++ gs)).args pa)
    (hvars : ∀ sp : Nat → Bool, (∀ p ∈ before, sp p.block = true) → DataW.TrodVars enc P W' sp s.vars (s.fn H (ds ++ gs)).vars pv)
    (hps : before = pa ++ pv) (hb : Below W.heap.size W W')
    (hok : ∀ (j : Nat) (t : TypeId) (r : Value), f.resultTypes[j]? = some t → (v.resultList f.resultTypes.size)[j]? = some r → Value.okWide P W' .any 0 t r) :
    s.post enc P f apart fresh handsOn again W args v W' := by
  have hlt : ∀ p ∈ before, p.block < W.heap.size := fun p hp => hW.lt p hp
  have hold : ∀ p ∈ before, (fun b => decide (b < W.heap.size)) p.block = true := fun p hp => by simpa using hlt p hp
  refine ⟨ds, gs, before, [], pa, pv, hW, hres _ _ _, hargs _ hold, hvars _ hold, World.keptBut_mono (fun p hp => ⟨hp, ?_⟩) (hb.frame (· ∈ before)), fun _ => ?_⟩
  · rw [hps, List.mem_append] at hp
    exact Or.inr hp
  · obtain ⟨_, _, _, _, _, hz, hn⟩ := hW
    refine ⟨hok, _, _, ([] ++ pa) ++ pv, ⟨[] ++ pa, pv, trodAll_append (hargs _ (fun _ _ => rfl)) (hres _ _ _), hvars _ (fun _ _ => rfl), rfl, ?_, ?_⟩, ?_⟩
    · intro b off hp
      have hin : MemPlace.cell b off ∈ before := by rw [hps]; simpa using hp
      rw [hb.frozen (hlt _ hin)]
      exact hz b off hin
    · intro ha
      have := hn ha
      rw [hps] at this
      simpa using this
    · intro p hp _
      rw [hps]
      simpa using hp
end

/-- a statement's contract, as the row wants it -/
theorem below_of_spec {P : Program} {f : FuncId} {args : List Value} {pre : List Ent} (hs : Spec P f args pre (fun v H1 => v = .bool true ∧ H1 = [])) (hro : ∀ e ∈ pre, e.wr = false) {w : World} (hg : Good pre w) :
    Calls P f args.toArray w fun e w' => e = .returned (.bool true) ∧ Below w.heap.size w w' := by
  refine (hs w hg).mono ?_
  rintro e w' ⟨v, H1, rfl, ⟨rfl, rfl⟩, _, hx⟩
  have hn : ∀ b o, ¬ foot pre b o := fun b o ⟨e, he, hew, _⟩ => by rw [hro e he] at hew; cases hew
  exact ⟨rfl, hx.keep.os, hx.keep.tape, hx.keep.output, hx.keep.size, fun k hk => hx.keep.same k hk (fun o => hn k o)⟩

theorem wf_i64 {n : Int} (h : (Lit.int .i64 n).wf = true) : -9223372036854775808 ≤ n ∧ n ≤ 9223372036854775807 := by
  simpa [Lit.wf, IntKind.min, IntKind.max, IntKind.signed, IntKind.bits] using h
theorem wf_u64 {n : Int} (h : (Lit.int .u64 n).wf = true) : 0 ≤ n ∧ n ≤ 18446744073709551615 := by
  simpa [Lit.wf, IntKind.min, IntKind.max, IntKind.signed, IntKind.bits] using h

theorem spot_of {w : World} {a : Addr} {v : Value} (h : w.cell? (a.add 0) = some v) : a.spot = none := by
  have h : w.cell? a = some v := h
  cases hsp : a.spot with
  | none => rfl
  | some s =>
    unfold World.cell? at h
    cases hb : w.heap[a.block]? with
    | none => simp [hb] at h
    | some o => cases o <;> simp [hb, hsp] at h
/-- a run of cells that reads, as an entry -/
theorem ro_of_cells {w : World} {a : Addr} {n : Nat} {C : Nat → Value} (hn : 0 < n) (h : ∀ i, i < n → w.cell? (a.add i) = some (C i)) : (Ent.ro a.block a.off n C).holds w := by
  have h0 := h 0 hn
  have h0' : w.cell? a = some (C 0) := h0
  have key : ∀ i, i < n → w.cell? ⟨a.block, a.off + i, none⟩ = some (C i) := fun i hi => by
    cases i with
    | zero =>
      have hs : a.spot = none := by
        cases hsp : a.spot with
        | none => rfl
        | some s =>
          unfold World.cell? at h0'
          cases hb : w.heap[a.block]? with
          | none => simp [hb] at h0'
          | some o => cases o <;> simp [hb, hsp] at h0'
      have : a = ⟨a.block, a.off, none⟩ := by cases a; simp_all
      rw [this] at h0'
      simpa using h0'
    | succ i => simpa [Addr.add] using h (i + 1) hi
  have k0 := key 0 hn
  unfold World.cell? at k0
  cases hb : w.heap[a.block]? with
  | none => simp [hb] at k0
  | some o =>
    cases o with
    | cells A t fz =>
      refine ⟨A, t, fz, hb, fun i hi => ?_⟩
      have := key i hi
      simpa [World.cell?, hb] using this
    | _ => simp [hb] at k0

/-- acts that read -/
theorem acts_of {w : World} {a : Addr} {len : Nat} (hlen : 0 < len) (h : ∀ i, i < len → ∃ x : ActV, x.ok ∧ ∀ j, j < 8 → w.cell? (a.add (i * 8 + j)) = some (encAct x j)) :
    ∃ A : Int → ActV, (∀ z : Int, 0 ≤ z → z < len → (A z).ok) ∧ Good [.ro a.block a.off (8 * len) (encActs A)] w := by
  classical
  let A : Int → ActV := fun z => if hz : z.toNat < len then Classical.choose (h z.toNat hz) else ⟨⟨#[]⟩, 0, 0, 0, 0, false, ⟨#[]⟩, ⟨#[]⟩⟩
  have hA : ∀ i : Nat, (hi : i < len) → A (i : Int) = Classical.choose (h i hi) := fun i hi => by simp [A, hi]
  refine ⟨A, fun z h0 h1 => ?_, fun e he => ?_, by simp⟩
  · have hz : z.toNat < len := by omega
    have : A z = A (z.toNat : Int) := by rw [show ((z.toNat : Nat) : Int) = z from by omega]
    rw [this, hA _ hz]
    exact (Classical.choose_spec (h z.toNat hz)).1
  · have : e = .ro a.block a.off (8 * len) (encActs A) := by simpa using he
    subst this
    refine ro_of_cells (by omega) fun i hi => ?_
    have hd : i / 8 < len := by omega
    have h1 := (Classical.choose_spec (h (i / 8) hd)).2 (i % 8) (by omega)
    rw [show i / 8 * 8 + i % 8 = i from by omega] at h1
    rw [h1]
    unfold encActs
    rw [hA _ hd]
end Go.X
