import Derived.Test.YtpnddggohipdnaaDoorXGo
import Derived.Shelf.SlSortCmp.WholeK
import Derived.Shelf.SlSortCmp.NoneTotal
namespace Go.X
open Go Go.Proofs Go.Shelf Go.Sort
/-! ### slices.SortFunc, by the kit's contract, as a contract of this engine -/
theorem good_nil (w : World) : Go.X.Good ([] : List Ent) w := by
  refine ⟨fun e h => ?_, List.Pairwise.nil⟩
  exact absurd h (by simp)
/-- what is asked of a comparison: it leaves all as it was, but for what it lays anew -/
def CmpC (P : Program) (gcl : Nat) {α : Type} (enc : α → List Value) (cf : α → α → Int) : Prop :=
  ∀ x y w, Calls P gcl #[.agg (enc x).toArray, .agg (enc y).toArray] w fun e w' => e = .returned (.int .i64 (cf x y)) ∧ ∃ os', w' = grow w os'
theorem cmp_lays {P : Program} {gcl : Nat} {α : Type} {enc : α → List Value} {k : Nat} {cf : α → α → Int} [Inhabited α]
    (h : CmpC P gcl enc cf) (blk off size : Nat) (w : World) : CmpLays P gcl #[] enc k cf blk off size w :=
  fun m os dk _ x y => (h x y _).mono fun e w' ⟨he, os', hw⟩ => ⟨he, 0, os', hw⟩
section
variable {P : Program} {n : Fr} {Q : Exit → Act → World → Prop} {L : PF} {ops : Md} {rest : List Oper} {ty : TypeId} {pos : String} {af : Array Edge} {d : Nat}
/-- a box, in a world that is known whole -/
theorem XO.boxW {t : TypeId} {x : Operand} {v : Value} {w1 : World} (hx : ev L x = some v) (hd : Nat.blt d n.sz = true)
    (h : XO P n ops Q rest ((d, ptr w1.heap.size 0 0) :: L) (fun w => w = w1.alloc (.cells v.cells t))) : XO P n ops Q (⟨some d, .box t x, ty, pos, af, none⟩ :: rest) L (fun w => w = w1) :=
  XO.op rfl fun a w ha hw => by
    subst hw
    unfold Oper.wp
    have : (execOp a.eval ⟨some d, .box t x, ty, pos, af, none⟩).run P w = .ok (.value (ptr w.heap.size 0 0)) (w.alloc (.cells v.cells t)) := by
      simp [execOp, ev_eval ha hx, Instr.box, newVar, newRow, newObj, Sem.run, ptr]
    rw [this]
    exact h _ _ (ha.put hd _) rfl
theorem boxW_at {w : World} {A B : Array Value} {t t' : TypeId} {i : Nat} {v : Value} (h : A[i]? = some v) : ((w.alloc (.cells A t)).alloc (.cells B t')).cell? ⟨w.heap.size, i, none⟩ = some v := by
  have e : ((w.alloc (.cells A t)).alloc (.cells B t')).heap[w.heap.size]? = some (.cells A t) := by
    rw [heap_alloc_old _ _ (by simp)]; exact heap_alloc_new w _
  simp [World.cell?, e, h]
theorem boxW_at2 {w : World} {A B : Array Value} {t t' : TypeId} {i : Nat} {v : Value} (h : B[i]? = some v) : ((w.alloc (.cells A t)).alloc (.cells B t')).cell? ⟨(w.alloc (.cells A t)).heap.size, i, none⟩ = some v := by
  have e : ((w.alloc (.cells A t)).alloc (.cells B t')).heap[(w.alloc (.cells A t)).heap.size]? = some (.cells B t') := heap_alloc_new _ _
  simp only [World.cell?, e, h]
  rfl
theorem V.loadW {t : TypeId} {x : Operand} {b i : Nat} {v : Value} {φ : World → Prop} (hx : ev L x = some (ptr b 0 i)) (hc : ∀ w, φ w → w.cell? ⟨b, i, none⟩ = some v) (ht : scal P t = true) :
    RunsTo P n L φ (⟨some d, .load t x, ty, pos, af, none⟩) v := fun a w ha hw => by
  have hc' := hc w hw
  have hr := run_loadVar_scal ht hc'
  simp [execOp, ev_eval ha hx, Instr.loadAt, Instr.sureAddr, ptr, hr]
theorem grow_two (w : World) (A B : Obj) : (w.alloc A).alloc B = grow w #[A, B] := by
  simp only [World.alloc_eq, grow]
  congr 1
end
theorem holds_of_row {w : World} {g cap n k : Nat} {e : TypeId} {F : Array Value} (h : (Ent.row (.slice (some ⟨g, 0, none⟩) n cap) e k n F.toList).holds w) : Holds id w g 0 F := by
  intro j hj
  have hc := cell_of_row h (j := j) (v := F[j]!) (by simp [hj])
  obtain ⟨cur, hb, _⟩ := frow_open h
  refine ⟨?_, ?_⟩
  · rw [Nat.zero_add] at hc ⊢; exact hc
  · simp [World.frozen?, hb]
theorem take_put (cur F : Array Value) (h : F.size ≤ cur.size) : (putCells id 0 F cur).toList.take F.size = F.toList := by
  apply List.ext_getElem?
  intro j
  by_cases hj : j < F.size
  · rw [List.getElem?_take_of_lt hj, Array.getElem?_toList, Array.getElem?_toList]
    simp [putCells, hj, show j < cur.size by omega]
  · rw [List.getElem?_take_eq_none (by omega), List.getElem?_eq_none (by simp; omega)]
theorem sorted_row {w : World} {g cap n k m : Nat} {e : TypeId} {F F' : Array Value} {os : Array Obj} (h : (Ent.row (.slice (some ⟨g, 0, none⟩) n cap) e k n F.toList).holds w) (hF : F'.size = F.size) :
    XM w (foot [.row (.slice (some ⟨g, 0, none⟩) n cap) e k n F.toList]) [.row (.slice (some ⟨g, 0, none⟩) n cap) e k n F'.toList] (grow (putRow id (Sort.ahead w m) g 0 F') os) := by
  obtain ⟨cur, hb, h1, h2, h3, h4⟩ := frow_open h
  have hg : g < w.heap.size := lt_of_heap hb
  have hFs : F.size = n * k := by simpa using h.1
  have hnk : n * k ≤ cur.size := by rw [h3]; exact Nat.mul_le_mul_right _ h1
  have hnew : (grow (putRow id (Sort.ahead w m) g 0 F') os).heap[g]? = some (.cells (putCells id 0 F' cur) e (0, 0)) := by
    rw [heap_grow_old _ _ (by simpa using hg)]
    simp [putRow, mapBlock, Sort.ahead, Array.getElem?_modify, hb, onCells]
  have hold : ∀ b, b < w.heap.size → ¬ b = g → (grow (putRow id (Sort.ahead w m) g 0 F') os).heap[b]? = w.heap[b]? := fun b hb2 hne => by
    rw [heap_grow_old _ _ (by simpa using hb2)]
    have : ¬ g = b := fun q => hne q.symm
    simp [putRow, mapBlock, Sort.ahead, Array.getElem?_modify, this]
  have hS : ∀ o, foot [.row (.slice (some ⟨g, 0, none⟩) n cap) e k n F.toList] g o := fun o => ⟨_, List.mem_singleton.2 rfl, rfl, rfl⟩
  refine ⟨⟨fun x hx => ?_, by simp⟩, ⟨rfl, rfl, rfl, by simp [putRow, mapBlock, Sort.ahead], fun b hb2 hn => hold b hb2 (fun q => hn 0 (by rw [q]; exact hS 0)), fun b A t fz hA => ?_⟩, fun x hx _ b o ha => .inr ?_⟩
  · simp only [List.mem_singleton] at hx
    subst hx
    refine ⟨by simp [hF, hFs], .inr ⟨g, cap, _, rfl, Nat.zero_le _, hnew, h1, h2, by simp [putCells, h3], ?_⟩⟩
    have := take_put cur F' (by omega)
    rw [hF, hFs] at this
    exact this
  · by_cases hbg : b = g
    · subst hbg
      rw [hb] at hA
      simp only [Option.some.injEq, Obj.cells.injEq] at hA
      obtain ⟨rfl, rfl, rfl⟩ := hA
      exact ⟨_, hnew, by simp [putCells], fun o hn => absurd (hS o) hn⟩
    · exact ⟨A, by rw [hold b (lt_of_heap hA) hbg]; exact hA, rfl, fun _ _ => rfl⟩
  · simp only [List.mem_singleton] at hx
    subst hx
    exact ⟨_, List.mem_singleton.2 rfl, rfl, ha⟩
theorem sort_row {P : Program} {ρ : Ren} {α : Type} [Inhabited α] (L : SlLaysF0.n6 P ρ) (k : Nat) (aE : ∀ w, (isAgg (ρ.t 24)).run P w = .ok true w) (zE : ∀ w, (Go.sizeOf (ρ.t 24)).run P w = .ok k w) (enc : α → List Value) (hk : ∀ x, (enc x).length = k)
    (h1 : ∀ x, ∀ v ∈ enc x, v.oneCell' = true) (cf : α → α → Int) (hO : SWO (ltOf cf)) (gcl : Nat) (eg : ∀ args w, (callFunc gcl args).run P w = .ok (.enter gcl args) w)
    (hc : CmpC P gcl enc cf) (p : Option Addr) (n cap : Nat) (e : TypeId) (d : Array α) (hn : d.size = n) (hlt : n ≤ 100000000000) :
    Spec P (ρ.f 6) [.slice p n cap, .func (.func gcl) #[] #[]] [.row (.slice p n cap) e k n (flatK enc k d).toList]
      (fun v H1 => v = .tuple #[] ∧ ∃ d', PermIn 0 n d d' ∧ SortedIn (ltOf cf) 0 n d' ∧ H1 = [.row (.slice p n cap) e k n (flatK enc k d').toList]) := by
  intro w hw
  have hrow := hw.1 _ (List.mem_singleton.2 rfl)
  rcases hrow.2 with ⟨hv, hn0⟩ | ⟨g, cap', cur, hv, _, hb, _⟩
  · simp only [Value.slice.injEq] at hv
    obtain ⟨rfl, _, rfl⟩ := hv
    subst hn0
    refine (AnyF.slices_SortFunc_none L none 0 _ w).mono fun ee w' ⟨he, hw'⟩ => ⟨_, _, he, ⟨rfl, d, ⟨rfl, fun _ _ => rfl, .refl _⟩, fun i j _ hij hj => by omega, rfl⟩, rfl, ?_⟩
    subst hw'
    exact XM.start hw
  · simp only [Value.slice.injEq, true_and] at hv
    obtain ⟨rfl, rfl⟩ := hv
    subst hn
    refine (AnyQ.slices_SortFunc L k aE zE enc hk h1 cf hO gcl #[] g 0 cap d w eg (cmp_lays hc g 0 d.size w) (holds_of_row hrow) (lt_of_heap hb) (by omega)).mono fun ee w' ⟨he, d', nn, os, hp, hs, hw'⟩ =>
      ⟨_, _, he, ⟨rfl, d', hp, hs, rfl⟩, rfl, ?_⟩
    subst hw'
    exact sorted_row hrow (by simp [hp.1])
end Go.X
