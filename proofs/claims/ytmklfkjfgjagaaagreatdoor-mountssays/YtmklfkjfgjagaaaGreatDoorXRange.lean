import Derived.Test.YtmklfkjfgjagaaaGreatDoorXMore
import Derived.RangeFuncNested
import Derived.RangeFuncBound
import Derived.RangeFuncCalls
import Derived.RangeFuncLeaves
import Derived.RangeFuncFrom
import Derived.Shelf.Abstract
import Derived.TacticsInMore
import Derived.OrdersIn
namespace Go.X
open Go Go.RowKit Go.Proofs
/-! ### code in a round of a range over a function -/
def noDef (l : List Oper) : Bool := l.all fun o => match o.op with | .defer _ => false | _ => true
def swp (P : Program) : Code → (Exit → Act → World → Prop) → Act → World → Prop
  | .skip, Q, a, w => Q .normal a w
  | .exit i, Q, a, w => Q (.exit i) a w
  | .ret, Q, a, w => Q .ret a w
  | .seq x y, Q, a, w => swp P x (Exit.then (swp P y Q) Q) a w
  | .block i c, Q, a, w => swp P c (Exit.inBlock i Q) a w
  | .cond c x y, Q, a, w => ∃ t, a.eval c = .bool t ∧ (t = true → swp P x Q a w) ∧ (t = false → swp P y Q a w)
  | .region _ ops false, Q, a, w => noDef ops.toList = true ∧ wpList P ops Q ops.toList a w
  | .region _ ops true, Q, a, w => noDef ops.toList = true ∧ P.follows .mixedOrders = true ∧ wpAny P .any ops Q ops.size (Array.replicate ops.size false) a { w with drawn := w.drawn + 1 }
  | _, _, _, _ => False
section
variable {P : Program} {Q : Exit → Act → World → Prop} {l : Nat} {n : Nat}
abbrev inR (l : Nat) : Fence := Fence.wide.inRound l
end
/-! ### the engine's rules for such code -/
section
variable {P : Program} {n : Fr} {Q : Exit → Act → World → Prop} {L L' : PF} {M M' : World → Prop}
def XB (P : Program) (n : Fr) (c : Code) (Q : Exit → Act → World → Prop) (L : PF) (M : World → Prop) : Prop :=
  ∀ a w, Sat n L a → M w → swp P c Q a w
theorem XB.keep {c : Code} (L' : PF) (hs : Sub L L') (h : XB P n c Q L' M) : XB P n c Q L M := fun a w ha hw => h a w (hs.sat ha) hw
theorem XB.seq {x y : Code} (h : XB P n x (Exit.then (swp P y Q) Q) L M) : XB P n (.seq x y) Q L M := h
theorem XB.skip (h : XE n Q .normal L M) : XB P n .skip Q L M := h
theorem XB.exit {i : Nat} (h : XE n Q (.exit i) L M) : XB P n (.exit i) Q L M := h
theorem XB.ret (h : XE n Q .ret L M) : XB P n .ret Q L M := h
theorem XB.block {i : Nat} {c : Code} (h : XB P n c (Exit.inBlock i Q) L M) : XB P n (.block i c) Q L M := h
theorem XB.cond {c : Operand} {x y : Code} {t : Bool} (hc : ev L c = some (.bool t)) (ht : t = true → XB P n x Q L M) (hf : t = false → XB P n y Q L M) : XB P n (.cond c x y) Q L M :=
  fun a w ha hw => ⟨t, ev_eval ha hc, fun h => ht h a w ha hw, fun h => hf h a w ha hw⟩
theorem XB.condP {c : Operand} {x y : Code} {p : Prop} [Decidable p] (hc : ev L c = some (.bool (decide p))) (ht : p → XB P n x Q L M) (hf : ¬ p → XB P n y Q L M) :
    XB P n (.cond c x y) Q L M := XB.cond hc (fun h => ht (of_decide_eq_true h)) (fun h => hf (of_decide_eq_false h))
theorem XB.region {i : Nat} {l : List Oper} (h : XO P n l.toArray Q l L M) (hn : noDef l = true := by rfl) : XB P n (.region i l.toArray false) Q L M := fun a w ha hw => by
  refine ⟨by simpa using hn, ?_⟩
  have := h a w ha hw
  simpa using this
theorem XB.regionQ {i : Nat} {os : List Oper} {f : Nat} {l : Array Bool} (hm : P.follows .mixedOrders = true) (hf : os.length = f) (hl : Array.replicate f false = l) (hM : ∀ w k, M w → M { w with drawn := w.drawn + k })
    (h : XQ P n os.toArray Q [] f l L M) (hn : noDef os = true := by rfl) : XB P n (.region i os.toArray true) Q L M := fun a w ha hw => by
  subst hf; subst hl
  refine ⟨by simpa using hn, hm, ?_⟩
  have := wpAny_of_J _ _ _ _ (h (closed_none _ _) a _ ha (hM w 1 hw) trivial)
  simpa using this
end
/-! ### marks -/
def mkD (D : Nat) : Deferred := { target := .collected D, args := #[] }
def Ent.noMark : Ent → Bool
  | .mark _ => false
  | _ => true
theorem wr_noMark {e : Ent} (h : e.wr = true) : e.noMark = true := by cases e <;> first | rfl | cases h
/-- where one block that bears no cells is laid anew, entries stand -/
theorem Ent.holds_turn {e : Ent} {w w' : World} {D : Nat} (hb : ∀ b, b < w.heap.size → ¬ b = D → w'.heap[b]? = w.heap[b]?) (hD : ∀ o, w.heap[D]? = some o → o.isCells = false) (hm : e.noMark = true) (h : e.holds w) : e.holds w' := by
  have ne : ∀ (b : Nat) (A : Array Value) (t : TypeId) (fz : Nat × Nat), w.heap[b]? = some (.cells A t fz) → w'.heap[b]? = some (.cells A t fz) := fun b A t fz hA => by
    rw [hb b (lt_of_heap hA) (fun q => by subst q; have := hD _ hA; cases this)]; exact hA
  cases e with
  | cells b o n C => obtain ⟨A, t, lo, hi, h1, h2⟩ := h; exact ⟨A, t, lo, hi, ne _ _ _ _ h1, h2⟩
  | ro b o n C => obtain ⟨A, t, fz, h1, h2⟩ := h; exact ⟨A, t, fz, ne _ _ _ _ h1, h2⟩
  | row v e sz k xs =>
    refine ⟨h.1, ?_⟩
    rcases h.2 with hn | ⟨g, cap, cur, rfl, hb', hg, rest⟩
    · exact .inl hn
    · exact .inr ⟨g, cap, cur, rfl, hb', ne _ _ _ _ hg, rest⟩
  | mark D => cases hm
  | fam p r =>
    refine ⟨fun i hi => ?_, h.2⟩
    have hr := h.1 i hi
    refine ⟨hr.1, ?_⟩
    rcases hr.2 with hn | ⟨g, cap, cur, hv, hb', hg, rest⟩
    · exact .inl hn
    · exact .inr ⟨g, cap, cur, hv, hb', ne _ _ _ _ hg, rest⟩
theorem XM.turn {W w w' : World} {S : Nat → Nat → Prop} {H : List Ent} {D : Nat} (h : XM W S H w) (hm : H.all Ent.noMark = true) (hDW : W.heap.size ≤ D) (hos : w'.os = w.os) (ht : w'.tape = w.tape) (hout : w'.output = w.output) (hsz : w.heap.size ≤ w'.heap.size)
    (hb : ∀ b, b < w.heap.size → ¬ b = D → w'.heap[b]? = w.heap[b]?) (hD : ∀ o, w.heap[D]? = some o → o.isCells = false) : XM W S H w' := by
  refine ⟨⟨fun e he => Ent.holds_turn hb hD (List.all_eq_true.1 hm e he) (h.good.1 e he), h.good.2⟩, ⟨hos.trans h.keep.os, ht.trans h.keep.tape, hout.trans h.keep.output, Nat.le_trans h.keep.size hsz, fun b hb2 hn => ?_, fun b A t fz hA => ?_⟩, h.mine⟩
  · rw [hb b (Nat.lt_of_lt_of_le hb2 h.keep.size) (by omega)]; exact h.keep.same b hb2 hn
  · obtain ⟨A', h1, h2, h3⟩ := h.keep.part b A t fz hA
    have := lt_of_heap hA
    exact ⟨A', by rw [hb b (Nat.lt_of_lt_of_le this h.keep.size) (by omega)]; exact h1, h2, h3⟩
section
variable {P : Program} {L : PF} {W : World} {S : Nat → Nat → Prop} {H H' : List Ent}
end
/-! ### a range over a function -/
/-- what the iterator reads between two rounds -/
def KpR (R : List (Addr × Value)) (A B : World) : Prop := ∀ x ∈ R, A.cell? x.1 = some x.2 → B.cell? x.1 = some x.2
theorem KpR.trans {R : List (Addr × Value)} {A B C : World} (h : KpR R A B) (k : KpR R B C) : KpR R A C := fun x hx ha => k x hx (h x hx ha)
theorem cell_put {W : World} {l : Nat} {o o' : Obj} (hl : W.heap[l]? = some o) (ho : o.isCells = false) {a : Addr} {v : Value} (h : W.cell? a = some v) : (W.putObj l o').cell? a = some v := by
  have hne : ¬ a.block = l := fun e => by
    subst e
    simp only [World.cell?, hl] at h
    cases o <;> first | (cases ho; done) | (simp at h; done)
  rw [World.cell?_of_block (World.putObj_heap_other hne)]
  exact h
theorem KpR.put {R : List (Addr × Value)} (W : World) (l : Nat) (o o' : Obj) (hl : W.heap[l]? = some o) (ho : o.isCells = false) : KpR R W (W.putObj l o') := fun _ _ h => cell_put hl ho h
theorem Pick.refl : ∀ (H : List Ent), Pick H H []
  | [] => .nil
  | _ :: H => .cons .here (Pick.refl H)
theorem XM.then {W w w' : World} {S : Nat → Nat → Prop} {H H' : List Ent} (h : XM W S H w) (hc : XM w (foot H) H' w') (hro : H'.all Ent.wr = true) : XM W S H' w' := by
  have := h.called (Pick.refl H) hc (fun e he => List.all_eq_true.1 hro e he)
  simpa using this
section
variable {P : Program} {Q : Exit → Act → World → Prop} {L : PF} {W : World} {S : Nat → Nat → Prop} {H : List Ent} {α : Type}
/-- between two rounds -/
def RI (W : World) (S : Nat → Nat → Prop) (V : List α → Prop) (J : List α → List Ent) (pre : List α) (w : World) : Prop := V pre ∧ XM W S (J pre) w
theorem RI.own {V : List α → Prop} {J : List α → List Ent} {B : Nat} (hJ : ∀ pre, (J pre).all Ent.wr = true) (hB : W.heap.size ≤ B) : OwnFrom B (RI W S V J) := fun pre w w' row ⟨hv, hx⟩ hg hr => by
  have hm : (J pre).all Ent.noMark = true := List.all_eq_true.2 fun e he => wr_noMark (List.all_eq_true.1 (hJ pre) e he)
  refine ⟨hv, ?_⟩
  cases row with
  | none => exact hx.turn (D := w.heap.size) hm hx.keep.size hg.os hg.tape hg.output hg.size (fun b hb _ => hg.block b hb (by simp)) (fun o ho => by have := lt_of_heap ho; omega)
  | some r =>
    obtain ⟨h1, o, h2, h3⟩ := hr r rfl
    exact hx.turn (D := r) hm (by omega) hg.os hg.tape hg.output hg.size (fun b hb hne => hg.block b hb (fun e => by cases e; exact hne rfl)) (fun o' ho => by rw [h2] at ho; cases ho; exact h3)
abbrev roundQ (W : World) (S : Nat → Nat → Prop) (V Vx : List α → Prop) (J Jx : List α → List Ent) (R : List (Addr × Value)) (pre : List α) (x : α) (w : World) : Exit → Act → World → Prop :=
  ownPostK (KpR R) (RI W S V J) (fun c ys w' => c = .ret ∧ RI W S Vx Jx ys w') (pre ++ [x]) w
end
/-! ### the iterator's side -/
section
variable {P : Program} {Q : Exit → Act → World → Prop} {L : PF} {n : Fr} {M : World → Prop} {ty : TypeId} {pos : String} {af : Array Edge} {d : Nat} {ops : Array Oper} {rest : List Oper}
def XI (P : Program) (n : Fr) (ops : Array Oper) (Q : Exit → Act → World → Prop) (l : List Oper) (L : PF) (M : World → Prop) : Prop :=
  ∀ a w, Sat n L a → M w → wpListIn Fence.wide 2 P ops Q l a w
theorem XI.nil (h : XE n Q .normal L M) : XI P n ops Q [] L M := h
theorem XI.v {op : Op} {v : Value} (hv : RunsTo P n L M ⟨some d, op, ty, pos, af, none⟩ v) (hd : Nat.blt d n.sz = true) (h : XI P n ops Q rest ((d, v) :: L) M) : XI P n ops Q (⟨some d, op, ty, pos, af, none⟩ :: rest) L M := fun a w ha hw => by
  unfold wpListIn
  rw [if_pos (by simp [Region.wanted])]
  refine ⟨fun _ _ => trivial, ?_⟩
  have h0 : Fence.wide.round = none := rfl
  rw [h0, Oper.semAt_none, hv a w ha hw]
  exact h _ w (ha.put hd v) hw
end
/-! ### a range over a function of one variable: x = v -/
section
variable {P : Program} {Q : Exit → Act → World → Prop} {L : PF} {W : World} {S : Nat → Nat → Prop} {H : List Ent} {α : Type}
end
end Go.X
