import Derived.Test.YtmklfkjfgjagaaaDoorXMore
import Derived.RangeFuncNested
import Derived.RangeFuncBound
import Derived.RangeFuncCalls
import Derived.RangeFuncLeaves
import Derived.RangeFuncFrom
import Derived.Shelf.Abstract
import Derived.TacticsInMore
import Derived.OrdersIn
namespace Go.X
open Go Go.RowKit Go.Proofs
/-! ### code in a round of a range over a function -/
def noDef (l : List Oper) : Bool := l.all fun o => match o.op with | .defer _ => false | _ => true
theorem noDef_at {l : List Oper} (h : noDef l = true) {i : Nat} {o : Oper} (hi : l[i]? = some o) : ∀ c, o.op ≠ .defer c := fun c hc => by
  have := List.all_eq_true.1 h o (List.mem_of_getElem? hi)
  rw [hc] at this
  cases this
def swp (P : Program) : Code → (Exit → Act → World → Prop) → Act → World → Prop
  | .skip, Q, a, w => Q .normal a w
  | .exit i, Q, a, w => Q (.exit i) a w
  | .ret, Q, a, w => Q .ret a w
  | .seq x y, Q, a, w => swp P x (Exit.then (swp P y Q) Q) a w
  | .block i c, Q, a, w => swp P c (Exit.inBlock i Q) a w
  | .cond c x y, Q, a, w => ∃ t, a.eval c = .bool t ∧ (t = true → swp P x Q a w) ∧ (t = false → swp P y Q a w)
  | .region _ ops false, Q, a, w => noDef ops.toList = true ∧ wpList P ops Q ops.toList a w
  | .region _ ops true, Q, a, w => noDef ops.toList = true ∧ P.follows .mixedOrders = true ∧ wpAny P .any ops Q ops.size (Array.replicate ops.size false) a { w with drawn := w.drawn + 1 }
  | _, _, _, _ => False
section
variable {P : Program} {Q : Exit → Act → World → Prop} {l : Nat} {n : Nat}
abbrev inR (l : Nat) : Fence := Fence.wide.inRound l
theorem oper_in {o : Oper} {a : Act} {w : World} {K : Act → World → Prop} (hd : ∀ c, o.op ≠ .defer c) (hq : ∀ a w, ¬ Q .outgrown a w) (h : o.wp P a w K Q) : o.wpIn (inR l) n P a w K Q := by
  refine ⟨fun _ _ => trivial, ?_⟩
  rw [Oper.semAt_eq _ _ _ hd]
  unfold Oper.wp at h
  generalize (execOp a.eval o).run P w = r at *
  cases r with
  | ok x w' =>
    have hdep : (inR l).depth.isSome = true → 1 ≤ n := fun q => by cases q
    cases x <;> simp only [Oper.upon, Oper.uponIn] at h ⊢
    case value => exact h
    case skip => exact h
    case defer => exact h
    case enter =>
      refine ⟨hdep, CallsIn.inRound l (callsIn_wide.2 (h.mono fun e w'' he => ?_))⟩
      cases e with
      | returned v => exact he
      | panicked c => exact he
      | outgrown => obtain ⟨_, _, he⟩ := he; exact absurd he (hq _ _)
    case row =>
      refine ⟨hdep, fun c cs _ => ?_⟩
      obtain ⟨v, w2, hr, hs⟩ := h c cs
      exact ⟨v, w2, hr, stepsIn_wide.2 hs⟩
    all_goals exact h.elim
  | halt x w' => cases x <;> simp only [Oper.upon, Oper.uponIn] at h ⊢ <;> exact h
theorem list_in {ops : Array Oper} (hq : ∀ a w, ¬ Q .outgrown a w) : ∀ (rest : List Oper) (a : Act) (w : World), noDef rest = true → wpList P ops Q rest a w → wpListIn (inR l) n P ops Q rest a w
  | [], _, _, _, h => h
  | o :: rest, a, w, hn, h => by
    simp only [noDef, List.all_cons, Bool.and_eq_true] at hn
    unfold wpList at h
    unfold wpListIn
    split
    · rename_i hw
      rw [if_pos hw] at h
      rcases h with h | ⟨_, a', w', h⟩
      · refine oper_in (fun c hc => ?_) hq (Oper.wp_mono (fun a' w' => list_in hq rest a' w' hn.2) h)
        have := hn.1
        rw [hc] at this
        cases this
      · exact absurd h (hq _ _)
    · rename_i hw
      rw [if_neg hw] at h
      exact ⟨fun _ _ => trivial, list_in hq rest _ _ hn.2 h⟩
theorem any_in {ops : Array Oper} (hq : ∀ a w, ¬ Q .outgrown a w) (hn : noDef ops.toList = true) : ∀ (f : Nat) (ls : Array Bool) (a : Act) (w : World), wpAny P .any ops Q f ls a w → wpAnyIn (inR l) n P .any ops Q f ls a w
  | 0, _, _, _, h => h
  | f + 1, ls, a, w, h => ⟨h.1, fun i hi => by
    have h2 := h.2 i hi
    unfold wpOp at h2
    unfold wpOpIn
    cases ho : ops[i]? with
    | none => rw [ho] at h2; exact any_in hq hn f _ _ _ h2
    | some o =>
      rw [ho] at h2
      simp only at h2 ⊢
      split
      · rename_i hw
        rw [if_pos hw] at h2
        rcases h2 with h2 | ⟨_, a', w', h2⟩
        · exact oper_in (noDef_at hn (i := i) (by rw [Array.getElem?_toList]; exact ho)) hq (Oper.wp_mono (fun a' w' => any_in hq hn f _ a' w') h2)
        · exact absurd h2 (hq _ _)
      · rename_i hw
        rw [if_neg hw] at h2
        exact ⟨fun _ _ => trivial, any_in hq hn f _ _ _ h2⟩⟩
theorem swp_in : ∀ (c : Code) (Q : Exit → Act → World → Prop) (a : Act) (w : World), (∀ a w, ¬ Q .outgrown a w) → swp P c Q a w → c.wpIn (inR l) n P Q a w
  | .skip, _, _, _, _, h => wpIn_skip h
  | .exit _, _, _, _, _, h => wpIn_exit h
  | .ret, _, _, _, _, h => wpIn_ret h
  | .seq x y, Q, a, w, hq, h => wpIn_seq (wpIn_mono (swp_in x (Exit.then (swp P y Q) Q) a w (fun a w => hq a w) h) (fun e a w q => by
      cases e with
      | normal => exact swp_in y Q a w hq q
      | exit i => exact q
      | goto i => exact q
      | ret => exact q
      | panic i => exact q
      | outgrown => exact q))
  | .block i c, Q, a, w, hq, h => wpIn_block (swp_in c (Exit.inBlock _ Q) a w (fun a w => hq a w) h)
  | .cond c x y, Q, a, w, hq, ⟨_, h1, h2, h3⟩ => wpIn_cond_split h1 (fun ht => swp_in x Q a w hq (h2 ht)) (fun ht => swp_in y Q a w hq (h3 ht))
  | .region _ ops false, _, a, w, hq, h => wpIn_region_list (list_in hq _ a w h.1 h.2)
  | .region _ _ true, _, a, w, hq, h => wpIn_region_any h.2.1 (any_in hq h.1 _ _ a _ h.2.2)
  | .loop _, _, _, _, _, k => k.elim
  | .rangeFunc .., _, _, _, _, k => k.elim
  | .scope _, _, _, _, _, k => k.elim
  | .label _, _, _, _, _, k => k.elim
  | .goto _, _, _, _, _, k => k.elim
end
/-! ### the engine's rules for such code -/
section
variable {P : Program} {n : Fr} {Q : Exit → Act → World → Prop} {L L' : PF} {M M' : World → Prop}
def XB (P : Program) (n : Fr) (c : Code) (Q : Exit → Act → World → Prop) (L : PF) (M : World → Prop) : Prop :=
  ∀ a w, Sat n L a → M w → swp P c Q a w
theorem XB.keep {c : Code} (L' : PF) (hs : Sub L L') (h : XB P n c Q L' M) : XB P n c Q L M := fun a w ha hw => h a w (hs.sat ha) hw
theorem XB.seq {x y : Code} (h : XB P n x (Exit.then (swp P y Q) Q) L M) : XB P n (.seq x y) Q L M := h
theorem XE.nextB {y : Code} {Q' : Exit → Act → World → Prop} (h : XB P n y Q L M) : XE n (Exit.then (swp P y Q) Q') .normal L M := h
theorem XB.skip (h : XE n Q .normal L M) : XB P n .skip Q L M := h
theorem XB.exit {i : Nat} (h : XE n Q (.exit i) L M) : XB P n (.exit i) Q L M := h
theorem XB.ret (h : XE n Q .ret L M) : XB P n .ret Q L M := h
theorem XB.block {i : Nat} {c : Code} (h : XB P n c (Exit.inBlock i Q) L M) : XB P n (.block i c) Q L M := h
theorem XB.cond {c : Operand} {x y : Code} {t : Bool} (hc : ev L c = some (.bool t)) (ht : t = true → XB P n x Q L M) (hf : t = false → XB P n y Q L M) : XB P n (.cond c x y) Q L M :=
  fun a w ha hw => ⟨t, ev_eval ha hc, fun h => ht h a w ha hw, fun h => hf h a w ha hw⟩
theorem XB.condP {c : Operand} {x y : Code} {p : Prop} [Decidable p] (hc : ev L c = some (.bool (decide p))) (ht : p → XB P n x Q L M) (hf : ¬ p → XB P n y Q L M) :
    XB P n (.cond c x y) Q L M := XB.cond hc (fun h => ht (of_decide_eq_true h)) (fun h => hf (of_decide_eq_false h))
theorem XB.region {i : Nat} {l : List Oper} (h : XO P n l.toArray Q l L M) (hn : noDef l = true := by rfl) : XB P n (.region i l.toArray false) Q L M := fun a w ha hw => by
  refine ⟨by simpa using hn, ?_⟩
  have := h a w ha hw
  simpa using this
theorem XB.regionQ {i : Nat} {os : List Oper} {f : Nat} {l : Array Bool} (hm : P.follows .mixedOrders = true) (hf : os.length = f) (hl : Array.replicate f false = l) (hM : ∀ w k, M w → M { w with drawn := w.drawn + k })
    (h : XQ P n os.toArray Q [] f l L M) (hn : noDef os = true := by rfl) : XB P n (.region i os.toArray true) Q L M := fun a w ha hw => by
  subst hf; subst hl
  refine ⟨by simpa using hn, hm, ?_⟩
  have := wpAny_of_J _ _ _ _ (h (closed_none _ _) a _ ha (hM w 1 hw) trivial)
  simpa using this
end
/-! ### marks -/
def mkD (D : Nat) : Deferred := { target := .collected D, args := #[] }
def Ent.noMark : Ent → Bool
  | .mark _ => false
  | _ => true
theorem area_cells {e : Ent} {w : World} (h : e.holds w) (hm : e.noMark = true) {b o : Nat} (ha : e.area b o) : ∃ A t fz, w.heap[b]? = some (.cells A t fz) := by
  cases e with
  | cells b' o' n C => obtain ⟨A, t, lo, hi, h1, _⟩ := h; obtain ⟨rfl, _⟩ := ha; exact ⟨_, _, _, h1⟩
  | ro b' o' n C => obtain ⟨A, t, fz, h1, _⟩ := h; obtain ⟨rfl, _⟩ := ha; exact ⟨_, _, _, h1⟩
  | row v e sz k xs =>
    rcases h.2 with ⟨rfl, _⟩ | ⟨g, cap, cur, rfl, _, hb, _⟩
    · cases ha
    · have : b = g := by simp only [Ent.area, Value.ownBlock, Option.some.injEq] at ha; exact ha.symm
      subst this
      exact ⟨_, _, _, hb⟩
  | mark D => cases hm
  | fam p r =>
    obtain ⟨i, hi, hb⟩ := ha
    rcases (h.1 i hi).2 with ⟨hv, _⟩ | ⟨g, cap, cur, hv, hb', hg, _⟩
    · rw [hv] at hb; cases hb
    · rw [hv] at hb
      simp only [Value.ownBlock, Option.some.injEq] at hb
      subst hb
      exact ⟨_, _, _, hg⟩
theorem wr_noMark {e : Ent} (h : e.wr = true) : e.noMark = true := by cases e <;> first | rfl | cases h
/-- where one block that bears no cells is laid anew, entries stand -/
theorem Ent.holds_turn {e : Ent} {w w' : World} {D : Nat} (hb : ∀ b, b < w.heap.size → ¬ b = D → w'.heap[b]? = w.heap[b]?) (hD : ∀ o, w.heap[D]? = some o → o.isCells = false) (hm : e.noMark = true) (h : e.holds w) : e.holds w' := by
  have ne : ∀ (b : Nat) (A : Array Value) (t : TypeId) (fz : Nat × Nat), w.heap[b]? = some (.cells A t fz) → w'.heap[b]? = some (.cells A t fz) := fun b A t fz hA => by
    rw [hb b (lt_of_heap hA) (fun q => by subst q; have := hD _ hA; cases this)]; exact hA
  cases e with
  | cells b o n C => obtain ⟨A, t, lo, hi, h1, h2⟩ := h; exact ⟨A, t, lo, hi, ne _ _ _ _ h1, h2⟩
  | ro b o n C => obtain ⟨A, t, fz, h1, h2⟩ := h; exact ⟨A, t, fz, ne _ _ _ _ h1, h2⟩
  | row v e sz k xs =>
    refine ⟨h.1, ?_⟩
    rcases h.2 with hn | ⟨g, cap, cur, rfl, hb', hg, rest⟩
    · exact .inl hn
    · exact .inr ⟨g, cap, cur, rfl, hb', ne _ _ _ _ hg, rest⟩
  | mark D => cases hm
  | fam p r =>
    refine ⟨fun i hi => ?_, h.2⟩
    have hr := h.1 i hi
    refine ⟨hr.1, ?_⟩
    rcases hr.2 with hn | ⟨g, cap, cur, hv, hb', hg, rest⟩
    · exact .inl hn
    · exact .inr ⟨g, cap, cur, hv, hb', ne _ _ _ _ hg, rest⟩
theorem XM.turn {W w w' : World} {S : Nat → Nat → Prop} {H : List Ent} {D : Nat} (h : XM W S H w) (hm : H.all Ent.noMark = true) (hDW : W.heap.size ≤ D) (hos : w'.os = w.os) (ht : w'.tape = w.tape) (hout : w'.output = w.output) (hsz : w.heap.size ≤ w'.heap.size)
    (hb : ∀ b, b < w.heap.size → ¬ b = D → w'.heap[b]? = w.heap[b]?) (hD : ∀ o, w.heap[D]? = some o → o.isCells = false) : XM W S H w' := by
  refine ⟨⟨fun e he => Ent.holds_turn hb hD (List.all_eq_true.1 hm e he) (h.good.1 e he), h.good.2⟩, ⟨hos.trans h.keep.os, ht.trans h.keep.tape, hout.trans h.keep.output, Nat.le_trans h.keep.size hsz, fun b hb2 hn => ?_, fun b A t fz hA => ?_⟩, h.mine⟩
  · rw [hb b (Nat.lt_of_lt_of_le hb2 h.keep.size) (by omega)]; exact h.keep.same b hb2 hn
  · obtain ⟨A', h1, h2, h3⟩ := h.keep.part b A t fz hA
    have := lt_of_heap hA
    exact ⟨A', by rw [hb b (Nat.lt_of_lt_of_le this h.keep.size) (by omega)]; exact h1, h2, h3⟩
section
variable {P : Program} {L : PF} {W : World} {S : Nat → Nat → Prop} {H H' : List Ent}
theorem XE.plainM {k m : Nat} {fn : Func} {R : Ending → World → Prop} {e : Exit} {M : World → Prop} (he : e = .normal ∨ e = .ret) (h : XE (fr k) (bodyPost P fn R) e L M) : XE (fr k) (bodyPostM Fence.wide m P fn R) e L M := fun a w ha hw => by
  have h1 := h a w ha hw
  rcases he with rfl | rfl
  · obtain ⟨hd, v, h2, h3⟩ := h1
    show LeavesInM _ _ _ _ a.tmps R a.defers .returning w
    rw [hd]; exact ⟨v, h2, h3⟩
  · obtain ⟨hd, v, h2, h3⟩ := h1
    show LeavesInM _ _ _ _ a.tmps R a.defers .returning w
    rw [hd]; exact ⟨v, h2, h3⟩
theorem XE.markM {k m D : Nat} {fn : Func} {R : Ending → World → Prop} {e : Exit} (he : e = .normal ∨ e = .ret) (hH : Del H (.mark D) H') (hm : H'.all Ent.noMark = true) (hD : W.heap.size ≤ D)
    (h : XE (fr k) (bodyPost P fn R) e L (XM W S H')) : XE ⟨k, [mkD D]⟩ (bodyPostM Fence.wide m P fn R) e L (XM W S H) := fun a w ha hw => by
  have hw1 := hw.perm hH.perm
  have hmark : w.heap[D]? = some (.deferred (some [])) := hw1.good.1 (.mark D) (by simp)
  have hw2 : XM W S H' w := XM.left (E := H') (F := [.mark D]) (hw1.perm (by
    have := List.perm_append_comm (l₁ := [Ent.mark D]) (l₂ := H')
    simpa using this))
  have hw3 : XM W S H' (w.putObj D (.deferred none)) := hw2.turn (D := D) hm hD rfl rfl rfl (by simp) (fun b _ hne => World.putObj_heap_other hne) (fun o ho => by rw [hmark] at ho; cases ho; rfl)
  have h1 := h { a with defers := [] } _ ⟨rfl, ha.2.1, ha.2.2⟩ hw3
  have hd : a.defers = [mkD D] := ha.1
  rcases he with rfl | rfl
  · obtain ⟨_, v, h2, h3⟩ := h1
    show LeavesInM _ _ _ _ a.tmps R a.defers .returning w
    rw [hd]
    exact ⟨by simp, .inl ⟨_, _, rfl, run_takeDeferred hmark, v, h2, h3⟩⟩
  · obtain ⟨_, v, h2, h3⟩ := h1
    show LeavesInM _ _ _ _ a.tmps R a.defers .returning w
    rw [hd]
    exact ⟨by simp, .inl ⟨_, _, rfl, run_takeDeferred hmark, v, h2, h3⟩⟩
theorem Spec.introM {f : FuncId} {fn : Func} {c : Code} {args : List Value} {pre : List Ent} {post : Value → List Ent → Prop} (hf : P.funcs[f]? = some fn) (hb : fn.body = some c) (hn : Nat.ble args.length fn.ntmps = true)
    (h : ∀ W, XC P (fr fn.ntmps) c (bodyPostM Fence.wide 3 P fn fun e w' => ∃ v H', e = .returned v ∧ post v H' ∧ H'.all Ent.wr = true ∧ XM W (foot pre) H' w') (ofArgs 0 args) (XM W (foot pre) pre)) : Spec P f args pre post := by
  intro w hw
  refine (callsIn_wide (n := 3)).1 (callsIn_of_wp_marks hf hb trivial (wpIn_wide.2 (h w _ w ⟨rfl, ?_, ?_⟩ (XM.start hw))))
  · have : args.length ≤ fn.ntmps := by simpa using hn
    simp; omega
  · intro i v hi
    obtain ⟨_, h2⟩ := lk_ofArgs args 0 i v hi
    have hlt : i < args.length := by
      rcases Nat.lt_or_ge i args.length with h' | h'
      · exact h'
      · rw [List.getElem?_eq_none (by simpa using h')] at h2; simp at h2
    have h3 : args[i]? = some v := by simpa using h2
    simp only [Array.getD_eq_getD_getElem?]
    rw [Array.getElem?_append_left (by simpa using hlt)]
    simp [h3]
end
/-! ### a range over a function -/
/-- what the iterator reads between two rounds -/
def KpR (R : List (Addr × Value)) (A B : World) : Prop := ∀ x ∈ R, A.cell? x.1 = some x.2 → B.cell? x.1 = some x.2
theorem KpR.trans {R : List (Addr × Value)} {A B C : World} (h : KpR R A B) (k : KpR R B C) : KpR R A C := fun x hx ha => k x hx (h x hx ha)
theorem cell_put {W : World} {l : Nat} {o o' : Obj} (hl : W.heap[l]? = some o) (ho : o.isCells = false) {a : Addr} {v : Value} (h : W.cell? a = some v) : (W.putObj l o').cell? a = some v := by
  have hne : ¬ a.block = l := fun e => by
    subst e
    simp only [World.cell?, hl] at h
    cases o <;> first | (cases ho; done) | (simp at h; done)
  rw [World.cell?_of_block (World.putObj_heap_other hne)]
  exact h
theorem KpR.put {R : List (Addr × Value)} (W : World) (l : Nat) (o o' : Obj) (hl : W.heap[l]? = some o) (ho : o.isCells = false) : KpR R W (W.putObj l o') := fun _ _ h => cell_put hl ho h
theorem Pick.refl : ∀ (H : List Ent), Pick H H []
  | [] => .nil
  | _ :: H => .cons .here (Pick.refl H)
theorem XM.then {W w w' : World} {S : Nat → Nat → Prop} {H H' : List Ent} (h : XM W S H w) (hc : XM w (foot H) H' w') (hro : H'.all Ent.wr = true) : XM W S H' w' := by
  have := h.called (Pick.refl H) hc (fun e he => List.all_eq_true.1 hro e he)
  simpa using this
theorem foot_cells {H : List Ent} {w : World} (h : Good H w) {b o : Nat} (hf : foot H b o) : ∃ A t fz, w.heap[b]? = some (.cells A t fz) := by
  obtain ⟨e, he, hw, ha⟩ := hf
  exact area_cells (h.1 e he) (wr_noMark hw) ha
theorem XM.others {w w' : World} {H H' : List Ent} (hg : Good H w) (hc : XM w (foot H) H' w') : KeepsOthers w w' := by
  refine ⟨hc.keep.size, fun b o hb ho => ?_⟩
  rw [hc.keep.same b (lt_of_heap hb) (fun off hf => ?_)]
  · exact hb
  · obtain ⟨A, t, fz, h1⟩ := foot_cells hg hf
    rw [hb] at h1; cases h1; cases ho
section
variable {P : Program} {Q : Exit → Act → World → Prop} {L : PF} {W : World} {S : Nat → Nat → Prop} {H : List Ent} {α : Type}
/-- between two rounds -/
def RI (W : World) (S : Nat → Nat → Prop) (V : List α → Prop) (J : List α → List Ent) (pre : List α) (w : World) : Prop := V pre ∧ XM W S (J pre) w
theorem RI.own {V : List α → Prop} {J : List α → List Ent} {B : Nat} (hJ : ∀ pre, (J pre).all Ent.wr = true) (hB : W.heap.size ≤ B) : OwnFrom B (RI W S V J) := fun pre w w' row ⟨hv, hx⟩ hg hr => by
  have hm : (J pre).all Ent.noMark = true := List.all_eq_true.2 fun e he => wr_noMark (List.all_eq_true.1 (hJ pre) e he)
  refine ⟨hv, ?_⟩
  cases row with
  | none => exact hx.turn (D := w.heap.size) hm hx.keep.size hg.os hg.tape hg.output hg.size (fun b hb _ => hg.block b hb (by simp)) (fun o ho => by have := lt_of_heap ho; omega)
  | some r =>
    obtain ⟨h1, o, h2, h3⟩ := hr r rfl
    exact hx.turn (D := r) hm (by omega) hg.os hg.tape hg.output hg.size (fun b hb hne => hg.block b hb (fun e => by cases e; exact hne rfl)) (fun o' ho => by rw [h2] at ho; cases ho; exact h3)
abbrev roundQ (W : World) (S : Nat → Nat → Prop) (V Vx : List α → Prop) (J Jx : List α → List Ent) (R : List (Addr × Value)) (pre : List α) (x : α) (w : World) : Exit → Act → World → Prop :=
  ownPostK (KpR R) (RI W S V J) (fun c ys w' => c = .ret ∧ RI W S Vx Jx ys w') (pre ++ [x]) w
theorem XE.goOn {n : Fr} {V Vx : List α → Prop} {J Jx : List α → List Ent} {R : List (Addr × Value)} {pre : List α} {x : α} {w : World} {H' : List Ent} (h : XM W S (J pre) w) (hV : V (pre ++ [x])) (hwr : (J (pre ++ [x])).all Ent.wr = true)
    (hR : ∀ w', Go.X.Good (J (pre ++ [x])) w' → ∀ y ∈ R, w'.cell? y.1 = some y.2) (hp : ∀ w', XM w (foot (J pre)) H' w' → XM w (foot (J pre)) (J (pre ++ [x])) w') :
    XE n (roundQ W S V Vx J Jx R pre x w) .normal L (XM w (foot (J pre)) H') := fun _ w' _ hw => by
  have h1 := hp w' hw
  exact ⟨h1.others h.good, fun y hy _ => hR w' h1.good y hy, hV, h.then h1 hwr⟩
theorem XE.leave {n : Fr} {V Vx : List α → Prop} {J Jx : List α → List Ent} {R : List (Addr × Value)} {pre : List α} {x : α} {w : World} {H' : List Ent} (h : XM W S (J pre) w) (hV : Vx (pre ++ [x])) (hwr : (Jx (pre ++ [x])).all Ent.wr = true)
    (hp : ∀ w', XM w (foot (J pre)) H' w' → XM w (foot (J pre)) (Jx (pre ++ [x])) w') :
    XE n (roundQ W S V Vx J Jx R pre x w) .ret L (XM w (foot (J pre)) H') := fun _ w' _ hw => by
  have h1 := hp w' hw
  exact ⟨h1.others h.good, rfl, hV, h.then h1 hwr⟩
theorem XC.rangeF {k : Nat} {g : Operand} {ps : Array Tmp} {assign body : Code} {gf : Nat} {lb : Array Value} {encs : α → Array Value} {R : List (Addr × Value)} {xs : List α}
    (V Vx : List α → Prop) (J Jx : List α → List Ent) (L1 : α → PF) (asg : α → Array Value → Act)
    (hg : ev L g = some (.func (.func gf) #[] lb)) (eg : ∀ args w, (callFunc gf args).run P w = .ok (.enter gf args) w) (hps : ∀ x, (encs x).size = ps.size)
    (hseq : ∀ w, XM W S H w → SeqStopsK Fence.wide 2 P gf lb encs (KpR R) (· = xs) (· <+: xs) xs.length w)
    (hV0 : V []) (hJ0 : ∀ w, XM W S H w → XM W S (J []) w) (hJ : ∀ pre, (J pre).all Ent.wr = true) (hJx : ∀ pre, (Jx pre).all Ent.wr = true)
    (hassign : ∀ (l : Nat) (x : α) (tmps : Array Value) (w : World) (K : Act → World → Prop), K (asg x tmps) w → assign.wpIn (inR l) 1 P (Exit.then K (fun _ _ _ => False)) { tmps := (ps.zip (encs x)).foldl (fun t (p, v) => t.setIfInBounds p v) tmps, defers := [] } w)
    (hsat : ∀ x a, Sat (fr k) L a → Sat (fr k) (L1 x) (asg x a.tmps))
    (hbody : ∀ pre x w, V pre → pre.length < xs.length → XM W S (J pre) w → XB P (fr k) body (roundQ W S V Vx J Jx R pre x w) (L1 x) (XM w (foot (J pre)) (J pre)))
    (hdone : V xs → ∀ D, W.heap.size ≤ D → XE ⟨k, [mkD D]⟩ Q .normal L (XM W S (.mark D :: J xs)))
    (hstop : ∀ pre, pre <+: xs → Vx pre → ∀ D, W.heap.size ≤ D → XE ⟨k, [mkD D]⟩ Q .ret L (XM W S (.mark D :: Jx pre))) :
    XC P (fr k) (.rangeFunc g ps assign body) Q L (XM W S H) := fun a w ha hw => by
  have hmark : ∀ (D : Nat) (E : List Ent) (w' : World), E.all Ent.wr = true → W.heap.size ≤ D → XM W S E w' → w'.heap[D]? = some (.deferred (some [])) → XM W S (.mark D :: E) w' := fun D E w' hE hD hx hh => by
    refine ⟨⟨fun e he => ?_, List.pairwise_cons.2 ⟨fun e he _ b o h1 h2 => ?_, hx.good.2⟩⟩, hx.keep, fun e he hwr b o hb => ?_⟩
    · rcases List.mem_cons.1 he with rfl | he
      · exact hh
      · exact hx.good.1 e he
    · obtain rfl : b = D := h1
      obtain ⟨A, t, fz, h3⟩ := area_cells (hx.good.1 e he) (wr_noMark (List.all_eq_true.1 hE e he)) h2
      rw [hh] at h3; cases h3
    · rcases List.mem_cons.1 he with rfl | he
      · cases hwr
      · exact hx.mine e he hwr b o hb
  refine (wpIn_wide (n := 3)).1 ?_
  refine wpIn_rangeFunc_ownF (F := Fence.wide) (w0 := w) rfl (by omega) (ev_eval ha hg) trivial eg (hseq w hw) (fun h k => h.trans k) (fun W l o o' _ hl ho _ => KpR.put W l o o' hl ho) (Below.refl _ _) hps
    (RI W S V J) (fun c ys w' => c = .ret ∧ RI W S Vx Jx ys w') (RI.own hJ hw.keep.size) (fun c => fun pre A B row ⟨hc, hi⟩ hgr hr => ⟨hc, RI.own hJx hw.keep.size pre A B row hi hgr hr⟩) ⟨hV0, hJ0 w hw⟩ (fun x => asg x a.tmps) ?_ ?_ ?_ ?_
  · exact fun l x W' K hK => hassign l x a.tmps W' K hK
  · rintro l pre x w1 ⟨hv, hx⟩ hlen
    refine swp_in body _ _ w1 (fun _ _ q => q) ?_
    exact hbody pre x w1 hv hlen hx _ w1 (hsat x a ha) (XM.start hx.good)
  · rintro D ys w1 hD rfl ⟨hv, hx⟩ hh
    have hD2 : W.heap.size ≤ D := Nat.le_trans hw.keep.size hD
    have hd : a.defers = [] := ha.1
    refine hdone hv D hD2 _ w1 ⟨?_, ha.2.1, ha.2.2⟩ (hmark D _ w1 (hJ _) hD2 hx hh)
    show _ :: a.defers = _
    rw [hd]; rfl
  · rintro D c pre w1 hD hp ⟨rfl, hv, hx⟩ hh
    have hD2 : W.heap.size ≤ D := Nat.le_trans hw.keep.size hD
    have hd : a.defers = [] := ha.1
    refine wpIn_ret (hstop pre hp hv D hD2 _ w1 ⟨?_, ha.2.1, ha.2.2⟩ (hmark D _ w1 (hJx _) hD2 hx hh))
    show _ :: a.defers = _
    rw [hd]; rfl
end
/-! ### the iterator's side -/
section
variable {P : Program} {Q : Exit → Act → World → Prop} {L : PF} {n : Fr} {M : World → Prop} {ty : TypeId} {pos : String} {af : Array Edge} {d : Nat} {ops : Array Oper} {rest : List Oper}
def XI (P : Program) (n : Fr) (ops : Array Oper) (Q : Exit → Act → World → Prop) (l : List Oper) (L : PF) (M : World → Prop) : Prop :=
  ∀ a w, Sat n L a → M w → wpListIn Fence.wide 2 P ops Q l a w
theorem XC.regionI {i : Nat} {l : List Oper} (h : XI P n l.toArray Q l L M) : XC P n (.region i l.toArray false) Q L M := fun a w ha hw => wpIn_wide.1 (wpIn_region_lit (h a w ha hw))
theorem XI.nil (h : XE n Q .normal L M) : XI P n ops Q [] L M := h
theorem XI.v {op : Op} {v : Value} (hv : RunsTo P n L M ⟨some d, op, ty, pos, af, none⟩ v) (hd : Nat.blt d n.sz = true) (h : XI P n ops Q rest ((d, v) :: L) M) : XI P n ops Q (⟨some d, op, ty, pos, af, none⟩ :: rest) L M := fun a w ha hw => by
  unfold wpListIn
  rw [if_pos (by simp [Region.wanted])]
  refine ⟨fun _ _ => trivial, ?_⟩
  have h0 : Fence.wide.round = none := rfl
  rw [h0, Oper.semAt_none, hv a w ha hw]
  exact h _ w (ha.put hd v) hw
theorem XI.yield {x y : Operand} {l : Nat} {v : Value} {R : Ending → World → Prop} {t : Array TypeId} (hx : ev L x = some (.func (.yield l) #[] #[])) (hy : ev L y = some v) (hY : ∀ w, M w → YieldAt Fence.wide 1 P l #[v] w R) (hd : Nat.blt d n.sz = true)
    (h : ∀ e w, R e w → ∃ b, e = .returned (.bool b) ∧ XI P n ops Q rest ((d, .bool b) :: L) (fun w' => R (.returned (.bool b)) w')) : XI P n ops Q (⟨some d, .call ⟨.value x, #[y], t⟩, ty, pos, af, none⟩ :: rest) L M := fun a w ha hw => by
  obtain ⟨fn, tmps, assign, body, h1, h2⟩ := hY w hw
  unfold wpListIn
  rw [if_pos (by simp [Region.wanted])]
  refine ⟨fun _ _ => trivial, ?_⟩
  have h0 : Fence.wide.round = none := rfl
  have hrun : (execOp a.eval ⟨some d, .call ⟨.value x, #[y], t⟩, ty, pos, af, none⟩).run P w = .ok (.round l fn tmps assign body) w := by
    simp [execOp, resolve, invoke, Deferred.ofValue, ev_eval ha hx, ev_eval ha hy, h1]
  rw [h0, Oper.semAt_none, hrun]
  refine ⟨fun q => (by cases q), h2.mono fun e w' hr => ?_⟩
  obtain ⟨b, rfl, hx2⟩ := h e w' hr
  exact hx2 _ w' (ha.put hd _) hr
theorem V.loadCell {t : TypeId} {x : Operand} {b o : Nat} {v : Value} {φ : World → Prop} {gd : Option (Nat × Bool)} (hx : ev L x = some (.pointer (some ⟨b, o, none⟩))) (hc : ∀ w, φ w → w.cell? ⟨b, o, none⟩ = some v) (ht : scal P t = true) :
    RunsTo P n L φ (⟨some d, .load t x, ty, pos, af, gd⟩) v := fun a w ha hw => by
  simp [execOp, ev_eval ha hx, Instr.loadAt, Instr.sureAddr, run_loadVar_scal ht (hc w hw)]
theorem V.makeFunc2 {f : FuncId} {x y : Operand} {u v : Value} {φ : World → Prop} {gd : Option (Nat × Bool)} (hx : ev L x = some u) (hy : ev L y = some v) :
    RunsTo P n L φ (⟨some d, .makeFunc (.func f) #[] #[x, y], ty, pos, af, gd⟩) (.func (.func f) #[] #[u, v]) := fun a w ha hw => by
  simp [execOp, ev_eval ha hx, ev_eval ha hy, Instr.makeFunc]
end
/-! ### a range over a function of one variable: x = v -/
section
variable {P : Program} {Q : Exit → Act → World → Prop} {L : PF} {W : World} {S : Nat → Nat → Prop} {H : List Ent} {α : Type}
theorem fold1 (tmps : Array Value) (p : Tmp) (v : Value) : (#[p].zip #[v]).foldl (fun t (p, v) => t.setIfInBounds p v) tmps = tmps.setIfInBounds p v := by simp
theorem XC.rangeS {k : Nat} {g : Operand} {p : Nat} {body : Code} {gf : Nat} {lb : Array Value} {R : List (Addr × Value)} {xs : List α} (enc : α → Value)
    (V Vx : List α → Prop) (J Jx : List α → List Ent) (hg : ev L g = some (.func (.func gf) #[] lb)) (eg : ∀ args w, (callFunc gf args).run P w = .ok (.enter gf args) w) (hp : Nat.blt p k = true)
    (hseq : ∀ w, XM W S H w → SeqStopsK Fence.wide 2 P gf lb (fun x => #[enc x]) (KpR R) (· = xs) (· <+: xs) xs.length w)
    (hV0 : V []) (hJ0 : ∀ w, XM W S H w → XM W S (J []) w) (hJ : ∀ pre, (J pre).all Ent.wr = true) (hJx : ∀ pre, (Jx pre).all Ent.wr = true)
    (hbody : ∀ pre x w, V pre → pre.length < xs.length → XM W S (J pre) w → XB P (fr k) body (roundQ W S V Vx J Jx R pre x w) ((p, enc x) :: L) (XM w (foot (J pre)) (J pre)))
    (hdone : V xs → ∀ D, W.heap.size ≤ D → XE ⟨k, [mkD D]⟩ Q .normal L (XM W S (.mark D :: J xs)))
    (hstop : ∀ pre, pre <+: xs → Vx pre → ∀ D, W.heap.size ≤ D → XE ⟨k, [mkD D]⟩ Q .ret L (XM W S (.mark D :: Jx pre))) :
    XC P (fr k) (.rangeFunc g #[p] .skip body) Q L (XM W S H) :=
  XC.rangeF V Vx J Jx (fun x => (p, enc x) :: L) (fun x tmps => { tmps := tmps.setIfInBounds p (enc x), defers := [] }) hg eg (fun _ => rfl) hseq hV0 hJ0 hJ hJx
    (fun l x tmps w K hK => by rw [fold1]; exact wpIn_skip hK) (fun x a ha => by
      have := ha.put (n := fr k) hp (enc x)
      have hd : a.defers = [] := ha.1
      simpa only [Act.put, hd] using this) hbody hdone hstop
theorem assign_in {l i q p : Nat} {ty : TypeId} {pos : String} {a : Act} {w : World} {K : Act → World → Prop} (h : K (a.put (some q) (a.eval (.tmp p))) w) :
    (Code.region i #[⟨some q, .assign (.tmp p), ty, pos, #[], none⟩] false).wpIn (inR l) 1 P (Exit.then K (fun _ _ _ => False)) a w := by
  refine swp_in _ _ _ w (fun _ _ q => q) ⟨rfl, ?_⟩
  show wpList _ _ _ [_] _ _
  unfold wpList
  rw [if_pos (by simp [Region.wanted])]
  left
  unfold Oper.wp
  have : (execOp a.eval ⟨some q, .assign (.tmp p), ty, pos, #[], none⟩).run P w = .ok (.value (a.eval (.tmp p))) w := by simp [execOp]
  rw [this]
  exact h
theorem XC.rangeA {k : Nat} {g : Operand} {p q i : Nat} {ty : TypeId} {pos : String} {body : Code} {gf : Nat} {lb : Array Value} {R : List (Addr × Value)} {xs : List α} (enc : α → Value)
    (V Vx : List α → Prop) (J Jx : List α → List Ent) (hg : ev L g = some (.func (.func gf) #[] lb)) (eg : ∀ args w, (callFunc gf args).run P w = .ok (.enter gf args) w) (hp : Nat.blt p k = true) (hq : Nat.blt q k = true)
    (hseq : ∀ w, XM W S H w → SeqStopsK Fence.wide 2 P gf lb (fun x => #[enc x]) (KpR R) (· = xs) (· <+: xs) xs.length w)
    (hV0 : V []) (hJ0 : ∀ w, XM W S H w → XM W S (J []) w) (hJ : ∀ pre, (J pre).all Ent.wr = true) (hJx : ∀ pre, (Jx pre).all Ent.wr = true)
    (hbody : ∀ pre x w, V pre → pre.length < xs.length → XM W S (J pre) w → XB P (fr k) body (roundQ W S V Vx J Jx R pre x w) ((q, enc x) :: (p, enc x) :: L) (XM w (foot (J pre)) (J pre)))
    (hdone : V xs → ∀ D, W.heap.size ≤ D → XE ⟨k, [mkD D]⟩ Q .normal L (XM W S (.mark D :: J xs)))
    (hstop : ∀ pre, pre <+: xs → Vx pre → ∀ D, W.heap.size ≤ D → XE ⟨k, [mkD D]⟩ Q .ret L (XM W S (.mark D :: Jx pre))) :
    XC P (fr k) (.rangeFunc g #[p] (.region i #[⟨some q, .assign (.tmp p), ty, pos, #[], none⟩] false) body) Q L (XM W S H) :=
  XC.rangeF V Vx J Jx (fun x => (q, enc x) :: (p, enc x) :: L) (fun x tmps => (Act.put { tmps := tmps.setIfInBounds p (enc x), defers := [] } (some q) (Act.eval { tmps := tmps.setIfInBounds p (enc x), defers := [] } (.tmp p)))) hg eg (fun _ => rfl) hseq hV0 hJ0 hJ hJx
    (fun l x tmps w K hK => by rw [fold1]; exact assign_in hK)
    (fun x a ha => by
      have h1 := ha.put (n := fr k) hp (enc x)
      have hd : a.defers = [] := ha.1
      have h2 : Sat (fr k) ((p, enc x) :: L) { tmps := a.tmps.setIfInBounds p (enc x), defers := [] } := by simpa only [Act.put, hd] using h1
      have h3 : Act.eval { tmps := a.tmps.setIfInBounds p (enc x), defers := [] } (.tmp p) = enc x := ev_eval h2 (by simp [ev, lk])
      have h4 := h2.put (n := fr k) hq (enc x)
      rw [h3]; exact h4) hbody hdone hstop
end
end Go.X
