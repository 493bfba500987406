import Derived.Test.YtmklfkjfgjagaaaGreatDoorXStore
namespace Go.X
open Go

/-- s comes behind i by the edges (k steps at the most) -/
def depB (ops : Array Oper) (i : Nat) : Nat → Nat → Bool
  | 0, s => Nat.beq s i
  | k + 1, s => Nat.beq s i || match ops[s]? with
    | some o => o.after.any fun e => Region.binds .any e && depB ops i k e.on
    | none => false

def lst (l : Array Bool) (i : Nat) : Prop := l.getD i false = true
def Closed (ops : Array Oper) (l : Array Bool) : Prop := ∀ j o, ops[j]? = some o → lst l j → ∀ e ∈ o.after, Region.binds .any e = true → lst l e.on

theorem dep_closed {ops : Array Oper} {l : Array Bool} (hc : Closed ops l) {i : Nat} : ∀ (k s : Nat), depB ops i k s = true → lst l s → lst l i
  | 0, s, h, hs => by simp only [depB] at h; have := Nat.eq_of_beq_eq_true h; subst this; exact hs
  | k + 1, s, h, hs => by
    simp only [depB, Bool.or_eq_true] at h
    rcases h with h | h
    · have := Nat.eq_of_beq_eq_true h; subst this; exact hs
    · cases ho : ops[s]? with
      | none => simp [ho] at h
      | some o =>
        simp only [ho] at h
        obtain ⟨e, he, hb⟩ := Array.any_eq_true'.1 h
        simp only [Bool.and_eq_true] at hb
        exact dep_closed hc k e.on hb.2 (hc s o ho hs e he hb.1)

theorem closed_set {ops : Array Oper} {l : Array Bool} (hc : Closed ops l) {i : Nat} (hi : i ∈ Region.ready .any ops l) : Closed ops (l.setIfInBounds i true) := by
  intro j o ho hj e he hb
  by_cases hji : i = j
  · subst hji
    obtain ⟨_, o', ho', hall⟩ := mem_ready.1 hi
    rw [ho] at ho'; cases ho'
    exact getD_set_true (hall e he hb)
  · have : lst l j := by unfold lst at *; rwa [getD_set_ne false hji] at hj
    exact getD_set_true (hc j o ho this e he hb)

/-- what must stay true, until one of the listed operations has been carried out -/
abbrev Obl := List (List Nat × (World → Prop))
def JL : Obl → Array Bool → World → Prop
  | [], _, _ => True
  | p :: r, l, w => ((∀ s ∈ p.1, ¬ lst l s) → p.2 w) ∧ JL r l w
theorem JL.more : ∀ (B : Obl) {l : Array Bool} {w : World} {i : Nat}, JL B l w → JL B (l.setIfInBounds i true) w
  | [], _, _, _, _ => trivial
  | _ :: r, _, _, _, h => ⟨fun hs => h.1 fun s hp hl => hs s hp (getD_set_true hl), JL.more r h.2⟩
theorem JL.less : ∀ (B : Obl) {l : Array Bool} {w : World} {i : Nat}, (∀ p ∈ B, i ∉ p.1) → JL B (l.setIfInBounds i true) w → JL B l w
  | [], _, _, _, _, _ => trivial
  | p :: r, l, w, i, hi, h => ⟨fun hs => h.1 fun s hp hl => hs s hp (by
      have : i ≠ s := fun e => hi p (by simp) (e ▸ hp)
      unfold lst at *; rwa [getD_set_ne false this] at hl), JL.less r (fun q hq => hi q (by simp [hq])) h.2⟩

section
variable {P : Program} {ops : Array Oper} {Q : Exit → Act → World → Prop}

def nrm (Q : Exit → Act → World → Prop) : Exit → Act → World → Prop := fun e a w => e = .normal ∧ Q .normal a w

def wpJ (P : Program) (ops : Array Oper) (Q : Exit → Act → World → Prop) (B : Obl) : Nat → Array Bool → Act → World → Prop
  | 0, l, a, w => JL B l w ∧ Region.ready .any ops l = [] ∧ Q .normal a w
  | f + 1, l, a, w => JL B l w ∧ (Region.ready .any ops l = [] → Q .normal a w) ∧ ∀ i ∈ Region.ready .any ops l, wpOp P ops (nrm Q) i (wpJ P ops Q B f (l.setIfInBounds i true)) a w

theorem wpJ.J {B : Obl} : ∀ {f : Nat} {l : Array Bool} {a : Act} {w : World}, wpJ P ops Q B f l a w → JL B l w
  | 0, _, _, _, h => h.1
  | _ + 1, _, _, _, h => h.1

theorem Oper.wp_nrm {o : Oper} {a : Act} {w : World} {K : Act → World → Prop} (h : o.wp P a w K (nrm Q)) : o.wp P a w K Q := by
  unfold Oper.wp at *
  generalize (execOp a.eval o).run P w = r at *
  cases r with
  | ok n w' =>
    cases n <;> simp only [Oper.upon] at h ⊢ <;>
      first
        | exact h
        | (refine Calls.mono h (fun e w'' he => ?_)
           cases e with
           | returned v => exact he
           | panicked c => exact absurd he.1 (by simp)
           | outgrown => obtain ⟨_, _, he⟩ := he; exact absurd he.1 (by simp))
  | halt x w' => cases x <;> simp only [Oper.upon] at h ⊢ <;> first | exact h | exact absurd h.1 (by simp)

theorem wpOp_nrm {i : Nat} {a : Act} {w : World} {K : Act → World → Prop} (h : wpOp P ops (nrm Q) i K a w) : wpOp P ops Q i K a w := by
  unfold wpOp at *
  split
  · rename_i ho; simpa [ho] using h
  · rename_i o ho
    simp only [ho] at h
    split
    · rename_i hw
      simp only [hw, if_true] at h
      rcases h with h | ⟨_, a', w', h⟩
      · exact .inl (Oper.wp_nrm h)
      · exact absurd h.1 (by simp)
    · rename_i hw; simpa [hw] using h

theorem wpAny_of_J {B : Obl} : ∀ (f : Nat) (l : Array Bool) (a : Act) (w : World), wpJ P ops Q B f l a w → wpAny P .any ops Q f l a w
  | 0, _, _, _, h => ⟨h.2.1, h.2.2⟩
  | f + 1, _, _, _, h => ⟨h.2.1, fun i hi => wpOp_nrm (wpOp_mono (fun a' w' => wpAny_of_J f _ a' w') (h.2.2 i hi))⟩

/-- it yields v wherever φ holds -/
def YF (P : Program) (ops : Array Oper) (φ : World → Prop) (o : Oper) (v : Value) (a : Act) : Prop :=
  (Region.wanted o (yielded ops a.tmps) = true ∧ ∀ w, φ w → (execOp a.eval o).run P w = .ok (.value v) w) ∨
  (Region.wanted o (yielded ops a.tmps) = false ∧ v = undef)
theorem YF.wpOp {φ : World → Prop} {i : Nat} {o : Oper} {v : Value} {a : Act} (hi : ops[i]? = some o) (hy : YF P ops φ o v a) {K : Act → World → Prop} {w : World} (hw : φ w) (h : K (a.put o.dst v) w) : wpOp P ops Q i K a w := by
  unfold Go.wpOp
  simp only [hi]
  rcases hy with ⟨h1, hv⟩ | ⟨h1, rfl⟩
  · simp only [h1, if_true, Oper.wp, hv w hw, Oper.upon]; exact .inl h
  · simp only [h1, Bool.false_eq_true, if_false]; exact h
theorem YF.of_same {φ : World → Prop} {o : Oper} {v : Value} {a a' : Act} (hy : YF P ops φ o v a) (he : execOp a'.eval o = execOp a.eval o) (hw : Region.wanted o (yielded ops a'.tmps) = Region.wanted o (yielded ops a.tmps)) : YF P ops φ o v a' := by
  unfold YF at *; rw [he, hw]; exact hy

theorem wpOp_putF {φ : World → Prop} {j : Nat} {oi oj : Oper} {v : Value} (hj : ops[j]? = some oj) (hap : oi.apart ops oj = true)
    (hsi : ∀ cs b, oi.op ≠ .select cs b) (hsj : ∀ cs b, oj.op ≠ .select cs b) {K : Act → World → Prop} {a : Act} {w : World}
    (hy : YF P ops φ oi v a) (h : wpOp P ops (nrm Q) j K (a.put oi.dst v) w) :
    wpOp P ops (nrm Q) j (fun a' w' => YF P ops φ oi v a' ∧ K (a'.put oi.dst v) w') a w := by
  obtain ⟨h1, h2, h3⟩ := Oper.apart_spec hap
  have keep : ∀ (a : Act), YF P ops φ oi v a → ∀ u, YF P ops φ oi v (a.put oj.dst u) := fun a hy u =>
    hy.of_same (execOp_put oi hsi a oj.dst u h3) (wanted_put oi a oj.dst u h3)
  have keepD : ∀ d, YF P ops φ oi v { a with defers := d :: a.defers } := fun d => hy.of_same rfl rfl
  unfold wpOp at *
  simp only [hj] at *
  rw [wanted_put oj a oi.dst v h1] at h
  split
  · rename_i hw
    simp only [hw, if_true] at h
    rcases h with h | ⟨_, a', w', hq⟩
    case inr => exact absurd hq.1 (by simp)
    refine .inl ?_
    unfold Oper.wp at *
    rw [execOp_put oj hsj a oi.dst v h1] at h
    generalize (execOp a.eval oj).run P w = r at *
    cases r with
    | ok n w' =>
      cases n <;> simp only [Oper.upon] at h ⊢
      case value u => exact ⟨keep a hy u, by rw [← Act.put_comm a v u h2]; exact h⟩
      case skip => exact ⟨keep a hy _, by rw [← Act.put_comm a v undef h2]; exact h⟩
      case defer d =>
        refine ⟨keep _ (keepD d) _, ?_⟩
        rw [← Act.put_comm _ v undef h2, ← Act.put_defers]
        exact h
      case enter f args =>
        refine Calls.mono h fun e w'' he => ?_
        cases e with
        | returned u => exact ⟨keep a hy u, by rw [← Act.put_comm a v u h2]; exact he⟩
        | panicked c => exact absurd he.1 (by simp)
        | outgrown => exact he
      case row row args => exact Rows.mono h fun u w'' he => ⟨keep a hy u, by rw [← Act.put_comm a v u h2]; exact he⟩
    | halt x w' =>
      cases x <;> simp only [Oper.upon] at h ⊢
      case panic u => exact absurd h.1 (by simp)
  · rename_i hw
    simp only [hw] at h
    exact ⟨keep a hy _, by rw [← Act.put_comm a v undef h2]; exact h⟩

theorem wpJ_first {B : Obl} {φ : World → Prop} {T : List Nat} {i : Nat} {oi : Oper} {v : Value} (hi : ops[i]? = some oi) (hsel : ∀ (j : Nat) (o : Oper) cs b, ops[j]? = some o → o.op ≠ .select cs b)
    (hT : ∀ s ∈ T, ∃ k, depB ops i k s = true) (hTi : i ∉ T) (hB : ∀ p ∈ B, i ∉ p.1) :
    ∀ (fuel : Nat) (l : Array Bool) (a : Act) (w : World), Closed ops l →
      (∀ j oj, ops[j]? = some oj → j ≠ i → l.getD j true = false → (∀ e ∈ oj.after, Region.binds .any e = true → e.on ≠ i) → oi.apart ops oj = true) →
      i ∈ Region.ready .any ops l → YF P ops φ oi v a →
      wpJ P ops Q ((T, φ) :: B) fuel (l.setIfInBounds i true) (a.put oi.dst v) w → wpJ P ops Q B (fuel + 1) l a w := by
  have drop : ∀ (f : Nat) (l : Array Bool) (a : Act) (w : World), wpJ P ops Q ((T, φ) :: B) f l a w → wpJ P ops Q B f l a w := by
    intro f
    induction f with
    | zero => intro l a w h; exact ⟨h.1.2, h.2.1, h.2.2⟩
    | succ f ih => intro l a w h; exact ⟨h.1.2, h.2.1, fun j hj => wpOp_mono (fun a' w' => ih _ a' w') (h.2.2 j hj)⟩
  have ofJ : ∀ (l : Array Bool) (w : World), Closed ops l → i ∈ Region.ready .any ops l → JL ((T, φ) :: B) (l.setIfInBounds i true) w → φ w ∧ JL B l w := by
    intro l w hc hr h
    refine ⟨h.1 fun s hs hl => ?_, JL.less B hB h.2⟩
    have hni : ¬ lst l i := by
      have h0 := (mem_ready.1 hr).1
      unfold lst
      intro h1
      rcases Nat.lt_or_ge i l.size with h' | h'
      · simp [h'] at h0 h1; rw [h0] at h1; cases h1
      · simp [Array.getElem?_eq_none h'] at h1
    obtain ⟨k, hk⟩ := hT s hs
    have his : i ≠ s := fun e => hTi (e ▸ hs)
    have : lst l s := by unfold lst at *; rwa [getD_set_ne false his] at hl
    exact hni (dep_closed hc k s hk this)
  intro fuel
  induction fuel with
  | zero =>
    intro l a w hc _ hr hy H
    obtain ⟨hφ, hJ⟩ := ofJ l w hc hr H.J
    refine ⟨hJ, fun h => (by rw [h] at hr; cases hr), fun j hj => ?_⟩
    by_cases hji : j = i
    · subst hji; exact hy.wpOp hi hφ (drop _ _ _ _ H)
    · have := ready_mono hj hji
      rw [H.2.1] at this
      cases this
  | succ fuel ih =>
    intro l a w hc hfree hr hy H
    obtain ⟨hφ, hJ⟩ := ofJ l w hc hr H.J
    refine ⟨hJ, fun h => (by rw [h] at hr; cases hr), fun j hj => ?_⟩
    by_cases hji : j = i
    · subst hji; exact hy.wpOp hi hφ (drop _ _ _ _ H)
    · have h1 := H.2.2 j (ready_mono hj hji)
      obtain ⟨hjun, oj, hoj, hall⟩ := mem_ready.1 hj
      have hnot : ∀ e ∈ oj.after, Region.binds .any e = true → e.on ≠ i := fun e he hb heq => by
        have h1 := hall e he hb
        have h0 := (mem_ready.1 hr).1
        rw [heq] at h1
        rcases Nat.lt_or_ge i l.size with h' | h'
        · simp [h'] at h0 h1; rw [h0] at h1; cases h1
        · simp [Array.getElem?_eq_none h'] at h1
      have h2 := wpOp_putF hoj (hfree j oj hoj hji hjun hnot) (fun cs b => hsel i oi cs b hi) (fun cs b => hsel j oj cs b hoj) hy h1
      have hfree' : ∀ k ok, ops[k]? = some ok → k ≠ i → (l.setIfInBounds j true).getD k true = false →
          (∀ e ∈ ok.after, Region.binds .any e = true → e.on ≠ i) → oi.apart ops ok = true := fun k ok hk hki hun hno => by
        refine hfree k ok hk hki ?_ hno
        by_cases hjk : j = k
        · subst hjk; exact hjun
        · rw [getD_set_ne true hjk] at hun; exact hun
      refine wpOp_mono (fun a' w' h3 => ih (l.setIfInBounds j true) a' w' (closed_set hc hj) hfree' (ready_mono hr (Ne.symm hji)) h3.1 ?_) h2
      rw [Array.setIfInBounds_comm _ _ hji]
      exact h3.2

theorem closed_none (ops : Array Oper) (n : Nat) : Closed ops (Array.replicate n false) := by
  intro j o _ h
  unfold lst at h
  by_cases hj : j < n
  · simp [hj] at h
  · simp [hj] at h

variable {n : Fr} {L : PF} {M : World → Prop}
/-- the state of a region whose order is open: l: what has been carried out; B: what must stay true -/
def XQ (P : Program) (n : Fr) (ops : Array Oper) (Q : Exit → Act → World → Prop) (B : Obl) (f : Nat) (l : Array Bool) (L : PF) (M : World → Prop) : Prop :=
  Closed ops l → ∀ a w, Sat n L a → M w → JL B l w → wpJ P ops Q B f l a w

theorem XC.regionQ {i : Nat} {os : List Oper} {f : Nat} {l : Array Bool} (hm : P.follows .mixedOrders = true) (hf : os.length = f) (hl : Array.replicate f false = l) (hM : ∀ w k, M w → M { w with drawn := w.drawn + k })
    (h : XQ P n os.toArray Q [] f l L M) : XC P n (.region i os.toArray true) Q L M := fun a w ha hw => by
  subst hf; subst hl
  refine wp_region_any hm ?_
  have := wpAny_of_J _ _ _ _ (h (closed_none _ _) a _ ha (hM w 1 hw) trivial)
  simpa using this
theorem XM.drawn' {W : World} {S : Nat → Nat → Prop} {H : List Ent} (w : World) (k : Nat) (h : XM W S H w) : XM W S H { w with drawn := w.drawn + k } := h.drawn k

def hoistB (ops : Array Oper) (l : Array Bool) (i : Nat) : Bool := Region.noSelect ops && Region.free .any ops l i && (Region.ready .any ops l).contains i
theorem XQ.hoist {B : Obl} {f i d : Nat} {l l' : Array Bool} {o : Oper} {v : Value} (T : List Nat) (φ : World → Prop) (ho : ops[i]? = some o) (hk : hoistB ops l i = true) (hT : T.all (fun s => depB ops i ops.size s && !(Nat.beq s i)) = true)
    (hB : B.all (fun p => !p.1.contains i) = true) (hl : l.setIfInBounds i true = l') (hdst : o.dst = some d) (hd : Nat.blt d n.sz = true) (hφ : ∀ w, M w → φ w) (hv : ∀ a, Sat n L a → YF P ops φ o v a)
    (h : XQ P n ops Q ((T, φ) :: B) f l' ((d, v) :: L) M) : XQ P n ops Q B (f + 1) l L M := by
  subst hl
  intro hc a w ha hw hJ
  simp only [hoistB, Bool.and_eq_true] at hk
  obtain ⟨⟨h1, h2⟩, h3⟩ := hk
  have hr : i ∈ Region.ready .any ops l := by simpa using h3
  refine wpJ_first (T := T) (φ := φ) ho (Region.noSelect_spec h1) (fun s hs => ⟨ops.size, ?_⟩) ?_ ?_ f l a w hc (Region.free_spec ho h2) hr (hv a ha) ?_
  · have h4 := List.all_eq_true.1 hT s hs
    simp only [Bool.and_eq_true] at h4; exact h4.1
  · intro hi
    have := List.all_eq_true.1 hT i hi
    simp at this
  · intro p hp hi
    have := List.all_eq_true.1 hB p hp
    simp at this
    exact this hi
  · rw [hdst]
    exact h (closed_set hc hr) _ w (ha.put hd v) hw ⟨fun _ => hφ w hw, JL.more B hJ⟩

/-- no other operation can come: it is carried out -/
theorem XQ.step {B : Obl} {f i : Nat} {l : Array Bool} {o : Oper} (ho : ops[i]? = some o) (hg : o.guard = none) (hk : Region.ready .any ops l = [i])
    (h : Closed ops (l.setIfInBounds i true) → ∀ a w, Sat n L a → M w → JL B l w → o.wp P a w (wpJ P ops Q B f (l.setIfInBounds i true)) (nrm Q)) : XQ P n ops Q B (f + 1) l L M := by
  intro hc a w ha hw hJ
  have hr : i ∈ Region.ready .any ops l := by rw [hk]; simp
  refine ⟨hJ, fun h0 => (by rw [hk] at h0; cases h0), fun j hj => ?_⟩
  rw [hk] at hj
  have : j = i := by simpa using hj
  subst this
  unfold wpOp
  simp only [ho]
  rw [if_pos (by simp [Region.wanted, hg])]
  exact .inl (h (closed_set hc hr) a w ha hw hJ)

theorem XQ.done {B : Obl} {f : Nat} {l : Array Bool} (hk : Region.ready .any ops l = []) (h : XE n Q .normal L M) : XQ P n ops Q B f l L M := by
  intro hc a w ha hw hJ
  cases f with
  | zero => exact ⟨hJ, hk, h a w ha hw⟩
  | succ f => exact ⟨hJ, fun _ => h a w ha hw, fun j hj => by rw [hk] at hj; cases hj⟩
theorem XQ.split {B : Obl} {f d : Nat} {l : Array Bool} {t : Bool} (hl : lk L d = some (.bool t)) (ht : t = true → XQ P n ops Q B f l ((d, .bool true) :: L) M)
    (hf : t = false → XQ P n ops Q B f l ((d, .bool false) :: L) M) : XQ P n ops Q B f l L M := by
  cases t
  · exact fun hc a w ha hw hJ => hf rfl hc a w ((Sub.cons hl (fun i v h => h)).sat ha) hw hJ
  · exact fun hc a w ha hw hJ => ht rfl hc a w ((Sub.cons hl (fun i v h => h)).sat ha) hw hJ

theorem XQ.splitP {B : Obl} {f d : Nat} {l : Array Bool} {p : Prop} [Decidable p] (hl : lk L d = some (.bool (decide p))) (ht : p → XQ P n ops Q B f l ((d, .bool true) :: L) M)
    (hf : ¬ p → XQ P n ops Q B f l ((d, .bool false) :: L) M) : XQ P n ops Q B f l L M := XQ.split hl (fun h => ht (of_decide_eq_true h)) (fun h => hf (of_decide_eq_false h))
theorem XQ.splitT {B : Obl} {f d : Nat} {l : Array Bool} {p : Prop} [Decidable p] (hl : lk L d = some (.bool (decide p))) (h : p) (ht : XQ P n ops Q B f l ((d, .bool true) :: L) M) : XQ P n ops Q B f l L M :=
  XQ.split hl (fun _ => ht) (fun q => absurd h (of_decide_eq_false q))
theorem XQ.splitF {B : Obl} {f d : Nat} {l : Array Bool} {p : Prop} [Decidable p] (hl : lk L d = some (.bool (decide p))) (h : ¬ p) (hf : XQ P n ops Q B f l ((d, .bool false) :: L) M) : XQ P n ops Q B f l L M :=
  XQ.split hl (fun q => absurd (of_decide_eq_true q) h) (fun _ => hf)
theorem wpJ.addTrue {B : Obl} : ∀ (f : Nat) (l : Array Bool) (a : Act) (w : World), wpJ P ops Q B f l a w → wpJ P ops Q (([], fun _ => True) :: B) f l a w
  | 0, _, _, _, h => ⟨⟨fun _ => trivial, h.1⟩, h.2.1, h.2.2⟩
  | f + 1, _, _, _, h => ⟨⟨fun _ => trivial, h.1⟩, h.2.1, fun j hj => wpOp_mono (fun a' w' => wpJ.addTrue f _ a' w') (h.2.2 j hj)⟩

variable {op : Op} {ty : TypeId} {pos : String} {af : Array Edge} {d f i : Nat} {v : Value} {B : Obl} {l l' : Array Bool}
theorem YF_of {φ : World → Prop} (hv : RunsTo P n L φ ⟨some d, op, ty, pos, af, none⟩ v) (a : Act) (ha : Sat n L a) : YF P ops φ ⟨some d, op, ty, pos, af, none⟩ v a :=
  .inl ⟨by simp [Region.wanted], fun w hw => hv a w ha hw⟩
theorem XQ.pv (ho : ops[i]? = some ⟨some d, op, ty, pos, af, none⟩) (hk : hoistB ops l i = true) (hl : l.setIfInBounds i true = l') (hv : RunsTo P n L (fun _ => True) ⟨some d, op, ty, pos, af, none⟩ v) (hd : Nat.blt d n.sz = true)
    (hB : B.all (fun p => !p.1.contains i) = true) (h : XQ P n ops Q B f l' ((d, v) :: L) M) : XQ P n ops Q B (f + 1) l L M :=
  XQ.hoist [] (fun _ => True) ho hk rfl hB hl rfl hd (fun _ _ => trivial) (YF_of hv) (fun hc a w ha hw hJ => wpJ.addTrue _ _ _ _ (h hc a w ha hw hJ.2))
theorem XQ.load {W : World} {S : Nat → Nat → Prop} {H : List Ent} (e : Ent) (T : List Nat) (ho : ops[i]? = some ⟨some d, op, ty, pos, af, none⟩) (hk : hoistB ops l i = true) (hl : l.setIfInBounds i true = l')
    (hH : Has H e) (hv : RunsTo P n L (fun w => e.holds w) ⟨some d, op, ty, pos, af, none⟩ v) (hd : Nat.blt d n.sz = true) (hT : T.all (fun s => depB ops i ops.size s && !(Nat.beq s i)) = true)
    (hB : B.all (fun p => !p.1.contains i) = true) (h : XQ P n ops Q ((T, fun w => e.holds w) :: B) f l' ((d, v) :: L) (XM W S H)) : XQ P n ops Q B (f + 1) l L (XM W S H) :=
  XQ.hoist T _ ho hk hT hB hl rfl hd (inXM hH) (YF_of hv) h
/-- a guarded operation that is passed over -/
theorem XQ.skip {o : Oper} {j dj : Nat} {want : Bool} (ho : ops[i]? = some o) (hg : o.guard = some (j, want)) (hdst : o.dst = some d) (hj : (ops[j]?).bind (·.dst) = some dj) (hlk : lk L dj = some (.bool (!want)))
    (hk : hoistB ops l i = true) (hl : l.setIfInBounds i true = l') (hd : Nat.blt d n.sz = true) (hB : B.all (fun p => !p.1.contains i) = true)
    (h : XQ P n ops Q B f l' ((d, undef) :: L) M) : XQ P n ops Q B (f + 1) l L M :=
  XQ.hoist [] (fun _ => True) ho hk rfl hB hl hdst hd (fun _ _ => trivial) (fun a ha => .inr ⟨by
    have hy := ha.2.2 dj _ hlk
    simp only [Region.wanted, hg, yielded, hj]
    simp only [Array.getD_eq_getD_getElem?] at hy
    cases hx : a.tmps[dj]? with
    | none => rw [hx] at hy; simp [undef] at hy
    | some u => rw [hx] at hy; simp at hy; subst hy; simp [hx], rfl⟩) (fun hc a w ha hw hJ => wpJ.addTrue _ _ _ _ (h hc a w ha hw hJ.2))
theorem YF_guard {φ : World → Prop} {j dj : Nat} {want : Bool} (hj : (ops[j]?).bind (·.dst) = some dj) (hlk : lk L dj = some (.bool want)) (hv : RunsTo P n L φ ⟨some d, op, ty, pos, af, some (j, want)⟩ v) (a : Act) (ha : Sat n L a) :
    YF P ops φ ⟨some d, op, ty, pos, af, some (j, want)⟩ v a :=
  .inl ⟨by
    have hy := ha.2.2 dj _ hlk
    simp only [Region.wanted, yielded, hj, beq_iff_eq]
    simp only [Array.getD_eq_getD_getElem?] at hy
    cases hx : a.tmps[dj]? with
    | none => rw [hx] at hy; simp [undef] at hy
    | some u => rw [hx] at hy; simp at hy; subst hy; simp [hx], fun w hw => hv a w ha hw⟩
theorem XQ.pvG {j dj : Nat} {want : Bool} (ho : ops[i]? = some ⟨some d, op, ty, pos, af, some (j, want)⟩) (hj : (ops[j]?).bind (·.dst) = some dj) (hlk : lk L dj = some (.bool want)) (hk : hoistB ops l i = true) (hl : l.setIfInBounds i true = l')
    (hv : RunsTo P n L (fun _ => True) ⟨some d, op, ty, pos, af, some (j, want)⟩ v) (hd : Nat.blt d n.sz = true)
    (hB : B.all (fun p => !p.1.contains i) = true) (h : XQ P n ops Q B f l' ((d, v) :: L) M) : XQ P n ops Q B (f + 1) l L M :=
  XQ.hoist [] (fun _ => True) ho hk rfl hB hl rfl hd (fun _ _ => trivial) (YF_guard hj hlk hv) (fun hc a w ha hw hJ => wpJ.addTrue _ _ _ _ (h hc a w ha hw hJ.2))
theorem XQ.loadG {W : World} {S : Nat → Nat → Prop} {H : List Ent} {j dj : Nat} {want : Bool} (e : Ent) (T : List Nat) (ho : ops[i]? = some ⟨some d, op, ty, pos, af, some (j, want)⟩) (hj : (ops[j]?).bind (·.dst) = some dj) (hlk : lk L dj = some (.bool want))
    (hk : hoistB ops l i = true) (hl : l.setIfInBounds i true = l')
    (hH : Has H e) (hv : RunsTo P n L (fun w => e.holds w) ⟨some d, op, ty, pos, af, some (j, want)⟩ v) (hd : Nat.blt d n.sz = true) (hT : T.all (fun s => depB ops i ops.size s && !(Nat.beq s i)) = true)
    (hB : B.all (fun p => !p.1.contains i) = true) (h : XQ P n ops Q ((T, fun w => e.holds w) :: B) f l' ((d, v) :: L) (XM W S H)) : XQ P n ops Q B (f + 1) l L (XM W S H) :=
  XQ.hoist T _ ho hk hT hB hl rfl hd (inXM hH) (YF_guard hj hlk hv) h

/-- any rule for a single operation serves where no other can come -/
theorem XQ.store {W : World} {S : Nat → Nat → Prop} {H H' : List Ent} {t : TypeId} {x y : Operand} {b o i' m : Nat} {C C' : Nat → Value} (ho : ops[i]? = some ⟨none, .store t x y, ty, pos, af, none⟩) (hk : Region.ready .any ops l = [i]) (hl : l.setIfInBounds i true = l')
    (hx : ev L x = some (ptr b o i')) (hy : ev L y = some v) (hH : Put H (.cells b o m C) (.cells b o m C') H') (hi : i' < m ∧ upd C i' v = C') (hv : one v = true) (hs : szOf P t = some 1)
    (hob : ∀ w, XM W S H' w → JL B l' w) (h : XQ P n ops Q B f l' L (XM W S H')) : XQ P n ops Q B (f + 1) l L (XM W S H) := by
  subst hl
  refine XQ.step ho rfl hk fun hc a w ha hw hJ => ?_
  obtain ⟨H1, hd, hp⟩ := hH.del
  have h2 := hw.setCell hd hi.1 v
  rw [hi.2] at h2
  have hw' := hw.perm hd.perm
  have hr := run_store_cells (P := P) (show (Ent.cells b o m C).holds w from hw'.good.1 _ (by simp)) hi.1 hv
  unfold Oper.wp
  have : (execOp a.eval ⟨none, .store t x y, ty, pos, af, none⟩).run P w = .ok .skip (w.setCell ⟨b, o + i', none⟩ v) := by
    have hz : (⟨b, o + i', none⟩ : Addr).add 0 = ⟨b, o + i', none⟩ := rfl
    simp [execOp, ev_eval ha hx, ev_eval ha hy, Instr.storeAt, Instr.sureAddr, ptr, storeVar, one_cells hv, run_sizeOf hs, storeCells, hz, hr]
  rw [this]
  exact h hc _ _ ha (h2.perm hp) (hob _ (h2.perm hp))
theorem XQ.storeAgg {W : World} {S : Nat → Nat → Prop} {H H' : List Ent} {t : TypeId} {x y : Operand} {b o i' m sz : Nat} {C C' : Nat → Value} {cs : Array Value} (ho : ops[i]? = some ⟨none, .store t x y, ty, pos, af, none⟩) (hk : Region.ready .any ops l = [i]) (hl : l.setIfInBounds i true = l')
    (hx : ev L x = some (ptr b o i')) (hy : ev L y = some (.agg cs)) (hH : Put H (.cells b o m C) (.cells b o m C') H') (hi : i' + sz ≤ m ∧ updL C i' cs.toList = C') (hv : cs.toList.all one = true ∧ cs.size = sz) (hs : szOf P t = some sz)
    (hob : ∀ w, XM W S H' w → JL B l' w) (h : XQ P n ops Q B f l' L (XM W S H')) : XQ P n ops Q B (f + 1) l L (XM W S H) := by
  subst hl
  refine XQ.step ho rfl hk fun hc a w ha hw hJ => ?_
  obtain ⟨H1, hd, hp⟩ := hH.del
  obtain ⟨w', hr, hx'⟩ := run_storeCells (P := P) cs.toList i' 0 C w (hw.perm hd.perm) (by simp; omega) hv.1
  simp only [Nat.add_zero] at hx'
  rw [hi.2] at hx'
  unfold Oper.wp
  have : (execOp a.eval ⟨none, .store t x y, ty, pos, af, none⟩).run P w = .ok .skip w' := by
    simp [execOp, ev_eval ha hx, ev_eval ha hy, Instr.storeAt, Instr.sureAddr, ptr, storeVar, Value.cells, run_sizeOf hs, hv.2, hr]
  rw [this]
  exact h hc _ _ ha (hx'.perm hp) (hob _ (hx'.perm hp))
theorem XQ.call {W : World} {S : Nat → Nat → Prop} {H : List Ent} {g : FuncId} {xs : List Operand} {vs : List Value} {ats : Array TypeId} {pre F : List Ent} {post : Value → List Ent → Prop}
    (ho : ops[i]? = some ⟨some d, .call ⟨.value (.func g), xs.toArray, ats⟩, ty, pos, af, none⟩) (hk : Region.ready .any ops l = [i]) (hl : l.setIfInBounds i true = l') (he : evs L xs = some vs) (hs : Spec P g vs pre post) (hp : Pick H pre F)
    (hc : callable P g = true) (hd : Nat.blt d n.sz = true) (hob : ∀ v H1, post v H1 → ∀ w, XM W S (H1 ++ F) w → JL B l' w)
    (h : ∀ v H1, post v H1 → XQ P n ops Q B f l' ((d, v) :: L) (XM W S (H1 ++ F))) : XQ P n ops Q B (f + 1) l L (XM W S H) := by
  subst hl
  refine XQ.step ho rfl hk fun hcl a w ha hw hJ => ?_
  unfold Oper.wp
  rw [run_call hc (evs_eval ha xs vs he)]
  show Calls P g vs.toArray w _
  refine (hs w (hw.pick hp).good).mono ?_
  rintro e w' ⟨v, H1, rfl, hpost, hwr, hx⟩
  have hx' := hw.called hp hx (fun e he => List.all_eq_true.1 hwr e he)
  exact h v H1 hpost hcl _ _ (ha.put hd v) hx' (hob v H1 hpost _ hx')
theorem XQ.allocZ {W : World} {S : Nat → Nat → Prop} {H : List Ent} {t : TypeId} {z : Value} {m : Nat} {C : Nat → Value} (ho : ops[i]? = some ⟨some d, .alloc t, ty, pos, af, none⟩) (hk : Region.ready .any ops l = [i]) (hl : l.setIfInBounds i true = l')
    (hz : zeroOf P t = some z) (hm : z.cells.size = m) (hC : ∀ i, i < m → cellsOf z.cells i = C i) (hd : Nat.blt d n.sz = true) (hob : ∀ b w, XM W S (.cells b 0 m C :: H) w → JL B l' w)
    (h : ∀ b, XQ P n ops Q B f l' ((d, ptr b 0 0) :: L) (XM W S (.cells b 0 m C :: H))) : XQ P n ops Q B (f + 1) l L (XM W S H) := by
  subst hl
  refine XQ.step ho rfl hk fun hcl a w ha hw hJ => ?_
  have hx := hw.alloc z.cells t C (fun i hi => by rw [cellsOf_spec _ _ hi, hC i (hm ▸ hi)])
  rw [hm] at hx
  unfold Oper.wp
  have : (execOp a.eval ⟨some d, .alloc t, ty, pos, af, none⟩).run P w = .ok (.value (ptr w.heap.size 0 0)) (w.alloc (.cells z.cells t)) := by
    simp [execOp, Instr.alloc, run_zeroValue hz, newVar, newRow, newObj, Sem.run, ptr]
  rw [this]
  exact h _ hcl _ _ (ha.put hd _) hx (hob _ _ hx)
end
end Go.X
