import Derived.WalkKit
import Derived.Deep.LoopGhost
import Derived.Orders
namespace Go.X
open Go

/-- a partial frame: what is known of the slots -/
abbrev PF := List (Nat × Value)

def lk : PF → Nat → Option Value
  | [], _ => none
  | (i, v) :: r, j => bif Nat.beq i j then some v else lk r j

theorem lk_cons (i : Nat) (v : Value) (L : PF) (j : Nat) : lk ((i, v) :: L) j = if i = j then some v else lk L j := by
  by_cases h : i = j
  · subst h; simp [lk]
  · have : Nat.beq i j = false := by cases hb : Nat.beq i j with | false => rfl | true => exact absurd (Nat.eq_of_beq_eq_true hb) h
    simp [lk, this, h]

/-- a frame: how many slots it has, and what it does behind its end -/
structure Fr where
  sz : Nat
  ds : List Deferred
abbrev fr (k : Nat) : Fr := ⟨k, []⟩
/-- a frame that bears what is known -/
def Sat (n : Fr) (L : PF) (a : Act) : Prop := a.defers = n.ds ∧ a.tmps.size = n.sz ∧ ∀ i v, lk L i = some v → a.tmps.getD i undef = v

def ev (L : PF) : Operand → Option Value
  | .tmp t => lk L t
  | .const v => some v
  | .global g => some (.pointer (some ⟨g, 0, none⟩))
  | .func f => some (.func (.func f) #[] #[])

theorem ev_eval {n : Fr} {L : PF} {a : Act} {x : Operand} {v : Value} (h : Sat n L a) (hx : ev L x = some v) : a.eval x = v := by
  cases x with
  | tmp t => exact h.2.2 t v hx
  | const c => simpa [ev, Act.eval] using hx
  | global g => simpa [ev, Act.eval] using hx
  | func f => simpa [ev, Act.eval] using hx

theorem Sat.put {n : Fr} {L : PF} {a : Act} {d : Nat} (h : Sat n L a) (hd : Nat.blt d n.sz = true) (v : Value) : Sat n ((d, v) :: L) (a.put (some d) v) := by
  have hd' : d < n.sz := by simpa using hd
  obtain ⟨h1, h2, h3⟩ := h
  refine ⟨h1, by simpa [Act.put] using h2, fun i u hi => ?_⟩
  rw [lk_cons] at hi
  by_cases hid : d = i
  · subst hid
    simp at hi
    subst hi
    simp [Act.put, h2, hd']
  · simp only [hid, if_false] at hi
    have := h3 i u hi
    simp only [Act.put, Array.getD_eq_getD_getElem?] at *
    rw [Array.getElem?_setIfInBounds_ne hid]
    exact this

/-- every fact of L' is one of L -/
def Sub (L L' : PF) : Prop := ∀ i v, lk L' i = some v → lk L i = some v
theorem Sub.sat {n : Fr} {L L' : PF} {a : Act} (h : Sub L L') (hs : Sat n L a) : Sat n L' a :=
  ⟨hs.1, hs.2.1, fun i v hi => hs.2.2 i v (h i v hi)⟩
theorem Sub.nil (L : PF) : Sub L [] := fun i v h => by simp [lk] at h
theorem Sub.cons {L L' : PF} {i : Nat} {v : Value} (h : lk L i = some v) (hs : Sub L L') : Sub L ((i, v) :: L') := fun j u hj => by
  rw [lk_cons] at hj
  by_cases hij : i = j
  · subst hij; simp at hj; subst hj; exact h
  · simp only [hij, if_false] at hj; exact hs j u hj

section
variable {P : Program} {n : Fr} {Q : Exit → Act → World → Prop} {L L' : PF} {M M' : World → Prop}

def XC (P : Program) (n : Fr) (c : Code) (Q : Exit → Act → World → Prop) (L : PF) (M : World → Prop) : Prop :=
  ∀ a w, Sat n L a → M w → c.wp P Q a w
def XE (n : Fr) (Q : Exit → Act → World → Prop) (e : Exit) (L : PF) (M : World → Prop) : Prop :=
  ∀ a w, Sat n L a → M w → Q e a w
def XO (P : Program) (n : Fr) (ops : Array Oper) (Q : Exit → Act → World → Prop) (l : List Oper) (L : PF) (M : World → Prop) : Prop :=
  ∀ a w, Sat n L a → M w → wpList P ops Q l a w

theorem XC.keep {c : Code} (L' : PF) (hs : Sub L L') (h : XC P n c Q L' M) : XC P n c Q L M := fun a w ha hw => h a w (hs.sat ha) hw
theorem XC.mono {c : Code} (hm : ∀ w, M w → M' w) (h : XC P n c Q L M') : XC P n c Q L M := fun a w ha hw => h a w ha (hm w hw)
theorem XE.mono {e : Exit} (hm : ∀ w, M w → M' w) (h : XE n Q e L M') : XE n Q e L M := fun a w ha hw => h a w ha (hm w hw)
theorem XO.mono {ops : Array Oper} {l : List Oper} (hm : ∀ w, M w → M' w) (h : XO P n ops Q l L M') : XO P n ops Q l L M := fun a w ha hw => h a w ha (hm w hw)
theorem XO.keep {ops : Array Oper} {l : List Oper} (L' : PF) (hs : Sub L L') (h : XO P n ops Q l L' M) : XO P n ops Q l L M := fun a w ha hw => h a w (hs.sat ha) hw
theorem XE.keep {e : Exit} (L' : PF) (hs : Sub L L') (h : XE n Q e L' M) : XE n Q e L M := fun a w ha hw => h a w (hs.sat ha) hw

/-! ### code -/
theorem XC.seq {x y : Code} (h : XC P n x (Exit.then (y.wp P Q) Q) L M) : XC P n (.seq x y) Q L M := fun a w ha hw => wp_seq (h a w ha hw)
theorem XE.next {y : Code} {Q' : Exit → Act → World → Prop} (h : XC P n y Q L M) : XE n (Exit.then (y.wp P Q) Q') .normal L M := h
theorem XE.thenRet {K : Act → World → Prop} (h : XE n Q .ret L M) : XE n (Exit.then K Q) .ret L M := h
theorem XE.thenExit {K : Act → World → Prop} {i : Nat} (h : XE n Q (.exit i) L M) : XE n (Exit.then K Q) (.exit i) L M := h
theorem XE.blockNormal {i : Nat} (h : XE n Q .normal L M) : XE n (Exit.inBlock i Q) .normal L M := h
theorem XE.blockRet {i : Nat} (h : XE n Q .ret L M) : XE n (Exit.inBlock i Q) .ret L M := h
theorem XE.blockExit {i : Nat} (h : XE n Q .normal L M) : XE n (Exit.inBlock i Q) (.exit i) L M := fun a w ha hw => by
  simp only [Exit.inBlock, if_true]; exact h a w ha hw
theorem XE.blockOther {i j : Nat} (hij : Nat.beq j i = false) (h : XE n Q (.exit j) L M) : XE n (Exit.inBlock i Q) (.exit j) L M := fun a w ha hw => by
  have : j ≠ i := fun e => by subst e; rw [Nat.beq_refl] at hij; cases hij
  simp only [Exit.inBlock, this, if_false]; exact h a w ha hw
theorem XC.skip (h : XE n Q .normal L M) : XC P n .skip Q L M := fun a w ha hw => wp_skip (h a w ha hw)
theorem XC.exit {i : Nat} (h : XE n Q (.exit i) L M) : XC P n (.exit i) Q L M := fun a w ha hw => wp_exit (h a w ha hw)
theorem XC.ret (h : XE n Q .ret L M) : XC P n .ret Q L M := fun a w ha hw => wp_ret (h a w ha hw)
theorem XC.block {i : Nat} {c : Code} (h : XC P n c (Exit.inBlock i Q) L M) : XC P n (.block i c) Q L M := fun a w ha hw => wp_block (h a w ha hw)
theorem XC.cond {c : Operand} {x y : Code} {t : Bool} (hc : ev L c = some (.bool t)) (ht : t = true → XC P n x Q L M) (hf : t = false → XC P n y Q L M) :
    XC P n (.cond c x y) Q L M := fun a w ha hw =>
  wp_cond_split (ev_eval ha hc) (fun h => ht h a w ha hw) (fun h => hf h a w ha hw)
theorem XC.condP {c : Operand} {x y : Code} {p : Prop} [Decidable p] (hc : ev L c = some (.bool (decide p))) (ht : p → XC P n x Q L M) (hf : ¬ p → XC P n y Q L M) :
    XC P n (.cond c x y) Q L M := XC.cond hc (fun h => ht (of_decide_eq_true h)) (fun h => hf (of_decide_eq_false h))
theorem XC.condTP {c : Operand} {x y : Code} {p : Prop} [Decidable p] (hc : ev L c = some (.bool (decide p))) (h : p) (ht : XC P n x Q L M) :
    XC P n (.cond c x y) Q L M := XC.cond hc (fun _ => ht) (fun q => absurd h (of_decide_eq_false q))
theorem XC.condFP {c : Operand} {x y : Code} {p : Prop} [Decidable p] (hc : ev L c = some (.bool (decide p))) (h : ¬ p) (hf : XC P n y Q L M) :
    XC P n (.cond c x y) Q L M := XC.cond hc (fun q => absurd (of_decide_eq_true q) h) (fun _ => hf)
theorem XC.condT {c : Operand} {x y : Code} {t : Bool} (hc : ev L c = some (.bool t)) (h : t = true) (ht : XC P n x Q L M) :
    XC P n (.cond c x y) Q L M := fun a w ha hw => wp_cond (t := t) (ev_eval ha hc) (by subst h; exact ht a w ha hw)
theorem XC.condF {c : Operand} {x y : Code} {t : Bool} (hc : ev L c = some (.bool t)) (h : t = false) (hf : XC P n y Q L M) :
    XC P n (.cond c x y) Q L M := fun a w ha hw => wp_cond (t := t) (ev_eval ha hc) (by subst h; exact hf a w ha hw)

/-- a loop: the state at a round's head is given by x (with V x); each round lowers the measure -/
theorem XC.loop {σ : Type} {c : Code} (m : σ → Nat) (V : σ → Prop) (I : σ → PF) (J : σ → World → Prop) (x₀ : σ) (hv : V x₀) (h₀ : Sub L (I x₀)) (hj : ∀ w, M w → J x₀ w)
    (round : ∀ x, V x → XC P n c (Exit.then (fun a' w' => ∃ x', m x' < m x ∧ V x' ∧ Sat n (I x') a' ∧ J x' w') Q) (I x) (J x)) : XC P n (.loop c) Q L M := fun a w ha hw => by
  refine wp_loop_ghost (fun k a w => ∃ x, m x = k ∧ V x ∧ Sat n (I x) a ∧ J x w) (m x₀) ⟨x₀, rfl, hv, h₀.sat ha, hj w hw⟩ ?_
  rintro k a w ⟨x, rfl, hV, hs, hJ⟩
  refine wp_mono (round x hV a w hs hJ) ?_
  intro e a' w' hq
  cases e with
  | normal => obtain ⟨x', h1, h2, h3, h4⟩ := hq; exact ⟨m x', h1, x', rfl, h2, h3, h4⟩
  | exit id => exact hq
  | goto l => exact hq
  | ret => exact hq
  | panic ch => exact hq
  | outgrown => exact hq
theorem XE.again {σ : Type} {m : σ → Nat} {V : σ → Prop} {I : σ → PF} {J : σ → World → Prop} {x : σ} (x' : σ) (hm : m x' < m x) (hv : V x') (hs : Sub L (I x')) (hj : ∀ w, M w → J x' w) :
    XE n (Exit.then (fun a' w' => ∃ x', m x' < m x ∧ V x' ∧ Sat n (I x') a' ∧ J x' w') Q) .normal L M := fun _ w ha hw => ⟨x', hm, hv, hs.sat ha, hj w hw⟩

/-- where ways meet: what is known there -/
theorem XC.cut {c d : Code} (L' : PF) (M' : World → Prop)
    (hc : XC P n c (Exit.then (fun a w => Sat n L' a ∧ M' w) Q) L M) (hd : XC P n d Q L' M') : XC P n (.seq c d) Q L M := fun a w ha hw => by
  refine wp_seq (wp_mono (hc a w ha hw) ?_)
  intro e a' w' hq
  cases e with
  | normal => exact hd a' w' hq.1 hq.2
  | exit id => exact hq
  | goto l => exact hq
  | ret => exact hq
  | panic ch => exact hq
  | outgrown => exact hq
theorem XE.meet {K : PF} {M' : World → Prop} (hs : Sub L K) (hm : ∀ w, M w → M' w) : XE n (Exit.then (fun a w => Sat n K a ∧ M' w) Q) .normal L M :=
  fun _ w ha hw => ⟨hs.sat ha, hm w hw⟩

/-- where ways meet, in one of several states -/
theorem XC.cutG {σ : Type} {c d : Code} (V : σ → Prop) (I : σ → PF) (J : σ → World → Prop)
    (hc : XC P n c (Exit.then (fun a w => ∃ x, V x ∧ Sat n (I x) a ∧ J x w) Q) L M) (hd : ∀ x, V x → XC P n d Q (I x) (J x)) : XC P n (.seq c d) Q L M := fun a w ha hw => by
  refine wp_seq (wp_mono (hc a w ha hw) ?_)
  intro e a' w' hq
  cases e with
  | normal => obtain ⟨x, h1, h2, h3⟩ := hq; exact hd x h1 a' w' h2 h3
  | exit id => exact hq
  | goto l => exact hq
  | ret => exact hq
  | panic ch => exact hq
  | outgrown => exact hq
theorem XE.meetG {σ : Type} {V : σ → Prop} {I : σ → PF} {J : σ → World → Prop} (x : σ) (hv : V x) (hs : Sub L (I x)) (hj : ∀ w, M w → J x w) :
    XE n (Exit.then (fun a w => ∃ x, V x ∧ Sat n (I x) a ∧ J x w) Q) .normal L M := fun _ w ha hw => ⟨x, hv, hs.sat ha, hj w hw⟩

/-! ### entering and leaving a function -/
def ofArgs : Nat → List Value → PF
  | _, [] => []
  | i, v :: r => (i, v) :: ofArgs (i + 1) r

theorem lk_ofArgs : ∀ (l : List Value) (k i : Nat) (v : Value), lk (ofArgs k l) i = some v → k ≤ i ∧ l[i - k]? = some v
  | [], _, _, _, h => by simp [ofArgs, lk] at h
  | x :: r, k, i, v, h => by
    simp only [ofArgs] at h
    rw [lk_cons] at h
    by_cases hk : k = i
    · subst hk; simp at h; subst h; simp
    · simp only [hk, if_false] at h
      obtain ⟨h1, h2⟩ := lk_ofArgs r (k + 1) i v h
      refine ⟨by omega, ?_⟩
      have : i - k = (i - (k + 1)) + 1 := by omega
      rw [this]; simpa using h2

theorem enter {f : FuncId} {fn : Func} {c : Code} {args : List Value} {R : Ending → World → Prop} (hf : P.funcs[f]? = some fn) (hb : fn.body = some c)
    (hn : Nat.ble args.length fn.ntmps = true) (h : XC P (fr fn.ntmps) c (bodyPost P fn R) (ofArgs 0 args) M) {w : World} (hw : M w) : Calls P f args.toArray w R := by
  refine calls_of_wp hf hb (h _ w ⟨rfl, ?_, ?_⟩ hw)
  · have : args.length ≤ fn.ntmps := by simpa using hn
    simp; omega
  · intro i v hi
    obtain ⟨_, h2⟩ := lk_ofArgs args 0 i v hi
    have hlt : i < args.length := by
      rcases Nat.lt_or_ge i args.length with h' | h'
      · exact h'
      · rw [List.getElem?_eq_none (by simpa using h')] at h2; simp at h2
    have h3 : args[i]? = some v := by simpa using h2
    simp only [Array.getD_eq_getD_getElem?]
    rw [Array.getElem?_append_left (by simpa using hlt)]
    simp [h3]

theorem XE.ret1 {k : Nat} {fn : Func} {R : Ending → World → Prop} {t : Nat} {v : Value} (hr : fn.results = #[.tmp t]) (hv : lk L t = some v) (h : ∀ w, M w → R (.returned v) w) :
    XE (fr k) (bodyPost P fn R) .ret L M := fun a w ha hw =>
  ⟨ha.1, v, by rw [results_tmp hr]; rw [ha.2.2 t v hv], h w hw⟩
theorem XE.ret2 {k : Nat} {fn : Func} {R : Ending → World → Prop} {t u : Nat} {v v' : Value} (hr : fn.results = #[.tmp t, .tmp u]) (hv : lk L t = some v) (hv' : lk L u = some v')
    (h : ∀ w, M w → R (.returned (.tuple #[v, v'])) w) : XE (fr k) (bodyPost P fn R) .ret L M := fun a w ha hw =>
  ⟨ha.1, .tuple #[v, v'], by rw [results_tmp2 hr]; rw [ha.2.2 t v hv, ha.2.2 u v' hv'], h w hw⟩
theorem XE.end0 {k : Nat} {fn : Func} {R : Ending → World → Prop} (hr : fn.results = #[]) (h : ∀ w, M w → R (.returned (.tuple #[])) w) :
    XE (fr k) (bodyPost P fn R) .normal L M := fun a w ha hw => ⟨ha.1, .tuple #[], by rw [results_none hr], h w hw⟩
/-! ### regions -/
theorem XC.region {i : Nat} {l : List Oper} (h : XO P n l.toArray Q l L M) : XC P n (.region i l.toArray false) Q L M := fun a w ha hw => wp_region_lit (h a w ha hw)
variable {ops : Array Oper} {rest : List Oper}
theorem XO.nil (h : XE n Q .normal L M) : XO P n ops Q [] L M := h

theorem XO.op {o : Oper} (hg : o.guard = none) (h : ∀ a w, Sat n L a → M w → o.wp P a w (wpList P ops Q rest) Q) : XO P n ops Q (o :: rest) L M := fun a w ha hw => by
  unfold wpList
  rw [if_pos (by simp [Region.wanted, hg])]
  exact .inl (h a w ha hw)

/-- an operation that yields a value and leaves the world alone -/
theorem XO.val {d : Nat} {op : Op} {ty : TypeId} {pos : String} {af : Array Edge} {v : Value} (hd : Nat.blt d n.sz = true)
    (hv : ∀ a w, Sat n L a → M w → (execOp a.eval ⟨some d, op, ty, pos, af, none⟩).run P w = .ok (.value v) w)
    (h : XO P n ops Q rest ((d, v) :: L) M) : XO P n ops Q (⟨some d, op, ty, pos, af, none⟩ :: rest) L M :=
  XO.op rfl fun a w ha hw => by
    unfold Oper.wp
    rw [hv a w ha hw]
    exact h _ w (ha.put hd v) hw

theorem XO.guardRun {o : Oper} {j dj : Nat} {want : Bool} (hg : o.guard = some (j, want)) (hj : (ops[j]?).bind (·.dst) = some dj) (hl : lk L dj = some (.bool want))
    (h : XO P n ops Q ({ o with guard := none } :: rest) L M) : XO P n ops Q (o :: rest) L M := fun a w ha hw => by
  have := h a w ha hw
  have hy := ha.2.2 dj _ hl
  have hwant : Region.wanted o (yielded ops a.tmps) = true := by
    simp only [Region.wanted, hg, yielded, hj, beq_iff_eq]
    simp only [Array.getD_eq_getD_getElem?] at hy
    cases hx : a.tmps[dj]? with
    | none => rw [hx] at hy; simp [undef] at hy
    | some u => rw [hx] at hy; simp at hy; subst hy; simp [hx]
  unfold wpList at this ⊢
  rw [if_pos (by simp [Region.wanted])] at this
  rw [if_pos hwant]
  exact this

theorem XO.guardSkip {o : Oper} {j dj d : Nat} {want : Bool} (hg : o.guard = some (j, want)) (hdst : o.dst = some d) (hd : Nat.blt d n.sz = true)
    (hj : (ops[j]?).bind (·.dst) = some dj) (hl : lk L dj = some (.bool (!want)))
    (h : XO P n ops Q rest ((d, undef) :: L) M) : XO P n ops Q (o :: rest) L M := fun a w ha hw => by
  have hy := ha.2.2 dj _ hl
  have hwant : ¬ Region.wanted o (yielded ops a.tmps) = true := by
    simp only [Region.wanted, hg, yielded, hj, beq_iff_eq]
    simp only [Array.getD_eq_getD_getElem?] at hy
    cases hx : a.tmps[dj]? with
    | none => rw [hx] at hy; simp [undef] at hy
    | some u => rw [hx] at hy; simp at hy; subst hy; simp [hx]
  unfold wpList
  rw [if_neg hwant, hdst]
  exact h _ w (ha.put hd undef) hw

theorem XO.guardSkipU {o : Oper} {j dj d : Nat} {want : Bool} (hg : o.guard = some (j, want)) (hdst : o.dst = some d) (hd : Nat.blt d n.sz = true)
    (hj : (ops[j]?).bind (·.dst) = some dj) (hl : lk L dj = some undef)
    (h : XO P n ops Q rest ((d, undef) :: L) M) : XO P n ops Q (o :: rest) L M := fun a w ha hw => by
  have hy := ha.2.2 dj _ hl
  have hwant : ¬ Region.wanted o (yielded ops a.tmps) = true := by
    simp only [Region.wanted, hg, yielded, hj, beq_iff_eq]
    simp only [Array.getD_eq_getD_getElem?] at hy
    cases hx : a.tmps[dj]? with
    | none => simp [hx]
    | some u => rw [hx] at hy; simp at hy; subst hy; simp [hx, undef]
  unfold wpList
  rw [if_neg hwant, hdst]
  exact h _ w (ha.put hd undef) hw

theorem XO.split {d : Nat} {l : List Oper} {t : Bool} (hl : lk L d = some (.bool t)) (ht : t = true → XO P n ops Q l ((d, .bool true) :: L) M)
    (hf : t = false → XO P n ops Q l ((d, .bool false) :: L) M) : XO P n ops Q l L M := by
  cases t
  · refine XO.keep _ (Sub.cons hl ?_) (hf rfl)
    exact fun i v h => h
  · refine XO.keep _ (Sub.cons hl ?_) (ht rfl)
    exact fun i v h => h
theorem XO.splitP {d : Nat} {l : List Oper} {p : Prop} [Decidable p] (hl : lk L d = some (.bool (decide p))) (ht : p → XO P n ops Q l ((d, .bool true) :: L) M)
    (hf : ¬ p → XO P n ops Q l ((d, .bool false) :: L) M) : XO P n ops Q l L M := XO.split hl (fun h => ht (of_decide_eq_true h)) (fun h => hf (of_decide_eq_false h))
theorem XO.splitT {d : Nat} {l : List Oper} {p : Prop} [Decidable p] (hl : lk L d = some (.bool (decide p))) (h : p) (ht : XO P n ops Q l ((d, .bool true) :: L) M) : XO P n ops Q l L M :=
  XO.split hl (fun _ => ht) (fun q => absurd h (of_decide_eq_false q))
theorem XO.splitF {d : Nat} {l : List Oper} {p : Prop} [Decidable p] (hl : lk L d = some (.bool (decide p))) (h : ¬ p) (hf : XO P n ops Q l ((d, .bool false) :: L) M) : XO P n ops Q l L M :=
  XO.split hl (fun q => absurd (of_decide_eq_true q) h) (fun _ => hf)
end
end Go.X
