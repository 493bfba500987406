import Derived.Test.YtpnddggohipdnaaDoorXCore
namespace Go.X
open Go

/-- what is known of memory: a run of cells that may be written; one that is only read; a slice's own row -/
structure RowD where
  v : Value
  e : TypeId
  sz : Nat
  k : Nat
  xs : List Value
inductive Ent where
  | cells (b o n : Nat) (C : Nat → Value)
  | ro (b o n : Nat) (C : Nat → Value)
  | row (v : Value) (e : TypeId) (sz k : Nat) (xs : List Value)
  | mark (D : Nat)
  | fam (p : Nat → Bool) (r : Nat → RowD)
  | cfam (p : Nat → Bool) (b : Nat → Nat) (n : Nat) (C : Nat → Nat → Value)

def Ent.wr : Ent → Bool
  | .ro .. => false
  | .mark _ => false
  | _ => true
def Ent.area : Ent → Nat → Nat → Prop
  | .cells b o n _, b', i => b' = b ∧ o ≤ i ∧ i < o + n
  | .ro b o n _, b', i => b' = b ∧ o ≤ i ∧ i < o + n
  | .row v _ _ _ _, b', _ => v.ownBlock = some b'
  | .mark D, b', _ => b' = D
  | .fam p r, b', _ => ∃ i, p i = true ∧ (r i).v.ownBlock = some b'
  | .cfam p g n _, b', o => ∃ i, p i = true ∧ b' = g i ∧ o < n

def Ent.holds (w : World) : Ent → Prop
  | .cells b o n C => ∃ A t lo hi, w.heap[b]? = some (.cells A t (lo, hi)) ∧ ∀ i, i < n → A[o + i]? = some (C i) ∧ ¬ (lo ≤ o + i ∧ o + i < hi)
  | .ro b o n C => ∃ A t fz, w.heap[b]? = some (.cells A t fz) ∧ ∀ i, i < n → A[o + i]? = some (C i)
  | .row v e sz k xs => w.ownsRow 0 e sz v k xs
  | .mark D => w.heap[D]? = some (.deferred (some []))
  | .fam p r => (∀ i, p i = true → w.ownsRow 0 (r i).e (r i).sz (r i).v (r i).k (r i).xs) ∧ ∀ i j b, p i = true → p j = true → i ≠ j → (r i).v.ownBlock = some b → (r j).v.ownBlock = some b → False
  | .cfam p g n C => (∀ i, p i = true → ∃ A t lo hi, w.heap[g i]? = some (.cells A t (lo, hi)) ∧ ∀ j, j < n → A[j]? = some (C i j) ∧ ¬ (lo ≤ j ∧ j < hi)) ∧ ∀ i j, p i = true → p j = true → i ≠ j → g i ≠ g j

def Apart (e e' : Ent) : Prop := (e.wr || e'.wr) = true → ∀ b o, e.area b o → e'.area b o → False
theorem Apart.symm {e e' : Ent} (h : Apart e e') : Apart e' e := fun hw b o h1 h2 => h (by rw [Bool.or_comm]; exact hw) b o h2 h1

def Good (H : List Ent) (w : World) : Prop := (∀ e ∈ H, e.holds w) ∧ H.Pairwise Apart

/-- outside S, w' is as w was -/
structure Keep (w w' : World) (S : Nat → Nat → Prop) : Prop where
  os : w'.os = w.os
  tape : w'.tape = w.tape
  output : w'.output = w.output
  size : w.heap.size ≤ w'.heap.size
  same : ∀ b, b < w.heap.size → (∀ o, ¬ S b o) → w'.heap[b]? = w.heap[b]?
  part : ∀ b A t fz, w.heap[b]? = some (.cells A t fz) → ∃ A', w'.heap[b]? = some (.cells A' t fz) ∧ A'.size = A.size ∧ ∀ o, ¬ S b o → A'[o]? = A[o]?

theorem Keep.refl (w : World) (S : Nat → Nat → Prop) : Keep w w S :=
  ⟨rfl, rfl, rfl, Nat.le_refl _, fun _ _ _ => rfl, fun _ A _ _ h => ⟨A, h, rfl, fun _ _ => rfl⟩⟩

theorem lt_of_heap {w : World} {b : Nat} {o : Obj} (h : w.heap[b]? = some o) : b < w.heap.size := (Array.getElem?_eq_some_iff.1 h).1

theorem Keep.trans {a b c : World} {S T U : Nat → Nat → Prop} (h : Keep a b S) (k : Keep b c T) (hS : ∀ x o, S x o → x < a.heap.size → U x o) (hT : ∀ x o, T x o → x < a.heap.size → U x o) : Keep a c U :=
  ⟨k.os.trans h.os, k.tape.trans h.tape, k.output.trans h.output, Nat.le_trans h.size k.size,
   fun x hx hn => (k.same x (Nat.lt_of_lt_of_le hx h.size) (fun o ho => hn o (hT x o ho hx))).trans (h.same x hx (fun o ho => hn o (hS x o ho hx))),
   fun x A t fz hA => by
    obtain ⟨A', h1, h2, h3⟩ := h.part x A t fz hA
    obtain ⟨A'', k1, k2, k3⟩ := k.part x A' t fz h1
    have hx := lt_of_heap hA
    exact ⟨A'', k1, k2.trans h2, fun o ho => (k3 o (fun q => ho (hT x o q hx))).trans (h3 o (fun q => ho (hS x o q hx)))⟩⟩

theorem Ent.lt {e : Ent} {w : World} (h : e.holds w) {b o : Nat} (ha : e.area b o) : b < w.heap.size := by
  cases e with
  | cells b' o' n C => obtain ⟨A, t, lo, hi, h1, _⟩ := h; obtain ⟨rfl, _⟩ := ha; exact lt_of_heap h1
  | ro b' o' n C => obtain ⟨A, t, fz, h1, _⟩ := h; obtain ⟨rfl, _⟩ := ha; exact lt_of_heap h1
  | row v e sz k xs => exact (World.ownsRow.lt h b ha).2
  | mark D => obtain rfl := ha; exact lt_of_heap h
  | fam p r => obtain ⟨i, hi, hb⟩ := ha; exact (World.ownsRow.lt (h.1 i hi) b hb).2
  | cfam p g n C => obtain ⟨i, hi, rfl, _⟩ := ha; obtain ⟨A, t, lo, hi', h1, _⟩ := h.1 i hi; exact lt_of_heap h1

theorem ownsRow_kept {w w' : World} {S : Nat → Nat → Prop} {v : Value} {e : TypeId} {sz k : Nat} {xs : List Value} (h : w.ownsRow 0 e sz v k xs) (hk : Keep w w' S) (ha : ∀ b o, v.ownBlock = some b → ¬ S b o) : w'.ownsRow 0 e sz v k xs := by
  refine ⟨h.1, ?_⟩
  rcases h.2 with hn | ⟨g, cap, cur, rfl, hb, hg, rest⟩
  · exact .inl hn
  · refine .inr ⟨g, cap, cur, rfl, hb, ?_, rest⟩
    rw [hk.same g (lt_of_heap hg) (fun o => ha g o rfl)]
    exact hg
theorem Ent.kept {e : Ent} {w w' : World} {S : Nat → Nat → Prop} (h : e.holds w) (hk : Keep w w' S) (ha : ∀ b o, e.area b o → ¬ S b o) : e.holds w' := by
  cases e with
  | cells b o n C =>
    obtain ⟨A, t, lo, hi, h1, h2⟩ := h
    obtain ⟨A', k1, k2, k3⟩ := hk.part b A t _ h1
    refine ⟨A', t, lo, hi, k1, fun i hi' => ?_⟩
    obtain ⟨h3, h4⟩ := h2 i hi'
    exact ⟨by rw [k3 (o + i) (ha b (o + i) ⟨rfl, by omega, by omega⟩)]; exact h3, h4⟩
  | ro b o n C =>
    obtain ⟨A, t, fz, h1, h2⟩ := h
    obtain ⟨A', k1, k2, k3⟩ := hk.part b A t _ h1
    exact ⟨A', t, fz, k1, fun i hi' => by rw [k3 (o + i) (ha b (o + i) ⟨rfl, by omega, by omega⟩)]; exact h2 i hi'⟩
  | row v e sz k xs =>
    refine ⟨h.1, ?_⟩
    rcases h.2 with hn | ⟨g, cap, cur, rfl, hb, hg, rest⟩
    · exact .inl hn
    · refine .inr ⟨g, cap, cur, rfl, hb, ?_, rest⟩
      rw [hk.same g (lt_of_heap hg) (fun o => ha g o rfl)]
      exact hg
  | mark D => exact (hk.same D (lt_of_heap h) (fun o => ha D o rfl)).trans h
  | fam p r => exact ⟨fun i hi => ownsRow_kept (h.1 i hi) hk (fun b o hb => ha b o ⟨i, hi, hb⟩), h.2⟩
  | cfam p g n C =>
    refine ⟨fun i hi => ?_, h.2⟩
    obtain ⟨A, t, lo, hi', h1, h2⟩ := h.1 i hi
    obtain ⟨A', k1, k2, k3⟩ := hk.part (g i) A t _ h1
    exact ⟨A', t, lo, hi', k1, fun j hj => ⟨by rw [k3 j (ha (g i) j ⟨i, hi, rfl, hj⟩)]; exact (h2 j hj).1, (h2 j hj).2⟩⟩

/-- the state: what is known, and that all else is as at the beginning -/
structure XM (W : World) (S : Nat → Nat → Prop) (H : List Ent) (w : World) : Prop where
  good : Good H w
  keep : Keep W w S
  mine : ∀ e ∈ H, e.wr = true → ∀ b o, e.area b o → W.heap.size ≤ b ∨ S b o

def foot (H : List Ent) (b o : Nat) : Prop := ∃ e ∈ H, e.wr = true ∧ e.area b o

theorem XM.start {H : List Ent} {w : World} (h : Good H w) : XM w (foot H) H w :=
  ⟨h, Keep.refl _ _, fun e he hw _ _ ha => .inr ⟨e, he, hw, ha⟩⟩

theorem Keep.drewN {W w : World} {S : Nat → Nat → Prop} (h : Keep W w S) (k : Nat) : Keep W { w with drawn := w.drawn + k } S :=
  ⟨h.os, h.tape, h.output, h.size, h.same, h.part⟩
theorem Ent.holds_drawn {e : Ent} {w : World} (k : Nat) (h : e.holds w) : e.holds { w with drawn := k } := by
  cases e with
  | cells b o n C => exact h
  | ro b o n C => exact h
  | row v e sz k xs => exact h
  | mark D => exact h
  | fam p r => exact h
  | cfam p g n C => exact h
theorem XM.drawn {W w : World} {S : Nat → Nat → Prop} {H : List Ent} (h : XM W S H w) (k : Nat) : XM W S H { w with drawn := w.drawn + k } :=
  ⟨⟨fun e he => Ent.holds_drawn _ (h.good.1 e he), h.good.2⟩, h.keep.drewN k, h.mine⟩

/-! ### finding entries -/
inductive Has : List Ent → Ent → Prop where
  | here {e H} : Has (e :: H) e
  | there {x e H} : Has H e → Has (x :: H) e
theorem Has.mem {H : List Ent} {e : Ent} (h : Has H e) : e ∈ H := by
  induction h with
  | here => simp
  | there _ ih => exact List.mem_cons_of_mem _ ih

/-- taking one out -/
inductive Del : List Ent → Ent → List Ent → Prop where
  | here {e H} : Del (e :: H) e H
  | there {x e H H'} : Del H e H' → Del (x :: H) e (x :: H')
theorem Del.perm {H H' : List Ent} {e : Ent} (h : Del H e H') : H.Perm (e :: H') := by
  induction h with
  | here => exact .refl _
  | there _ ih => exact (List.Perm.cons _ ih).trans (List.Perm.swap _ _ _)
/-- taking several out -/
inductive Pick : List Ent → List Ent → List Ent → Prop where
  | nil {H} : Pick H [] H
  | cons {e es H H' F} : Del H e H' → Pick H' es F → Pick H (e :: es) F
theorem Pick.perm {H E F : List Ent} (h : Pick H E F) : H.Perm (E ++ F) := by
  induction h with
  | nil => exact .refl _
  | cons d _ ih => exact d.perm.trans (List.Perm.cons _ ih)

theorem pairwise_perm {H H' : List Ent} (hp : H.Perm H') (h : H.Pairwise Apart) : H'.Pairwise Apart :=
  (hp.pairwise_iff (fun h => Apart.symm h)).1 h

theorem Good.perm {H H' : List Ent} {w : World} (hp : H.Perm H') (h : Good H w) : Good H' w :=
  ⟨fun e he => h.1 e (hp.mem_iff.2 he), pairwise_perm hp h.2⟩
theorem XM.perm {W w : World} {S : Nat → Nat → Prop} {H H' : List Ent} (hp : H.Perm H') (h : XM W S H w) : XM W S H' w :=
  ⟨h.good.perm hp, h.keep, fun e he => h.mine e (hp.mem_iff.2 he)⟩
theorem XM.left {W w : World} {S : Nat → Nat → Prop} {E F : List Ent} (h : XM W S (E ++ F) w) : XM W S E w :=
  ⟨⟨fun e he => h.good.1 e (List.mem_append.2 (.inl he)), (List.pairwise_append.1 h.good.2).1⟩, h.keep, fun e he => h.mine e (List.mem_append.2 (.inl he))⟩
theorem XM.pick {W w : World} {S : Nat → Nat → Prop} {H E F : List Ent} (hp : Pick H E F) (h : XM W S H w) : XM W S E w := (h.perm hp.perm).left

/-! ### changing what is known -/
/-- one entry is written; its area does not grow -/
theorem XM.write {W w w' : World} {S : Nat → Nat → Prop} {H H' : List Ent} {e e' : Ent} (h : XM W S H w) (hd : Del H e H')
    (hw : e.wr = true) (ha : ∀ b o, e'.area b o → e.area b o ∨ w.heap.size ≤ b) (hk : Keep w w' (fun b o => e.area b o)) (he' : e'.holds w') : XM W S (e' :: H') w' := by
  have h1 := h.perm hd.perm
  obtain ⟨⟨hh, hpw⟩, hkeep, hmine⟩ := h1
  rw [List.pairwise_cons] at hpw
  obtain ⟨hap, hpw'⟩ := hpw
  have hmem : ∀ x ∈ H', x.holds w' := fun x hx => Ent.kept (hh x (List.mem_cons_of_mem _ hx)) hk (fun b o hxa hea => hap x hx (by simp [hw]) b o hea hxa)
  refine ⟨⟨?_, ?_⟩, ?_, ?_⟩
  · intro x hx
    rcases List.mem_cons.1 hx with rfl | hx
    · exact he'
    · exact hmem x hx
  · refine List.pairwise_cons.2 ⟨fun x hx _ b o h1 h2 => ?_, hpw'⟩
    rcases ha b o h1 with h3 | h3
    · exact hap x hx (by simp [hw]) b o h3 h2
    · have := Ent.lt (hh x (List.mem_cons_of_mem _ hx)) h2
      omega
  · refine hkeep.trans hk (fun x o hs _ => hs) (fun x o hs hx => ?_)
    rcases hmine e (by simp) hw x o hs with h3 | h3
    · omega
    · exact h3
  · intro x hx hxw b o hb
    rcases List.mem_cons.1 hx with rfl | hx
    · rcases ha b o hb with h3 | h3
      · exact hmine e (by simp) hw b o h3
      · have := hkeep.size; exact .inl (by omega)
    · exact hmine x (List.mem_cons_of_mem _ hx) hxw b o hb

/-- a new entry, in new memory -/
theorem XM.fresh {W w w' : World} {S : Nat → Nat → Prop} {H : List Ent} {e' : Ent} (h : XM W S H w)
    (ha : ∀ b o, e'.area b o → w.heap.size ≤ b) (hk : Keep w w' (fun _ _ => False)) (he' : e'.holds w') : XM W S (e' :: H) w' := by
  obtain ⟨⟨hh, hpw⟩, hkeep, hmine⟩ := h
  refine ⟨⟨?_, ?_⟩, ?_, ?_⟩
  · intro x hx
    rcases List.mem_cons.1 hx with rfl | hx
    · exact he'
    · exact Ent.kept (hh x hx) hk (fun _ _ _ q => q)
  · refine List.pairwise_cons.2 ⟨fun x hx _ b o h1 h2 => ?_, hpw⟩
    have := Ent.lt (hh x hx) h2
    have := ha b o h1
    omega
  · exact hkeep.trans hk (fun x o hs _ => hs) (fun x o hs hx => hs.elim)
  · intro x hx hxw b o hb
    rcases List.mem_cons.1 hx with rfl | hx
    · have := ha b o hb; have := hkeep.size; exact .inl (by omega)
    · exact hmine x hx hxw b o hb

/-! ### contracts -/
def Spec (P : Program) (f : FuncId) (args : List Value) (pre : List Ent) (post : Value → List Ent → Prop) : Prop :=
  ∀ w, Good pre w → Calls P f args.toArray w fun e w' => ∃ v H', e = .returned v ∧ post v H' ∧ H'.all Ent.wr = true ∧ XM w (foot pre) H' w'

/-- behind a call: what the callee left, and what it did not touch -/
theorem XM.called {W w w' : World} {S : Nat → Nat → Prop} {H pre F H' : List Ent} (h : XM W S H w) (hp : Pick H pre F) (hc : XM w (foot pre) H' w') (hro : ∀ e ∈ H', e.wr = true) : XM W S (H' ++ F) w' := by
  have h1 := h.perm hp.perm
  obtain ⟨⟨hh, hpw⟩, hkeep, hmine⟩ := h1
  obtain ⟨hpw1, hpw2, hap⟩ := List.pairwise_append.1 hpw
  have hF : ∀ x ∈ F, x.holds w' := fun x hx => Ent.kept (hh x (List.mem_append.2 (.inr hx))) hc.keep (fun b o hxa ⟨e, he, hew, hea⟩ => hap e he x hx (by simp [hew]) b o hea hxa)
  refine ⟨⟨?_, ?_⟩, ?_, ?_⟩
  · intro x hx
    rcases List.mem_append.1 hx with hx | hx
    · exact hc.good.1 x hx
    · exact hF x hx
  · refine List.pairwise_append.2 ⟨hc.good.2, hpw2, fun e he x hx _ b o h1 h2 => ?_⟩
    rcases hc.mine e he (hro e he) b o h1 with h3 | ⟨e', he', hew, hea⟩
    · have := Ent.lt (hh x (List.mem_append.2 (.inr hx))) h2
      omega
    · exact hap e' he' x hx (by simp [hew]) b o hea h2
  · refine hkeep.trans hc.keep (fun x o hs _ => hs) (fun x o ⟨e, he, hew, hea⟩ hx => ?_)
    rcases hmine e (List.mem_append.2 (.inl he)) hew x o hea with h3 | h3
    · omega
    · exact h3
  · intro x hx hxw b o hb
    rcases List.mem_append.1 hx with hx | hx
    · rcases hc.mine x hx hxw b o hb with h3 | ⟨e, he, hew, hea⟩
      · have := hkeep.size; exact .inl (by omega)
      · exact hmine e (List.mem_append.2 (.inl he)) hew b o hea
    · exact hmine x (List.mem_append.2 (.inr hx)) hxw b o hb

/-- likewise, with what the callee may only read (R) -/
theorem XM.calledR {W w w' : World} {S : Nat → Nat → Prop} {H E R F H' : List Ent} (h : XM W S H w) (hp : Pick H (E ++ R) F) (hR : ∀ e ∈ R, e.wr = false)
    (hc : XM w (foot (E ++ R)) H' w') (hro : ∀ e ∈ H', e.wr = true) : XM W S (H' ++ (R ++ F)) w' := by
  have h1 := h.perm hp.perm
  have hno : ∀ x ∈ R, ∀ b o, x.area b o → ¬ foot (E ++ R) b o := fun x hx b o hxa ⟨e, he, hew, hea⟩ => by
    have hpw := h1.good.2
    rw [List.append_assoc] at hpw
    obtain ⟨_, _, hap⟩ := List.pairwise_append.1 hpw
    rcases List.mem_append.1 he with he' | he'
    · exact hap e he' x (List.mem_append.2 (.inl hx)) (by simp [hew]) b o hea hxa
    · rw [hR e he'] at hew; cases hew
  have h2 := h.called hp hc hro
  obtain ⟨⟨hh, hpw⟩, hkeep, hmine⟩ := h2
  obtain ⟨hpw1, hpw2, hap⟩ := List.pairwise_append.1 hpw
  have hR' : ∀ x ∈ R, x.holds w' := fun x hx => Ent.kept (h1.good.1 x (by simp [hx])) hc.keep (hno x hx)
  refine ⟨⟨?_, ?_⟩, hkeep, ?_⟩
  · intro x hx
    rcases List.mem_append.1 hx with hx | hx
    · exact hh x (by simp [hx])
    · rcases List.mem_append.1 hx with hx | hx
      · exact hR' x hx
      · exact hh x (by simp [hx])
  · have hpw0 := h1.good.2
    rw [List.append_assoc] at hpw0
    obtain ⟨_, hrf, _⟩ := List.pairwise_append.1 hpw0
    refine List.pairwise_append.2 ⟨hpw1, hrf, fun e he x hx _ b o h3 h4 => ?_⟩
    rcases List.mem_append.1 hx with hx | hx
    · rcases hc.mine e he (hro e he) b o h3 with h5 | h5
      · have := Ent.lt (h1.good.1 x (by simp [hx])) h4
        omega
      · exact hno x hx b o h4 h5
    · exact hap e he x hx (by simp [hro e he]) b o h3 h4
  · intro x hx hxw b o hb
    rcases List.mem_append.1 hx with hx | hx
    · exact hmine x (by simp [hx]) hxw b o hb
    · rcases List.mem_append.1 hx with hx | hx
      · rw [hR x hx] at hxw; cases hxw
      · exact hmine x (by simp [hx]) hxw b o hb
end Go.X
