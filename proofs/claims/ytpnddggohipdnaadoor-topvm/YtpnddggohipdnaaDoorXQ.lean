import Derived.Test.YtpnddggohipdnaaDoorXGo
namespace Go.X
open Go
/-! ### regions whose order is open, where the operations do not stand in one line: each with what it must wait for -/
section
variable {P : Program} {ops : Array Oper} {Q : Exit → Act → World → Prop}
variable {n : Fr} {L : PF} {M : World → Prop}
/-- the state of a region whose order is open: l: what has been carried out; B: what must stay true -/
def XQ (P : Program) (n : Fr) (ops : Array Oper) (Q : Exit → Act → World → Prop) (B : Obl) (f : Nat) (l : Array Bool) (L : PF) (M : World → Prop) : Prop :=
  Closed ops l → ∀ a w, Sat n L a → M w → JL B l w → wpJ P ops Q B f l a w

theorem XM.drawn' {W : World} {S : Nat → Nat → Prop} {H : List Ent} (w : World) (k : Nat) (h : XM W S H w) : XM W S H { w with drawn := w.drawn + k } := h.drawn k
theorem XC.regionQ {i : Nat} {os : List Oper} {f : Nat} {l : Array Bool} (hm : P.follows .mixedOrders = true) (hf : os.length = f) (hl : Array.replicate f false = l) (hM : ∀ w k, M w → M { w with drawn := w.drawn + k })
    (h : XQ P n os.toArray Q [] f l L M) : XC P n (.region i os.toArray true) Q L M := fun a w ha hw => by
  subst hf; subst hl
  refine wp_region_any hm ?_
  have := wpAny_of_J _ _ _ _ (h (closed_none _ _) a _ ha (hM w 1 hw) trivial)
  simpa using this

theorem XQ.hoist {B : Obl} {f i d : Nat} {l l' : Array Bool} {o : Oper} {v : Value} (T : List Nat) (φ : World → Prop) (ho : ops[i]? = some o) (hk : hoistB ops l i = true) (hT : T.all (fun s => depB ops i ops.size s && !(Nat.beq s i)) = true)
    (hB : B.all (fun p => !p.1.contains i) = true) (hl : l.setIfInBounds i true = l') (hdst : o.dst = some d) (hd : Nat.blt d n.sz = true) (hφ : ∀ w, M w → φ w) (hv : ∀ a, Sat n L a → YF P ops φ o v a)
    (h : XQ P n ops Q ((T, φ) :: B) f l' ((d, v) :: L) M) : XQ P n ops Q B (f + 1) l L M := by
  subst hl
  intro hc a w ha hw hJ
  simp only [hoistB, Bool.and_eq_true] at hk
  obtain ⟨⟨h1, h2⟩, h3⟩ := hk
  have hr : i ∈ Region.ready .any ops l := by simpa using h3
  refine wpJ_first (T := T) (φ := φ) ho (Region.noSelect_spec h1) (fun s hs => ⟨ops.size, ?_⟩) ?_ ?_ f l a w hc (Region.free_spec ho h2) hr (hv a ha) ?_
  · have h4 := List.all_eq_true.1 hT s hs
    simp only [Bool.and_eq_true] at h4; exact h4.1
  · intro hi
    have := List.all_eq_true.1 hT i hi
    simp at this
  · intro p hp hi
    have := List.all_eq_true.1 hB p hp
    simp at this
    exact this hi
  · rw [hdst]
    exact h (closed_set hc hr) _ w (ha.put hd v) hw ⟨fun _ => hφ w hw, JL.more B hJ⟩

/-- no other operation can come: it is carried out -/
theorem XQ.step {B : Obl} {f i : Nat} {l : Array Bool} {o : Oper} (ho : ops[i]? = some o) (hg : o.guard = none) (hk : Region.ready .any ops l = [i])
    (h : Closed ops (l.setIfInBounds i true) → ∀ a w, Sat n L a → M w → JL B l w → o.wp P a w (wpJ P ops Q B f (l.setIfInBounds i true)) (nrm Q)) : XQ P n ops Q B (f + 1) l L M := by
  intro hc a w ha hw hJ
  have hr : i ∈ Region.ready .any ops l := by rw [hk]; simp
  refine ⟨hJ, fun h0 => (by rw [hk] at h0; cases h0), fun j hj => ?_⟩
  rw [hk] at hj
  have : j = i := by simpa using hj
  subst this
  unfold wpOp
  simp only [ho]
  rw [if_pos (by simp [Region.wanted, hg])]
  exact .inl (h (closed_set hc hr) a w ha hw hJ)

theorem XQ.done {B : Obl} {f : Nat} {l : Array Bool} (hk : Region.ready .any ops l = []) (h : XE n Q .normal L M) : XQ P n ops Q B f l L M := by
  intro hc a w ha hw hJ
  cases f with
  | zero => exact ⟨hJ, hk, h a w ha hw⟩
  | succ f => exact ⟨hJ, fun _ => h a w ha hw, fun j hj => by rw [hk] at hj; cases hj⟩
theorem XQ.split {B : Obl} {f d : Nat} {l : Array Bool} {t : Bool} (hl : lk L d = some (.bool t)) (ht : t = true → XQ P n ops Q B f l ((d, .bool true) :: L) M)
    (hf : t = false → XQ P n ops Q B f l ((d, .bool false) :: L) M) : XQ P n ops Q B f l L M := by
  cases t
  · exact fun hc a w ha hw hJ => hf rfl hc a w ((Sub.cons hl (fun i v h => h)).sat ha) hw hJ
  · exact fun hc a w ha hw hJ => ht rfl hc a w ((Sub.cons hl (fun i v h => h)).sat ha) hw hJ

theorem XQ.splitP {B : Obl} {f d : Nat} {l : Array Bool} {p : Prop} [Decidable p] (hl : lk L d = some (.bool (decide p))) (ht : p → XQ P n ops Q B f l ((d, .bool true) :: L) M)
    (hf : ¬ p → XQ P n ops Q B f l ((d, .bool false) :: L) M) : XQ P n ops Q B f l L M := XQ.split hl (fun h => ht (of_decide_eq_true h)) (fun h => hf (of_decide_eq_false h))
theorem XQ.splitT {B : Obl} {f d : Nat} {l : Array Bool} {p : Prop} [Decidable p] (hl : lk L d = some (.bool (decide p))) (h : p) (ht : XQ P n ops Q B f l ((d, .bool true) :: L) M) : XQ P n ops Q B f l L M :=
  XQ.split hl (fun _ => ht) (fun q => absurd h (of_decide_eq_false q))
theorem XQ.splitF {B : Obl} {f d : Nat} {l : Array Bool} {p : Prop} [Decidable p] (hl : lk L d = some (.bool (decide p))) (h : ¬ p) (hf : XQ P n ops Q B f l ((d, .bool false) :: L) M) : XQ P n ops Q B f l L M :=
  XQ.split hl (fun q => absurd (of_decide_eq_true q) h) (fun _ => hf)
theorem wpJ.addTrue {B : Obl} : ∀ (f : Nat) (l : Array Bool) (a : Act) (w : World), wpJ P ops Q B f l a w → wpJ P ops Q (([], fun _ => True) :: B) f l a w
  | 0, _, _, _, h => ⟨⟨fun _ => trivial, h.1⟩, h.2.1, h.2.2⟩
  | f + 1, _, _, _, h => ⟨⟨fun _ => trivial, h.1⟩, h.2.1, fun j hj => wpOp_mono (fun a' w' => wpJ.addTrue f _ a' w') (h.2.2 j hj)⟩

variable {op : Op} {ty : TypeId} {pos : String} {af : Array Edge} {d f i : Nat} {v : Value} {B : Obl} {l l' : Array Bool}
theorem YF_of {φ : World → Prop} (hv : RunsTo P n L φ ⟨some d, op, ty, pos, af, none⟩ v) (a : Act) (ha : Sat n L a) : YF P ops φ ⟨some d, op, ty, pos, af, none⟩ v a :=
  .inl ⟨by simp [Region.wanted], fun w hw => hv a w ha hw⟩
theorem XQ.pv (ho : ops[i]? = some ⟨some d, op, ty, pos, af, none⟩) (hk : hoistB ops l i = true) (hl : l.setIfInBounds i true = l') (hv : RunsTo P n L (fun _ => True) ⟨some d, op, ty, pos, af, none⟩ v) (hd : Nat.blt d n.sz = true)
    (hB : B.all (fun p => !p.1.contains i) = true) (h : XQ P n ops Q B f l' ((d, v) :: L) M) : XQ P n ops Q B (f + 1) l L M :=
  XQ.hoist [] (fun _ => True) ho hk rfl hB hl rfl hd (fun _ _ => trivial) (YF_of hv) (fun hc a w ha hw hJ => wpJ.addTrue _ _ _ _ (h hc a w ha hw hJ.2))
theorem XQ.load {W : World} {S : Nat → Nat → Prop} {H : List Ent} (e : Ent) (T : List Nat) (ho : ops[i]? = some ⟨some d, op, ty, pos, af, none⟩) (hk : hoistB ops l i = true) (hl : l.setIfInBounds i true = l')
    (hH : Has H e) (hv : RunsTo P n L (fun w => e.holds w) ⟨some d, op, ty, pos, af, none⟩ v) (hd : Nat.blt d n.sz = true) (hT : T.all (fun s => depB ops i ops.size s && !(Nat.beq s i)) = true)
    (hB : B.all (fun p => !p.1.contains i) = true) (h : XQ P n ops Q ((T, fun w => e.holds w) :: B) f l' ((d, v) :: L) (XM W S H)) : XQ P n ops Q B (f + 1) l L (XM W S H) :=
  XQ.hoist T _ ho hk hT hB hl rfl hd (inXM hH) (YF_of hv) h
/-- a guarded operation that is passed over -/
theorem XQ.skip {o : Oper} {j dj : Nat} {want : Bool} (ho : ops[i]? = some o) (hg : o.guard = some (j, want)) (hdst : o.dst = some d) (hj : (ops[j]?).bind (·.dst) = some dj) (hlk : lk L dj = some (.bool (!want)))
    (hk : hoistB ops l i = true) (hl : l.setIfInBounds i true = l') (hd : Nat.blt d n.sz = true) (hB : B.all (fun p => !p.1.contains i) = true)
    (h : XQ P n ops Q B f l' ((d, undef) :: L) M) : XQ P n ops Q B (f + 1) l L M :=
  XQ.hoist [] (fun _ => True) ho hk rfl hB hl hdst hd (fun _ _ => trivial) (fun a ha => .inr ⟨by
    have hy := ha.2.2 dj _ hlk
    simp only [Region.wanted, hg, yielded, hj]
    simp only [Array.getD_eq_getD_getElem?] at hy
    cases hx : a.tmps[dj]? with
    | none => rw [hx] at hy; simp [undef] at hy
    | some u => rw [hx] at hy; simp at hy; subst hy; simp [hx], rfl⟩) (fun hc a w ha hw hJ => wpJ.addTrue _ _ _ _ (h hc a w ha hw hJ.2))
theorem XQ.skipU {o : Oper} {j dj : Nat} {want : Bool} (ho : ops[i]? = some o) (hg : o.guard = some (j, want)) (hdst : o.dst = some d) (hj : (ops[j]?).bind (·.dst) = some dj) (hlk : lk L dj = some undef)
    (hk : hoistB ops l i = true) (hl : l.setIfInBounds i true = l') (hd : Nat.blt d n.sz = true) (hB : B.all (fun p => !p.1.contains i) = true)
    (h : XQ P n ops Q B f l' ((d, undef) :: L) M) : XQ P n ops Q B (f + 1) l L M :=
  XQ.hoist [] (fun _ => True) ho hk rfl hB hl hdst hd (fun _ _ => trivial) (fun a ha => .inr ⟨by
    have hy := ha.2.2 dj _ hlk
    simp only [Region.wanted, hg, yielded, hj]
    simp only [Array.getD_eq_getD_getElem?] at hy
    cases hx : a.tmps[dj]? with
    | none => simp [hx]
    | some u => rw [hx] at hy; simp at hy; subst hy; simp [hx, undef], rfl⟩) (fun hc a w ha hw hJ => wpJ.addTrue _ _ _ _ (h hc a w ha hw hJ.2))
theorem YF_guard {φ : World → Prop} {j dj : Nat} {want : Bool} (hj : (ops[j]?).bind (·.dst) = some dj) (hlk : lk L dj = some (.bool want)) (hv : RunsTo P n L φ ⟨some d, op, ty, pos, af, some (j, want)⟩ v) (a : Act) (ha : Sat n L a) :
    YF P ops φ ⟨some d, op, ty, pos, af, some (j, want)⟩ v a :=
  .inl ⟨by
    have hy := ha.2.2 dj _ hlk
    simp only [Region.wanted, yielded, hj, beq_iff_eq]
    simp only [Array.getD_eq_getD_getElem?] at hy
    cases hx : a.tmps[dj]? with
    | none => rw [hx] at hy; simp [undef] at hy
    | some u => rw [hx] at hy; simp at hy; subst hy; simp [hx], fun w hw => hv a w ha hw⟩
theorem XQ.pvG {j dj : Nat} {want : Bool} (ho : ops[i]? = some ⟨some d, op, ty, pos, af, some (j, want)⟩) (hj : (ops[j]?).bind (·.dst) = some dj) (hlk : lk L dj = some (.bool want)) (hk : hoistB ops l i = true) (hl : l.setIfInBounds i true = l')
    (hv : RunsTo P n L (fun _ => True) ⟨some d, op, ty, pos, af, some (j, want)⟩ v) (hd : Nat.blt d n.sz = true)
    (hB : B.all (fun p => !p.1.contains i) = true) (h : XQ P n ops Q B f l' ((d, v) :: L) M) : XQ P n ops Q B (f + 1) l L M :=
  XQ.hoist [] (fun _ => True) ho hk rfl hB hl rfl hd (fun _ _ => trivial) (YF_guard hj hlk hv) (fun hc a w ha hw hJ => wpJ.addTrue _ _ _ _ (h hc a w ha hw hJ.2))
theorem XQ.loadG {W : World} {S : Nat → Nat → Prop} {H : List Ent} {j dj : Nat} {want : Bool} (e : Ent) (T : List Nat) (ho : ops[i]? = some ⟨some d, op, ty, pos, af, some (j, want)⟩) (hj : (ops[j]?).bind (·.dst) = some dj) (hlk : lk L dj = some (.bool want))
    (hk : hoistB ops l i = true) (hl : l.setIfInBounds i true = l')
    (hH : Has H e) (hv : RunsTo P n L (fun w => e.holds w) ⟨some d, op, ty, pos, af, some (j, want)⟩ v) (hd : Nat.blt d n.sz = true) (hT : T.all (fun s => depB ops i ops.size s && !(Nat.beq s i)) = true)
    (hB : B.all (fun p => !p.1.contains i) = true) (h : XQ P n ops Q ((T, fun w => e.holds w) :: B) f l' ((d, v) :: L) (XM W S H)) : XQ P n ops Q B (f + 1) l L (XM W S H) :=
  XQ.hoist T _ ho hk hT hB hl rfl hd (inXM hH) (YF_guard hj hlk hv) h

/-- any rule for a single operation serves where no other can come -/
theorem XQ.store {W : World} {S : Nat → Nat → Prop} {H H' : List Ent} {t : TypeId} {x y : Operand} {b o i' m : Nat} {C C' : Nat → Value} (ho : ops[i]? = some ⟨none, .store t x y, ty, pos, af, none⟩) (hk : Region.ready .any ops l = [i]) (hl : l.setIfInBounds i true = l')
    (hx : ev L x = some (ptr b o i')) (hy : ev L y = some v) (hH : Put H (.cells b o m C) (.cells b o m C') H') (hi : i' < m ∧ upd C i' v = C') (hv : one v = true) (hs : szOf P t = some 1)
    (hob : ∀ w, XM W S H' w → JL B l' w) (h : XQ P n ops Q B f l' L (XM W S H')) : XQ P n ops Q B (f + 1) l L (XM W S H) := by
  subst hl
  refine XQ.step ho rfl hk fun hc a w ha hw hJ => ?_
  obtain ⟨H1, hd, hp⟩ := hH.del
  have h2 := hw.setCell hd hi.1 v
  rw [hi.2] at h2
  have hw' := hw.perm hd.perm
  have hr := run_store_cells (P := P) (show (Ent.cells b o m C).holds w from hw'.good.1 _ (by simp)) hi.1 hv
  unfold Oper.wp
  have : (execOp a.eval ⟨none, .store t x y, ty, pos, af, none⟩).run P w = .ok .skip (w.setCell ⟨b, o + i', none⟩ v) := by
    have hz : (⟨b, o + i', none⟩ : Addr).add 0 = ⟨b, o + i', none⟩ := rfl
    simp [execOp, ev_eval ha hx, ev_eval ha hy, Instr.storeAt, Instr.sureAddr, ptr, storeVar, one_cells hv, run_sizeOf hs, storeCells, hz, hr]
  rw [this]
  exact h hc _ _ ha (h2.perm hp) (hob _ (h2.perm hp))
theorem XQ.storeAgg {W : World} {S : Nat → Nat → Prop} {H H' : List Ent} {t : TypeId} {x y : Operand} {b o i' m sz : Nat} {C C' : Nat → Value} {cs : Array Value} (ho : ops[i]? = some ⟨none, .store t x y, ty, pos, af, none⟩) (hk : Region.ready .any ops l = [i]) (hl : l.setIfInBounds i true = l')
    (hx : ev L x = some (ptr b o i')) (hy : ev L y = some (.agg cs)) (hH : Put H (.cells b o m C) (.cells b o m C') H') (hi : i' + sz ≤ m ∧ updL C i' cs.toList = C') (hv : cs.toList.all one = true ∧ cs.size = sz) (hs : szOf P t = some sz)
    (hob : ∀ w, XM W S H' w → JL B l' w) (h : XQ P n ops Q B f l' L (XM W S H')) : XQ P n ops Q B (f + 1) l L (XM W S H) := by
  subst hl
  refine XQ.step ho rfl hk fun hc a w ha hw hJ => ?_
  obtain ⟨H1, hd, hp⟩ := hH.del
  obtain ⟨w', hr, hx'⟩ := run_storeCells (P := P) cs.toList i' 0 C w (hw.perm hd.perm) (by simp; omega) hv.1
  simp only [Nat.add_zero] at hx'
  rw [hi.2] at hx'
  unfold Oper.wp
  have : (execOp a.eval ⟨none, .store t x y, ty, pos, af, none⟩).run P w = .ok .skip w' := by
    simp [execOp, ev_eval ha hx, ev_eval ha hy, Instr.storeAt, Instr.sureAddr, ptr, storeVar, Value.cells, run_sizeOf hs, hv.2, hr]
  rw [this]
  exact h hc _ _ ha (hx'.perm hp) (hob _ (hx'.perm hp))
theorem XQ.call {W : World} {S : Nat → Nat → Prop} {H : List Ent} {g : FuncId} {xs : List Operand} {vs : List Value} {ats : Array TypeId} {pre F : List Ent} {post : Value → List Ent → Prop}
    (ho : ops[i]? = some ⟨some d, .call ⟨.value (.func g), xs.toArray, ats⟩, ty, pos, af, none⟩) (hk : Region.ready .any ops l = [i]) (hl : l.setIfInBounds i true = l') (he : evs L xs = some vs) (hs : Spec P g vs pre post) (hp : Pick H pre F)
    (hc : callable P g = true) (hd : Nat.blt d n.sz = true) (hob : ∀ v H1, post v H1 → ∀ w, XM W S (H1 ++ F) w → JL B l' w)
    (h : ∀ v H1, post v H1 → XQ P n ops Q B f l' ((d, v) :: L) (XM W S (H1 ++ F))) : XQ P n ops Q B (f + 1) l L (XM W S H) := by
  subst hl
  refine XQ.step ho rfl hk fun hcl a w ha hw hJ => ?_
  unfold Oper.wp
  rw [run_call hc (evs_eval ha xs vs he)]
  show Calls P g vs.toArray w _
  refine (hs w (hw.pick hp).good).mono ?_
  rintro e w' ⟨v, H1, rfl, hpost, hwr, hx⟩
  have hx' := hw.called hp hx (fun e he => List.all_eq_true.1 hwr e he)
  exact h v H1 hpost hcl _ _ (ha.put hd v) hx' (hob v H1 hpost _ hx')
theorem XQ.box {W : World} {S : Nat → Nat → Prop} {H : List Ent} {t : TypeId} {x : Operand} {m : Nat} {C : Nat → Value} (ho : ops[i]? = some ⟨some d, .box t x, ty, pos, af, none⟩) (hk : Region.ready .any ops l = [i]) (hl : l.setIfInBounds i true = l')
    (hx : ev L x = some v) (hm : v.cells.size = m) (hC : ∀ i, i < m → cellsOf v.cells i = C i) (hd : Nat.blt d n.sz = true) (hob : ∀ b w, XM W S (.cells b 0 m C :: H) w → JL B l' w)
    (h : ∀ b, XQ P n ops Q B f l' ((d, ptr b 0 0) :: L) (XM W S (.cells b 0 m C :: H))) : XQ P n ops Q B (f + 1) l L (XM W S H) := by
  subst hl
  refine XQ.step ho rfl hk fun hcl a w ha hw hJ => ?_
  have hx' := hw.alloc v.cells t C (fun i hi => by rw [cellsOf_spec _ _ hi, hC i (hm ▸ hi)])
  rw [hm] at hx'
  unfold Oper.wp
  have : (execOp a.eval ⟨some d, .box t x, ty, pos, af, none⟩).run P w = .ok (.value (ptr w.heap.size 0 0)) (w.alloc (.cells v.cells t)) := by
    simp [execOp, ev_eval ha hx, Instr.box, newVar, newRow, newObj, Sem.run, ptr]
  rw [this]
  exact h _ hcl _ _ (ha.put hd _) hx' (hob _ _ hx')
theorem XQ.callR {W : World} {S : Nat → Nat → Prop} {H : List Ent} {g : FuncId} {xs : List Operand} {vs : List Value} {ats : Array TypeId} {pre F : List Ent} {post : Value → List Ent → Prop} (k : Nat)
    (ho : ops[i]? = some ⟨some d, .call ⟨.value (.func g), xs.toArray, ats⟩, ty, pos, af, none⟩) (hk : Region.ready .any ops l = [i]) (hl : l.setIfInBounds i true = l') (he : evs L xs = some vs) (hs : Spec P g vs pre post) (hp : Pick H pre F)
    (hR : (pre.drop k).all (fun e => !e.wr) = true) (hc : callable P g = true) (hd : Nat.blt d n.sz = true) (hob : ∀ v H1, post v H1 → ∀ w, XM W S (H1 ++ (pre.drop k ++ F)) w → JL B l' w)
    (h : ∀ v H1, post v H1 → XQ P n ops Q B f l' ((d, v) :: L) (XM W S (H1 ++ (pre.drop k ++ F)))) : XQ P n ops Q B (f + 1) l L (XM W S H) := by
  subst hl
  refine XQ.step ho rfl hk fun hcl a w ha hw hJ => ?_
  unfold Oper.wp
  rw [run_call hc (evs_eval ha xs vs he)]
  show Calls P g vs.toArray w _
  refine (hs w (hw.pick hp).good).mono ?_
  rintro e w' ⟨v, H1, rfl, hpost, hwr, hx⟩
  have hpre : pre = pre.take k ++ pre.drop k := (List.take_append_drop k pre).symm
  have hR' : ∀ e ∈ pre.drop k, e.wr = false := fun e he => by
    have := List.all_eq_true.1 hR e he
    simpa using this
  have hp' : Pick H (pre.take k ++ pre.drop k) F := by rw [← hpre]; exact hp
  have hx' : XM w (foot (pre.take k ++ pre.drop k)) H1 w' := by rw [← hpre]; exact hx
  have hx2 := hw.calledR hp' hR' hx' (fun e he => List.all_eq_true.1 hwr e he)
  exact h v H1 hpost hcl _ _ (ha.put hd v) hx2 (hob v H1 hpost _ hx2)
theorem XQ.allocZ {W : World} {S : Nat → Nat → Prop} {H : List Ent} {t : TypeId} {z : Value} {m : Nat} {C : Nat → Value} (ho : ops[i]? = some ⟨some d, .alloc t, ty, pos, af, none⟩) (hk : Region.ready .any ops l = [i]) (hl : l.setIfInBounds i true = l')
    (hz : zeroOf P t = some z) (hm : z.cells.size = m) (hC : ∀ i, i < m → cellsOf z.cells i = C i) (hd : Nat.blt d n.sz = true) (hob : ∀ b w, XM W S (.cells b 0 m C :: H) w → JL B l' w)
    (h : ∀ b, XQ P n ops Q B f l' ((d, ptr b 0 0) :: L) (XM W S (.cells b 0 m C :: H))) : XQ P n ops Q B (f + 1) l L (XM W S H) := by
  subst hl
  refine XQ.step ho rfl hk fun hcl a w ha hw hJ => ?_
  have hx := hw.alloc z.cells t C (fun i hi => by rw [cellsOf_spec _ _ hi, hC i (hm ▸ hi)])
  rw [hm] at hx
  unfold Oper.wp
  have : (execOp a.eval ⟨some d, .alloc t, ty, pos, af, none⟩).run P w = .ok (.value (ptr w.heap.size 0 0)) (w.alloc (.cells z.cells t)) := by
    simp [execOp, Instr.alloc, run_zeroValue hz, newVar, newRow, newObj, Sem.run, ptr]
  rw [this]
  exact h _ hcl _ _ (ha.put hd _) hx (hob _ _ hx)
end
section
variable {P : Program} {n : Fr} {L : PF} {ops : Array Oper} {Q : Exit → Act → World → Prop} {ty : TypeId} {pos : String} {af : Array Edge} {f i : Nat} {B : Obl} {l l' : Array Bool}
theorem XQ.storeFA {W : World} {S : Nat → Nat → Prop} {H H' : List Ent} {t : TypeId} {x y : Operand} {g cap sz k i' m : Nat} {e : TypeId} {C C' : Nat → Value} {cs : Array Value} (ho : ops[i]? = some ⟨none, .store t x y, ty, pos, af, none⟩) (hk : Region.ready .any ops l = [i]) (hl : l.setIfInBounds i true = l')
    (hx : ev L x = some (ptr g 0 i')) (hy : ev L y = some (.agg cs)) (hH : Put H (frow (some ⟨g, 0, none⟩) cap e sz k C) (frow (some ⟨g, 0, none⟩) cap e sz k C') H') (hi : i' + m ≤ k * sz ∧ updL C i' cs.toList = C') (hv : cs.toList.all one = true ∧ cs.size = m) (hs : szOf P t = some m)
    (hob : ∀ w, XM W S H' w → JL B l' w) (h : XQ P n ops Q B f l' L (XM W S H')) : XQ P n ops Q B (f + 1) l L (XM W S H) := by
  subst hl
  refine XQ.step ho rfl hk fun hc a w ha hw hJ => ?_
  obtain ⟨H1, hd, hp⟩ := hH.del
  obtain ⟨w', hr, hx'⟩ := exec_storeFrow (ty := ty) (pos := pos) (af := af) ha hx hy (hw.perm hd.perm) hi.1 hv hs
  rw [hi.2] at hx'
  unfold Oper.wp
  rw [hr]
  exact h hc _ _ ha (hx'.perm hp) (hob _ (hx'.perm hp))
/-- no other operation can come, and its guard lets it be carried out -/
theorem XQ.stepG {o : Oper} {j dj : Nat} {want : Bool} {M : World → Prop} (ho : ops[i]? = some o) (hg : o.guard = some (j, want)) (hj : (ops[j]?).bind (·.dst) = some dj) (hlk : lk L dj = some (.bool want)) (hk : Region.ready .any ops l = [i])
    (h : Closed ops (l.setIfInBounds i true) → ∀ a w, Sat n L a → M w → JL B l w → o.wp P a w (wpJ P ops Q B f (l.setIfInBounds i true)) (nrm Q)) : XQ P n ops Q B (f + 1) l L M := by
  intro hc a w ha hw hJ
  have hr : i ∈ Region.ready .any ops l := by rw [hk]; simp
  refine ⟨hJ, fun h0 => (by rw [hk] at h0; cases h0), fun j' hj' => ?_⟩
  rw [hk] at hj'
  have : j' = i := by simpa using hj'
  subst this
  unfold wpOp
  simp only [ho]
  have hy := ha.2.2 dj _ hlk
  have hwant : Region.wanted o (yielded ops a.tmps) = true := by
    simp only [Region.wanted, hg, yielded, hj, beq_iff_eq]
    simp only [Array.getD_eq_getD_getElem?] at hy
    cases hx : a.tmps[dj]? with
    | none => rw [hx] at hy; simp [undef] at hy
    | some u => rw [hx] at hy; simp at hy; subst hy; simp [hx]
  rw [if_pos hwant]
  exact .inl (h (closed_set hc hr) a w ha hw hJ)
theorem XQ.callG {d : Nat} {W : World} {S : Nat → Nat → Prop} {H : List Ent} {g : FuncId} {xs : List Operand} {vs : List Value} {ats : Array TypeId} {pre F : List Ent} {post : Value → List Ent → Prop} {j dj : Nat} {want : Bool}
    (ho : ops[i]? = some ⟨some d, .call ⟨.value (.func g), xs.toArray, ats⟩, ty, pos, af, some (j, want)⟩) (hj : (ops[j]?).bind (·.dst) = some dj) (hlk : lk L dj = some (.bool want)) (hk : Region.ready .any ops l = [i]) (hl : l.setIfInBounds i true = l') (he : evs L xs = some vs) (hs : Spec P g vs pre post) (hp : Pick H pre F)
    (hc : callable P g = true) (hd : Nat.blt d n.sz = true) (hob : ∀ v H1, post v H1 → ∀ w, XM W S (H1 ++ F) w → JL B l' w)
    (h : ∀ v H1, post v H1 → XQ P n ops Q B f l' ((d, v) :: L) (XM W S (H1 ++ F))) : XQ P n ops Q B (f + 1) l L (XM W S H) := by
  subst hl
  refine XQ.stepG ho rfl hj hlk hk fun hcl a w ha hw hJ => ?_
  show Oper.wp P ⟨some d, .call ⟨.value (.func g), xs.toArray, ats⟩, ty, pos, af, none⟩ a w _ _
  unfold Oper.wp
  rw [run_call hc (evs_eval ha xs vs he)]
  show Calls P g vs.toArray w _
  refine (hs w (hw.pick hp).good).mono ?_
  rintro e w' ⟨v, H1, rfl, hpost, hwr, hx⟩
  have hx' := hw.called hp hx (fun e he => List.all_eq_true.1 hwr e he)
  exact h v H1 hpost hcl _ _ (ha.put hd v) hx' (hob v H1 hpost _ hx')
/-- what an operation that is passed over was to wait for, it waits for no more -/
def stripB (i : Nat) : Obl → Obl
  | [] => []
  | p :: r => (p.1.filter (fun s => !(Nat.beq s i)), p.2) :: stripB i r
theorem JL_strip : ∀ (B : Obl) {i : Nat} {l : Array Bool} {w : World}, JL (stripB i B) l w → JL B l w
  | [], _, _, _, _ => trivial
  | _ :: r, _, _, _, h => ⟨fun hs => h.1 (fun s hm => hs s (List.mem_filter.1 hm).1), JL_strip r h.2⟩
theorem wpJ.strip {B B' : Obl} (hsub : ∀ l w, JL B' l w → JL B l w) : ∀ (f : Nat) (l : Array Bool) (a : Act) (w : World), wpJ P ops Q B' f l a w → wpJ P ops Q B f l a w
  | 0, _, _, _, h => ⟨hsub _ _ h.1, h.2.1, h.2.2⟩
  | f + 1, _, _, _, h => ⟨hsub _ _ h.1, h.2.1, fun j hj => wpOp_mono (fun a' w' => wpJ.strip hsub f _ a' w') (h.2.2 j hj)⟩
theorem XQ.strip {M : World → Prop} (j : Nat) (hφ : ∀ w, M w → JL (stripB j B) l w) (h : XQ P n ops Q (stripB j B) f l L M) : XQ P n ops Q B f l L M :=
  fun hc a w ha hw _ => wpJ.strip (fun _ _ => JL_strip B) f l a w (h hc a w ha hw (hφ w hw))
end
end Go.X
