import Derived.Test.YtpnddggohipdnaaDoorXOps
namespace Go.X
open Go

/-- one entry put in another's place -/
inductive Put : List Ent → Ent → Ent → List Ent → Prop where
  | here {e e' H} : Put (e :: H) e e' (e' :: H)
  | there {x e e' H H'} : Put H e e' H' → Put (x :: H) e e' (x :: H')
theorem Put.del {H H2 : List Ent} {e e' : Ent} (h : Put H e e' H2) : ∃ H', Del H e H' ∧ (e' :: H').Perm H2 := by
  induction h with
  | here => exact ⟨_, .here, .refl _⟩
  | there _ ih => obtain ⟨H', h1, h2⟩ := ih; exact ⟨_, .there h1, (List.Perm.swap _ _ _).trans (List.Perm.cons _ h2)⟩

/-- several values, one behind the other -/
def updL (C : Nat → Value) (i : Nat) : List Value → Nat → Value
  | [] => C
  | v :: r => updL (upd C i v) (i + 1) r

theorem oneCell_of {v : Value} (h : one v = true) : v.oneCell' = true := by cases v <;> simp_all [one, Value.oneCell']

theorem Keep.setCell {w : World} {b o i : Nat} {A : Array Value} {t : TypeId} {fz : Nat × Nat} (h : w.heap[b]? = some (.cells A t fz)) (v : Value) {S : Nat → Nat → Prop} (hS : S b (o + i)) :
    Keep w (w.setCell ⟨b, o + i, none⟩ v) S := by
  refine ⟨rfl, rfl, rfl, by simp [World.setCell], fun x hx hn => ?_, fun x A' t' fz' hA => ?_⟩
  · have : x ≠ b := fun e => by subst e; exact hn _ hS
    simp only [World.setCell, Array.getElem?_modify]
    rw [if_neg (fun e => this e.symm)]
  · by_cases hx : x = b
    · subst hx
      rw [h] at hA
      simp only [Option.some.injEq, Obj.cells.injEq] at hA
      obtain ⟨rfl, rfl, rfl⟩ := hA
      refine ⟨A.setIfInBounds (o + i) v, ?_, by simp, fun j hj => ?_⟩
      · simp [World.setCell, Array.getElem?_modify, h]
      · have : o + i ≠ j := fun e => by subst e; exact hj hS
        rw [Array.getElem?_setIfInBounds_ne this]
    · refine ⟨A', ?_, rfl, fun _ _ => rfl⟩
      simp only [World.setCell, Array.getElem?_modify]
      rw [if_neg (fun e => hx e.symm)]
      exact hA

theorem XM.setCell {W w : World} {S : Nat → Nat → Prop} {H H' : List Ent} {b o m i : Nat} {C : Nat → Value} (h : XM W S H w) (hd : Del H (.cells b o m C) H') (hi : i < m) (v : Value) :
    XM W S (.cells b o m (upd C i v) :: H') (w.setCell ⟨b, o + i, none⟩ v) := by
  have hh : (Ent.cells b o m C).holds w := h.good.1 _ (hd.perm.mem_iff.2 (by simp))
  obtain ⟨A, t, lo, hi', h1, h2⟩ := hh
  refine h.write (e' := .cells b o m (upd C i v)) hd rfl (fun b' o' ha => .inl ha) (Keep.setCell h1 v ⟨rfl, by omega, by omega⟩) ?_
  refine ⟨A.setIfInBounds (o + i) v, t, lo, hi', by simp [World.setCell, Array.getElem?_modify, h1], fun j hj => ⟨?_, (h2 j hj).2⟩⟩
  have hsz : o + i < A.size := (Array.getElem?_eq_some_iff.1 (h2 i hi).1).1
  by_cases hij : j = i
  · subst hij; simp [upd, hsz]
  · rw [Array.getElem?_setIfInBounds_ne (by omega)]
    simp [upd, hij, (h2 j hj).1]

section
variable {P : Program} {n : Fr} {Q : Exit → Act → World → Prop} {L : PF} {ops : Md} {rest : List Oper} {ty : TypeId} {pos : String} {af : Array Edge} {d : Nat}
variable {W : World} {S : Nat → Nat → Prop} {H H' : List Ent}

theorem run_store_cells {w : World} {b o m i : Nat} {C : Nat → Value} (h : (Ent.cells b o m C).holds w) (hi : i < m) {v : Value} (hv : one v = true) :
    (store ⟨b, o + i, none⟩ v).run P w = .ok () (w.setCell ⟨b, o + i, none⟩ v) := by
  rw [run_store P w _ v .plain (oneCell_of hv), cell_of_holds h hi]
  obtain ⟨A, t, lo, hi', h1, h2⟩ := h
  have : w.frozen? ⟨b, o + i, none⟩ = false := by
    have := (h2 i hi).2
    simp only [World.frozen?, h1]
    simp; omega
  simp [this]

theorem run_storeCells {b o m : Nat} : ∀ (vs : List Value) (i j : Nat) (C : Nat → Value) (w : World), XM W S (.cells b o m C :: H) w → i + j + vs.length ≤ m → vs.all one = true →
    ∃ w', (storeCells ⟨b, o + i, none⟩ vs j).run P w = .ok () w' ∧ XM W S (.cells b o m (updL C (i + j) vs) :: H) w'
  | [], i, j, C, w, h, _, _ => ⟨w, by simp [storeCells], h⟩
  | v :: r, i, j, C, w, h, hl, h1 => by
    simp only [List.all_cons, Bool.and_eq_true] at h1
    simp only [List.length_cons] at hl
    have h2 := h.setCell .here (i := i + j) (by omega) v
    obtain ⟨w', hr, hx⟩ := run_storeCells r i (j + 1) _ _ h2 (by omega) h1.2
    refine ⟨w', ?_, by simpa only [updL, Nat.add_assoc] using hx⟩
    simp only [storeCells, Sem.run_bind, addr_add]
    rw [run_store_cells (show (Ent.cells b o m C).holds w from h.good.1 _ (by simp)) (by omega) h1.1]
    exact hr

theorem XO.store {t : TypeId} {x y : Operand} {b o i m : Nat} {C C' : Nat → Value} {v : Value} (hx : ev L x = some (ptr b o i)) (hy : ev L y = some v) (hH : Put H (.cells b o m C) (.cells b o m C') H')
    (hi : i < m ∧ upd C i v = C') (hv : one v = true) (hs : szOf P t = some 1)
    (h : XO P n ops Q rest L (XM W S H')) : XO P n ops Q (⟨none, .store t x y, ty, pos, af, none⟩ :: rest) L (XM W S H) :=
  XO.op rfl fun a w ha hw => by
    obtain ⟨H1, hd, hp⟩ := hH.del
    have h2 := hw.setCell hd hi.1 v
    rw [hi.2] at h2
    have hw' := hw.perm hd.perm
    have hr := run_store_cells (P := P) (show (Ent.cells b o m C).holds w from hw'.good.1 _ (by simp)) hi.1 hv
    unfold Oper.wp
    have : (execOp a.eval ⟨none, .store t x y, ty, pos, af, none⟩).run P w = .ok .skip (w.setCell ⟨b, o + i, none⟩ v) := by
      have hz : (⟨b, o + i, none⟩ : Addr).add 0 = ⟨b, o + i, none⟩ := rfl
      simp [execOp, ev_eval ha hx, ev_eval ha hy, Instr.storeAt, Instr.sureAddr, ptr, storeVar, one_cells hv, run_sizeOf hs, storeCells, hz, hr]
    rw [this]
    exact h _ _ ha (h2.perm hp)

theorem XO.storeAgg {t : TypeId} {x y : Operand} {b o i m sz : Nat} {C C' : Nat → Value} {cs : Array Value} (hx : ev L x = some (ptr b o i)) (hy : ev L y = some (.agg cs)) (hH : Put H (.cells b o m C) (.cells b o m C') H')
    (hi : i + sz ≤ m ∧ updL C i cs.toList = C') (hv : cs.toList.all one = true ∧ cs.size = sz) (hs : szOf P t = some sz)
    (h : XO P n ops Q rest L (XM W S H')) : XO P n ops Q (⟨none, .store t x y, ty, pos, af, none⟩ :: rest) L (XM W S H) :=
  XO.op rfl fun a w ha hw => by
    obtain ⟨H1, hd, hp⟩ := hH.del
    obtain ⟨w', hr, hx'⟩ := run_storeCells (P := P) cs.toList i 0 C w (hw.perm hd.perm) (by simp; omega) hv.1
    simp only [Nat.add_zero] at hx'
    rw [hi.2] at hx'
    unfold Oper.wp
    have : (execOp a.eval ⟨none, .store t x y, ty, pos, af, none⟩).run P w = .ok .skip w' := by
      simp [execOp, ev_eval ha hx, ev_eval ha hy, Instr.storeAt, Instr.sureAddr, ptr, storeVar, Value.cells, run_sizeOf hs, hv.2, hr]
    rw [this]
    exact h _ _ ha (hx'.perm hp)

/-! ### new memory -/
theorem XM.alloc {w : World} (h : XM W S H w) (A : Array Value) (t : TypeId) (C : Nat → Value) (hC : ∀ i, i < A.size → A[i]? = some (C i)) :
    XM W S (.cells w.heap.size 0 A.size C :: H) (w.alloc (.cells A t)) := by
  refine h.fresh (fun b o hb => by obtain ⟨rfl, _⟩ := hb; exact Nat.le_refl _) ?_ ?_
  · refine ⟨rfl, rfl, rfl, by simp, fun b hb _ => heap_alloc_old w _ hb, fun b A' t' fz hA => ⟨A', ?_, rfl, fun _ _ => rfl⟩⟩
    rw [heap_alloc_old w _ (lt_of_heap hA)]; exact hA
  · exact ⟨A, t, 0, 0, heap_alloc_new w _, fun i hi => ⟨by simpa using hC i hi, by omega⟩⟩

def cellsOf (A : Array Value) : Nat → Value := fun i => A.getD i undef
theorem cellsOf_spec (A : Array Value) (i : Nat) (h : i < A.size) : A[i]? = some (cellsOf A i) := by simp [cellsOf, h]

theorem XO.allocZ {t : TypeId} {z : Value} {m : Nat} {C : Nat → Value} (hz : zeroOf P t = some z) (hm : z.cells.size = m) (hC : ∀ i, i < m → cellsOf z.cells i = C i) (hd : Nat.blt d n.sz = true)
    (h : ∀ b, XO P n ops Q rest ((d, ptr b 0 0) :: L) (XM W S (.cells b 0 m C :: H))) : XO P n ops Q (⟨some d, .alloc t, ty, pos, af, none⟩ :: rest) L (XM W S H) :=
  XO.op rfl fun a w ha hw => by
    have hx := hw.alloc z.cells t C (fun i hi => by rw [cellsOf_spec _ _ hi, hC i (hm ▸ hi)])
    rw [hm] at hx
    unfold Oper.wp
    have : (execOp a.eval ⟨some d, .alloc t, ty, pos, af, none⟩).run P w = .ok (.value (ptr w.heap.size 0 0)) (w.alloc (.cells z.cells t)) := by
      simp [execOp, Instr.alloc, run_zeroValue hz, newVar, newRow, newObj, Sem.run, ptr]
    rw [this]
    exact h _ _ _ (ha.put hd _) hx
theorem XO.box {t : TypeId} {x : Operand} {v : Value} {m : Nat} {C : Nat → Value} (hx : ev L x = some v) (hm : v.cells.size = m) (hC : ∀ i, i < m → cellsOf v.cells i = C i) (hd : Nat.blt d n.sz = true)
    (h : ∀ b, XO P n ops Q rest ((d, ptr b 0 0) :: L) (XM W S (.cells b 0 m C :: H))) : XO P n ops Q (⟨some d, .box t x, ty, pos, af, none⟩ :: rest) L (XM W S H) :=
  XO.op rfl fun a w ha hw => by
    have hx' := hw.alloc v.cells t C (fun i hi => by rw [cellsOf_spec _ _ hi, hC i (hm ▸ hi)])
    rw [hm] at hx'
    unfold Oper.wp
    have : (execOp a.eval ⟨some d, .box t x, ty, pos, af, none⟩).run P w = .ok (.value (ptr w.heap.size 0 0)) (w.alloc (.cells v.cells t)) := by
      simp [execOp, ev_eval ha hx, Instr.box, newVar, newRow, newObj, Sem.run, ptr]
    rw [this]
    exact h _ _ _ (ha.put hd _) hx'
/-- an aggregate that is built; what it comes to is a closed reckoning -/
theorem V.build {t : TypeId} {parts : Array (Nat × Operand)} {vs : Array (Nat × Value)} {v : Value} (hp : parts.toList.mapM (fun x => (ev L x.2).map fun u => (x.1, u)) = some vs.toList)
    (hb : ∀ w, (Instr.build t vs).run P w = .ok v w) {φ : World → Prop} {gd : Option (Nat × Bool)} :
    RunsTo P n L φ ⟨some d, .build t parts, ty, pos, af, gd⟩ v := fun a w ha _ => by
    have : parts.map (fun x => (x.1, a.eval x.2)) = vs := by
      apply Array.toList_inj.1
      rw [Array.toList_map]
      generalize parts.toList = l at hp
      generalize vs.toList = us at hp ⊢
      clear hb
      induction l generalizing us with
      | nil => simp at hp; subst hp; rfl
      | cons x r ih =>
        simp only [List.mapM_cons, Option.bind_eq_bind] at hp
        cases he : ev L x.2 with
        | none => simp [he] at hp
        | some u =>
          simp only [he, Option.map_some, Option.bind_some] at hp
          cases hr : r.mapM (fun x => (ev L x.2).map fun u => (x.1, u)) with
          | none => simp [hr] at hp
          | some us' =>
            simp [hr] at hp
            subst hp
            simp only [List.map_cons]
            rw [ih us' hr, ev_eval ha he]
    have h2 : (execOp a.eval ⟨some d, .build t parts, ty, pos, af, gd⟩).run P w = .ok (.value v) w := by
      have : parts.map (fun (i, x) => (i, a.eval x)) = vs := this
      simp [execOp, this, hb]
    exact h2

/-! ### calls -/
def evs (L : PF) : List Operand → Option (List Value)
  | [] => some []
  | x :: r => match ev L x, evs L r with
    | some v, some vs => some (v :: vs)
    | _, _ => none
theorem evs_eval {a : Act} (ha : Sat n L a) : ∀ (xs : List Operand) (vs : List Value), evs L xs = some vs → xs.map a.eval = vs
  | [], vs, h => by simp [evs] at h; subst h; rfl
  | x :: r, vs, h => by
    simp only [evs] at h
    cases hx : ev L x with
    | none => simp [hx] at h
    | some v =>
      cases hr : evs L r with
      | none => simp [hx, hr] at h
      | some us =>
        simp [hx, hr] at h
        subst h
        simp only [List.map_cons, ev_eval ha hx, evs_eval ha r us hr]

theorem run_call {w : World} {a : Act} {f : FuncId} {xs : List Operand} {vs : List Value} {ats : Array TypeId} {dst : Option Nat} (hc : callable P f = true) (he : xs.map a.eval = vs) :
    (execOp a.eval ⟨dst, .call ⟨.value (.func f), xs.toArray, ats⟩, ty, pos, af, none⟩).run P w = .ok (.enter f vs.toArray) w := by
  unfold callable at hc
  cases hf : P.funcs[f]? with
  | none => simp [hf] at hc
  | some fn =>
    simp only [hf, Bool.and_eq_true] at hc
    obtain ⟨h1, h2⟩ := hc
    have h3 : ¬ fn.name = "runtime.NumGoroutine" := by simpa using h1
    have h4 : ¬ fn.body = none := by cases hb : fn.body <;> simp_all
    have h5 : xs.toArray.map a.eval = vs.toArray := by rw [← he]; simp
    simp [execOp, resolve, Act.eval, Deferred.ofValue, invoke, callFunc, run_program, hf, h3, h4, he]

theorem XO.call {f : FuncId} {xs : List Operand} {vs : List Value} {ats : Array TypeId} {pre F : List Ent} {post : Value → List Ent → Prop} (he : evs L xs = some vs) (hs : Spec P f vs pre post) (hp : Pick H pre F)
    (hc : callable P f = true) (hd : Nat.blt d n.sz = true)
    (h : ∀ v H1, post v H1 → XO P n ops Q rest ((d, v) :: L) (XM W S (H1 ++ F))) :
    XO P n ops Q (⟨some d, .call ⟨.value (.func f), xs.toArray, ats⟩, ty, pos, af, none⟩ :: rest) L (XM W S H) :=
  XO.op rfl fun a w ha hw => by
    unfold Oper.wp
    rw [run_call hc (evs_eval ha xs vs he)]
    show Calls P f vs.toArray w _
    refine (hs w (hw.pick hp).good).mono ?_
    rintro e w' ⟨v, H1, rfl, hpost, hwr, hx⟩
    exact h v H1 hpost _ _ (ha.put hd v) (hw.called hp hx (fun e he => List.all_eq_true.1 hwr e he))

theorem XO.callR {f : FuncId} {xs : List Operand} {vs : List Value} {ats : Array TypeId} {pre F : List Ent} {post : Value → List Ent → Prop} (k : Nat) (he : evs L xs = some vs) (hs : Spec P f vs pre post) (hp : Pick H pre F)
    (hR : (pre.drop k).all (fun e => !e.wr) = true) (hc : callable P f = true) (hd : Nat.blt d n.sz = true)
    (h : ∀ v H1, post v H1 → XO P n ops Q rest ((d, v) :: L) (XM W S (H1 ++ (pre.drop k ++ F)))) :
    XO P n ops Q (⟨some d, .call ⟨.value (.func f), xs.toArray, ats⟩, ty, pos, af, none⟩ :: rest) L (XM W S H) :=
  XO.op rfl fun a w ha hw => by
    unfold Oper.wp
    rw [run_call hc (evs_eval ha xs vs he)]
    show Calls P f vs.toArray w _
    refine (hs w (hw.pick hp).good).mono ?_
    rintro e w' ⟨v, H1, rfl, hpost, hwr, hx⟩
    have hpre : pre = pre.take k ++ pre.drop k := (List.take_append_drop k pre).symm
    have hR' : ∀ e ∈ pre.drop k, e.wr = false := fun e he => by
      have := List.all_eq_true.1 hR e he
      simpa using this
    have hp' : Pick H (pre.take k ++ pre.drop k) F := by rw [← hpre]; exact hp
    have hx' : XM w (foot (pre.take k ++ pre.drop k)) H1 w' := by rw [← hpre]; exact hx
    exact h v H1 hpost _ _ (ha.put hd v) (hw.calledR hp' hR' hx' (fun e he => List.all_eq_true.1 hwr e he))

/-! ### contracts -/
theorem Spec.intro {f : FuncId} {fn : Func} {c : Code} {args : List Value} {pre : List Ent} {post : Value → List Ent → Prop} (hf : P.funcs[f]? = some fn) (hb : fn.body = some c) (hn : Nat.ble args.length fn.ntmps = true)
    (h : ∀ W, XC P (fr fn.ntmps [] []) c (bodyPost P fn fun e w' => ∃ v H', e = .returned v ∧ post v H' ∧ H'.all Ent.wr = true ∧ XM W (foot pre) H' w') (ofArgs 0 args) (XM W (foot pre) pre)) : Spec P f args pre post :=
  fun w hg => enter hf hb hn (h w) (XM.start hg)
theorem Spec.weaken {f : FuncId} {args : List Value} {pre : List Ent} {post post' : Value → List Ent → Prop} (h : Spec P f args pre post) (hp : ∀ v H1, post v H1 → post' v H1) : Spec P f args pre post' :=
  fun w hg => (h w hg).mono fun _ _ ⟨v, H1, he, hq, hr⟩ => ⟨v, H1, he, hp v H1 hq, hr⟩
theorem post_of {post : Value → List Ent → Prop} {H1 F : List Ent} {v : Value} (hp : Pick H H1 F) (hw1 : H1.all Ent.wr = true) (h : post v H1) :
    ∀ w, XM W S H w → ∃ v' H', Ending.returned v = .returned v' ∧ post v' H' ∧ H'.all Ent.wr = true ∧ XM W S H' w := fun _ hw => ⟨v, H1, rfl, h, hw1, hw.pick hp⟩
end
end Go.X
