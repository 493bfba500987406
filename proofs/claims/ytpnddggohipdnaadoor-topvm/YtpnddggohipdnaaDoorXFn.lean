import Derived.Test.YtpnddggohipdnaaDoorXGo
namespace Go.X
open Go
/-! ### calls of function values -/
section
variable {P : Program} {n : Fr} {Q : Exit → Act → World → Prop} {L : PF} {ops : Md} {rest : List Oper} {ty : TypeId} {pos : String} {af : Array Edge} {d : Nat}
variable {W : World} {S : Nat → Nat → Prop} {H : List Ent}
theorem XO.callV {x : Operand} {f : FuncId} {cs : List Value} {xs : List Operand} {vs : List Value} {ats : Array TypeId} {pre F : List Ent} {post : Value → List Ent → Prop} (hx : ev L x = some (.func (.func f) #[] cs.toArray)) (he : evs L xs = some vs) (hs : Spec P f (vs ++ cs) pre post) (hp : Pick H pre F)
    (hc : callable P f = true) (hd : (Nat.blt d n.sz && isE (.call ⟨.value x, xs.toArray, ats⟩)) = true)
    (h : ∀ v H1, post v H1 → XO P n ops Q rest ((d, v) :: L) (XM W S (H1 ++ F))) :
    XO P n ops Q (⟨some d, .call ⟨.value x, xs.toArray, ats⟩, ty, pos, af, none⟩ :: rest) L (XM W S H) := by
  simp only [Bool.and_eq_true] at hd
  refine XO.op (by simp [hd.2]) fun a w ha hw => ?_
  unfold Oper.wp
  have hr : (execOp a.eval ⟨some d, .call ⟨.value x, xs.toArray, ats⟩, ty, pos, af, none⟩).run P w = .ok (.enter f (vs ++ cs).toArray) w := by
    unfold callable at hc
    cases hf : P.funcs[f]? with
    | none => simp [hf] at hc
    | some fn =>
      simp only [hf, Bool.and_eq_true] at hc
      obtain ⟨h1, h2⟩ := hc
      have h3 : ¬ fn.name = "runtime.NumGoroutine" := by simpa using h1
      have h4 : ¬ fn.body = none := by cases hb : fn.body <;> simp_all
      have h5 := evs_eval ha xs vs he
      simp [execOp, resolve, ev_eval ha hx, Deferred.ofValue, invoke, callFunc, run_program, hf, h3, h4, h5]
  rw [hr]
  show Calls P f (vs ++ cs).toArray w _
  refine (hs w (hw.pick hp).good).mono ?_
  rintro e w' ⟨v, H1, rfl, hpost, hwr, hx⟩
  exact h v H1 hpost _ _ (ha.put hd.1 v) (hw.called hp hx (fun e he => List.all_eq_true.1 hwr e he))
theorem V.makeFunc1 {f : FuncId} {x : Operand} {u : Value} {φ : World → Prop} {gd : Option (Nat × Bool)} (hx : ev L x = some u) :
    RunsTo P n L φ (⟨some d, .makeFunc (.func f) #[] #[x], ty, pos, af, gd⟩) (.func (.func f) #[] #[u]) := fun a w ha hw => by
  simp [execOp, ev_eval ha hx, Instr.makeFunc]
theorem V.indexAggN {t e : TypeId} {x y : Operand} {A B : Array Value} {m sz : Nat} {k : IntKind} {z : Int} {φ : World → Prop} {gd : Option (Nat × Bool)} (hx : ev L x = some (.agg A)) (hy : ev L y = some (.int k z)) (ht : P.underlying t = some (.array m e)) (hs : szOf P e = some sz) (he : aggT P e = true) (hz : 0 ≤ z ∧ z < m) (hv : A.extract (z.toNat * sz) (z.toNat * sz + sz) = B) :
    RunsTo P n L φ ⟨some d, .index t x y, ty, pos, af, gd⟩ (.agg B) := fun a w ha _ => by
  have hp : (part e A (z.toNat * sz)).run P w = .ok (.agg B) w := by
    simp [part, run_isAgg_agg he, run_sizeOf hs, hv]
  simp only [execOp, ev_eval ha hx, ev_eval ha hy, Instr.index, asIntOf, Sem.run_bind, Sem.run_pure, Result.andThen_ok, run_underlying ht, hz, run_sizeOf hs]
  simp only [Sem.run_bind, run_sizeOf hs, Result.andThen_ok, hp, true_and, and_self, if_true]
/-! ### a variable of one cell -/
def cell1 (v : Value) : Nat → Value := cellsOf #[v]
theorem cell1.ld (v : Value) : 0 < 1 ∧ cell1 v 0 = v := ⟨by omega, rfl⟩
theorem cell1.st (u v : Value) : 0 < 1 ∧ upd (cell1 u) 0 v = cell1 v := ⟨by omega, by
  funext i
  cases i with
  | zero => rfl
  | succ i => simp [upd, cell1, cellsOf]⟩
end
end Go.X
