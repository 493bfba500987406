import Derived.Test.YtmklfkjfgjagaaaGreatDoorXRange
import Derived.Laws.StructEq
namespace Go.X
open Go Go.RowKit Go.Proofs
section
variable {P : Program} {n : Fr} {Q : Exit → Act → World → Prop} {L : PF} {W : World} {S : Nat → Nat → Prop} {H : List Ent}
/-! ### results that lie in cells -/
def resOf (tmps : Array Value) : ResultVar → Sem Value
  | .tmp t => pure (tmps.getD t undef)
  | .cell a t => do loadVar t (← asAddr (tmps.getD a undef))
theorem results_of (fn : Func) (tmps : Array Value) : results fn tmps = (do
    let vs ← fn.results.mapM (resOf tmps)
    pure (if h : vs.size = 1 then vs[0] else .tuple vs)) := by
  have : resOf tmps = (fun
    | .tmp t => pure (tmps.getD t undef)
    | .cell a t => do loadVar t (← asAddr (tmps.getD a undef))) := by
    funext x; cases x <;> rfl
  rw [this]; rfl
def ResIs (P : Program) (n : Fr) (L : PF) (M : World → Prop) (r : ResultVar) (v : Value) : Prop :=
  ∀ a w, Sat n L a → M w → (resOf a.tmps r).run P w = .ok v w
theorem ResIs.tmp {M : World → Prop} {t : Nat} {v : Value} (h : lk L t = some v) : ResIs P n L M (.tmp t) v := fun a w ha _ => by
  show (pure (a.tmps.getD t undef) : Sem Value).run P w = _
  rw [ha.2.2 t v h]; rfl
theorem ResIs.cell {c b o i m : Nat} {t : TypeId} {C : Nat → Value} {v : Value} (hv : lk L c = some (ptr b o i)) (hH : Has H (.cells b o m C)) (hC : i < m ∧ C i = v) (ht : scal P t = true) : ResIs P n L (XM W S H) (.cell c t) v := fun a w ha hw => by
  have hc := cell_of_holds (hw.good.1 _ hH.mem) hC.1
  rw [hC.2] at hc
  show (do loadVar t (← asAddr (a.tmps.getD c undef)) : Sem Value).run P w = _
  rw [ha.2.2 c _ hv]
  simp [asAddr, ptr, run_loadVar_scal ht hc]
theorem ResIs.agg {c b o i m sz : Nat} {t : TypeId} {C : Nat → Value} {v : Value} (hv : lk L c = some (ptr b o i)) (hH : Has H (.cells b o m C)) (hC : i + sz ≤ m ∧ aggOf C i sz = v) (ht : aggT P t = true) (hs : szOf P t = some sz) : ResIs P n L (XM W S H) (.cell c t) v := fun a w ha hw => by
  have hl := run_loadVar_agg (P := P) (w := w) (b := b) (o := o) (i := i) (C := C) ht hs (fun l hl => cell_of_holds (hw.good.1 _ hH.mem) (by omega))
  rw [hC.2] at hl
  show (do loadVar t (← asAddr (a.tmps.getD c undef)) : Sem Value).run P w = _
  rw [ha.2.2 c _ hv]
  simp [asAddr, ptr, hl]
theorem XE.retG1 {k : Nat} {fn : Func} {R : Ending → World → Prop} {M : World → Prop} {r : ResultVar} {v : Value} (hr : fn.results = #[r]) (h1 : ResIs P (fr k) L M r v) (h : ∀ w, M w → R (.returned v) w) :
    XE (fr k) (bodyPost P fn R) .ret L M := fun a w ha hw => by
  refine ⟨ha.1, v, ?_, h w hw⟩
  have e1 := h1 a w ha hw
  rw [results_of, hr]
  simp [e1]
theorem XE.retG2 {k : Nat} {fn : Func} {R : Ending → World → Prop} {M : World → Prop} {r r' : ResultVar} {v v' : Value} (hr : fn.results = #[r, r']) (h1 : ResIs P (fr k) L M r v) (h2 : ResIs P (fr k) L M r' v')
    (h : ∀ w, M w → R (.returned (.tuple #[v, v'])) w) : XE (fr k) (bodyPost P fn R) .ret L M := fun a w ha hw => by
  refine ⟨ha.1, .tuple #[v, v'], ?_, h w hw⟩
  have e1 := h1 a w ha hw
  have e2 := h2 a w ha hw
  rw [results_of, hr]
  simp [e1, e2]
/-! ### a variable of one cell -/
def cell1 (v : Value) : Nat → Value := cellsOf #[v]
theorem cell1.ld (v : Value) : 0 < 1 ∧ cell1 v 0 = v := ⟨by omega, rfl⟩
theorem cell1.st (u v : Value) : 0 < 1 ∧ upd (cell1 u) 0 v = cell1 v := ⟨by omega, by
  funext i
  cases i with
  | zero => rfl
  | succ i => simp [upd, cell1, cellsOf]⟩
/-! ### arrays of bools -/
end
section
variable {P : Program} {Q : Exit → Act → World → Prop} {L : PF} {n : Fr} {M : World → Prop} {ty : TypeId} {pos : String} {af : Array Edge} {d : Nat} {ops : Array Oper} {rest : List Oper}
theorem YieldAt.weak {F : Fence} {m : Nat} {l : Nat} {args : Array Value} {w : World} {R R' : Ending → World → Prop} (h : YieldAt F m P l args w R) (hr : ∀ e w', R e w' → R' e w') : YieldAt F m P l args w R' := by
  obtain ⟨fn, tmps, assign, body, h1, h2⟩ := h
  exact ⟨fn, tmps, assign, body, h1, h2.mono hr⟩
end
/-! ### a struct of ints, held against its like -/
def okF (P : Program) (n : Nat) (f : Field) : Bool := match P.underlying f.type with
  | some (.int _) => Nat.blt f.offset n
  | _ => false
theorem eqFields_self {P : Program} {w : World} {xs : Array Value} {n d : Nat} (hx : ∀ i, i < n → ∃ v, xs[i]? = some (.int .i64 v)) : ∀ fs : List Field, fs.all (okF P n) = true → (Op.eqFields (d + 1) xs xs fs).run P w = .ok true w
  | [], _ => by simp [Op.eqFields]
  | f :: fs, h => by
    simp only [List.all_cons, Bool.and_eq_true] at h
    have ih := eqFields_self (P := P) (w := w) (d := d) hx fs h.2
    have h1 := h.1
    unfold okF at h1
    cases hu : P.underlying f.type with
    | none => simp [hu] at h1
    | some ds =>
      simp only [hu] at h1
      cases ds <;> simp only [] at h1 <;> try cases h1
      rename_i k
      have ho : f.offset < n := by simpa using h1
      obtain ⟨v, hv⟩ := hx f.offset ho
      have hp : (part f.type xs f.offset).run P w = .ok (.int .i64 v) w := by
        simp [part, run_isAgg_scal (show scal P f.type = true by unfold scal; rw [hu]), hv]
      have he := run_equalIn_int (P := P) (w := w) d f.type .i64 k v v hu
      simp only [Op.eqFields]
      split
      · simp [hp, he, ih]
      · exact ih
theorem V.aggNe {P : Program} {n : Fr} {L : PF} {ty : TypeId} {pos : String} {af : Array Edge} {d m : Nat} {gd : Option (Nat × Bool)} {φ : World → Prop} {t t' : TypeId} {x y : Operand} {xs : Array Value} (hx : ev L x = some (.agg xs)) (hy : ev L y = some (.agg xs))
    (hP : (P.underlying t = some (.struct (P.fieldsOf t)) ∧ P.stoodInHeld t = false) ∧ P.eqGuardType P.depth t = false ∧ (P.fieldsOf t).toList.all (okF P m) = true) (hv : ∀ i, i < m → ∃ v, xs[i]? = some (.int .i64 v)) :
    RunsTo P n L φ ⟨some d, .binOp .neq t x y t', ty, pos, af, gd⟩ (.bool false) := fun a w ha _ => by
  have he : (Op.equal t (.agg xs) (.agg xs)).run P w = .ok true w := (run_equalIn_struct w 9999 t xs xs hP.1.1 hP.1.2).trans (eqFields_self hv _ hP.2.2)
  have b2 : binOp .neq t (.agg xs) (.agg xs) = (do pure (.bool (!(← Op.equal t (.agg xs) (.agg xs))))) := rfl
  have hg : (eqGuard .neq t x y (.agg xs) (.agg xs)).run P w = .ok () w := by
    simp [eqGuard, run_program, hP.2.1]
  simp only [execOp, ev_eval ha hx, ev_eval ha hy, b2]
  simp [hg, he]
end Go.X
