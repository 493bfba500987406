import Derived.Test.YtpnddggohipdnaaDoorXMem
namespace Go.X
open Go

def ptr (b o i : Nat) : Value := .pointer (some ⟨b, o + i, none⟩)
def one : Value → Bool
  | .agg _ => false
  | .tuple _ => false
  | _ => true
theorem one_cells {v : Value} (h : one v = true) : v.cells = #[v] := by cases v <;> simp_all [one, Value.cells]
def upd (C : Nat → Value) (i : Nat) (v : Value) : Nat → Value := fun j => if j = i then v else C j
def updN (C : Nat → Value) (i : Nat) (vs : List Value) : Nat → Value := fun j => if i ≤ j ∧ j < i + vs.length then vs.getD (j - i) undef else C j
def aggOf (C : Nat → Value) (i n : Nat) : Value := .agg ((List.range n).map fun j => C (i + j)).toArray

def nthL : List Value → Nat → Option Value
  | [], _ => none
  | v :: _, 0 => some v
  | _ :: r, k + 1 => nthL r k
theorem nthL_get' : ∀ {l : List Value} {k : Nat} {v : Value}, nthL l k = some v → l[k]? = some v
  | [], _, _, h => by simp [nthL] at h
  | u :: _, 0, _, h => by simpa [nthL] using h
  | _ :: r, k + 1, _, h => by simpa using nthL_get' (l := r) h
theorem nthL_get {vs : Array Value} {k : Nat} {v : Value} (h : nthL vs.toList k = some v) : vs[k]? = some v := by simpa using nthL_get' h

/-! ### the program's tables -/
def scal (P : Program) (t : TypeId) : Bool := match P.underlying t with
  | some (.struct _) => false
  | some (.array _ _) => false
  | some _ => true
  | none => false
def aggT (P : Program) (t : TypeId) : Bool := match P.underlying t with
  | some (.struct _) => true
  | some (.array _ _) => true
  | _ => false
def szOf (P : Program) (t : TypeId) : Option Nat := (P.info? t).map (·.size)
def fieldOff (P : Program) (s : TypeId) (f : Nat) : Option Nat := match P.underlying s with
  | some (.struct fs) => match fs[f]? with
    | some fld => match szOf P fld.type with
      | some 0 => none
      | some _ => some fld.offset
      | none => none
    | none => none
  | _ => none
def arrOf (P : Program) (t : TypeId) : Option (Nat × Nat) := match P.underlying t with
  | some (.array n e) => (szOf P e).map fun s => (n, s)
  | _ => none
def sliceOf (P : Program) (t : TypeId) : Option (TypeId × Nat) := match P.underlying t with
  | some (.slice e) => (szOf P e).map fun s => (e, s)
  | _ => none
def zeroOf (P : Program) (t : TypeId) : Option Value := (P.info? t).bind (·.zero)
def callable (P : Program) (f : FuncId) : Bool := match P.funcs[f]? with
  | some fn => fn.name != "runtime.NumGoroutine" && fn.body.isSome
  | none => false

section
variable {P : Program} {w : World}
theorem run_isAgg_scal {t : TypeId} (h : scal P t = true) : (isAgg t).run P w = .ok false w := by
  unfold scal at h
  cases hu : P.underlying t with
  | none => simp [hu] at h
  | some d => simp only [hu] at h; simp only [isAgg, Sem.run_bind, run_underlying hu, Result.andThen_ok]; cases d <;> simp_all
theorem run_isAgg_agg {t : TypeId} (h : aggT P t = true) : (isAgg t).run P w = .ok true w := by
  unfold aggT at h
  cases hu : P.underlying t with
  | none => simp [hu] at h
  | some d => simp only [hu] at h; simp only [isAgg, Sem.run_bind, run_underlying hu, Result.andThen_ok]; cases d <;> simp_all
theorem run_sizeOf {t n : Nat} (h : szOf P t = some n) : (sizeOf t).run P w = .ok n w := by
  unfold szOf at h
  cases hi : P.info? t with
  | none => simp [hi] at h
  | some i => simp [hi] at h; simp [sizeOf, typeInfo, hi, h]
theorem run_typeInfo {t : Nat} {i : TypeInfo} (h : P.info? t = some i) : (typeInfo t).run P w = .ok i w := by simp [typeInfo, h]
theorem run_zeroValue {t : Nat} {v : Value} (h : zeroOf P t = some v) : (zeroValue t).run P w = .ok v w := by
  unfold zeroOf at h
  cases hi : P.info? t with
  | none => simp [hi] at h
  | some i => simp [hi] at h; simp [zeroValue, typeInfo, hi, h]
theorem addr_add (b o i k : Nat) : (⟨b, o + i, none⟩ : Addr).add k = ⟨b, o + (i + k), none⟩ := by
  unfold Addr.add; split
  · subst_vars; rfl
  · simp only [Nat.add_assoc]
end

section
variable {P : Program} {w : World}
theorem run_equalIn_bool (k : Nat) {t : TypeId} (a b : Bool) (ht : P.underlying t = some .bool) : (Op.equalIn (k + 1) t (.bool a) (.bool b)).run P w = .ok (a == b) w := by
  simp only [Op.equalIn, Sem.run_bind, run_underlying ht, Result.andThen_ok, Sem.run_pure]
theorem run_equal_bool {t : TypeId} (a b : Bool) (ht : P.underlying t = some .bool) : (Op.equal t (.bool a) (.bool b)).run P w = .ok (a == b) w :=
  run_equalIn_bool 9999 a b ht
end

/-- in a frame that bears L, where φ holds, the operation yields v and leaves the world alone -/
def RunsTo (P : Program) (n : Fr) (L : PF) (φ : World → Prop) (o : Oper) (v : Value) : Prop :=
  ∀ a w, Sat n L a → φ w → (execOp a.eval o).run P w = .ok (.value v) w

section
variable {P : Program} {n : Fr} {Q : Exit → Act → World → Prop} {L : PF} {ops : Md} {rest : List Oper} {ty : TypeId} {pos : String} {af : Array Edge} {d : Nat} {φ : World → Prop} {gd : Option (Nat × Bool)}

theorem V.move {x : Operand} {v : Value} (hx : ev L x = some v) :
    RunsTo P n L φ (⟨some d, .move x, ty, pos, af, gd⟩) (v) :=
   (fun a w ha _ => by simp [execOp, ev_eval ha hx])
theorem V.assign {x : Operand} {v : Value} (hx : ev L x = some v) :
    RunsTo P n L φ (⟨some d, .assign x, ty, pos, af, gd⟩) (v) :=
   (fun a w ha _ => by simp [execOp, ev_eval ha hx])
theorem V.pick {c x y : Operand} {t : Bool} {u v r : Value} (hc : ev L c = some (.bool t)) (hx : ev L x = some u) (hy : ev L y = some v) (hr : (bif t then u else v) = r) :
    RunsTo P n L φ (⟨some d, .pick c x y, ty, pos, af, gd⟩) (r) :=
   (fun a w ha _ => by subst hr; cases t <;> simp [execOp, ev_eval ha hx, ev_eval ha hy, ev_eval ha hc, asBool])
theorem V.nilCheck {x : Operand} {a : Addr} (hx : ev L x = some (.pointer (some a))) :
    RunsTo P n L φ (⟨some d, .nilCheck x, ty, pos, af, gd⟩) (.pointer (some a)) :=
   (fun a w ha _ => by simp [execOp, ev_eval ha hx])
theorem V.nilCheckP {x : Operand} {b o i : Nat} (hx : ev L x = some (ptr b o i)) :
    RunsTo P n L φ (⟨some d, .nilCheck x, ty, pos, af, gd⟩) (ptr b o i) :=
   (fun a w ha _ => by simp [execOp, ev_eval ha hx, ptr])
theorem V.extract {x : Operand} {vs : Array Value} {k : Nat} {v : Value} (hx : ev L x = some (.tuple vs)) (hk' : nthL vs.toList k = some v) :
    RunsTo P n L φ (⟨some d, .extract x k, ty, pos, af, gd⟩) (v) :=
   (fun a w ha _ => by have hk := nthL_get hk'; simp [execOp, ev_eval ha hx, Instr.extract, hk])
theorem V.fieldAddr {s : TypeId} {x : Operand} {f b o i k : Nat} (hx : ev L x = some (ptr b o i)) (hf : fieldOff P s f = some k) :
    RunsTo P n L φ (⟨some d, .fieldAddr s x f, ty, pos, af, gd⟩) (ptr b o (i + k)) :=
   (fun a w ha _ => by
    unfold fieldOff at hf
    cases hu : P.underlying s with
    | none => simp [hu] at hf
    | some ds =>
      simp only [hu] at hf
      cases ds <;> simp only [] at hf <;> try cases hf
      rename_i fs
      cases hfl : fs[f]? with
      | none => simp [hfl] at hf
      | some fld =>
        simp only [hfl] at hf
        cases hs : szOf P fld.type with
        | none => simp [hs] at hf
        | some z =>
          cases z with
          | zero => simp [hs] at hf
          | succ z =>
            simp only [hs, Option.some.injEq] at hf
            subst hf
            simp [execOp, ev_eval ha hx, Instr.fieldAt, run_underlying hu, hfl, Instr.sureAddr, ptr, fieldPlace, run_sizeOf hs, addr_add])
theorem V.indexArr {t : TypeId} {x y : Operand} {b o i m sz : Nat} {k : IntKind} {z : Int} (hx : ev L x = some (ptr b o i)) (hy : ev L y = some (.int k z)) (ht : arrOf P t = some (m, sz))
    (hz : 0 ≤ z ∧ z < m) :
    RunsTo P n L φ (⟨some d, .indexAddr t x y, ty, pos, af, gd⟩) (ptr b o (i + z.toNat * sz)) :=
   (fun a w ha _ => by
    unfold arrOf at ht
    cases hu : P.underlying t with
    | none => simp [hu] at ht
    | some ds =>
      simp only [hu] at ht
      cases ds <;> simp only [] at ht <;> try cases ht
      rename_i m' e
      cases hs : szOf P e with
      | none => simp [hs] at ht
      | some s =>
        simp only [hs, Option.map_some, Option.some.injEq, Prod.mk.injEq] at ht
        obtain ⟨rfl, rfl⟩ := ht
        simp [execOp, ev_eval ha hx, ev_eval ha hy, Instr.indexAt, asIntOf, run_underlying hu, Instr.sureAddr, ptr, hz, run_sizeOf hs, addr_add])
theorem V.indexSl {t e : TypeId} {x y : Operand} {b o sz len cap : Nat} {k : IntKind} {z : Int} (hx : ev L x = some (.slice (some ⟨b, o, none⟩) len cap)) (hy : ev L y = some (.int k z)) (ht : sliceOf P t = some (e, sz))
    (hz : 0 ≤ z ∧ z < len) :
    RunsTo P n L φ (⟨some d, .indexAddr t x y, ty, pos, af, gd⟩) (ptr b o (0 + z.toNat * sz)) :=
   (fun a w ha _ => by
    unfold sliceOf at ht
    cases hu : P.underlying t with
    | none => simp [hu] at ht
    | some ds =>
      simp only [hu] at ht
      cases ds <;> simp only [] at ht <;> try cases ht
      rename_i e'
      cases hs : szOf P e' with
      | none => simp [hs] at ht
      | some s =>
        simp only [hs, Option.map_some, Option.some.injEq, Prod.mk.injEq] at ht
        obtain ⟨rfl, rfl⟩ := ht
        have := addr_add b o 0 (z.toNat * s)
        simp only [Nat.add_zero] at this
        simp [execOp, ev_eval ha hx, ev_eval ha hy, Instr.indexAt, asIntOf, run_underlying hu, ptr, hz, run_sizeOf hs, this])

/-! ### integers -/
theorem V.bin {op : BinOp} {t t' : TypeId} {x y : Operand} {u v r : Value} (hx : ev L x = some u) (hy : ev L y = some v)
    (hr : ∀ (w : World) (a : Act), a.eval x = u → a.eval y = v → (execOp a.eval ⟨some d, .binOp op t x y t', ty, pos, af, gd⟩).run P w = .ok (.value r) w) :
    RunsTo P n L φ (⟨some d, .binOp op t x y t', ty, pos, af, gd⟩) r :=
  fun a w ha _ => hr w a (ev_eval ha hx) (ev_eval ha hy)
theorem V.add {t t' : TypeId} {x y : Operand} {k : IntKind} {a b : Int} (hx : ev L x = some (.int k a)) (hy : ev L y = some (.int k b)) (r : Int) (hw : k.wrap (a + b) = r) :
    RunsTo P n L φ (⟨some d, .binOp .add t x y t', ty, pos, af, gd⟩) (.int k r) :=
  V.bin hx hy (fun w A hx hy => by simp [execOp, eqGuard, hx, hy, binOp, Op.intArith, hw])
theorem V.sub {t t' : TypeId} {x y : Operand} {k : IntKind} {a b : Int} (hx : ev L x = some (.int k a)) (hy : ev L y = some (.int k b)) (r : Int) (hw : k.wrap (a - b) = r) :
    RunsTo P n L φ (⟨some d, .binOp .sub t x y t', ty, pos, af, gd⟩) (.int k r) :=
  V.bin hx hy (fun w A hx hy => by simp [execOp, eqGuard, hx, hy, binOp, Op.intArith, hw])
theorem V.mul {t t' : TypeId} {x y : Operand} {k : IntKind} {a b : Int} (hx : ev L x = some (.int k a)) (hy : ev L y = some (.int k b)) (r : Int) (hw : k.wrap (a * b) = r) :
    RunsTo P n L φ (⟨some d, .binOp .mul t x y t', ty, pos, af, gd⟩) (.int k r) :=
  V.bin hx hy (fun w A hx hy => by simp [execOp, eqGuard, hx, hy, binOp, Op.intArith, hw])
theorem int_beq (a b : Int) : (a == b) = decide (a = b) := rfl
theorem int_bne (a b : Int) : (a != b) = !decide (a = b) := rfl
theorem V.cmp {op : BinOp} {t t' : TypeId} {x y : Operand} {k : IntKind} {a b : Int} {r : Bool} (hx : ev L x = some (.int k a)) (hy : ev L y = some (.int k b))
    (hr : (match op with | .eql => some (decide (a = b)) | .neq => some (decide (a ≠ b)) | .lss => some (decide (a < b)) | .leq => some (decide (a ≤ b)) | .gtr => some (decide (a > b)) | .geq => some (decide (a ≥ b)) | _ => none) = some r) :
    RunsTo P n L φ (⟨some d, .binOp op t x y t', ty, pos, af, gd⟩) (.bool r) :=
  V.bin hx hy (fun w A hx hy => by
    cases op <;> simp only [Option.some.injEq] at hr <;> (try cases hr) <;>
      simp [execOp, eqGuard, hx, hy, binOp, Op.intCmp, int_beq, int_bne])
theorem V.not {t : TypeId} {x : Operand} {b : Bool} (hx : ev L x = some (.bool b)) :
    RunsTo P n L φ (⟨some d, .unOp .not t x, ty, pos, af, gd⟩) (.bool (!b)) :=
   (fun a w ha _ => by simp [execOp, ev_eval ha hx, Op.unary])
theorem V.notP {t : TypeId} {x : Operand} {p : Prop} [Decidable p] (hx : ev L x = some (.bool (decide p))) :
    RunsTo P n L φ (⟨some d, .unOp .not t x, ty, pos, af, gd⟩) (.bool (decide (¬ p))) :=
   (fun a w ha _ => by simp [execOp, ev_eval ha hx, Op.unary])
theorem V.neg {t : TypeId} {x : Operand} {k : IntKind} {a : Int} (hx : ev L x = some (.int k a)) (r : Int) (hw : k.wrap (0 - a) = r) :
    RunsTo P n L φ (⟨some d, .unOp .neg t x, ty, pos, af, gd⟩) (.int k r) :=
   (fun A w ha _ => by
    have hw' : k.wrap (-a) = r := by rw [← hw]; congr 1; omega
    simp [execOp, ev_eval ha hx, Op.unary, Op.intArith, hw'])
theorem V.boolEq {op : BinOp} {t t' : TypeId} {x y : Operand} {a b r : Bool} (hx : ev L x = some (.bool a)) (hy : ev L y = some (.bool b)) (ht : P.underlying t = some .bool)
    (hr : (match op with | .eql => some (a == b) | .neq => some (!(a == b)) | _ => none) = some r) :
    RunsTo P n L φ (⟨some d, .binOp op t x y t', ty, pos, af, gd⟩) (.bool r) :=
  V.bin hx hy (fun w A hx hy => by
    have he := run_equal_bool (P := P) (w := w) a b ht
    cases op <;> simp only [Option.some.injEq] at hr <;> (try cases hr) <;>
      simp [execOp, eqGuard, hx, hy, binOp, he])
theorem V.makeIface {t : TypeId} {x : Operand} {v : Value} {ds : TypeDesc} (hx : ev L x = some v) (ht : P.underlying t = some ds) (hn : ∀ ms, ds ≠ .interface ms) :
    RunsTo P n L φ (⟨some d, .makeInterface t x, ty, pos, af, gd⟩) (.iface t v) :=
   (fun a w ha _ => by
    simp only [execOp, ev_eval ha hx, Instr.makeInterface, Sem.run_bind, run_underlying ht, Result.andThen_ok]
    cases ds <;> simp_all)

/-! ### memory -/
variable {W : World} {S : Nat → Nat → Prop} {H H' : List Ent}
theorem cell_of_holds {w : World} {b o m i : Nat} {C : Nat → Value} (h : (Ent.cells b o m C).holds w) (hi : i < m) : w.cell? ⟨b, o + i, none⟩ = some (C i) := by
  obtain ⟨A, t, lo, hi', h1, h2⟩ := h
  simp [World.cell?, h1, (h2 i hi).1]
theorem cell_of_ro {w : World} {b o m i : Nat} {C : Nat → Value} (h : (Ent.ro b o m C).holds w) (hi : i < m) : w.cell? ⟨b, o + i, none⟩ = some (C i) := by
  obtain ⟨A, t, fz, h1, h2⟩ := h
  simp [World.cell?, h1, h2 i hi]
theorem run_loadVar_scal {w : World} {t : TypeId} {a : Addr} {v : Value} (ht : scal P t = true) (hc : w.cell? a = some v) : (loadVar t a).run P w = .ok v w := by
  simp [loadVar, run_isAgg_scal ht, run_load, hc]

theorem inXM {W : World} {S : Nat → Nat → Prop} {H : List Ent} {e : Ent} (hH : Has H e) (w : World) (h : XM W S H w) : e.holds w := h.good.1 _ hH.mem
theorem inEnt {e : Ent} (w : World) (h : e.holds w) : e.holds w := h
theorem V.load {t : TypeId} {x : Operand} {b o i m : Nat} {C : Nat → Value} {v : Value} (hx : ev L x = some (ptr b o i)) (hH : ∀ w, φ w → (Ent.cells b o m C).holds w) (hv : i < m ∧ C i = v) (ht : scal P t = true) :
    RunsTo P n L φ (⟨some d, .load t x, ty, pos, af, gd⟩) v := fun a w ha hw => by
  have hc := cell_of_holds (hH w hw) hv.1
  rw [hv.2] at hc
  simp [execOp, ev_eval ha hx, Instr.loadAt, Instr.sureAddr, ptr, run_loadVar_scal ht hc]
theorem V.loadRo {t : TypeId} {x : Operand} {b o i m : Nat} {C : Nat → Value} {v : Value} (hx : ev L x = some (ptr b o i)) (hH : ∀ w, φ w → (Ent.ro b o m C).holds w) (hv : i < m ∧ C i = v) (ht : scal P t = true) :
    RunsTo P n L φ (⟨some d, .load t x, ty, pos, af, gd⟩) v := fun a w ha hw => by
  have hc := cell_of_ro (hH w hw) hv.1
  rw [hv.2] at hc
  simp [execOp, ev_eval ha hx, Instr.loadAt, Instr.sureAddr, ptr, run_loadVar_scal ht hc]

theorem run_loadCellsFrom (b o i : Nat) (C : Nat → Value) {w : World} : ∀ (k j : Nat) (acc : Array Value), (∀ l, j ≤ l → l < j + k → w.cell? ⟨b, o + (i + l), none⟩ = some (C (i + l))) →
    (loadCellsFrom ⟨b, o + i, none⟩ j k acc).run P w = .ok (acc ++ ((List.range' j k).map fun l => C (i + l)).toArray) w
  | 0, j, acc, _ => by simp [loadCellsFrom]
  | k + 1, j, acc, h => by
    simp only [loadCellsFrom, Sem.run_bind, addr_add, run_load, h j (Nat.le_refl _) (by omega), Result.andThen_ok]
    rw [run_loadCellsFrom b o i C k (j + 1) _ (fun l h1 h2 => h l (by omega) (by omega))]
    simp [List.range'_succ]
theorem run_loadVar_agg {w : World} {t : TypeId} {b o i sz : Nat} {C : Nat → Value} (ht : aggT P t = true) (hs : szOf P t = some sz) (hc : ∀ l, l < sz → w.cell? ⟨b, o + (i + l), none⟩ = some (C (i + l))) :
    (loadVar t ⟨b, o + i, none⟩).run P w = .ok (aggOf C i sz) w := by
  simp only [loadVar, Sem.run_bind, run_isAgg_agg ht, Result.andThen_ok, run_sizeOf hs, if_true, loadCells]
  rw [run_loadCellsFrom b o i C sz 0 #[] (fun l _ h2 => hc l (by omega))]
  simp [aggOf, List.range_eq_range']
theorem V.loadAgg {t : TypeId} {x : Operand} {b o i m sz : Nat} {C : Nat → Value} {v : Value} (hx : ev L x = some (ptr b o i)) (hH : ∀ w, φ w → (Ent.cells b o m C).holds w) (hv : i + sz ≤ m ∧ aggOf C i sz = v) (ht : aggT P t = true) (hs : szOf P t = some sz) :
    RunsTo P n L φ (⟨some d, .load t x, ty, pos, af, gd⟩) v := fun a w ha hw => by
  have hr := run_loadVar_agg (P := P) (w := w) (b := b) (o := o) (i := i) (C := C) ht hs (fun l hl => cell_of_holds (hH w hw) (by omega))
  rw [hv.2] at hr
  simp [execOp, ev_eval ha hx, Instr.loadAt, Instr.sureAddr, ptr, hr]
theorem V.loadAggRo {t : TypeId} {x : Operand} {b o i m sz : Nat} {C : Nat → Value} {v : Value} (hx : ev L x = some (ptr b o i)) (hH : ∀ w, φ w → (Ent.ro b o m C).holds w) (hv : i + sz ≤ m ∧ aggOf C i sz = v) (ht : aggT P t = true) (hs : szOf P t = some sz) :
    RunsTo P n L φ (⟨some d, .load t x, ty, pos, af, gd⟩) v := fun a w ha hw => by
  have hr := run_loadVar_agg (P := P) (w := w) (b := b) (o := o) (i := i) (C := C) ht hs (fun l hl => cell_of_ro (hH w hw) (by omega))
  rw [hv.2] at hr
  simp [execOp, ev_eval ha hx, Instr.loadAt, Instr.sureAddr, ptr, hr]

theorem XO.v {ops : Md} {rest : List Oper} {M : World → Prop} {op : Op} {v : Value} (hv : RunsTo P n L (fun _ => True) ⟨some d, op, ty, pos, af, none⟩ v) (hd : (Nat.blt d n.sz && !isE op) = true)
    (h : XO P n ops Q rest ((d, v) :: L) M) : XO P n ops Q (⟨some d, op, ty, pos, af, none⟩ :: rest) L M := XO.val hd (fun a w ha => hv a w ha trivial) h
theorem XO.l {ops : Md} {rest : List Oper} {M : World → Prop} {op : Op} {v : Value} (hv : RunsTo P n L M ⟨some d, op, ty, pos, af, none⟩ v) (hd : (Nat.blt d n.sz && (!isE op && isR op)) = true)
    (h : XO P n ops Q rest ((d, v) :: L) M) : XO P n ops Q (⟨some d, op, ty, pos, af, none⟩ :: rest) L M := XO.valL hd hv h
end
end Go.X
