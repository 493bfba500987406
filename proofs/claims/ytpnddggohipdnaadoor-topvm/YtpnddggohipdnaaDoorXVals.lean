import Derived.Test.YtpnddggohipdnaaDoorXStore
namespace Go.X
open Go
section
variable {P : Program} {n : Fr} {L : PF} {ty : TypeId} {pos : String} {af : Array Edge} {d : Nat} {φ : World → Prop} {gd : Option (Nat × Bool)}

/-! ### strings -/
theorem V.lenStr {t : TypeId} {x : Operand} {s : ByteArray} (hx : ev L x = some (.string s)) (ht : P.underlying t = some .string) :
    RunsTo P n L φ ⟨some d, .call ⟨.builtin .len, #[x], #[t]⟩, ty, pos, af, gd⟩ (.int .i64 s.size) := fun a w ha _ => by
  simp [execOp, resolve, invoke, builtin, Builtin.len_, ev_eval ha hx, run_underlying ht, goInt]
theorem V.lenSl {t e : TypeId} {x : Operand} {p : Option Addr} {l c : Nat} (hx : ev L x = some (.slice p l c)) (ht : P.underlying t = some (.slice e)) :
    RunsTo P n L φ ⟨some d, .call ⟨.builtin .len, #[x], #[t]⟩, ty, pos, af, gd⟩ (.int .i64 l) := fun a w ha _ => by
  simp [execOp, resolve, invoke, builtin, Builtin.len_, ev_eval ha hx, run_underlying ht, goInt]
theorem toList_beq (a b : ByteArray) : (a.toList == b.toList) = decide (a = b) := by
  rw [Bool.eq_iff_iff]
  simp only [beq_iff_eq, decide_eq_true_eq]
  constructor
  · intro h
    rw [ByteArray.toList_eq, ByteArray.toList_eq] at h
    exact ByteArray.ext (Array.toList_inj.1 h)
  · intro h; rw [h]
theorem str_empty (t : ByteArray) : t = ⟨#[]⟩ ↔ t.size = 0 := by
  constructor
  · intro h; rw [h]; rfl
  · intro h
    apply ByteArray.ext
    exact Array.eq_empty_of_size_eq_zero h
theorem V.strCmp {op : BinOp} {t t' : TypeId} {x y : Operand} {a b : ByteArray} {r : Bool} (hx : ev L x = some (.string a)) (hy : ev L y = some (.string b))
    (hr : (match op with | .eql => some (decide (a = b)) | .neq => some (decide (a ≠ b)) | .lss => some (Op.bytesLess a.toList b.toList) | .leq => some (Op.bytesLess a.toList b.toList || decide (a = b)) | .gtr => some (!(Op.bytesLess a.toList b.toList || decide (a = b))) | .geq => some (!Op.bytesLess a.toList b.toList) | _ => none) = some r) :
    RunsTo P n L φ ⟨some d, .binOp op t x y t', ty, pos, af, gd⟩ (.bool r) :=
  V.bin hx hy (fun w A hx hy => by
    cases op <;> simp only [Option.some.injEq] at hr <;> (try cases hr) <;>
      simp only [execOp, eqGuard, hx, hy, binOp, Op.stringOp, toList_beq] <;> simp)
theorem V.concat {t t' : TypeId} {x y : Operand} {a b : ByteArray} (hx : ev L x = some (.string a)) (hy : ev L y = some (.string b)) (hs : a.size + b.size ≤ 9223372036854775807) :
    RunsTo P n L φ ⟨some d, .binOp .add t x y t', ty, pos, af, gd⟩ (.string (a ++ b)) :=
  V.bin hx hy (fun w A hx hy => by
    have h : ¬ ((a.size + b.size : Nat) : Int) > IntKind.i64.max := by simp [IntKind.max, IntKind.signed, IntKind.bits]; omega
    simp only [execOp, eqGuard, hx, hy, binOp, Op.stringOp]
    rw [if_neg h]
    simp)
theorem V.sliceTo {t : TypeId} {x y : Operand} {s : ByteArray} {k : IntKind} {z : Int} (hx : ev L x = some (.string s)) (hy : ev L y = some (.int k z)) (ht : P.underlying t = some .string) (hz : 0 ≤ z ∧ z ≤ s.size) :
    RunsTo P n L φ ⟨some d, .slice t x none (some y) none, ty, pos, af, gd⟩ (.string (s.extract 0 z.toNat)) := fun a w ha _ => by
  simp [execOp, ev_eval ha hx, ev_eval ha hy, Instr.sliceAt, run_underlying ht, Instr.slice, Instr.sliceBounds, Instr.sliceBound, asIntOf, hz]
theorem V.sliceFrom {t : TypeId} {x y : Operand} {s : ByteArray} {k : IntKind} {z : Int} (hx : ev L x = some (.string s)) (hy : ev L y = some (.int k z)) (ht : P.underlying t = some .string) (hz : 0 ≤ z ∧ z ≤ s.size) :
    RunsTo P n L φ ⟨some d, .slice t x (some y) none none, ty, pos, af, gd⟩ (.string (s.extract z.toNat s.size)) := fun a w ha _ => by
  simp [execOp, ev_eval ha hx, ev_eval ha hy, Instr.sliceAt, run_underlying ht, Instr.slice, Instr.sliceBounds, Instr.sliceBound, asIntOf, hz]
theorem V.slice2 {t : TypeId} {x y u : Operand} {s : ByteArray} {k k' : IntKind} {z z' : Int} (hx : ev L x = some (.string s)) (hy : ev L y = some (.int k z)) (hu : ev L u = some (.int k' z')) (ht : P.underlying t = some .string) (hz : 0 ≤ z ∧ z ≤ z' ∧ z' ≤ s.size) :
    RunsTo P n L φ ⟨some d, .slice t x (some y) (some u) none, ty, pos, af, gd⟩ (.string (s.extract z.toNat z'.toNat)) := fun a w ha _ => by
  have h1 : 0 ≤ z' ∧ z' ≤ s.size := by omega
  have h2 : 0 ≤ z ∧ z ≤ (z'.toNat : Int) := by omega
  have h3 : max z' 0 = z' := by omega
  have h4 : ¬ z' < z := by omega
  simp [execOp, ev_eval ha hx, ev_eval ha hy, ev_eval ha hu, Instr.sliceAt, run_underlying ht, Instr.slice, Instr.sliceBounds, Instr.sliceBound, asIntOf, h1, h2, h3, h4]
theorem V.indexStr {t : TypeId} {x y : Operand} {s : ByteArray} {k : IntKind} {z : Int} {u : UInt8} (hx : ev L x = some (.string s)) (hy : ev L y = some (.int k z)) (ht : P.underlying t = some .string) (hz : 0 ≤ z) (hu : s[z.toNat]? = some u) :
    RunsTo P n L φ ⟨some d, .index t x y, ty, pos, af, gd⟩ (.int .u8 u.toNat) := fun a w ha _ => by
  simp [execOp, ev_eval ha hx, ev_eval ha hy, Instr.index, run_underlying ht, asIntOf, hz, hu]

/-! ### errors -/
def errv (T : TypeId) (e : Int) : Value := if e = 0 then .nilIface else .iface T (.int .i64 e)
theorem errv_zero (T : TypeId) : errv T 0 = .nilIface := rfl
theorem errv_pos (T : TypeId) {e : Int} (h : e ≠ 0) : errv T e = .iface T (.int .i64 e) := by simp [errv, h]
theorem run_equalIn_nil (k : Nat) {t : TypeId} {w : World} {ms : Array (String × TypeId)} (ht : P.underlying t = some (.interface ms)) : (Op.equalIn (k + 1) t .nilIface .nilIface).run P w = .ok true w := by
  simp only [Op.equalIn, Sem.run_bind, run_underlying ht, Result.andThen_ok, Sem.run_pure]
theorem run_equalIn_iface_nil (k : Nat) {t T : TypeId} {w : World} {v : Value} {ms : Array (String × TypeId)} (ht : P.underlying t = some (.interface ms)) : (Op.equalIn (k + 1) t (.iface T v) .nilIface).run P w = .ok false w := by
  simp only [Op.equalIn, Sem.run_bind, run_underlying ht, Result.andThen_ok, Sem.run_pure]
theorem V.nilNil {op : BinOp} {t t' : TypeId} {x : Operand} {ms : Array (String × TypeId)} {r : Bool} (hx : ev L x = some .nilIface) (ht : P.underlying t = some (.interface ms))
    (hr : (match op with | .eql => some true | .neq => some false | _ => none) = some r) :
    RunsTo P n L φ ⟨some d, .binOp op t x (.const .nilIface) t', ty, pos, af, gd⟩ (.bool r) := fun a w ha _ => by
  have he : (Op.equal t .nilIface .nilIface).run P w = .ok true w := run_equalIn_nil 9999 ht
  have hy : a.eval (.const .nilIface) = .nilIface := rfl
  cases op <;> simp only [Option.some.injEq] at hr <;> (try cases hr) <;>
    simp [execOp, eqGuard, ev_eval ha hx, hy, binOp, he]
theorem V.ifaceNil {op : BinOp} {t t' T : TypeId} {x : Operand} {v : Value} {ms : Array (String × TypeId)} {r : Bool} (hx : ev L x = some (.iface T v)) (ht : P.underlying t = some (.interface ms))
    (hr : (match op with | .eql => some false | .neq => some true | _ => none) = some r) :
    RunsTo P n L φ ⟨some d, .binOp op t x (.const .nilIface) t', ty, pos, af, gd⟩ (.bool r) := fun a w ha _ => by
  have he : (Op.equal t (.iface T v) .nilIface).run P w = .ok false w := run_equalIn_iface_nil 9999 ht
  have hy : a.eval (.const .nilIface) = .nilIface := rfl
  cases op <;> simp only [Option.some.injEq] at hr <;> (try cases hr) <;>
    simp [execOp, eqGuard, ev_eval ha hx, hy, binOp, he]
/-- an error told by its number, held against nil -/
theorem V.errNil {op : BinOp} {t t' T : TypeId} {x : Operand} {e : Int} {ms : Array (String × TypeId)} {r : Bool} (hx : ev L x = some (errv T e)) (ht : P.underlying t = some (.interface ms))
    (hr : (match op with | .eql => some (decide (e = 0)) | .neq => some (decide (e ≠ 0)) | _ => none) = some r) :
    RunsTo P n L φ ⟨some d, .binOp op t x (.const .nilIface) t', ty, pos, af, gd⟩ (.bool r) := by
  by_cases h : e = 0
  · subst h
    refine V.nilNil hx ht ?_
    cases op <;> simp_all
  · rw [errv_pos T h] at hx
    refine V.ifaceNil hx ht ?_
    cases op <;> simp_all
theorem run_equalIn_ptr_nil (k : Nat) {t e : TypeId} {w : World} {p : Addr} (ht : P.underlying t = some (.pointer e)) : (Op.equalIn (k + 1) t (.pointer (some p)) (.pointer none)).run P w = .ok false w := by
  simp only [Op.equalIn, Sem.run_bind, run_underlying ht, Result.andThen_ok, Sem.run_pure]
theorem run_equalIn_nil_nil (k : Nat) {t e : TypeId} {w : World} (ht : P.underlying t = some (.pointer e)) : (Op.equalIn (k + 1) t (.pointer none) (.pointer none)).run P w = .ok true w := by
  simp only [Op.equalIn, Sem.run_bind, run_underlying ht, Result.andThen_ok, Sem.run_pure, Option.isNone]
theorem V.ptrNil {op : BinOp} {t t' e : TypeId} {x : Operand} {p : Addr} {r : Bool} (hx : ev L x = some (.pointer (some p))) (ht : P.underlying t = some (.pointer e))
    (hr : (match op with | .eql => some false | .neq => some true | _ => none) = some r) :
    RunsTo P n L φ ⟨some d, .binOp op t x (.const (.pointer none)) t', ty, pos, af, gd⟩ (.bool r) := fun a w ha _ => by
  have he : (Op.equal t (.pointer (some p)) (.pointer none)).run P w = .ok false w := by
    exact run_equalIn_ptr_nil 9999 ht
  have hy : a.eval (.const (.pointer none)) = .pointer none := rfl
  have b1 : binOp .eql t (.pointer (some p)) (.pointer none) = (do pure (.bool (← Op.equal t (.pointer (some p)) (.pointer none)))) := rfl
  have b2 : binOp .neq t (.pointer (some p)) (.pointer none) = (do pure (.bool (!(← Op.equal t (.pointer (some p)) (.pointer none))))) := rfl
  have g1 : eqGuard .eql t x (.const (.pointer none)) (.pointer (some p)) (.pointer none) = pure () := rfl
  have g2 : eqGuard .neq t x (.const (.pointer none)) (.pointer (some p)) (.pointer none) = pure () := rfl
  cases op <;> simp only [Option.some.injEq] at hr <;> (try cases hr) <;>
    simp only [execOp, ev_eval ha hx, hy, b1, b2, g1, g2] <;> simp [he]
theorem V.ptrNilP {op : BinOp} {t t' e : TypeId} {x : Operand} {b o i : Nat} {r : Bool} (hx : ev L x = some (ptr b o i)) (ht : P.underlying t = some (.pointer e))
    (hr : (match op with | .eql => some false | .neq => some true | _ => none) = some r) :
    RunsTo P n L φ ⟨some d, .binOp op t x (.const (.pointer none)) t', ty, pos, af, gd⟩ (.bool r) := V.ptrNil hx ht hr
theorem V.ptrNone {op : BinOp} {t t' e : TypeId} {x : Operand} {r : Bool} (hx : ev L x = some (.pointer none)) (ht : P.underlying t = some (.pointer e))
    (hr : (match op with | .eql => some true | .neq => some false | _ => none) = some r) :
    RunsTo P n L φ ⟨some d, .binOp op t x (.const (.pointer none)) t', ty, pos, af, gd⟩ (.bool r) := fun a w ha _ => by
  have he : (Op.equal t (.pointer none) (.pointer none)).run P w = .ok true w := by
    exact run_equalIn_nil_nil 9999 ht
  have hy : a.eval (.const (.pointer none)) = .pointer none := rfl
  have b1 : binOp .eql t (.pointer none) (.pointer none) = (do pure (.bool (← Op.equal t (.pointer none) (.pointer none)))) := rfl
  have b2 : binOp .neq t (.pointer none) (.pointer none) = (do pure (.bool (!(← Op.equal t (.pointer none) (.pointer none))))) := rfl
  have g1 : eqGuard .eql t x (.const (.pointer none)) (.pointer none) (.pointer none) = pure () := rfl
  have g2 : eqGuard .neq t x (.const (.pointer none)) (.pointer none) (.pointer none) = pure () := rfl
  cases op <;> simp only [Option.some.injEq] at hr <;> (try cases hr) <;>
    simp only [execOp, ev_eval ha hx, hy, b1, b2, g1, g2] <;> simp [he]
/-- x.(T), with ok, where it holds a T -/
theorem V.assertOk {x : Operand} {t T : TypeId} {v : Value} {ds : TypeDesc} (hx : ev L x = some (.iface T v)) (ht : P.underlying T = some ds) (hn : ∀ ms, ds ≠ .interface ms) :
    RunsTo P n L φ ⟨some d, .typeAssert x t T true, ty, pos, af, gd⟩ (.tuple #[v, .bool true]) := fun a w ha _ => by
  simp only [execOp, ev_eval ha hx, Instr.typeAssert, Sem.run_bind, run_underlying ht, Result.andThen_ok]
  cases ds <;> simp_all

/-! ### integers -/
theorem V.min2 {x y : Operand} {t t' : TypeId} {k : IntKind} {a b : Int} (hx : ev L x = some (.int k a)) (hy : ev L y = some (.int k b)) :
    RunsTo P n L φ ⟨some d, .call ⟨.builtin .min, #[x, y], #[t, t']⟩, ty, pos, af, gd⟩ (.int k (min a b)) := fun A w ha _ => by
  have : (if b < a then b else a) = min a b := by rw [Int.min_def]; split <;> split <;> omega
  simp [execOp, resolve, invoke, builtin, Builtin.min_, Builtin.min2, ev_eval ha hx, ev_eval ha hy, this]
theorem V.max2 {x y : Operand} {t t' : TypeId} {k : IntKind} {a b : Int} (hx : ev L x = some (.int k a)) (hy : ev L y = some (.int k b)) :
    RunsTo P n L φ ⟨some d, .call ⟨.builtin .max, #[x, y], #[t, t']⟩, ty, pos, af, gd⟩ (.int k (max a b)) := fun A w ha _ => by
  have : (if b > a then b else a) = max a b := by rw [Int.max_def]; split <;> split <;> omega
  simp [execOp, resolve, invoke, builtin, Builtin.max_, Builtin.max2, ev_eval ha hx, ev_eval ha hy, this]
theorem V.convInt {s t : TypeId} {x : Operand} {k k' : IntKind} {a : Int} (hx : ev L x = some (.int k a)) (hs : P.underlying s = some (.int k)) (ht : P.underlying t = some (.int k')) (r : Int) (hr : k'.wrap a = r) :
    RunsTo P n L φ ⟨some d, .convert s t x, ty, pos, af, gd⟩ (.int k' r) := fun A w ha _ => by
  subst hr
  simp [execOp, ev_eval ha hx, convert, run_underlying hs, run_underlying ht, Conv.intToInt]
end

theorem append_nil (a : ByteArray) : a ++ ⟨#[]⟩ = a := by
  apply ByteArray.ext
  simp
theorem eqi {k : IntKind} {a b : Int} (h : a = b) : some (Value.int k a) = some (.int k b) := by rw [h]
theorem eqb {a b : Bool} (h : a = b) : some (Value.bool a) = some (.bool b) := by rw [h]
theorem eqs {a b : ByteArray} (h : a = b) : some (Value.string a) = some (.string b) := by rw [h]

/-- the first number below m at which p holds -/
def firstN (p : Int → Bool) (m : Nat) : Option Nat := (List.range m).find? fun k => p k
theorem firstN_some {p : Int → Bool} {m : Nat} {k : Int} (h0 : 0 ≤ k) (hk : k < m) (hp : p k = true) (hn : ∀ j : Int, 0 ≤ j → j < k → p j = false) : firstN p m = some k.toNat := by
  unfold firstN
  rw [List.find?_range_eq_some]
  refine ⟨by rw [show ((k.toNat : Nat) : Int) = k from by omega]; exact hp, by simp; omega, fun j hj => ?_⟩
  have := hn j (by omega) (by omega)
  simp [this]
theorem firstN_none {p : Int → Bool} {m : Nat} (hn : ∀ j : Int, 0 ≤ j → j < m → p j = false) : firstN p m = none := by
  unfold firstN
  rw [List.find?_range_eq_none]
  intro j hj
  have := hn j (by omega) (by omega)
  simp [this]
theorem sb : (∀ {p : Prop} [Decidable p], (decide p = true) = p) ∧ (∀ {p : Prop} [Decidable p], (decide p = false) = ¬p) ∧ (∀ b : Bool, ((!b) = true) = (b = false)) ∧ (∀ b : Bool, ((!b) = false) = (b = true)) ∧ (∀ {a b : Bool}, ((!a) = b) = (a = !b)) ∧ ((!true) = false) ∧ ((!false) = true) ∧
  (∀ {α : Type} [BEq α] [LawfulBEq α] {a b : α}, ((a == b) = true) = (a = b)) ∧ (∀ {α : Type} [BEq α] [LawfulBEq α] {a b : α}, ((a != b) = true) = (a ≠ b)) ∧ (∀ {α : Type} {a b : α}, (a ≠ b) = ¬ a = b) ∧ (∀ {α : Type} [BEq α] [LawfulBEq α] {a b : α}, ((a == b) = false) = (¬ a = b)) ∧ (∀ {α : Type} [BEq α] [LawfulBEq α] {a b : α}, ((a != b) = false) = (a = b)) ∧
  (∀ {a b : Int}, (¬ a < b) = (b ≤ a)) ∧ (∀ {a b : Int}, (¬ a ≤ b) = (b < a)) ∧ (∀ {a b : Int}, (a > b) = (b < a)) ∧ (∀ {a b : Int}, (a ≥ b) = (b ≤ a)) ∧ (∀ a b : Bool, ((a && b) = true) = (a = true ∧ b = true)) ∧ (∀ a b : Bool, ((a || b) = true) = (a = true ∨ b = true)) ∧ (∀ a b : Bool, ((a && b) = false) = (a = false ∨ b = false)) ∧ (∀ a b : Bool, ((a || b) = false) = (a = false ∧ b = false)) ∧ (∀ {p : Prop} [Decidable p], (¬ ¬ p) = p) := by
  refine ⟨?_, ?_, ?_, ?_, ?_, rfl, rfl, ?_, ?_, ?_, ?_, ?_, ?_, ?_, ?_, ?_, ?_, ?_, ?_, ?_, ?_⟩
  · intro p _; simp
  · intro p _; simp
  · intro b; simp
  · intro b; simp
  · intro a b; cases a <;> cases b <;> simp
  · intro α _ _ a b; simp
  · intro α _ _ a b; simp
  · intro α a b; rfl
  · intro α _ _ a b; simp
  · intro α _ _ a b; simp
  · intro a b; simp
  · intro a b; simp
  · intro a b; rfl
  · intro a b; rfl
  · intro a b; simp
  · intro a b; simp
  · intro a b; cases a <;> cases b <;> simp
  · intro a b; cases a <;> cases b <;> simp
  · intro p _; simp
end Go.X
