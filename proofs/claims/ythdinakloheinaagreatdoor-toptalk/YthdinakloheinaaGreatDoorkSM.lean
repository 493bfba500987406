import Derived.Test.YthdinakloheinaaGreatDoorXBytes
import Derived.Shelf.SlSortCmp.WholeK
import Derived.Shelf.SlSortCmp.NoneTotal
import Derived.Test.YthdinakloheinaaGreatDoorXLay
import Derived.ProofKit
import Derived.OpenShut
import Derived.Below
import Derived.ChangeSame
import Derived.Deep.Slices
import Derived.Deep.Fields
import Derived.Test.YthdinakloheinaaGreatDoorXMore
namespace Go.X
open Go Go.Proofs Go.Shelf Go.Sort
/-! ### slices.SortFunc, by the kit's contract, as a contract of this engine -/
/-- what is asked of a comparison: it leaves all as it was, but for what it lays anew -/
def CmpC (P : Program) (gcl : Nat) {α : Type} (enc : α → List Value) (cf : α → α → Int) : Prop :=
  ∀ x y w, Calls P gcl #[.agg (enc x).toArray, .agg (enc y).toArray] w fun e w' => e = .returned (.int .i64 (cf x y)) ∧ ∃ os', w' = grow w os'
theorem cmp_lays {P : Program} {gcl : Nat} {α : Type} {enc : α → List Value} {k : Nat} {cf : α → α → Int} [Inhabited α]
    (h : CmpC P gcl enc cf) (blk off size : Nat) (w : World) : CmpLays P gcl #[] enc k cf blk off size w :=
  fun m os dk _ x y => (h x y _).mono fun e w' ⟨he, os', hw⟩ => ⟨he, 0, os', hw⟩
section
variable {P : Program} {n : Fr} {Q : Exit → Act → World → Prop} {L : PF} {ops : Md} {rest : List Oper} {ty : TypeId} {pos : String} {af : Array Edge} {d : Nat}
/-- a box, in a world that is known whole -/
theorem XO.boxW {t : TypeId} {x : Operand} {v : Value} {w1 : World} (hx : ev L x = some v) (hd : Nat.blt d n.sz = true)
    (h : XO P n ops Q rest ((d, ptr w1.heap.size 0 0) :: L) (fun w => w = w1.alloc (.cells v.cells t))) : XO P n ops Q (⟨some d, .box t x, ty, pos, af, none⟩ :: rest) L (fun w => w = w1) :=
  XO.op rfl fun a w ha hw => by
    subst hw
    unfold Oper.wp
    have : (execOp a.eval ⟨some d, .box t x, ty, pos, af, none⟩).run P w = .ok (.value (ptr w.heap.size 0 0)) (w.alloc (.cells v.cells t)) := by
      simp [execOp, ev_eval ha hx, Instr.box, newVar, newRow, newObj, Sem.run, ptr]
    rw [this]
    exact h _ _ (ha.put hd _) rfl
theorem boxW_at {w : World} {A B : Array Value} {t t' : TypeId} {i : Nat} {v : Value} (h : A[i]? = some v) : ((w.alloc (.cells A t)).alloc (.cells B t')).cell? ⟨w.heap.size, i, none⟩ = some v := by
  have e : ((w.alloc (.cells A t)).alloc (.cells B t')).heap[w.heap.size]? = some (.cells A t) := by
    rw [heap_alloc_old _ _ (by simp)]; exact heap_alloc_new w _
  simp [World.cell?, e, h]
theorem boxW_at2 {w : World} {A B : Array Value} {t t' : TypeId} {i : Nat} {v : Value} (h : B[i]? = some v) : ((w.alloc (.cells A t)).alloc (.cells B t')).cell? ⟨(w.alloc (.cells A t)).heap.size, i, none⟩ = some v := by
  have e : ((w.alloc (.cells A t)).alloc (.cells B t')).heap[(w.alloc (.cells A t)).heap.size]? = some (.cells B t') := heap_alloc_new _ _
  simp only [World.cell?, e, h]
  rfl
theorem V.loadW {t : TypeId} {x : Operand} {b i : Nat} {v : Value} {φ : World → Prop} (hx : ev L x = some (ptr b 0 i)) (hc : ∀ w, φ w → w.cell? ⟨b, i, none⟩ = some v) (ht : scal P t = true) :
    RunsTo P n L φ (⟨some d, .load t x, ty, pos, af, none⟩) v := fun a w ha hw => by
  have hc' := hc w hw
  have hr := run_loadVar_scal ht hc'
  simp [execOp, ev_eval ha hx, Instr.loadAt, Instr.sureAddr, ptr, hr]
theorem grow_two (w : World) (A B : Obj) : (w.alloc A).alloc B = grow w #[A, B] := by
  simp only [World.alloc_eq, grow]
  congr 1
end
theorem holds_of_row {w : World} {g cap n k : Nat} {e : TypeId} {F : Array Value} (h : (Ent.row (.slice (some ⟨g, 0, none⟩) n cap) e k n F.toList).holds w) : Holds id w g 0 F := by
  intro j hj
  have hc := cell_of_row h (j := j) (v := F[j]!) (by simp [hj])
  obtain ⟨cur, hb, _⟩ := frow_open h
  refine ⟨?_, ?_⟩
  · rw [Nat.zero_add] at hc ⊢; exact hc
  · simp [World.frozen?, hb]
theorem take_put (cur F : Array Value) (h : F.size ≤ cur.size) : (putCells id 0 F cur).toList.take F.size = F.toList := by
  apply List.ext_getElem?
  intro j
  by_cases hj : j < F.size
  · rw [List.getElem?_take_of_lt hj, Array.getElem?_toList, Array.getElem?_toList]
    simp [putCells, hj, show j < cur.size by omega]
  · rw [List.getElem?_take_eq_none (by omega), List.getElem?_eq_none (by simp; omega)]
theorem sorted_row {w : World} {g cap n k m : Nat} {e : TypeId} {F F' : Array Value} {os : Array Obj} (h : (Ent.row (.slice (some ⟨g, 0, none⟩) n cap) e k n F.toList).holds w) (hF : F'.size = F.size) :
    XM w (foot [.row (.slice (some ⟨g, 0, none⟩) n cap) e k n F.toList]) [.row (.slice (some ⟨g, 0, none⟩) n cap) e k n F'.toList] (grow (putRow id (Sort.ahead w m) g 0 F') os) := by
  obtain ⟨cur, hb, h1, h2, h3, h4⟩ := frow_open h
  have hg : g < w.heap.size := lt_of_heap hb
  have hFs : F.size = n * k := by simpa using h.1
  have hnk : n * k ≤ cur.size := by rw [h3]; exact Nat.mul_le_mul_right _ h1
  have hnew : (grow (putRow id (Sort.ahead w m) g 0 F') os).heap[g]? = some (.cells (putCells id 0 F' cur) e (0, 0)) := by
    rw [heap_grow_old _ _ (by simpa using hg)]
    simp [putRow, mapBlock, Sort.ahead, Array.getElem?_modify, hb, onCells]
  have hold : ∀ b, b < w.heap.size → ¬ b = g → (grow (putRow id (Sort.ahead w m) g 0 F') os).heap[b]? = w.heap[b]? := fun b hb2 hne => by
    rw [heap_grow_old _ _ (by simpa using hb2)]
    have : ¬ g = b := fun q => hne q.symm
    simp [putRow, mapBlock, Sort.ahead, Array.getElem?_modify, this]
  have hS : ∀ o, foot [.row (.slice (some ⟨g, 0, none⟩) n cap) e k n F.toList] g o := fun o => ⟨_, List.mem_singleton.2 rfl, rfl, rfl⟩
  refine ⟨⟨fun x hx => ?_, by simp⟩, ⟨rfl, rfl, rfl, by simp [putRow, mapBlock, Sort.ahead], fun b hb2 hn => hold b hb2 (fun q => hn 0 (by rw [q]; exact hS 0)), fun b A t fz hA => ?_⟩, fun x hx _ b o ha => .inr ?_⟩
  · simp only [List.mem_singleton] at hx
    subst hx
    refine ⟨by simp [hF, hFs], .inr ⟨g, cap, _, rfl, Nat.zero_le _, hnew, h1, h2, by simp [putCells, h3], ?_⟩⟩
    have := take_put cur F' (by omega)
    rw [hF, hFs] at this
    exact this
  · by_cases hbg : b = g
    · subst hbg
      rw [hb] at hA
      simp only [Option.some.injEq, Obj.cells.injEq] at hA
      obtain ⟨rfl, rfl, rfl⟩ := hA
      exact ⟨_, hnew, by simp [putCells], fun o hn => absurd (hS o) hn⟩
    · exact ⟨A, by rw [hold b (lt_of_heap hA) hbg]; exact hA, rfl, fun _ _ => rfl⟩
  · simp only [List.mem_singleton] at hx
    subst hx
    exact ⟨_, List.mem_singleton.2 rfl, rfl, ha⟩
theorem sort_row {P : Program} {ρ : Ren} {α : Type} [Inhabited α] (L : SlLaysF0.n6 P ρ) (k : Nat) (aE : ∀ w, (isAgg (ρ.t 24)).run P w = .ok true w) (zE : ∀ w, (Go.sizeOf (ρ.t 24)).run P w = .ok k w) (enc : α → List Value) (hk : ∀ x, (enc x).length = k)
    (h1 : ∀ x, ∀ v ∈ enc x, v.oneCell' = true) (cf : α → α → Int) (hO : SWO (ltOf cf)) (gcl : Nat) (eg : ∀ args w, (callFunc gcl args).run P w = .ok (.enter gcl args) w)
    (hc : CmpC P gcl enc cf) (p : Option Addr) (n cap : Nat) (e : TypeId) (d : Array α) (hn : d.size = n) (hlt : n ≤ 100000000000) :
    Spec P (ρ.f 6) [.slice p n cap, .func (.func gcl) #[] #[]] [.row (.slice p n cap) e k n (flatK enc k d).toList]
      (fun v H1 => v = .tuple #[] ∧ ∃ d', PermIn 0 n d d' ∧ SortedIn (ltOf cf) 0 n d' ∧ H1 = [.row (.slice p n cap) e k n (flatK enc k d').toList]) := by
  intro w hw
  have hrow := hw.1 _ (List.mem_singleton.2 rfl)
  rcases hrow.2 with ⟨hv, hn0⟩ | ⟨g, cap', cur, hv, _, hb, _⟩
  · simp only [Value.slice.injEq] at hv
    obtain ⟨rfl, _, rfl⟩ := hv
    subst hn0
    refine (AnyF.slices_SortFunc_none L none 0 _ w).mono fun ee w' ⟨he, hw'⟩ => ⟨_, _, he, ⟨rfl, d, ⟨rfl, fun _ _ => rfl, .refl _⟩, fun i j _ hij hj => by omega, rfl⟩, rfl, ?_⟩
    subst hw'
    exact XM.start hw
  · simp only [Value.slice.injEq, true_and] at hv
    obtain ⟨rfl, rfl⟩ := hv
    subst hn
    refine (AnyQ.slices_SortFunc L k aE zE enc hk h1 cf hO gcl #[] g 0 cap d w eg (cmp_lays hc g 0 d.size w) (holds_of_row hrow) (lt_of_heap hb) (by omega)).mono fun ee w' ⟨he, d', nn, os, hp, hs, hw'⟩ =>
      ⟨_, _, he, ⟨rfl, d', hp, hs, rfl⟩, rfl, ?_⟩
    subst hw'
    exact sorted_row hrow (by simp [hp.1])
end Go.X

namespace Go.X
open Go
section
variable {P : Program} {n : Fr} {L : PF} {ty : TypeId} {pos : String} {af : Array Edge} {d : Nat} {gd : Option (Nat × Bool)} {φ : World → Prop}
theorem run_equalIn_nil_iface (k : Nat) {t T : TypeId} {w : World} {v : Value} {ms : Array (String × TypeId)} (ht : P.underlying t = some (.interface ms)) : (Op.equalIn (k + 1) t .nilIface (.iface T v)).run P w = .ok false w := by
  simp only [Op.equalIn, Sem.run_bind, run_underlying ht, Result.andThen_ok, Sem.run_pure]
theorem run_equalIn_err (k : Nat) {t T : TypeId} {w : World} {a b : Int} {ms : Array (String × TypeId)} (ht : P.underlying t = some (.interface ms)) {i : TypeInfo} (hT : P.info? T = some i) (hc : i.comparable = true) {ik : IntKind} (hu : P.underlying T = some (.int ik)) : (Op.equalIn (k + 2) t (.iface T (.int .i64 a)) (.iface T (.int .i64 b))).run P w = .ok (a == b) w := by
  simp only [Op.equalIn, Sem.run_bind, run_underlying ht, Result.andThen_ok, Sem.run_pure]
  simp [Sem.run_bind, run_typeInfo hT, run_underlying hu, hc, Sem.run_pure]
/-- an error told by its number, held against another one -/
theorem V.errIs {op : BinOp} {t t' T : TypeId} {x y : Operand} {e m : Int} {ms : Array (String × TypeId)} {r : Bool} (hx : ev L x = some (errv T e)) (hy : ev L y = some (.iface T (.int .i64 m))) (hm : m ≠ 0) (ht : P.underlying t = some (.interface ms)) {i : TypeInfo} (hT : P.info? T = some i) (hc : i.comparable = true) {ik : IntKind} (hu : P.underlying T = some (.int ik))
    (hr : (match op with | .eql => some (decide (e = m)) | .neq => some (decide (e ≠ m)) | _ => none) = some r) :
    RunsTo P n L φ ⟨some d, .binOp op t x y t', ty, pos, af, gd⟩ (.bool r) := fun a w ha _ => by
  by_cases h : e = 0
  · subst h
    have hx : ev L x = some .nilIface := hx
    have he : (Op.equal t .nilIface (.iface T (.int .i64 m))).run P w = .ok false w := run_equalIn_nil_iface 9999 ht
    have hd : decide ((0 : Int) = m) = false := decide_eq_false (fun q => hm q.symm)
    cases op <;> simp only [Option.some.injEq] at hr <;> (try cases hr) <;> simp [execOp, eqGuard, ev_eval ha hx, ev_eval ha hy, binOp, he]
    all_goals omega
  · rw [errv_pos T h] at hx
    have he : (Op.equal t (.iface T (.int .i64 e)) (.iface T (.int .i64 m))).run P w = .ok (e == m) w := run_equalIn_err 9998 ht hT hc hu
    have hq : (e == m) = decide (e = m) := by rw [Bool.eq_iff_iff]; simp
    cases op <;> simp only [Option.some.injEq] at hr <;> (try cases hr) <;> simp [execOp, eqGuard, ev_eval ha hx, ev_eval ha hy, binOp, he, hq]
end
end Go.X

namespace Go.X
open Go Go.X

/-! ### acts -/
structure ActV where
  kind : ByteArray
  a : Int
  b : Int
  c : Int
  key : Int
  on : Bool
  s : ByteArray
  t : ByteArray
def actZero : Array Value := #[.string ⟨#[]⟩, .int .i64 0, .int .i64 0, .int .i64 0, .int .u64 0, .bool false, .string ⟨#[]⟩, .string ⟨#[]⟩]
def encAct (x : ActV) (i : Nat) : Value :=
  if i = 0 then .string (x.kind) else
  if i = 1 then .int .i64 (x.a) else
  if i = 2 then .int .i64 (x.b) else
  if i = 3 then .int .i64 (x.c) else
  if i = 4 then .int .u64 (x.key) else
  if i = 5 then .bool (x.on) else
  if i = 6 then .string (x.s) else
  if i = 7 then .string (x.t) else
  undef
theorem encAct.ld_Kind (x : ActV) : (0 + 0) < 8 ∧ encAct x (0 + 0) = .string (x.kind) := by
  refine ⟨by omega, ?_⟩
  unfold encAct
  rw [if_pos (by omega)]
theorem encAct.ld_A (x : ActV) : (0 + 1) < 8 ∧ encAct x (0 + 1) = .int .i64 (x.a) := by
  refine ⟨by omega, ?_⟩
  unfold encAct
  rw [if_neg (by omega)]
  rw [if_pos (by omega)]
theorem encAct.ld_B (x : ActV) : (0 + 2) < 8 ∧ encAct x (0 + 2) = .int .i64 (x.b) := by
  refine ⟨by omega, ?_⟩
  unfold encAct
  rw [if_neg (by omega)]
  rw [if_neg (by omega)]
  rw [if_pos (by omega)]
theorem encAct.ld_C (x : ActV) : (0 + 3) < 8 ∧ encAct x (0 + 3) = .int .i64 (x.c) := by
  refine ⟨by omega, ?_⟩
  unfold encAct
  rw [if_neg (by omega)]
  rw [if_neg (by omega)]
  rw [if_neg (by omega)]
  rw [if_pos (by omega)]
theorem encAct.ld_On (x : ActV) : (0 + 5) < 8 ∧ encAct x (0 + 5) = .bool (x.on) := by
  refine ⟨by omega, ?_⟩
  unfold encAct
  rw [if_neg (by omega)]
  rw [if_neg (by omega)]
  rw [if_neg (by omega)]
  rw [if_neg (by omega)]
  rw [if_neg (by omega)]
  rw [if_pos (by omega)]
theorem encAct.ld_S (x : ActV) : (0 + 6) < 8 ∧ encAct x (0 + 6) = .string (x.s) := by
  refine ⟨by omega, ?_⟩
  unfold encAct
  rw [if_neg (by omega)]
  rw [if_neg (by omega)]
  rw [if_neg (by omega)]
  rw [if_neg (by omega)]
  rw [if_neg (by omega)]
  rw [if_neg (by omega)]
  rw [if_pos (by omega)]
theorem encAct.ld_T (x : ActV) : (0 + 7) < 8 ∧ encAct x (0 + 7) = .string (x.t) := by
  refine ⟨by omega, ?_⟩
  unfold encAct
  rw [if_neg (by omega)]
  rw [if_neg (by omega)]
  rw [if_neg (by omega)]
  rw [if_neg (by omega)]
  rw [if_neg (by omega)]
  rw [if_neg (by omega)]
  rw [if_neg (by omega)]
  rw [if_pos (by omega)]

structure ActV.ok (x : ActV) : Prop where
  a : -9223372036854775808 ≤ x.a ∧ x.a ≤ 9223372036854775807
  b : -9223372036854775808 ≤ x.b ∧ x.b ≤ 9223372036854775807
  c : -9223372036854775808 ≤ x.c ∧ x.c ≤ 9223372036854775807
  key : 0 ≤ x.key ∧ x.key ≤ 18446744073709551615
  s : x.s.size ≤ 9223372036854775807
  t : x.t.size ≤ 9223372036854775807
  kind : x.kind.size ≤ 9223372036854775807

def encActs (A : Int → ActV) (i : Nat) : Value := encAct (A ((i / 8 : Nat) : Int)) (i % 8)
theorem acts_load (A : Int → ActV) (len : Nat) (z : Int) (q : 0 ≤ z ∧ z < len) : 0 + z.toNat * 8 + 8 ≤ 8 * len ∧ aggOf (encActs A) (0 + z.toNat * 8) 8 =
    .agg #[.string (A z).kind, .int .i64 (A z).a, .int .i64 (A z).b, .int .i64 (A z).c, .int .u64 (A z).key, .bool (A z).on, .string (A z).s, .string (A z).t] := by
  refine ⟨by omega, ?_⟩
  have h : ∀ j, j < 8 → encActs A (0 + z.toNat * 8 + j) = encAct (A z) j := fun j hj => by
    unfold encActs
    rw [show (((0 + z.toNat * 8 + j) / 8 : Nat) : Int) = z from by omega, show (0 + z.toNat * 8 + j) % 8 = j from by omega]
  simp only [aggOf, List.range, List.range.loop, List.map_cons, List.map_nil]
  rw [h 0 (by omega), h 1 (by omega), h 2 (by omega), h 3 (by omega), h 4 (by omega), h 5 (by omega), h 6 (by omega), h 7 (by omega)]
  rfl
theorem acts_store (x : ActV) : 0 + 8 ≤ 8 ∧ updL (cellsOf actZero) 0 [.string x.kind, .int .i64 x.a, .int .i64 x.b, .int .i64 x.c, .int .u64 x.key, .bool x.on, .string x.s, .string x.t] = encAct x := by
  refine ⟨by omega, ?_⟩
  funext i
  match i with
  | 0 => rfl
  | 1 => rfl
  | 2 => rfl
  | 3 => rfl
  | 4 => rfl
  | 5 => rfl
  | 6 => rfl
  | 7 => rfl
  | k + 8 =>
    have e1 : updL (cellsOf actZero) 0 [.string x.kind, .int .i64 x.a, .int .i64 x.b, .int .i64 x.c, .int .u64 x.key, .bool x.on, .string x.s, .string x.t] (k + 8) = undef := by
      simp [updL, upd, cellsOf, actZero]
    have e2 : encAct x (k + 8) = undef := by simp [encAct]
    rw [e1, e2]

theorem acts_at (A : Int → ActV) (z : Int) (q : 0 ≤ z) (j : Nat) (hj : j < 8) : encActs A (0 + z.toNat * 8 + j) = encAct (A z) j := by
  unfold encActs
  rw [show (((0 + z.toNat * 8 + j) / 8 : Nat) : Int) = z from by omega, show (0 + z.toNat * 8 + j) % 8 = j from by omega]
theorem acts_ld_S (A : Int → ActV) (len : Nat) (z : Int) (q : 0 ≤ z ∧ z < len) : 0 + z.toNat * 8 + 6 < 8 * len ∧ encActs A (0 + z.toNat * 8 + 6) = .string (A z).s :=
  ⟨by omega, (acts_at A z q.1 6 (by omega)).trans (encAct.ld_S (A z)).2⟩
theorem acts_ld_T (A : Int → ActV) (len : Nat) (z : Int) (q : 0 ≤ z ∧ z < len) : 0 + z.toNat * 8 + 7 < 8 * len ∧ encActs A (0 + z.toNat * 8 + 7) = .string (A z).t :=
  ⟨by omega, (acts_at A z q.1 7 (by omega)).trans (encAct.ld_T (A z)).2⟩

end Go.X

namespace Go.X
open Go Go.ChangeShapes Go.WideShapes Go.Deep Go.RowKit Go.ChangeAt
/-! after the kit's pages on structs and on small lemmas -/
section
variable {H : Type} {enc : TypeId × Value → H} {P : Program} {w : World} {base : Nat} {spare : Nat → Bool} {held : Bool}
theorem open_slice_fields {t e : TypeId} {fs : Array Field} {fuel : Nat} {cs : List Value} {x : DataW H × List MemPlace} (ht : P.underlying t = some (.slice e)) (he : P.underlying e = some (.struct fs))
    (hone : oneCellFields P fs = true) (hC : P.cellsOf e = fs.size) (h : DataW.trod enc P w base spare held fuel t cs = some x) :
    (cs = [.slice none 0 0] ∧ x = (.nil, [])) ∨
    ∃ (a : Addr) (len cap m : Nat) (D : Nat → DataW H) (Pl : Nat → List MemPlace), cs = [.slice (some a) len cap] ∧ base ≤ a.block ∧ len ≤ cap ∧ cap ≤ maxLen ∧ m = (if spare a.block then cap else len) ∧
      x = (.slice ((List.range len).map D) ((List.range (m - len)).map fun j => D (len + j)), MemPlace.row a (m * fs.size) ++ (List.range m).flatMap Pl) ∧
      ∀ i, i < m → ∃ (ys : List (DataW H × List MemPlace)) (n : Nat), D i = .agg (ys.map (·.1)) ∧ Pl i = ys.flatMap (·.2) ∧ ys.length = fs.size ∧
        ∀ (j : Nat) (f : Field), fs[j]? = some f → ∃ (v : Value) (y : DataW H × List MemPlace), w.cell? (a.add (i * fs.size + j)) = some v ∧ ys[j]? = some y ∧ DataW.trod enc P w base spare held n f.type [v] = some y := by
  rcases open_slice ht h with h0 | ⟨a, len, cap, m, n, D, Pl, hcs, hb, hl, hm, hmm, hx, hi⟩
  · exact .inl h0
  · refine .inr ⟨a, len, cap, m, D, Pl, hcs, hb, hl, hm, hmm, by rw [hC] at hx; exact hx, fun i him => ?_⟩
    obtain ⟨cs', hc, ht'⟩ := hi i him
    rw [hC] at hc
    obtain ⟨ys, n', hn', hy, hlen, hyl, hf⟩ := DataW.trod_struct he ht'
    obtain ⟨_, hcl, hat⟩ := World.cells?_some hc
    simp only [Prod.mk.injEq] at hy
    refine ⟨ys, n', hy.1, hy.2, hyl, fun j f hj => ?_⟩
    obtain ⟨ho, hk⟩ := hone_of hone j f hj
    have hjl : j < fs.size := (Array.getElem?_eq_some_iff.1 hj).1
    have hcell := hat j hjl
    have hv : cs'[j]? = some (cs'[j]'(by omega)) := List.getElem?_eq_getElem (by omega)
    have h1 := hf j f hj
    rw [ho, hk] at h1
    have hone' : (cs'.drop j).take 1 = [cs'[j]'(by omega)] := by
      rw [List.drop_eq_getElem_cons (by omega)]
      rfl
    rw [hone'] at h1
    have hys : ys[j]? = some (ys[j]'(by omega)) := List.getElem?_eq_getElem (by omega)
    refine ⟨_, _, ?_, hys, h1.trans hys⟩
    rw [← Go.Deep.add_add, hcell, hv]
end
section
variable {H : Type} {enc : TypeId × Value → H} {P : Program}
theorem post_of_below {f : Func} {s : ChangeSpec} {apart fresh handsOn again : Bool} {W W' : World} {args : Array Value} {v : Value} {ds gs : List (DataW H)} {before pa pv : List MemPlace}
    (hW : DataW.Whole enc P f.params.toList s.vars apart W args.toList ds gs before)
    (hres : ∀ (b : Nat) (sp : Nat → Bool) (hd : Bool), DataW.TrodAll enc P W' b sp hd f.resultTypes.toList (v.resultList f.resultTypes.size) (s.fn H (ds ++ gs)).results [])
    (hargs : ∀ sp : Nat → Bool, (∀ p ∈ before, sp p.block = true) → DataW.TrodAll enc P W' 0 sp true f.params.toList args.toList (s.fn H (ds ++ gs)).args pa)
    (hvars : ∀ sp : Nat → Bool, (∀ p ∈ before, sp p.block = true) → DataW.TrodVars enc P W' sp s.vars (s.fn H (ds ++ gs)).vars pv)
    (hps : before = pa ++ pv) (hb : Below W.heap.size W W')
    (hok : ∀ (j : Nat) (t : TypeId) (r : Value), f.resultTypes[j]? = some t → (v.resultList f.resultTypes.size)[j]? = some r → Value.okWide P W' .any 0 t r) :
    s.post enc P f apart fresh handsOn again W args v W' := by
  have hlt : ∀ p ∈ before, p.block < W.heap.size := fun p hp => hW.lt p hp
  have hold : ∀ p ∈ before, (fun b => decide (b < W.heap.size)) p.block = true := fun p hp => by simpa using hlt p hp
  refine ⟨ds, gs, before, [], pa, pv, hW, hres _ _ _, hargs _ hold, hvars _ hold, World.keptBut_mono (fun p hp => ⟨hp, ?_⟩) (hb.frame (· ∈ before)), fun _ => ?_⟩
  · rw [hps, List.mem_append] at hp
    exact Or.inr hp
  · obtain ⟨_, _, _, _, _, hz, hn⟩ := hW
    refine ⟨hok, _, _, ([] ++ pa) ++ pv, ⟨[] ++ pa, pv, trodAll_append (hargs _ (fun _ _ => rfl)) (hres _ _ _), hvars _ (fun _ _ => rfl), rfl, ?_, ?_⟩, ?_⟩
    · intro b off hp
      have hin : MemPlace.cell b off ∈ before := by rw [hps]; simpa using hp
      rw [hb.frozen (hlt _ hin)]
      exact hz b off hin
    · intro ha
      have := hn ha
      rw [hps] at this
      simpa using this
    · intro p hp _
      rw [hps]
      simpa using hp
end

/-- a statement's contract, as the row wants it -/
theorem below_of_spec {P : Program} {f : FuncId} {args : List Value} {pre : List Ent} (hs : Spec P f args pre (fun v H1 => v = .bool true ∧ H1 = [])) (hro : ∀ e ∈ pre, e.wr = false) {w : World} (hg : Good pre w) :
    Calls P f args.toArray w fun e w' => e = .returned (.bool true) ∧ Below w.heap.size w w' := by
  refine (hs w hg).mono ?_
  rintro e w' ⟨v, H1, rfl, ⟨rfl, rfl⟩, _, hx⟩
  have hn : ∀ b o, ¬ foot pre b o := fun b o ⟨e, he, hew, _⟩ => by rw [hro e he] at hew; cases hew
  exact ⟨rfl, hx.keep.os, hx.keep.tape, hx.keep.output, hx.keep.size, fun k hk => hx.keep.same k hk (fun o => hn k o)⟩

theorem wf_i64 {n : Int} (h : (Lit.int .i64 n).wf = true) : -9223372036854775808 ≤ n ∧ n ≤ 9223372036854775807 := by
  simpa [Lit.wf, IntKind.min, IntKind.max, IntKind.signed, IntKind.bits] using h
theorem wf_u64 {n : Int} (h : (Lit.int .u64 n).wf = true) : 0 ≤ n ∧ n ≤ 18446744073709551615 := by
  simpa [Lit.wf, IntKind.min, IntKind.max, IntKind.signed, IntKind.bits] using h

theorem spot_of {w : World} {a : Addr} {v : Value} (h : w.cell? (a.add 0) = some v) : a.spot = none := by
  have h : w.cell? a = some v := h
  cases hsp : a.spot with
  | none => rfl
  | some s =>
    unfold World.cell? at h
    cases hb : w.heap[a.block]? with
    | none => simp [hb] at h
    | some o => cases o <;> simp [hb, hsp] at h
/-- a run of cells that reads, as an entry -/
theorem ro_of_cells {w : World} {a : Addr} {n : Nat} {C : Nat → Value} (hn : 0 < n) (h : ∀ i, i < n → w.cell? (a.add i) = some (C i)) : (Ent.ro a.block a.off n C).holds w := by
  have h0 := h 0 hn
  have h0' : w.cell? a = some (C 0) := h0
  have key : ∀ i, i < n → w.cell? ⟨a.block, a.off + i, none⟩ = some (C i) := fun i hi => by
    cases i with
    | zero =>
      have hs : a.spot = none := by
        cases hsp : a.spot with
        | none => rfl
        | some s =>
          unfold World.cell? at h0'
          cases hb : w.heap[a.block]? with
          | none => simp [hb] at h0'
          | some o => cases o <;> simp [hb, hsp] at h0'
      have : a = ⟨a.block, a.off, none⟩ := by cases a; simp_all
      rw [this] at h0'
      simpa using h0'
    | succ i => simpa [Addr.add] using h (i + 1) hi
  have k0 := key 0 hn
  unfold World.cell? at k0
  cases hb : w.heap[a.block]? with
  | none => simp [hb] at k0
  | some o =>
    cases o with
    | cells A t fz =>
      refine ⟨A, t, fz, hb, fun i hi => ?_⟩
      have := key i hi
      simpa [World.cell?, hb] using this
    | _ => simp [hb] at k0

/-- acts that read -/
theorem acts_of {w : World} {a : Addr} {len : Nat} (hlen : 0 < len) (h : ∀ i, i < len → ∃ x : ActV, x.ok ∧ ∀ j, j < 8 → w.cell? (a.add (i * 8 + j)) = some (encAct x j)) :
    ∃ A : Int → ActV, (∀ z : Int, 0 ≤ z → z < len → (A z).ok) ∧ Good [.ro a.block a.off (8 * len) (encActs A)] w := by
  classical
  let A : Int → ActV := fun z => if hz : z.toNat < len then Classical.choose (h z.toNat hz) else ⟨⟨#[]⟩, 0, 0, 0, 0, false, ⟨#[]⟩, ⟨#[]⟩⟩
  have hA : ∀ i : Nat, (hi : i < len) → A (i : Int) = Classical.choose (h i hi) := fun i hi => by simp [A, hi]
  refine ⟨A, fun z h0 h1 => ?_, fun e he => ?_, by simp⟩
  · have hz : z.toNat < len := by omega
    have : A z = A (z.toNat : Int) := by rw [show ((z.toNat : Nat) : Int) = z from by omega]
    rw [this, hA _ hz]
    exact (Classical.choose_spec (h z.toNat hz)).1
  · have : e = .ro a.block a.off (8 * len) (encActs A) := by simpa using he
    subst this
    refine ro_of_cells (by omega) fun i hi => ?_
    have hd : i / 8 < len := by omega
    have h1 := (Classical.choose_spec (h (i / 8) hd)).2 (i % 8) (by omega)
    rw [show i / 8 * 8 + i % 8 = i from by omega] at h1
    rw [h1]
    unfold encActs
    rw [hA _ hd]
end Go.X

namespace Go.X.Sg
open Go Go.X

/-! ### signals: the state of both programs -/
def packN (f : Int → Bool) : Nat → Nat
  | 0 => 0
  | n + 1 => packN f n ||| (if f n then 2 ^ n else 0)
theorem testBit_packN (f : Int → Bool) (n j : Nat) : (packN f n).testBit j = (decide (j < n) && f j) := by
  induction n with
  | zero => simp [packN]
  | succ n ih =>
    simp only [packN, Nat.testBit_or, ih]
    by_cases h : j = n
    · subst h
      cases hf : f (j : Int) <;> simp
    · have : (if f (n : Int) = true then 2 ^ n else 0).testBit j = false := by
        split
        · rw [Nat.testBit_two_pow]; simp; omega
        · simp
      rw [this]
      by_cases h2 : j < n
      · simp [h2]; omega
      · have : ¬ j < n + 1 := by omega
        simp [h2, this]
def pack (f : Int → Bool) : Nat := packN f 9
theorem testBit_pack (f : Int → Bool) (j : Nat) : (pack f).testBit j = (decide (j < 9) && f j) := testBit_packN f 9 j
theorem pack_lt (f : Int → Bool) : pack f < 2 ^ IntKind.u16.bits := by
  refine Nat.lt_of_lt_of_le (m := 2 ^ 9) ?_ (by decide)
  apply Nat.lt_pow_two_of_testBit
  intro i hi
  rw [testBit_pack]
  have : ¬ i < 9 := by omega
  simp [this]
theorem two_lt {n : Int} (h : 1 ≤ n ∧ n ≤ 8) : 2 ^ n.toNat < 2 ^ IntKind.u16.bits := Nat.pow_lt_pow_right (by omega) (by show n.toNat < 16; omega)
theorem shl_u16 {n : Int} (h : 1 ≤ n ∧ n ≤ 8) : IntKind.u16.wrap (1 * 2 ^ (min n.toNat IntKind.u16.bits)) = ((2 ^ n.toNat : Nat) : Int) := by
  have : n = 1 ∨ n = 2 ∨ n = 3 ∨ n = 4 ∨ n = 5 ∨ n = 6 ∨ n = 7 ∨ n = 8 := by omega
  rcases this with rfl | rfl | rfl | rfl | rfl | rfl | rfl | rfl <;> decide
theorem pack_set (f : Int → Bool) {n : Int} (h : 1 ≤ n ∧ n ≤ 8) : pack f ||| 2 ^ n.toNat = pack (fset f n true) := by
  apply Nat.eq_of_testBit_eq
  intro j
  rw [Nat.testBit_or, testBit_pack, testBit_pack, Nat.testBit_two_pow]
  by_cases hj : n.toNat = j
  · have h1 : (j : Int) = n := by omega
    have h2 : j < 9 := by omega
    simp [fset, h1, h2, hj]
  · have h1 : ¬ (j : Int) = n := by omega
    simp [fset, h1, hj]
structure BS where
  wait : Int → Bool
  held : Int → Bool
  how : Int → Int
def BS.init : BS := ⟨fun _ => false, fun _ => false, fun _ => 0⟩
def BS.does (s : BS) (n : Int) : Int := if n = 3 ∧ s.how n = 0 then 1 else s.how n
def BS.num (n : Int) : Bool := decide (1 ≤ n ∧ n ≤ 8)
def BS.send (s : BS) (n : Int) : Int × BS := if BS.num n then (0, if s.does n = 1 then s else { s with wait := fset s.wait n true }) else (1, s)
def BS.hold (s : BS) (n : Int) (on : Bool) : Int × BS := if BS.num n then (if n = 1 then (8, s) else (0, { s with held := fset s.held n on })) else (1, s)
def BS.set (s : BS) (n h : Int) : Int × BS :=
  if BS.num n = true ∧ 0 ≤ h ∧ h ≤ 2 then (if n = 1 then (8, s) else
    (0, if ({ s with how := fset s.how n h } : BS).does n = 1 then { wait := fset s.wait n false, held := s.held, how := fset s.how n h } else { s with how := fset s.how n h })) else (1, s)
def BS.first (s : BS) (h : Int) : Int := match firstN (fun k => s.wait k && (!s.held k && decide (s.how k = h))) 9 with
  | some k => k
  | none => 0
def BS.take (s : BS) : Int × BS := (s.first 2, { s with wait := fset s.wait (s.first 2) false })
def BS.child (s : BS) : BS := { s with wait := fun _ => false }
def tab32 (i : Nat) : Value := .int .u8 ((([0, 1, 28, 2, 29, 14, 24, 3, 30, 22, 20, 15, 25, 17, 4, 8, 31, 27, 13, 23, 21, 19, 16, 7, 26, 12, 18, 6, 11, 5, 10, 9] : List Int)[i]?).getD 0)
def encB (s : BS) (i : Nat) : Value :=
  if i = 0 then .int .u16 (((pack s.wait) : Nat) : Int) else
  if i = 1 then .int .u16 (((pack s.held) : Nat) : Int) else
  if 2 ≤ i ∧ (i - 2) % 1 = 0 ∧ (i - 2) / 1 < 9 then .int .i64 (s.how (((i - 2) / 1 : Nat) : Int)) else
  undef
theorem encB.ld_wait (s : BS) : (0 + 0) < 11 ∧ encB s (0 + 0) = .int .u16 (((pack s.wait) : Nat) : Int) := by
  refine ⟨by omega, ?_⟩
  unfold encB
  rw [if_pos (by omega)]
theorem encB.ld_held (s : BS) : (0 + 1) < 11 ∧ encB s (0 + 1) = .int .u16 (((pack s.held) : Nat) : Int) := by
  refine ⟨by omega, ?_⟩
  unfold encB
  rw [if_neg (by omega)]
  rw [if_pos (by omega)]
theorem encB.ld_how_I (s : BS) (z0 : Int) (q0 : 0 ≤ z0 ∧ z0 < 9) : ((0 + 2) + z0.toNat * 1) < 11 ∧ encB s ((0 + 2) + z0.toNat * 1) = .int .i64 (s.how z0) := by
  refine ⟨by omega, ?_⟩
  unfold encB
  rw [if_neg (by omega)]
  rw [if_neg (by omega)]
  rw [if_pos (by omega)]
  rw [show (((((0 + 2) + z0.toNat * 1) - 2) / 1 : Nat) : Int) = z0 from by omega]
theorem BS.num_iff (n : Int) : BS.num n = true ↔ 1 ≤ n ∧ n ≤ 8 := by simp [BS.num]
theorem BS.first_some {s : BS} {h k : Int} (h0 : 0 ≤ k ∧ k < 9) (hw : s.wait k = true) (hh : s.held k = false) (he : s.how k = h) (hn : ∀ j : Int, 0 ≤ j → j < k → ¬ (s.wait j = true ∧ s.held j = false ∧ s.how j = h)) : s.first h = k := by
  unfold BS.first
  rw [firstN_some (k := k) h0.1 (by omega) (by simp [hw, hh, he]) (fun j h1 h2 => by
    have := hn j h1 h2
    simp only [not_and] at this
    cases q1 : s.wait j <;> cases q2 : s.held j <;> simp
    exact this q1 q2)]
  show ((k.toNat : Nat) : Int) = k
  omega
theorem BS.first_none {s : BS} {h : Int} (hn : ∀ j : Int, 0 ≤ j → j < 9 → ¬ (s.wait j = true ∧ s.held j = false ∧ s.how j = h)) : s.first h = 0 := by
  unfold BS.first
  rw [firstN_none (fun j h1 h2 => by
    have := hn j h1 (by omega)
    simp only [not_and] at this
    cases q1 : s.wait j <;> cases q2 : s.held j <;> simp
    exact this q1 q2)]
theorem BS.first_cases (s : BS) (h : Int) (h0 : s.wait 0 = false) : s.first h = 0 ∨ (1 ≤ s.first h ∧ s.first h ≤ 8) := by
  unfold BS.first
  cases hf : firstN (fun k => s.wait k && (!s.held k && decide (s.how k = h))) 9 with
  | none => exact .inl rfl
  | some k =>
    right
    unfold firstN at hf
    have h1 := List.find?_some hf
    have h2 := List.mem_of_find?_eq_some hf
    simp at h2
    have : k ≠ 0 := by
      rintro rfl
      simp [h0] at h1
    show 1 ≤ (k : Int) ∧ (k : Int) ≤ 8
    omega
theorem tz_ok {t : Nat} (ht : t < 16) : IntKind.u32.wrap (((2 ^ t : Nat) : Int)) = ((2 ^ t : Nat) : Int) ∧
    IntKind.u32.wrap (((2 ^ t : Nat) : Int) * 125613361) = ((2 ^ t * 125613361 % 4294967296 : Nat) : Int) ∧
    (((2 ^ t * 125613361 % 4294967296 : Nat) : Int)).fdiv (2 ^ (min (27 : Int).toNat IntKind.u32.bits)) = ((2 ^ t * 125613361 % 4294967296 / 134217728 : Nat) : Int) ∧
    (2 ^ t * 125613361 % 4294967296 / 134217728) < 32 ∧ IntKind.i64.wrap (t : Int) = t := by
  have : t = 0 ∨ t = 1 ∨ t = 2 ∨ t = 3 ∨ t = 4 ∨ t = 5 ∨ t = 6 ∨ t = 7 ∨ t = 8 ∨ t = 9 ∨ t = 10 ∨ t = 11 ∨ t = 12 ∨ t = 13 ∨ t = 14 ∨ t = 15 := by omega
  rcases this with rfl | rfl | rfl | rfl | rfl | rfl | rfl | rfl | rfl | rfl | rfl | rfl | rfl | rfl | rfl | rfl <;> decide
theorem tz_tab {t : Nat} (ht : t < 16) : 0 + (((2 ^ t * 125613361 % 4294967296 / 134217728 : Nat) : Int)).toNat * 1 < 32 ∧ tab32 (0 + (((2 ^ t * 125613361 % 4294967296 / 134217728 : Nat) : Int)).toNat * 1) = .int .u8 (t : Int) := by
  have : t = 0 ∨ t = 1 ∨ t = 2 ∨ t = 3 ∨ t = 4 ∨ t = 5 ∨ t = 6 ∨ t = 7 ∨ t = 8 ∨ t = 9 ∨ t = 10 ∨ t = 11 ∨ t = 12 ∨ t = 13 ∨ t = 14 ∨ t = 15 := by omega
  rcases this with rfl | rfl | rfl | rfl | rfl | rfl | rfl | rfl | rfl | rfl | rfl | rfl | rfl | rfl | rfl | rfl <;> exact ⟨by decide, rfl⟩
theorem neg_u16 {x : Nat} (h : 0 < x ∧ x < 65536) : IntKind.u16.wrap (0 - (x : Int)) = ((2 ^ 16 - x : Nat) : Int) := by
  have : ((0 - (x : Int)) % (2 ^ 16 : Int)) = ((2 ^ 16 - x : Nat) : Int) := by
    have h2 : (2 : Int) ^ 16 = 65536 := by decide
    have h3 : (2 : Nat) ^ 16 = 65536 := by decide
    rw [h2, h3]; omega
  simpa [IntKind.wrap, IntKind.signed, IntKind.bits] using this
theorem sub_u16 {x : Nat} (h : 0 < x ∧ x < 65536) : IntKind.u16.wrap ((x : Int) - 1) = ((x - 1 : Nat) : Int) := by
  rw [show (x : Int) - 1 = ((x - 1 : Nat) : Int) from by omega]
  exact wrap_nat rfl (Nat.lt_of_le_of_lt (Nat.sub_le _ _) h.2)
theorem bit_of_shr (x : Nat) (k : Nat) : (((x >>> k) &&& 1 : Nat) : Int) = if x.testBit k then 1 else 0 := by
  rw [Nat.testBit_eq_decide_div_mod_eq, Nat.shiftRight_eq_div_pow, Nat.and_one_is_mod]
  by_cases h : x / 2 ^ k % 2 = 1
  · simp [h]
  · have : x / 2 ^ k % 2 = 0 := by omega
    simp [this]
theorem encB_wait (s : BS) {x : Nat} {w' : Int → Bool} (h : x = pack w') : (0 + 0) < 11 ∧ upd (encB s) (0 + 0) (.int .u16 (x : Int)) = encB { s with wait := w' } := by
  subst h
  refine ⟨by omega, ?_⟩
  funext j
  unfold upd encB
  by_cases hj : j = 0
  · subst hj; simp
  · have : ¬ j = 0 + 0 := by omega
    simp [hj]
theorem encB_load (s : BS) : 0 + 11 ≤ 11 ∧ aggOf (encB s) 0 11 = .agg #[.int .u16 ((pack s.wait : Nat) : Int), .int .u16 ((pack s.held : Nat) : Int), .int .i64 (s.how 0), .int .i64 (s.how 1), .int .i64 (s.how 2), .int .i64 (s.how 3), .int .i64 (s.how 4), .int .i64 (s.how 5), .int .i64 (s.how 6), .int .i64 (s.how 7), .int .i64 (s.how 8)] := ⟨by omega, rfl⟩
theorem encB_put {C : Nat → Value} (hC : ∀ i, 11 ≤ i → C i = undef) (s : BS) : 0 + 11 ≤ 11 ∧ updL C 0 [.int .u16 ((pack s.wait : Nat) : Int), .int .u16 ((pack s.held : Nat) : Int), .int .i64 (s.how 0), .int .i64 (s.how 1), .int .i64 (s.how 2), .int .i64 (s.how 3), .int .i64 (s.how 4), .int .i64 (s.how 5), .int .i64 (s.how 6), .int .i64 (s.how 7), .int .i64 (s.how 8)] = encB s := by
  refine ⟨by omega, ?_⟩
  funext i
  match i with
  | 0 => rfl
  | 1 => rfl
  | 2 => rfl
  | 3 => rfl
  | 4 => rfl
  | 5 => rfl
  | 6 => rfl
  | 7 => rfl
  | 8 => rfl
  | 9 => rfl
  | 10 => rfl
  | k + 11 =>
    have e2 : encB s (k + 11) = undef := by
      unfold encB
      repeat rw [if_neg (by omega)]
    rw [e2]
    have := hC (k + 11) (by omega)
    simp [updL, upd, this]
theorem boxB_init : ∀ i, i < 11 → cellsOf (Value.agg #[.int .u16 0, .int .u16 0, .int .i64 0, .int .i64 0, .int .i64 0, .int .i64 0, .int .i64 0, .int .i64 0, .int .i64 0, .int .i64 0, .int .i64 0]).cells i = encB BS.init i := fun i hi => match i, hi with
  | 0, _ => rfl
  | 1, _ => rfl
  | 2, _ => rfl
  | 3, _ => rfl
  | 4, _ => rfl
  | 5, _ => rfl
  | 6, _ => rfl
  | 7, _ => rfl
  | 8, _ => rfl
  | 9, _ => rfl
  | 10, _ => rfl
  | k + 11, h => absurd h (by omega)
theorem BS.send_no {s : BS} {n : Int} (h : n < 1 ∨ n > 8) : s.send n = (1, s) := by
  unfold BS.send; rw [if_neg (by rw [BS.num_iff]; omega)]
theorem BS.send_ign {s : BS} {n : Int} (h : 1 ≤ n ∧ n ≤ 8) (hd : s.does n = 1) : s.send n = (0, s) := by
  unfold BS.send; rw [if_pos ((BS.num_iff n).2 h), if_pos hd]
theorem BS.send_ok {s : BS} {n : Int} (h : 1 ≤ n ∧ n ≤ 8) (hd : ¬ s.does n = 1) : s.send n = (0, { s with wait := fset s.wait n true }) := by
  unfold BS.send; rw [if_pos ((BS.num_iff n).2 h), if_neg hd]
theorem pack_lt9 (f : Int → Bool) : pack f < 512 := by
  have : pack f < 2 ^ 9 := by
    apply Nat.lt_pow_two_of_testBit
    intro i hi
    rw [testBit_pack]
    have : ¬ i < 9 := by omega
    simp [this]
  exact this
theorem encB_out {s : BS} : ∀ i, 11 ≤ i → encB s i = undef := by
  intro i h
  unfold encB
  repeat rw [if_neg (by omega)]

end Go.X.Sg
