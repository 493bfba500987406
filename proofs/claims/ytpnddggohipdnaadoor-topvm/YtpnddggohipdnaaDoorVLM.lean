import Derived.Test.YtpnddggohipdnaaDoorVA
import Derived.Test.YtpnddggohipdnaaDoorLM
namespace Go.X
open Go
/-! ### what the statement's own functions say -/
def okR (P : Program) (f : Field) : Bool := match P.underlying f.type with
  | some (.int _) => Nat.blt f.offset 2
  | some .bool => Nat.beq f.offset 2
  | _ => false
theorem eqFields_rg {P : Program} {w : World} (r : RG) {d : Nat} : ∀ fs : List Field, fs.all (okR P) = true → (Op.eqFields (d + 1) r.arr r.arr fs).run P w = .ok true w
  | [], _ => by simp [Op.eqFields]
  | f :: fs, h => by
    simp only [List.all_cons, Bool.and_eq_true] at h
    have ih := eqFields_rg (P := P) (w := w) (d := d) r fs h.2
    have h1 := h.1
    unfold okR at h1
    cases hu : P.underlying f.type with
    | none => simp [hu] at h1
    | some ds =>
      simp only [hu] at h1
      cases ds <;> simp only [] at h1 <;> try cases h1
      · have ho : f.offset = 2 := by simpa using h1
        have hp : (part f.type r.arr f.offset).run P w = .ok (.bool r.w) w := by
          rw [ho]; simp [part, run_isAgg_scal (show scal P f.type = true by unfold scal; rw [hu]), RG.arr]
        have he := run_equalIn_bool (P := P) (w := w) d r.w r.w hu
        simp only [Op.eqFields]
        split
        · simp [hp, he, ih]
        · exact ih
      · rename_i k
        have ho : f.offset < 2 := by simpa using h1
        obtain ⟨v, hv⟩ : ∃ v, r.arr[f.offset]? = some (.int .i64 v) := by
          match f.offset, ho with
          | 0, _ => exact ⟨_, rfl⟩
          | 1, _ => exact ⟨_, rfl⟩
        have hp : (part f.type r.arr f.offset).run P w = .ok (.int .i64 v) w := by
          simp [part, run_isAgg_scal (show scal P f.type = true by unfold scal; rw [hu]), hv]
        have he := run_equalIn_int (P := P) (w := w) d f.type .i64 k v v hu
        simp only [Op.eqFields]
        split
        · simp [hp, he, ih]
        · exact ih
theorem V.rgNe {P : Program} {n : Fr} {L : PF} {ty : TypeId} {pos : String} {af : Array Edge} {d : Nat} {gd : Option (Nat × Bool)} {φ : World → Prop} {t t' : TypeId} {x y : Operand} {r : RG} (hx : ev L x = some (.agg r.arr)) (hy : ev L y = some (.agg r.arr))
    (hP : (P.underlying t = some (.struct (P.fieldsOf t)) ∧ P.stoodInHeld t = false) ∧ P.eqGuardType P.depth t = false ∧ (P.fieldsOf t).toList.all (okR P) = true) :
    RunsTo P n L φ ⟨some d, .binOp .neq t x y t', ty, pos, af, gd⟩ (.bool false) := fun a w ha _ => by
  have he : (Op.equal t (.agg r.arr) (.agg r.arr)).run P w = .ok true w := (run_equalIn_struct w 9999 t r.arr r.arr hP.1.1 hP.1.2).trans (eqFields_rg r _ hP.2.2)
  have b2 : binOp .neq t (.agg r.arr) (.agg r.arr) = (do pure (.bool (!(← Op.equal t (.agg r.arr) (.agg r.arr))))) := rfl
  have hg : (eqGuard .neq t x y (.agg r.arr) (.agg r.arr)).run P w = .ok () w := by
    simp [eqGuard, run_program, hP.2.1]
  simp only [execOp, ev_eval ha hx, ev_eval ha hy, b2]
  simp [hg, he]
/-- an act on a memory -/
def kMap : ByteArray := ⟨#[109, 97, 112]⟩
def kUnmap : ByteArray := ⟨#[117, 110, 109, 97, 112]⟩
def kProt : ByteArray := ⟨#[112, 114, 111, 116, 101, 99, 116]⟩
def kLoad : ByteArray := ⟨#[108, 111, 97, 100]⟩
def MS.act (v : VB) (m : MS) (x : ActV) : VB × MS :=
  if x.kind = kMap then (v, m.map x.a x.b x.on)
  else if x.kind = kUnmap then (m.unmap v x.a x.b).2.2
  else if x.kind = kProt then (v, m.prot x.a x.b x.on)
  else if x.kind = kLoad then (m.load v x.a).2.2
  else (m.store v x.a (IntKind.u8.wrap x.c)).2
theorem MS.act_map {v : VB} {m : MS} {x : ActV} (h : x.kind = kMap) : m.act v x = (v, m.map x.a x.b x.on) := by unfold MS.act; rw [if_pos h]
theorem MS.act_unmap {v : VB} {m : MS} {x : ActV} (h1 : ¬ x.kind = kMap) (h : x.kind = kUnmap) : m.act v x = (m.unmap v x.a x.b).2.2 := by unfold MS.act; rw [if_neg h1, if_pos h]
theorem MS.act_prot {v : VB} {m : MS} {x : ActV} (h1 : ¬ x.kind = kMap) (h2 : ¬ x.kind = kUnmap) (h : x.kind = kProt) : m.act v x = (v, m.prot x.a x.b x.on) := by unfold MS.act; rw [if_neg h1, if_neg h2, if_pos h]
theorem MS.act_load {v : VB} {m : MS} {x : ActV} (h1 : ¬ x.kind = kMap) (h2 : ¬ x.kind = kUnmap) (h3 : ¬ x.kind = kProt) (h : x.kind = kLoad) : m.act v x = (m.load v x.a).2.2 := by unfold MS.act; rw [if_neg h1, if_neg h2, if_neg h3, if_pos h]
theorem MS.act_store {v : VB} {m : MS} {x : ActV} (h1 : ¬ x.kind = kMap) (h2 : ¬ x.kind = kUnmap) (h3 : ¬ x.kind = kProt) (h : ¬ x.kind = kLoad) : m.act v x = (m.store v x.a (IntKind.u8.wrap x.c)).2 := by unfold MS.act; rw [if_neg h1, if_neg h2, if_neg h3, if_neg h]
theorem MS.mapE_nn (m : MS) (a n : Int) : 0 ≤ m.mapE a n := by
  unfold MS.mapE; split
  · decide
  · split <;> decide
theorem MS.protE_nn (m : MS) (a n : Int) : 0 ≤ m.protE a n := by
  unfold MS.protE; split
  · decide
  · split <;> decide
theorem MS.unmap_nn (v : VB) (m : MS) (a n : Int) : 0 ≤ (m.unmap v a n).2.1 := by
  unfold MS.unmap; split
  · exact Int.le_of_lt Int.one_pos
  · exact Int.le_refl _
theorem MS.load_nn (v : VB) (m : MS) (a : Int) : 0 ≤ (m.load v a).2.1 := by
  by_cases h : (m.touch v a false).2.1 = 0
  · rw [MS.load_ok h]; exact Int.le_refl _
  · rw [MS.load_bad h]; exact MS.touch_nn
theorem MS.store_nn (v : VB) (m : MS) (a b : Int) : 0 ≤ (m.store v a b).1 := by
  by_cases h : (m.touch v a true).2.1 = 0
  · rw [MS.store_ok h]; exact Int.le_refl _
  · rw [MS.store_bad h]; exact MS.touch_nn
theorem MS.load_is (v : VB) (m : MS) (a : Int) : (m.load v a).2.2.2.is_ = m.is_ := by
  by_cases h : (m.touch v a false).2.1 = 0
  · rw [MS.load_ok h]; exact MS.touch_is v m a false
  · rw [MS.load_bad h]; exact MS.touch_is v m a false
theorem MS.store_is (v : VB) (m : MS) (a b : Int) : (m.store v a b).2.2.is_ = m.is_ := by
  by_cases h : (m.touch v a true).2.1 = 0
  · rw [MS.store_ok h]; exact MS.touch_is v m a true
  · rw [MS.store_bad h]; exact MS.touch_is v m a true
theorem encAct_box (x : ActV) : ∀ i, i < 8 → cellsOf #[.string x.kind, .int .i64 x.a, .int .i64 x.b, .int .i64 x.c, .int .u64 x.key, .bool x.on, .string x.s, .string x.t] i = encAct x i := fun i h => by
  match i, h with
  | 0, _ => rfl
  | 1, _ => rfl
  | 2, _ => rfl
  | 3, _ => rfl
  | 4, _ => rfl
  | 5, _ => rfl
  | 6, _ => rfl
  | 7, _ => rfl
  | k + 8, h => omega

end Go.X
