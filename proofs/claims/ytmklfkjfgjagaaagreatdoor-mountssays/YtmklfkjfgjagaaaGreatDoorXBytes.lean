import Derived.Test.YtmklfkjfgjagaaaGreatDoorXFrow
import Derived.Laws.MakeOwn
import Derived.Lib.SlBytesRow
namespace Go.X
open Go Go.Proofs
/-! ### bytes: made, copied into, cut, told as a string -/
def byteT (P : Program) (t : TypeId) : Bool := match P.underlying t with
  | some (.slice e) => (match P.underlying e with
      | some (.int .u8) => true
      | _ => false) && (match P.info? e with
      | some i => Nat.beq i.size 1 && Nat.ble i.bytes 1000 && (match i.zero with
          | some (.int .u8 z) => decide (z = 0)
          | _ => false)
      | none => false)
  | _ => false
theorem byteT_spec {P : Program} {t : TypeId} (h : byteT P t = true) : ∃ e i, P.underlying t = some (.slice e) ∧ P.underlying e = some (.int .u8) ∧ P.info? e = some i ∧ i.size = 1 ∧ i.bytes ≤ 1000 ∧ i.zero = some (.int .u8 0) := by
  unfold byteT at h
  split at h
  · rename_i e ht
    simp only [Bool.and_eq_true] at h
    obtain ⟨h1, h2⟩ := h
    split at h1
    · rename_i he
      split at h2
      · rename_i i hi
        simp only [Bool.and_eq_true] at h2
        obtain ⟨⟨h3, h4⟩, h5⟩ := h2
        split at h5
        · rename_i z hz
          have : z = 0 := of_decide_eq_true h5
          subst this
          exact ⟨e, i, ht, he, hi, Nat.eq_of_beq_eq_true h3, Nat.le_of_ble_eq_true h4, hz⟩
        · cases h5
      · cases h2
    · cases h1
  · cases h
def bv (b : UInt8) : Value := .int .u8 (b.toNat : Int)
section
variable {P : Program} {n : Fr} {Q : Exit → Act → World → Prop} {L : PF} {ops : Array Oper} {rest : List Oper} {ty : TypeId} {pos : String} {af : Array Edge} {d : Nat} {W : World} {S : Nat → Nat → Prop} {H H' : List Ent} {φ : World → Prop} {gd : Option (Nat × Bool)}
theorem XO.makeBytes {t : TypeId} {x y : Operand} {kl kc : IntKind} {l : Int} (hx : ev L x = some (.int kl l)) (hy : ev L y = some (.int kc l)) (hl : 0 ≤ l ∧ l ≤ 1000000) (ht : byteT P t = true) (hd : Nat.blt d n.sz = true)
    (h : ∀ b, XO P n ops Q rest ((d, .slice (some ⟨b, 0, none⟩) l.toNat l.toNat) :: L) (XM W S (.cells b 0 l.toNat (fun _ => bv 0) :: H))) :
    XO P n ops Q (⟨some d, .makeSlice t x y, ty, pos, af, none⟩ :: rest) L (XM W S H) :=
  XO.op rfl fun a w ha hw => by
    obtain ⟨e, i, h1, h2, h3, h4, h5, h6⟩ := byteT_spec ht
    have hsz : (madeCells (Value.int .u8 0).cells (l.toNat * i.size)).size = l.toNat := by rw [size_madeCells, h4, Nat.mul_one]
    have hx' := hw.alloc (madeCells (Value.int .u8 0).cells (l.toNat * i.size)) e (fun _ => bv 0) (fun j hj => by
      have hc : (Value.int IntKind.u8 0).cells = #[Value.int .u8 0] := rfl
      rw [size_madeCells] at hj
      unfold madeCells
      rw [hc, Array.getElem?_map, Array.getElem?_range, if_pos hj]
      simp [bv, Nat.mod_one])
    rw [hsz] at hx'
    have hb : (i.bytes : Int) * l ≤ 281474976710656 := by
      have : (i.bytes : Int) * l ≤ 1000 * 1000000 := Int.mul_le_mul (by omega) hl.2 hl.1 (by omega)
      omega
    have hr := run_make (P := P) w t e i _ h1 h3 h6 kl kc l l hl.1 (Int.le_refl _) hb (by omega)
    unfold Oper.wp
    have : (execOp a.eval ⟨some d, .makeSlice t x y, ty, pos, af, none⟩).run P w = .ok (.value (.slice (some ⟨w.heap.size, 0, none⟩) l.toNat l.toNat)) (w.alloc (.cells (madeCells (Value.int .u8 0).cells (l.toNat * i.size)) e)) := by
      simp [execOp, ev_eval ha hx, ev_eval ha hy, hr]
    rw [this]
    exact h _ _ _ (ha.put hd _) hx'
theorem XO.copyStr {dT sT : TypeId} {x y : Operand} {b m k c o : Nat} {s : ByteArray} {C C' : Nat → Value} (hx : ev L x = some (.slice (some ⟨b, o, none⟩) k c)) (hy : ev L y = some (.string s)) (ht : byteT P dT = true) (hk : s.size ≤ k) (ho : o + s.size ≤ m)
    (hH : Put H (.cells b 0 m C) (.cells b 0 m C') H') (hC : updL C o (s.data.toList.map bv) = C') (hd : Nat.blt d n.sz = true)
    (h : XO P n ops Q rest ((d, .int .i64 (s.size : Int)) :: L) (XM W S H')) : XO P n ops Q (⟨some d, .call ⟨.builtin .copy, #[x, y], #[dT, sT]⟩, ty, pos, af, none⟩ :: rest) L (XM W S H) :=
  XO.op rfl fun a w ha hw => by
    obtain ⟨e, i, h1, h2, h3, h4, h5, h6⟩ := byteT_spec ht
    obtain ⟨H1, hdl, hp⟩ := hH.del
    have hlen : (s.data.toList.map bv).length = s.size := by rw [List.length_map, ← ByteArray.size_data]; simp
    obtain ⟨w', hr, hx'⟩ := run_storeCells (P := P) (s.data.toList.map bv) o 0 C w (hw.perm hdl.perm) (by rw [hlen]; omega) (by
      rw [List.all_eq_true]
      intro v hv
      simp only [List.mem_map] at hv
      obtain ⟨u, _, rfl⟩ := hv
      rfl)
    simp only [Nat.add_zero, Nat.zero_add] at hx' hr
    rw [hC] at hx'
    unfold Oper.wp
    have hmin : Nat.min s.size k = s.size := Nat.min_eq_left hk
    have htk : List.take s.size (List.map (fun b : UInt8 => Value.int IntKind.u8 (b.toNat : Int)) s.data.toList) = s.data.toList.map bv := by
      rw [List.take_of_length_le (by rw [List.length_map, ← ByteArray.size_data]; simp)]
      rfl
    have : (execOp a.eval ⟨some d, .call ⟨.builtin .copy, #[x, y], #[dT, sT]⟩, ty, pos, af, none⟩).run P w = .ok (.value (.int .i64 (s.size : Int))) w' := by
      simp [execOp, resolve, invoke, builtin, ev_eval ha hx, ev_eval ha hy, Builtin.copy_, run_underlying h1, Builtin.lenOf, Builtin.firstCells, sizeOf, typeInfo, h3, hmin]
      rw [htk, hr]
      simp [Result.andThen, goInt]
    rw [this]
    exact h _ _ (ha.put hd _) (hx'.perm hp)
theorem V.sliceBy {t : TypeId} {x y : Operand} {b m c : Nat} {kk : IntKind} {z : Int} (hx : ev L x = some (.slice (some ⟨b, 0, none⟩) m c)) (hy : ev L y = some (.int kk z)) (ht : byteT P t = true) (hz : 0 ≤ z ∧ z < m ∧ m ≤ c) :
    RunsTo P n L φ ⟨some d, .slice t x (some y) none none, ty, pos, af, gd⟩ (.slice (some ⟨b, z.toNat, none⟩) (m - z.toNat) (c - z.toNat)) := fun a w ha _ => by
  obtain ⟨e, i, h1, h2, h3, h4, h5, h6⟩ := byteT_spec ht
  obtain ⟨k, rfl⟩ : ∃ k : Nat, z = (k : Int) := ⟨z.toNat, by omega⟩
  have hs : szOf P e = some 1 := by unfold szOf; rw [h3]; simp [h4]
  have hk1 : k ≤ m := by omega
  have hk2 : ¬ c - k = 0 := by omega
  simp [execOp, ev_eval ha hx, ev_eval ha hy, Instr.sliceAt, run_underlying h1, Instr.slice, Instr.sliceBounds, Instr.sliceBound, asIntOf, hk1, run_sizeOf hs, hk2, Addr.add, hz.2.2]
  rw [if_neg (by omega)]
  split
  · rename_i q; rw [q]
  · rfl
theorem V.convB {s t : TypeId} {x : Operand} {b m k c : Nat} {C : Nat → Value} {B : ByteArray} (hx : ev L x = some (.slice (some ⟨b, 0, none⟩) k c)) (hk : k = B.size) (hH : ∀ w, φ w → (Ent.cells b 0 m C).holds w) (hC : B.size ≤ m ∧ ∀ (i : Nat) (h : i < B.size), C i = bv B[i]) (hs : byteT P s = true) (ht : P.underlying t = some .string) :
    RunsTo P n L φ ⟨some d, .convert s t x, ty, pos, af, gd⟩ (.string B) := fun a w ha hw => by
  subst hk
  obtain ⟨e, i, h1, h2, h3, h4, h5, h6⟩ := byteT_spec hs
  have hb : Go.Lib.Bytes w b 0 B := fun j hj => by
    have := cell_of_holds (hH w hw) (i := j) (by omega)
    rw [this, hC.2 j hj]; rfl
  have hr := Go.Lib.run_convert_whole (P := P) w s e t h1 h2 ht b 0 B hb c
  simp [execOp, ev_eval ha hx, hr]
end
end Go.X
