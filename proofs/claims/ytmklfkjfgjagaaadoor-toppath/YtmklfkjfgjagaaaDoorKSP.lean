import Derived.Test.YtmklfkjfgjagaaaDoorKM
import Derived.Shelf.Strings.Split
namespace Go.X
open Go Go.Shelf Go.RowKit Go.Lib Go.Proofs
section
variable {P : Program} {ρ : Ren}
set_option maxHeartbeats 1000000 in
theorem split_run (L : Lays.n146 P ρ) (hi9 : (P.info? (ρ.t 9)).map (fun i => (i.zero, i.size, i.bytes)) = some (some (.string ByteArray.empty), 1, 16)) (s : ByteArray) (w : World) (hs : s.size < 4294967281) :
    Calls P (ρ.f 146) #[.string s, .string ⟨#[47]⟩] w fun e w' =>
      e = .returned (.slice (some ⟨w.heap.size, 0, none⟩) (countB s slash + 1) (countB s slash + 1)) ∧ w' = w.alloc (.cells ((splitB slash 0 (countB s slash) s).map Value.string).toArray (ρ.t 9)) := by
  have h1 : 1 ≤ slash.size := by decide
  have hle := Lib.countB_le slash h1 s.size s (Nat.le_refl _)
  have hlen := Lib.splitB_all slash h1 0 _ s rfl
  have c := Any.strings_genSplit_core { L with } hi9 s slash 0 (-1) (countB s slash + 1) w hs h1 (Nat.zero_le _)
    (fun x c _ => (Any.strings_Index_one { L with } x 47 _).mono fun e w' ⟨he, hw⟩ => ⟨by rw [he]; show _ = Ending.returned (Value.int .i64 (Lib.index x.data.toList [47])); rw [Lib.index_one], hw⟩)
    ((Any.strings_Count_one { L with } s 47 w).mono fun e w' ⟨he, hw⟩ => ⟨by
      rw [he]
      show _ = Ending.returned (Value.int .i64 ((Lib.count s.data.toList [47] : Nat) : Int))
      rw [Lib.count_one]
      rfl, hw⟩)
    (by decide) (by decide) (by rw [if_pos (by decide)]; omega)
  rw [Nat.add_sub_cancel, hlen] at c
  have e2 : Lib.cellsOf (Lib.splitB slash 0 (Lib.countB s slash) s) (Lib.countB s slash + 1) = ((Lib.splitB slash 0 (Lib.countB s slash) s).map Value.string).toArray := by rw [← hlen]; exact Lib.cellsOf_full _
  rw [e2] at c
  have t3 := L.t3; have t9 := L.t9; have t31 := L.t31
  have a3 := L.a3; have a9 := L.a9; have a31 := L.a31
  have z3 := L.z3; have v3 := L.v3; have z9 := L.z9; have v9 := L.v9; have z31 := L.z31; have v31 := L.v31
  have e221 : ∀ args w, (callFunc (ρ.f 221) args).run P w = .ok (.enter (ρ.f 221) args) w := enters_of L.f221 (by kernel_rfl) rfl
  go_enter L.f146, Body.n146_ntmps ρ
  go_wp2_with (go_at_fn (ρ.f 221); refine c.mono ?_; rintro e w' ⟨rfl, hw⟩; rw [hw])
  go_ret
  exact ⟨rfl, rfl⟩
theorem pieces_len (s : ByteArray) : (pieces s).length = countB s slash + 1 := Lib.splitB_all slash (by decide) 0 _ s rfl
theorem pieces_cnt (s : ByteArray) : (pieces s).length ≤ s.size + 1 := by
  have := Lib.countB_le slash (by decide) s.size s (Nat.le_refl _)
  rw [pieces_len]; omega
theorem split_spec (L : Lays.n146 P ρ) (hi9 : (P.info? (ρ.t 9)).map (fun i => (i.zero, i.size, i.bytes)) = some (some (.string ByteArray.empty), 1, 16)) (s : ByteArray) (hs : s.size ≤ 1000000) :
    Spec P (ρ.f 146) [.string s, .string ⟨#[47]⟩] [] (fun v H1 => ∃ b, v = .slice (some ⟨b, 0, none⟩) (pieces s).length (pieces s).length ∧ H1 = [srow (some ⟨b, 0, none⟩) (pieces s).length (ρ.t 9) (pieces s)]) := by
  intro w hw
  refine (split_run L hi9 s w (by omega)).mono fun ee w' ⟨he, hw'⟩ => ⟨_, _, he, ⟨w.heap.size, by rw [pieces_len], rfl⟩, rfl, ?_⟩
  subst hw'
  have hc := pieces_cnt s
  refine (XM.start hw).fresh (fun b o hb2 => by simp only [Ent.area, Value.ownBlock, Option.some.injEq] at hb2; omega) (keep_alloc w _ _) ?_
  refine ⟨by simp [strs], .inr ⟨w.heap.size, _, _, rfl, Nat.zero_le _, heap_alloc_new w _, Nat.le_refl _, by simp only [maxLen]; omega, ?_, ?_⟩⟩
  · simp [pieces]
  · simp only [strs, pieces, Nat.mul_one]
    exact List.take_of_length_le (by simp)
end
theorem splitB_le : ∀ (k : Nat) (s : ByteArray), ∀ x ∈ splitB slash 0 k s, x.size ≤ s.size
  | 0, s, x, h => by simp [splitB] at h; rw [h]; exact Nat.le_refl _
  | k + 1, s, x, h => by
    unfold splitB at h
    split at h
    · simp at h; rw [h]; exact Nat.le_refl _
    · rcases List.mem_cons.1 h with h | h
      · rw [h, ByteArray.size_extract]; omega
      · have := splitB_le k _ x h
        rw [ByteArray.size_extract] at this
        omega
theorem pieces_le (s : ByteArray) {z : Int} (h : 0 ≤ z ∧ z < (pieces s).length) : (sat0 (pieces s) z).size ≤ s.size := by
  refine splitB_le (countB s slash) s _ ?_
  show sat0 (pieces s) z ∈ pieces s
  unfold sat0
  rw [List.getD_eq_getElem?_getD, List.getElem?_eq_getElem (by omega)]
  exact List.getElem_mem _
theorem splitV_len (x : ByteArray) : (splitV x).length ≤ x.size + 1 := by
  unfold splitV
  split
  · have := pieces_cnt (x.extract 1 x.size)
    rw [ByteArray.size_extract] at this
    omega
  · simp
end Go.X
