/- who has an open file in common has its place in common; what is read is what was written; for all parts and sizes -/
import Derived.Test.YtmklfkjfgjagaaaRows
import Derived.WalkKit
import Derived.Test.YtmklfkjfgjagaaaXClose
import Derived.Test.YtmklfkjfgjagaaaOT3
namespace Go.Proofs.Ytmklfkjfgjagaaa
open Go Go.ChangeShapes Go.WideShapes Go.ChangeAt Go.RowKit Go.Deep Go.X

theorem own : ownKnob Try.prog.godebug = none := by kernel_rfl
theorem laidOut : laidOutB Try.prog = true := by kernel_rfl

theorem good_ro {b o n : Nat} {C : Nat → Value} {H : List Ent} {w : World} (he : (Ent.ro b o n C).holds w) (hH : ∀ x ∈ H, x.wr = false) (h : X.Good H w) : X.Good (.ro b o n C :: H) w := by
  refine And.intro (fun x hx => ?_) (List.pairwise_cons.2 (And.intro (fun x hx hb => ?_) h.2))
  · cases List.mem_cons.1 hx with
    | inl q => rw [q]; exact he
    | inr q => exact h.1 x q
  · rw [show (Ent.ro b o n C).wr = false from rfl, hH x hx] at hb; cases hb
theorem good_no (w : World) : X.Good [] w := ⟨fun _ hx => (nomatch hx), .nil⟩

theorem addr_of_s {w : World} {a : Addr} {v : Value} (h : w.cell? (a.add 0) = some v) : a = ⟨a.block, a.off, none⟩ := by
  have := spot_of h
  cases a; simp_all
theorem strs_of {w : World} {a : Addr} {len : Nat} (hlen : 0 < len) (h : ∀ i, i < len → ∃ z : ByteArray, z.size ≤ maxLen ∧ w.cell? (a.add i) = some (.string z)) :
    ∃ f : Int → ByteArray, (∀ z : Int, 0 ≤ z → z < len → (f z).size ≤ 9223372036854775807) ∧ (Ent.ro a.block a.off len (encSt f len)).holds w := by
  classical
  let f : Int → ByteArray := fun z => if hz : z.toNat < len then Classical.choose (h z.toNat hz) else ⟨#[]⟩
  have hf : ∀ i : Nat, (hi : i < len) → f (i : Int) = Classical.choose (h i hi) := fun i hi => by simp [f, hi]
  refine ⟨f, fun z h0 h1 => ?_, ro_of_cells hlen fun i hi => ?_⟩
  · have hz : z.toNat < len := by omega
    have : f z = f (z.toNat : Int) := by rw [show ((z.toNat : Nat) : Int) = z from by omega]
    rw [this, hf _ hz]
    simpa [maxLen] using (Classical.choose_spec (h z.toNat hz)).1
  · rw [(Classical.choose_spec (h i hi)).2]
    unfold encSt
    rw [if_pos hi, hf _ hi]
theorem strs_view {H : Type} {enc : TypeId × Value → H} {W : World} {base : Nat} {spare : Nat → Bool} {held : Bool} {fuel : Nat} {p : Option Addr} {len cap : Nat} {x : DataW H × List MemPlace} {t e : TypeId}
    (ht : Try.prog.underlying t = some (.slice e)) (he : Try.prog.underlying e = some .string) (hc : Try.prog.cellsOf e = 1) (h : DataW.trod enc Try.prog W base spare held fuel t (Value.slice p len cap).cells.toList = some x) : len = 0 ∨
    ∃ (b o : Nat) (f : Int → ByteArray), p = some ⟨b, o, none⟩ ∧ len ≤ cap ∧ (∀ z : Int, 0 ≤ z → z < len → (f z).size ≤ 9223372036854775807) ∧ (Ent.ro b o len (encSt f len)).holds W := by
  by_cases hz : len = 0
  · exact .inl hz
  · rcases open_slice1 ht hc h with ⟨hcs, _⟩ | ⟨a, l, c, m, n, V, D, Pl, hcs, _, hl, _, hm, _, hi⟩
    · simp [Value.cells] at hcs
      omega
    · simp [Value.cells] at hcs
      obtain ⟨rfl, rfl, rfl⟩ := hcs
      have hi2 : ∀ i, i < len → ∃ z : ByteArray, z.size ≤ maxLen ∧ W.cell? (a.add i) = some (.string z) := fun i hil => by
        obtain ⟨h1, h2⟩ := hi i (by rw [hm]; split <;> omega)
        obtain ⟨z, e1, _, z1⟩ := DataW.trod_string he h2
        simp only [List.cons.injEq, and_true] at e1
        rw [e1] at h1
        exact ⟨z, z1, h1⟩
      obtain ⟨f, hw, hr⟩ := strs_of (by omega) hi2
      obtain ⟨x0, _, hx0⟩ := hi2 0 (by omega)
      exact .inr ⟨a.block, a.off, f, by rw [← addr_of_s hx0], hl, hw, hr⟩

theorem nums_open {H : Type} {enc : TypeId × Value → H} {W : World} {base : Nat} {spare : Nat → Bool} {held : Bool} {fuel : Nat} {cs : List Value} {x : DataW H × List MemPlace} {t e : TypeId} {k : IntKind}
    (ht : Try.prog.underlying t = some (.slice e)) (he : Try.prog.underlying e = some (.int k)) (hc : Try.prog.cellsOf e = 1) (h : DataW.trod enc Try.prog W base spare held fuel t cs = some x) : cs = [.slice none 0 0] ∨
    ∃ (a : Addr) (len cap : Nat), cs = [.slice (some a) len cap] ∧ len ≤ cap ∧ ∀ i, i < len → ∃ z : Int, (Lit.int k z).wf = true ∧ W.cell? (a.add i) = some (.int k z) := by
  rcases open_slice1 ht hc h with ⟨h0, _⟩ | ⟨a, len, cap, m, n, V, D, Pl, hcs, _, hl, _, hm, _, hi⟩
  · exact .inl h0
  · refine .inr ⟨a, len, cap, hcs, hl, fun i hil => ?_⟩
    obtain ⟨h1, h2⟩ := hi i (by rw [hm]; split <;> omega)
    obtain ⟨z, e1, _, z1⟩ := DataW.trod_int he h2
    simp only [List.cons.injEq, and_true] at e1
    rw [e1] at h1
    exact ⟨z, z1, h1⟩
theorem nums_of {w : World} {a : Addr} {len : Nat} {k : IntKind} {E : (Int → Int) → Nat → Nat → Value} (hE : ∀ (f : Int → Int) (i : Nat), i < len → E f len i = .int k (f i)) (hlen : 0 < len) (h : ∀ i, i < len → ∃ z : Int, (Lit.int k z).wf = true ∧ w.cell? (a.add i) = some (.int k z)) :
    ∃ f : Int → Int, (∀ z : Int, 0 ≤ z → z < len → (Lit.int k (f z)).wf = true) ∧ (Ent.ro a.block a.off len (E f len)).holds w := by
  classical
  let f : Int → Int := fun z => if hz : z.toNat < len then Classical.choose (h z.toNat hz) else 0
  have hf : ∀ i : Nat, (hi : i < len) → f (i : Int) = Classical.choose (h i hi) := fun i hi => by simp [f, hi]
  refine ⟨f, fun z h0 h1 => ?_, ro_of_cells hlen fun i hi => ?_⟩
  · have hz : z.toNat < len := by omega
    have : f z = f (z.toNat : Int) := by rw [show ((z.toNat : Nat) : Int) = z from by omega]
    rw [this, hf _ hz]
    exact (Classical.choose_spec (h z.toNat hz)).1
  · rw [(Classical.choose_spec (h i hi)).2, hE f i hi, hf _ hi]
theorem addr_of {w : World} {a : Addr} {v : Value} (h : w.cell? (a.add 0) = some v) : a = ⟨a.block, a.off, none⟩ := by
  have := spot_of h
  cases a; simp_all

theorem ints_view {H : Type} {enc : TypeId × Value → H} {W : World} {base : Nat} {spare : Nat → Bool} {held : Bool} {fuel : Nat} {p : Option Addr} {len cap : Nat} {x : DataW H × List MemPlace} {t e : TypeId}
    (ht : Try.prog.underlying t = some (.slice e)) (he : Try.prog.underlying e = some (.int .i64)) (hc : Try.prog.cellsOf e = 1) (h : DataW.trod enc Try.prog W base spare held fuel t (Value.slice p len cap).cells.toList = some x) : len = 0 ∨
    ∃ (b o : Nat) (f : Int → Int), p = some ⟨b, o, none⟩ ∧ len ≤ cap ∧ (∀ z : Int, 0 ≤ z → z < len → -9223372036854775808 ≤ f z ∧ f z ≤ 9223372036854775807) ∧ (Ent.ro b o len (Go.X.encI f len)).holds W := by
  by_cases hz : len = 0
  · exact .inl hz
  · rcases nums_open ht he hc h with hcs | ⟨a, l, c, hcs, hl, hi⟩
    · simp [Value.cells] at hcs
      omega
    · simp [Value.cells] at hcs
      obtain ⟨rfl, rfl, rfl⟩ := hcs
      obtain ⟨f, hw, hr⟩ := nums_of (E := Go.X.encI) (fun f i hi => by unfold Go.X.encI; rw [if_pos hi]) (by omega) hi
      obtain ⟨x0, _, hx0⟩ := hi 0 (by omega)
      exact .inr ⟨a.block, a.off, f, by rw [← addr_of hx0], hl, fun z z0 z1 => wf_i64 (hw z z0 z1), hr⟩
set_option maxRecDepth 100000 in
theorem topFiles_contract (H : Type) (enc : TypeId × Value → H) (W : World) (base : Nat) (args : Array Value) (ds gs : List (DataW H)) (before : List MemPlace)
    (hval : ∀ (j : Nat) t v, Try.f6.params[j]? = some t → args[j]? = some v → Value.okWide Try.prog W .any base t v)
    (hW : DataW.Whole enc Try.prog Try.f6.params.toList Rows.topFilesSpec.vars false W args.toList ds gs before) :
    Calls Try.prog 6 args W fun e W' => ∃ v, e = .returned v ∧ Rows.topFilesSpec.post enc Try.prog Try.f6 false true false false W args v W' := by
  have hW' := hW
  obtain ⟨p, q, hA0, hV, rfl, hfz, hnd⟩ := hW
  have hA : DataW.TrodAll enc Try.prog W 0 (fun _ => true) true Try.f6.params.toList args.toList ds p := hA0
  rw [Try.params6] at hA hval
  obtain ⟨v0, v1, d0, d1, pp0, pp1, rfl, rfl, rfl, h0, h1⟩ := trodAll_two hA
  obtain ⟨rfl, rfl⟩ := trodVars_none hV
  obtain ⟨q0, len0, cap0, rfl⟩ := okWide_slice Try.underlying28 (hval 0 28 v0 rfl rfl)
  obtain ⟨q1, len1, cap1, rfl⟩ := okWide_slice Try.underlying29 (hval 1 29 v1 rfl rfl)
  clear hA0
  simp only [List.append_nil] at hW'
  have hlt : ∀ x ∈ pp0 ++ pp1, x.block < W.heap.size := fun x hx => hW'.lt x hx
  have fin : Calls Try.prog 6 #[.slice q0 len0 cap0, .slice q1 len1 cap1] W fun e w' => e = .returned (.bool true) ∧ Below W.heap.size W w' := by
    obtain ⟨fuel0, hf0⟩ := h0
    obtain ⟨fuel1, hf1⟩ := h1
    have s0 := strs_view Try.underlying28 Try.underlying9 (by kernel_rfl) hf0
    have s1 := ints_view Try.underlying29 Try.underlying3 (by kernel_rfl) hf1
    rcases s0 with rfl | ⟨b0, o0, f0, rfl, hl0, hw0, hr0⟩
    · skip
      rcases s1 with rfl | ⟨b1, o1, f1, rfl, hl1, hw1, hr1⟩
      · skip
        exact below_of_spec (fl_nn q0 cap0 q1 cap1) (by simp [Ent.wr]) (good_no W)
      · skip
        exact below_of_spec (fl_ns q0 cap0 b1 o1 len1 cap1 hl1 f1 hw1) (by simp [Ent.wr]) (good_ro hr1 (by simp [Ent.wr]) (good_no W))
    · skip
      rcases s1 with rfl | ⟨b1, o1, f1, rfl, hl1, hw1, hr1⟩
      · skip
        exact below_of_spec (fl_sn b0 o0 len0 cap0 hl0 f0 hw0 q1 cap1) (by simp [Ent.wr]) (good_ro hr0 (by simp [Ent.wr]) (good_no W))
      · skip
        exact below_of_spec (fl_ss b0 o0 len0 cap0 hl0 f0 hw0 b1 o1 len1 cap1 hl1 f1 hw1) (by simp [Ent.wr]) (good_ro hr0 (by simp [Ent.wr]) (good_ro hr1 (by simp [Ent.wr]) (good_no W)))
  refine fin.mono fun e W' ⟨he, hb⟩ => ?_
  subst he
  exact ⟨_, rfl, post_of_below (pa := pp0 ++ pp1) (pv := []) hW' (fun _ _ _ => trodAll_mk1 (shut_bool Try.underlying4 _))
    (fun sp hsp => trodAll_mk2 (WideElems.Trod_stays laidOut (by kernel_rfl) (of_decide_eq_true (by kernel_rfl)) h0 (fun x hx => hb.same (hlt x (List.mem_append.2 (.inl hx)))) (fun x hx => hsp x (List.mem_append.2 (.inl hx)))) (WideElems.Trod_stays laidOut (by kernel_rfl) (of_decide_eq_true (by kernel_rfl)) h1 (fun x hx => hb.same (hlt x (List.mem_append.2 (.inr hx)))) (fun x hx => hsp x (List.mem_append.2 (.inr hx)))))
    (fun _ _ => rfl) (by simp) hb (ok_one (by kernel_rfl) rfl (okWide_bool_mk Try.underlying4 _))⟩
set_option maxRecDepth 100000 in
theorem topFiles_lifted (os : Os) (started : os.Started) (H : Type) (enc : TypeId × Value → H) :
    ReturnsInHanded {} Try.checked os 6 .any (Rows.topFilesSpec.pre6 enc Try.prog Try.f6 Rows.topFilesRow.domain false) (Rows.topFilesSpec.post enc Try.prog Try.f6 false true false false) := by
  refine returnsInHanded_of_change (C := Try.checked) own started (by kernel_rfl) Try.func6
    (ChangeSpec.witness6 (enc := enc) (C := Try.checked) false ⟨#[], #[.slice none 0 0, .slice none 0 0], []⟩ 8 (by kernel_rfl) (by kernel_rfl) (by kernel_rfl) (by kernel_rfl)) ?_
  intro W base args ds gs before hval hW _ _
  exact topFiles_contract H enc W base args ds gs before hval hW

theorem topFiles_holds : Rows.TopFilesSaid :=
  OpenClaim.holds_of_wide 6 Try.f6 rfl rfl rfl rfl rfl rfl rfl ⟨rfl, rfl, rfl, rfl, rfl⟩ rfl rfl rfl rfl rfl (by kernel_rfl) Try.func6 (by kernel_rfl)
    (of_decide_eq_true (by kernel_rfl)) (by unfold Func.isWrapper; first | (rw [if_pos (by decide +kernel)]; kernel_rfl) | (rw [if_neg (by decide +kernel)]; exact ⟨rfl, rfl⟩))
    (fun os started H enc _ => topFiles_lifted os started H enc)

#print axioms topFiles_holds
end Go.Proofs.Ytmklfkjfgjagaaa
