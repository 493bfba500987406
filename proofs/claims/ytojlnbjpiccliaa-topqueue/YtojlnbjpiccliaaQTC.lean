/- Taken out one by one, the first one each time, the numbers of the queue come by their keys, and what is taken out is what was put in. -/
import Derived.Test.YtojlnbjpiccliaaRows
import Derived.WalkKit
import Derived.Test.YtojlnbjpiccliaaXClose
import Derived.Test.YtojlnbjpiccliaaQT3
namespace Go.Proofs.Ytojlnbjpiccliaa
open Go Go.ChangeShapes Go.WideShapes Go.ChangeAt Go.RowKit Go.Deep Go.X

theorem own : ownKnob Try.prog.godebug = none := by kernel_rfl
theorem laidOut : laidOutB Try.prog = true := by kernel_rfl

theorem nums_open {H : Type} {enc : TypeId × Value → H} {W : World} {base : Nat} {spare : Nat → Bool} {held : Bool} {fuel : Nat} {cs : List Value} {x : DataW H × List MemPlace} {t e : TypeId} {k : IntKind}
    (ht : Try.prog.underlying t = some (.slice e)) (he : Try.prog.underlying e = some (.int k)) (hc : Try.prog.cellsOf e = 1) (h : DataW.trod enc Try.prog W base spare held fuel t cs = some x) : cs = [.slice none 0 0] ∨
    ∃ (a : Addr) (len cap : Nat), cs = [.slice (some a) len cap] ∧ len ≤ cap ∧ ∀ i, i < len → ∃ z : Int, (Lit.int k z).wf = true ∧ W.cell? (a.add i) = some (.int k z) := by
  rcases open_slice1 ht hc h with ⟨h0, _⟩ | ⟨a, len, cap, m, n, V, D, Pl, hcs, _, hl, _, hm, _, hi⟩
  · exact .inl h0
  · refine .inr ⟨a, len, cap, hcs, hl, fun i hil => ?_⟩
    obtain ⟨h1, h2⟩ := hi i (by rw [hm]; split <;> omega)
    obtain ⟨z, e1, _, z1⟩ := DataW.trod_int he h2
    simp only [List.cons.injEq, and_true] at e1
    rw [e1] at h1
    exact ⟨z, z1, h1⟩
theorem nums_of {w : World} {a : Addr} {len : Nat} {k : IntKind} {E : (Int → Int) → Nat → Nat → Value} (hE : ∀ (f : Int → Int) (i : Nat), i < len → E f len i = .int k (f i)) (hlen : 0 < len) (h : ∀ i, i < len → ∃ z : Int, (Lit.int k z).wf = true ∧ w.cell? (a.add i) = some (.int k z)) :
    ∃ f : Int → Int, (∀ z : Int, 0 ≤ z → z < len → (Lit.int k (f z)).wf = true) ∧ (Ent.ro a.block a.off len (E f len)).holds w := by
  classical
  let f : Int → Int := fun z => if hz : z.toNat < len then Classical.choose (h z.toNat hz) else 0
  have hf : ∀ i : Nat, (hi : i < len) → f (i : Int) = Classical.choose (h i hi) := fun i hi => by simp [f, hi]
  refine ⟨f, fun z h0 h1 => ?_, ro_of_cells hlen fun i hi => ?_⟩
  · have hz : z.toNat < len := by omega
    have : f z = f (z.toNat : Int) := by rw [show ((z.toNat : Nat) : Int) = z from by omega]
    rw [this, hf _ hz]
    exact (Classical.choose_spec (h z.toNat hz)).1
  · rw [(Classical.choose_spec (h i hi)).2, hE f i hi, hf _ hi]
theorem addr_of {w : World} {a : Addr} {v : Value} (h : w.cell? (a.add 0) = some v) : a = ⟨a.block, a.off, none⟩ := by
  have := spot_of h
  cases a; simp_all

set_option maxRecDepth 100000 in
theorem topQueue_contract (H : Type) (enc : TypeId × Value → H) (W : World) (base : Nat) (args : Array Value) (ds gs : List (DataW H)) (before : List MemPlace)
    (hval : ∀ (j : Nat) t v, Try.f8.params[j]? = some t → args[j]? = some v → Value.okWide Try.prog W .any base t v)
    (hW : DataW.Whole enc Try.prog Try.f8.params.toList Rows.topQueueSpec.vars false W args.toList ds gs before) :
    Calls Try.prog 8 args W fun e W' => ∃ v, e = .returned v ∧ Rows.topQueueSpec.post enc Try.prog Try.f8 false true false false W args v W' := by
  have hW' := hW
  obtain ⟨p, q, hA0, hV, rfl, hfz, hnd⟩ := hW
  have hA : DataW.TrodAll enc Try.prog W 0 (fun _ => true) true Try.f8.params.toList args.toList ds p := hA0
  rw [Try.params8] at hA hval
  obtain ⟨v0, v1, d0, d1, pp0, pp1, rfl, rfl, rfl, h0, h1⟩ := trodAll_two hA
  obtain ⟨rfl, rfl⟩ := trodVars_none hV
  obtain ⟨p0, len0, cap0, rfl⟩ := okWide_slice Try.underlying85 (hval 0 85 v0 rfl rfl)
  obtain ⟨p1, len1, cap1, rfl⟩ := okWide_slice Try.underlying90 (hval 1 90 v1 rfl rfl)
  clear hA0
  simp only [List.append_nil] at hW'
  have hlt : ∀ x ∈ pp0 ++ pp1, x.block < W.heap.size := fun x hx => hW'.lt x hx
  have fin : Calls Try.prog 8 #[.slice p0 len0 cap0, .slice p1 len1 cap1] W fun e w' => e = .returned (.bool true) ∧ Below W.heap.size W w' := by
    by_cases hz : len0 = 0 ∨ len1 = 0
    · exact below_of_spec (top_none p0 p1 len0 cap0 len1 cap1 hz) (by simp) (w := W) ⟨by simp, by simp⟩
    · obtain ⟨fuel0, hf0⟩ := h0
      obtain ⟨fuel1, hf1⟩ := h1
      rcases nums_open Try.underlying85 Try.underlying3 (by kernel_rfl) hf0 with hcs0 | ⟨a0, l0, c0, hcs0, hl0, hi0⟩
      · simp [Value.cells] at hcs0
        omega
      · simp [Value.cells] at hcs0
        obtain ⟨rfl, rfl, rfl⟩ := hcs0
        rcases nums_open Try.underlying90 Try.underlying29 (by kernel_rfl) hf1 with hcs1 | ⟨a1, l1, c1, hcs1, hl1, hi1⟩
        · simp [Value.cells] at hcs1
          omega
        · simp [Value.cells] at hcs1
          obtain ⟨rfl, rfl, rfl⟩ := hcs1
          obtain ⟨f0, hw0, hr0⟩ := nums_of (E := encI) (fun f i hi => by unfold encI; rw [if_pos hi]) (by omega) hi0
          obtain ⟨f1, hw1, hr1⟩ := nums_of (E := encW) (fun f i hi => by unfold encW; rw [if_pos hi]) (by omega) hi1
          obtain ⟨x0, _, hx0⟩ := hi0 0 (by omega)
          obtain ⟨x1, _, hx1⟩ := hi1 0 (by omega)
          rw [addr_of hx0, addr_of hx1]
          refine below_of_spec (top_some a0.block a0.off len0 cap0 a1.block a1.off len1 cap1 f0 f1 (fun z z0 z1 => (wf_u64 (hw1 z z0 z1)).1)) (by simp [Ent.wr]) ⟨fun e he => ?_, ?_⟩
          · simp only [List.mem_cons, List.not_mem_nil, or_false] at he
            rcases he with rfl | rfl
            · exact hr0
            · exact hr1
          · refine List.pairwise_cons.2 ⟨fun e he hb => ?_, List.pairwise_cons.2 ⟨fun e he => (nomatch he), .nil⟩⟩
            simp only [List.mem_cons, List.not_mem_nil, or_false] at he
            subst he
            simp [Ent.wr] at hb
  refine fin.mono fun e W' ⟨he, hb⟩ => ?_
  subst he
  exact ⟨_, rfl, post_of_below (pa := pp0 ++ pp1) (pv := []) hW' (fun _ _ _ => trodAll_mk1 (shut_bool Try.underlying4 _))
    (fun sp hsp => trodAll_mk2 (WideElems.Trod_stays laidOut (by kernel_rfl) (of_decide_eq_true (by kernel_rfl)) h0 (fun x hx => hb.same (hlt x (List.mem_append.2 (.inl hx)))) (fun x hx => hsp x (List.mem_append.2 (.inl hx))))
      (WideElems.Trod_stays laidOut (by kernel_rfl) (of_decide_eq_true (by kernel_rfl)) h1 (fun x hx => hb.same (hlt x (List.mem_append.2 (.inr hx)))) (fun x hx => hsp x (List.mem_append.2 (.inr hx)))))
    (fun _ _ => rfl) (by simp) hb (ok_one (by kernel_rfl) rfl (okWide_bool_mk Try.underlying4 _))⟩

set_option maxRecDepth 100000 in
theorem topQueue_lifted (os : Os) (started : os.Started) (H : Type) (enc : TypeId × Value → H) :
    ReturnsInHanded {} Try.checked os 8 .any (Rows.topQueueSpec.pre6 enc Try.prog Try.f8 Rows.topQueueRow.domain false) (Rows.topQueueSpec.post enc Try.prog Try.f8 false true false false) := by
  refine returnsInHanded_of_change (C := Try.checked) own started (by kernel_rfl) Try.func8
    (ChangeSpec.witness6 (enc := enc) (C := Try.checked) false ⟨#[], #[.slice none 0 0, .slice none 0 0], []⟩ 8 (by kernel_rfl) (by kernel_rfl) (by kernel_rfl) (by kernel_rfl)) ?_
  intro W base args ds gs before hval hW _ _
  exact topQueue_contract H enc W base args ds gs before hval hW

theorem topQueue_holds : Rows.TopQueueSaid :=
  OpenClaim.holds_of_wide 8 Try.f8 rfl rfl rfl rfl rfl rfl rfl ⟨rfl, rfl, rfl, rfl, rfl⟩ rfl rfl rfl rfl rfl (by kernel_rfl) Try.func8 (by kernel_rfl)
    (of_decide_eq_true (by kernel_rfl)) (by unfold Func.isWrapper; first | (rw [if_pos (by decide +kernel)]; kernel_rfl) | (rw [if_neg (by decide +kernel)]; exact ⟨rfl, rfl⟩))
    (fun os started H enc _ => topQueue_lifted os started H enc)

#print axioms topQueue_holds
end Go.Proofs.Ytojlnbjpiccliaa
