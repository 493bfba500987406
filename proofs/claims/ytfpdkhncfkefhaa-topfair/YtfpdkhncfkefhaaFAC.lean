/- TopFair holds: who is awake has its share. -/
import Derived.Test.YtfpdkhncfkefhaaRows
import Derived.WalkKit
import Derived.Test.YtfpdkhncfkefhaaXClose
import Derived.Test.YtfpdkhncfkefhaaFA4
namespace Go.Proofs.Ytfpdkhncfkefhaa
open Go Go.ChangeShapes Go.WideShapes Go.ChangeAt Go.RowKit Go.Deep Go.X

theorem own : ownKnob Try.prog.godebug = none := by kernel_rfl
theorem laidOut : laidOutB Try.prog = true := by kernel_rfl

theorem good_ro {b o n : Nat} {C : Nat → Value} {H : List Ent} {w : World} (he : (Ent.ro b o n C).holds w) (hH : ∀ x ∈ H, x.wr = false) (h : X.Good H w) : X.Good (.ro b o n C :: H) w := by
  refine And.intro (fun x hx => ?_) (List.pairwise_cons.2 (And.intro (fun x hx hb => ?_) h.2))
  · cases List.mem_cons.1 hx with
    | inl q => rw [q]; exact he
    | inr q => exact h.1 x q
  · rw [show (Ent.ro b o n C).wr = false from rfl, hH x hx] at hb; cases hb
theorem good_no (w : World) : X.Good [] w := ⟨fun _ hx => (nomatch hx), .nil⟩

theorem nums_open {H : Type} {enc : TypeId × Value → H} {W : World} {base : Nat} {spare : Nat → Bool} {held : Bool} {fuel : Nat} {cs : List Value} {x : DataW H × List MemPlace} {t e : TypeId} {k : IntKind}
    (ht : Try.prog.underlying t = some (.slice e)) (he : Try.prog.underlying e = some (.int k)) (hc : Try.prog.cellsOf e = 1) (h : DataW.trod enc Try.prog W base spare held fuel t cs = some x) : cs = [.slice none 0 0] ∨
    ∃ (a : Addr) (len cap : Nat), cs = [.slice (some a) len cap] ∧ len ≤ cap ∧ ∀ i, i < len → ∃ z : Int, (Lit.int k z).wf = true ∧ W.cell? (a.add i) = some (.int k z) := by
  rcases open_slice1 ht hc h with ⟨h0, _⟩ | ⟨a, len, cap, m, n, V, D, Pl, hcs, _, hl, _, hm, _, hi⟩
  · exact .inl h0
  · refine .inr ⟨a, len, cap, hcs, hl, fun i hil => ?_⟩
    obtain ⟨h1, h2⟩ := hi i (by rw [hm]; split <;> omega)
    obtain ⟨z, e1, _, z1⟩ := DataW.trod_int he h2
    simp only [List.cons.injEq, and_true] at e1
    rw [e1] at h1
    exact ⟨z, z1, h1⟩
theorem nums_of {w : World} {a : Addr} {len : Nat} {k : IntKind} {E : (Int → Int) → Nat → Nat → Value} (hE : ∀ (f : Int → Int) (i : Nat), i < len → E f len i = .int k (f i)) (hlen : 0 < len) (h : ∀ i, i < len → ∃ z : Int, (Lit.int k z).wf = true ∧ w.cell? (a.add i) = some (.int k z)) :
    ∃ f : Int → Int, (∀ z : Int, 0 ≤ z → z < len → (Lit.int k (f z)).wf = true) ∧ (Ent.ro a.block a.off len (E f len)).holds w := by
  classical
  let f : Int → Int := fun z => if hz : z.toNat < len then Classical.choose (h z.toNat hz) else 0
  have hf : ∀ i : Nat, (hi : i < len) → f (i : Int) = Classical.choose (h i hi) := fun i hi => by simp [f, hi]
  refine ⟨f, fun z h0 h1 => ?_, ro_of_cells hlen fun i hi => ?_⟩
  · have hz : z.toNat < len := by omega
    have : f z = f (z.toNat : Int) := by rw [show ((z.toNat : Nat) : Int) = z from by omega]
    rw [this, hf _ hz]
    exact (Classical.choose_spec (h z.toNat hz)).1
  · rw [(Classical.choose_spec (h i hi)).2, hE f i hi, hf _ hi]
theorem addr_of {w : World} {a : Addr} {v : Value} (h : w.cell? (a.add 0) = some v) : a = ⟨a.block, a.off, none⟩ := by
  have := spot_of h
  cases a; simp_all

theorem ints_view {H : Type} {enc : TypeId × Value → H} {W : World} {base : Nat} {spare : Nat → Bool} {held : Bool} {fuel : Nat} {p : Option Addr} {len cap : Nat} {x : DataW H × List MemPlace} {t e : TypeId}
    (ht : Try.prog.underlying t = some (.slice e)) (he : Try.prog.underlying e = some (.int .i64)) (hc : Try.prog.cellsOf e = 1) (h : DataW.trod enc Try.prog W base spare held fuel t (Value.slice p len cap).cells.toList = some x) : len = 0 ∨
    ∃ (b o : Nat) (f : Int → Int), p = some ⟨b, o, none⟩ ∧ len ≤ cap ∧ (∀ z : Int, 0 ≤ z → z < len → -9223372036854775808 ≤ f z ∧ f z ≤ 9223372036854775807) ∧ (Ent.ro b o len (encI f len)).holds W := by
  by_cases hz : len = 0
  · exact .inl hz
  · rcases nums_open ht he hc h with hcs | ⟨a, l, c, hcs, hl, hi⟩
    · simp [Value.cells] at hcs
      omega
    · simp [Value.cells] at hcs
      obtain ⟨rfl, rfl, rfl⟩ := hcs
      obtain ⟨f, hw, hr⟩ := nums_of (E := encI) (fun f i hi => by unfold encI; rw [if_pos hi]) (by omega) hi
      obtain ⟨x0, _, hx0⟩ := hi 0 (by omega)
      exact .inr ⟨a.block, a.off, f, by rw [← addr_of hx0], hl, fun z z0 z1 => wf_i64 (hw z z0 z1), hr⟩
set_option maxRecDepth 100000 in
theorem topFair_contract (H : Type) (enc : TypeId × Value → H) (W : World) (base : Nat) (args : Array Value) (ds gs : List (DataW H)) (before : List MemPlace)
    (hval : ∀ (j : Nat) t v, Try.f5.params[j]? = some t → args[j]? = some v → Value.okWide Try.prog W .any base t v)
    (hW : DataW.Whole enc Try.prog Try.f5.params.toList Rows.topFairSpec.vars false W args.toList ds gs before) :
    Calls Try.prog 5 args W fun e W' => ∃ v, e = .returned v ∧ Rows.topFairSpec.post enc Try.prog Try.f5 false true false false W args v W' := by
  have hW' := hW
  obtain ⟨p, q, hA0, hV, rfl, hfz, hnd⟩ := hW
  have hA : DataW.TrodAll enc Try.prog W 0 (fun _ => true) true Try.f5.params.toList args.toList ds p := hA0
  rw [Try.params5] at hA hval
  obtain ⟨v0, v1, v2, d0, d1, d2, pp0, pp1, pp2, rfl, rfl, rfl, h0, h1, h2⟩ := trodAll_three hA
  obtain ⟨rfl, rfl⟩ := trodVars_none hV
  obtain ⟨q0, len0, cap0, rfl⟩ := okWide_slice Try.underlying46 (hval 0 46 v0 rfl rfl)
  obtain ⟨q1, len1, cap1, rfl⟩ := okWide_slice Try.underlying46 (hval 1 46 v1 rfl rfl)
  obtain ⟨z2, rfl⟩ := okWide_int Try.underlying3 (hval 2 3 v2 rfl rfl)
  clear hA0
  simp only [List.append_nil, List.append_assoc] at hW'
  have hlt : ∀ x ∈ pp0 ++ (pp1 ++ pp2), x.block < W.heap.size := fun x hx => hW'.lt x hx
  have fin : Calls Try.prog 5 #[.slice q0 len0 cap0, .slice q1 len1 cap1, .int .i64 z2] W fun e w' => e = .returned (.bool true) ∧ Below W.heap.size W w' := by
    obtain ⟨fuel0, hf0⟩ := h0
    obtain ⟨fuel1, hf1⟩ := h1
    obtain ⟨fuel2, hf2⟩ := h2
    obtain ⟨y2, e2, _, wf2⟩ := DataW.trod_int Try.underlying3 hf2
    simp [Value.cells] at e2
    subst e2
    have hz2 := wf_i64 wf2
    have s0 := ints_view Try.underlying46 Try.underlying3 (by kernel_rfl) hf0
    have s1 := ints_view Try.underlying46 Try.underlying3 (by kernel_rfl) hf1
    rcases s0 with rfl | ⟨b0, o0, f0, rfl, hl0, hw0, hr0⟩
    · skip
      rcases s1 with rfl | ⟨b1, o1, f1, rfl, hl1, hw1, hr1⟩
      · skip
        exact below_of_spec (fair_nn q0 cap0 q1 cap1 z2 hz2) (by simp [Ent.wr]) (good_no W)
      · skip
        exact below_of_spec (fair_ns q0 cap0 b1 o1 len1 cap1 hl1 f1 hw1 z2 hz2) (by simp [Ent.wr]) (good_ro hr1 (by simp [Ent.wr]) (good_no W))
    · skip
      rcases s1 with rfl | ⟨b1, o1, f1, rfl, hl1, hw1, hr1⟩
      · skip
        exact below_of_spec (fair_sn b0 o0 len0 cap0 hl0 f0 hw0 q1 cap1 z2 hz2) (by simp [Ent.wr]) (good_ro hr0 (by simp [Ent.wr]) (good_no W))
      · skip
        exact below_of_spec (fair_ss b0 o0 len0 cap0 hl0 f0 hw0 b1 o1 len1 cap1 hl1 f1 hw1 z2 hz2) (by simp [Ent.wr]) (good_ro hr0 (by simp [Ent.wr]) (good_ro hr1 (by simp [Ent.wr]) (good_no W)))
  refine fin.mono fun e W' ⟨he, hb⟩ => ?_
  subst he
  exact ⟨_, rfl, post_of_below (pa := pp0 ++ (pp1 ++ pp2)) (pv := []) hW' (fun _ _ _ => trodAll_mk1 (shut_bool Try.underlying4 _))
    (fun sp hsp => trodAll_mk3 (WideElems.Trod_stays laidOut (by kernel_rfl) (of_decide_eq_true (by kernel_rfl)) h0 (fun x hx => hb.same (hlt x (List.mem_append.2 (.inl hx)))) (fun x hx => hsp x (List.mem_append.2 (.inl hx)))) (WideElems.Trod_stays laidOut (by kernel_rfl) (of_decide_eq_true (by kernel_rfl)) h1 (fun x hx => hb.same (hlt x (List.mem_append.2 (.inr (List.mem_append.2 (.inl hx)))))) (fun x hx => hsp x (List.mem_append.2 (.inr (List.mem_append.2 (.inl hx)))))) (WideElems.Trod_stays laidOut (by kernel_rfl) (of_decide_eq_true (by kernel_rfl)) h2 (fun x hx => hb.same (hlt x (List.mem_append.2 (.inr (List.mem_append.2 (.inr hx)))))) (fun x hx => hsp x (List.mem_append.2 (.inr (List.mem_append.2 (.inr hx)))))))
    (fun _ _ => rfl) (by simp) hb (ok_one (by kernel_rfl) rfl (okWide_bool_mk Try.underlying4 _))⟩
set_option maxRecDepth 100000 in
theorem topFair_lifted (os : Os) (started : os.Started) (H : Type) (enc : TypeId × Value → H) :
    ReturnsInHanded {} Try.checked os 5 .any (Rows.topFairSpec.pre6 enc Try.prog Try.f5 Rows.topFairRow.domain false) (Rows.topFairSpec.post enc Try.prog Try.f5 false true false false) := by
  refine returnsInHanded_of_change (C := Try.checked) own started (by kernel_rfl) Try.func5
    (ChangeSpec.witness6 (enc := enc) (C := Try.checked) false ⟨#[], #[.slice none 0 0, .slice none 0 0, .int .i64 0], []⟩ 8 (by kernel_rfl) (by kernel_rfl) (by kernel_rfl) (by kernel_rfl)) ?_
  intro W base args ds gs before hval hW _ _
  exact topFair_contract H enc W base args ds gs before hval hW

theorem topFair_holds : Rows.TopFairSaid :=
  OpenClaim.holds_of_wide 5 Try.f5 rfl rfl rfl rfl rfl rfl rfl ⟨rfl, rfl, rfl, rfl, rfl⟩ rfl rfl rfl rfl rfl (by kernel_rfl) Try.func5 (by kernel_rfl)
    (of_decide_eq_true (by kernel_rfl)) (by unfold Func.isWrapper; first | (rw [if_pos (by decide +kernel)]; kernel_rfl) | (rw [if_neg (by decide +kernel)]; exact ⟨rfl, rfl⟩))
    (fun os started H enc _ => topFair_lifted os started H enc)

#print axioms topFair_holds
end Go.Proofs.Ytfpdkhncfkefhaa
