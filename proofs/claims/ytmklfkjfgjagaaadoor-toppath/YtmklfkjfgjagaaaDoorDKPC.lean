/- TopPath answers true for whatever list of acts and whatever two strings it is called with; what the listed tables hold is tied to the program's text. -/
import Derived.Test.YtmklfkjfgjagaaaDoorCards
import Derived.Test.YtmklfkjfgjagaaaDoorTie
import Derived.WalkKit
import Derived.Deep.DeepHandedRow
import Derived.Lib.LaidTab
import Derived.Test.YtmklfkjfgjagaaaDoorXClose
import Derived.Test.YtmklfkjfgjagaaaDoorDKP2
namespace Go.Proofs.YtmklfkjfgjagaaaDoor
open Go Go.ChangeShapes Go.WideShapes Go.ChangeAt Go.RowKit Go.Deep Go.X

theorem own : ownKnob Tryd.prog.godebug = none := by kernel_rfl
theorem laidOut : laidOutB Tryd.prog = true := by kernel_rfl
theorem acts_open {H : Type} {enc : TypeId × Value → H} {W : World} {base : Nat} {spare : Nat → Bool} {held : Bool} {fuel : Nat} {cs : List Value} {x : DataW H × List MemPlace}
    (h : DataW.trod enc Tryd.prog W base spare held fuel 22 cs = some x) : cs = [.slice none 0 0] ∨
    ∃ (a : Addr) (len cap : Nat), cs = [.slice (some a) len cap] ∧ len ≤ cap ∧ ∀ i, i < len → ∃ x : ActV, x.ok ∧ ∀ j, j < 8 → W.cell? (a.add (i * 8 + j)) = some (encAct x j) := by
  rcases open_slice_fields Tryd.underlying22 Tryd.underlying38 (by kernel_rfl) (by kernel_rfl) h with ⟨h0, _⟩ | ⟨a, len, cap, m, D, Pl, hcs, _, hl, _, hm, _, hi⟩
  · exact .inl h0
  · refine .inr ⟨a, len, cap, hcs, hl, fun i hil => ?_⟩
    have him : i < m := by rw [hm]; split <;> omega
    obtain ⟨ys, n, _, _, _, hf⟩ := hi i him
    obtain ⟨v0, y0, c0, _, t0⟩ := hf 0 _ rfl
    obtain ⟨v1, y1, c1, _, t1⟩ := hf 1 _ rfl
    obtain ⟨v2, y2, c2, _, t2⟩ := hf 2 _ rfl
    obtain ⟨v3, y3, c3, _, t3⟩ := hf 3 _ rfl
    obtain ⟨v4, y4, c4, _, t4⟩ := hf 4 _ rfl
    obtain ⟨v5, y5, c5, _, t5⟩ := hf 5 _ rfl
    obtain ⟨v6, y6, c6, _, t6⟩ := hf 6 _ rfl
    obtain ⟨v7, y7, c7, _, t7⟩ := hf 7 _ rfl
    obtain ⟨s0, e0, _, z0⟩ := DataW.trod_string Tryd.underlying9 t0
    obtain ⟨n1, e1, _, z1⟩ := DataW.trod_int Tryd.underlying3 t1
    obtain ⟨n2, e2, _, z2⟩ := DataW.trod_int Tryd.underlying3 t2
    obtain ⟨n3, e3, _, z3⟩ := DataW.trod_int Tryd.underlying3 t3
    obtain ⟨n4, e4, _, z4⟩ := DataW.trod_int Tryd.underlying36 t4
    obtain ⟨b5, e5, _⟩ := DataW.trod_bool Tryd.underlying4 t5
    obtain ⟨s6, e6, _, z6⟩ := DataW.trod_string Tryd.underlying9 t6
    obtain ⟨s7, e7, _, z7⟩ := DataW.trod_string Tryd.underlying9 t7
    simp only [List.cons.injEq, and_true] at e0 e1 e2 e3 e4 e5 e6 e7
    subst e0; subst e1; subst e2; subst e3; subst e4; subst e5; subst e6; subst e7
    refine ⟨⟨s0, n1, n2, n3, n4, b5, s6, s7⟩, ⟨wf_i64 z1, wf_i64 z2, wf_i64 z3, wf_u64 z4, z6, z7, z0⟩, fun j hj => ?_⟩
    match j, hj with
    | 0, _ => exact c0
    | 1, _ => exact c1
    | 2, _ => exact c2
    | 3, _ => exact c3
    | 4, _ => exact c4
    | 5, _ => exact c5
    | 6, _ => exact c6
    | 7, _ => exact c7
    | k + 8, h => exact absurd h (by omega)

theorem good_ro {b o n : Nat} {C : Nat → Value} {H : List Ent} {w : World} (he : (Ent.ro b o n C).holds w) (hH : ∀ x ∈ H, x.wr = false) (h : X.Good H w) : X.Good (.ro b o n C :: H) w := by
  refine And.intro (fun x hx => ?_) (List.pairwise_cons.2 (And.intro (fun x hx hb => ?_) h.2))
  · cases List.mem_cons.1 hx with
    | inl q => rw [q]; exact he
    | inr q => exact h.1 x q
  · rw [show (Ent.ro b o n C).wr = false from rfl, hH x hx] at hb; cases hb
theorem good_no (w : World) : X.Good [] w := ⟨fun _ hx => (nomatch hx), .nil⟩

theorem acts_view {H : Type} {enc : TypeId × Value → H} {W : World} {base : Nat} {spare : Nat → Bool} {held : Bool} {fuel : Nat} {p : Option Addr} {len cap : Nat} {x : DataW H × List MemPlace}
    (h : DataW.trod enc Tryd.prog W base spare held fuel 22 (Value.slice p len cap).cells.toList = some x) : len = 0 ∨
    ∃ (b o : Nat) (f : Int → ActV), p = some ⟨b, o, none⟩ ∧ len ≤ cap ∧ (∀ z : Int, 0 ≤ z → z < len → (f z).ok) ∧ (Ent.ro b o (8 * len) (encActs f)).holds W := by
  by_cases hz : len = 0
  · exact .inl hz
  · rcases acts_open h with hcs | ⟨a, len', cap', hcs, hl, hi⟩
    · simp [Value.cells] at hcs
      omega
    · simp [Value.cells] at hcs
      obtain ⟨rfl, rfl, rfl⟩ := hcs
      obtain ⟨AA, hok, hg⟩ := acts_of (by omega) hi
      obtain ⟨x0, _, hx0⟩ := hi 0 (by omega)
      have hsp : a.spot = none := spot_of (hx0 0 (by omega))
      have e : a = ⟨a.block, a.off, none⟩ := by cases a; simp_all
      exact .inr ⟨a.block, a.off, AA, by rw [← e], hl, hok, hg.1 _ (by simp)⟩
set_option maxRecDepth 100000 in
theorem topPath_contract (H : Type) (enc : TypeId × Value → H) (W : World) (base : Nat) (args : Array Value) (ds gs : List (DataW H)) (before : List MemPlace)
    (hval : ∀ (j : Nat) t v, Tryd.f4.params[j]? = some t → args[j]? = some v → Value.okWide Tryd.prog W .any base t v)
    (hW : DataW.Whole enc Tryd.prog Tryd.f4.params.toList Rows.topPathSpec.vars false W args.toList ds gs before) :
    Calls Tryd.prog 4 args W fun e W' => ∃ v, e = .returned v ∧ Rows.topPathSpec.post enc Tryd.prog Tryd.f4 false true false false W args v W' := by
  have hW' := hW
  obtain ⟨p, q, hA0, hV, rfl, hfz, hnd⟩ := hW
  have hA : DataW.TrodAll enc Tryd.prog W 0 (fun _ => true) true Tryd.f4.params.toList args.toList ds p := hA0
  rw [Tryd.params4] at hA hval
  obtain ⟨v0, v1, v2, d0, d1, d2, pp0, pp1, pp2, rfl, rfl, rfl, h0, h1, h2⟩ := trodAll_three hA
  obtain ⟨rfl, rfl⟩ := trodVars_none hV
  obtain ⟨q0, len0, cap0, rfl⟩ := okWide_slice Tryd.underlying22 (hval 0 22 v0 rfl rfl)
  obtain ⟨z1, rfl⟩ := okWide_string Tryd.underlying9 (hval 1 9 v1 rfl rfl)
  obtain ⟨z2, rfl⟩ := okWide_string Tryd.underlying9 (hval 2 9 v2 rfl rfl)
  clear hA0
  simp only [List.append_nil, List.append_assoc] at hW'
  have hlt : ∀ x ∈ pp0 ++ (pp1 ++ (pp2)), x.block < W.heap.size := fun x hx => hW'.lt x hx
  have fin : Calls Tryd.prog 4 #[.slice q0 len0 cap0, .string z1, .string z2] W fun e w' => e = .returned (.bool true) ∧ Below W.heap.size W w' := by
    obtain ⟨fuel0, hf0⟩ := h0
    obtain ⟨fuel1, hf1⟩ := h1
    obtain ⟨fuel2, hf2⟩ := h2
    obtain ⟨y1, e1, _, wf1⟩ := DataW.trod_string Tryd.underlying9 hf1
    simp [Value.cells] at e1
    subst e1
    have hz1 : z1.size ≤ 9223372036854775807 := by simpa [maxLen] using wf1
    obtain ⟨y2, e2, _, wf2⟩ := DataW.trod_string Tryd.underlying9 hf2
    simp [Value.cells] at e2
    subst e2
    have hz2 : z2.size ≤ 9223372036854775807 := by simpa [maxLen] using wf2
    have s0 := acts_view hf0
    rcases s0 with rfl | ⟨b0, o0, f0, rfl, hl0, hw0, hr0⟩
    · skip
      exact below_of_spec (path_n q0 cap0 z1 hz1 z2 hz2) (by simp [Ent.wr]) (good_no W)
    · skip
      exact below_of_spec (path_s b0 o0 len0 cap0 hl0 f0 hw0 z1 hz1 z2 hz2) (by simp [Ent.wr]) (good_ro hr0 (by simp [Ent.wr]) (good_no W))
  refine fin.mono fun e W' ⟨he, hb⟩ => ?_
  subst he
  exact ⟨_, rfl, post_of_below (pa := pp0 ++ (pp1 ++ (pp2))) (pv := []) hW' (fun _ _ _ => trodAll_mk1 (shut_bool Tryd.underlying4 _))
    (fun sp hsp => trodAll_mk3 (WideElems.Trod_stays laidOut (by kernel_rfl) (of_decide_eq_true (by kernel_rfl)) h0 (fun x hx => hb.same (hlt x (List.mem_append.2 (.inl hx)))) (fun x hx => hsp x (List.mem_append.2 (.inl hx)))) (WideElems.Trod_stays laidOut (by kernel_rfl) (of_decide_eq_true (by kernel_rfl)) h1 (fun x hx => hb.same (hlt x (List.mem_append.2 (.inr (List.mem_append.2 (.inl hx)))))) (fun x hx => hsp x (List.mem_append.2 (.inr (List.mem_append.2 (.inl hx)))))) (WideElems.Trod_stays laidOut (by kernel_rfl) (of_decide_eq_true (by kernel_rfl)) h2 (fun x hx => hb.same (hlt x (List.mem_append.2 (.inr (List.mem_append.2 (.inr hx)))))) (fun x hx => hsp x (List.mem_append.2 (.inr (List.mem_append.2 (.inr hx)))))))
    (fun _ _ => rfl) (by simp) hb (ok_one (by kernel_rfl) rfl (okWide_bool_mk Tryd.underlying4 _))⟩

noncomputable def laidWorld (os : Os) : World :=
  { World.holding Tryd.prog os ⟨#[], #[], []⟩ with heap := (((World.holding Tryd.prog os ⟨#[], #[], []⟩).heap.modify 1 fun
      | .cells _ t frozen => .cells #[.int .u8 240, .int .u8 240, .int .u8 240, .int .u8 240, .int .u8 240, .int .u8 240, .int .u8 240, .int .u8 240, .int .u8 240, .int .u8 240, .int .u8 240, .int .u8 240, .int .u8 240, .int .u8 240, .int .u8 240, .int .u8 240, .int .u8 240, .int .u8 240, .int .u8 240, .int .u8 240, .int .u8 240, .int .u8 240, .int .u8 240, .int .u8 240, .int .u8 240, .int .u8 240, .int .u8 240, .int .u8 240, .int .u8 240, .int .u8 240, .int .u8 240, .int .u8 240, .int .u8 240, .int .u8 240, .int .u8 240, .int .u8 240, .int .u8 240, .int .u8 240, .int .u8 240, .int .u8 240, .int .u8 240, .int .u8 240, .int .u8 240, .int .u8 240, .int .u8 240, .int .u8 240, .int .u8 240, .int .u8 240, .int .u8 240, .int .u8 240, .int .u8 240, .int .u8 240, .int .u8 240, .int .u8 240, .int .u8 240, .int .u8 240, .int .u8 240, .int .u8 240, .int .u8 240, .int .u8 240, .int .u8 240, .int .u8 240, .int .u8 240, .int .u8 240, .int .u8 240, .int .u8 240, .int .u8 240, .int .u8 240, .int .u8 240, .int .u8 240, .int .u8 240, .int .u8 240, .int .u8 240, .int .u8 240, .int .u8 240, .int .u8 240, .int .u8 240, .int .u8 240, .int .u8 240, .int .u8 240, .int .u8 240, .int .u8 240, .int .u8 240, .int .u8 240, .int .u8 240, .int .u8 240, .int .u8 240, .int .u8 240, .int .u8 240, .int .u8 240, .int .u8 240, .int .u8 240, .int .u8 240, .int .u8 240, .int .u8 240, .int .u8 240, .int .u8 240, .int .u8 240, .int .u8 240, .int .u8 240, .int .u8 240, .int .u8 240, .int .u8 240, .int .u8 240, .int .u8 240, .int .u8 240, .int .u8 240, .int .u8 240, .int .u8 240, .int .u8 240, .int .u8 240, .int .u8 240, .int .u8 240, .int .u8 240, .int .u8 240, .int .u8 240, .int .u8 240, .int .u8 240, .int .u8 240, .int .u8 240, .int .u8 240, .int .u8 240, .int .u8 240, .int .u8 240, .int .u8 240, .int .u8 240, .int .u8 240, .int .u8 240, .int .u8 241, .int .u8 241, .int .u8 241, .int .u8 241, .int .u8 241, .int .u8 241, .int .u8 241, .int .u8 241, .int .u8 241, .int .u8 241, .int .u8 241, .int .u8 241, .int .u8 241, .int .u8 241, .int .u8 241, .int .u8 241, .int .u8 241, .int .u8 241, .int .u8 241, .int .u8 241, .int .u8 241, .int .u8 241, .int .u8 241, .int .u8 241, .int .u8 241, .int .u8 241, .int .u8 241, .int .u8 241, .int .u8 241, .int .u8 241, .int .u8 241, .int .u8 241, .int .u8 241, .int .u8 241, .int .u8 241, .int .u8 241, .int .u8 241, .int .u8 241, .int .u8 241, .int .u8 241, .int .u8 241, .int .u8 241, .int .u8 241, .int .u8 241, .int .u8 241, .int .u8 241, .int .u8 241, .int .u8 241, .int .u8 241, .int .u8 241, .int .u8 241, .int .u8 241, .int .u8 241, .int .u8 241, .int .u8 241, .int .u8 241, .int .u8 241, .int .u8 241, .int .u8 241, .int .u8 241, .int .u8 241, .int .u8 241, .int .u8 241, .int .u8 241, .int .u8 241, .int .u8 241, .int .u8 2, .int .u8 2, .int .u8 2, .int .u8 2, .int .u8 2, .int .u8 2, .int .u8 2, .int .u8 2, .int .u8 2, .int .u8 2, .int .u8 2, .int .u8 2, .int .u8 2, .int .u8 2, .int .u8 2, .int .u8 2, .int .u8 2, .int .u8 2, .int .u8 2, .int .u8 2, .int .u8 2, .int .u8 2, .int .u8 2, .int .u8 2, .int .u8 2, .int .u8 2, .int .u8 2, .int .u8 2, .int .u8 2, .int .u8 2, .int .u8 19, .int .u8 3, .int .u8 3, .int .u8 3, .int .u8 3, .int .u8 3, .int .u8 3, .int .u8 3, .int .u8 3, .int .u8 3, .int .u8 3, .int .u8 3, .int .u8 3, .int .u8 35, .int .u8 3, .int .u8 3, .int .u8 52, .int .u8 4, .int .u8 4, .int .u8 4, .int .u8 68, .int .u8 241, .int .u8 241, .int .u8 241, .int .u8 241, .int .u8 241, .int .u8 241, .int .u8 241, .int .u8 241, .int .u8 241, .int .u8 241, .int .u8 241] t frozen
      | o => o).modify 2 fun
      | .cells _ t frozen => .cells #[.int .u8 128, .int .u8 191, .int .u8 160, .int .u8 191, .int .u8 128, .int .u8 159, .int .u8 144, .int .u8 191, .int .u8 128, .int .u8 143, .int .u8 0, .int .u8 0, .int .u8 0, .int .u8 0, .int .u8 0, .int .u8 0, .int .u8 0, .int .u8 0, .int .u8 0, .int .u8 0, .int .u8 0, .int .u8 0, .int .u8 0, .int .u8 0, .int .u8 0, .int .u8 0, .int .u8 0, .int .u8 0, .int .u8 0, .int .u8 0, .int .u8 0, .int .u8 0] t frozen
      | o => o) }
theorem laid_met (os : Os) : laidMet Tryd.prog Rows.topPathRow.laid ((laidWorld os).forCall (fun _ _ => 0) ⟨#[], #[.slice none 0 0, .string ⟨#[]⟩, .string ⟨#[]⟩], []⟩).memory :=
  laidMet_of_run' 272 (by kernel_rfl) (by kernel_rfl)
theorem reads (os : Os) {H : Type} (enc : TypeId × Value → H) : ∃ places, DataW.whole enc Tryd.prog ((laidWorld os).forCall (fun _ _ => 0) ⟨#[], #[.slice none 0 0, .string ⟨#[]⟩, .string ⟨#[]⟩], []⟩).memory Tryd.f4.params.toList Rows.topPathSpec.vars false #[.slice none 0 0, .string ⟨#[]⟩, .string ⟨#[]⟩].toList 8 = some ([.nil, .lit (.string []), .lit (.string [])], [], places) :=
  ⟨[], by kernel_rfl⟩
set_option maxRecDepth 100000 in
theorem topPath_lifted (os : Os) (started : os.Started) (H : Type) (enc : TypeId × Value → H) (F : Stop.Interp) :
    ReturnsInHanded {} Tryd.checked os 4 .any ((OpenSpec.ofChange Rows.topPathSpec).preRow enc Tryd.prog Tryd.f4 Rows.topPathRow.domain false Rows.topPathRow.laid) (((OpenSpec.ofChange Rows.topPathSpec).at F).post enc Tryd.prog Tryd.f4 false true false false) := by
  obtain ⟨places, hx⟩ := reads os enc
  refine returnsInHanded_of_row (C := Tryd.checked) (s := OpenSpec.ofChange Rows.topPathSpec) own started (by kernel_rfl) Tryd.func4
    (witness_row_at (enc := enc) (C := Tryd.checked) false (laidWorld os) #[.slice none 0 0, .string ⟨#[]⟩, .string ⟨#[]⟩] rfl (by kernel_rfl) (by kernel_rfl) (by kernel_rfl)
      (OpenSpec.preRow_of_cond 8 hx (by kernel_rfl) (fun k hk => by cases hk) (by kernel_rfl) (laid_met os))) ?_
  intro W base args ds gs before hval hW _ _ _ _ _ _
  exact topPath_contract H enc W base args ds gs before hval hW
theorem topPath_said : Rows.TopPathSaid :=
  OpenClaim.holds_of_cond 4 Tryd.f4 rfl rfl rfl rfl rfl rfl rfl ⟨rfl, rfl, rfl, rfl, rfl⟩ rfl rfl rfl rfl rfl (by kernel_rfl) Tryd.func4 (by kernel_rfl)
    (of_decide_eq_true (by kernel_rfl)) (by unfold Func.isWrapper; first | (rw [if_pos (by decide +kernel)]; kernel_rfl) | (rw [if_neg (by decide +kernel)]; exact ⟨rfl, rfl⟩))
    (fun os started H enc _ F => by rw [OpenClaim.pre_eq_preRow]; exact topPath_lifted os started H enc F)
theorem topPath_fits (f : FuncId) (fn : Func) (hf : Tryd.pinned.checked.prog.funcNamed "wardroom/wardroomtop.TopPath" = some f) (hfn : Tryd.pinned.checked.prog.funcs[f]? = some fn) :
    false = Tryd.pinned.checked.prog.looks [] ∧ ∀ (j : Nat) t, fn.params[j]? = some t → Tryd.pinned.checked.prog.wantsStandIn t = false := by
  obtain rfl : f = 4 := Option.some.inj ((show Tryd.prog.funcNamed "wardroom/wardroomtop.TopPath" = some 4 by kernel_rfl).symm.trans hf) |>.symm
  obtain rfl : fn = Tryd.f4 := (Option.some.inj (Tryd.func4.symm.trans hfn)).symm
  refine ⟨by kernel_rfl, fun j t ht => ?_⟩
  rw [Tryd.params4] at ht
  have hm := Array.mem_of_getElem? ht
  simp at hm
  rcases hm with q | q
  · subst q; exact (show Tryd.prog.wantsStandIn 22 = false by kernel_rfl)
  · subst q; exact (show Tryd.prog.wantsStandIn 9 = false by kernel_rfl)
theorem topPath_card : Rows.TopPathCardSaid :=
  Claim7.holds_tied_plain_at .later [] _ _ _ _ topPath_said (fun _ h => by cases h) (by kernel_rfl) (fun _ h => by cases h) topPath_row_tie rfl ⟨rfl, rfl⟩ (by kernel_rfl) rfl topPath_fits (by kernel_rfl)

#print axioms topPath_card
end Go.Proofs.YtmklfkjfgjagaaaDoor
