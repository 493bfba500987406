/- who is moved keeps what is in it, and no node comes or goes; for all arguments -/
import Derived.Test.YtmklfkjfgjagaaaRows
import Derived.WalkKit
import Derived.Test.YtmklfkjfgjagaaaXClose
import Derived.Test.YtmklfkjfgjagaaaNM2
namespace Go.Proofs.Ytmklfkjfgjagaaa
open Go Go.ChangeShapes Go.WideShapes Go.ChangeAt Go.RowKit Go.Deep Go.X

theorem own : ownKnob Try.prog.godebug = none := by kernel_rfl
theorem laidOut : laidOutB Try.prog = true := by kernel_rfl
theorem acts_open {H : Type} {enc : TypeId × Value → H} {W : World} {base : Nat} {spare : Nat → Bool} {held : Bool} {fuel : Nat} {cs : List Value} {x : DataW H × List MemPlace}
    (h : DataW.trod enc Try.prog W base spare held fuel 22 cs = some x) : cs = [.slice none 0 0] ∨
    ∃ (a : Addr) (len cap : Nat), cs = [.slice (some a) len cap] ∧ len ≤ cap ∧ ∀ i, i < len → ∃ x : ActV, x.ok ∧ ∀ j, j < 8 → W.cell? (a.add (i * 8 + j)) = some (encAct x j) := by
  rcases open_slice_fields Try.underlying22 Try.underlying38 (by kernel_rfl) (by kernel_rfl) h with ⟨h0, _⟩ | ⟨a, len, cap, m, D, Pl, hcs, _, hl, _, hm, _, hi⟩
  · exact .inl h0
  · refine .inr ⟨a, len, cap, hcs, hl, fun i hil => ?_⟩
    have him : i < m := by rw [hm]; split <;> omega
    obtain ⟨ys, n, _, _, _, hf⟩ := hi i him
    obtain ⟨v0, y0, c0, _, t0⟩ := hf 0 _ rfl
    obtain ⟨v1, y1, c1, _, t1⟩ := hf 1 _ rfl
    obtain ⟨v2, y2, c2, _, t2⟩ := hf 2 _ rfl
    obtain ⟨v3, y3, c3, _, t3⟩ := hf 3 _ rfl
    obtain ⟨v4, y4, c4, _, t4⟩ := hf 4 _ rfl
    obtain ⟨v5, y5, c5, _, t5⟩ := hf 5 _ rfl
    obtain ⟨v6, y6, c6, _, t6⟩ := hf 6 _ rfl
    obtain ⟨v7, y7, c7, _, t7⟩ := hf 7 _ rfl
    obtain ⟨s0, e0, _, z0⟩ := DataW.trod_string Try.underlying9 t0
    obtain ⟨n1, e1, _, z1⟩ := DataW.trod_int Try.underlying3 t1
    obtain ⟨n2, e2, _, z2⟩ := DataW.trod_int Try.underlying3 t2
    obtain ⟨n3, e3, _, z3⟩ := DataW.trod_int Try.underlying3 t3
    obtain ⟨n4, e4, _, z4⟩ := DataW.trod_int Try.underlying36 t4
    obtain ⟨b5, e5, _⟩ := DataW.trod_bool Try.underlying4 t5
    obtain ⟨s6, e6, _, z6⟩ := DataW.trod_string Try.underlying9 t6
    obtain ⟨s7, e7, _, z7⟩ := DataW.trod_string Try.underlying9 t7
    simp only [List.cons.injEq, and_true] at e0 e1 e2 e3 e4 e5 e6 e7
    subst e0; subst e1; subst e2; subst e3; subst e4; subst e5; subst e6; subst e7
    refine ⟨⟨s0, n1, n2, n3, n4, b5, s6, s7⟩, ⟨wf_i64 z1, wf_i64 z2, wf_i64 z3, wf_u64 z4, z6, z7, z0⟩, fun j hj => ?_⟩
    match j, hj with
    | 0, _ => exact c0
    | 1, _ => exact c1
    | 2, _ => exact c2
    | 3, _ => exact c3
    | 4, _ => exact c4
    | 5, _ => exact c5
    | 6, _ => exact c6
    | 7, _ => exact c7
    | k + 8, h => exact absurd h (by omega)

theorem good_ro {b o n : Nat} {C : Nat → Value} {H : List Ent} {w : World} (he : (Ent.ro b o n C).holds w) (hH : ∀ x ∈ H, x.wr = false) (h : X.Good H w) : X.Good (.ro b o n C :: H) w := by
  refine And.intro (fun x hx => ?_) (List.pairwise_cons.2 (And.intro (fun x hx hb => ?_) h.2))
  · cases List.mem_cons.1 hx with
    | inl q => rw [q]; exact he
    | inr q => exact h.1 x q
  · rw [show (Ent.ro b o n C).wr = false from rfl, hH x hx] at hb; cases hb
theorem good_no (w : World) : X.Good [] w := ⟨fun _ hx => (nomatch hx), .nil⟩
theorem trodAll_n5 {H : Type} {enc : TypeId × Value → H} {P : Program} {w : World} {base : Nat} {spare : Nat → Bool} {held : Bool} {t0 t1 t2 t3 t4 : TypeId} {args : Array Value} {ds : List (DataW H)} {ps : List MemPlace} (h : DataW.TrodAll enc P w base spare held [t0, t1, t2, t3, t4] args.toList ds ps) :
    ∃ v0 v1 v2 v3 v4 d0 d1 d2 d3 d4 p0 p1 p2 p3 p4, args = #[v0, v1, v2, v3, v4] ∧ ds = [d0, d1, d2, d3, d4] ∧ ps = p0 ++ (p1 ++ (p2 ++ (p3 ++ (p4)))) ∧ DataW.Trod enc P w base spare held t0 v0 d0 p0 ∧ DataW.Trod enc P w base spare held t1 v1 d1 p1 ∧ DataW.Trod enc P w base spare held t2 v2 d2 p2 ∧ DataW.Trod enc P w base spare held t3 v3 d3 p3 ∧ DataW.Trod enc P w base spare held t4 v4 d4 p4 := by
  obtain ⟨v0, w0, d0, e0, p0, q0, hargs, rfl, rfl, h0, r0⟩ := trodAll_cons h
  obtain ⟨v1, w1, d1, e1, p1, q1, rfl, rfl, rfl, h1, r1⟩ := trodAll_cons r0
  obtain ⟨v2, w2, d2, e2, p2, q2, rfl, rfl, rfl, h2, r2⟩ := trodAll_cons r1
  obtain ⟨v3, w3, d3, e3, p3, q3, rfl, rfl, rfl, h3, r3⟩ := trodAll_cons r2
  obtain ⟨v4, w4, d4, e4, p4, q4, rfl, rfl, rfl, h4, r4⟩ := trodAll_cons r3
  obtain ⟨rfl, rfl, rfl⟩ := trodAll_nil r4
  exact ⟨v0, v1, v2, v3, v4, d0, d1, d2, d3, d4, p0, p1, p2, p3, p4, by cases args; simp_all, rfl, by simp, h0, h1, h2, h3, h4⟩
theorem trodAll_mk5 {H : Type} {enc : TypeId × Value → H} {P : Program} {w : World} {base : Nat} {spare : Nat → Bool} {held : Bool} {t0 t1 t2 t3 t4 : TypeId} {v0 v1 v2 v3 v4 : Value} {d0 d1 d2 d3 d4 : DataW H} {p0 p1 p2 p3 p4 : List MemPlace} (h0 : DataW.Trod enc P w base spare held t0 v0 d0 p0) (h1 : DataW.Trod enc P w base spare held t1 v1 d1 p1) (h2 : DataW.Trod enc P w base spare held t2 v2 d2 p2) (h3 : DataW.Trod enc P w base spare held t3 v3 d3 p3) (h4 : DataW.Trod enc P w base spare held t4 v4 d4 p4) : DataW.TrodAll enc P w base spare held [t0, t1, t2, t3, t4] [v0, v1, v2, v3, v4] [d0, d1, d2, d3, d4] (p0 ++ (p1 ++ (p2 ++ (p3 ++ (p4))))) :=
  ⟨p0, _, h0, ⟨p1, _, h1, ⟨p2, _, h2, ⟨p3, _, h3, trodAll_mk1 h4, rfl⟩, rfl⟩, rfl⟩, rfl⟩

theorem acts_view {H : Type} {enc : TypeId × Value → H} {W : World} {base : Nat} {spare : Nat → Bool} {held : Bool} {fuel : Nat} {p : Option Addr} {len cap : Nat} {x : DataW H × List MemPlace}
    (h : DataW.trod enc Try.prog W base spare held fuel 22 (Value.slice p len cap).cells.toList = some x) : len = 0 ∨
    ∃ (b o : Nat) (f : Int → ActV), p = some ⟨b, o, none⟩ ∧ len ≤ cap ∧ (∀ z : Int, 0 ≤ z → z < len → (f z).ok) ∧ (Ent.ro b o (8 * len) (encActs f)).holds W := by
  by_cases hz : len = 0
  · exact .inl hz
  · rcases acts_open h with hcs | ⟨a, len', cap', hcs, hl, hi⟩
    · simp [Value.cells] at hcs
      omega
    · simp [Value.cells] at hcs
      obtain ⟨rfl, rfl, rfl⟩ := hcs
      obtain ⟨AA, hok, hg⟩ := acts_of (by omega) hi
      obtain ⟨x0, _, hx0⟩ := hi 0 (by omega)
      have hsp : a.spot = none := spot_of (hx0 0 (by omega))
      have e : a = ⟨a.block, a.off, none⟩ := by cases a; simp_all
      exact .inr ⟨a.block, a.off, AA, by rw [← e], hl, hok, hg.1 _ (by simp)⟩
set_option maxRecDepth 100000 in
theorem topMove_contract (H : Type) (enc : TypeId × Value → H) (W : World) (base : Nat) (args : Array Value) (ds gs : List (DataW H)) (before : List MemPlace)
    (hval : ∀ (j : Nat) t v, Try.f4.params[j]? = some t → args[j]? = some v → Value.okWide Try.prog W .any base t v)
    (hW : DataW.Whole enc Try.prog Try.f4.params.toList Rows.topMoveSpec.vars false W args.toList ds gs before) :
    Calls Try.prog 4 args W fun e W' => ∃ v, e = .returned v ∧ Rows.topMoveSpec.post enc Try.prog Try.f4 false true false false W args v W' := by
  have hW' := hW
  obtain ⟨p, q, hA0, hV, rfl, hfz, hnd⟩ := hW
  have hA : DataW.TrodAll enc Try.prog W 0 (fun _ => true) true Try.f4.params.toList args.toList ds p := hA0
  rw [Try.params4] at hA hval
  obtain ⟨v0, v1, v2, v3, v4, d0, d1, d2, d3, d4, pp0, pp1, pp2, pp3, pp4, rfl, rfl, rfl, h0, h1, h2, h3, h4⟩ := trodAll_n5 hA
  obtain ⟨rfl, rfl⟩ := trodVars_none hV
  obtain ⟨q0, len0, cap0, rfl⟩ := okWide_slice Try.underlying22 (hval 0 22 v0 rfl rfl)
  obtain ⟨z1, rfl⟩ := okWide_int Try.underlying3 (hval 1 3 v1 rfl rfl)
  obtain ⟨z2, rfl⟩ := okWide_string Try.underlying9 (hval 2 9 v2 rfl rfl)
  obtain ⟨z3, rfl⟩ := okWide_int Try.underlying3 (hval 3 3 v3 rfl rfl)
  obtain ⟨z4, rfl⟩ := okWide_string Try.underlying9 (hval 4 9 v4 rfl rfl)
  clear hA0
  simp only [List.append_nil] at hW'
  have hlt : ∀ x ∈ pp0 ++ (pp1 ++ (pp2 ++ (pp3 ++ (pp4)))), x.block < W.heap.size := fun x hx => hW'.lt x hx
  have fin : Calls Try.prog 4 #[.slice q0 len0 cap0, .int .i64 z1, .string z2, .int .i64 z3, .string z4] W fun e w' => e = .returned (.bool true) ∧ Below W.heap.size W w' := by
    obtain ⟨fuel0, hf0⟩ := h0
    obtain ⟨fuel1, hf1⟩ := h1
    obtain ⟨fuel2, hf2⟩ := h2
    obtain ⟨fuel3, hf3⟩ := h3
    obtain ⟨fuel4, hf4⟩ := h4
    obtain ⟨y1, e1, _, wf1⟩ := DataW.trod_int Try.underlying3 hf1
    simp [Value.cells] at e1
    subst e1
    have hz1 := wf_i64 wf1
    obtain ⟨y3, e3, _, wf3⟩ := DataW.trod_int Try.underlying3 hf3
    simp [Value.cells] at e3
    subst e3
    have hz3 := wf_i64 wf3
    obtain ⟨y2, e2, _, wf2⟩ := DataW.trod_string Try.underlying9 hf2
    simp [Value.cells] at e2
    subst e2
    have hz2 : z2.size ≤ 9223372036854775807 := by simpa [maxLen] using wf2
    obtain ⟨y4, e4, _, wf4⟩ := DataW.trod_string Try.underlying9 hf4
    simp [Value.cells] at e4
    subst e4
    have hz4 : z4.size ≤ 9223372036854775807 := by simpa [maxLen] using wf4
    have s0 := acts_view hf0
    rcases s0 with rfl | ⟨b0, o0, f0, rfl, hl0, hw0, hr0⟩
    · skip
      exact below_of_spec (mv_n q0 cap0 z1 hz1 z2 hz2 z3 hz3 z4 hz4) (by simp [Ent.wr]) (good_no W)
    · skip
      exact below_of_spec (mv_s b0 o0 len0 cap0 hl0 f0 hw0 z1 hz1 z2 hz2 z3 hz3 z4 hz4) (by simp [Ent.wr]) (good_ro hr0 (by simp [Ent.wr]) (good_no W))
  refine fin.mono fun e W' ⟨he, hb⟩ => ?_
  subst he
  exact ⟨_, rfl, post_of_below (pa := pp0 ++ (pp1 ++ (pp2 ++ (pp3 ++ (pp4))))) (pv := []) hW' (fun _ _ _ => trodAll_mk1 (shut_bool Try.underlying4 _))
    (fun sp hsp => trodAll_mk5 (WideElems.Trod_stays laidOut (by kernel_rfl) (of_decide_eq_true (by kernel_rfl)) h0 (fun x hx => hb.same (hlt x (List.mem_append.2 (.inl hx)))) (fun x hx => hsp x (List.mem_append.2 (.inl hx)))) (WideElems.Trod_stays laidOut (by kernel_rfl) (of_decide_eq_true (by kernel_rfl)) h1 (fun x hx => hb.same (hlt x (List.mem_append.2 (.inr (List.mem_append.2 (.inl hx)))))) (fun x hx => hsp x (List.mem_append.2 (.inr (List.mem_append.2 (.inl hx)))))) (WideElems.Trod_stays laidOut (by kernel_rfl) (of_decide_eq_true (by kernel_rfl)) h2 (fun x hx => hb.same (hlt x (List.mem_append.2 (.inr (List.mem_append.2 (.inr (List.mem_append.2 (.inl hx)))))))) (fun x hx => hsp x (List.mem_append.2 (.inr (List.mem_append.2 (.inr (List.mem_append.2 (.inl hx)))))))) (WideElems.Trod_stays laidOut (by kernel_rfl) (of_decide_eq_true (by kernel_rfl)) h3 (fun x hx => hb.same (hlt x (List.mem_append.2 (.inr (List.mem_append.2 (.inr (List.mem_append.2 (.inr (List.mem_append.2 (.inl hx)))))))))) (fun x hx => hsp x (List.mem_append.2 (.inr (List.mem_append.2 (.inr (List.mem_append.2 (.inr (List.mem_append.2 (.inl hx)))))))))) (WideElems.Trod_stays laidOut (by kernel_rfl) (of_decide_eq_true (by kernel_rfl)) h4 (fun x hx => hb.same (hlt x (List.mem_append.2 (.inr (List.mem_append.2 (.inr (List.mem_append.2 (.inr (List.mem_append.2 (.inr hx)))))))))) (fun x hx => hsp x (List.mem_append.2 (.inr (List.mem_append.2 (.inr (List.mem_append.2 (.inr (List.mem_append.2 (.inr hx)))))))))))
    (fun _ _ => rfl) (by simp) hb (ok_one (by kernel_rfl) rfl (okWide_bool_mk Try.underlying4 _))⟩
set_option maxRecDepth 100000 in
theorem topMove_lifted (os : Os) (started : os.Started) (H : Type) (enc : TypeId × Value → H) :
    ReturnsInHanded {} Try.checked os 4 .any (Rows.topMoveSpec.pre6 enc Try.prog Try.f4 Rows.topMoveRow.domain false) (Rows.topMoveSpec.post enc Try.prog Try.f4 false true false false) := by
  refine returnsInHanded_of_change (C := Try.checked) own started (by kernel_rfl) Try.func4
    (ChangeSpec.witness6 (enc := enc) (C := Try.checked) false ⟨#[], #[.slice none 0 0, .int .i64 0, .string ⟨#[]⟩, .int .i64 0, .string ⟨#[]⟩], []⟩ 8 (by kernel_rfl) (by kernel_rfl) (by kernel_rfl) (by kernel_rfl)) ?_
  intro W base args ds gs before hval hW _ _
  exact topMove_contract H enc W base args ds gs before hval hW

theorem topMove_holds : Rows.TopMoveSaid :=
  OpenClaim.holds_of_wide 4 Try.f4 rfl rfl rfl rfl rfl rfl rfl ⟨rfl, rfl, rfl, rfl, rfl⟩ rfl rfl rfl rfl rfl (by kernel_rfl) Try.func4 (by kernel_rfl)
    (of_decide_eq_true (by kernel_rfl)) (by unfold Func.isWrapper; first | (rw [if_pos (by decide +kernel)]; kernel_rfl) | (rw [if_neg (by decide +kernel)]; exact ⟨rfl, rfl⟩))
    (fun os started H enc _ => topMove_lifted os started H enc)

#print axioms topMove_holds
end Go.Proofs.Ytmklfkjfgjagaaa
