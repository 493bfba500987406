import Derived.Test.YtpnddggohipdnaaDoorLM
import Derived.ProofKit
import Derived.OpenShut
import Derived.Below
import Derived.ChangeSame
import Derived.Deep.Slices
import Derived.Deep.Fields
namespace Go.X
open Go Go.ChangeShapes Go.WideShapes Go.Deep Go.RowKit Go.ChangeAt
/-! after the kit's pages on structs and on small lemmas -/
section
variable {H : Type} {enc : TypeId × Value → H} {P : Program} {w : World} {base : Nat} {spare : Nat → Bool} {held : Bool}
theorem open_slice_fields {t e : TypeId} {fs : Array Field} {fuel : Nat} {cs : List Value} {x : DataW H × List MemPlace} (ht : P.underlying t = some (.slice e)) (he : P.underlying e = some (.struct fs))
    (hone : oneCellFields P fs = true) (hC : P.cellsOf e = fs.size) (h : DataW.trod enc P w base spare held fuel t cs = some x) :
    (cs = [.slice none 0 0] ∧ x = (.nil, [])) ∨
    ∃ (a : Addr) (len cap m : Nat) (D : Nat → DataW H) (Pl : Nat → List MemPlace), cs = [.slice (some a) len cap] ∧ base ≤ a.block ∧ len ≤ cap ∧ cap ≤ maxLen ∧ m = (if spare a.block then cap else len) ∧
      x = (.slice ((List.range len).map D) ((List.range (m - len)).map fun j => D (len + j)), MemPlace.row a (m * fs.size) ++ (List.range m).flatMap Pl) ∧
      ∀ i, i < m → ∃ (ys : List (DataW H × List MemPlace)) (n : Nat), D i = .agg (ys.map (·.1)) ∧ Pl i = ys.flatMap (·.2) ∧ ys.length = fs.size ∧
        ∀ (j : Nat) (f : Field), fs[j]? = some f → ∃ (v : Value) (y : DataW H × List MemPlace), w.cell? (a.add (i * fs.size + j)) = some v ∧ ys[j]? = some y ∧ DataW.trod enc P w base spare held n f.type [v] = some y := by
  rcases open_slice ht h with h0 | ⟨a, len, cap, m, n, D, Pl, hcs, hb, hl, hm, hmm, hx, hi⟩
  · exact .inl h0
  · refine .inr ⟨a, len, cap, m, D, Pl, hcs, hb, hl, hm, hmm, by rw [hC] at hx; exact hx, fun i him => ?_⟩
    obtain ⟨cs', hc, ht'⟩ := hi i him
    rw [hC] at hc
    obtain ⟨ys, n', hn', hy, hlen, hyl, hf⟩ := DataW.trod_struct he ht'
    obtain ⟨_, hcl, hat⟩ := World.cells?_some hc
    simp only [Prod.mk.injEq] at hy
    refine ⟨ys, n', hy.1, hy.2, hyl, fun j f hj => ?_⟩
    obtain ⟨ho, hk⟩ := hone_of hone j f hj
    have hjl : j < fs.size := (Array.getElem?_eq_some_iff.1 hj).1
    have hcell := hat j hjl
    have hv : cs'[j]? = some (cs'[j]'(by omega)) := List.getElem?_eq_getElem (by omega)
    have h1 := hf j f hj
    rw [ho, hk] at h1
    have hone' : (cs'.drop j).take 1 = [cs'[j]'(by omega)] := by
      rw [List.drop_eq_getElem_cons (by omega)]
      rfl
    rw [hone'] at h1
    have hys : ys[j]? = some (ys[j]'(by omega)) := List.getElem?_eq_getElem (by omega)
    refine ⟨_, _, ?_, hys, h1.trans hys⟩
    rw [← Go.Deep.add_add, hcell, hv]
end
section
variable {H : Type} {enc : TypeId × Value → H} {P : Program}
theorem post_of_below {f : Func} {s : ChangeSpec} {apart fresh handsOn again : Bool} {W W' : World} {args : Array Value} {v : Value} {ds gs : List (DataW H)} {before pa pv : List MemPlace}
    (hW : DataW.Whole enc P f.params.toList s.vars apart W args.toList ds gs before)
    (hres : ∀ (b : Nat) (sp : Nat → Bool) (hd : Bool), DataW.TrodAll enc P W' b sp hd f.resultTypes.toList (v.resultList f.resultTypes.size) (s.fn H (ds ++ gs)).results [])
    (hargs : ∀ sp : Nat → Bool, (∀ p ∈ before, sp p.block = true) → DataW.TrodAll enc P W' 0 sp true f.params.toList args.toList (s.fn H (ds ++ gs)).args pa)
    (hvars : ∀ sp : Nat → Bool, (∀ p ∈ before, sp p.block = true) → DataW.TrodVars enc P W' sp s.vars (s.fn H (ds ++ gs)).vars pv)
    (hps : before = pa ++ pv) (hb : Below W.heap.size W W')
    (hok : ∀ (j : Nat) (t : TypeId) (r : Value), f.resultTypes[j]? = some t → (v.resultList f.resultTypes.size)[j]? = some r → Value.okWide P W' .any 0 t r) :
    s.post enc P f apart fresh handsOn again W args v W' := by
  have hlt : ∀ p ∈ before, p.block < W.heap.size := fun p hp => hW.lt p hp
  have hold : ∀ p ∈ before, (fun b => decide (b < W.heap.size)) p.block = true := fun p hp => by simpa using hlt p hp
  refine ⟨ds, gs, before, [], pa, pv, hW, hres _ _ _, hargs _ hold, hvars _ hold, World.keptBut_mono (fun p hp => ⟨hp, ?_⟩) (hb.frame (· ∈ before)), fun _ => ?_⟩
  · rw [hps, List.mem_append] at hp
    exact Or.inr hp
  · obtain ⟨_, _, _, _, _, hz, hn⟩ := hW
    refine ⟨hok, _, _, ([] ++ pa) ++ pv, ⟨[] ++ pa, pv, trodAll_append (hargs _ (fun _ _ => rfl)) (hres _ _ _), hvars _ (fun _ _ => rfl), rfl, ?_, ?_⟩, ?_⟩
    · intro b off hp
      have hin : MemPlace.cell b off ∈ before := by rw [hps]; simpa using hp
      rw [hb.frozen (hlt _ hin)]
      exact hz b off hin
    · intro ha
      have := hn ha
      rw [hps] at this
      simpa using this
    · intro p hp _
      rw [hps]
      simpa using hp
end

/-- a statement's contract, as the row wants it -/
theorem below_of_spec {P : Program} {f : FuncId} {args : List Value} {pre : List Ent} (hs : Spec P f args pre (fun v H1 => v = .bool true ∧ H1 = [])) (hro : ∀ e ∈ pre, e.wr = false) {w : World} (hg : Good pre w) :
    Calls P f args.toArray w fun e w' => e = .returned (.bool true) ∧ Below w.heap.size w w' := by
  refine (hs w hg).mono ?_
  rintro e w' ⟨v, H1, rfl, ⟨rfl, rfl⟩, _, hx⟩
  have hn : ∀ b o, ¬ foot pre b o := fun b o ⟨e, he, hew, _⟩ => by rw [hro e he] at hew; cases hew
  exact ⟨rfl, hx.keep.os, hx.keep.tape, hx.keep.output, hx.keep.size, fun k hk => hx.keep.same k hk (fun o => hn k o)⟩

theorem wf_i64 {n : Int} (h : (Lit.int .i64 n).wf = true) : -9223372036854775808 ≤ n ∧ n ≤ 9223372036854775807 := by
  simpa [Lit.wf, IntKind.min, IntKind.max, IntKind.signed, IntKind.bits] using h
theorem wf_u64 {n : Int} (h : (Lit.int .u64 n).wf = true) : 0 ≤ n ∧ n ≤ 18446744073709551615 := by
  simpa [Lit.wf, IntKind.min, IntKind.max, IntKind.signed, IntKind.bits] using h

theorem spot_of {w : World} {a : Addr} {v : Value} (h : w.cell? (a.add 0) = some v) : a.spot = none := by
  have h : w.cell? a = some v := h
  cases hsp : a.spot with
  | none => rfl
  | some s =>
    unfold World.cell? at h
    cases hb : w.heap[a.block]? with
    | none => simp [hb] at h
    | some o => cases o <;> simp [hb, hsp] at h
/-- a run of cells that reads, as an entry -/
theorem ro_of_cells {w : World} {a : Addr} {n : Nat} {C : Nat → Value} (hn : 0 < n) (h : ∀ i, i < n → w.cell? (a.add i) = some (C i)) : (Ent.ro a.block a.off n C).holds w := by
  have h0 := h 0 hn
  have h0' : w.cell? a = some (C 0) := h0
  have key : ∀ i, i < n → w.cell? ⟨a.block, a.off + i, none⟩ = some (C i) := fun i hi => by
    cases i with
    | zero =>
      have hs : a.spot = none := by
        cases hsp : a.spot with
        | none => rfl
        | some s =>
          unfold World.cell? at h0'
          cases hb : w.heap[a.block]? with
          | none => simp [hb] at h0'
          | some o => cases o <;> simp [hb, hsp] at h0'
      have : a = ⟨a.block, a.off, none⟩ := by cases a; simp_all
      rw [this] at h0'
      simpa using h0'
    | succ i => simpa [Addr.add] using h (i + 1) hi
  have k0 := key 0 hn
  unfold World.cell? at k0
  cases hb : w.heap[a.block]? with
  | none => simp [hb] at k0
  | some o =>
    cases o with
    | cells A t fz =>
      refine ⟨A, t, fz, hb, fun i hi => ?_⟩
      have := key i hi
      simpa [World.cell?, hb] using this
    | _ => simp [hb] at k0

/-- acts that read -/
theorem acts_of {w : World} {a : Addr} {len : Nat} (hlen : 0 < len) (h : ∀ i, i < len → ∃ x : ActV, x.ok ∧ ∀ j, j < 8 → w.cell? (a.add (i * 8 + j)) = some (encAct x j)) :
    ∃ A : Int → ActV, (∀ z : Int, 0 ≤ z → z < len → (A z).ok) ∧ Good [.ro a.block a.off (8 * len) (encActs A)] w := by
  classical
  let A : Int → ActV := fun z => if hz : z.toNat < len then Classical.choose (h z.toNat hz) else ⟨⟨#[]⟩, 0, 0, 0, 0, false, ⟨#[]⟩, ⟨#[]⟩⟩
  have hA : ∀ i : Nat, (hi : i < len) → A (i : Int) = Classical.choose (h i hi) := fun i hi => by simp [A, hi]
  refine ⟨A, fun z h0 h1 => ?_, fun e he => ?_, by simp⟩
  · have hz : z.toNat < len := by omega
    have : A z = A (z.toNat : Int) := by rw [show ((z.toNat : Nat) : Int) = z from by omega]
    rw [this, hA _ hz]
    exact (Classical.choose_spec (h z.toNat hz)).1
  · have : e = .ro a.block a.off (8 * len) (encActs A) := by simpa using he
    subst this
    refine ro_of_cells (by omega) fun i hi => ?_
    have hd : i / 8 < len := by omega
    have h1 := (Classical.choose_spec (h (i / 8) hd)).2 (i % 8) (by omega)
    rw [show i / 8 * 8 + i % 8 = i from by omega] at h1
    rw [h1]
    unfold encActs
    rw [hA _ hd]
end Go.X
