import Derived.Test.YtfpdkhncfkefhaaFO
namespace Go.X
open Go
namespace SF
def newU (s : SF) (n p w : Int) (h : Bool) : SF := ⟨fset s.here n h, fset s.par n p, fset s.wt n w, fset s.v n 0, fset s.ran n 0, fset s.awake n false, fset s.floor n 0, fset s.frz n false, fset s.quota n 0, fset s.period n 0, fset s.used n 0, s.now, fset s.was n false⟩
def addGE (s : SF) (n p w : Int) : Int := if n < 0 ∨ 10 ≤ n ∨ w < 1 ∨ 1000 < w then 1 else if s.here n = true then 3 else s.grE p
def addTE (s : SF) (n p w : Int) : Int := if n < 0 ∨ 20 ≤ n ∨ w < 1 ∨ 1000 < w then 1 else if s.here (10 + n) = true then 3 else s.grE p
def addG (s : SF) (n p w : Int) : SF := if s.addGE n p w = 0 then s.newU n p w true else s
def addT (s : SF) (n p w : Int) : SF := if s.addTE n p w = 0 then s.newU (10 + n) p w true else s
def anyU (s : SF) (n : Int) : Bool := (List.range 30).any (fun i => s.here (i : Int) && decide (s.par (i : Int) = n))
def dropGE (s : SF) (n : Int) : Int := if s.grE n ≠ 0 then s.grE n else if n = 0 ∨ s.anyU n = true then 5 else 0
def dropG (s : SF) (n : Int) : SF := if s.dropGE n = 0 then s.newU n 0 0 false else s
def wake (d : Int → Nat) (s : SF) (n : Int) (on : Bool) : SF := if s.tkE n = 0 then look d { s with awake := fset s.awake (10 + n) on } (10 + n) else s
def frzE (s : SF) (n : Int) : Int := if s.grE n ≠ 0 then s.grE n else if n = 0 then 8 else 0
def freeze (d : Int → Nat) (s : SF) (n : Int) (on : Bool) : SF := if s.frzE n = 0 then look d { s with frz := fset s.frz n on } n else s
def quoE (s : SF) (n q p : Int) : Int := if s.grE n ≠ 0 then s.grE n else if n = 0 then 8 else if q < 0 ∨ p < 1 ∨ 100 < p ∨ p < q then 1 else 0
def quo1 (s : SF) (n q p : Int) : SF := { s with quota := fset s.quota n q, period := fset s.period n p, used := fset s.used n 0 }
def setQ (d : Int → Nat) (s : SF) (n q p : Int) : SF := if s.quoE n q p = 0 then look d (s.quo1 n q p) n else s
def dropT (d : Int → Nat) (s : SF) (n : Int) : SF := if s.tkE n = 0 then (s.wake d n false).newU (10 + n) 0 0 false else s
def moveE (s : SF) (n g : Int) : Int := if s.tkE n ≠ 0 then s.tkE n else s.grE g
def mv1 (d : Int → Nat) (s : SF) (n g : Int) : SF := { s.wake d n false with par := fset (s.wake d n false).par (10 + n) g, v := fset (s.wake d n false).v (10 + n) 0, awake := fset (s.wake d n false).awake (10 + n) (s.awake (10 + n)) }
def move (d : Int → Nat) (s : SF) (n g : Int) : SF := if s.moveE n g = 0 then look (fset d (10 + n) (d g + 1)) (mv1 d s n g) (10 + n) else s
theorem anyU_true (s : SF) (n : Int) : s.anyU n = true ↔ ∃ i : Int, 0 ≤ i ∧ i < 30 ∧ s.here i = true ∧ s.par i = n := by
  unfold anyU
  simp only [List.any_eq_true, List.mem_range, Bool.and_eq_true, decide_eq_true_eq]
  constructor
  · rintro ⟨k, h1, h2, h3⟩; exact ⟨(k : Int), by omega, by omega, h2, h3⟩
  · rintro ⟨k, h1, h2, h3, h4⟩
    refine ⟨k.toNat, by omega, ?_⟩
    rw [show ((k.toNat : Nat) : Int) = k from by omega]; exact ⟨h3, h4⟩
theorem anyU_of {s : SF} {n k : Int} (h0 : 0 ≤ k) (h1 : k < 30) (h2 : s.here k = true) (h3 : s.par k = n) : s.anyU n = true := (s.anyU_true n).2 ⟨k, h0, h1, h2, h3⟩
theorem anyU_no {s : SF} {n : Int} (h : ∀ j : Int, 0 ≤ j → j < 30 → ¬ (s.here j = true ∧ s.par j = n)) : s.anyU n = false := by
  cases hk : s.anyU n with
  | false => rfl
  | true => obtain ⟨k, h0, h1, h2, h3⟩ := (s.anyU_true n).1 hk; exact absurd ⟨h2, h3⟩ (h k h0 h1)
theorem grE_0 {s : SF} {n : Int} (h : s.grE n = 0) : 0 ≤ n ∧ n < 10 ∧ s.here n = true := by
  unfold grE at h
  split at h
  · omega
  · split at h
    · exact ⟨by omega, by omega, by assumption⟩
    · omega
theorem grE_of {s : SF} {n : Int} (h0 : 0 ≤ n) (h1 : n < 10) (h2 : s.here n = true) : s.grE n = 0 := by unfold grE; rw [if_neg (by omega), if_pos h2]
theorem tkE_0 {s : SF} {n : Int} (h : s.tkE n = 0) : 0 ≤ n ∧ n < 20 ∧ s.here (10 + n) = true := by
  unfold tkE at h
  split at h
  · omega
  · split at h
    · exact ⟨by omega, by omega, by assumption⟩
    · omega
theorem tkE_of {s : SF} {n : Int} (h0 : 0 ≤ n) (h1 : n < 20) (h2 : s.here (10 + n) = true) : s.tkE n = 0 := by unfold tkE; rw [if_neg (by omega), if_pos h2]
theorem lookF_keeps : ∀ (k : Nat) (s : SF) (n : Int), (lookF k s n).here = s.here ∧ (lookF k s n).par = s.par ∧ (lookF k s n).wt = s.wt ∧ (lookF k s n).ran = s.ran ∧ (lookF k s n).awake = s.awake ∧ (lookF k s n).floor = s.floor ∧ (lookF k s n).frz = s.frz ∧ (lookF k s n).quota = s.quota ∧ (lookF k s n).period = s.period ∧ (lookF k s n).used = s.used ∧ (lookF k s n).now = s.now
  | 0, s, n => ⟨rfl, rfl, rfl, rfl, rfl, rfl, rfl, rfl, rfl, rfl, rfl⟩
  | k + 1, s, n => by
    by_cases h : n ≤ 0
    · rw [lookF_stop _ _ h]; exact ⟨rfl, rfl, rfl, rfl, rfl, rfl, rfl, rfl, rfl, rfl, rfl⟩
    · rw [lookF_go _ _ (by omega)]
      exact lookF_keeps k (s.stp n) (s.par n)
theorem lookF_inv {d : Int → Nat} : ∀ (k : Nat) (s : SF) (n : Int), s.Inv d → (n = 0 ∨ (0 < n ∧ n < 30 ∧ s.here n = true)) → (lookF k s n).Inv d
  | 0, s, n, h, _ => h
  | k + 1, s, n, h, hn => by
    rcases hn with rfl | ⟨n0, n1, n2⟩
    · rw [lookF_stop _ _ (by omega)]; exact h
    · rw [lookF_go _ _ n0]
      obtain ⟨p0, p1, p2, _⟩ := h.up n n0 n1 n2
      refine lookF_inv k (s.stp n) (s.par n) (h.stp n0 n1 n2) ?_
      by_cases c : s.par n = 0
      · exact .inl c
      · exact .inr ⟨by omega, by omega, p2⟩
/-- all units but those above some one stand as they should -/
def Settled (s : SF) : Prop := ∀ n, 0 < n → n < 30 → s.here n = true → s.was n = s.ready n
end SF
def unitArr (u : encS.U) : Array Value := ((List.range 76).map (encS.cell u)).toArray
abbrev freshU (h : Bool) (p w : Int) : encS.U := ⟨h, p, w, 0, 0, false, 0, false, 0, 0, 0, QS.void, none, 0⟩
theorem one_ite {c : Prop} [Decidable c] {a b : Value} (h1 : c → one a = true) (h2 : ¬ c → one b = true) : one (if c then a else b) = true := by
  by_cases h : c
  · rw [if_pos h]; exact h1 h
  · rw [if_neg h]; exact h2 h
theorem encQ_one (s : QS) (p : Option Addr) (c i : Nat) (hi : i < 65) : one (encQ s p c i) = true := one_ite (fun _ => rfl) (fun _ => one_ite (fun _ => rfl) (fun h => absurd hi h))
theorem cell_one (u : encS.U) (j : Nat) (hj : j < 76) : one (encS.cell u j) = true :=
  one_ite (fun _ => rfl) (fun _ => one_ite (fun _ => rfl) (fun _ => one_ite (fun _ => rfl) (fun _ => one_ite (fun _ => rfl) (fun _ => one_ite (fun _ => rfl) (fun _ => one_ite (fun _ => rfl) (fun _ => one_ite (fun c => encQ_one _ _ _ _ (by omega)) (fun _ => one_ite (fun _ => rfl) (fun _ => one_ite (fun _ => rfl) (fun _ => one_ite (fun _ => rfl) (fun _ => one_ite (fun _ => rfl) (fun _ => one_ite (fun _ => rfl) (fun _ => by exact absurd hj (by omega)))))))))))))
theorem unitArr_ok (u : encS.U) : (unitArr u).toList.all one = true ∧ (unitArr u).size = 76 := by
  refine ⟨List.all_eq_true.2 fun x hx => ?_, by simp [unitArr]⟩
  simp only [unitArr, List.mem_map, List.mem_range] at hx
  obtain ⟨j, hj, rfl⟩ := hx
  exact cell_one u j hj
theorem encS_new (s : SC) (z p w : Int) (h : Bool) (hz : 0 ≤ z ∧ z < 30) : 0 + 0 + z.toNat * 76 + 76 ≤ 2281 ∧ updL (encS s) (0 + 0 + z.toNat * 76) (unitArr (freshU h p w)).toList = encS ⟨s.toSF.newU z p w h, fset s.Q z QS.void, fset s.P z none, fset s.C z 0⟩ :=
  encS.setL s ⟨s.toSF.newU z p w h, fset s.Q z QS.void, fset s.P z none, fset s.C z 0⟩ z hz _ (by simp [unitArr]) (fun j hj => by
    have e : encS.un ⟨s.toSF.newU z p w h, fset s.Q z QS.void, fset s.P z none, fset s.C z 0⟩ z = freshU h p w := by
      unfold encS.un SF.newU
      simp only [fset_eq]
    rw [e]
    simp [unitArr, hj]) (fun y hy => by
    unfold encS.un SF.newU
    simp only [fset_ne _ _ hy]) rfl
theorem SC.Rep.new {s : SC} (h : s.Rep) {z : Int} (hw : s.was z = false) (hk : ∀ i, s.was i = true → s.par i ≠ z) (p w : Int) (hh : Bool) : SC.Rep ⟨s.toSF.newU z p w hh, fset s.Q z QS.void, fset s.P z none, fset s.C z 0⟩ := fun g g0 g1 => by
  show QRel (fset s.Q z QS.void g) ((s.toSF.newU z p w hh).mq g)
  by_cases c : g = z
  · subst c
    rw [fset_eq]
    refine QRel.void.ext (fun i _ _ => ?_) (fun i _ _ hi => by cases hi)
    show (fset s.was g false i && decide (fset s.par g p i = g)) = false
    by_cases ci : i = g
    · subst ci; rw [fset_eq]; rfl
    · rw [fset_ne _ _ ci, fset_ne _ _ ci]
      cases q : s.was i with
      | false => rfl
      | true => simp [hk i q]
  · rw [fset_ne _ _ c]
    refine (h g g0 g1).ext (fun i _ _ => ?_) (fun i _ _ hi => ?_)
    · show (fset s.was z false i && decide (fset s.par z p i = g)) = (s.was i && decide (s.par i = g))
      by_cases ci : i = z
      · subst ci; rw [fset_eq, hw]; rfl
      · rw [fset_ne _ _ ci, fset_ne _ _ ci]
    · show fset s.v z 0 i = s.v i
      have ci : ¬ i = z := fun e => by
        subst e
        have := ((SF.mq_inn _ _ _).1 hi).1
        rw [hw] at this; cases this
      rw [fset_ne _ _ ci]
def SF.void : SF := ⟨fun _ => false, fun _ => 0, fun _ => 0, fun _ => 0, fun _ => 0, fun _ => false, fun _ => 0, fun _ => false, fun _ => 0, fun _ => 0, fun _ => 0, 0, fun _ => false⟩
def SC.void : SC := ⟨SF.void, fun _ => QS.void, fun _ => none, fun _ => 0⟩
def arrS : Array Value := ((List.range 2281).map (encS SC.void)).toArray
theorem arrS_size : arrS.size = 2281 := by simp [arrS]
theorem arrS_box : ∀ i, i < 2281 → cellsOf arrS i = encS SC.void i := fun i hi => by simp [cellsOf, arrS, hi]
def SF.init : SF := SF.void.newU 0 (-1) 1 true
theorem SC.Rep.void : SC.void.Rep := fun g _ _ => QRel.void.ext (fun i _ _ => rfl) (fun i _ _ hi => by cases hi)

end Go.X
