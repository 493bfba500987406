import Derived.Test.YtojlnbjpiccliaaQRM
import Derived.Test.YtojlnbjpiccliaaXSort
namespace Go.X
open Go
/-! ### the queue's list, sorted -/
def enc2 (x : Int × Int) : List Value := [.int .u64 x.1, .int .i64 x.2]
def cmp2 (x y : Int × Int) : Int := if lt2 x.1 x.2 y.1 y.2 then -1 else 1
theorem cmp2_lt (x y : Int × Int) : Go.Proofs.ltOf cmp2 x y = decide (lt2 x.1 x.2 y.1 y.2) := by
  unfold Go.Proofs.ltOf cmp2
  by_cases h : lt2 x.1 x.2 y.1 y.2
  · simp [h]
  · simp [h]
theorem cmp2_swo : Sort.SWO (Go.Proofs.ltOf cmp2) where
  irrefl x := by rw [cmp2_lt]; simp [lt2]
  trans x y z h1 h2 := by rw [cmp2_lt] at *; simp only [decide_eq_true_eq] at *; unfold lt2 at *; omega
  ntrans x y z h1 h2 := by rw [cmp2_lt] at *; simp only [decide_eq_false_iff_not] at *; unfold lt2 at *; omega
def ofArr (d : Array (Int × Int)) : QS := ⟨d.size, fun j => (d[j.toNat]!).1, fun j => (d[j.toNat]!).2, fun _ => 0⟩
def parr (s : QS) : Array (Int × Int) := ((List.range s.n).map fun (j : Nat) => (s.K (j : Int), s.I (j : Int))).toArray
theorem parr_size (s : QS) : (parr s).size = s.n := by simp [parr]
theorem parr_at (s : QS) {j : Nat} (h : j < s.n) : (parr s)[j]! = (s.K (j : Int), s.I (j : Int)) := by simp [parr, h]
theorem flat_of (d : Array (Int × Int)) : (Sort.flatK enc2 2 d).toList = newsOf (encH (ofArr d)) (d.size * 2) := by
  unfold Sort.flatK newsOf
  rw [Array.toList_map, Array.toList_range]
  apply List.map_congr_left
  intro t ht
  have ht2 : t < d.size * 2 := by simpa using ht
  have h3 : ((t / 2 : Nat) : Int).toNat = t / 2 := by omega
  unfold encH ofArr enc2
  by_cases h : t % 2 = 0
  · simp only [h, if_true, h3]; rfl
  · have h4 : t % 2 = 1 := by omega
    simp only [h4, h3]; rfl
theorem encH_arr (s : QS) : newsOf (encH s) (s.n * 2) = (Sort.flatK enc2 2 (parr s)).toList := by
  rw [flat_of, parr_size]
  apply newsOf_congr
  intro i hi
  have h1 : ((i / 2 : Nat) : Int).toNat = i / 2 := by omega
  have h2 := parr_at s (j := i / 2) (by omega)
  unfold encH ofArr
  simp only [h1, h2]
theorem enc2_len (x : Int × Int) : (enc2 x).length = 2 := rfl
theorem enc2_one (x : Int × Int) : ∀ v ∈ enc2 x, v.oneCell' = true := fun v hv => by
  simp [enc2] at hv
  rcases hv with rfl | rfl <;> rfl
/-- t has what s has, in order -/
structure QS.Sorted (s t : QS) : Prop where
  n : t.n = s.n
  lt : ∀ j j' : Int, 0 ≤ j → j < j' → j' < t.n → lt2 (t.K j) (t.I j) (t.K j') (t.I j')
  fro : ∀ j : Int, 0 ≤ j → j < t.n → ∃ a : Int, 0 ≤ a ∧ a < s.n ∧ t.K j = s.K a ∧ t.I j = s.I a
  to : ∀ a : Int, 0 ≤ a → a < s.n → ∃ j : Int, 0 ≤ j ∧ j < t.n ∧ t.K j = s.K a ∧ t.I j = s.I a
theorem perm_list {n : Nat} {d d' : Array (Int × Int)} (hn : d.size = n) (h : Sort.PermIn 0 n d d') : d'.toList.Perm d.toList := by
  have h2 := h.2.2
  have e1 : d'.extract 0 n = d' := by rw [← hn, ← h.1]; exact Array.extract_size
  have e2 : d.extract 0 n = d := by rw [← hn]; exact Array.extract_size
  rwa [e1, e2] at h2
theorem sorted_of {s : QS} (hO : s.Ok) {d' : Array (Int × Int)} (hp : Sort.PermIn 0 s.n (parr s) d') (hs : Sort.SortedIn (Go.Proofs.ltOf cmp2) 0 s.n d') : s.Sorted (ofArr d') := by
  have hsz : d'.size = s.n := by rw [hp.1, parr_size]
  have hpm := perm_list (parr_size s) hp
  have hmem : ∀ x, x ∈ d'.toList ↔ ∃ a : Nat, a < s.n ∧ x = (s.K (a : Int), s.I (a : Int)) := fun x => by
    rw [hpm.mem_iff]
    simp only [parr, List.mem_map, List.mem_range]
    constructor
    · rintro ⟨a, h1, h2⟩; exact ⟨a, h1, h2.symm⟩
    · rintro ⟨a, h1, h2⟩; exact ⟨a, h1, h2.symm⟩
  have hnd : d'.toList.Nodup := by
    rw [hpm.nodup_iff]
    simp only [parr]
    rw [List.nodup_iff_pairwise_ne, List.pairwise_map]
    refine List.Pairwise.imp_of_mem (R := (· ≠ ·)) (fun {a b} ha hb hne e => ?_) (List.nodup_iff_pairwise_ne.1 List.nodup_range)
    simp only [Prod.mk.injEq] at e
    have ha2 : a < s.n := by simpa using ha
    have hb2 : b < s.n := by simpa using hb
    have := hO.inj (i := (a : Int)) (j := (b : Int)) ⟨by omega, by omega⟩ ⟨by omega, by omega⟩ e.2
    omega
  have hn : (ofArr d').n = s.n := hsz
  refine ⟨hn, fun j j' j0 jj j1 => ?_, fun j j0 j1 => ?_, fun a a0 a1 => ?_⟩
  · rw [hn] at j1
    have h1 := hs j.toNat j'.toNat (Nat.zero_le _) (by omega) (by omega)
    rw [cmp2_lt] at h1
    simp only [decide_eq_false_iff_not] at h1
    have hne : ¬ d'[j.toNat]! = d'[j'.toNat]! := fun e => by
      have g1 : j.toNat < d'.toList.length := by simp; omega
      have g2 : j'.toNat < d'.toList.length := by simp; omega
      have e2 : d'.toList[j.toNat] = d'.toList[j'.toNat] := by
        have a1 : j.toNat < d'.size := by omega
        have a2 : j'.toNat < d'.size := by omega
        simpa [a1, a2] using e
      exact List.pairwise_iff_getElem.1 (List.nodup_iff_pairwise_ne.1 hnd) j.toNat j'.toNat g1 g2 (by omega) e2
    have hx : ¬ ((d'[j.toNat]!).1 = (d'[j'.toNat]!).1 ∧ (d'[j.toNat]!).2 = (d'[j'.toNat]!).2) := fun e => hne (Prod.ext e.1 e.2)
    show lt2 (d'[j.toNat]!).1 (d'[j.toNat]!).2 (d'[j'.toNat]!).1 (d'[j'.toNat]!).2
    unfold lt2 at h1 ⊢
    omega
  · rw [hn] at j1
    have hin : d'[j.toNat]! ∈ d'.toList := by
      have a1 : j.toNat < d'.size := by omega
      simp [a1]
    obtain ⟨a, h1, h2⟩ := (hmem _).1 hin
    exact ⟨a, by omega, by omega, congrArg Prod.fst h2, congrArg Prod.snd h2⟩
  · have hin := (hmem (s.K a, s.I a)).2 ⟨a.toNat, by omega, by rw [show ((a.toNat : Nat) : Int) = a from by omega]⟩
    obtain ⟨i, hi, he⟩ := List.getElem_of_mem hin
    have hi2 : i < d'.size := by simpa using hi
    have he2 : d'[i]! = (s.K a, s.I a) := by simpa [hi2] using he
    refine ⟨(i : Int), by omega, by omega, ?_, ?_⟩
    · show (d'[((i : Nat) : Int).toNat]!).1 = _
      rw [show ((i : Nat) : Int).toNat = i from by omega, he2]
    · show (d'[((i : Nat) : Int).toNat]!).2 = _
      rw [show ((i : Nat) : Int).toNat = i from by omega, he2]
theorem QS.Sorted.srt {s t : QS} (h : s.Sorted t) (hO : s.Ok) : Srt s.kOf (fun id => 0 ≤ id ∧ id < 64 ∧ ¬ s.at_ id = 0) t.I s.n := by
  have hn := h.n
  have hk : ∀ j : Int, 0 ≤ j → j < t.n → s.kOf (t.I j) = t.K j := fun j j0 j1 => by
    obtain ⟨a, a0, a1, e1, e2⟩ := h.fro j j0 j1
    rw [e1, e2]
    unfold QS.kOf
    rw [hO.at1 a a0 a1, show a + 1 - 1 = a from by omega]
  refine ⟨fun j j' j0 jj j1 => ?_, fun id => ?_⟩
  · rw [hk j j0 (by omega), hk j' (by omega) (by omega)]
    exact h.lt j j' j0 jj (by omega)
  · constructor
    · rintro ⟨j, j0, j1, rfl⟩
      obtain ⟨a, a0, a1, e1, e2⟩ := h.fro j j0 (by omega)
      rw [e2]
      have := hO.rng a a0 a1
      have := hO.at1 a a0 a1
      exact ⟨by omega, by omega, by omega⟩
    · rintro ⟨d0, d1, d2⟩
      rcases hO.at2 id d0 d1 with q | ⟨q1, q2, q3⟩
      · exact absurd q d2
      · obtain ⟨j, j0, j1, e1, e2⟩ := h.to (s.at_ id - 1) (by omega) (by omega)
        exact ⟨j, j0, by omega, e2.trans q3⟩
theorem encF_next (f : Int → Int) (n : Nat) (z : Int) (hz : z = n) : ∀ i, i < (n + 1) * 1 → encF f i = if i < n * 1 then encF f i else cellsOf #[.int .i64 (f z)] (i - n * 1) := by
  intro i hi
  by_cases h : i < n * 1
  · rw [if_pos h]
  · have h4 : i - n * 1 = 0 := by omega
    have h3 : i = n := by omega
    rw [if_neg h, h4, hz, h3]; rfl
theorem newsH_one {s : QS} {m : Nat} : (newsOf (encH s) m).all one = true := by
  rw [List.all_eq_true]
  intro v hv
  simp only [newsOf, List.mem_map] at hv
  obtain ⟨j, _, rfl⟩ := hv
  unfold encH
  split <;> rfl

end Go.X
