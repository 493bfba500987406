import Derived.Test.YtmklfkjfgjagaaaGreatZOM
import Derived.Test.YtmklfkjfgjagaaaGreatNLW
namespace Go.X
open Go

/-! ### the plain law -/
theorem PS.make_inv {s : PS} {K : Int} (h : s.Inv K) (hK : 0 ≤ K) : (s.make).2.2.Inv (K + 1) := by
  unfold PS.make
  cases hf : firstN (fun k => s.e k 0 + s.e k 1 == 0) 8 with
  | none => exact h.mono (by omega)
  | some k =>
    have hz : s.e k 0 + s.e k 1 = 0 := by
      unfold firstN at hf
      have := List.find?_some hf
      simpa using this
    refine ⟨fun n => ?_, fun n => ?_, fun n hn => ?_, h.len⟩
    · have := h.e0 n
      simp only [fset2]; split <;> (try split) <;> omega
    · have := h.e1 n
      simp only [fset2]; split <;> (try split) <;> omega
    · simp only [fset2] at hn
      by_cases hnk : n = k
      · subst hnk; exact h.cl _ hz
      · refine h.cl n ?_
        simpa [hnk] using hn
theorem PS.turn_inv {s : PS} {K n d : Int} {w : Bool} (h : s.Inv K) (hd : d = 1 ∨ d = -1) : (s.turn n w d).2.Inv (K + 1) := by
  unfold PS.turn
  by_cases h1 : s.is n ≠ 0
  · rw [if_pos h1]; exact h.mono (by omega)
  rw [if_neg h1]
  by_cases h2 : s.e n (sel w) = 0
  · rw [if_pos h2]; exact h.mono (by omega)
  rw [if_neg h2]
  have b0 := h.e0
  have b1 := h.e1
  have hw : sel w = 0 ∨ sel w = 1 := by cases w <;> simp [sel]
  refine ⟨fun m => ?_, fun m => ?_, fun m hm => ?_, fun m => ?_⟩
  · have c0 := b0 m; have c1 := b1 m
    simp only [fset2]
    rcases hw with hw | hw <;> rw [hw] at h2 ⊢ <;> split
    · rename_i q; obtain ⟨rfl, _⟩ := q; omega
    · omega
    · rename_i q; simp at q
    · omega
  · have c0 := b0 m; have c1 := b1 m
    simp only [fset2]
    rcases hw with hw | hw <;> rw [hw] at h2 ⊢ <;> split
    · rename_i q; simp at q
    · omega
    · rename_i q; obtain ⟨rfl, _⟩ := q; omega
    · omega
  · simp only [fset2] at hm
    by_cases hmn : m = n
    · subst hmn
      have : s.e m 0 + s.e m 1 + d = 0 := by
        rcases hw with hw | hw <;> rw [hw] at hm <;> simp at hm <;> omega
      simp only [this, if_true, fset]
    · have : s.b m = ⟨#[]⟩ := h.cl m (by simpa [hmn] using hm)
      split
      · simp [fset, hmn, this]
      · exact this
  · have := h.len m
    split
    · simp only [fset]; split
      · simp [ByteArray.size]
      · exact this
    · exact this
theorem PS.read_inv {s : PS} {K n m : Int} (h : s.Inv K) : (s.read n m).2.2.Inv (K + 1) := by
  have hh := h.mono (show K ≤ K + 1 by omega)
  unfold PS.read
  split
  · exact hh
  · split
    · exact hh
    · split
      · exact hh
      · split
        · exact hh
        · refine ⟨hh.e0, hh.e1, fun j hj => ?_, fun j => ?_⟩
          · have := h.cl j hj
            simp only [fset]; split
            · rename_i q; subst q; rw [this]
              rw [str_empty]
              simp [ByteArray.size_extract]; simp [ByteArray.size]
            · exact this
          · have := h.len j
            simp only [fset]; split
            · rename_i q; subst q; rw [ByteArray.size_extract]; omega
            · exact this
theorem PS.write_inv {s : PS} {K n : Int} {t : ByteArray} (h : s.Inv K) : (s.write n t).2.2.Inv (K + 1) := by
  have hh := h.mono (show K ≤ K + 1 by omega)
  unfold PS.write
  split
  · exact hh
  · split
    · exact hh
    · rename_i h1
      split
      · exact hh
      · split
        · exact hh
        · refine ⟨hh.e0, hh.e1, fun j hj => ?_, fun j => ?_⟩
          · have := h.cl j hj
            simp only [fset]; split
            · rename_i q; subst q
              have := h.e0 j; have := h.e1 j
              simp only at hj
              omega
            · exact this
          · have := h.len j
            simp only [fset]; split
            · rename_i q; subst q
              rw [ByteArray.size_append, ByteArray.size_extract]
              omega
            · exact this
theorem PS.is_nn (s : PS) (n : Int) : 0 ≤ s.is n := by rcases PS.is_cases s n with q | q | q <;> omega
theorem PS.make_nn (s : PS) : 0 ≤ s.make.2.1 := by unfold PS.make; split <;> simp
theorem PS.turn_nn (s : PS) (n d : Int) (w : Bool) : 0 ≤ (s.turn n w d).1 := by
  have hi := s.is_nn n
  unfold PS.turn; split
  · exact hi
  · split <;> simp
theorem PS.read_nn (s : PS) (n m : Int) : 0 ≤ (s.read n m).2.1 := by
  have hi := s.is_nn n
  unfold PS.read; split
  · exact hi
  · repeat (split; · simp)
    simp
theorem PS.write_nn (s : PS) (n : Int) (t : ByteArray) : 0 ≤ (s.write n t).2.1 := by
  have hi := s.is_nn n
  unfold PS.write; split
  · exact hi
  · repeat (split; · simp)
    simp
theorem OS.Inv.mono {s : OS} {J J' : Int} (h : s.Inv J) (hJ : J ≤ J') : s.Inv J' :=
  ⟨fun n a b => ⟨(h.refs n a b).1, Int.le_trans (h.refs n a b).2 hJ⟩, h.at_, h.kind, h.write⟩
theorem OS.Inv.void : OS.void.Inv 1 :=
  ⟨fun _ _ _ => by simp [OS.void], fun _ _ _ => by simp [OS.void], fun n _ _ h => absurd rfl h, fun _ _ _ _ => rfl⟩
theorem OS.Inv.lay {s : OS} {J : Int} (h : s.Inv J) (hJ : 1 ≤ J) (z k n : Int) (w : Bool) (hk : k = 1 ∨ k = 2 ∨ k = 3) (hw : k ≠ 1 → w = false) : (s.lay z k n w).Inv J := by
  refine ⟨fun y a b => ?_, fun y a b => ?_, fun y a b c => ?_, fun y a b c => ?_⟩
  · show 0 ≤ fset s.refs z 1 y ∧ fset s.refs z 1 y ≤ J
    by_cases q : y = z
    · rw [q, fset_eq]; omega
    · rw [fset_ne _ _ q]; exact h.refs y a b
  · show 0 ≤ fset s.at_ z 0 y ∧ fset s.at_ z 0 y ≤ 40
    by_cases q : y = z
    · rw [q, fset_eq]; omega
    · rw [fset_ne _ _ q]; exact h.at_ y a b
  · show fset s.kind z k y = 1 ∨ fset s.kind z k y = 2 ∨ fset s.kind z k y = 3
    by_cases q : y = z
    · rw [q, fset_eq]; exact hk
    · rw [fset_ne _ _ q]; refine h.kind y a b ?_
      have c' : fset s.refs z 1 y ≠ 0 := c
      rw [fset_ne _ _ q] at c'; exact c'
  · show fset s.write z w y = false
    have c' : fset s.kind z k y ≠ 1 := c
    by_cases q : y = z
    · rw [q, fset_eq] at c' ⊢; exact hw c'
    · rw [fset_ne _ _ q] at c' ⊢; exact h.write y a b c'
theorem OS.Inv.refs_ {s : OS} {J J' : Int} (h : s.Inv J) (hJ : J ≤ J') (n r : Int) (hr : 0 ≤ r ∧ r ≤ J') (hn : s.refs n ≠ 0) : ({ s with refs := fset s.refs n r } : OS).Inv J' := by
  refine ⟨fun y a b => ?_, h.at_, fun y a b c => ?_, h.write⟩
  · show 0 ≤ fset s.refs n r y ∧ fset s.refs n r y ≤ J'
    by_cases q : y = n
    · rw [q, fset_eq]; omega
    · rw [fset_ne _ _ q]; have := h.refs y a b; omega
  · refine h.kind y a b ?_
    by_cases q : y = n
    · rw [q]; exact hn
    · have c' : fset s.refs n r y ≠ 0 := c
      rw [fset_ne _ _ q] at c'; exact c'
theorem OS.Inv.atI {s : OS} {J : Int} (h : s.Inv J) (n r : Int) (hr : 0 ≤ r ∧ r ≤ 40) : ({ s with at_ := fset s.at_ n r } : OS).Inv J := by
  refine ⟨h.refs, fun y a b => ?_, h.kind, h.write⟩
  show 0 ≤ fset s.at_ n r y ∧ fset s.at_ n r y ≤ 40
  by_cases q : y = n
  · rw [q, fset_eq]; omega
  · rw [fset_ne _ _ q]; exact h.at_ y a b
theorem OS.Inv.clr {s : OS} {J : Int} (h : s.Inv J) (hJ : 0 ≤ J) (z : Int) : (s.clr z).Inv J := by
  refine ⟨fun y a b => ?_, fun y a b => ?_, fun y a b c => ?_, fun y a b c => ?_⟩
  · show 0 ≤ fset s.refs z 0 y ∧ fset s.refs z 0 y ≤ J
    by_cases q : y = z
    · rw [q, fset_eq]; omega
    · rw [fset_ne _ _ q]; exact h.refs y a b
  · show 0 ≤ fset s.at_ z 0 y ∧ fset s.at_ z 0 y ≤ 40
    by_cases q : y = z
    · rw [q, fset_eq]; omega
    · rw [fset_ne _ _ q]; exact h.at_ y a b
  · show fset s.kind z 0 y = 1 ∨ fset s.kind z 0 y = 2 ∨ fset s.kind z 0 y = 3
    have c' : fset s.refs z 0 y ≠ 0 := c
    by_cases q : y = z
    · rw [q, fset_eq] at c'; exact absurd rfl c'
    · rw [fset_ne _ _ q] at c' ⊢; exact h.kind y a b c'
  · show fset s.write z false y = false
    have c' : fset s.kind z 0 y ≠ 1 := c
    by_cases q : y = z
    · rw [q, fset_eq]
    · rw [fset_ne _ _ q] at c' ⊢; exact h.write y a b c'
theorem OS.Inv.node {O : OS} {J : Int} (h : O.Inv J) (hJ : 1 ≤ J) (F : FF) (n : Int) (w : Bool) : (onodeO F O n w).Inv (J + 1) := by
  unfold onodeO; split
  · exact (h.lay hJ _ 1 n w (.inl rfl) (fun q => absurd rfl q)).mono (by omega)
  · exact h.mono (by omega)
theorem OS.Inv.pipe {O : OS} {J : Int} (h : O.Inv J) (hJ : 1 ≤ J) (P : PS) : (opipeO P O).Inv (J + 1) := by
  unfold opipeO; split
  · exact ((h.lay hJ _ 2 _ false (.inr (.inl rfl)) (fun _ => rfl)).lay hJ _ 3 _ false (.inr (.inr rfl)) (fun _ => rfl)).mono (by omega)
  · exact h.mono (by omega)
theorem OS.Inv.share {O : OS} {J : Int} (h : O.Inv J) (n : Int) : (shareO O n).Inv (J + 1) := by
  unfold shareO; split
  · rename_i c
    obtain ⟨i1, i2, i3⟩ := OS.is_0 c
    have := h.refs n i1 i2
    exact h.refs_ (by omega) n _ (by omega) i3
  · exact h.mono (by omega)
theorem OS.Inv.close {O : OS} {J : Int} (h : O.Inv J) (n : Int) : (closeO O n).Inv (J + 1) := by
  have h0 := h.refs 0 (by omega) (by omega)
  unfold closeO; split
  · exact h.mono (by omega)
  · rename_i c
    obtain ⟨i1, i2, i3⟩ := OS.is_0 (Decidable.not_not.1 c)
    have := h.refs n i1 i2
    split
    · exact h.refs_ (by omega) n _ (by omega) i3
    · exact (h.clr (by omega) n).mono (by omega)
theorem OS.Inv.read {O : OS} {J : Int} (h : O.Inv J) {F : FF} (hF : F.Sh) (n m : Int) : (oreadO F O n m).Inv (J + 1) := by
  unfold oreadO; split
  · rename_i c
    obtain ⟨i1, i2, i3⟩ := OS.is_0 c.1
    have h2 := h.at_ n i1 i2
    have h3 := (FF.readV_le hF (O.n n) (O.at_ n) m).2 h2.1 h2.2
    exact (h.atI n _ (by omega)).mono (by omega)
  · exact h.mono (by omega)
theorem FF.writeE_le {F : FF} {n a : Int} {x : ByteArray} (h : F.writeE n a x = 0) : 0 ≤ a ∧ a + x.size ≤ 40 := by
  unfold FF.writeE at h
  split at h
  · omega
  · split at h
    · omega
    · split at h
      · omega
      · omega
theorem OS.Inv.write_ {O : OS} {J : Int} (h : O.Inv J) (F : FF) (n : Int) (x : ByteArray) : (owriteO F O n x).Inv (J + 1) := by
  unfold owriteO; split
  · rename_i c
    obtain ⟨i1, i2, i3⟩ := OS.is_0 c.1.1
    have h2 := h.at_ n i1 i2
    have h3 := FF.writeE_le c.2
    exact (h.atI n _ (by omega)).mono (by omega)
  · exact h.mono (by omega)
theorem OS.Inv.seek {O : OS} {J : Int} (h : O.Inv J) (n a : Int) : (seekO O n a).Inv (J + 1) := by
  unfold seekO; split
  · rename_i c
    have : 0 ≤ a ∧ a ≤ 40 := by
      have := O.is_nn n
      unfold seekE at c
      split at c
      · omega
      · split at c
        · omega
        · split at c <;> omega
    exact (h.atI n _ this).mono (by omega)
  · exact h.mono (by omega)
theorem onodeE_nn (F : FF) (O : OS) (n : Int) : 0 ≤ onodeE F O n := by
  have := F.isE_nn n 1
  unfold onodeE; split
  · exact this
  · split <;> omega
theorem opipeE_nn (P : PS) (O : OS) : 0 ≤ opipeE P O := by
  have := P.make_nn
  unfold opipeE; split
  · omega
  · exact this
theorem closeE_nn (F : FF) (P : PS) (O : OS) (n : Int) : 0 ≤ closeE F P O n := by
  have h1 := O.is_nn n
  have h2 := F.letE_nn (O.n n)
  have h3 := P.turn_nn (O.n n) (-1) (decide (O.kind n = 3))
  unfold closeE; split
  · exact h1
  · split
    · omega
    · split
      · exact h2
      · exact h3
theorem oreadE_nn (F : FF) (P : PS) (O : OS) (n m : Int) : 0 ≤ oreadE F P O n m := by
  have h1 := O.is_nn n
  have h2 := F.readE_nn (O.n n) (O.at_ n) m
  have h3 := P.read_nn (O.n n) m
  unfold oreadE; split
  · exact h1
  · split
    · omega
    · split
      · exact h3
      · exact h2
theorem owriteE_nn (F : FF) (P : PS) (O : OS) (n : Int) (x : ByteArray) : 0 ≤ owriteE F P O n x := by
  have h1 := O.is_nn n
  have h2 := F.writeE_nn (O.n n) (O.at_ n) x
  have h3 := P.write_nn (O.n n) x
  unfold owriteE; split
  · exact h1
  · split
    · exact h3
    · split
      · omega
      · exact h2
theorem seekE_nn (O : OS) (n a : Int) : 0 ≤ seekE O n a := by
  have h1 := O.is_nn n
  unfold seekE; split
  · exact h1
  · split
    · omega
    · split <;> omega
theorem opipeP_inv {P : PS} {K : Int} (h : P.Inv K) (hK : 0 ≤ K) (O : OS) : (opipeP P O).Inv (K + 1) := by
  unfold opipeP; split
  · exact h.mono (by omega)
  · exact PS.make_inv h hK
theorem closeP_inv {P : PS} {K : Int} (h : P.Inv K) (O : OS) (n : Int) : (closeP P O n).Inv (K + 1) := by
  unfold closeP; split
  · exact PS.turn_inv h (.inr rfl)
  · exact h.mono (by omega)
theorem oreadP_inv {P : PS} {K : Int} (h : P.Inv K) (O : OS) (n m : Int) : (oreadP P O n m).Inv (K + 1) := by
  unfold oreadP; split
  · exact PS.read_inv h
  · exact h.mono (by omega)
theorem owriteP_inv {P : PS} {K : Int} (h : P.Inv K) (O : OS) (n : Int) (x : ByteArray) : (owriteP P O n x).Inv (K + 1) := by
  unfold owriteP; split
  · exact PS.write_inv h
  · exact h.mono (by omega)
theorem onodeF_ok {F : FF} {d : Int → Nat} {B : Int} (h : F.Ok d B) (O : OS) (n : Int) : (onodeF F O n).Ok d (B + 1) := by
  unfold onodeF; split
  · exact h.hold n
  · exact h.up1
theorem closeF_ok {F : FF} {d : Int → Nat} {B : Int} (h : F.Ok d B) (O : OS) (n : Int) : (closeF F O n).Ok d (B + 1) := by
  unfold closeF; split
  · exact h.letF (O.n n)
  · exact h.up1
theorem owriteF_ok {F : FF} {d : Int → Nat} {B : Int} (h : F.Ok d B) (O : OS) (n : Int) (x : ByteArray) : (owriteF F O n x).Ok d (B + 1) := by
  unfold owriteF; split
  · exact h.write (O.n n) (O.at_ n) x
  · exact h.up1
theorem onodeF_roots (F : FF) (O : OS) (n : Int) : (onodeF F O n).roots = F.roots := by
  unfold onodeF; split
  · exact FF.hold_roots _ _
  · rfl
theorem closeF_roots (F : FF) (O : OS) (n : Int) : (closeF F O n).roots = F.roots := by
  unfold closeF; split
  · exact FF.letF_roots _ _
  · rfl
theorem owriteF_roots (F : FF) (O : OS) (n : Int) (x : ByteArray) : (owriteF F O n x).roots = F.roots := by
  unfold owriteF; split
  · exact FF.write_roots _ _ _ _
  · rfl
theorem ofx_yes {O : OS} {n : Int} (h : O.is n = 0) (x : Int) : ofx O n x = x := if_pos h
theorem ofx_no {O : OS} {n : Int} (h : ¬ O.is n = 0) (x : Int) : ofx O n x = 0 := if_neg h
theorem roomB_1 {O : OS} {m : Int} (h : m < 1) : roomB O m = true := by unfold roomB; rw [decide_eq_true h]; rfl
theorem roomB_2 {O : OS} {m : Int} (h : ¬ m < 1) : roomB O m = decide (m ≤ 24 - O.opens) := by unfold roomB; rw [decide_eq_false h]; rfl
namespace OF
def A97 : ByteArray := ⟨#[97]⟩
def XYZ : ByteArray := ⟨#[120, 121, 122]⟩
def F0 : FF := FF.void.plant
def F1 : FF := F0.make 0 ⟨#[97]⟩ 1
def F2 : FF := onodeF F1 OS.void 1
def O1 : OS := onodeO F1 OS.void 1 true
def F3 : FF := owriteF F2 O1 0 ⟨#[120, 121, 122]⟩
def O2 : OS := owriteO F2 O1 0 ⟨#[120, 121, 122]⟩
theorem p0 : FF.plantE FF.void = 0 := by decide +kernel
theorem m1E : F0.makeE 0 ⟨#[97]⟩ 1 = 0 := by decide +kernel
theorem m1V : F0.makeV 0 ⟨#[97]⟩ 1 = 1 := by decide +kernel
theorem n1E : onodeE F1 OS.void 1 = 0 := by decide +kernel
theorem n1V : onodeV F1 OS.void 1 = 0 := by decide +kernel
theorem w1E : owriteE F2 PS.init O1 0 ⟨#[120, 121, 122]⟩ = 0 := by decide +kernel
theorem w1V : owriteV F2 PS.init O1 0 ⟨#[120, 121, 122]⟩ = 3 := by decide +kernel
theorem w1P : owriteP PS.init O1 0 ⟨#[120, 121, 122]⟩ = PS.init := by
  unfold owriteP
  rw [if_neg (by decide +kernel)]
theorem o2 : O2.opens = 1 := by decide +kernel
theorem r23 : roomB O2 23 = true := by decide +kernel
theorem r24 : roomB O2 24 = false := by decide +kernel
theorem ok : ∃ d, F0.Ok d 1 ∧ F1.Sh ∧ F2.Sh ∧ F3.Sh := by
  obtain ⟨d1, o1⟩ := FF.inv_void.plant
  obtain ⟨d2, o2⟩ := o1.make 0 ⟨#[97]⟩ 1
  have o3 := onodeF_ok o2 OS.void 1
  have o4 := owriteF_ok o3 O1 0 ⟨#[120, 121, 122]⟩
  exact ⟨d1, o1, o2.sh (by omega), o3.sh (by omega), o4.sh (by omega)⟩
theorem inv1 : O1.Inv 2 := OS.Inv.void.node (by omega) F1 1 true
theorem inv2 : O2.Inv 3 := inv1.write_ F2 0 ⟨#[120, 121, 122]⟩
end OF
theorem FF.Ok.up {s : FF} {d : Int → Nat} {B B' : Int} (h : s.Ok d B) (hB : B ≤ B') : s.Ok d B' := ⟨h.inv, fun n a b => Int.le_trans (h.held n a b) hB, Int.le_trans h.nn hB⟩
theorem act_agg (x : ActV) : 0 + 8 ≤ 8 ∧ aggOf (encAct x) 0 8 = .agg #[.string x.kind, .int .i64 x.a, .int .i64 x.b, .int .i64 x.c, .int .u64 x.key, .bool x.on, .string x.s, .string x.t] := ⟨by omega, rfl⟩

end Go.X
