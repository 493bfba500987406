import Derived.Test.YtpnddggohipdnaaDoorVP
namespace Go.X
open Go
def encK (pb : Nat) (bs : Int → Int → Int) (rf : Int → Int) (i : Nat) : Value :=
  if i = 0 then ptr pb 0 0 else
  if 1 ≤ i ∧ (i - 1) / 8 < 64 ∧ ((i - 1) % 8) % 1 = 0 ∧ ((i - 1) % 8) / 1 < 8 then .int .u8 (bs (((i - 1) / 8 : Nat) : Int) ((((i - 1) % 8) / 1 : Nat) : Int)) else
  if 513 ≤ i ∧ (i - 513) % 1 = 0 ∧ (i - 513) / 1 < 64 then .int .i64 (rf (((i - 513) / 1 : Nat) : Int)) else
  undef
theorem encK.ld_p (pb : Nat) (bs : Int → Int → Int) (rf : Int → Int) : (0 + 0) < 577 ∧ encK pb bs rf (0 + 0) = ptr pb 0 0 := by
  refine ⟨by omega, ?_⟩
  unfold encK
  rw [if_pos (by omega)]
theorem encK.ld_b_I_I (pb : Nat) (bs : Int → Int → Int) (rf : Int → Int) (z0 : Int) (z1 : Int) (q0 : 0 ≤ z0 ∧ z0 < 64) (q1 : 0 ≤ z1 ∧ z1 < 8) : (((0 + 1) + z0.toNat * 8) + z1.toNat * 1) < 577 ∧ encK pb bs rf (((0 + 1) + z0.toNat * 8) + z1.toNat * 1) = .int .u8 (bs z0 z1) := by
  refine ⟨by omega, ?_⟩
  unfold encK
  rw [if_neg (by omega)]
  rw [if_pos (by omega)]
  rw [show ((((((0 + 1) + z0.toNat * 8) + z1.toNat * 1) - 1) / 8 : Nat) : Int) = z0 from by omega]
  rw [show (((((((0 + 1) + z0.toNat * 8) + z1.toNat * 1) - 1) % 8) / 1 : Nat) : Int) = z1 from by omega]
theorem encK.st_b_I_I (pb : Nat) (bs : Int → Int → Int) (rf : Int → Int) (z0 : Int) (z1 : Int) (q0 : 0 ≤ z0 ∧ z0 < 64) (q1 : 0 ≤ z1 ∧ z1 < 8) (v : Int) : (((0 + 1) + z0.toNat * 8) + z1.toNat * 1) < 577 ∧ upd (encK pb bs rf) (((0 + 1) + z0.toNat * 8) + z1.toNat * 1) (.int .u8 (v)) = encK pb (fset2 bs z0 z1 v) rf := by
  refine ⟨by omega, ?_⟩
  funext j
  unfold upd
  by_cases hj : j = (((0 + 1) + z0.toNat * 8) + z1.toNat * 1)
  · rw [if_pos hj, hj, (encK.ld_b_I_I pb (fset2 bs z0 z1 v) rf z0 z1 q0 q1).2]
    all_goals simp [fset, fset2]
  · rw [if_neg hj]
    unfold encK
    refine ite_both (fun c0 => ?_) (fun c0 => ?_)
    · first | rfl | simp [fset, fset2]
    refine ite_both (fun c1 => ?_) (fun c1 => ?_)
    · have hne : ¬ ((((j - 1) / 8 : Nat) : Int) = z0 ∧ ((((j - 1) % 8) / 1 : Nat) : Int) = z1) := by omega
      simp only [fset, fset2, hne, if_false, and_true, true_and]
    refine ite_both (fun c2 => ?_) (fun c2 => ?_)
    · first | rfl | simp [fset, fset2]
    rfl
theorem encK.ld_refs_I (pb : Nat) (bs : Int → Int → Int) (rf : Int → Int) (z0 : Int) (q0 : 0 ≤ z0 ∧ z0 < 64) : ((0 + 513) + z0.toNat * 1) < 577 ∧ encK pb bs rf ((0 + 513) + z0.toNat * 1) = .int .i64 (rf z0) := by
  refine ⟨by omega, ?_⟩
  unfold encK
  rw [if_neg (by omega)]
  rw [if_neg (by omega)]
  rw [if_pos (by omega)]
  rw [show (((((0 + 513) + z0.toNat * 1) - 513) / 1 : Nat) : Int) = z0 from by omega]
theorem encK.st_refs_I (pb : Nat) (bs : Int → Int → Int) (rf : Int → Int) (z0 : Int) (q0 : 0 ≤ z0 ∧ z0 < 64) (v : Int) : ((0 + 513) + z0.toNat * 1) < 577 ∧ upd (encK pb bs rf) ((0 + 513) + z0.toNat * 1) (.int .i64 (v)) = encK pb bs (fset rf z0 v) := by
  refine ⟨by omega, ?_⟩
  funext j
  unfold upd
  by_cases hj : j = ((0 + 513) + z0.toNat * 1)
  · rw [if_pos hj, hj, (encK.ld_refs_I pb bs (fset rf z0 v) z0 q0).2]
    all_goals simp [fset, fset2]
  · rw [if_neg hj]
    unfold encK
    refine ite_both (fun c0 => ?_) (fun c0 => ?_)
    · first | rfl | simp [fset, fset2]
    refine ite_both (fun c1 => ?_) (fun c1 => ?_)
    · first | rfl | simp [fset, fset2]
    refine ite_both (fun c2 => ?_) (fun c2 => ?_)
    · have hne : ¬ ((((j - 513) / 1 : Nat) : Int) = z0) := by omega
      simp only [fset, fset2, hne, if_false, and_true, true_and]
    rfl

def encN (kb : Nat) (p : Option Addr) (n : Nat) (c : Nat) (fr : Int → Int) (own : Int → Bool) (i : Nat) : Value :=
  if i = 0 then ptr kb 0 0 else
  if i = 1 then .slice p n c else
  if 2 ≤ i ∧ (i - 2) % 2 = 0 ∧ (i - 2) / 2 < 16 then .int .i64 (fr (((i - 2) / 2 : Nat) : Int) - 1) else
  if 3 ≤ i ∧ (i - 3) % 2 = 0 ∧ (i - 3) / 2 < 16 then .bool (own (((i - 3) / 2 : Nat) : Int)) else
  undef
theorem encN.ld_b (kb : Nat) (p : Option Addr) (n : Nat) (c : Nat) (fr : Int → Int) (own : Int → Bool) : (0 + 0) < 34 ∧ encN kb p n c fr own (0 + 0) = ptr kb 0 0 := by
  refine ⟨by omega, ?_⟩
  unfold encN
  rw [if_pos (by omega)]
theorem encN.ld_r (kb : Nat) (p : Option Addr) (n : Nat) (c : Nat) (fr : Int → Int) (own : Int → Bool) : (0 + 1) < 34 ∧ encN kb p n c fr own (0 + 1) = .slice p n c := by
  refine ⟨by omega, ?_⟩
  unfold encN
  rw [if_neg (by omega)]
  rw [if_pos (by omega)]
theorem encN.ld_p_I_frame (kb : Nat) (p : Option Addr) (n : Nat) (c : Nat) (fr : Int → Int) (own : Int → Bool) (z0 : Int) (q0 : 0 ≤ z0 ∧ z0 < 16) : (((0 + 2) + z0.toNat * 2) + 0) < 34 ∧ encN kb p n c fr own (((0 + 2) + z0.toNat * 2) + 0) = .int .i64 (fr z0 - 1) := by
  refine ⟨by omega, ?_⟩
  unfold encN
  rw [if_neg (by omega)]
  rw [if_neg (by omega)]
  rw [if_pos (by omega)]
  rw [show ((((((0 + 2) + z0.toNat * 2) + 0) - 2) / 2 : Nat) : Int) = z0 from by omega]
theorem encN.st_p_I_frame (kb : Nat) (p : Option Addr) (n : Nat) (c : Nat) (fr : Int → Int) (own : Int → Bool) (z0 : Int) (q0 : 0 ≤ z0 ∧ z0 < 16) (v : Int) : (((0 + 2) + z0.toNat * 2) + 0) < 34 ∧ upd (encN kb p n c fr own) (((0 + 2) + z0.toNat * 2) + 0) (.int .i64 (v)) = encN kb p n c (fset fr z0 (v + 1)) own := by
  refine ⟨by omega, ?_⟩
  funext j
  unfold upd
  by_cases hj : j = (((0 + 2) + z0.toNat * 2) + 0)
  · rw [if_pos hj, hj, (encN.ld_p_I_frame kb p n c (fset fr z0 (v + 1)) own z0 q0).2]
    all_goals simp [fset, fset2]
  · rw [if_neg hj]
    unfold encN
    refine ite_both (fun c0 => ?_) (fun c0 => ?_)
    · first | rfl | simp [fset, fset2]
    refine ite_both (fun c1 => ?_) (fun c1 => ?_)
    · first | rfl | simp [fset, fset2]
    refine ite_both (fun c2 => ?_) (fun c2 => ?_)
    · have hne : ¬ ((((j - 2) / 2 : Nat) : Int) = z0) := by omega
      simp only [fset, fset2, hne, if_false, and_true, true_and]
    refine ite_both (fun c3 => ?_) (fun c3 => ?_)
    · first | rfl | simp [fset, fset2]
    rfl
theorem encN.ld_p_I_write (kb : Nat) (p : Option Addr) (n : Nat) (c : Nat) (fr : Int → Int) (own : Int → Bool) (z0 : Int) (q0 : 0 ≤ z0 ∧ z0 < 16) : (((0 + 2) + z0.toNat * 2) + 1) < 34 ∧ encN kb p n c fr own (((0 + 2) + z0.toNat * 2) + 1) = .bool (own z0) := by
  refine ⟨by omega, ?_⟩
  unfold encN
  rw [if_neg (by omega)]
  rw [if_neg (by omega)]
  rw [if_neg (by omega)]
  rw [if_pos (by omega)]
  rw [show ((((((0 + 2) + z0.toNat * 2) + 1) - 3) / 2 : Nat) : Int) = z0 from by omega]
theorem encN.st_p_I_write (kb : Nat) (p : Option Addr) (n : Nat) (c : Nat) (fr : Int → Int) (own : Int → Bool) (z0 : Int) (q0 : 0 ≤ z0 ∧ z0 < 16) (v : Bool) : (((0 + 2) + z0.toNat * 2) + 1) < 34 ∧ upd (encN kb p n c fr own) (((0 + 2) + z0.toNat * 2) + 1) (.bool (v)) = encN kb p n c fr (fset own z0 v) := by
  refine ⟨by omega, ?_⟩
  funext j
  unfold upd
  by_cases hj : j = (((0 + 2) + z0.toNat * 2) + 1)
  · rw [if_pos hj, hj, (encN.ld_p_I_write kb p n c fr (fset own z0 v) z0 q0).2]
    all_goals simp [fset, fset2]
  · rw [if_neg hj]
    unfold encN
    refine ite_both (fun c0 => ?_) (fun c0 => ?_)
    · first | rfl | simp [fset, fset2]
    refine ite_both (fun c1 => ?_) (fun c1 => ?_)
    · first | rfl | simp [fset, fset2]
    refine ite_both (fun c2 => ?_) (fun c2 => ?_)
    · first | rfl | simp [fset, fset2]
    refine ite_both (fun c3 => ?_) (fun c3 => ?_)
    · have hne : ¬ ((((j - 3) / 2 : Nat) : Int) = z0) := by omega
      simp only [fset, fset2, hne, if_false, and_true, true_and]
    rfl


def arrY (row : Int → Int) : Array Value := ((List.range 8).map fun (j : Nat) => Value.int .u8 (row (j : Int))).toArray

theorem encK_row (pb : Nat) (bs : Int → Int → Int) (rf : Int → Int) (f : Int) (h : 0 ≤ f ∧ f < 64) : 0 + 1 + f.toNat * 8 + 8 ≤ 577 ∧ aggOf (encK pb bs rf) (0 + 1 + f.toNat * 8) 8 = .agg (arrY (bs f)) := by
  refine ⟨by omega, ?_⟩
  unfold aggOf arrY
  congr 2
  apply List.map_congr_left
  intro j hj
  have hj2 : j < 8 := by simpa using hj
  have := (encK.ld_b_I_I pb bs rf f (j : Int) h (by omega)).2
  rw [show 0 + 1 + f.toNat * 8 + ((j : Nat) : Int).toNat * 1 = 0 + 1 + f.toNat * 8 + j from by omega] at this
  exact this
theorem encK_srow (pb : Nat) (bs : Int → Int → Int) (rf : Int → Int) (f : Int) (row : Int → Int) (h : 0 ≤ f ∧ f < 64) : 0 + 1 + f.toNat * 8 + 8 ≤ 577 ∧ updL (encK pb bs rf) (0 + 1 + f.toNat * 8) (arrY row).toList = encK pb (brow bs f row) rf := by
  refine ⟨by omega, ?_⟩
  have e : (arrY row).toList = [.int .u8 (row 0), .int .u8 (row 1), .int .u8 (row 2), .int .u8 (row 3), .int .u8 (row 4), .int .u8 (row 5), .int .u8 (row 6), .int .u8 (row 7)] := rfl
  rw [e]
  simp only [updL]
  have st : ∀ (bs : Int → Int → Int) (j : Nat) (v : Int), j < 8 → upd (encK pb bs rf) (0 + 1 + f.toNat * 8 + j) (.int .u8 v) = encK pb (fset2 bs f j v) rf := fun bs j v hj => by
    have := (encK.st_b_I_I pb bs rf f (j : Int) h (by omega) v).2
    rw [show 0 + 1 + f.toNat * 8 + ((j : Nat) : Int).toNat * 1 = 0 + 1 + f.toNat * 8 + j from by omega] at this
    exact this
  have s0 := st bs 0 (row 0) (by omega)
  rw [show 0 + 1 + f.toNat * 8 + 0 = 0 + 1 + f.toNat * 8 from rfl] at s0
  rw [s0, st _ 1 _ (by omega), show 0 + 1 + f.toNat * 8 + 1 + 1 = 0 + 1 + f.toNat * 8 + 2 from rfl, st _ 2 _ (by omega), show 0 + 1 + f.toNat * 8 + 2 + 1 = 0 + 1 + f.toNat * 8 + 3 from rfl, st _ 3 _ (by omega), show 0 + 1 + f.toNat * 8 + 3 + 1 = 0 + 1 + f.toNat * 8 + 4 from rfl, st _ 4 _ (by omega),
    show 0 + 1 + f.toNat * 8 + 4 + 1 = 0 + 1 + f.toNat * 8 + 5 from rfl, st _ 5 _ (by omega), show 0 + 1 + f.toNat * 8 + 5 + 1 = 0 + 1 + f.toNat * 8 + 6 from rfl, st _ 6 _ (by omega), show 0 + 1 + f.toNat * 8 + 6 + 1 = 0 + 1 + f.toNat * 8 + 7 from rfl, st _ 7 _ (by omega)]
  funext i
  unfold encK
  refine ite_both (fun _ => rfl) (fun _ => ite_both (fun c => ?_) (fun _ => rfl))
  congr 1
  simp only [brow, fset2]
  by_cases hx : (((i - 1) / 8 : Nat) : Int) = f
  · simp only [hx, true_and, if_true]
    have hq : (i - 1) % 8 / 1 = 0 ∨ (i - 1) % 8 / 1 = 1 ∨ (i - 1) % 8 / 1 = 2 ∨ (i - 1) % 8 / 1 = 3 ∨ (i - 1) % 8 / 1 = 4 ∨ (i - 1) % 8 / 1 = 5 ∨ (i - 1) % 8 / 1 = 6 ∨ (i - 1) % 8 / 1 = 7 := by omega
    rcases hq with q | q | q | q | q | q | q | q <;> rw [q] <;> rfl
  · simp only [hx, false_and, if_false]

theorem encN_page (kb : Nat) (p : Option Addr) (n c : Nat) (fr : Int → Int) (own : Int → Bool) (i : Int) (h : 0 ≤ i ∧ i < 16) : 0 + 2 + i.toNat * 2 + 2 ≤ 34 ∧ aggOf (encN kb p n c fr own) (0 + 2 + i.toNat * 2) 2 = .agg #[.int .i64 (fr i - 1), .bool (own i)] := by
  refine ⟨by omega, ?_⟩
  have h1 := (encN.ld_p_I_frame kb p n c fr own i h).2
  have h2 := (encN.ld_p_I_write kb p n c fr own i h).2
  simp only [aggOf, List.range, List.range.loop, List.map_cons, List.map_nil]
  rw [h1, h2]
theorem encN_spage (kb : Nat) (p : Option Addr) (n c : Nat) (fr : Int → Int) (own : Int → Bool) (i : Int) (f : Int) (w : Bool) (h : 0 ≤ i ∧ i < 16) : 0 + 2 + i.toNat * 2 + 2 ≤ 34 ∧ updL (encN kb p n c fr own) (0 + 2 + i.toNat * 2) [.int .i64 f, .bool w] = encN kb p n c (fset fr i (f + 1)) (fset own i w) := by
  refine ⟨by omega, ?_⟩
  simp only [updL]
  have h1 := (encN.st_p_I_frame kb p n c fr own i h f).2
  rw [show 0 + 2 + i.toNat * 2 + 0 = 0 + 2 + i.toNat * 2 from rfl] at h1
  rw [h1]
  exact (encN.st_p_I_write _ _ _ _ _ _ i h w).2
theorem encN_r (kb : Nat) (p : Option Addr) (n c : Nat) (fr : Int → Int) (own : Int → Bool) (p2 : Option Addr) (n2 c2 : Nat) : 0 + 1 < 34 ∧ upd (encN kb p n c fr own) (0 + 1) (.slice p2 n2 c2) = encN kb p2 n2 c2 fr own := by
  refine ⟨by omega, ?_⟩
  funext j
  unfold upd encN
  by_cases hj : j = 0 + 1
  · subst hj; rfl
  · rw [if_neg hj]
    refine ite_both (fun _ => rfl) (fun _ => ite_both (fun c => ?_) (fun _ => rfl))
    omega
def encRK (pb : Nat) (bs : Int → Int → Int) (rf : Int → Int) (i : Nat) : Value :=
  if i = 0 then ptr pb 0 0 else
  if 1 ≤ i ∧ (i - 1) / 8 < 64 ∧ ((i - 1) % 8) % 1 = 0 ∧ ((i - 1) % 8) / 1 < 8 then .int .u8 (bs (((i - 1) / 8 : Nat) : Int) ((((i - 1) % 8) / 1 : Nat) : Int)) else
  if 513 ≤ i ∧ (i - 513) % 1 = 0 ∧ (i - 513) / 1 < 64 then .int .i64 (rf (((i - 513) / 1 : Nat) : Int)) else
  undef
theorem encRK.ld_P (pb : Nat) (bs : Int → Int → Int) (rf : Int → Int) : (0 + 0) < 577 ∧ encRK pb bs rf (0 + 0) = ptr pb 0 0 := by
  refine ⟨by omega, ?_⟩
  unfold encRK
  rw [if_pos (by omega)]
theorem encRK.ld_B_I_I (pb : Nat) (bs : Int → Int → Int) (rf : Int → Int) (z0 : Int) (z1 : Int) (q0 : 0 ≤ z0 ∧ z0 < 64) (q1 : 0 ≤ z1 ∧ z1 < 8) : (((0 + 1) + z0.toNat * 8) + z1.toNat * 1) < 577 ∧ encRK pb bs rf (((0 + 1) + z0.toNat * 8) + z1.toNat * 1) = .int .u8 (bs z0 z1) := by
  refine ⟨by omega, ?_⟩
  unfold encRK
  rw [if_neg (by omega)]
  rw [if_pos (by omega)]
  rw [show ((((((0 + 1) + z0.toNat * 8) + z1.toNat * 1) - 1) / 8 : Nat) : Int) = z0 from by omega]
  rw [show (((((((0 + 1) + z0.toNat * 8) + z1.toNat * 1) - 1) % 8) / 1 : Nat) : Int) = z1 from by omega]
theorem encRK.st_B_I_I (pb : Nat) (bs : Int → Int → Int) (rf : Int → Int) (z0 : Int) (z1 : Int) (q0 : 0 ≤ z0 ∧ z0 < 64) (q1 : 0 ≤ z1 ∧ z1 < 8) (v : Int) : (((0 + 1) + z0.toNat * 8) + z1.toNat * 1) < 577 ∧ upd (encRK pb bs rf) (((0 + 1) + z0.toNat * 8) + z1.toNat * 1) (.int .u8 (v)) = encRK pb (fset2 bs z0 z1 v) rf := by
  refine ⟨by omega, ?_⟩
  funext j
  unfold upd
  by_cases hj : j = (((0 + 1) + z0.toNat * 8) + z1.toNat * 1)
  · rw [if_pos hj, hj, (encRK.ld_B_I_I pb (fset2 bs z0 z1 v) rf z0 z1 q0 q1).2]
    all_goals simp [fset, fset2]
  · rw [if_neg hj]
    unfold encRK
    refine ite_both (fun c0 => ?_) (fun c0 => ?_)
    · first | rfl | simp [fset, fset2]
    refine ite_both (fun c1 => ?_) (fun c1 => ?_)
    · have hne : ¬ ((((j - 1) / 8 : Nat) : Int) = z0 ∧ ((((j - 1) % 8) / 1 : Nat) : Int) = z1) := by omega
      simp only [fset, fset2, hne, if_false, and_true, true_and]
    refine ite_both (fun c2 => ?_) (fun c2 => ?_)
    · first | rfl | simp [fset, fset2]
    rfl
theorem encRK.ld_Refs_I (pb : Nat) (bs : Int → Int → Int) (rf : Int → Int) (z0 : Int) (q0 : 0 ≤ z0 ∧ z0 < 64) : ((0 + 513) + z0.toNat * 1) < 577 ∧ encRK pb bs rf ((0 + 513) + z0.toNat * 1) = .int .i64 (rf z0) := by
  refine ⟨by omega, ?_⟩
  unfold encRK
  rw [if_neg (by omega)]
  rw [if_neg (by omega)]
  rw [if_pos (by omega)]
  rw [show (((((0 + 513) + z0.toNat * 1) - 513) / 1 : Nat) : Int) = z0 from by omega]
theorem encRK.st_Refs_I (pb : Nat) (bs : Int → Int → Int) (rf : Int → Int) (z0 : Int) (q0 : 0 ≤ z0 ∧ z0 < 64) (v : Int) : ((0 + 513) + z0.toNat * 1) < 577 ∧ upd (encRK pb bs rf) ((0 + 513) + z0.toNat * 1) (.int .i64 (v)) = encRK pb bs (fset rf z0 v) := by
  refine ⟨by omega, ?_⟩
  funext j
  unfold upd
  by_cases hj : j = ((0 + 513) + z0.toNat * 1)
  · rw [if_pos hj, hj, (encRK.ld_Refs_I pb bs (fset rf z0 v) z0 q0).2]
    all_goals simp [fset, fset2]
  · rw [if_neg hj]
    unfold encRK
    refine ite_both (fun c0 => ?_) (fun c0 => ?_)
    · first | rfl | simp [fset, fset2]
    refine ite_both (fun c1 => ?_) (fun c1 => ?_)
    · first | rfl | simp [fset, fset2]
    refine ite_both (fun c2 => ?_) (fun c2 => ?_)
    · have hne : ¬ ((((j - 513) / 1 : Nat) : Int) = z0) := by omega
      simp only [fset, fset2, hne, if_false, and_true, true_and]
    rfl

def encRN (kb : Nat) (is : Int → Int) (fr : Int → Int) (own : Int → Bool) (i : Nat) : Value :=
  if i = 0 then ptr kb 0 0 else
  if 1 ≤ i ∧ (i - 1) % 1 = 0 ∧ (i - 1) / 1 < 16 then .int .i64 (is (((i - 1) / 1 : Nat) : Int)) else
  if 17 ≤ i ∧ (i - 17) % 1 = 0 ∧ (i - 17) / 1 < 16 then .int .i64 (fr (((i - 17) / 1 : Nat) : Int)) else
  if 33 ≤ i ∧ (i - 33) % 1 = 0 ∧ (i - 33) / 1 < 16 then .bool (own (((i - 33) / 1 : Nat) : Int)) else
  undef
theorem encRN.ld_B (kb : Nat) (is : Int → Int) (fr : Int → Int) (own : Int → Bool) : (0 + 0) < 49 ∧ encRN kb is fr own (0 + 0) = ptr kb 0 0 := by
  refine ⟨by omega, ?_⟩
  unfold encRN
  rw [if_pos (by omega)]
theorem encRN.ld_Is_I (kb : Nat) (is : Int → Int) (fr : Int → Int) (own : Int → Bool) (z0 : Int) (q0 : 0 ≤ z0 ∧ z0 < 16) : ((0 + 1) + z0.toNat * 1) < 49 ∧ encRN kb is fr own ((0 + 1) + z0.toNat * 1) = .int .i64 (is z0) := by
  refine ⟨by omega, ?_⟩
  unfold encRN
  rw [if_neg (by omega)]
  rw [if_pos (by omega)]
  rw [show (((((0 + 1) + z0.toNat * 1) - 1) / 1 : Nat) : Int) = z0 from by omega]
theorem encRN.st_Is_I (kb : Nat) (is : Int → Int) (fr : Int → Int) (own : Int → Bool) (z0 : Int) (q0 : 0 ≤ z0 ∧ z0 < 16) (v : Int) : ((0 + 1) + z0.toNat * 1) < 49 ∧ upd (encRN kb is fr own) ((0 + 1) + z0.toNat * 1) (.int .i64 (v)) = encRN kb (fset is z0 v) fr own := by
  refine ⟨by omega, ?_⟩
  funext j
  unfold upd
  by_cases hj : j = ((0 + 1) + z0.toNat * 1)
  · rw [if_pos hj, hj, (encRN.ld_Is_I kb (fset is z0 v) fr own z0 q0).2]
    all_goals simp [fset, fset2]
  · rw [if_neg hj]
    unfold encRN
    refine ite_both (fun c0 => ?_) (fun c0 => ?_)
    · first | rfl | simp [fset, fset2]
    refine ite_both (fun c1 => ?_) (fun c1 => ?_)
    · have hne : ¬ ((((j - 1) / 1 : Nat) : Int) = z0) := by omega
      simp only [fset, fset2, hne, if_false, and_true, true_and]
    refine ite_both (fun c2 => ?_) (fun c2 => ?_)
    · first | rfl | simp [fset, fset2]
    refine ite_both (fun c3 => ?_) (fun c3 => ?_)
    · first | rfl | simp [fset, fset2]
    rfl
theorem encRN.ld_Frame_I (kb : Nat) (is : Int → Int) (fr : Int → Int) (own : Int → Bool) (z0 : Int) (q0 : 0 ≤ z0 ∧ z0 < 16) : ((0 + 17) + z0.toNat * 1) < 49 ∧ encRN kb is fr own ((0 + 17) + z0.toNat * 1) = .int .i64 (fr z0) := by
  refine ⟨by omega, ?_⟩
  unfold encRN
  rw [if_neg (by omega)]
  rw [if_neg (by omega)]
  rw [if_pos (by omega)]
  rw [show (((((0 + 17) + z0.toNat * 1) - 17) / 1 : Nat) : Int) = z0 from by omega]
theorem encRN.st_Frame_I (kb : Nat) (is : Int → Int) (fr : Int → Int) (own : Int → Bool) (z0 : Int) (q0 : 0 ≤ z0 ∧ z0 < 16) (v : Int) : ((0 + 17) + z0.toNat * 1) < 49 ∧ upd (encRN kb is fr own) ((0 + 17) + z0.toNat * 1) (.int .i64 (v)) = encRN kb is (fset fr z0 v) own := by
  refine ⟨by omega, ?_⟩
  funext j
  unfold upd
  by_cases hj : j = ((0 + 17) + z0.toNat * 1)
  · rw [if_pos hj, hj, (encRN.ld_Frame_I kb is (fset fr z0 v) own z0 q0).2]
    all_goals simp [fset, fset2]
  · rw [if_neg hj]
    unfold encRN
    refine ite_both (fun c0 => ?_) (fun c0 => ?_)
    · first | rfl | simp [fset, fset2]
    refine ite_both (fun c1 => ?_) (fun c1 => ?_)
    · first | rfl | simp [fset, fset2]
    refine ite_both (fun c2 => ?_) (fun c2 => ?_)
    · have hne : ¬ ((((j - 17) / 1 : Nat) : Int) = z0) := by omega
      simp only [fset, fset2, hne, if_false, and_true, true_and]
    refine ite_both (fun c3 => ?_) (fun c3 => ?_)
    · first | rfl | simp [fset, fset2]
    rfl
theorem encRN.ld_Own_I (kb : Nat) (is : Int → Int) (fr : Int → Int) (own : Int → Bool) (z0 : Int) (q0 : 0 ≤ z0 ∧ z0 < 16) : ((0 + 33) + z0.toNat * 1) < 49 ∧ encRN kb is fr own ((0 + 33) + z0.toNat * 1) = .bool (own z0) := by
  refine ⟨by omega, ?_⟩
  unfold encRN
  rw [if_neg (by omega)]
  rw [if_neg (by omega)]
  rw [if_neg (by omega)]
  rw [if_pos (by omega)]
  rw [show (((((0 + 33) + z0.toNat * 1) - 33) / 1 : Nat) : Int) = z0 from by omega]
theorem encRN.st_Own_I (kb : Nat) (is : Int → Int) (fr : Int → Int) (own : Int → Bool) (z0 : Int) (q0 : 0 ≤ z0 ∧ z0 < 16) (v : Bool) : ((0 + 33) + z0.toNat * 1) < 49 ∧ upd (encRN kb is fr own) ((0 + 33) + z0.toNat * 1) (.bool (v)) = encRN kb is fr (fset own z0 v) := by
  refine ⟨by omega, ?_⟩
  funext j
  unfold upd
  by_cases hj : j = ((0 + 33) + z0.toNat * 1)
  · rw [if_pos hj, hj, (encRN.ld_Own_I kb is fr (fset own z0 v) z0 q0).2]
    all_goals simp [fset, fset2]
  · rw [if_neg hj]
    unfold encRN
    refine ite_both (fun c0 => ?_) (fun c0 => ?_)
    · first | rfl | simp [fset, fset2]
    refine ite_both (fun c1 => ?_) (fun c1 => ?_)
    · first | rfl | simp [fset, fset2]
    refine ite_both (fun c2 => ?_) (fun c2 => ?_)
    · first | rfl | simp [fset, fset2]
    refine ite_both (fun c3 => ?_) (fun c3 => ?_)
    · have hne : ¬ ((((j - 33) / 1 : Nat) : Int) = z0) := by omega
      simp only [fset, fset2, hne, if_false, and_true, true_and]
    rfl


theorem encRK_row (pb : Nat) (bs : Int → Int → Int) (rf : Int → Int) (f : Int) (h : 0 ≤ f ∧ f < 64) : 0 + 1 + f.toNat * 8 + 8 ≤ 577 ∧ aggOf (encRK pb bs rf) (0 + 1 + f.toNat * 8) 8 = .agg (arrY (bs f)) := by
  refine ⟨by omega, ?_⟩
  unfold aggOf arrY
  congr 2
  apply List.map_congr_left
  intro j hj
  have hj2 : j < 8 := by simpa using hj
  have := (encRK.ld_B_I_I pb bs rf f (j : Int) h (by omega)).2
  rw [show 0 + 1 + f.toNat * 8 + ((j : Nat) : Int).toNat * 1 = 0 + 1 + f.toNat * 8 + j from by omega] at this
  exact this
theorem encRK_srow (pb : Nat) (bs : Int → Int → Int) (rf : Int → Int) (f : Int) (row : Int → Int) (h : 0 ≤ f ∧ f < 64) : 0 + 1 + f.toNat * 8 + 8 ≤ 577 ∧ updL (encRK pb bs rf) (0 + 1 + f.toNat * 8) (arrY row).toList = encRK pb (brow bs f row) rf := by
  refine ⟨by omega, ?_⟩
  have e : (arrY row).toList = [.int .u8 (row 0), .int .u8 (row 1), .int .u8 (row 2), .int .u8 (row 3), .int .u8 (row 4), .int .u8 (row 5), .int .u8 (row 6), .int .u8 (row 7)] := rfl
  rw [e]
  simp only [updL]
  have st : ∀ (bs : Int → Int → Int) (j : Nat) (v : Int), j < 8 → upd (encRK pb bs rf) (0 + 1 + f.toNat * 8 + j) (.int .u8 v) = encRK pb (fset2 bs f j v) rf := fun bs j v hj => by
    have := (encRK.st_B_I_I pb bs rf f (j : Int) h (by omega) v).2
    rw [show 0 + 1 + f.toNat * 8 + ((j : Nat) : Int).toNat * 1 = 0 + 1 + f.toNat * 8 + j from by omega] at this
    exact this
  have s0 := st bs 0 (row 0) (by omega)
  rw [show 0 + 1 + f.toNat * 8 + 0 = 0 + 1 + f.toNat * 8 from rfl] at s0
  rw [s0, st _ 1 _ (by omega), show 0 + 1 + f.toNat * 8 + 1 + 1 = 0 + 1 + f.toNat * 8 + 2 from rfl, st _ 2 _ (by omega), show 0 + 1 + f.toNat * 8 + 2 + 1 = 0 + 1 + f.toNat * 8 + 3 from rfl, st _ 3 _ (by omega), show 0 + 1 + f.toNat * 8 + 3 + 1 = 0 + 1 + f.toNat * 8 + 4 from rfl, st _ 4 _ (by omega),
    show 0 + 1 + f.toNat * 8 + 4 + 1 = 0 + 1 + f.toNat * 8 + 5 from rfl, st _ 5 _ (by omega), show 0 + 1 + f.toNat * 8 + 5 + 1 = 0 + 1 + f.toNat * 8 + 6 from rfl, st _ 6 _ (by omega), show 0 + 1 + f.toNat * 8 + 6 + 1 = 0 + 1 + f.toNat * 8 + 7 from rfl, st _ 7 _ (by omega)]
  funext i
  unfold encRK
  refine ite_both (fun _ => rfl) (fun _ => ite_both (fun c => ?_) (fun _ => rfl))
  congr 1
  simp only [brow, fset2]
  by_cases hx : (((i - 1) / 8 : Nat) : Int) = f
  · simp only [hx, true_and, if_true]
    have hq : (i - 1) % 8 / 1 = 0 ∨ (i - 1) % 8 / 1 = 1 ∨ (i - 1) % 8 / 1 = 2 ∨ (i - 1) % 8 / 1 = 3 ∨ (i - 1) % 8 / 1 = 4 ∨ (i - 1) % 8 / 1 = 5 ∨ (i - 1) % 8 / 1 = 6 ∨ (i - 1) % 8 / 1 = 7 := by omega
    rcases hq with q | q | q | q | q | q | q | q <;> rw [q] <;> rfl
  · simp only [hx, false_and, if_false]

theorem encRN_bare (kb : Nat) (is fr : Int → Int) (own : Int → Bool) : 0 + 33 + 16 ≤ 49 ∧ updL (encRN kb is fr own) (0 + 33) (arrB (fun _ => false) 16).toList = encRN kb is fr (fun _ => false) := by
  refine ⟨by omega, ?_⟩
  funext j
  have e : (arrB (fun _ => false) 16).toList = List.replicate 16 (.bool false) := rfl
  have h : ∀ (k i : Nat) (C : Nat → Value) (j : Nat), updL C i (List.replicate k (.bool false)) j = if i ≤ j ∧ j < i + k then .bool false else C j := by
    intro k
    induction k with
    | zero => intro i C j; simp only [List.replicate, updL]; rw [if_neg (by omega)]
    | succ k ih =>
      intro i C j
      simp only [List.replicate_succ, updL]
      rw [ih]
      by_cases c : i + 1 ≤ j ∧ j < i + 1 + k
      · rw [if_pos c, if_pos (by omega)]
      · rw [if_neg c]
        unfold upd
        by_cases d : j = i
        · rw [if_pos d, if_pos (by omega)]
        · rw [if_neg d, if_neg (by omega)]
  rw [e, h]
  by_cases c : 0 + 33 ≤ j ∧ j < 0 + 33 + 16
  · rw [if_pos c]
    have := (encRN.ld_Own_I kb is fr (fun _ => false) (((j - 33 : Nat) : Int)) (by omega)).2
    rw [show 0 + 33 + (((j - 33 : Nat) : Int)).toNat * 1 = j from by omega] at this
    exact this.symm
  · rw [if_neg c]
    unfold encRN
    refine ite_both (fun _ => rfl) (fun _ => ite_both (fun _ => rfl) (fun _ => ite_both (fun _ => rfl) (fun _ => ite_both (fun d => ?_) (fun _ => rfl))))
    omega
def allRN (kb : Nat) (is fr : Int → Int) (own : Int → Bool) : Array Value := ((List.range 49).map fun j => encRN kb is fr own (0 + j)).toArray
theorem encRN_all (kb : Nat) (is fr : Int → Int) (own : Int → Bool) : 0 + 49 ≤ 49 ∧ aggOf (encRN kb is fr own) 0 49 = .agg (allRN kb is fr own) := ⟨by omega, rfl⟩
theorem allRN_box (kb : Nat) (is fr : Int → Int) (own : Int → Bool) : ∀ i, i < 49 → cellsOf (allRN kb is fr own) i = encRN kb is fr own i := fun i hi => by
  unfold allRN cellsOf
  simp [hi]
theorem encRN_out (kb : Nat) (is fr : Int → Int) (own : Int → Bool) : ∀ j, 49 ≤ j → encRN kb is fr own j = undef := fun j hj => by
  unfold encRN
  refine (if_neg (by omega)).trans ((if_neg (by omega)).trans ((if_neg (by omega)).trans (if_neg (by omega))))
theorem allRN_stC (kb : Nat) (is fr : Int → Int) (own : Int → Bool) (C0 : Nat → Value) (hC : ∀ j, 49 ≤ j → C0 j = undef) : 0 + 49 ≤ 49 ∧ updL C0 0 (allRN kb is fr own).toList = encRN kb is fr own := by
  refine ⟨by omega, ?_⟩
  have h : ∀ (l : List Value) (i : Nat) (C : Nat → Value) (j : Nat), updL C i l j = if i ≤ j ∧ j < i + l.length then l.getD (j - i) undef else C j := by
    intro l
    induction l with
    | nil => intro i C j; simp only [updL, List.length_nil]; rw [if_neg (by omega)]
    | cons x l ih =>
      intro i C j
      simp only [updL, List.length_cons]
      rw [ih]
      by_cases c : i + 1 ≤ j ∧ j < i + 1 + l.length
      · rw [if_pos c, if_pos (by omega), show j - i = j - (i + 1) + 1 from by omega]; simp
      · rw [if_neg c]
        unfold upd
        by_cases d : j = i
        · rw [if_pos d, if_pos (by omega), d]; simp
        · rw [if_neg d, if_neg (by omega)]
  funext j
  rw [h]
  have hl : (allRN kb is fr own).toList.length = 49 := by simp [allRN]
  rw [hl]
  by_cases c : 0 ≤ j ∧ j < 0 + 49
  · rw [if_pos c]
    have := allRN_box kb is fr own j (by omega)
    unfold cellsOf at this
    rw [← this]
    simp
  · rw [if_neg c, hC j (by omega), encRN_out kb is fr own j (by omega)]
theorem allRN_st (kb : Nat) (is fr : Int → Int) (own : Int → Bool) (kb2 : Nat) (is2 fr2 : Int → Int) (own2 : Int → Bool) : 0 + 49 ≤ 49 ∧ updL (encRN kb2 is2 fr2 own2) 0 (allRN kb is fr own).toList = encRN kb is fr own := allRN_stC kb is fr own _ (encRN_out kb2 is2 fr2 own2)
def zRN (i : Nat) : Value := if i = 0 then .pointer none else encRN 0 (fun _ => 0) (fun _ => 0) (fun _ => false) i
theorem zRN_st (kb : Nat) (is fr : Int → Int) (own : Int → Bool) : 0 + 49 ≤ 49 ∧ updL zRN 0 (allRN kb is fr own).toList = encRN kb is fr own := allRN_stC kb is fr own _ (fun j hj => by unfold zRN; rw [if_neg (by omega)]; exact encRN_out _ _ _ _ j hj)
def zRl : List Value := .pointer none :: (List.replicate 32 (.int .i64 0) ++ List.replicate 16 (.bool false))
theorem zRN_box : ∀ i, i < 49 → cellsOf zRl.toArray i = zRN i := fun i hi => match i, hi with
  | 0, _ => rfl
  | 1, _ => rfl
  | 2, _ => rfl
  | 3, _ => rfl
  | 4, _ => rfl
  | 5, _ => rfl
  | 6, _ => rfl
  | 7, _ => rfl
  | 8, _ => rfl
  | 9, _ => rfl
  | 10, _ => rfl
  | 11, _ => rfl
  | 12, _ => rfl
  | 13, _ => rfl
  | 14, _ => rfl
  | 15, _ => rfl
  | 16, _ => rfl
  | 17, _ => rfl
  | 18, _ => rfl
  | 19, _ => rfl
  | 20, _ => rfl
  | 21, _ => rfl
  | 22, _ => rfl
  | 23, _ => rfl
  | 24, _ => rfl
  | 25, _ => rfl
  | 26, _ => rfl
  | 27, _ => rfl
  | 28, _ => rfl
  | 29, _ => rfl
  | 30, _ => rfl
  | 31, _ => rfl
  | 32, _ => rfl
  | 33, _ => rfl
  | 34, _ => rfl
  | 35, _ => rfl
  | 36, _ => rfl
  | 37, _ => rfl
  | 38, _ => rfl
  | 39, _ => rfl
  | 40, _ => rfl
  | 41, _ => rfl
  | 42, _ => rfl
  | 43, _ => rfl
  | 44, _ => rfl
  | 45, _ => rfl
  | 46, _ => rfl
  | 47, _ => rfl
  | 48, _ => rfl
  | k + 49, h => absurd h (by omega)

end Go.X
