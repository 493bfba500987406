import Derived.Test.YthdinakloheinaaGreatDoorkFM
import Derived.Test.YthdinakloheinaaGreatDoorXBytes
namespace Go.X.Fa
open Go Go.X
theorem updL_lt' (C : Nat → Value) : ∀ (vs : List Value) (i j : Nat), j < i → updL C i vs j = C j
  | [], _, _, _ => rfl
  | v :: r, i, j, h => by
    unfold updL
    rw [updL_lt' (upd C i v) r (i + 1) j (by omega)]
    simp [upd]; omega
theorem updL_at' : ∀ (vs : List Value) (C : Nat → Value) (i j : Nat) (v : Value), vs[j]? = some v → updL C i vs (i + j) = v
  | [], _, _, _, _, h => by simp at h
  | u :: r, C, i, 0, v, h => by
    have h2 : u = v := by simpa using h
    unfold updL
    rw [updL_lt' _ _ _ _ (by omega), ← h2]
    simp [upd]
  | u :: r, C, i, j + 1, v, h => by
    unfold updL
    have := updL_at' r (upd C i u) (i + 1) j v (by simpa using h)
    rw [show i + 1 + j = i + (j + 1) from by omega] at this
    exact this
theorem updL_ge' : ∀ (vs : List Value) (C : Nat → Value) (i j : Nat), i + vs.length ≤ j → updL C i vs j = C j
  | [], _, _, _, _ => rfl
  | v :: r, C, i, j, h => by
    simp only [List.length_cons] at h
    unfold updL
    rw [updL_ge' r (upd C i v) (i + 1) j (by omega)]
    simp [upd]; omega
structure encS.U where
  here : Bool
  par : Int
  wt : Int
  v : Int
  ran : Int
  awake : Bool
  floor : Int
  frz : Bool
  quota : Int
  period : Int
  used : Int
  q : QS
  p : Option Addr
  c : Nat

def encS.un (s : SC) (z : Int) : encS.U := ⟨s.here z, s.par z, s.wt z, s.v z, s.ran z, s.awake z, s.floor z, s.frz z, s.quota z, s.period z, s.used z, s.Q z, s.P z, s.C z⟩
def encS.cell (u : encS.U) (j : Nat) : Value :=
  if j = 0 then .bool u.here else
  if j = 1 then .int .i64 u.par else
  if j = 2 then .int .i64 u.wt else
  if j = 3 then .int .u64 u.v else
  if j = 4 then .int .i64 u.ran else
  if j = 5 then .bool u.awake else
  if 6 ≤ j ∧ j < 71 then encQ u.q u.p u.c (j - 6) else
  if j = 71 then .int .u64 u.floor else
  if j = 72 then .bool u.frz else
  if j = 73 then .int .i64 u.quota else
  if j = 74 then .int .i64 u.period else
  if j = 75 then .int .i64 u.used else
  undef
def encS (s : SC) (i : Nat) : Value :=
  if i < 2280 then encS.cell (encS.un s ((i / 76 : Nat) : Int)) (i % 76) else
  if i = 2280 then .int .i64 s.now else
  undef
theorem encS.at_ (s : SC) (z : Int) (h : 0 ≤ z ∧ z < 30) (j : Nat) (hj : j < 76) : encS s (0 + 0 + z.toNat * 76 + j) = encS.cell (encS.un s z) j := by
  unfold encS
  rw [if_pos (by omega), show (((0 + 0 + z.toNat * 76 + j) / 76 : Nat) : Int) = z from by omega, show (0 + 0 + z.toNat * 76 + j) % 76 = j from by omega]
theorem encS.set (s s' : SC) (z : Int) (h : 0 ≤ z ∧ z < 30) (k : Nat) (hk : k < 76) (v : Value) (hv : ∀ j, encS.cell (encS.un s' z) j = if j = k then v else encS.cell (encS.un s z) j) (ho : ∀ y, ¬ y = z → encS.un s' y = encS.un s y) (hn : s'.now = s.now) : 0 + 0 + z.toNat * 76 + k < 2281 ∧ upd (encS s) (0 + 0 + z.toNat * 76 + k) v = encS s' := by
  refine ⟨by omega, ?_⟩
  funext i
  unfold upd
  by_cases hi : i = 0 + 0 + z.toNat * 76 + k
  · rw [if_pos hi, hi, encS.at_ s' z h k hk, hv, if_pos rfl]
  · rw [if_neg hi]
    unfold encS
    by_cases c1 : i < 2280
    · rw [if_pos c1, if_pos c1]
      by_cases cz : ((i / 76 : Nat) : Int) = z
      · rw [cz, hv, if_neg (by omega)]
      · rw [ho _ cz]
    · rw [if_neg c1, if_neg c1, hn]
theorem encS.setL (s s' : SC) (z : Int) (h : 0 ≤ z ∧ z < 30) (vs : List Value) (hl : vs.length = 76) (hv : ∀ j, j < 76 → vs[j]? = some (encS.cell (encS.un s' z) j)) (ho : ∀ y, ¬ y = z → encS.un s' y = encS.un s y) (hn : s'.now = s.now) : 0 + 0 + z.toNat * 76 + 76 ≤ 2281 ∧ updL (encS s) (0 + 0 + z.toNat * 76) vs = encS s' := by
  refine ⟨by omega, ?_⟩
  funext i
  by_cases a1 : i < 0 + 0 + z.toNat * 76
  · rw [updL_lt' _ _ _ _ a1]
    unfold encS
    rw [if_pos (by omega), if_pos (by omega), ho _ (by omega)]
  · by_cases a2 : i < 0 + 0 + z.toNat * 76 + 76
    · obtain ⟨j, rfl⟩ : ∃ j, i = 0 + 0 + z.toNat * 76 + j := ⟨i - (0 + 0 + z.toNat * 76), by omega⟩
      rw [encS.at_ s' z h j (by omega)]
      exact updL_at' vs _ _ _ _ (hv j (by omega))
    · rw [updL_ge' _ _ _ _ (by omega)]
      unfold encS
      by_cases c1 : i < 2280
      · rw [if_pos c1, if_pos c1, ho _ (by omega)]
      · rw [if_neg c1, if_neg c1, hn]
theorem encS.ld_u_here (s : SC) (z : Int) (h : 0 ≤ z ∧ z < 30) : 0 + 0 + z.toNat * 76 + 0 < 2281 ∧ encS s (0 + 0 + z.toNat * 76 + 0) = .bool (s.here z) := ⟨by omega, encS.at_ s z h 0 (by omega)⟩
theorem encS.ld_u_parent (s : SC) (z : Int) (h : 0 ≤ z ∧ z < 30) : 0 + 0 + z.toNat * 76 + 1 < 2281 ∧ encS s (0 + 0 + z.toNat * 76 + 1) = .int .i64 (s.par z) := ⟨by omega, encS.at_ s z h 1 (by omega)⟩
theorem encS.ld_u_weight (s : SC) (z : Int) (h : 0 ≤ z ∧ z < 30) : 0 + 0 + z.toNat * 76 + 2 < 2281 ∧ encS s (0 + 0 + z.toNat * 76 + 2) = .int .i64 (s.wt z) := ⟨by omega, encS.at_ s z h 2 (by omega)⟩
theorem encS.ld_u_v (s : SC) (z : Int) (h : 0 ≤ z ∧ z < 30) : 0 + 0 + z.toNat * 76 + 3 < 2281 ∧ encS s (0 + 0 + z.toNat * 76 + 3) = .int .u64 (s.v z) := ⟨by omega, encS.at_ s z h 3 (by omega)⟩
theorem encS.st_u_v (s : SC) (z : Int) (h : 0 ≤ z ∧ z < 30) (v : Int) : 0 + 0 + z.toNat * 76 + 3 < 2281 ∧ upd (encS s) (0 + 0 + z.toNat * 76 + 3) (.int .u64 v) = encS { s with v := fset s.v z v } := encS.set s { s with v := fset s.v z v } z h 3 (by omega) _ (fun j => by
  have e : encS.un { s with v := fset s.v z v } z = { encS.un s z with v := v } := by unfold encS.un; simp only [fset_eq]
  rw [e]
  by_cases hj : j = 3
  · subst hj; rfl
  · unfold encS.cell; simp only [if_neg hj]) (fun y hy => by unfold encS.un; simp only [fset_ne _ _ hy]) rfl
theorem encS.ld_u_ran (s : SC) (z : Int) (h : 0 ≤ z ∧ z < 30) : 0 + 0 + z.toNat * 76 + 4 < 2281 ∧ encS s (0 + 0 + z.toNat * 76 + 4) = .int .i64 (s.ran z) := ⟨by omega, encS.at_ s z h 4 (by omega)⟩
theorem encS.st_u_ran (s : SC) (z : Int) (h : 0 ≤ z ∧ z < 30) (v : Int) : 0 + 0 + z.toNat * 76 + 4 < 2281 ∧ upd (encS s) (0 + 0 + z.toNat * 76 + 4) (.int .i64 v) = encS { s with ran := fset s.ran z v } := encS.set s { s with ran := fset s.ran z v } z h 4 (by omega) _ (fun j => by
  have e : encS.un { s with ran := fset s.ran z v } z = { encS.un s z with ran := v } := by unfold encS.un; simp only [fset_eq]
  rw [e]
  by_cases hj : j = 4
  · subst hj; rfl
  · unfold encS.cell; simp only [if_neg hj]) (fun y hy => by unfold encS.un; simp only [fset_ne _ _ hy]) rfl
theorem encS.ld_u_awake (s : SC) (z : Int) (h : 0 ≤ z ∧ z < 30) : 0 + 0 + z.toNat * 76 + 5 < 2281 ∧ encS s (0 + 0 + z.toNat * 76 + 5) = .bool (s.awake z) := ⟨by omega, encS.at_ s z h 5 (by omega)⟩
theorem encS.st_u_awake (s : SC) (z : Int) (h : 0 ≤ z ∧ z < 30) (v : Bool) : 0 + 0 + z.toNat * 76 + 5 < 2281 ∧ upd (encS s) (0 + 0 + z.toNat * 76 + 5) (.bool v) = encS { s with awake := fset s.awake z v } := encS.set s { s with awake := fset s.awake z v } z h 5 (by omega) _ (fun j => by
  have e : encS.un { s with awake := fset s.awake z v } z = { encS.un s z with awake := v } := by unfold encS.un; simp only [fset_eq]
  rw [e]
  by_cases hj : j = 5
  · subst hj; rfl
  · unfold encS.cell; simp only [if_neg hj]) (fun y hy => by unfold encS.un; simp only [fset_ne _ _ hy]) rfl
theorem encS.ld_u_floor (s : SC) (z : Int) (h : 0 ≤ z ∧ z < 30) : 0 + 0 + z.toNat * 76 + 71 < 2281 ∧ encS s (0 + 0 + z.toNat * 76 + 71) = .int .u64 (s.floor z) := ⟨by omega, encS.at_ s z h 71 (by omega)⟩
theorem encS.st_u_floor (s : SC) (z : Int) (h : 0 ≤ z ∧ z < 30) (v : Int) : 0 + 0 + z.toNat * 76 + 71 < 2281 ∧ upd (encS s) (0 + 0 + z.toNat * 76 + 71) (.int .u64 v) = encS { s with floor := fset s.floor z v } := encS.set s { s with floor := fset s.floor z v } z h 71 (by omega) _ (fun j => by
  have e : encS.un { s with floor := fset s.floor z v } z = { encS.un s z with floor := v } := by unfold encS.un; simp only [fset_eq]
  rw [e]
  by_cases hj : j = 71
  · subst hj; rfl
  · unfold encS.cell; simp only [if_neg hj]) (fun y hy => by unfold encS.un; simp only [fset_ne _ _ hy]) rfl
theorem encS.ld_u_frozen (s : SC) (z : Int) (h : 0 ≤ z ∧ z < 30) : 0 + 0 + z.toNat * 76 + 72 < 2281 ∧ encS s (0 + 0 + z.toNat * 76 + 72) = .bool (s.frz z) := ⟨by omega, encS.at_ s z h 72 (by omega)⟩
theorem encS.ld_u_quota (s : SC) (z : Int) (h : 0 ≤ z ∧ z < 30) : 0 + 0 + z.toNat * 76 + 73 < 2281 ∧ encS s (0 + 0 + z.toNat * 76 + 73) = .int .i64 (s.quota z) := ⟨by omega, encS.at_ s z h 73 (by omega)⟩
theorem encS.ld_u_period (s : SC) (z : Int) (h : 0 ≤ z ∧ z < 30) : 0 + 0 + z.toNat * 76 + 74 < 2281 ∧ encS s (0 + 0 + z.toNat * 76 + 74) = .int .i64 (s.period z) := ⟨by omega, encS.at_ s z h 74 (by omega)⟩
theorem encS.ld_u_used (s : SC) (z : Int) (h : 0 ≤ z ∧ z < 30) : 0 + 0 + z.toNat * 76 + 75 < 2281 ∧ encS s (0 + 0 + z.toNat * 76 + 75) = .int .i64 (s.used z) := ⟨by omega, encS.at_ s z h 75 (by omega)⟩
theorem encS.st_u_used (s : SC) (z : Int) (h : 0 ≤ z ∧ z < 30) (v : Int) : 0 + 0 + z.toNat * 76 + 75 < 2281 ∧ upd (encS s) (0 + 0 + z.toNat * 76 + 75) (.int .i64 v) = encS { s with used := fset s.used z v } := encS.set s { s with used := fset s.used z v } z h 75 (by omega) _ (fun j => by
  have e : encS.un { s with used := fset s.used z v } z = { encS.un s z with used := v } := by unfold encS.un; simp only [fset_eq]
  rw [e]
  by_cases hj : j = 75
  · subst hj; rfl
  · unfold encS.cell; simp only [if_neg hj]) (fun y hy => by unfold encS.un; simp only [fset_ne _ _ hy]) rfl
theorem encS.ld_now (s : SC) : 0 + 2280 < 2281 ∧ encS s (0 + 2280) = .int .i64 s.now := ⟨by omega, by unfold encS; rw [if_neg (by omega)]; rw [if_pos (by omega)]⟩
theorem encS.st_now (s : SC) (v : Int) : 0 + 2280 < 2281 ∧ upd (encS s) (0 + 2280) (.int .i64 v) = encS { s with now := v } := by
  refine ⟨by omega, ?_⟩
  funext i
  unfold upd encS
  by_cases hi : i = 0 + 2280
  · rw [if_pos hi, if_neg (by omega), if_pos (by omega)]
  · rw [if_neg hi]
    by_cases c1 : i < 2280
    · rw [if_pos c1, if_pos c1]; rfl
    · rw [if_neg c1, if_neg c1, if_neg (by omega), if_neg (by omega)]

end Go.X.Fa

namespace Go.X.Fa
open Go Go.X
def fam30 : Nat → Bool := fun i => Nat.blt i 30
def SC.rows (e : TypeId) (s : SC) : Nat → RowD := fun i => ⟨.slice (s.P (i : Int)) (s.Q (i : Int)).n (s.C (i : Int)), e, 2, (s.Q (i : Int)).n, newsOf (encH (s.Q (i : Int))) ((s.Q (i : Int)).n * 2)⟩
abbrev offQ (z : Int) : Nat := 0 + 0 + z.toNat * 76 + 6
theorem encS_q (s : SC) {z : Int} (h : 0 ≤ z ∧ z < 30) {i : Nat} (hi : i < 65) : encS s (offQ z + i) = encQ (s.Q z) (s.P z) (s.C z) i := by
  have e := encS.at_ s z h (6 + i) (by omega)
  rw [show offQ z + i = 0 + 0 + z.toNat * 76 + (6 + i) from by unfold offQ; omega, e]
  unfold encS.cell
  rw [if_neg (by omega), if_neg (by omega), if_neg (by omega), if_neg (by omega), if_neg (by omega), if_neg (by omega), if_pos (by omega), show 6 + i - 6 = i from by omega]
  rfl
section
variable {W w : World} {S : Nat → Nat → Prop} {H F : List Ent}
theorem XM.cellsAs {b o n : Nat} {C C' : Nat → Value} (hC : ∀ i, i < n → C i = C' i) (h : XM W S (.cells b o n C :: H) w) : XM W S (.cells b o n C' :: H) w := by
  obtain ⟨⟨hh, hpw⟩, hk, hm⟩ := h
  rw [List.pairwise_cons] at hpw
  refine ⟨⟨fun e he => ?_, List.pairwise_cons.2 ⟨hpw.1, hpw.2⟩⟩, hk, fun e he => ?_⟩
  · rcases List.mem_cons.1 he with rfl | he
    · obtain ⟨A, t, lo, hi, h1, h2⟩ := hh (.cells b o n C) (by simp)
      exact ⟨A, t, lo, hi, h1, fun i hi2 => by rw [← hC i hi2]; exact h2 i hi2⟩
    · exact hh e (by simp [he])
  · rcases List.mem_cons.1 he with rfl | he
    · exact hm (.cells b o n C) (by simp)
    · exact hm e (by simp [he])
theorem XM.openS {b o : Nat} {e : TypeId} {s : SC} {z : Int} (hz : 0 ≤ z ∧ z < 30) (hp : Pick H [.cells b o 2281 (encS s), .fam fam30 (s.rows e)] F) (h : XM W S H w) :
    XM W S (.cells b (o + offQ z) 65 (encQ (s.Q z) (s.P z) (s.C z)) :: frow (s.P z) (s.C z) e 2 (s.Q z).n (encH (s.Q z)) :: .cells b o (offQ z) (encS s) :: .cells b (o + offQ z + 65) (2281 - offQ z - 65) (fun i => encS s (offQ z + 65 + i)) :: .fam (outP fam30 z.toNat) (s.rows e) :: F) w := by
  have hoff : offQ z + 65 ≤ 2281 := by unfold offQ; omega
  have h1 := h.perm hp.perm
  have h2 := XM.part (n := 2281) (off := offQ z) (m := 65) hoff h1
  have h3 := XM.cellsAs (C' := encQ (s.Q z) (s.P z) (s.C z)) (fun i hi => encS_q s hz hi) h2
  have h4 := h3.perm (H' := .fam fam30 (s.rows e) :: .cells b (o + offQ z) 65 (encQ (s.Q z) (s.P z) (s.C z)) :: .cells b o (offQ z) (encS s) :: .cells b (o + offQ z + 65) (2281 - offQ z - 65) (fun i => encS s (offQ z + 65 + i)) :: F)
    (Del.perm (.there (.there (.there .here))))
  have h5 := XM.famOut z.toNat (by show Nat.blt z.toNat 30 = true; simp; omega) h4
  have e1 : (s.rows e z.toNat).ent = frow (s.P z) (s.C z) e 2 (s.Q z).n (encH (s.Q z)) := by
    unfold SC.rows RowD.ent frow
    simp only [show ((z.toNat : Nat) : Int) = z from by omega]
  rw [e1] at h5
  exact h5.perm (Pick.perm (E := [_, _, _, _, _]) (F := F) (.cons (.there (.there .here)) (.cons .here (.cons (.there .here) (.cons (.there .here) (.cons .here .nil))))))
theorem encS_out (s : SC) (z : Int) (q : QS) (p : Option Addr) (c : Nat) (h : 0 ≤ z ∧ z < 30) (i : Nat) (hi : i < offQ z ∨ offQ z + 65 ≤ i) : encS { s with Q := fset s.Q z q, P := fset s.P z p, C := fset s.C z c } i = encS s i := by
  unfold encS
  refine ite_both (fun c1 => ?_) (fun _ => rfl)
  by_cases cz : ((i / 76 : Nat) : Int) = z
  · have hj : ¬ (6 ≤ i % 76 ∧ i % 76 < 71) := by unfold offQ at hi; omega
    rw [cz]
    unfold encS.cell
    simp only [if_neg hj]
    rfl
  · unfold encS.un
    simp only [fset_ne _ _ cz]
theorem XM.closeS {b o : Nat} {e : TypeId} {s : SC} {z : Int} {q : QS} {p : Option Addr} {c : Nat} (hz : 0 ≤ z ∧ z < 30)
    (hp : Pick H [.cells b (o + offQ z) 65 (encQ q p c), frow p c e 2 q.n (encH q), .cells b o (offQ z) (encS s), .cells b (o + offQ z + 65) (2281 - offQ z - 65) (fun i => encS s (offQ z + 65 + i)), .fam (outP fam30 z.toNat) (s.rows e)] F) (h : XM W S H w) :
    XM W S (.cells b o 2281 (encS { s with Q := fset s.Q z q, P := fset s.P z p, C := fset s.C z c }) :: .fam fam30 (SC.rows e { s with Q := fset s.Q z q, P := fset s.P z p, C := fset s.C z c }) :: F) w := by
  have hoff : offQ z + 65 ≤ 2281 := by unfold offQ; omega
  have h1 := (h.perm hp.perm).perm (Pick.perm (E := [frow p c e 2 q.n (encH q), .fam (outP fam30 z.toNat) (s.rows e), .cells b (o + offQ z) 65 (encQ q p c), .cells b o (offQ z) (encS s), .cells b (o + offQ z + 65) (2281 - offQ z - 65) (fun i => encS s (offQ z + 65 + i))]) (F := F)
    (.cons (.there .here) (.cons (.there (.there (.there .here))) (.cons .here (.cons .here (.cons .here .nil))))))
  have h2 := XM.famIn (x := ⟨.slice p q.n c, e, 2, q.n, newsOf (encH q) (q.n * 2)⟩) z.toNat (outP_at _ _) h1
  rw [inout (show fam30 z.toNat = true by show Nat.blt z.toNat 30 = true; simp; omega)] at h2
  have e1 : rset (s.rows e) z.toNat ⟨.slice p q.n c, e, 2, q.n, newsOf (encH q) (q.n * 2)⟩ = SC.rows e { s with Q := fset s.Q z q, P := fset s.P z p, C := fset s.C z c } := by
    funext i
    by_cases hi : i = z.toNat
    · subst hi
      rw [rset_eq]
      unfold SC.rows
      simp only [show ((z.toNat : Nat) : Int) = z from by omega, fset_eq]
    · rw [rset_ne _ _ hi]
      have hi2 : ¬ (i : Int) = z := by omega
      unfold SC.rows
      simp only [fset_ne _ _ hi2]
  rw [e1] at h2
  have h3 := h2.perm (Pick.perm (E := [.cells b (o + offQ z) 65 (encQ q p c), .cells b o (offQ z) (encS s), .cells b (o + offQ z + 65) (2281 - offQ z - 65) (fun i => encS s (offQ z + 65 + i)), .fam fam30 (SC.rows e { s with Q := fset s.Q z q, P := fset s.P z p, C := fset s.C z c })]) (F := F)
    (.cons (.there .here) (.cons (.there .here) (.cons (.there .here) (.cons .here .nil)))))
  refine XM.join (n := 2281) (off := offQ z) (m := 65) hoff (fun i hi => ?_) (fun i hi => ?_) (fun i hi => ?_) h3 (by omega)
  · exact encS_out s z q p c hz i (.inl hi)
  · have := encS_q { s with Q := fset s.Q z q, P := fset s.P z p, C := fset s.C z c } hz hi
    simp only [fset_eq] at this
    exact this
  · exact encS_out s z q p c hz _ (.inr (by omega))
theorem XM.closeS0 {b o : Nat} {e : TypeId} {s : SC} {z : Int} (hz : 0 ≤ z ∧ z < 30)
    (hp : Pick H [.cells b (o + offQ z) 65 (encQ (s.Q z) (s.P z) (s.C z)), frow (s.P z) (s.C z) e 2 (s.Q z).n (encH (s.Q z)), .cells b o (offQ z) (encS s), .cells b (o + offQ z + 65) (2281 - offQ z - 65) (fun i => encS s (offQ z + 65 + i)), .fam (outP fam30 z.toNat) (s.rows e)] F) (h : XM W S H w) :
    XM W S (.cells b o 2281 (encS s) :: .fam fam30 (s.rows e) :: F) w := by
  have h1 := XM.closeS hz hp h
  rw [fset_same s.Q rfl, fset_same s.P rfl, fset_same s.C rfl] at h1
  exact h1
/-- a unit's queue is made new -/ theorem XM.newRow {e : TypeId} {s : SC} {z : Int} (hz : 0 ≤ z ∧ z < 30) (hp : Pick H [.fam fam30 (s.rows e)] F) (h : XM W S H w) :
    XM W S (.fam fam30 (SC.rows e { s with Q := fset s.Q z QS.void, P := fset s.P z none, C := fset s.C z 0 }) :: F) w := by
  have h1 := XM.famOut z.toNat (by show Nat.blt z.toNat 30 = true; simp; omega) (h.perm hp.perm)
  have h2 := XM.pick (E := .fam (outP fam30 z.toNat) (s.rows e) :: F) (F := [(s.rows e z.toNat).ent]) (by
    have hq : ∀ (x : Ent) (L : List Ent), Pick (x :: L) L [x] := fun x L => by
      induction L with
      | nil => exact .nil
      | cons y r ih => exact .cons (.there .here) ih
    exact hq _ _) h1
  have h3 := h2.nilRow e 2
  have h4 := XM.famIn (x := ⟨.slice none 0 0, e, 2, 0, []⟩) z.toNat (outP_at _ _) h3
  rw [inout (show fam30 z.toNat = true by show Nat.blt z.toNat 30 = true; simp; omega)] at h4
  have e1 : rset (s.rows e) z.toNat ⟨.slice none 0 0, e, 2, 0, []⟩ = SC.rows e { s with Q := fset s.Q z QS.void, P := fset s.P z none, C := fset s.C z 0 } := by
    funext i
    by_cases hi : i = z.toNat
    · subst hi
      rw [rset_eq]
      unfold SC.rows
      simp only [show ((z.toNat : Nat) : Int) = z from by omega, fset_eq]
      rfl
    · rw [rset_ne _ _ hi]
      have hi2 : ¬ (i : Int) = z := by omega
      unfold SC.rows
      simp only [fset_ne _ _ hi2]
  rw [e1] at h4
  exact h4
end
theorem XQ.mono {P : Program} {ops : Array Oper} {Q : Exit → Act → World → Prop} {n : Fr} {L : PF} {M M' : World → Prop} {B : Obl} {f : Nat} {l : Array Bool} (hm : ∀ w, M w → M' w) (h : XQ P n ops Q B f l L M') : XQ P n ops Q B f l L M := fun hc a w ha hw hJ => h hc a w ha (hm w hw) hJ
theorem SC.Rep.kid {s : SC} (h : s.Rep) (hw : ∀ i, s.was i = true → 0 < i ∧ i < 30) {n : Int} (h0 : 0 ≤ n) (h1 : n < 30) : s.toSF.kid n = decide (0 < (s.Q n).n) := by
  rw [Bool.eq_iff_iff, SF.kid_true, decide_eq_true_eq, (h n h0 h1).len]
  constructor
  · rintro ⟨i, i0, i1, i2, i3⟩; exact ⟨i, i0, by omega, (SF.mq_inn _ _ _).2 ⟨i2, i3⟩⟩
  · rintro ⟨i, i0, i1, i2⟩
    obtain ⟨a, b⟩ := (SF.mq_inn _ _ _).1 i2
    have := hw i a
    exact ⟨i, i0, by omega, a, b⟩
namespace SF
def grE (s : SF) (n : Int) : Int := if n < 0 ∨ 10 ≤ n then 1 else if s.here n = true then 0 else 2
def tkE (s : SF) (n : Int) : Int := if n < 0 ∨ 20 ≤ n then 1 else if s.here (10 + n) = true then 0 else 2
theorem grE_nn (s : SF) (n : Int) : 0 ≤ s.grE n := by unfold grE; split <;> (try split) <;> omega
theorem tkE_nn (s : SF) (n : Int) : 0 ≤ s.tkE n := by unfold tkE; split <;> (try split) <;> omega
theorem lookF_stop (k : Nat) (s : SF) {n : Int} (h : n ≤ 0) : lookF k s n = s := by
  cases k with
  | zero => rfl
  | succ k => show (if n ≤ 0 then s else _) = s; rw [if_pos h]
theorem lookF_go (k : Nat) (s : SF) {n : Int} (h : 0 < n) : lookF (k + 1) s n = lookF k (s.stp n) (s.par n) := by
  show (if n ≤ 0 then s else lookF k (s.stp n) (s.par n)) = _
  rw [if_neg (by omega)]
theorem Inv.stp {s : SF} {d : Int → Nat} (h : s.Inv d) {n : Int} (h0 : 0 < n) (h1 : n < 30) (h2 : s.here n = true) : (s.stp n).Inv d := by
  refine ⟨h.h0, h.up, fun i hi => ?_, h.quo, h.wt⟩
  have e : (s.stp n).was i = fset s.was n (s.ready n) i := rfl
  rw [e] at hi
  by_cases c : i = n
  · subst c; exact ⟨h0, h1, h2⟩
  · rw [fset_ne _ _ c] at hi; exact h.was i hi
end SF
/-- a unit is put in a queue, or taken out: the queues bear what the units say -/ theorem SC.Rep.stay {s : SC} (h : s.Rep) {n : Int} (hr : s.toSF.ready n = s.was n) : SC.Rep { s with toSF := s.toSF.stp n } := fun g g0 g1 => by
  refine (h g g0 g1).ext (fun i _ _ => ?_) (fun i _ _ hi => ?_)
  · show (fset s.was n (s.toSF.ready n) i && decide (s.par i = g)) = (s.was i && decide (s.par i = g))
    rw [hr, fset_same _ rfl]
  · show fset s.v n _ i = s.v i
    rw [if_neg (by rw [hr]; intro q; rw [q.1] at q; exact absurd q.2 (by simp)), fset_same _ rfl]
theorem SC.Rep.enter {s : SC} (h : s.Rep) {n : Int} (hn : 0 ≤ n ∧ n < 30) (hg : 0 ≤ s.par n ∧ s.par n < 30) (hw : s.was n = false) (t : SF) (ht : t.was = fset s.was n true) (hv : ∀ i, ¬ i = n → t.v i = s.v i) (hp : t.par = s.par) (key : Int) (hkey : t.v n = key) (P : Int → Option Addr) (C : Int → Nat) :
    SC.Rep ⟨t, fset s.Q (s.par n) ((s.Q (s.par n)).put n key).2, P, C⟩ := fun g g0 g1 => by
  subst hkey
  show QRel (fset s.Q (s.par n) _ g) (t.mq g)
  unfold SF.mq
  rw [ht, hp]
  by_cases c : g = s.par n
  · subst c
    rw [fset_eq]
    have his : (s.toSF.mq (s.par n)).is n = 2 := RQ.is_none (by omega) (by show (s.was n && _) = false; rw [hw]; rfl)
    have h1 := ((h _ g0 g1).put n (t.v n)).2
    rw [RQ.put_done _ (by omega) (by omega)] at h1
    refine h1.ext (fun i _ _ => ?_) (fun i _ _ _ => ?_)
    · show (fset s.was n true i && decide (s.par i = s.par n)) = fset (fun i => s.was i && decide (s.par i = s.par n)) n true i
      by_cases ci : i = n
      · subst ci; rw [fset_eq, fset_eq]; simp
      · rw [fset_ne _ _ ci, fset_ne _ _ ci]
    · show t.v i = fset s.v n (t.v n) i
      by_cases ci : i = n
      · subst ci; rw [fset_eq]
      · rw [fset_ne _ _ ci]; exact hv i ci
  · rw [fset_ne _ _ c]
    refine (h g g0 g1).ext (fun i _ _ => ?_) (fun i _ _ hi => ?_)
    · show (fset s.was n true i && decide (s.par i = g)) = (s.was i && decide (s.par i = g))
      by_cases ci : i = n
      · subst ci
        have c2 : ¬ s.par i = g := fun e => c e.symm
        rw [fset_eq, hw]; simp [c2]
      · rw [fset_ne _ _ ci]
    · have ci : ¬ i = n := fun e => by
        subst e
        have := ((SF.mq_inn _ _ _).1 hi).1
        rw [hw] at this; cases this
      exact hv i ci
theorem SC.Rep.leave {s : SC} (h : s.Rep) {n : Int} (hn : 0 ≤ n ∧ n < 30) (hg : 0 ≤ s.par n ∧ s.par n < 30) (hw : s.was n = true) (t : SF) (ht : t.was = fset s.was n false) (hv : ∀ i, ¬ i = n → t.v i = s.v i) (hp : t.par = s.par) (P : Int → Option Addr) (C : Int → Nat) :
    SC.Rep ⟨t, fset s.Q (s.par n) ((s.Q (s.par n)).cut n).2.2, P, C⟩ := fun g g0 g1 => by
  show QRel (fset s.Q (s.par n) _ g) (t.mq g)
  unfold SF.mq
  rw [ht, hp]
  by_cases c : g = s.par n
  · subst c
    rw [fset_eq]
    have his : (s.toSF.mq (s.par n)).is n = 0 := RQ.is_ok (by omega) (by show (s.was n && _) = true; rw [hw]; simp)
    have h1 := ((h _ g0 g1).cut n).2.2
    rw [RQ.of_cut his] at h1
    refine h1.ext (fun i _ _ => ?_) (fun i _ _ hi => ?_)
    · show (fset s.was n false i && decide (s.par i = s.par n)) = fset (fun i => s.was i && decide (s.par i = s.par n)) n false i
      by_cases ci : i = n
      · subst ci; rw [fset_eq, fset_eq]; simp
      · rw [fset_ne _ _ ci, fset_ne _ _ ci]
    · have ci : ¬ i = n := fun e => by
        subst e
        have hi2 : fset (fun i => s.was i && decide (s.par i = s.par i)) i false i = true := hi
        rw [fset_eq] at hi2; cases hi2
      exact hv i ci
  · rw [fset_ne _ _ c]
    refine (h g g0 g1).ext (fun i _ _ => ?_) (fun i _ _ hi => ?_)
    · show (fset s.was n false i && decide (s.par i = g)) = (s.was i && decide (s.par i = g))
      by_cases ci : i = n
      · subst ci
        have c2 : ¬ s.par i = g := fun e => c e.symm
        rw [fset_eq]; simp [c2]
      · rw [fset_ne _ _ ci]
    · have ci : ¬ i = n := fun e => by
        subst e
        exact c ((SF.mq_inn _ _ _).1 hi).2.symm
      exact hv i ci
theorem SC.Rep.in_ {s : SC} (h : s.Rep) {n : Int} (hn : 0 ≤ n ∧ n < 30) (hg : 0 ≤ s.par n ∧ s.par n < 30) : ((s.Q (s.par n)).key n).2 = if s.was n = true then 0 else 2 := by
  rw [((h _ hg.1 hg.2).key_eq n).2.1]
  by_cases c : s.was n = true
  · rw [if_pos c, RQ.of_key (RQ.is_ok (by omega) (by show (s.was n && _) = true; rw [c]; simp))]
  · have his : (s.toSF.mq (s.par n)).is n = 2 := RQ.is_none (by omega) (by
      show (s.was n && _) = false
      cases q : s.was n with
      | true => exact absurd q c
      | false => rfl)
    rw [if_neg c, RQ.of_no false (by omega)]; exact his
theorem SC.Rep.cut1 {s : SC} (h : s.Rep) {n : Int} (hn : 0 ≤ n ∧ n < 30) (hg : 0 ≤ s.par n ∧ s.par n < 30) (hw : s.was n = true) : ((s.Q (s.par n)).cut n).1 = s.v n ∧ ((s.Q (s.par n)).cut n).2.1 = 0 := by
  obtain ⟨h1, h2, _⟩ := (h _ hg.1 hg.2).cut n
  rw [RQ.of_cut (RQ.is_ok (by omega) (by show (s.was n && _) = true; rw [hw]; simp))] at h1 h2
  exact ⟨h1, h2⟩
theorem SF.stp_same {s : SF} {n : Int} (h : s.ready n = s.was n) : s.stp n = s := by
  unfold SF.stp
  rw [if_neg (by rw [h]; intro q; rw [q.1] at q; exact absurd q.2 (by simp)), fset_same s.v rfl, h, fset_same s.was rfl]
theorem SF.ready_was {s : SF} {n : Int} (hp : s.par n ≠ n) (w : Bool) : SF.ready { s with was := fset s.was n w } n = s.ready n := by
  have hk : SF.kid { s with was := fset s.was n w } n = s.kid n := by
    rw [Bool.eq_iff_iff, SF.kid_true, SF.kid_true]
    constructor
    · rintro ⟨i, i0, i1, i2, i3⟩
      have c : ¬ i = n := fun e => hp (by rw [e] at i3; exact i3)
      have i2' : fset s.was n w i = true := i2
      rw [fset_ne _ _ c] at i2'
      exact ⟨i, i0, i1, i2', i3⟩
    · rintro ⟨i, i0, i1, i2, i3⟩
      have c : ¬ i = n := fun e => hp (by rw [e] at i3; exact i3)
      refine ⟨i, i0, i1, ?_, i3⟩
      show fset s.was n w i = true
      rw [fset_ne _ _ c]; exact i2
  unfold SF.ready
  rw [hk]
theorem encS_v_at (s : SC) (z v : Int) (h : 0 ≤ z ∧ z < 30) : 0 + 0 + z.toNat * 76 + 3 < 2281 ∧ encS { s with v := fset s.v z v } (0 + 0 + z.toNat * 76 + 3) = .int .u64 v := by
  have := encS.ld_u_v { s with v := fset s.v z v } z h
  rw [show ({ s with v := fset s.v z v } : SC).v z = v from fset_eq _ _ _] at this
  exact this
theorem XM.wasS {W w : World} {S : Nat → Nat → Prop} {H F : List Ent} {b o : Nat} {e : TypeId} {s : SC} (ws : Int → Bool) (hp : Pick H [.cells b o 2281 (encS s), .fam fam30 (s.rows e)] F) (h : XM W S H w) :
    XM W S (.cells b o 2281 (encS { s with was := ws }) :: .fam fam30 (SC.rows e { s with was := ws }) :: F) w := h.perm hp.perm

end Go.X.Fa
