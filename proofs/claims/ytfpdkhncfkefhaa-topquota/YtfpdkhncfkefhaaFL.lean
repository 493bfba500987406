import Derived.Test.YtfpdkhncfkefhaaFM
namespace Go.X
open Go
theorem updL_lt' (C : Nat → Value) : ∀ (vs : List Value) (i j : Nat), j < i → updL C i vs j = C j
  | [], _, _, _ => rfl
  | v :: r, i, j, h => by
    unfold updL
    rw [updL_lt' (upd C i v) r (i + 1) j (by omega)]
    simp [upd]; omega
theorem updL_at' : ∀ (vs : List Value) (C : Nat → Value) (i j : Nat) (v : Value), vs[j]? = some v → updL C i vs (i + j) = v
  | [], _, _, _, _, h => by simp at h
  | u :: r, C, i, 0, v, h => by
    have h2 : u = v := by simpa using h
    unfold updL
    rw [updL_lt' _ _ _ _ (by omega), ← h2]
    simp [upd]
  | u :: r, C, i, j + 1, v, h => by
    unfold updL
    have := updL_at' r (upd C i u) (i + 1) j v (by simpa using h)
    rw [show i + 1 + j = i + (j + 1) from by omega] at this
    exact this
theorem updL_ge' : ∀ (vs : List Value) (C : Nat → Value) (i j : Nat), i + vs.length ≤ j → updL C i vs j = C j
  | [], _, _, _, _ => rfl
  | v :: r, C, i, j, h => by
    simp only [List.length_cons] at h
    unfold updL
    rw [updL_ge' r (upd C i v) (i + 1) j (by omega)]
    simp [upd]; omega
structure encS.U where
  here : Bool
  par : Int
  wt : Int
  v : Int
  ran : Int
  awake : Bool
  floor : Int
  frz : Bool
  quota : Int
  period : Int
  used : Int
  q : QS
  p : Option Addr
  c : Nat

def encS.un (s : SC) (z : Int) : encS.U := ⟨s.here z, s.par z, s.wt z, s.v z, s.ran z, s.awake z, s.floor z, s.frz z, s.quota z, s.period z, s.used z, s.Q z, s.P z, s.C z⟩
def encS.cell (u : encS.U) (j : Nat) : Value :=
  if j = 0 then .bool u.here else
  if j = 1 then .int .i64 u.par else
  if j = 2 then .int .i64 u.wt else
  if j = 3 then .int .u64 u.v else
  if j = 4 then .int .i64 u.ran else
  if j = 5 then .bool u.awake else
  if 6 ≤ j ∧ j < 71 then encQ u.q u.p u.c (j - 6) else
  if j = 71 then .int .u64 u.floor else
  if j = 72 then .bool u.frz else
  if j = 73 then .int .i64 u.quota else
  if j = 74 then .int .i64 u.period else
  if j = 75 then .int .i64 u.used else
  undef
def encS (s : SC) (i : Nat) : Value :=
  if i < 2280 then encS.cell (encS.un s ((i / 76 : Nat) : Int)) (i % 76) else
  if i = 2280 then .int .i64 s.now else
  undef
theorem encS.at_ (s : SC) (z : Int) (h : 0 ≤ z ∧ z < 30) (j : Nat) (hj : j < 76) : encS s (0 + 0 + z.toNat * 76 + j) = encS.cell (encS.un s z) j := by
  unfold encS
  rw [if_pos (by omega), show (((0 + 0 + z.toNat * 76 + j) / 76 : Nat) : Int) = z from by omega, show (0 + 0 + z.toNat * 76 + j) % 76 = j from by omega]
theorem encS.set (s s' : SC) (z : Int) (h : 0 ≤ z ∧ z < 30) (k : Nat) (hk : k < 76) (v : Value) (hv : ∀ j, encS.cell (encS.un s' z) j = if j = k then v else encS.cell (encS.un s z) j) (ho : ∀ y, ¬ y = z → encS.un s' y = encS.un s y) (hn : s'.now = s.now) : 0 + 0 + z.toNat * 76 + k < 2281 ∧ upd (encS s) (0 + 0 + z.toNat * 76 + k) v = encS s' := by
  refine ⟨by omega, ?_⟩
  funext i
  unfold upd
  by_cases hi : i = 0 + 0 + z.toNat * 76 + k
  · rw [if_pos hi, hi, encS.at_ s' z h k hk, hv, if_pos rfl]
  · rw [if_neg hi]
    unfold encS
    by_cases c1 : i < 2280
    · rw [if_pos c1, if_pos c1]
      by_cases cz : ((i / 76 : Nat) : Int) = z
      · rw [cz, hv, if_neg (by omega)]
      · rw [ho _ cz]
    · rw [if_neg c1, if_neg c1, hn]
theorem encS.setL (s s' : SC) (z : Int) (h : 0 ≤ z ∧ z < 30) (vs : List Value) (hl : vs.length = 76) (hv : ∀ j, j < 76 → vs[j]? = some (encS.cell (encS.un s' z) j)) (ho : ∀ y, ¬ y = z → encS.un s' y = encS.un s y) (hn : s'.now = s.now) : 0 + 0 + z.toNat * 76 + 76 ≤ 2281 ∧ updL (encS s) (0 + 0 + z.toNat * 76) vs = encS s' := by
  refine ⟨by omega, ?_⟩
  funext i
  by_cases a1 : i < 0 + 0 + z.toNat * 76
  · rw [updL_lt' _ _ _ _ a1]
    unfold encS
    rw [if_pos (by omega), if_pos (by omega), ho _ (by omega)]
  · by_cases a2 : i < 0 + 0 + z.toNat * 76 + 76
    · obtain ⟨j, rfl⟩ : ∃ j, i = 0 + 0 + z.toNat * 76 + j := ⟨i - (0 + 0 + z.toNat * 76), by omega⟩
      rw [encS.at_ s' z h j (by omega)]
      exact updL_at' vs _ _ _ _ (hv j (by omega))
    · rw [updL_ge' _ _ _ _ (by omega)]
      unfold encS
      by_cases c1 : i < 2280
      · rw [if_pos c1, if_pos c1, ho _ (by omega)]
      · rw [if_neg c1, if_neg c1, hn]
theorem encS.ld_u_here (s : SC) (z : Int) (h : 0 ≤ z ∧ z < 30) : 0 + 0 + z.toNat * 76 + 0 < 2281 ∧ encS s (0 + 0 + z.toNat * 76 + 0) = .bool (s.here z) := ⟨by omega, encS.at_ s z h 0 (by omega)⟩
theorem encS.st_u_here (s : SC) (z : Int) (h : 0 ≤ z ∧ z < 30) (v : Bool) : 0 + 0 + z.toNat * 76 + 0 < 2281 ∧ upd (encS s) (0 + 0 + z.toNat * 76 + 0) (.bool v) = encS { s with here := fset s.here z v } := encS.set s { s with here := fset s.here z v } z h 0 (by omega) _ (fun j => by
  have e : encS.un { s with here := fset s.here z v } z = { encS.un s z with here := v } := by unfold encS.un; simp only [fset_eq]
  rw [e]
  by_cases hj : j = 0
  · subst hj; rfl
  · unfold encS.cell; simp only [if_neg hj]) (fun y hy => by unfold encS.un; simp only [fset_ne _ _ hy]) rfl
theorem encS.ld_u_parent (s : SC) (z : Int) (h : 0 ≤ z ∧ z < 30) : 0 + 0 + z.toNat * 76 + 1 < 2281 ∧ encS s (0 + 0 + z.toNat * 76 + 1) = .int .i64 (s.par z) := ⟨by omega, encS.at_ s z h 1 (by omega)⟩
theorem encS.st_u_parent (s : SC) (z : Int) (h : 0 ≤ z ∧ z < 30) (v : Int) : 0 + 0 + z.toNat * 76 + 1 < 2281 ∧ upd (encS s) (0 + 0 + z.toNat * 76 + 1) (.int .i64 v) = encS { s with par := fset s.par z v } := encS.set s { s with par := fset s.par z v } z h 1 (by omega) _ (fun j => by
  have e : encS.un { s with par := fset s.par z v } z = { encS.un s z with par := v } := by unfold encS.un; simp only [fset_eq]
  rw [e]
  by_cases hj : j = 1
  · subst hj; rfl
  · unfold encS.cell; simp only [if_neg hj]) (fun y hy => by unfold encS.un; simp only [fset_ne _ _ hy]) rfl
theorem encS.ld_u_weight (s : SC) (z : Int) (h : 0 ≤ z ∧ z < 30) : 0 + 0 + z.toNat * 76 + 2 < 2281 ∧ encS s (0 + 0 + z.toNat * 76 + 2) = .int .i64 (s.wt z) := ⟨by omega, encS.at_ s z h 2 (by omega)⟩
theorem encS.st_u_weight (s : SC) (z : Int) (h : 0 ≤ z ∧ z < 30) (v : Int) : 0 + 0 + z.toNat * 76 + 2 < 2281 ∧ upd (encS s) (0 + 0 + z.toNat * 76 + 2) (.int .i64 v) = encS { s with wt := fset s.wt z v } := encS.set s { s with wt := fset s.wt z v } z h 2 (by omega) _ (fun j => by
  have e : encS.un { s with wt := fset s.wt z v } z = { encS.un s z with wt := v } := by unfold encS.un; simp only [fset_eq]
  rw [e]
  by_cases hj : j = 2
  · subst hj; rfl
  · unfold encS.cell; simp only [if_neg hj]) (fun y hy => by unfold encS.un; simp only [fset_ne _ _ hy]) rfl
theorem encS.ld_u_v (s : SC) (z : Int) (h : 0 ≤ z ∧ z < 30) : 0 + 0 + z.toNat * 76 + 3 < 2281 ∧ encS s (0 + 0 + z.toNat * 76 + 3) = .int .u64 (s.v z) := ⟨by omega, encS.at_ s z h 3 (by omega)⟩
theorem encS.st_u_v (s : SC) (z : Int) (h : 0 ≤ z ∧ z < 30) (v : Int) : 0 + 0 + z.toNat * 76 + 3 < 2281 ∧ upd (encS s) (0 + 0 + z.toNat * 76 + 3) (.int .u64 v) = encS { s with v := fset s.v z v } := encS.set s { s with v := fset s.v z v } z h 3 (by omega) _ (fun j => by
  have e : encS.un { s with v := fset s.v z v } z = { encS.un s z with v := v } := by unfold encS.un; simp only [fset_eq]
  rw [e]
  by_cases hj : j = 3
  · subst hj; rfl
  · unfold encS.cell; simp only [if_neg hj]) (fun y hy => by unfold encS.un; simp only [fset_ne _ _ hy]) rfl
theorem encS.ld_u_ran (s : SC) (z : Int) (h : 0 ≤ z ∧ z < 30) : 0 + 0 + z.toNat * 76 + 4 < 2281 ∧ encS s (0 + 0 + z.toNat * 76 + 4) = .int .i64 (s.ran z) := ⟨by omega, encS.at_ s z h 4 (by omega)⟩
theorem encS.st_u_ran (s : SC) (z : Int) (h : 0 ≤ z ∧ z < 30) (v : Int) : 0 + 0 + z.toNat * 76 + 4 < 2281 ∧ upd (encS s) (0 + 0 + z.toNat * 76 + 4) (.int .i64 v) = encS { s with ran := fset s.ran z v } := encS.set s { s with ran := fset s.ran z v } z h 4 (by omega) _ (fun j => by
  have e : encS.un { s with ran := fset s.ran z v } z = { encS.un s z with ran := v } := by unfold encS.un; simp only [fset_eq]
  rw [e]
  by_cases hj : j = 4
  · subst hj; rfl
  · unfold encS.cell; simp only [if_neg hj]) (fun y hy => by unfold encS.un; simp only [fset_ne _ _ hy]) rfl
theorem encS.ld_u_awake (s : SC) (z : Int) (h : 0 ≤ z ∧ z < 30) : 0 + 0 + z.toNat * 76 + 5 < 2281 ∧ encS s (0 + 0 + z.toNat * 76 + 5) = .bool (s.awake z) := ⟨by omega, encS.at_ s z h 5 (by omega)⟩
theorem encS.st_u_awake (s : SC) (z : Int) (h : 0 ≤ z ∧ z < 30) (v : Bool) : 0 + 0 + z.toNat * 76 + 5 < 2281 ∧ upd (encS s) (0 + 0 + z.toNat * 76 + 5) (.bool v) = encS { s with awake := fset s.awake z v } := encS.set s { s with awake := fset s.awake z v } z h 5 (by omega) _ (fun j => by
  have e : encS.un { s with awake := fset s.awake z v } z = { encS.un s z with awake := v } := by unfold encS.un; simp only [fset_eq]
  rw [e]
  by_cases hj : j = 5
  · subst hj; rfl
  · unfold encS.cell; simp only [if_neg hj]) (fun y hy => by unfold encS.un; simp only [fset_ne _ _ hy]) rfl
theorem encS.ld_u_floor (s : SC) (z : Int) (h : 0 ≤ z ∧ z < 30) : 0 + 0 + z.toNat * 76 + 71 < 2281 ∧ encS s (0 + 0 + z.toNat * 76 + 71) = .int .u64 (s.floor z) := ⟨by omega, encS.at_ s z h 71 (by omega)⟩
theorem encS.st_u_floor (s : SC) (z : Int) (h : 0 ≤ z ∧ z < 30) (v : Int) : 0 + 0 + z.toNat * 76 + 71 < 2281 ∧ upd (encS s) (0 + 0 + z.toNat * 76 + 71) (.int .u64 v) = encS { s with floor := fset s.floor z v } := encS.set s { s with floor := fset s.floor z v } z h 71 (by omega) _ (fun j => by
  have e : encS.un { s with floor := fset s.floor z v } z = { encS.un s z with floor := v } := by unfold encS.un; simp only [fset_eq]
  rw [e]
  by_cases hj : j = 71
  · subst hj; rfl
  · unfold encS.cell; simp only [if_neg hj]) (fun y hy => by unfold encS.un; simp only [fset_ne _ _ hy]) rfl
theorem encS.ld_u_frozen (s : SC) (z : Int) (h : 0 ≤ z ∧ z < 30) : 0 + 0 + z.toNat * 76 + 72 < 2281 ∧ encS s (0 + 0 + z.toNat * 76 + 72) = .bool (s.frz z) := ⟨by omega, encS.at_ s z h 72 (by omega)⟩
theorem encS.st_u_frozen (s : SC) (z : Int) (h : 0 ≤ z ∧ z < 30) (v : Bool) : 0 + 0 + z.toNat * 76 + 72 < 2281 ∧ upd (encS s) (0 + 0 + z.toNat * 76 + 72) (.bool v) = encS { s with frz := fset s.frz z v } := encS.set s { s with frz := fset s.frz z v } z h 72 (by omega) _ (fun j => by
  have e : encS.un { s with frz := fset s.frz z v } z = { encS.un s z with frz := v } := by unfold encS.un; simp only [fset_eq]
  rw [e]
  by_cases hj : j = 72
  · subst hj; rfl
  · unfold encS.cell; simp only [if_neg hj]) (fun y hy => by unfold encS.un; simp only [fset_ne _ _ hy]) rfl
theorem encS.ld_u_quota (s : SC) (z : Int) (h : 0 ≤ z ∧ z < 30) : 0 + 0 + z.toNat * 76 + 73 < 2281 ∧ encS s (0 + 0 + z.toNat * 76 + 73) = .int .i64 (s.quota z) := ⟨by omega, encS.at_ s z h 73 (by omega)⟩
theorem encS.st_u_quota (s : SC) (z : Int) (h : 0 ≤ z ∧ z < 30) (v : Int) : 0 + 0 + z.toNat * 76 + 73 < 2281 ∧ upd (encS s) (0 + 0 + z.toNat * 76 + 73) (.int .i64 v) = encS { s with quota := fset s.quota z v } := encS.set s { s with quota := fset s.quota z v } z h 73 (by omega) _ (fun j => by
  have e : encS.un { s with quota := fset s.quota z v } z = { encS.un s z with quota := v } := by unfold encS.un; simp only [fset_eq]
  rw [e]
  by_cases hj : j = 73
  · subst hj; rfl
  · unfold encS.cell; simp only [if_neg hj]) (fun y hy => by unfold encS.un; simp only [fset_ne _ _ hy]) rfl
theorem encS.ld_u_period (s : SC) (z : Int) (h : 0 ≤ z ∧ z < 30) : 0 + 0 + z.toNat * 76 + 74 < 2281 ∧ encS s (0 + 0 + z.toNat * 76 + 74) = .int .i64 (s.period z) := ⟨by omega, encS.at_ s z h 74 (by omega)⟩
theorem encS.st_u_period (s : SC) (z : Int) (h : 0 ≤ z ∧ z < 30) (v : Int) : 0 + 0 + z.toNat * 76 + 74 < 2281 ∧ upd (encS s) (0 + 0 + z.toNat * 76 + 74) (.int .i64 v) = encS { s with period := fset s.period z v } := encS.set s { s with period := fset s.period z v } z h 74 (by omega) _ (fun j => by
  have e : encS.un { s with period := fset s.period z v } z = { encS.un s z with period := v } := by unfold encS.un; simp only [fset_eq]
  rw [e]
  by_cases hj : j = 74
  · subst hj; rfl
  · unfold encS.cell; simp only [if_neg hj]) (fun y hy => by unfold encS.un; simp only [fset_ne _ _ hy]) rfl
theorem encS.ld_u_used (s : SC) (z : Int) (h : 0 ≤ z ∧ z < 30) : 0 + 0 + z.toNat * 76 + 75 < 2281 ∧ encS s (0 + 0 + z.toNat * 76 + 75) = .int .i64 (s.used z) := ⟨by omega, encS.at_ s z h 75 (by omega)⟩
theorem encS.st_u_used (s : SC) (z : Int) (h : 0 ≤ z ∧ z < 30) (v : Int) : 0 + 0 + z.toNat * 76 + 75 < 2281 ∧ upd (encS s) (0 + 0 + z.toNat * 76 + 75) (.int .i64 v) = encS { s with used := fset s.used z v } := encS.set s { s with used := fset s.used z v } z h 75 (by omega) _ (fun j => by
  have e : encS.un { s with used := fset s.used z v } z = { encS.un s z with used := v } := by unfold encS.un; simp only [fset_eq]
  rw [e]
  by_cases hj : j = 75
  · subst hj; rfl
  · unfold encS.cell; simp only [if_neg hj]) (fun y hy => by unfold encS.un; simp only [fset_ne _ _ hy]) rfl
theorem encS.ld_now (s : SC) : 0 + 2280 < 2281 ∧ encS s (0 + 2280) = .int .i64 s.now := ⟨by omega, by unfold encS; rw [if_neg (by omega)]; rw [if_pos (by omega)]⟩
theorem encS.st_now (s : SC) (v : Int) : 0 + 2280 < 2281 ∧ upd (encS s) (0 + 2280) (.int .i64 v) = encS { s with now := v } := by
  refine ⟨by omega, ?_⟩
  funext i
  unfold upd encS
  by_cases hi : i = 0 + 2280
  · rw [if_pos hi, if_neg (by omega), if_pos (by omega)]
  · rw [if_neg hi]
    by_cases c1 : i < 2280
    · rw [if_pos c1, if_pos c1]; rfl
    · rw [if_neg c1, if_neg c1, if_neg (by omega), if_neg (by omega)]
structure encR.U where
  here : Bool
  awake : Bool
  frz : Bool
  was : Bool
  par : Int
  wt : Int
  ran : Int
  v : Int
  floor : Int
  quota : Int
  period : Int
  used : Int

def encR.un (s : SF) (z : Int) : encR.U := ⟨s.here z, s.awake z, s.frz z, s.was z, s.par z, s.wt z, s.ran z, s.v z, s.floor z, s.quota z, s.period z, s.used z⟩
def encR.cell (u : encR.U) (j : Nat) : Value :=
  if j = 0 then .bool u.here else
  if j = 1 then .bool u.awake else
  if j = 2 then .bool u.frz else
  if j = 3 then .bool u.was else
  if j = 4 then .int .i64 u.par else
  if j = 5 then .int .i64 u.wt else
  if j = 6 then .int .i64 u.ran else
  if j = 7 then .int .i64 u.v else
  if j = 8 then .int .i64 u.floor else
  if j = 9 then .int .i64 u.quota else
  if j = 10 then .int .i64 u.period else
  if j = 11 then .int .i64 u.used else
  undef
def encR (s : SF) (i : Nat) : Value :=
  if i < 360 then encR.cell (encR.un s ((i / 12 : Nat) : Int)) (i % 12) else
  if i = 360 then .int .i64 s.now else
  undef
theorem encR.at_ (s : SF) (z : Int) (h : 0 ≤ z ∧ z < 30) (j : Nat) (hj : j < 12) : encR s (0 + 0 + z.toNat * 12 + j) = encR.cell (encR.un s z) j := by
  unfold encR
  rw [if_pos (by omega), show (((0 + 0 + z.toNat * 12 + j) / 12 : Nat) : Int) = z from by omega, show (0 + 0 + z.toNat * 12 + j) % 12 = j from by omega]
theorem encR.set (s s' : SF) (z : Int) (h : 0 ≤ z ∧ z < 30) (k : Nat) (hk : k < 12) (v : Value) (hv : ∀ j, encR.cell (encR.un s' z) j = if j = k then v else encR.cell (encR.un s z) j) (ho : ∀ y, ¬ y = z → encR.un s' y = encR.un s y) (hn : s'.now = s.now) : 0 + 0 + z.toNat * 12 + k < 361 ∧ upd (encR s) (0 + 0 + z.toNat * 12 + k) v = encR s' := by
  refine ⟨by omega, ?_⟩
  funext i
  unfold upd
  by_cases hi : i = 0 + 0 + z.toNat * 12 + k
  · rw [if_pos hi, hi, encR.at_ s' z h k hk, hv, if_pos rfl]
  · rw [if_neg hi]
    unfold encR
    by_cases c1 : i < 360
    · rw [if_pos c1, if_pos c1]
      by_cases cz : ((i / 12 : Nat) : Int) = z
      · rw [cz, hv, if_neg (by omega)]
      · rw [ho _ cz]
    · rw [if_neg c1, if_neg c1, hn]
theorem encR.setL (s s' : SF) (z : Int) (h : 0 ≤ z ∧ z < 30) (vs : List Value) (hl : vs.length = 12) (hv : ∀ j, j < 12 → vs[j]? = some (encR.cell (encR.un s' z) j)) (ho : ∀ y, ¬ y = z → encR.un s' y = encR.un s y) (hn : s'.now = s.now) : 0 + 0 + z.toNat * 12 + 12 ≤ 361 ∧ updL (encR s) (0 + 0 + z.toNat * 12) vs = encR s' := by
  refine ⟨by omega, ?_⟩
  funext i
  by_cases a1 : i < 0 + 0 + z.toNat * 12
  · rw [updL_lt' _ _ _ _ a1]
    unfold encR
    rw [if_pos (by omega), if_pos (by omega), ho _ (by omega)]
  · by_cases a2 : i < 0 + 0 + z.toNat * 12 + 12
    · obtain ⟨j, rfl⟩ : ∃ j, i = 0 + 0 + z.toNat * 12 + j := ⟨i - (0 + 0 + z.toNat * 12), by omega⟩
      rw [encR.at_ s' z h j (by omega)]
      exact updL_at' vs _ _ _ _ (hv j (by omega))
    · rw [updL_ge' _ _ _ _ (by omega)]
      unfold encR
      by_cases c1 : i < 360
      · rw [if_pos c1, if_pos c1, ho _ (by omega)]
      · rw [if_neg c1, if_neg c1, hn]
theorem encR.ld_U_Here (s : SF) (z : Int) (h : 0 ≤ z ∧ z < 30) : 0 + 0 + z.toNat * 12 + 0 < 361 ∧ encR s (0 + 0 + z.toNat * 12 + 0) = .bool (s.here z) := ⟨by omega, encR.at_ s z h 0 (by omega)⟩
theorem encR.st_U_Here (s : SF) (z : Int) (h : 0 ≤ z ∧ z < 30) (v : Bool) : 0 + 0 + z.toNat * 12 + 0 < 361 ∧ upd (encR s) (0 + 0 + z.toNat * 12 + 0) (.bool v) = encR { s with here := fset s.here z v } := encR.set s { s with here := fset s.here z v } z h 0 (by omega) _ (fun j => by
  have e : encR.un { s with here := fset s.here z v } z = { encR.un s z with here := v } := by unfold encR.un; simp only [fset_eq]
  rw [e]
  by_cases hj : j = 0
  · subst hj; rfl
  · unfold encR.cell; simp only [if_neg hj]) (fun y hy => by unfold encR.un; simp only [fset_ne _ _ hy]) rfl
theorem encR.ld_U_Awake (s : SF) (z : Int) (h : 0 ≤ z ∧ z < 30) : 0 + 0 + z.toNat * 12 + 1 < 361 ∧ encR s (0 + 0 + z.toNat * 12 + 1) = .bool (s.awake z) := ⟨by omega, encR.at_ s z h 1 (by omega)⟩
theorem encR.st_U_Awake (s : SF) (z : Int) (h : 0 ≤ z ∧ z < 30) (v : Bool) : 0 + 0 + z.toNat * 12 + 1 < 361 ∧ upd (encR s) (0 + 0 + z.toNat * 12 + 1) (.bool v) = encR { s with awake := fset s.awake z v } := encR.set s { s with awake := fset s.awake z v } z h 1 (by omega) _ (fun j => by
  have e : encR.un { s with awake := fset s.awake z v } z = { encR.un s z with awake := v } := by unfold encR.un; simp only [fset_eq]
  rw [e]
  by_cases hj : j = 1
  · subst hj; rfl
  · unfold encR.cell; simp only [if_neg hj]) (fun y hy => by unfold encR.un; simp only [fset_ne _ _ hy]) rfl
theorem encR.ld_U_Frozen (s : SF) (z : Int) (h : 0 ≤ z ∧ z < 30) : 0 + 0 + z.toNat * 12 + 2 < 361 ∧ encR s (0 + 0 + z.toNat * 12 + 2) = .bool (s.frz z) := ⟨by omega, encR.at_ s z h 2 (by omega)⟩
theorem encR.st_U_Frozen (s : SF) (z : Int) (h : 0 ≤ z ∧ z < 30) (v : Bool) : 0 + 0 + z.toNat * 12 + 2 < 361 ∧ upd (encR s) (0 + 0 + z.toNat * 12 + 2) (.bool v) = encR { s with frz := fset s.frz z v } := encR.set s { s with frz := fset s.frz z v } z h 2 (by omega) _ (fun j => by
  have e : encR.un { s with frz := fset s.frz z v } z = { encR.un s z with frz := v } := by unfold encR.un; simp only [fset_eq]
  rw [e]
  by_cases hj : j = 2
  · subst hj; rfl
  · unfold encR.cell; simp only [if_neg hj]) (fun y hy => by unfold encR.un; simp only [fset_ne _ _ hy]) rfl
theorem encR.ld_U_Was (s : SF) (z : Int) (h : 0 ≤ z ∧ z < 30) : 0 + 0 + z.toNat * 12 + 3 < 361 ∧ encR s (0 + 0 + z.toNat * 12 + 3) = .bool (s.was z) := ⟨by omega, encR.at_ s z h 3 (by omega)⟩
theorem encR.st_U_Was (s : SF) (z : Int) (h : 0 ≤ z ∧ z < 30) (v : Bool) : 0 + 0 + z.toNat * 12 + 3 < 361 ∧ upd (encR s) (0 + 0 + z.toNat * 12 + 3) (.bool v) = encR { s with was := fset s.was z v } := encR.set s { s with was := fset s.was z v } z h 3 (by omega) _ (fun j => by
  have e : encR.un { s with was := fset s.was z v } z = { encR.un s z with was := v } := by unfold encR.un; simp only [fset_eq]
  rw [e]
  by_cases hj : j = 3
  · subst hj; rfl
  · unfold encR.cell; simp only [if_neg hj]) (fun y hy => by unfold encR.un; simp only [fset_ne _ _ hy]) rfl
theorem encR.ld_U_In (s : SF) (z : Int) (h : 0 ≤ z ∧ z < 30) : 0 + 0 + z.toNat * 12 + 4 < 361 ∧ encR s (0 + 0 + z.toNat * 12 + 4) = .int .i64 (s.par z) := ⟨by omega, encR.at_ s z h 4 (by omega)⟩
theorem encR.st_U_In (s : SF) (z : Int) (h : 0 ≤ z ∧ z < 30) (v : Int) : 0 + 0 + z.toNat * 12 + 4 < 361 ∧ upd (encR s) (0 + 0 + z.toNat * 12 + 4) (.int .i64 v) = encR { s with par := fset s.par z v } := encR.set s { s with par := fset s.par z v } z h 4 (by omega) _ (fun j => by
  have e : encR.un { s with par := fset s.par z v } z = { encR.un s z with par := v } := by unfold encR.un; simp only [fset_eq]
  rw [e]
  by_cases hj : j = 4
  · subst hj; rfl
  · unfold encR.cell; simp only [if_neg hj]) (fun y hy => by unfold encR.un; simp only [fset_ne _ _ hy]) rfl
theorem encR.ld_U_Weight (s : SF) (z : Int) (h : 0 ≤ z ∧ z < 30) : 0 + 0 + z.toNat * 12 + 5 < 361 ∧ encR s (0 + 0 + z.toNat * 12 + 5) = .int .i64 (s.wt z) := ⟨by omega, encR.at_ s z h 5 (by omega)⟩
theorem encR.st_U_Weight (s : SF) (z : Int) (h : 0 ≤ z ∧ z < 30) (v : Int) : 0 + 0 + z.toNat * 12 + 5 < 361 ∧ upd (encR s) (0 + 0 + z.toNat * 12 + 5) (.int .i64 v) = encR { s with wt := fset s.wt z v } := encR.set s { s with wt := fset s.wt z v } z h 5 (by omega) _ (fun j => by
  have e : encR.un { s with wt := fset s.wt z v } z = { encR.un s z with wt := v } := by unfold encR.un; simp only [fset_eq]
  rw [e]
  by_cases hj : j = 5
  · subst hj; rfl
  · unfold encR.cell; simp only [if_neg hj]) (fun y hy => by unfold encR.un; simp only [fset_ne _ _ hy]) rfl
theorem encR.ld_U_Ran (s : SF) (z : Int) (h : 0 ≤ z ∧ z < 30) : 0 + 0 + z.toNat * 12 + 6 < 361 ∧ encR s (0 + 0 + z.toNat * 12 + 6) = .int .i64 (s.ran z) := ⟨by omega, encR.at_ s z h 6 (by omega)⟩
theorem encR.st_U_Ran (s : SF) (z : Int) (h : 0 ≤ z ∧ z < 30) (v : Int) : 0 + 0 + z.toNat * 12 + 6 < 361 ∧ upd (encR s) (0 + 0 + z.toNat * 12 + 6) (.int .i64 v) = encR { s with ran := fset s.ran z v } := encR.set s { s with ran := fset s.ran z v } z h 6 (by omega) _ (fun j => by
  have e : encR.un { s with ran := fset s.ran z v } z = { encR.un s z with ran := v } := by unfold encR.un; simp only [fset_eq]
  rw [e]
  by_cases hj : j = 6
  · subst hj; rfl
  · unfold encR.cell; simp only [if_neg hj]) (fun y hy => by unfold encR.un; simp only [fset_ne _ _ hy]) rfl
theorem encR.ld_U_Time (s : SF) (z : Int) (h : 0 ≤ z ∧ z < 30) : 0 + 0 + z.toNat * 12 + 7 < 361 ∧ encR s (0 + 0 + z.toNat * 12 + 7) = .int .i64 (s.v z) := ⟨by omega, encR.at_ s z h 7 (by omega)⟩
theorem encR.st_U_Time (s : SF) (z : Int) (h : 0 ≤ z ∧ z < 30) (v : Int) : 0 + 0 + z.toNat * 12 + 7 < 361 ∧ upd (encR s) (0 + 0 + z.toNat * 12 + 7) (.int .i64 v) = encR { s with v := fset s.v z v } := encR.set s { s with v := fset s.v z v } z h 7 (by omega) _ (fun j => by
  have e : encR.un { s with v := fset s.v z v } z = { encR.un s z with v := v } := by unfold encR.un; simp only [fset_eq]
  rw [e]
  by_cases hj : j = 7
  · subst hj; rfl
  · unfold encR.cell; simp only [if_neg hj]) (fun y hy => by unfold encR.un; simp only [fset_ne _ _ hy]) rfl
theorem encR.ld_U_Floor (s : SF) (z : Int) (h : 0 ≤ z ∧ z < 30) : 0 + 0 + z.toNat * 12 + 8 < 361 ∧ encR s (0 + 0 + z.toNat * 12 + 8) = .int .i64 (s.floor z) := ⟨by omega, encR.at_ s z h 8 (by omega)⟩
theorem encR.st_U_Floor (s : SF) (z : Int) (h : 0 ≤ z ∧ z < 30) (v : Int) : 0 + 0 + z.toNat * 12 + 8 < 361 ∧ upd (encR s) (0 + 0 + z.toNat * 12 + 8) (.int .i64 v) = encR { s with floor := fset s.floor z v } := encR.set s { s with floor := fset s.floor z v } z h 8 (by omega) _ (fun j => by
  have e : encR.un { s with floor := fset s.floor z v } z = { encR.un s z with floor := v } := by unfold encR.un; simp only [fset_eq]
  rw [e]
  by_cases hj : j = 8
  · subst hj; rfl
  · unfold encR.cell; simp only [if_neg hj]) (fun y hy => by unfold encR.un; simp only [fset_ne _ _ hy]) rfl
theorem encR.ld_U_Quota (s : SF) (z : Int) (h : 0 ≤ z ∧ z < 30) : 0 + 0 + z.toNat * 12 + 9 < 361 ∧ encR s (0 + 0 + z.toNat * 12 + 9) = .int .i64 (s.quota z) := ⟨by omega, encR.at_ s z h 9 (by omega)⟩
theorem encR.st_U_Quota (s : SF) (z : Int) (h : 0 ≤ z ∧ z < 30) (v : Int) : 0 + 0 + z.toNat * 12 + 9 < 361 ∧ upd (encR s) (0 + 0 + z.toNat * 12 + 9) (.int .i64 v) = encR { s with quota := fset s.quota z v } := encR.set s { s with quota := fset s.quota z v } z h 9 (by omega) _ (fun j => by
  have e : encR.un { s with quota := fset s.quota z v } z = { encR.un s z with quota := v } := by unfold encR.un; simp only [fset_eq]
  rw [e]
  by_cases hj : j = 9
  · subst hj; rfl
  · unfold encR.cell; simp only [if_neg hj]) (fun y hy => by unfold encR.un; simp only [fset_ne _ _ hy]) rfl
theorem encR.ld_U_Period (s : SF) (z : Int) (h : 0 ≤ z ∧ z < 30) : 0 + 0 + z.toNat * 12 + 10 < 361 ∧ encR s (0 + 0 + z.toNat * 12 + 10) = .int .i64 (s.period z) := ⟨by omega, encR.at_ s z h 10 (by omega)⟩
theorem encR.st_U_Period (s : SF) (z : Int) (h : 0 ≤ z ∧ z < 30) (v : Int) : 0 + 0 + z.toNat * 12 + 10 < 361 ∧ upd (encR s) (0 + 0 + z.toNat * 12 + 10) (.int .i64 v) = encR { s with period := fset s.period z v } := encR.set s { s with period := fset s.period z v } z h 10 (by omega) _ (fun j => by
  have e : encR.un { s with period := fset s.period z v } z = { encR.un s z with period := v } := by unfold encR.un; simp only [fset_eq]
  rw [e]
  by_cases hj : j = 10
  · subst hj; rfl
  · unfold encR.cell; simp only [if_neg hj]) (fun y hy => by unfold encR.un; simp only [fset_ne _ _ hy]) rfl
theorem encR.ld_U_Used (s : SF) (z : Int) (h : 0 ≤ z ∧ z < 30) : 0 + 0 + z.toNat * 12 + 11 < 361 ∧ encR s (0 + 0 + z.toNat * 12 + 11) = .int .i64 (s.used z) := ⟨by omega, encR.at_ s z h 11 (by omega)⟩
theorem encR.st_U_Used (s : SF) (z : Int) (h : 0 ≤ z ∧ z < 30) (v : Int) : 0 + 0 + z.toNat * 12 + 11 < 361 ∧ upd (encR s) (0 + 0 + z.toNat * 12 + 11) (.int .i64 v) = encR { s with used := fset s.used z v } := encR.set s { s with used := fset s.used z v } z h 11 (by omega) _ (fun j => by
  have e : encR.un { s with used := fset s.used z v } z = { encR.un s z with used := v } := by unfold encR.un; simp only [fset_eq]
  rw [e]
  by_cases hj : j = 11
  · subst hj; rfl
  · unfold encR.cell; simp only [if_neg hj]) (fun y hy => by unfold encR.un; simp only [fset_ne _ _ hy]) rfl
theorem encR.ld_Now (s : SF) : 0 + 360 < 361 ∧ encR s (0 + 360) = .int .i64 s.now := ⟨by omega, by unfold encR; rw [if_neg (by omega)]; rw [if_pos (by omega)]⟩
theorem encR.st_Now (s : SF) (v : Int) : 0 + 360 < 361 ∧ upd (encR s) (0 + 360) (.int .i64 v) = encR { s with now := v } := by
  refine ⟨by omega, ?_⟩
  funext i
  unfold upd encR
  by_cases hi : i = 0 + 360
  · rw [if_pos hi, if_neg (by omega), if_pos (by omega)]
  · rw [if_neg hi]
    by_cases c1 : i < 360
    · rw [if_pos c1, if_pos c1]; rfl
    · rw [if_neg c1, if_neg c1, if_neg (by omega), if_neg (by omega)]

end Go.X
