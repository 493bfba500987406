import Derived.Test.YtmklfkjfgjagaaaGreatZOM
namespace Go.X
open Go
structure encO.U where
  kind : Int
  n : Int
  at_ : Int
  write : Bool
  refs : Int

def encO.un (s : OS) (z : Int) : encO.U := ⟨s.kind z, s.n z, s.at_ z, s.write z, s.refs z⟩
def encO.cell (u : encO.U) (j : Nat) : Value :=
  if j = 0 then .int .i64 u.kind else
  if j = 1 then .int .i64 u.n else
  if j = 2 then .int .i64 u.at_ else
  if j = 3 then .bool u.write else
  if j = 4 then .int .i64 u.refs else
  undef
def encO (p0 p1 : Nat) (s : OS) (i : Nat) : Value :=
  if i = 0 then ptr p0 0 0 else
  if i = 1 then ptr p1 0 0 else
  if i < 122 then encO.cell (encO.un s (((i - 2) / 5 : Nat) : Int)) ((i - 2) % 5) else
  undef
theorem encO.ld_f {p0 p1 : Nat} (s : OS) : 0 + 0 < 122 ∧ encO p0 p1 s (0 + 0) = ptr p0 0 0 := ⟨by omega, by unfold encO; rw [if_pos (by omega)]⟩
theorem encO.ld_p {p0 p1 : Nat} (s : OS) : 0 + 1 < 122 ∧ encO p0 p1 s (0 + 1) = ptr p1 0 0 := ⟨by omega, by unfold encO; rw [if_neg (by omega), if_pos (by omega)]⟩
theorem encO.at_ {p0 p1 : Nat} (s : OS) (z : Int) (h : 0 ≤ z ∧ z < 24) (j : Nat) (hj : j < 5) : encO p0 p1 s (0 + 2 + z.toNat * 5 + j) = encO.cell (encO.un s z) j := by
  unfold encO
  rw [if_neg (by omega), if_neg (by omega), if_pos (by omega), show (((0 + 2 + z.toNat * 5 + j - 2) / 5 : Nat) : Int) = z from by omega, show (0 + 2 + z.toNat * 5 + j - 2) % 5 = j from by omega]
theorem encO.set {p0 p1 : Nat} (s s' : OS) (z : Int) (h : 0 ≤ z ∧ z < 24) (k : Nat) (hk : k < 5) (v : Value) (hv : ∀ j, encO.cell (encO.un s' z) j = if j = k then v else encO.cell (encO.un s z) j) (ho : ∀ y, ¬ y = z → encO.un s' y = encO.un s y) : 0 + 2 + z.toNat * 5 + k < 122 ∧ upd (encO p0 p1 s) (0 + 2 + z.toNat * 5 + k) v = encO p0 p1 s' := by
  refine ⟨by omega, ?_⟩
  funext i
  unfold upd
  by_cases hi : i = 0 + 2 + z.toNat * 5 + k
  · rw [if_pos hi, hi, encO.at_ s' z h k hk, hv, if_pos rfl]
  · rw [if_neg hi]
    unfold encO
    by_cases q0 : i = 0
    · rw [if_pos q0, if_pos q0]
    rw [if_neg q0, if_neg q0]
    by_cases q1 : i = 1
    · rw [if_pos q1, if_pos q1]
    rw [if_neg q1, if_neg q1]
    by_cases c1 : i < 122
    · rw [if_pos c1, if_pos c1]
      by_cases cz : (((i - 2) / 5 : Nat) : Int) = z
      · rw [cz, hv, if_neg (by omega)]
      · rw [ho _ cz]
    · rw [if_neg c1, if_neg c1]
theorem encO.setL {p0 p1 : Nat} (s s' : OS) (z : Int) (h : 0 ≤ z ∧ z < 24) (vs : List Value) (hl : vs.length = 5) (hv : ∀ j, j < 5 → vs[j]? = some (encO.cell (encO.un s' z) j)) (ho : ∀ y, ¬ y = z → encO.un s' y = encO.un s y) : 0 + 2 + z.toNat * 5 + 5 ≤ 122 ∧ updL (encO p0 p1 s) (0 + 2 + z.toNat * 5) vs = encO p0 p1 s' := by
  refine ⟨by omega, ?_⟩
  funext i
  by_cases a1 : i < 0 + 2 + z.toNat * 5
  · rw [updL_lt' _ _ _ _ a1]
    unfold encO
    by_cases q0 : i = 0
    · rw [if_pos q0, if_pos q0]
    rw [if_neg q0, if_neg q0]
    by_cases q1 : i = 1
    · rw [if_pos q1, if_pos q1]
    rw [if_neg q1, if_neg q1]
    rw [if_pos (by omega), if_pos (by omega), ho _ (by omega)]
  · by_cases a2 : i < 0 + 2 + z.toNat * 5 + 5
    · obtain ⟨j, rfl⟩ : ∃ j, i = 0 + 2 + z.toNat * 5 + j := ⟨i - (0 + 2 + z.toNat * 5), by omega⟩
      rw [encO.at_ s' z h j (by omega)]
      exact updL_at' vs _ _ _ _ (hv j (by omega))
    · rw [updL_ge' _ _ _ _ (by omega)]
      unfold encO
      have q0 : ¬ i = 0 := by omega
      rw [if_neg q0, if_neg q0]
      have q1 : ¬ i = 1 := by omega
      rw [if_neg q1, if_neg q1]
      by_cases c1 : i < 122
      · rw [if_pos c1, if_pos c1, ho _ (by omega)]
      · rw [if_neg c1, if_neg c1]
theorem encO.ld_o_kind {p0 p1 : Nat} (s : OS) (z : Int) (h : 0 ≤ z ∧ z < 24) : 0 + 2 + z.toNat * 5 + 0 < 122 ∧ encO p0 p1 s (0 + 2 + z.toNat * 5 + 0) = .int .i64 (s.kind z) := ⟨by omega, encO.at_ s z h 0 (by omega)⟩
theorem encO.st_o_kind {p0 p1 : Nat} (s : OS) (z : Int) (h : 0 ≤ z ∧ z < 24) (v : Int) : 0 + 2 + z.toNat * 5 + 0 < 122 ∧ upd (encO p0 p1 s) (0 + 2 + z.toNat * 5 + 0) (.int .i64 v) = encO p0 p1 { s with kind := fset s.kind z v } := encO.set s { s with kind := fset s.kind z v } z h 0 (by omega) _ (fun j => by
  have e : encO.un { s with kind := fset s.kind z v } z = { encO.un s z with kind := v } := by unfold encO.un; simp only [fset_eq]
  rw [e]
  by_cases hj : j = 0
  · subst hj; rfl
  · unfold encO.cell; simp only [if_neg hj]) (fun y hy => by unfold encO.un; simp only [fset_ne _ _ hy])
theorem encO.ld_o_n {p0 p1 : Nat} (s : OS) (z : Int) (h : 0 ≤ z ∧ z < 24) : 0 + 2 + z.toNat * 5 + 1 < 122 ∧ encO p0 p1 s (0 + 2 + z.toNat * 5 + 1) = .int .i64 (s.n z) := ⟨by omega, encO.at_ s z h 1 (by omega)⟩
theorem encO.st_o_n {p0 p1 : Nat} (s : OS) (z : Int) (h : 0 ≤ z ∧ z < 24) (v : Int) : 0 + 2 + z.toNat * 5 + 1 < 122 ∧ upd (encO p0 p1 s) (0 + 2 + z.toNat * 5 + 1) (.int .i64 v) = encO p0 p1 { s with n := fset s.n z v } := encO.set s { s with n := fset s.n z v } z h 1 (by omega) _ (fun j => by
  have e : encO.un { s with n := fset s.n z v } z = { encO.un s z with n := v } := by unfold encO.un; simp only [fset_eq]
  rw [e]
  by_cases hj : j = 1
  · subst hj; rfl
  · unfold encO.cell; simp only [if_neg hj]) (fun y hy => by unfold encO.un; simp only [fset_ne _ _ hy])
theorem encO.ld_o_at {p0 p1 : Nat} (s : OS) (z : Int) (h : 0 ≤ z ∧ z < 24) : 0 + 2 + z.toNat * 5 + 2 < 122 ∧ encO p0 p1 s (0 + 2 + z.toNat * 5 + 2) = .int .i64 (s.at_ z) := ⟨by omega, encO.at_ s z h 2 (by omega)⟩
theorem encO.st_o_at {p0 p1 : Nat} (s : OS) (z : Int) (h : 0 ≤ z ∧ z < 24) (v : Int) : 0 + 2 + z.toNat * 5 + 2 < 122 ∧ upd (encO p0 p1 s) (0 + 2 + z.toNat * 5 + 2) (.int .i64 v) = encO p0 p1 { s with at_ := fset s.at_ z v } := encO.set s { s with at_ := fset s.at_ z v } z h 2 (by omega) _ (fun j => by
  have e : encO.un { s with at_ := fset s.at_ z v } z = { encO.un s z with at_ := v } := by unfold encO.un; simp only [fset_eq]
  rw [e]
  by_cases hj : j = 2
  · subst hj; rfl
  · unfold encO.cell; simp only [if_neg hj]) (fun y hy => by unfold encO.un; simp only [fset_ne _ _ hy])
theorem encO.ld_o_write {p0 p1 : Nat} (s : OS) (z : Int) (h : 0 ≤ z ∧ z < 24) : 0 + 2 + z.toNat * 5 + 3 < 122 ∧ encO p0 p1 s (0 + 2 + z.toNat * 5 + 3) = .bool (s.write z) := ⟨by omega, encO.at_ s z h 3 (by omega)⟩
theorem encO.st_o_write {p0 p1 : Nat} (s : OS) (z : Int) (h : 0 ≤ z ∧ z < 24) (v : Bool) : 0 + 2 + z.toNat * 5 + 3 < 122 ∧ upd (encO p0 p1 s) (0 + 2 + z.toNat * 5 + 3) (.bool v) = encO p0 p1 { s with write := fset s.write z v } := encO.set s { s with write := fset s.write z v } z h 3 (by omega) _ (fun j => by
  have e : encO.un { s with write := fset s.write z v } z = { encO.un s z with write := v } := by unfold encO.un; simp only [fset_eq]
  rw [e]
  by_cases hj : j = 3
  · subst hj; rfl
  · unfold encO.cell; simp only [if_neg hj]) (fun y hy => by unfold encO.un; simp only [fset_ne _ _ hy])
theorem encO.ld_o_refs {p0 p1 : Nat} (s : OS) (z : Int) (h : 0 ≤ z ∧ z < 24) : 0 + 2 + z.toNat * 5 + 4 < 122 ∧ encO p0 p1 s (0 + 2 + z.toNat * 5 + 4) = .int .i64 (s.refs z) := ⟨by omega, encO.at_ s z h 4 (by omega)⟩
theorem encO.st_o_refs {p0 p1 : Nat} (s : OS) (z : Int) (h : 0 ≤ z ∧ z < 24) (v : Int) : 0 + 2 + z.toNat * 5 + 4 < 122 ∧ upd (encO p0 p1 s) (0 + 2 + z.toNat * 5 + 4) (.int .i64 v) = encO p0 p1 { s with refs := fset s.refs z v } := encO.set s { s with refs := fset s.refs z v } z h 4 (by omega) _ (fun j => by
  have e : encO.un { s with refs := fset s.refs z v } z = { encO.un s z with refs := v } := by unfold encO.un; simp only [fset_eq]
  rw [e]
  by_cases hj : j = 4
  · subst hj; rfl
  · unfold encO.cell; simp only [if_neg hj]) (fun y hy => by unfold encO.un; simp only [fset_ne _ _ hy])
structure encQ.U where
  kind : Int
  n : Int
  at_ : Int
  refs : Int
  write : Bool

def encQ.un (s : OS) (z : Int) : encQ.U := ⟨s.kind z, s.n z, s.at_ z, s.refs z, s.write z⟩
def encQ.cell (u : encQ.U) (j : Nat) : Value :=
  if j = 0 then .int .i64 u.kind else
  if j = 1 then .int .i64 u.n else
  if j = 2 then .int .i64 u.at_ else
  if j = 3 then .int .i64 u.refs else
  if j = 4 then .bool u.write else
  undef
def encQ (p0 p1 : Nat) (s : OS) (i : Nat) : Value :=
  if i = 0 then ptr p0 0 0 else
  if i = 1 then ptr p1 0 0 else
  if i < 122 then encQ.cell (encQ.un s (((i - 2) / 5 : Nat) : Int)) ((i - 2) % 5) else
  undef
theorem encQ.ld_F {p0 p1 : Nat} (s : OS) : 0 + 0 < 122 ∧ encQ p0 p1 s (0 + 0) = ptr p0 0 0 := ⟨by omega, by unfold encQ; rw [if_pos (by omega)]⟩
theorem encQ.ld_P {p0 p1 : Nat} (s : OS) : 0 + 1 < 122 ∧ encQ p0 p1 s (0 + 1) = ptr p1 0 0 := ⟨by omega, by unfold encQ; rw [if_neg (by omega), if_pos (by omega)]⟩
theorem encQ.at_ {p0 p1 : Nat} (s : OS) (z : Int) (h : 0 ≤ z ∧ z < 24) (j : Nat) (hj : j < 5) : encQ p0 p1 s (0 + 2 + z.toNat * 5 + j) = encQ.cell (encQ.un s z) j := by
  unfold encQ
  rw [if_neg (by omega), if_neg (by omega), if_pos (by omega), show (((0 + 2 + z.toNat * 5 + j - 2) / 5 : Nat) : Int) = z from by omega, show (0 + 2 + z.toNat * 5 + j - 2) % 5 = j from by omega]
theorem encQ.set {p0 p1 : Nat} (s s' : OS) (z : Int) (h : 0 ≤ z ∧ z < 24) (k : Nat) (hk : k < 5) (v : Value) (hv : ∀ j, encQ.cell (encQ.un s' z) j = if j = k then v else encQ.cell (encQ.un s z) j) (ho : ∀ y, ¬ y = z → encQ.un s' y = encQ.un s y) : 0 + 2 + z.toNat * 5 + k < 122 ∧ upd (encQ p0 p1 s) (0 + 2 + z.toNat * 5 + k) v = encQ p0 p1 s' := by
  refine ⟨by omega, ?_⟩
  funext i
  unfold upd
  by_cases hi : i = 0 + 2 + z.toNat * 5 + k
  · rw [if_pos hi, hi, encQ.at_ s' z h k hk, hv, if_pos rfl]
  · rw [if_neg hi]
    unfold encQ
    by_cases q0 : i = 0
    · rw [if_pos q0, if_pos q0]
    rw [if_neg q0, if_neg q0]
    by_cases q1 : i = 1
    · rw [if_pos q1, if_pos q1]
    rw [if_neg q1, if_neg q1]
    by_cases c1 : i < 122
    · rw [if_pos c1, if_pos c1]
      by_cases cz : (((i - 2) / 5 : Nat) : Int) = z
      · rw [cz, hv, if_neg (by omega)]
      · rw [ho _ cz]
    · rw [if_neg c1, if_neg c1]
theorem encQ.setL {p0 p1 : Nat} (s s' : OS) (z : Int) (h : 0 ≤ z ∧ z < 24) (vs : List Value) (hl : vs.length = 5) (hv : ∀ j, j < 5 → vs[j]? = some (encQ.cell (encQ.un s' z) j)) (ho : ∀ y, ¬ y = z → encQ.un s' y = encQ.un s y) : 0 + 2 + z.toNat * 5 + 5 ≤ 122 ∧ updL (encQ p0 p1 s) (0 + 2 + z.toNat * 5) vs = encQ p0 p1 s' := by
  refine ⟨by omega, ?_⟩
  funext i
  by_cases a1 : i < 0 + 2 + z.toNat * 5
  · rw [updL_lt' _ _ _ _ a1]
    unfold encQ
    by_cases q0 : i = 0
    · rw [if_pos q0, if_pos q0]
    rw [if_neg q0, if_neg q0]
    by_cases q1 : i = 1
    · rw [if_pos q1, if_pos q1]
    rw [if_neg q1, if_neg q1]
    rw [if_pos (by omega), if_pos (by omega), ho _ (by omega)]
  · by_cases a2 : i < 0 + 2 + z.toNat * 5 + 5
    · obtain ⟨j, rfl⟩ : ∃ j, i = 0 + 2 + z.toNat * 5 + j := ⟨i - (0 + 2 + z.toNat * 5), by omega⟩
      rw [encQ.at_ s' z h j (by omega)]
      exact updL_at' vs _ _ _ _ (hv j (by omega))
    · rw [updL_ge' _ _ _ _ (by omega)]
      unfold encQ
      have q0 : ¬ i = 0 := by omega
      rw [if_neg q0, if_neg q0]
      have q1 : ¬ i = 1 := by omega
      rw [if_neg q1, if_neg q1]
      by_cases c1 : i < 122
      · rw [if_pos c1, if_pos c1, ho _ (by omega)]
      · rw [if_neg c1, if_neg c1]
theorem encQ.ld_O_Kind {p0 p1 : Nat} (s : OS) (z : Int) (h : 0 ≤ z ∧ z < 24) : 0 + 2 + z.toNat * 5 + 0 < 122 ∧ encQ p0 p1 s (0 + 2 + z.toNat * 5 + 0) = .int .i64 (s.kind z) := ⟨by omega, encQ.at_ s z h 0 (by omega)⟩
theorem encQ.st_O_Kind {p0 p1 : Nat} (s : OS) (z : Int) (h : 0 ≤ z ∧ z < 24) (v : Int) : 0 + 2 + z.toNat * 5 + 0 < 122 ∧ upd (encQ p0 p1 s) (0 + 2 + z.toNat * 5 + 0) (.int .i64 v) = encQ p0 p1 { s with kind := fset s.kind z v } := encQ.set s { s with kind := fset s.kind z v } z h 0 (by omega) _ (fun j => by
  have e : encQ.un { s with kind := fset s.kind z v } z = { encQ.un s z with kind := v } := by unfold encQ.un; simp only [fset_eq]
  rw [e]
  by_cases hj : j = 0
  · subst hj; rfl
  · unfold encQ.cell; simp only [if_neg hj]) (fun y hy => by unfold encQ.un; simp only [fset_ne _ _ hy])
theorem encQ.ld_O_N {p0 p1 : Nat} (s : OS) (z : Int) (h : 0 ≤ z ∧ z < 24) : 0 + 2 + z.toNat * 5 + 1 < 122 ∧ encQ p0 p1 s (0 + 2 + z.toNat * 5 + 1) = .int .i64 (s.n z) := ⟨by omega, encQ.at_ s z h 1 (by omega)⟩
theorem encQ.st_O_N {p0 p1 : Nat} (s : OS) (z : Int) (h : 0 ≤ z ∧ z < 24) (v : Int) : 0 + 2 + z.toNat * 5 + 1 < 122 ∧ upd (encQ p0 p1 s) (0 + 2 + z.toNat * 5 + 1) (.int .i64 v) = encQ p0 p1 { s with n := fset s.n z v } := encQ.set s { s with n := fset s.n z v } z h 1 (by omega) _ (fun j => by
  have e : encQ.un { s with n := fset s.n z v } z = { encQ.un s z with n := v } := by unfold encQ.un; simp only [fset_eq]
  rw [e]
  by_cases hj : j = 1
  · subst hj; rfl
  · unfold encQ.cell; simp only [if_neg hj]) (fun y hy => by unfold encQ.un; simp only [fset_ne _ _ hy])
theorem encQ.ld_O_At {p0 p1 : Nat} (s : OS) (z : Int) (h : 0 ≤ z ∧ z < 24) : 0 + 2 + z.toNat * 5 + 2 < 122 ∧ encQ p0 p1 s (0 + 2 + z.toNat * 5 + 2) = .int .i64 (s.at_ z) := ⟨by omega, encQ.at_ s z h 2 (by omega)⟩
theorem encQ.st_O_At {p0 p1 : Nat} (s : OS) (z : Int) (h : 0 ≤ z ∧ z < 24) (v : Int) : 0 + 2 + z.toNat * 5 + 2 < 122 ∧ upd (encQ p0 p1 s) (0 + 2 + z.toNat * 5 + 2) (.int .i64 v) = encQ p0 p1 { s with at_ := fset s.at_ z v } := encQ.set s { s with at_ := fset s.at_ z v } z h 2 (by omega) _ (fun j => by
  have e : encQ.un { s with at_ := fset s.at_ z v } z = { encQ.un s z with at_ := v } := by unfold encQ.un; simp only [fset_eq]
  rw [e]
  by_cases hj : j = 2
  · subst hj; rfl
  · unfold encQ.cell; simp only [if_neg hj]) (fun y hy => by unfold encQ.un; simp only [fset_ne _ _ hy])
theorem encQ.ld_O_Refs {p0 p1 : Nat} (s : OS) (z : Int) (h : 0 ≤ z ∧ z < 24) : 0 + 2 + z.toNat * 5 + 3 < 122 ∧ encQ p0 p1 s (0 + 2 + z.toNat * 5 + 3) = .int .i64 (s.refs z) := ⟨by omega, encQ.at_ s z h 3 (by omega)⟩
theorem encQ.st_O_Refs {p0 p1 : Nat} (s : OS) (z : Int) (h : 0 ≤ z ∧ z < 24) (v : Int) : 0 + 2 + z.toNat * 5 + 3 < 122 ∧ upd (encQ p0 p1 s) (0 + 2 + z.toNat * 5 + 3) (.int .i64 v) = encQ p0 p1 { s with refs := fset s.refs z v } := encQ.set s { s with refs := fset s.refs z v } z h 3 (by omega) _ (fun j => by
  have e : encQ.un { s with refs := fset s.refs z v } z = { encQ.un s z with refs := v } := by unfold encQ.un; simp only [fset_eq]
  rw [e]
  by_cases hj : j = 3
  · subst hj; rfl
  · unfold encQ.cell; simp only [if_neg hj]) (fun y hy => by unfold encQ.un; simp only [fset_ne _ _ hy])
theorem encQ.ld_O_Write {p0 p1 : Nat} (s : OS) (z : Int) (h : 0 ≤ z ∧ z < 24) : 0 + 2 + z.toNat * 5 + 4 < 122 ∧ encQ p0 p1 s (0 + 2 + z.toNat * 5 + 4) = .bool (s.write z) := ⟨by omega, encQ.at_ s z h 4 (by omega)⟩
theorem encQ.st_O_Write {p0 p1 : Nat} (s : OS) (z : Int) (h : 0 ≤ z ∧ z < 24) (v : Bool) : 0 + 2 + z.toNat * 5 + 4 < 122 ∧ upd (encQ p0 p1 s) (0 + 2 + z.toNat * 5 + 4) (.bool v) = encQ p0 p1 { s with write := fset s.write z v } := encQ.set s { s with write := fset s.write z v } z h 4 (by omega) _ (fun j => by
  have e : encQ.un { s with write := fset s.write z v } z = { encQ.un s z with write := v } := by unfold encQ.un; simp only [fset_eq]
  rw [e]
  by_cases hj : j = 4
  · subst hj; rfl
  · unfold encQ.cell; simp only [if_neg hj]) (fun y hy => by unfold encQ.un; simp only [fset_ne _ _ hy])
def encO.arr (u : encO.U) : Array Value := #[.int .i64 u.kind, .int .i64 u.n, .int .i64 u.at_, .bool u.write, .int .i64 u.refs]
theorem encO.un_agg {p0 p1 : Nat} (s : OS) (z : Int) (h : 0 ≤ z ∧ z < 24) : 0 + 2 + z.toNat * 5 + 5 ≤ 122 ∧ aggOf (encO p0 p1 s) (0 + 2 + z.toNat * 5) 5 = .agg (encO.arr (encO.un s z)) := by
  refine ⟨by omega, ?_⟩
  have q := fun j hj => encO.at_ (p0 := p0) (p1 := p1) s z h j hj
  simp only [aggOf, List.range, List.range.loop, List.map_cons, List.map_nil]
  rw [q 0 (by omega), q 1 (by omega), q 2 (by omega), q 3 (by omega), q 4 (by omega)]
  rfl
theorem encO.box (u : encO.U) : ∀ i, i < 5 → cellsOf (encO.arr u) i = encO.cell u i := fun i h => match i, h with
  | 0, _ => rfl
  | 1, _ => rfl
  | 2, _ => rfl
  | 3, _ => rfl
  | 4, _ => rfl
  | j + 5, h => absurd h (by omega)
theorem encO.ubox (u : encO.U) : 0 + 5 ≤ 5 ∧ aggOf (encO.cell u) 0 5 = .agg (encO.arr u) := ⟨by omega, rfl⟩
theorem encO.ust (u0 u : encO.U) : 0 + 5 ≤ 5 ∧ updL (encO.cell u0) 0 (encO.arr u).toList = encO.cell u := by
  refine ⟨by omega, ?_⟩
  funext i
  match i with
  | 0 => rfl
  | 1 => rfl
  | 2 => rfl
  | 3 => rfl
  | 4 => rfl
  | k + 5 =>
    have e1 : ∀ u : encO.U, encO.cell u (k + 5) = undef := fun u => by unfold encO.cell; iterate 5 rw [if_neg (by omega)]
    have e2 : updL (encO.cell u0) 0 (encO.arr u).toList (k + 5) = encO.cell u0 (k + 5) := by simp [updL, upd, encO.arr]
    rw [e2, e1, e1]
theorem encO.u_0 (u : encO.U) : 0 + 0 < 5 ∧ encO.cell u (0 + 0) = .int .i64 u.kind := ⟨by omega, rfl⟩
theorem encO.u_1 (u : encO.U) : 0 + 1 < 5 ∧ encO.cell u (0 + 1) = .int .i64 u.n := ⟨by omega, rfl⟩
theorem encO.u_2 (u : encO.U) : 0 + 2 < 5 ∧ encO.cell u (0 + 2) = .int .i64 u.at_ := ⟨by omega, rfl⟩
theorem encO.u_3 (u : encO.U) : 0 + 3 < 5 ∧ encO.cell u (0 + 3) = .bool u.write := ⟨by omega, rfl⟩
theorem encO.u_4 (u : encO.U) : 0 + 4 < 5 ∧ encO.cell u (0 + 4) = .int .i64 u.refs := ⟨by omega, rfl⟩
theorem encO.us_0 (u : encO.U) (v : Int) : 0 + 0 < 5 ∧ upd (encO.cell u) (0 + 0) (.int .i64 v) = encO.cell { u with kind := v } := by
  refine ⟨by omega, ?_⟩
  funext i
  unfold upd
  by_cases h : i = 0 + 0
  · subst h; rfl
  · rw [if_neg h]; unfold encO.cell; have h2 : ¬ i = 0 := by omega
    simp only [if_neg h2]
theorem encO.us_1 (u : encO.U) (v : Int) : 0 + 1 < 5 ∧ upd (encO.cell u) (0 + 1) (.int .i64 v) = encO.cell { u with n := v } := by
  refine ⟨by omega, ?_⟩
  funext i
  unfold upd
  by_cases h : i = 0 + 1
  · subst h; rfl
  · rw [if_neg h]; unfold encO.cell; have h2 : ¬ i = 1 := by omega
    simp only [if_neg h2]
theorem encO.us_2 (u : encO.U) (v : Int) : 0 + 2 < 5 ∧ upd (encO.cell u) (0 + 2) (.int .i64 v) = encO.cell { u with at_ := v } := by
  refine ⟨by omega, ?_⟩
  funext i
  unfold upd
  by_cases h : i = 0 + 2
  · subst h; rfl
  · rw [if_neg h]; unfold encO.cell; have h2 : ¬ i = 2 := by omega
    simp only [if_neg h2]
theorem encO.us_4 (u : encO.U) (v : Int) : 0 + 4 < 5 ∧ upd (encO.cell u) (0 + 4) (.int .i64 v) = encO.cell { u with refs := v } := by
  refine ⟨by omega, ?_⟩
  funext i
  unfold upd
  by_cases h : i = 0 + 4
  · subst h; rfl
  · rw [if_neg h]; unfold encO.cell; have h2 : ¬ i = 4 := by omega
    simp only [if_neg h2]
theorem encO.put {p0 p1 : Nat} (s : OS) (z k n : Int) (w : Bool) (r : Int) (h : 0 ≤ z ∧ z < 24) : 0 + 2 + z.toNat * 5 + 5 ≤ 122 ∧ updL (encO p0 p1 s) (0 + 2 + z.toNat * 5) (encO.arr ⟨k, n, 0, w, r⟩).toList = encO p0 p1 ⟨fset s.kind z k, fset s.n z n, fset s.at_ z 0, fset s.refs z r, fset s.write z w⟩ :=
  encO.setL s ⟨fset s.kind z k, fset s.n z n, fset s.at_ z 0, fset s.refs z r, fset s.write z w⟩ z h _ rfl (fun j hj => by
    have e : encO.un ⟨fset s.kind z k, fset s.n z n, fset s.at_ z 0, fset s.refs z r, fset s.write z w⟩ z = ⟨k, n, 0, w, r⟩ := by unfold encO.un; simp only [fset_eq]
    rw [e]
    match j, hj with
    | 0, _ => rfl
    | 1, _ => rfl
    | 2, _ => rfl
    | 3, _ => rfl
    | 4, _ => rfl
    | j + 5, h => exact absurd h (by omega)) (fun y hy => by unfold encO.un; simp only [fset_ne _ _ hy])
def encQ.arr (u : encQ.U) : Array Value := #[.int .i64 u.kind, .int .i64 u.n, .int .i64 u.at_, .int .i64 u.refs, .bool u.write]
theorem encQ.un_agg {p0 p1 : Nat} (s : OS) (z : Int) (h : 0 ≤ z ∧ z < 24) : 0 + 2 + z.toNat * 5 + 5 ≤ 122 ∧ aggOf (encQ p0 p1 s) (0 + 2 + z.toNat * 5) 5 = .agg (encQ.arr (encQ.un s z)) := by
  refine ⟨by omega, ?_⟩
  have q := fun j hj => encQ.at_ (p0 := p0) (p1 := p1) s z h j hj
  simp only [aggOf, List.range, List.range.loop, List.map_cons, List.map_nil]
  rw [q 0 (by omega), q 1 (by omega), q 2 (by omega), q 3 (by omega), q 4 (by omega)]
  rfl
theorem encQ.box (u : encQ.U) : ∀ i, i < 5 → cellsOf (encQ.arr u) i = encQ.cell u i := fun i h => match i, h with
  | 0, _ => rfl
  | 1, _ => rfl
  | 2, _ => rfl
  | 3, _ => rfl
  | 4, _ => rfl
  | j + 5, h => absurd h (by omega)
theorem encQ.ubox (u : encQ.U) : 0 + 5 ≤ 5 ∧ aggOf (encQ.cell u) 0 5 = .agg (encQ.arr u) := ⟨by omega, rfl⟩
theorem encQ.ust (u0 u : encQ.U) : 0 + 5 ≤ 5 ∧ updL (encQ.cell u0) 0 (encQ.arr u).toList = encQ.cell u := by
  refine ⟨by omega, ?_⟩
  funext i
  match i with
  | 0 => rfl
  | 1 => rfl
  | 2 => rfl
  | 3 => rfl
  | 4 => rfl
  | k + 5 =>
    have e1 : ∀ u : encQ.U, encQ.cell u (k + 5) = undef := fun u => by unfold encQ.cell; iterate 5 rw [if_neg (by omega)]
    have e2 : updL (encQ.cell u0) 0 (encQ.arr u).toList (k + 5) = encQ.cell u0 (k + 5) := by simp [updL, upd, encQ.arr]
    rw [e2, e1, e1]
theorem encQ.u_0 (u : encQ.U) : 0 + 0 < 5 ∧ encQ.cell u (0 + 0) = .int .i64 u.kind := ⟨by omega, rfl⟩
theorem encQ.u_1 (u : encQ.U) : 0 + 1 < 5 ∧ encQ.cell u (0 + 1) = .int .i64 u.n := ⟨by omega, rfl⟩
theorem encQ.u_2 (u : encQ.U) : 0 + 2 < 5 ∧ encQ.cell u (0 + 2) = .int .i64 u.at_ := ⟨by omega, rfl⟩
theorem encQ.u_3 (u : encQ.U) : 0 + 3 < 5 ∧ encQ.cell u (0 + 3) = .int .i64 u.refs := ⟨by omega, rfl⟩
theorem encQ.u_4 (u : encQ.U) : 0 + 4 < 5 ∧ encQ.cell u (0 + 4) = .bool u.write := ⟨by omega, rfl⟩
theorem encQ.us_0 (u : encQ.U) (v : Int) : 0 + 0 < 5 ∧ upd (encQ.cell u) (0 + 0) (.int .i64 v) = encQ.cell { u with kind := v } := by
  refine ⟨by omega, ?_⟩
  funext i
  unfold upd
  by_cases h : i = 0 + 0
  · subst h; rfl
  · rw [if_neg h]; unfold encQ.cell; have h2 : ¬ i = 0 := by omega
    simp only [if_neg h2]
theorem encQ.us_1 (u : encQ.U) (v : Int) : 0 + 1 < 5 ∧ upd (encQ.cell u) (0 + 1) (.int .i64 v) = encQ.cell { u with n := v } := by
  refine ⟨by omega, ?_⟩
  funext i
  unfold upd
  by_cases h : i = 0 + 1
  · subst h; rfl
  · rw [if_neg h]; unfold encQ.cell; have h2 : ¬ i = 1 := by omega
    simp only [if_neg h2]
theorem encQ.us_2 (u : encQ.U) (v : Int) : 0 + 2 < 5 ∧ upd (encQ.cell u) (0 + 2) (.int .i64 v) = encQ.cell { u with at_ := v } := by
  refine ⟨by omega, ?_⟩
  funext i
  unfold upd
  by_cases h : i = 0 + 2
  · subst h; rfl
  · rw [if_neg h]; unfold encQ.cell; have h2 : ¬ i = 2 := by omega
    simp only [if_neg h2]
theorem encQ.us_3 (u : encQ.U) (v : Int) : 0 + 3 < 5 ∧ upd (encQ.cell u) (0 + 3) (.int .i64 v) = encQ.cell { u with refs := v } := by
  refine ⟨by omega, ?_⟩
  funext i
  unfold upd
  by_cases h : i = 0 + 3
  · subst h; rfl
  · rw [if_neg h]; unfold encQ.cell; have h2 : ¬ i = 3 := by omega
    simp only [if_neg h2]
theorem encQ.put {p0 p1 : Nat} (s : OS) (z k n : Int) (w : Bool) (r : Int) (h : 0 ≤ z ∧ z < 24) : 0 + 2 + z.toNat * 5 + 5 ≤ 122 ∧ updL (encQ p0 p1 s) (0 + 2 + z.toNat * 5) (encQ.arr ⟨k, n, 0, r, w⟩).toList = encQ p0 p1 ⟨fset s.kind z k, fset s.n z n, fset s.at_ z 0, fset s.refs z r, fset s.write z w⟩ :=
  encQ.setL s ⟨fset s.kind z k, fset s.n z n, fset s.at_ z 0, fset s.refs z r, fset s.write z w⟩ z h _ rfl (fun j hj => by
    have e : encQ.un ⟨fset s.kind z k, fset s.n z n, fset s.at_ z 0, fset s.refs z r, fset s.write z w⟩ z = ⟨k, n, 0, r, w⟩ := by unfold encQ.un; simp only [fset_eq]
    rw [e]
    match j, hj with
    | 0, _ => rfl
    | 1, _ => rfl
    | 2, _ => rfl
    | 3, _ => rfl
    | 4, _ => rfl
    | j + 5, h => exact absurd h (by omega)) (fun y hy => by unfold encQ.un; simp only [fset_ne _ _ hy])

end Go.X
