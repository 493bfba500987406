import Derived.Test.YtmklfkjfgjagaaaGreatDoorNRM
import Derived.Test.YtmklfkjfgjagaaaGreatDoorXBytes
namespace Go.X
open Go
theorem updL_lt' (C : Nat → Value) : ∀ (vs : List Value) (i j : Nat), j < i → updL C i vs j = C j
  | [], _, _, _ => rfl
  | v :: r, i, j, h => by
    unfold updL
    rw [updL_lt' (upd C i v) r (i + 1) j (by omega)]
    simp [upd]; omega
theorem updL_at' : ∀ (vs : List Value) (C : Nat → Value) (i j : Nat) (v : Value), vs[j]? = some v → updL C i vs (i + j) = v
  | [], _, _, _, _, h => by simp at h
  | u :: r, C, i, 0, v, h => by
    have h2 : u = v := by simpa using h
    unfold updL
    rw [updL_lt' _ _ _ _ (by omega), ← h2]
    simp [upd]
  | u :: r, C, i, j + 1, v, h => by
    unfold updL
    have := updL_at' r (upd C i u) (i + 1) j v (by simpa using h)
    rw [show i + 1 + j = i + (j + 1) from by omega] at this
    exact this
theorem updL_ge' : ∀ (vs : List Value) (C : Nat → Value) (i j : Nat), i + vs.length ≤ j → updL C i vs j = C j
  | [], _, _, _, _ => rfl
  | v :: r, C, i, j, h => by
    simp only [List.length_cons] at h
    unfold updL
    rw [updL_ge' r (upd C i v) (i + 1) j (by omega)]
    simp [upd]; omega
structure encF.U where
  kind : Int
  tree : Int
  links : Int
  held : Int
  data : ByteArray
  up : Int
  names : List ByteArray
  nP : Option Addr
  nC : Nat
  kids : List Int
  kP : Option Addr
  kC : Nat

def encF.un (s : FC) (z : Int) : encF.U := ⟨s.kind z, s.tree z, s.links z, s.held z, s.data z, s.up z, s.names z, s.nP z, s.nC z, s.kids z, s.kP z, s.kC z⟩
def encF.cell (u : encF.U) (j : Nat) : Value :=
  if j = 0 then .int .i64 u.kind else
  if j = 1 then .int .i64 u.tree else
  if j = 2 then .int .i64 u.links else
  if j = 3 then .int .i64 u.held else
  if j = 4 then .string u.data else
  if 5 ≤ j ∧ j < 6 then .slice u.nP u.names.length u.nC else
  if 6 ≤ j ∧ j < 7 then .slice u.kP u.kids.length u.kC else
  if j = 7 then .int .i64 u.up else
  undef
def encF (s : FC) (i : Nat) : Value :=
  if i < 320 then encF.cell (encF.un s ((i / 8 : Nat) : Int)) (i % 8) else
  if i = 320 then Value.slice s.rP s.roots.length s.rC else
  undef
theorem encF.at_ (s : FC) (z : Int) (h : 0 ≤ z ∧ z < 40) (j : Nat) (hj : j < 8) : encF s (0 + 0 + z.toNat * 8 + j) = encF.cell (encF.un s z) j := by
  unfold encF
  rw [if_pos (by omega), show (((0 + 0 + z.toNat * 8 + j) / 8 : Nat) : Int) = z from by omega, show (0 + 0 + z.toNat * 8 + j) % 8 = j from by omega]
theorem encF.set (s s' : FC) (z : Int) (h : 0 ≤ z ∧ z < 40) (k : Nat) (hk : k < 8) (v : Value) (hv : ∀ j, encF.cell (encF.un s' z) j = if j = k then v else encF.cell (encF.un s z) j) (ho : ∀ y, ¬ y = z → encF.un s' y = encF.un s y) (hn : Value.slice s'.rP s'.roots.length s'.rC = Value.slice s.rP s.roots.length s.rC) : 0 + 0 + z.toNat * 8 + k < 321 ∧ upd (encF s) (0 + 0 + z.toNat * 8 + k) v = encF s' := by
  refine ⟨by omega, ?_⟩
  funext i
  unfold upd
  by_cases hi : i = 0 + 0 + z.toNat * 8 + k
  · rw [if_pos hi, hi, encF.at_ s' z h k hk, hv, if_pos rfl]
  · rw [if_neg hi]
    unfold encF
    by_cases c1 : i < 320
    · rw [if_pos c1, if_pos c1]
      by_cases cz : ((i / 8 : Nat) : Int) = z
      · rw [cz, hv, if_neg (by omega)]
      · rw [ho _ cz]
    · rw [if_neg c1, if_neg c1, hn]
theorem encF.setL (s s' : FC) (z : Int) (h : 0 ≤ z ∧ z < 40) (vs : List Value) (hl : vs.length = 8) (hv : ∀ j, j < 8 → vs[j]? = some (encF.cell (encF.un s' z) j)) (ho : ∀ y, ¬ y = z → encF.un s' y = encF.un s y) (hn : Value.slice s'.rP s'.roots.length s'.rC = Value.slice s.rP s.roots.length s.rC) : 0 + 0 + z.toNat * 8 + 8 ≤ 321 ∧ updL (encF s) (0 + 0 + z.toNat * 8) vs = encF s' := by
  refine ⟨by omega, ?_⟩
  funext i
  by_cases a1 : i < 0 + 0 + z.toNat * 8
  · rw [updL_lt' _ _ _ _ a1]
    unfold encF
    rw [if_pos (by omega), if_pos (by omega), ho _ (by omega)]
  · by_cases a2 : i < 0 + 0 + z.toNat * 8 + 8
    · obtain ⟨j, rfl⟩ : ∃ j, i = 0 + 0 + z.toNat * 8 + j := ⟨i - (0 + 0 + z.toNat * 8), by omega⟩
      rw [encF.at_ s' z h j (by omega)]
      exact updL_at' vs _ _ _ _ (hv j (by omega))
    · rw [updL_ge' _ _ _ _ (by omega)]
      unfold encF
      by_cases c1 : i < 320
      · rw [if_pos c1, if_pos c1, ho _ (by omega)]
      · rw [if_neg c1, if_neg c1, hn]
theorem encF.ld_n_kind (s : FC) (z : Int) (h : 0 ≤ z ∧ z < 40) : 0 + 0 + z.toNat * 8 + 0 < 321 ∧ encF s (0 + 0 + z.toNat * 8 + 0) = .int .i64 (s.kind z) := ⟨by omega, encF.at_ s z h 0 (by omega)⟩
theorem encF.ld_n_tree (s : FC) (z : Int) (h : 0 ≤ z ∧ z < 40) : 0 + 0 + z.toNat * 8 + 1 < 321 ∧ encF s (0 + 0 + z.toNat * 8 + 1) = .int .i64 (s.tree z) := ⟨by omega, encF.at_ s z h 1 (by omega)⟩
theorem encF.ld_n_links (s : FC) (z : Int) (h : 0 ≤ z ∧ z < 40) : 0 + 0 + z.toNat * 8 + 2 < 321 ∧ encF s (0 + 0 + z.toNat * 8 + 2) = .int .i64 (s.links z) := ⟨by omega, encF.at_ s z h 2 (by omega)⟩
theorem encF.st_n_links (s : FC) (z : Int) (h : 0 ≤ z ∧ z < 40) (v : Int) : 0 + 0 + z.toNat * 8 + 2 < 321 ∧ upd (encF s) (0 + 0 + z.toNat * 8 + 2) (.int .i64 v) = encF { s with links := fset s.links z v } := encF.set s { s with links := fset s.links z v } z h 2 (by omega) _ (fun j => by
  have e : encF.un { s with links := fset s.links z v } z = { encF.un s z with links := v } := by unfold encF.un; simp only [fset_eq]
  rw [e]
  by_cases hj : j = 2
  · subst hj; rfl
  · unfold encF.cell; simp only [if_neg hj]) (fun y hy => by unfold encF.un; simp only [fset_ne _ _ hy]) rfl
theorem encF.ld_n_held (s : FC) (z : Int) (h : 0 ≤ z ∧ z < 40) : 0 + 0 + z.toNat * 8 + 3 < 321 ∧ encF s (0 + 0 + z.toNat * 8 + 3) = .int .i64 (s.held z) := ⟨by omega, encF.at_ s z h 3 (by omega)⟩
theorem encF.st_n_held (s : FC) (z : Int) (h : 0 ≤ z ∧ z < 40) (v : Int) : 0 + 0 + z.toNat * 8 + 3 < 321 ∧ upd (encF s) (0 + 0 + z.toNat * 8 + 3) (.int .i64 v) = encF { s with held := fset s.held z v } := encF.set s { s with held := fset s.held z v } z h 3 (by omega) _ (fun j => by
  have e : encF.un { s with held := fset s.held z v } z = { encF.un s z with held := v } := by unfold encF.un; simp only [fset_eq]
  rw [e]
  by_cases hj : j = 3
  · subst hj; rfl
  · unfold encF.cell; simp only [if_neg hj]) (fun y hy => by unfold encF.un; simp only [fset_ne _ _ hy]) rfl
theorem encF.ld_n_data (s : FC) (z : Int) (h : 0 ≤ z ∧ z < 40) : 0 + 0 + z.toNat * 8 + 4 < 321 ∧ encF s (0 + 0 + z.toNat * 8 + 4) = .string (s.data z) := ⟨by omega, encF.at_ s z h 4 (by omega)⟩
theorem encF.st_n_data (s : FC) (z : Int) (h : 0 ≤ z ∧ z < 40) (v : ByteArray) : 0 + 0 + z.toNat * 8 + 4 < 321 ∧ upd (encF s) (0 + 0 + z.toNat * 8 + 4) (.string v) = encF { s with data := fset s.data z v } := encF.set s { s with data := fset s.data z v } z h 4 (by omega) _ (fun j => by
  have e : encF.un { s with data := fset s.data z v } z = { encF.un s z with data := v } := by unfold encF.un; simp only [fset_eq]
  rw [e]
  by_cases hj : j = 4
  · subst hj; rfl
  · unfold encF.cell; simp only [if_neg hj]) (fun y hy => by unfold encF.un; simp only [fset_ne _ _ hy]) rfl
theorem encF.ld_n_up (s : FC) (z : Int) (h : 0 ≤ z ∧ z < 40) : 0 + 0 + z.toNat * 8 + 7 < 321 ∧ encF s (0 + 0 + z.toNat * 8 + 7) = .int .i64 (s.up z) := ⟨by omega, encF.at_ s z h 7 (by omega)⟩
theorem encF.st_n_up (s : FC) (z : Int) (h : 0 ≤ z ∧ z < 40) (v : Int) : 0 + 0 + z.toNat * 8 + 7 < 321 ∧ upd (encF s) (0 + 0 + z.toNat * 8 + 7) (.int .i64 v) = encF { s with up := fset s.up z v } := encF.set s { s with up := fset s.up z v } z h 7 (by omega) _ (fun j => by
  have e : encF.un { s with up := fset s.up z v } z = { encF.un s z with up := v } := by unfold encF.un; simp only [fset_eq]
  rw [e]
  by_cases hj : j = 7
  · subst hj; rfl
  · unfold encF.cell; simp only [if_neg hj]) (fun y hy => by unfold encF.un; simp only [fset_ne _ _ hy]) rfl
theorem encF.ld_n_names (s : FC) (z : Int) (h : 0 ≤ z ∧ z < 40) : 0 + 0 + z.toNat * 8 + 5 < 321 ∧ encF s (0 + 0 + z.toNat * 8 + 5) = .slice (s.nP z) (s.names z).length (s.nC z) := ⟨by omega, encF.at_ s z h 5 (by omega)⟩
theorem encF.st_n_names (s : FC) (z : Int) (h : 0 ≤ z ∧ z < 40) (x : List ByteArray) (p : Option Addr) (c n : Nat) (hx : n = x.length) : 0 + 0 + z.toNat * 8 + 5 < 321 ∧ upd (encF s) (0 + 0 + z.toNat * 8 + 5) (.slice p n c) = encF { s with names := fset s.names z x, nP := fset s.nP z p, nC := fset s.nC z c } := by
  subst hx
  exact encF.set s { s with names := fset s.names z x, nP := fset s.nP z p, nC := fset s.nC z c } z h 5 (by omega) _ (fun j => by
  have e : encF.un { s with names := fset s.names z x, nP := fset s.nP z p, nC := fset s.nC z c } z = { encF.un s z with names := x, nP := p, nC := c } := by unfold encF.un; simp only [fset_eq]
  rw [e]
  by_cases hj : j = 5
  · subst hj; rfl
  · unfold encF.cell
    simp only [show ¬ (5 ≤ j ∧ j < 6) from by omega, hj, if_false]) (fun y hy => by unfold encF.un; simp only [fset_ne _ _ hy]) rfl
theorem encF.ld_n_kids (s : FC) (z : Int) (h : 0 ≤ z ∧ z < 40) : 0 + 0 + z.toNat * 8 + 6 < 321 ∧ encF s (0 + 0 + z.toNat * 8 + 6) = .slice (s.kP z) (s.kids z).length (s.kC z) := ⟨by omega, encF.at_ s z h 6 (by omega)⟩
theorem encF.st_n_kids (s : FC) (z : Int) (h : 0 ≤ z ∧ z < 40) (x : List Int) (p : Option Addr) (c n : Nat) (hx : n = x.length) : 0 + 0 + z.toNat * 8 + 6 < 321 ∧ upd (encF s) (0 + 0 + z.toNat * 8 + 6) (.slice p n c) = encF { s with kids := fset s.kids z x, kP := fset s.kP z p, kC := fset s.kC z c } := by
  subst hx
  exact encF.set s { s with kids := fset s.kids z x, kP := fset s.kP z p, kC := fset s.kC z c } z h 6 (by omega) _ (fun j => by
  have e : encF.un { s with kids := fset s.kids z x, kP := fset s.kP z p, kC := fset s.kC z c } z = { encF.un s z with kids := x, kP := p, kC := c } := by unfold encF.un; simp only [fset_eq]
  rw [e]
  by_cases hj : j = 6
  · subst hj; rfl
  · unfold encF.cell
    simp only [show ¬ (6 ≤ j ∧ j < 7) from by omega, hj, if_false]) (fun y hy => by unfold encF.un; simp only [fset_ne _ _ hy]) rfl
structure encM.U where
  kind : Int
  tree : Int
  links : Int
  held : Int
  up : Int
  data : ByteArray
  names : List ByteArray
  nP : Option Addr
  nC : Nat
  kids : List Int
  kP : Option Addr
  kC : Nat

def encM.un (s : FC) (z : Int) : encM.U := ⟨s.kind z, s.tree z, s.links z, s.held z, s.up z, s.data z, s.names z, s.nP z, s.nC z, s.kids z, s.kP z, s.kC z⟩
def encM.cell (u : encM.U) (j : Nat) : Value :=
  if j = 0 then .int .i64 u.kind else
  if j = 1 then .int .i64 u.tree else
  if j = 2 then .int .i64 u.links else
  if j = 3 then .int .i64 u.held else
  if j = 4 then .int .i64 u.up else
  if j = 5 then .string u.data else
  if 6 ≤ j ∧ j < 7 then .slice u.nP u.names.length u.nC else
  if 7 ≤ j ∧ j < 8 then .slice u.kP u.kids.length u.kC else
  undef
def encM (s : FC) (i : Nat) : Value :=
  if i < 320 then encM.cell (encM.un s ((i / 8 : Nat) : Int)) (i % 8) else
  if i = 320 then Value.slice s.rP s.roots.length s.rC else
  undef
theorem encM.at_ (s : FC) (z : Int) (h : 0 ≤ z ∧ z < 40) (j : Nat) (hj : j < 8) : encM s (0 + 0 + z.toNat * 8 + j) = encM.cell (encM.un s z) j := by
  unfold encM
  rw [if_pos (by omega), show (((0 + 0 + z.toNat * 8 + j) / 8 : Nat) : Int) = z from by omega, show (0 + 0 + z.toNat * 8 + j) % 8 = j from by omega]
theorem encM.set (s s' : FC) (z : Int) (h : 0 ≤ z ∧ z < 40) (k : Nat) (hk : k < 8) (v : Value) (hv : ∀ j, encM.cell (encM.un s' z) j = if j = k then v else encM.cell (encM.un s z) j) (ho : ∀ y, ¬ y = z → encM.un s' y = encM.un s y) (hn : Value.slice s'.rP s'.roots.length s'.rC = Value.slice s.rP s.roots.length s.rC) : 0 + 0 + z.toNat * 8 + k < 321 ∧ upd (encM s) (0 + 0 + z.toNat * 8 + k) v = encM s' := by
  refine ⟨by omega, ?_⟩
  funext i
  unfold upd
  by_cases hi : i = 0 + 0 + z.toNat * 8 + k
  · rw [if_pos hi, hi, encM.at_ s' z h k hk, hv, if_pos rfl]
  · rw [if_neg hi]
    unfold encM
    by_cases c1 : i < 320
    · rw [if_pos c1, if_pos c1]
      by_cases cz : ((i / 8 : Nat) : Int) = z
      · rw [cz, hv, if_neg (by omega)]
      · rw [ho _ cz]
    · rw [if_neg c1, if_neg c1, hn]
theorem encM.setL (s s' : FC) (z : Int) (h : 0 ≤ z ∧ z < 40) (vs : List Value) (hl : vs.length = 8) (hv : ∀ j, j < 8 → vs[j]? = some (encM.cell (encM.un s' z) j)) (ho : ∀ y, ¬ y = z → encM.un s' y = encM.un s y) (hn : Value.slice s'.rP s'.roots.length s'.rC = Value.slice s.rP s.roots.length s.rC) : 0 + 0 + z.toNat * 8 + 8 ≤ 321 ∧ updL (encM s) (0 + 0 + z.toNat * 8) vs = encM s' := by
  refine ⟨by omega, ?_⟩
  funext i
  by_cases a1 : i < 0 + 0 + z.toNat * 8
  · rw [updL_lt' _ _ _ _ a1]
    unfold encM
    rw [if_pos (by omega), if_pos (by omega), ho _ (by omega)]
  · by_cases a2 : i < 0 + 0 + z.toNat * 8 + 8
    · obtain ⟨j, rfl⟩ : ∃ j, i = 0 + 0 + z.toNat * 8 + j := ⟨i - (0 + 0 + z.toNat * 8), by omega⟩
      rw [encM.at_ s' z h j (by omega)]
      exact updL_at' vs _ _ _ _ (hv j (by omega))
    · rw [updL_ge' _ _ _ _ (by omega)]
      unfold encM
      by_cases c1 : i < 320
      · rw [if_pos c1, if_pos c1, ho _ (by omega)]
      · rw [if_neg c1, if_neg c1, hn]
theorem encM.ld_N_Kind (s : FC) (z : Int) (h : 0 ≤ z ∧ z < 40) : 0 + 0 + z.toNat * 8 + 0 < 321 ∧ encM s (0 + 0 + z.toNat * 8 + 0) = .int .i64 (s.kind z) := ⟨by omega, encM.at_ s z h 0 (by omega)⟩
theorem encM.ld_N_Tree (s : FC) (z : Int) (h : 0 ≤ z ∧ z < 40) : 0 + 0 + z.toNat * 8 + 1 < 321 ∧ encM s (0 + 0 + z.toNat * 8 + 1) = .int .i64 (s.tree z) := ⟨by omega, encM.at_ s z h 1 (by omega)⟩
theorem encM.ld_N_Links (s : FC) (z : Int) (h : 0 ≤ z ∧ z < 40) : 0 + 0 + z.toNat * 8 + 2 < 321 ∧ encM s (0 + 0 + z.toNat * 8 + 2) = .int .i64 (s.links z) := ⟨by omega, encM.at_ s z h 2 (by omega)⟩
theorem encM.st_N_Links (s : FC) (z : Int) (h : 0 ≤ z ∧ z < 40) (v : Int) : 0 + 0 + z.toNat * 8 + 2 < 321 ∧ upd (encM s) (0 + 0 + z.toNat * 8 + 2) (.int .i64 v) = encM { s with links := fset s.links z v } := encM.set s { s with links := fset s.links z v } z h 2 (by omega) _ (fun j => by
  have e : encM.un { s with links := fset s.links z v } z = { encM.un s z with links := v } := by unfold encM.un; simp only [fset_eq]
  rw [e]
  by_cases hj : j = 2
  · subst hj; rfl
  · unfold encM.cell; simp only [if_neg hj]) (fun y hy => by unfold encM.un; simp only [fset_ne _ _ hy]) rfl
theorem encM.ld_N_Held (s : FC) (z : Int) (h : 0 ≤ z ∧ z < 40) : 0 + 0 + z.toNat * 8 + 3 < 321 ∧ encM s (0 + 0 + z.toNat * 8 + 3) = .int .i64 (s.held z) := ⟨by omega, encM.at_ s z h 3 (by omega)⟩
theorem encM.st_N_Held (s : FC) (z : Int) (h : 0 ≤ z ∧ z < 40) (v : Int) : 0 + 0 + z.toNat * 8 + 3 < 321 ∧ upd (encM s) (0 + 0 + z.toNat * 8 + 3) (.int .i64 v) = encM { s with held := fset s.held z v } := encM.set s { s with held := fset s.held z v } z h 3 (by omega) _ (fun j => by
  have e : encM.un { s with held := fset s.held z v } z = { encM.un s z with held := v } := by unfold encM.un; simp only [fset_eq]
  rw [e]
  by_cases hj : j = 3
  · subst hj; rfl
  · unfold encM.cell; simp only [if_neg hj]) (fun y hy => by unfold encM.un; simp only [fset_ne _ _ hy]) rfl
theorem encM.ld_N_Up (s : FC) (z : Int) (h : 0 ≤ z ∧ z < 40) : 0 + 0 + z.toNat * 8 + 4 < 321 ∧ encM s (0 + 0 + z.toNat * 8 + 4) = .int .i64 (s.up z) := ⟨by omega, encM.at_ s z h 4 (by omega)⟩
theorem encM.st_N_Up (s : FC) (z : Int) (h : 0 ≤ z ∧ z < 40) (v : Int) : 0 + 0 + z.toNat * 8 + 4 < 321 ∧ upd (encM s) (0 + 0 + z.toNat * 8 + 4) (.int .i64 v) = encM { s with up := fset s.up z v } := encM.set s { s with up := fset s.up z v } z h 4 (by omega) _ (fun j => by
  have e : encM.un { s with up := fset s.up z v } z = { encM.un s z with up := v } := by unfold encM.un; simp only [fset_eq]
  rw [e]
  by_cases hj : j = 4
  · subst hj; rfl
  · unfold encM.cell; simp only [if_neg hj]) (fun y hy => by unfold encM.un; simp only [fset_ne _ _ hy]) rfl
theorem encM.ld_N_Data (s : FC) (z : Int) (h : 0 ≤ z ∧ z < 40) : 0 + 0 + z.toNat * 8 + 5 < 321 ∧ encM s (0 + 0 + z.toNat * 8 + 5) = .string (s.data z) := ⟨by omega, encM.at_ s z h 5 (by omega)⟩
theorem encM.st_N_Data (s : FC) (z : Int) (h : 0 ≤ z ∧ z < 40) (v : ByteArray) : 0 + 0 + z.toNat * 8 + 5 < 321 ∧ upd (encM s) (0 + 0 + z.toNat * 8 + 5) (.string v) = encM { s with data := fset s.data z v } := encM.set s { s with data := fset s.data z v } z h 5 (by omega) _ (fun j => by
  have e : encM.un { s with data := fset s.data z v } z = { encM.un s z with data := v } := by unfold encM.un; simp only [fset_eq]
  rw [e]
  by_cases hj : j = 5
  · subst hj; rfl
  · unfold encM.cell; simp only [if_neg hj]) (fun y hy => by unfold encM.un; simp only [fset_ne _ _ hy]) rfl
theorem encM.ld_N_Names (s : FC) (z : Int) (h : 0 ≤ z ∧ z < 40) : 0 + 0 + z.toNat * 8 + 6 < 321 ∧ encM s (0 + 0 + z.toNat * 8 + 6) = .slice (s.nP z) (s.names z).length (s.nC z) := ⟨by omega, encM.at_ s z h 6 (by omega)⟩
theorem encM.st_N_Names (s : FC) (z : Int) (h : 0 ≤ z ∧ z < 40) (x : List ByteArray) (p : Option Addr) (c n : Nat) (hx : n = x.length) : 0 + 0 + z.toNat * 8 + 6 < 321 ∧ upd (encM s) (0 + 0 + z.toNat * 8 + 6) (.slice p n c) = encM { s with names := fset s.names z x, nP := fset s.nP z p, nC := fset s.nC z c } := by
  subst hx
  exact encM.set s { s with names := fset s.names z x, nP := fset s.nP z p, nC := fset s.nC z c } z h 6 (by omega) _ (fun j => by
  have e : encM.un { s with names := fset s.names z x, nP := fset s.nP z p, nC := fset s.nC z c } z = { encM.un s z with names := x, nP := p, nC := c } := by unfold encM.un; simp only [fset_eq]
  rw [e]
  by_cases hj : j = 6
  · subst hj; rfl
  · unfold encM.cell
    simp only [show ¬ (6 ≤ j ∧ j < 7) from by omega, hj, if_false]) (fun y hy => by unfold encM.un; simp only [fset_ne _ _ hy]) rfl
theorem encM.ld_N_Kids (s : FC) (z : Int) (h : 0 ≤ z ∧ z < 40) : 0 + 0 + z.toNat * 8 + 7 < 321 ∧ encM s (0 + 0 + z.toNat * 8 + 7) = .slice (s.kP z) (s.kids z).length (s.kC z) := ⟨by omega, encM.at_ s z h 7 (by omega)⟩
theorem encM.st_N_Kids (s : FC) (z : Int) (h : 0 ≤ z ∧ z < 40) (x : List Int) (p : Option Addr) (c n : Nat) (hx : n = x.length) : 0 + 0 + z.toNat * 8 + 7 < 321 ∧ upd (encM s) (0 + 0 + z.toNat * 8 + 7) (.slice p n c) = encM { s with kids := fset s.kids z x, kP := fset s.kP z p, kC := fset s.kC z c } := by
  subst hx
  exact encM.set s { s with kids := fset s.kids z x, kP := fset s.kP z p, kC := fset s.kC z c } z h 7 (by omega) _ (fun j => by
  have e : encM.un { s with kids := fset s.kids z x, kP := fset s.kP z p, kC := fset s.kC z c } z = { encM.un s z with kids := x, kP := p, kC := c } := by unfold encM.un; simp only [fset_eq]
  rw [e]
  by_cases hj : j = 7
  · subst hj; rfl
  · unfold encM.cell
    simp only [show ¬ (7 ≤ j ∧ j < 8) from by omega, hj, if_false]) (fun y hy => by unfold encM.un; simp only [fset_ne _ _ hy]) rfl

end Go.X

namespace Go.X
open Go
theorem XQ.mono {P : Program} {ops : Array Oper} {Q : Exit → Act → World → Prop} {n : Fr} {L : PF} {M M' : World → Prop} {B : Obl} {f : Nat} {l : Array Bool} (hm : ∀ w, M w → M' w) (h : XQ P n ops Q B f l L M') : XQ P n ops Q B f l L M := fun hc a w ha hw hJ => h hc a w ha (hm w hw) hJ
section
variable {W w : World} {S : Nat → Nat → Prop} {H F : List Ent}
theorem fam40_at {z : Int} (h : 0 ≤ z ∧ z < 40) : fam40 z.toNat = true := by show Nat.blt z.toNat 40 = true; simp; omega
theorem pick1 (x : Ent) : ∀ (L : List Ent), Pick (x :: L) L [x]
  | [] => .nil
  | _ :: r => .cons (.there .here) (pick1 x r)
theorem XM.openN {e : TypeId} {s : FC} {z : Int} (hz : 0 ≤ z ∧ z < 40) (hp : Pick H [.fam fam40 (s.rowsN e)] F) (h : XM W S H w) : XM W S (srow (s.nP z) (s.nC z) e (s.names z) :: .fam (outP fam40 z.toNat) (s.rowsN e) :: F) w := by
  have h1 := XM.famOut z.toNat (fam40_at hz) (h.perm hp.perm)
  have e1 : (s.rowsN e z.toNat).ent = srow (s.nP z) (s.nC z) e (s.names z) := by
    unfold FC.rowsN RowD.ent
    simp only [show ((z.toNat : Nat) : Int) = z from by omega]
  rw [e1] at h1
  exact h1
theorem XM.openK {e : TypeId} {s : FC} {z : Int} (hz : 0 ≤ z ∧ z < 40) (hp : Pick H [.fam fam40 (s.rowsK e)] F) (h : XM W S H w) : XM W S (irow (s.kP z) (s.kC z) e (s.kids z) :: .fam (outP fam40 z.toNat) (s.rowsK e) :: F) w := by
  have h1 := XM.famOut z.toNat (fam40_at hz) (h.perm hp.perm)
  have e1 : (s.rowsK e z.toNat).ent = irow (s.kP z) (s.kC z) e (s.kids z) := by
    unfold FC.rowsK RowD.ent
    simp only [show ((z.toNat : Nat) : Int) = z from by omega]
  rw [e1] at h1
  exact h1
theorem rowsN_set (e : TypeId) (s t : FC) (z : Int) (hz : 0 ≤ z ∧ z < 40) (l : List ByteArray) (p : Option Addr) (c : Nat) (h1 : t.names = fset s.names z l) (h2 : t.nP = fset s.nP z p) (h3 : t.nC = fset s.nC z c) :
    rset (s.rowsN e) z.toNat ⟨.slice p l.length c, e, 1, l.length, strs l⟩ = t.rowsN e := by
  funext i
  unfold FC.rowsN
  rw [h1, h2, h3]
  by_cases hi : i = z.toNat
  · subst hi
    rw [rset_eq]
    simp only [show ((z.toNat : Nat) : Int) = z from by omega, fset_eq]
  · rw [rset_ne _ _ hi]
    have hi2 : ¬ (i : Int) = z := by omega
    simp only [fset_ne _ _ hi2]
theorem rowsK_set (e : TypeId) (s t : FC) (z : Int) (hz : 0 ≤ z ∧ z < 40) (l : List Int) (p : Option Addr) (c : Nat) (h1 : t.kids = fset s.kids z l) (h2 : t.kP = fset s.kP z p) (h3 : t.kC = fset s.kC z c) :
    rset (s.rowsK e) z.toNat ⟨.slice p l.length c, e, 1, l.length, ints l⟩ = t.rowsK e := by
  funext i
  unfold FC.rowsK
  rw [h1, h2, h3]
  by_cases hi : i = z.toNat
  · subst hi
    rw [rset_eq]
    simp only [show ((z.toNat : Nat) : Int) = z from by omega, fset_eq]
  · rw [rset_ne _ _ hi]
    have hi2 : ¬ (i : Int) = z := by omega
    simp only [fset_ne _ _ hi2]
theorem XM.closeN {e : TypeId} {s : FC} (t : FC) {z : Int} {n c : Nat} {p : Option Addr} {l : List ByteArray} (hz : 0 ≤ z ∧ z < 40) (hn : n = l.length) (h1 : t.names = fset s.names z l) (h2 : t.nP = fset s.nP z p) (h3 : t.nC = fset s.nC z c)
    (hp : Pick H [.row (.slice p n c) e 1 n (strs l), .fam (outP fam40 z.toNat) (s.rowsN e)] F) (h : XM W S H w) : XM W S (.fam fam40 (t.rowsN e) :: F) w := by
  subst hn
  have h4 := XM.famIn (x := ⟨.slice p l.length c, e, 1, l.length, strs l⟩) z.toNat (outP_at _ _) (h.perm hp.perm)
  rw [inout (fam40_at hz), rowsN_set e s t z hz l p c h1 h2 h3] at h4
  exact h4
theorem XM.closeK {e : TypeId} {s : FC} (t : FC) {z : Int} {n c : Nat} {p : Option Addr} {l : List Int} (hz : 0 ≤ z ∧ z < 40) (hn : n = l.length) (h1 : t.kids = fset s.kids z l) (h2 : t.kP = fset s.kP z p) (h3 : t.kC = fset s.kC z c)
    (hp : Pick H [.row (.slice p n c) e 1 n (ints l), .fam (outP fam40 z.toNat) (s.rowsK e)] F) (h : XM W S H w) : XM W S (.fam fam40 (t.rowsK e) :: F) w := by
  subst hn
  have h4 := XM.famIn (x := ⟨.slice p l.length c, e, 1, l.length, ints l⟩) z.toNat (outP_at _ _) (h.perm hp.perm)
  rw [inout (fam40_at hz), rowsK_set e s t z hz l p c h1 h2 h3] at h4
  exact h4
/-- a node's rows are forgotten -/
theorem XM.newN {e : TypeId} {s : FC} (t : FC) {z : Int} (hz : 0 ≤ z ∧ z < 40) (h1 : t.names = fset s.names z []) (h2 : t.nP = fset s.nP z none) (h3 : t.nC = fset s.nC z 0) (hp : Pick H [.fam fam40 (s.rowsN e)] F) (h : XM W S H w) : XM W S (.fam fam40 (t.rowsN e) :: F) w := by
  have h4 := (XM.pick (pick1 _ _) (XM.openN hz hp h)).nilRow e 1
  exact XM.closeN (s := s) t (p := none) (c := 0) (n := 0) (l := []) hz rfl h1 h2 h3 (.cons .here (.cons .here (by
    have hq : ∀ L : List Ent, Pick L [] L := fun L => .nil
    exact hq _))) h4
theorem XM.newK {e : TypeId} {s : FC} (t : FC) {z : Int} (hz : 0 ≤ z ∧ z < 40) (h1 : t.kids = fset s.kids z []) (h2 : t.kP = fset s.kP z none) (h3 : t.kC = fset s.kC z 0) (hp : Pick H [.fam fam40 (s.rowsK e)] F) (h : XM W S H w) : XM W S (.fam fam40 (t.rowsK e) :: F) w := by
  have h4 := (XM.pick (pick1 _ _) (XM.openK hz hp h)).nilRow e 1
  exact XM.closeK (s := s) t (p := none) (c := 0) (n := 0) (l := []) hz rfl h1 h2 h3 (.cons .here (.cons .here .nil)) h4
end
/-- a node made new -/
def FC.setC (s : FC) (z k t l u : Int) : FC := ⟨s.toFF.setN z k t l u, fset s.nP z none, fset s.nC z 0, fset s.kP z none, fset s.kC z 0, s.rP, s.rC⟩
def FC.putC (s : FC) (n : Int) (x : ByteArray) (k : Int) (p : Option Addr) (c : Nat) (p2 : Option Addr) (c2 : Nat) : FC := ⟨s.toFF.putF n x k, fset s.nP n p, fset s.nC n c, fset s.kP n p2, fset s.kC n c2, s.rP, s.rC⟩
abbrev nodeU (k t l u : Int) : encF.U := ⟨k, t, l, 0, ByteArray.empty, u, [], none, 0, [], none, 0⟩
def nodeA (k t l u : Int) : Array Value := #[.int .i64 k, .int .i64 t, .int .i64 l, .int .i64 0, .string ⟨#[]⟩, .slice none 0 0, .slice none 0 0, .int .i64 u]
theorem encF_new (s : FC) (z k t l u : Int) (hz : 0 ≤ z ∧ z < 40) : 0 + 0 + z.toNat * 8 + 8 ≤ 321 ∧ updL (encF s) (0 + 0 + z.toNat * 8) (nodeA k t l u).toList = encF (s.setC z k t l u) :=
  encF.setL s (s.setC z k t l u) z hz _ rfl (fun j hj => by
    have e : encF.un (s.setC z k t l u) z = nodeU k t l u := by
      unfold encF.un FC.setC FF.setN
      simp only [fset_eq]
    rw [e]
    match j, hj with
    | 0, _ => rfl
    | 1, _ => rfl
    | 2, _ => rfl
    | 3, _ => rfl
    | 4, _ => rfl
    | 5, _ => rfl
    | 6, _ => rfl
    | 7, _ => rfl
    | j + 8, h => exact absurd h (by omega)) (fun y hy => by
    unfold encF.un FC.setC FF.setN
    simp only [fset_ne _ _ hy]) rfl
theorem encF_roots (s : FC) : 0 + 320 < 321 ∧ encF s (0 + 320) = .slice s.rP s.roots.length s.rC := ⟨by omega, by unfold encF; rw [if_neg (by omega), if_pos (by omega)]⟩
theorem encF_roots_st (s : FC) (l : List Int) (p : Option Addr) (c n : Nat) (hn : n = l.length) : 0 + 320 < 321 ∧ upd (encF s) (0 + 320) (.slice p n c) = encF { s with roots := l, rP := p, rC := c } := by
  subst hn
  refine ⟨by omega, ?_⟩
  funext i
  unfold upd encF
  by_cases hi : i = 0 + 320
  · rw [if_pos hi, if_neg (by omega), if_pos (by omega)]
  · rw [if_neg hi]
    by_cases c1 : i < 320
    · rw [if_pos c1, if_pos c1]; rfl
    · rw [if_neg c1, if_neg c1, if_neg (by omega), if_neg (by omega)]
theorem node_box (k t l u : Int) : ∀ i, i < 8 → cellsOf (nodeA k t l u) i = encF.cell (nodeU k t l u) i := fun i h => match i, h with
  | 0, _ => rfl
  | 1, _ => rfl
  | 2, _ => rfl
  | 3, _ => rfl
  | 4, _ => rfl
  | 5, _ => rfl
  | 6, _ => rfl
  | 7, _ => rfl
  | j + 8, h => absurd h (by omega)
theorem node_agg (k t l u : Int) : 0 + 8 ≤ 8 ∧ aggOf (encF.cell (nodeU k t l u)) 0 8 = .agg (nodeA k t l u) := ⟨by omega, rfl⟩
def arrF0 : Array Value := ((List.range 321).map (encF FC.void)).toArray
theorem arrF0_size : arrF0.size = 321 := by simp [arrF0]
theorem arrF0_box : ∀ i, i < 321 → cellsOf arrF0 i = encF FC.void i := fun i hi => by simp [cellsOf, arrF0, hi]
def FC.cutC (s : FC) (n : Int) (x : ByteArray) : FC := ⟨s.toFF.cutF n x, fset s.nP n (s.nP n), fset s.nC n (s.nC n), fset s.kP n (s.kP n), fset s.kC n (s.kC n), s.rP, s.rC⟩
theorem FF.cntN_next (s : FF) {i : Int} (h : 0 ≤ i) : s.cntN (i + 1).toNat = s.cntN i.toNat + (if 0 < s.kind i then 1 else 0) := by
  rw [show (i + 1).toNat = i.toNat + 1 by omega]
  conv => lhs; unfold FF.cntN
  rw [show ((i.toNat : Nat) : Int) = i by omega]
theorem links_of {t : FC} {X : FF} (h : t.toFF = X) (z v : Int) : ({ t with links := fset t.links z v } : FC).toFF = { X with links := fset X.links z v } := by rw [← h]
theorem held_of {t : FC} {X : FF} (h : t.toFF = X) (z v : Int) : ({ t with held := fset t.held z v } : FC).toFF = { X with held := fset X.held z v } := by rw [← h]
theorem up_of {t : FC} {X : FF} (h : t.toFF = X) (z v : Int) : ({ t with up := fset t.up z v } : FC).toFF = { X with up := fset X.up z v } := by rw [← h]
theorem XM.famVoidR {W w : World} {S : Nat → Nat → Prop} {H : List Ent} (r : Nat → RowD) (e : TypeId) (hr : ∀ i, r i = ⟨.slice none 0 0, e, 1, 0, []⟩) (h : XM W S H w) : XM W S (.fam fam40 r :: H) w := by
  have hr0 : w.ownsRow 0 e 1 (.slice none 0 0) 0 [] := (h.nilRow e 1).good.1 (.row (.slice none 0 0) e 1 0 []) (by simp)
  refine ⟨⟨fun x hx => ?_, List.pairwise_cons.2 ⟨fun x hx _ b o h1 h2 => ?_, h.good.2⟩⟩, h.keep, fun x hx hw b o hb => ?_⟩
  · rcases List.mem_cons.1 hx with rfl | hx
    · exact ⟨fun i _ => by rw [hr]; exact hr0, fun i j b _ _ _ h1 _ => by rw [hr] at h1; cases h1⟩
    · exact h.good.1 x hx
  · obtain ⟨i, _, hb⟩ := h1; rw [hr] at hb; cases hb
  · rcases List.mem_cons.1 hx with rfl | hx
    · obtain ⟨i, _, hb⟩ := hb; rw [hr] at hb; cases hb
    · exact h.mine x hx hw b o hb
theorem XM.newForest {W w : World} {S : Nat → Nat → Prop} {H : List Ent} (h : XM W S H w) : XM W S (.fam fam40 (FC.void.rowsN 9) :: .fam fam40 (FC.void.rowsK 3) :: irow none 0 3 [] :: H) w :=
  XM.famVoidR _ 9 (fun _ => rfl) (XM.famVoidR _ 3 (fun _ => rfl) (h.nilRow 3 1))
/-! ### what is told of a node -/
structure NV where
  kind : Int
  links : Int
  held : Int
  size : Int
def NV.arr (x : NV) : Array Value := #[.int .i64 x.kind, .int .i64 x.links, .int .i64 x.held, .int .i64 x.size]
def NV.zero : NV := ⟨0, 0, 0, 0⟩
def encNV (x : NV) (i : Nat) : Value := if i = 0 then .int .i64 x.kind else if i = 1 then .int .i64 x.links else if i = 2 then .int .i64 x.held else if i = 3 then .int .i64 x.size else undef
theorem encNV_box (x : NV) : ∀ i, i < 4 → cellsOf x.arr i = encNV x i := fun i h => match i, h with
  | 0, _ => rfl
  | 1, _ => rfl
  | 2, _ => rfl
  | 3, _ => rfl
  | j + 4, h => absurd h (by omega)
theorem encNV_agg (x : NV) : 0 + 4 ≤ 4 ∧ aggOf (encNV x) 0 4 = .agg x.arr := ⟨by omega, rfl⟩
theorem encNV_st (y x : NV) : 0 + 4 ≤ 4 ∧ updL (encNV y) 0 x.arr.toList = encNV x := by
  refine ⟨by omega, ?_⟩
  funext i
  match i with
  | 0 => rfl
  | 1 => rfl
  | 2 => rfl
  | 3 => rfl
  | k + 4 => simp [updL, upd, NV.arr, encNV]
theorem encNV_kind (x : NV) : 0 + 0 < 4 ∧ encNV x (0 + 0) = .int .i64 x.kind := ⟨by omega, rfl⟩
def FF.ofV (s : FF) (n : Int) : NV := if s.isE n 0 = 0 then ⟨s.kind n, s.links n, s.held n, max ((s.data n).size : Int) ((s.kids n).length : Int)⟩ else NV.zero
/-- a whole node -/
def nodeV (u : encF.U) : Array Value := #[.int .i64 u.kind, .int .i64 u.tree, .int .i64 u.links, .int .i64 u.held, .string u.data, .slice u.nP u.names.length u.nC, .slice u.kP u.kids.length u.kC, .int .i64 u.up]
theorem encF_node (s : FC) (z : Int) (h : 0 ≤ z ∧ z < 40) : 0 + 0 + z.toNat * 8 + 8 ≤ 321 ∧ aggOf (encF s) (0 + 0 + z.toNat * 8) 8 = .agg (nodeV (encF.un s z)) := by
  refine ⟨by omega, ?_⟩
  have q := encF.at_ s z h
  simp only [aggOf, List.range, List.range.loop, List.map_cons, List.map_nil]
  rw [q 0 (by omega), q 1 (by omega), q 2 (by omega), q 3 (by omega), q 4 (by omega), q 5 (by omega), q 6 (by omega), q 7 (by omega)]
  rfl
theorem nodeV_st (u0 u : encF.U) : 0 + 8 ≤ 8 ∧ updL (encF.cell u0) 0 (nodeV u).toList = encF.cell u := by
  refine ⟨by omega, ?_⟩
  funext i
  match i with
  | 0 => rfl
  | 1 => rfl
  | 2 => rfl
  | 3 => rfl
  | 4 => rfl
  | 5 => rfl
  | 6 => rfl
  | 7 => rfl
  | k + 8 =>
    have e1 : ∀ u : encF.U, encF.cell u (k + 8) = undef := fun u => by unfold encF.cell; iterate 8 rw [if_neg (by omega)]
    have e2 : updL (encF.cell u0) 0 (nodeV u).toList (k + 8) = encF.cell u0 (k + 8) := by simp [updL, upd, nodeV]
    rw [e2, e1, e1]
theorem nodeV_0 (u : encF.U) : 0 + 0 < 8 ∧ encF.cell u (0 + 0) = .int .i64 u.kind := ⟨by omega, rfl⟩
theorem nodeV_2 (u : encF.U) : 0 + 2 < 8 ∧ encF.cell u (0 + 2) = .int .i64 u.links := ⟨by omega, rfl⟩
theorem nodeV_3 (u : encF.U) : 0 + 3 < 8 ∧ encF.cell u (0 + 3) = .int .i64 u.held := ⟨by omega, rfl⟩
theorem nodeV_4 (u : encF.U) : 0 + 4 < 8 ∧ encF.cell u (0 + 4) = .string u.data := ⟨by omega, rfl⟩
theorem nodeV_6 (u : encF.U) : 0 + 6 < 8 ∧ encF.cell u (0 + 6) = .slice u.kP u.kids.length u.kC := ⟨by omega, rfl⟩
/-! ### bytes written -/
theorem ba_get (l : List UInt8) (i : Nat) (h : i < (ByteArray.mk l.toArray).size) (h2 : i < l.length) : (ByteArray.mk l.toArray)[i]'h = l[i]'h2 := rfl
theorem wrB_at (d : ByteArray) (a : Nat) (x : ByteArray) (i : Nat) (h : i < (wrB d a x).size) : (wrB d a x)[i] = if a ≤ i ∧ i < a + x.size then x.get! (i - a) else if i < d.size then d.get! i else 0 := by
  have hs := FF.wrB_size d a x
  refine (ba_get _ i h (by rw [List.length_map, List.length_range]; omega)).trans ?_
  rw [List.getElem_map, List.getElem_range]
theorem get_bv {x : ByteArray} {j : Nat} (h : j < x.size) : (x.data.toList.map bv)[j]? = some (bv (x.get! j)) := by
  rw [List.getElem?_map]
  have h2 : j < x.data.toList.length := by rw [Array.length_toList]; exact h
  rw [List.getElem?_eq_getElem h2]
  show some (bv (x.data.toList[j])) = some (bv (x.data[j]!))
  rw [Array.getElem_toList, getElem!_pos x.data j h]
theorem bv_len (x : ByteArray) : (x.data.toList.map bv).length = x.size := by rw [List.length_map, Array.length_toList]; rfl
theorem wr_cells (d : ByteArray) (a : Nat) (x : ByteArray) (i : Nat) (h : i < (wrB d a x).size) : updL (updL (fun _ => bv 0) 0 (d.data.toList.map bv)) a (x.data.toList.map bv) i = bv (wrB d a x)[i] := by
  rw [wrB_at]
  by_cases c1 : i < a
  · rw [updL_lt' _ _ _ _ c1, if_neg (by omega)]
    by_cases c2 : i < d.size
    · rw [if_pos c2]
      have := updL_at' (d.data.toList.map bv) (fun _ => bv 0) 0 i _ (get_bv c2)
      rwa [Nat.zero_add] at this
    · rw [if_neg c2, updL_ge' _ _ _ _ (by rw [bv_len]; omega)]
  · by_cases c3 : i < a + x.size
    · rw [if_pos ⟨by omega, c3⟩]
      have := updL_at' (x.data.toList.map bv) (updL (fun _ => bv 0) 0 (d.data.toList.map bv)) a (i - a) _ (get_bv (x := x) (j := i - a) (by omega))
      rwa [show a + (i - a) = i by omega] at this
    · rw [if_neg (by omega), updL_ge' _ _ _ _ (by rw [bv_len]; omega)]
      by_cases c2 : i < d.size
      · rw [if_pos c2]
        have := updL_at' (d.data.toList.map bv) (fun _ => bv 0) 0 i _ (get_bv c2)
        rwa [Nat.zero_add] at this
      · rw [if_neg c2, updL_ge' _ _ _ _ (by rw [bv_len]; omega)]

end Go.X

namespace Go.X
open Go
/-! ### the cells of the document's forest -/
abbrev nodeMU (k t l u : Int) : encM.U := ⟨k, t, l, 0, u, ByteArray.empty, [], none, 0, [], none, 0⟩
def nodeMA (k t l u : Int) : Array Value := #[.int .i64 k, .int .i64 t, .int .i64 l, .int .i64 0, .int .i64 u, .string ⟨#[]⟩, .slice none 0 0, .slice none 0 0]
theorem encM_new (s : FC) (z k t l u : Int) (hz : 0 ≤ z ∧ z < 40) : 0 + 0 + z.toNat * 8 + 8 ≤ 321 ∧ updL (encM s) (0 + 0 + z.toNat * 8) (nodeMA k t l u).toList = encM (s.setC z k t l u) :=
  encM.setL s (s.setC z k t l u) z hz _ rfl (fun j hj => by
    have e : encM.un (s.setC z k t l u) z = nodeMU k t l u := by
      unfold encM.un FC.setC FF.setN
      simp only [fset_eq]
    rw [e]
    match j, hj with
    | 0, _ => rfl
    | 1, _ => rfl
    | 2, _ => rfl
    | 3, _ => rfl
    | 4, _ => rfl
    | 5, _ => rfl
    | 6, _ => rfl
    | 7, _ => rfl
    | j + 8, h => exact absurd h (by omega)) (fun y hy => by
    unfold encM.un FC.setC FF.setN
    simp only [fset_ne _ _ hy]) rfl
theorem encM_roots (s : FC) : 0 + 320 < 321 ∧ encM s (0 + 320) = .slice s.rP s.roots.length s.rC := ⟨by omega, by unfold encM; rw [if_neg (by omega), if_pos (by omega)]⟩
theorem encM_roots_st (s : FC) (l : List Int) (p : Option Addr) (c n : Nat) (hn : n = l.length) : 0 + 320 < 321 ∧ upd (encM s) (0 + 320) (.slice p n c) = encM { s with roots := l, rP := p, rC := c } := by
  subst hn
  refine ⟨by omega, ?_⟩
  funext i
  unfold upd encM
  by_cases hi : i = 0 + 320
  · rw [if_pos hi, if_neg (by omega), if_pos (by omega)]
  · rw [if_neg hi]
    by_cases c1 : i < 320
    · rw [if_pos c1, if_pos c1]; rfl
    · rw [if_neg c1, if_neg c1, if_neg (by omega), if_neg (by omega)]
theorem nodeM_box (k t l u : Int) : ∀ i, i < 8 → cellsOf (nodeMA k t l u) i = encM.cell (nodeMU k t l u) i := fun i h => match i, h with
  | 0, _ => rfl
  | 1, _ => rfl
  | 2, _ => rfl
  | 3, _ => rfl
  | 4, _ => rfl
  | 5, _ => rfl
  | 6, _ => rfl
  | 7, _ => rfl
  | j + 8, h => absurd h (by omega)
theorem nodeM_agg (k t l u : Int) : 0 + 8 ≤ 8 ∧ aggOf (encM.cell (nodeMU k t l u)) 0 8 = .agg (nodeMA k t l u) := ⟨by omega, rfl⟩
def arrM0 : Array Value := ((List.range 321).map (encM FC.void)).toArray
theorem arrM0_size : arrM0.size = 321 := by simp [arrM0]
theorem arrM0_box : ∀ i, i < 321 → cellsOf arrM0 i = encM FC.void i := fun i hi => by simp [cellsOf, arrM0, hi]
def nodeMV (u : encM.U) : Array Value := #[.int .i64 u.kind, .int .i64 u.tree, .int .i64 u.links, .int .i64 u.held, .int .i64 u.up, .string u.data, .slice u.nP u.names.length u.nC, .slice u.kP u.kids.length u.kC]
theorem encM_node (s : FC) (z : Int) (h : 0 ≤ z ∧ z < 40) : 0 + 0 + z.toNat * 8 + 8 ≤ 321 ∧ aggOf (encM s) (0 + 0 + z.toNat * 8) 8 = .agg (nodeMV (encM.un s z)) := by
  refine ⟨by omega, ?_⟩
  have q := encM.at_ s z h
  simp only [aggOf, List.range, List.range.loop, List.map_cons, List.map_nil]
  rw [q 0 (by omega), q 1 (by omega), q 2 (by omega), q 3 (by omega), q 4 (by omega), q 5 (by omega), q 6 (by omega), q 7 (by omega)]
  rfl
theorem nodeMV_st (u0 u : encM.U) : 0 + 8 ≤ 8 ∧ updL (encM.cell u0) 0 (nodeMV u).toList = encM.cell u := by
  refine ⟨by omega, ?_⟩
  funext i
  match i with
  | 0 => rfl
  | 1 => rfl
  | 2 => rfl
  | 3 => rfl
  | 4 => rfl
  | 5 => rfl
  | 6 => rfl
  | 7 => rfl
  | k + 8 =>
    have e1 : ∀ u : encM.U, encM.cell u (k + 8) = undef := fun u => by unfold encM.cell; iterate 8 rw [if_neg (by omega)]
    have e2 : updL (encM.cell u0) 0 (nodeMV u).toList (k + 8) = encM.cell u0 (k + 8) := by simp [updL, upd, nodeMV]
    rw [e2, e1, e1]
theorem nodeMV_0 (u : encM.U) : 0 + 0 < 8 ∧ encM.cell u (0 + 0) = .int .i64 u.kind := ⟨by omega, rfl⟩
theorem nodeMV_2 (u : encM.U) : 0 + 2 < 8 ∧ encM.cell u (0 + 2) = .int .i64 u.links := ⟨by omega, rfl⟩
theorem nodeMV_3 (u : encM.U) : 0 + 3 < 8 ∧ encM.cell u (0 + 3) = .int .i64 u.held := ⟨by omega, rfl⟩
theorem nodeMV_5 (u : encM.U) : 0 + 5 < 8 ∧ encM.cell u (0 + 5) = .string u.data := ⟨by omega, rfl⟩
theorem nodeMV_6 (u : encM.U) : 0 + 6 < 8 ∧ encM.cell u (0 + 6) = .slice u.nP u.names.length u.nC := ⟨by omega, rfl⟩
def FF.ofR (s : FF) (n : Int) : NV := if s.isE n 0 = 0 then ⟨s.kind n, s.links n, s.held n, if s.kind n = 2 then ((s.names n).length : Int) else ((s.data n).size : Int)⟩ else NV.zero
theorem ints_of_strs {l : List ByteArray} (x : ByteArray) : strs l ++ newsOf (cellsOf #[.string x]) 1 = strs (l ++ [x]) := by simp [strs, newsOf, cellsOf, List.range, List.range.loop]
section
variable {P : Program} {n : Fr} {Q : Exit → Act → World → Prop} {L : PF} {ops : Array Oper} {rest : List Oper} {ty : TypeId} {pos : String} {af : Array Edge} {d : Nat} {W : World} {S : Nat → Nat → Prop} {H H' : List Ent}
theorem XO.appendS {t e : TypeId} {x y : Operand} {p : Option Addr} {cap c b : Nat} {zs : List ByteArray} {z : ByteArray} (hx : ev L x = some (.slice p zs.length cap)) (hy : ev L y = some (.slice (some ⟨b, 0, none⟩) 1 c))
    (ht : P.underlying t = some (.slice e)) (hr : rowT P e 1 = true) (hH : Del H (srow p cap e zs) H') (hN : Has H (.cells b 0 1 (cellsOf #[.string z]))) (hk : zs.length + 1 ≤ 100000000000) (hd : Nat.blt d n.sz = true)
    (h : ∀ p' cap', XO P n ops Q rest ((d, .slice p' (zs ++ [z]).length cap') :: L) (XM W S (srow p' cap' e (zs ++ [z]) :: H'))) :
    XO P n ops Q (⟨some d, .call ⟨.builtin .append, #[x, y], #[t, t]⟩, ty, pos, af, none⟩ :: rest) L (XM W S H) :=
  XO.append hx hy ht hr hH hN rfl rfl (by omega) hk hd (fun p' cap' => by
    have e1 : zs.length + 1 = (zs ++ [z]).length := by simp
    rw [e1, ints_of_strs]
    exact h p' cap')
end
/-! ### bytes with noughts behind -/
def padB (d : ByteArray) : Nat → ByteArray
  | 0 => d
  | k + 1 => padB d k ++ ⟨#[0]⟩
theorem padB_size (d : ByteArray) : ∀ k, (padB d k).size = d.size + k
  | 0 => rfl
  | k + 1 => by unfold padB; rw [ByteArray.size_append, padB_size d k]; rfl
theorem get_at {x : ByteArray} {i : Nat} (h : i < x.size) : x.get! i = x[i] := by
  show x.data[i]! = x.data[i]
  exact getElem!_pos x.data i h
theorem padB_at (d : ByteArray) : ∀ (k i : Nat) (h : i < (padB d k).size), (padB d k)[i] = if i < d.size then d.get! i else 0
  | 0, i, h => by
    have h2 : i < d.size := h
    rw [if_pos h2, get_at h2]; rfl
  | k + 1, i, h => by
    have h2 := padB_size d k
    have h3 := padB_size d (k + 1)
    by_cases c : i < (padB d k).size
    · have e := ByteArray.getElem_append_left (a := padB d k) (b := ⟨#[0]⟩) (h := h) c
      show (padB d k ++ ⟨#[0]⟩)[i] = _
      rw [e, padB_at d k i c]
    · have e := ByteArray.getElem_append_right (a := padB d k) (b := ⟨#[0]⟩) (h := h) (by omega)
      show (padB d k ++ ⟨#[0]⟩)[i] = _
      rw [e, if_neg (by omega)]
      have : i - (padB d k).size = 0 := by omega
      simp only [this]
      rfl
theorem one0 : (⟨#[0]⟩ : ByteArray).size ≤ 1 ∧ ∀ (i : Nat) (h : i < (⟨#[0]⟩ : ByteArray).size), cellsOf #[.int .u8 0] i = bv (⟨#[0]⟩ : ByteArray)[i] := ⟨Nat.le_refl _, fun i h => by
  have h2 : i < 1 := h
  obtain rfl : i = 0 := by omega
  rfl⟩
theorem wr_ref2 (d x : ByteArray) (a j : Nat) (h1 : a ≤ d.size + j) (h2 : j = 0 ∨ d.size + j ≤ a) (h3 : 0 < x.size) (h4 : d.size + j ≤ a + x.size) : (padB d j).extract 0 a ++ x ++ ⟨#[]⟩ = wrB d a x := by
  have hp := padB_size d j
  have hw := FF.wrB_size d a x
  have he : ((padB d j).extract 0 a).size = a := by rw [ByteArray.size_extract]; omega
  rw [append_nil]
  refine ByteArray.ext_getElem (by rw [ByteArray.size_append, he, hw]; omega) (fun i hi hi2 => ?_)
  rw [wrB_at]
  by_cases c : i < a
  · rw [ByteArray.getElem_append_left (by rw [he]; exact c), ByteArray.getElem_extract, if_neg (by omega)]
    have := padB_at d j (0 + i) (by omega)
    rw [this]
    simp only [Nat.zero_add]
  · rw [ByteArray.size_append, he] at hi
    rw [ByteArray.getElem_append_right (by rw [he]; omega), if_pos (by omega), get_at (by omega)]
    simp only [he]
theorem wr_ref1 (d x : ByteArray) (a j : Nat) (z : Int) (hz : z.toNat = a + x.size) (h1 : a ≤ d.size + j) (h2 : j = 0 ∨ d.size + j ≤ a) (h4 : a + x.size < d.size + j) : (padB d j).extract 0 a ++ x ++ (padB d j).extract z.toNat (padB d j).size = wrB d a x := by
  have hj : j = 0 := by omega
  subst hj
  show d.extract 0 a ++ x ++ d.extract z.toNat d.size = wrB d a x
  rw [hz]
  have hw := FF.wrB_size d a x
  have he : (d.extract 0 a).size = a := by rw [ByteArray.size_extract]; omega
  have hex : (d.extract 0 a ++ x).size = a + x.size := by rw [ByteArray.size_append, he]
  have her : (d.extract (a + x.size) d.size).size = d.size - (a + x.size) := by rw [ByteArray.size_extract]; omega
  refine ByteArray.ext_getElem (by rw [ByteArray.size_append, hex, her, hw]; omega) (fun i hi hi2 => ?_)
  rw [wrB_at]
  rw [ByteArray.size_append, hex, her] at hi
  by_cases c : i < a + x.size
  · rw [ByteArray.getElem_append_left (by rw [hex]; exact c)]
    by_cases c2 : i < a
    · rw [ByteArray.getElem_append_left (by rw [he]; exact c2), ByteArray.getElem_extract, if_neg (by omega), if_pos (by omega), get_at (by omega)]
      simp only [Nat.zero_add]
    · rw [ByteArray.getElem_append_right (by rw [he]; omega), if_pos (by omega), get_at (by omega)]
      simp only [he]
  · rw [ByteArray.getElem_append_right (by rw [hex]; omega), ByteArray.getElem_extract, if_neg (by omega), if_pos (by omega), get_at (by omega)]
    simp only [hex, show a + x.size + (i - (a + x.size)) = i by omega]

end Go.X
