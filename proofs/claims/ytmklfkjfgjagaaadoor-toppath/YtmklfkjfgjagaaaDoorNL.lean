import Derived.Test.YtmklfkjfgjagaaaDoorNM
namespace Go.X
open Go
theorem updL_lt' (C : Nat → Value) : ∀ (vs : List Value) (i j : Nat), j < i → updL C i vs j = C j
  | [], _, _, _ => rfl
  | v :: r, i, j, h => by
    unfold updL
    rw [updL_lt' (upd C i v) r (i + 1) j (by omega)]
    simp [upd]; omega
theorem updL_at' : ∀ (vs : List Value) (C : Nat → Value) (i j : Nat) (v : Value), vs[j]? = some v → updL C i vs (i + j) = v
  | [], _, _, _, _, h => by simp at h
  | u :: r, C, i, 0, v, h => by
    have h2 : u = v := by simpa using h
    unfold updL
    rw [updL_lt' _ _ _ _ (by omega), ← h2]
    simp [upd]
  | u :: r, C, i, j + 1, v, h => by
    unfold updL
    have := updL_at' r (upd C i u) (i + 1) j v (by simpa using h)
    rw [show i + 1 + j = i + (j + 1) from by omega] at this
    exact this
theorem updL_ge' : ∀ (vs : List Value) (C : Nat → Value) (i j : Nat), i + vs.length ≤ j → updL C i vs j = C j
  | [], _, _, _, _ => rfl
  | v :: r, C, i, j, h => by
    simp only [List.length_cons] at h
    unfold updL
    rw [updL_ge' r (upd C i v) (i + 1) j (by omega)]
    simp [upd]; omega
structure encF.U where
  kind : Int
  tree : Int
  links : Int
  held : Int
  data : ByteArray
  up : Int
  names : List ByteArray
  nP : Option Addr
  nC : Nat
  kids : List Int
  kP : Option Addr
  kC : Nat

def encF.un (s : FC) (z : Int) : encF.U := ⟨s.kind z, s.tree z, s.links z, s.held z, s.data z, s.up z, s.names z, s.nP z, s.nC z, s.kids z, s.kP z, s.kC z⟩
def encF.cell (u : encF.U) (j : Nat) : Value :=
  if j = 0 then .int .i64 u.kind else
  if j = 1 then .int .i64 u.tree else
  if j = 2 then .int .i64 u.links else
  if j = 3 then .int .i64 u.held else
  if j = 4 then .string u.data else
  if 5 ≤ j ∧ j < 6 then .slice u.nP u.names.length u.nC else
  if 6 ≤ j ∧ j < 7 then .slice u.kP u.kids.length u.kC else
  if j = 7 then .int .i64 u.up else
  undef
def encF (s : FC) (i : Nat) : Value :=
  if i < 320 then encF.cell (encF.un s ((i / 8 : Nat) : Int)) (i % 8) else
  if i = 320 then Value.slice s.rP s.roots.length s.rC else
  undef
theorem encF.at_ (s : FC) (z : Int) (h : 0 ≤ z ∧ z < 40) (j : Nat) (hj : j < 8) : encF s (0 + 0 + z.toNat * 8 + j) = encF.cell (encF.un s z) j := by
  unfold encF
  rw [if_pos (by omega), show (((0 + 0 + z.toNat * 8 + j) / 8 : Nat) : Int) = z from by omega, show (0 + 0 + z.toNat * 8 + j) % 8 = j from by omega]
theorem encF.set (s s' : FC) (z : Int) (h : 0 ≤ z ∧ z < 40) (k : Nat) (hk : k < 8) (v : Value) (hv : ∀ j, encF.cell (encF.un s' z) j = if j = k then v else encF.cell (encF.un s z) j) (ho : ∀ y, ¬ y = z → encF.un s' y = encF.un s y) (hn : Value.slice s'.rP s'.roots.length s'.rC = Value.slice s.rP s.roots.length s.rC) : 0 + 0 + z.toNat * 8 + k < 321 ∧ upd (encF s) (0 + 0 + z.toNat * 8 + k) v = encF s' := by
  refine ⟨by omega, ?_⟩
  funext i
  unfold upd
  by_cases hi : i = 0 + 0 + z.toNat * 8 + k
  · rw [if_pos hi, hi, encF.at_ s' z h k hk, hv, if_pos rfl]
  · rw [if_neg hi]
    unfold encF
    by_cases c1 : i < 320
    · rw [if_pos c1, if_pos c1]
      by_cases cz : ((i / 8 : Nat) : Int) = z
      · rw [cz, hv, if_neg (by omega)]
      · rw [ho _ cz]
    · rw [if_neg c1, if_neg c1, hn]
theorem encF.setL (s s' : FC) (z : Int) (h : 0 ≤ z ∧ z < 40) (vs : List Value) (hl : vs.length = 8) (hv : ∀ j, j < 8 → vs[j]? = some (encF.cell (encF.un s' z) j)) (ho : ∀ y, ¬ y = z → encF.un s' y = encF.un s y) (hn : Value.slice s'.rP s'.roots.length s'.rC = Value.slice s.rP s.roots.length s.rC) : 0 + 0 + z.toNat * 8 + 8 ≤ 321 ∧ updL (encF s) (0 + 0 + z.toNat * 8) vs = encF s' := by
  refine ⟨by omega, ?_⟩
  funext i
  by_cases a1 : i < 0 + 0 + z.toNat * 8
  · rw [updL_lt' _ _ _ _ a1]
    unfold encF
    rw [if_pos (by omega), if_pos (by omega), ho _ (by omega)]
  · by_cases a2 : i < 0 + 0 + z.toNat * 8 + 8
    · obtain ⟨j, rfl⟩ : ∃ j, i = 0 + 0 + z.toNat * 8 + j := ⟨i - (0 + 0 + z.toNat * 8), by omega⟩
      rw [encF.at_ s' z h j (by omega)]
      exact updL_at' vs _ _ _ _ (hv j (by omega))
    · rw [updL_ge' _ _ _ _ (by omega)]
      unfold encF
      by_cases c1 : i < 320
      · rw [if_pos c1, if_pos c1, ho _ (by omega)]
      · rw [if_neg c1, if_neg c1, hn]
theorem encF.ld_n_kind (s : FC) (z : Int) (h : 0 ≤ z ∧ z < 40) : 0 + 0 + z.toNat * 8 + 0 < 321 ∧ encF s (0 + 0 + z.toNat * 8 + 0) = .int .i64 (s.kind z) := ⟨by omega, encF.at_ s z h 0 (by omega)⟩
theorem encF.st_n_kind (s : FC) (z : Int) (h : 0 ≤ z ∧ z < 40) (v : Int) : 0 + 0 + z.toNat * 8 + 0 < 321 ∧ upd (encF s) (0 + 0 + z.toNat * 8 + 0) (.int .i64 v) = encF { s with kind := fset s.kind z v } := encF.set s { s with kind := fset s.kind z v } z h 0 (by omega) _ (fun j => by
  have e : encF.un { s with kind := fset s.kind z v } z = { encF.un s z with kind := v } := by unfold encF.un; simp only [fset_eq]
  rw [e]
  by_cases hj : j = 0
  · subst hj; rfl
  · unfold encF.cell; simp only [if_neg hj]) (fun y hy => by unfold encF.un; simp only [fset_ne _ _ hy]) rfl
theorem encF.ld_n_tree (s : FC) (z : Int) (h : 0 ≤ z ∧ z < 40) : 0 + 0 + z.toNat * 8 + 1 < 321 ∧ encF s (0 + 0 + z.toNat * 8 + 1) = .int .i64 (s.tree z) := ⟨by omega, encF.at_ s z h 1 (by omega)⟩
theorem encF.st_n_tree (s : FC) (z : Int) (h : 0 ≤ z ∧ z < 40) (v : Int) : 0 + 0 + z.toNat * 8 + 1 < 321 ∧ upd (encF s) (0 + 0 + z.toNat * 8 + 1) (.int .i64 v) = encF { s with tree := fset s.tree z v } := encF.set s { s with tree := fset s.tree z v } z h 1 (by omega) _ (fun j => by
  have e : encF.un { s with tree := fset s.tree z v } z = { encF.un s z with tree := v } := by unfold encF.un; simp only [fset_eq]
  rw [e]
  by_cases hj : j = 1
  · subst hj; rfl
  · unfold encF.cell; simp only [if_neg hj]) (fun y hy => by unfold encF.un; simp only [fset_ne _ _ hy]) rfl
theorem encF.ld_n_links (s : FC) (z : Int) (h : 0 ≤ z ∧ z < 40) : 0 + 0 + z.toNat * 8 + 2 < 321 ∧ encF s (0 + 0 + z.toNat * 8 + 2) = .int .i64 (s.links z) := ⟨by omega, encF.at_ s z h 2 (by omega)⟩
theorem encF.st_n_links (s : FC) (z : Int) (h : 0 ≤ z ∧ z < 40) (v : Int) : 0 + 0 + z.toNat * 8 + 2 < 321 ∧ upd (encF s) (0 + 0 + z.toNat * 8 + 2) (.int .i64 v) = encF { s with links := fset s.links z v } := encF.set s { s with links := fset s.links z v } z h 2 (by omega) _ (fun j => by
  have e : encF.un { s with links := fset s.links z v } z = { encF.un s z with links := v } := by unfold encF.un; simp only [fset_eq]
  rw [e]
  by_cases hj : j = 2
  · subst hj; rfl
  · unfold encF.cell; simp only [if_neg hj]) (fun y hy => by unfold encF.un; simp only [fset_ne _ _ hy]) rfl
theorem encF.ld_n_held (s : FC) (z : Int) (h : 0 ≤ z ∧ z < 40) : 0 + 0 + z.toNat * 8 + 3 < 321 ∧ encF s (0 + 0 + z.toNat * 8 + 3) = .int .i64 (s.held z) := ⟨by omega, encF.at_ s z h 3 (by omega)⟩
theorem encF.st_n_held (s : FC) (z : Int) (h : 0 ≤ z ∧ z < 40) (v : Int) : 0 + 0 + z.toNat * 8 + 3 < 321 ∧ upd (encF s) (0 + 0 + z.toNat * 8 + 3) (.int .i64 v) = encF { s with held := fset s.held z v } := encF.set s { s with held := fset s.held z v } z h 3 (by omega) _ (fun j => by
  have e : encF.un { s with held := fset s.held z v } z = { encF.un s z with held := v } := by unfold encF.un; simp only [fset_eq]
  rw [e]
  by_cases hj : j = 3
  · subst hj; rfl
  · unfold encF.cell; simp only [if_neg hj]) (fun y hy => by unfold encF.un; simp only [fset_ne _ _ hy]) rfl
theorem encF.ld_n_data (s : FC) (z : Int) (h : 0 ≤ z ∧ z < 40) : 0 + 0 + z.toNat * 8 + 4 < 321 ∧ encF s (0 + 0 + z.toNat * 8 + 4) = .string (s.data z) := ⟨by omega, encF.at_ s z h 4 (by omega)⟩
theorem encF.st_n_data (s : FC) (z : Int) (h : 0 ≤ z ∧ z < 40) (v : ByteArray) : 0 + 0 + z.toNat * 8 + 4 < 321 ∧ upd (encF s) (0 + 0 + z.toNat * 8 + 4) (.string v) = encF { s with data := fset s.data z v } := encF.set s { s with data := fset s.data z v } z h 4 (by omega) _ (fun j => by
  have e : encF.un { s with data := fset s.data z v } z = { encF.un s z with data := v } := by unfold encF.un; simp only [fset_eq]
  rw [e]
  by_cases hj : j = 4
  · subst hj; rfl
  · unfold encF.cell; simp only [if_neg hj]) (fun y hy => by unfold encF.un; simp only [fset_ne _ _ hy]) rfl
theorem encF.ld_n_up (s : FC) (z : Int) (h : 0 ≤ z ∧ z < 40) : 0 + 0 + z.toNat * 8 + 7 < 321 ∧ encF s (0 + 0 + z.toNat * 8 + 7) = .int .i64 (s.up z) := ⟨by omega, encF.at_ s z h 7 (by omega)⟩
theorem encF.st_n_up (s : FC) (z : Int) (h : 0 ≤ z ∧ z < 40) (v : Int) : 0 + 0 + z.toNat * 8 + 7 < 321 ∧ upd (encF s) (0 + 0 + z.toNat * 8 + 7) (.int .i64 v) = encF { s with up := fset s.up z v } := encF.set s { s with up := fset s.up z v } z h 7 (by omega) _ (fun j => by
  have e : encF.un { s with up := fset s.up z v } z = { encF.un s z with up := v } := by unfold encF.un; simp only [fset_eq]
  rw [e]
  by_cases hj : j = 7
  · subst hj; rfl
  · unfold encF.cell; simp only [if_neg hj]) (fun y hy => by unfold encF.un; simp only [fset_ne _ _ hy]) rfl
theorem encF.ld_n_names (s : FC) (z : Int) (h : 0 ≤ z ∧ z < 40) : 0 + 0 + z.toNat * 8 + 5 < 321 ∧ encF s (0 + 0 + z.toNat * 8 + 5) = .slice (s.nP z) (s.names z).length (s.nC z) := ⟨by omega, encF.at_ s z h 5 (by omega)⟩
theorem encF.st_n_names (s : FC) (z : Int) (h : 0 ≤ z ∧ z < 40) (x : List ByteArray) (p : Option Addr) (c n : Nat) (hx : n = x.length) : 0 + 0 + z.toNat * 8 + 5 < 321 ∧ upd (encF s) (0 + 0 + z.toNat * 8 + 5) (.slice p n c) = encF { s with names := fset s.names z x, nP := fset s.nP z p, nC := fset s.nC z c } := by
  subst hx
  exact encF.set s { s with names := fset s.names z x, nP := fset s.nP z p, nC := fset s.nC z c } z h 5 (by omega) _ (fun j => by
  have e : encF.un { s with names := fset s.names z x, nP := fset s.nP z p, nC := fset s.nC z c } z = { encF.un s z with names := x, nP := p, nC := c } := by unfold encF.un; simp only [fset_eq]
  rw [e]
  by_cases hj : j = 5
  · subst hj; rfl
  · unfold encF.cell
    simp only [show ¬ (5 ≤ j ∧ j < 6) from by omega, hj, if_false]) (fun y hy => by unfold encF.un; simp only [fset_ne _ _ hy]) rfl
theorem encF.ld_n_kids (s : FC) (z : Int) (h : 0 ≤ z ∧ z < 40) : 0 + 0 + z.toNat * 8 + 6 < 321 ∧ encF s (0 + 0 + z.toNat * 8 + 6) = .slice (s.kP z) (s.kids z).length (s.kC z) := ⟨by omega, encF.at_ s z h 6 (by omega)⟩
theorem encF.st_n_kids (s : FC) (z : Int) (h : 0 ≤ z ∧ z < 40) (x : List Int) (p : Option Addr) (c n : Nat) (hx : n = x.length) : 0 + 0 + z.toNat * 8 + 6 < 321 ∧ upd (encF s) (0 + 0 + z.toNat * 8 + 6) (.slice p n c) = encF { s with kids := fset s.kids z x, kP := fset s.kP z p, kC := fset s.kC z c } := by
  subst hx
  exact encF.set s { s with kids := fset s.kids z x, kP := fset s.kP z p, kC := fset s.kC z c } z h 6 (by omega) _ (fun j => by
  have e : encF.un { s with kids := fset s.kids z x, kP := fset s.kP z p, kC := fset s.kC z c } z = { encF.un s z with kids := x, kP := p, kC := c } := by unfold encF.un; simp only [fset_eq]
  rw [e]
  by_cases hj : j = 6
  · subst hj; rfl
  · unfold encF.cell
    simp only [show ¬ (6 ≤ j ∧ j < 7) from by omega, hj, if_false]) (fun y hy => by unfold encF.un; simp only [fset_ne _ _ hy]) rfl
structure encM.U where
  kind : Int
  tree : Int
  links : Int
  held : Int
  up : Int
  data : ByteArray
  names : List ByteArray
  nP : Option Addr
  nC : Nat
  kids : List Int
  kP : Option Addr
  kC : Nat

def encM.un (s : FC) (z : Int) : encM.U := ⟨s.kind z, s.tree z, s.links z, s.held z, s.up z, s.data z, s.names z, s.nP z, s.nC z, s.kids z, s.kP z, s.kC z⟩
def encM.cell (u : encM.U) (j : Nat) : Value :=
  if j = 0 then .int .i64 u.kind else
  if j = 1 then .int .i64 u.tree else
  if j = 2 then .int .i64 u.links else
  if j = 3 then .int .i64 u.held else
  if j = 4 then .int .i64 u.up else
  if j = 5 then .string u.data else
  if 6 ≤ j ∧ j < 7 then .slice u.nP u.names.length u.nC else
  if 7 ≤ j ∧ j < 8 then .slice u.kP u.kids.length u.kC else
  undef
def encM (s : FC) (i : Nat) : Value :=
  if i < 320 then encM.cell (encM.un s ((i / 8 : Nat) : Int)) (i % 8) else
  if i = 320 then Value.slice s.rP s.roots.length s.rC else
  undef
theorem encM.at_ (s : FC) (z : Int) (h : 0 ≤ z ∧ z < 40) (j : Nat) (hj : j < 8) : encM s (0 + 0 + z.toNat * 8 + j) = encM.cell (encM.un s z) j := by
  unfold encM
  rw [if_pos (by omega), show (((0 + 0 + z.toNat * 8 + j) / 8 : Nat) : Int) = z from by omega, show (0 + 0 + z.toNat * 8 + j) % 8 = j from by omega]
theorem encM.set (s s' : FC) (z : Int) (h : 0 ≤ z ∧ z < 40) (k : Nat) (hk : k < 8) (v : Value) (hv : ∀ j, encM.cell (encM.un s' z) j = if j = k then v else encM.cell (encM.un s z) j) (ho : ∀ y, ¬ y = z → encM.un s' y = encM.un s y) (hn : Value.slice s'.rP s'.roots.length s'.rC = Value.slice s.rP s.roots.length s.rC) : 0 + 0 + z.toNat * 8 + k < 321 ∧ upd (encM s) (0 + 0 + z.toNat * 8 + k) v = encM s' := by
  refine ⟨by omega, ?_⟩
  funext i
  unfold upd
  by_cases hi : i = 0 + 0 + z.toNat * 8 + k
  · rw [if_pos hi, hi, encM.at_ s' z h k hk, hv, if_pos rfl]
  · rw [if_neg hi]
    unfold encM
    by_cases c1 : i < 320
    · rw [if_pos c1, if_pos c1]
      by_cases cz : ((i / 8 : Nat) : Int) = z
      · rw [cz, hv, if_neg (by omega)]
      · rw [ho _ cz]
    · rw [if_neg c1, if_neg c1, hn]
theorem encM.setL (s s' : FC) (z : Int) (h : 0 ≤ z ∧ z < 40) (vs : List Value) (hl : vs.length = 8) (hv : ∀ j, j < 8 → vs[j]? = some (encM.cell (encM.un s' z) j)) (ho : ∀ y, ¬ y = z → encM.un s' y = encM.un s y) (hn : Value.slice s'.rP s'.roots.length s'.rC = Value.slice s.rP s.roots.length s.rC) : 0 + 0 + z.toNat * 8 + 8 ≤ 321 ∧ updL (encM s) (0 + 0 + z.toNat * 8) vs = encM s' := by
  refine ⟨by omega, ?_⟩
  funext i
  by_cases a1 : i < 0 + 0 + z.toNat * 8
  · rw [updL_lt' _ _ _ _ a1]
    unfold encM
    rw [if_pos (by omega), if_pos (by omega), ho _ (by omega)]
  · by_cases a2 : i < 0 + 0 + z.toNat * 8 + 8
    · obtain ⟨j, rfl⟩ : ∃ j, i = 0 + 0 + z.toNat * 8 + j := ⟨i - (0 + 0 + z.toNat * 8), by omega⟩
      rw [encM.at_ s' z h j (by omega)]
      exact updL_at' vs _ _ _ _ (hv j (by omega))
    · rw [updL_ge' _ _ _ _ (by omega)]
      unfold encM
      by_cases c1 : i < 320
      · rw [if_pos c1, if_pos c1, ho _ (by omega)]
      · rw [if_neg c1, if_neg c1, hn]
theorem encM.ld_N_Kind (s : FC) (z : Int) (h : 0 ≤ z ∧ z < 40) : 0 + 0 + z.toNat * 8 + 0 < 321 ∧ encM s (0 + 0 + z.toNat * 8 + 0) = .int .i64 (s.kind z) := ⟨by omega, encM.at_ s z h 0 (by omega)⟩
theorem encM.st_N_Kind (s : FC) (z : Int) (h : 0 ≤ z ∧ z < 40) (v : Int) : 0 + 0 + z.toNat * 8 + 0 < 321 ∧ upd (encM s) (0 + 0 + z.toNat * 8 + 0) (.int .i64 v) = encM { s with kind := fset s.kind z v } := encM.set s { s with kind := fset s.kind z v } z h 0 (by omega) _ (fun j => by
  have e : encM.un { s with kind := fset s.kind z v } z = { encM.un s z with kind := v } := by unfold encM.un; simp only [fset_eq]
  rw [e]
  by_cases hj : j = 0
  · subst hj; rfl
  · unfold encM.cell; simp only [if_neg hj]) (fun y hy => by unfold encM.un; simp only [fset_ne _ _ hy]) rfl
theorem encM.ld_N_Tree (s : FC) (z : Int) (h : 0 ≤ z ∧ z < 40) : 0 + 0 + z.toNat * 8 + 1 < 321 ∧ encM s (0 + 0 + z.toNat * 8 + 1) = .int .i64 (s.tree z) := ⟨by omega, encM.at_ s z h 1 (by omega)⟩
theorem encM.st_N_Tree (s : FC) (z : Int) (h : 0 ≤ z ∧ z < 40) (v : Int) : 0 + 0 + z.toNat * 8 + 1 < 321 ∧ upd (encM s) (0 + 0 + z.toNat * 8 + 1) (.int .i64 v) = encM { s with tree := fset s.tree z v } := encM.set s { s with tree := fset s.tree z v } z h 1 (by omega) _ (fun j => by
  have e : encM.un { s with tree := fset s.tree z v } z = { encM.un s z with tree := v } := by unfold encM.un; simp only [fset_eq]
  rw [e]
  by_cases hj : j = 1
  · subst hj; rfl
  · unfold encM.cell; simp only [if_neg hj]) (fun y hy => by unfold encM.un; simp only [fset_ne _ _ hy]) rfl
theorem encM.ld_N_Links (s : FC) (z : Int) (h : 0 ≤ z ∧ z < 40) : 0 + 0 + z.toNat * 8 + 2 < 321 ∧ encM s (0 + 0 + z.toNat * 8 + 2) = .int .i64 (s.links z) := ⟨by omega, encM.at_ s z h 2 (by omega)⟩
theorem encM.st_N_Links (s : FC) (z : Int) (h : 0 ≤ z ∧ z < 40) (v : Int) : 0 + 0 + z.toNat * 8 + 2 < 321 ∧ upd (encM s) (0 + 0 + z.toNat * 8 + 2) (.int .i64 v) = encM { s with links := fset s.links z v } := encM.set s { s with links := fset s.links z v } z h 2 (by omega) _ (fun j => by
  have e : encM.un { s with links := fset s.links z v } z = { encM.un s z with links := v } := by unfold encM.un; simp only [fset_eq]
  rw [e]
  by_cases hj : j = 2
  · subst hj; rfl
  · unfold encM.cell; simp only [if_neg hj]) (fun y hy => by unfold encM.un; simp only [fset_ne _ _ hy]) rfl
theorem encM.ld_N_Held (s : FC) (z : Int) (h : 0 ≤ z ∧ z < 40) : 0 + 0 + z.toNat * 8 + 3 < 321 ∧ encM s (0 + 0 + z.toNat * 8 + 3) = .int .i64 (s.held z) := ⟨by omega, encM.at_ s z h 3 (by omega)⟩
theorem encM.st_N_Held (s : FC) (z : Int) (h : 0 ≤ z ∧ z < 40) (v : Int) : 0 + 0 + z.toNat * 8 + 3 < 321 ∧ upd (encM s) (0 + 0 + z.toNat * 8 + 3) (.int .i64 v) = encM { s with held := fset s.held z v } := encM.set s { s with held := fset s.held z v } z h 3 (by omega) _ (fun j => by
  have e : encM.un { s with held := fset s.held z v } z = { encM.un s z with held := v } := by unfold encM.un; simp only [fset_eq]
  rw [e]
  by_cases hj : j = 3
  · subst hj; rfl
  · unfold encM.cell; simp only [if_neg hj]) (fun y hy => by unfold encM.un; simp only [fset_ne _ _ hy]) rfl
theorem encM.ld_N_Up (s : FC) (z : Int) (h : 0 ≤ z ∧ z < 40) : 0 + 0 + z.toNat * 8 + 4 < 321 ∧ encM s (0 + 0 + z.toNat * 8 + 4) = .int .i64 (s.up z) := ⟨by omega, encM.at_ s z h 4 (by omega)⟩
theorem encM.st_N_Up (s : FC) (z : Int) (h : 0 ≤ z ∧ z < 40) (v : Int) : 0 + 0 + z.toNat * 8 + 4 < 321 ∧ upd (encM s) (0 + 0 + z.toNat * 8 + 4) (.int .i64 v) = encM { s with up := fset s.up z v } := encM.set s { s with up := fset s.up z v } z h 4 (by omega) _ (fun j => by
  have e : encM.un { s with up := fset s.up z v } z = { encM.un s z with up := v } := by unfold encM.un; simp only [fset_eq]
  rw [e]
  by_cases hj : j = 4
  · subst hj; rfl
  · unfold encM.cell; simp only [if_neg hj]) (fun y hy => by unfold encM.un; simp only [fset_ne _ _ hy]) rfl
theorem encM.ld_N_Data (s : FC) (z : Int) (h : 0 ≤ z ∧ z < 40) : 0 + 0 + z.toNat * 8 + 5 < 321 ∧ encM s (0 + 0 + z.toNat * 8 + 5) = .string (s.data z) := ⟨by omega, encM.at_ s z h 5 (by omega)⟩
theorem encM.st_N_Data (s : FC) (z : Int) (h : 0 ≤ z ∧ z < 40) (v : ByteArray) : 0 + 0 + z.toNat * 8 + 5 < 321 ∧ upd (encM s) (0 + 0 + z.toNat * 8 + 5) (.string v) = encM { s with data := fset s.data z v } := encM.set s { s with data := fset s.data z v } z h 5 (by omega) _ (fun j => by
  have e : encM.un { s with data := fset s.data z v } z = { encM.un s z with data := v } := by unfold encM.un; simp only [fset_eq]
  rw [e]
  by_cases hj : j = 5
  · subst hj; rfl
  · unfold encM.cell; simp only [if_neg hj]) (fun y hy => by unfold encM.un; simp only [fset_ne _ _ hy]) rfl
theorem encM.ld_N_Names (s : FC) (z : Int) (h : 0 ≤ z ∧ z < 40) : 0 + 0 + z.toNat * 8 + 6 < 321 ∧ encM s (0 + 0 + z.toNat * 8 + 6) = .slice (s.nP z) (s.names z).length (s.nC z) := ⟨by omega, encM.at_ s z h 6 (by omega)⟩
theorem encM.st_N_Names (s : FC) (z : Int) (h : 0 ≤ z ∧ z < 40) (x : List ByteArray) (p : Option Addr) (c n : Nat) (hx : n = x.length) : 0 + 0 + z.toNat * 8 + 6 < 321 ∧ upd (encM s) (0 + 0 + z.toNat * 8 + 6) (.slice p n c) = encM { s with names := fset s.names z x, nP := fset s.nP z p, nC := fset s.nC z c } := by
  subst hx
  exact encM.set s { s with names := fset s.names z x, nP := fset s.nP z p, nC := fset s.nC z c } z h 6 (by omega) _ (fun j => by
  have e : encM.un { s with names := fset s.names z x, nP := fset s.nP z p, nC := fset s.nC z c } z = { encM.un s z with names := x, nP := p, nC := c } := by unfold encM.un; simp only [fset_eq]
  rw [e]
  by_cases hj : j = 6
  · subst hj; rfl
  · unfold encM.cell
    simp only [show ¬ (6 ≤ j ∧ j < 7) from by omega, hj, if_false]) (fun y hy => by unfold encM.un; simp only [fset_ne _ _ hy]) rfl
theorem encM.ld_N_Kids (s : FC) (z : Int) (h : 0 ≤ z ∧ z < 40) : 0 + 0 + z.toNat * 8 + 7 < 321 ∧ encM s (0 + 0 + z.toNat * 8 + 7) = .slice (s.kP z) (s.kids z).length (s.kC z) := ⟨by omega, encM.at_ s z h 7 (by omega)⟩
theorem encM.st_N_Kids (s : FC) (z : Int) (h : 0 ≤ z ∧ z < 40) (x : List Int) (p : Option Addr) (c n : Nat) (hx : n = x.length) : 0 + 0 + z.toNat * 8 + 7 < 321 ∧ upd (encM s) (0 + 0 + z.toNat * 8 + 7) (.slice p n c) = encM { s with kids := fset s.kids z x, kP := fset s.kP z p, kC := fset s.kC z c } := by
  subst hx
  exact encM.set s { s with kids := fset s.kids z x, kP := fset s.kP z p, kC := fset s.kC z c } z h 7 (by omega) _ (fun j => by
  have e : encM.un { s with kids := fset s.kids z x, kP := fset s.kP z p, kC := fset s.kC z c } z = { encM.un s z with kids := x, kP := p, kC := c } := by unfold encM.un; simp only [fset_eq]
  rw [e]
  by_cases hj : j = 7
  · subst hj; rfl
  · unfold encM.cell
    simp only [show ¬ (7 ≤ j ∧ j < 8) from by omega, hj, if_false]) (fun y hy => by unfold encM.un; simp only [fset_ne _ _ hy]) rfl

end Go.X
