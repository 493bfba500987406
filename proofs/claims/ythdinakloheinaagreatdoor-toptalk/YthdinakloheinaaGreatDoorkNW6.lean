import Derived.Test.YthdinakloheinaaGreatDoorkNKM
import Derived.Shelf.Lays2
import Derived.Ground.Names2Prog
import Derived.Test.YthdinakloheinaaGreatDoorProg
import Derived.Test.YthdinakloheinaaGreatDoorKB
import Derived.Test.YthdinakloheinaaGreatDoorXBytes
import Derived.Test.YthdinakloheinaaGreatDoorXFn
namespace Go.X.Tr
open Go Go.X
structure encO.U where
  kind : Int
  n : Int
  at_ : Int
  write : Bool
  refs : Int

def encO.un (s : OS) (z : Int) : encO.U := ⟨s.kind z, s.n z, s.at_ z, s.write z, s.refs z⟩
def encO.cell (u : encO.U) (j : Nat) : Value :=
  if j = 0 then .int .i64 u.kind else
  if j = 1 then .int .i64 u.n else
  if j = 2 then .int .i64 u.at_ else
  if j = 3 then .bool u.write else
  if j = 4 then .int .i64 u.refs else
  undef
def encO (p0 p1 : Nat) (s : OS) (i : Nat) : Value :=
  if i = 0 then ptr p0 0 0 else
  if i = 1 then ptr p1 0 0 else
  if i < 122 then encO.cell (encO.un s (((i - 2) / 5 : Nat) : Int)) ((i - 2) % 5) else
  undef
theorem encO.ld_f {p0 p1 : Nat} (s : OS) : 0 + 0 < 122 ∧ encO p0 p1 s (0 + 0) = ptr p0 0 0 := ⟨by omega, by unfold encO; rw [if_pos (by omega)]⟩
theorem encO.ld_p {p0 p1 : Nat} (s : OS) : 0 + 1 < 122 ∧ encO p0 p1 s (0 + 1) = ptr p1 0 0 := ⟨by omega, by unfold encO; rw [if_neg (by omega), if_pos (by omega)]⟩
theorem encO.at_ {p0 p1 : Nat} (s : OS) (z : Int) (h : 0 ≤ z ∧ z < 24) (j : Nat) (hj : j < 5) : encO p0 p1 s (0 + 2 + z.toNat * 5 + j) = encO.cell (encO.un s z) j := by
  unfold encO
  rw [if_neg (by omega), if_neg (by omega), if_pos (by omega), show (((0 + 2 + z.toNat * 5 + j - 2) / 5 : Nat) : Int) = z from by omega, show (0 + 2 + z.toNat * 5 + j - 2) % 5 = j from by omega]
theorem encO.set {p0 p1 : Nat} (s s' : OS) (z : Int) (h : 0 ≤ z ∧ z < 24) (k : Nat) (hk : k < 5) (v : Value) (hv : ∀ j, encO.cell (encO.un s' z) j = if j = k then v else encO.cell (encO.un s z) j) (ho : ∀ y, ¬ y = z → encO.un s' y = encO.un s y) : 0 + 2 + z.toNat * 5 + k < 122 ∧ upd (encO p0 p1 s) (0 + 2 + z.toNat * 5 + k) v = encO p0 p1 s' := by
  refine ⟨by omega, ?_⟩
  funext i
  unfold upd
  by_cases hi : i = 0 + 2 + z.toNat * 5 + k
  · rw [if_pos hi, hi, encO.at_ s' z h k hk, hv, if_pos rfl]
  · rw [if_neg hi]
    unfold encO
    by_cases q0 : i = 0
    · rw [if_pos q0, if_pos q0]
    rw [if_neg q0, if_neg q0]
    by_cases q1 : i = 1
    · rw [if_pos q1, if_pos q1]
    rw [if_neg q1, if_neg q1]
    by_cases c1 : i < 122
    · rw [if_pos c1, if_pos c1]
      by_cases cz : (((i - 2) / 5 : Nat) : Int) = z
      · rw [cz, hv, if_neg (by omega)]
      · rw [ho _ cz]
    · rw [if_neg c1, if_neg c1]
theorem encO.setL {p0 p1 : Nat} (s s' : OS) (z : Int) (h : 0 ≤ z ∧ z < 24) (vs : List Value) (hl : vs.length = 5) (hv : ∀ j, j < 5 → vs[j]? = some (encO.cell (encO.un s' z) j)) (ho : ∀ y, ¬ y = z → encO.un s' y = encO.un s y) : 0 + 2 + z.toNat * 5 + 5 ≤ 122 ∧ updL (encO p0 p1 s) (0 + 2 + z.toNat * 5) vs = encO p0 p1 s' := by
  refine ⟨by omega, ?_⟩
  funext i
  by_cases a1 : i < 0 + 2 + z.toNat * 5
  · rw [updL_lt' _ _ _ _ a1]
    unfold encO
    by_cases q0 : i = 0
    · rw [if_pos q0, if_pos q0]
    rw [if_neg q0, if_neg q0]
    by_cases q1 : i = 1
    · rw [if_pos q1, if_pos q1]
    rw [if_neg q1, if_neg q1]
    rw [if_pos (by omega), if_pos (by omega), ho _ (by omega)]
  · by_cases a2 : i < 0 + 2 + z.toNat * 5 + 5
    · obtain ⟨j, rfl⟩ : ∃ j, i = 0 + 2 + z.toNat * 5 + j := ⟨i - (0 + 2 + z.toNat * 5), by omega⟩
      rw [encO.at_ s' z h j (by omega)]
      exact updL_at' vs _ _ _ _ (hv j (by omega))
    · rw [updL_ge' _ _ _ _ (by omega)]
      unfold encO
      have q0 : ¬ i = 0 := by omega
      rw [if_neg q0, if_neg q0]
      have q1 : ¬ i = 1 := by omega
      rw [if_neg q1, if_neg q1]
      by_cases c1 : i < 122
      · rw [if_pos c1, if_pos c1, ho _ (by omega)]
      · rw [if_neg c1, if_neg c1]
theorem encO.ld_o_kind {p0 p1 : Nat} (s : OS) (z : Int) (h : 0 ≤ z ∧ z < 24) : 0 + 2 + z.toNat * 5 + 0 < 122 ∧ encO p0 p1 s (0 + 2 + z.toNat * 5 + 0) = .int .i64 (s.kind z) := ⟨by omega, encO.at_ s z h 0 (by omega)⟩
theorem encO.ld_o_n {p0 p1 : Nat} (s : OS) (z : Int) (h : 0 ≤ z ∧ z < 24) : 0 + 2 + z.toNat * 5 + 1 < 122 ∧ encO p0 p1 s (0 + 2 + z.toNat * 5 + 1) = .int .i64 (s.n z) := ⟨by omega, encO.at_ s z h 1 (by omega)⟩
theorem encO.ld_o_at {p0 p1 : Nat} (s : OS) (z : Int) (h : 0 ≤ z ∧ z < 24) : 0 + 2 + z.toNat * 5 + 2 < 122 ∧ encO p0 p1 s (0 + 2 + z.toNat * 5 + 2) = .int .i64 (s.at_ z) := ⟨by omega, encO.at_ s z h 2 (by omega)⟩
theorem encO.st_o_at {p0 p1 : Nat} (s : OS) (z : Int) (h : 0 ≤ z ∧ z < 24) (v : Int) : 0 + 2 + z.toNat * 5 + 2 < 122 ∧ upd (encO p0 p1 s) (0 + 2 + z.toNat * 5 + 2) (.int .i64 v) = encO p0 p1 { s with at_ := fset s.at_ z v } := encO.set s { s with at_ := fset s.at_ z v } z h 2 (by omega) _ (fun j => by
  have e : encO.un { s with at_ := fset s.at_ z v } z = { encO.un s z with at_ := v } := by unfold encO.un; simp only [fset_eq]
  rw [e]
  by_cases hj : j = 2
  · subst hj; rfl
  · unfold encO.cell; simp only [if_neg hj]) (fun y hy => by unfold encO.un; simp only [fset_ne _ _ hy])
theorem encO.ld_o_write {p0 p1 : Nat} (s : OS) (z : Int) (h : 0 ≤ z ∧ z < 24) : 0 + 2 + z.toNat * 5 + 3 < 122 ∧ encO p0 p1 s (0 + 2 + z.toNat * 5 + 3) = .bool (s.write z) := ⟨by omega, encO.at_ s z h 3 (by omega)⟩
theorem encO.ld_o_refs {p0 p1 : Nat} (s : OS) (z : Int) (h : 0 ≤ z ∧ z < 24) : 0 + 2 + z.toNat * 5 + 4 < 122 ∧ encO p0 p1 s (0 + 2 + z.toNat * 5 + 4) = .int .i64 (s.refs z) := ⟨by omega, encO.at_ s z h 4 (by omega)⟩
theorem encO.st_o_refs {p0 p1 : Nat} (s : OS) (z : Int) (h : 0 ≤ z ∧ z < 24) (v : Int) : 0 + 2 + z.toNat * 5 + 4 < 122 ∧ upd (encO p0 p1 s) (0 + 2 + z.toNat * 5 + 4) (.int .i64 v) = encO p0 p1 { s with refs := fset s.refs z v } := encO.set s { s with refs := fset s.refs z v } z h 4 (by omega) _ (fun j => by
  have e : encO.un { s with refs := fset s.refs z v } z = { encO.un s z with refs := v } := by unfold encO.un; simp only [fset_eq]
  rw [e]
  by_cases hj : j = 4
  · subst hj; rfl
  · unfold encO.cell; simp only [if_neg hj]) (fun y hy => by unfold encO.un; simp only [fset_ne _ _ hy])
def encO.arr (u : encO.U) : Array Value := #[.int .i64 u.kind, .int .i64 u.n, .int .i64 u.at_, .bool u.write, .int .i64 u.refs]
theorem encO.un_agg {p0 p1 : Nat} (s : OS) (z : Int) (h : 0 ≤ z ∧ z < 24) : 0 + 2 + z.toNat * 5 + 5 ≤ 122 ∧ aggOf (encO p0 p1 s) (0 + 2 + z.toNat * 5) 5 = .agg (encO.arr (encO.un s z)) := by
  refine ⟨by omega, ?_⟩
  have q := fun j hj => encO.at_ (p0 := p0) (p1 := p1) s z h j hj
  simp only [aggOf, List.range, List.range.loop, List.map_cons, List.map_nil]
  rw [q 0 (by omega), q 1 (by omega), q 2 (by omega), q 3 (by omega), q 4 (by omega)]
  rfl
theorem encO.box (u : encO.U) : ∀ i, i < 5 → cellsOf (encO.arr u) i = encO.cell u i := fun i h => match i, h with
  | 0, _ => rfl
  | 1, _ => rfl
  | 2, _ => rfl
  | 3, _ => rfl
  | 4, _ => rfl
  | j + 5, h => absurd h (by omega)
theorem encO.ust (u0 u : encO.U) : 0 + 5 ≤ 5 ∧ updL (encO.cell u0) 0 (encO.arr u).toList = encO.cell u := by
  refine ⟨by omega, ?_⟩
  funext i
  match i with
  | 0 => rfl
  | 1 => rfl
  | 2 => rfl
  | 3 => rfl
  | 4 => rfl
  | k + 5 =>
    have e1 : ∀ u : encO.U, encO.cell u (k + 5) = undef := fun u => by unfold encO.cell; iterate 5 rw [if_neg (by omega)]
    have e2 : updL (encO.cell u0) 0 (encO.arr u).toList (k + 5) = encO.cell u0 (k + 5) := by simp [updL, upd, encO.arr]
    rw [e2, e1, e1]
theorem encO.u_0 (u : encO.U) : 0 + 0 < 5 ∧ encO.cell u (0 + 0) = .int .i64 u.kind := ⟨by omega, rfl⟩
theorem encO.u_1 (u : encO.U) : 0 + 1 < 5 ∧ encO.cell u (0 + 1) = .int .i64 u.n := ⟨by omega, rfl⟩
theorem encO.put {p0 p1 : Nat} (s : OS) (z k n : Int) (w : Bool) (r : Int) (h : 0 ≤ z ∧ z < 24) : 0 + 2 + z.toNat * 5 + 5 ≤ 122 ∧ updL (encO p0 p1 s) (0 + 2 + z.toNat * 5) (encO.arr ⟨k, n, 0, w, r⟩).toList = encO p0 p1 ⟨fset s.kind z k, fset s.n z n, fset s.at_ z 0, fset s.refs z r, fset s.write z w⟩ :=
  encO.setL s ⟨fset s.kind z k, fset s.n z n, fset s.at_ z 0, fset s.refs z r, fset s.write z w⟩ z h _ rfl (fun j hj => by
    have e : encO.un ⟨fset s.kind z k, fset s.n z n, fset s.at_ z 0, fset s.refs z r, fset s.write z w⟩ z = ⟨k, n, 0, w, r⟩ := by unfold encO.un; simp only [fset_eq]
    rw [e]
    match j, hj with
    | 0, _ => rfl
    | 1, _ => rfl
    | 2, _ => rfl
    | 3, _ => rfl
    | 4, _ => rfl
    | j + 5, h => exact absurd h (by omega)) (fun y hy => by unfold encO.un; simp only [fset_ne _ _ hy])

end Go.X.Tr

/-
  DERIVED: THE SHELF's CONTRACTS AT THIS DUMP, IN PLAIN WORDS (tools/lay-plain.mjs out of 'YtmklfkjfgjagaaaSHL.lean', which tools/lay-shelf.mjs wrote): THE SAME DECLARATIONS UNDER THE SAME NAMES: 'import', 'namespace', 'open', 'def', 'theorem' AND NOTHING ELSE: no command of the shelf's: FOR A HAND-IN. Each laying: the table of numbers ('.._ren') and one theorem, a field a fact of the dump's own or the kernel's comparison; each contract: ONE APPLICATION.
-/
namespace Go.Proofs
open Go.Shelf
def trySearchS_ren : Go.Shelf.Ren := ⟨fun | 26 => 249 | 33 => 266 | 34 => 267 | 38 => 280 | n => n, fun | 24 => 207 | 9 => 9 | 3 => 3 | 4 => 4 | 40 => 258 | 0 => 0 | n => n, fun | n => n⟩
theorem trySearchS : Go.Proofs.Lays2.n26 Tryz.prog trySearchS_ren := {
  mixed := by kernel_rfl
  f26 := Tryz.func249.trans (congrArg some (by kernel_rfl))
  f33 := Tryz.func266.trans (congrArg some (by kernel_rfl))
  f34 := Tryz.func267.trans (congrArg some (by kernel_rfl))
  f38 := Tryz.func280.trans (congrArg some (by kernel_rfl))
  t0 := Tryz.underlying0
  a0 := Tryz.isAgg0
  z0 := Tryz.sizeOf0
  v0 := Tryz.zeroValue0
  t3 := Tryz.underlying3
  a3 := Tryz.isAgg3
  z3 := Tryz.sizeOf3
  v3 := Tryz.zeroValue3
  t4 := Tryz.underlying4
  a4 := Tryz.isAgg4
  z4 := Tryz.sizeOf4
  v4 := Tryz.zeroValue4
  t9 := Tryz.underlying9
  a9 := Tryz.isAgg9
  z9 := Tryz.sizeOf9
  v9 := Tryz.zeroValue9
  t24 := Tryz.underlying207
  a24 := Tryz.isAgg207
  z24 := Tryz.sizeOf207
  v24 := Tryz.zeroValue207
  t40 := Tryz.underlying258
  a40 := Tryz.isAgg258
  z40 := Tryz.sizeOf258
  v40 := Tryz.zeroValue258 }
def tryInsertS_ren : Go.Shelf.Ren := ⟨fun | 22 => 250 | 29 => 268 | 30 => 269 | 36 => 281 | 17 => 288 | n => n, fun | 24 => 207 | 9 => 9 | 3 => 3 | 4 => 4 | 0 => 0 | n => n, fun | n => n⟩
def tryInsertI_ren : Go.Shelf.Ren := ⟨fun | 21 => 251 | 27 => 270 | 28 => 271 | 35 => 282 | 39 => 289 | n => n, fun | 22 => 55 | 3 => 3 | 4 => 4 | 0 => 0 | n => n, fun | n => n⟩
def tryDeleteS_ren : Go.Shelf.Ren := ⟨fun | 24 => 252 | n => n, fun | 24 => 207 | 9 => 9 | 3 => 3 | 4 => 4 | 0 => 0 | n => n, fun | n => n⟩
def tryDeleteI_ren : Go.Shelf.Ren := ⟨fun | 23 => 253 | n => n, fun | 22 => 55 | 3 => 3 | 4 => 4 | 0 => 0 | n => n, fun | n => n⟩
def tryCloneS_ren : Go.Shelf.Ren := ⟨fun | 16 => 240 | n => n, fun | 24 => 207 | 9 => 9 | 4 => 4 | n => n, fun | n => n⟩
end Go.Proofs

namespace Go.X.Tr
open Go Go.Proofs Go.X
set_option maxRecDepth 20000
set_option maxHeartbeats 4000000



theorem s_search (p : Option Addr) (cap : Nat) (l : List ByteArray) (x : ByteArray) (hl : l.length ≤ 1000000) : Spec Tryz.prog 249 [.slice p l.length cap, .string x] [srow p cap 9 l] (fun v H1 => v = .tuple #[.int .i64 (bsS l x), .bool (bsHit l x)] ∧ H1 = [srow p cap 9 l]) := search_row Go.Proofs.trySearchS p cap 9 l x hl
theorem t_is (b o : Nat) (s : FC) (n : Int) : Spec Tryz.prog 185 [ptr b o 0, .int .i64 n]
 [.cells b o 321 (encF s)]
 (fun v H1 => v = errv 102 (s.isE n 0) ∧ H1 = [.cells b o 321 (encF s)]) := by
  refine Spec.go 21 [0, 1, 4, 10, 19] [] Tryz.func185 rfl rfl rfl ?_
  intro W
  refine sp 7 rfl ?_ ?_ <;> intro h1
  · skip
    refine XE.ret1 rfl rfl (post_of .h1 rfl ?_)
    try dsimp only [SW.den, SV.den, dens, ofC]
    have e : s.isE n 0 = 1 := by unfold FF.isE; rw [if_pos (by omega)]
    exact ⟨by rw [e] <;> rfl, rfl⟩
  · skip
    refine cd rfl ?_ ?_ <;> intro h2
    · skip
      refine XE.ret1 rfl rfl (post_of .h1 rfl ?_)
      try dsimp only [SW.den, SV.den, dens, ofC]
      have e : s.isE n 0 = 1 := by unfold FF.isE; rw [if_pos (by omega)]
      exact ⟨by rw [e] <;> rfl, rfl⟩
    · skip
      refine sd (by omega) ?_
      refine ld .here (encF.ld_n_kind _ _ (by omega)) ?_
      refine cd rfl ?_ ?_ <;> intro h3
      · skip
        refine XE.ret1 rfl rfl (post_of .h1 rfl ?_)
        try dsimp only [SW.den, SV.den, dens, ofC]
        have e : s.isE n 0 = 2 := by unfold FF.isE; rw [if_neg (by omega), if_pos (by omega)]
        exact ⟨by rw [e] <;> rfl, rfl⟩
      · skip
        refine XE.ret1 rfl rfl (post_of .h1 rfl ?_)
        try dsimp only [SW.den, SV.den, dens, ofC]
        have e : s.isE n 0 = 0 := by unfold FF.isE; rw [if_neg (by omega), if_neg (by omega), if_neg (by omega)]
        exact ⟨by rw [e] <;> rfl, rfl⟩
theorem t_dir (b o : Nat) (s : FC) (n : Int) : Spec Tryz.prog 237 [ptr b o 0, .int .i64 n]
 [.cells b o 321 (encF s)]
 (fun v H1 => v = errv 102 (s.isE n 2) ∧ H1 = [.cells b o 321 (encF s)]) := by
  refine Spec.go 23 [0, 1, 4, 5, 20] [] Tryz.func237 rfl rfl rfl ?_
  intro W
  refine ca (t_is _ _ _ _) .h1 ?_
  rintro _ _ ⟨rfl, rfl⟩
  refine gO ?_
  refine sp 11 rfl ?_ ?_ <;> intro h1
  · skip
    obtain ⟨i1, i2, i3⟩ := FF.isE_0 (show s.isE n 0 = 0 by assumption)
    refine sd (by omega) ?_
    refine ld .here (encF.ld_n_kind _ _ (by omega)) ?_
    refine cd rfl ?_ ?_ <;> intro h2
    · skip
      refine XE.ret1 rfl rfl (post_of .h1 rfl ?_)
      try dsimp only [SW.den, SV.den, dens, ofC]
      have e : s.isE n 2 = 11 := by unfold FF.isE; rw [if_neg (by omega), if_neg (by omega), if_pos (by omega)]
      exact ⟨by rw [e] <;> rfl, rfl⟩
    · skip
      refine XE.ret1 rfl rfl (post_of .h1 rfl ?_)
      try dsimp only [SW.den, SV.den, dens, ofC]
      have e : s.isE n 2 = 0 := by unfold FF.isE; rw [if_neg (by omega), if_neg (by omega), if_neg (by omega)]
      exact ⟨by rw [e, show s.isE n 0 = 0 by assumption], rfl⟩
  · skip
    have i0 : s.isE n 0 ≠ 0 := by assumption
    refine XE.ret1 rfl rfl (post_of .h1 rfl ?_)
    try dsimp only [SW.den, SV.den, dens, ofC]
    exact ⟨by rw [FF.isE_k i0], rfl⟩
theorem t_file (b o : Nat) (s : FC) (n : Int) : Spec Tryz.prog 194 [ptr b o 0, .int .i64 n]
 [.cells b o 321 (encF s)]
 (fun v H1 => v = errv 102 (s.isE n 1) ∧ H1 = [.cells b o 321 (encF s)]) := by
  refine Spec.go 23 [0, 1, 4, 5, 20] [] Tryz.func194 rfl rfl rfl ?_
  intro W
  refine ca (t_is _ _ _ _) .h1 ?_
  rintro _ _ ⟨rfl, rfl⟩
  refine gO ?_
  refine sp 11 rfl ?_ ?_ <;> intro h1
  · skip
    obtain ⟨i1, i2, i3⟩ := FF.isE_0 (show s.isE n 0 = 0 by assumption)
    refine sd (by omega) ?_
    refine ld .here (encF.ld_n_kind _ _ (by omega)) ?_
    refine cd rfl ?_ ?_ <;> intro h2
    · skip
      refine XE.ret1 rfl rfl (post_of .h1 rfl ?_)
      try dsimp only [SW.den, SV.den, dens, ofC]
      have e : s.isE n 1 = 11 := by unfold FF.isE; rw [if_neg (by omega), if_neg (by omega), if_pos (by omega)]
      exact ⟨by rw [e] <;> rfl, rfl⟩
    · skip
      refine XE.ret1 rfl rfl (post_of .h1 rfl ?_)
      try dsimp only [SW.den, SV.den, dens, ofC]
      have e : s.isE n 1 = 0 := by unfold FF.isE; rw [if_neg (by omega), if_neg (by omega), if_neg (by omega)]
      exact ⟨by rw [e, show s.isE n 0 = 0 by assumption], rfl⟩
  · skip
    have i0 : s.isE n 0 ≠ 0 := by assumption
    refine XE.ret1 rfl rfl (post_of .h1 rfl ?_)
    try dsimp only [SW.den, SV.den, dens, ofC]
    exact ⟨by rw [FF.isE_k i0], rfl⟩
theorem t_Find (b o : Nat) (s : FC) (hI : s.toFF.Sh) (n : Int) (x : ByteArray) : Spec Tryz.prog 235 [ptr b o 0, .int .i64 n, .string x]
 [.cells b o 321 (encF s), .fam fam40 (s.rowsN 9), .fam fam40 (s.rowsK 3)]
 (fun v H1 => v = .tuple #[.int .i64 (s.findV n x), errv 102 (s.findE n x)] ∧ H1 = [.cells b o 321 (encF s), .fam fam40 (FC.rowsN 9 s), .fam fam40 (FC.rowsK 3 s)]) := by
  refine Spec.go 42 [0, 1, 2, 6, 7, 8, 9, 10, 15, 30] [] Tryz.func235 rfl rfl rfl ?_
  intro W
  refine ca (t_dir _ _ _ _) .h1 ?_
  rintro _ _ ⟨rfl, rfl⟩
  refine gO ?_
  refine cd rfl ?_ ?_ <;> intro h1
  · skip
    have i0 : s.isE n 2 ≠ 0 := by assumption
    refine XE.ret2 rfl rfl rfl (post_of .h3 rfl ?_)
    try dsimp only [SW.den, SV.den, dens, ofC]
    have e : s.findE n x = s.isE n 2 := by unfold FF.findE; rw [if_pos i0]
    exact ⟨by rw [show s.findV n x = 0 from by unfold FF.findV; rw [if_neg (by omega)], e] <;> rfl, rfl⟩
  · skip
    obtain ⟨i1, i2, i3, i4⟩ := FF.isE_k0 (show s.isE n 2 = 0 by simpa using h1)
    have i0 : s.isE n 2 = 0 := by simpa using h1
    obtain ⟨hr, hk, h8, _⟩ := hI.rise n i1 i2
    have hbs := bsS_eq hr x
    have hbh := bsHit_eq hr x
    have hpl := posn_le (s.names n) x
    refine sd (by omega) ?_
    refine ld .here (encF.ld_n_names _ _ (by omega)) ?_
    refine XR.mono (fun _ hw3 => XM.openN (s := s) (z := n) (by omega) (.cons (.there .here) .nil) hw3) ?_
    refine ca (s_search _ _ _ _ (by omega)) .h1 ?_
    rintro _ _ ⟨rfl, rfl⟩
    refine gO ?_
    refine XR.mono (fun _ hw3 => XM.closeN (s := s) s (z := n) (by omega) rfl (fset_same _ rfl).symm (fset_same _ rfl).symm (fset_same _ rfl).symm .h2 hw3) ?_
    refine cdB rfl ?_ ?_ <;> intro h2
    · try simp only [sb] at h2
      have hh : hasn (s.names n) x = false := by rw [← hbh]; simpa using h2
      refine XE.ret2 rfl rfl rfl (post_of (.cons (.there .here) .h2) rfl ?_)
      try dsimp only [SW.den, SV.den, dens, ofC]
      have e : s.findE n x = 2 := by unfold FF.findE; rw [if_neg (by omega), if_neg (by rw [hh]; simp)]
      exact ⟨by rw [show s.findV n x = 0 from by unfold FF.findV; rw [if_neg (by omega)], e]; rfl, rfl⟩
    · try simp only [sb] at h2
      have hh : hasn (s.names n) x = true := by rw [← hbh]; simpa using h2
      obtain ⟨hp1, hp2⟩ := hasn_iff.1 hh
      refine sd (by omega) ?_
      refine XR.mono (fun _ hw3 => XM.openK (s := s) (z := n) (by omega) (.cons (.t2 .here) .nil) hw3) ?_
      refine ld (.t3 .here) (encF.ld_n_kids _ _ (by omega)) ?_
      refine XR.openRow .here (by omega) ?_
      intro g hg
      rw [hg]
      refine sd (by omega) ?_
      refine ldR .here (ints_at (by omega)) ?_
      refine XR.mono (fun _ hw3 => XM.closeK (s := s) s (z := n) (by omega) rfl (fset_same _ rfl).symm (fset_same _ hg).symm (fset_same _ rfl).symm .h2 hw3) ?_
      refine XE.ret2 rfl rfl rfl (post_of (.cons (.t2 .here) (.cons (.there .here) .h1)) rfl ?_)
      try dsimp only [SW.den, SV.den, dens, ofC]
      have e : s.findE n x = 0 := by unfold FF.findE; rw [if_neg (by omega), if_pos hh]
      exact ⟨by rw [show s.findV n x = at0 (s.kids n) (posn (s.names n) x) from by unfold FF.findV; rw [if_pos e], e, hbs]; rfl, rfl⟩
end Go.X.Tr

namespace Go.X.Tr
open Go Go.Proofs Go.X
set_option maxRecDepth 20000
set_option maxHeartbeats 4000000

theorem t_fresh (b o : Nat) (s : FC) (k t l u : Int) : Spec Tryz.prog 175 [ptr b o 0, .agg (nodeA k t l u)]
 [.cells b o 321 (encF s), .fam fam40 (s.rowsN 9), .fam fam40 (s.rowsK 3)]
 (fun v H1 => (s.free < 0 ∧ v = .tuple #[.int .i64 0, errv 102 4] ∧ H1 = [.cells b o 321 (encF s), .fam fam40 (FC.rowsN 9 s), .fam fam40 (FC.rowsK 3 s)]) ∨ (¬ s.free < 0 ∧ v = .tuple #[.int .i64 s.free, errv 102 0] ∧ H1 = [.cells b o 321 (encF (s.setC s.free k t l u)), .fam fam40 (FC.rowsN 9 (s.setC s.free k t l u)), .fam fam40 (FC.rowsK 3 (s.setC s.free k t l u))])) := by
  refine Spec.go 27 [0, 3, 4, 5, 6, 7, 8, 17] [] Tryz.func175 rfl rfl rfl ?_
  intro W
  refine XO.box (m := 8) (C := encF.cell (nodeU k t l u)) rfl rfl (node_box k t l u) rfl ?_
  intro bx
  refine gO ?_
  refine lp (σ := Int) (fun i => (40 - i).toNat) (fun i => (0 ≤ i ∧ i ≤ 40) ∧ ∀ j, 0 ≤ j → j < i → s.kind j ≠ 0) (fun i => [(7, .int .i64 i), (0, ptr b o 0), (3, ptr bx 0 0)]) (fun i => XM W (foot [.cells b o 321 (encF s), .fam fam40 (s.rowsN 9), .fam fam40 (s.rowsK 3)]) [.cells b o 321 (encF s), .fam fam40 (s.rowsN 9), .fam fam40 (s.rowsK 3), .cells bx 0 8 (encF.cell (nodeU k t l u))]) (0) ?_ (S3 rfl rfl rfl) (fun _ hw => XM.pick (.cons (.there .here) (.cons (.there .here) (.cons (.there .here) .h1))) hw) ?_
  · skip
    exact ⟨by omega, fun j a b => by omega⟩
  intro i hi
  obtain ⟨hi, ho⟩ := hi
  refine gC ?_
  refine cd rfl ?_ ?_ <;> intro h1
  · skip
    refine sd (by omega) ?_
    refine ld .here (encF.ld_n_kind _ _ (by omega)) ?_
    refine cd rfl ?_ ?_ <;> intro h2
    · skip
      refine rq [0, 1, 2, 3, 4, 5, 6] mixed (by kernel_rfl) ?_
      refine ldA (.t3 .here) (node_agg k t l u) ?_
      refine sd (by omega) ?_
      refine stA .here (encF_new s i k t l u (by omega)) rfl ⟨rfl, rfl⟩ ?_
      refine XR.mono (fun _ hw3 => XM.newN (s := s) (s.setC i k t l u) (by omega) rfl rfl rfl (.cons (.there .here) .nil) hw3) ?_
      refine XR.mono (fun _ hw3 => XM.newK (s := s) (s.setC i k t l u) (by omega) rfl rfl rfl (.cons (.t2 .here) .nil) hw3) ?_
      refine XE.ret2 rfl rfl rfl (post_of (.cons (.t2 .here) (.cons (.there .here) .h1)) rfl ?_)
      try dsimp only [SW.den, SV.den, dens, ofC]
      have e := FF.free_at hi.1 (by omega) ho (by assumption)
      exact .inr ⟨by omega, by rw [e] <;> rfl, by rw [e]⟩
    · skip
      refine sd (by omega) ?_
      refine ag (i + 1) ?_ ?_ (S3 rfl rfl rfl) (fun _ hw => XM.pick .h4 hw)
      · skip
        (first | omega | (simp; done) | (simp; omega))
      · skip
        refine ⟨by omega, fun j a b => ?_⟩
        by_cases c : j = i
        · subst c; assumption
        · exact ho j a (by omega)
  · skip
    refine XE.ret2 rfl rfl rfl (post_of .h3 rfl ?_)
    try dsimp only [SW.den, SV.den, dens, ofC]
    have e := FF.free_none (s := s.toFF) (fun j a b => ho j a (by omega))
    exact .inl ⟨by omega, rfl, rfl⟩
theorem t_gone (b o : Nat) (s : FC) (n : Int) (hn : 0 ≤ n ∧ n < 40) : Spec Tryz.prog 195 [ptr b o 0, .int .i64 n]
 [.cells b o 321 (encF s), .fam fam40 (s.rowsN 9), .fam fam40 (s.rowsK 3)]
 (fun v H1 => v = .tuple #[] ∧ ∃ t : FC, t.toFF = s.goneF n ∧ t.rP = s.rP ∧ t.rC = s.rC ∧ H1 = [.cells b o 321 (encF t), .fam fam40 (FC.rowsN 9 t), .fam fam40 (FC.rowsK 3 t)]) := by
  refine Spec.go 28 [0, 1, 21] [] Tryz.func195 rfl rfl rfl ?_
  intro W
  refine sd (by omega) ?_
  refine ld .here (encF.ld_n_links _ _ (by omega)) ?_
  refine sp 12 rfl ?_ ?_ <;> intro h1
  · skip
    refine sd (by omega) ?_
    refine ld .here (encF.ld_n_held _ _ (by omega)) ?_
    refine cd rfl ?_ ?_ <;> intro h2
    · skip
      refine XO.v (V.build (vs := #[]) rfl (v := .agg (nodeA 0 0 0 0)) (fun _ => by kernel_rfl)) rfl (gO ?_)
      refine sd (by omega) ?_
      refine stA .here (encF_new s n 0 0 0 0 (by omega)) rfl ⟨rfl, rfl⟩ ?_
      refine XR.mono (fun _ hw3 => XM.newN (s := s) (s.setC n 0 0 0 0) (by omega) rfl rfl rfl (.cons (.there .here) .nil) hw3) ?_
      refine XR.mono (fun _ hw3 => XM.newK (s := s) (s.setC n 0 0 0 0) (by omega) rfl rfl rfl (.cons (.t2 .here) .nil) hw3) ?_
      refine XE.end0 rfl (post_of (.cons (.t2 .here) (.cons (.there .here) .h1)) rfl ?_)
      try dsimp only [SW.den, SV.den, dens, ofC]
      exact ⟨rfl, s.setC n 0 0 0 0, by unfold FF.goneF; rw [if_pos ⟨by assumption, by assumption⟩]; rfl, rfl, rfl, rfl⟩
    · skip
      refine XE.end0 rfl (post_of .h3 rfl ?_)
      try dsimp only [SW.den, SV.den, dens, ofC]
      exact ⟨rfl, s, by unfold FF.goneF; rw [if_neg (by omega)], rfl, rfl, rfl⟩
  · skip
    refine XE.end0 rfl (post_of .h3 rfl ?_)
    try dsimp only [SW.den, SV.den, dens, ofC]
    exact ⟨rfl, s, by unfold FF.goneF; rw [if_neg (by omega)], rfl, rfl, rfl⟩
theorem t_Root (b o : Nat) (s : FC) (hI : s.toFF.Sh) (t : Int) : Spec Tryz.prog 176 [ptr b o 0, .int .i64 t]
 [.cells b o 321 (encF s), irow s.rP s.rC 3 s.roots]
 (fun v H1 => v = .tuple #[.int .i64 (s.rootV t), errv 102 (s.rootE t)] ∧ H1 = [.cells b o 321 (encF s), irow s.rP s.rC 3 s.roots]) := by
  have hr4 := hI.roots.1
  refine Spec.go 28 [0, 1, 4, 5, 11, 19] [] Tryz.func176 rfl rfl rfl ?_
  intro W
  refine sp 8 rfl ?_ ?_ <;> intro h1
  · skip
    refine XE.ret2 rfl rfl rfl (post_of .h2 rfl ?_)
    try dsimp only [SW.den, SV.den, dens, ofC]
    have e : s.rootE t = 1 := by unfold FF.rootE; rw [if_pos (by omega)]
    exact ⟨by rw [show s.rootV t = 0 from by unfold FF.rootV; rw [if_neg (by omega)], e]; rfl, rfl⟩
  · skip
    refine cd rfl ?_ ?_ <;> intro h2
    · skip
      refine XE.ret2 rfl rfl rfl (post_of .h2 rfl ?_)
      try dsimp only [SW.den, SV.den, dens, ofC]
      have e : s.rootE t = 1 := by unfold FF.rootE; rw [if_pos (by omega)]
      exact ⟨by rw [show s.rootV t = 0 from by unfold FF.rootV; rw [if_neg (by omega)], e]; rfl, rfl⟩
    · skip
      refine ld .here (encF_roots _) ?_
      refine cd rfl ?_ ?_ <;> intro h3
      · skip
        refine XE.ret2 rfl rfl rfl (post_of .h2 rfl ?_)
        try dsimp only [SW.den, SV.den, dens, ofC]
        have e : s.rootE t = 2 := by unfold FF.rootE; rw [if_neg (by omega), if_pos (by omega)]
        exact ⟨by rw [show s.rootV t = 0 from by unfold FF.rootV; rw [if_neg (by omega)], e]; rfl, rfl⟩
      · skip
        refine ld .here (encF_roots _) ?_
        refine XR.openRow (.there .here) (by omega) ?_
        intro g hg
        rw [hg]
        refine sd (by omega) ?_
        refine ldR (.there .here) (ints_at (by omega)) ?_
        refine XE.ret2 rfl rfl rfl (post_of .h2 rfl ?_)
        try dsimp only [SW.den, SV.den, dens, ofC]
        have e : s.rootE t = 0 := by unfold FF.rootE; rw [if_neg (by omega), if_neg (by omega)]
        exact ⟨by rw [show s.rootV t = at0 s.roots t from by unfold FF.rootV; rw [if_pos e], e]; rfl, rfl⟩
end Go.X.Tr

namespace Go.X.Tr
open Go Go.Proofs Go.X
set_option maxRecDepth 20000
set_option maxHeartbeats 4000000
theorem ag_211 : aggT Tryz.prog 211 = true := by kernel_rfl
theorem bs1_55 (z : Int) : ∀ w, (Instr.buildSlice 55 1 #[(0, .int .i64 z)]).run Tryz.prog w = .ok (.slice (some ⟨w.heap.size, 0, none⟩) 1 1) (w.alloc (.cells #[.int .i64 z] 3)) := fun w => by kernel_rfl
theorem rt_3_1 : rowT Tryz.prog 3 1 = true := by kernel_rfl
theorem sz_211_4 : szOf Tryz.prog 211 = some 4 := by kernel_rfl
theorem t_New  : Spec Tryz.prog 99 []
 []
 (fun v H1 => ∃ b, v = ptr b 0 0 ∧ H1 = [.cells b 0 321 (encF FC.void), .fam fam40 (FC.rowsN 9 FC.void), .fam fam40 (FC.rowsK 3 FC.void), irow (FC.rP FC.void) (FC.rC FC.void) 3 (FC.toFF FC.void).roots]) := by
  refine Spec.go 3 [0] [] Tryz.func99 rfl rfl rfl ?_
  intro W
  refine XO.v (V.build (vs := #[]) rfl (v := .agg arrF0) (fun _ => by kernel_rfl)) rfl (gO ?_)
  refine XO.box (m := 321) (C := encF FC.void) rfl arrF0_size arrF0_box rfl ?_
  intro p
  refine XO.mono (fun _ hw3 => XM.newForest hw3) ?_
  refine gO ?_
  refine XE.ret1 rfl rfl (post_of (.cons (.t3 .here) .h3) rfl ?_)
  try dsimp only [SW.den, SV.den, dens, ofC]
  exact ⟨_, rfl, rfl⟩
theorem t_Plant (b o : Nat) (s : FC) (hI : s.toFF.Sh) : Spec Tryz.prog 101 [ptr b o 0]
 [.cells b o 321 (encF s), .fam fam40 (s.rowsN 9), .fam fam40 (s.rowsK 3), irow s.rP s.rC 3 s.roots]
 (fun v H1 => ∃ t : FC, v = .tuple #[.int .i64 s.plantV, errv 102 s.plantE] ∧ t.toFF = s.plant ∧ H1 = [.cells b o 321 (encF t), .fam fam40 (FC.rowsN 9 t), .fam fam40 (FC.rowsK 3 t), irow (FC.rP t) (FC.rC t) 3 (FC.toFF t).roots]) := by
  have hr4 := hI.roots.1
  refine Spec.go 50 [0, 2, 3, 4, 5, 11, 25] [] Tryz.func101 rfl rfl rfl ?_
  intro W
  refine ld .here (encF_roots _) ?_
  refine cd rfl ?_ ?_ <;> intro h1
  · skip
    refine XE.ret2 rfl rfl rfl (post_of .h4 rfl ?_)
    try dsimp only [SW.den, SV.den, dens, ofC]
    have e : s.plantE = 4 := by unfold FF.plantE; rw [if_pos (by omega)]
    exact ⟨s, by rw [show s.plantV = 0 from by unfold FF.plantV; rw [if_neg (by omega)], e]; rfl, by unfold FF.plant; rw [if_neg (by omega)], rfl⟩
  · skip
    refine ld .here (encF_roots _) ?_
    refine XO.v (V.build (vs := #[(0, .int .i64 2), (1, .int .i64 (s.roots.length)), (2, .int .i64 1)]) rfl (v := .agg (nodeA 2 s.roots.length 1 0)) (fun _ => by kernel_rfl)) rfl (gO ?_)
    refine ca (t_fresh _ _ _ _ _ _ _) .h3 ?_
    rintro _ _ (⟨h2, rfl, rfl⟩ | ⟨h2, rfl, rfl⟩)
    · skip
      try dsimp only [errvL0, errvL1, errvL2, errvL3, errvL4, errvL5, errvL6, errvL7, errvL8, errvL9, errvL10, errvL11, errvL12, errvL13]
      refine gO ?_
      refine XE.ret2 rfl rfl rfl (post_of .h4 rfl ?_)
      try dsimp only [SW.den, SV.den, dens, ofC]
      have e : s.plantE = 4 := by unfold FF.plantE; rw [if_neg (by omega), if_pos (by assumption)]
      exact ⟨s, by rw [show s.plantV = 0 from by unfold FF.plantV; rw [if_neg (by omega)], e] <;> rfl, by unfold FF.plant; rw [if_neg (by omega)], rfl⟩
    · skip
      try dsimp only [errvL0, errvL1, errvL2, errvL3, errvL4, errvL5, errvL6, errvL7, errvL8, errvL9, errvL10, errvL11, errvL12, errvL13]
      have f := FF.free_ok (show ¬ s.free < 0 by assumption)
      refine gO ?_
      refine sd (by omega) ?_
      refine st .here (encF.st_n_up _ _ (by omega) _) rfl ?_
      refine ld .here (encF_roots _) ?_
      refine XO.buildSlice (A := #[.int .i64 _]) (vs := #[(0, .int .i64 _)]) rfl (bs1_55 _) rfl rfl ?_
      intro h3
      refine gO ?_
      refine XO.appendI (e := 3) rfl rfl Tryz.underlying55 rt_3_1 (.t4 .here) .here (by show s.roots.length + 1 ≤ _; omega) rfl ?_
      intro p1 c1
      refine gO ?_
      refine st (.t2 .here) (encF_roots_st _ (s.roots ++ [s.free]) _ _ _ rfl) rfl ?_
      refine ld (.t2 .here) (encF_roots _) ?_
      refine sd (by simp only [List.length_append, List.length_singleton]; omega) ?_
      refine XE.ret2 rfl rfl rfl (post_of (.cons (.t2 .here) (.cons (.t2 .here) (.cons (.t2 .here) .h1))) rfl ?_)
      try dsimp only [SW.den, SV.den, dens, ofC]
      have e : s.plantE = 0 := by unfold FF.plantE; rw [if_neg (by omega), if_neg (by assumption)]
      refine ⟨_, ?_, ?_, rfl⟩
      · rw [show s.plantV = s.roots.length from by unfold FF.plantV; rw [if_pos e], e]
        simp only [List.length_append, List.length_singleton]
        rw [show ((s.roots.length + 1 : Nat) : Int) - 1 = s.roots.length by omega]; rfl
      · unfold FF.plant; rw [if_pos e, ← FF.setN_up s.toFF s.free 2 _ 1 0 s.free]; rfl
theorem t_Of (b o : Nat) (s : FC) (hI : s.toFF.Sh) (n : Int) : Spec Tryz.prog 217 [ptr b o 0, .int .i64 n]
 [.cells b o 321 (encF s)]
 (fun v H1 => v = .tuple #[.agg (s.ofV n).arr, errv 102 (s.isE n 0)] ∧ H1 = [.cells b o 321 (encF s)]) := by
  refine Spec.go 35 [0, 1, 4, 5, 6, 7, 12] [] Tryz.func217 rfl rfl rfl ?_
  intro W
  refine XO.allocZ (z := .agg NV.zero.arr) (m := 4) (C := encNV NV.zero) (by kernel_rfl) rfl (encNV_box _) rfl ?_
  intro bg
  refine gO ?_
  refine ca (t_is _ _ _ _) (.cons (.there .here) .nil) ?_
  rintro _ _ ⟨rfl, rfl⟩
  refine gO ?_
  refine cd rfl ?_ ?_ <;> intro h1
  · skip
    have i0 : s.isE n 0 ≠ 0 := by assumption
    refine XO.v (V.build (vs := #[]) rfl (v := .agg NV.zero.arr) (fun _ => by kernel_rfl)) rfl (gO ?_)
    refine stA (.there .here) (encNV_st _ _) rfl ⟨rfl, rfl⟩ ?_
    refine XE.retG2 rfl (.agg rfl (.there .here) (encNV_agg _) ag_211 sz_211_4) (.tmp rfl) (post_of .h1 rfl ?_)
    try dsimp only [SW.den, SV.den, dens, ofC]
    exact ⟨by rw [show s.ofV n = NV.zero from by unfold FF.ofV; rw [if_neg i0]], rfl⟩
  · skip
    obtain ⟨i1, i2, i3⟩ := FF.isE_0 (show s.isE n 0 = 0 by simpa using h1)
    have i0 : s.isE n 0 = 0 := by simpa using h1
    refine sd (by omega) ?_
    refine ldA .here (encF_node _ _ (by omega)) ?_
    refine XO.allocZ (z := .agg (nodeA 0 0 0 0)) (m := 8) (C := encF.cell (nodeU 0 0 0 0)) (by kernel_rfl) rfl (node_box 0 0 0 0) rfl ?_
    intro bx
    refine gO ?_
    refine stA .here (nodeV_st _ _) rfl ⟨rfl, rfl⟩ ?_
    refine ld .here (nodeV_0 _) ?_
    refine ld .here (nodeV_2 _) ?_
    refine ld .here (nodeV_3 _) ?_
    refine ld .here (nodeV_4 _) ?_
    refine ld .here (nodeV_6 _) ?_
    refine XO.v (V.build (vs := #[(0, .int .i64 (s.kind n)), (1, .int .i64 (s.links n)), (2, .int .i64 (s.held n)), (3, .int .i64 (max ((s.data n).size : Int) ((s.kids n).length : Int)))]) rfl (v := .agg (NV.mk (s.kind n) (s.links n) (s.held n) (max ((s.data n).size : Int) ((s.kids n).length : Int))).arr) (fun _ => by kernel_rfl)) rfl (gO ?_)
    refine stA (.t2 .here) (encNV_st _ _) rfl ⟨rfl, rfl⟩ ?_
    refine XE.retG2 rfl (.agg rfl (.t2 .here) (encNV_agg _) ag_211 sz_211_4) (.tmp rfl) (post_of (.cons (.there .here) .nil) rfl ?_)
    try dsimp only [SW.den, SV.den, dens, ofC]
    exact ⟨by rw [show s.ofV n = _ from by unfold FF.ofV; rw [if_pos i0], i0]; rfl, rfl⟩
end Go.X.Tr

namespace Go.X.Tr
open Go Go.Proofs Go.X
set_option maxRecDepth 20000
set_option maxHeartbeats 4000000

theorem t_Hold (b o : Nat) (s : FC) (hI : s.toFF.Sh) (n : Int) : Spec Tryz.prog 123 [ptr b o 0, .int .i64 n]
 [.cells b o 321 (encF s), .fam fam40 (s.rowsN 9), .fam fam40 (s.rowsK 3)]
 (fun v H1 => v = errv 102 (s.isE n 0) ∧ ∃ t : FC, t.toFF = s.hold n ∧ t.rP = s.rP ∧ t.rC = s.rC ∧ H1 = [.cells b o 321 (encF t), .fam fam40 (FC.rowsN 9 t), .fam fam40 (FC.rowsK 3 t)]) := by
  refine Spec.go 24 [0, 1, 4, 5, 10] [] Tryz.func123 rfl rfl rfl ?_
  intro W
  refine ca (t_is _ _ _ _) .h1 ?_
  rintro _ _ ⟨rfl, rfl⟩
  refine gO ?_
  refine cd rfl ?_ ?_ <;> intro h1
  · skip
    obtain ⟨i1, i2, i3⟩ := FF.isE_0 (show s.isE n 0 = 0 by simpa using h1)
    have i0 : s.isE n 0 = 0 := by simpa using h1
    have hnb := hI.num n (by omega) (by omega)
    refine rq [0, 1, 2, 3, 4, 5, 6, 7, 8, 9, 10, 11, 12] mixed (by kernel_rfl) ?_
    refine sd (by omega) ?_
    refine ld .here (encF.ld_n_held _ _ (by omega)) ?_
    refine sd (by omega) ?_
    refine sd (by omega) ?_
    refine st .here (encF.st_n_held _ _ (by omega) _) rfl ?_
    refine XE.ret1 rfl rfl (post_of .h3 rfl ?_)
    try dsimp only [SW.den, SV.den, dens, ofC]
    exact ⟨rfl, ({ s with held := fset s.held n (s.held n + 1) } : FC), by rw [held_of rfl]; unfold FF.hold; rw [if_pos i0], rfl, rfl, rfl⟩
  · skip
    have i0 : s.isE n 0 ≠ 0 := by assumption
    refine XE.ret1 rfl rfl (post_of .h3 rfl ?_)
    try dsimp only [SW.den, SV.den, dens, ofC]
    exact ⟨rfl, s, by unfold FF.hold; rw [if_neg i0], rfl, rfl, rfl⟩
theorem t_Let (b o : Nat) (s : FC) (hI : s.toFF.Sh) (n : Int) : Spec Tryz.prog 144 [ptr b o 0, .int .i64 n]
 [.cells b o 321 (encF s), .fam fam40 (s.rowsN 9), .fam fam40 (s.rowsK 3)]
 (fun v H1 => v = errv 102 (s.letE n) ∧ ∃ t : FC, t.toFF = s.letF n ∧ t.rP = s.rP ∧ t.rC = s.rC ∧ H1 = [.cells b o 321 (encF t), .fam fam40 (FC.rowsN 9 t), .fam fam40 (FC.rowsK 3 t)]) := by
  refine Spec.go 36 [0, 1, 4, 5, 10, 19] [] Tryz.func144 rfl rfl rfl ?_
  intro W
  refine ca (t_is _ _ _ _) .h1 ?_
  rintro _ _ ⟨rfl, rfl⟩
  refine gO ?_
  refine cd rfl ?_ ?_ <;> intro h1
  · skip
    have i0 : s.isE n 0 ≠ 0 := by assumption
    refine XE.ret1 rfl rfl (post_of .h3 rfl ?_)
    try dsimp only [SW.den, SV.den, dens, ofC]
    have e : s.letE n = s.isE n 0 := by unfold FF.letE; rw [if_pos (by omega)]
    exact ⟨by rw [e], s, by unfold FF.letF; rw [if_neg (by omega)], rfl, rfl, rfl⟩
  · skip
    obtain ⟨i1, i2, i3⟩ := FF.isE_0 (show s.isE n 0 = 0 by simpa using h1)
    have i0 : s.isE n 0 = 0 := by simpa using h1
    have hnb := hI.num n (by omega) (by omega)
    refine sd (by omega) ?_
    refine ld .here (encF.ld_n_held _ _ (by omega)) ?_
    refine cd rfl ?_ ?_ <;> intro h2
    · skip
      refine XE.ret1 rfl rfl (post_of .h3 rfl ?_)
      try dsimp only [SW.den, SV.den, dens, ofC]
      have e : s.letE n = 8 := by unfold FF.letE; rw [if_neg (by omega), if_pos (by omega)]
      exact ⟨by rw [e] <;> rfl, s, by unfold FF.letF; rw [if_neg (by omega)], rfl, rfl, rfl⟩
    · skip
      refine rq [0, 1, 2, 3, 4, 5, 6, 7, 8, 9, 10, 11, 12] mixed (by kernel_rfl) ?_
      refine sd (by omega) ?_
      refine ld .here (encF.ld_n_held _ _ (by omega)) ?_
      refine sd (by omega) ?_
      refine sd (by omega) ?_
      refine st .here (encF.st_n_held _ _ (by omega) _) rfl ?_
      refine ca (t_gone _ _ ({ s with held := fset s.held n (s.held n - 1) } : FC) n (by omega)) .h3 ?_
      rintro _ _ ⟨rfl, t, ht, hp, hc, rfl⟩
      refine gO ?_
      refine XE.ret1 rfl rfl (post_of .h3 rfl ?_)
      try dsimp only [SW.den, SV.den, dens, ofC]
      have e : s.letE n = 0 := by unfold FF.letE; rw [if_neg (by omega), if_neg (by omega)]
      exact ⟨by rw [e] <;> rfl, t, by rw [ht]; unfold FF.letF; rw [if_pos e], hp, hc, rfl⟩
theorem t_Read (b o : Nat) (s : FC) (hI : s.toFF.Sh) (n a m : Int) : Spec Tryz.prog 140 [ptr b o 0, .int .i64 n, .int .i64 a, .int .i64 m]
 [.cells b o 321 (encF s)]
 (fun v H1 => v = .tuple #[.string (s.readV n a m), errv 102 (s.readE n a m)] ∧ H1 = [.cells b o 321 (encF s)]) := by
  refine Spec.go 47 [0, 1, 2, 3, 8, 9, 10, 11, 16, 23] [] Tryz.func140 rfl rfl rfl ?_
  intro W
  refine ca (t_file _ _ _ _) .h1 ?_
  rintro _ _ ⟨rfl, rfl⟩
  refine gO ?_
  refine cd rfl ?_ ?_ <;> intro h1
  · skip
    have i0 : s.isE n 1 ≠ 0 := by assumption
    refine XE.ret2 rfl rfl rfl (post_of .h1 rfl ?_)
    try dsimp only [SW.den, SV.den, dens, ofC]
    have e : s.readE n a m = s.isE n 1 := by unfold FF.readE; rw [if_pos (by omega)]
    exact ⟨by rw [show s.readV n a m = ByteArray.empty from by unfold FF.readV; rw [if_neg (by omega)], e]; rfl, rfl⟩
  · skip
    obtain ⟨i1, i2, i3, i4⟩ := FF.isE_k0 (show s.isE n 1 = 0 by simpa using h1)
    have i0 : s.isE n 1 = 0 := by simpa using h1
    have hd := hI.data n (by omega) (by omega)
    refine sp 20 rfl ?_ ?_ <;> intro h2
    · skip
      refine XE.ret2 rfl rfl rfl (post_of .h1 rfl ?_)
      try dsimp only [SW.den, SV.den, dens, ofC]
      have e : s.readE n a m = 1 := by unfold FF.readE; rw [if_neg (by omega), if_pos (by omega)]
      exact ⟨by rw [show s.readV n a m = ByteArray.empty from by unfold FF.readV; rw [if_neg (by omega)], e]; rfl, rfl⟩
    · skip
      refine cd rfl ?_ ?_ <;> intro h3
      · skip
        refine XE.ret2 rfl rfl rfl (post_of .h1 rfl ?_)
        try dsimp only [SW.den, SV.den, dens, ofC]
        have e : s.readE n a m = 1 := by unfold FF.readE; rw [if_neg (by omega), if_pos (by omega)]
        exact ⟨by rw [show s.readV n a m = ByteArray.empty from by unfold FF.readV; rw [if_neg (by omega)], e]; rfl, rfl⟩
      · skip
        refine sd (by omega) ?_
        refine ld .here (encF.ld_n_data _ _ (by omega)) ?_
        refine sd (by omega) ?_
        refine sd (by omega) ?_
        refine sd (by omega) ?_
        refine XE.ret2 rfl rfl rfl (post_of .h1 rfl ?_)
        try dsimp only [SW.den, SV.den, dens, ofC]
        have e : s.readE n a m = 0 := by unfold FF.readE; rw [if_neg (by omega), if_neg (by omega)]
        exact ⟨by rw [show s.readV n a m = _ from by unfold FF.readV; rw [if_pos e], e]; rfl, rfl⟩

end Go.X.Tr

namespace Go.X.Tr
open Go Go.Proofs Go.X
set_option maxRecDepth 20000
set_option maxHeartbeats 4000000

end Go.X.Tr

namespace Go.X.Tr
open Go Go.Proofs Go.X
set_option maxRecDepth 20000
set_option maxHeartbeats 4000000

theorem bt_103 : byteT Tryz.prog 231 = true := by kernel_rfl
theorem t_Write (b o : Nat) (s : FC) (hI : s.toFF.Sh) (n a : Int) (x : ByteArray) (hx : x.size ≤ 9223372036854775807) : Spec Tryz.prog 137 [ptr b o 0, .int .i64 n, .int .i64 a, .string x]
 [.cells b o 321 (encF s), .fam fam40 (s.rowsN 9), .fam fam40 (s.rowsK 3)]
 (fun v H1 => v = errv 102 (s.writeE n a x) ∧ ∃ t : FC, t.toFF = s.write n a x ∧ t.rP = s.rP ∧ t.rC = s.rC ∧ H1 = [.cells b o 321 (encF t), .fam fam40 (FC.rowsN 9 t), .fam fam40 (FC.rowsK 3 t)]) := by
  refine Spec.go 68 [0, 1, 2, 3, 8, 9, 10, 15, 18, 28, 31] [] Tryz.func137 rfl rfl rfl ?_
  intro W
  refine ca (t_file _ _ _ _) .h1 ?_
  rintro _ _ ⟨rfl, rfl⟩
  refine gO ?_
  refine cd rfl ?_ ?_ <;> intro h1
  · skip
    have i0 : s.isE n 1 ≠ 0 := by assumption
    refine XE.ret1 rfl rfl (post_of .h3 rfl ?_)
    try dsimp only [SW.den, SV.den, dens, ofC]
    have e : s.writeE n a x = s.isE n 1 := by unfold FF.writeE; rw [if_pos (by omega)]
    exact ⟨by rw [e], s, by unfold FF.write; rw [if_neg (by omega)], rfl, rfl, rfl⟩
  · skip
    obtain ⟨i1, i2, i3, i4⟩ := FF.isE_k0 (show s.isE n 1 = 0 by simpa using h1)
    have i0 : s.isE n 1 = 0 := by simpa using h1
    have hd := hI.data n (by omega) (by omega)
    refine cd rfl ?_ ?_ <;> intro h2
    · skip
      refine XE.ret1 rfl rfl (post_of .h3 rfl ?_)
      try dsimp only [SW.den, SV.den, dens, ofC]
      have e : s.writeE n a x = 1 := by unfold FF.writeE; rw [if_neg (by omega), if_pos (by omega)]
      exact ⟨by rw [e] <;> rfl, s, by unfold FF.write; rw [if_neg (by omega)], rfl, rfl, rfl⟩
    · skip
      refine sp 22 rfl ?_ ?_ <;> intro h3
      · skip
        refine XE.ret1 rfl rfl (post_of .h3 rfl ?_)
        try dsimp only [SW.den, SV.den, dens, ofC]
        have e : s.writeE n a x = 4 := by unfold FF.writeE; rw [if_neg (by omega), if_neg (by omega), if_pos (by omega)]
        exact ⟨by rw [e] <;> rfl, s, by unfold FF.write; rw [if_neg (by omega)], rfl, rfl, rfl⟩
      · skip
        refine sd (by omega) ?_
        refine cd rfl ?_ ?_ <;> intro h4
        · skip
          refine XE.ret1 rfl rfl (post_of .h3 rfl ?_)
          try dsimp only [SW.den, SV.den, dens, ofC]
          have e : s.writeE n a x = 4 := by unfold FF.writeE; rw [if_neg (by omega), if_neg (by omega), if_pos (by omega)]
          exact ⟨by rw [e] <;> rfl, s, by unfold FF.write; rw [if_neg (by omega)], rfl, rfl, rfl⟩
        · skip
          refine cd rfl ?_ ?_ <;> intro h5
          · skip
            refine XE.ret1 rfl rfl (post_of .h3 rfl ?_)
            try dsimp only [SW.den, SV.den, dens, ofC]
            have e : s.writeE n a x = 0 := by unfold FF.writeE; rw [if_neg (by omega), if_neg (by omega), if_neg (by omega)]
            exact ⟨by rw [e] <;> rfl, s, by unfold FF.write; rw [if_neg (fun q => q.2 (by assumption))], rfl, rfl, rfl⟩
          · skip
            have hx0 : x.size ≠ 0 := fun q => (by assumption : ¬ x = ⟨#[]⟩) (size_nil.2 q)
            have hxe : x ≠ ByteArray.empty := by assumption
            refine sd (by omega) ?_
            refine ld .here (encF.ld_n_data _ _ (by omega)) ?_
            refine sd (by omega) ?_
            refine XO.makeBytes rfl rfl (by omega) bt_103 rfl ?_
            intro bb
            refine gO ?_
            refine sd (by omega) ?_
            refine ld (.there .here) (encF.ld_n_data _ _ (by omega)) ?_
            refine XO.copyStr rfl rfl bt_103 (by omega) (by omega) .here rfl rfl ?_
            refine gO ?_
            refine XO.v (V.sliceBy rfl rfl bt_103 (by omega)) rfl (gO ?_)
            refine XO.copyStr rfl rfl bt_103 (by omega) (by omega) .here rfl rfl ?_
            refine gO ?_
            refine rq [0, 1, 2, 3, 4, 5, 6, 7, 8] mixed (by kernel_rfl) ?_
            refine XO.l (V.convB (B := wrB (s.data n) a.toNat x) rfl (by rw [FF.wrB_size]; omega) (inXM .here) ⟨by rw [FF.wrB_size]; omega, fun i h => wr_cells _ _ _ i h⟩ bt_103 Tryz.underlying9) rfl (gO ?_)
            refine sd (by omega) ?_
            refine st (.there .here) (encF.st_n_data _ _ (by omega) _) rfl ?_
            refine XE.ret1 rfl rfl (post_of (.cons (.there .here) (.cons (.there .here) (.cons (.there .here) .nil))) rfl ?_)
            try dsimp only [SW.den, SV.den, dens, ofC]
            have e : s.writeE n a x = 0 := by unfold FF.writeE; rw [if_neg (by omega), if_neg (by omega), if_neg (by omega)]
            exact ⟨by rw [e] <;> rfl, ({ s with data := fset s.data n (wrB (s.data n) a.toNat x) } : FC), by unfold FF.write; rw [if_pos ⟨e, hxe⟩], rfl, rfl, rfl⟩
end Go.X.Tr
