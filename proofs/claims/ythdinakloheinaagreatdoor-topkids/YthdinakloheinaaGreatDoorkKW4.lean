import Derived.Test.YthdinakloheinaaGreatDoorkNRM
import Derived.Test.YthdinakloheinaaGreatDoorkNOW3
import Derived.Test.YthdinakloheinaaGreatDoorXClose
import Derived.Lib.SplitLaws
import Derived.Shelf.Strings.Split
import Derived.Test.YthdinakloheinaaGreatDoorProg
import Derived.Ground.NamesProg
import Derived.Shelf.Lays
import Derived.Test.YthdinakloheinaaGreatDoorXFam
import Derived.Test.YthdinakloheinaaGreatDoorkNL
import Derived.Test.YthdinakloheinaaGreatDoorkGPl
namespace Go.X.Tr
open Go Go.X
/-! ### places, mounts, tables -/
structure WH where
  tree : Int
  node : Int
instance : DecidableEq WH := fun a b => if h : a.tree = b.tree ∧ a.node = b.node then isTrue (by cases a; cases b; simp only at h; rw [h.1, h.2]) else isFalse (fun e => h (by rw [e]; exact ⟨rfl, rfl⟩))
def WH.nil : WH := ⟨0, 0⟩
abbrev WH.arr (w : WH) : Array Value := #[.int .i64 w.tree, .int .i64 w.node]
def encW (w : WH) (i : Nat) : Value := if i = 0 then .int .i64 w.tree else if i = 1 then .int .i64 w.node else undef
structure MT where
  at_ : WH
  to : WH
def MT.nil : MT := ⟨WH.nil, WH.nil⟩
abbrev MT.arr (m : MT) : Array Value := #[.int .i64 m.at_.tree, .int .i64 m.at_.node, .int .i64 m.to.tree, .int .i64 m.to.node]
def encMt (m : MT) (i : Nat) : Value := if i = 0 then .int .i64 m.at_.tree else if i = 1 then .int .i64 m.at_.node else if i = 2 then .int .i64 m.to.tree else if i = 3 then .int .i64 m.to.node else undef
def mat (l : List MT) (z : Int) : MT := l.getD z.toNat MT.nil
def wat (l : List WH) (z : Int) : WH := l.getD z.toNat WH.nil
def mC (l : List MT) (i : Nat) : Value := encMt (mat l ((i / 4 : Nat) : Int)) (i % 4)
def wC (l : List WH) (i : Nat) : Value := encW (wat l ((i / 2 : Nat) : Int)) (i % 2)
/-- cells that hold these mounts, in front -/ def MC (C : Nat → Value) (l : List MT) : Prop := ∀ i, i < l.length * 4 → C i = mC l i
/-! a box, a place -/
theorem encW.box (w : WH) : ∀ i, i < 2 → cellsOf (WH.arr w) i = encW w i := fun i h => match i, h with
  | 0, _ => rfl
  | 1, _ => rfl
  | j + 2, h => absurd h (by omega)
theorem encW.agg (w : WH) : 0 + 2 ≤ 2 ∧ aggOf (encW w) 0 2 = .agg (WH.arr w) := ⟨by omega, rfl⟩
theorem encW.ld0 (w : WH) : 0 + 0 < 2 ∧ encW w (0 + 0) = .int .i64 w.tree := ⟨by omega, rfl⟩
theorem encW.ld1 (w : WH) : 0 + 1 < 2 ∧ encW w (0 + 1) = .int .i64 w.node := ⟨by omega, rfl⟩
theorem encW.st (w u : WH) : 0 + 2 ≤ 2 ∧ updL (encW w) 0 (WH.arr u).toList = encW u := by
  refine ⟨by omega, ?_⟩
  funext i
  match i with
  | 0 => rfl
  | 1 => rfl
  | k + 2 =>
    have e1 : ∀ w : WH, encW w (k + 2) = undef := fun w => by unfold encW; rw [if_neg (by omega), if_neg (by omega)]
    have e2 : updL (encW w) 0 (WH.arr u).toList (k + 2) = encW w (k + 2) := by simp [updL, upd]
    rw [e2, e1, e1]
theorem encMt.box (m : MT) : ∀ i, i < 4 → cellsOf (MT.arr m) i = encMt m i := fun i h => match i, h with
  | 0, _ => rfl
  | 1, _ => rfl
  | 2, _ => rfl
  | 3, _ => rfl
  | j + 4, h => absurd h (by omega)
theorem encMt.agg (m : MT) : 0 + 4 ≤ 4 ∧ aggOf (encMt m) 0 4 = .agg (MT.arr m) := ⟨by omega, rfl⟩
theorem encMt.ldA (m : MT) : 0 + 0 + 2 ≤ 4 ∧ aggOf (encMt m) (0 + 0) 2 = .agg (WH.arr m.at_) := ⟨by omega, rfl⟩
theorem encMt.st (m u : MT) : 0 + 4 ≤ 4 ∧ updL (encMt m) 0 (MT.arr u).toList = encMt u := by
  refine ⟨by omega, ?_⟩
  funext i
  match i with
  | 0 => rfl
  | 1 => rfl
  | 2 => rfl
  | 3 => rfl
  | k + 4 =>
    have e1 : ∀ w : MT, encMt w (k + 4) = undef := fun w => by unfold encMt; rw [if_neg (by omega), if_neg (by omega), if_neg (by omega), if_neg (by omega)]
    have e2 : updL (encMt m) 0 (MT.arr u).toList (k + 4) = encMt m (k + 4) := by simp [updL, upd]
    rw [e2, e1, e1]
/-! a table: the forest, the root, the mounts -/
def encT (bf : Nat) (r : WH) (v : Value) (i : Nat) : Value := if i = 0 then ptr bf 0 0 else if i = 1 then .int .i64 r.tree else if i = 2 then .int .i64 r.node else if i = 3 then v else undef
theorem encT.ld0 {bf : Nat} (r : WH) (v : Value) : 0 + 0 < 4 ∧ encT bf r v (0 + 0) = ptr bf 0 0 := ⟨by omega, rfl⟩
theorem encT.ld1 {bf : Nat} (r : WH) (v : Value) : 0 + 1 + 2 ≤ 4 ∧ aggOf (encT bf r v) (0 + 1) 2 = .agg (WH.arr r) := ⟨by omega, rfl⟩
abbrev arrT (bf : Nat) (r : WH) (v : Value) : Array Value := #[ptr bf 0 0, .int .i64 r.tree, .int .i64 r.node, v]
theorem encT.box (bf : Nat) (r : WH) (v : Value) : ∀ i, i < 4 → cellsOf (arrT bf r v) i = encT bf r v i := fun i h => match i, h with
  | 0, _ => rfl
  | 1, _ => rfl
  | 2, _ => rfl
  | 3, _ => rfl
  | j + 4, h => absurd h (by omega)
/-! rows of mounts, of places -/
theorem mC_at (l : List MT) (z : Int) (hz : 0 ≤ z) (j : Nat) (hj : j < 4) : mC l (0 + z.toNat * 4 + j) = encMt (mat l z) j := by
  unfold mC
  rw [show (((0 + z.toNat * 4 + j) / 4 : Nat) : Int) = z from by omega, show (0 + z.toNat * 4 + j) % 4 = j from by omega]
theorem MC.ld {C : Nat → Value} {l : List MT} (h : MC C l) {k : Nat} (hk : l.length ≤ k) (z : Int) (q : 0 ≤ z ∧ z < l.length) : 0 + z.toNat * 4 + 4 ≤ k * 4 ∧ aggOf C (0 + z.toNat * 4) 4 = .agg (MT.arr (mat l z)) := by
  refine ⟨by omega, ?_⟩
  have e := fun j (hj : j < 4) => (h (0 + z.toNat * 4 + j) (by omega)).trans (mC_at l z q.1 j hj)
  simp only [aggOf, List.range, List.range.loop, List.map_cons, List.map_nil]
  rw [e 0 (by omega), e 1 (by omega), e 2 (by omega), e 3 (by omega)]
  rfl
theorem MC.app {C D : Nat → Value} {l : List MT} (h : MC C l) (m : MT) (h1 : ∀ i, i < l.length * 4 → D i = C i) (h2 : ∀ i, i < 1 * 4 → D (l.length * 4 + i) = encMt m i) : MC D (l ++ [m]) := fun i hi => by
  simp only [List.length_append, List.length_singleton] at hi
  by_cases c : i < l.length * 4
  · rw [h1 i c, h i c]
    unfold mC mat
    congr 1
    rw [List.getD_eq_getElem?_getD, List.getD_eq_getElem?_getD, List.getElem?_append_left (by omega)]
  · have e := h2 (i - l.length * 4) (by omega)
    rw [show l.length * 4 + (i - l.length * 4) = i from by omega] at e
    rw [e]
    unfold mC mat
    rw [List.getD_eq_getElem?_getD, show (((i / 4 : Nat) : Int)).toNat = l.length from by omega, List.getElem?_append_right (Nat.le_refl _), show i % 4 = i - l.length * 4 from by omega]
    simp
theorem MC.copy {C D : Nat → Value} {l : List MT} (h : MC C l) (h1 : ∀ i, i < l.length * 4 → D i = C i) : MC D l := fun i hi => (h1 i hi).trans (h i hi)
theorem MC.nil (C : Nat → Value) : MC C [] := fun i h => absurd h (by simp)
theorem MC.erase {C D : Nat → Value} {l : List MT} (h : MC C l) (n : Nat) (hn : n < l.length) (h1 : ∀ j, j < n * 4 → D j = C j) (h2 : ∀ j, n * 4 ≤ j → j < (l.length - 1) * 4 → D j = C (j + 4)) : MC D (l.eraseIdx n) := fun i hi => by
  rw [List.length_eraseIdx_of_lt hn] at hi
  by_cases c : i < n * 4
  · rw [h1 i c, h i (by omega)]
    unfold mC mat
    congr 1
    rw [List.getD_eq_getElem?_getD, List.getD_eq_getElem?_getD, List.getElem?_eraseIdx, if_pos (by omega)]
  · rw [h2 i (by omega) hi, h (i + 4) (by omega)]
    unfold mC mat
    rw [List.getD_eq_getElem?_getD, List.getD_eq_getElem?_getD, List.getElem?_eraseIdx, if_neg (by omega), show (i + 4) % 4 = i % 4 from by omega, show (((i + 4) / 4 : Nat) : Int).toNat = (((i / 4 : Nat) : Int)).toNat + 1 from by omega]
/-! what is seen at a place -/
def ov1 (l : List MT) (w : WH) : Option WH := (l.find? (fun m => decide (m.at_ = w))).map (·.to)
def ovN (l : List MT) : Nat → WH → WH
  | 0, w => w
  | n + 1, w => match ov1 l w with
    | some u => ovN l n u
    | none => w
def over (l : List MT) (w : WH) : WH := ovN l 6 w
/-! names of a path -/
def dd : ByteArray := ⟨#[46, 46]⟩
def slash : ByteArray := ⟨#[47]⟩
def pieces (s : ByteArray) : List ByteArray := Lib.splitB slash 0 (Lib.countB s slash) s
def partOk (s : ByteArray) : Bool := decide (s = dd) || nameOk s
def splitE (p : ByteArray) : Int := if 60 < p.size ∨ p = ⟨#[]⟩ ∨ p.get! 0 ≠ 47 then 9 else if p = slash then 0 else if (pieces (p.extract 1 p.size)).all partOk = true then 0 else 9
def splitV (p : ByteArray) : List ByteArray := if splitE p = 0 ∧ p ≠ slash then pieces (p.extract 1 p.size) else []
/-! the way -/
def last (l : List WH) : WH := wat l ((l.length : Int) - 1)
def wk (F : FF) (l : List MT) : List WH → List ByteArray → Int × WH
  | way, [] => (0, last way)
  | way, s :: r => if s = dd then wk F l (if 1 < way.length then way.take (way.length - 1) else way) r else if F.findE (last way).node s ≠ 0 then (F.findE (last way).node s, WH.nil) else
      wk F l (way ++ [over l ⟨(last way).tree, F.findV (last way).node s⟩]) r
def led (F : FF) (l : List MT) (r : WH) (ns : List ByteArray) : Int × WH := wk F l [over l r] ns
def walkE (F : FF) (l : List MT) (r : WH) (p : ByteArray) : Int := if splitE p ≠ 0 then splitE p else (led F l r (splitV p)).1
def walkV (F : FF) (l : List MT) (r : WH) (p : ByteArray) : WH := if splitE p ≠ 0 then WH.nil else (led F l r (splitV p)).2
def nlast (ns : List ByteArray) : ByteArray := sat0 ns ((ns.length : Int) - 1)
def ninit (ns : List ByteArray) : List ByteArray := ns.take (ns.length - 1)
def rawE (F : FF) (l : List MT) (r : WH) (p : ByteArray) : Int := if splitE p ≠ 0 then splitE p else if (splitV p).length = 0 then 0 else if nlast (splitV p) = dd then 9 else if (led F l r (ninit (splitV p))).1 ≠ 0 then (led F l r (ninit (splitV p))).1 else F.findE (led F l r (ninit (splitV p))).2.node (nlast (splitV p))
def rawV (F : FF) (l : List MT) (r : WH) (p : ByteArray) : WH := if rawE F l r p ≠ 0 then WH.nil else if (splitV p).length = 0 then r else ⟨(led F l r (ninit (splitV p))).2.tree, F.findV (led F l r (ninit (splitV p))).2.node (nlast (splitV p))⟩
def lastE (F : FF) (l : List MT) (r : WH) (p : ByteArray) : Int := if splitE p ≠ 0 then splitE p else if (splitV p).length = 0 ∨ nlast (splitV p) = dd then 9 else (led F l r (ninit (splitV p))).1
def lastV (F : FF) (l : List MT) (r : WH) (p : ByteArray) : WH := if lastE F l r p ≠ 0 then WH.nil else (led F l r (ninit (splitV p))).2
def lastN (F : FF) (l : List MT) (r : WH) (p : ByteArray) : ByteArray := if lastE F l r p ≠ 0 then ⟨#[]⟩ else nlast (splitV p)
/-! binding -/
def dirE (F : FF) (w : WH) : Int := if F.isE w.node 0 ≠ 0 then F.isE w.node 0 else if F.kind w.node ≠ 2 ∨ F.tree w.node ≠ w.tree then 11 else 0
def hasAt (l : List MT) (w : WH) : Bool := l.any (fun m => decide (m.at_ = w))
def bindE (F : FF) (l : List MT) (at_ to : WH) : Int := if dirE F at_ ≠ 0 then dirE F at_ else if dirE F to ≠ 0 then dirE F to else if at_ = to then 8 else if hasAt l at_ = true then 3 else if l.length = 6 then 4 else 0
def bindL (F : FF) (l : List MT) (at_ to : WH) : List MT := if bindE F l at_ to = 0 then l ++ [⟨at_, to⟩] else l
def bindF (F : FF) (l : List MT) (at_ to : WH) : FF := if bindE F l at_ to = 0 then (F.hold at_.node).hold to.node else F
def idxAt (l : List MT) (w : WH) : Nat := l.findIdx (fun m => decide (m.at_ = w))
def unbindE (l : List MT) (w : WH) : Int := if idxAt l w < l.length then 0 else 2
def unbindL (l : List MT) (w : WH) : List MT := l.eraseIdx (idxAt l w)
def unbindF (F : FF) (l : List MT) (w : WH) : FF := if idxAt l w < l.length then (F.letF (mat l (idxAt l w)).at_.node).letF (mat l (idxAt l w)).to.node else F
def holdM (F : FF) : List MT → FF
  | [] => F
  | m :: r => holdM ((F.hold m.at_.node).hold m.to.node) r
def letM (F : FF) : List MT → FF
  | [] => F
  | m :: r => letM ((F.letF m.at_.node).letF m.to.node) r
def copyF (F : FF) (l : List MT) (r : WH) : FF := holdM (F.hold r.node) l
def tcloseF (F : FF) (l : List MT) (r : WH) : FF := (letM F l).letF r.node
def pivotE (F : FF) (t : Int) : Int := F.rootE t
def pivotF (F : FF) (l : List MT) (r : WH) (t : Int) : FF := if F.rootE t = 0 then tcloseF (F.hold (F.rootV t)) l r else F
def pivotR (F : FF) (r : WH) (t : Int) : WH := if F.rootE t = 0 then ⟨t, F.rootV t⟩ else r
def pivotL (F : FF) (l : List MT) (t : Int) : List MT := if F.rootE t = 0 then [] else l
section
variable {F : FF} {l : List MT} {way : List WH} {s : ByteArray} {r a : List ByteArray}
end
def C0 : Nat → Value := fun _ => undef
end Go.X.Tr

namespace Go.X.Tr
open Go Go.Shelf Go.RowKit Go.Lib Go.Proofs Go.X
set_option maxRecDepth 20000
set_option maxHeartbeats 4000000
section
variable {P : Program} {ρ : Ren}
end
end Go.X.Tr

/-
  DERIVED: THE SHELF's CONTRACTS AT THIS DUMP, IN PLAIN WORDS (tools/lay-plain.mjs out of 'TrydSHL.lean', which tools/lay-shelf.mjs wrote): THE SAME DECLARATIONS UNDER THE SAME NAMES: 'import', 'namespace', 'open', 'def', 'theorem' AND NOTHING ELSE: no command of the shelf's: FOR A HAND-IN. Each laying: the table of numbers ('.._ren') and one theorem, a field a fact of the dump's own or the kernel's comparison; each contract: ONE APPLICATION.
-/
namespace Go.Proofs
open Go.Shelf
def trydSplit_ren : Go.Shelf.Ren := ⟨fun | 146 => 246 | 221 => 265 | 268 => 277 | 138 => 278 | 143 => 279 | 195 => 284 | 197 => 285 | 218 => 286 | 219 => 287 | 260 => 290 | 217 => 291 | 225 => 292 | 224 => 293 | 267 => 294 | 266 => 295 | 314 => 296 | n => n, fun | 9 => 9 | 31 => 207 | 3 => 3 | 4 => 4 | 0 => 0 | 105 => 306 | 21 => 21 | 5 => 5 | 46 => 258 | 119 => 311 | 139 => 314 | 138 => 313 | 146 => 315 | 51 => 257 | n => n, fun | 1 => 2 | 3 => 3 | 4 => 4 | n => n⟩
end Go.Proofs

namespace Go.X.Tr
open Go Go.Proofs Go.X
set_option maxRecDepth 20000
set_option maxHeartbeats 4000000
end Go.X.Tr

namespace Go.X.Tr
open Go Go.Proofs Go.X
set_option maxRecDepth 20000
set_option maxHeartbeats 4000000
end Go.X.Tr

namespace Go.X.Tr
open Go Go.Proofs Go.X
set_option maxRecDepth 20000
set_option maxHeartbeats 4000000
end Go.X.Tr

namespace Go.X.Tr
open Go Go.Proofs Go.X
set_option maxRecDepth 20000
set_option maxHeartbeats 4000000
theorem m_New (bf : Nat) (s : FC) (d : Int → Nat) (B : Int) (hO : s.toFF.Ok d B) (hB : B ≤ 900000) (t : Int) : Spec Tryz.prog 102 [ptr bf 0 0, .int .i64 t]
 [.cells bf 0 321 (encF s), .fam fam40 (FC.rowsN 9 s), .fam fam40 (FC.rowsK 3 s), irow (FC.rP s) (FC.rC s) 3 (FC.toFF s).roots]
 (fun v H1 => (s.rootE t ≠ 0 ∧ v = .tuple #[.pointer none, errv 102 (s.rootE t)] ∧ H1 = [.cells bf 0 321 (encF s), .fam fam40 (FC.rowsN 9 s), .fam fam40 (FC.rowsK 3 s), irow (FC.rP s) (FC.rC s) 3 (FC.toFF s).roots]) ∨ (s.rootE t = 0 ∧ ∃ (bt : Nat) (u : FC), v = .tuple #[ptr bt 0 0, .nilIface] ∧ u.toFF = s.toFF.hold (s.rootV t) ∧ u.rP = s.rP ∧ u.rC = s.rC ∧ H1 = [.cells bt 0 4 (encT bf ⟨t, s.rootV t⟩ (.slice none 0 0)), frow none 0 168 4 0 C0, .cells bf 0 321 (encF u), .fam fam40 (FC.rowsN 9 u), .fam fam40 (FC.rowsK 3 u), irow (FC.rP s) (FC.rC s) 3 (FC.toFF s).roots])) := by
  have hI := hO.sh (by omega)
  refine Spec.go 26 [0, 1, 4, 5, 6, 7, 15] [] Tryz.func102 rfl rfl rfl ?_
  intro W
  refine ca (t_Root _ _ _ hI _) (.cons .here (.cons (.t2 .here) .nil)) ?_
  rintro _ _ ⟨rfl, rfl⟩
  refine gO ?_
  refine cd rfl ?_ ?_ <;> intro h1
  · skip
    refine XE.ret2 rfl rfl rfl (post_of (.cons .here (.cons (.there .here) (.cons (.there .here) .h1))) rfl ?_)
    try dsimp only [SW.den, SV.den, dens, ofC]
    exact .inl ⟨by assumption, rfl, rfl⟩
  · skip
    refine ca (t_Hold _ _ _ hI _) (.cons .here (.cons (.there .here) (.cons (.there .here) .nil))) ?_
    rintro _ _ ⟨rfl, u, hu, pu, cu, rfl⟩
    refine gO ?_
    refine XO.v (V.build (vs := #[(0, .int .i64 t), (1, .int .i64 (s.rootV t))]) rfl (v := .agg (WH.arr ⟨t, s.rootV t⟩)) (fun _ => by kernel_rfl)) rfl (gO ?_)
    refine XO.v (V.build (vs := #[(0, ptr bf 0 0), (1, .agg (WH.arr ⟨t, s.rootV t⟩))]) rfl (v := .agg (arrT bf ⟨t, s.rootV t⟩ (.slice none 0 0))) (fun _ => by kernel_rfl)) rfl (gO ?_)
    refine XO.box (m := 4) (C := encT bf ⟨t, s.rootV t⟩ (.slice none 0 0)) rfl rfl (encT.box _ _ _) rfl ?_
    intro bt
    refine gO ?_
    refine XR.nilRow 168 4 ?_
    refine XE.ret2 rfl rfl rfl (post_of (.cons (.there .here) .h5) rfl ?_)
    try dsimp only [SW.den, SV.den, dens, ofC]
    exact .inr ⟨Decidable.byContradiction (by assumption), bt, u, rfl, hu, pu, cu, rfl⟩
end Go.X.Tr

namespace Go.X.Tr
open Go Go.Proofs Go.X
set_option maxRecDepth 20000
set_option maxHeartbeats 4000000
theorem sc_3 : scal Tryz.prog 3 = true := by kernel_rfl
end Go.X.Tr

namespace Go.X.Tr
open Go Go.X
theorem boxP_init : ∀ i, i < 24 → cellsOf (Value.agg #[.string ⟨#[]⟩, .int .i64 0, .int .i64 0, .string ⟨#[]⟩, .int .i64 0, .int .i64 0, .string ⟨#[]⟩, .int .i64 0, .int .i64 0, .string ⟨#[]⟩, .int .i64 0, .int .i64 0, .string ⟨#[]⟩, .int .i64 0, .int .i64 0, .string ⟨#[]⟩, .int .i64 0, .int .i64 0, .string ⟨#[]⟩, .int .i64 0, .int .i64 0, .string ⟨#[]⟩, .int .i64 0, .int .i64 0]).cells i = encP PS.init i := fun i hi => match i, hi with
  | 0, _ => rfl
  | 1, _ => rfl
  | 2, _ => rfl
  | 3, _ => rfl
  | 4, _ => rfl
  | 5, _ => rfl
  | 6, _ => rfl
  | 7, _ => rfl
  | 8, _ => rfl
  | 9, _ => rfl
  | 10, _ => rfl
  | 11, _ => rfl
  | 12, _ => rfl
  | 13, _ => rfl
  | 14, _ => rfl
  | 15, _ => rfl
  | 16, _ => rfl
  | 17, _ => rfl
  | 18, _ => rfl
  | 19, _ => rfl
  | 20, _ => rfl
  | 21, _ => rfl
  | 22, _ => rfl
  | 23, _ => rfl
  | k + 24, h => absurd h (by omega)

end Go.X.Tr

namespace Go.X.Kn
open Go Go.Proofs Go.X
set_option maxRecDepth 20000
set_option maxHeartbeats 4000000

theorem first_build (mb : Nat) : ∀ w, (Instr.build 89 #[(0, .int .i64 1), (1, .int .i64 (-1)), (4, ptr mb 0 0)]).run Tryz.prog w = .ok (.agg (PU.arr (firstU mb))) w := fun w => by kernel_rfl
theorem raw_build (a b c d e f : Nat) : ∀ w, (Instr.build 101 #[(1, ptr a 0 0), (2, ptr b 0 0), (3, ptr c 0 0), (4, ptr d 0 0), (5, ptr e 0 0), (6, ptr f 0 0)]).run Tryz.prog w = .ok (.agg (arrK0 (KP.raw a b c d e f))) w := fun w => by kernel_rfl
set_option maxHeartbeats 16000000 in
theorem k_New  : Spec Tryz.prog 37 []
 []
 (fun x H1 => ∃ (kb : Nat) (k : KP) (vp mb : Nat) (q : Fa.SC), x = ptr kb 0 0 ∧ Begun k mb ∧ q.toSF = Q2 ∧ q.Rep ∧ H1 = [.cells kb 0 453 (encKn k), .cells k.gb 0 60 (Gr.encGt G0), .cells k.sb 0 158 (Sp.encT S0), .cells k.qb 0 2281 (Fa.encS q), .fam Fa.fam30 (Fa.SC.rows 254 q), .cells k.bb 0 577 (Vm.encK vp Vm.VB.init.by_ Vm.VB.init.rf), .cells vp 0 71 (Vm.encP Vm.VB.init.bb.pool), .cells mb 0 34 (Vm.encN k.bb none (Vm.runs Vm.MS.nil.is_).length 0 Vm.MS.nil.fr Vm.MS.nil.own), frow none 0 171 3 (Vm.runs Vm.MS.nil.is_).length (Vm.rgC (Vm.runs Vm.MS.nil.is_))]) := by
  refine Spec.go 77 [0, 1] [] Tryz.func37 rfl rfl rfl ?_
  intro W
  refine ca (Gr.g_new) .nil ?_
  rintro _ _ ⟨gb, rfl, rfl⟩
  refine gO ?_
  refine ca (Sp.t_New) .nil ?_
  rintro _ _ ⟨sb, rfl, rfl⟩
  refine gO ?_
  refine ca (Fa.f_New) .nil ?_
  rintro _ _ ⟨qb, rfl, q0, hq0, hr0, rfl⟩
  refine gO ?_
  refine ca (Vm.v_NewBank) .nil ?_
  rintro _ _ ⟨bb, vp, rfl, rfl⟩
  refine gO ?_
  refine ca (Tr.t_New) .nil ?_
  rintro _ _ ⟨tb, rfl, rfl⟩
  refine gO ?_
  refine XO.v (V.build (vs := #[]) rfl (v := .agg #[.string ⟨#[]⟩, .int .i64 0, .int .i64 0, .string ⟨#[]⟩, .int .i64 0, .int .i64 0, .string ⟨#[]⟩, .int .i64 0, .int .i64 0, .string ⟨#[]⟩, .int .i64 0, .int .i64 0, .string ⟨#[]⟩, .int .i64 0, .int .i64 0, .string ⟨#[]⟩, .int .i64 0, .int .i64 0, .string ⟨#[]⟩, .int .i64 0, .int .i64 0, .string ⟨#[]⟩, .int .i64 0, .int .i64 0]) (fun _ => by kernel_rfl)) rfl (gO ?_)
  refine XO.box (m := 24) (C := Tr.encP Tr.PS.init) rfl rfl Tr.boxP_init rfl ?_
  intro pi
  refine gO ?_
  refine XO.v (V.build (vs := #[(1, ptr gb 0 0), (2, ptr sb 0 0), (3, ptr qb 0 0), (4, ptr bb 0 0), (5, ptr tb 0 0), (6, ptr pi 0 0)]) rfl (v := .agg (arrK0 (KP.raw gb sb qb bb tb pi))) (raw_build _ _ _ _ _ _)) rfl (gO ?_)
  refine XO.box (m := 453) (C := encK0 (KP.raw gb sb qb bb tb pi)) rfl (arrK0_size _) (arrK0_box _) rfl ?_
  intro kb
  refine gO ?_
  refine rq [0, 1, 2, 3, 4, 5, 6, 7, 8, 9, 10, 11, 12] mixed (by kernel_rfl) ?_
  refine ld .here (encK0.ld_t _) ?_
  refine ld .here (encK0.ld_pi _) ?_
  refine ca (Tr.f_New tb pi) .nil ?_
  rintro _ _ ⟨ob, rfl, rfl⟩
  refine gO ?_
  refine st (.there .here) (encK0.st_o _ _) rfl ?_
  refine ld (.there .here) (encKn.ld_t _) ?_
  refine ca (Tr.t_Plant _ _ _ (Tr.FF.inv_void.sh (by omega))) (.cons (.t3 .here) (.cons (.t3 .here) (.cons (.t3 .here) (.cons (.t3 .here) .nil)))) ?_
  rintro _ _ ⟨t0, rfl, ht0, rfl⟩
  obtain ⟨d1, o1⟩ := Tr.FF.inv_void.plant
  have o2 : t0.toFF.Ok d1 (0 + 1) := by rw [ht0]; exact o1
  have hrt : t0.rootE 0 = 0 := by show t0.toFF.rootE 0 = 0; rw [ht0]; decide +kernel
  refine gO ?_
  refine rq [0, 1, 2, 3, 4, 9, 10, 5, 6, 7, 8, 11, 12] mixed (by kernel_rfl) ?_
  refine ld (.t5 .here) (encKn.ld_t _) ?_
  refine ca (Tr.m_New _ t0 d1 _ o2 (by omega) 0) .h4 ?_
  rintro _ _ (⟨hne, rfl, rfl⟩ | ⟨_, bt, u0, rfl, hu0, _, _, rfl⟩)
  · skip
    exact absurd hrt hne
    skip
  · skip
    try dsimp only [errvL0, errvL1, errvL2, errvL3, errvL4, errvL5, errvL6, errvL7, errvL8, errvL9, errvL10, errvL11, errvL12, errvL13]
    refine gO ?_
    refine sd (by omega) ?_
    refine st (.t7 .here) (encKn.st_ms _ (by omega) _) rfl ?_
    refine rq [0, 1, 2, 3, 4, 7, 8, 5, 6, 9, 10] mixed (by kernel_rfl) ?_
    refine ld (.t7 .here) (encKn.ld_b _) ?_
    refine ca (Vm.v_New bb) .nil ?_
    rintro _ _ ⟨mb, rfl, rfl⟩
    refine gO ?_
    refine XO.v (V.build (vs := #[(0, .int .i64 1), (1, .int .i64 (-1)), (4, ptr mb 0 0)]) rfl (v := .agg (PU.arr (firstU mb))) (first_build mb)) rfl (gO ?_)
    refine sd (by omega) ?_
    refine stA (.t9 .here) (encKn.put_ _ (by omega) (firstU mb)) rfl ⟨rfl, rfl⟩ ?_
    refine ld (.t9 .here) (encKn.ld_g _) ?_
    refine ca (Gr.g_charge _ _ Gr.TG.init Gr.TG.Inv.init.ok 0 1 0 0 (by omega) Gr.TG.Small.init) (.cons (.t12 (.t4 .here)) .nil) ?_
    rintro _ _ ⟨rfl, rfl⟩
    refine gO ?_
    refine ld (.t10 .here) (encKn.ld_s _) ?_
    refine ca (Sp.t_Enter _ _ Sp.SS.init (fun _ => 1) Sp.SS.Inv.init.D 0 0) (.cons (.t12 (.t4 .here)) .nil) ?_
    rintro _ _ ⟨rfl, rfl⟩
    refine gO ?_
    refine ld (.t11 .here) (encKn.ld_q _) ?_
    refine ca (Fa.f_AddTask _ _ q0 (fun _ => 0) (by rw [hq0]; exact Fa.SF.init_ok.inv) hr0 0 0 100) (.cons (.t12 (.t3 .here)) (.cons (.t12 (.t3 .here)) .nil)) ?_
    rintro _ _ ⟨rfl, q1, hq1, hr1, rfl⟩
    have hq1 : q1.toSF = Q1 := by rw [hq1, hq0]; rfl
    refine gO ?_
    refine ld (.t12 (.there .here)) (encKn.ld_q _) ?_
    refine ca (Fa.f_wake _ _ q1 dK (by rw [hq1]; exact Q1_ok.inv) hr1 0 true) .h2 ?_
    rintro _ _ ⟨rfl, q2, hq2, hr2, rfl⟩
    have hq2 : q2.toSF = Q2 := by rw [hq2, hq1]; rfl
    refine gO ?_
    refine XE.ret1 rfl rfl (post_of (.cons (.t12 (.there .here)) (.cons (.t3 .here) (.cons (.t2 .here) (.cons .here (.cons .here (.cons (.t10 .here) (.cons (.t10 .here) .h2))))))) rfl ?_)
    try dsimp only [SW.den, SV.den, dens, ofC]
    exact ⟨kb, _, vp, mb, q2, rfl, ⟨rfl⟩, hq2, hr2, rfl⟩
end Go.X.Kn

namespace Go.X.Kn
open Go Go.Proofs Go.X
set_option maxRecDepth 20000
set_option maxHeartbeats 4000000

set_option maxHeartbeats 8000000 in
theorem k_exitQ (kb : Nat) (k : KP) (n co : Int) (hn : 0 ≤ n ∧ n < 20) (g : Gr.TG) (hO : g.Ok) (Bd : Int) (hB : 0 ≤ Bd ∧ Bd ≤ 1000000000000) (hS : g.Small Bd) (s : Sp.SS) (q : Fa.SC) (d : Int → Nat) (hQ : q.toSF.Inv d) (hR : q.Rep) (vp mb : Nat) (v : Vm.VB) (hv : v.Ok) (p : Option Addr) (c : Nat) (m : Vm.MS) (hm : m.Ok) (hin : m.In v) (hmem : (k.u n).mem = ptr mb 0 0) (hf : ∀ i, (k.u n).fd i = 0) (hh : (s.find (s.in_ n).1 1).1 ≠ n) (hq : ∀ j, Quiet (k.u j).bx) : Spec Tryz.prog 63 [ptr kb 0 0, .int .i64 n, .int .i64 co]
 [.cells kb 0 453 (encKn k), .cells k.gb 0 60 (Gr.encGt g), .cells k.sb 0 158 (Sp.encT s), .cells k.qb 0 2281 (Fa.encS q), .fam Fa.fam30 (Fa.SC.rows 254 q), .cells k.bb 0 577 (Vm.encK vp v.by_ v.rf), .cells vp 0 71 (Vm.encP v.bb.pool), .cells mb 0 34 (Vm.encN k.bb p (Vm.runs m.is_).length c m.fr m.own), frow p c 171 3 (Vm.runs m.is_).length (Vm.rgC (Vm.runs m.is_)), .ro 0 0 32 Sg.tab32]
 (fun x H1 => ∃ t : Fa.SC, t.toSF = q.toSF.dropT d n ∧ t.Rep ∧ ∃ pu cu, H1 = [.cells kb 0 453 (encKn ((k.ended n co).adopt n (s.find (s.in_ n).1 1).1 20)), .cells k.gb 0 60 (Gr.encGt (g.unch (k.u n).grp 0 (m.unmap v 0 16).1)), .cells k.sb 0 158 (Sp.encT s), .cells k.qb 0 2281 (Fa.encS t), .fam Fa.fam30 (Fa.SC.rows 254 t), .cells k.bb 0 577 (Vm.encK vp (m.unmap v 0 16).2.2.1.by_ (m.unmap v 0 16).2.2.1.rf), .cells vp 0 71 (Vm.encP (m.unmap v 0 16).2.2.1.bb.pool), .cells mb 0 34 (Vm.encN k.bb pu (Vm.runs (m.unmap v 0 16).2.2.2.is_).length cu (m.unmap v 0 16).2.2.2.fr (m.unmap v 0 16).2.2.2.own), frow pu cu 171 3 (Vm.runs (m.unmap v 0 16).2.2.2.is_).length (Vm.rgC (Vm.runs (m.unmap v 0 16).2.2.2.is_))]) := by
  refine Spec.go 65 [0, 1, 2, 6, 7, 8, 21, 26, 27, 47] [] Tryz.func63 rfl rfl rfl ?_
  intro W
  refine ca (k_space kb _ s n) (.cons .here (.cons (.there .here) .nil)) ?_
  rintro _ _ ⟨rfl, rfl⟩
  refine gO ?_
  refine ca (k_head kb _ s _) .h2 ?_
  rintro _ _ ⟨rfl, rfl⟩
  refine gO ?_
  refine ca (k_endN kb k n co hn g hO Bd hB hS q d hQ hR vp mb v hv _ _ m hm hin hmem hf) (.cons .here (.cons (.there .here) (.cons (.there .here) (.cons (.there .here) (.cons (.there .here) (.cons (.there .here) (.cons (.there .here) (.cons (.there .here) .nil)))))))) ?_
  rintro _ _ ⟨t, ht, hr, pu, cu, rfl⟩
  refine gO ?_
  refine cdF rfl (hh) ?_
  refine lp (σ := Int) (fun i => (20 - i).toNat) (fun i => 0 ≤ i ∧ i ≤ 20) (fun i => [(26, .int .i64 i), (0, ptr kb 0 0), (1, .int .i64 n), (7, .int .i64 (s.find (s.in_ n).1 1).1)]) (fun i => XM W (foot [.cells kb 0 453 (encKn k), .cells k.gb 0 60 (Gr.encGt g), .cells k.sb 0 158 (Sp.encT s), .cells k.qb 0 2281 (Fa.encS q), .fam Fa.fam30 (Fa.SC.rows 254 q), .cells k.bb 0 577 (Vm.encK vp v.by_ v.rf), .cells vp 0 71 (Vm.encP v.bb.pool), .cells mb 0 34 (Vm.encN k.bb p (Vm.runs m.is_).length c m.fr m.own), frow p c 171 3 (Vm.runs m.is_).length (Vm.rgC (Vm.runs m.is_)), .ro 0 0 32 Sg.tab32]) [.cells kb 0 453 (encKn ((k.ended n co).adopt n (s.find (s.in_ n).1 1).1 i)), .cells k.gb 0 60 (Gr.encGt (g.unch (k.u n).grp 0 (m.unmap v 0 16).1)), .cells k.sb 0 158 (Sp.encT s), .cells k.qb 0 2281 (Fa.encS t), .fam Fa.fam30 (Fa.SC.rows 254 t), .cells k.bb 0 577 (Vm.encK vp (m.unmap v 0 16).2.2.1.by_ (m.unmap v 0 16).2.2.1.rf), .cells vp 0 71 (Vm.encP (m.unmap v 0 16).2.2.1.bb.pool), .cells mb 0 34 (Vm.encN k.bb pu (Vm.runs (m.unmap v 0 16).2.2.2.is_).length cu (m.unmap v 0 16).2.2.2.fr (m.unmap v 0 16).2.2.2.own), frow pu cu 171 3 (Vm.runs (m.unmap v 0 16).2.2.2.is_).length (Vm.rgC (Vm.runs (m.unmap v 0 16).2.2.2.is_)), .ro 0 0 32 Sg.tab32]) (0) ?_ (S4 rfl rfl rfl rfl) (fun _ hw2 => by rw [KP.adopt_zero]; exact XM.pick (.cons .here (.cons .here (.cons (.t6 .here) .h7))) hw2) ?_
  · skip
    omega
  intro i hi
  refine gC ?_
  refine cd rfl ?_ ?_ <;> intro h1
  · skip
    refine sd (by omega) ?_
    refine ld .here (encKn.ld_st _ (by omega)) ?_
    refine sp 37 rfl ?_ ?_ <;> intro h2
    · skip
      rw [KP.adopt_at _ _ _ (Int.le_refl _)] at h2
      have h81 := h2
      refine sd (by omega) ?_
      refine ld .here (encKn.ld_par _ (by omega)) ?_
      refine cd rfl ?_ ?_ <;> intro h3
      · skip
        rw [KP.adopt_at _ _ _ (Int.le_refl _)] at h3
        have h82 := h3
        refine sd (by omega) ?_
        refine st .here (encKn.st_par _ (by omega) _) rfl ?_
        refine sd (by omega) ?_
        refine ag (i + 1) ?_ ?_ (S4 rfl rfl rfl rfl) (fun _ hw2 => by rw [← KP.adopt_hit _ _ _ hi.1 h81 h82]; exact XM.pick .h10 hw2)
        · skip
          (first | omega | (simp; done) | (simp; omega))
        · skip
          (first | omega | (simp; done) | (simp; omega))
      · skip
        rw [KP.adopt_at _ _ _ (Int.le_refl _)] at h3
        have h82 := h3
        refine sd (by omega) ?_
        refine ag (i + 1) ?_ ?_ (S4 rfl rfl rfl rfl) (fun _ hw2 => by rw [KP.adopt_miss _ _ _ (fun c => h82 c.2)]; exact XM.pick .h10 hw2)
        · skip
          (first | omega | (simp; done) | (simp; omega))
        · skip
          (first | omega | (simp; done) | (simp; omega))
    · skip
      rw [KP.adopt_at _ _ _ (Int.le_refl _)] at h2
      have h81 := h2
      refine sd (by omega) ?_
      refine ag (i + 1) ?_ ?_ (S4 rfl rfl rfl rfl) (fun _ hw2 => by rw [KP.adopt_miss _ _ _ (fun c => h81 c.1)]; exact XM.pick .h10 hw2)
      · skip
        (first | omega | (simp; done) | (simp; omega))
      · skip
        (first | omega | (simp; done) | (simp; omega))
  · skip
    obtain rfl : i = 20 := by omega
    refine sd (by omega) ?_
    refine ld .here (encKn.ld_par _ (by omega)) ?_
    refine caR 1 (k_sendQ kb _ _ false (fun _ => by rw [(KP.adopt_keep _ _ _ _ _).2.1, KP.ended_bx]; exact hq _)) (.cons .here (.cons (.t8 .here) .nil)) rfl ?_
    rintro _ _ rfl
    refine gO ?_
    refine XE.end0 rfl (post_of (.cons .here (.cons (.there .here) (.cons (.there .here) (.cons (.there .here) (.cons (.there .here) (.cons (.there .here) (.cons (.there .here) (.cons (.there .here) (.cons (.there .here) .nil))))))))) rfl ?_)
    try dsimp only [SW.den, SV.den, dens, ofC]
    exact ⟨t, ht, hr, pu, cu, rfl⟩
set_option maxHeartbeats 8000000 in
theorem k_ExitK (kb : Nat) (k : KP) (mb : Nat → Nat) (hK : Kid k mb) (n co : Int) (g : Gr.TG) (hO : g.Ok) (Bd : Int) (hB : 0 ≤ Bd ∧ Bd ≤ 1000000000000) (hS : g.Small Bd) (s : Sp.SS) (q : Fa.SC) (d : Int → Nat) (hQ : q.toSF.Inv d) (hR : q.Rep) (vp : Nat) (ps : Nat → Option Addr) (cs : Nat → Nat) (hh : k.live n = 0 → n ≠ 0 → (s.find (s.in_ n).1 1).1 ≠ n) : Spec Tryz.prog 16 [ptr kb 0 0, .int .i64 n, .int .i64 co]
 [.cells kb 0 453 (encKn k), .cells k.gb 0 60 (Gr.encGt g), .cells k.sb 0 158 (Sp.encT s), .cells k.qb 0 2281 (Fa.encS q), .fam Fa.fam30 (Fa.SC.rows 254 q), .cells k.bb 0 577 (Vm.encK vp Vm.VB.init.by_ Vm.VB.init.rf), .cells vp 0 71 (Vm.encP Vm.VB.init.bb.pool), .cfam (lv k) mb 34 (cN k.bb (fun _ => Vm.MS.nil) ps cs), .fam (lv k) (rN 171 (fun _ => Vm.MS.nil) ps cs), .ro 0 0 32 Sg.tab32]
 (fun x H1 => (k.exitE n co ≠ 0 ∧ x = .iface 102 (.int .i64 (k.exitE n co)) ∧ H1 = [.cells kb 0 453 (encKn k), .cells k.gb 0 60 (Gr.encGt g), .cells k.sb 0 158 (Sp.encT s), .cells k.qb 0 2281 (Fa.encS q), .fam Fa.fam30 (Fa.SC.rows 254 q), .cells k.bb 0 577 (Vm.encK vp Vm.VB.init.by_ Vm.VB.init.rf), .cells vp 0 71 (Vm.encP Vm.VB.init.bb.pool), .cfam (lv k) mb 34 (cN k.bb (fun _ => Vm.MS.nil) ps cs), .fam (lv k) (rN 171 (fun _ => Vm.MS.nil) ps cs)]) ∨ (k.exitE n co = 0 ∧ x = .nilIface ∧ ∃ t : Fa.SC, t.toSF = q.toSF.dropT d n ∧ t.Rep ∧ ∃ pu cu, H1 = [.cells kb 0 453 (encKn ((k.ended n co).adopt n (s.find (s.in_ n).1 1).1 20)), .cells k.gb 0 60 (Gr.encGt (g.unch 0 0 0)), .cells k.sb 0 158 (Sp.encT s), .cells k.qb 0 2281 (Fa.encS t), .fam Fa.fam30 (Fa.SC.rows 254 t), .cells k.bb 0 577 (Vm.encK vp Vm.VB.init.by_ Vm.VB.init.rf), .cells vp 0 71 (Vm.encP Vm.VB.init.bb.pool), .cfam (lv k) mb 34 (cN k.bb (fun _ => Vm.MS.nil) (fupd ps n.toNat pu) (fupd cs n.toNat cu)), .fam (lv k) (rN 171 (fun _ => Vm.MS.nil) (fupd ps n.toNat pu) (fupd cs n.toNat cu))])) := by
  refine Spec.go 32 [0, 1, 2, 6, 8, 16, 23, 26] [] Tryz.func16 rfl rfl rfl ?_
  intro W
  refine ca (k_live kb _ _) .h1 ?_
  rintro _ _ ⟨⟨hl, rfl⟩ | ⟨hl, rfl⟩, rfl⟩
  · skip
    try dsimp only [errvL0, errvL1, errvL2, errvL3, errvL4, errvL5, errvL6, errvL7, errvL8, errvL9, errvL10, errvL11, errvL12, errvL13]
    obtain ⟨hlr, hls⟩ := KP.live_rng hl
    refine gO ?_
    refine sp 20 rfl ?_ ?_ <;> intro h1
    · skip
      refine XE.ret1 rfl rfl (post_of .h9 rfl ?_)
      try dsimp only [SW.den, SV.den, dens, ofC]
      have e : k.exitE n co = 1 := by unfold KP.exitE; rw [if_neg (by omega), if_pos (by omega)]
      exact .inl ⟨by rw [e]; decide, by rw [e] <;> rfl, rfl⟩
    · skip
      refine cd rfl ?_ ?_ <;> intro h2
      · skip
        refine XE.ret1 rfl rfl (post_of .h9 rfl ?_)
        try dsimp only [SW.den, SV.den, dens, ofC]
        have e : k.exitE n co = 1 := by unfold KP.exitE; rw [if_neg (by omega), if_pos (by omega)]
        exact .inl ⟨by rw [e]; decide, by rw [e] <;> rfl, rfl⟩
      · skip
        refine cd rfl ?_ ?_ <;> intro h3
        · skip
          refine XE.ret1 rfl rfl (post_of .h9 rfl ?_)
          try dsimp only [SW.den, SV.den, dens, ofC]
          have e : k.exitE n co = 8 := by unfold KP.exitE; rw [if_neg (by omega), if_neg (by omega), if_pos (by omega)]
          exact .inl ⟨by rw [e]; decide, by rw [e] <;> rfl, rfl⟩
        · skip
          refine XR.mono (fun _ hw3 => XM.outM (z := n.toNat) (lv_at hlr (by omega)) (.cons (.t7 .here) (.cons (.t7 .here) .nil)) hw3) ?_
          refine caR 9 (k_exitQ kb k n co hlr g hO Bd hB hS s q d hQ hR vp _ Vm.VB.init Vm.VB.Ok.init _ _ Vm.MS.nil Vm.MS.Ok.nil (fun i h => absurd (show (0 : Int) < 0 from h) (by decide)) (hK.mem n hlr.1 hlr.2 (by omega)) (hK.fd n) (hh hl (by omega)) hK.quiet) (.cons (.t4 .here) (.cons (.t4 .here) (.cons (.t4 .here) (.cons (.t4 .here) (.cons (.t4 .here) (.cons (.t4 .here) (.cons (.t4 .here) (.cons .here (.cons .here (.cons (.t2 .here) .nil)))))))))) rfl ?_
          rintro _ _ ⟨t, ht, hr, pu, cu, rfl⟩
          rw [nil_unmap, hK.grp]
          refine gO ?_
          refine XR.mono (fun _ hw3 => XM.backM Vm.MS.nil (lv_at hlr (by omega)) (.cons (.t7 .here) (.cons (.t7 .here) (.cons (.t8 .here) (.cons (.t8 .here) .nil)))) hw3) ?_
          rw [fupd_self (fun _ => Vm.MS.nil)]
          refine XE.ret1 rfl rfl (post_of (.cons (.t2 .here) (.cons (.t2 .here) (.cons (.t2 .here) (.cons (.t2 .here) (.cons (.t2 .here) (.cons (.t2 .here) (.cons (.t2 .here) .h2))))))) rfl ?_)
          try dsimp only [SW.den, SV.den, dens, ofC]
          have e : k.exitE n co = 0 := by unfold KP.exitE; rw [if_neg (by omega), if_neg (by omega), if_neg (by omega)]
          exact .inr ⟨e, rfl, t, ht, hr, pu, cu, rfl⟩
  · skip
    try dsimp only [errvL0, errvL1, errvL2, errvL3, errvL4, errvL5, errvL6, errvL7, errvL8, errvL9, errvL10, errvL11, errvL12, errvL13]
    refine gO ?_
    refine XE.ret1 rfl rfl (post_of .h9 rfl ?_)
    try dsimp only [SW.den, SV.den, dens, ofC]
    have e : k.exitE n co = k.live n := by unfold KP.exitE; rw [if_pos hl]
    exact .inl ⟨by rw [e]; exact hl, by rw [e] <;> rfl, rfl⟩
end Go.X.Kn

namespace Go.X.Kn
open Go Go.Proofs Go.X
set_option maxRecDepth 20000
set_option maxHeartbeats 4000000
theorem ag_39 : aggT Tryz.prog 39 = true := by kernel_rfl
theorem sz_39_2 : szOf Tryz.prog 39 = some 2 := by kernel_rfl
set_option maxHeartbeats 8000000 in
theorem k_WaitK (kb : Nat) (k : KP) (mb : Nat → Nat) (hK : Kid k mb) (n : Int) (g : Gr.TG) (hO : g.Ok) (Bd : Int) (hB : 0 ≤ Bd ∧ Bd ≤ 1000000000000) (hS : g.Small Bd) (s : Sp.SS) (dep : Int → Nat) (hI : s.Inv dep) (ps : Nat → Option Addr) (cs : Nat → Nat) (hz : ∀ t, (s.in_ t).1 = 0) : Spec Tryz.prog 17 [ptr kb 0 0, .int .i64 n]
 [.cells kb 0 453 (encKn k), .cells k.gb 0 60 (Gr.encGt g), .cells k.sb 0 158 (Sp.encT s), .cfam (lv k) mb 34 (cN k.bb (fun _ => Vm.MS.nil) ps cs), .fam (lv k) (rN 171 (fun _ => Vm.MS.nil) ps cs)]
 (fun v H1 => (∃ e : Int, e ≠ 0 ∧ v = .tuple #[.agg #[.int .i64 0, .int .i64 0], .iface 102 (.int .i64 e)] ∧ H1 = [.cells kb 0 453 (encKn k), .cells k.gb 0 60 (Gr.encGt g), .cells k.sb 0 158 (Sp.encT s), .cfam (lv k) mb 34 (cN k.bb (fun _ => Vm.MS.nil) ps cs), .fam (lv k) (rN 171 (fun _ => Vm.MS.nil) ps cs)]) ∨ (∃ t pid : Int, (0 ≤ t ∧ t < 20) ∧ (k.u t).st = 2 ∧ s.pid t 0 = (pid, 0) ∧ v = .tuple #[.agg #[.int .i64 pid, .int .i64 (k.u t).code], .nilIface] ∧ H1 = [.cells kb 0 453 (encKn (k.put t PU.nil)), .cells k.gb 0 60 (Gr.encGt (g.unch 0 1 0)), .cells k.sb 0 158 (Sp.encT (s.leave t).2), .cfam (outP (lv k) t.toNat) mb 34 (cN k.bb (fun _ => Vm.MS.nil) ps cs), .fam (outP (lv k) t.toNat) (rN 171 (fun _ => Vm.MS.nil) ps cs)])) := by
  refine Spec.go 115 [0, 1, 4, 5, 7, 8, 9, 10, 11, 12, 13, 14, 22, 26, 27, 47, 83, 95, 100] [] Tryz.func17 rfl rfl rfl ?_
  intro W
  refine XO.allocZ (z := .agg #[.int .i64 0, .int .i64 0]) (m := 2) (C := chC 0 0) (by kernel_rfl) rfl chC.box rfl ?_
  intro b4
  refine gO ?_
  refine ca (k_live kb _ _) (.cons (.there .here) .nil) ?_
  rintro _ _ ⟨⟨hl, rfl⟩ | ⟨hl, rfl⟩, rfl⟩
  · skip
    try dsimp only [errvL0, errvL1, errvL2, errvL3, errvL4, errvL5, errvL6, errvL7, errvL8, errvL9, errvL10, errvL11, errvL12, errvL13]
    obtain ⟨hlr, hls⟩ := KP.live_rng hl
    have hmem := hK.mem n hlr.1 hlr.2 (by omega)
    refine gO ?_
    refine XO.v (V.build (vs := #[]) rfl (v := .agg #[.int .i64 0, .int .i64 0]) (fun _ => by kernel_rfl)) rfl (gO ?_)
    refine XO.allocZ (z := .agg #[.int .i64 0, .int .i64 0]) (m := 2) (C := chC 0 0) (by kernel_rfl) rfl chC.box rfl ?_
    intro b10
    refine gO ?_
    refine stA .here (chC.st _ _ _ _) rfl ⟨rfl, rfl⟩ ?_
    refine lp (σ := Int × Int × Int × Int × Int) (fun x => (20 - x.1).toNat) (fun x => (0 ≤ x.1 ∧ x.1 ≤ 20) ∧ (0 ≤ x.2.1 ∧ x.2.1 ≤ x.1) ∧ (x.2.2.1 < 0 ∨ ((0 ≤ x.2.2.1 ∧ x.2.2.1 < 20) ∧ (k.u x.2.2.1).st = 2 ∧ s.pid x.2.2.1 0 = (x.2.2.2.1, 0) ∧ x.2.2.2.2 = (k.u x.2.2.1).code))) (fun x => [(26, .int .i64 x.1), (9, .int .i64 x.2.1), (8, .int .i64 x.2.2.1), (0, ptr kb 0 0), (1, .int .i64 n), (4, ptr b4 0 0), (10, ptr b10 0 0)]) (fun x => XM W (foot [.cells kb 0 453 (encKn k), .cells k.gb 0 60 (Gr.encGt g), .cells k.sb 0 158 (Sp.encT s), .cfam (lv k) mb 34 (cN k.bb (fun _ => Vm.MS.nil) ps cs), .fam (lv k) (rN 171 (fun _ => Vm.MS.nil) ps cs)]) [.cells kb 0 453 (encKn k), .cells k.sb 0 158 (Sp.encT s), .cells b10 0 2 (chC x.2.2.2.1 x.2.2.2.2), .cells b4 0 2 (chC 0 0), .cells k.gb 0 60 (Gr.encGt g), .cfam (lv k) mb 34 (cN k.bb (fun _ => Vm.MS.nil) ps cs), .fam (lv k) (rN 171 (fun _ => Vm.MS.nil) ps cs)]) ((0, 0, -1, 0, 0)) ?_ (.cons rfl (S6 rfl rfl rfl rfl rfl rfl)) (fun _ hw => XM.pick (.cons (.there .here) (.cons (.t3 .here) .h5)) hw) ?_
    · skip
      exact ⟨by simp, by simp, .inl (by show (-1 : Int) < 0; omega)⟩
    intro x hx
    obtain ⟨hi, hk, hc⟩ := hx
    refine gC ?_
    refine cd rfl ?_ ?_ <;> intro h1
    · skip
      refine sd (by omega) ?_
      refine ld .here (encKn.ld_st _ (by omega)) ?_
      refine sp 37 rfl ?_ ?_ <;> intro h2
      · skip
        refine sd (by omega) ?_
        refine ag ((x.1 + 1, x.2)) ?_ ?_ (.cons rfl (S6 rfl rfl rfl rfl rfl rfl)) (fun _ hw => XM.pick .h7 hw)
        · skip
          (show (20 - (x.1 + 1)).toNat < (20 - x.1).toNat; omega)
        · skip
          exact ⟨(by show 0 ≤ x.1 + 1 ∧ x.1 + 1 ≤ 20; omega), (by show 0 ≤ x.2.1 ∧ x.2.1 ≤ x.1 + 1; omega), hc⟩
      · skip
        refine sd (by omega) ?_
        refine ld .here (encKn.ld_par _ (by omega)) ?_
        refine cd rfl ?_ ?_ <;> intro h3
        · skip
          refine sd (by omega) ?_
          refine ag ((x.1 + 1, x.2)) ?_ ?_ (.cons rfl (S6 rfl rfl rfl rfl rfl rfl)) (fun _ hw => XM.pick .h7 hw)
          · skip
            (show (20 - (x.1 + 1)).toNat < (20 - x.1).toNat; omega)
          · skip
            exact ⟨(by show 0 ≤ x.1 + 1 ∧ x.1 + 1 ≤ 20; omega), (by show 0 ≤ x.2.1 ∧ x.2.1 ≤ x.1 + 1; omega), hc⟩
        · skip
          refine sd (by omega) ?_
          refine XC.regionQ mixed (f := 14) (l := #[false, false, false, false, false, false, false, false, false, false, false, false, false, false]) rfl rfl XM.drawn' ?_
          refine XQ.pv (i := 0) (l' := #[true, false, false, false, false, false, false, false, false, false, false, false, false, false]) rfl (by kernel_rfl) rfl (V.move rfl) rfl rfl ?_
          refine XQ.pv (i := 1) (l' := #[true, true, false, false, false, false, false, false, false, false, false, false, false, false]) rfl (by kernel_rfl) rfl (V.nilCheckP rfl) rfl rfl ?_
          refine XQ.pv (i := 2) (l' := #[true, true, true, false, false, false, false, false, false, false, false, false, false, false]) rfl (by kernel_rfl) rfl (V.fieldAddr rfl fo_101_2) rfl rfl ?_
          refine XQ.load (i := 3) (l' := #[true, true, true, true, false, false, false, false, false, false, false, false, false, false]) (.cells _ _ _ _) [8] rfl (by kernel_rfl) rfl .here (V.load rfl inEnt (encKn.ld_s _) sc_92) rfl (by kernel_rfl) rfl ?_
          refine XQ.pv (i := 4) (l' := #[true, true, true, true, true, false, false, false, false, false, false, false, false, false]) rfl (by kernel_rfl) rfl (V.move rfl) rfl rfl ?_
          refine XQ.pv (i := 5) (l' := #[true, true, true, true, true, true, false, false, false, false, false, false, false, false]) rfl (by kernel_rfl) rfl (V.move rfl) rfl rfl ?_
          refine XQ.pv (i := 6) (l' := #[true, true, true, true, true, true, true, false, false, false, false, false, false, false]) rfl (by kernel_rfl) rfl (V.move rfl) rfl rfl ?_
          refine XQ.call (i := 7) (l' := #[true, true, true, true, true, true, true, true, false, false, false, false, false, false]) rfl (by kernel_rfl) rfl rfl (k_space kb _ s _) .h2 cl_52 rfl (by rintro _ _ ⟨rfl, rfl⟩; (try (rw [hz])); all_goals (intro _ hw'; exact ⟨fun _ => inXM .here _ hw', trivial⟩)) ?_
          rintro _ _ ⟨rfl, rfl⟩
          rw [hz]
          refine XQ.call (i := 8) (l' := #[true, true, true, true, true, true, true, true, true, false, false, false, false, false]) rfl (by kernel_rfl) rfl rfl (Sp.t_Pid _ _ s _ _) (.cons (.there .here) .nil) cl_62 rfl (by rintro _ _ ⟨rfl, rfl⟩; all_goals (intro _ hw'; exact ⟨fun hs => (hs 8 (by first | (simp; done) | (simp; rfl)) rfl).elim, trivial⟩)) ?_
          rintro _ _ ⟨rfl, rfl⟩
          refine XQ.pv (i := 9) (l' := #[true, true, true, true, true, true, true, true, true, true, false, false, false, false]) rfl (by kernel_rfl) rfl (V.move rfl) rfl rfl ?_
          refine XQ.pv (i := 10) (l' := #[true, true, true, true, true, true, true, true, true, true, true, false, false, false]) rfl (by kernel_rfl) rfl (V.extract rfl rfl) rfl rfl ?_
          refine XQ.pv (i := 11) (l' := #[true, true, true, true, true, true, true, true, true, true, true, true, false, false]) rfl (by kernel_rfl) rfl (V.extract rfl rfl) rfl rfl ?_
          refine XQ.pv (i := 12) (l' := #[true, true, true, true, true, true, true, true, true, true, true, true, true, false]) rfl (by kernel_rfl) rfl (V.assign rfl) rfl rfl ?_
          refine XQ.pv (i := 13) (l' := #[true, true, true, true, true, true, true, true, true, true, true, true, true, true]) rfl (by kernel_rfl) rfl (V.assign rfl) rfl rfl ?_
          refine XQ.done (by kernel_rfl) ?_
          refine gE ?_
          refine sp 64 rfl ?_ ?_ <;> intro h4
          · skip
            have hpe := h4
            refine sd (by omega) ?_
            refine ld (.there .here) (encKn.ld_st _ (by omega)) ?_
            refine sp 74 rfl ?_ ?_ <;> intro h5
            · skip
              refine sp 77 rfl ?_ ?_ <;> intro h6
              · skip
                refine rq [0, 1, 2, 3, 4, 5, 6, 7, 8, 9, 10, 11] mixed (by kernel_rfl) ?_
                refine sd (by omega) ?_
                refine ld (.there .here) (encKn.ld_code _ (by omega)) ?_
                refine XO.v (V.build (vs := #[(0, .int .i64 (s.pid x.1 0).1), (1, .int .i64 (k.u x.1).code)]) rfl (v := .agg #[.int .i64 (s.pid x.1 0).1, .int .i64 (k.u x.1).code]) (fun _ => by kernel_rfl)) rfl (gO ?_)
                refine stA (.t2 .here) (chC.st _ _ _ _) rfl ⟨rfl, rfl⟩ ?_
                refine sd (by omega) ?_
                refine ag ((x.1 + 1, x.2.1 + 1, x.1, (s.pid x.1 0).1, (k.u x.1).code)) ?_ ?_ (.cons rfl (S6 rfl rfl rfl rfl rfl rfl)) (fun _ hw => XM.pick (.cons (.there .here) .h6) hw)
                · skip
                  (show (20 - (x.1 + 1)).toNat < (20 - x.1).toNat; omega)
                · skip
                  exact ⟨(by show 0 ≤ x.1 + 1 ∧ x.1 + 1 ≤ 20; omega), (by show 0 ≤ x.2.1 + 1 ∧ x.2.1 + 1 ≤ x.1 + 1; omega), .inr ⟨(by show 0 ≤ x.1 ∧ x.1 < 20; omega), (by assumption), (Prod.ext rfl hpe), rfl⟩⟩
              · skip
                refine ld (.t2 .here) (chC.ld0 _ _) ?_
                refine cd rfl ?_ ?_ <;> intro h7
                · skip
                  refine rq [0, 1, 2, 3, 4, 5, 6, 7, 8, 9, 10, 11] mixed (by kernel_rfl) ?_
                  refine sd (by omega) ?_
                  refine ld (.there .here) (encKn.ld_code _ (by omega)) ?_
                  refine XO.v (V.build (vs := #[(0, .int .i64 (s.pid x.1 0).1), (1, .int .i64 (k.u x.1).code)]) rfl (v := .agg #[.int .i64 (s.pid x.1 0).1, .int .i64 (k.u x.1).code]) (fun _ => by kernel_rfl)) rfl (gO ?_)
                  refine stA (.t2 .here) (chC.st _ _ _ _) rfl ⟨rfl, rfl⟩ ?_
                  refine sd (by omega) ?_
                  refine ag ((x.1 + 1, x.2.1 + 1, x.1, (s.pid x.1 0).1, (k.u x.1).code)) ?_ ?_ (.cons rfl (S6 rfl rfl rfl rfl rfl rfl)) (fun _ hw => XM.pick (.cons (.there .here) .h6) hw)
                  · skip
                    (show (20 - (x.1 + 1)).toNat < (20 - x.1).toNat; omega)
                  · skip
                    exact ⟨(by show 0 ≤ x.1 + 1 ∧ x.1 + 1 ≤ 20; omega), (by show 0 ≤ x.2.1 + 1 ∧ x.2.1 + 1 ≤ x.1 + 1; omega), .inr ⟨(by show 0 ≤ x.1 ∧ x.1 < 20; omega), (by assumption), (Prod.ext rfl hpe), rfl⟩⟩
                · skip
                  refine sd (by omega) ?_
                  refine ag ((x.1 + 1, x.2.1 + 1, x.2.2)) ?_ ?_ (.cons rfl (S6 rfl rfl rfl rfl rfl rfl)) (fun _ hw => XM.pick (.cons (.there .here) .h6) hw)
                  · skip
                    (show (20 - (x.1 + 1)).toNat < (20 - x.1).toNat; omega)
                  · skip
                    exact ⟨(by show 0 ≤ x.1 + 1 ∧ x.1 + 1 ≤ 20; omega), (by show 0 ≤ x.2.1 + 1 ∧ x.2.1 + 1 ≤ x.1 + 1; omega), hc⟩
            · skip
              refine sd (by omega) ?_
              refine ag ((x.1 + 1, x.2.1 + 1, x.2.2)) ?_ ?_ (.cons rfl (S6 rfl rfl rfl rfl rfl rfl)) (fun _ hw => XM.pick (.cons (.there .here) .h6) hw)
              · skip
                (show (20 - (x.1 + 1)).toNat < (20 - x.1).toNat; omega)
              · skip
                exact ⟨(by show 0 ≤ x.1 + 1 ∧ x.1 + 1 ≤ 20; omega), (by show 0 ≤ x.2.1 + 1 ∧ x.2.1 + 1 ≤ x.1 + 1; omega), hc⟩
          · skip
            refine sd (by omega) ?_
            refine ag ((x.1 + 1, x.2.1 + 1, x.2.2)) ?_ ?_ (.cons rfl (S6 rfl rfl rfl rfl rfl rfl)) (fun _ hw => XM.pick (.cons (.there .here) .h6) hw)
            · skip
              (show (20 - (x.1 + 1)).toNat < (20 - x.1).toNat; omega)
            · skip
              exact ⟨(by show 0 ≤ x.1 + 1 ∧ x.1 + 1 ≤ 20; omega), (by show 0 ≤ x.2.1 + 1 ∧ x.2.1 + 1 ≤ x.1 + 1; omega), hc⟩
    · skip
      refine cd rfl ?_ ?_ <;> intro h8
      · skip
        refine XO.v (V.build (vs := #[]) rfl (v := .agg #[.int .i64 0, .int .i64 0]) (fun _ => by kernel_rfl)) rfl (gO ?_)
        refine stA (.t3 .here) (chC.st _ _ _ _) rfl ⟨rfl, rfl⟩ ?_
        refine XE.retG2 rfl (.agg rfl (.t3 .here) (chC.agg _ _) ag_39 sz_39_2) (.tmp rfl) (post_of (.cons .here (.cons (.t3 .here) (.cons .here (.cons (.t2 .here) (.cons (.t2 .here) .nil))))) rfl ?_)
        try dsimp only [SW.den, SV.den, dens, ofC]
        exact .inl ⟨2, by decide, rfl, rfl⟩
      · skip
        refine cd rfl ?_ ?_ <;> intro h9
        · skip
          refine XO.v (V.build (vs := #[]) rfl (v := .agg #[.int .i64 0, .int .i64 0]) (fun _ => by kernel_rfl)) rfl (gO ?_)
          refine stA (.t3 .here) (chC.st _ _ _ _) rfl ⟨rfl, rfl⟩ ?_
          refine XE.retG2 rfl (.agg rfl (.t3 .here) (chC.agg _ _) ag_39 sz_39_2) (.tmp rfl) (post_of (.cons .here (.cons (.t3 .here) (.cons .here (.cons (.t2 .here) (.cons (.t2 .here) .nil))))) rfl ?_)
          try dsimp only [SW.den, SV.den, dens, ofC]
          exact .inl ⟨8, by decide, rfl, rfl⟩
        · skip
          have hc0 : ¬ x.2.2.1 < 0 := h9
          obtain ⟨hc1, hc2, hc3, hc4⟩ := hc.resolve_left hc0
          refine ca (k_space kb _ s _) .h2 ?_
          rintro _ _ ⟨rfl, rfl⟩
          rw [hz]
          refine gO ?_
          refine ca (k_away kb k x.2.2.1 hc1 g hO Bd hB hS s dep hI) (.cons .here (.cons (.t3 .here) .h1)) ?_
          rintro _ _ rfl
          rw [hK.grp]
          refine gO ?_
          refine ca (k_shutN kb _ _ 0 (SS.drop0 _)) (.cons .here (.cons (.there .here) .nil)) ?_
          rintro _ _ rfl
          refine gO ?_
          refine XR.mono (fun _ hw3 => XM.outM (z := x.2.2.1.toNat) (lv_at hc1 (by omega)) (.cons (.t5 .here) (.cons (.t5 .here) .nil)) hw3) ?_
          refine ldA (.t7 .here) (chC.agg _ _) ?_
          refine stA (.t8 .here) (chC.st _ _ _ _) rfl ⟨rfl, rfl⟩ ?_
          refine XE.retG2 rfl (.agg rfl (.t8 .here) (chC.agg _ _) ag_39 sz_39_2) (.tmp rfl) (post_of (.cons (.t4 .here) (.cons (.t5 .here) (.cons (.t4 .here) (.cons (.t2 .here) (.cons (.t2 .here) .nil))))) rfl ?_)
          try dsimp only [SW.den, SV.den, dens, ofC]
          exact .inr ⟨x.2.2.1, x.2.2.2.1, hc1, hc2, hc3, by rw [← hc4] <;> rfl, rfl⟩
  · skip
    try dsimp only [errvL0, errvL1, errvL2, errvL3, errvL4, errvL5, errvL6, errvL7, errvL8, errvL9, errvL10, errvL11, errvL12, errvL13]
    refine gO ?_
    refine XO.v (V.build (vs := #[]) rfl (v := .agg #[.int .i64 0, .int .i64 0]) (fun _ => by kernel_rfl)) rfl (gO ?_)
    refine stA (.there .here) (chC.st _ _ _ _) rfl ⟨rfl, rfl⟩ ?_
    refine XE.retG2 rfl (.agg rfl (.there .here) (chC.agg _ _) ag_39 sz_39_2) (.tmp rfl) (post_of (.cons .here (.cons (.there .here) (.cons (.there .here) (.cons (.there .here) (.cons (.there .here) .nil))))) rfl ?_)
    try dsimp only [SW.den, SV.den, dens, ofC]
    exact .inl ⟨_, hl, rfl, rfl⟩
end Go.X.Kn
