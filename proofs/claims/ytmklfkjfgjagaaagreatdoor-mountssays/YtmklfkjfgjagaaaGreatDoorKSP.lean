import Derived.Test.YtmklfkjfgjagaaaGreatDoorNRM
import Derived.Test.YtmklfkjfgjagaaaGreatDoorNRO
import Derived.Test.YtmklfkjfgjagaaaGreatDoorXView
import Derived.Lib.SplitLaws
import Derived.Shelf.Strings.Split
namespace Go.X
open Go
/-! ### places, mounts, tables -/
structure WH where
  tree : Int
  node : Int
instance : DecidableEq WH := fun a b => if h : a.tree = b.tree ∧ a.node = b.node then isTrue (by cases a; cases b; simp only at h; rw [h.1, h.2]) else isFalse (fun e => h (by rw [e]; exact ⟨rfl, rfl⟩))
theorem WH.eq_iff {a b : WH} : (a.tree = b.tree ∧ a.node = b.node) ↔ a = b := ⟨fun h => by cases a; cases b; simp only at h; rw [h.1, h.2], fun e => by rw [e]; exact ⟨rfl, rfl⟩⟩
def WH.nil : WH := ⟨0, 0⟩
abbrev WH.arr (w : WH) : Array Value := #[.int .i64 w.tree, .int .i64 w.node]
def encW (w : WH) (i : Nat) : Value := if i = 0 then .int .i64 w.tree else if i = 1 then .int .i64 w.node else undef
structure MT where
  at_ : WH
  to : WH
def MT.nil : MT := ⟨WH.nil, WH.nil⟩
abbrev MT.arr (m : MT) : Array Value := #[.int .i64 m.at_.tree, .int .i64 m.at_.node, .int .i64 m.to.tree, .int .i64 m.to.node]
def encMt (m : MT) (i : Nat) : Value := if i = 0 then .int .i64 m.at_.tree else if i = 1 then .int .i64 m.at_.node else if i = 2 then .int .i64 m.to.tree else if i = 3 then .int .i64 m.to.node else undef
def mat (l : List MT) (z : Int) : MT := l.getD z.toNat MT.nil
def wat (l : List WH) (z : Int) : WH := l.getD z.toNat WH.nil
def mC (l : List MT) (i : Nat) : Value := encMt (mat l ((i / 4 : Nat) : Int)) (i % 4)
def wC (l : List WH) (i : Nat) : Value := encW (wat l ((i / 2 : Nat) : Int)) (i % 2)
/-- cells that hold these mounts, in front -/
def MC (C : Nat → Value) (l : List MT) : Prop := ∀ i, i < l.length * 4 → C i = mC l i
/-! a box, a place -/
theorem encW.box (w : WH) : ∀ i, i < 2 → cellsOf (WH.arr w) i = encW w i := fun i h => match i, h with
  | 0, _ => rfl
  | 1, _ => rfl
  | j + 2, h => absurd h (by omega)
theorem encW.agg (w : WH) : 0 + 2 ≤ 2 ∧ aggOf (encW w) 0 2 = .agg (WH.arr w) := ⟨by omega, rfl⟩
theorem encW.ld0 (w : WH) : 0 + 0 < 2 ∧ encW w (0 + 0) = .int .i64 w.tree := ⟨by omega, rfl⟩
theorem encW.ld1 (w : WH) : 0 + 1 < 2 ∧ encW w (0 + 1) = .int .i64 w.node := ⟨by omega, rfl⟩
theorem encW.st (w u : WH) : 0 + 2 ≤ 2 ∧ updL (encW w) 0 (WH.arr u).toList = encW u := by
  refine ⟨by omega, ?_⟩
  funext i
  match i with
  | 0 => rfl
  | 1 => rfl
  | k + 2 =>
    have e1 : ∀ w : WH, encW w (k + 2) = undef := fun w => by unfold encW; rw [if_neg (by omega), if_neg (by omega)]
    have e2 : updL (encW w) 0 (WH.arr u).toList (k + 2) = encW w (k + 2) := by simp [updL, upd]
    rw [e2, e1, e1]
theorem encMt.box (m : MT) : ∀ i, i < 4 → cellsOf (MT.arr m) i = encMt m i := fun i h => match i, h with
  | 0, _ => rfl
  | 1, _ => rfl
  | 2, _ => rfl
  | 3, _ => rfl
  | j + 4, h => absurd h (by omega)
theorem encMt.agg (m : MT) : 0 + 4 ≤ 4 ∧ aggOf (encMt m) 0 4 = .agg (MT.arr m) := ⟨by omega, rfl⟩
theorem encMt.ldA (m : MT) : 0 + 0 + 2 ≤ 4 ∧ aggOf (encMt m) (0 + 0) 2 = .agg (WH.arr m.at_) := ⟨by omega, rfl⟩
theorem encMt.ldT (m : MT) : 0 + 2 + 2 ≤ 4 ∧ aggOf (encMt m) (0 + 2) 2 = .agg (WH.arr m.to) := ⟨by omega, rfl⟩
theorem encMt.ldAn (m : MT) : 0 + 0 + 1 < 4 ∧ encMt m (0 + 0 + 1) = .int .i64 m.at_.node := ⟨by omega, rfl⟩
theorem encMt.ldTn (m : MT) : 0 + 2 + 1 < 4 ∧ encMt m (0 + 2 + 1) = .int .i64 m.to.node := ⟨by omega, rfl⟩
theorem encMt.st (m u : MT) : 0 + 4 ≤ 4 ∧ updL (encMt m) 0 (MT.arr u).toList = encMt u := by
  refine ⟨by omega, ?_⟩
  funext i
  match i with
  | 0 => rfl
  | 1 => rfl
  | 2 => rfl
  | 3 => rfl
  | k + 4 =>
    have e1 : ∀ w : MT, encMt w (k + 4) = undef := fun w => by unfold encMt; rw [if_neg (by omega), if_neg (by omega), if_neg (by omega), if_neg (by omega)]
    have e2 : updL (encMt m) 0 (MT.arr u).toList (k + 4) = encMt m (k + 4) := by simp [updL, upd]
    rw [e2, e1, e1]
/-! a table: the forest, the root, the mounts -/
def encT (bf : Nat) (r : WH) (v : Value) (i : Nat) : Value := if i = 0 then ptr bf 0 0 else if i = 1 then .int .i64 r.tree else if i = 2 then .int .i64 r.node else if i = 3 then v else undef
theorem encT.ld0 {bf : Nat} (r : WH) (v : Value) : 0 + 0 < 4 ∧ encT bf r v (0 + 0) = ptr bf 0 0 := ⟨by omega, rfl⟩
theorem encT.ld1 {bf : Nat} (r : WH) (v : Value) : 0 + 1 + 2 ≤ 4 ∧ aggOf (encT bf r v) (0 + 1) 2 = .agg (WH.arr r) := ⟨by omega, rfl⟩
theorem encT.ld1n {bf : Nat} (r : WH) (v : Value) : 0 + 1 + 1 < 4 ∧ encT bf r v (0 + 1 + 1) = .int .i64 r.node := ⟨by omega, rfl⟩
theorem encT.ld2 {bf : Nat} (r : WH) (v : Value) : 0 + 3 < 4 ∧ encT bf r v (0 + 3) = v := ⟨by omega, rfl⟩
theorem encT.st1 {bf : Nat} (r u : WH) (v : Value) : 0 + 1 + 2 ≤ 4 ∧ updL (encT bf r v) (0 + 1) (WH.arr u).toList = encT bf u v := by
  refine ⟨by omega, ?_⟩
  funext i
  match i with
  | 0 => rfl
  | 1 => rfl
  | 2 => rfl
  | 3 => rfl
  | k + 4 =>
    have e1 : ∀ r v, encT bf r v (k + 4) = undef := fun r v => by unfold encT; rw [if_neg (by omega), if_neg (by omega), if_neg (by omega), if_neg (by omega)]
    have e2 : updL (encT bf r v) (0 + 1) (WH.arr u).toList (k + 4) = encT bf r v (k + 4) := by simp [updL, upd]
    rw [e2, e1, e1]
theorem encT.st2 {bf : Nat} (r : WH) (v u : Value) : 0 + 3 < 4 ∧ upd (encT bf r v) (0 + 3) u = encT bf r u := by
  refine ⟨by omega, ?_⟩
  funext i
  match i with
  | 0 => rfl
  | 1 => rfl
  | 2 => rfl
  | 3 => rfl
  | k + 4 =>
    have e1 : ∀ r v, encT bf r v (k + 4) = undef := fun r v => by unfold encT; rw [if_neg (by omega), if_neg (by omega), if_neg (by omega), if_neg (by omega)]
    rw [show upd (encT bf r v) (0 + 3) u (k + 4) = encT bf r v (k + 4) from by simp [upd], e1, e1]
abbrev arrT (bf : Nat) (r : WH) (v : Value) : Array Value := #[ptr bf 0 0, .int .i64 r.tree, .int .i64 r.node, v]
theorem encT.box (bf : Nat) (r : WH) (v : Value) : ∀ i, i < 4 → cellsOf (arrT bf r v) i = encT bf r v i := fun i h => match i, h with
  | 0, _ => rfl
  | 1, _ => rfl
  | 2, _ => rfl
  | 3, _ => rfl
  | j + 4, h => absurd h (by omega)
/-! rows of mounts, of places -/
theorem mC_at (l : List MT) (z : Int) (hz : 0 ≤ z) (j : Nat) (hj : j < 4) : mC l (0 + z.toNat * 4 + j) = encMt (mat l z) j := by
  unfold mC
  rw [show (((0 + z.toNat * 4 + j) / 4 : Nat) : Int) = z from by omega, show (0 + z.toNat * 4 + j) % 4 = j from by omega]
theorem MC.ld {C : Nat → Value} {l : List MT} (h : MC C l) {k : Nat} (hk : l.length ≤ k) (z : Int) (q : 0 ≤ z ∧ z < l.length) : 0 + z.toNat * 4 + 4 ≤ k * 4 ∧ aggOf C (0 + z.toNat * 4) 4 = .agg (MT.arr (mat l z)) := by
  refine ⟨by omega, ?_⟩
  have e := fun j (hj : j < 4) => (h (0 + z.toNat * 4 + j) (by omega)).trans (mC_at l z q.1 j hj)
  simp only [aggOf, List.range, List.range.loop, List.map_cons, List.map_nil]
  rw [e 0 (by omega), e 1 (by omega), e 2 (by omega), e 3 (by omega)]
  rfl
theorem wC_at (l : List WH) (z : Int) (hz : 0 ≤ z) (j : Nat) (hj : j < 2) : wC l (0 + z.toNat * 2 + j) = encW (wat l z) j := by
  unfold wC
  rw [show (((0 + z.toNat * 2 + j) / 2 : Nat) : Int) = z from by omega, show (0 + z.toNat * 2 + j) % 2 = j from by omega]
theorem wC_ld (l : List WH) (z : Int) (q : 0 ≤ z ∧ z < l.length) : 0 + z.toNat * 2 + 2 ≤ l.length * 2 ∧ aggOf (wC l) (0 + z.toNat * 2) 2 = .agg (WH.arr (wat l z)) := by
  refine ⟨by omega, ?_⟩
  have e := fun j (hj : j < 2) => wC_at l z q.1 j hj
  simp only [aggOf, List.range, List.range.loop, List.map_cons, List.map_nil]
  rw [e 0 (by omega), e 1 (by omega)]
  rfl
theorem wC_take (l : List WH) (n : Nat) (i : Nat) (h : i < n * 2) : wC (l.take n) i = wC l i := by
  unfold wC wat
  congr 1
  rw [List.getD_eq_getElem?_getD, List.getD_eq_getElem?_getD, List.getElem?_take_of_lt (by omega)]
theorem wC_app (l : List WH) (w : WH) (A : Nat → Value) (hA : ∀ i, i < 2 → A i = encW w i) (i : Nat) (h : i < (l.length + 1) * 2) : wC (l ++ [w]) i = if i < l.length * 2 then wC l i else A (i - l.length * 2) := by
  split
  · rename_i c
    unfold wC wat
    congr 1
    rw [List.getD_eq_getElem?_getD, List.getD_eq_getElem?_getD, List.getElem?_append_left (by omega)]
  · rename_i c
    rw [hA _ (by omega)]
    unfold wC wat
    rw [List.getD_eq_getElem?_getD, show (((i / 2 : Nat) : Int)).toNat = l.length from by omega, List.getElem?_append_right (Nat.le_refl _), show i % 2 = i - l.length * 2 from by omega]
    simp
theorem MC.app {C D : Nat → Value} {l : List MT} (h : MC C l) (m : MT) (h1 : ∀ i, i < l.length * 4 → D i = C i) (h2 : ∀ i, i < 1 * 4 → D (l.length * 4 + i) = encMt m i) : MC D (l ++ [m]) := fun i hi => by
  simp only [List.length_append, List.length_singleton] at hi
  by_cases c : i < l.length * 4
  · rw [h1 i c, h i c]
    unfold mC mat
    congr 1
    rw [List.getD_eq_getElem?_getD, List.getD_eq_getElem?_getD, List.getElem?_append_left (by omega)]
  · have e := h2 (i - l.length * 4) (by omega)
    rw [show l.length * 4 + (i - l.length * 4) = i from by omega] at e
    rw [e]
    unfold mC mat
    rw [List.getD_eq_getElem?_getD, show (((i / 4 : Nat) : Int)).toNat = l.length from by omega, List.getElem?_append_right (Nat.le_refl _), show i % 4 = i - l.length * 4 from by omega]
    simp
theorem MC.copy {C D : Nat → Value} {l : List MT} (h : MC C l) (h1 : ∀ i, i < l.length * 4 → D i = C i) : MC D l := fun i hi => (h1 i hi).trans (h i hi)
theorem MC.nil (C : Nat → Value) : MC C [] := fun i h => absurd h (by simp)
theorem MC.erase {C D : Nat → Value} {l : List MT} (h : MC C l) (n : Nat) (hn : n < l.length) (h1 : ∀ j, j < n * 4 → D j = C j) (h2 : ∀ j, n * 4 ≤ j → j < (l.length - 1) * 4 → D j = C (j + 4)) : MC D (l.eraseIdx n) := fun i hi => by
  rw [List.length_eraseIdx_of_lt hn] at hi
  by_cases c : i < n * 4
  · rw [h1 i c, h i (by omega)]
    unfold mC mat
    congr 1
    rw [List.getD_eq_getElem?_getD, List.getD_eq_getElem?_getD, List.getElem?_eraseIdx, if_pos (by omega)]
  · rw [h2 i (by omega) hi, h (i + 4) (by omega)]
    unfold mC mat
    rw [List.getD_eq_getElem?_getD, List.getD_eq_getElem?_getD, List.getElem?_eraseIdx, if_neg (by omega), show (i + 4) % 4 = i % 4 from by omega, show (((i + 4) / 4 : Nat) : Int).toNat = (((i / 4 : Nat) : Int)).toNat + 1 from by omega]
theorem newsMt (m : MT) : ∀ i, i < 4 → cellsOf (MT.arr m) i = encMt m i := encMt.box m
/-! what is seen at a place -/
def ov1 (l : List MT) (w : WH) : Option WH := (l.find? (fun m => decide (m.at_ = w))).map (·.to)
def ovN (l : List MT) : Nat → WH → WH
  | 0, w => w
  | n + 1, w => match ov1 l w with
    | some u => ovN l n u
    | none => w
def over (l : List MT) (w : WH) : WH := ovN l 6 w
theorem mat_get {l : List MT} {z : Int} (h : 0 ≤ z ∧ z < l.length) : l[z.toNat]? = some (mat l z) := by
  unfold mat
  rw [List.getD_eq_getElem?_getD]
  cases hq : l[z.toNat]? with
  | none => rw [List.getElem?_eq_none_iff] at hq; omega
  | some m => rfl
theorem ov1_none {l : List MT} {w : WH} (h : ∀ i : Int, 0 ≤ i → i < l.length → (mat l i).at_ ≠ w) : ov1 l w = none := by
  unfold ov1
  rw [List.find?_eq_none.2 (fun m hm => ?_)]
  · rfl
  · obtain ⟨i, hi, rfl⟩ := List.mem_iff_getElem.1 hm
    have := h (i : Int) (by omega) (by omega)
    have e := mat_get (l := l) (z := (i : Int)) ⟨by omega, by omega⟩
    simp only [Int.toNat_natCast, List.getElem?_eq_getElem hi, Option.some.injEq] at e
    rw [e]; simpa using this
theorem ov1_some {l : List MT} {w : WH} {i : Int} (h0 : 0 ≤ i ∧ i < l.length) (h : ∀ j : Int, 0 ≤ j → j < i → (mat l j).at_ ≠ w) (he : (mat l i).at_ = w) : ov1 l w = some (mat l i).to := by
  unfold ov1
  have e : l.find? (fun m => decide (m.at_ = w)) = some (mat l i) := by
    rw [List.find?_eq_some_iff_getElem]
    have e := mat_get h0
    refine ⟨by simpa using he, i.toNat, by omega, ?_, fun j hj => ?_⟩
    · rw [List.getElem?_eq_getElem (by omega)] at e
      simpa using e
    · have e2 := mat_get (l := l) (z := (j : Int)) ⟨by omega, by omega⟩
      have h3 := h (j : Int) (by omega) (by omega)
      simp only [Int.toNat_natCast] at e2
      rw [List.getElem?_eq_getElem (by omega), Option.some.injEq] at e2
      rw [e2]; simpa using h3
  rw [e]; rfl
theorem ovN_none {l : List MT} {w : WH} (h : ov1 l w = none) : ∀ n, ovN l n w = w
  | 0 => rfl
  | n + 1 => by unfold ovN; rw [h]
theorem ovN_some {l : List MT} {w u : WH} (h : ov1 l w = some u) (n : Nat) : ovN l (n + 1) w = ovN l n u := by
  conv => lhs; unfold ovN
  rw [h]
/-! names of a path -/
def dd : ByteArray := ⟨#[46, 46]⟩
def slash : ByteArray := ⟨#[47]⟩
def pieces (s : ByteArray) : List ByteArray := Lib.splitB slash 0 (Lib.countB s slash) s
def partOk (s : ByteArray) : Bool := decide (s = dd) || nameOk s
def splitE (p : ByteArray) : Int := if 60 < p.size ∨ p = ⟨#[]⟩ ∨ p.get! 0 ≠ 47 then 9 else if p = slash then 0 else if (pieces (p.extract 1 p.size)).all partOk = true then 0 else 9
def splitV (p : ByteArray) : List ByteArray := if splitE p = 0 ∧ p ≠ slash then pieces (p.extract 1 p.size) else []
/-! the way -/
def last (l : List WH) : WH := wat l ((l.length : Int) - 1)
def wk (F : FF) (l : List MT) : List WH → List ByteArray → Int × WH
  | way, [] => (0, last way)
  | way, s :: r => if s = dd then wk F l (if 1 < way.length then way.take (way.length - 1) else way) r else if F.findE (last way).node s ≠ 0 then (F.findE (last way).node s, WH.nil) else
      wk F l (way ++ [over l ⟨(last way).tree, F.findV (last way).node s⟩]) r
def led (F : FF) (l : List MT) (r : WH) (ns : List ByteArray) : Int × WH := wk F l [over l r] ns
def walkE (F : FF) (l : List MT) (r : WH) (p : ByteArray) : Int := if splitE p ≠ 0 then splitE p else (led F l r (splitV p)).1
def walkV (F : FF) (l : List MT) (r : WH) (p : ByteArray) : WH := if splitE p ≠ 0 then WH.nil else (led F l r (splitV p)).2
def nlast (ns : List ByteArray) : ByteArray := sat0 ns ((ns.length : Int) - 1)
def ninit (ns : List ByteArray) : List ByteArray := ns.take (ns.length - 1)
def rawE (F : FF) (l : List MT) (r : WH) (p : ByteArray) : Int := if splitE p ≠ 0 then splitE p else if (splitV p).length = 0 then 0 else if nlast (splitV p) = dd then 9 else if (led F l r (ninit (splitV p))).1 ≠ 0 then (led F l r (ninit (splitV p))).1 else F.findE (led F l r (ninit (splitV p))).2.node (nlast (splitV p))
def rawV (F : FF) (l : List MT) (r : WH) (p : ByteArray) : WH := if rawE F l r p ≠ 0 then WH.nil else if (splitV p).length = 0 then r else ⟨(led F l r (ninit (splitV p))).2.tree, F.findV (led F l r (ninit (splitV p))).2.node (nlast (splitV p))⟩
def lastE (F : FF) (l : List MT) (r : WH) (p : ByteArray) : Int := if splitE p ≠ 0 then splitE p else if (splitV p).length = 0 ∨ nlast (splitV p) = dd then 9 else (led F l r (ninit (splitV p))).1
def lastV (F : FF) (l : List MT) (r : WH) (p : ByteArray) : WH := if lastE F l r p ≠ 0 then WH.nil else (led F l r (ninit (splitV p))).2
def lastN (F : FF) (l : List MT) (r : WH) (p : ByteArray) : ByteArray := if lastE F l r p ≠ 0 then ⟨#[]⟩ else nlast (splitV p)
/-! binding -/
def dirE (F : FF) (w : WH) : Int := if F.isE w.node 0 ≠ 0 then F.isE w.node 0 else if F.kind w.node ≠ 2 ∨ F.tree w.node ≠ w.tree then 11 else 0
def hasAt (l : List MT) (w : WH) : Bool := l.any (fun m => decide (m.at_ = w))
def bindE (F : FF) (l : List MT) (at_ to : WH) : Int := if dirE F at_ ≠ 0 then dirE F at_ else if dirE F to ≠ 0 then dirE F to else if at_ = to then 8 else if hasAt l at_ = true then 3 else if l.length = 6 then 4 else 0
def bindL (F : FF) (l : List MT) (at_ to : WH) : List MT := if bindE F l at_ to = 0 then l ++ [⟨at_, to⟩] else l
def bindF (F : FF) (l : List MT) (at_ to : WH) : FF := if bindE F l at_ to = 0 then (F.hold at_.node).hold to.node else F
def idxAt (l : List MT) (w : WH) : Nat := l.findIdx (fun m => decide (m.at_ = w))
def unbindE (l : List MT) (w : WH) : Int := if idxAt l w < l.length then 0 else 2
def unbindL (l : List MT) (w : WH) : List MT := l.eraseIdx (idxAt l w)
def unbindF (F : FF) (l : List MT) (w : WH) : FF := if idxAt l w < l.length then (F.letF (mat l (idxAt l w)).at_.node).letF (mat l (idxAt l w)).to.node else F
def holdM (F : FF) : List MT → FF
  | [] => F
  | m :: r => holdM ((F.hold m.at_.node).hold m.to.node) r
def letM (F : FF) : List MT → FF
  | [] => F
  | m :: r => letM ((F.letF m.at_.node).letF m.to.node) r
def copyF (F : FF) (l : List MT) (r : WH) : FF := holdM (F.hold r.node) l
def tcloseF (F : FF) (l : List MT) (r : WH) : FF := (letM F l).letF r.node
def pivotE (F : FF) (t : Int) : Int := F.rootE t
def pivotF (F : FF) (l : List MT) (r : WH) (t : Int) : FF := if F.rootE t = 0 then tcloseF (F.hold (F.rootV t)) l r else F
def pivotR (F : FF) (r : WH) (t : Int) : WH := if F.rootE t = 0 then ⟨t, F.rootV t⟩ else r
def pivotL (F : FF) (l : List MT) (t : Int) : List MT := if F.rootE t = 0 then [] else l
theorem V.eqW {P : Program} {n : Fr} {L : PF} {ty : TypeId} {pos : String} {af : Array Edge} {d : Nat} {t t' : TypeId} {x y : Operand} {a b : WH} {φ : World → Prop} {gd : Option (Nat × Bool)} (hx : ev L x = some (.agg (WH.arr a))) (hy : ev L y = some (.agg (WH.arr b)))
    (hP : (P.underlying t = some (.struct (P.fieldsOf t)) ∧ P.stoodInHeld t = false) ∧ P.eqGuardType P.depth t = false ∧ two P t = true) : RunsTo P n L φ ⟨some d, .binOp .eql t x y t', ty, pos, af, gd⟩ (.bool (decide (a = b))) :=
  V.eq2 hx hy hP (congrArg some (decide_eq_decide.2 WH.eq_iff))
theorem V.neW {P : Program} {n : Fr} {L : PF} {ty : TypeId} {pos : String} {af : Array Edge} {d : Nat} {t t' : TypeId} {x y : Operand} {a b : WH} {φ : World → Prop} {gd : Option (Nat × Bool)} (hx : ev L x = some (.agg (WH.arr a))) (hy : ev L y = some (.agg (WH.arr b)))
    (hP : (P.underlying t = some (.struct (P.fieldsOf t)) ∧ P.stoodInHeld t = false) ∧ P.eqGuardType P.depth t = false ∧ two P t = true) : RunsTo P n L φ ⟨some d, .binOp .neq t x y t', ty, pos, af, gd⟩ (.bool (decide (a ≠ b))) :=
  V.eq2 hx hy hP (congrArg some (by rw [decide_not, decide_eq_decide.2 WH.eq_iff]))
theorem splitE_cond {x : ByteArray} (h : 60 < x.size ∨ x = ⟨#[]⟩ ∨ x.get! 0 ≠ 47) : splitE x = 9 := by unfold splitE; rw [if_pos h]
theorem splitE_slash {x : ByteArray} (h : x = slash) : splitE x = 0 ∧ splitV x = [] := by
  subst h
  have e : splitE slash = 0 := by
    unfold splitE
    rw [if_neg (by decide), if_pos rfl]
  exact ⟨e, by unfold splitV; rw [if_neg (fun q => q.2 rfl)]⟩
theorem sat_mem {l : List ByteArray} {y : ByteArray} (h : y ∈ l) : ∃ i : Int, 0 ≤ i ∧ i < l.length ∧ sat0 l i = y := by
  obtain ⟨i, hi, rfl⟩ := List.mem_iff_getElem.1 h
  exact ⟨(i : Int), by omega, by omega, by unfold sat0; simp [hi]⟩
theorem sat_in {l : List ByteArray} {i : Int} (h : 0 ≤ i ∧ i < l.length) : sat0 l i ∈ l := by
  unfold sat0
  rw [List.getD_eq_getElem?_getD, List.getElem?_eq_getElem (by omega)]
  exact List.getElem_mem _
theorem splitE_bad {x : ByteArray} (hc : ¬ (60 < x.size ∨ x = ⟨#[]⟩ ∨ x.get! 0 ≠ 47)) (hs : ¬ x = slash) {i : Int} (hi : 0 ≤ i ∧ i < (pieces (x.extract 1 x.size)).length) (h : partOk (sat0 (pieces (x.extract 1 x.size)) i) = false) : splitE x = 9 := by
  unfold splitE
  rw [if_neg hc, if_neg hs, if_neg (fun q => by have := List.all_eq_true.1 q _ (sat_in hi); rw [h] at this; cases this)]
theorem splitE_good {x : ByteArray} (hc : ¬ (60 < x.size ∨ x = ⟨#[]⟩ ∨ x.get! 0 ≠ 47)) (hs : ¬ x = slash) (h : ∀ i : Int, 0 ≤ i → i < (pieces (x.extract 1 x.size)).length → partOk (sat0 (pieces (x.extract 1 x.size)) i) = true) : splitE x = 0 ∧ splitV x = pieces (x.extract 1 x.size) := by
  have e : splitE x = 0 := by
    unfold splitE
    rw [if_neg hc, if_neg hs, if_pos (List.all_eq_true.2 fun y hy => by obtain ⟨i, h0, h1, rfl⟩ := sat_mem hy; exact h i h0 h1)]
  exact ⟨e, by unfold splitV; rw [if_pos ⟨e, hs⟩]⟩
theorem take_drop {ns : List ByteArray} {n : Nat} (hn : n ≤ ns.length) {i : Int} (h : 0 ≤ i ∧ i < n) : (ns.take n).drop i.toNat = sat0 ns i :: (ns.take n).drop (i + 1).toNat := by
  rw [List.drop_eq_getElem_cons (by rw [List.length_take]; omega), show (i + 1).toNat = i.toNat + 1 from by omega]
  congr 1
  rw [List.getElem_take]
  unfold sat0
  rw [List.getD_eq_getElem?_getD, List.getElem?_eq_getElem (by omega)]
  rfl
section
variable {F : FF} {l : List MT} {way : List WH} {s : ByteArray} {r a : List ByteArray}
theorem wk_up (h : a = s :: r) (hd : s = dd) (hl : 1 < way.length) : wk F l way a = wk F l (way.take (way.length - 1)) r := by
  subst h; conv => lhs; unfold wk
  rw [if_pos hd, if_pos hl]
theorem wk_stay (h : a = s :: r) (hd : s = dd) (hl : ¬ 1 < way.length) : wk F l way a = wk F l way r := by
  subst h; conv => lhs; unfold wk
  rw [if_pos hd, if_neg hl]
theorem wk_step (h : a = s :: r) (hd : ¬ s = dd) (he : F.findE (last way).node s = 0) : wk F l way a = wk F l (way ++ [over l ⟨(last way).tree, F.findV (last way).node s⟩]) r := by
  subst h; conv => lhs; unfold wk
  rw [if_neg hd, if_neg (fun q => q he)]
theorem wk_err (h : a = s :: r) (hd : ¬ s = dd) (he : ¬ F.findE (last way).node s = 0) : wk F l way a = (F.findE (last way).node s, WH.nil) := by
  subst h; conv => lhs; unfold wk
  rw [if_neg hd, if_pos he]
theorem wk_end {ns : List ByteArray} {n : Nat} (hn : n ≤ ns.length) : wk F l way ((ns.take n).drop ((n : Int)).toNat) = (0, last way) := by
  rw [List.drop_of_length_le (by rw [List.length_take]; omega)]
  rfl
end
theorem wC_one (w : WH) : newsOf (wC [w]) (1 * 2) = [.int .i64 w.tree, .int .i64 w.node] := by
  apply List.ext_getElem?
  intro i
  match i with
  | 0 => rw [newsOf_at (by omega)]; rfl
  | 1 => rw [newsOf_at (by omega)]; rfl
  | k + 2 => rw [List.getElem?_eq_none (by rw [newsOf_length]; omega), List.getElem?_eq_none (by simp)]
theorem way1 (b : Nat) (e : TypeId) (w : WH) : Ent.row (.slice (some ⟨b, 0, none⟩) 1 1) e 2 1 #[Value.int .i64 w.tree, .int .i64 w.node].toList = frow (some ⟨b, 0, none⟩) 1 e 2 1 (wC [w]) := by
  show Ent.row _ e 2 1 [Value.int .i64 w.tree, .int .i64 w.node] = _
  rw [← wC_one w]
theorem wC_two (a b : WH) : newsOf (wC [a, b]) (2 * 2) = [.int .i64 a.tree, .int .i64 a.node, .int .i64 b.tree, .int .i64 b.node] := by
  apply List.ext_getElem?
  intro i
  match i with
  | 0 => rw [newsOf_at (by omega)]; rfl
  | 1 => rw [newsOf_at (by omega)]; rfl
  | 2 => rw [newsOf_at (by omega)]; rfl
  | 3 => rw [newsOf_at (by omega)]; rfl
  | k + 4 => rw [List.getElem?_eq_none (by rw [newsOf_length]; omega), List.getElem?_eq_none (by simp)]
theorem way2 (g : Nat) (e : TypeId) (a b : WH) : Ent.row (.slice (some ⟨g, 0, none⟩) 2 2) e 2 2 #[Value.int .i64 a.tree, .int .i64 a.node, .int .i64 b.tree, .int .i64 b.node].toList = frow (some ⟨g, 0, none⟩) 2 e 2 2 (wC [a, b]) := by
  show Ent.row _ e 2 2 [Value.int .i64 a.tree, .int .i64 a.node, .int .i64 b.tree, .int .i64 b.node] = _
  rw [← wC_two a b]
theorem mdrop {l : List MT} {i : Int} (h : 0 ≤ i ∧ i < l.length) : l.drop i.toNat = mat l i :: l.drop (i + 1).toNat := by
  rw [List.drop_eq_getElem_cons (by omega), show (i + 1).toNat = i.toNat + 1 from by omega]
  congr 1
  have e := mat_get h
  rw [List.getElem?_eq_getElem (by omega), Option.some.injEq] at e
  exact e
theorem holdM_step {F : FF} {l : List MT} {i : Int} (h : 0 ≤ i ∧ i < l.length) : holdM F (l.drop i.toNat) = holdM ((F.hold (mat l i).at_.node).hold (mat l i).to.node) (l.drop (i + 1).toNat) := by
  rw [mdrop h]; rfl
theorem letM_step {F : FF} {l : List MT} {i : Int} (h : 0 ≤ i ∧ i < l.length) : letM F (l.drop i.toNat) = letM ((F.letF (mat l i).at_.node).letF (mat l i).to.node) (l.drop (i + 1).toNat) := by
  rw [mdrop h]; rfl
theorem holdM_end {F : FF} {l : List MT} : holdM F (l.drop ((l.length : Int)).toNat) = F := by
  rw [List.drop_of_length_le (by omega)]; rfl
theorem letM_end {F : FF} {l : List MT} : letM F (l.drop ((l.length : Int)).toNat) = F := by
  rw [List.drop_of_length_le (by omega)]; rfl
theorem hasAt_false {l : List MT} {w : WH} (h : ∀ i : Int, 0 ≤ i → i < l.length → (mat l i).at_ ≠ w) : hasAt l w = false := by
  unfold hasAt
  rw [List.any_eq_false]
  intro m hm
  obtain ⟨i, hi, rfl⟩ := List.mem_iff_getElem.1 hm
  have := h (i : Int) (by omega) (by omega)
  have e := mat_get (l := l) (z := (i : Int)) ⟨by omega, by omega⟩
  simp only [Int.toNat_natCast, List.getElem?_eq_getElem hi, Option.some.injEq] at e
  rw [e]; simpa using this
theorem hasAt_true {l : List MT} {w : WH} {i : Int} (h0 : 0 ≤ i ∧ i < l.length) (he : (mat l i).at_ = w) : hasAt l w = true := by
  unfold hasAt
  rw [List.any_eq_true]
  have e := mat_get h0
  rw [List.getElem?_eq_getElem (by omega), Option.some.injEq] at e
  exact ⟨mat l i, by rw [← e]; exact List.getElem_mem _, by simpa using he⟩
theorem idxAt_some {l : List MT} {w : WH} {i : Int} (h0 : 0 ≤ i ∧ i < l.length) (h : ∀ j : Int, 0 ≤ j → j < i → (mat l j).at_ ≠ w) (he : (mat l i).at_ = w) : idxAt l w = i.toNat := by
  unfold idxAt
  rw [List.findIdx_eq (by omega)]
  have e := mat_get h0
  rw [List.getElem?_eq_getElem (by omega), Option.some.injEq] at e
  refine ⟨by rw [e]; simpa using he, fun j hj => ?_⟩
  have e2 := mat_get (l := l) (z := (j : Int)) ⟨by omega, by omega⟩
  have h3 := h (j : Int) (by omega) (by omega)
  simp only [Int.toNat_natCast] at e2
  rw [List.getElem?_eq_getElem (by omega), Option.some.injEq] at e2
  rw [e2]; simpa using h3
theorem idxAt_none {l : List MT} {w : WH} (h : ∀ i : Int, 0 ≤ i → i < l.length → (mat l i).at_ ≠ w) : idxAt l w = l.length := by
  unfold idxAt
  rw [List.findIdx_eq_length]
  intro m hm
  obtain ⟨i, hi, rfl⟩ := List.mem_iff_getElem.1 hm
  have := h (i : Int) (by omega) (by omega)
  have e := mat_get (l := l) (z := (i : Int)) ⟨by omega, by omega⟩
  simp only [Int.toNat_natCast, List.getElem?_eq_getElem hi, Option.some.injEq] at e
  rw [e]; simpa using this
def C0 : Nat → Value := fun _ => undef
theorem C0_ok : RV.ok ⟨none, 0, 0, ([] : List MT).length, 0, C0⟩ := .inl ⟨rfl, rfl⟩
theorem bindE_dir {F : FF} {l : List MT} {a z : WH} {i : Int} (hi : 0 ≤ i ∧ i < 2) (hda : 1 ≤ i → dirE F a = 0) (h : dirE F (wat [a, z] i) ≠ 0) : bindE F l a z = dirE F (wat [a, z] i) := by
  unfold bindE
  rcases (show i = 0 ∨ i = 1 by omega) with rfl | rfl
  · have h' : dirE F a ≠ 0 := h
    rw [if_pos h']; rfl
  · have h' : dirE F z ≠ 0 := h
    rw [if_neg (by rw [hda (by omega)]; simp), if_pos h']; rfl
theorem hold_ok2 {F : FF} {d : Int → Nat} {B : Int} (h : F.Ok d B) (l : List MT) (a z : WH) : (bindF F l a z).Ok d (B + 2) := by
  unfold bindF; split
  · have := (h.hold a.node).hold z.node
    rwa [show B + 1 + 1 = B + 2 from by omega] at this
  · exact ⟨h.inv, fun n a b => Int.le_trans (h.held n a b) (by omega), by have := h.nn; omega⟩
theorem let_ok2 {F : FF} {d : Int → Nat} {B : Int} (h : F.Ok d B) (l : List MT) (w : WH) : (unbindF F l w).Ok d (B + 2) := by
  unfold unbindF; split
  · have := (h.letF (mat l (idxAt l w)).at_.node).letF (mat l (idxAt l w)).to.node
    rwa [show B + 1 + 1 = B + 2 from by omega] at this
  · exact ⟨h.inv, fun n a b => Int.le_trans (h.held n a b) (by omega), by have := h.nn; omega⟩

end Go.X

namespace Go.X
open Go Go.Shelf Go.RowKit Go.Lib Go.Proofs
section
variable {P : Program} {ρ : Ren}
set_option maxHeartbeats 1000000 in
theorem split_run (L : Lays.n146 P ρ) (hi9 : (P.info? (ρ.t 9)).map (fun i => (i.zero, i.size, i.bytes)) = some (some (.string ByteArray.empty), 1, 16)) (s : ByteArray) (w : World) (hs : s.size < 4294967281) :
    Calls P (ρ.f 146) #[.string s, .string ⟨#[47]⟩] w fun e w' =>
      e = .returned (.slice (some ⟨w.heap.size, 0, none⟩) (countB s slash + 1) (countB s slash + 1)) ∧ w' = w.alloc (.cells ((splitB slash 0 (countB s slash) s).map Value.string).toArray (ρ.t 9)) := by
  have h1 : 1 ≤ slash.size := by decide
  have hle := Lib.countB_le slash h1 s.size s (Nat.le_refl _)
  have hlen := Lib.splitB_all slash h1 0 _ s rfl
  have c := Any.strings_genSplit_core { L with } hi9 s slash 0 (-1) (countB s slash + 1) w hs h1 (Nat.zero_le _)
    (fun x c _ => (Any.strings_Index_one { L with } x 47 _).mono fun e w' ⟨he, hw⟩ => ⟨by rw [he]; show _ = Ending.returned (Value.int .i64 (Lib.index x.data.toList [47])); rw [Lib.index_one], hw⟩)
    ((Any.strings_Count_one { L with } s 47 w).mono fun e w' ⟨he, hw⟩ => ⟨by
      rw [he]
      show _ = Ending.returned (Value.int .i64 ((Lib.count s.data.toList [47] : Nat) : Int))
      rw [Lib.count_one]
      rfl, hw⟩)
    (by decide) (by decide) (by rw [if_pos (by decide)]; omega)
  rw [Nat.add_sub_cancel, hlen] at c
  have e2 : Lib.cellsOf (Lib.splitB slash 0 (Lib.countB s slash) s) (Lib.countB s slash + 1) = ((Lib.splitB slash 0 (Lib.countB s slash) s).map Value.string).toArray := by rw [← hlen]; exact Lib.cellsOf_full _
  rw [e2] at c
  have t3 := L.t3; have t9 := L.t9; have t31 := L.t31
  have a3 := L.a3; have a9 := L.a9; have a31 := L.a31
  have z3 := L.z3; have v3 := L.v3; have z9 := L.z9; have v9 := L.v9; have z31 := L.z31; have v31 := L.v31
  have e221 : ∀ args w, (callFunc (ρ.f 221) args).run P w = .ok (.enter (ρ.f 221) args) w := enters_of L.f221 (by kernel_rfl) rfl
  go_enter L.f146, Body.n146_ntmps ρ
  go_wp2_with (go_at_fn (ρ.f 221); refine c.mono ?_; rintro e w' ⟨rfl, hw⟩; rw [hw])
  go_ret
  exact ⟨rfl, rfl⟩
theorem pieces_len (s : ByteArray) : (pieces s).length = countB s slash + 1 := Lib.splitB_all slash (by decide) 0 _ s rfl
theorem pieces_cnt (s : ByteArray) : (pieces s).length ≤ s.size + 1 := by
  have := Lib.countB_le slash (by decide) s.size s (Nat.le_refl _)
  rw [pieces_len]; omega
theorem split_spec (L : Lays.n146 P ρ) (hi9 : (P.info? (ρ.t 9)).map (fun i => (i.zero, i.size, i.bytes)) = some (some (.string ByteArray.empty), 1, 16)) (s : ByteArray) (hs : s.size ≤ 1000000) :
    Spec P (ρ.f 146) [.string s, .string ⟨#[47]⟩] [] (fun v H1 => ∃ b, v = .slice (some ⟨b, 0, none⟩) (pieces s).length (pieces s).length ∧ H1 = [srow (some ⟨b, 0, none⟩) (pieces s).length (ρ.t 9) (pieces s)]) := by
  intro w hw
  refine (split_run L hi9 s w (by omega)).mono fun ee w' ⟨he, hw'⟩ => ⟨_, _, he, ⟨w.heap.size, by rw [pieces_len], rfl⟩, rfl, ?_⟩
  subst hw'
  have hc := pieces_cnt s
  refine (XM.start hw).fresh (fun b o hb2 => by simp only [Ent.area, Value.ownBlock, Option.some.injEq] at hb2; omega) (keep_alloc w _ _) ?_
  refine ⟨by simp [strs], .inr ⟨w.heap.size, _, _, rfl, Nat.zero_le _, heap_alloc_new w _, Nat.le_refl _, by simp only [maxLen]; omega, ?_, ?_⟩⟩
  · simp [pieces]
  · simp only [strs, pieces, Nat.mul_one]
    exact List.take_of_length_le (by simp)
end
theorem splitB_le : ∀ (k : Nat) (s : ByteArray), ∀ x ∈ splitB slash 0 k s, x.size ≤ s.size
  | 0, s, x, h => by simp [splitB] at h; rw [h]; exact Nat.le_refl _
  | k + 1, s, x, h => by
    unfold splitB at h
    split at h
    · simp at h; rw [h]; exact Nat.le_refl _
    · rcases List.mem_cons.1 h with h | h
      · rw [h, ByteArray.size_extract]; omega
      · have := splitB_le k _ x h
        rw [ByteArray.size_extract] at this
        omega
theorem pieces_le (s : ByteArray) {z : Int} (h : 0 ≤ z ∧ z < (pieces s).length) : (sat0 (pieces s) z).size ≤ s.size := by
  refine splitB_le (countB s slash) s _ ?_
  show sat0 (pieces s) z ∈ pieces s
  unfold sat0
  rw [List.getD_eq_getElem?_getD, List.getElem?_eq_getElem (by omega)]
  exact List.getElem_mem _
theorem splitV_len (x : ByteArray) : (splitV x).length ≤ x.size + 1 := by
  unfold splitV
  split
  · have := pieces_cnt (x.extract 1 x.size)
    rw [ByteArray.size_extract] at this
    omega
  · simp
end Go.X
