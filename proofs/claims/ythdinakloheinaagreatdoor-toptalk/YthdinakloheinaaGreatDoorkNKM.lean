import Derived.Test.YthdinakloheinaaGreatDoorkNL
import Derived.Test.YthdinakloheinaaGreatDoorkNRM
import Derived.Test.YthdinakloheinaaGreatDoorXBytes
import Derived.Test.YthdinakloheinaaGreatDoorXFn
import Derived.Test.YthdinakloheinaaGreatDoorkSM
import Derived.Lib.SplitLaws
namespace Go.X.Tr
open Go Go.X
theorem XQ.mono {P : Program} {ops : Array Oper} {Q : Exit → Act → World → Prop} {n : Fr} {L : PF} {M M' : World → Prop} {B : Obl} {f : Nat} {l : Array Bool} (hm : ∀ w, M w → M' w) (h : XQ P n ops Q B f l L M') : XQ P n ops Q B f l L M := fun hc a w ha hw hJ => h hc a w ha (hm w hw) hJ
section
variable {W w : World} {S : Nat → Nat → Prop} {H F : List Ent}
theorem fam40_at {z : Int} (h : 0 ≤ z ∧ z < 40) : fam40 z.toNat = true := by show Nat.blt z.toNat 40 = true; simp; omega
theorem pick1 (x : Ent) : ∀ (L : List Ent), Pick (x :: L) L [x]
  | [] => .nil
  | _ :: r => .cons (.there .here) (pick1 x r)
theorem XM.openN {e : TypeId} {s : FC} {z : Int} (hz : 0 ≤ z ∧ z < 40) (hp : Pick H [.fam fam40 (s.rowsN e)] F) (h : XM W S H w) : XM W S (srow (s.nP z) (s.nC z) e (s.names z) :: .fam (outP fam40 z.toNat) (s.rowsN e) :: F) w := by
  have h1 := XM.famOut z.toNat (fam40_at hz) (h.perm hp.perm)
  have e1 : (s.rowsN e z.toNat).ent = srow (s.nP z) (s.nC z) e (s.names z) := by
    unfold FC.rowsN RowD.ent
    simp only [show ((z.toNat : Nat) : Int) = z from by omega]
  rw [e1] at h1
  exact h1
theorem XM.openK {e : TypeId} {s : FC} {z : Int} (hz : 0 ≤ z ∧ z < 40) (hp : Pick H [.fam fam40 (s.rowsK e)] F) (h : XM W S H w) : XM W S (irow (s.kP z) (s.kC z) e (s.kids z) :: .fam (outP fam40 z.toNat) (s.rowsK e) :: F) w := by
  have h1 := XM.famOut z.toNat (fam40_at hz) (h.perm hp.perm)
  have e1 : (s.rowsK e z.toNat).ent = irow (s.kP z) (s.kC z) e (s.kids z) := by
    unfold FC.rowsK RowD.ent
    simp only [show ((z.toNat : Nat) : Int) = z from by omega]
  rw [e1] at h1
  exact h1
theorem rowsN_set (e : TypeId) (s t : FC) (z : Int) (hz : 0 ≤ z ∧ z < 40) (l : List ByteArray) (p : Option Addr) (c : Nat) (h1 : t.names = fset s.names z l) (h2 : t.nP = fset s.nP z p) (h3 : t.nC = fset s.nC z c) :
    rset (s.rowsN e) z.toNat ⟨.slice p l.length c, e, 1, l.length, strs l⟩ = t.rowsN e := by
  funext i
  unfold FC.rowsN
  rw [h1, h2, h3]
  by_cases hi : i = z.toNat
  · subst hi
    rw [rset_eq]
    simp only [show ((z.toNat : Nat) : Int) = z from by omega, fset_eq]
  · rw [rset_ne _ _ hi]
    have hi2 : ¬ (i : Int) = z := by omega
    simp only [fset_ne _ _ hi2]
theorem rowsK_set (e : TypeId) (s t : FC) (z : Int) (hz : 0 ≤ z ∧ z < 40) (l : List Int) (p : Option Addr) (c : Nat) (h1 : t.kids = fset s.kids z l) (h2 : t.kP = fset s.kP z p) (h3 : t.kC = fset s.kC z c) :
    rset (s.rowsK e) z.toNat ⟨.slice p l.length c, e, 1, l.length, ints l⟩ = t.rowsK e := by
  funext i
  unfold FC.rowsK
  rw [h1, h2, h3]
  by_cases hi : i = z.toNat
  · subst hi
    rw [rset_eq]
    simp only [show ((z.toNat : Nat) : Int) = z from by omega, fset_eq]
  · rw [rset_ne _ _ hi]
    have hi2 : ¬ (i : Int) = z := by omega
    simp only [fset_ne _ _ hi2]
theorem XM.closeN {e : TypeId} {s : FC} (t : FC) {z : Int} {n c : Nat} {p : Option Addr} {l : List ByteArray} (hz : 0 ≤ z ∧ z < 40) (hn : n = l.length) (h1 : t.names = fset s.names z l) (h2 : t.nP = fset s.nP z p) (h3 : t.nC = fset s.nC z c)
    (hp : Pick H [.row (.slice p n c) e 1 n (strs l), .fam (outP fam40 z.toNat) (s.rowsN e)] F) (h : XM W S H w) : XM W S (.fam fam40 (t.rowsN e) :: F) w := by
  subst hn
  have h4 := XM.famIn (x := ⟨.slice p l.length c, e, 1, l.length, strs l⟩) z.toNat (outP_at _ _) (h.perm hp.perm)
  rw [inout (fam40_at hz), rowsN_set e s t z hz l p c h1 h2 h3] at h4
  exact h4
theorem XM.closeK {e : TypeId} {s : FC} (t : FC) {z : Int} {n c : Nat} {p : Option Addr} {l : List Int} (hz : 0 ≤ z ∧ z < 40) (hn : n = l.length) (h1 : t.kids = fset s.kids z l) (h2 : t.kP = fset s.kP z p) (h3 : t.kC = fset s.kC z c)
    (hp : Pick H [.row (.slice p n c) e 1 n (ints l), .fam (outP fam40 z.toNat) (s.rowsK e)] F) (h : XM W S H w) : XM W S (.fam fam40 (t.rowsK e) :: F) w := by
  subst hn
  have h4 := XM.famIn (x := ⟨.slice p l.length c, e, 1, l.length, ints l⟩) z.toNat (outP_at _ _) (h.perm hp.perm)
  rw [inout (fam40_at hz), rowsK_set e s t z hz l p c h1 h2 h3] at h4
  exact h4
/-- a family that is as before -/ theorem XM.sameN {e : TypeId} {s : FC} (t : FC) (h1 : t.names = s.names) (h2 : t.nP = s.nP) (h3 : t.nC = s.nC) (hp : Pick H [.fam fam40 (s.rowsN e)] F) (h : XM W S H w) : XM W S (.fam fam40 (t.rowsN e) :: F) w := by
  have : t.rowsN e = s.rowsN e := by unfold FC.rowsN; rw [h1, h2, h3]
  rw [this]; exact h.perm hp.perm
/-- a node's rows are forgotten -/ theorem XM.newN {e : TypeId} {s : FC} (t : FC) {z : Int} (hz : 0 ≤ z ∧ z < 40) (h1 : t.names = fset s.names z []) (h2 : t.nP = fset s.nP z none) (h3 : t.nC = fset s.nC z 0) (hp : Pick H [.fam fam40 (s.rowsN e)] F) (h : XM W S H w) : XM W S (.fam fam40 (t.rowsN e) :: F) w := by
  have h4 := (XM.pick (pick1 _ _) (XM.openN hz hp h)).nilRow e 1
  exact XM.closeN (s := s) t (p := none) (c := 0) (n := 0) (l := []) hz rfl h1 h2 h3 (.cons .here (.cons .here (by
    have hq : ∀ L : List Ent, Pick L [] L := fun L => .nil
    exact hq _))) h4
theorem XM.newK {e : TypeId} {s : FC} (t : FC) {z : Int} (hz : 0 ≤ z ∧ z < 40) (h1 : t.kids = fset s.kids z []) (h2 : t.kP = fset s.kP z none) (h3 : t.kC = fset s.kC z 0) (hp : Pick H [.fam fam40 (s.rowsK e)] F) (h : XM W S H w) : XM W S (.fam fam40 (t.rowsK e) :: F) w := by
  have h4 := (XM.pick (pick1 _ _) (XM.openK hz hp h)).nilRow e 1
  exact XM.closeK (s := s) t (p := none) (c := 0) (n := 0) (l := []) hz rfl h1 h2 h3 (.cons .here (.cons .here .nil)) h4
end
/-- a node made new -/ def FC.setC (s : FC) (z k t l u : Int) : FC := ⟨s.toFF.setN z k t l u, fset s.nP z none, fset s.nC z 0, fset s.kP z none, fset s.kC z 0, s.rP, s.rC⟩
def FC.putC (s : FC) (n : Int) (x : ByteArray) (k : Int) (p : Option Addr) (c : Nat) (p2 : Option Addr) (c2 : Nat) : FC := ⟨s.toFF.putF n x k, fset s.nP n p, fset s.nC n c, fset s.kP n p2, fset s.kC n c2, s.rP, s.rC⟩
abbrev nodeU (k t l u : Int) : encF.U := ⟨k, t, l, 0, ByteArray.empty, u, [], none, 0, [], none, 0⟩
def nodeA (k t l u : Int) : Array Value := #[.int .i64 k, .int .i64 t, .int .i64 l, .int .i64 0, .string ⟨#[]⟩, .slice none 0 0, .slice none 0 0, .int .i64 u]
theorem encF_new (s : FC) (z k t l u : Int) (hz : 0 ≤ z ∧ z < 40) : 0 + 0 + z.toNat * 8 + 8 ≤ 321 ∧ updL (encF s) (0 + 0 + z.toNat * 8) (nodeA k t l u).toList = encF (s.setC z k t l u) :=
  encF.setL s (s.setC z k t l u) z hz _ rfl (fun j hj => by
    have e : encF.un (s.setC z k t l u) z = nodeU k t l u := by
      unfold encF.un FC.setC FF.setN
      simp only [fset_eq]
    rw [e]
    match j, hj with
    | 0, _ => rfl
    | 1, _ => rfl
    | 2, _ => rfl
    | 3, _ => rfl
    | 4, _ => rfl
    | 5, _ => rfl
    | 6, _ => rfl
    | 7, _ => rfl
    | j + 8, h => exact absurd h (by omega)) (fun y hy => by
    unfold encF.un FC.setC FF.setN
    simp only [fset_ne _ _ hy]) rfl
theorem encF_roots (s : FC) : 0 + 320 < 321 ∧ encF s (0 + 320) = .slice s.rP s.roots.length s.rC := ⟨by omega, by unfold encF; rw [if_neg (by omega), if_pos (by omega)]⟩
theorem encF_roots_st (s : FC) (l : List Int) (p : Option Addr) (c n : Nat) (hn : n = l.length) : 0 + 320 < 321 ∧ upd (encF s) (0 + 320) (.slice p n c) = encF { s with roots := l, rP := p, rC := c } := by
  subst hn
  refine ⟨by omega, ?_⟩
  funext i
  unfold upd encF
  by_cases hi : i = 0 + 320
  · rw [if_pos hi, if_neg (by omega), if_pos (by omega)]
  · rw [if_neg hi]
    by_cases c1 : i < 320
    · rw [if_pos c1, if_pos c1]; rfl
    · rw [if_neg c1, if_neg c1, if_neg (by omega), if_neg (by omega)]
theorem node_box (k t l u : Int) : ∀ i, i < 8 → cellsOf (nodeA k t l u) i = encF.cell (nodeU k t l u) i := fun i h => match i, h with
  | 0, _ => rfl
  | 1, _ => rfl
  | 2, _ => rfl
  | 3, _ => rfl
  | 4, _ => rfl
  | 5, _ => rfl
  | 6, _ => rfl
  | 7, _ => rfl
  | j + 8, h => absurd h (by omega)
theorem node_agg (k t l u : Int) : 0 + 8 ≤ 8 ∧ aggOf (encF.cell (nodeU k t l u)) 0 8 = .agg (nodeA k t l u) := ⟨by omega, rfl⟩
def arrF0 : Array Value := ((List.range 321).map (encF FC.void)).toArray
theorem arrF0_size : arrF0.size = 321 := by simp [arrF0]
theorem arrF0_box : ∀ i, i < 321 → cellsOf arrF0 i = encF FC.void i := fun i hi => by simp [cellsOf, arrF0, hi]
def FC.cutC (s : FC) (n : Int) (x : ByteArray) : FC := ⟨s.toFF.cutF n x, fset s.nP n (s.nP n), fset s.nC n (s.nC n), fset s.kP n (s.kP n), fset s.kC n (s.kC n), s.rP, s.rC⟩
theorem held_of {t : FC} {X : FF} (h : t.toFF = X) (z v : Int) : ({ t with held := fset t.held z v } : FC).toFF = { X with held := fset X.held z v } := by rw [← h]
theorem XM.famVoidR {W w : World} {S : Nat → Nat → Prop} {H : List Ent} (r : Nat → RowD) (e : TypeId) (hr : ∀ i, r i = ⟨.slice none 0 0, e, 1, 0, []⟩) (h : XM W S H w) : XM W S (.fam fam40 r :: H) w := by
  have hr0 : w.ownsRow 0 e 1 (.slice none 0 0) 0 [] := (h.nilRow e 1).good.1 (.row (.slice none 0 0) e 1 0 []) (by simp)
  refine ⟨⟨fun x hx => ?_, List.pairwise_cons.2 ⟨fun x hx _ b o h1 h2 => ?_, h.good.2⟩⟩, h.keep, fun x hx hw b o hb => ?_⟩
  · rcases List.mem_cons.1 hx with rfl | hx
    · exact ⟨fun i _ => by rw [hr]; exact hr0, fun i j b _ _ _ h1 _ => by rw [hr] at h1; cases h1⟩
    · exact h.good.1 x hx
  · obtain ⟨i, _, hb⟩ := h1; rw [hr] at hb; cases hb
  · rcases List.mem_cons.1 hx with rfl | hx
    · obtain ⟨i, _, hb⟩ := hb; rw [hr] at hb; cases hb
    · exact h.mine x hx hw b o hb
theorem XM.newForest {W w : World} {S : Nat → Nat → Prop} {H : List Ent} (h : XM W S H w) : XM W S (.fam fam40 (FC.void.rowsN 9) :: .fam fam40 (FC.void.rowsK 3) :: irow none 0 3 [] :: H) w :=
  XM.famVoidR _ 9 (fun _ => rfl) (XM.famVoidR _ 3 (fun _ => rfl) (h.nilRow 3 1))
/-! ### what is told of a node -/
structure NV where
  kind : Int
  links : Int
  held : Int
  size : Int
def NV.arr (x : NV) : Array Value := #[.int .i64 x.kind, .int .i64 x.links, .int .i64 x.held, .int .i64 x.size]
def NV.zero : NV := ⟨0, 0, 0, 0⟩
def encNV (x : NV) (i : Nat) : Value := if i = 0 then .int .i64 x.kind else if i = 1 then .int .i64 x.links else if i = 2 then .int .i64 x.held else if i = 3 then .int .i64 x.size else undef
theorem encNV_box (x : NV) : ∀ i, i < 4 → cellsOf x.arr i = encNV x i := fun i h => match i, h with
  | 0, _ => rfl
  | 1, _ => rfl
  | 2, _ => rfl
  | 3, _ => rfl
  | j + 4, h => absurd h (by omega)
theorem encNV_agg (x : NV) : 0 + 4 ≤ 4 ∧ aggOf (encNV x) 0 4 = .agg x.arr := ⟨by omega, rfl⟩
theorem encNV_st (y x : NV) : 0 + 4 ≤ 4 ∧ updL (encNV y) 0 x.arr.toList = encNV x := by
  refine ⟨by omega, ?_⟩
  funext i
  match i with
  | 0 => rfl
  | 1 => rfl
  | 2 => rfl
  | 3 => rfl
  | k + 4 => simp [updL, upd, NV.arr, encNV]
def FF.ofV (s : FF) (n : Int) : NV := if s.isE n 0 = 0 then ⟨s.kind n, s.links n, s.held n, max ((s.data n).size : Int) ((s.kids n).length : Int)⟩ else NV.zero
/-- a whole node -/ def nodeV (u : encF.U) : Array Value := #[.int .i64 u.kind, .int .i64 u.tree, .int .i64 u.links, .int .i64 u.held, .string u.data, .slice u.nP u.names.length u.nC, .slice u.kP u.kids.length u.kC, .int .i64 u.up]
theorem encF_node (s : FC) (z : Int) (h : 0 ≤ z ∧ z < 40) : 0 + 0 + z.toNat * 8 + 8 ≤ 321 ∧ aggOf (encF s) (0 + 0 + z.toNat * 8) 8 = .agg (nodeV (encF.un s z)) := by
  refine ⟨by omega, ?_⟩
  have q := encF.at_ s z h
  simp only [aggOf, List.range, List.range.loop, List.map_cons, List.map_nil]
  rw [q 0 (by omega), q 1 (by omega), q 2 (by omega), q 3 (by omega), q 4 (by omega), q 5 (by omega), q 6 (by omega), q 7 (by omega)]
  rfl
theorem nodeV_st (u0 u : encF.U) : 0 + 8 ≤ 8 ∧ updL (encF.cell u0) 0 (nodeV u).toList = encF.cell u := by
  refine ⟨by omega, ?_⟩
  funext i
  match i with
  | 0 => rfl
  | 1 => rfl
  | 2 => rfl
  | 3 => rfl
  | 4 => rfl
  | 5 => rfl
  | 6 => rfl
  | 7 => rfl
  | k + 8 =>
    have e1 : ∀ u : encF.U, encF.cell u (k + 8) = undef := fun u => by unfold encF.cell; iterate 8 rw [if_neg (by omega)]
    have e2 : updL (encF.cell u0) 0 (nodeV u).toList (k + 8) = encF.cell u0 (k + 8) := by simp [updL, upd, nodeV]
    rw [e2, e1, e1]
theorem nodeV_0 (u : encF.U) : 0 + 0 < 8 ∧ encF.cell u (0 + 0) = .int .i64 u.kind := ⟨by omega, rfl⟩
theorem nodeV_2 (u : encF.U) : 0 + 2 < 8 ∧ encF.cell u (0 + 2) = .int .i64 u.links := ⟨by omega, rfl⟩
theorem nodeV_3 (u : encF.U) : 0 + 3 < 8 ∧ encF.cell u (0 + 3) = .int .i64 u.held := ⟨by omega, rfl⟩
theorem nodeV_4 (u : encF.U) : 0 + 4 < 8 ∧ encF.cell u (0 + 4) = .string u.data := ⟨by omega, rfl⟩
theorem nodeV_6 (u : encF.U) : 0 + 6 < 8 ∧ encF.cell u (0 + 6) = .slice u.kP u.kids.length u.kC := ⟨by omega, rfl⟩
/-! ### bytes written -/
theorem ba_get (l : List UInt8) (i : Nat) (h : i < (ByteArray.mk l.toArray).size) (h2 : i < l.length) : (ByteArray.mk l.toArray)[i]'h = l[i]'h2 := rfl
theorem wrB_at (d : ByteArray) (a : Nat) (x : ByteArray) (i : Nat) (h : i < (wrB d a x).size) : (wrB d a x)[i] = if a ≤ i ∧ i < a + x.size then x.get! (i - a) else if i < d.size then d.get! i else 0 := by
  have hs := FF.wrB_size d a x
  refine (ba_get _ i h (by rw [List.length_map, List.length_range]; omega)).trans ?_
  rw [List.getElem_map, List.getElem_range]
theorem get_bv {x : ByteArray} {j : Nat} (h : j < x.size) : (x.data.toList.map bv)[j]? = some (bv (x.get! j)) := by
  rw [List.getElem?_map]
  have h2 : j < x.data.toList.length := by rw [Array.length_toList]; exact h
  rw [List.getElem?_eq_getElem h2]
  show some (bv (x.data.toList[j])) = some (bv (x.data[j]!))
  rw [Array.getElem_toList, getElem!_pos x.data j h]
theorem bv_len (x : ByteArray) : (x.data.toList.map bv).length = x.size := by rw [List.length_map, Array.length_toList]; rfl
theorem wr_cells (d : ByteArray) (a : Nat) (x : ByteArray) (i : Nat) (h : i < (wrB d a x).size) : updL (updL (fun _ => bv 0) 0 (d.data.toList.map bv)) a (x.data.toList.map bv) i = bv (wrB d a x)[i] := by
  rw [wrB_at]
  by_cases c1 : i < a
  · rw [updL_lt' _ _ _ _ c1, if_neg (by omega)]
    by_cases c2 : i < d.size
    · rw [if_pos c2]
      have := updL_at' (d.data.toList.map bv) (fun _ => bv 0) 0 i _ (get_bv c2)
      rwa [Nat.zero_add] at this
    · rw [if_neg c2, updL_ge' _ _ _ _ (by rw [bv_len]; omega)]
  · by_cases c3 : i < a + x.size
    · rw [if_pos ⟨by omega, c3⟩]
      have := updL_at' (x.data.toList.map bv) (updL (fun _ => bv 0) 0 (d.data.toList.map bv)) a (i - a) _ (get_bv (x := x) (j := i - a) (by omega))
      rwa [show a + (i - a) = i by omega] at this
    · rw [if_neg (by omega), updL_ge' _ _ _ _ (by rw [bv_len]; omega)]
      by_cases c2 : i < d.size
      · rw [if_pos c2]
        have := updL_at' (d.data.toList.map bv) (fun _ => bv 0) 0 i _ (get_bv c2)
        rwa [Nat.zero_add] at this
      · rw [if_neg c2, updL_ge' _ _ _ _ (by rw [bv_len]; omega)]

end Go.X.Tr

namespace Go.X.Tr
open Go Go.X
def FF.ofR (s : FF) (n : Int) : NV := if s.isE n 0 = 0 then ⟨s.kind n, s.links n, s.held n, if s.kind n = 2 then ((s.names n).length : Int) else ((s.data n).size : Int)⟩ else NV.zero

end Go.X.Tr

namespace Go.X.Tr
open Go Go.X
/-! ### what the statement needs -/
namespace FF
theorem removeE_nn (s : FF) (n : Int) (x : ByteArray) : 0 ≤ s.removeE n x := by
  have := findE_nn s n x
  unfold removeE; split
  · exact this
  · split <;> omega
theorem moveE_nn (d : Int → Nat) (s : FF) (n : Int) (x : ByteArray) (to : Int) (y : ByteArray) : 0 ≤ s.moveE d n x to y := by
  have h1 := findE_nn s n x
  have h2 := isE_nn s to 2
  have h3 := roomE_nn (s.cutF n x) to y
  have h4 : 0 ≤ s.moveE0 d n x to := by
    unfold moveE0; split
    · exact h1
    · split
      · exact h2
      · split
        · omega
        · split <;> omega
  unfold moveE; split
  · exact h4
  · exact h3
theorem gone_roots (s : FF) (n : Int) : (s.goneF n).roots = s.roots := by unfold goneF; split <;> rfl
theorem letF_roots (s : FF) (n : Int) : (s.letF n).roots = s.roots := by
  unfold letF; split
  · rw [gone_roots]
  · rfl
theorem write_roots (s : FF) (n a : Int) (x : ByteArray) : (s.write n a x).roots = s.roots := by unfold write; split <;> rfl
end FF
theorem NV.ints (g : NV) : ∀ i, i < 4 → ∃ v, g.arr[i]? = some (.int .i64 v) := fun i h => match i, h with
  | 0, _ => ⟨_, rfl⟩
  | 1, _ => ⟨_, rfl⟩
  | 2, _ => ⟨_, rfl⟩
  | 3, _ => ⟨_, rfl⟩
  | j + 4, h => absurd h (by omega)
end Go.X.Tr

namespace Go.X.Tr
open Go Go.X
/-! ### what is counted -/
theorem pig : ∀ (N : Nat) (L : List Int), L.Nodup → (∀ y ∈ L, 0 ≤ y ∧ y < (N : Int)) → L.length ≤ N
  | 0, L, _, h => by
    cases L with
    | nil => exact Nat.le_refl _
    | cons a r => have := h a (by simp); omega
  | N + 1, L, hn, h => by
    by_cases c : (N : Int) ∈ L
    · have h1 := pig N (L.erase (N : Int)) (hn.erase _) (fun y hy => by
        have h2 := hn.mem_erase_iff.1 hy
        have h3 := h y h2.2
        have h4 := h2.1
        omega)
      have h2 := List.length_erase_of_mem c
      omega
    · have := pig N L hn (fun y hy => by
        have h3 := h y hy
        have h4 : y ≠ N := fun e => c (e ▸ hy)
        omega)
      omega
namespace FF
/-- names[k] when the first t roots are told -/ def rootW (s : FF) (t : Int) (k : Int) : Int := ((s.roots.take t.toNat).count k : Int)
/-- and when those of the first n nodes are -/ def kidW (s : FF) (n : Int) (k : Int) : Int := (s.roots.count k : Int) + (sumK s.kids k n.toNat : Int)
def kidW2 (s : FF) (n i : Int) (k : Int) : Int := s.kidW n k + (((s.kids n).take i.toNat).count k : Int)
/-- the names of a directory are found -/ theorem find_at {s : FF} {d : Int → Nat} (h : s.Inv d) {n i : Int} (hn : s.isE n 2 = 0) (hi : 0 ≤ i ∧ i < (s.names n).length) :
    s.findE n (sat0 (s.names n) i) = 0 ∧ s.findV n (sat0 (s.names n) i) = at0 (s.kids n) i ∧ i.toNat < (s.kids n).length ∧ nameOk (sat0 (s.names n) i) = true := by
  obtain ⟨i1, i2, i3, i4⟩ := isE_k0 hn
  obtain ⟨r1, r2, r3, r4⟩ := h.rise n i1 i2
  have hp := at_posn r1 (x := sat0 (s.names n) i) (i := i.toNat) (by omega) rfl
  have hh : hasn (s.names n) (sat0 (s.names n) i) = true := hasn_iff.2 ⟨by omega, by rw [← hp]; rfl⟩
  have e : s.findE n (sat0 (s.names n) i) = 0 := by unfold findE; rw [if_neg (by omega), if_pos hh]
  refine ⟨e, ?_, by omega, h.nok n i1 i2 _ (hasn_mem hh)⟩
  unfold findV
  rw [if_pos e, ← hp, show ((i.toNat : Nat) : Int) = i by omega]
/-- on the way up no node is met twice -/ structure Way (s : FF) (d : Int → Nat) (a k : Int) : Prop where
  nn : 0 ≤ k
  rng : 0 ≤ a ∧ a < 40
  dir : s.kind a = 2
  list : ∃ L : List Int, (L.length : Int) = k ∧ L.Nodup ∧ ∀ z ∈ L, (0 ≤ z ∧ z < 40) ∧ d a < d z
theorem Way.start {s : FF} {d : Int → Nat} {n : Int} (h1 : 0 ≤ n) (h2 : n < 40) (h : s.kind n = 2) : s.Way d n 0 := ⟨by omega, ⟨h1, h2⟩, h, [], rfl, List.nodup_nil, fun z hz => by cases hz⟩
theorem Way.step {s : FF} {d : Int → Nat} {a k : Int} (h : s.Way d a k) : ((a :: h.list.choose).length : Int) = k + 1 ∧ (a :: h.list.choose).Nodup ∧ ∀ z ∈ a :: h.list.choose, 0 ≤ z ∧ z < 40 := by
  obtain ⟨l1, l2, l3⟩ := h.list.choose_spec
  refine ⟨by rw [List.length_cons]; omega, List.nodup_cons.2 ⟨fun q => ?_, l2⟩, fun z hz => ?_⟩
  · have := (l3 a q).2; omega
  · rcases List.mem_cons.1 hz with rfl | hz
    · exact h.rng
    · exact (l3 z hz).1
theorem Way.short {s : FF} {d : Int → Nat} {a k : Int} (h : s.Way d a k) : k < 40 := by
  obtain ⟨l1, l2, l3⟩ := h.step
  have := pig 40 _ l2 l3
  omega
theorem Way.next {s : FF} {d : Int → Nat} {a k : Int} (hI : s.Inv d) (h : s.Way d a k) (hu : s.up a ≠ a) : s.Way d (s.up a) (k + 1) ∧ d (s.up a) < d a := by
  have hk := h.nn
  rcases hI.up a h.rng.1 h.rng.2 h.dir (by have := h.rng; omega) (by have := h.rng; omega) with g | ⟨g1, g2, g3, g4, g5⟩
  · exact absurd g.2 hu
  · obtain ⟨l1, l2, l3⟩ := h.step
    refine ⟨⟨by omega, ⟨g1, g2⟩, g3, a :: h.list.choose, l1, l2, fun z hz => ⟨l3 z hz, ?_⟩⟩, g5⟩
    rcases List.mem_cons.1 hz with rfl | hz
    · exact g5
    · have := (h.list.choose_spec.2.2 z hz).2; omega
end FF
end Go.X.Tr

namespace Go.X.Tr
open Go Go.X
/-! ### open files -/
structure OS where
  kind : Int → Int
  n : Int → Int
  at_ : Int → Int
  refs : Int → Int
  write : Int → Bool
namespace OS
def is (s : OS) (n : Int) : Int := if n < 0 ∨ 24 ≤ n then 1 else if s.refs n = 0 then 2 else 0
def firstT (s : OS) : Nat → Int
  | 0 => -1
  | k + 1 => if 0 ≤ firstT s k then firstT s k else if s.refs (k : Int) = 0 then (k : Int) else -1
def first (s : OS) : Int := firstT s 24
def freeT (s : OS) (m : Int) : Nat → List Int
  | 0 => []
  | k + 1 => if s.refs (k : Int) = 0 ∧ ((freeT s m k).length : Int) < m then freeT s m k ++ [(k : Int)] else freeT s m k
def lay (s : OS) (z k n : Int) (w : Bool) : OS := ⟨fset s.kind z k, fset s.n z n, fset s.at_ z 0, fset s.refs z 1, fset s.write z w⟩
def clr (s : OS) (z : Int) : OS := ⟨fset s.kind z 0, fset s.n z 0, fset s.at_ z 0, fset s.refs z 0, fset s.write z false⟩
def move (s : OS) (z d : Int) : OS := { s with at_ := fset s.at_ z (s.at_ z + d) }
def void : OS := ⟨fun _ => 0, fun _ => 0, fun _ => 0, fun _ => 0, fun _ => false⟩
def cntT (s : OS) : Nat → Int
  | 0 => 0
  | k + 1 => cntT s k + (if 0 < s.refs (k : Int) then 1 else 0)
def opens (s : OS) : Int := cntT s 24
structure Inv (s : OS) (J : Int) : Prop where
  refs : ∀ n, 0 ≤ n → n < 24 → 0 ≤ s.refs n ∧ s.refs n ≤ J
  at_ : ∀ n, 0 ≤ n → n < 24 → 0 ≤ s.at_ n ∧ s.at_ n ≤ 40
  kind : ∀ n, 0 ≤ n → n < 24 → s.refs n ≠ 0 → s.kind n = 1 ∨ s.kind n = 2 ∨ s.kind n = 3
  write : ∀ n, 0 ≤ n → n < 24 → s.kind n ≠ 1 → s.write n = false
theorem is_0 {s : OS} {n : Int} (h : s.is n = 0) : 0 ≤ n ∧ n < 24 ∧ s.refs n ≠ 0 := by
  unfold is at h
  split at h
  · omega
  · split at h
    · omega
    · exact ⟨by omega, by omega, by assumption⟩
theorem is_nn (s : OS) (n : Int) : 0 ≤ s.is n := by unfold is; split <;> (try split) <;> omega
theorem firstT_spec (s : OS) : ∀ k : Nat, (s.firstT k = -1 ∧ ∀ j : Int, 0 ≤ j → j < k → s.refs j ≠ 0) ∨ (0 ≤ s.firstT k ∧ s.firstT k < k ∧ s.refs (s.firstT k) = 0 ∧ ∀ j : Int, 0 ≤ j → j < s.firstT k → s.refs j ≠ 0)
  | 0 => .inl ⟨rfl, fun j a b => by omega⟩
  | k + 1 => by
    unfold firstT
    rcases firstT_spec s k with ⟨h1, h2⟩ | ⟨h1, h2, h3, h4⟩
    · rw [if_neg (by omega)]
      by_cases c : s.refs (k : Int) = 0
      · rw [if_pos c]; exact .inr ⟨by omega, by omega, c, fun j a b => h2 j a (by omega)⟩
      · rw [if_neg c]
        refine .inl ⟨rfl, fun j a b => ?_⟩
        by_cases e : j = (k : Int)
        · subst e; exact c
        · exact h2 j a (by omega)
    · rw [if_pos h1]; exact .inr ⟨h1, by omega, h3, h4⟩
theorem first_at {s : OS} {i : Int} (h1 : 0 ≤ i) (h2 : i < 24) (ho : ∀ j, 0 ≤ j → j < i → s.refs j ≠ 0) (hz : s.refs i = 0) : s.first = i := by
  unfold first
  rcases s.firstT_spec 24 with ⟨h3, h4⟩ | ⟨h3, h4, h5, h6⟩
  · exact absurd hz (h4 i h1 h2)
  · rcases Int.lt_trichotomy (s.firstT 24) i with c | c | c
    · exact absurd h5 (ho _ h3 c)
    · exact c
    · exact absurd hz (h6 i h1 c)
theorem first_ok {s : OS} (h : ¬ s.first < 0) : 0 ≤ s.first ∧ s.first < 24 ∧ s.refs s.first = 0 := by
  unfold first at h ⊢
  rcases s.firstT_spec 24 with ⟨h3, h4⟩ | ⟨h3, h4, h5, h6⟩
  · omega
  · exact ⟨h3, h4, h5⟩
theorem freeT_1 (s : OS) : ∀ k, s.freeT 1 k = if 0 ≤ s.firstT k then [s.firstT k] else []
  | 0 => rfl
  | k + 1 => by
    unfold freeT firstT
    rw [freeT_1 s k]
    by_cases c : 0 ≤ s.firstT k
    · simp only [c, if_true, List.length_singleton]
      rw [if_neg (by omega)]
    · simp only [c, if_false, List.length_nil]
      by_cases q : s.refs (k : Int) = 0
      · rw [if_pos ⟨q, by omega⟩, if_pos q, if_pos (by omega)]; rfl
      · rw [if_neg (fun h => q h.1), if_neg q, if_neg (by omega)]
theorem freeT_len (s : OS) (m : Int) : ∀ k, (s.freeT m k).length ≤ k
  | 0 => Nat.le_refl _
  | k + 1 => by
    have := freeT_len s m k
    unfold freeT; split
    · rw [List.length_append, List.length_singleton]; omega
    · omega
theorem freeT_next (s : OS) (m : Int) {i : Int} (h : 0 ≤ i) : s.freeT m (i + 1).toNat = if s.refs i = 0 ∧ ((s.freeT m i.toNat).length : Int) < m then s.freeT m i.toNat ++ [i] else s.freeT m i.toNat := by
  rw [show (i + 1).toNat = i.toNat + 1 by omega]
  conv => lhs; unfold freeT
  rw [show ((i.toNat : Nat) : Int) = i by omega]
theorem free_no {s : OS} (h : ((s.freeT 1 24).length : Int) < 1) : s.first < 0 := by
  rw [freeT_1] at h
  unfold first
  split at h
  · simp at h
  · omega
end OS
/-! ### what is answered -/
def onodeE (F : FF) (O : OS) (n : Int) : Int := if F.isE n 1 ≠ 0 then F.isE n 1 else if O.first < 0 then 4 else 0
def onodeV (F : FF) (O : OS) (n : Int) : Int := if onodeE F O n = 0 then O.first else 0
def onodeF (F : FF) (O : OS) (n : Int) : FF := if onodeE F O n = 0 then F.hold n else F
def onodeO (F : FF) (O : OS) (n : Int) (w : Bool) : OS := if onodeE F O n = 0 then O.lay O.first 1 n w else O
def shareO (O : OS) (n : Int) : OS := if O.is n = 0 then { O with refs := fset O.refs n (O.refs n + 1) } else O
def downO (O : OS) (n : Int) : OS := { O with refs := fset O.refs n (O.refs n - 1) }
def lastC (O : OS) (n : Int) : Prop := O.is n = 0 ∧ ¬ 0 < O.refs n - 1
instance (O : OS) (n : Int) : Decidable (lastC O n) := by unfold lastC; infer_instance
def closeE (F : FF) (P : PS) (O : OS) (n : Int) : Int := if O.is n ≠ 0 then O.is n else if 0 < O.refs n - 1 then 0 else if O.kind n = 1 then F.letE (O.n n) else (P.turn (O.n n) (decide (O.kind n = 3)) (-1)).1
def closeF (F : FF) (O : OS) (n : Int) : FF := if lastC O n ∧ O.kind n = 1 then F.letF (O.n n) else F
def closeP (P : PS) (O : OS) (n : Int) : PS := if lastC O n ∧ ¬ O.kind n = 1 then (P.turn (O.n n) (decide (O.kind n = 3)) (-1)).2 else P
def closeO (O : OS) (n : Int) : OS := if O.is n ≠ 0 then O else if 0 < O.refs n - 1 then downO O n else O.clr n
def oreadE (F : FF) (P : PS) (O : OS) (n m : Int) : Int := if O.is n ≠ 0 then O.is n else if O.kind n = 3 then 8 else if O.kind n = 2 then (P.read (O.n n) m).2.1 else F.readE (O.n n) (O.at_ n) m
def oreadV (F : FF) (P : PS) (O : OS) (n m : Int) : ByteArray := if O.is n ≠ 0 then ⟨#[]⟩ else if O.kind n = 3 then ⟨#[]⟩ else if O.kind n = 2 then (P.read (O.n n) m).1 else F.readV (O.n n) (O.at_ n) m
def oreadP (P : PS) (O : OS) (n m : Int) : PS := if O.is n = 0 ∧ O.kind n = 2 then (P.read (O.n n) m).2.2 else P
def oreadO (F : FF) (O : OS) (n m : Int) : OS := if O.is n = 0 ∧ ¬ O.kind n = 3 ∧ ¬ O.kind n = 2 then O.move n ((F.readV (O.n n) (O.at_ n) m).size) else O
def owriteE (F : FF) (P : PS) (O : OS) (n : Int) (x : ByteArray) : Int := if O.is n ≠ 0 then O.is n else if O.kind n = 3 then (P.write (O.n n) x).2.1 else if O.kind n = 2 ∨ O.write n = false then 8 else F.writeE (O.n n) (O.at_ n) x
def fileW (O : OS) (n : Int) : Prop := O.is n = 0 ∧ ¬ O.kind n = 3 ∧ ¬ (O.kind n = 2 ∨ O.write n = false)
instance (O : OS) (n : Int) : Decidable (fileW O n) := by unfold fileW; infer_instance
def owriteV (F : FF) (P : PS) (O : OS) (n : Int) (x : ByteArray) : Int := if O.is n = 0 ∧ O.kind n = 3 then (P.write (O.n n) x).1 else if fileW O n ∧ F.writeE (O.n n) (O.at_ n) x = 0 then (x.size : Int) else 0
def owriteP (P : PS) (O : OS) (n : Int) (x : ByteArray) : PS := if O.is n = 0 ∧ O.kind n = 3 then (P.write (O.n n) x).2.2 else P
def owriteF (F : FF) (O : OS) (n : Int) (x : ByteArray) : FF := if fileW O n then F.write (O.n n) (O.at_ n) x else F
def owriteO (F : FF) (O : OS) (n : Int) (x : ByteArray) : OS := if fileW O n ∧ F.writeE (O.n n) (O.at_ n) x = 0 then O.move n (x.size) else O
def seekE (O : OS) (n a : Int) : Int := if O.is n ≠ 0 then O.is n else if O.kind n ≠ 1 then 11 else if a < 0 ∨ 40 < a then 1 else 0
def seekO (O : OS) (n a : Int) : OS := if seekE O n a = 0 then { O with at_ := fset O.at_ n a } else O
theorem OS.is_cases (s : OS) (n : Int) : (s.is n = 0 ∧ 0 ≤ n ∧ n < 24 ∧ ¬ s.refs n = 0) ∨ (s.is n = 1 ∧ (n < 0 ∨ 24 ≤ n)) ∨ (s.is n = 2 ∧ 0 ≤ n ∧ n < 24 ∧ s.refs n = 0) := by
  unfold OS.is; split
  · exact .inr (.inl ⟨rfl, by assumption⟩)
  · split
    · exact .inr (.inr ⟨rfl, by omega, by omega, by assumption⟩)
    · exact .inl ⟨rfl, by omega, by omega, by assumption⟩
theorem OS.clr_down (O : OS) (n : Int) : (downO O n).clr n = O.clr n := by
  unfold OS.clr downO
  simp only [FF.fset_fset]
theorem FF.readV_le {s : FF} (h : s.Sh) (n a m : Int) : (s.readV n a m).size ≤ 40 ∧ (0 ≤ a → a ≤ 40 → a + ((s.readV n a m).size : Int) ≤ 40) := by
  unfold readV
  split
  · rename_i e
    have e1 : s.isE n 1 = 0 ∧ 0 ≤ a ∧ 0 ≤ m := by
      unfold readE at e
      split at e
      · omega
      · split at e
        · omega
        · omega
    obtain ⟨i1, i2, _⟩ := isE_k0 e1.1
    have hd := h.data n i1 i2
    rw [ByteArray.size_extract]
    omega
  · exact ⟨by simp, fun _ h2 => by simpa using h2⟩
/-! ### how many are free -/
namespace OS
def second (s : OS) : Int := (s.lay s.first 2 0 false).first
theorem freeT_2 (s : OS) : ∀ k : Nat, (s.freeT 2 k = [] ∧ ∀ j : Int, 0 ≤ j → j < k → s.refs j ≠ 0) ∨ (∃ a : Int, s.freeT 2 k = [a] ∧ 0 ≤ a ∧ a < k ∧ s.refs a = 0 ∧ ∀ j : Int, 0 ≤ j → j < k → j ≠ a → s.refs j ≠ 0) ∨
    (∃ a b : Int, s.freeT 2 k = [a, b] ∧ 0 ≤ a ∧ a < b ∧ b < k ∧ s.refs a = 0 ∧ s.refs b = 0 ∧ ∀ j : Int, 0 ≤ j → j < b → j ≠ a → s.refs j ≠ 0)
  | 0 => .inl ⟨rfl, fun j a b => by omega⟩
  | k + 1 => by
    unfold freeT
    rcases freeT_2 s k with ⟨h1, h2⟩ | ⟨a, h1, h2, h3, h4, h5⟩ | ⟨a, b, h1, h2, h3, h4, h5, h6, h7⟩
    · rw [h1]
      by_cases c : s.refs (k : Int) = 0
      · rw [if_pos ⟨c, by simp⟩]
        exact .inr (.inl ⟨k, rfl, by omega, by omega, c, fun j x y z => h2 j x (by omega)⟩)
      · rw [if_neg (fun q => c q.1)]
        refine .inl ⟨rfl, fun j x y => ?_⟩
        by_cases e : j = (k : Int)
        · subst e; exact c
        · exact h2 j x (by omega)
    · rw [h1]
      by_cases c : s.refs (k : Int) = 0
      · rw [if_pos ⟨c, by simp⟩]
        exact .inr (.inr ⟨a, k, rfl, h2, h3, by omega, h4, c, fun j x y z => h5 j x (by omega) z⟩)
      · rw [if_neg (fun q => c q.1)]
        refine .inr (.inl ⟨a, rfl, h2, by omega, h4, fun j x y z => ?_⟩)
        by_cases e : j = (k : Int)
        · subst e; exact c
        · exact h5 j x (by omega) z
    · rw [h1, if_neg (fun q => by have := q.2; simp at this)]
      exact .inr (.inr ⟨a, b, rfl, h2, h3, by omega, h5, h6, h7⟩)
theorem free2_no {s : OS} (h : ((s.freeT 2 24).length : Int) < 2) : s.first < 0 ∨ s.second < 0 := by
  rcases s.freeT_2 24 with ⟨h1, h2⟩ | ⟨a, h1, h2, h3, h4, h5⟩ | ⟨a, b, h1, _⟩
  · left
    refine Decidable.byContradiction fun c => ?_
    have := first_ok c
    exact h2 _ this.1 this.2.1 this.2.2
  · right
    have e : s.first = a := first_at h2 h3 (fun j x y => h5 j x (by omega) (by omega)) h4
    refine Decidable.byContradiction fun c => ?_
    have q := first_ok (s := s.lay s.first 2 0 false) c
    have q3 := q.2.2
    rw [show (s.lay s.first 2 0 false).refs = fset s.refs s.first 1 from rfl, show (s.lay s.first 2 0 false).first = s.second from rfl] at q3
    by_cases z : s.second = a
    · rw [e, z, fset_eq] at q3; omega
    · rw [e, fset_ne _ _ z] at q3
      exact h5 _ q.1 q.2.1 z q3
  · rw [h1] at h; simp at h
theorem free2_yes {s : OS} (h : ¬ ((s.freeT 2 24).length : Int) < 2) : ¬ s.first < 0 ∧ ¬ s.second < 0 ∧ s.freeT 2 24 = [s.first, s.second] := by
  rcases s.freeT_2 24 with ⟨h1, h2⟩ | ⟨a, h1, h2, h3, h4, h5⟩ | ⟨a, b, h1, h2, h3, h4, h5, h6, h7⟩
  · rw [h1] at h; simp at h
  · rw [h1] at h; simp at h
  · have e : s.first = a := first_at h2 (by omega) (fun j x y => h7 j x (by omega) (by omega)) h5
    have e2 : s.second = b := by
      unfold second
      refine first_at (by omega) (by omega) (fun j x y => ?_) ?_
      · show fset s.refs s.first 1 j ≠ 0
        rw [e]
        by_cases z : j = a
        · rw [z, fset_eq]; omega
        · rw [fset_ne _ _ z]; exact h7 j x y z
      · show fset s.refs s.first 1 b = 0
        rw [e, fset_ne _ _ (by omega)]; exact h6
    exact ⟨by omega, by omega, by rw [h1, e, e2]⟩
end OS
def roomB (O : OS) (m : Int) : Bool := decide (m < 1) || decide (m ≤ 24 - O.opens)
def opipeE (P : PS) (O : OS) : Int := if O.first < 0 ∨ O.second < 0 then 4 else P.make.2.1
def opipeP (P : PS) (O : OS) : PS := if O.first < 0 ∨ O.second < 0 then P else P.make.2.2
def opipeO (P : PS) (O : OS) : OS := if opipeE P O = 0 then (O.lay O.first 2 P.make.1 false).lay O.second 3 P.make.1 false else O
def opipeV (P : PS) (O : OS) : Int := if opipeE P O = 0 then O.first else 0
def opipeU (P : PS) (O : OS) : Int := if opipeE P O = 0 then O.second else 0
def ofx (O : OS) (n x : Int) : Int := if O.is n = 0 then x else 0
theorem ints2a (x y : Int) : (ints [x, y])[0 + (0 : Int).toNat * 1]? = some (.int .i64 x) := rfl
theorem ints2b (x y : Int) : (ints [x, y])[0 + (1 : Int).toNat * 1]? = some (.int .i64 y) := rfl
end Go.X.Tr

namespace Go.X.Tr
open Go Go.X

/-! ### the plain law -/
theorem PS.make_inv {s : PS} {K : Int} (h : s.Inv K) (hK : 0 ≤ K) : (s.make).2.2.Inv (K + 1) := by
  unfold PS.make
  cases hf : firstN (fun k => s.e k 0 + s.e k 1 == 0) 8 with
  | none => exact h.mono (by omega)
  | some k =>
    have hz : s.e k 0 + s.e k 1 = 0 := by
      unfold firstN at hf
      have := List.find?_some hf
      simpa using this
    refine ⟨fun n => ?_, fun n => ?_, fun n hn => ?_, h.len⟩
    · have := h.e0 n
      simp only [fset2]; split <;> (try split) <;> omega
    · have := h.e1 n
      simp only [fset2]; split <;> (try split) <;> omega
    · simp only [fset2] at hn
      by_cases hnk : n = k
      · subst hnk; exact h.cl _ hz
      · refine h.cl n ?_
        simpa [hnk] using hn
theorem PS.turn_inv {s : PS} {K n d : Int} {w : Bool} (h : s.Inv K) (hd : d = 1 ∨ d = -1) : (s.turn n w d).2.Inv (K + 1) := by
  unfold PS.turn
  by_cases h1 : s.is n ≠ 0
  · rw [if_pos h1]; exact h.mono (by omega)
  rw [if_neg h1]
  by_cases h2 : s.e n (sel w) = 0
  · rw [if_pos h2]; exact h.mono (by omega)
  rw [if_neg h2]
  have b0 := h.e0
  have b1 := h.e1
  have hw : sel w = 0 ∨ sel w = 1 := by cases w <;> simp [sel]
  refine ⟨fun m => ?_, fun m => ?_, fun m hm => ?_, fun m => ?_⟩
  · have c0 := b0 m; have c1 := b1 m
    simp only [fset2]
    rcases hw with hw | hw <;> rw [hw] at h2 ⊢ <;> split
    · rename_i q; obtain ⟨rfl, _⟩ := q; omega
    · omega
    · rename_i q; simp at q
    · omega
  · have c0 := b0 m; have c1 := b1 m
    simp only [fset2]
    rcases hw with hw | hw <;> rw [hw] at h2 ⊢ <;> split
    · rename_i q; simp at q
    · omega
    · rename_i q; obtain ⟨rfl, _⟩ := q; omega
    · omega
  · simp only [fset2] at hm
    by_cases hmn : m = n
    · subst hmn
      have : s.e m 0 + s.e m 1 + d = 0 := by
        rcases hw with hw | hw <;> rw [hw] at hm <;> simp at hm <;> omega
      simp only [this, if_true, fset]
    · have : s.b m = ⟨#[]⟩ := h.cl m (by simpa [hmn] using hm)
      split
      · simp [fset, hmn, this]
      · exact this
  · have := h.len m
    split
    · simp only [fset]; split
      · simp [ByteArray.size]
      · exact this
    · exact this
theorem PS.read_inv {s : PS} {K n m : Int} (h : s.Inv K) : (s.read n m).2.2.Inv (K + 1) := by
  have hh := h.mono (show K ≤ K + 1 by omega)
  unfold PS.read
  split
  · exact hh
  · split
    · exact hh
    · split
      · exact hh
      · split
        · exact hh
        · refine ⟨hh.e0, hh.e1, fun j hj => ?_, fun j => ?_⟩
          · have := h.cl j hj
            simp only [fset]; split
            · rename_i q; subst q; rw [this]
              rw [str_empty]
              simp [ByteArray.size_extract]; simp [ByteArray.size]
            · exact this
          · have := h.len j
            simp only [fset]; split
            · rename_i q; subst q; rw [ByteArray.size_extract]; omega
            · exact this
theorem PS.write_inv {s : PS} {K n : Int} {t : ByteArray} (h : s.Inv K) : (s.write n t).2.2.Inv (K + 1) := by
  have hh := h.mono (show K ≤ K + 1 by omega)
  unfold PS.write
  split
  · exact hh
  · split
    · exact hh
    · rename_i h1
      split
      · exact hh
      · split
        · exact hh
        · refine ⟨hh.e0, hh.e1, fun j hj => ?_, fun j => ?_⟩
          · have := h.cl j hj
            simp only [fset]; split
            · rename_i q; subst q
              have := h.e0 j; have := h.e1 j
              simp only at hj
              omega
            · exact this
          · have := h.len j
            simp only [fset]; split
            · rename_i q; subst q
              rw [ByteArray.size_append, ByteArray.size_extract]
              omega
            · exact this
theorem PS.is_nn (s : PS) (n : Int) : 0 ≤ s.is n := by rcases PS.is_cases s n with q | q | q <;> omega
theorem OS.Inv.mono {s : OS} {J J' : Int} (h : s.Inv J) (hJ : J ≤ J') : s.Inv J' :=
  ⟨fun n a b => ⟨(h.refs n a b).1, Int.le_trans (h.refs n a b).2 hJ⟩, h.at_, h.kind, h.write⟩
theorem OS.Inv.void : OS.void.Inv 1 :=
  ⟨fun _ _ _ => by simp [OS.void], fun _ _ _ => by simp [OS.void], fun n _ _ h => absurd rfl h, fun _ _ _ _ => rfl⟩
theorem OS.Inv.lay {s : OS} {J : Int} (h : s.Inv J) (hJ : 1 ≤ J) (z k n : Int) (w : Bool) (hk : k = 1 ∨ k = 2 ∨ k = 3) (hw : k ≠ 1 → w = false) : (s.lay z k n w).Inv J := by
  refine ⟨fun y a b => ?_, fun y a b => ?_, fun y a b c => ?_, fun y a b c => ?_⟩
  · show 0 ≤ fset s.refs z 1 y ∧ fset s.refs z 1 y ≤ J
    by_cases q : y = z
    · rw [q, fset_eq]; omega
    · rw [fset_ne _ _ q]; exact h.refs y a b
  · show 0 ≤ fset s.at_ z 0 y ∧ fset s.at_ z 0 y ≤ 40
    by_cases q : y = z
    · rw [q, fset_eq]; omega
    · rw [fset_ne _ _ q]; exact h.at_ y a b
  · show fset s.kind z k y = 1 ∨ fset s.kind z k y = 2 ∨ fset s.kind z k y = 3
    by_cases q : y = z
    · rw [q, fset_eq]; exact hk
    · rw [fset_ne _ _ q]; refine h.kind y a b ?_
      have c' : fset s.refs z 1 y ≠ 0 := c
      rw [fset_ne _ _ q] at c'; exact c'
  · show fset s.write z w y = false
    have c' : fset s.kind z k y ≠ 1 := c
    by_cases q : y = z
    · rw [q, fset_eq] at c' ⊢; exact hw c'
    · rw [fset_ne _ _ q] at c' ⊢; exact h.write y a b c'
theorem OS.Inv.refs_ {s : OS} {J J' : Int} (h : s.Inv J) (hJ : J ≤ J') (n r : Int) (hr : 0 ≤ r ∧ r ≤ J') (hn : s.refs n ≠ 0) : ({ s with refs := fset s.refs n r } : OS).Inv J' := by
  refine ⟨fun y a b => ?_, h.at_, fun y a b c => ?_, h.write⟩
  · show 0 ≤ fset s.refs n r y ∧ fset s.refs n r y ≤ J'
    by_cases q : y = n
    · rw [q, fset_eq]; omega
    · rw [fset_ne _ _ q]; have := h.refs y a b; omega
  · refine h.kind y a b ?_
    by_cases q : y = n
    · rw [q]; exact hn
    · have c' : fset s.refs n r y ≠ 0 := c
      rw [fset_ne _ _ q] at c'; exact c'
theorem OS.Inv.atI {s : OS} {J : Int} (h : s.Inv J) (n r : Int) (hr : 0 ≤ r ∧ r ≤ 40) : ({ s with at_ := fset s.at_ n r } : OS).Inv J := by
  refine ⟨h.refs, fun y a b => ?_, h.kind, h.write⟩
  show 0 ≤ fset s.at_ n r y ∧ fset s.at_ n r y ≤ 40
  by_cases q : y = n
  · rw [q, fset_eq]; omega
  · rw [fset_ne _ _ q]; exact h.at_ y a b
theorem OS.Inv.clr {s : OS} {J : Int} (h : s.Inv J) (hJ : 0 ≤ J) (z : Int) : (s.clr z).Inv J := by
  refine ⟨fun y a b => ?_, fun y a b => ?_, fun y a b c => ?_, fun y a b c => ?_⟩
  · show 0 ≤ fset s.refs z 0 y ∧ fset s.refs z 0 y ≤ J
    by_cases q : y = z
    · rw [q, fset_eq]; omega
    · rw [fset_ne _ _ q]; exact h.refs y a b
  · show 0 ≤ fset s.at_ z 0 y ∧ fset s.at_ z 0 y ≤ 40
    by_cases q : y = z
    · rw [q, fset_eq]; omega
    · rw [fset_ne _ _ q]; exact h.at_ y a b
  · show fset s.kind z 0 y = 1 ∨ fset s.kind z 0 y = 2 ∨ fset s.kind z 0 y = 3
    have c' : fset s.refs z 0 y ≠ 0 := c
    by_cases q : y = z
    · rw [q, fset_eq] at c'; exact absurd rfl c'
    · rw [fset_ne _ _ q] at c' ⊢; exact h.kind y a b c'
  · show fset s.write z false y = false
    have c' : fset s.kind z 0 y ≠ 1 := c
    by_cases q : y = z
    · rw [q, fset_eq]
    · rw [fset_ne _ _ q] at c' ⊢; exact h.write y a b c'
theorem OS.Inv.node {O : OS} {J : Int} (h : O.Inv J) (hJ : 1 ≤ J) (F : FF) (n : Int) (w : Bool) : (onodeO F O n w).Inv (J + 1) := by
  unfold onodeO; split
  · exact (h.lay hJ _ 1 n w (.inl rfl) (fun q => absurd rfl q)).mono (by omega)
  · exact h.mono (by omega)
theorem OS.Inv.pipe {O : OS} {J : Int} (h : O.Inv J) (hJ : 1 ≤ J) (P : PS) : (opipeO P O).Inv (J + 1) := by
  unfold opipeO; split
  · exact ((h.lay hJ _ 2 _ false (.inr (.inl rfl)) (fun _ => rfl)).lay hJ _ 3 _ false (.inr (.inr rfl)) (fun _ => rfl)).mono (by omega)
  · exact h.mono (by omega)
theorem OS.Inv.share {O : OS} {J : Int} (h : O.Inv J) (n : Int) : (shareO O n).Inv (J + 1) := by
  unfold shareO; split
  · rename_i c
    obtain ⟨i1, i2, i3⟩ := OS.is_0 c
    have := h.refs n i1 i2
    exact h.refs_ (by omega) n _ (by omega) i3
  · exact h.mono (by omega)
theorem OS.Inv.close {O : OS} {J : Int} (h : O.Inv J) (n : Int) : (closeO O n).Inv (J + 1) := by
  have h0 := h.refs 0 (by omega) (by omega)
  unfold closeO; split
  · exact h.mono (by omega)
  · rename_i c
    obtain ⟨i1, i2, i3⟩ := OS.is_0 (Decidable.not_not.1 c)
    have := h.refs n i1 i2
    split
    · exact h.refs_ (by omega) n _ (by omega) i3
    · exact (h.clr (by omega) n).mono (by omega)
theorem OS.Inv.read {O : OS} {J : Int} (h : O.Inv J) {F : FF} (hF : F.Sh) (n m : Int) : (oreadO F O n m).Inv (J + 1) := by
  unfold oreadO; split
  · rename_i c
    obtain ⟨i1, i2, i3⟩ := OS.is_0 c.1
    have h2 := h.at_ n i1 i2
    have h3 := (FF.readV_le hF (O.n n) (O.at_ n) m).2 h2.1 h2.2
    exact (h.atI n _ (by omega)).mono (by omega)
  · exact h.mono (by omega)
theorem FF.writeE_le {F : FF} {n a : Int} {x : ByteArray} (h : F.writeE n a x = 0) : 0 ≤ a ∧ a + x.size ≤ 40 := by
  unfold FF.writeE at h
  split at h
  · omega
  · split at h
    · omega
    · split at h
      · omega
      · omega
theorem OS.Inv.write_ {O : OS} {J : Int} (h : O.Inv J) (F : FF) (n : Int) (x : ByteArray) : (owriteO F O n x).Inv (J + 1) := by
  unfold owriteO; split
  · rename_i c
    obtain ⟨i1, i2, i3⟩ := OS.is_0 c.1.1
    have h2 := h.at_ n i1 i2
    have h3 := FF.writeE_le c.2
    exact (h.atI n _ (by omega)).mono (by omega)
  · exact h.mono (by omega)
theorem OS.Inv.seek {O : OS} {J : Int} (h : O.Inv J) (n a : Int) : (seekO O n a).Inv (J + 1) := by
  unfold seekO; split
  · rename_i c
    have : 0 ≤ a ∧ a ≤ 40 := by
      have := O.is_nn n
      unfold seekE at c
      split at c
      · omega
      · split at c
        · omega
        · split at c <;> omega
    exact (h.atI n _ this).mono (by omega)
  · exact h.mono (by omega)
theorem opipeP_inv {P : PS} {K : Int} (h : P.Inv K) (hK : 0 ≤ K) (O : OS) : (opipeP P O).Inv (K + 1) := by
  unfold opipeP; split
  · exact h.mono (by omega)
  · exact PS.make_inv h hK
theorem oreadP_inv {P : PS} {K : Int} (h : P.Inv K) (O : OS) (n m : Int) : (oreadP P O n m).Inv (K + 1) := by
  unfold oreadP; split
  · exact PS.read_inv h
  · exact h.mono (by omega)
theorem owriteP_inv {P : PS} {K : Int} (h : P.Inv K) (O : OS) (n : Int) (x : ByteArray) : (owriteP P O n x).Inv (K + 1) := by
  unfold owriteP; split
  · exact PS.write_inv h
  · exact h.mono (by omega)
theorem owriteF_ok {F : FF} {d : Int → Nat} {B : Int} (h : F.Ok d B) (O : OS) (n : Int) (x : ByteArray) : (owriteF F O n x).Ok d (B + 1) := by
  unfold owriteF; split
  · exact h.write (O.n n) (O.at_ n) x
  · exact h.up1
theorem closeF_roots (F : FF) (O : OS) (n : Int) : (closeF F O n).roots = F.roots := by
  unfold closeF; split
  · exact FF.letF_roots _ _
  · rfl
theorem owriteF_roots (F : FF) (O : OS) (n : Int) (x : ByteArray) : (owriteF F O n x).roots = F.roots := by
  unfold owriteF; split
  · exact FF.write_roots _ _ _ _
  · rfl
end Go.X.Tr

namespace Go.X.Tr
open Go Go.X
/-! ### places, mounts, tables -/
structure WH where
  tree : Int
  node : Int
instance : DecidableEq WH := fun a b => if h : a.tree = b.tree ∧ a.node = b.node then isTrue (by cases a; cases b; simp only at h; rw [h.1, h.2]) else isFalse (fun e => h (by rw [e]; exact ⟨rfl, rfl⟩))
def WH.nil : WH := ⟨0, 0⟩
abbrev WH.arr (w : WH) : Array Value := #[.int .i64 w.tree, .int .i64 w.node]
def encW (w : WH) (i : Nat) : Value := if i = 0 then .int .i64 w.tree else if i = 1 then .int .i64 w.node else undef
structure MT where
  at_ : WH
  to : WH
def MT.nil : MT := ⟨WH.nil, WH.nil⟩
abbrev MT.arr (m : MT) : Array Value := #[.int .i64 m.at_.tree, .int .i64 m.at_.node, .int .i64 m.to.tree, .int .i64 m.to.node]
def encMt (m : MT) (i : Nat) : Value := if i = 0 then .int .i64 m.at_.tree else if i = 1 then .int .i64 m.at_.node else if i = 2 then .int .i64 m.to.tree else if i = 3 then .int .i64 m.to.node else undef
def mat (l : List MT) (z : Int) : MT := l.getD z.toNat MT.nil
def wat (l : List WH) (z : Int) : WH := l.getD z.toNat WH.nil
def mC (l : List MT) (i : Nat) : Value := encMt (mat l ((i / 4 : Nat) : Int)) (i % 4)
def wC (l : List WH) (i : Nat) : Value := encW (wat l ((i / 2 : Nat) : Int)) (i % 2)
/-- cells that hold these mounts, in front -/ def MC (C : Nat → Value) (l : List MT) : Prop := ∀ i, i < l.length * 4 → C i = mC l i
/-! a box, a place -/
theorem encW.box (w : WH) : ∀ i, i < 2 → cellsOf (WH.arr w) i = encW w i := fun i h => match i, h with
  | 0, _ => rfl
  | 1, _ => rfl
  | j + 2, h => absurd h (by omega)
theorem encW.agg (w : WH) : 0 + 2 ≤ 2 ∧ aggOf (encW w) 0 2 = .agg (WH.arr w) := ⟨by omega, rfl⟩
theorem encW.ld0 (w : WH) : 0 + 0 < 2 ∧ encW w (0 + 0) = .int .i64 w.tree := ⟨by omega, rfl⟩
theorem encW.ld1 (w : WH) : 0 + 1 < 2 ∧ encW w (0 + 1) = .int .i64 w.node := ⟨by omega, rfl⟩
theorem encW.st (w u : WH) : 0 + 2 ≤ 2 ∧ updL (encW w) 0 (WH.arr u).toList = encW u := by
  refine ⟨by omega, ?_⟩
  funext i
  match i with
  | 0 => rfl
  | 1 => rfl
  | k + 2 =>
    have e1 : ∀ w : WH, encW w (k + 2) = undef := fun w => by unfold encW; rw [if_neg (by omega), if_neg (by omega)]
    have e2 : updL (encW w) 0 (WH.arr u).toList (k + 2) = encW w (k + 2) := by simp [updL, upd]
    rw [e2, e1, e1]
theorem encMt.box (m : MT) : ∀ i, i < 4 → cellsOf (MT.arr m) i = encMt m i := fun i h => match i, h with
  | 0, _ => rfl
  | 1, _ => rfl
  | 2, _ => rfl
  | 3, _ => rfl
  | j + 4, h => absurd h (by omega)
theorem encMt.agg (m : MT) : 0 + 4 ≤ 4 ∧ aggOf (encMt m) 0 4 = .agg (MT.arr m) := ⟨by omega, rfl⟩
theorem encMt.ldA (m : MT) : 0 + 0 + 2 ≤ 4 ∧ aggOf (encMt m) (0 + 0) 2 = .agg (WH.arr m.at_) := ⟨by omega, rfl⟩
theorem encMt.ldAn (m : MT) : 0 + 0 + 1 < 4 ∧ encMt m (0 + 0 + 1) = .int .i64 m.at_.node := ⟨by omega, rfl⟩
theorem encMt.ldTn (m : MT) : 0 + 2 + 1 < 4 ∧ encMt m (0 + 2 + 1) = .int .i64 m.to.node := ⟨by omega, rfl⟩
theorem encMt.st (m u : MT) : 0 + 4 ≤ 4 ∧ updL (encMt m) 0 (MT.arr u).toList = encMt u := by
  refine ⟨by omega, ?_⟩
  funext i
  match i with
  | 0 => rfl
  | 1 => rfl
  | 2 => rfl
  | 3 => rfl
  | k + 4 =>
    have e1 : ∀ w : MT, encMt w (k + 4) = undef := fun w => by unfold encMt; rw [if_neg (by omega), if_neg (by omega), if_neg (by omega), if_neg (by omega)]
    have e2 : updL (encMt m) 0 (MT.arr u).toList (k + 4) = encMt m (k + 4) := by simp [updL, upd]
    rw [e2, e1, e1]
/-! a table: the forest, the root, the mounts -/
def encT (bf : Nat) (r : WH) (v : Value) (i : Nat) : Value := if i = 0 then ptr bf 0 0 else if i = 1 then .int .i64 r.tree else if i = 2 then .int .i64 r.node else if i = 3 then v else undef
theorem encT.ld0 {bf : Nat} (r : WH) (v : Value) : 0 + 0 < 4 ∧ encT bf r v (0 + 0) = ptr bf 0 0 := ⟨by omega, rfl⟩
theorem encT.ld1 {bf : Nat} (r : WH) (v : Value) : 0 + 1 + 2 ≤ 4 ∧ aggOf (encT bf r v) (0 + 1) 2 = .agg (WH.arr r) := ⟨by omega, rfl⟩
theorem encT.ld1n {bf : Nat} (r : WH) (v : Value) : 0 + 1 + 1 < 4 ∧ encT bf r v (0 + 1 + 1) = .int .i64 r.node := ⟨by omega, rfl⟩
theorem encT.ld2 {bf : Nat} (r : WH) (v : Value) : 0 + 3 < 4 ∧ encT bf r v (0 + 3) = v := ⟨by omega, rfl⟩
theorem encT.st2 {bf : Nat} (r : WH) (v u : Value) : 0 + 3 < 4 ∧ upd (encT bf r v) (0 + 3) u = encT bf r u := by
  refine ⟨by omega, ?_⟩
  funext i
  match i with
  | 0 => rfl
  | 1 => rfl
  | 2 => rfl
  | 3 => rfl
  | k + 4 =>
    have e1 : ∀ r v, encT bf r v (k + 4) = undef := fun r v => by unfold encT; rw [if_neg (by omega), if_neg (by omega), if_neg (by omega), if_neg (by omega)]
    rw [show upd (encT bf r v) (0 + 3) u (k + 4) = encT bf r v (k + 4) from by simp [upd], e1, e1]
abbrev arrT (bf : Nat) (r : WH) (v : Value) : Array Value := #[ptr bf 0 0, .int .i64 r.tree, .int .i64 r.node, v]
theorem encT.box (bf : Nat) (r : WH) (v : Value) : ∀ i, i < 4 → cellsOf (arrT bf r v) i = encT bf r v i := fun i h => match i, h with
  | 0, _ => rfl
  | 1, _ => rfl
  | 2, _ => rfl
  | 3, _ => rfl
  | j + 4, h => absurd h (by omega)
/-! rows of mounts, of places -/
theorem mC_at (l : List MT) (z : Int) (hz : 0 ≤ z) (j : Nat) (hj : j < 4) : mC l (0 + z.toNat * 4 + j) = encMt (mat l z) j := by
  unfold mC
  rw [show (((0 + z.toNat * 4 + j) / 4 : Nat) : Int) = z from by omega, show (0 + z.toNat * 4 + j) % 4 = j from by omega]
theorem MC.ld {C : Nat → Value} {l : List MT} (h : MC C l) {k : Nat} (hk : l.length ≤ k) (z : Int) (q : 0 ≤ z ∧ z < l.length) : 0 + z.toNat * 4 + 4 ≤ k * 4 ∧ aggOf C (0 + z.toNat * 4) 4 = .agg (MT.arr (mat l z)) := by
  refine ⟨by omega, ?_⟩
  have e := fun j (hj : j < 4) => (h (0 + z.toNat * 4 + j) (by omega)).trans (mC_at l z q.1 j hj)
  simp only [aggOf, List.range, List.range.loop, List.map_cons, List.map_nil]
  rw [e 0 (by omega), e 1 (by omega), e 2 (by omega), e 3 (by omega)]
  rfl
theorem MC.app {C D : Nat → Value} {l : List MT} (h : MC C l) (m : MT) (h1 : ∀ i, i < l.length * 4 → D i = C i) (h2 : ∀ i, i < 1 * 4 → D (l.length * 4 + i) = encMt m i) : MC D (l ++ [m]) := fun i hi => by
  simp only [List.length_append, List.length_singleton] at hi
  by_cases c : i < l.length * 4
  · rw [h1 i c, h i c]
    unfold mC mat
    congr 1
    rw [List.getD_eq_getElem?_getD, List.getD_eq_getElem?_getD, List.getElem?_append_left (by omega)]
  · have e := h2 (i - l.length * 4) (by omega)
    rw [show l.length * 4 + (i - l.length * 4) = i from by omega] at e
    rw [e]
    unfold mC mat
    rw [List.getD_eq_getElem?_getD, show (((i / 4 : Nat) : Int)).toNat = l.length from by omega, List.getElem?_append_right (Nat.le_refl _), show i % 4 = i - l.length * 4 from by omega]
    simp
theorem MC.copy {C D : Nat → Value} {l : List MT} (h : MC C l) (h1 : ∀ i, i < l.length * 4 → D i = C i) : MC D l := fun i hi => (h1 i hi).trans (h i hi)
theorem MC.nil (C : Nat → Value) : MC C [] := fun i h => absurd h (by simp)
theorem MC.erase {C D : Nat → Value} {l : List MT} (h : MC C l) (n : Nat) (hn : n < l.length) (h1 : ∀ j, j < n * 4 → D j = C j) (h2 : ∀ j, n * 4 ≤ j → j < (l.length - 1) * 4 → D j = C (j + 4)) : MC D (l.eraseIdx n) := fun i hi => by
  rw [List.length_eraseIdx_of_lt hn] at hi
  by_cases c : i < n * 4
  · rw [h1 i c, h i (by omega)]
    unfold mC mat
    congr 1
    rw [List.getD_eq_getElem?_getD, List.getD_eq_getElem?_getD, List.getElem?_eraseIdx, if_pos (by omega)]
  · rw [h2 i (by omega) hi, h (i + 4) (by omega)]
    unfold mC mat
    rw [List.getD_eq_getElem?_getD, List.getD_eq_getElem?_getD, List.getElem?_eraseIdx, if_neg (by omega), show (i + 4) % 4 = i % 4 from by omega, show (((i + 4) / 4 : Nat) : Int).toNat = (((i / 4 : Nat) : Int)).toNat + 1 from by omega]
/-! what is seen at a place -/
def ov1 (l : List MT) (w : WH) : Option WH := (l.find? (fun m => decide (m.at_ = w))).map (·.to)
def ovN (l : List MT) : Nat → WH → WH
  | 0, w => w
  | n + 1, w => match ov1 l w with
    | some u => ovN l n u
    | none => w
def over (l : List MT) (w : WH) : WH := ovN l 6 w
theorem mat_get {l : List MT} {z : Int} (h : 0 ≤ z ∧ z < l.length) : l[z.toNat]? = some (mat l z) := by
  unfold mat
  rw [List.getD_eq_getElem?_getD]
  cases hq : l[z.toNat]? with
  | none => rw [List.getElem?_eq_none_iff] at hq; omega
  | some m => rfl
/-! names of a path -/
def dd : ByteArray := ⟨#[46, 46]⟩
def slash : ByteArray := ⟨#[47]⟩
def pieces (s : ByteArray) : List ByteArray := Lib.splitB slash 0 (Lib.countB s slash) s
def partOk (s : ByteArray) : Bool := decide (s = dd) || nameOk s
def splitE (p : ByteArray) : Int := if 60 < p.size ∨ p = ⟨#[]⟩ ∨ p.get! 0 ≠ 47 then 9 else if p = slash then 0 else if (pieces (p.extract 1 p.size)).all partOk = true then 0 else 9
def splitV (p : ByteArray) : List ByteArray := if splitE p = 0 ∧ p ≠ slash then pieces (p.extract 1 p.size) else []
/-! the way -/
def last (l : List WH) : WH := wat l ((l.length : Int) - 1)
def wk (F : FF) (l : List MT) : List WH → List ByteArray → Int × WH
  | way, [] => (0, last way)
  | way, s :: r => if s = dd then wk F l (if 1 < way.length then way.take (way.length - 1) else way) r else if F.findE (last way).node s ≠ 0 then (F.findE (last way).node s, WH.nil) else
      wk F l (way ++ [over l ⟨(last way).tree, F.findV (last way).node s⟩]) r
def led (F : FF) (l : List MT) (r : WH) (ns : List ByteArray) : Int × WH := wk F l [over l r] ns
def walkE (F : FF) (l : List MT) (r : WH) (p : ByteArray) : Int := if splitE p ≠ 0 then splitE p else (led F l r (splitV p)).1
def walkV (F : FF) (l : List MT) (r : WH) (p : ByteArray) : WH := if splitE p ≠ 0 then WH.nil else (led F l r (splitV p)).2
def nlast (ns : List ByteArray) : ByteArray := sat0 ns ((ns.length : Int) - 1)
def ninit (ns : List ByteArray) : List ByteArray := ns.take (ns.length - 1)
def rawE (F : FF) (l : List MT) (r : WH) (p : ByteArray) : Int := if splitE p ≠ 0 then splitE p else if (splitV p).length = 0 then 0 else if nlast (splitV p) = dd then 9 else if (led F l r (ninit (splitV p))).1 ≠ 0 then (led F l r (ninit (splitV p))).1 else F.findE (led F l r (ninit (splitV p))).2.node (nlast (splitV p))
def rawV (F : FF) (l : List MT) (r : WH) (p : ByteArray) : WH := if rawE F l r p ≠ 0 then WH.nil else if (splitV p).length = 0 then r else ⟨(led F l r (ninit (splitV p))).2.tree, F.findV (led F l r (ninit (splitV p))).2.node (nlast (splitV p))⟩
def lastE (F : FF) (l : List MT) (r : WH) (p : ByteArray) : Int := if splitE p ≠ 0 then splitE p else if (splitV p).length = 0 ∨ nlast (splitV p) = dd then 9 else (led F l r (ninit (splitV p))).1
def lastV (F : FF) (l : List MT) (r : WH) (p : ByteArray) : WH := if lastE F l r p ≠ 0 then WH.nil else (led F l r (ninit (splitV p))).2
def lastN (F : FF) (l : List MT) (r : WH) (p : ByteArray) : ByteArray := if lastE F l r p ≠ 0 then ⟨#[]⟩ else nlast (splitV p)
/-! binding -/
def dirE (F : FF) (w : WH) : Int := if F.isE w.node 0 ≠ 0 then F.isE w.node 0 else if F.kind w.node ≠ 2 ∨ F.tree w.node ≠ w.tree then 11 else 0
def hasAt (l : List MT) (w : WH) : Bool := l.any (fun m => decide (m.at_ = w))
def bindE (F : FF) (l : List MT) (at_ to : WH) : Int := if dirE F at_ ≠ 0 then dirE F at_ else if dirE F to ≠ 0 then dirE F to else if at_ = to then 8 else if hasAt l at_ = true then 3 else if l.length = 6 then 4 else 0
def bindL (F : FF) (l : List MT) (at_ to : WH) : List MT := if bindE F l at_ to = 0 then l ++ [⟨at_, to⟩] else l
def bindF (F : FF) (l : List MT) (at_ to : WH) : FF := if bindE F l at_ to = 0 then (F.hold at_.node).hold to.node else F
def idxAt (l : List MT) (w : WH) : Nat := l.findIdx (fun m => decide (m.at_ = w))
def unbindE (l : List MT) (w : WH) : Int := if idxAt l w < l.length then 0 else 2
def unbindL (l : List MT) (w : WH) : List MT := l.eraseIdx (idxAt l w)
def unbindF (F : FF) (l : List MT) (w : WH) : FF := if idxAt l w < l.length then (F.letF (mat l (idxAt l w)).at_.node).letF (mat l (idxAt l w)).to.node else F
def holdM (F : FF) : List MT → FF
  | [] => F
  | m :: r => holdM ((F.hold m.at_.node).hold m.to.node) r
def letM (F : FF) : List MT → FF
  | [] => F
  | m :: r => letM ((F.letF m.at_.node).letF m.to.node) r
def copyF (F : FF) (l : List MT) (r : WH) : FF := holdM (F.hold r.node) l
def tcloseF (F : FF) (l : List MT) (r : WH) : FF := (letM F l).letF r.node
def pivotE (F : FF) (t : Int) : Int := F.rootE t
def pivotF (F : FF) (l : List MT) (r : WH) (t : Int) : FF := if F.rootE t = 0 then tcloseF (F.hold (F.rootV t)) l r else F
def pivotR (F : FF) (r : WH) (t : Int) : WH := if F.rootE t = 0 then ⟨t, F.rootV t⟩ else r
def pivotL (F : FF) (l : List MT) (t : Int) : List MT := if F.rootE t = 0 then [] else l
section
variable {F : FF} {l : List MT} {way : List WH} {s : ByteArray} {r a : List ByteArray}
end
theorem mdrop {l : List MT} {i : Int} (h : 0 ≤ i ∧ i < l.length) : l.drop i.toNat = mat l i :: l.drop (i + 1).toNat := by
  rw [List.drop_eq_getElem_cons (by omega), show (i + 1).toNat = i.toNat + 1 from by omega]
  congr 1
  have e := mat_get h
  rw [List.getElem?_eq_getElem (by omega), Option.some.injEq] at e
  exact e
theorem holdM_step {F : FF} {l : List MT} {i : Int} (h : 0 ≤ i ∧ i < l.length) : holdM F (l.drop i.toNat) = holdM ((F.hold (mat l i).at_.node).hold (mat l i).to.node) (l.drop (i + 1).toNat) := by
  rw [mdrop h]; rfl
theorem letM_step {F : FF} {l : List MT} {i : Int} (h : 0 ≤ i ∧ i < l.length) : letM F (l.drop i.toNat) = letM ((F.letF (mat l i).at_.node).letF (mat l i).to.node) (l.drop (i + 1).toNat) := by
  rw [mdrop h]; rfl
theorem holdM_end {F : FF} {l : List MT} : holdM F (l.drop ((l.length : Int)).toNat) = F := by
  rw [List.drop_of_length_le (by omega)]; rfl
theorem letM_end {F : FF} {l : List MT} : letM F (l.drop ((l.length : Int)).toNat) = F := by
  rw [List.drop_of_length_le (by omega)]; rfl
def C0 : Nat → Value := fun _ => undef
end Go.X.Tr
