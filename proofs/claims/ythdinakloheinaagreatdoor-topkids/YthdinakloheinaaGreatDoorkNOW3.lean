import Derived.Test.YthdinakloheinaaGreatDoorkNL
import Derived.Test.YthdinakloheinaaGreatDoorkNRM
import Derived.Test.YthdinakloheinaaGreatDoorXClose
import Derived.Test.YthdinakloheinaaGreatDoorXQ
import Derived.Shelf.Lays2
import Derived.Ground.Names2Prog
import Derived.Test.YthdinakloheinaaGreatDoorProg
import Derived.Test.YthdinakloheinaaGreatDoorKB
namespace Go.X.Tr
open Go Go.X
theorem XQ.mono {P : Program} {ops : Array Oper} {Q : Exit → Act → World → Prop} {n : Fr} {L : PF} {M M' : World → Prop} {B : Obl} {f : Nat} {l : Array Bool} (hm : ∀ w, M w → M' w) (h : XQ P n ops Q B f l L M') : XQ P n ops Q B f l L M := fun hc a w ha hw hJ => h hc a w ha (hm w hw) hJ
section
variable {W w : World} {S : Nat → Nat → Prop} {H F : List Ent}
theorem fam40_at {z : Int} (h : 0 ≤ z ∧ z < 40) : fam40 z.toNat = true := by show Nat.blt z.toNat 40 = true; simp; omega
theorem pick1 (x : Ent) : ∀ (L : List Ent), Pick (x :: L) L [x]
  | [] => .nil
  | _ :: r => .cons (.there .here) (pick1 x r)
theorem XM.openN {e : TypeId} {s : FC} {z : Int} (hz : 0 ≤ z ∧ z < 40) (hp : Pick H [.fam fam40 (s.rowsN e)] F) (h : XM W S H w) : XM W S (srow (s.nP z) (s.nC z) e (s.names z) :: .fam (outP fam40 z.toNat) (s.rowsN e) :: F) w := by
  have h1 := XM.famOut z.toNat (fam40_at hz) (h.perm hp.perm)
  have e1 : (s.rowsN e z.toNat).ent = srow (s.nP z) (s.nC z) e (s.names z) := by
    unfold FC.rowsN RowD.ent
    simp only [show ((z.toNat : Nat) : Int) = z from by omega]
  rw [e1] at h1
  exact h1
theorem XM.openK {e : TypeId} {s : FC} {z : Int} (hz : 0 ≤ z ∧ z < 40) (hp : Pick H [.fam fam40 (s.rowsK e)] F) (h : XM W S H w) : XM W S (irow (s.kP z) (s.kC z) e (s.kids z) :: .fam (outP fam40 z.toNat) (s.rowsK e) :: F) w := by
  have h1 := XM.famOut z.toNat (fam40_at hz) (h.perm hp.perm)
  have e1 : (s.rowsK e z.toNat).ent = irow (s.kP z) (s.kC z) e (s.kids z) := by
    unfold FC.rowsK RowD.ent
    simp only [show ((z.toNat : Nat) : Int) = z from by omega]
  rw [e1] at h1
  exact h1
theorem rowsN_set (e : TypeId) (s t : FC) (z : Int) (hz : 0 ≤ z ∧ z < 40) (l : List ByteArray) (p : Option Addr) (c : Nat) (h1 : t.names = fset s.names z l) (h2 : t.nP = fset s.nP z p) (h3 : t.nC = fset s.nC z c) :
    rset (s.rowsN e) z.toNat ⟨.slice p l.length c, e, 1, l.length, strs l⟩ = t.rowsN e := by
  funext i
  unfold FC.rowsN
  rw [h1, h2, h3]
  by_cases hi : i = z.toNat
  · subst hi
    rw [rset_eq]
    simp only [show ((z.toNat : Nat) : Int) = z from by omega, fset_eq]
  · rw [rset_ne _ _ hi]
    have hi2 : ¬ (i : Int) = z := by omega
    simp only [fset_ne _ _ hi2]
theorem rowsK_set (e : TypeId) (s t : FC) (z : Int) (hz : 0 ≤ z ∧ z < 40) (l : List Int) (p : Option Addr) (c : Nat) (h1 : t.kids = fset s.kids z l) (h2 : t.kP = fset s.kP z p) (h3 : t.kC = fset s.kC z c) :
    rset (s.rowsK e) z.toNat ⟨.slice p l.length c, e, 1, l.length, ints l⟩ = t.rowsK e := by
  funext i
  unfold FC.rowsK
  rw [h1, h2, h3]
  by_cases hi : i = z.toNat
  · subst hi
    rw [rset_eq]
    simp only [show ((z.toNat : Nat) : Int) = z from by omega, fset_eq]
  · rw [rset_ne _ _ hi]
    have hi2 : ¬ (i : Int) = z := by omega
    simp only [fset_ne _ _ hi2]
theorem XM.closeN {e : TypeId} {s : FC} (t : FC) {z : Int} {n c : Nat} {p : Option Addr} {l : List ByteArray} (hz : 0 ≤ z ∧ z < 40) (hn : n = l.length) (h1 : t.names = fset s.names z l) (h2 : t.nP = fset s.nP z p) (h3 : t.nC = fset s.nC z c)
    (hp : Pick H [.row (.slice p n c) e 1 n (strs l), .fam (outP fam40 z.toNat) (s.rowsN e)] F) (h : XM W S H w) : XM W S (.fam fam40 (t.rowsN e) :: F) w := by
  subst hn
  have h4 := XM.famIn (x := ⟨.slice p l.length c, e, 1, l.length, strs l⟩) z.toNat (outP_at _ _) (h.perm hp.perm)
  rw [inout (fam40_at hz), rowsN_set e s t z hz l p c h1 h2 h3] at h4
  exact h4
theorem XM.closeK {e : TypeId} {s : FC} (t : FC) {z : Int} {n c : Nat} {p : Option Addr} {l : List Int} (hz : 0 ≤ z ∧ z < 40) (hn : n = l.length) (h1 : t.kids = fset s.kids z l) (h2 : t.kP = fset s.kP z p) (h3 : t.kC = fset s.kC z c)
    (hp : Pick H [.row (.slice p n c) e 1 n (ints l), .fam (outP fam40 z.toNat) (s.rowsK e)] F) (h : XM W S H w) : XM W S (.fam fam40 (t.rowsK e) :: F) w := by
  subst hn
  have h4 := XM.famIn (x := ⟨.slice p l.length c, e, 1, l.length, ints l⟩) z.toNat (outP_at _ _) (h.perm hp.perm)
  rw [inout (fam40_at hz), rowsK_set e s t z hz l p c h1 h2 h3] at h4
  exact h4
/-- a family that is as before -/ theorem XM.sameN {e : TypeId} {s : FC} (t : FC) (h1 : t.names = s.names) (h2 : t.nP = s.nP) (h3 : t.nC = s.nC) (hp : Pick H [.fam fam40 (s.rowsN e)] F) (h : XM W S H w) : XM W S (.fam fam40 (t.rowsN e) :: F) w := by
  have : t.rowsN e = s.rowsN e := by unfold FC.rowsN; rw [h1, h2, h3]
  rw [this]; exact h.perm hp.perm
/-- a node's rows are forgotten -/ theorem XM.newN {e : TypeId} {s : FC} (t : FC) {z : Int} (hz : 0 ≤ z ∧ z < 40) (h1 : t.names = fset s.names z []) (h2 : t.nP = fset s.nP z none) (h3 : t.nC = fset s.nC z 0) (hp : Pick H [.fam fam40 (s.rowsN e)] F) (h : XM W S H w) : XM W S (.fam fam40 (t.rowsN e) :: F) w := by
  have h4 := (XM.pick (pick1 _ _) (XM.openN hz hp h)).nilRow e 1
  exact XM.closeN (s := s) t (p := none) (c := 0) (n := 0) (l := []) hz rfl h1 h2 h3 (.cons .here (.cons .here (by
    have hq : ∀ L : List Ent, Pick L [] L := fun L => .nil
    exact hq _))) h4
theorem XM.newK {e : TypeId} {s : FC} (t : FC) {z : Int} (hz : 0 ≤ z ∧ z < 40) (h1 : t.kids = fset s.kids z []) (h2 : t.kP = fset s.kP z none) (h3 : t.kC = fset s.kC z 0) (hp : Pick H [.fam fam40 (s.rowsK e)] F) (h : XM W S H w) : XM W S (.fam fam40 (t.rowsK e) :: F) w := by
  have h4 := (XM.pick (pick1 _ _) (XM.openK hz hp h)).nilRow e 1
  exact XM.closeK (s := s) t (p := none) (c := 0) (n := 0) (l := []) hz rfl h1 h2 h3 (.cons .here (.cons .here .nil)) h4
end
/-- a node made new -/ def FC.setC (s : FC) (z k t l u : Int) : FC := ⟨s.toFF.setN z k t l u, fset s.nP z none, fset s.nC z 0, fset s.kP z none, fset s.kC z 0, s.rP, s.rC⟩
def FC.putC (s : FC) (n : Int) (x : ByteArray) (k : Int) (p : Option Addr) (c : Nat) (p2 : Option Addr) (c2 : Nat) : FC := ⟨s.toFF.putF n x k, fset s.nP n p, fset s.nC n c, fset s.kP n p2, fset s.kC n c2, s.rP, s.rC⟩
abbrev nodeU (k t l u : Int) : encF.U := ⟨k, t, l, 0, ByteArray.empty, u, [], none, 0, [], none, 0⟩
def nodeA (k t l u : Int) : Array Value := #[.int .i64 k, .int .i64 t, .int .i64 l, .int .i64 0, .string ⟨#[]⟩, .slice none 0 0, .slice none 0 0, .int .i64 u]
theorem encF_new (s : FC) (z k t l u : Int) (hz : 0 ≤ z ∧ z < 40) : 0 + 0 + z.toNat * 8 + 8 ≤ 321 ∧ updL (encF s) (0 + 0 + z.toNat * 8) (nodeA k t l u).toList = encF (s.setC z k t l u) :=
  encF.setL s (s.setC z k t l u) z hz _ rfl (fun j hj => by
    have e : encF.un (s.setC z k t l u) z = nodeU k t l u := by
      unfold encF.un FC.setC FF.setN
      simp only [fset_eq]
    rw [e]
    match j, hj with
    | 0, _ => rfl
    | 1, _ => rfl
    | 2, _ => rfl
    | 3, _ => rfl
    | 4, _ => rfl
    | 5, _ => rfl
    | 6, _ => rfl
    | 7, _ => rfl
    | j + 8, h => exact absurd h (by omega)) (fun y hy => by
    unfold encF.un FC.setC FF.setN
    simp only [fset_ne _ _ hy]) rfl
theorem encF_roots (s : FC) : 0 + 320 < 321 ∧ encF s (0 + 320) = .slice s.rP s.roots.length s.rC := ⟨by omega, by unfold encF; rw [if_neg (by omega), if_pos (by omega)]⟩
theorem encF_roots_st (s : FC) (l : List Int) (p : Option Addr) (c n : Nat) (hn : n = l.length) : 0 + 320 < 321 ∧ upd (encF s) (0 + 320) (.slice p n c) = encF { s with roots := l, rP := p, rC := c } := by
  subst hn
  refine ⟨by omega, ?_⟩
  funext i
  unfold upd encF
  by_cases hi : i = 0 + 320
  · rw [if_pos hi, if_neg (by omega), if_pos (by omega)]
  · rw [if_neg hi]
    by_cases c1 : i < 320
    · rw [if_pos c1, if_pos c1]; rfl
    · rw [if_neg c1, if_neg c1, if_neg (by omega), if_neg (by omega)]
theorem node_box (k t l u : Int) : ∀ i, i < 8 → cellsOf (nodeA k t l u) i = encF.cell (nodeU k t l u) i := fun i h => match i, h with
  | 0, _ => rfl
  | 1, _ => rfl
  | 2, _ => rfl
  | 3, _ => rfl
  | 4, _ => rfl
  | 5, _ => rfl
  | 6, _ => rfl
  | 7, _ => rfl
  | j + 8, h => absurd h (by omega)
theorem node_agg (k t l u : Int) : 0 + 8 ≤ 8 ∧ aggOf (encF.cell (nodeU k t l u)) 0 8 = .agg (nodeA k t l u) := ⟨by omega, rfl⟩
def arrF0 : Array Value := ((List.range 321).map (encF FC.void)).toArray
theorem arrF0_size : arrF0.size = 321 := by simp [arrF0]
theorem arrF0_box : ∀ i, i < 321 → cellsOf arrF0 i = encF FC.void i := fun i hi => by simp [cellsOf, arrF0, hi]
def FC.cutC (s : FC) (n : Int) (x : ByteArray) : FC := ⟨s.toFF.cutF n x, fset s.nP n (s.nP n), fset s.nC n (s.nC n), fset s.kP n (s.kP n), fset s.kC n (s.kC n), s.rP, s.rC⟩
theorem held_of {t : FC} {X : FF} (h : t.toFF = X) (z v : Int) : ({ t with held := fset t.held z v } : FC).toFF = { X with held := fset X.held z v } := by rw [← h]
theorem XM.famVoidR {W w : World} {S : Nat → Nat → Prop} {H : List Ent} (r : Nat → RowD) (e : TypeId) (hr : ∀ i, r i = ⟨.slice none 0 0, e, 1, 0, []⟩) (h : XM W S H w) : XM W S (.fam fam40 r :: H) w := by
  have hr0 : w.ownsRow 0 e 1 (.slice none 0 0) 0 [] := (h.nilRow e 1).good.1 (.row (.slice none 0 0) e 1 0 []) (by simp)
  refine ⟨⟨fun x hx => ?_, List.pairwise_cons.2 ⟨fun x hx _ b o h1 h2 => ?_, h.good.2⟩⟩, h.keep, fun x hx hw b o hb => ?_⟩
  · rcases List.mem_cons.1 hx with rfl | hx
    · exact ⟨fun i _ => by rw [hr]; exact hr0, fun i j b _ _ _ h1 _ => by rw [hr] at h1; cases h1⟩
    · exact h.good.1 x hx
  · obtain ⟨i, _, hb⟩ := h1; rw [hr] at hb; cases hb
  · rcases List.mem_cons.1 hx with rfl | hx
    · obtain ⟨i, _, hb⟩ := hb; rw [hr] at hb; cases hb
    · exact h.mine x hx hw b o hb
theorem XM.newForest {W w : World} {S : Nat → Nat → Prop} {H : List Ent} (h : XM W S H w) : XM W S (.fam fam40 (FC.void.rowsN 9) :: .fam fam40 (FC.void.rowsK 3) :: irow none 0 3 [] :: H) w :=
  XM.famVoidR _ 9 (fun _ => rfl) (XM.famVoidR _ 3 (fun _ => rfl) (h.nilRow 3 1))
/-! ### what is told of a node -/
structure NV where
  kind : Int
  links : Int
  held : Int
  size : Int
def NV.arr (x : NV) : Array Value := #[.int .i64 x.kind, .int .i64 x.links, .int .i64 x.held, .int .i64 x.size]
def NV.zero : NV := ⟨0, 0, 0, 0⟩
def encNV (x : NV) (i : Nat) : Value := if i = 0 then .int .i64 x.kind else if i = 1 then .int .i64 x.links else if i = 2 then .int .i64 x.held else if i = 3 then .int .i64 x.size else undef
theorem encNV_box (x : NV) : ∀ i, i < 4 → cellsOf x.arr i = encNV x i := fun i h => match i, h with
  | 0, _ => rfl
  | 1, _ => rfl
  | 2, _ => rfl
  | 3, _ => rfl
  | j + 4, h => absurd h (by omega)
theorem encNV_agg (x : NV) : 0 + 4 ≤ 4 ∧ aggOf (encNV x) 0 4 = .agg x.arr := ⟨by omega, rfl⟩
theorem encNV_st (y x : NV) : 0 + 4 ≤ 4 ∧ updL (encNV y) 0 x.arr.toList = encNV x := by
  refine ⟨by omega, ?_⟩
  funext i
  match i with
  | 0 => rfl
  | 1 => rfl
  | 2 => rfl
  | 3 => rfl
  | k + 4 => simp [updL, upd, NV.arr, encNV]
def FF.ofV (s : FF) (n : Int) : NV := if s.isE n 0 = 0 then ⟨s.kind n, s.links n, s.held n, max ((s.data n).size : Int) ((s.kids n).length : Int)⟩ else NV.zero
/-- a whole node -/ def nodeV (u : encF.U) : Array Value := #[.int .i64 u.kind, .int .i64 u.tree, .int .i64 u.links, .int .i64 u.held, .string u.data, .slice u.nP u.names.length u.nC, .slice u.kP u.kids.length u.kC, .int .i64 u.up]
theorem encF_node (s : FC) (z : Int) (h : 0 ≤ z ∧ z < 40) : 0 + 0 + z.toNat * 8 + 8 ≤ 321 ∧ aggOf (encF s) (0 + 0 + z.toNat * 8) 8 = .agg (nodeV (encF.un s z)) := by
  refine ⟨by omega, ?_⟩
  have q := encF.at_ s z h
  simp only [aggOf, List.range, List.range.loop, List.map_cons, List.map_nil]
  rw [q 0 (by omega), q 1 (by omega), q 2 (by omega), q 3 (by omega), q 4 (by omega), q 5 (by omega), q 6 (by omega), q 7 (by omega)]
  rfl
theorem nodeV_st (u0 u : encF.U) : 0 + 8 ≤ 8 ∧ updL (encF.cell u0) 0 (nodeV u).toList = encF.cell u := by
  refine ⟨by omega, ?_⟩
  funext i
  match i with
  | 0 => rfl
  | 1 => rfl
  | 2 => rfl
  | 3 => rfl
  | 4 => rfl
  | 5 => rfl
  | 6 => rfl
  | 7 => rfl
  | k + 8 =>
    have e1 : ∀ u : encF.U, encF.cell u (k + 8) = undef := fun u => by unfold encF.cell; iterate 8 rw [if_neg (by omega)]
    have e2 : updL (encF.cell u0) 0 (nodeV u).toList (k + 8) = encF.cell u0 (k + 8) := by simp [updL, upd, nodeV]
    rw [e2, e1, e1]
theorem nodeV_0 (u : encF.U) : 0 + 0 < 8 ∧ encF.cell u (0 + 0) = .int .i64 u.kind := ⟨by omega, rfl⟩
theorem nodeV_2 (u : encF.U) : 0 + 2 < 8 ∧ encF.cell u (0 + 2) = .int .i64 u.links := ⟨by omega, rfl⟩
theorem nodeV_3 (u : encF.U) : 0 + 3 < 8 ∧ encF.cell u (0 + 3) = .int .i64 u.held := ⟨by omega, rfl⟩
theorem nodeV_4 (u : encF.U) : 0 + 4 < 8 ∧ encF.cell u (0 + 4) = .string u.data := ⟨by omega, rfl⟩
theorem nodeV_6 (u : encF.U) : 0 + 6 < 8 ∧ encF.cell u (0 + 6) = .slice u.kP u.kids.length u.kC := ⟨by omega, rfl⟩
/-! ### bytes written -/
end Go.X.Tr

namespace Go.X.Tr
open Go Go.X
def FF.ofR (s : FF) (n : Int) : NV := if s.isE n 0 = 0 then ⟨s.kind n, s.links n, s.held n, if s.kind n = 2 then ((s.names n).length : Int) else ((s.data n).size : Int)⟩ else NV.zero

end Go.X.Tr

namespace Go.X.Tr
open Go Go.X
/-! ### what the statement needs -/
namespace FF
theorem removeE_nn (s : FF) (n : Int) (x : ByteArray) : 0 ≤ s.removeE n x := by
  have := findE_nn s n x
  unfold removeE; split
  · exact this
  · split <;> omega
theorem moveE_nn (d : Int → Nat) (s : FF) (n : Int) (x : ByteArray) (to : Int) (y : ByteArray) : 0 ≤ s.moveE d n x to y := by
  have h1 := findE_nn s n x
  have h2 := isE_nn s to 2
  have h3 := roomE_nn (s.cutF n x) to y
  have h4 : 0 ≤ s.moveE0 d n x to := by
    unfold moveE0; split
    · exact h1
    · split
      · exact h2
      · split
        · omega
        · split <;> omega
  unfold moveE; split
  · exact h4
  · exact h3
end FF
theorem NV.ints (g : NV) : ∀ i, i < 4 → ∃ v, g.arr[i]? = some (.int .i64 v) := fun i h => match i, h with
  | 0, _ => ⟨_, rfl⟩
  | 1, _ => ⟨_, rfl⟩
  | 2, _ => ⟨_, rfl⟩
  | 3, _ => ⟨_, rfl⟩
  | j + 4, h => absurd h (by omega)
end Go.X.Tr

namespace Go.X.Tr
open Go Go.X
/-! ### what is counted -/
theorem pig : ∀ (N : Nat) (L : List Int), L.Nodup → (∀ y ∈ L, 0 ≤ y ∧ y < (N : Int)) → L.length ≤ N
  | 0, L, _, h => by
    cases L with
    | nil => exact Nat.le_refl _
    | cons a r => have := h a (by simp); omega
  | N + 1, L, hn, h => by
    by_cases c : (N : Int) ∈ L
    · have h1 := pig N (L.erase (N : Int)) (hn.erase _) (fun y hy => by
        have h2 := hn.mem_erase_iff.1 hy
        have h3 := h y h2.2
        have h4 := h2.1
        omega)
      have h2 := List.length_erase_of_mem c
      omega
    · have := pig N L hn (fun y hy => by
        have h3 := h y hy
        have h4 : y ≠ N := fun e => c (e ▸ hy)
        omega)
      omega
namespace FF
/-- names[k] when the first t roots are told -/ def rootW (s : FF) (t : Int) (k : Int) : Int := ((s.roots.take t.toNat).count k : Int)
/-- and when those of the first n nodes are -/ def kidW (s : FF) (n : Int) (k : Int) : Int := (s.roots.count k : Int) + (sumK s.kids k n.toNat : Int)
def kidW2 (s : FF) (n i : Int) (k : Int) : Int := s.kidW n k + (((s.kids n).take i.toNat).count k : Int)
/-- the names of a directory are found -/ theorem find_at {s : FF} {d : Int → Nat} (h : s.Inv d) {n i : Int} (hn : s.isE n 2 = 0) (hi : 0 ≤ i ∧ i < (s.names n).length) :
    s.findE n (sat0 (s.names n) i) = 0 ∧ s.findV n (sat0 (s.names n) i) = at0 (s.kids n) i ∧ i.toNat < (s.kids n).length ∧ nameOk (sat0 (s.names n) i) = true := by
  obtain ⟨i1, i2, i3, i4⟩ := isE_k0 hn
  obtain ⟨r1, r2, r3, r4⟩ := h.rise n i1 i2
  have hp := at_posn r1 (x := sat0 (s.names n) i) (i := i.toNat) (by omega) rfl
  have hh : hasn (s.names n) (sat0 (s.names n) i) = true := hasn_iff.2 ⟨by omega, by rw [← hp]; rfl⟩
  have e : s.findE n (sat0 (s.names n) i) = 0 := by unfold findE; rw [if_neg (by omega), if_pos hh]
  refine ⟨e, ?_, by omega, h.nok n i1 i2 _ (hasn_mem hh)⟩
  unfold findV
  rw [if_pos e, ← hp, show ((i.toNat : Nat) : Int) = i by omega]
/-- on the way up no node is met twice -/ structure Way (s : FF) (d : Int → Nat) (a k : Int) : Prop where
  nn : 0 ≤ k
  rng : 0 ≤ a ∧ a < 40
  dir : s.kind a = 2
  list : ∃ L : List Int, (L.length : Int) = k ∧ L.Nodup ∧ ∀ z ∈ L, (0 ≤ z ∧ z < 40) ∧ d a < d z
theorem Way.start {s : FF} {d : Int → Nat} {n : Int} (h1 : 0 ≤ n) (h2 : n < 40) (h : s.kind n = 2) : s.Way d n 0 := ⟨by omega, ⟨h1, h2⟩, h, [], rfl, List.nodup_nil, fun z hz => by cases hz⟩
theorem Way.step {s : FF} {d : Int → Nat} {a k : Int} (h : s.Way d a k) : ((a :: h.list.choose).length : Int) = k + 1 ∧ (a :: h.list.choose).Nodup ∧ ∀ z ∈ a :: h.list.choose, 0 ≤ z ∧ z < 40 := by
  obtain ⟨l1, l2, l3⟩ := h.list.choose_spec
  refine ⟨by rw [List.length_cons]; omega, List.nodup_cons.2 ⟨fun q => ?_, l2⟩, fun z hz => ?_⟩
  · have := (l3 a q).2; omega
  · rcases List.mem_cons.1 hz with rfl | hz
    · exact h.rng
    · exact (l3 z hz).1
theorem Way.short {s : FF} {d : Int → Nat} {a k : Int} (h : s.Way d a k) : k < 40 := by
  obtain ⟨l1, l2, l3⟩ := h.step
  have := pig 40 _ l2 l3
  omega
theorem Way.next {s : FF} {d : Int → Nat} {a k : Int} (hI : s.Inv d) (h : s.Way d a k) (hu : s.up a ≠ a) : s.Way d (s.up a) (k + 1) ∧ d (s.up a) < d a := by
  have hk := h.nn
  rcases hI.up a h.rng.1 h.rng.2 h.dir (by have := h.rng; omega) (by have := h.rng; omega) with g | ⟨g1, g2, g3, g4, g5⟩
  · exact absurd g.2 hu
  · obtain ⟨l1, l2, l3⟩ := h.step
    refine ⟨⟨by omega, ⟨g1, g2⟩, g3, a :: h.list.choose, l1, l2, fun z hz => ⟨l3 z hz, ?_⟩⟩, g5⟩
    rcases List.mem_cons.1 hz with rfl | hz
    · exact g5
    · have := (h.list.choose_spec.2.2 z hz).2; omega
end FF
end Go.X.Tr

namespace Go.X.Tr
open Go Go.X
/-! ### open files -/
structure OS where
  kind : Int → Int
  n : Int → Int
  at_ : Int → Int
  refs : Int → Int
  write : Int → Bool
namespace OS
def is (s : OS) (n : Int) : Int := if n < 0 ∨ 24 ≤ n then 1 else if s.refs n = 0 then 2 else 0
def firstT (s : OS) : Nat → Int
  | 0 => -1
  | k + 1 => if 0 ≤ firstT s k then firstT s k else if s.refs (k : Int) = 0 then (k : Int) else -1
def first (s : OS) : Int := firstT s 24
def freeT (s : OS) (m : Int) : Nat → List Int
  | 0 => []
  | k + 1 => if s.refs (k : Int) = 0 ∧ ((freeT s m k).length : Int) < m then freeT s m k ++ [(k : Int)] else freeT s m k
def lay (s : OS) (z k n : Int) (w : Bool) : OS := ⟨fset s.kind z k, fset s.n z n, fset s.at_ z 0, fset s.refs z 1, fset s.write z w⟩
def clr (s : OS) (z : Int) : OS := ⟨fset s.kind z 0, fset s.n z 0, fset s.at_ z 0, fset s.refs z 0, fset s.write z false⟩
def move (s : OS) (z d : Int) : OS := { s with at_ := fset s.at_ z (s.at_ z + d) }
def void : OS := ⟨fun _ => 0, fun _ => 0, fun _ => 0, fun _ => 0, fun _ => false⟩
def cntT (s : OS) : Nat → Int
  | 0 => 0
  | k + 1 => cntT s k + (if 0 < s.refs (k : Int) then 1 else 0)
def opens (s : OS) : Int := cntT s 24
structure Inv (s : OS) (J : Int) : Prop where
  refs : ∀ n, 0 ≤ n → n < 24 → 0 ≤ s.refs n ∧ s.refs n ≤ J
  at_ : ∀ n, 0 ≤ n → n < 24 → 0 ≤ s.at_ n ∧ s.at_ n ≤ 40
  kind : ∀ n, 0 ≤ n → n < 24 → s.refs n ≠ 0 → s.kind n = 1 ∨ s.kind n = 2 ∨ s.kind n = 3
  write : ∀ n, 0 ≤ n → n < 24 → s.kind n ≠ 1 → s.write n = false
theorem is_nn (s : OS) (n : Int) : 0 ≤ s.is n := by unfold is; split <;> (try split) <;> omega
end OS
/-! ### what is answered -/
def onodeE (F : FF) (O : OS) (n : Int) : Int := if F.isE n 1 ≠ 0 then F.isE n 1 else if O.first < 0 then 4 else 0
def onodeV (F : FF) (O : OS) (n : Int) : Int := if onodeE F O n = 0 then O.first else 0
def onodeF (F : FF) (O : OS) (n : Int) : FF := if onodeE F O n = 0 then F.hold n else F
def onodeO (F : FF) (O : OS) (n : Int) (w : Bool) : OS := if onodeE F O n = 0 then O.lay O.first 1 n w else O
def shareO (O : OS) (n : Int) : OS := if O.is n = 0 then { O with refs := fset O.refs n (O.refs n + 1) } else O
def downO (O : OS) (n : Int) : OS := { O with refs := fset O.refs n (O.refs n - 1) }
def lastC (O : OS) (n : Int) : Prop := O.is n = 0 ∧ ¬ 0 < O.refs n - 1
instance (O : OS) (n : Int) : Decidable (lastC O n) := by unfold lastC; infer_instance
def closeE (F : FF) (P : PS) (O : OS) (n : Int) : Int := if O.is n ≠ 0 then O.is n else if 0 < O.refs n - 1 then 0 else if O.kind n = 1 then F.letE (O.n n) else (P.turn (O.n n) (decide (O.kind n = 3)) (-1)).1
def closeF (F : FF) (O : OS) (n : Int) : FF := if lastC O n ∧ O.kind n = 1 then F.letF (O.n n) else F
def closeP (P : PS) (O : OS) (n : Int) : PS := if lastC O n ∧ ¬ O.kind n = 1 then (P.turn (O.n n) (decide (O.kind n = 3)) (-1)).2 else P
def closeO (O : OS) (n : Int) : OS := if O.is n ≠ 0 then O else if 0 < O.refs n - 1 then downO O n else O.clr n
def oreadE (F : FF) (P : PS) (O : OS) (n m : Int) : Int := if O.is n ≠ 0 then O.is n else if O.kind n = 3 then 8 else if O.kind n = 2 then (P.read (O.n n) m).2.1 else F.readE (O.n n) (O.at_ n) m
def oreadV (F : FF) (P : PS) (O : OS) (n m : Int) : ByteArray := if O.is n ≠ 0 then ⟨#[]⟩ else if O.kind n = 3 then ⟨#[]⟩ else if O.kind n = 2 then (P.read (O.n n) m).1 else F.readV (O.n n) (O.at_ n) m
def oreadP (P : PS) (O : OS) (n m : Int) : PS := if O.is n = 0 ∧ O.kind n = 2 then (P.read (O.n n) m).2.2 else P
def oreadO (F : FF) (O : OS) (n m : Int) : OS := if O.is n = 0 ∧ ¬ O.kind n = 3 ∧ ¬ O.kind n = 2 then O.move n ((F.readV (O.n n) (O.at_ n) m).size) else O
def owriteE (F : FF) (P : PS) (O : OS) (n : Int) (x : ByteArray) : Int := if O.is n ≠ 0 then O.is n else if O.kind n = 3 then (P.write (O.n n) x).2.1 else if O.kind n = 2 ∨ O.write n = false then 8 else F.writeE (O.n n) (O.at_ n) x
def fileW (O : OS) (n : Int) : Prop := O.is n = 0 ∧ ¬ O.kind n = 3 ∧ ¬ (O.kind n = 2 ∨ O.write n = false)
instance (O : OS) (n : Int) : Decidable (fileW O n) := by unfold fileW; infer_instance
def owriteV (F : FF) (P : PS) (O : OS) (n : Int) (x : ByteArray) : Int := if O.is n = 0 ∧ O.kind n = 3 then (P.write (O.n n) x).1 else if fileW O n ∧ F.writeE (O.n n) (O.at_ n) x = 0 then (x.size : Int) else 0
def owriteP (P : PS) (O : OS) (n : Int) (x : ByteArray) : PS := if O.is n = 0 ∧ O.kind n = 3 then (P.write (O.n n) x).2.2 else P
def owriteF (F : FF) (O : OS) (n : Int) (x : ByteArray) : FF := if fileW O n then F.write (O.n n) (O.at_ n) x else F
def owriteO (F : FF) (O : OS) (n : Int) (x : ByteArray) : OS := if fileW O n ∧ F.writeE (O.n n) (O.at_ n) x = 0 then O.move n (x.size) else O
def seekE (O : OS) (n a : Int) : Int := if O.is n ≠ 0 then O.is n else if O.kind n ≠ 1 then 11 else if a < 0 ∨ 40 < a then 1 else 0
def seekO (O : OS) (n a : Int) : OS := if seekE O n a = 0 then { O with at_ := fset O.at_ n a } else O
theorem OS.is_cases (s : OS) (n : Int) : (s.is n = 0 ∧ 0 ≤ n ∧ n < 24 ∧ ¬ s.refs n = 0) ∨ (s.is n = 1 ∧ (n < 0 ∨ 24 ≤ n)) ∨ (s.is n = 2 ∧ 0 ≤ n ∧ n < 24 ∧ s.refs n = 0) := by
  unfold OS.is; split
  · exact .inr (.inl ⟨rfl, by assumption⟩)
  · split
    · exact .inr (.inr ⟨rfl, by omega, by omega, by assumption⟩)
    · exact .inl ⟨rfl, by omega, by omega, by assumption⟩
/-! ### how many are free -/
namespace OS
def second (s : OS) : Int := (s.lay s.first 2 0 false).first
end OS
def roomB (O : OS) (m : Int) : Bool := decide (m < 1) || decide (m ≤ 24 - O.opens)
def opipeE (P : PS) (O : OS) : Int := if O.first < 0 ∨ O.second < 0 then 4 else P.make.2.1
def opipeP (P : PS) (O : OS) : PS := if O.first < 0 ∨ O.second < 0 then P else P.make.2.2
def opipeO (P : PS) (O : OS) : OS := if opipeE P O = 0 then (O.lay O.first 2 P.make.1 false).lay O.second 3 P.make.1 false else O
def opipeV (P : PS) (O : OS) : Int := if opipeE P O = 0 then O.first else 0
def opipeU (P : PS) (O : OS) : Int := if opipeE P O = 0 then O.second else 0
def ofx (O : OS) (n x : Int) : Int := if O.is n = 0 then x else 0
end Go.X.Tr

namespace Go.X.Tr
open Go Go.X
structure encO.U where
  kind : Int
  n : Int
  at_ : Int
  write : Bool
  refs : Int

def encO.un (s : OS) (z : Int) : encO.U := ⟨s.kind z, s.n z, s.at_ z, s.write z, s.refs z⟩
def encO.cell (u : encO.U) (j : Nat) : Value :=
  if j = 0 then .int .i64 u.kind else
  if j = 1 then .int .i64 u.n else
  if j = 2 then .int .i64 u.at_ else
  if j = 3 then .bool u.write else
  if j = 4 then .int .i64 u.refs else
  undef
def encO (p0 p1 : Nat) (s : OS) (i : Nat) : Value :=
  if i = 0 then ptr p0 0 0 else
  if i = 1 then ptr p1 0 0 else
  if i < 122 then encO.cell (encO.un s (((i - 2) / 5 : Nat) : Int)) ((i - 2) % 5) else
  undef
theorem encO.ld_p {p0 p1 : Nat} (s : OS) : 0 + 1 < 122 ∧ encO p0 p1 s (0 + 1) = ptr p1 0 0 := ⟨by omega, by unfold encO; rw [if_neg (by omega), if_pos (by omega)]⟩
theorem encO.at_ {p0 p1 : Nat} (s : OS) (z : Int) (h : 0 ≤ z ∧ z < 24) (j : Nat) (hj : j < 5) : encO p0 p1 s (0 + 2 + z.toNat * 5 + j) = encO.cell (encO.un s z) j := by
  unfold encO
  rw [if_neg (by omega), if_neg (by omega), if_pos (by omega), show (((0 + 2 + z.toNat * 5 + j - 2) / 5 : Nat) : Int) = z from by omega, show (0 + 2 + z.toNat * 5 + j - 2) % 5 = j from by omega]
theorem encO.set {p0 p1 : Nat} (s s' : OS) (z : Int) (h : 0 ≤ z ∧ z < 24) (k : Nat) (hk : k < 5) (v : Value) (hv : ∀ j, encO.cell (encO.un s' z) j = if j = k then v else encO.cell (encO.un s z) j) (ho : ∀ y, ¬ y = z → encO.un s' y = encO.un s y) : 0 + 2 + z.toNat * 5 + k < 122 ∧ upd (encO p0 p1 s) (0 + 2 + z.toNat * 5 + k) v = encO p0 p1 s' := by
  refine ⟨by omega, ?_⟩
  funext i
  unfold upd
  by_cases hi : i = 0 + 2 + z.toNat * 5 + k
  · rw [if_pos hi, hi, encO.at_ s' z h k hk, hv, if_pos rfl]
  · rw [if_neg hi]
    unfold encO
    by_cases q0 : i = 0
    · rw [if_pos q0, if_pos q0]
    rw [if_neg q0, if_neg q0]
    by_cases q1 : i = 1
    · rw [if_pos q1, if_pos q1]
    rw [if_neg q1, if_neg q1]
    by_cases c1 : i < 122
    · rw [if_pos c1, if_pos c1]
      by_cases cz : (((i - 2) / 5 : Nat) : Int) = z
      · rw [cz, hv, if_neg (by omega)]
      · rw [ho _ cz]
    · rw [if_neg c1, if_neg c1]
theorem encO.setL {p0 p1 : Nat} (s s' : OS) (z : Int) (h : 0 ≤ z ∧ z < 24) (vs : List Value) (hl : vs.length = 5) (hv : ∀ j, j < 5 → vs[j]? = some (encO.cell (encO.un s' z) j)) (ho : ∀ y, ¬ y = z → encO.un s' y = encO.un s y) : 0 + 2 + z.toNat * 5 + 5 ≤ 122 ∧ updL (encO p0 p1 s) (0 + 2 + z.toNat * 5) vs = encO p0 p1 s' := by
  refine ⟨by omega, ?_⟩
  funext i
  by_cases a1 : i < 0 + 2 + z.toNat * 5
  · rw [updL_lt' _ _ _ _ a1]
    unfold encO
    by_cases q0 : i = 0
    · rw [if_pos q0, if_pos q0]
    rw [if_neg q0, if_neg q0]
    by_cases q1 : i = 1
    · rw [if_pos q1, if_pos q1]
    rw [if_neg q1, if_neg q1]
    rw [if_pos (by omega), if_pos (by omega), ho _ (by omega)]
  · by_cases a2 : i < 0 + 2 + z.toNat * 5 + 5
    · obtain ⟨j, rfl⟩ : ∃ j, i = 0 + 2 + z.toNat * 5 + j := ⟨i - (0 + 2 + z.toNat * 5), by omega⟩
      rw [encO.at_ s' z h j (by omega)]
      exact updL_at' vs _ _ _ _ (hv j (by omega))
    · rw [updL_ge' _ _ _ _ (by omega)]
      unfold encO
      have q0 : ¬ i = 0 := by omega
      rw [if_neg q0, if_neg q0]
      have q1 : ¬ i = 1 := by omega
      rw [if_neg q1, if_neg q1]
      by_cases c1 : i < 122
      · rw [if_pos c1, if_pos c1, ho _ (by omega)]
      · rw [if_neg c1, if_neg c1]
def encO.arr (u : encO.U) : Array Value := #[.int .i64 u.kind, .int .i64 u.n, .int .i64 u.at_, .bool u.write, .int .i64 u.refs]
theorem encO.un_agg {p0 p1 : Nat} (s : OS) (z : Int) (h : 0 ≤ z ∧ z < 24) : 0 + 2 + z.toNat * 5 + 5 ≤ 122 ∧ aggOf (encO p0 p1 s) (0 + 2 + z.toNat * 5) 5 = .agg (encO.arr (encO.un s z)) := by
  refine ⟨by omega, ?_⟩
  have q := fun j hj => encO.at_ (p0 := p0) (p1 := p1) s z h j hj
  simp only [aggOf, List.range, List.range.loop, List.map_cons, List.map_nil]
  rw [q 0 (by omega), q 1 (by omega), q 2 (by omega), q 3 (by omega), q 4 (by omega)]
  rfl
theorem encO.box (u : encO.U) : ∀ i, i < 5 → cellsOf (encO.arr u) i = encO.cell u i := fun i h => match i, h with
  | 0, _ => rfl
  | 1, _ => rfl
  | 2, _ => rfl
  | 3, _ => rfl
  | 4, _ => rfl
  | j + 5, h => absurd h (by omega)
theorem encO.put {p0 p1 : Nat} (s : OS) (z k n : Int) (w : Bool) (r : Int) (h : 0 ≤ z ∧ z < 24) : 0 + 2 + z.toNat * 5 + 5 ≤ 122 ∧ updL (encO p0 p1 s) (0 + 2 + z.toNat * 5) (encO.arr ⟨k, n, 0, w, r⟩).toList = encO p0 p1 ⟨fset s.kind z k, fset s.n z n, fset s.at_ z 0, fset s.refs z r, fset s.write z w⟩ :=
  encO.setL s ⟨fset s.kind z k, fset s.n z n, fset s.at_ z 0, fset s.refs z r, fset s.write z w⟩ z h _ rfl (fun j hj => by
    have e : encO.un ⟨fset s.kind z k, fset s.n z n, fset s.at_ z 0, fset s.refs z r, fset s.write z w⟩ z = ⟨k, n, 0, w, r⟩ := by unfold encO.un; simp only [fset_eq]
    rw [e]
    match j, hj with
    | 0, _ => rfl
    | 1, _ => rfl
    | 2, _ => rfl
    | 3, _ => rfl
    | 4, _ => rfl
    | j + 5, h => exact absurd h (by omega)) (fun y hy => by unfold encO.un; simp only [fset_ne _ _ hy])

end Go.X.Tr

/-
  DERIVED: THE SHELF's CONTRACTS AT THIS DUMP, IN PLAIN WORDS (tools/lay-plain.mjs out of 'YtmklfkjfgjagaaaSHL.lean', which tools/lay-shelf.mjs wrote): THE SAME DECLARATIONS UNDER THE SAME NAMES: 'import', 'namespace', 'open', 'def', 'theorem' AND NOTHING ELSE: no command of the shelf's: FOR A HAND-IN. Each laying: the table of numbers ('.._ren') and one theorem, a field a fact of the dump's own or the kernel's comparison; each contract: ONE APPLICATION.
-/
namespace Go.Proofs
open Go.Shelf
def trySearchS_ren : Go.Shelf.Ren := ⟨fun | 26 => 249 | 33 => 266 | 34 => 267 | 38 => 280 | n => n, fun | 24 => 207 | 9 => 9 | 3 => 3 | 4 => 4 | 40 => 258 | 0 => 0 | n => n, fun | n => n⟩
theorem trySearchS : Go.Proofs.Lays2.n26 Tryz.prog trySearchS_ren := {
  mixed := by kernel_rfl
  f26 := Tryz.func249.trans (congrArg some (by kernel_rfl))
  f33 := Tryz.func266.trans (congrArg some (by kernel_rfl))
  f34 := Tryz.func267.trans (congrArg some (by kernel_rfl))
  f38 := Tryz.func280.trans (congrArg some (by kernel_rfl))
  t0 := Tryz.underlying0
  a0 := Tryz.isAgg0
  z0 := Tryz.sizeOf0
  v0 := Tryz.zeroValue0
  t3 := Tryz.underlying3
  a3 := Tryz.isAgg3
  z3 := Tryz.sizeOf3
  v3 := Tryz.zeroValue3
  t4 := Tryz.underlying4
  a4 := Tryz.isAgg4
  z4 := Tryz.sizeOf4
  v4 := Tryz.zeroValue4
  t9 := Tryz.underlying9
  a9 := Tryz.isAgg9
  z9 := Tryz.sizeOf9
  v9 := Tryz.zeroValue9
  t24 := Tryz.underlying207
  a24 := Tryz.isAgg207
  z24 := Tryz.sizeOf207
  v24 := Tryz.zeroValue207
  t40 := Tryz.underlying258
  a40 := Tryz.isAgg258
  z40 := Tryz.sizeOf258
  v40 := Tryz.zeroValue258 }
def tryInsertS_ren : Go.Shelf.Ren := ⟨fun | 22 => 250 | 29 => 268 | 30 => 269 | 36 => 281 | 17 => 288 | n => n, fun | 24 => 207 | 9 => 9 | 3 => 3 | 4 => 4 | 0 => 0 | n => n, fun | n => n⟩
def tryInsertI_ren : Go.Shelf.Ren := ⟨fun | 21 => 251 | 27 => 270 | 28 => 271 | 35 => 282 | 39 => 289 | n => n, fun | 22 => 55 | 3 => 3 | 4 => 4 | 0 => 0 | n => n, fun | n => n⟩
def tryDeleteS_ren : Go.Shelf.Ren := ⟨fun | 24 => 252 | n => n, fun | 24 => 207 | 9 => 9 | 3 => 3 | 4 => 4 | 0 => 0 | n => n, fun | n => n⟩
def tryDeleteI_ren : Go.Shelf.Ren := ⟨fun | 23 => 253 | n => n, fun | 22 => 55 | 3 => 3 | 4 => 4 | 0 => 0 | n => n, fun | n => n⟩
def tryCloneS_ren : Go.Shelf.Ren := ⟨fun | 16 => 240 | n => n, fun | 24 => 207 | 9 => 9 | 4 => 4 | n => n, fun | n => n⟩
end Go.Proofs

namespace Go.X.Tr
open Go Go.Proofs Go.X
set_option maxRecDepth 20000
set_option maxHeartbeats 4000000



theorem s_search (p : Option Addr) (cap : Nat) (l : List ByteArray) (x : ByteArray) (hl : l.length ≤ 1000000) : Spec Tryz.prog 249 [.slice p l.length cap, .string x] [srow p cap 9 l] (fun v H1 => v = .tuple #[.int .i64 (bsS l x), .bool (bsHit l x)] ∧ H1 = [srow p cap 9 l]) := search_row Go.Proofs.trySearchS p cap 9 l x hl
theorem t_is (b o : Nat) (s : FC) (n : Int) : Spec Tryz.prog 185 [ptr b o 0, .int .i64 n]
 [.cells b o 321 (encF s)]
 (fun v H1 => v = errv 102 (s.isE n 0) ∧ H1 = [.cells b o 321 (encF s)]) := by
  refine Spec.go 21 [0, 1, 4, 10, 19] [] Tryz.func185 rfl rfl rfl ?_
  intro W
  refine sp 7 rfl ?_ ?_ <;> intro h1
  · skip
    refine XE.ret1 rfl rfl (post_of .h1 rfl ?_)
    try dsimp only [SW.den, SV.den, dens, ofC]
    have e : s.isE n 0 = 1 := by unfold FF.isE; rw [if_pos (by omega)]
    exact ⟨by rw [e] <;> rfl, rfl⟩
  · skip
    refine cd rfl ?_ ?_ <;> intro h2
    · skip
      refine XE.ret1 rfl rfl (post_of .h1 rfl ?_)
      try dsimp only [SW.den, SV.den, dens, ofC]
      have e : s.isE n 0 = 1 := by unfold FF.isE; rw [if_pos (by omega)]
      exact ⟨by rw [e] <;> rfl, rfl⟩
    · skip
      refine sd (by omega) ?_
      refine ld .here (encF.ld_n_kind _ _ (by omega)) ?_
      refine cd rfl ?_ ?_ <;> intro h3
      · skip
        refine XE.ret1 rfl rfl (post_of .h1 rfl ?_)
        try dsimp only [SW.den, SV.den, dens, ofC]
        have e : s.isE n 0 = 2 := by unfold FF.isE; rw [if_neg (by omega), if_pos (by omega)]
        exact ⟨by rw [e] <;> rfl, rfl⟩
      · skip
        refine XE.ret1 rfl rfl (post_of .h1 rfl ?_)
        try dsimp only [SW.den, SV.den, dens, ofC]
        have e : s.isE n 0 = 0 := by unfold FF.isE; rw [if_neg (by omega), if_neg (by omega), if_neg (by omega)]
        exact ⟨by rw [e] <;> rfl, rfl⟩
theorem t_dir (b o : Nat) (s : FC) (n : Int) : Spec Tryz.prog 237 [ptr b o 0, .int .i64 n]
 [.cells b o 321 (encF s)]
 (fun v H1 => v = errv 102 (s.isE n 2) ∧ H1 = [.cells b o 321 (encF s)]) := by
  refine Spec.go 23 [0, 1, 4, 5, 20] [] Tryz.func237 rfl rfl rfl ?_
  intro W
  refine ca (t_is _ _ _ _) .h1 ?_
  rintro _ _ ⟨rfl, rfl⟩
  refine gO ?_
  refine sp 11 rfl ?_ ?_ <;> intro h1
  · skip
    obtain ⟨i1, i2, i3⟩ := FF.isE_0 (show s.isE n 0 = 0 by assumption)
    refine sd (by omega) ?_
    refine ld .here (encF.ld_n_kind _ _ (by omega)) ?_
    refine cd rfl ?_ ?_ <;> intro h2
    · skip
      refine XE.ret1 rfl rfl (post_of .h1 rfl ?_)
      try dsimp only [SW.den, SV.den, dens, ofC]
      have e : s.isE n 2 = 11 := by unfold FF.isE; rw [if_neg (by omega), if_neg (by omega), if_pos (by omega)]
      exact ⟨by rw [e] <;> rfl, rfl⟩
    · skip
      refine XE.ret1 rfl rfl (post_of .h1 rfl ?_)
      try dsimp only [SW.den, SV.den, dens, ofC]
      have e : s.isE n 2 = 0 := by unfold FF.isE; rw [if_neg (by omega), if_neg (by omega), if_neg (by omega)]
      exact ⟨by rw [e, show s.isE n 0 = 0 by assumption], rfl⟩
  · skip
    have i0 : s.isE n 0 ≠ 0 := by assumption
    refine XE.ret1 rfl rfl (post_of .h1 rfl ?_)
    try dsimp only [SW.den, SV.den, dens, ofC]
    exact ⟨by rw [FF.isE_k i0], rfl⟩
theorem t_Find (b o : Nat) (s : FC) (hI : s.toFF.Sh) (n : Int) (x : ByteArray) : Spec Tryz.prog 235 [ptr b o 0, .int .i64 n, .string x]
 [.cells b o 321 (encF s), .fam fam40 (s.rowsN 9), .fam fam40 (s.rowsK 3)]
 (fun v H1 => v = .tuple #[.int .i64 (s.findV n x), errv 102 (s.findE n x)] ∧ H1 = [.cells b o 321 (encF s), .fam fam40 (FC.rowsN 9 s), .fam fam40 (FC.rowsK 3 s)]) := by
  refine Spec.go 42 [0, 1, 2, 6, 7, 8, 9, 10, 15, 30] [] Tryz.func235 rfl rfl rfl ?_
  intro W
  refine ca (t_dir _ _ _ _) .h1 ?_
  rintro _ _ ⟨rfl, rfl⟩
  refine gO ?_
  refine cd rfl ?_ ?_ <;> intro h1
  · skip
    have i0 : s.isE n 2 ≠ 0 := by assumption
    refine XE.ret2 rfl rfl rfl (post_of .h3 rfl ?_)
    try dsimp only [SW.den, SV.den, dens, ofC]
    have e : s.findE n x = s.isE n 2 := by unfold FF.findE; rw [if_pos i0]
    exact ⟨by rw [show s.findV n x = 0 from by unfold FF.findV; rw [if_neg (by omega)], e] <;> rfl, rfl⟩
  · skip
    obtain ⟨i1, i2, i3, i4⟩ := FF.isE_k0 (show s.isE n 2 = 0 by simpa using h1)
    have i0 : s.isE n 2 = 0 := by simpa using h1
    obtain ⟨hr, hk, h8, _⟩ := hI.rise n i1 i2
    have hbs := bsS_eq hr x
    have hbh := bsHit_eq hr x
    have hpl := posn_le (s.names n) x
    refine sd (by omega) ?_
    refine ld .here (encF.ld_n_names _ _ (by omega)) ?_
    refine XR.mono (fun _ hw3 => XM.openN (s := s) (z := n) (by omega) (.cons (.there .here) .nil) hw3) ?_
    refine ca (s_search _ _ _ _ (by omega)) .h1 ?_
    rintro _ _ ⟨rfl, rfl⟩
    refine gO ?_
    refine XR.mono (fun _ hw3 => XM.closeN (s := s) s (z := n) (by omega) rfl (fset_same _ rfl).symm (fset_same _ rfl).symm (fset_same _ rfl).symm .h2 hw3) ?_
    refine cdB rfl ?_ ?_ <;> intro h2
    · try simp only [sb] at h2
      have hh : hasn (s.names n) x = false := by rw [← hbh]; simpa using h2
      refine XE.ret2 rfl rfl rfl (post_of (.cons (.there .here) .h2) rfl ?_)
      try dsimp only [SW.den, SV.den, dens, ofC]
      have e : s.findE n x = 2 := by unfold FF.findE; rw [if_neg (by omega), if_neg (by rw [hh]; simp)]
      exact ⟨by rw [show s.findV n x = 0 from by unfold FF.findV; rw [if_neg (by omega)], e]; rfl, rfl⟩
    · try simp only [sb] at h2
      have hh : hasn (s.names n) x = true := by rw [← hbh]; simpa using h2
      obtain ⟨hp1, hp2⟩ := hasn_iff.1 hh
      refine sd (by omega) ?_
      refine XR.mono (fun _ hw3 => XM.openK (s := s) (z := n) (by omega) (.cons (.t2 .here) .nil) hw3) ?_
      refine ld (.t3 .here) (encF.ld_n_kids _ _ (by omega)) ?_
      refine XR.openRow .here (by omega) ?_
      intro g hg
      rw [hg]
      refine sd (by omega) ?_
      refine ldR .here (ints_at (by omega)) ?_
      refine XR.mono (fun _ hw3 => XM.closeK (s := s) s (z := n) (by omega) rfl (fset_same _ rfl).symm (fset_same _ hg).symm (fset_same _ rfl).symm .h2 hw3) ?_
      refine XE.ret2 rfl rfl rfl (post_of (.cons (.t2 .here) (.cons (.there .here) .h1)) rfl ?_)
      try dsimp only [SW.den, SV.den, dens, ofC]
      have e : s.findE n x = 0 := by unfold FF.findE; rw [if_neg (by omega), if_pos hh]
      exact ⟨by rw [show s.findV n x = at0 (s.kids n) (posn (s.names n) x) from by unfold FF.findV; rw [if_pos e], e, hbs]; rfl, rfl⟩
end Go.X.Tr

namespace Go.X.Tr
open Go Go.Proofs Go.X
set_option maxRecDepth 20000
set_option maxHeartbeats 4000000

theorem t_fresh (b o : Nat) (s : FC) (k t l u : Int) : Spec Tryz.prog 175 [ptr b o 0, .agg (nodeA k t l u)]
 [.cells b o 321 (encF s), .fam fam40 (s.rowsN 9), .fam fam40 (s.rowsK 3)]
 (fun v H1 => (s.free < 0 ∧ v = .tuple #[.int .i64 0, errv 102 4] ∧ H1 = [.cells b o 321 (encF s), .fam fam40 (FC.rowsN 9 s), .fam fam40 (FC.rowsK 3 s)]) ∨ (¬ s.free < 0 ∧ v = .tuple #[.int .i64 s.free, errv 102 0] ∧ H1 = [.cells b o 321 (encF (s.setC s.free k t l u)), .fam fam40 (FC.rowsN 9 (s.setC s.free k t l u)), .fam fam40 (FC.rowsK 3 (s.setC s.free k t l u))])) := by
  refine Spec.go 27 [0, 3, 4, 5, 6, 7, 8, 17] [] Tryz.func175 rfl rfl rfl ?_
  intro W
  refine XO.box (m := 8) (C := encF.cell (nodeU k t l u)) rfl rfl (node_box k t l u) rfl ?_
  intro bx
  refine gO ?_
  refine lp (σ := Int) (fun i => (40 - i).toNat) (fun i => (0 ≤ i ∧ i ≤ 40) ∧ ∀ j, 0 ≤ j → j < i → s.kind j ≠ 0) (fun i => [(7, .int .i64 i), (0, ptr b o 0), (3, ptr bx 0 0)]) (fun i => XM W (foot [.cells b o 321 (encF s), .fam fam40 (s.rowsN 9), .fam fam40 (s.rowsK 3)]) [.cells b o 321 (encF s), .fam fam40 (s.rowsN 9), .fam fam40 (s.rowsK 3), .cells bx 0 8 (encF.cell (nodeU k t l u))]) (0) ?_ (S3 rfl rfl rfl) (fun _ hw => XM.pick (.cons (.there .here) (.cons (.there .here) (.cons (.there .here) .h1))) hw) ?_
  · skip
    exact ⟨by omega, fun j a b => by omega⟩
  intro i hi
  obtain ⟨hi, ho⟩ := hi
  refine gC ?_
  refine cd rfl ?_ ?_ <;> intro h1
  · skip
    refine sd (by omega) ?_
    refine ld .here (encF.ld_n_kind _ _ (by omega)) ?_
    refine cd rfl ?_ ?_ <;> intro h2
    · skip
      refine rq [0, 1, 2, 3, 4, 5, 6] mixed (by kernel_rfl) ?_
      refine ldA (.t3 .here) (node_agg k t l u) ?_
      refine sd (by omega) ?_
      refine stA .here (encF_new s i k t l u (by omega)) rfl ⟨rfl, rfl⟩ ?_
      refine XR.mono (fun _ hw3 => XM.newN (s := s) (s.setC i k t l u) (by omega) rfl rfl rfl (.cons (.there .here) .nil) hw3) ?_
      refine XR.mono (fun _ hw3 => XM.newK (s := s) (s.setC i k t l u) (by omega) rfl rfl rfl (.cons (.t2 .here) .nil) hw3) ?_
      refine XE.ret2 rfl rfl rfl (post_of (.cons (.t2 .here) (.cons (.there .here) .h1)) rfl ?_)
      try dsimp only [SW.den, SV.den, dens, ofC]
      have e := FF.free_at hi.1 (by omega) ho (by assumption)
      exact .inr ⟨by omega, by rw [e] <;> rfl, by rw [e]⟩
    · skip
      refine sd (by omega) ?_
      refine ag (i + 1) ?_ ?_ (S3 rfl rfl rfl) (fun _ hw => XM.pick .h4 hw)
      · skip
        (first | omega | (simp; done) | (simp; omega))
      · skip
        refine ⟨by omega, fun j a b => ?_⟩
        by_cases c : j = i
        · subst c; assumption
        · exact ho j a (by omega)
  · skip
    refine XE.ret2 rfl rfl rfl (post_of .h3 rfl ?_)
    try dsimp only [SW.den, SV.den, dens, ofC]
    have e := FF.free_none (s := s.toFF) (fun j a b => ho j a (by omega))
    exact .inl ⟨by omega, rfl, rfl⟩
theorem t_Root (b o : Nat) (s : FC) (hI : s.toFF.Sh) (t : Int) : Spec Tryz.prog 176 [ptr b o 0, .int .i64 t]
 [.cells b o 321 (encF s), irow s.rP s.rC 3 s.roots]
 (fun v H1 => v = .tuple #[.int .i64 (s.rootV t), errv 102 (s.rootE t)] ∧ H1 = [.cells b o 321 (encF s), irow s.rP s.rC 3 s.roots]) := by
  have hr4 := hI.roots.1
  refine Spec.go 28 [0, 1, 4, 5, 11, 19] [] Tryz.func176 rfl rfl rfl ?_
  intro W
  refine sp 8 rfl ?_ ?_ <;> intro h1
  · skip
    refine XE.ret2 rfl rfl rfl (post_of .h2 rfl ?_)
    try dsimp only [SW.den, SV.den, dens, ofC]
    have e : s.rootE t = 1 := by unfold FF.rootE; rw [if_pos (by omega)]
    exact ⟨by rw [show s.rootV t = 0 from by unfold FF.rootV; rw [if_neg (by omega)], e]; rfl, rfl⟩
  · skip
    refine cd rfl ?_ ?_ <;> intro h2
    · skip
      refine XE.ret2 rfl rfl rfl (post_of .h2 rfl ?_)
      try dsimp only [SW.den, SV.den, dens, ofC]
      have e : s.rootE t = 1 := by unfold FF.rootE; rw [if_pos (by omega)]
      exact ⟨by rw [show s.rootV t = 0 from by unfold FF.rootV; rw [if_neg (by omega)], e]; rfl, rfl⟩
    · skip
      refine ld .here (encF_roots _) ?_
      refine cd rfl ?_ ?_ <;> intro h3
      · skip
        refine XE.ret2 rfl rfl rfl (post_of .h2 rfl ?_)
        try dsimp only [SW.den, SV.den, dens, ofC]
        have e : s.rootE t = 2 := by unfold FF.rootE; rw [if_neg (by omega), if_pos (by omega)]
        exact ⟨by rw [show s.rootV t = 0 from by unfold FF.rootV; rw [if_neg (by omega)], e]; rfl, rfl⟩
      · skip
        refine ld .here (encF_roots _) ?_
        refine XR.openRow (.there .here) (by omega) ?_
        intro g hg
        rw [hg]
        refine sd (by omega) ?_
        refine ldR (.there .here) (ints_at (by omega)) ?_
        refine XE.ret2 rfl rfl rfl (post_of .h2 rfl ?_)
        try dsimp only [SW.den, SV.den, dens, ofC]
        have e : s.rootE t = 0 := by unfold FF.rootE; rw [if_neg (by omega), if_neg (by omega)]
        exact ⟨by rw [show s.rootV t = at0 s.roots t from by unfold FF.rootV; rw [if_pos e], e]; rfl, rfl⟩
end Go.X.Tr

namespace Go.X.Tr
open Go Go.Proofs Go.X
set_option maxRecDepth 20000
set_option maxHeartbeats 4000000
theorem ag_211 : aggT Tryz.prog 211 = true := by kernel_rfl
theorem bs1_55 (z : Int) : ∀ w, (Instr.buildSlice 55 1 #[(0, .int .i64 z)]).run Tryz.prog w = .ok (.slice (some ⟨w.heap.size, 0, none⟩) 1 1) (w.alloc (.cells #[.int .i64 z] 3)) := fun w => by kernel_rfl
theorem rt_3_1 : rowT Tryz.prog 3 1 = true := by kernel_rfl
theorem sz_211_4 : szOf Tryz.prog 211 = some 4 := by kernel_rfl
theorem t_New  : Spec Tryz.prog 99 []
 []
 (fun v H1 => ∃ b, v = ptr b 0 0 ∧ H1 = [.cells b 0 321 (encF FC.void), .fam fam40 (FC.rowsN 9 FC.void), .fam fam40 (FC.rowsK 3 FC.void), irow (FC.rP FC.void) (FC.rC FC.void) 3 (FC.toFF FC.void).roots]) := by
  refine Spec.go 3 [0] [] Tryz.func99 rfl rfl rfl ?_
  intro W
  refine XO.v (V.build (vs := #[]) rfl (v := .agg arrF0) (fun _ => by kernel_rfl)) rfl (gO ?_)
  refine XO.box (m := 321) (C := encF FC.void) rfl arrF0_size arrF0_box rfl ?_
  intro p
  refine XO.mono (fun _ hw3 => XM.newForest hw3) ?_
  refine gO ?_
  refine XE.ret1 rfl rfl (post_of (.cons (.t3 .here) .h3) rfl ?_)
  try dsimp only [SW.den, SV.den, dens, ofC]
  exact ⟨_, rfl, rfl⟩
theorem t_Plant (b o : Nat) (s : FC) (hI : s.toFF.Sh) : Spec Tryz.prog 101 [ptr b o 0]
 [.cells b o 321 (encF s), .fam fam40 (s.rowsN 9), .fam fam40 (s.rowsK 3), irow s.rP s.rC 3 s.roots]
 (fun v H1 => ∃ t : FC, v = .tuple #[.int .i64 s.plantV, errv 102 s.plantE] ∧ t.toFF = s.plant ∧ H1 = [.cells b o 321 (encF t), .fam fam40 (FC.rowsN 9 t), .fam fam40 (FC.rowsK 3 t), irow (FC.rP t) (FC.rC t) 3 (FC.toFF t).roots]) := by
  have hr4 := hI.roots.1
  refine Spec.go 50 [0, 2, 3, 4, 5, 11, 25] [] Tryz.func101 rfl rfl rfl ?_
  intro W
  refine ld .here (encF_roots _) ?_
  refine cd rfl ?_ ?_ <;> intro h1
  · skip
    refine XE.ret2 rfl rfl rfl (post_of .h4 rfl ?_)
    try dsimp only [SW.den, SV.den, dens, ofC]
    have e : s.plantE = 4 := by unfold FF.plantE; rw [if_pos (by omega)]
    exact ⟨s, by rw [show s.plantV = 0 from by unfold FF.plantV; rw [if_neg (by omega)], e]; rfl, by unfold FF.plant; rw [if_neg (by omega)], rfl⟩
  · skip
    refine ld .here (encF_roots _) ?_
    refine XO.v (V.build (vs := #[(0, .int .i64 2), (1, .int .i64 (s.roots.length)), (2, .int .i64 1)]) rfl (v := .agg (nodeA 2 s.roots.length 1 0)) (fun _ => by kernel_rfl)) rfl (gO ?_)
    refine ca (t_fresh _ _ _ _ _ _ _) .h3 ?_
    rintro _ _ (⟨h2, rfl, rfl⟩ | ⟨h2, rfl, rfl⟩)
    · skip
      try dsimp only [errvL0, errvL1, errvL2, errvL3, errvL4, errvL5, errvL6, errvL7, errvL8, errvL9, errvL10, errvL11, errvL12, errvL13]
      refine gO ?_
      refine XE.ret2 rfl rfl rfl (post_of .h4 rfl ?_)
      try dsimp only [SW.den, SV.den, dens, ofC]
      have e : s.plantE = 4 := by unfold FF.plantE; rw [if_neg (by omega), if_pos (by assumption)]
      exact ⟨s, by rw [show s.plantV = 0 from by unfold FF.plantV; rw [if_neg (by omega)], e] <;> rfl, by unfold FF.plant; rw [if_neg (by omega)], rfl⟩
    · skip
      try dsimp only [errvL0, errvL1, errvL2, errvL3, errvL4, errvL5, errvL6, errvL7, errvL8, errvL9, errvL10, errvL11, errvL12, errvL13]
      have f := FF.free_ok (show ¬ s.free < 0 by assumption)
      refine gO ?_
      refine sd (by omega) ?_
      refine st .here (encF.st_n_up _ _ (by omega) _) rfl ?_
      refine ld .here (encF_roots _) ?_
      refine XO.buildSlice (A := #[.int .i64 _]) (vs := #[(0, .int .i64 _)]) rfl (bs1_55 _) rfl rfl ?_
      intro h3
      refine gO ?_
      refine XO.appendI (e := 3) rfl rfl Tryz.underlying55 rt_3_1 (.t4 .here) .here (by show s.roots.length + 1 ≤ _; omega) rfl ?_
      intro p1 c1
      refine gO ?_
      refine st (.t2 .here) (encF_roots_st _ (s.roots ++ [s.free]) _ _ _ rfl) rfl ?_
      refine ld (.t2 .here) (encF_roots _) ?_
      refine sd (by simp only [List.length_append, List.length_singleton]; omega) ?_
      refine XE.ret2 rfl rfl rfl (post_of (.cons (.t2 .here) (.cons (.t2 .here) (.cons (.t2 .here) .h1))) rfl ?_)
      try dsimp only [SW.den, SV.den, dens, ofC]
      have e : s.plantE = 0 := by unfold FF.plantE; rw [if_neg (by omega), if_neg (by assumption)]
      refine ⟨_, ?_, ?_, rfl⟩
      · rw [show s.plantV = s.roots.length from by unfold FF.plantV; rw [if_pos e], e]
        simp only [List.length_append, List.length_singleton]
        rw [show ((s.roots.length + 1 : Nat) : Int) - 1 = s.roots.length by omega]; rfl
      · unfold FF.plant; rw [if_pos e, ← FF.setN_up s.toFF s.free 2 _ 1 0 s.free]; rfl
theorem t_Of (b o : Nat) (s : FC) (hI : s.toFF.Sh) (n : Int) : Spec Tryz.prog 217 [ptr b o 0, .int .i64 n]
 [.cells b o 321 (encF s)]
 (fun v H1 => v = .tuple #[.agg (s.ofV n).arr, errv 102 (s.isE n 0)] ∧ H1 = [.cells b o 321 (encF s)]) := by
  refine Spec.go 35 [0, 1, 4, 5, 6, 7, 12] [] Tryz.func217 rfl rfl rfl ?_
  intro W
  refine XO.allocZ (z := .agg NV.zero.arr) (m := 4) (C := encNV NV.zero) (by kernel_rfl) rfl (encNV_box _) rfl ?_
  intro bg
  refine gO ?_
  refine ca (t_is _ _ _ _) (.cons (.there .here) .nil) ?_
  rintro _ _ ⟨rfl, rfl⟩
  refine gO ?_
  refine cd rfl ?_ ?_ <;> intro h1
  · skip
    have i0 : s.isE n 0 ≠ 0 := by assumption
    refine XO.v (V.build (vs := #[]) rfl (v := .agg NV.zero.arr) (fun _ => by kernel_rfl)) rfl (gO ?_)
    refine stA (.there .here) (encNV_st _ _) rfl ⟨rfl, rfl⟩ ?_
    refine XE.retG2 rfl (.agg rfl (.there .here) (encNV_agg _) ag_211 sz_211_4) (.tmp rfl) (post_of .h1 rfl ?_)
    try dsimp only [SW.den, SV.den, dens, ofC]
    exact ⟨by rw [show s.ofV n = NV.zero from by unfold FF.ofV; rw [if_neg i0]], rfl⟩
  · skip
    obtain ⟨i1, i2, i3⟩ := FF.isE_0 (show s.isE n 0 = 0 by simpa using h1)
    have i0 : s.isE n 0 = 0 := by simpa using h1
    refine sd (by omega) ?_
    refine ldA .here (encF_node _ _ (by omega)) ?_
    refine XO.allocZ (z := .agg (nodeA 0 0 0 0)) (m := 8) (C := encF.cell (nodeU 0 0 0 0)) (by kernel_rfl) rfl (node_box 0 0 0 0) rfl ?_
    intro bx
    refine gO ?_
    refine stA .here (nodeV_st _ _) rfl ⟨rfl, rfl⟩ ?_
    refine ld .here (nodeV_0 _) ?_
    refine ld .here (nodeV_2 _) ?_
    refine ld .here (nodeV_3 _) ?_
    refine ld .here (nodeV_4 _) ?_
    refine ld .here (nodeV_6 _) ?_
    refine XO.v (V.build (vs := #[(0, .int .i64 (s.kind n)), (1, .int .i64 (s.links n)), (2, .int .i64 (s.held n)), (3, .int .i64 (max ((s.data n).size : Int) ((s.kids n).length : Int)))]) rfl (v := .agg (NV.mk (s.kind n) (s.links n) (s.held n) (max ((s.data n).size : Int) ((s.kids n).length : Int))).arr) (fun _ => by kernel_rfl)) rfl (gO ?_)
    refine stA (.t2 .here) (encNV_st _ _) rfl ⟨rfl, rfl⟩ ?_
    refine XE.retG2 rfl (.agg rfl (.t2 .here) (encNV_agg _) ag_211 sz_211_4) (.tmp rfl) (post_of (.cons (.there .here) .nil) rfl ?_)
    try dsimp only [SW.den, SV.den, dens, ofC]
    exact ⟨by rw [show s.ofV n = _ from by unfold FF.ofV; rw [if_pos i0], i0]; rfl, rfl⟩
end Go.X.Tr

namespace Go.X.Tr
open Go Go.Proofs Go.X
set_option maxRecDepth 20000
set_option maxHeartbeats 4000000

theorem t_Hold (b o : Nat) (s : FC) (hI : s.toFF.Sh) (n : Int) : Spec Tryz.prog 123 [ptr b o 0, .int .i64 n]
 [.cells b o 321 (encF s), .fam fam40 (s.rowsN 9), .fam fam40 (s.rowsK 3)]
 (fun v H1 => v = errv 102 (s.isE n 0) ∧ ∃ t : FC, t.toFF = s.hold n ∧ t.rP = s.rP ∧ t.rC = s.rC ∧ H1 = [.cells b o 321 (encF t), .fam fam40 (FC.rowsN 9 t), .fam fam40 (FC.rowsK 3 t)]) := by
  refine Spec.go 24 [0, 1, 4, 5, 10] [] Tryz.func123 rfl rfl rfl ?_
  intro W
  refine ca (t_is _ _ _ _) .h1 ?_
  rintro _ _ ⟨rfl, rfl⟩
  refine gO ?_
  refine cd rfl ?_ ?_ <;> intro h1
  · skip
    obtain ⟨i1, i2, i3⟩ := FF.isE_0 (show s.isE n 0 = 0 by simpa using h1)
    have i0 : s.isE n 0 = 0 := by simpa using h1
    have hnb := hI.num n (by omega) (by omega)
    refine rq [0, 1, 2, 3, 4, 5, 6, 7, 8, 9, 10, 11, 12] mixed (by kernel_rfl) ?_
    refine sd (by omega) ?_
    refine ld .here (encF.ld_n_held _ _ (by omega)) ?_
    refine sd (by omega) ?_
    refine sd (by omega) ?_
    refine st .here (encF.st_n_held _ _ (by omega) _) rfl ?_
    refine XE.ret1 rfl rfl (post_of .h3 rfl ?_)
    try dsimp only [SW.den, SV.den, dens, ofC]
    exact ⟨rfl, ({ s with held := fset s.held n (s.held n + 1) } : FC), by rw [held_of rfl]; unfold FF.hold; rw [if_pos i0], rfl, rfl, rfl⟩
  · skip
    have i0 : s.isE n 0 ≠ 0 := by assumption
    refine XE.ret1 rfl rfl (post_of .h3 rfl ?_)
    try dsimp only [SW.den, SV.den, dens, ofC]
    exact ⟨rfl, s, by unfold FF.hold; rw [if_neg i0], rfl, rfl, rfl⟩
end Go.X.Tr

namespace Go.X.Tr
open Go Go.Proofs Go.X
set_option maxRecDepth 20000
set_option maxHeartbeats 4000000

end Go.X.Tr

namespace Go.X.Tr
open Go Go.Proofs Go.X
set_option maxRecDepth 20000
set_option maxHeartbeats 4000000

end Go.X.Tr

namespace Go.X.Tr
open Go Go.Proofs Go.X
set_option maxRecDepth 20000
set_option maxHeartbeats 4000000

end Go.X.Tr

namespace Go.X.Tr
open Go Go.Proofs Go.X
set_option maxRecDepth 20000
set_option maxHeartbeats 4000000

end Go.X.Tr

namespace Go.X.Tr
open Go Go.Proofs Go.X
set_option maxRecDepth 20000
set_option maxHeartbeats 4000000

def arrO (bf bp : Nat) : Array Value := ((List.range 122).map (encO bf bp OS.void)).toArray
theorem arrO_size (bf bp : Nat) : (arrO bf bp).size = 122 := by simp [arrO]
theorem arrO_box (bf bp : Nat) : ∀ i, i < 122 → cellsOf (arrO bf bp) i = encO bf bp OS.void i := fun i hi => by simp [cellsOf, arrO, hi]
theorem f_New (bf bp : Nat) : Spec Tryz.prog 100 [ptr bf 0 0, ptr bp 0 0]
 []
 (fun v H1 => ∃ b, v = ptr b 0 0 ∧ H1 = [.cells b 0 122 (encO bf bp OS.void)]) := by
  refine Spec.go 9 [0, 1, 4] [] Tryz.func100 rfl rfl rfl ?_
  intro W
  refine XO.v (V.build (vs := #[(0, ptr bf 0 0), (1, ptr bp 0 0)]) rfl (v := .agg (arrO bf bp)) (fun _ => by kernel_rfl)) rfl (gO ?_)
  refine XO.box (m := 122) (C := encO bf bp OS.void) rfl (arrO_size bf bp) (arrO_box bf bp) rfl ?_
  intro b
  refine gO ?_
  refine XE.ret1 rfl rfl (post_of .h1 rfl ?_)
  try dsimp only [SW.den, SV.den, dens, ofC]
  exact ⟨_, rfl, rfl⟩
end Go.X.Tr

namespace Go.X.Tr
open Go Go.Proofs Go.X
set_option maxRecDepth 20000
set_option maxHeartbeats 4000000

end Go.X.Tr
