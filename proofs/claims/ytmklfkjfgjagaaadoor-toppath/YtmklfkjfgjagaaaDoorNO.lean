import Derived.Test.YtmklfkjfgjagaaaDoorNL
import Derived.Test.YtmklfkjfgjagaaaDoorNRM
import Derived.Test.YtmklfkjfgjagaaaDoorXBytes
namespace Go.X
open Go
theorem XQ.mono {P : Program} {ops : Array Oper} {Q : Exit → Act → World → Prop} {n : Fr} {L : PF} {M M' : World → Prop} {B : Obl} {f : Nat} {l : Array Bool} (hm : ∀ w, M w → M' w) (h : XQ P n ops Q B f l L M') : XQ P n ops Q B f l L M := fun hc a w ha hw hJ => h hc a w ha (hm w hw) hJ
section
variable {W w : World} {S : Nat → Nat → Prop} {H F : List Ent}
theorem fam40_at {z : Int} (h : 0 ≤ z ∧ z < 40) : fam40 z.toNat = true := by show Nat.blt z.toNat 40 = true; simp; omega
theorem pick1 (x : Ent) : ∀ (L : List Ent), Pick (x :: L) L [x]
  | [] => .nil
  | _ :: r => .cons (.there .here) (pick1 x r)
theorem XM.openN {e : TypeId} {s : FC} {z : Int} (hz : 0 ≤ z ∧ z < 40) (hp : Pick H [.fam fam40 (s.rowsN e)] F) (h : XM W S H w) : XM W S (srow (s.nP z) (s.nC z) e (s.names z) :: .fam (outP fam40 z.toNat) (s.rowsN e) :: F) w := by
  have h1 := XM.famOut z.toNat (fam40_at hz) (h.perm hp.perm)
  have e1 : (s.rowsN e z.toNat).ent = srow (s.nP z) (s.nC z) e (s.names z) := by
    unfold FC.rowsN RowD.ent
    simp only [show ((z.toNat : Nat) : Int) = z from by omega]
  rw [e1] at h1
  exact h1
theorem XM.openK {e : TypeId} {s : FC} {z : Int} (hz : 0 ≤ z ∧ z < 40) (hp : Pick H [.fam fam40 (s.rowsK e)] F) (h : XM W S H w) : XM W S (irow (s.kP z) (s.kC z) e (s.kids z) :: .fam (outP fam40 z.toNat) (s.rowsK e) :: F) w := by
  have h1 := XM.famOut z.toNat (fam40_at hz) (h.perm hp.perm)
  have e1 : (s.rowsK e z.toNat).ent = irow (s.kP z) (s.kC z) e (s.kids z) := by
    unfold FC.rowsK RowD.ent
    simp only [show ((z.toNat : Nat) : Int) = z from by omega]
  rw [e1] at h1
  exact h1
theorem rowsN_set (e : TypeId) (s t : FC) (z : Int) (hz : 0 ≤ z ∧ z < 40) (l : List ByteArray) (p : Option Addr) (c : Nat) (h1 : t.names = fset s.names z l) (h2 : t.nP = fset s.nP z p) (h3 : t.nC = fset s.nC z c) :
    rset (s.rowsN e) z.toNat ⟨.slice p l.length c, e, 1, l.length, strs l⟩ = t.rowsN e := by
  funext i
  unfold FC.rowsN
  rw [h1, h2, h3]
  by_cases hi : i = z.toNat
  · subst hi
    rw [rset_eq]
    simp only [show ((z.toNat : Nat) : Int) = z from by omega, fset_eq]
  · rw [rset_ne _ _ hi]
    have hi2 : ¬ (i : Int) = z := by omega
    simp only [fset_ne _ _ hi2]
theorem rowsK_set (e : TypeId) (s t : FC) (z : Int) (hz : 0 ≤ z ∧ z < 40) (l : List Int) (p : Option Addr) (c : Nat) (h1 : t.kids = fset s.kids z l) (h2 : t.kP = fset s.kP z p) (h3 : t.kC = fset s.kC z c) :
    rset (s.rowsK e) z.toNat ⟨.slice p l.length c, e, 1, l.length, ints l⟩ = t.rowsK e := by
  funext i
  unfold FC.rowsK
  rw [h1, h2, h3]
  by_cases hi : i = z.toNat
  · subst hi
    rw [rset_eq]
    simp only [show ((z.toNat : Nat) : Int) = z from by omega, fset_eq]
  · rw [rset_ne _ _ hi]
    have hi2 : ¬ (i : Int) = z := by omega
    simp only [fset_ne _ _ hi2]
theorem XM.closeN {e : TypeId} {s : FC} (t : FC) {z : Int} {n c : Nat} {p : Option Addr} {l : List ByteArray} (hz : 0 ≤ z ∧ z < 40) (hn : n = l.length) (h1 : t.names = fset s.names z l) (h2 : t.nP = fset s.nP z p) (h3 : t.nC = fset s.nC z c)
    (hp : Pick H [.row (.slice p n c) e 1 n (strs l), .fam (outP fam40 z.toNat) (s.rowsN e)] F) (h : XM W S H w) : XM W S (.fam fam40 (t.rowsN e) :: F) w := by
  subst hn
  have h4 := XM.famIn (x := ⟨.slice p l.length c, e, 1, l.length, strs l⟩) z.toNat (outP_at _ _) (h.perm hp.perm)
  rw [inout (fam40_at hz), rowsN_set e s t z hz l p c h1 h2 h3] at h4
  exact h4
theorem XM.closeK {e : TypeId} {s : FC} (t : FC) {z : Int} {n c : Nat} {p : Option Addr} {l : List Int} (hz : 0 ≤ z ∧ z < 40) (hn : n = l.length) (h1 : t.kids = fset s.kids z l) (h2 : t.kP = fset s.kP z p) (h3 : t.kC = fset s.kC z c)
    (hp : Pick H [.row (.slice p n c) e 1 n (ints l), .fam (outP fam40 z.toNat) (s.rowsK e)] F) (h : XM W S H w) : XM W S (.fam fam40 (t.rowsK e) :: F) w := by
  subst hn
  have h4 := XM.famIn (x := ⟨.slice p l.length c, e, 1, l.length, ints l⟩) z.toNat (outP_at _ _) (h.perm hp.perm)
  rw [inout (fam40_at hz), rowsK_set e s t z hz l p c h1 h2 h3] at h4
  exact h4
/-- a family that is as before -/
theorem XM.sameN {e : TypeId} {s : FC} (t : FC) (h1 : t.names = s.names) (h2 : t.nP = s.nP) (h3 : t.nC = s.nC) (hp : Pick H [.fam fam40 (s.rowsN e)] F) (h : XM W S H w) : XM W S (.fam fam40 (t.rowsN e) :: F) w := by
  have : t.rowsN e = s.rowsN e := by unfold FC.rowsN; rw [h1, h2, h3]
  rw [this]; exact h.perm hp.perm
theorem XM.sameK {e : TypeId} {s : FC} (t : FC) (h1 : t.kids = s.kids) (h2 : t.kP = s.kP) (h3 : t.kC = s.kC) (hp : Pick H [.fam fam40 (s.rowsK e)] F) (h : XM W S H w) : XM W S (.fam fam40 (t.rowsK e) :: F) w := by
  have : t.rowsK e = s.rowsK e := by unfold FC.rowsK; rw [h1, h2, h3]
  rw [this]; exact h.perm hp.perm
/-- a node's rows are forgotten -/
theorem XM.newN {e : TypeId} {s : FC} (t : FC) {z : Int} (hz : 0 ≤ z ∧ z < 40) (h1 : t.names = fset s.names z []) (h2 : t.nP = fset s.nP z none) (h3 : t.nC = fset s.nC z 0) (hp : Pick H [.fam fam40 (s.rowsN e)] F) (h : XM W S H w) : XM W S (.fam fam40 (t.rowsN e) :: F) w := by
  have h4 := (XM.pick (pick1 _ _) (XM.openN hz hp h)).nilRow e 1
  exact XM.closeN (s := s) t (p := none) (c := 0) (n := 0) (l := []) hz rfl h1 h2 h3 (.cons .here (.cons .here (by
    have hq : ∀ L : List Ent, Pick L [] L := fun L => .nil
    exact hq _))) h4
theorem XM.newK {e : TypeId} {s : FC} (t : FC) {z : Int} (hz : 0 ≤ z ∧ z < 40) (h1 : t.kids = fset s.kids z []) (h2 : t.kP = fset s.kP z none) (h3 : t.kC = fset s.kC z 0) (hp : Pick H [.fam fam40 (s.rowsK e)] F) (h : XM W S H w) : XM W S (.fam fam40 (t.rowsK e) :: F) w := by
  have h4 := (XM.pick (pick1 _ _) (XM.openK hz hp h)).nilRow e 1
  exact XM.closeK (s := s) t (p := none) (c := 0) (n := 0) (l := []) hz rfl h1 h2 h3 (.cons .here (.cons .here .nil)) h4
end
/-- a node made new -/
def FC.setC (s : FC) (z k t l u : Int) : FC := ⟨s.toFF.setN z k t l u, fset s.nP z none, fset s.nC z 0, fset s.kP z none, fset s.kC z 0, s.rP, s.rC⟩
def FC.putC (s : FC) (n : Int) (x : ByteArray) (k : Int) (p : Option Addr) (c : Nat) (p2 : Option Addr) (c2 : Nat) : FC := ⟨s.toFF.putF n x k, fset s.nP n p, fset s.nC n c, fset s.kP n p2, fset s.kC n c2, s.rP, s.rC⟩
abbrev nodeU (k t l u : Int) : encF.U := ⟨k, t, l, 0, ByteArray.empty, u, [], none, 0, [], none, 0⟩
def nodeA (k t l u : Int) : Array Value := #[.int .i64 k, .int .i64 t, .int .i64 l, .int .i64 0, .string ⟨#[]⟩, .slice none 0 0, .slice none 0 0, .int .i64 u]
theorem nodeA_ok (k t l u : Int) : (nodeA k t l u).toList.all one = true ∧ (nodeA k t l u).size = 8 := ⟨rfl, rfl⟩
theorem encF_new (s : FC) (z k t l u : Int) (hz : 0 ≤ z ∧ z < 40) : 0 + 0 + z.toNat * 8 + 8 ≤ 321 ∧ updL (encF s) (0 + 0 + z.toNat * 8) (nodeA k t l u).toList = encF (s.setC z k t l u) :=
  encF.setL s (s.setC z k t l u) z hz _ rfl (fun j hj => by
    have e : encF.un (s.setC z k t l u) z = nodeU k t l u := by
      unfold encF.un FC.setC FF.setN
      simp only [fset_eq]
    rw [e]
    match j, hj with
    | 0, _ => rfl
    | 1, _ => rfl
    | 2, _ => rfl
    | 3, _ => rfl
    | 4, _ => rfl
    | 5, _ => rfl
    | 6, _ => rfl
    | 7, _ => rfl
    | j + 8, h => exact absurd h (by omega)) (fun y hy => by
    unfold encF.un FC.setC FF.setN
    simp only [fset_ne _ _ hy]) rfl
theorem encF_roots (s : FC) : 0 + 320 < 321 ∧ encF s (0 + 320) = .slice s.rP s.roots.length s.rC := ⟨by omega, by unfold encF; rw [if_neg (by omega), if_pos (by omega)]⟩
theorem encF_roots_st (s : FC) (l : List Int) (p : Option Addr) (c n : Nat) (hn : n = l.length) : 0 + 320 < 321 ∧ upd (encF s) (0 + 320) (.slice p n c) = encF { s with roots := l, rP := p, rC := c } := by
  subst hn
  refine ⟨by omega, ?_⟩
  funext i
  unfold upd encF
  by_cases hi : i = 0 + 320
  · rw [if_pos hi, if_neg (by omega), if_pos (by omega)]
  · rw [if_neg hi]
    by_cases c1 : i < 320
    · rw [if_pos c1, if_pos c1]; rfl
    · rw [if_neg c1, if_neg c1, if_neg (by omega), if_neg (by omega)]
theorem node_box (k t l u : Int) : ∀ i, i < 8 → cellsOf (nodeA k t l u) i = encF.cell (nodeU k t l u) i := fun i h => match i, h with
  | 0, _ => rfl
  | 1, _ => rfl
  | 2, _ => rfl
  | 3, _ => rfl
  | 4, _ => rfl
  | 5, _ => rfl
  | 6, _ => rfl
  | 7, _ => rfl
  | j + 8, h => absurd h (by omega)
theorem node_agg (k t l u : Int) : 0 + 8 ≤ 8 ∧ aggOf (encF.cell (nodeU k t l u)) 0 8 = .agg (nodeA k t l u) := ⟨by omega, rfl⟩
def arrF0 : Array Value := ((List.range 321).map (encF FC.void)).toArray
theorem arrF0_size : arrF0.size = 321 := by simp [arrF0]
theorem arrF0_box : ∀ i, i < 321 → cellsOf arrF0 i = encF FC.void i := fun i hi => by simp [cellsOf, arrF0, hi]
def FC.cutC (s : FC) (n : Int) (x : ByteArray) : FC := ⟨s.toFF.cutF n x, fset s.nP n (s.nP n), fset s.nC n (s.nC n), fset s.kP n (s.kP n), fset s.kC n (s.kC n), s.rP, s.rC⟩
theorem FF.cntN_next (s : FF) {i : Int} (h : 0 ≤ i) : s.cntN (i + 1).toNat = s.cntN i.toNat + (if 0 < s.kind i then 1 else 0) := by
  rw [show (i + 1).toNat = i.toNat + 1 by omega]
  conv => lhs; unfold FF.cntN
  rw [show ((i.toNat : Nat) : Int) = i by omega]
theorem links_of {t : FC} {X : FF} (h : t.toFF = X) (z v : Int) : ({ t with links := fset t.links z v } : FC).toFF = { X with links := fset X.links z v } := by rw [← h]
theorem held_of {t : FC} {X : FF} (h : t.toFF = X) (z v : Int) : ({ t with held := fset t.held z v } : FC).toFF = { X with held := fset X.held z v } := by rw [← h]
theorem up_of {t : FC} {X : FF} (h : t.toFF = X) (z v : Int) : ({ t with up := fset t.up z v } : FC).toFF = { X with up := fset X.up z v } := by rw [← h]
theorem XM.famVoidR {W w : World} {S : Nat → Nat → Prop} {H : List Ent} (r : Nat → RowD) (e : TypeId) (hr : ∀ i, r i = ⟨.slice none 0 0, e, 1, 0, []⟩) (h : XM W S H w) : XM W S (.fam fam40 r :: H) w := by
  have hr0 : w.ownsRow 0 e 1 (.slice none 0 0) 0 [] := (h.nilRow e 1).good.1 (.row (.slice none 0 0) e 1 0 []) (by simp)
  refine ⟨⟨fun x hx => ?_, List.pairwise_cons.2 ⟨fun x hx _ b o h1 h2 => ?_, h.good.2⟩⟩, h.keep, fun x hx hw b o hb => ?_⟩
  · rcases List.mem_cons.1 hx with rfl | hx
    · exact ⟨fun i _ => by rw [hr]; exact hr0, fun i j b _ _ _ h1 _ => by rw [hr] at h1; cases h1⟩
    · exact h.good.1 x hx
  · obtain ⟨i, _, hb⟩ := h1; rw [hr] at hb; cases hb
  · rcases List.mem_cons.1 hx with rfl | hx
    · obtain ⟨i, _, hb⟩ := hb; rw [hr] at hb; cases hb
    · exact h.mine x hx hw b o hb
theorem XM.newForest {W w : World} {S : Nat → Nat → Prop} {H : List Ent} (h : XM W S H w) : XM W S (.fam fam40 (FC.void.rowsN 9) :: .fam fam40 (FC.void.rowsK 3) :: irow none 0 3 [] :: H) w :=
  XM.famVoidR _ 9 (fun _ => rfl) (XM.famVoidR _ 3 (fun _ => rfl) (h.nilRow 3 1))
/-! ### what is told of a node -/
structure NV where
  kind : Int
  links : Int
  held : Int
  size : Int
def NV.arr (x : NV) : Array Value := #[.int .i64 x.kind, .int .i64 x.links, .int .i64 x.held, .int .i64 x.size]
def NV.zero : NV := ⟨0, 0, 0, 0⟩
def encNV (x : NV) (i : Nat) : Value := if i = 0 then .int .i64 x.kind else if i = 1 then .int .i64 x.links else if i = 2 then .int .i64 x.held else if i = 3 then .int .i64 x.size else undef
theorem encNV_box (x : NV) : ∀ i, i < 4 → cellsOf x.arr i = encNV x i := fun i h => match i, h with
  | 0, _ => rfl
  | 1, _ => rfl
  | 2, _ => rfl
  | 3, _ => rfl
  | j + 4, h => absurd h (by omega)
theorem encNV_agg (x : NV) : 0 + 4 ≤ 4 ∧ aggOf (encNV x) 0 4 = .agg x.arr := ⟨by omega, rfl⟩
theorem encNV_st (y x : NV) : 0 + 4 ≤ 4 ∧ updL (encNV y) 0 x.arr.toList = encNV x := by
  refine ⟨by omega, ?_⟩
  funext i
  match i with
  | 0 => rfl
  | 1 => rfl
  | 2 => rfl
  | 3 => rfl
  | k + 4 => simp [updL, upd, NV.arr, encNV]
theorem encNV_kind (x : NV) : 0 + 0 < 4 ∧ encNV x (0 + 0) = .int .i64 x.kind := ⟨by omega, rfl⟩
theorem encNV_links (x : NV) : 0 + 1 < 4 ∧ encNV x (0 + 1) = .int .i64 x.links := ⟨by omega, rfl⟩
theorem encNV_held (x : NV) : 0 + 2 < 4 ∧ encNV x (0 + 2) = .int .i64 x.held := ⟨by omega, rfl⟩
theorem encNV_size (x : NV) : 0 + 3 < 4 ∧ encNV x (0 + 3) = .int .i64 x.size := ⟨by omega, rfl⟩
def FF.ofV (s : FF) (n : Int) : NV := if s.isE n 0 = 0 then ⟨s.kind n, s.links n, s.held n, max ((s.data n).size : Int) ((s.kids n).length : Int)⟩ else NV.zero
/-- a whole node -/
def nodeV (u : encF.U) : Array Value := #[.int .i64 u.kind, .int .i64 u.tree, .int .i64 u.links, .int .i64 u.held, .string u.data, .slice u.nP u.names.length u.nC, .slice u.kP u.kids.length u.kC, .int .i64 u.up]
theorem encF_node (s : FC) (z : Int) (h : 0 ≤ z ∧ z < 40) : 0 + 0 + z.toNat * 8 + 8 ≤ 321 ∧ aggOf (encF s) (0 + 0 + z.toNat * 8) 8 = .agg (nodeV (encF.un s z)) := by
  refine ⟨by omega, ?_⟩
  have q := encF.at_ s z h
  simp only [aggOf, List.range, List.range.loop, List.map_cons, List.map_nil]
  rw [q 0 (by omega), q 1 (by omega), q 2 (by omega), q 3 (by omega), q 4 (by omega), q 5 (by omega), q 6 (by omega), q 7 (by omega)]
  rfl
theorem nodeV_st (u0 u : encF.U) : 0 + 8 ≤ 8 ∧ updL (encF.cell u0) 0 (nodeV u).toList = encF.cell u := by
  refine ⟨by omega, ?_⟩
  funext i
  match i with
  | 0 => rfl
  | 1 => rfl
  | 2 => rfl
  | 3 => rfl
  | 4 => rfl
  | 5 => rfl
  | 6 => rfl
  | 7 => rfl
  | k + 8 =>
    have e1 : ∀ u : encF.U, encF.cell u (k + 8) = undef := fun u => by unfold encF.cell; iterate 8 rw [if_neg (by omega)]
    have e2 : updL (encF.cell u0) 0 (nodeV u).toList (k + 8) = encF.cell u0 (k + 8) := by simp [updL, upd, nodeV]
    rw [e2, e1, e1]
theorem nodeV_0 (u : encF.U) : 0 + 0 < 8 ∧ encF.cell u (0 + 0) = .int .i64 u.kind := ⟨by omega, rfl⟩
theorem nodeV_2 (u : encF.U) : 0 + 2 < 8 ∧ encF.cell u (0 + 2) = .int .i64 u.links := ⟨by omega, rfl⟩
theorem nodeV_3 (u : encF.U) : 0 + 3 < 8 ∧ encF.cell u (0 + 3) = .int .i64 u.held := ⟨by omega, rfl⟩
theorem nodeV_4 (u : encF.U) : 0 + 4 < 8 ∧ encF.cell u (0 + 4) = .string u.data := ⟨by omega, rfl⟩
theorem nodeV_6 (u : encF.U) : 0 + 6 < 8 ∧ encF.cell u (0 + 6) = .slice u.kP u.kids.length u.kC := ⟨by omega, rfl⟩
/-! ### bytes written -/
theorem ba_get (l : List UInt8) (i : Nat) (h : i < (ByteArray.mk l.toArray).size) (h2 : i < l.length) : (ByteArray.mk l.toArray)[i]'h = l[i]'h2 := rfl
theorem wrB_at (d : ByteArray) (a : Nat) (x : ByteArray) (i : Nat) (h : i < (wrB d a x).size) : (wrB d a x)[i] = if a ≤ i ∧ i < a + x.size then x.get! (i - a) else if i < d.size then d.get! i else 0 := by
  have hs := FF.wrB_size d a x
  refine (ba_get _ i h (by rw [List.length_map, List.length_range]; omega)).trans ?_
  rw [List.getElem_map, List.getElem_range]
theorem get_bv {x : ByteArray} {j : Nat} (h : j < x.size) : (x.data.toList.map bv)[j]? = some (bv (x.get! j)) := by
  rw [List.getElem?_map]
  have h2 : j < x.data.toList.length := by rw [Array.length_toList]; exact h
  rw [List.getElem?_eq_getElem h2]
  show some (bv (x.data.toList[j])) = some (bv (x.data[j]!))
  rw [Array.getElem_toList, getElem!_pos x.data j h]
theorem bv_len (x : ByteArray) : (x.data.toList.map bv).length = x.size := by rw [List.length_map, Array.length_toList]; rfl
theorem wr_cells (d : ByteArray) (a : Nat) (x : ByteArray) (i : Nat) (h : i < (wrB d a x).size) : updL (updL (fun _ => bv 0) 0 (d.data.toList.map bv)) a (x.data.toList.map bv) i = bv (wrB d a x)[i] := by
  rw [wrB_at]
  by_cases c1 : i < a
  · rw [updL_lt' _ _ _ _ c1, if_neg (by omega)]
    by_cases c2 : i < d.size
    · rw [if_pos c2]
      have := updL_at' (d.data.toList.map bv) (fun _ => bv 0) 0 i _ (get_bv c2)
      rwa [Nat.zero_add] at this
    · rw [if_neg c2, updL_ge' _ _ _ _ (by rw [bv_len]; omega)]
  · by_cases c3 : i < a + x.size
    · rw [if_pos ⟨by omega, c3⟩]
      have := updL_at' (x.data.toList.map bv) (updL (fun _ => bv 0) 0 (d.data.toList.map bv)) a (i - a) _ (get_bv (x := x) (j := i - a) (by omega))
      rwa [show a + (i - a) = i by omega] at this
    · rw [if_neg (by omega), updL_ge' _ _ _ _ (by rw [bv_len]; omega)]
      by_cases c2 : i < d.size
      · rw [if_pos c2]
        have := updL_at' (d.data.toList.map bv) (fun _ => bv 0) 0 i _ (get_bv c2)
        rwa [Nat.zero_add] at this
      · rw [if_neg c2, updL_ge' _ _ _ _ (by rw [bv_len]; omega)]

end Go.X
