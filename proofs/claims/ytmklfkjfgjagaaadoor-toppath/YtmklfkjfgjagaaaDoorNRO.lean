import Derived.Test.YtmklfkjfgjagaaaDoorNO
namespace Go.X
open Go
/-! ### the cells of the document's forest -/
abbrev nodeMU (k t l u : Int) : encM.U := ⟨k, t, l, 0, u, ByteArray.empty, [], none, 0, [], none, 0⟩
def nodeMA (k t l u : Int) : Array Value := #[.int .i64 k, .int .i64 t, .int .i64 l, .int .i64 0, .int .i64 u, .string ⟨#[]⟩, .slice none 0 0, .slice none 0 0]
theorem encM_new (s : FC) (z k t l u : Int) (hz : 0 ≤ z ∧ z < 40) : 0 + 0 + z.toNat * 8 + 8 ≤ 321 ∧ updL (encM s) (0 + 0 + z.toNat * 8) (nodeMA k t l u).toList = encM (s.setC z k t l u) :=
  encM.setL s (s.setC z k t l u) z hz _ rfl (fun j hj => by
    have e : encM.un (s.setC z k t l u) z = nodeMU k t l u := by
      unfold encM.un FC.setC FF.setN
      simp only [fset_eq]
    rw [e]
    match j, hj with
    | 0, _ => rfl
    | 1, _ => rfl
    | 2, _ => rfl
    | 3, _ => rfl
    | 4, _ => rfl
    | 5, _ => rfl
    | 6, _ => rfl
    | 7, _ => rfl
    | j + 8, h => exact absurd h (by omega)) (fun y hy => by
    unfold encM.un FC.setC FF.setN
    simp only [fset_ne _ _ hy]) rfl
theorem encM_roots (s : FC) : 0 + 320 < 321 ∧ encM s (0 + 320) = .slice s.rP s.roots.length s.rC := ⟨by omega, by unfold encM; rw [if_neg (by omega), if_pos (by omega)]⟩
theorem encM_roots_st (s : FC) (l : List Int) (p : Option Addr) (c n : Nat) (hn : n = l.length) : 0 + 320 < 321 ∧ upd (encM s) (0 + 320) (.slice p n c) = encM { s with roots := l, rP := p, rC := c } := by
  subst hn
  refine ⟨by omega, ?_⟩
  funext i
  unfold upd encM
  by_cases hi : i = 0 + 320
  · rw [if_pos hi, if_neg (by omega), if_pos (by omega)]
  · rw [if_neg hi]
    by_cases c1 : i < 320
    · rw [if_pos c1, if_pos c1]; rfl
    · rw [if_neg c1, if_neg c1, if_neg (by omega), if_neg (by omega)]
theorem nodeM_box (k t l u : Int) : ∀ i, i < 8 → cellsOf (nodeMA k t l u) i = encM.cell (nodeMU k t l u) i := fun i h => match i, h with
  | 0, _ => rfl
  | 1, _ => rfl
  | 2, _ => rfl
  | 3, _ => rfl
  | 4, _ => rfl
  | 5, _ => rfl
  | 6, _ => rfl
  | 7, _ => rfl
  | j + 8, h => absurd h (by omega)
theorem nodeM_agg (k t l u : Int) : 0 + 8 ≤ 8 ∧ aggOf (encM.cell (nodeMU k t l u)) 0 8 = .agg (nodeMA k t l u) := ⟨by omega, rfl⟩
def arrM0 : Array Value := ((List.range 321).map (encM FC.void)).toArray
theorem arrM0_size : arrM0.size = 321 := by simp [arrM0]
theorem arrM0_box : ∀ i, i < 321 → cellsOf arrM0 i = encM FC.void i := fun i hi => by simp [cellsOf, arrM0, hi]
def nodeMV (u : encM.U) : Array Value := #[.int .i64 u.kind, .int .i64 u.tree, .int .i64 u.links, .int .i64 u.held, .int .i64 u.up, .string u.data, .slice u.nP u.names.length u.nC, .slice u.kP u.kids.length u.kC]
theorem encM_node (s : FC) (z : Int) (h : 0 ≤ z ∧ z < 40) : 0 + 0 + z.toNat * 8 + 8 ≤ 321 ∧ aggOf (encM s) (0 + 0 + z.toNat * 8) 8 = .agg (nodeMV (encM.un s z)) := by
  refine ⟨by omega, ?_⟩
  have q := encM.at_ s z h
  simp only [aggOf, List.range, List.range.loop, List.map_cons, List.map_nil]
  rw [q 0 (by omega), q 1 (by omega), q 2 (by omega), q 3 (by omega), q 4 (by omega), q 5 (by omega), q 6 (by omega), q 7 (by omega)]
  rfl
theorem nodeMV_st (u0 u : encM.U) : 0 + 8 ≤ 8 ∧ updL (encM.cell u0) 0 (nodeMV u).toList = encM.cell u := by
  refine ⟨by omega, ?_⟩
  funext i
  match i with
  | 0 => rfl
  | 1 => rfl
  | 2 => rfl
  | 3 => rfl
  | 4 => rfl
  | 5 => rfl
  | 6 => rfl
  | 7 => rfl
  | k + 8 =>
    have e1 : ∀ u : encM.U, encM.cell u (k + 8) = undef := fun u => by unfold encM.cell; iterate 8 rw [if_neg (by omega)]
    have e2 : updL (encM.cell u0) 0 (nodeMV u).toList (k + 8) = encM.cell u0 (k + 8) := by simp [updL, upd, nodeMV]
    rw [e2, e1, e1]
theorem nodeMV_0 (u : encM.U) : 0 + 0 < 8 ∧ encM.cell u (0 + 0) = .int .i64 u.kind := ⟨by omega, rfl⟩
theorem nodeMV_2 (u : encM.U) : 0 + 2 < 8 ∧ encM.cell u (0 + 2) = .int .i64 u.links := ⟨by omega, rfl⟩
theorem nodeMV_3 (u : encM.U) : 0 + 3 < 8 ∧ encM.cell u (0 + 3) = .int .i64 u.held := ⟨by omega, rfl⟩
theorem nodeMV_5 (u : encM.U) : 0 + 5 < 8 ∧ encM.cell u (0 + 5) = .string u.data := ⟨by omega, rfl⟩
theorem nodeMV_6 (u : encM.U) : 0 + 6 < 8 ∧ encM.cell u (0 + 6) = .slice u.nP u.names.length u.nC := ⟨by omega, rfl⟩
def FF.ofR (s : FF) (n : Int) : NV := if s.isE n 0 = 0 then ⟨s.kind n, s.links n, s.held n, if s.kind n = 2 then ((s.names n).length : Int) else ((s.data n).size : Int)⟩ else NV.zero
theorem ints_of_strs {l : List ByteArray} (x : ByteArray) : strs l ++ newsOf (cellsOf #[.string x]) 1 = strs (l ++ [x]) := by simp [strs, newsOf, cellsOf, List.range, List.range.loop]
section
variable {P : Program} {n : Fr} {Q : Exit → Act → World → Prop} {L : PF} {ops : Array Oper} {rest : List Oper} {ty : TypeId} {pos : String} {af : Array Edge} {d : Nat} {W : World} {S : Nat → Nat → Prop} {H H' : List Ent}
theorem XO.appendS {t e : TypeId} {x y : Operand} {p : Option Addr} {cap c b : Nat} {zs : List ByteArray} {z : ByteArray} (hx : ev L x = some (.slice p zs.length cap)) (hy : ev L y = some (.slice (some ⟨b, 0, none⟩) 1 c))
    (ht : P.underlying t = some (.slice e)) (hr : rowT P e 1 = true) (hH : Del H (srow p cap e zs) H') (hN : Has H (.cells b 0 1 (cellsOf #[.string z]))) (hk : zs.length + 1 ≤ 100000000000) (hd : Nat.blt d n.sz = true)
    (h : ∀ p' cap', XO P n ops Q rest ((d, .slice p' (zs ++ [z]).length cap') :: L) (XM W S (srow p' cap' e (zs ++ [z]) :: H'))) :
    XO P n ops Q (⟨some d, .call ⟨.builtin .append, #[x, y], #[t, t]⟩, ty, pos, af, none⟩ :: rest) L (XM W S H) :=
  XO.append hx hy ht hr hH hN rfl rfl (by omega) hk hd (fun p' cap' => by
    have e1 : zs.length + 1 = (zs ++ [z]).length := by simp
    rw [e1, ints_of_strs]
    exact h p' cap')
end
/-! ### bytes with noughts behind -/
def padB (d : ByteArray) : Nat → ByteArray
  | 0 => d
  | k + 1 => padB d k ++ ⟨#[0]⟩
theorem padB_size (d : ByteArray) : ∀ k, (padB d k).size = d.size + k
  | 0 => rfl
  | k + 1 => by unfold padB; rw [ByteArray.size_append, padB_size d k]; rfl
theorem get_at {x : ByteArray} {i : Nat} (h : i < x.size) : x.get! i = x[i] := by
  show x.data[i]! = x.data[i]
  exact getElem!_pos x.data i h
theorem padB_at (d : ByteArray) : ∀ (k i : Nat) (h : i < (padB d k).size), (padB d k)[i] = if i < d.size then d.get! i else 0
  | 0, i, h => by
    have h2 : i < d.size := h
    rw [if_pos h2, get_at h2]; rfl
  | k + 1, i, h => by
    have h2 := padB_size d k
    have h3 := padB_size d (k + 1)
    by_cases c : i < (padB d k).size
    · have e := ByteArray.getElem_append_left (a := padB d k) (b := ⟨#[0]⟩) (h := h) c
      show (padB d k ++ ⟨#[0]⟩)[i] = _
      rw [e, padB_at d k i c]
    · have e := ByteArray.getElem_append_right (a := padB d k) (b := ⟨#[0]⟩) (h := h) (by omega)
      show (padB d k ++ ⟨#[0]⟩)[i] = _
      rw [e, if_neg (by omega)]
      have : i - (padB d k).size = 0 := by omega
      simp only [this]
      rfl
theorem one0 : (⟨#[0]⟩ : ByteArray).size ≤ 1 ∧ ∀ (i : Nat) (h : i < (⟨#[0]⟩ : ByteArray).size), cellsOf #[.int .u8 0] i = bv (⟨#[0]⟩ : ByteArray)[i] := ⟨Nat.le_refl _, fun i h => by
  have h2 : i < 1 := h
  obtain rfl : i = 0 := by omega
  rfl⟩
theorem wr_ref2 (d x : ByteArray) (a j : Nat) (h1 : a ≤ d.size + j) (h2 : j = 0 ∨ d.size + j ≤ a) (h3 : 0 < x.size) (h4 : d.size + j ≤ a + x.size) : (padB d j).extract 0 a ++ x ++ ⟨#[]⟩ = wrB d a x := by
  have hp := padB_size d j
  have hw := FF.wrB_size d a x
  have he : ((padB d j).extract 0 a).size = a := by rw [ByteArray.size_extract]; omega
  rw [append_nil]
  refine ByteArray.ext_getElem (by rw [ByteArray.size_append, he, hw]; omega) (fun i hi hi2 => ?_)
  rw [wrB_at]
  by_cases c : i < a
  · rw [ByteArray.getElem_append_left (by rw [he]; exact c), ByteArray.getElem_extract, if_neg (by omega)]
    have := padB_at d j (0 + i) (by omega)
    rw [this]
    simp only [Nat.zero_add]
  · rw [ByteArray.size_append, he] at hi
    rw [ByteArray.getElem_append_right (by rw [he]; omega), if_pos (by omega), get_at (by omega)]
    simp only [he]
theorem wr_ref1 (d x : ByteArray) (a j : Nat) (z : Int) (hz : z.toNat = a + x.size) (h1 : a ≤ d.size + j) (h2 : j = 0 ∨ d.size + j ≤ a) (h4 : a + x.size < d.size + j) : (padB d j).extract 0 a ++ x ++ (padB d j).extract z.toNat (padB d j).size = wrB d a x := by
  have hj : j = 0 := by omega
  subst hj
  show d.extract 0 a ++ x ++ d.extract z.toNat d.size = wrB d a x
  rw [hz]
  have hw := FF.wrB_size d a x
  have he : (d.extract 0 a).size = a := by rw [ByteArray.size_extract]; omega
  have hex : (d.extract 0 a ++ x).size = a + x.size := by rw [ByteArray.size_append, he]
  have her : (d.extract (a + x.size) d.size).size = d.size - (a + x.size) := by rw [ByteArray.size_extract]; omega
  refine ByteArray.ext_getElem (by rw [ByteArray.size_append, hex, her, hw]; omega) (fun i hi hi2 => ?_)
  rw [wrB_at]
  rw [ByteArray.size_append, hex, her] at hi
  by_cases c : i < a + x.size
  · rw [ByteArray.getElem_append_left (by rw [hex]; exact c)]
    by_cases c2 : i < a
    · rw [ByteArray.getElem_append_left (by rw [he]; exact c2), ByteArray.getElem_extract, if_neg (by omega), if_pos (by omega), get_at (by omega)]
      simp only [Nat.zero_add]
    · rw [ByteArray.getElem_append_right (by rw [he]; omega), if_pos (by omega), get_at (by omega)]
      simp only [he]
  · rw [ByteArray.getElem_append_right (by rw [hex]; omega), ByteArray.getElem_extract, if_neg (by omega), if_pos (by omega), get_at (by omega)]
    simp only [hex, show a + x.size + (i - (a + x.size)) = i by omega]

end Go.X
