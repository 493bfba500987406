import Derived.Test.YtpnddggohipdnaaDoorVM
import Derived.Test.YtpnddggohipdnaaDoorBT
namespace Go.X
open Go

def zKl (b : Nat) : List Value := ptr b 0 0 :: (List.replicate 512 (Value.int .u8 0) ++ List.replicate 64 (Value.int .i64 0))
def VB.init : VB := ⟨BB.init, fun _ _ => 0, fun _ => 0⟩
theorem VB.Ok.init : VB.init.Ok := ⟨BB.Inv.init, fun _ => by simp [VB.init], fun _ _ => by simp [VB.init]⟩
theorem zK_box (b : Nat) : ∀ i, i < 577 → cellsOf (zKl b).toArray i = encK b VB.init.by_ VB.init.rf i := fun i hi => by
  unfold cellsOf zKl encK
  rw [Array.getD_eq_getD_getElem?, List.getElem?_toArray]
  by_cases h0 : i = 0
  · subst h0; rfl
  · rw [if_neg h0, show i = (i - 1) + 1 from by omega, List.getElem?_cons_succ]
    by_cases h1 : i - 1 < 512
    · rw [List.getElem?_append_left (by rw [List.length_replicate]; exact h1), List.getElem?_replicate, if_pos h1]
      rw [if_pos (by omega)]; rfl
    · rw [List.getElem?_append_right (by rw [List.length_replicate]; omega), List.length_replicate, List.getElem?_replicate, if_pos (by omega)]
      rw [if_neg (by omega), if_pos (by omega)]; rfl
def zNl (b : Nat) : List Value := ptr b 0 0 :: .slice none 0 0 :: (List.replicate 16 [Value.int .i64 0, Value.bool false]).flatten
theorem zN_box (b : Nat) : ∀ i, i < 34 → cellsOf (zNl b).toArray i = encN b none 0 0 (fun _ => 1) (fun _ => false) i := fun i hi => by
  unfold cellsOf zNl encN
  rw [Array.getD_eq_getD_getElem?, List.getElem?_toArray]
  by_cases h0 : i = 0
  · subst h0; rfl
  · rw [if_neg h0]
    by_cases h1 : i = 1
    · subst h1; rfl
    · rw [if_neg h1]
      have h : ∀ k, k < 32 → ((List.replicate 16 [Value.int .i64 0, Value.bool false]).flatten)[k]? = some (if k % 2 = 0 then Value.int .i64 0 else .bool false) := fun k hk => match k, hk with
        | 0, _ => rfl
        | 1, _ => rfl
        | 2, _ => rfl
        | 3, _ => rfl
        | 4, _ => rfl
        | 5, _ => rfl
        | 6, _ => rfl
        | 7, _ => rfl
        | 8, _ => rfl
        | 9, _ => rfl
        | 10, _ => rfl
        | 11, _ => rfl
        | 12, _ => rfl
        | 13, _ => rfl
        | 14, _ => rfl
        | 15, _ => rfl
        | 16, _ => rfl
        | 17, _ => rfl
        | 18, _ => rfl
        | 19, _ => rfl
        | 20, _ => rfl
        | 21, _ => rfl
        | 22, _ => rfl
        | 23, _ => rfl
        | 24, _ => rfl
        | 25, _ => rfl
        | 26, _ => rfl
        | 27, _ => rfl
        | 28, _ => rfl
        | 29, _ => rfl
        | 30, _ => rfl
        | 31, _ => rfl
        | k + 32, h => absurd h (by omega)
      rw [show i = (i - 2) + 1 + 1 from by omega, List.getElem?_cons_succ, List.getElem?_cons_succ, h _ (by omega)]
      by_cases h2 : (i - 2) % 2 = 0
      · rw [if_pos h2, if_pos (by omega)]; rfl
      · rw [if_neg h2, if_neg (by omega), if_pos (by omega)]; rfl
theorem encN_congr {kb : Nat} {p : Option Addr} {n c : Nat} {f f' : Int → Int} {o o' : Int → Bool} (h : ∀ i : Int, 0 ≤ i → i < 16 → f i = f' i ∧ o i = o' i) : encN kb p n c f o = encN kb p n c f' o' := by
  funext j
  unfold encN
  refine ite_both (fun _ => rfl) (fun _ => ite_both (fun _ => rfl) (fun _ => ite_both (fun d => ?_) (fun _ => ite_both (fun d => ?_) (fun _ => rfl))))
  · have := (h (((j - 2) / 2 : Nat) : Int) (by omega) (by omega)).1
    simp only [this]
  · have := (h (((j - 3) / 2 : Nat) : Int) (by omega) (by omega)).2
    simp only [this]
def frI (i : Int) : Int → Int := fun j => if 0 ≤ j ∧ j < i then 0 else 1
theorem frI_next {i : Int} (h : 0 ≤ i) : fset (frI i) i (-1 + 1) = frI (i + 1) := by
  funext j
  unfold fset frI
  by_cases c : j = i
  · rw [if_pos c, if_pos (by omega)]; rfl
  · rw [if_neg c]
    by_cases d : 0 ≤ j ∧ j < i
    · rw [if_pos d, if_pos (by omega)]
    · rw [if_neg d, if_neg (by omega)]
theorem runs_nil : runs MS.nil.is_ = [] := by decide +kernel
theorem VB.take_ok {v : VB} (h : (v.bb.take 0).2.1 = 0) : v.take = ((v.bb.take 0).1, 0, ⟨(v.bb.take 0).2.2, brow v.by_ (v.bb.take 0).1 (fun _ => 0), fset v.rf (v.bb.take 0).1 1⟩) := by unfold VB.take; rw [if_neg (by simp [h])]
theorem VB.take_no {v : VB} (h : ¬ (v.bb.take 0).2.1 = 0) : v.take = (0, (v.bb.take 0).2.1, v) := by unfold VB.take; rw [if_pos h]
theorem VB.take_rng {v : VB} (hv : v.Ok) (h : v.take.2.1 = 0) : 0 ≤ v.take.1 ∧ v.take.1 < 64 := by
  by_cases c : (v.bb.take 0).2.1 = 0
  · rw [VB.take_ok c]; exact (hv.bb.take_win c).2.1
  · rw [VB.take_no c] at h; exact absurd h c
theorem VB.Ok.take {v : VB} (hv : v.Ok) : v.take.2.2.Ok := by
  by_cases c : (v.bb.take 0).2.1 = 0
  · rw [VB.take_ok c]
    refine ⟨hv.bb.take 0, fun f => ?_, fun f j => ?_⟩
    · show 0 ≤ fset v.rf _ 1 f ∧ fset v.rf _ 1 f ≤ 100000
      unfold fset; split
      · omega
      · exact hv.rf f
    · show 0 ≤ brow v.by_ (v.bb.take 0).1 (fun _ => 0) f j ∧ brow v.by_ (v.bb.take 0).1 (fun _ => 0) f j < 256
      unfold brow; split
      · simp
      · exact hv.by_ f j
  · rw [VB.take_no c]; exact hv
theorem VB.take_nn (v : VB) : 0 ≤ v.take.2.1 := by
  unfold VB.take; split
  · exact BB.take_nn _ _
  · exact Int.le_refl _
theorem VB.Ok.drop {v : VB} (hv : v.Ok) {f : Int} (h : 1 ≤ v.rf f) : (v.drop f).Ok := by
  have hr : ∀ g, 0 ≤ fset v.rf f (v.rf f - 1) g ∧ fset v.rf f (v.rf f - 1) g ≤ 100000 := fun g => by
    unfold fset; split
    · have := hv.rf f; omega
    · exact hv.rf g
  unfold VB.drop; split
  · exact ⟨hv.bb.give f, hr, hv.by_⟩
  · exact ⟨hv.bb, hr, hv.by_⟩
theorem VB.drop_rf (v : VB) (f : Int) : (v.drop f).rf = fset v.rf f (v.rf f - 1) ∧ (v.drop f).by_ = v.by_ := by unfold VB.drop; split <;> exact ⟨rfl, rfl⟩
theorem VB.drop_p {v : VB} {f : Int} (h : v.rf f - 1 = 0) : v.drop f = ⟨(v.bb.give f).2, v.by_, fset v.rf f (v.rf f - 1)⟩ := by unfold VB.drop; rw [if_pos h]
theorem VB.drop_n {v : VB} {f : Int} (h : ¬ v.rf f - 1 = 0) : v.drop f = ⟨v.bb, v.by_, fset v.rf f (v.rf f - 1)⟩ := by unfold VB.drop; rw [if_neg h]
def RG.hasB (r : RG) (i : Int) : Bool := decide (r.fr ≤ i) && decide (i < r.fr + r.n)
theorem RG.hasB_iff (r : RG) (i : Int) : r.hasB i = true ↔ r.has i := by unfold RG.hasB RG.has; simp

def pgA (fr : Int → Int) (own : Int → Bool) : Array Value := ((List.range 32).map fun (j : Nat) => if j % 2 = 0 then Value.int .i64 (fr ((j / 2 : Nat) : Int) - 1) else .bool (own ((j / 2 : Nat) : Int))).toArray
theorem encN_pages (kb : Nat) (p : Option Addr) (n c : Nat) (fr : Int → Int) (own : Int → Bool) : 0 + 2 + 32 ≤ 34 ∧ aggOf (encN kb p n c fr own) (0 + 2) 32 = .agg (pgA fr own) := by
  refine ⟨by omega, ?_⟩
  unfold aggOf pgA
  congr 2
theorem pgA_at {fr : Int → Int} {own : Int → Bool} {z : Int} (h : 0 ≤ z ∧ z < 16) : (pgA fr own).extract (z.toNat * 2) (z.toNat * 2 + 2) = #[.int .i64 (fr z - 1), .bool (own z)] := by
  have hs : (pgA fr own).size = 32 := by simp [pgA]
  apply Array.ext
  · simp [hs]; omega
  · intro i h1 h2
    have h3 : i = 0 ∨ i = 1 := by simp at h2; omega
    rw [Array.getElem_extract]
    rcases h3 with rfl | rfl
    · simp only [pgA, List.getElem_toArray, List.getElem_map, List.getElem_range, Nat.add_zero]
      rw [if_pos (by omega), show ((z.toNat * 2 / 2 : Nat) : Int) = z from by omega]; try rfl
    · simp only [pgA, List.getElem_toArray, List.getElem_map, List.getElem_range]
      rw [if_neg (by omega), show (((z.toNat * 2 + 1) / 2 : Nat) : Int) = z from by omega]; try rfl
theorem newsC_one {l : List RG} : (newsOf (rgC l) (l.length * 3)).all one = true := by
  rw [List.all_eq_true]
  intro v hv
  simp only [newsOf, List.mem_map, List.mem_range] at hv
  obtain ⟨j, hj, rfl⟩ := hv
  unfold rgC RG.cell
  have : j % 3 = 0 ∨ j % 3 = 1 ∨ j % 3 = 2 := by omega
  rcases this with q | q | q <;> rw [q] <;> rfl
def pgB (f : Int) (w : Bool) (i : Nat) : Value := if i = 0 then .int .i64 f else if i = 1 then .bool w else undef
theorem pgB.f (f : Int) (w : Bool) : 0 + 0 < 2 ∧ pgB f w (0 + 0) = .int .i64 f := ⟨by omega, rfl⟩
theorem pgB.w (f : Int) (w : Bool) : 0 + 1 < 2 ∧ pgB f w (0 + 1) = .bool w := ⟨by omega, rfl⟩
theorem pgB.box (f : Int) (w : Bool) : ∀ i, i < 2 → cellsOf #[.int .i64 f, .bool w] i = pgB f w i := fun i h => by
  match i, h with
  | 0, _ => rfl
  | 1, _ => rfl
  | k + 2, h => omega
theorem pgB.st (f g : Int) (w u : Bool) : 0 + 2 ≤ 2 ∧ updL (pgB g u) 0 [.int .i64 f, .bool w] = pgB f w := ⟨by omega, by
  funext i
  match i with
  | 0 => rfl
  | 1 => rfl
  | k + 2 => simp [updL, upd, pgB]⟩
theorem rat_len {l : List RG} {f : Int → Int} (h : RunsOk l f 16) {z : Int} (hz : 0 ≤ z ∧ z < l.length) : 0 ≤ (rat l z).fr ∧ 0 < (rat l z).n ∧ (rat l z).fr + (rat l z).n ≤ 16 := h.b _ (rat_mem hz)
theorem sorted_rb {l : List RG} (h : GL l) : ∀ r ∈ l, 0 ≤ r.fr ∧ r.fr ≤ 16 := fun r hr => by have := h.b r hr; omega

section
variable {P : Program} {n : Fr} {Q : Exit → Act → World → Prop} {L : PF} {ops : Md} {rest : List Oper} {ty : TypeId} {pos : String} {af : Array Edge} {d : Nat} {W : World} {S : Nat → Nat → Prop} {H H' : List Ent}
theorem XO.appendRG {t e : TypeId} {x y : Operand} {p : Option Addr} {cap c b : Nat} {acc : List RG} {r : RG} (hx : ev L x = some (.slice p acc.length cap)) (hy : ev L y = some (.slice (some ⟨b, 0, none⟩) 1 c))
    (ht : P.underlying t = some (.slice e)) (hr : rowT P e 3 = true) (hH : Del H (frow p cap e 3 acc.length (rgC acc)) H') (hN : Has H (.cells b 0 3 (cellsOf r.arr))) (hk : acc.length + 1 ≤ 100000000000) (hd : Nat.blt d n.sz = true)
    (h : ∀ p' cap', XO P n ops Q rest ((d, .slice p' (acc ++ [r]).length cap') :: L) (XM W S (frow p' cap' e 3 (acc ++ [r]).length (rgC (acc ++ [r])) :: H'))) :
    XO P n ops Q (⟨some d, .call ⟨.builtin .append, #[x, y], #[t, t]⟩, ty, pos, af, none⟩ :: rest) L (XM W S H) :=
  XO.appendF (C2 := rgC (acc ++ [r])) hx hy ht hr hH hN rfl rfl (by omega) hk (rgC.app acc r _ (fun i hi => by
    match i, hi with
    | 0, _ => rfl
    | 1, _ => rfl
    | 2, _ => rfl
    | k + 3, hi => omega)) hd (fun p' cap' => by
    have e1 : acc.length + 1 = (acc ++ [r]).length := by simp
    rw [e1]
    exact h p' cap')
end
theorem rgC.agg2 {l : List RG} {m : Nat} (hm : m = l.length) {z : Int} (h : 0 ≤ z ∧ z < m) : 0 + z.toNat * 3 + 3 ≤ m * 3 ∧ aggOf (rgC l) (0 + z.toNat * 3) 3 = .agg (rat l z).arr := by
  subst hm; exact rgC.agg h
theorem cvR_len (a n : Int) (r : RG) : (cvR a n r).length ≤ 2 := by
  unfold cvR
  split
  · simp
  · rw [List.length_append]; split <;> split <;> simp
theorem mg_snoc (l : List RG) (r : RG) : mg (l ++ [r]) = mgS (mg l) r := by unfold mg; rw [List.foldl_append]; rfl
theorem mg_len : ∀ (k : Nat) (l : List RG), l.length = k → (mg l).length ≤ k
  | 0, l, h => by rw [List.length_eq_zero_iff] at h; subst h; simp [mg]
  | k + 1, l, h => by
    obtain ⟨l', x, rfl⟩ := snoc_of (l := l) (by omega)
    rw [mg_snoc]
    have h1 := mgS_len (mg l') x
    have h2 := mg_len k l' (by simp at h; exact h)
    omega
theorem mg_b : ∀ (k : Nat) (l : List RG), l.length = k → (∀ r ∈ l, 0 ≤ r.fr ∧ 0 < r.n ∧ r.fr + r.n ≤ 16) → ∀ r ∈ mg l, 0 ≤ r.fr ∧ 0 < r.n ∧ r.fr + r.n ≤ 16
  | 0, l, h, _ => by rw [List.length_eq_zero_iff] at h; subst h; intro r hr; simp [mg] at hr
  | k + 1, l, h, hb => by
    obtain ⟨l', x, rfl⟩ := snoc_of (l := l) (by omega)
    have ih := mg_b k l' (by simp at h; exact h) (fun r hr => hb r (by simp [hr]))
    have hx := hb x (by simp)
    rw [mg_snoc]
    intro r hr
    rcases Nat.eq_zero_or_pos (mg l').length with q | q
    · rw [List.length_eq_zero_iff] at q; rw [q, mgS_nil] at hr
      simp only [List.mem_singleton] at hr; subst hr; exact hx
    · obtain ⟨m', y, hy⟩ := snoc_of q
      rw [hy, mgS_snoc] at hr
      rw [hy] at ih
      have hyb := ih y (by simp)
      split at hr
      · rename_i c
        rcases List.mem_append.1 hr with hr | hr
        · exact ih r (by simp [hr])
        · simp only [List.mem_singleton] at hr; subst hr; simp; omega
      · simp only [List.mem_append, List.mem_cons, List.not_mem_nil, or_false] at hr
        rcases hr with hr | rfl | rfl
        · exact ih r (by simp [hr])
        · exact hyb
        · exact hx
theorem take_snoc {l : List RG} {i : Int} (h : 0 ≤ i ∧ i < l.length) : l.take (i + 1).toNat = l.take i.toNat ++ [rat l i] := by
  rw [show (i + 1).toNat = i.toNat + 1 from by omega, List.take_add_one, rat_get h]; rfl
theorem flat_take {β : Type} (f : RG → List β) {l : List RG} {i : Int} (h : 0 ≤ i ∧ i < l.length) : (l.take (i + 1).toNat).flatMap f = (l.take i.toNat).flatMap f ++ f (rat l i) := by
  rw [take_snoc h]; simp
theorem cvR_in {a n : Int} {r : RG} (h : ¬ min (r.fr + r.n) (a + n) ≤ max r.fr a) : cvR a n r = (if r.fr < max r.fr a then [⟨r.fr, max r.fr a - r.fr, r.w⟩] else []) ++ (if min (r.fr + r.n) (a + n) < r.fr + r.n then [⟨min (r.fr + r.n) (a + n), r.fr + r.n - min (r.fr + r.n) (a + n), r.w⟩] else []) := by unfold cvR; rw [if_neg h]
theorem cvR_out {a n : Int} {r : RG} (h : min (r.fr + r.n) (a + n) ≤ max r.fr a) : cvR a n r = [r] ∧ cvH a n r = [] := by
  unfold cvR cvH; rw [if_pos h, show (min (r.fr + r.n) (a + n) - max r.fr a).toNat = 0 from by omega]; exact ⟨rfl, rfl⟩
theorem intsF_snoc (a : Int) {k : Int} (h : 0 ≤ k) : intsF a (k + 1).toNat = intsF a k.toNat ++ [a + k] := by
  rw [show (k + 1).toNat = k.toNat + 1 from by omega, intsF, show ((k.toNat : Nat) : Int) = k from by omega]

/-! pages given back, one behind the other -/
theorem unL_snoc (v : VB) (fr : Int → Int) (l : List Int) (i : Int) : unL v fr (l ++ [i]) = unS fr (unL v fr l) i := by unfold unL; rw [List.foldl_append]; rfl
theorem ints_snoc {l : List Int} (h : 0 < l.length) : ∃ l' i, l = l' ++ [i] := ⟨l.dropLast, l.getLast (by intro e; rw [e] at h; simp at h), (List.dropLast_concat_getLast _).symm⟩
theorem unL_ok {v : VB} {m : MS} (hv : v.Ok) (hm : m.Ok) (hi : m.In v) : ∀ (k : Nat) (l : List Int), l.length = k → l.Nodup → (unL v m.fr l).2.Ok ∧ (0 ≤ (unL v m.fr l).1 ∧ (unL v m.fr l).1 ≤ k) ∧ ∀ g, (∀ i ∈ l, m.fr i ≠ g + 1) → (unL v m.fr l).2.rf g = v.rf g
  | 0, l, h, _ => by rw [List.length_eq_zero_iff] at h; subst h; exact ⟨hv, by simp [unL], fun _ _ => rfl⟩
  | k + 1, l, h, hn => by
    obtain ⟨l', i, rfl⟩ := ints_snoc (l := l) (by omega)
    rw [List.nodup_append] at hn
    obtain ⟨i1, i2, i3⟩ := unL_ok hv hm hi k l' (by simp at h; exact h) hn.1
    rw [unL_snoc]
    unfold unS
    split
    · rename_i c
      have e : (unL v m.fr l').2.rf (m.fr i - 1) = v.rf (m.fr i - 1) := i3 _ (fun j hj q => by
        have := hm.inj i j c (by omega)
        subst this
        exact hn.2.2 i hj i (by simp) rfl)
      refine ⟨i1.drop (by rw [e]; exact hi i c), ⟨by show 0 ≤ (unL v m.fr l').1 + 1; omega, by show (unL v m.fr l').1 + 1 ≤ _; omega⟩, fun g hg => ?_⟩
      show ((unL v m.fr l').2.drop (m.fr i - 1)).rf g = _
      rw [(VB.drop_rf _ _).1, fset_ne _ _ (by have := hg i (by simp); omega)]
      exact i3 g (fun j hj => hg j (by simp [hj]))
    · exact ⟨i1, ⟨i2.1, by omega⟩, fun g hg => i3 g (fun j hj => hg j (by simp [hj]))⟩
def cut0 (f : Int → Int) (l : List Int) : Int → Int := fun i => if i ∈ l then 0 else f i
def cutF (f : Int → Bool) (l : List Int) : Int → Bool := fun i => if i ∈ l then false else f i
theorem cut0_snoc (f : Int → Int) (l : List Int) (i : Int) : cut0 f (l ++ [i]) = fset (cut0 f l) i (-1 + 1) := by
  funext j; unfold cut0 fset
  by_cases h : j = i
  · subst h; simp
  · simp [h]
theorem cutF_snoc (f : Int → Bool) (l : List Int) (i : Int) : cutF f (l ++ [i]) = fset (cutF f l) i false := by
  funext j; unfold cutF fset
  by_cases h : j = i
  · subst h; simp
  · simp [h]
theorem cut0_same {f : Int → Int} {l : List Int} {i : Int} (h : f i = 0) : cut0 f (l ++ [i]) = cut0 f l := by
  funext j; unfold cut0
  by_cases c : j = i
  · subst c; simp [h]
  · simp [c]
theorem cutF_same {f : Int → Bool} {l : List Int} {i : Int} (h : f i = false) : cutF f (l ++ [i]) = cutF f l := by
  funext j; unfold cutF
  by_cases c : j = i
  · subst c; simp [h]
  · simp [c]
theorem itake {l : List Int} {i : Int} (h : 0 ≤ i ∧ i < l.length) : l.take (i + 1).toNat = l.take i.toNat ++ [at0 l i] := by
  rw [show (i + 1).toNat = i.toNat + 1 from by omega, List.take_add_one]
  unfold at0
  rw [List.getD_eq_getElem?_getD, List.getElem?_eq_getElem (by omega)]; rfl
theorem at0_mem {l : List Int} {i : Int} (h : 0 ≤ i ∧ i < l.length) : at0 l i ∈ l := by
  unfold at0
  rw [List.getD_eq_getElem?_getD, List.getElem?_eq_getElem (by omega)]; simp
theorem at0_new {l : List Int} (hs : l.Pairwise (fun x y => x < y)) {i : Int} (h : 0 ≤ i ∧ i < l.length) : at0 l i ∉ l.take i.toNat := by
  intro hm
  obtain ⟨k, hk, e⟩ := List.mem_iff_getElem.1 hm
  simp only [List.length_take] at hk
  rw [List.getElem_take] at e
  have := List.pairwise_iff_getElem.1 hs k i.toNat (by omega) (by omega) (by omega)
  unfold at0 at e
  rw [List.getD_eq_getElem?_getD, List.getElem?_eq_getElem (by omega)] at e
  simp at e
  omega
theorem nodup_lt {l : List Int} (hs : l.Pairwise (fun x y => x < y)) : l.Nodup := hs.imp (fun h e => by omega)
theorem nodup_take {l : List Int} (hs : l.Pairwise (fun x y => x < y)) (k : Nat) : (l.take k).Nodup := (nodup_lt hs).sublist (List.take_sublist _ _)
theorem MS.Ok.unmap {v : VB} {m : MS} (h : m.Ok) (a n : Int) : (m.unmap v a n).2.2.2.Ok := by
  unfold MS.unmap
  split
  · exact h
  · rename_i hb
    refine ⟨h.f.setI hb (.inl rfl), fun i => ?_, fun i hi => ?_, fun i hi => ?_, fun i j hi hij => ?_⟩
    · show 0 ≤ setI m.fr a n 0 i ∧ setI m.fr a n 0 i ≤ 64
      unfold setI; split
      · omega
      · exact h.lo i
    · show setI m.fr a n 0 i = 0
      have hi : setI m.is_ a n 0 i = 0 := hi
      unfold setI at hi ⊢; split
      · rfl
      · rename_i c; rw [if_neg c] at hi; exact h.un i hi
    · show setI m.own a n false i = false
      have hi : setI m.fr a n 0 i = 0 := hi
      unfold setI at hi ⊢; split
      · rfl
      · rename_i c; rw [if_neg c] at hi; exact h.ow i hi
    · have hi : 0 < setI m.fr a n 0 i := hi
      have hij : setI m.fr a n 0 i = setI m.fr a n 0 j := hij
      unfold setI at hi hij
      split at hi
      · omega
      · rename_i c
        rw [if_neg c] at hij
        split at hij
        · omega
        · exact h.inj i j hi hij

end Go.X
