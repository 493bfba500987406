import Derived.Test.YtpnddggohipdnaaDoorVN
namespace Go.X
open Go
/-! ### vm: what the acts answer -/
theorem MS.mapE_1 {m : MS} {a n : Int} (h : badS a n) : m.mapE a n = 1 := by unfold MS.mapE; rw [if_pos h]
theorem MS.mapE_3 {m : MS} {a n i : Int} (hb : ¬ badS a n) (hi : a ≤ i ∧ i < a + n) (h : m.is_ i ≠ 0) : m.mapE a n = 3 := by
  unfold MS.mapE
  rw [if_neg hb, if_pos (anyF_true (i := i) hi.1 (by unfold badS at hb; omega) (by simp [h]))]
theorem MS.mapE_0 {m : MS} {a n : Int} (hb : ¬ badS a n) (h : ∀ j, a ≤ j → j < a + n → m.is_ j = 0) : m.mapE a n = 0 := by
  unfold MS.mapE
  rw [if_neg hb, anyF_false (fun j h1 h2 => by simp [h j h1 (by unfold badS at hb; omega)])]; rfl
theorem MS.protE_1 {m : MS} {a n : Int} (h : badS a n) : m.protE a n = 1 := by unfold MS.protE; rw [if_pos h]
theorem MS.protE_10 {m : MS} {a n i : Int} (hb : ¬ badS a n) (hi : a ≤ i ∧ i < a + n) (h : m.is_ i = 0) : m.protE a n = 10 := by
  unfold MS.protE
  rw [if_neg hb, if_pos (anyF_true (i := i) hi.1 (by unfold badS at hb; omega) (by simp [h]))]
theorem MS.protE_0 {m : MS} {a n : Int} (hb : ¬ badS a n) (h : ∀ j, a ≤ j → j < a + n → m.is_ j ≠ 0) : m.protE a n = 0 := by
  unfold MS.protE
  rw [if_neg hb, anyF_false (fun j h1 h2 => by simp [h j h1 (by unfold badS at hb; omega)])]; rfl
theorem MS.map_no {m : MS} {a n : Int} {w : Bool} (h : m.mapE a n ≠ 0) : m.map a n w = m := by unfold MS.map; rw [if_neg h]
theorem MS.map_yes {m : MS} {a n : Int} {w : Bool} (h : m.mapE a n = 0) : m.map a n w = m.lay a n w := by unfold MS.map; rw [if_pos h]
theorem MS.prot_no {m : MS} {a n : Int} {w : Bool} (h : m.protE a n ≠ 0) : m.prot a n w = m := by unfold MS.prot; rw [if_neg h]
theorem MS.prot_yes {m : MS} {a n : Int} {w : Bool} (h : m.protE a n = 0) : m.prot a n w = m.lay a n w := by unfold MS.prot; rw [if_pos h]
theorem free_out {l : List RG} {f : Int → Int} {a n : Int} (hl : RunsOk l f 16) (hn : 0 < n) (h : ∀ j, a ≤ j → j < a + n → f j = 0) : ∀ r ∈ l, r.fr + r.n ≤ a ∨ a + n ≤ r.fr := fun r hr => by
  have hb := hl.b r hr
  by_cases c : r.fr + r.n ≤ a ∨ a + n ≤ r.fr
  · exact c
  · have := hl.h1 r hr (max r.fr a) ⟨by omega, by omega⟩
    rw [h _ (by omega) (by omega)] at this
    exact absurd this.symm (kd_ne _)
theorem carved_len (l : List RG) (a n : Int) : (l.flatMap (cvR a n)).length ≤ 2 * l.length := by
  induction l with
  | nil => simp
  | cons r l ih => rw [List.flatMap_cons, List.length_append, List.length_cons]; have := cvR_len a n r; omega
theorem cut0_nil (f : Int → Int) : cut0 f [] = f := by funext i; simp [cut0]
theorem cutF_nil (f : Int → Bool) : cutF f [] = f := by funext i; simp [cutF]
theorem MS.unmap_bad {v : VB} {m : MS} {a n : Int} (hb : badS a n) : m.unmap v a n = (0, 1, v, m) := by unfold MS.unmap; rw [if_pos hb]
theorem MS.unmap_ok (v : VB) {m : MS} (hm : m.Ok) {a n : Int} (hb : ¬ badS a n) : m.unmap v a n = ((unL v m.fr (spanL (fun i => m.is_ i != 0) a n.toNat)).1, 0, (unL v m.fr (spanL (fun i => m.is_ i != 0) a n.toNat)).2, ⟨setI m.is_ a n 0, cut0 m.fr (spanL (fun i => m.is_ i != 0) a n.toNat), cutF m.own (spanL (fun i => m.is_ i != 0) a n.toNat)⟩) := by
  unfold MS.unmap
  have hb2 := hb
  unfold badS at hb2
  have hz : ∀ i, i ∉ spanL (fun i => m.is_ i != 0) a n.toNat → a ≤ i ∧ i < a + n → m.is_ i = 0 := fun i h1 h2 => by
    rw [mem_spanL] at h1
    by_cases c : m.is_ i = 0
    · exact c
    · exact absurd ⟨⟨h2.1, by omega⟩, by simp [c]⟩ h1
  have hs : ∀ i, i ∈ spanL (fun i => m.is_ i != 0) a n.toNat → a ≤ i ∧ i < a + n := fun i h => by
    have := (mem_spanL.1 h).1; omega
  have e1 : setI m.fr a n 0 = cut0 m.fr (spanL (fun i => m.is_ i != 0) a n.toNat) := by
    funext i; unfold setI cut0
    by_cases c : i ∈ spanL (fun i => m.is_ i != 0) a n.toNat
    · rw [if_pos c, if_pos (hs i c)]
    · rw [if_neg c]; split
      · rename_i d; exact (hm.un i (hz i c d)).symm
      · rfl
  have e2 : setI m.own a n false = cutF m.own (spanL (fun i => m.is_ i != 0) a n.toNat) := by
    funext i; unfold setI cutF
    by_cases c : i ∈ spanL (fun i => m.is_ i != 0) a n.toNat
    · rw [if_pos c, if_pos (hs i c)]
    · rw [if_neg c]; split
      · rename_i d; exact (hm.ow i (hm.un i (hz i c d))).symm
      · rfl
  rw [if_neg hb, unN_span v (p := fun i => m.is_ i != 0) (fun i h => hm.un i (by simpa using h)), e1, e2]
theorem MS.may_rng {m : MS} {a : Int} {w : Bool} (h : m.may a w = true) : 0 ≤ a ∧ a < 128 := by
  unfold MS.may at h
  simp at h
  exact h.1
theorem MS.may_out {m : MS} {a : Int} {w : Bool} (h : ¬ (0 ≤ a ∧ a < 128)) : m.may a w = false := by
  unfold MS.may; rw [decide_eq_false h]; rfl
theorem MS.may_at {m : MS} (hm : m.Ok) {a k : Int} {w : Bool} (hk : atP (runs m.is_) (a / 8) k) (ha : 0 ≤ a ∧ a < 128) : m.may a w = (decide (0 ≤ k) && (!w || (rat (runs m.is_) k).w)) := by
  obtain ⟨h1, h2⟩ := atP_none hm.f hk
  unfold MS.may
  rw [decide_eq_true ha]
  by_cases c : k < 0
  · rw [h1.1 c, decide_eq_false (by omega)]; rfl
  · rw [(h2 (by omega)).2, decide_eq_true (by omega)]
    cases w <;> cases (rat (runs m.is_) k).w <;> rfl
theorem MS.wants_at {m : MS} (hm : m.Ok) {a k : Int} (hk : atP (runs m.is_) (a / 8) k) (ha : 0 ≤ a ∧ a < 128) : m.wants a = (decide (0 ≤ k) && decide (m.fr (a / 8) - 1 < 0)) := by
  unfold MS.wants
  rw [MS.may_at hm hk ha]
  have := hm.lo (a / 8)
  by_cases c : m.fr (a / 8) = 0
  · rw [c]; cases decide (0 ≤ k) <;> rfl
  · rw [decide_eq_false (p := m.fr (a / 8) - 1 < 0) (by omega)]
    rw [show (m.fr (a / 8) == 0) = false from by simp [c]]; simp
theorem VB.take_bad {v : VB} (h : ¬ v.take.2.1 = 0) : v.take.1 = 0 ∧ v.take.2.2 = v := by
  by_cases c : (v.bb.take 0).2.1 = 0
  · rw [VB.take_ok c] at h; exact absurd rfl h
  · rw [VB.take_no c]; exact ⟨rfl, rfl⟩
theorem VB.take_rf {v : VB} (h : v.take.2.1 = 0) : v.take.2.2.rf = fset v.rf v.take.1 1 ∧ v.take.2.2.by_ = brow v.by_ v.take.1 (fun _ => 0) := by
  by_cases c : (v.bb.take 0).2.1 = 0
  · rw [VB.take_ok c]; exact ⟨rfl, rfl⟩
  · rw [VB.take_no c] at h; exact absurd h c
theorem VB.Ok.copy {v : VB} (h : v.Ok) (f g : Int) : (v.copy f g).Ok := ⟨h.bb, h.rf, fun x j => by
  show 0 ≤ brow v.by_ f (v.by_ g) x j ∧ brow v.by_ f (v.by_ g) x j < 256
  unfold brow; split
  · exact h.by_ g j
  · exact h.by_ x j⟩
theorem VB.take_rf1 {v : VB} (h : v.take.2.1 = 0) {f : Int} (hf : 1 < v.rf f) : 1 ≤ v.take.2.2.rf f := by
  rw [(VB.take_rf h).1]; unfold fset; split <;> omega
theorem MS.touch_no {v : VB} {m : MS} {a : Int} {w : Bool} (h : m.may a w = false) : m.touch v a w = (0, 10, v, m) := by unfold MS.touch; rw [if_pos h]
theorem MS.touch_new {v : VB} {m : MS} {a : Int} {w : Bool} (h : m.may a w = true) (h0 : m.fr (a / 8) = 0) (e : v.take.2.1 = 0) : m.touch v a w = (v.take.1, 0, v.take.2.2, m.page (a / 8) v.take.1) := by
  unfold MS.touch; rw [if_neg (by simp [h]), if_pos h0, if_neg (by omega)]
theorem MS.touch_newbad {v : VB} {m : MS} {a : Int} {w : Bool} (h : m.may a w = true) (h0 : m.fr (a / 8) = 0) (e : ¬ v.take.2.1 = 0) : m.touch v a w = (0, v.take.2.1, v, m) := by
  unfold MS.touch; rw [if_neg (by simp [h]), if_pos h0, if_pos e]
theorem MS.touch_old {v : VB} {m : MS} {a : Int} {w : Bool} (h : m.may a w = true) (h0 : ¬ m.fr (a / 8) = 0) (q : w = false ∨ m.own (a / 8) = true) : m.touch v a w = (m.fr (a / 8) - 1, 0, v, m) := by
  unfold MS.touch; rw [if_neg (by simp [h]), if_neg h0, if_pos q]
theorem MS.touch_one {v : VB} {m : MS} {a : Int} {w : Bool} (h : m.may a w = true) (h0 : ¬ m.fr (a / 8) = 0) (q : w = true) (q2 : m.own (a / 8) = false) (r : v.rf (m.fr (a / 8) - 1) ≤ 1) : m.touch v a w = (m.fr (a / 8) - 1, 0, v, { m with own := fset m.own (a / 8) true }) := by
  unfold MS.touch; rw [if_neg (by simp [h]), if_neg h0, if_neg (by simp [q, q2]), if_pos r]
theorem MS.touch_bad {v : VB} {m : MS} {a : Int} {w : Bool} (h : m.may a w = true) (h0 : ¬ m.fr (a / 8) = 0) (q : w = true) (q2 : m.own (a / 8) = false) (r : 1 < v.rf (m.fr (a / 8) - 1)) (e : ¬ v.take.2.1 = 0) : m.touch v a w = (0, v.take.2.1, v, m) := by
  unfold MS.touch; rw [if_neg (by simp [h]), if_neg h0, if_neg (by simp [q, q2]), if_neg (by omega), if_pos e]
theorem MS.touch_copy {v : VB} {m : MS} {a : Int} {w : Bool} (h : m.may a w = true) (h0 : ¬ m.fr (a / 8) = 0) (q : w = true) (q2 : m.own (a / 8) = false) (r : 1 < v.rf (m.fr (a / 8) - 1)) (e : v.take.2.1 = 0) : m.touch v a w = (v.take.1, 0, (v.take.2.2.copy v.take.1 (m.fr (a / 8) - 1)).drop (m.fr (a / 8) - 1), m.page (a / 8) v.take.1) := by
  unfold MS.touch; rw [if_neg (by simp [h]), if_neg h0, if_neg (by simp [q, q2]), if_neg (by omega), if_neg (by omega)]
/-- the ways of a touch -/
theorem MS.touch_cases (v : VB) (m : MS) (a : Int) (w : Bool) :
    (m.may a w = false ∧ m.touch v a w = (0, 10, v, m)) ∨ (m.may a w = true ∧
    ((¬ v.take.2.1 = 0 ∧ m.touch v a w = (0, v.take.2.1, v, m)) ∨
     (m.fr (a / 8) = 0 ∧ v.take.2.1 = 0 ∧ m.touch v a w = (v.take.1, 0, v.take.2.2, m.page (a / 8) v.take.1)) ∨
     (¬ m.fr (a / 8) = 0 ∧ (w = false ∨ m.own (a / 8) = true) ∧ m.touch v a w = (m.fr (a / 8) - 1, 0, v, m)) ∨
     (¬ m.fr (a / 8) = 0 ∧ v.rf (m.fr (a / 8) - 1) ≤ 1 ∧ w = true ∧ m.touch v a w = (m.fr (a / 8) - 1, 0, v, { m with own := fset m.own (a / 8) true })) ∨
     (¬ m.fr (a / 8) = 0 ∧ v.take.2.1 = 0 ∧ 1 < v.rf (m.fr (a / 8) - 1) ∧ w = true ∧ m.touch v a w = (v.take.1, 0, (v.take.2.2.copy v.take.1 (m.fr (a / 8) - 1)).drop (m.fr (a / 8) - 1), m.page (a / 8) v.take.1)))) := by
  cases h : m.may a w with
  | false => exact .inl ⟨rfl, MS.touch_no h⟩
  | true =>
    refine .inr ⟨rfl, ?_⟩
    by_cases h0 : m.fr (a / 8) = 0
    · by_cases e : v.take.2.1 = 0
      · exact .inr (.inl ⟨h0, e, MS.touch_new h h0 e⟩)
      · exact .inl ⟨e, MS.touch_newbad h h0 e⟩
    · by_cases q : w = false ∨ m.own (a / 8) = true
      · exact .inr (.inr (.inl ⟨h0, q, MS.touch_old h h0 q⟩))
      · have q1 : w = true := by cases w <;> simp_all
        have q2 : m.own (a / 8) = false := by simpa [q1] using q
        by_cases r : v.rf (m.fr (a / 8) - 1) ≤ 1
        · exact .inr (.inr (.inr (.inl ⟨h0, r, q1, MS.touch_one h h0 q1 q2 r⟩)))
        · by_cases e : v.take.2.1 = 0
          · exact .inr (.inr (.inr (.inr ⟨h0, e, by omega, q1, MS.touch_copy h h0 q1 q2 (by omega) e⟩)))
          · exact .inl ⟨e, MS.touch_bad h h0 q1 q2 (by omega) e⟩
theorem MS.touch_is (v : VB) (m : MS) (a : Int) (w : Bool) : (m.touch v a w).2.2.2.is_ = m.is_ := by
  rcases MS.touch_cases v m a w with ⟨_, e⟩ | ⟨_, ⟨_, e⟩ | ⟨_, _, e⟩ | ⟨_, _, e⟩ | ⟨_, _, _, e⟩ | ⟨_, _, _, _, e⟩⟩ <;> (rw [e]; try rfl)
theorem MS.touch_rng {v : VB} {m : MS} (hv : v.Ok) (hm : m.Ok) {a : Int} {w : Bool} (h : (m.touch v a w).2.1 = 0) : (0 ≤ (m.touch v a w).1 ∧ (m.touch v a w).1 < 64) ∧ 0 ≤ a ∧ a < 128 := by
  have hl := hm.lo (a / 8)
  rcases MS.touch_cases v m a w with ⟨_, e⟩ | ⟨hr, ⟨q, e⟩ | ⟨_, q, e⟩ | ⟨_, _, e⟩ | ⟨_, _, _, e⟩ | ⟨_, q, _, _, e⟩⟩
  · rw [e] at h; simp at h
  · rw [e] at h; exact absurd h q
  · rw [e]; exact ⟨VB.take_rng hv q, MS.may_rng hr⟩
  · rw [e]; exact ⟨by omega, MS.may_rng hr⟩
  · rw [e]; exact ⟨by omega, MS.may_rng hr⟩
  · rw [e]; exact ⟨VB.take_rng hv q, MS.may_rng hr⟩
theorem VB.Ok.touch {v : VB} {m : MS} (hv : v.Ok) (a : Int) (w : Bool) : (m.touch v a w).2.2.1.Ok := by
  rcases MS.touch_cases v m a w with ⟨_, e⟩ | ⟨_, ⟨_, e⟩ | ⟨_, _, e⟩ | ⟨_, _, e⟩ | ⟨_, _, _, e⟩ | ⟨_, q, r, _, e⟩⟩ <;> rw [e]
  · exact hv
  · exact hv
  · exact hv.take
  · exact hv
  · exact hv
  · exact (hv.take.copy _ _).drop (VB.take_rf1 q r)
theorem upN_le (rf fr : Int → Int) : ∀ (k : Nat) (g : Int), rf g ≤ upN rf fr k g ∧ upN rf fr k g ≤ rf g + k
  | 0, g => by simp [upN]
  | k + 1, g => by
    have := upN_le rf fr k g
    rw [upN]; split
    · unfold fset; split
      · rename_i c; subst c; omega
      · omega
    · omega
theorem upN_next {rf fr : Int → Int} {i : Int} (h : 0 ≤ i) : upN rf fr (i + 1).toNat = if 0 < fr i then fset (upN rf fr i.toNat) (fr i - 1) (upN rf fr i.toNat (fr i - 1) + 1) else upN rf fr i.toNat := by
  rw [show (i + 1).toNat = i.toNat + 1 from by omega, upN, show ((i.toNat : Nat) : Int) = i from by omega]
/-- up to i the new, from i on the old -/
def cutI {α : Type} (f g : Int → α) (i : Int) : Int → α := fun j => if 0 ≤ j ∧ j < i then f j else g j
theorem cutI_next {α : Type} {f g : Int → α} {i : Int} (h : 0 ≤ i) {v : α} (e : f i = v) : fset (cutI f g i) i v = cutI f g (i + 1) := by
  funext j
  unfold fset cutI
  by_cases c : j = i
  · rw [if_pos c, if_pos (by omega), c, e]
  · rw [if_neg c]
    by_cases d : 0 ≤ j ∧ j < i
    · rw [if_pos d, if_pos (by omega)]
    · rw [if_neg d, if_neg (by omega)]

theorem fset_self (f : Int → Bool) (i : Int) {v : Bool} (h : f i = v) : fset f i v = f := by
  funext j; unfold fset; split
  · rename_i c; rw [c, h]
  · rfl
theorem MS.load_bad {v : VB} {m : MS} {a : Int} (h : ¬ (m.touch v a false).2.1 = 0) : m.load v a = (0, (m.touch v a false).2.1, (m.touch v a false).2.2) := by unfold MS.load; exact if_pos h
theorem MS.load_ok {v : VB} {m : MS} {a : Int} (h : (m.touch v a false).2.1 = 0) : m.load v a = ((m.touch v a false).2.2.1.by_ (m.touch v a false).1 (a % 8), 0, (m.touch v a false).2.2) := by unfold MS.load; exact if_neg (by simp [h])
theorem MS.store_bad {v : VB} {m : MS} {a b : Int} (h : ¬ (m.touch v a true).2.1 = 0) : m.store v a b = ((m.touch v a true).2.1, (m.touch v a true).2.2) := by unfold MS.store; exact if_pos h
theorem MS.store_ok {v : VB} {m : MS} {a b : Int} (h : (m.touch v a true).2.1 = 0) : m.store v a b = (0, ⟨(m.touch v a true).2.2.1.bb, fset2 (m.touch v a true).2.2.1.by_ (m.touch v a true).1 (a % 8) b, (m.touch v a true).2.2.1.rf⟩, (m.touch v a true).2.2.2) := by unfold MS.store; exact if_neg (by simp [h])
theorem cutI_zero {α : Type} (f g : Int → α) : cutI f g 0 = g := by funext j; unfold cutI; rw [if_neg (by omega)]
def zNs (b : Nat) (p : Option Addr) (n c : Nat) : List Value := ptr b 0 0 :: .slice p n c :: (List.replicate 16 [Value.int .i64 0, Value.bool false]).flatten
theorem zNs_box (b : Nat) (p : Option Addr) (n c : Nat) : ∀ i, i < 34 → cellsOf (zNs b p n c).toArray i = encN b p n c (fun _ => 1) (fun _ => false) i := fun i hi => by
  unfold cellsOf zNs
  by_cases h1 : i = 1
  · subst h1; rfl
  · have e := zN_box b i hi
    unfold cellsOf zNl at e
    rw [Array.getD_eq_getD_getElem?, List.getElem?_toArray] at e ⊢
    have e2 : encN b none 0 0 (fun _ => 1) (fun _ => false) i = encN b p n c (fun _ => 1) (fun _ => false) i := by
      unfold encN; rw [if_neg h1, if_neg h1]
    rw [← e2, ← e]
    match i, h1 with
    | 0, _ => rfl
    | k + 2, _ => rfl
/-! ### the reference -/
theorem BB.take_z {b : BB} {o : Int} (h : ¬ (b.take o).2.1 = 0) : (b.take o).1 = 0 := by
  unfold BB.take at h ⊢
  split
  · rfl
  · rename_i c
    rw [if_neg c] at h
    split
    · rfl
    · rename_i k i e
      rw [e] at h; exact absurd rfl h
theorem setI_none {α : Type} (f : Int → α) (a : Int) (v : α) : setI f a (a - a) v = f := by funext j; unfold setI; rw [if_neg (by omega)]
theorem setI_at {α : Type} (f : Int → α) (a i : Int) (v : α) : setI f a (i - a) v i = f i := by unfold setI; rw [if_neg (by omega)]
theorem setI_grow {α : Type} {f : Int → α} {a i : Int} {v u : α} (h : a ≤ i) (e : u = v) : fset (setI f a (i - a) v) i u = setI f a (i + 1 - a) v := by
  subst e
  funext j
  unfold fset setI
  by_cases c : j = i
  · rw [if_pos c, if_pos (by omega)]
  · rw [if_neg c]
    by_cases d : a ≤ j ∧ j < a + (i - a)
    · rw [if_pos d, if_pos (by omega)]
    · rw [if_neg d, if_neg (by omega)]
theorem setI_skip {α : Type} {f : Int → α} {a i : Int} {v : α} (h : a ≤ i) (e : f i = v) : setI f a (i + 1 - a) v = setI f a (i - a) v := by
  rw [← setI_grow h rfl]
  funext j; unfold fset
  split
  · rename_i c; subst c; rw [setI_at, e]
  · rfl
theorem fset_fset {α : Type} (f : Int → α) (i : Int) (u v : α) : fset (fset f i u) i v = fset f i v := by
  funext j; unfold fset; split <;> rfl
theorem MS.may_in {m : MS} {a : Int} {w : Bool} (h : 0 ≤ a ∧ a < 128) : m.may a w = (decide (m.is_ (a / 8) = 2) || (decide (m.is_ (a / 8) = 1) && !w)) := by
  unfold MS.may; rw [decide_eq_true h]; rfl
theorem MS.touch_nn {v : VB} {m : MS} {a : Int} {w : Bool} : 0 ≤ (m.touch v a w).2.1 := by
  have := v.take_nn
  rcases MS.touch_cases v m a w with ⟨_, e⟩ | ⟨_, ⟨_, e⟩ | ⟨_, _, e⟩ | ⟨_, _, e⟩ | ⟨_, _, _, e⟩ | ⟨_, _, _, _, e⟩⟩ <;> rw [e] <;> simp <;> omega
theorem ones_mem {a i : Int} {k : Nat} : i ∈ spanL (fun _ => true) a k ↔ a ≤ i ∧ i < a + k := by rw [mem_spanL]; simp
theorem unN_ok {v : VB} {m : MS} (hv : v.Ok) (hm : m.Ok) (hi : m.In v) (a : Int) (k : Nat) : (unN v m.fr a k).2.Ok ∧ (0 ≤ (unN v m.fr a k).1 ∧ (unN v m.fr a k).1 ≤ k) ∧ ∀ g, (∀ i, a ≤ i → i < a + k → m.fr i ≠ g + 1) → (unN v m.fr a k).2.rf g = v.rf g := by
  rw [unN_span v (p := fun _ => true) (fun i h => by simp at h)]
  obtain ⟨h1, h2, h3⟩ := unL_ok hv hm hi _ (spanL (fun _ => true) a k) rfl (nodup_lt (spanL_sorted k))
  have := spanL_len (p := fun _ => true) (a := a) k
  exact ⟨h1, by omega, fun g hg => h3 g (fun i hi => by have := ones_mem.1 hi; exact hg i this.1 this.2)⟩
theorem unN_next {v : VB} {fr : Int → Int} {a i : Int} (h : a ≤ i) : unN v fr a (i + 1 - a).toNat = unS fr (unN v fr a (i - a).toNat) i := by
  rw [show (i + 1 - a).toNat = (i - a).toNat + 1 from by omega, unN, show a + ((i - a).toNat : Int) = i from by omega]
/-- how a run goes on -/
theorem runsN_hit {f : Int → Int} (hf : OkF f) {i : Int} (h : 0 ≤ i ∧ i < 16) (h0 : ¬ f i = 0) (hp : 0 < (runsN f i.toNat).length) :
    (f (max (i - 1) 0) = f i ∧ (rat (runsN f i.toNat) (((runsN f i.toNat).length : Int) - 1)).fr + (rat (runsN f i.toNat) (((runsN f i.toNat).length : Int) - 1)).n = i) ↔
    ((rat (runsN f i.toNat) (((runsN f i.toNat).length : Int) - 1)).fr + (rat (runsN f i.toNat) (((runsN f i.toNat).length : Int) - 1)).n = i ∧ (rat (runsN f i.toNat) (((runsN f i.toNat).length : Int) - 1)).w = decide (f i = 2)) := by
  have hr := runsN_ok hf i.toNat
  have hm := rat_mem (l := runsN f i.toNat) (z := ((runsN f i.toNat).length : Int) - 1) (by omega)
  have hb := hr.b _ hm
  generalize hq : rat (runsN f i.toNat) (((runsN f i.toNat).length : Int) - 1) = q at *
  have key : q.fr + q.n = i → f (max (i - 1) 0) = kd q.w := fun e => by
    rw [show max (i - 1) 0 = i - 1 from by omega]
    exact hr.h1 q hm _ ⟨by omega, by omega⟩
  have hv := hf.v i
  constructor
  · rintro ⟨h1, h2⟩
    refine ⟨h2, ?_⟩
    rw [← h1, key h2, kd_two]
  · rintro ⟨h1, h2⟩
    refine ⟨?_, h1⟩
    rw [key h1, h2]
    rcases hv with e | e | e
    · exact absurd e h0
    · rw [e]; rfl
    · rw [e]; rfl
theorem runsN_next' {f : Int → Int} {i : Int} (h : 0 ≤ i) : runsN f (i + 1).toNat = if f i = 0 then runsN f i.toNat else mgS (runsN f i.toNat) ⟨i, 1, decide (f i = 2)⟩ := by
  rw [show (i + 1).toNat = i.toNat + 1 from by omega, runsN_next, show ((i.toNat : Nat) : Int) = i from by omega]

end Go.X
