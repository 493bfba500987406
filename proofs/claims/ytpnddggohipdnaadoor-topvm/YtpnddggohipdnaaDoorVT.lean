import Derived.Test.YtpnddggohipdnaaDoorVF
namespace Go.X
open Go
/-! ### all frames: those that are taken, and those that are left -/
theorem cnt_run {a p : Int} (ha : 0 ≤ a) (hp : 0 ≤ p) : ∀ n : Nat, cntN (fun j => decide (a ≤ j) && decide (j < a + p)) n = if (n : Int) ≤ a then 0 else if (n : Int) ≤ a + p then n - a else p
  | 0 => by rw [cntN, if_pos (by omega)]
  | n + 1 => by
    rw [cntN, cnt_run ha hp n]
    by_cases c : a ≤ (n : Int) ∧ (n : Int) < a + p
    · rw [if_pos (c := (decide (a ≤ (n : Int)) && decide ((n : Int) < a + p)) = true) (by simp; omega)]
      rw [if_neg (c := ((n + 1 : Nat) : Int) ≤ a) (by omega), if_pos (c := ((n + 1 : Nat) : Int) ≤ a + p) (by omega)]
      by_cases d : (n : Int) ≤ a
      · rw [if_pos d]; omega
      · rw [if_neg d, if_pos (by omega)]; omega
    · rw [if_neg (c := (decide (a ≤ (n : Int)) && decide ((n : Int) < a + p)) = true) (by simp; omega)]
      (repeat' split) <;> omega
theorem cntN_sum1 (f : Int → Bool) (n : Nat) : cntN f n = sumN (fun i => if f i = true then 1 else 0) n := by
  have := cntN_sum f 1 n
  rwa [Int.mul_one] at this
theorem BB.Full.vol {b : BB} (h : b.Full) : sumN (fun i => if 0 < b.ord i then p2 (b.ord i - 1) else 0) 64 = 64 := by
  have h1 : sumN (fun j => cv b (fun _ => true) j) 64 = 64 := by
    rw [sumN_congr (g := fun _ => 1) (fun j a c => h.once (fun _ _ => rfl) ⟨a, by omega⟩)]; rfl
  have h2 : ∀ j, cv b (fun _ => true) j = sumN (fun i => if (true && b.over i j) = true then 1 else 0) 64 := fun j => cntN_sum1 _ 64
  rw [sumN_congr (g := fun j => sumN (fun i => if (true && b.over i j) = true then 1 else 0) 64) (fun j _ _ => h2 j), sumN_swap (fun j i => if (true && b.over i j) = true then 1 else 0) 64 64] at h1
  rw [← h1]
  refine sumN_congr (fun i a c => ?_)
  rw [← cntN_sum1 (fun j => true && b.over i j) 64]
  by_cases q : 0 < b.ord i
  · have hp := p2_pos (b.ord i - 1)
    have hf := h.inv.fit q
    have e := cnt_run a (Int.le_of_lt hp) 64
    rw [if_neg (by omega)] at e
    rw [if_pos q, cntN_congr (g := fun j => decide (i ≤ j) && decide (j < i + p2 (b.ord i - 1))) (fun j _ _ => by unfold BB.over; simp [q]), e]
    split <;> omega
  · rw [if_neg q, cntN_none (fun j _ _ => by unfold BB.over; simp [q])]
theorem cntN_not (f : Int → Bool) : ∀ n : Nat, cntN f n + cntN (fun i => !f i) n = n
  | 0 => rfl
  | n + 1 => by
    have := cntN_not f n
    rw [cntN, cntN]
    cases q : f n <;> simp <;> omega
theorem BB.Full.left_cnt {b : BB} (h : b.Full) (ht : ∀ i, b.tk i = true → b.ord i = 1) : b.left = cntN (fun i => !b.tk i) 64 := by
  have h1 := h.vol
  have h2 := cntN_not b.tk 64
  have h3 : sumN (fun i => if 0 < b.ord i then p2 (b.ord i - 1) else 0) 64 = sumN (fun i => b.room i + (if b.tk i = true then 1 else 0)) 64 := by
    refine sumN_congr (fun i _ _ => ?_)
    unfold BB.room
    cases q : b.tk i with
    | true => rw [if_pos (by rw [ht i q]; omega), if_neg (by simp), ht i q]; rfl
    | false => simp
  rw [h3, sumN_add, ← cntN_sum1] at h1
  show sumN b.room 64 = _
  omega
theorem Acc.tk1 {v : VB} {F : Int → Int} (h : Acc v F) (i : Int) (q : v.bb.tk i = true) : v.bb.ord i = 1 := by
  have h0 := h.ok.bb.tk i q
  have hr := h.ok.bb.in_rng h0
  have hu := h.us i hr.1 hr.2
  unfold BB.usedOf at hu
  rw [if_pos q] at hu
  split at hu <;> omega
theorem Sys.left {v : VB} {f : Nat → MS} {k : Nat} (h : Sys v f k) (hF : v.bb.Full) : v.bb.left = cntN (fun g => decide (v.rf g = 0)) 64 := by
  rw [hF.left_cnt h.acc.tk1]
  refine cntN_congr (fun i a b => ?_)
  have hu := h.acc.us i a b
  have hr := h.acc.rf i a b
  unfold BB.usedOf at hu
  rw [hr]
  cases q : v.bb.tk i with
  | true =>
    rw [if_pos q, h.acc.tk1 i q] at hu
    by_cases c : tot f i k = 0
    · rw [if_pos c] at hu; omega
    · simp [c]
  | false =>
    rw [if_neg (by simp [q])] at hu
    by_cases c : tot f i k = 0
    · simp [c]
    · rw [if_neg c] at hu; omega
theorem VB.Full.take {v : VB} (h : v.bb.Full) : v.take.2.2.bb.Full := by
  by_cases c : (v.bb.take 0).2.1 = 0
  · rw [VB.take_ok c]; exact h.take 0
  · rw [VB.take_no c]; exact h
theorem VB.Full.drop {v : VB} (h : v.bb.Full) (g : Int) : (v.drop g).bb.Full := by
  by_cases c : v.rf g - 1 = 0
  · rw [VB.drop_p c]; exact h.give g
  · rw [VB.drop_n c]; exact h
theorem VB.drop_by (v : VB) (g : Int) : (v.drop g).by_ = v.by_ := by unfold VB.drop; split <;> rfl
theorem unN_full {fr : Int → Int} {a : Int} : ∀ (k : Nat) {v : VB}, v.bb.Full → (unN v fr a k).2.bb.Full
  | 0, _, h => h
  | k + 1, v, h => by
    rw [Go.X.unN]; unfold unS
    split
    · exact VB.Full.drop (unN_full k h) _
    · exact unN_full k h
theorem unN_by {fr : Int → Int} {a : Int} : ∀ (k : Nat) {v : VB}, (unN v fr a k).2.by_ = v.by_
  | 0, _ => rfl
  | k + 1, v => by
    rw [Go.X.unN]; unfold unS
    split
    · rw [VB.drop_by]; exact unN_by k
    · exact unN_by k
theorem cM_nil (g : Int) (hg : 0 ≤ g) : ∀ k, cM MS.nil.fr g k = 0
  | 0 => rfl
  | k + 1 => by rw [cM, cM_nil g hg k, show MS.nil.fr k = 0 from rfl, if_neg (by omega)]; rfl
theorem tot_two (f : Nat → MS) {g : Int} (hg : 0 ≤ g) {j z k : Nat} (hj : j < k) (hz : z < k) (hne : j ≠ z) : cM (f j).fr g 16 + cM (f z).fr g 16 ≤ tot f g k := by
  have h1 := tot_upd f g (m := MS.nil) hz
  have h2 := tot_ge (fupd f z MS.nil) g hj
  rw [fupd_ne _ _ hne] at h2
  rw [cM_nil g hg] at h1
  omega
/-- the byte of a memory, as its bank has it -/
def byteOf (v : VB) (m : MS) (x : Int) : Int := if m.fr (x / 8) = 0 then 0 else v.by_ (m.fr (x / 8) - 1) (x % 8)
/-- memories of a bank, and the bytes they ought to have -/
structure TV (v : VB) (f : Nat → MS) (k : Nat) (fl : Nat → Int → Int) : Prop where
  sys : Sys v f k
  full : v.bb.Full
  own : ∀ j, j < k → ∀ i, (f j).own i = true → tot f ((f j).fr i - 1) k = 1
  fl : ∀ j, j < k → ∀ x, 0 ≤ x → x < 128 → fl j x = byteOf v (f j) x
theorem TV.init : TV VB.init (fun _ => MS.nil) 1 (fun _ _ => 0) :=
  ⟨Sys.init, BB.Full.init, fun _ _ i h => (by cases h), fun _ _ x _ _ => (by unfold byteOf; exact (if_pos rfl).symm)⟩
theorem MS.Ok.fr_pos {m : MS} (h : m.Ok) {i : Int} (ho : m.own i = true) : 0 < m.fr i := by
  have := h.lo i
  by_cases c : m.fr i = 0
  · rw [h.ow i c] at ho; cases ho
  · omega
/-- the page at hand counts -/
theorem Sys.has {v : VB} {f : Nat → MS} {k j : Nat} (h : Sys v f k) (hj : j < k) {i : Int} (hi : 0 < (f j).fr i) : (0 ≤ (f j).fr i - 1 ∧ (f j).fr i - 1 < 64) ∧ 1 ≤ cM (f j).fr ((f j).fr i - 1) 16 ∧ 1 ≤ tot f ((f j).fr i - 1) k := by
  have hm := h.mo j hj
  have hr := hm.rng hi
  have hl := hm.lo i
  have h1 := cM_pos (fr := (f j).fr) (g := (f j).fr i - 1) hr.1 (by omega) (k := 16) (by omega)
  have h2 := tot_ge f ((f j).fr i - 1) hj
  exact ⟨by omega, h1, by omega⟩
theorem TV.same {v : VB} {f : Nat → MS} {k z : Nat} {fl : Nat → Int → Int} (h : TV v f k fl) (hz : z < k) {m : MS} (hm : m.Ok) (e : m.fr = (f z).fr) (o : m.own = (f z).own) : TV v (fupd f z m) k fl := by
  have ht : ∀ g, tot (fupd f z m) g k = tot f g k := fun g => by rw [tot_upd f g hz, e]; omega
  have hfr : ∀ j, (fupd f z m j).fr = (f j).fr ∧ (fupd f z m j).own = (f j).own := fun j => by
    by_cases c : j = z
    · subst c; rw [fupd_eq]; exact ⟨e, o⟩
    · rw [fupd_ne _ _ c]; exact ⟨rfl, rfl⟩
  refine ⟨h.sys.same hz hm e, h.full, fun j hj i hi => ?_, fun j hj x a b => ?_⟩
  · rw [ht, (hfr j).1]; rw [(hfr j).2] at hi; exact h.own j hj i hi
  · rw [h.fl j hj x a b]; unfold byteOf; rw [(hfr j).1]
theorem TV.map {v : VB} {f : Nat → MS} {k z : Nat} {fl : Nat → Int → Int} (h : TV v f k fl) (hz : z < k) (a n : Int) (w : Bool) : TV v (fupd f z ((f z).map a n w)) k fl :=
  h.same hz ((h.sys.mo z hz).map _ _ _) (MS.map_fr _ _ _ _).1 (MS.map_fr _ _ _ _).2
theorem TV.prot {v : VB} {f : Nat → MS} {k z : Nat} {fl : Nat → Int → Int} (h : TV v f k fl) (hz : z < k) (a n : Int) (w : Bool) : TV v (fupd f z ((f z).prot a n w)) k fl :=
  h.same hz ((h.sys.mo z hz).prot _ _ _) (MS.prot_fr _ _ _ _).1 (MS.prot_fr _ _ _ _).2
theorem TV.fork {v : VB} {f : Nat → MS} {k z : Nat} {fl : Nat → Int → Int} (h : TV v f k fl) (hz : z < k) (hk : k ≤ 60) : TV (v.fork (f z)) (fupd (fupd f z (f z).bare) k (f z).bare) (k + 1) (fupd fl k (fl z)) := by
  have hne : z ≠ k := by omega
  refine ⟨h.sys.fork hz hk, h.full, fun j hj i hi => ?_, fun j hj x a b => ?_⟩
  · by_cases c : j = k
    · subst c; rw [fupd_eq] at hi; cases hi
    · rw [fupd_ne _ _ c] at hi ⊢
      by_cases d : j = z
      · subst d; rw [fupd_eq] at hi; cases hi
      · rw [fupd_ne _ _ d] at hi ⊢
        have hjk : j < k := by omega
        have h1 := h.own j hjk i hi
        obtain ⟨hg, h2, _⟩ := h.sys.has hjk ((h.sys.mo j hjk).fr_pos hi)
        have h3 := tot_two f hg.1 hjk hz d
        have h4 := cM_nn (f z).fr ((f j).fr i - 1) 16
        rw [tot, tot_skip _ _ (Nat.le_refl _), tot_upd f _ hz, fupd_eq]
        show tot f ((f j).fr i - 1) k - cM (f z).fr ((f j).fr i - 1) 16 + cM (f z).fr ((f j).fr i - 1) 16 + cM (f z).fr ((f j).fr i - 1) 16 = 1
        omega
  · by_cases c : j = k
    · subst c; rw [fupd_eq, fupd_eq]; exact h.fl z hz x a b
    · rw [fupd_ne _ _ c, fupd_ne _ _ c]
      by_cases d : j = z
      · subst d; rw [fupd_eq]; exact h.fl j hz x a b
      · rw [fupd_ne _ _ d]; exact h.fl j (by omega) x a b
theorem setI_in {α : Type} {f : Int → α} {a n i : Int} {v : α} (h : a ≤ i ∧ i < a + n) : setI f a n v i = v := by unfold setI; rw [if_pos h]
theorem setI_off {α : Type} {f : Int → α} {a n i : Int} {v : α} (h : ¬ (a ≤ i ∧ i < a + n)) : setI f a n v i = f i := by unfold setI; rw [if_neg h]
theorem MS.unmap_e0 {v : VB} {m : MS} {a n : Int} (hb : ¬ badS a n) : (m.unmap v a n).2.1 = 0 := by unfold MS.unmap; rw [if_neg hb]
theorem TV.unmap {v : VB} {f : Nat → MS} {k z : Nat} {fl : Nat → Int → Int} (h : TV v f k fl) (hz : z < k) {a n : Int} (hb : ¬ badS a n) : TV ((f z).unmap v a n).2.2.1 (fupd f z ((f z).unmap v a n).2.2.2) k (fupd fl z (setI (fl z) (8 * a) (8 * n) 0)) := by
  have hs := h.sys.unmap hz a n
  have hb' := hb
  unfold badS at hb'
  have hu : (f z).unmap v a n = ((unN v (f z).fr a n.toNat).1, 0, (unN v (f z).fr a n.toNat).2, ⟨setI (f z).is_ a n 0, setI (f z).fr a n 0, setI (f z).own a n false⟩) := by unfold MS.unmap; rw [if_neg hb]
  rw [hu] at hs ⊢
  have hs : Sys (unN v (f z).fr a n.toNat).2 (fupd f z ⟨setI (f z).is_ a n 0, setI (f z).fr a n 0, setI (f z).own a n false⟩) k := hs
  show TV (unN v (f z).fr a n.toNat).2 (fupd f z ⟨setI (f z).is_ a n 0, setI (f z).fr a n 0, setI (f z).own a n false⟩) k _
  have hby : (unN v (f z).fr a n.toNat).2.by_ = v.by_ := unN_by _
  have hle : ∀ g, 0 ≤ g → tot (fupd f z ⟨setI (f z).is_ a n 0, setI (f z).fr a n 0, setI (f z).own a n false⟩) g k ≤ tot f g k := fun g hg => by
    rw [tot_upd f g hz]
    have := cM_cut (f z).fr (a := a) (g := g) (by omega) hg (k := n.toNat) (by omega)
    rw [show ((n.toNat : Nat) : Int) = n from by omega] at this
    have h9 : ∀ q, 0 ≤ cA (f z).fr a g q := fun q => by
      induction q with
      | zero => simp [cA]
      | succ q ih => rw [cA]; split <;> omega
    have := h9 n.toNat
    show tot f g k - _ + cM (setI (f z).fr a n 0) g 16 ≤ _
    omega
  refine ⟨hs, unN_full _ h.full, fun j hj i hi => ?_, fun j hj x x0 x1 => ?_⟩
  · have hj' := (hs.mo j hj).fr_pos hi
    obtain ⟨hg, h2, h3⟩ := hs.has hj hj'
    have e : 0 < (f j).fr i ∧ (fupd f z ⟨setI (f z).is_ a n 0, setI (f z).fr a n 0, setI (f z).own a n false⟩ j).fr i = (f j).fr i ∧ (f j).own i = true := by
      by_cases c : j = z
      · subst c
        rw [fupd_eq] at hj' hi ⊢
        by_cases d : a ≤ i ∧ i < a + n
        · have hj' : 0 < setI (f j).fr a n 0 i := hj'
          rw [setI_in d] at hj'; omega
        · have hj' : 0 < setI (f j).fr a n 0 i := hj'
          have hi : setI (f j).own a n false i = true := hi
          rw [setI_off d] at hj' hi
          exact ⟨hj', setI_off d, hi⟩
      · rw [fupd_ne _ _ c] at hj' hi ⊢; exact ⟨hj', rfl, hi⟩
    have h1 := h.own j hj i e.2.2
    rw [e.2.1] at h3 hg ⊢
    have := hle _ hg.1
    omega
  · by_cases c : j = z
    · subst c
      rw [fupd_eq, fupd_eq]
      unfold byteOf
      show setI (fl j) (8 * a) (8 * n) 0 x = if setI (f j).fr a n 0 (x / 8) = 0 then 0 else (unN v (f j).fr a n.toNat).2.by_ (setI (f j).fr a n 0 (x / 8) - 1) (x % 8)
      by_cases d : a ≤ x / 8 ∧ x / 8 < a + n
      · rw [setI_in (by omega), setI_in d, if_pos rfl]
      · rw [setI_off (by omega), setI_off d, hby]; exact h.fl j hz x x0 x1
    · rw [fupd_ne _ _ c, fupd_ne _ _ c, h.fl j hj x x0 x1]
      unfold byteOf
      show _ = if (f j).fr (x / 8) = 0 then 0 else (unN v (f z).fr a n.toNat).2.by_ _ _
      rw [hby]
/-- the frame that a touch answers is that of the page; to be written, it is its own -/
theorem MS.touch_at {v : VB} {m : MS} (hm : m.Ok) {a : Int} {w : Bool} (h : (m.touch v a w).2.1 = 0) : m.may a w = true ∧ (m.touch v a w).2.2.2.fr (a / 8) = (m.touch v a w).1 + 1 ∧ (w = true → (m.touch v a w).2.2.2.own (a / 8) = true) := by
  rcases MS.touch_cases v m a w with ⟨_, e⟩ | ⟨hr, ⟨ne, e⟩ | ⟨h0, q, e⟩ | ⟨h0, hw, e⟩ | ⟨h0, _, _, e⟩ | ⟨h0, q, r, _, e⟩⟩ <;> rw [e] at h ⊢
  · exact absurd (show (10 : Int) = 0 from h) (by omega)
  · exact absurd h ne
  · exact ⟨hr, fset_eq _ _ _, fun _ => fset_eq _ _ _⟩
  · refine ⟨hr, by show m.fr (a / 8) = m.fr (a / 8) - 1 + 1; omega, fun q => ?_⟩
    rcases hw with c | c
    · rw [c] at q; cases q
    · exact c
  · exact ⟨hr, by show m.fr (a / 8) = m.fr (a / 8) - 1 + 1; omega, fun _ => fset_eq _ _ _⟩
  · exact ⟨hr, fset_eq _ _ _, fun _ => fset_eq _ _ _⟩
theorem tot_page {f : Nat → MS} {k z : Nat} (hz : z < k) {n x g : Int} (hn : 0 ≤ n ∧ n < 16) : tot (fupd f z ((f z).page n x)) g k = tot f g k - (if (f z).fr n = g + 1 then 1 else 0) + (if x + 1 = g + 1 then 1 else 0) := by
  rw [tot_upd f g hz]
  show tot f g k - _ + cM (fset (f z).fr n (x + 1)) g 16 = _
  rw [cM_fset _ hn.1 (by omega)]; omega
theorem VB.take_by {v : VB} (h : v.take.2.1 = 0) : v.take.2.2.by_ = brow v.by_ v.take.1 (fun _ => 0) := (VB.take_rf h).2
theorem TV.touch {v : VB} {f : Nat → MS} {k z : Nat} {fl : Nat → Int → Int} (h : TV v f k fl) (hz : z < k) (a : Int) (w : Bool) : TV ((f z).touch v a w).2.2.1 (fupd f z ((f z).touch v a w).2.2.2) k fl := by
  have hs := h.sys.touch hz a w
  have hm := h.sys.mo z hz
  have hl := hm.lo (a / 8)
  rcases MS.touch_cases v (f z) a w with ⟨_, e⟩ | ⟨hr, ⟨_, e⟩ | ⟨h0, q, e⟩ | ⟨_, _, e⟩ | ⟨h0, r1, _, e⟩ | ⟨h0, q, r, _, e⟩⟩ <;> rw [e] at hs ⊢
  · rw [fupd_self]; exact h
  · rw [fupd_self]; exact h
  · obtain ⟨hx, hF, _⟩ := h.sys.acc.take q
    have hF : tot f v.take.1 k = 0 := hF
    have hrg := MS.may_rng hr
    have hn : 0 ≤ a / 8 ∧ a / 8 < 16 := by omega
    have hfree : ∀ j, j < k → ∀ i, (f j).fr i ≠ v.take.1 + 1 := fun j hj i => by rcases h.sys.free hj hF i with c | c <;> omega
    refine ⟨hs, VB.Full.take h.full, fun j hj i hi => ?_, fun j hj x x0 x1 => ?_⟩
    · rw [tot_page hz hn, h0]
      rw [if_neg (c := (0 : Int) = _) (by have := (hs.mo j hj).fr_pos hi; omega)]
      by_cases c : j = z
      · subst c
        rw [fupd_eq] at hi ⊢
        have hi : fset (f j).own (a / 8) true i = true := hi
        show tot f (fset (f j).fr (a / 8) (v.take.1 + 1) i - 1) k - 0 + (if v.take.1 + 1 = fset (f j).fr (a / 8) (v.take.1 + 1) i - 1 + 1 then 1 else 0) = 1
        by_cases d : i = a / 8
        · rw [d, fset_eq, if_pos (by omega), show v.take.1 + 1 - 1 = v.take.1 from by omega, hF]; rfl
        · rw [fset_ne _ _ d] at hi ⊢
          rw [if_neg (by have := hfree j hj i; omega), h.own j hj i hi]; rfl
      · rw [fupd_ne _ _ c] at hi ⊢
        rw [if_neg (by have := hfree j hj i; omega), h.own j hj i hi]; rfl
    · rw [h.fl j hj x x0 x1]
      unfold byteOf
      show _ = if (fupd f z ((f z).page (a / 8) v.take.1) j).fr (x / 8) = 0 then 0 else v.take.2.2.by_ ((fupd f z ((f z).page (a / 8) v.take.1) j).fr (x / 8) - 1) (x % 8)
      rw [VB.take_by q]
      by_cases c : j = z
      · subst c
        rw [fupd_eq]
        show _ = if fset (f j).fr (a / 8) (v.take.1 + 1) (x / 8) = 0 then 0 else brow v.by_ v.take.1 (fun _ => 0) (fset (f j).fr (a / 8) (v.take.1 + 1) (x / 8) - 1) (x % 8)
        by_cases d : x / 8 = a / 8
        · rw [d, fset_eq, if_pos h0, if_neg (by omega)]
          unfold brow; rw [if_pos (by omega)]
        · rw [fset_ne _ _ d]
          unfold brow; rw [if_neg (c := (f j).fr (x / 8) - 1 = v.take.1) (by have := hfree j hj (x / 8); omega)]
      · rw [fupd_ne _ _ c]
        unfold brow; rw [if_neg (c := (f j).fr (x / 8) - 1 = v.take.1) (by have := hfree j hj (x / 8); omega)]
  · rw [fupd_self]; exact h
  · have hrf : tot f ((f z).fr (a / 8) - 1) k = 1 := by
      obtain ⟨hg, _, h2⟩ := h.sys.has hz (i := a / 8) (by omega)
      have := h.sys.acc.rf _ hg.1 hg.2
      have : v.rf ((f z).fr (a / 8) - 1) = tot f ((f z).fr (a / 8) - 1) k := this
      omega
    have ht : ∀ g, tot (fupd f z { f z with own := fset (f z).own (a / 8) true }) g k = tot f g k := fun g => by
      rw [tot_upd f g hz]; show tot f g k - cM (f z).fr g 16 + cM (f z).fr g 16 = _; omega
    refine ⟨hs, h.full, fun j hj i hi => ?_, fun j hj x x0 x1 => ?_⟩
    · rw [ht]
      by_cases c : j = z
      · subst c
        rw [fupd_eq] at hi ⊢
        have hi : fset (f j).own (a / 8) true i = true := hi
        show tot f ((f j).fr i - 1) k = 1
        by_cases d : i = a / 8
        · rw [d]; exact hrf
        · rw [fset_ne _ _ d] at hi; exact h.own j hj i hi
      · rw [fupd_ne _ _ c] at hi ⊢; exact h.own j hj i hi
    · rw [h.fl j hj x x0 x1]
      by_cases c : j = z
      · subst c; rw [fupd_eq]; rfl
      · rw [fupd_ne _ _ c]
  · obtain ⟨hx, hF, _⟩ := h.sys.acc.take q
    have hF : tot f v.take.1 k = 0 := hF
    have hrg := MS.may_rng hr
    have hn : 0 ≤ a / 8 ∧ a / 8 < 16 := by omega
    have hfree : ∀ j, j < k → ∀ i, (f j).fr i ≠ v.take.1 + 1 := fun j hj i => by rcases h.sys.free hj hF i with c | c <;> omega
    obtain ⟨hg, _, h2⟩ := h.sys.has hz (i := a / 8) (by omega)
    have hrf : v.rf ((f z).fr (a / 8) - 1) = tot f ((f z).fr (a / 8) - 1) k := h.sys.acc.rf _ hg.1 hg.2
    have hfz := hfree z hz (a / 8)
    refine ⟨hs, VB.Full.drop (v := v.take.2.2.copy v.take.1 ((f z).fr (a / 8) - 1)) (VB.Full.take h.full) _, fun j hj i hi => ?_, fun j hj x x0 x1 => ?_⟩
    · rw [tot_page hz hn]
      by_cases c : j = z
      · subst c
        rw [fupd_eq] at hi ⊢
        have hi : fset (f j).own (a / 8) true i = true := hi
        show tot f (fset (f j).fr (a / 8) (v.take.1 + 1) i - 1) k - (if (f j).fr (a / 8) = fset (f j).fr (a / 8) (v.take.1 + 1) i - 1 + 1 then 1 else 0) + (if v.take.1 + 1 = fset (f j).fr (a / 8) (v.take.1 + 1) i - 1 + 1 then 1 else 0) = 1
        by_cases d : i = a / 8
        · rw [d, fset_eq, if_neg (by omega), if_pos (by omega), show v.take.1 + 1 - 1 = v.take.1 from by omega, hF]; rfl
        · rw [fset_ne _ _ d] at hi ⊢
          have hi1 := h.own j hj i hi
          have hne : ¬ (f j).fr (a / 8) = (f j).fr i - 1 + 1 := fun q => by rw [show (f j).fr i = (f j).fr (a / 8) from by omega] at hi1; omega
          rw [if_neg hne, if_neg (by have := hfree j hj i; omega), hi1]; rfl
      · rw [fupd_ne _ _ c] at hi ⊢
        have hi1 := h.own j hj i hi
        have hne : ¬ (f z).fr (a / 8) = (f j).fr i - 1 + 1 := fun q => by rw [show (f j).fr i = (f z).fr (a / 8) from by omega] at hi1; omega
        rw [if_neg hne, if_neg (by have := hfree j hj i; omega), hi1]; rfl
    · rw [h.fl j hj x x0 x1]
      unfold byteOf
      show _ = if (fupd f z ((f z).page (a / 8) v.take.1) j).fr (x / 8) = 0 then 0 else ((v.take.2.2.copy v.take.1 ((f z).fr (a / 8) - 1)).drop ((f z).fr (a / 8) - 1)).by_ ((fupd f z ((f z).page (a / 8) v.take.1) j).fr (x / 8) - 1) (x % 8)
      rw [VB.drop_by]
      show _ = if (fupd f z ((f z).page (a / 8) v.take.1) j).fr (x / 8) = 0 then 0 else brow v.take.2.2.by_ v.take.1 (v.take.2.2.by_ ((f z).fr (a / 8) - 1)) ((fupd f z ((f z).page (a / 8) v.take.1) j).fr (x / 8) - 1) (x % 8)
      rw [VB.take_by q]
      by_cases c : j = z
      · subst c
        rw [fupd_eq]
        show _ = if fset (f j).fr (a / 8) (v.take.1 + 1) (x / 8) = 0 then 0 else brow (brow v.by_ v.take.1 (fun _ => 0)) v.take.1 (brow v.by_ v.take.1 (fun _ => 0) ((f j).fr (a / 8) - 1)) (fset (f j).fr (a / 8) (v.take.1 + 1) (x / 8) - 1) (x % 8)
        by_cases d : x / 8 = a / 8
        · rw [d, fset_eq, if_neg h0, if_neg (by omega)]
          unfold brow; rw [if_pos (by omega), if_neg (by omega)]
        · rw [fset_ne _ _ d]
          have := hfree j hj (x / 8)
          unfold brow; rw [if_neg (c := (f j).fr (x / 8) - 1 = v.take.1) (by omega), if_neg (c := (f j).fr (x / 8) - 1 = v.take.1) (by omega)]
      · rw [fupd_ne _ _ c]
        have := hfree j hj (x / 8)
        unfold brow; rw [if_neg (c := (f j).fr (x / 8) - 1 = v.take.1) (by omega), if_neg (c := (f j).fr (x / 8) - 1 = v.take.1) (by omega)]
theorem TV.load {v : VB} {f : Nat → MS} {k z : Nat} {fl : Nat → Int → Int} (h : TV v f k fl) (hz : z < k) (a : Int) : TV ((f z).load v a).2.2.1 (fupd f z ((f z).load v a).2.2.2) k fl := by
  by_cases e : ((f z).touch v a false).2.1 = 0
  · rw [MS.load_ok e]; exact h.touch hz a false
  · rw [MS.load_bad e]; exact h.touch hz a false
theorem TV.load_val {v : VB} {f : Nat → MS} {k z : Nat} {fl : Nat → Int → Int} (h : TV v f k fl) (hz : z < k) {a : Int} (e0 : ((f z).load v a).2.1 = 0) : (0 ≤ a ∧ a < 128) ∧ ((f z).load v a).1 = fl z a := by
  by_cases e : ((f z).touch v a false).2.1 = 0
  · obtain ⟨h1, h2, _⟩ := MS.touch_at (h.sys.mo z hz) e
    have hr := MS.may_rng h1
    have ht := (h.touch hz a false).fl z hz a hr.1 hr.2
    rw [fupd_eq] at ht
    have hx := (MS.touch_rng h.sys.acc.ok (h.sys.mo z hz) e).1
    rw [MS.load_ok e, ht]
    unfold byteOf
    rw [h2, if_neg (by omega), show ((f z).touch v a false).1 + 1 - 1 = ((f z).touch v a false).1 from by omega]
    exact ⟨hr, rfl⟩
  · rw [MS.load_bad e] at e0; exact absurd e0 e
theorem TV.store {v : VB} {f : Nat → MS} {k z : Nat} {fl : Nat → Int → Int} (h : TV v f k fl) (hz : z < k) {a b : Int} (hb : 0 ≤ b ∧ b < 256) (e0 : ((f z).store v a b).1 = 0) : TV ((f z).store v a b).2.1 (fupd f z ((f z).store v a b).2.2) k (fupd fl z (fset (fl z) a b)) := by
  have hs := h.sys.store hz a b hb
  by_cases e : ((f z).touch v a true).2.1 = 0
  · have ht := h.touch hz a true
    obtain ⟨h1, h2, h3⟩ := MS.touch_at (h.sys.mo z hz) e
    have hr := MS.may_rng h1
    have hx := (MS.touch_rng h.sys.acc.ok (h.sys.mo z hz) e).1
    rw [MS.store_ok e] at hs ⊢
    generalize ht9 : (f z).touch v a true = t at *
    obtain ⟨x, er, v2, m2⟩ := t
    simp only at hs ht h2 h3 hx ⊢
    have ho := ht.own z hz (a / 8) (by rw [fupd_eq]; exact h3 trivial)
    rw [fupd_eq, h2, show x + 1 - 1 = x from by omega] at ho
    have hone : ∀ j, j < k → ∀ i, (fupd f z m2 j).fr i = x + 1 → j = z ∧ i = a / 8 := fun j hj i hi => by
      obtain ⟨g1, g2, g3⟩ := ht.sys.has hj (i := i) (by omega)
      rw [hi, show x + 1 - 1 = x from by omega] at g2
      have hp : 1 ≤ cM (fupd f z m2 z).fr x 16 := by
        have := (ht.sys.has hz (i := a / 8) (by rw [fupd_eq, h2]; omega)).2.1
        rwa [fupd_eq, h2, show x + 1 - 1 = x from by omega, ← fupd_eq f z m2] at this
      by_cases c : j = z
      · subst c
        rw [fupd_eq] at hi
        have hm2 := ht.sys.mo j hj
        rw [fupd_eq] at hm2
        exact ⟨rfl, hm2.inj i (a / 8) (by omega) (by omega)⟩
      · have := tot_two (fupd f z m2) hx.1 hj hz c
        omega
    refine ⟨hs, ht.full, ht.own, fun j hj y y0 y1 => ?_⟩
    unfold byteOf
    show _ = if (fupd f z m2 j).fr (y / 8) = 0 then 0 else fset2 v2.by_ x (a % 8) b ((fupd f z m2 j).fr (y / 8) - 1) (y % 8)
    have hy := ht.fl j hj y y0 y1
    unfold byteOf at hy
    have hm2 := ht.sys.mo j hj
    have hlo := hm2.lo (y / 8)
    unfold fset2
    by_cases c : j = z ∧ y = a
    · obtain ⟨rfl, rfl⟩ := c
      rw [fupd_eq, fupd_eq, fset_eq, h2, if_neg (by omega), if_pos ⟨by omega, rfl⟩]
    · have e1 : fupd fl z (fset (fl z) a b) j y = fl j y := by
        by_cases d : j = z
        · subst d; rw [fupd_eq, fset_ne _ _ (fun q => c ⟨rfl, q⟩)]
        · rw [fupd_ne _ _ d]
      rw [e1, hy]
      split
      · rfl
      · rename_i d
        rw [if_neg (fun q => by
          have q1 := hone j hj (y / 8) (by omega)
          exact c ⟨q1.1, by omega⟩)]
  · rw [MS.store_bad e] at e0; exact absurd e0 e
theorem TV.store_no {v : VB} {f : Nat → MS} {k z : Nat} {fl : Nat → Int → Int} (h : TV v f k fl) (hz : z < k) {a b : Int} (e0 : ¬ ((f z).store v a b).1 = 0) : TV ((f z).store v a b).2.1 (fupd f z ((f z).store v a b).2.2) k fl := by
  by_cases e : ((f z).touch v a true).2.1 = 0
  · rw [MS.store_ok e] at e0; exact absurd rfl e0
  · rw [MS.store_bad e]; exact h.touch hz a true
theorem VB.take_err {v : VB} (h : ¬ v.take.2.1 = 0) : v.take.2.1 = 4 := by
  by_cases c : (v.bb.take 0).2.1 = 0
  · rw [VB.take_ok c] at h; exact absurd rfl h
  · rw [VB.take_no c]
    show (v.bb.take 0).2.1 = 4
    unfold BB.take at c ⊢
    rw [if_neg (by omega)] at c ⊢
    split
    · rfl
    · rename_i hq; rw [hq] at c; exact absurd rfl c
theorem MS.store_err {v : VB} {m : MS} {a b : Int} (hm : m.may a true = true) (e0 : ¬ (m.store v a b).1 = 0) : (m.store v a b).1 = 4 := by
  by_cases e : (m.touch v a true).2.1 = 0
  · rw [MS.store_ok e] at e0; exact absurd rfl e0
  · rw [MS.store_bad e]
    show (m.touch v a true).2.1 = 4
    rcases MS.touch_cases v m a true with ⟨q, _⟩ | ⟨_, ⟨ne, e2⟩ | ⟨_, _, e2⟩ | ⟨_, _, e2⟩ | ⟨_, _, _, e2⟩ | ⟨_, _, _, _, e2⟩⟩
    · rw [hm] at q; cases q
    · rw [e2]; exact VB.take_err ne
    all_goals (rw [e2] at e; exact absurd rfl e)
theorem MS.store_out {v : VB} {m : MS} {a b : Int} (hm : m.may a true = false) : (m.store v a b).1 = 10 := by
  have e := MS.touch_no (v := v) hm
  rw [MS.store_bad (by rw [e]; exact (by decide : ¬ (10 : Int) = 0)), e]
theorem MS.store_rng {v : VB} {m : MS} (hm : m.Ok) {a b : Int} (e0 : (m.store v a b).1 = 0) : 0 ≤ a ∧ a < 128 := by
  by_cases e : (m.touch v a true).2.1 = 0
  · exact MS.may_rng (MS.touch_at hm e).1
  · rw [MS.store_bad e] at e0; exact absurd e0 e
/-- a byte that is there is loaded, and nothing comes of it -/
theorem TV.load_same {v : VB} {f : Nat → MS} {k z : Nat} {fl : Nat → Int → Int} (h : TV v f k fl) (hz : z < k) {a : Int} (hw : (f z).wants a = false) (hm : (f z).may a false = true) : (f z).load v a = (fl z a, 0, v, f z) := by
  have h0 : ¬ (f z).fr (a / 8) = 0 := fun q => by
    unfold MS.wants at hw; rw [hm, q] at hw; simp at hw
  have e := MS.touch_old (v := v) hm h0 (.inl rfl)
  have hr := MS.may_rng hm
  rw [MS.load_ok (by rw [e]), e]
  have := h.fl z hz a hr.1 hr.2
  unfold byteOf at this
  rw [if_neg h0] at this
  rw [this]
/-! ### the flat bytes: a row of arrays -/
def flC (fl : Nat → Int → Int) (i : Nat) : Value := .int .u8 (fl (i / 128) ((i % 128 : Nat) : Int))
def flA (row : Int → Int) : Array Value := ((List.range 128).map fun (j : Nat) => Value.int .u8 (row (j : Int))).toArray
theorem flA_size (row : Int → Int) : (flA row).size = 128 := by simp [flA]
theorem flC_at (fl : Nat → Int → Int) (z j : Nat) (hj : j < 128) : flC fl (z * 128 + j) = .int .u8 (fl z (j : Int)) := by
  unfold flC
  rw [show (z * 128 + j) / 128 = z from by omega, show (z * 128 + j) % 128 = j from by omega]
theorem flC.agg (fl : Nat → Int → Int) {k : Nat} {z : Int} (h : 0 ≤ z ∧ z < k) : 0 + z.toNat * 128 + 128 ≤ k * 128 ∧ aggOf (flC fl) (0 + z.toNat * 128) 128 = .agg (flA (fl z.toNat)) := by
  refine ⟨by omega, ?_⟩
  unfold aggOf flA
  congr 2
  refine List.map_congr_left (fun j hj => ?_)
  rw [Nat.zero_add, flC_at fl _ j (List.mem_range.1 hj)]
theorem flC.ld (fl : Nat → Int → Int) {k : Nat} {z x : Int} (h : 0 ≤ z ∧ z < k) (hx : 0 ≤ x ∧ x < 128) : 0 + z.toNat * 128 + x.toNat * 1 < k * 128 ∧ flC fl (0 + z.toNat * 128 + x.toNat * 1) = .int .u8 (fl z.toNat x) := by
  refine ⟨by omega, ?_⟩
  rw [Nat.zero_add, Nat.mul_one, flC_at fl _ _ (by omega), show ((x.toNat : Nat) : Int) = x from by omega]
theorem flC.st (fl : Nat → Int → Int) {k : Nat} {z x : Int} (v : Int) (h : 0 ≤ z ∧ z < k) (hx : 0 ≤ x ∧ x < 128) : 0 + z.toNat * 128 + x.toNat * 1 < k * 128 ∧ upd (flC fl) (0 + z.toNat * 128 + x.toNat * 1) (.int .u8 v) = flC (fupd fl z.toNat (fset (fl z.toNat) x v)) := by
  refine ⟨by omega, ?_⟩
  funext i
  unfold upd flC
  by_cases c : i = 0 + z.toNat * 128 + x.toNat * 1
  · rw [if_pos c, show i / 128 = z.toNat from by omega, fupd_eq, show ((i % 128 : Nat) : Int) = x from by omega, fset_eq]
  · rw [if_neg c]
    by_cases d : i / 128 = z.toNat
    · rw [d, fupd_eq, fset_ne _ _ (by omega)]
    · rw [fupd_ne _ _ d]
theorem flC.app (fl : Nat → Int → Int) (k : Nat) (row : Int → Int) : ∀ i, i < (k + 1) * 128 → flC (fupd fl k row) i = if i < k * 128 then flC fl i else cellsOf (flA row) (i - k * 128) := fun i hi => by
  unfold flC
  by_cases c : i < k * 128
  · rw [if_pos c, fupd_ne _ _ (by omega)]
  · rw [if_neg c, show i / 128 = k from by omega, fupd_eq]
    have hj : i % 128 = i - k * 128 := by omega
    rw [hj]
    unfold cellsOf
    rw [Array.getD_eq_getD_getElem?]
    have : (flA row)[i - k * 128]? = some (.int .u8 (row ((i - k * 128 : Nat) : Int))) := by
      unfold flA
      rw [List.getElem?_toArray, List.getElem?_map, List.getElem?_range (by omega)]; rfl
    rw [this]; rfl
/-! ### the families without the reference -/
abbrev famT (P : Nat → Bool) (kb : Nat) (e : TypeId) (mb : Nat → Nat) (f : Nat → MS) (ps : Nat → Option Addr) (cs : Nat → Nat) : List Ent := [.cfam P mb 34 (cN kb f ps cs), .fam P (rN e f ps cs)]
abbrev oneT (kb b : Nat) (e : TypeId) (m : MS) (p : Option Addr) (c : Nat) : List Ent := [.cells b 0 34 (encN kb p (runs m.is_).length c m.fr m.own), frow p c e 3 (runs m.is_).length (rgC (runs m.is_))]
section
variable {W w : World} {S : Nat → Nat → Prop} {H H0 : List Ent} {kb : Nat} {e : TypeId} {mb : Nat → Nat} {f : Nat → MS} {ps : Nat → Option Addr} {cs : Nat → Nat}
theorem XM.outT {k z : Nat} (hz : z < k) (hp : Pick H0 (famT (ltP k) kb e mb f ps cs) H) (h : XM W S H0 w) : XM W S (.cells (mb z) 0 34 (encN kb (ps z) (runs (f z).is_).length (cs z) (f z).fr (f z).own) :: frow (ps z) (cs z) e 3 (runs (f z).is_).length (rgC (runs (f z).is_)) :: .cfam (outP (ltP k) z) mb 34 (cN kb f ps cs) :: .fam (outP (ltP k) z) (rN e f ps cs) :: H) w := by
  have h0 : XM W S (.cfam (ltP k) mb 34 (cN kb f ps cs) :: .fam (ltP k) (rN e f ps cs) :: H) w := h.perm hp.perm
  have h1 := XM.cfamOut z (ltP_iff.2 hz) h0
  have h2 := h1.perm (Pick.cons (.t2 .here) (Pick.nil)).perm
  simp only [List.cons_append, List.nil_append] at h2
  have h3 := XM.famOut z (ltP_iff.2 hz) h2
  have h4 := h3.perm (Pick.cons (.t2 .here) (.cons .here (.cons (.there .here) (.cons .here .nil)))).perm
  simp only [List.cons_append, List.nil_append] at h4
  rw [show (rN e f ps cs z).ent = frow (ps z) (cs z) e 3 (runs (f z).is_).length (rgC (runs (f z).is_)) from (frow_ent _ _ _ _ _).symm] at h4
  exact h4
theorem XM.inT {P : Nat → Bool} {z b : Nat} {m : MS} {p : Option Addr} {c : Nat} (hz : P z = false) (h : XM W S (oneT kb b e m p c ++ (famT P kb e mb f ps cs ++ H)) w) : XM W S (famT (inP P z) kb e (fupd mb z b) (fupd f z m) (fupd ps z p) (fupd cs z c) ++ H) w := by
  have h : XM W S (.cells b 0 34 (encN kb p (runs m.is_).length c m.fr m.own) :: frow p c e 3 (runs m.is_).length (rgC (runs m.is_)) :: .cfam P mb 34 (cN kb f ps cs) :: .fam P (rN e f ps cs) :: H) w := h
  have h0 := h.perm (Pick.cons .here (.cons (.there .here) .nil)).perm
  simp only [List.cons_append, List.nil_append] at h0
  have h1 := XM.cfamIn z (by omega) hz h0
  have h2 := h1.perm (Pick.cons (.there .here) (.cons (.there .here) .nil)).perm
  simp only [List.cons_append, List.nil_append] at h2
  rw [frow_ent] at h2
  have h3 := XM.famIn z hz h2
  have h4 := h3.perm (Pick.cons (.there .here) (.cons .here .nil)).perm
  simp only [List.cons_append, List.nil_append] at h4
  rw [cN_set, rN_set, bset_fupd] at h4
  exact h4
theorem XM.backT {k z : Nat} (m : MS) {p : Option Addr} {c : Nat} (hz : z < k) (hp : Pick H0 (oneT kb (mb z) e m p c ++ famT (outP (ltP k) z) kb e mb f ps cs) H) (h : XM W S H0 w) : XM W S (famT (ltP k) kb e mb (fupd f z m) (fupd ps z p) (fupd cs z c) ++ H) w := by
  have h1 := XM.inT (outP_at _ _) (h.perm (by have := hp.perm; rw [List.append_assoc] at this; exact this))
  rw [inout (ltP_iff.2 hz), fupd_self] at h1
  exact h1
theorem XM.sameT {k z : Nat} (hz : z < k) (hp : Pick H0 (oneT kb (mb z) e (f z) (ps z) (cs z) ++ famT (outP (ltP k) z) kb e mb f ps cs) H) (h : XM W S H0 w) : XM W S (famT (ltP k) kb e mb f ps cs ++ H) w := by
  have h1 := XM.backT (f z) hz hp h
  rwa [fupd_self, fupd_self, fupd_self] at h1
theorem XM.moreT {k b : Nat} (m : MS) {p : Option Addr} {c : Nat} (hp : Pick H0 (oneT kb b e m p c ++ famT (ltP k) kb e mb f ps cs) H) (h : XM W S H0 w) : XM W S (famT (ltP (k + 1)) kb e (fupd mb k b) (fupd f k m) (fupd ps k p) (fupd cs k c) ++ H) w := by
  have h1 := XM.inT (P := ltP k) (z := k) (by simp [ltP]) (h.perm (by have := hp.perm; rw [List.append_assoc] at this; exact this))
  rwa [inP_next] at h1
theorem XM.startT {b : Nat} (m : MS) {p : Option Addr} {c : Nat} (hp : Pick H0 (oneT kb b e m p c) H) (h : XM W S H0 w) : XM W S (famT (ltP 1) kb e (fupd (fun _ => 0) 0 b) (fupd (fun _ => MS.nil) 0 m) (fupd (fun _ => none) 0 p) (fupd (fun _ => 0) 0 c) ++ H) w := by
  have e0 : ltP 0 = fun _ => false := by funext j; simp [ltP]
  have h0 : XM W S (oneT kb b e m p c ++ H) w := h.perm hp.perm
  have h1 : XM W S (.cfam (ltP 0) (fun _ => 0) 34 (cN kb (fun _ => MS.nil) (fun _ => none) (fun _ => 0)) :: .fam (ltP 0) (rN e (fun _ => MS.nil) (fun _ => none) (fun _ => 0)) :: .cells b 0 34 (encN kb p (runs m.is_).length c m.fr m.own) :: frow p c e 3 (runs m.is_).length (rgC (runs m.is_)) :: H) w := by
    rw [e0]; exact XM.cfamNil (XM.famNil h0)
  exact XM.moreT (k := 0) m (Pick.cons (.t2 .here) (.cons (.t2 .here) (.cons .here (.cons .here .nil)))) h1
end
/-- the state of the statement's loop -/
structure VY where
  v : VB
  f : Nat → MS
  k : Nat
  fl : Nat → Int → Int
  mb : Nat → Nat
  ps : Nat → Option Addr
  cs : Nat → Nat
  pm : Option Addr
  cm : Nat
  pf : Option Addr
  cf : Nat
theorem cM_next (fr : Int → Int) (g : Int) {x : Int} (h : 0 ≤ x) : cM fr g (x + 1).toNat = cM fr g x.toNat + (if fr x = g + 1 then 1 else 0) := by
  rw [show (x + 1).toNat = x.toNat + 1 from by omega, cM, show ((x.toNat : Nat) : Int) = x from by omega]
theorem tot_next (f : Nat → MS) (g : Int) {y : Int} (h : 0 ≤ y) : tot f g (y + 1).toNat = tot f g y.toNat + cM (f y.toNat).fr g 16 := by
  rw [show (y + 1).toNat = y.toNat + 1 from by omega, tot]
theorem cntN_next (f : Int → Bool) {x : Int} (h : 0 ≤ x) : cntN f (x + 1).toNat = cntN f x.toNat + (if f x then 1 else 0) := by
  rw [show (x + 1).toNat = x.toNat + 1 from by omega, cntN, show ((x.toNat : Nat) : Int) = x from by omega]
section
variable {P : Program} {n : Fr} {Q : Exit → Act → World → Prop} {L : PF} {ops : Md} {rest : List Oper} {ty : TypeId} {pos : String} {af : Array Edge} {d : Nat} {W : World} {S : Nat → Nat → Prop} {H H' : List Ent}
theorem flA_one (row : Int → Int) : (newsOf (cellsOf (flA row)) 128).all one = true := by
  rw [List.all_eq_true]
  intro v hv
  simp only [newsOf, List.mem_map, List.mem_range] at hv
  obtain ⟨j, hj, rfl⟩ := hv
  unfold cellsOf
  rw [Array.getD_eq_getD_getElem?]
  have : (flA row)[j]? = some (.int .u8 (row (j : Int))) := by
    unfold flA
    rw [List.getElem?_toArray, List.getElem?_map, List.getElem?_range hj]; rfl
  rw [this]; rfl
theorem XO.appendY {t e : TypeId} {x y : Operand} {p : Option Addr} {cap c b k : Nat} {fl : Nat → Int → Int} {row : Int → Int} (hx : ev L x = some (.slice p k cap)) (hy : ev L y = some (.slice (some ⟨b, 0, none⟩) 1 c))
    (ht : P.underlying t = some (.slice e)) (hr : rowT P e 128 = true) (hH : Del H (frow p cap e 128 k (flC fl)) H') (hN : Has H (.cells b 0 128 (cellsOf (flA row)))) (hk : k + 1 ≤ 100000000000) (hd : Nat.blt d n.sz = true)
    (h : ∀ p' cap', XO P n ops Q rest ((d, .slice p' (k + 1) cap') :: L) (XM W S (frow p' cap' e 128 (k + 1) (flC (fupd fl k row)) :: H'))) :
    XO P n ops Q (⟨some d, .call ⟨.builtin .append, #[x, y], #[t, t]⟩, ty, pos, af, none⟩ :: rest) L (XM W S H) :=
  XO.appendF (C2 := flC (fupd fl k row)) hx hy ht hr hH hN rfl (flA_one row) (by omega) hk (flC.app fl k row) hd h
end
theorem flat0 : (flA (fun _ => 0)).toList = newsOf (flC (fupd (fun _ _ => 0) 0 (fun _ => 0))) (1 * 128) := by
  rw [fupd_self (fun _ _ => (0 : Int)) 0]
  unfold flA newsOf
  rw [List.toList_toArray]
  refine List.map_congr_left (fun j hj => ?_)
  have hj := List.mem_range.1 hj
  rfl
theorem TV.init' : TV VB.init (fupd (fun _ => MS.nil) 0 MS.nil) 1 (fupd (fun _ _ => 0) 0 (fun _ => 0)) := by
  rw [fupd_self (fun _ => MS.nil) 0, fupd_self (fun _ _ => (0 : Int)) 0]; exact TV.init
theorem fl_next {fl : Nat → Int → Int} {z : Nat} {r : Int → Int} {a y : Int} (h : a ≤ y) : fupd (fupd fl z (setI r a (y - a) 0)) z (fset (fupd fl z (setI r a (y - a) 0) z) y 0) = fupd fl z (setI r a (y + 1 - a) 0) := by
  funext j
  by_cases c : j = z
  · subst c; rw [fupd_eq, fupd_eq, fupd_eq, setI_grow h rfl]
  · rw [fupd_ne _ _ c, fupd_ne _ _ c, fupd_ne _ _ c]
theorem fl_first {fl : Nat → Int → Int} {z : Nat} {a : Int} : fupd fl z (setI (fl z) a (a - a) 0) = fl := by rw [setI_none, fupd_self]
/-- how many pages of all memories below y, and of memory y below x, say each frame -/
def tC (f : Nat → MS) (y x : Int) : Int → Int := fun g => tot f g y.toNat + cM (f y.toNat).fr g x.toNat
theorem tC_zero (f : Nat → MS) (y : Int) : tC f y 0 = fun g => tot f g y.toNat := by funext g; unfold tC; show _ + 0 = _; omega
theorem tC_hit (f : Nat → MS) {y x : Int} (hx : 0 ≤ x) : fset (tC f y x) ((f y.toNat).fr x - 1) (tC f y x ((f y.toNat).fr x - 1) + 1) = tC f y (x + 1) := by
  funext g
  unfold tC fset
  rw [cM_next _ _ hx]
  by_cases c : g = (f y.toNat).fr x - 1
  · subst c; rw [if_pos rfl, if_pos (by omega)]; omega
  · rw [if_neg c, if_neg (by omega)]
    show tot f g y.toNat + cM (f y.toNat).fr g x.toNat = tot f g y.toNat + (cM (f y.toNat).fr g x.toNat + 0)
    omega
theorem tC_miss (f : Nat → MS) {y x : Int} (hx : 0 ≤ x) (h : (f y.toNat).fr x ≤ 0) : encI (tC f y (x + 1)) 64 = encI (tC f y x) 64 := encI_congr (fun g a _ => by
  show tot f g y.toNat + cM (f y.toNat).fr g (x + 1).toNat = tot f g y.toNat + cM (f y.toNat).fr g x.toNat
  rw [cM_next _ _ hx, if_neg (by omega)]; omega)
theorem tC_end (f : Nat → MS) {y : Int} (hy : 0 ≤ y) : (fun g => tot f g (y + 1).toNat) = tC f y 16 := by
  funext g; unfold tC; rw [tot_next _ _ hy]; rfl
section
variable {W w : World} {S : Nat → Nat → Prop} {H H0 : List Ent} {kb : Nat} {e : TypeId} {mb : Nat → Nat} {f : Nat → MS} {ps : Nat → Option Addr} {cs : Nat → Nat}
theorem XM.backI {k z : Nat} {m : MS} (hi : m.is_ = (f z).is_) (hz : z < k) (hp : Pick H0 ([.cells (mb z) 0 34 (encN kb (ps z) (runs (f z).is_).length (cs z) m.fr m.own), frow (ps z) (cs z) e 3 (runs (f z).is_).length (rgC (runs (f z).is_))] ++ famT (outP (ltP k) z) kb e mb f ps cs) H) (h : XM W S H0 w) : XM W S (famT (ltP k) kb e mb (fupd f z m) (fupd ps z (ps z)) (fupd cs z (cs z)) ++ H) w := by
  rw [← hi] at hp
  exact XM.backT m hz hp h
end

end Go.X
