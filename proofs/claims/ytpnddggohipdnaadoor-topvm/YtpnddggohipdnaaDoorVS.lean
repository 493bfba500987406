import Derived.Test.YtpnddggohipdnaaDoorVLM
namespace Go.X
open Go
/-! ### all memories of a bank: how many pages say a frame -/
def cM (fr : Int → Int) (g : Int) : Nat → Int
  | 0 => 0
  | k + 1 => cM fr g k + (if fr k = g + 1 then 1 else 0)
theorem cM_nn (fr : Int → Int) (g : Int) : ∀ k, 0 ≤ cM fr g k ∧ cM fr g k ≤ k
  | 0 => by simp [cM]
  | k + 1 => by have := cM_nn fr g k; rw [cM]; split <;> omega
theorem cM_skip (fr : Int → Int) {g n z : Int} : ∀ {k : Nat}, (k : Int) ≤ n → cM (fset fr n z) g k = cM fr g k
  | 0, _ => rfl
  | k + 1, h => by rw [cM, cM, cM_skip fr (k := k) (by omega), fset_ne _ _ (by omega)]
theorem cM_fset (fr : Int → Int) {g n z : Int} (h0 : 0 ≤ n) : ∀ {k : Nat}, n < k → cM (fset fr n z) g k = cM fr g k - (if fr n = g + 1 then 1 else 0) + (if z = g + 1 then 1 else 0)
  | 0, h => by simp at h; omega
  | k + 1, h => by
    rw [cM, cM]
    by_cases c : n = k
    · subst c
      rw [cM_skip fr (by omega), fset_eq]; omega
    · rw [cM_fset fr h0 (k := k) (by omega), fset_ne _ _ (by omega)]; omega
theorem cM_pos {fr : Int → Int} {g i : Int} (h0 : 0 ≤ i) (e : fr i = g + 1) : ∀ {k : Nat}, i < k → 1 ≤ cM fr g k
  | 0, h => by simp at h; omega
  | k + 1, h => by
    rw [cM]
    by_cases c : i = k
    · rw [← c, if_pos e]; have := cM_nn fr g k; omega
    · have := cM_pos h0 e (k := k) (by omega); split <;> omega
theorem cM_congr {f f' : Int → Int} {g : Int} : ∀ {k : Nat}, (∀ i : Int, 0 ≤ i → i < k → f i = f' i) → cM f g k = cM f' g k
  | 0, _ => rfl
  | k + 1, h => by rw [cM, cM, cM_congr (k := k) (fun i a b => h i a (by omega)), h k (by omega) (by omega)]
def cA (fr : Int → Int) (a g : Int) : Nat → Int
  | 0 => 0
  | k + 1 => cA fr a g k + (if fr (a + k) = g + 1 then 1 else 0)
theorem cM_cut (fr : Int → Int) {a g : Int} (h0 : 0 ≤ a) (hg : 0 ≤ g) : ∀ {k : Nat}, a + k ≤ 16 → cM (setI fr a k 0) g 16 = cM fr g 16 - cA fr a g k
  | 0, _ => by
    have e := setI_none fr a 0
    rw [show a - a = ((0 : Nat) : Int) from by omega] at e
    rw [cA, e]; omega
  | k + 1, h => by
    have e : setI fr a ((k + 1 : Nat) : Int) 0 = fset (setI fr a k 0) (a + k) 0 := by
      have := setI_grow (f := fr) (a := a) (i := a + k) (v := 0) (u := 0) (by omega) rfl
      rw [show a + (k : Int) - a = k from by omega, show a + (k : Int) + 1 - a = ((k + 1 : Nat) : Int) from by omega] at this
      exact this.symm
    have e2 : setI fr a k 0 (a + k) = fr (a + k) := by unfold setI; rw [if_neg (by omega)]
    rw [e, cM_fset _ (by omega) (by omega), cM_cut fr h0 hg (k := k) (by omega), e2, cA, if_neg (c := (0 : Int) = g + 1) (by omega)]; omega
/-- how a bank stands, if so many pages say each frame -/
structure Acc (v : VB) (F : Int → Int) : Prop where
  ok : v.Ok
  rf : ∀ g, 0 ≤ g → g < 64 → v.rf g = F g
  us : ∀ g, 0 ≤ g → g < 64 → v.bb.usedOf g = if F g = 0 then 0 else 1
theorem Acc.congr {v : VB} {F G : Int → Int} (h : Acc v F) (e : ∀ g, 0 ≤ g → g < 64 → F g = G g) : Acc v G :=
  ⟨h.ok, fun g a b => (h.rf g a b).trans (e g a b), fun g a b => by rw [h.us g a b, e g a b]⟩
theorem Acc.copy {v : VB} {F : Int → Int} (h : Acc v F) (f g : Int) : Acc (v.copy f g) F := ⟨h.ok.copy f g, h.rf, h.us⟩
theorem Acc.take {v : VB} {F : Int → Int} (h : Acc v F) (e : v.take.2.1 = 0) : (0 ≤ v.take.1 ∧ v.take.1 < 64) ∧ F v.take.1 = 0 ∧ Acc v.take.2.2 (fset F v.take.1 1) := by
  have c : (v.bb.take 0).2.1 = 0 := by
    by_cases c : (v.bb.take 0).2.1 = 0
    · exact c
    · rw [VB.take_no c] at e; exact e
  obtain ⟨_, hr, hu, _, hn⟩ := h.ok.bb.take_win c
  have hF : F (v.bb.take 0).1 = 0 := by
    have := h.us _ hr.1 hr.2
    rw [hu] at this
    by_cases q : F (v.bb.take 0).1 = 0
    · exact q
    · rw [if_neg q] at this; omega
  have ho := h.ok.take
  rw [VB.take_ok c] at ho ⊢
  refine ⟨hr, hF, ho, fun g a b => ?_, fun g a b => ?_⟩
  · show fset v.rf (v.bb.take 0).1 1 g = fset F (v.bb.take 0).1 1 g
    unfold fset; split
    · rfl
    · exact h.rf g a b
  · show (v.bb.take 0).2.2.usedOf g = _
    rw [hn]
    unfold fset; split
    · rfl
    · exact h.us g a b
theorem Acc.drop {v : VB} {F : Int → Int} (h : Acc v F) {g : Int} (hg : 0 ≤ g ∧ g < 64) (h1 : 1 ≤ F g) : Acc (v.drop g) (fset F g (F g - 1)) := by
  have hr := h.rf g hg.1 hg.2
  refine ⟨h.ok.drop (by omega), fun x a b => ?_, fun x a b => ?_⟩
  · rw [(VB.drop_rf v g).1]
    unfold fset; split
    · omega
    · exact h.rf x a b
  · have hu := h.us g hg.1 hg.2
    rw [if_neg (by omega)] at hu
    by_cases c : v.rf g - 1 = 0
    · rw [VB.drop_p c]
      have ht : v.bb.tk g = true := by
        unfold BB.usedOf at hu
        cases q : v.bb.tk g with
        | true => rfl
        | false => rw [q] at hu; simp at hu
      have hw := (h.ok.bb.give_win (a := g) (by rw [BB.give_is, BB.is_ok (by omega) ht])).2.2.1
      show (v.bb.give g).2.usedOf x = _
      rw [hw]
      unfold fset; split
      · rw [if_pos (by omega)]
      · exact h.us x a b
    · rw [VB.drop_n c]
      show v.bb.usedOf x = _
      unfold fset; split
      · rename_i q; subst q; rw [if_neg (by omega)]; exact hu
      · exact h.us x a b
theorem Acc.unN {v : VB} {F : Int → Int} {fr : Int → Int} {a : Int} (hl : ∀ i, 0 ≤ fr i ∧ fr i ≤ 64) : ∀ (k : Nat), Acc v F → (∀ g, 0 ≤ g → g < 64 → cA fr a g k ≤ F g) → Acc (unN v fr a k).2 (fun g => F g - cA fr a g k)
  | 0, h, _ => h.congr (fun g _ _ => by simp [cA])
  | k + 1, h, hF => by
    have ih := Acc.unN (a := a) hl k h (fun g a1 b => by have := hF g a1 b; rw [cA] at this; split at this <;> omega)
    rw [Go.X.unN]
    unfold unS
    have hk := hl (a + k)
    split
    · rename_i c
      have h1 := hF (fr (a + k) - 1) (by omega) (by omega)
      rw [cA, if_pos (by omega)] at h1
      refine (ih.drop (g := fr (a + k) - 1) (by omega) (by show 1 ≤ F _ - cA _ _ _ _; omega)).congr (fun g x y => ?_)
      unfold fset
      show (if g = fr (a + k) - 1 then F (fr (a + k) - 1) - cA fr a (fr (a + k) - 1) k - 1 else F g - cA fr a g k) = F g - cA fr a g (k + 1)
      rw [cA]
      by_cases q : g = fr (a + k) - 1
      · subst q; rw [if_pos rfl, if_pos (by omega)]; omega
      · rw [if_neg q, if_neg (by omega)]; omega
    · refine ih.congr (fun g x y => ?_)
      show F g - cA fr a g k = F g - cA fr a g (k + 1)
      rw [cA, if_neg (by omega)]; omega
theorem upN_cM {rf fr : Int → Int} {g : Int} (hg : 0 ≤ g) (hl : ∀ i, 0 ≤ fr i) : ∀ k, upN rf fr k g = rf g + cM fr g k
  | 0 => by simp [upN, cM]
  | k + 1 => by
    have ih := upN_cM (rf := rf) hg hl k
    have := hl k
    rw [upN, cM]
    split
    · unfold fset; split
      · rename_i c; subst c; rw [ih, if_pos (by omega)]; omega
      · rw [ih, if_neg (by omega)]; omega
    · rw [ih, if_neg (by omega)]; omega
theorem upN_range {rf fr : Int → Int} (hl : ∀ i, 0 ≤ fr i ∧ fr i ≤ 64) {g : Int} (hg : g < 0 ∨ 64 ≤ g) : ∀ k, upN rf fr k g = rf g
  | 0 => rfl
  | k + 1 => by
    have := hl k
    rw [upN]; split
    · rw [fset_ne _ _ (by omega)]; exact upN_range hl hg k
    · exact upN_range hl hg k
theorem Acc.fork {v : VB} {F : Int → Int} (h : Acc v F) {m : MS} (hm : m.Ok) (hF : ∀ g, 0 ≤ g → g < 64 → cM m.fr g 16 ≤ F g ∧ F g ≤ 1000) : Acc (v.fork m) (fun g => F g + cM m.fr g 16) := by
  have e : ∀ g, 0 ≤ g → g < 64 → (v.fork m).rf g = F g + cM m.fr g 16 := fun g a b => by
    show upN v.rf m.fr 16 g = _
    rw [upN_cM a (fun i => (hm.lo i).1), h.rf g a b]
  refine ⟨⟨h.ok.bb, fun g => ?_, h.ok.by_⟩, e, fun g a b => ?_⟩
  · by_cases q : 0 ≤ g ∧ g < 64
    · rw [e g q.1 q.2]
      have := hF g q.1 q.2; have := cM_nn m.fr g 16; omega
    · show 0 ≤ upN v.rf m.fr 16 g ∧ _
      rw [show (v.fork m).rf g = upN v.rf m.fr 16 g from rfl, upN_range hm.lo (by omega)]; exact h.ok.rf g
  · show v.bb.usedOf g = _
    rw [h.us g a b]
    have := hF g a b; have := cM_nn m.fr g 16
    by_cases q : F g = 0
    · rw [if_pos q, if_pos (by omega)]
    · rw [if_neg q, if_neg (by omega)]
/-- all memories together -/
def tot (f : Nat → MS) (g : Int) : Nat → Int
  | 0 => 0
  | k + 1 => tot f g k + cM (f k).fr g 16
def fupd {α : Type} (f : Nat → α) (z : Nat) (m : α) : Nat → α := fun j => if j = z then m else f j
theorem fupd_eq {α : Type} (f : Nat → α) (z : Nat) (m : α) : fupd f z m z = m := if_pos rfl
theorem fupd_ne {α : Type} (f : Nat → α) {z j : Nat} (m : α) (h : j ≠ z) : fupd f z m j = f j := if_neg h
theorem fupd_self {α : Type} (f : Nat → α) (z : Nat) : fupd f z (f z) = f := by
  funext j; unfold fupd; split
  · rename_i c; rw [c]
  · rfl
theorem tot_nn (f : Nat → MS) (g : Int) : ∀ k, 0 ≤ tot f g k ∧ tot f g k ≤ 16 * k
  | 0 => by simp [tot]
  | k + 1 => by have := tot_nn f g k; have := cM_nn (f k).fr g 16; rw [tot]; omega
theorem tot_skip (f : Nat → MS) (g : Int) {z : Nat} {m : MS} : ∀ {k : Nat}, k ≤ z → tot (fupd f z m) g k = tot f g k
  | 0, _ => rfl
  | k + 1, h => by rw [tot, tot, tot_skip f g (k := k) (by omega), fupd_ne _ _ (by omega)]
theorem tot_upd (f : Nat → MS) (g : Int) {z : Nat} {m : MS} : ∀ {k : Nat}, z < k → tot (fupd f z m) g k = tot f g k - cM (f z).fr g 16 + cM m.fr g 16
  | 0, h => by omega
  | k + 1, h => by
    rw [tot, tot]
    by_cases c : z = k
    · subst c; rw [tot_skip f g (Nat.le_refl _), fupd_eq]; omega
    · rw [tot_upd f g (k := k) (by omega), fupd_ne _ _ (by omega)]; omega
theorem tot_ge (f : Nat → MS) (g : Int) {z : Nat} : ∀ {k : Nat}, z < k → cM (f z).fr g 16 ≤ tot f g k
  | 0, h => by omega
  | k + 1, h => by
    rw [tot]
    have := tot_nn f g k; have := cM_nn (f k).fr g 16
    by_cases c : z = k
    · subst c; omega
    · have := tot_ge f g (z := z) (k := k) (by omega); omega
structure Sys (v : VB) (f : Nat → MS) (k : Nat) : Prop where
  acc : Acc v (fun g => tot f g k)
  mo : ∀ j, j < k → (f j).Ok
theorem MS.Ok.rng {m : MS} (h : m.Ok) {i : Int} (hi : 0 < m.fr i) : 0 ≤ i ∧ i < 16 := by
  by_cases c : 0 ≤ i ∧ i < 16
  · exact c
  · have := h.un i (h.f.out i (by omega)); omega
theorem Sys.In {v : VB} {f : Nat → MS} {k z : Nat} (h : Sys v f k) (hz : z < k) : (f z).In v := fun i hi => by
  have hm := h.mo z hz
  have hr := hm.rng hi
  have hl := hm.lo i
  rw [h.acc.rf _ (by omega) (by omega)]
  have h1 := cM_pos (fr := (f z).fr) (g := (f z).fr i - 1) hr.1 (by omega) (k := 16) (by omega)
  have h2 := tot_ge f ((f z).fr i - 1) hz
  show 1 ≤ tot f ((f z).fr i - 1) k
  omega
theorem Sys.free {v : VB} {f : Nat → MS} {k z : Nat} (h : Sys v f k) (hz : z < k) {x : Int} (h0 : tot f x k = 0) (i : Int) : (f z).fr i ≠ x + 1 ∨ x + 1 ≤ 0 := by
  by_cases c : (f z).fr i = x + 1 ∧ 0 < x + 1
  · have hr := (h.mo z hz).rng (i := i) (by omega)
    have h1 := cM_pos (fr := (f z).fr) (g := x) hr.1 c.1 (k := 16) (by omega)
    have h2 := tot_ge f x hz
    omega
  · by_cases d : (f z).fr i = x + 1
    · right; by_cases e : 0 < x + 1
      · exact absurd ⟨d, e⟩ c
      · omega
    · exact .inl d
/-- a memory that is changed without its frames -/
theorem Sys.same {v : VB} {f : Nat → MS} {k z : Nat} (h : Sys v f k) (hz : z < k) {m : MS} (hm : m.Ok) (e : m.fr = (f z).fr) : Sys v (fupd f z m) k :=
  ⟨h.acc.congr (fun g _ _ => by rw [tot_upd f g hz, e]; omega), fun j hj => by
    unfold fupd; split
    · exact hm
    · exact h.mo j hj⟩
theorem MS.Ok.page {m : MS} (h : m.Ok) {n x : Int} (hn : m.is_ n ≠ 0) (hx : 0 ≤ x ∧ x < 64) (hf : ∀ i, i ≠ n → m.fr i ≠ x + 1) : (m.page n x).Ok := by
  refine ⟨h.f, fun i => ?_, fun i hi => ?_, fun i hi => ?_, fun i j hi hij => ?_⟩
  · show 0 ≤ fset m.fr n (x + 1) i ∧ fset m.fr n (x + 1) i ≤ 64
    unfold fset; split
    · omega
    · exact h.lo i
  · show fset m.fr n (x + 1) i = 0
    have hi : m.is_ i = 0 := hi
    rw [fset_ne _ _ (fun (e : i = n) => hn (by rw [← e]; exact hi))]; exact h.un i hi
  · show fset m.own n true i = false
    have hi : fset m.fr n (x + 1) i = 0 := hi
    have c : i ≠ n := fun e => by rw [e, fset_eq] at hi; omega
    rw [fset_ne _ _ c] at hi ⊢; exact h.ow i hi
  · have hi : 0 < fset m.fr n (x + 1) i := hi
    have hij : fset m.fr n (x + 1) i = fset m.fr n (x + 1) j := hij
    by_cases c : i = n
    · by_cases d : j = n
      · omega
      · rw [c, fset_eq, fset_ne _ _ d] at hij
        exact absurd hij.symm (hf j d)
    · rw [fset_ne _ _ c] at hi hij
      by_cases d : j = n
      · rw [d, fset_eq] at hij
        exact absurd hij (hf i c)
      · rw [fset_ne _ _ d] at hij
        exact h.inj i j hi hij
theorem MS.may_is {m : MS} {a : Int} {w : Bool} (h : m.may a w = true) : m.is_ (a / 8) ≠ 0 := by
  intro e
  unfold MS.may at h
  rw [e] at h
  simp at h
theorem MS.own_ok {m : MS} (h : m.Ok) {n : Int} (hn : m.fr n ≠ 0) : ({ m with own := fset m.own n true } : MS).Ok :=
  ⟨h.f, h.lo, h.un, fun i hi => by
    show fset m.own n true i = false
    have hi : m.fr i = 0 := hi
    rw [fset_ne _ _ (fun (e : i = n) => hn (by rw [← e]; exact hi))]; exact h.ow i hi, h.inj⟩
theorem Sys.touch {v : VB} {f : Nat → MS} {k z : Nat} (h : Sys v f k) (hz : z < k) (a : Int) (w : Bool) : Sys ((f z).touch v a w).2.2.1 (fupd f z ((f z).touch v a w).2.2.2) k := by
  have hm := h.mo z hz
  have hl := hm.lo (a / 8)
  rcases MS.touch_cases v (f z) a w with ⟨_, e⟩ | ⟨hr, ⟨_, e⟩ | ⟨h0, q, e⟩ | ⟨_, _, e⟩ | ⟨h0, _, _, e⟩ | ⟨h0, q, r, _, e⟩⟩ <;> rw [e]
  · rw [fupd_self]; exact h
  · rw [fupd_self]; exact h
  · obtain ⟨hx, hF, ha⟩ := h.acc.take q
    have hF : tot f v.take.1 k = 0 := hF
    have hrg := MS.may_rng hr
    refine ⟨ha.congr (fun g a1 b => ?_), fun j hj => ?_⟩
    · rw [tot_upd f g hz]
      show fset (fun g => tot f g k) v.take.1 1 g = _ - _ + cM (fset (f z).fr (a / 8) (v.take.1 + 1)) g 16
      rw [cM_fset _ (by omega) (by omega), h0, if_neg (c := (0 : Int) = g + 1) (by omega)]
      unfold fset
      have e9 : (fun g => tot f g k) g = tot f g k := rfl
      by_cases c : g = v.take.1
      · subst c; rw [if_pos rfl, if_pos rfl]; omega
      · rw [if_neg c, if_neg (by omega)]; omega
    · unfold fupd; split
      · exact hm.page (MS.may_is hr) hx (fun i _ => by rcases h.free hz hF i with q | q <;> omega)
      · exact h.mo j hj
  · rw [fupd_self]; exact h
  · exact h.same hz (MS.own_ok hm h0) rfl
  · obtain ⟨hx, hF, ha⟩ := h.acc.take q
    have hF : tot f v.take.1 k = 0 := hF
    have hrg := MS.may_rng hr
    have hy : 1 ≤ tot f ((f z).fr (a / 8) - 1) k := by
      have h1 := cM_pos (fr := (f z).fr) (g := (f z).fr (a / 8) - 1) (i := a / 8) (by omega) (by omega) (k := 16) (by omega)
      have h2 := tot_ge f ((f z).fr (a / 8) - 1) hz
      omega
    have hne : (f z).fr (a / 8) - 1 ≠ v.take.1 := fun e => by rw [e] at hy; omega
    refine ⟨((ha.copy _ _).drop (g := (f z).fr (a / 8) - 1) (by omega) (by rw [fset_ne _ _ hne]; exact hy)).congr (fun g a1 b => ?_), fun j hj => ?_⟩
    · rw [tot_upd f g hz]
      show fset (fset (fun g => tot f g k) v.take.1 1) ((f z).fr (a / 8) - 1) _ g = _ - _ + cM (fset (f z).fr (a / 8) (v.take.1 + 1)) g 16
      rw [cM_fset _ (by omega) (by omega), fset_ne _ _ hne]
      by_cases c : g = (f z).fr (a / 8) - 1
      · rw [c, fset_eq, if_pos (by omega), if_neg (by omega)]; omega
      · rw [fset_ne _ _ c, if_neg (c := (f z).fr (a / 8) = g + 1) (by omega)]
        unfold fset
        have e9 : (fun g => tot f g k) g = tot f g k := rfl
        by_cases d : g = v.take.1
        · rw [d, if_pos rfl, if_pos rfl]; omega
        · rw [if_neg d, if_neg (by omega)]; omega
    · unfold fupd; split
      · exact hm.page (MS.may_is hr) hx (fun i _ => by rcases h.free hz hF i with q | q <;> omega)
      · exact h.mo j hj
theorem cA_le {fr : Int → Int} {a g : Int} (h0 : 0 ≤ a) (hg : 0 ≤ g) {k : Nat} (hk : a + k ≤ 16) : cA fr a g k ≤ cM fr g 16 := by
  have := cM_cut fr h0 hg hk
  have := cM_nn (setI fr a k 0) g 16
  omega
theorem Sys.unmap {v : VB} {f : Nat → MS} {k z : Nat} (h : Sys v f k) (hz : z < k) (a n : Int) : Sys ((f z).unmap v a n).2.2.1 (fupd f z ((f z).unmap v a n).2.2.2) k := by
  have hm := h.mo z hz
  by_cases hb : badS a n
  · rw [MS.unmap_bad hb]; rw [fupd_self]; exact h
  · have ho := hm.unmap (v := v) a n
    unfold MS.unmap at ho ⊢
    rw [if_neg hb] at ho ⊢
    unfold badS at hb
    have hn : ((n.toNat : Nat) : Int) = n := by omega
    refine ⟨(h.acc.unN hm.lo n.toNat (fun g a1 b => by
      have := cA_le (fr := (f z).fr) (a := a) (g := g) (by omega) a1 (k := n.toNat) (by omega)
      have := tot_ge f g hz
      show _ ≤ tot f g k
      omega)).congr (fun g a1 b => ?_), fun j hj => ?_⟩
    · rw [tot_upd f g hz]
      show tot f g k - _ = _ - _ + cM (setI (f z).fr a n 0) g 16
      have := cM_cut (f z).fr (a := a) (g := g) (by omega) a1 (k := n.toNat) (by omega)
      rw [hn] at this
      rw [this]; omega
    · unfold fupd; split
      · exact ho
      · exact h.mo j hj
theorem Sys.load {v : VB} {f : Nat → MS} {k z : Nat} (h : Sys v f k) (hz : z < k) (a : Int) : Sys ((f z).load v a).2.2.1 (fupd f z ((f z).load v a).2.2.2) k := by
  by_cases e : ((f z).touch v a false).2.1 = 0
  · rw [MS.load_ok e]; exact h.touch hz a false
  · rw [MS.load_bad e]; exact h.touch hz a false
theorem Sys.store {v : VB} {f : Nat → MS} {k z : Nat} (h : Sys v f k) (hz : z < k) (a b : Int) (hb : 0 ≤ b ∧ b < 256) : Sys ((f z).store v a b).2.1 (fupd f z ((f z).store v a b).2.2) k := by
  have ht := h.touch hz a true
  by_cases e : ((f z).touch v a true).2.1 = 0
  · rw [MS.store_ok e]
    refine ⟨⟨⟨ht.acc.ok.bb, ht.acc.ok.rf, fun x j => ?_⟩, ht.acc.rf, ht.acc.us⟩, ht.mo⟩
    show 0 ≤ fset2 ((f z).touch v a true).2.2.1.by_ ((f z).touch v a true).1 (a % 8) b x j ∧ fset2 ((f z).touch v a true).2.2.1.by_ ((f z).touch v a true).1 (a % 8) b x j < 256
    unfold fset2; split
    · exact hb
    · exact ht.acc.ok.by_ x j
  · rw [MS.store_bad e]; exact ht
theorem wrap_u8 (z : Int) : 0 ≤ IntKind.u8.wrap z ∧ IntKind.u8.wrap z < 256 := by
  have e : IntKind.u8.wrap z = z % 256 := rfl
  rw [e]; omega
theorem Sys.act {v : VB} {f : Nat → MS} {k z : Nat} (h : Sys v f k) (hz : z < k) (x : ActV) : Sys ((f z).act v x).1 (fupd f z ((f z).act v x).2) k := by
  have hm := h.mo z hz
  by_cases k1 : x.kind = kMap
  · rw [MS.act_map k1]; exact h.same hz (hm.map _ _ _) (MS.map_fr _ _ _ _).1
  by_cases k2 : x.kind = kUnmap
  · rw [MS.act_unmap k1 k2]; exact h.unmap hz _ _
  by_cases k3 : x.kind = kProt
  · rw [MS.act_prot k1 k2 k3]; exact h.same hz (hm.prot _ _ _) (MS.prot_fr _ _ _ _).1
  by_cases k4 : x.kind = kLoad
  · rw [MS.act_load k1 k2 k3 k4]; exact h.load hz _
  · rw [MS.act_store k1 k2 k3 k4]
    refine h.store hz _ _ ?_
    exact wrap_u8 _
theorem Sys.fork {v : VB} {f : Nat → MS} {k z : Nat} (h : Sys v f k) (hz : z < k) (hk : k ≤ 60) : Sys (v.fork (f z)) (fupd (fupd f z (f z).bare) k (f z).bare) (k + 1) := by
  have hm := h.mo z hz
  have hb : (f z).bare.Ok := ⟨hm.f, hm.lo, hm.un, fun _ _ => rfl, hm.inj⟩
  refine ⟨(h.acc.fork hm (fun g a b => ⟨tot_ge f g hz, by have := tot_nn f g k; show tot f g k ≤ 1000; omega⟩)).congr (fun g a b => ?_), fun j hj => ?_⟩
  · rw [tot, tot_skip _ g (Nat.le_refl _), tot_upd f g hz, fupd_eq]
    show _ = tot f g k - cM (f z).fr g 16 + cM (f z).fr g 16 + cM (f z).fr g 16
    omega
  · unfold fupd; split
    · exact hb
    · split
      · exact hb
      · exact h.mo j (by omega)
theorem Sys.init : Sys VB.init (fun _ => MS.nil) 1 := by
  have h0 : ∀ g : Int, 0 ≤ g → tot (fun _ => MS.nil) g 1 = 0 := fun g hg => by
    rw [tot, tot]
    have e : ∀ k, cM MS.nil.fr g k = 0 := fun k => by
      induction k with
      | zero => rfl
      | succ k ih => rw [cM, ih, show MS.nil.fr k = 0 from rfl, if_neg (by omega)]; rfl
    rw [e]; rfl
  refine ⟨⟨VB.Ok.init, fun g a b => (h0 g a).symm, fun g a b => ?_⟩, fun _ _ => MS.Ok.nil⟩
  show BB.init.usedOf g = _
  rw [if_pos (h0 g a)]
  rfl

end Go.X
