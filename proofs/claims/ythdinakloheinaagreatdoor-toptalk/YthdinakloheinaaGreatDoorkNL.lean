import Derived.Test.YthdinakloheinaaGreatDoorkVA
import Derived.Test.YthdinakloheinaaGreatDoorXLay
import Derived.Test.YthdinakloheinaaGreatDoorXBytes
import Derived.Test.YthdinakloheinaaGreatDoorXMore
import Derived.Test.YthdinakloheinaaGreatDoorXFam
namespace Go.X.Vm
open Go Go.X
/-! ### all memories of a bank: how many pages say a frame -/
def cM (fr : Int → Int) (g : Int) : Nat → Int
  | 0 => 0
  | k + 1 => cM fr g k + (if fr k = g + 1 then 1 else 0)
theorem cM_nn (fr : Int → Int) (g : Int) : ∀ k, 0 ≤ cM fr g k ∧ cM fr g k ≤ k
  | 0 => by simp [cM]
  | k + 1 => by have := cM_nn fr g k; rw [cM]; split <;> omega
theorem cM_skip (fr : Int → Int) {g n z : Int} : ∀ {k : Nat}, (k : Int) ≤ n → cM (fset fr n z) g k = cM fr g k
  | 0, _ => rfl
  | k + 1, h => by rw [cM, cM, cM_skip fr (k := k) (by omega), fset_ne _ _ (by omega)]
theorem cM_fset (fr : Int → Int) {g n z : Int} (h0 : 0 ≤ n) : ∀ {k : Nat}, n < k → cM (fset fr n z) g k = cM fr g k - (if fr n = g + 1 then 1 else 0) + (if z = g + 1 then 1 else 0)
  | 0, h => by simp at h; omega
  | k + 1, h => by
    rw [cM, cM]
    by_cases c : n = k
    · subst c
      rw [cM_skip fr (by omega), fset_eq]; omega
    · rw [cM_fset fr h0 (k := k) (by omega), fset_ne _ _ (by omega)]; omega
theorem cM_pos {fr : Int → Int} {g i : Int} (h0 : 0 ≤ i) (e : fr i = g + 1) : ∀ {k : Nat}, i < k → 1 ≤ cM fr g k
  | 0, h => by simp at h; omega
  | k + 1, h => by
    rw [cM]
    by_cases c : i = k
    · rw [← c, if_pos e]; have := cM_nn fr g k; omega
    · have := cM_pos h0 e (k := k) (by omega); split <;> omega
def cA (fr : Int → Int) (a g : Int) : Nat → Int
  | 0 => 0
  | k + 1 => cA fr a g k + (if fr (a + k) = g + 1 then 1 else 0)
theorem cM_cut (fr : Int → Int) {a g : Int} (h0 : 0 ≤ a) (hg : 0 ≤ g) : ∀ {k : Nat}, a + k ≤ 16 → cM (setI fr a k 0) g 16 = cM fr g 16 - cA fr a g k
  | 0, _ => by
    have e := setI_none fr a 0
    rw [show a - a = ((0 : Nat) : Int) from by omega] at e
    rw [cA, e]; omega
  | k + 1, h => by
    have e : setI fr a ((k + 1 : Nat) : Int) 0 = fset (setI fr a k 0) (a + k) 0 := by
      have := setI_grow (f := fr) (a := a) (i := a + k) (v := 0) (u := 0) (by omega) rfl
      rw [show a + (k : Int) - a = k from by omega, show a + (k : Int) + 1 - a = ((k + 1 : Nat) : Int) from by omega] at this
      exact this.symm
    have e2 : setI fr a k 0 (a + k) = fr (a + k) := by unfold setI; rw [if_neg (by omega)]
    rw [e, cM_fset _ (by omega) (by omega), cM_cut fr h0 hg (k := k) (by omega), e2, cA, if_neg (c := (0 : Int) = g + 1) (by omega)]; omega
/-- how a bank stands, if so many pages say each frame -/
structure Acc (v : VB) (F : Int → Int) : Prop where
  ok : v.Ok
  rf : ∀ g, 0 ≤ g → g < 64 → v.rf g = F g
  us : ∀ g, 0 ≤ g → g < 64 → v.bb.usedOf g = if F g = 0 then 0 else 1
theorem Acc.congr {v : VB} {F G : Int → Int} (h : Acc v F) (e : ∀ g, 0 ≤ g → g < 64 → F g = G g) : Acc v G :=
  ⟨h.ok, fun g a b => (h.rf g a b).trans (e g a b), fun g a b => by rw [h.us g a b, e g a b]⟩
theorem Acc.copy {v : VB} {F : Int → Int} (h : Acc v F) (f g : Int) : Acc (v.copy f g) F := ⟨h.ok.copy f g, h.rf, h.us⟩
theorem Acc.take {v : VB} {F : Int → Int} (h : Acc v F) (e : v.take.2.1 = 0) : (0 ≤ v.take.1 ∧ v.take.1 < 64) ∧ F v.take.1 = 0 ∧ Acc v.take.2.2 (fset F v.take.1 1) := by
  have c : (v.bb.take 0).2.1 = 0 := by
    by_cases c : (v.bb.take 0).2.1 = 0
    · exact c
    · rw [VB.take_no c] at e; exact e
  obtain ⟨_, hr, hu, _, hn⟩ := h.ok.bb.take_win c
  have hF : F (v.bb.take 0).1 = 0 := by
    have := h.us _ hr.1 hr.2
    rw [hu] at this
    by_cases q : F (v.bb.take 0).1 = 0
    · exact q
    · rw [if_neg q] at this; omega
  have ho := h.ok.take
  rw [VB.take_ok c] at ho ⊢
  refine ⟨hr, hF, ho, fun g a b => ?_, fun g a b => ?_⟩
  · show fset v.rf (v.bb.take 0).1 1 g = fset F (v.bb.take 0).1 1 g
    unfold fset; split
    · rfl
    · exact h.rf g a b
  · show (v.bb.take 0).2.2.usedOf g = _
    rw [hn]
    unfold fset; split
    · rfl
    · exact h.us g a b
theorem Acc.drop {v : VB} {F : Int → Int} (h : Acc v F) {g : Int} (hg : 0 ≤ g ∧ g < 64) (h1 : 1 ≤ F g) : Acc (v.drop g) (fset F g (F g - 1)) := by
  have hr := h.rf g hg.1 hg.2
  refine ⟨h.ok.drop (by omega), fun x a b => ?_, fun x a b => ?_⟩
  · rw [(VB.drop_rf v g).1]
    unfold fset; split
    · omega
    · exact h.rf x a b
  · have hu := h.us g hg.1 hg.2
    rw [if_neg (by omega)] at hu
    by_cases c : v.rf g - 1 = 0
    · rw [VB.drop_p c]
      have ht : v.bb.tk g = true := by
        unfold BB.usedOf at hu
        cases q : v.bb.tk g with
        | true => rfl
        | false => rw [q] at hu; simp at hu
      have hw := (h.ok.bb.give_win (a := g) (by rw [BB.give_is, BB.is_ok (by omega) ht])).2.2.1
      show (v.bb.give g).2.usedOf x = _
      rw [hw]
      unfold fset; split
      · rw [if_pos (by omega)]
      · exact h.us x a b
    · rw [VB.drop_n c]
      show v.bb.usedOf x = _
      unfold fset; split
      · rename_i q; subst q; rw [if_neg (by omega)]; exact hu
      · exact h.us x a b
theorem Acc.unN {v : VB} {F : Int → Int} {fr : Int → Int} {a : Int} (hl : ∀ i, 0 ≤ fr i ∧ fr i ≤ 64) : ∀ (k : Nat), Acc v F → (∀ g, 0 ≤ g → g < 64 → cA fr a g k ≤ F g) → Acc (unN v fr a k).2 (fun g => F g - cA fr a g k)
  | 0, h, _ => h.congr (fun g _ _ => by simp [cA])
  | k + 1, h, hF => by
    have ih := Acc.unN (a := a) hl k h (fun g a1 b => by have := hF g a1 b; rw [cA] at this; split at this <;> omega)
    rw [Go.X.Vm.unN]
    unfold unS
    have hk := hl (a + k)
    split
    · rename_i c
      have h1 := hF (fr (a + k) - 1) (by omega) (by omega)
      rw [cA, if_pos (by omega)] at h1
      refine (ih.drop (g := fr (a + k) - 1) (by omega) (by show 1 ≤ F _ - cA _ _ _ _; omega)).congr (fun g x y => ?_)
      unfold fset
      show (if g = fr (a + k) - 1 then F (fr (a + k) - 1) - cA fr a (fr (a + k) - 1) k - 1 else F g - cA fr a g k) = F g - cA fr a g (k + 1)
      rw [cA]
      by_cases q : g = fr (a + k) - 1
      · subst q; rw [if_pos rfl, if_pos (by omega)]; omega
      · rw [if_neg q, if_neg (by omega)]; omega
    · refine ih.congr (fun g x y => ?_)
      show F g - cA fr a g k = F g - cA fr a g (k + 1)
      rw [cA, if_neg (by omega)]; omega
theorem upN_cM {rf fr : Int → Int} {g : Int} (hg : 0 ≤ g) (hl : ∀ i, 0 ≤ fr i) : ∀ k, upN rf fr k g = rf g + cM fr g k
  | 0 => by simp [upN, cM]
  | k + 1 => by
    have ih := upN_cM (rf := rf) hg hl k
    have := hl k
    rw [upN, cM]
    split
    · unfold fset; split
      · rename_i c; subst c; rw [ih, if_pos (by omega)]; omega
      · rw [ih, if_neg (by omega)]; omega
    · rw [ih, if_neg (by omega)]; omega
theorem upN_range {rf fr : Int → Int} (hl : ∀ i, 0 ≤ fr i ∧ fr i ≤ 64) {g : Int} (hg : g < 0 ∨ 64 ≤ g) : ∀ k, upN rf fr k g = rf g
  | 0 => rfl
  | k + 1 => by
    have := hl k
    rw [upN]; split
    · rw [fset_ne _ _ (by omega)]; exact upN_range hl hg k
    · exact upN_range hl hg k
theorem Acc.fork {v : VB} {F : Int → Int} (h : Acc v F) {m : MS} (hm : m.Ok) (hF : ∀ g, 0 ≤ g → g < 64 → cM m.fr g 16 ≤ F g ∧ F g ≤ 1000) : Acc (v.fork m) (fun g => F g + cM m.fr g 16) := by
  have e : ∀ g, 0 ≤ g → g < 64 → (v.fork m).rf g = F g + cM m.fr g 16 := fun g a b => by
    show upN v.rf m.fr 16 g = _
    rw [upN_cM a (fun i => (hm.lo i).1), h.rf g a b]
  refine ⟨⟨h.ok.bb, fun g => ?_, h.ok.by_⟩, e, fun g a b => ?_⟩
  · by_cases q : 0 ≤ g ∧ g < 64
    · rw [e g q.1 q.2]
      have := hF g q.1 q.2; have := cM_nn m.fr g 16; omega
    · show 0 ≤ upN v.rf m.fr 16 g ∧ _
      rw [show (v.fork m).rf g = upN v.rf m.fr 16 g from rfl, upN_range hm.lo (by omega)]; exact h.ok.rf g
  · show v.bb.usedOf g = _
    rw [h.us g a b]
    have := hF g a b; have := cM_nn m.fr g 16
    by_cases q : F g = 0
    · rw [if_pos q, if_pos (by omega)]
    · rw [if_neg q, if_neg (by omega)]
/-- all memories together -/
def tot (f : Nat → MS) (g : Int) : Nat → Int
  | 0 => 0
  | k + 1 => tot f g k + cM (f k).fr g 16
def fupd {α : Type} (f : Nat → α) (z : Nat) (m : α) : Nat → α := fun j => if j = z then m else f j
theorem fupd_eq {α : Type} (f : Nat → α) (z : Nat) (m : α) : fupd f z m z = m := if_pos rfl
theorem fupd_ne {α : Type} (f : Nat → α) {z j : Nat} (m : α) (h : j ≠ z) : fupd f z m j = f j := if_neg h
theorem fupd_self {α : Type} (f : Nat → α) (z : Nat) : fupd f z (f z) = f := by
  funext j; unfold fupd; split
  · rename_i c; rw [c]
  · rfl
theorem tot_nn (f : Nat → MS) (g : Int) : ∀ k, 0 ≤ tot f g k ∧ tot f g k ≤ 16 * k
  | 0 => by simp [tot]
  | k + 1 => by have := tot_nn f g k; have := cM_nn (f k).fr g 16; rw [tot]; omega
theorem tot_skip (f : Nat → MS) (g : Int) {z : Nat} {m : MS} : ∀ {k : Nat}, k ≤ z → tot (fupd f z m) g k = tot f g k
  | 0, _ => rfl
  | k + 1, h => by rw [tot, tot, tot_skip f g (k := k) (by omega), fupd_ne _ _ (by omega)]
theorem tot_upd (f : Nat → MS) (g : Int) {z : Nat} {m : MS} : ∀ {k : Nat}, z < k → tot (fupd f z m) g k = tot f g k - cM (f z).fr g 16 + cM m.fr g 16
  | 0, h => by omega
  | k + 1, h => by
    rw [tot, tot]
    by_cases c : z = k
    · subst c; rw [tot_skip f g (Nat.le_refl _), fupd_eq]; omega
    · rw [tot_upd f g (k := k) (by omega), fupd_ne _ _ (by omega)]; omega
theorem tot_ge (f : Nat → MS) (g : Int) {z : Nat} : ∀ {k : Nat}, z < k → cM (f z).fr g 16 ≤ tot f g k
  | 0, h => by omega
  | k + 1, h => by
    rw [tot]
    have := tot_nn f g k; have := cM_nn (f k).fr g 16
    by_cases c : z = k
    · subst c; omega
    · have := tot_ge f g (z := z) (k := k) (by omega); omega
structure Sys (v : VB) (f : Nat → MS) (k : Nat) : Prop where
  acc : Acc v (fun g => tot f g k)
  mo : ∀ j, j < k → (f j).Ok
theorem MS.Ok.rng {m : MS} (h : m.Ok) {i : Int} (hi : 0 < m.fr i) : 0 ≤ i ∧ i < 16 := by
  by_cases c : 0 ≤ i ∧ i < 16
  · exact c
  · have := h.un i (h.f.out i (by omega)); omega
theorem Sys.In {v : VB} {f : Nat → MS} {k z : Nat} (h : Sys v f k) (hz : z < k) : (f z).In v := fun i hi => by
  have hm := h.mo z hz
  have hr := hm.rng hi
  have hl := hm.lo i
  rw [h.acc.rf _ (by omega) (by omega)]
  have h1 := cM_pos (fr := (f z).fr) (g := (f z).fr i - 1) hr.1 (by omega) (k := 16) (by omega)
  have h2 := tot_ge f ((f z).fr i - 1) hz
  show 1 ≤ tot f ((f z).fr i - 1) k
  omega
theorem Sys.free {v : VB} {f : Nat → MS} {k z : Nat} (h : Sys v f k) (hz : z < k) {x : Int} (h0 : tot f x k = 0) (i : Int) : (f z).fr i ≠ x + 1 ∨ x + 1 ≤ 0 := by
  by_cases c : (f z).fr i = x + 1 ∧ 0 < x + 1
  · have hr := (h.mo z hz).rng (i := i) (by omega)
    have h1 := cM_pos (fr := (f z).fr) (g := x) hr.1 c.1 (k := 16) (by omega)
    have h2 := tot_ge f x hz
    omega
  · by_cases d : (f z).fr i = x + 1
    · right; by_cases e : 0 < x + 1
      · exact absurd ⟨d, e⟩ c
      · omega
    · exact .inl d
/-- a memory that is changed without its frames -/
theorem Sys.same {v : VB} {f : Nat → MS} {k z : Nat} (h : Sys v f k) (hz : z < k) {m : MS} (hm : m.Ok) (e : m.fr = (f z).fr) : Sys v (fupd f z m) k :=
  ⟨h.acc.congr (fun g _ _ => by rw [tot_upd f g hz, e]; omega), fun j hj => by
    unfold fupd; split
    · exact hm
    · exact h.mo j hj⟩
theorem MS.Ok.page {m : MS} (h : m.Ok) {n x : Int} (hn : m.is_ n ≠ 0) (hx : 0 ≤ x ∧ x < 64) (hf : ∀ i, i ≠ n → m.fr i ≠ x + 1) : (m.page n x).Ok := by
  refine ⟨h.f, fun i => ?_, fun i hi => ?_, fun i hi => ?_, fun i j hi hij => ?_⟩
  · show 0 ≤ fset m.fr n (x + 1) i ∧ fset m.fr n (x + 1) i ≤ 64
    unfold fset; split
    · omega
    · exact h.lo i
  · show fset m.fr n (x + 1) i = 0
    have hi : m.is_ i = 0 := hi
    rw [fset_ne _ _ (fun (e : i = n) => hn (by rw [← e]; exact hi))]; exact h.un i hi
  · show fset m.own n true i = false
    have hi : fset m.fr n (x + 1) i = 0 := hi
    have c : i ≠ n := fun e => by rw [e, fset_eq] at hi; omega
    rw [fset_ne _ _ c] at hi ⊢; exact h.ow i hi
  · have hi : 0 < fset m.fr n (x + 1) i := hi
    have hij : fset m.fr n (x + 1) i = fset m.fr n (x + 1) j := hij
    by_cases c : i = n
    · by_cases d : j = n
      · omega
      · rw [c, fset_eq, fset_ne _ _ d] at hij
        exact absurd hij.symm (hf j d)
    · rw [fset_ne _ _ c] at hi hij
      by_cases d : j = n
      · rw [d, fset_eq] at hij
        exact absurd hij (hf i c)
      · rw [fset_ne _ _ d] at hij
        exact h.inj i j hi hij
theorem MS.may_is {m : MS} {a : Int} {w : Bool} (h : m.may a w = true) : m.is_ (a / 8) ≠ 0 := by
  intro e
  unfold MS.may at h
  rw [e] at h
  simp at h
theorem MS.own_ok {m : MS} (h : m.Ok) {n : Int} (hn : m.fr n ≠ 0) : ({ m with own := fset m.own n true } : MS).Ok :=
  ⟨h.f, h.lo, h.un, fun i hi => by
    show fset m.own n true i = false
    have hi : m.fr i = 0 := hi
    rw [fset_ne _ _ (fun (e : i = n) => hn (by rw [← e]; exact hi))]; exact h.ow i hi, h.inj⟩
theorem Sys.touch {v : VB} {f : Nat → MS} {k z : Nat} (h : Sys v f k) (hz : z < k) (a : Int) (w : Bool) : Sys ((f z).touch v a w).2.2.1 (fupd f z ((f z).touch v a w).2.2.2) k := by
  have hm := h.mo z hz
  have hl := hm.lo (a / 8)
  rcases MS.touch_cases v (f z) a w with ⟨_, e⟩ | ⟨hr, ⟨_, e⟩ | ⟨h0, q, e⟩ | ⟨_, _, e⟩ | ⟨h0, _, _, e⟩ | ⟨h0, q, r, _, e⟩⟩ <;> rw [e]
  · rw [fupd_self]; exact h
  · rw [fupd_self]; exact h
  · obtain ⟨hx, hF, ha⟩ := h.acc.take q
    have hF : tot f v.take.1 k = 0 := hF
    have hrg := MS.may_rng hr
    refine ⟨ha.congr (fun g a1 b => ?_), fun j hj => ?_⟩
    · rw [tot_upd f g hz]
      show fset (fun g => tot f g k) v.take.1 1 g = _ - _ + cM (fset (f z).fr (a / 8) (v.take.1 + 1)) g 16
      rw [cM_fset _ (by omega) (by omega), h0, if_neg (c := (0 : Int) = g + 1) (by omega)]
      unfold fset
      have e9 : (fun g => tot f g k) g = tot f g k := rfl
      by_cases c : g = v.take.1
      · subst c; rw [if_pos rfl, if_pos rfl]; omega
      · rw [if_neg c, if_neg (by omega)]; omega
    · unfold fupd; split
      · exact hm.page (MS.may_is hr) hx (fun i _ => by rcases h.free hz hF i with q | q <;> omega)
      · exact h.mo j hj
  · rw [fupd_self]; exact h
  · exact h.same hz (MS.own_ok hm h0) rfl
  · obtain ⟨hx, hF, ha⟩ := h.acc.take q
    have hF : tot f v.take.1 k = 0 := hF
    have hrg := MS.may_rng hr
    have hy : 1 ≤ tot f ((f z).fr (a / 8) - 1) k := by
      have h1 := cM_pos (fr := (f z).fr) (g := (f z).fr (a / 8) - 1) (i := a / 8) (by omega) (by omega) (k := 16) (by omega)
      have h2 := tot_ge f ((f z).fr (a / 8) - 1) hz
      omega
    have hne : (f z).fr (a / 8) - 1 ≠ v.take.1 := fun e => by rw [e] at hy; omega
    refine ⟨((ha.copy _ _).drop (g := (f z).fr (a / 8) - 1) (by omega) (by rw [fset_ne _ _ hne]; exact hy)).congr (fun g a1 b => ?_), fun j hj => ?_⟩
    · rw [tot_upd f g hz]
      show fset (fset (fun g => tot f g k) v.take.1 1) ((f z).fr (a / 8) - 1) _ g = _ - _ + cM (fset (f z).fr (a / 8) (v.take.1 + 1)) g 16
      rw [cM_fset _ (by omega) (by omega), fset_ne _ _ hne]
      by_cases c : g = (f z).fr (a / 8) - 1
      · rw [c, fset_eq, if_pos (by omega), if_neg (by omega)]; omega
      · rw [fset_ne _ _ c, if_neg (c := (f z).fr (a / 8) = g + 1) (by omega)]
        unfold fset
        have e9 : (fun g => tot f g k) g = tot f g k := rfl
        by_cases d : g = v.take.1
        · rw [d, if_pos rfl, if_pos rfl]; omega
        · rw [if_neg d, if_neg (by omega)]; omega
    · unfold fupd; split
      · exact hm.page (MS.may_is hr) hx (fun i _ => by rcases h.free hz hF i with q | q <;> omega)
      · exact h.mo j hj
theorem cA_le {fr : Int → Int} {a g : Int} (h0 : 0 ≤ a) (hg : 0 ≤ g) {k : Nat} (hk : a + k ≤ 16) : cA fr a g k ≤ cM fr g 16 := by
  have := cM_cut fr h0 hg hk
  have := cM_nn (setI fr a k 0) g 16
  omega
theorem Sys.unmap {v : VB} {f : Nat → MS} {k z : Nat} (h : Sys v f k) (hz : z < k) (a n : Int) : Sys ((f z).unmap v a n).2.2.1 (fupd f z ((f z).unmap v a n).2.2.2) k := by
  have hm := h.mo z hz
  by_cases hb : badS a n
  · rw [MS.unmap_bad hb]; rw [fupd_self]; exact h
  · have ho := hm.unmap (v := v) a n
    unfold MS.unmap at ho ⊢
    rw [if_neg hb] at ho ⊢
    unfold badS at hb
    have hn : ((n.toNat : Nat) : Int) = n := by omega
    refine ⟨(h.acc.unN hm.lo n.toNat (fun g a1 b => by
      have := cA_le (fr := (f z).fr) (a := a) (g := g) (by omega) a1 (k := n.toNat) (by omega)
      have := tot_ge f g hz
      show _ ≤ tot f g k
      omega)).congr (fun g a1 b => ?_), fun j hj => ?_⟩
    · rw [tot_upd f g hz]
      show tot f g k - _ = _ - _ + cM (setI (f z).fr a n 0) g 16
      have := cM_cut (f z).fr (a := a) (g := g) (by omega) a1 (k := n.toNat) (by omega)
      rw [hn] at this
      rw [this]; omega
    · unfold fupd; split
      · exact ho
      · exact h.mo j hj
theorem Sys.load {v : VB} {f : Nat → MS} {k z : Nat} (h : Sys v f k) (hz : z < k) (a : Int) : Sys ((f z).load v a).2.2.1 (fupd f z ((f z).load v a).2.2.2) k := by
  by_cases e : ((f z).touch v a false).2.1 = 0
  · rw [MS.load_ok e]; exact h.touch hz a false
  · rw [MS.load_bad e]; exact h.touch hz a false
theorem Sys.store {v : VB} {f : Nat → MS} {k z : Nat} (h : Sys v f k) (hz : z < k) (a b : Int) (hb : 0 ≤ b ∧ b < 256) : Sys ((f z).store v a b).2.1 (fupd f z ((f z).store v a b).2.2) k := by
  have ht := h.touch hz a true
  by_cases e : ((f z).touch v a true).2.1 = 0
  · rw [MS.store_ok e]
    refine ⟨⟨⟨ht.acc.ok.bb, ht.acc.ok.rf, fun x j => ?_⟩, ht.acc.rf, ht.acc.us⟩, ht.mo⟩
    show 0 ≤ fset2 ((f z).touch v a true).2.2.1.by_ ((f z).touch v a true).1 (a % 8) b x j ∧ fset2 ((f z).touch v a true).2.2.1.by_ ((f z).touch v a true).1 (a % 8) b x j < 256
    unfold fset2; split
    · exact hb
    · exact ht.acc.ok.by_ x j
  · rw [MS.store_bad e]; exact ht
theorem Sys.fork {v : VB} {f : Nat → MS} {k z : Nat} (h : Sys v f k) (hz : z < k) (hk : k ≤ 60) : Sys (v.fork (f z)) (fupd (fupd f z (f z).bare) k (f z).bare) (k + 1) := by
  have hm := h.mo z hz
  have hb : (f z).bare.Ok := ⟨hm.f, hm.lo, hm.un, fun _ _ => rfl, hm.inj⟩
  refine ⟨(h.acc.fork hm (fun g a b => ⟨tot_ge f g hz, by have := tot_nn f g k; show tot f g k ≤ 1000; omega⟩)).congr (fun g a b => ?_), fun j hj => ?_⟩
  · rw [tot, tot_skip _ g (Nat.le_refl _), tot_upd f g hz, fupd_eq]
    show _ = tot f g k - cM (f z).fr g 16 + cM (f z).fr g 16 + cM (f z).fr g 16
    omega
  · unfold fupd; split
    · exact hb
    · split
      · exact hb
      · exact h.mo j (by omega)
theorem Sys.init : Sys VB.init (fun _ => MS.nil) 1 := by
  have h0 : ∀ g : Int, 0 ≤ g → tot (fun _ => MS.nil) g 1 = 0 := fun g hg => by
    rw [tot, tot]
    have e : ∀ k, cM MS.nil.fr g k = 0 := fun k => by
      induction k with
      | zero => rfl
      | succ k ih => rw [cM, ih, show MS.nil.fr k = 0 from rfl, if_neg (by omega)]; rfl
    rw [e]; rfl
  refine ⟨⟨VB.Ok.init, fun g a b => (h0 g a).symm, fun g a b => ?_⟩, fun _ _ => MS.Ok.nil⟩
  show BB.init.usedOf g = _
  rw [if_pos (h0 g a)]
  rfl

end Go.X.Vm

namespace Go.X.Tr
open Go Go.X

/-! ### pipes: the state of both programs -/
structure PS where
  b : Int → ByteArray
  e : Int → Int → Int
structure PS.Inv (K : Int) (s : PS) : Prop where
  e0 : ∀ n, 0 ≤ s.e n 0 ∧ s.e n 0 ≤ K
  e1 : ∀ n, 0 ≤ s.e n 1 ∧ s.e n 1 ≤ K
  cl : ∀ n, s.e n 0 + s.e n 1 = 0 → s.b n = ⟨#[]⟩
  len : ∀ n, (s.b n).size ≤ 12
theorem PS.Inv.mono {K K' : Int} {s : PS} (h : s.Inv K) (hk : K ≤ K') : s.Inv K' :=
  ⟨fun n => ⟨(h.e0 n).1, by have := (h.e0 n).2; omega⟩, fun n => ⟨(h.e1 n).1, by have := (h.e1 n).2; omega⟩, h.cl, h.len⟩
def PS.init : PS := ⟨fun _ => ⟨#[]⟩, fun _ _ => 0⟩
theorem PS.Inv.init : PS.init.Inv 0 := ⟨fun _ => by simp [PS.init], fun _ => by simp [PS.init], fun _ _ => rfl, fun _ => by simp [PS.init, ByteArray.size]⟩
def PS.is (s : PS) (n : Int) : Int := if n < 0 ∨ 8 ≤ n then 1 else if s.e n 0 + s.e n 1 = 0 then 2 else 0
def PS.make (s : PS) : Int × Int × PS := match firstN (fun k => s.e k 0 + s.e k 1 == 0) 8 with
  | some k => (k, 0, { s with e := fset2 (fset2 s.e k 0 1) k 1 1 })
  | none => (0, 4, s)
def sel (w : Bool) : Int := if w then 1 else 0
def PS.turn (s : PS) (n : Int) (w : Bool) (d : Int) : Int × PS :=
  if s.is n ≠ 0 then (s.is n, s) else if s.e n (sel w) = 0 then (8, s) else
    (0, { b := if s.e n 0 + s.e n 1 + d = 0 then fset s.b n ⟨#[]⟩ else s.b, e := fset2 s.e n (sel w) (s.e n (sel w) + d) })
def PS.read (s : PS) (n m : Int) : ByteArray × Int × PS :=
  if s.is n ≠ 0 then (⟨#[]⟩, s.is n, s) else if s.e n 0 = 0 then (⟨#[]⟩, 8, s) else if m < 0 then (⟨#[]⟩, 1, s) else
  if s.b n = ⟨#[]⟩ ∧ s.e n 1 > 0 ∧ m > 0 then (⟨#[]⟩, 13, s) else
    ((s.b n).extract 0 (min m (s.b n).size).toNat, 0, { s with b := fset s.b n ((s.b n).extract (min m (s.b n).size).toNat (s.b n).size) })
def PS.write (s : PS) (n : Int) (t : ByteArray) : Int × Int × PS :=
  if s.is n ≠ 0 then (0, s.is n, s) else if s.e n 1 = 0 then (0, 8, s) else if s.e n 0 = 0 then (0, 12, s) else
  if min (t.size : Int) (12 - (s.b n).size) = 0 ∧ t.size > 0 then (0, 13, s) else
    (min (t.size : Int) (12 - (s.b n).size), 0, { s with b := fset s.b n (s.b n ++ t.extract 0 (min (t.size : Int) (12 - (s.b n).size)).toNat) })
def cntN (f : Int → Bool) : Nat → Int
  | 0 => 0
  | n + 1 => cntN f n + if f n then 1 else 0
theorem cntN_le (f : Int → Bool) (n : Nat) : 0 ≤ cntN f n ∧ cntN f n ≤ n := by
  induction n with
  | zero => simp [cntN]
  | succ n ih => simp only [cntN]; split <;> omega
def PS.open (s : PS) : Int := cntN (fun i => decide (s.e i 0 + s.e i 1 > 0)) 8
def encP (s : PS) (i : Nat) : Value :=
  if i % 3 = 0 ∧ i / 3 < 8 then .string (s.b ((i / 3 : Nat) : Int)) else
  if 1 ≤ i ∧ (i - 1) % 3 = 0 ∧ (i - 1) / 3 < 8 then .int .i64 (s.e (((i - 1) / 3 : Nat) : Int) 0) else
  if 2 ≤ i ∧ (i - 2) % 3 = 0 ∧ (i - 2) / 3 < 8 then .int .i64 (s.e (((i - 2) / 3 : Nat) : Int) 1) else
  undef
theorem encP.ld_p_I_b (s : PS) (z0 : Int) (q0 : 0 ≤ z0 ∧ z0 < 8) : (((0 + 0) + z0.toNat * 3) + 0) < 24 ∧ encP s (((0 + 0) + z0.toNat * 3) + 0) = .string (s.b z0) := by
  refine ⟨by omega, ?_⟩
  unfold encP
  rw [if_pos (by omega)]
  rw [show (((((0 + 0) + z0.toNat * 3) + 0) / 3 : Nat) : Int) = z0 from by omega]
theorem encP.st_p_I_b (s : PS) (z0 : Int) (q0 : 0 ≤ z0 ∧ z0 < 8) (v : ByteArray) : (((0 + 0) + z0.toNat * 3) + 0) < 24 ∧ upd (encP s) (((0 + 0) + z0.toNat * 3) + 0) (.string (v)) = encP ({ s with b := fset s.b z0 v }) := by
  refine ⟨by omega, ?_⟩
  funext j
  unfold upd
  by_cases hj : j = (((0 + 0) + z0.toNat * 3) + 0)
  · rw [if_pos hj, hj, (encP.ld_p_I_b ({ s with b := fset s.b z0 v }) z0 q0).2]
    all_goals simp [fset, fset2]
  · rw [if_neg hj]
    unfold encP
    refine ite_both (fun c0 => ?_) (fun c0 => ?_)
    · have hne : ¬ (((j / 3 : Nat) : Int) = z0) := by omega
      simp only [fset, fset2, hne, if_false, and_true, true_and]
    refine ite_both (fun c1 => ?_) (fun c1 => ?_)
    · first | rfl | simp [fset, fset2]
    refine ite_both (fun c2 => ?_) (fun c2 => ?_)
    · first | rfl | simp [fset, fset2]
    rfl
theorem encP.ld_p_I_reads (s : PS) (z0 : Int) (q0 : 0 ≤ z0 ∧ z0 < 8) : (((0 + 0) + z0.toNat * 3) + 1) < 24 ∧ encP s (((0 + 0) + z0.toNat * 3) + 1) = .int .i64 (s.e z0 0) := by
  refine ⟨by omega, ?_⟩
  unfold encP
  rw [if_neg (by omega)]
  rw [if_pos (by omega)]
  rw [show ((((((0 + 0) + z0.toNat * 3) + 1) - 1) / 3 : Nat) : Int) = z0 from by omega]
theorem encP.st_p_I_reads (s : PS) (z0 : Int) (q0 : 0 ≤ z0 ∧ z0 < 8) (v : Int) : (((0 + 0) + z0.toNat * 3) + 1) < 24 ∧ upd (encP s) (((0 + 0) + z0.toNat * 3) + 1) (.int .i64 (v)) = encP ({ s with e := fset2 s.e z0 0 v }) := by
  refine ⟨by omega, ?_⟩
  funext j
  unfold upd
  by_cases hj : j = (((0 + 0) + z0.toNat * 3) + 1)
  · rw [if_pos hj, hj, (encP.ld_p_I_reads ({ s with e := fset2 s.e z0 0 v }) z0 q0).2]
    all_goals simp [fset, fset2]
  · rw [if_neg hj]
    unfold encP
    refine ite_both (fun c0 => ?_) (fun c0 => ?_)
    · first | rfl | simp [fset, fset2]
    refine ite_both (fun c1 => ?_) (fun c1 => ?_)
    · have hne : ¬ ((((j - 1) / 3 : Nat) : Int) = z0) := by omega
      simp only [fset, fset2, hne, if_false, and_true, true_and]
    refine ite_both (fun c2 => ?_) (fun c2 => ?_)
    · first | rfl | simp [fset, fset2]
    rfl
theorem encP.ld_p_I_writes (s : PS) (z0 : Int) (q0 : 0 ≤ z0 ∧ z0 < 8) : (((0 + 0) + z0.toNat * 3) + 2) < 24 ∧ encP s (((0 + 0) + z0.toNat * 3) + 2) = .int .i64 (s.e z0 1) := by
  refine ⟨by omega, ?_⟩
  unfold encP
  rw [if_neg (by omega)]
  rw [if_neg (by omega)]
  rw [if_pos (by omega)]
  rw [show ((((((0 + 0) + z0.toNat * 3) + 2) - 2) / 3 : Nat) : Int) = z0 from by omega]
theorem encP.st_p_I_writes (s : PS) (z0 : Int) (q0 : 0 ≤ z0 ∧ z0 < 8) (v : Int) : (((0 + 0) + z0.toNat * 3) + 2) < 24 ∧ upd (encP s) (((0 + 0) + z0.toNat * 3) + 2) (.int .i64 (v)) = encP ({ s with e := fset2 s.e z0 1 v }) := by
  refine ⟨by omega, ?_⟩
  funext j
  unfold upd
  by_cases hj : j = (((0 + 0) + z0.toNat * 3) + 2)
  · rw [if_pos hj, hj, (encP.ld_p_I_writes ({ s with e := fset2 s.e z0 1 v }) z0 q0).2]
    all_goals simp [fset, fset2]
  · rw [if_neg hj]
    unfold encP
    refine ite_both (fun c0 => ?_) (fun c0 => ?_)
    · first | rfl | simp [fset, fset2]
    refine ite_both (fun c1 => ?_) (fun c1 => ?_)
    · first | rfl | simp [fset, fset2]
    refine ite_both (fun c2 => ?_) (fun c2 => ?_)
    · have hne : ¬ ((((j - 2) / 3 : Nat) : Int) = z0) := by omega
      simp only [fset, fset2, hne, if_false, and_true, true_and]
    rfl

theorem PS.turn_err {s : PS} {n d : Int} {w : Bool} (h : s.is n ≠ 0) : s.turn n w d = (s.is n, s) := by simp [PS.turn, h]
theorem PS.turn_state {s : PS} {n d : Int} {w : Bool} (h : s.is n = 0) (he : s.e n (sel w) = 0) : s.turn n w d = (8, s) := by simp [PS.turn, h, he]
theorem PS.turn_ok {s : PS} {n d : Int} {w : Bool} (h : s.is n = 0) (he : ¬ s.e n (sel w) = 0) (hz : ¬ s.e n 0 + s.e n 1 + d = 0) : s.turn n w d = (0, { s with e := fset2 s.e n (sel w) (s.e n (sel w) + d) }) := by
  simp [PS.turn, h, he, hz]
theorem PS.turn_zero {s : PS} {n d : Int} {w : Bool} (h : s.is n = 0) (he : ¬ s.e n (sel w) = 0) (hz : s.e n 0 + s.e n 1 + d = 0) : s.turn n w d = (0, { b := fset s.b n ⟨#[]⟩, e := fset2 s.e n (sel w) (s.e n (sel w) + d) }) := by
  simp [PS.turn, h, he, hz]
theorem PS.is_cases (s : PS) (n : Int) : (s.is n = 0 ∧ 0 ≤ n ∧ n < 8 ∧ ¬ s.e n 0 + s.e n 1 = 0) ∨ (s.is n = 1 ∧ (n < 0 ∨ 8 ≤ n)) ∨ (s.is n = 2 ∧ 0 ≤ n ∧ n < 8 ∧ s.e n 0 + s.e n 1 = 0) := by
  unfold PS.is; split
  · exact .inr (.inl ⟨rfl, by assumption⟩)
  · split
    · exact .inr (.inr ⟨rfl, by omega, by omega, by assumption⟩)
    · exact .inl ⟨rfl, by omega, by omega, by assumption⟩

theorem drop_eq {g : Int → Int → Int} {n : Int} (h0 : g n 0 = 0) (h1 : g n 1 = 0) : fset2 (fset2 g n 0 0) n 1 0 = g := by
  rw [fset2_same g h0, fset2_same g h1]
theorem PS.read_err {s : PS} {n m : Int} (h : s.is n ≠ 0) : s.read n m = (⟨#[]⟩, s.is n, s) := by simp [PS.read, h]
theorem PS.read_state {s : PS} {n m : Int} (h : s.is n = 0) (h0 : s.e n 0 = 0) : s.read n m = (⟨#[]⟩, 8, s) := by simp [PS.read, h, h0]
theorem PS.read_bound {s : PS} {n m : Int} (h : s.is n = 0) (h0 : ¬ s.e n 0 = 0) (hm : m < 0) : s.read n m = (⟨#[]⟩, 1, s) := by simp [PS.read, h, h0, hm]
theorem PS.read_again {s : PS} {n m : Int} (h : s.is n = 0) (h0 : ¬ s.e n 0 = 0) (hm : ¬ m < 0) (ha : s.b n = ⟨#[]⟩ ∧ s.e n 1 > 0 ∧ m > 0) : s.read n m = (⟨#[]⟩, 13, s) := by
  unfold PS.read; rw [if_neg (by simp [h]), if_neg h0, if_neg hm, if_pos ha]
theorem PS.read_ok {s : PS} {n m : Int} (h : s.is n = 0) (h0 : ¬ s.e n 0 = 0) (hm : ¬ m < 0) (ha : ¬ (s.b n = ⟨#[]⟩ ∧ s.e n 1 > 0 ∧ m > 0)) :
    s.read n m = ((s.b n).extract 0 (min m (s.b n).size).toNat, 0, { s with b := fset s.b n ((s.b n).extract (min m (s.b n).size).toNat (s.b n).size) }) := by
  unfold PS.read; rw [if_neg (by simp [h]), if_neg h0, if_neg hm, if_neg ha]
theorem PS.write_err {s : PS} {n : Int} {t : ByteArray} (h : s.is n ≠ 0) : s.write n t = (0, s.is n, s) := by simp [PS.write, h]
theorem PS.write_state {s : PS} {n : Int} {t : ByteArray} (h : s.is n = 0) (h0 : s.e n 1 = 0) : s.write n t = (0, 8, s) := by simp [PS.write, h, h0]
theorem PS.write_broken {s : PS} {n : Int} {t : ByteArray} (h : s.is n = 0) (h0 : ¬ s.e n 1 = 0) (h1 : s.e n 0 = 0) : s.write n t = (0, 12, s) := by simp [PS.write, h, h0, h1]
theorem PS.write_again {s : PS} {n : Int} {t : ByteArray} (h : s.is n = 0) (h0 : ¬ s.e n 1 = 0) (h1 : ¬ s.e n 0 = 0) (ha : min (t.size : Int) (12 - (s.b n).size) = 0 ∧ t.size > 0) : s.write n t = (0, 13, s) := by
  unfold PS.write; rw [if_neg (by simp [h]), if_neg h0, if_neg h1, if_pos ha]
theorem PS.write_ok {s : PS} {n : Int} {t : ByteArray} (h : s.is n = 0) (h0 : ¬ s.e n 1 = 0) (h1 : ¬ s.e n 0 = 0) (ha : ¬ (min (t.size : Int) (12 - (s.b n).size) = 0 ∧ t.size > 0)) :
    s.write n t = (min (t.size : Int) (12 - (s.b n).size), 0, { s with b := fset s.b n (s.b n ++ t.extract 0 (min (t.size : Int) (12 - (s.b n).size)).toNat) }) := by
  unfold PS.write; rw [if_neg (by simp [h]), if_neg h0, if_neg h1, if_neg ha]
theorem PS.make_some {s : PS} {k : Int} (h0 : 0 ≤ k ∧ k < 8) (hp : s.e k 0 + s.e k 1 = 0) (hn : ∀ j : Int, 0 ≤ j → j < k → s.e j 0 + s.e j 1 ≠ 0) :
    s.make = (k, 0, { s with e := fset2 (fset2 s.e k 0 1) k 1 1 }) := by
  unfold PS.make
  rw [firstN_some h0.1 h0.2 (by simpa using hp) (fun j h1 h2 => by simpa using hn j h1 h2)]
  simp only []
  rw [show ((k.toNat : Nat) : Int) = k from by omega]
theorem PS.make_none {s : PS} (hn : ∀ j : Int, 0 ≤ j → j < 8 → s.e j 0 + s.e j 1 ≠ 0) : s.make = (0, 4, s) := by
  unfold PS.make
  rw [firstN_none (fun j h1 h2 => by simpa using hn j h1 h2)]
theorem encP_make {s : PS} {K : Int} (hI : s.Inv K) {k : Int} (h0 : 0 ≤ k ∧ k < 8) (hp : s.e k 0 + s.e k 1 = 0) :
    0 + 0 + k.toNat * 3 + 3 ≤ 24 ∧ updL (encP s) (0 + 0 + k.toNat * 3) [.string ⟨#[]⟩, .int .i64 1, .int .i64 1] = encP { s with e := fset2 (fset2 s.e k 0 1) k 1 1 } := by
  refine ⟨by omega, ?_⟩
  have e1 := (encP.st_p_I_b s k h0 ⟨#[]⟩).2
  have hb : fset s.b k ⟨#[]⟩ = s.b := by
    funext j; unfold fset; split
    · subst_vars; exact (hI.cl _ hp).symm
    · rfl
  rw [hb] at e1
  have e2 := (encP.st_p_I_reads s k h0 1).2
  have e3 := (encP.st_p_I_writes { s with e := fset2 s.e k 0 1 } k h0 1).2
  simp only [updL, Nat.add_zero] at *
  rw [e1, e2, e3]
theorem encP_drop (s : PS) {k : Int} (h0 : 0 ≤ k ∧ k < 8) :
    0 + 0 + k.toNat * 3 + 3 ≤ 24 ∧ updL (encP s) (0 + 0 + k.toNat * 3) [.string ⟨#[]⟩, .int .i64 0, .int .i64 0] = encP { b := fset s.b k ⟨#[]⟩, e := fset2 (fset2 s.e k 0 0) k 1 0 } := by
  refine ⟨by omega, ?_⟩
  have e1 := (encP.st_p_I_b s k h0 ⟨#[]⟩).2
  have e2 := (encP.st_p_I_reads { s with b := fset s.b k ⟨#[]⟩ } k h0 0).2
  have e3 := (encP.st_p_I_writes { b := fset s.b k ⟨#[]⟩, e := fset2 s.e k 0 0 } k h0 0).2
  simp only [updL, Nat.add_zero] at *
  rw [e1, e2, e3]

end Go.X.Tr

namespace Go.X.Tr
open Go Go.X
/-! ### names in order -/
abbrev blt (a b : ByteArray) : Bool := Op.bytesLess a.toList b.toList
theorem blt_iff (a b : ByteArray) : blt a b = true ↔ a.toList < b.toList := by unfold blt; rw [Go.Proofs.bytesLess_eq, decide_eq_true_eq]
theorem toList_inj {a b : ByteArray} (h : a.toList = b.toList) : a = b := by
  have := toList_beq a b
  rw [h] at this
  simpa using this.symm
theorem blt_irrefl (a : ByteArray) : blt a a = false := by
  cases h : blt a a with
  | false => rfl
  | true => exact absurd ((blt_iff a a).1 h) (List.lt_irrefl _)
theorem blt_trans {a b c : ByteArray} (h1 : blt a b = true) (h2 : blt b c = true) : blt a c = true := (blt_iff a c).2 (List.lt_trans ((blt_iff a b).1 h1) ((blt_iff b c).1 h2))
theorem blt_total (a b : ByteArray) : blt a b = true ∨ a = b ∨ blt b a = true := by
  rcases Decidable.em (a.toList < b.toList) with h | h
  · exact .inl ((blt_iff a b).2 h)
  · rcases Decidable.em (b.toList < a.toList) with q | q
    · exact .inr (.inr ((blt_iff b a).2 q))
    · refine .inr (.inl (toList_inj ?_))
      exact List.le_antisymm (List.not_lt.1 q) (List.not_lt.1 h)
abbrev ats (l : List ByteArray) (i : Nat) : ByteArray := l.getD i ByteArray.empty
def Rising (l : List ByteArray) : Prop := ∀ i j, i < j → j < l.length → blt (ats l i) (ats l j) = true
def posn : List ByteArray → ByteArray → Nat
  | [], _ => 0
  | y :: r, x => if blt y x = true then posn r x + 1 else 0
theorem posn_le : ∀ (l : List ByteArray) (x : ByteArray), posn l x ≤ l.length
  | [], _ => Nat.le_refl _
  | y :: r, x => by
    unfold posn
    split
    · simp; exact posn_le r x
    · omega
theorem posn_lt : ∀ (l : List ByteArray) (x : ByteArray) (i : Nat), i < posn l x → blt (ats l i) x = true
  | [], _, i, h => by simp [posn] at h
  | y :: r, x, i, h => by
    unfold posn at h
    split at h
    · cases i with
      | zero => simpa [ats] using (by assumption : blt y x = true)
      | succ i => simpa [ats] using posn_lt r x i (by omega)
    · omega
theorem posn_at : ∀ (l : List ByteArray) (x : ByteArray), posn l x < l.length → blt (ats l (posn l x)) x = false
  | [], _, h => by simp at h
  | y :: r, x, h => by
    unfold posn at h ⊢
    split
    · rename_i c
      rw [if_pos c] at h
      simpa [ats] using posn_at r x (by simpa using h)
    · rename_i c
      simpa [ats] using c
theorem posn_ge {l : List ByteArray} (hl : Rising l) (x : ByteArray) {i : Nat} (h : posn l x ≤ i) (hi : i < l.length) : blt (ats l i) x = false := by
  have h1 := posn_at l x (by omega)
  by_cases c : i = posn l x
  · subst c; exact h1
  · have h2 := hl (posn l x) i (by omega) hi
    cases q : blt (ats l i) x with
    | false => rfl
    | true => rw [blt_trans h2 q] at h1; cases h1
def hasn (l : List ByteArray) (x : ByteArray) : Bool := decide (posn l x < l.length ∧ ats l (posn l x) = x)
theorem bsGo_at (less : Nat → Bool) (k N : Nat) (h1 : ∀ t, t < k → less t = true) (h2 : ∀ t, k ≤ t → t < N → less t = false) : ∀ (f lo hi : Nat), hi - lo ≤ f → lo ≤ k → k ≤ hi → hi ≤ N → Go.Lib.bsGo less f lo hi = k
  | 0, lo, hi, hf, a, b, _ => by unfold Go.Lib.bsGo; omega
  | f + 1, lo, hi, hf, a, b, c => by
    unfold Go.Lib.bsGo
    by_cases h : lo < hi
    · rw [if_pos h]
      by_cases q : (lo + hi) / 2 < k
      · rw [h1 _ q, if_pos rfl]; exact bsGo_at less k N h1 h2 f _ _ (by omega) (by omega) b c
      · rw [h2 _ (by omega) (by omega), if_neg (by simp)]; exact bsGo_at less k N h1 h2 f _ _ (by omega) a (by omega) (by omega)
    · rw [if_neg h]; omega
theorem bsS_eq {l : List ByteArray} (hl : Rising l) (x : ByteArray) : bsS l x = posn l x :=
  bsGo_at _ (posn l x) l.length (fun t ht => posn_lt l x t ht) (fun t ht hn => posn_ge hl x ht hn) _ _ _ (by omega) (by omega) (posn_le l x) (Nat.le_refl _)
theorem bsHit_eq {l : List ByteArray} (hl : Rising l) (x : ByteArray) : bsHit l x = hasn l x := by
  unfold bsHit hasn
  rw [bsS_eq hl]
theorem hasn_iff {l : List ByteArray} {x : ByteArray} : hasn l x = true ↔ posn l x < l.length ∧ ats l (posn l x) = x := by unfold hasn; rw [decide_eq_true_eq]
/-- who is there stands at its place, and there alone -/ theorem at_posn {l : List ByteArray} (hl : Rising l) {x : ByteArray} {i : Nat} (hi : i < l.length) (h : ats l i = x) : i = posn l x := by
  rcases Nat.lt_trichotomy i (posn l x) with c | c | c
  · have := posn_lt l x i c
    rw [h, blt_irrefl] at this; cases this
  · exact c
  · have h1 := posn_at l x (by omega)
    have h2 := hl (posn l x) i c hi
    rw [h] at h2; rw [h2] at h1; cases h1
theorem hasn_no {l : List ByteArray} (hl : Rising l) {x : ByteArray} (h : hasn l x = false) {i : Nat} (hi : i < l.length) : ats l i ≠ x := fun e => by
  have h1 := at_posn hl hi e
  have : hasn l x = true := hasn_iff.2 ⟨by omega, by rw [← h1]; exact e⟩
  rw [h] at this; cases this
/-- behind its place all are greater -/ theorem posn_gt {l : List ByteArray} (hl : Rising l) {x : ByteArray} (h : hasn l x = false) {i : Nat} (h1 : posn l x ≤ i) (hi : i < l.length) : blt x (ats l i) = true := by
  rcases blt_total (ats l i) x with c | c | c
  · rw [posn_ge hl x h1 hi] at c; cases c
  · exact absurd c (hasn_no hl h hi)
  · exact c
theorem ats_insert (l : List ByteArray) (p : Nat) (x : ByteArray) (j : Nat) (hp : p ≤ l.length) : ats (l.insertIdx p x) j = if j < p then ats l j else if j = p then x else ats l (j - 1) := by
  unfold ats
  rw [List.getD, List.getElem?_insertIdx]
  by_cases c : j < p
  · rw [if_pos c, if_pos c]; rfl
  · rw [if_neg c, if_neg c]
    by_cases q : j = p
    · rw [if_pos q, if_pos q, if_pos (by omega)]; rfl
    · rw [if_neg q, if_neg q]; rfl
theorem ats_erase (l : List ByteArray) (p j : Nat) : ats (l.eraseIdx p) j = if j < p then ats l j else ats l (j + 1) := by
  unfold ats
  rw [List.getD, List.getElem?_eraseIdx]
  split <;> rfl
theorem Rising.insert {l : List ByteArray} (hl : Rising l) {x : ByteArray} (h : hasn l x = false) : Rising (l.insertIdx (posn l x) x) := fun i j hij hj => by
  have hp := posn_le l x
  rw [List.length_insertIdx, if_pos hp] at hj
  rw [ats_insert _ _ _ _ hp, ats_insert _ _ _ _ hp]
  by_cases c1 : j < posn l x
  · rw [if_pos c1, if_pos (by omega)]; exact hl i j hij (by omega)
  · rw [if_neg c1]
    by_cases c2 : j = posn l x
    · rw [if_pos c2, if_pos (by omega)]; exact posn_lt l x i (by omega)
    · rw [if_neg c2]
      by_cases c3 : i < posn l x
      · rw [if_pos c3]; exact hl i (j - 1) (by omega) (by omega)
      · rw [if_neg c3]
        by_cases c4 : i = posn l x
        · rw [if_pos c4]; exact posn_gt hl h (by omega) (by omega)
        · rw [if_neg c4]; exact hl (i - 1) (j - 1) (by omega) (by omega)
theorem Rising.erase {l : List ByteArray} (hl : Rising l) (p : Nat) (hp : p < l.length) : Rising (l.eraseIdx p) := fun i j hij hj => by
  rw [List.length_eraseIdx, if_pos hp] at hj
  rw [ats_erase, ats_erase]
  split <;> split
  · exact hl i j hij (by omega)
  · exact hl i (j + 1) (by omega) (by omega)
  · omega
  · exact hl (i + 1) (j + 1) (by omega) (by omega)
theorem Rising.nil : Rising [] := fun i j _ h => by simp at h
/-- may something be called so? -/ def okB (c : UInt8) : Bool := (decide (97 ≤ c.toNat) && decide (c.toNat ≤ 122)) || (decide (48 ≤ c.toNat) && decide (c.toNat ≤ 57)) || decide (c.toNat = 46)
def nameOk (s : ByteArray) : Bool := (List.range s.size).all (fun i => okB (s.get! i)) && (decide (1 ≤ s.size ∧ s.size ≤ 8) && (decide (s ≠ ⟨#[46]⟩) && decide (s ≠ ⟨#[46, 46]⟩)))
theorem size_nil {s : ByteArray} : s = ⟨#[]⟩ ↔ s.size = 0 := by
  constructor
  · rintro rfl; rfl
  · intro h
    cases s with
    | mk d => congr 1; exact Array.eq_empty_of_size_eq_zero h
/-! ### a forest -/
structure FF where
  kind : Int → Int
  tree : Int → Int
  links : Int → Int
  held : Int → Int
  up : Int → Int
  data : Int → ByteArray
  names : Int → List ByteArray
  kids : Int → List Int
  roots : List Int
structure FC extends FF where
  nP : Int → Option Addr
  nC : Int → Nat
  kP : Int → Option Addr
  kC : Int → Nat
  rP : Option Addr
  rC : Nat
/-- bytes written into bytes, noughts between -/ def wrB (d : ByteArray) (at_ : Nat) (x : ByteArray) : ByteArray := ⟨((List.range (max d.size (at_ + x.size))).map fun i => if at_ ≤ i ∧ i < at_ + x.size then x.get! (i - at_) else if i < d.size then d.get! i else 0).toArray⟩
namespace FF
def isE (s : FF) (n k : Int) : Int := if n < 0 ∨ 40 ≤ n then 1 else if s.kind n = 0 then 2 else if 0 < k ∧ s.kind n ≠ k then 11 else 0
def freeN (s : FF) : Nat → Int
  | 0 => -1
  | k + 1 => if s.kind (39 - (k : Int)) = 0 then 39 - (k : Int) else freeN s k
def free (s : FF) : Int := freeN s 40
def setN (s : FF) (z k t l u : Int) : FF := ⟨fset s.kind z k, fset s.tree z t, fset s.links z l, fset s.held z 0, fset s.up z u, fset s.data z ByteArray.empty, fset s.names z [], fset s.kids z [], s.roots⟩
def goneF (s : FF) (z : Int) : FF := if s.links z = 0 ∧ s.held z = 0 then s.setN z 0 0 0 0 else s
def plantE (s : FF) : Int := if s.roots.length = 4 then 4 else if s.free < 0 then 4 else 0
def plant (s : FF) : FF := if s.plantE = 0 then { s.setN s.free 2 (s.roots.length : Int) 1 s.free with roots := s.roots ++ [s.free] } else s
def plantV (s : FF) : Int := if s.plantE = 0 then (s.roots.length : Int) else 0
def rootE (s : FF) (t : Int) : Int := if t < 0 ∨ 4 ≤ t then 1 else if (s.roots.length : Int) ≤ t then 2 else 0
def rootV (s : FF) (t : Int) : Int := if s.rootE t = 0 then at0 s.roots t else 0
def putF (s : FF) (n : Int) (x : ByteArray) (k : Int) : FF := { s with names := fset s.names n ((s.names n).insertIdx (posn (s.names n) x) x), kids := fset s.kids n ((s.kids n).insertIdx (posn (s.names n) x) k) }
def cutF (s : FF) (n : Int) (x : ByteArray) : FF := { s with names := fset s.names n ((s.names n).eraseIdx (posn (s.names n) x)), kids := fset s.kids n ((s.kids n).eraseIdx (posn (s.names n) x)) }
def findE (s : FF) (n : Int) (x : ByteArray) : Int := if s.isE n 2 ≠ 0 then s.isE n 2 else if hasn (s.names n) x = true then 0 else 2
def findV (s : FF) (n : Int) (x : ByteArray) : Int := if s.findE n x = 0 then at0 (s.kids n) (posn (s.names n) x) else 0
def roomE (s : FF) (n : Int) (x : ByteArray) : Int := if s.isE n 2 ≠ 0 then s.isE n 2 else if nameOk x = false then 9 else if hasn (s.names n) x = true then 3 else if (s.names n).length = 8 then 4 else 0
def makeE (s : FF) (n : Int) (x : ByteArray) (k : Int) : Int := if k ≠ 1 ∧ k ≠ 2 then 1 else if s.roomE n x ≠ 0 then s.roomE n x else if s.free < 0 then 4 else 0
def makeV (s : FF) (n : Int) (x : ByteArray) (k : Int) : Int := if s.makeE n x k = 0 then s.free else 0
def make (s : FF) (n : Int) (x : ByteArray) (k : Int) : FF := if s.makeE n x k = 0 then (s.setN s.free k (s.tree n) 1 n).putF n x s.free else s
def linkE (s : FF) (kid n : Int) (x : ByteArray) : Int := if s.isE kid 1 ≠ 0 then s.isE kid 1 else if s.roomE n x ≠ 0 then s.roomE n x else if s.tree kid ≠ s.tree n then 11 else 0
def link (s : FF) (kid n : Int) (x : ByteArray) : FF := if s.linkE kid n x = 0 then { s.putF n x kid with links := fset s.links kid (s.links kid + 1) } else s
def busy (s : FF) (k : Int) : Prop := s.kind k = 2 ∧ (0 < (s.kids k).length ∨ 0 < s.held k)
instance (s : FF) (k : Int) : Decidable (s.busy k) := by unfold busy; infer_instance
def removeE (s : FF) (n : Int) (x : ByteArray) : Int := if s.findE n x ≠ 0 then s.findE n x else if s.busy (s.findV n x) then 5 else 0
def remove (s : FF) (n : Int) (x : ByteArray) : FF := if s.removeE n x = 0 then goneF { s.cutF n x with links := fset s.links (s.findV n x) (s.links (s.findV n x) - 1) } (s.findV n x) else s
def undF (s : FF) : Nat → Int → Int → Bool
  | 0, n, k => decide (n = k)
  | f + 1, n, k => if n = k then true else if s.up n = n then false else undF s f (s.up n) k
def und (d : Int → Nat) (s : FF) (n k : Int) : Bool := undF s (d n) n k
def moveE0 (d : Int → Nat) (s : FF) (n : Int) (x : ByteArray) (to : Int) : Int := if s.findE n x ≠ 0 then s.findE n x else if s.isE to 2 ≠ 0 then s.isE to 2 else if s.tree n ≠ s.tree to then 11 else if s.kind (s.findV n x) = 2 ∧ und d s to (s.findV n x) = true then 5 else 0
def moveE (d : Int → Nat) (s : FF) (n : Int) (x : ByteArray) (to : Int) (y : ByteArray) : Int := if s.moveE0 d n x to ≠ 0 then s.moveE0 d n x to else (s.cutF n x).roomE to y
def move (d : Int → Nat) (s : FF) (n : Int) (x : ByteArray) (to : Int) (y : ByteArray) : FF :=
  if s.moveE0 d n x to ≠ 0 then s else if (s.cutF n x).roomE to y ≠ 0 then (s.cutF n x).putF n x (s.findV n x) else
    if s.kind (s.findV n x) = 2 then { (s.cutF n x).putF to y (s.findV n x) with up := fset s.up (s.findV n x) to } else (s.cutF n x).putF to y (s.findV n x)
def hold (s : FF) (n : Int) : FF := if s.isE n 0 = 0 then { s with held := fset s.held n (s.held n + 1) } else s
def letE (s : FF) (n : Int) : Int := if s.isE n 0 ≠ 0 then s.isE n 0 else if s.held n = 0 then 8 else 0
def letF (s : FF) (n : Int) : FF := if s.letE n = 0 then goneF { s with held := fset s.held n (s.held n - 1) } n else s
def readE (s : FF) (n at_ m : Int) : Int := if s.isE n 1 ≠ 0 then s.isE n 1 else if at_ < 0 ∨ m < 0 then 1 else 0
def readV (s : FF) (n at_ m : Int) : ByteArray := if s.readE n at_ m = 0 then (s.data n).extract (min at_ (s.data n).size).toNat (min at_ (s.data n).size + min m ((s.data n).size - min at_ (s.data n).size)).toNat else ByteArray.empty
def writeE (s : FF) (n at_ : Int) (x : ByteArray) : Int := if s.isE n 1 ≠ 0 then s.isE n 1 else if at_ < 0 then 1 else if 40 < at_ ∨ 40 - at_ < (x.size : Int) then 4 else 0
def write (s : FF) (n at_ : Int) (x : ByteArray) : FF := if s.writeE n at_ x = 0 ∧ x ≠ ByteArray.empty then { s with data := fset s.data n (wrB (s.data n) at_.toNat x) } else s
def clipE (s : FF) (n z : Int) : Int := if s.isE n 1 ≠ 0 then s.isE n 1 else if z < 0 ∨ ((s.data n).size : Int) < z then 1 else 0
def clip (s : FF) (n z : Int) : FF := if s.clipE n z = 0 then { s with data := fset s.data n ((s.data n).extract 0 z.toNat) } else s
def cntN (s : FF) : Nat → Int
  | 0 => 0
  | k + 1 => cntN s k + (if 0 < s.kind (k : Int) then 1 else 0)
def nodes (s : FF) : Int := cntN s 40
def void : FF := ⟨fun _ => 0, fun _ => 0, fun _ => 0, fun _ => 0, fun _ => 0, fun _ => ByteArray.empty, fun _ => [], fun _ => [], []⟩
def sumK (f : Int → List Int) (k : Int) : Nat → Nat
  | 0 => 0
  | n + 1 => sumK f k n + (f (n : Int)).count k
/-- how many names (and roots) lead to a node -/ def cnt (s : FF) (k : Int) : Nat := sumK s.kids k 40 + s.roots.count k
/-- what the code needs to run -/ structure Sh (s : FF) : Prop where
  rise : ∀ n, 0 ≤ n → n < 40 → Rising (s.names n) ∧ (s.names n).length = (s.kids n).length ∧ (s.names n).length ≤ 8 ∧ (s.kind n ≠ 2 → s.names n = [])
  kids : ∀ n, 0 ≤ n → n < 40 → ∀ k ∈ s.kids n, 0 ≤ k ∧ k < 40
  data : ∀ n, 0 ≤ n → n < 40 → (s.data n).size ≤ 40
  roots : s.roots.length ≤ 4 ∧ ∀ r ∈ s.roots, 0 ≤ r ∧ r < 40
  num : ∀ n, 0 ≤ n → n < 40 → -1000000 ≤ s.links n ∧ s.links n ≤ 1000000 ∧ 0 ≤ s.held n ∧ s.held n ≤ 1000000
/-- what is always so; but for the node e, which has one name more to come, and for q, which may be about to go -/ structure InvX (s : FF) (d : Int → Nat) (e q : Int) : Prop where
  kinds : ∀ n, 0 ≤ n → n < 40 → s.kind n = 0 ∨ s.kind n = 1 ∨ s.kind n = 2
  rise : ∀ n, 0 ≤ n → n < 40 → Rising (s.names n) ∧ (s.names n).length = (s.kids n).length ∧ (s.names n).length ≤ 8 ∧ (s.kind n ≠ 2 → s.names n = [])
  nok : ∀ n, 0 ≤ n → n < 40 → ∀ x ∈ s.names n, nameOk x = true
  kids : ∀ n, 0 ≤ n → n < 40 → ∀ k ∈ s.kids n, 0 ≤ k ∧ k < 40 ∧ s.kind k ≠ 0 ∧ s.tree k = s.tree n ∧ (s.kind k = 2 → s.up k = n ∧ d n < d k)
  data : ∀ n, 0 ≤ n → n < 40 → (s.data n).size ≤ 40 ∧ (s.kind n ≠ 1 → s.data n = ByteArray.empty)
  roots : s.roots.length ≤ 4 ∧ ∀ r ∈ s.roots, 0 ≤ r ∧ r < 40 ∧ s.kind r = 2 ∧ s.up r = r
  up : ∀ n, 0 ≤ n → n < 40 → s.kind n = 2 → n ≠ e → n ≠ q → (n ∈ s.roots ∧ s.up n = n) ∨ (0 ≤ s.up n ∧ s.up n < 40 ∧ s.kind (s.up n) = 2 ∧ n ∈ s.kids (s.up n) ∧ d (s.up n) < d n)
  num : ∀ n, 0 ≤ n → n < 40 → 0 ≤ s.held n ∧ s.links n = (s.cnt n : Int) + (if n = e then 1 else 0)
  zero : ∀ n, 0 ≤ n → n < 40 → s.kind n = 0 → s.links n = 0 ∧ s.held n = 0
  pos : ∀ n, 0 ≤ n → n < 40 → s.kind n ≠ 0 → n ≠ q → 0 < s.links n ∨ 0 < s.held n
  dir : ∀ n, 0 ≤ n → n < 40 → s.kind n = 2 → n ≠ q → s.links n = 1
abbrev Inv (s : FF) (d : Int → Nat) : Prop := s.InvX d (-1) (-1)
theorem isE_0 {s : FF} {n : Int} (h : s.isE n 0 = 0) : 0 ≤ n ∧ n < 40 ∧ s.kind n ≠ 0 := by
  unfold isE at h
  split at h
  · omega
  · split at h
    · omega
    · exact ⟨by omega, by omega, by assumption⟩
theorem isE_k0 {s : FF} {n k : Int} (h : s.isE n k = 0) : 0 ≤ n ∧ n < 40 ∧ s.kind n ≠ 0 ∧ (0 < k → s.kind n = k) := by
  unfold isE at h
  split at h
  · omega
  · split at h
    · omega
    · split at h
      · omega
      · exact ⟨by omega, by omega, by assumption, fun _ => by omega⟩
theorem isE_k {s : FF} {n k : Int} (h : s.isE n 0 ≠ 0) : s.isE n 0 = s.isE n k := by
  unfold isE at h ⊢
  split
  · rfl
  · rename_i c
    rw [if_neg c] at h
    split
    · rfl
    · rename_i c2
      rw [if_neg c2, if_neg (by omega)] at h
      exact absurd rfl h
theorem isE_nn (s : FF) (n k : Int) : 0 ≤ s.isE n k := by unfold isE; split <;> (try split) <;> (try split) <;> omega
end FF
def fam40 : Nat → Bool := fun i => Nat.blt i 40
def FC.rowsN (e : TypeId) (s : FC) : Nat → RowD := fun i => ⟨.slice (s.nP (i : Int)) (s.names (i : Int)).length (s.nC (i : Int)), e, 1, (s.names (i : Int)).length, strs (s.names (i : Int))⟩
def FC.rowsK (e : TypeId) (s : FC) : Nat → RowD := fun i => ⟨.slice (s.kP (i : Int)) (s.kids (i : Int)).length (s.kC (i : Int)), e, 1, (s.kids (i : Int)).length, ints (s.kids (i : Int))⟩
def FC.void : FC := ⟨FF.void, fun _ => none, fun _ => 0, fun _ => none, fun _ => 0, none, 0⟩

end Go.X.Tr

namespace Go.X.Tr
open Go Go.X
theorem updL_lt' (C : Nat → Value) : ∀ (vs : List Value) (i j : Nat), j < i → updL C i vs j = C j
  | [], _, _, _ => rfl
  | v :: r, i, j, h => by
    unfold updL
    rw [updL_lt' (upd C i v) r (i + 1) j (by omega)]
    simp [upd]; omega
theorem updL_at' : ∀ (vs : List Value) (C : Nat → Value) (i j : Nat) (v : Value), vs[j]? = some v → updL C i vs (i + j) = v
  | [], _, _, _, _, h => by simp at h
  | u :: r, C, i, 0, v, h => by
    have h2 : u = v := by simpa using h
    unfold updL
    rw [updL_lt' _ _ _ _ (by omega), ← h2]
    simp [upd]
  | u :: r, C, i, j + 1, v, h => by
    unfold updL
    have := updL_at' r (upd C i u) (i + 1) j v (by simpa using h)
    rw [show i + 1 + j = i + (j + 1) from by omega] at this
    exact this
theorem updL_ge' : ∀ (vs : List Value) (C : Nat → Value) (i j : Nat), i + vs.length ≤ j → updL C i vs j = C j
  | [], _, _, _, _ => rfl
  | v :: r, C, i, j, h => by
    simp only [List.length_cons] at h
    unfold updL
    rw [updL_ge' r (upd C i v) (i + 1) j (by omega)]
    simp [upd]; omega
structure encF.U where
  kind : Int
  tree : Int
  links : Int
  held : Int
  data : ByteArray
  up : Int
  names : List ByteArray
  nP : Option Addr
  nC : Nat
  kids : List Int
  kP : Option Addr
  kC : Nat

def encF.un (s : FC) (z : Int) : encF.U := ⟨s.kind z, s.tree z, s.links z, s.held z, s.data z, s.up z, s.names z, s.nP z, s.nC z, s.kids z, s.kP z, s.kC z⟩
def encF.cell (u : encF.U) (j : Nat) : Value :=
  if j = 0 then .int .i64 u.kind else
  if j = 1 then .int .i64 u.tree else
  if j = 2 then .int .i64 u.links else
  if j = 3 then .int .i64 u.held else
  if j = 4 then .string u.data else
  if 5 ≤ j ∧ j < 6 then .slice u.nP u.names.length u.nC else
  if 6 ≤ j ∧ j < 7 then .slice u.kP u.kids.length u.kC else
  if j = 7 then .int .i64 u.up else
  undef
def encF (s : FC) (i : Nat) : Value :=
  if i < 320 then encF.cell (encF.un s ((i / 8 : Nat) : Int)) (i % 8) else
  if i = 320 then Value.slice s.rP s.roots.length s.rC else
  undef
theorem encF.at_ (s : FC) (z : Int) (h : 0 ≤ z ∧ z < 40) (j : Nat) (hj : j < 8) : encF s (0 + 0 + z.toNat * 8 + j) = encF.cell (encF.un s z) j := by
  unfold encF
  rw [if_pos (by omega), show (((0 + 0 + z.toNat * 8 + j) / 8 : Nat) : Int) = z from by omega, show (0 + 0 + z.toNat * 8 + j) % 8 = j from by omega]
theorem encF.set (s s' : FC) (z : Int) (h : 0 ≤ z ∧ z < 40) (k : Nat) (hk : k < 8) (v : Value) (hv : ∀ j, encF.cell (encF.un s' z) j = if j = k then v else encF.cell (encF.un s z) j) (ho : ∀ y, ¬ y = z → encF.un s' y = encF.un s y) (hn : Value.slice s'.rP s'.roots.length s'.rC = Value.slice s.rP s.roots.length s.rC) : 0 + 0 + z.toNat * 8 + k < 321 ∧ upd (encF s) (0 + 0 + z.toNat * 8 + k) v = encF s' := by
  refine ⟨by omega, ?_⟩
  funext i
  unfold upd
  by_cases hi : i = 0 + 0 + z.toNat * 8 + k
  · rw [if_pos hi, hi, encF.at_ s' z h k hk, hv, if_pos rfl]
  · rw [if_neg hi]
    unfold encF
    by_cases c1 : i < 320
    · rw [if_pos c1, if_pos c1]
      by_cases cz : ((i / 8 : Nat) : Int) = z
      · rw [cz, hv, if_neg (by omega)]
      · rw [ho _ cz]
    · rw [if_neg c1, if_neg c1, hn]
theorem encF.setL (s s' : FC) (z : Int) (h : 0 ≤ z ∧ z < 40) (vs : List Value) (hl : vs.length = 8) (hv : ∀ j, j < 8 → vs[j]? = some (encF.cell (encF.un s' z) j)) (ho : ∀ y, ¬ y = z → encF.un s' y = encF.un s y) (hn : Value.slice s'.rP s'.roots.length s'.rC = Value.slice s.rP s.roots.length s.rC) : 0 + 0 + z.toNat * 8 + 8 ≤ 321 ∧ updL (encF s) (0 + 0 + z.toNat * 8) vs = encF s' := by
  refine ⟨by omega, ?_⟩
  funext i
  by_cases a1 : i < 0 + 0 + z.toNat * 8
  · rw [updL_lt' _ _ _ _ a1]
    unfold encF
    rw [if_pos (by omega), if_pos (by omega), ho _ (by omega)]
  · by_cases a2 : i < 0 + 0 + z.toNat * 8 + 8
    · obtain ⟨j, rfl⟩ : ∃ j, i = 0 + 0 + z.toNat * 8 + j := ⟨i - (0 + 0 + z.toNat * 8), by omega⟩
      rw [encF.at_ s' z h j (by omega)]
      exact updL_at' vs _ _ _ _ (hv j (by omega))
    · rw [updL_ge' _ _ _ _ (by omega)]
      unfold encF
      by_cases c1 : i < 320
      · rw [if_pos c1, if_pos c1, ho _ (by omega)]
      · rw [if_neg c1, if_neg c1, hn]
theorem encF.ld_n_kind (s : FC) (z : Int) (h : 0 ≤ z ∧ z < 40) : 0 + 0 + z.toNat * 8 + 0 < 321 ∧ encF s (0 + 0 + z.toNat * 8 + 0) = .int .i64 (s.kind z) := ⟨by omega, encF.at_ s z h 0 (by omega)⟩
theorem encF.ld_n_links (s : FC) (z : Int) (h : 0 ≤ z ∧ z < 40) : 0 + 0 + z.toNat * 8 + 2 < 321 ∧ encF s (0 + 0 + z.toNat * 8 + 2) = .int .i64 (s.links z) := ⟨by omega, encF.at_ s z h 2 (by omega)⟩
theorem encF.ld_n_held (s : FC) (z : Int) (h : 0 ≤ z ∧ z < 40) : 0 + 0 + z.toNat * 8 + 3 < 321 ∧ encF s (0 + 0 + z.toNat * 8 + 3) = .int .i64 (s.held z) := ⟨by omega, encF.at_ s z h 3 (by omega)⟩
theorem encF.st_n_held (s : FC) (z : Int) (h : 0 ≤ z ∧ z < 40) (v : Int) : 0 + 0 + z.toNat * 8 + 3 < 321 ∧ upd (encF s) (0 + 0 + z.toNat * 8 + 3) (.int .i64 v) = encF { s with held := fset s.held z v } := encF.set s { s with held := fset s.held z v } z h 3 (by omega) _ (fun j => by
  have e : encF.un { s with held := fset s.held z v } z = { encF.un s z with held := v } := by unfold encF.un; simp only [fset_eq]
  rw [e]
  by_cases hj : j = 3
  · subst hj; rfl
  · unfold encF.cell; simp only [if_neg hj]) (fun y hy => by unfold encF.un; simp only [fset_ne _ _ hy]) rfl
theorem encF.ld_n_data (s : FC) (z : Int) (h : 0 ≤ z ∧ z < 40) : 0 + 0 + z.toNat * 8 + 4 < 321 ∧ encF s (0 + 0 + z.toNat * 8 + 4) = .string (s.data z) := ⟨by omega, encF.at_ s z h 4 (by omega)⟩
theorem encF.st_n_data (s : FC) (z : Int) (h : 0 ≤ z ∧ z < 40) (v : ByteArray) : 0 + 0 + z.toNat * 8 + 4 < 321 ∧ upd (encF s) (0 + 0 + z.toNat * 8 + 4) (.string v) = encF { s with data := fset s.data z v } := encF.set s { s with data := fset s.data z v } z h 4 (by omega) _ (fun j => by
  have e : encF.un { s with data := fset s.data z v } z = { encF.un s z with data := v } := by unfold encF.un; simp only [fset_eq]
  rw [e]
  by_cases hj : j = 4
  · subst hj; rfl
  · unfold encF.cell; simp only [if_neg hj]) (fun y hy => by unfold encF.un; simp only [fset_ne _ _ hy]) rfl
theorem encF.st_n_up (s : FC) (z : Int) (h : 0 ≤ z ∧ z < 40) (v : Int) : 0 + 0 + z.toNat * 8 + 7 < 321 ∧ upd (encF s) (0 + 0 + z.toNat * 8 + 7) (.int .i64 v) = encF { s with up := fset s.up z v } := encF.set s { s with up := fset s.up z v } z h 7 (by omega) _ (fun j => by
  have e : encF.un { s with up := fset s.up z v } z = { encF.un s z with up := v } := by unfold encF.un; simp only [fset_eq]
  rw [e]
  by_cases hj : j = 7
  · subst hj; rfl
  · unfold encF.cell; simp only [if_neg hj]) (fun y hy => by unfold encF.un; simp only [fset_ne _ _ hy]) rfl
theorem encF.ld_n_names (s : FC) (z : Int) (h : 0 ≤ z ∧ z < 40) : 0 + 0 + z.toNat * 8 + 5 < 321 ∧ encF s (0 + 0 + z.toNat * 8 + 5) = .slice (s.nP z) (s.names z).length (s.nC z) := ⟨by omega, encF.at_ s z h 5 (by omega)⟩
theorem encF.ld_n_kids (s : FC) (z : Int) (h : 0 ≤ z ∧ z < 40) : 0 + 0 + z.toNat * 8 + 6 < 321 ∧ encF s (0 + 0 + z.toNat * 8 + 6) = .slice (s.kP z) (s.kids z).length (s.kC z) := ⟨by omega, encF.at_ s z h 6 (by omega)⟩
end Go.X.Tr
