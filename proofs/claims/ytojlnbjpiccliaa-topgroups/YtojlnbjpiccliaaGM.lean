import Derived.Test.YtojlnbjpiccliaaXRow
import Derived.Test.YtojlnbjpiccliaaXLay
import Derived.Test.YtojlnbjpiccliaaXBits
import Derived.Test.YtojlnbjpiccliaaXRes
namespace Go.X
open Go
/-! ### groups: a tree -/
structure TG where
  here : Int → Bool
  par : Int → Int
  mp : Int → Int
  mg : Int → Int
  pr : Int → Int
  pg : Int → Int
def wayF (par : Int → Int) : Nat → Int → List Int
  | 0, _ => []
  | k + 1, n => if n < 0 then [] else n :: wayF par k (par n)
def IsWay (par : Int → Int) : Int → List Int → Prop
  | n, [] => n < 0
  | n, x :: r => x = n ∧ 0 ≤ n ∧ n < 10 ∧ IsWay par (par n) r
theorem IsWay.unique {par : Int → Int} : ∀ {n : Int} {l l' : List Int}, IsWay par n l → IsWay par n l' → l = l'
  | _, [], [], _, _ => rfl
  | _, [], _ :: _, h, k => absurd h (by have := k.2.1; simp only [IsWay]; omega)
  | _, _ :: _, [], h, k => absurd k (by have := h.2.1; simp only [IsWay]; omega)
  | _, _ :: _, _ :: _, ⟨h1, _, _, h2⟩, ⟨k1, _, _, k2⟩ => by subst h1; subst k1; rw [IsWay.unique h2 k2]
theorem IsWay.range {par : Int → Int} : ∀ {n : Int} {l : List Int}, IsWay par n l → ∀ x ∈ l, 0 ≤ x ∧ x < 10
  | _, [], _, _, h => by simp at h
  | _, _ :: _, ⟨h1, h2, h3, h4⟩, x, hx => by
    rcases List.mem_cons.1 hx with rfl | hx
    · subst h1; exact ⟨h2, h3⟩
    · exact IsWay.range h4 x hx
theorem IsWay.congr {par par' : Int → Int} : ∀ {n : Int} {l : List Int}, IsWay par n l → (∀ x ∈ l, par' x = par x) → IsWay par' n l
  | _, [], h, _ => h
  | _, x :: r, ⟨h1, h2, h3, h4⟩, hc => by
    subst h1
    refine ⟨rfl, h2, h3, ?_⟩
    rw [hc x (by simp)]
    exact IsWay.congr h4 (fun y hy => hc y (List.mem_cons_of_mem _ hy))
/-- the elements of a way, with what is known of them -/
abbrev N10 := {x : Int // 0 ≤ x ∧ x < 10}
def vals (l : List N10) : List Int := l.map (·.1)
theorem vals_snoc (l : List N10) (x : N10) : vals (l ++ [x]) = vals l ++ [x.1] := by simp [vals]
theorem lift_way : ∀ (l : List Int), (∀ x ∈ l, 0 ≤ x ∧ x < 10) → ∃ l' : List N10, vals l' = l
  | [], _ => ⟨[], rfl⟩
  | x :: r, h => by
    obtain ⟨r', hr⟩ := lift_way r (fun y hy => h y (List.mem_cons_of_mem _ hy))
    exact ⟨⟨x, h x (by simp)⟩ :: r', by simp [vals] at *; exact hr⟩
def sumN (f : Int → Int) : Nat → Int
  | 0 => 0
  | k + 1 => sumN f k + f (k : Int)
def allK (p : Int → Bool) : Nat → List Int
  | 0 => []
  | k + 1 => allK p k ++ if p (k : Int) = true then [(k : Int)] else []
theorem allK_len (p : Int → Bool) : ∀ k, (allK p k).length ≤ k
  | 0 => by simp [allK]
  | k + 1 => by
    have := allK_len p k
    simp only [allK, List.length_append]
    split <;> simp <;> omega
theorem allK_mem (p : Int → Bool) : ∀ (k : Nat) (x : Int), x ∈ allK p k ↔ 0 ≤ x ∧ x < k ∧ p x = true
  | 0, x => by simp [allK]; omega
  | k + 1, x => by
    simp only [allK, List.mem_append, allK_mem p k x]
    by_cases h : p (k : Int) = true
    · rw [if_pos h]; simp only [List.mem_singleton]
      constructor
      · rintro (⟨h1, h2, h3⟩ | rfl)
        · exact ⟨h1, by omega, h3⟩
        · exact ⟨by omega, by omega, h⟩
      · rintro ⟨h1, h2, h3⟩
        by_cases hx : x = (k : Int)
        · exact .inr hx
        · exact .inl ⟨h1, by omega, h3⟩
    · rw [if_neg h]; simp only [List.not_mem_nil, or_false]
      constructor
      · rintro ⟨h1, h2, h3⟩; exact ⟨h1, by omega, h3⟩
      · rintro ⟨h1, h2, h3⟩
        refine ⟨h1, ?_, h3⟩
        by_cases hx : x = (k : Int)
        · subst hx; exact absurd h3 h
        · omega
structure GV where
  par : Int
  mp : Int
  mg : Int
  pr : Int
  pg : Int
def GV.arr (g : GV) : Array Value := #[.int .i64 g.par, .int .i64 g.mp, .int .i64 g.mg, .int .i64 g.pr, .int .i64 g.pg]
def GV.room (g : GV) (p m : Int) : Bool := (decide (p = 0) || decide (g.mp < 0) || decide (g.pr + p ≤ g.mp)) && (decide (m = 0) || decide (g.mg < 0) || decide (g.pg + m ≤ g.mg))
namespace TG
def gv (s : TG) (n : Int) : GV := ⟨s.par n, s.mp n, s.mg n, s.pr n, s.pg n⟩
def setG (s : TG) (n : Int) (g : GV) : TG := ⟨s.here, fset s.par n g.par, fset s.mp n g.mp, fset s.mg n g.mg, fset s.pr n g.pr, fset s.pg n g.pg⟩
def way (s : TG) (n : Int) : List Int := wayF s.par 5 n
def isE (s : TG) (n : Int) : Int := if n < 0 ∨ 10 ≤ n then 1 else if s.here n = true then 0 else 2
def bnd (p m : Int) : Int := if p < 0 ∨ 20 < p ∨ m < 0 ∨ 64 < m then 1 else 0
def room (s : TG) (p m n : Int) : Bool := (s.gv n).room p m
def free (s : TG) : Option Nat := firstN (fun n => !s.here n) 10
def put (s : TG) (k p : Int) : TG := ⟨fset s.here k true, fset s.par k p, fset s.mp k (-1), fset s.mg k (-1), fset s.pr k 0, fset s.pg k 0⟩
def clr (s : TG) (k : Int) : TG := ⟨fset s.here k false, fset s.par k 0, fset s.mp k 0, fset s.mg k 0, fset s.pr k 0, fset s.pg k 0⟩
def addE (s : TG) (p : Int) : Int := if s.isE p ≠ 0 then s.isE p else if (s.way p).length = 4 then 7 else if s.free = none then 4 else 0
def addN (s : TG) (p : Int) : Int := if s.addE p = 0 then ((s.free.getD 0 : Nat) : Int) else 0
def add (s : TG) (p : Int) : TG := if s.addE p = 0 then s.put (s.addN p) p else s
def below (s : TG) (n : Int) : Prop := ∃ k : Int, 0 ≤ k ∧ k < 10 ∧ s.here k = true ∧ s.par k = n
def lay (s : TG) (l : List Int) (p m : Int) : TG := { s with pr := fun y => s.pr y + p * (l.count y : Int), pg := fun y => s.pg y + m * (l.count y : Int) }
def chE (s : TG) (n p m : Int) : Int := if s.isE n ≠ 0 then s.isE n else bnd p m
def chargeE (s : TG) (n p m : Int) : Int := if s.chE n p m ≠ 0 then s.chE n p m else if (s.way n).all (s.room p m) = true then 0 else 6
def charge (s : TG) (n p m : Int) : TG := if s.chargeE n p m = 0 then s.lay (s.way n) p m else s
def kid (s : TG) (f : Int → Int) (n k : Int) : Int := if s.here k = true ∧ s.par k = n then f k else 0
def left (s : TG) (f : Int → Int) (n : Int) : Int := f n - sumN (s.kid f n) 10
def unchE (s : TG) (n p m : Int) : Int := if s.chE n p m ≠ 0 then s.chE n p m else if p ≤ s.left s.pr n ∧ m ≤ s.left s.pg n then 0 else 8
def unch (s : TG) (n p m : Int) : TG := if s.unchE n p m = 0 then s.lay (s.way n) (-p) (-m) else s
def limitE (s : TG) (n p m : Int) : Int := if s.isE n ≠ 0 then s.isE n else if p < -1 ∨ 20 < p ∨ m < -1 ∨ 64 < m then 1 else 0
def limit (s : TG) (n p m : Int) : TG := if s.limitE n p m = 0 then { s with mp := fset s.mp n p, mg := fset s.mg n m } else s
def moveE (s : TG) (a b p m : Int) : Int := if s.isE b ≠ 0 then s.isE b else if s.unchE a p m ≠ 0 then s.unchE a p m else (s.unch a p m).chargeE b p m
def move (s : TG) (a b p m : Int) : TG := if s.isE b ≠ 0 ∨ s.unchE a p m ≠ 0 then s else if (s.unch a p m).chargeE b p m = 0 then (s.unch a p m).charge b p m else s
def lacks (s : TG) (n p m : Int) : Option Int := if s.chE n p m ≠ 0 then none else (s.way n).find? (fun x => !s.room p m x)
def under (s : TG) (n o : Int) : Bool := if s.isE n ≠ 0 then false else decide (o ∈ s.way n)
def all (s : TG) : List Int := allK s.here 10
/-- a tree, no deeper than four -/
structure Ok (s : TG) : Prop where
  root : s.here 0 = true ∧ s.par 0 = -1
  rank : ∃ d : Int → Nat, d 0 = 1 ∧ ∀ n, 0 ≤ n → n < 10 → s.here n = true → 1 ≤ d n ∧ d n ≤ 4 ∧ (n ≠ 0 → 0 ≤ s.par n ∧ s.par n < 10 ∧ s.here (s.par n) = true ∧ d n = d (s.par n) + 1)
theorem isE_nn (s : TG) (n : Int) : 0 ≤ s.isE n := by unfold isE; split <;> (try split) <;> omega
theorem isE_ok {s : TG} {n : Int} (h : s.isE n = 0) : 0 ≤ n ∧ n < 10 ∧ s.here n = true := by
  unfold isE at h
  split at h
  · omega
  · split at h
    · rename_i h1 h2; exact ⟨by omega, by omega, h2⟩
    · omega
theorem isE_of {s : TG} {n : Int} (h0 : 0 ≤ n) (h1 : n < 10) (h2 : s.here n = true) : s.isE n = 0 := by
  unfold isE; rw [if_neg (by omega), if_pos h2]
theorem isE_0 (s : TG) (n : Int) : s.isE n = 0 ↔ 0 ≤ n ∧ n < 10 ∧ s.here n = true := ⟨isE_ok, fun h => isE_of h.1 h.2.1 h.2.2⟩
theorem bnd_0 (p m : Int) : bnd p m = 0 ↔ 0 ≤ p ∧ p ≤ 20 ∧ 0 ≤ m ∧ m ≤ 64 := by
  unfold bnd; split <;> constructor <;> intro h <;> omega
theorem bnd_nn (p m : Int) : 0 ≤ bnd p m := by unfold bnd; split <;> omega
theorem chE_nn (s : TG) (n p m : Int) : 0 ≤ s.chE n p m := by unfold chE; have := s.isE_nn n; have := bnd_nn p m; split <;> omega
theorem chE_0 {s : TG} {n p m : Int} (h : s.chE n p m = 0) : (0 ≤ n ∧ n < 10 ∧ s.here n = true) ∧ 0 ≤ p ∧ p ≤ 20 ∧ 0 ≤ m ∧ m ≤ 64 := by
  unfold chE at h
  split at h
  · omega
  · rename_i h1; exact ⟨isE_ok (by omega), (bnd_0 p m).1 h⟩
theorem chargeE_nn (s : TG) (n p m : Int) : 0 ≤ s.chargeE n p m := by unfold chargeE; have := s.chE_nn n p m; split <;> (try split) <;> omega
theorem unchE_nn (s : TG) (n p m : Int) : 0 ≤ s.unchE n p m := by unfold unchE; have := s.chE_nn n p m; split <;> (try split) <;> omega
theorem limitE_nn (s : TG) (n p m : Int) : 0 ≤ s.limitE n p m := by unfold limitE; have := s.isE_nn n; split <;> (try split) <;> omega
theorem addE_nn (s : TG) (p : Int) : 0 ≤ s.addE p := by unfold addE; have := s.isE_nn p; split <;> (try split) <;> (try split) <;> omega
theorem moveE_nn (s : TG) (a b p m : Int) : 0 ≤ s.moveE a b p m := by
  unfold moveE; have := s.isE_nn b; have := s.unchE_nn a p m; have := (s.unch a p m).chargeE_nn b p m; split <;> (try split) <;> omega
theorem Ok.isWay {s : TG} (h : s.Ok) : ∀ (f k : Nat), k ≤ f → ∀ d : Int → Nat, d 0 = 1 → (∀ n, 0 ≤ n → n < 10 → s.here n = true → 1 ≤ d n ∧ d n ≤ 4 ∧ (n ≠ 0 → 0 ≤ s.par n ∧ s.par n < 10 ∧ s.here (s.par n) = true ∧ d n = d (s.par n) + 1)) →
    ∀ n, 0 ≤ n → n < 10 → s.here n = true → d n = k → IsWay s.par n (wayF s.par f n) ∧ (wayF s.par f n).length = k ∧ ∀ x ∈ wayF s.par f n, s.here x = true
  | 0, k, hk, d, d0, hd, n, h0, h1, h2, h3 => by have := (hd n h0 h1 h2).1; omega
  | f + 1, k, hk, d, d0, hd, n, h0, h1, h2, h3 => by
    have h4 := hd n h0 h1 h2
    unfold wayF
    rw [if_neg (by omega)]
    by_cases hn : n = 0
    · subst hn
      have hp : s.par 0 = -1 := h.root.2
      have e : wayF s.par f (s.par 0) = [] := by rw [hp]; cases f <;> simp [wayF]
      rw [e]
      refine ⟨⟨rfl, h0, h1, by rw [hp]; simp [IsWay]⟩, by simp; omega, fun x hx => by simp at hx; subst hx; exact h2⟩
    · obtain ⟨p0, p1, p2, p3⟩ := h4.2.2 hn
      obtain ⟨q1, q2, q3⟩ := Ok.isWay h f (k - 1) (by omega) d d0 hd (s.par n) p0 p1 p2 (by omega)
      refine ⟨⟨rfl, h0, h1, q1⟩, by simp [q2]; omega, fun x hx => ?_⟩
      rcases List.mem_cons.1 hx with rfl | hx
      · exact h2
      · exact q3 x hx
theorem Ok.way {s : TG} (h : s.Ok) {n : Int} (h0 : 0 ≤ n) (h1 : n < 10) (h2 : s.here n = true) : IsWay s.par n (s.way n) ∧ (s.way n).length ≤ 4 ∧ ∀ x ∈ s.way n, s.here x = true := by
  obtain ⟨d, d0, hd⟩ := h.rank
  have h3 := hd n h0 h1 h2
  obtain ⟨q1, q2, q3⟩ := h.isWay 5 (d n) (by omega) d d0 hd n h0 h1 h2 rfl
  exact ⟨q1, by unfold TG.way; omega, q3⟩
theorem lay_snoc (s : TG) (l : List Int) (x p m : Int) : s.lay (l ++ [x]) p m = { s.lay l p m with pr := fset (s.lay l p m).pr x ((s.lay l p m).pr x + p), pg := fset (s.lay l p m).pg x ((s.lay l p m).pg x + m) } := by
  have h : ∀ (f : Int → Int) (q : Int), (fun y => f y + q * ((l ++ [x]).count y : Int)) = fset (fun y => f y + q * (l.count y : Int)) x (f x + q * (l.count x : Int) + q) := fun f q => by
    funext y
    unfold fset
    by_cases hy : y = x
    · subst hy
      rw [if_pos rfl, List.count_append, List.count_singleton_self]
      push_cast
      rw [Int.mul_add, Int.mul_one]; omega
    · rw [if_neg hy, List.count_append, List.count_singleton, if_neg (by simpa using fun e => hy e.symm)]
      simp
  unfold lay
  simp only [h]
theorem lay_nil (s : TG) (p m : Int) : s.lay [] p m = s := by simp [lay]
theorem lay_par (s : TG) (l : List Int) (p m : Int) : (s.lay l p m).par = s.par := rfl
theorem lay_back (s : TG) (l : List Int) (p m : Int) : (s.lay l (-p) (-m)).lay l p m = s := by
  unfold lay
  have h : ∀ (f : Int → Int) (q : Int), (fun y => f y + -q * (l.count y : Int) + q * (l.count y : Int)) = f := fun f q => by
    funext y
    rw [Int.neg_mul]; omega
  simp only [h]
/-- numbers not too large -/
def Small (s : TG) (B : Int) : Prop := ∀ n, 0 ≤ n → n < 10 → -B ≤ s.pr n ∧ s.pr n ≤ B ∧ -B ≤ s.pg n ∧ s.pg n ≤ B
theorem Small.mono {s : TG} {B B' : Int} (h : s.Small B) (hb : B ≤ B') : s.Small B' := fun n h0 h1 => by have := h n h0 h1; omega
theorem mul_bnd {p c K : Int} (hc : 0 ≤ c) (hp : -K ≤ p ∧ p ≤ K) {n : Int} (hn : c ≤ n) (hK : 0 ≤ K) : -(K * n) ≤ p * c ∧ p * c ≤ K * n := by
  have h1 : p * c ≤ K * c := Int.mul_le_mul_of_nonneg_right hp.2 hc
  have h2 : -K * c ≤ p * c := Int.mul_le_mul_of_nonneg_right hp.1 hc
  have h3 : K * c ≤ K * n := Int.mul_le_mul_of_nonneg_left hn hK
  rw [Int.neg_mul] at h2
  omega
theorem Small.lay {s : TG} {B : Int} (h : s.Small B) {l : List Int} (hl : l.length ≤ 5) {p m : Int} (hp : -20 ≤ p ∧ p ≤ 20) (hm : -64 ≤ m ∧ m ≤ 64) : (s.lay l p m).Small (B + 320) := fun n h0 h1 => by
  have h2 := h n h0 h1
  have hc : (l.count n : Int) ≤ 5 := by have := List.count_le_length (a := n) (l := l); omega
  have h3 := mul_bnd (p := p) (c := l.count n) (K := 20) (by omega) hp hc (by omega)
  have h4 := mul_bnd (p := m) (c := l.count n) (K := 64) (by omega) hm hc (by omega)
  show -(B + 320) ≤ s.pr n + p * (l.count n : Int) ∧ s.pr n + p * (l.count n : Int) ≤ B + 320 ∧ -(B + 320) ≤ s.pg n + m * (l.count n : Int) ∧ s.pg n + m * (l.count n : Int) ≤ B + 320
  omega
end TG
theorem kid_step (s : TG) (f : Int → Int) (n : Int) {k : Int} (h : 0 ≤ k) : sumN (s.kid f n) (k + 1).toNat = sumN (s.kid f n) k.toNat + s.kid f n k := by
  rw [show (k + 1).toNat = k.toNat + 1 from by omega]
  show sumN (s.kid f n) k.toNat + s.kid f n (k.toNat : Int) = _
  rw [show ((k.toNat : Nat) : Int) = k from by omega]
theorem sumN_bnd {f : Int → Int} {B : Int} : ∀ (k : Nat), (∀ j : Int, 0 ≤ j → j < k → -B ≤ f j ∧ f j ≤ B) → -(B * k) ≤ sumN f k ∧ sumN f k ≤ B * k
  | 0, _ => by simp [sumN]
  | k + 1, h => by
    have h1 := sumN_bnd k (fun j h0 h1 => h j h0 (by omega))
    have h2 := h (k : Int) (by omega) (by omega)
    have h3 : B * ((k + 1 : Nat) : Int) = B * k + B := by push_cast; rw [Int.mul_add]; omega
    simp only [sumN]
    omega
theorem kid_small {s : TG} {B : Int} (h : s.Small B) (hB : 0 ≤ B ∧ B ≤ 1000000000000) {n : Int} (hn : 0 ≤ n ∧ n < 10) {k : Int} (h0 : 0 ≤ k) (hk : k ≤ 10 := by omega) :
    (-(B * 10) ≤ sumN (s.kid s.pr n) k.toNat ∧ sumN (s.kid s.pr n) k.toNat ≤ B * 10) ∧ (-(B * 10) ≤ sumN (s.kid s.pg n) k.toNat ∧ sumN (s.kid s.pg n) k.toNat ≤ B * 10) ∧ s.Small B := by
  have hm : B * (k.toNat : Int) ≤ B * 10 := Int.mul_le_mul_of_nonneg_left (by omega) hB.1
  have h1 := sumN_bnd (f := s.kid s.pr n) (B := B) k.toNat (fun j j0 j1 => by
    have := h j j0 (by omega)
    unfold TG.kid; split <;> omega)
  have h2 := sumN_bnd (f := s.kid s.pg n) (B := B) k.toNat (fun j j0 j1 => by
    have := h j j0 (by omega)
    unfold TG.kid; split <;> omega)
  exact ⟨by omega, by omega, h⟩
namespace TG
theorem Ok.lay {s : TG} (h : s.Ok) (l : List Int) (p m : Int) : (s.lay l p m).Ok := ⟨h.root, h.rank⟩
theorem Ok.unch {s : TG} (h : s.Ok) {n p m : Int} : (s.unch n p m).Ok := by
  unfold TG.unch; split
  · exact h.lay _ _ _
  · exact h
theorem Ok.charge {s : TG} (h : s.Ok) {n p m : Int} : (s.charge n p m).Ok := by
  unfold TG.charge; split
  · exact h.lay _ _ _
  · exact h
theorem way_lay (s : TG) (l : List Int) (p m n : Int) : (s.lay l p m).way n = s.way n := rfl
theorem way_unch (s : TG) (a p m n : Int) : (s.unch a p m).way n = s.way n := by unfold TG.unch; split <;> rfl
theorem unchE_0 {s : TG} {n p m : Int} (h : s.unchE n p m = 0) : (0 ≤ n ∧ n < 10 ∧ s.here n = true) ∧ 0 ≤ p ∧ p ≤ 20 ∧ 0 ≤ m ∧ m ≤ 64 := by
  unfold unchE at h
  split at h
  · omega
  · exact chE_0 (by omega)
theorem chargeE_0 {s : TG} {n p m : Int} (h : s.chargeE n p m = 0) : (0 ≤ n ∧ n < 10 ∧ s.here n = true) ∧ 0 ≤ p ∧ p ≤ 20 ∧ 0 ≤ m ∧ m ≤ 64 := by
  unfold chargeE at h
  split at h
  · omega
  · exact chE_0 (by omega)
theorem Small.unch {s : TG} {B : Int} (h : s.Small B) (hO : s.Ok) (n p m : Int) : (s.unch n p m).Small (B + 320) := by
  unfold TG.unch; split
  · rename_i h0
    obtain ⟨⟨n0, n1, n2⟩, p0, p1, m0, m1⟩ := unchE_0 h0
    have := (hO.way n0 n1 n2).2.1
    exact h.lay (by omega) (by omega) (by omega)
  · exact h.mono (by omega)
theorem Small.charge {s : TG} {B : Int} (h : s.Small B) (hO : s.Ok) (n p m : Int) : (s.charge n p m).Small (B + 320) := by
  unfold TG.charge; split
  · rename_i h0
    obtain ⟨⟨n0, n1, n2⟩, p0, p1, m0, m1⟩ := chargeE_0 h0
    have := (hO.way n0 n1 n2).2.1
    exact h.lay (by omega) (by omega) (by omega)
  · exact h.mono (by omega)
end TG
namespace TG
def kidN (s : TG) (n : Int) : Bool := (List.range 10).any (fun k => s.here (k : Int) && decide (s.par (k : Int) = n))
theorem kidN_true (s : TG) (n : Int) : s.kidN n = true ↔ s.below n := by
  unfold kidN below
  simp only [List.any_eq_true, List.mem_range, Bool.and_eq_true, decide_eq_true_eq]
  constructor
  · rintro ⟨k, h1, h2, h3⟩; exact ⟨(k : Int), by omega, by omega, h2, h3⟩
  · rintro ⟨k, h1, h2, h3, h4⟩
    refine ⟨k.toNat, by omega, ?_⟩
    rw [show ((k.toNat : Nat) : Int) = k from by omega]; exact ⟨h3, h4⟩
theorem kidN_of {s : TG} {n k : Int} (h0 : 0 ≤ k) (h1 : k < 10) (h2 : s.here k = true) (h3 : s.par k = n) : s.kidN n = true := (s.kidN_true n).2 ⟨k, h0, h1, h2, h3⟩
theorem kidN_no {s : TG} {n : Int} (h : ∀ j : Int, 0 ≤ j → j < 10 → ¬ (s.here j = true ∧ s.par j = n)) : s.kidN n = false := by
  cases hk : s.kidN n with
  | false => rfl
  | true => obtain ⟨k, h0, h1, h2, h3⟩ := (s.kidN_true n).1 hk; exact absurd ⟨h2, h3⟩ (h k h0 h1)
def removeE (s : TG) (n : Int) : Int := if s.isE n ≠ 0 then s.isE n else if n = 0 ∨ 0 < s.pr n ∨ 0 < s.pg n ∨ s.kidN n = true then 5 else 0
def remove (s : TG) (n : Int) : TG := if s.removeE n = 0 then s.clr n else s
def removeE' (s : TG) (n : Int) : Int := if s.isE n ≠ 0 then s.isE n else if n = 0 ∨ s.pr n ≠ 0 ∨ s.pg n ≠ 0 ∨ s.kidN n = true then 5 else 0
def remove' (s : TG) (n : Int) : TG := if s.removeE' n = 0 then { s with here := fset s.here n false } else s
theorem removeE_nn (s : TG) (n : Int) : 0 ≤ s.removeE n := by unfold removeE; have := s.isE_nn n; split <;> (try split) <;> omega
theorem free_some {s : TG} {k : Int} (h0 : 0 ≤ k) (h1 : k < 10) (h2 : s.here k = false) (hn : ∀ j : Int, 0 ≤ j → j < k → s.here j = true) : s.free = some k.toNat :=
  firstN_some h0 h1 (by simp [h2]) (fun j j0 j1 => by simp [hn j j0 j1])
theorem free_none {s : TG} (hn : ∀ j : Int, 0 ≤ j → j < 10 → s.here j = true) : s.free = none :=
  firstN_none (fun j j0 j1 => by simp [hn j j0 j1])
theorem add_some {s : TG} {a k : Int} (hi : s.isE a = 0) (hd : ¬ (s.way a).length = 4) (h0 : 0 ≤ k) (h1 : k < 10) (h2 : s.here k = false) (hn : ∀ j : Int, 0 ≤ j → j < k → s.here j = true) :
    s.addE a = 0 ∧ s.addN a = k ∧ s.add a = s.put k a := by
  have hf := free_some h0 h1 h2 hn
  have e1 : s.addE a = 0 := by unfold addE; rw [if_neg (by omega), if_neg hd, if_neg (by simp [hf])]
  have e2 : s.addN a = k := by unfold addN; rw [if_pos e1, hf]; simp; omega
  exact ⟨e1, e2, by unfold add; rw [if_pos e1, e2]⟩
theorem add_no {s : TG} {a : Int} (h : s.addE a ≠ 0) : s.addN a = 0 ∧ s.add a = s := ⟨by unfold addN; rw [if_neg h], by unfold add; rw [if_neg h]⟩
theorem add_err {s : TG} {a : Int} (h : s.isE a ≠ 0) : s.addE a = s.isE a := by unfold addE; rw [if_pos h]
theorem add_deep {s : TG} {a : Int} (h : s.isE a = 0) (hd : (s.way a).length = 4) : s.addE a = 7 := by unfold addE; rw [if_neg (by omega), if_pos hd]
theorem add_full {s : TG} {a : Int} (h : s.isE a = 0) (hd : ¬ (s.way a).length = 4) (hn : ∀ j : Int, 0 ≤ j → j < 10 → s.here j = true) : s.addE a = 4 := by
  unfold addE; rw [if_neg (by omega), if_neg hd, if_pos (free_none hn)]
end TG
theorem allK_next (p : Int → Bool) {k : Int} (h : 0 ≤ k) : (p k = true → allK p (k + 1).toNat = allK p k.toNat ++ [k]) ∧ (p k = false → allK p (k + 1).toNat = allK p k.toNat) := by
  rw [show (k + 1).toNat = k.toNat + 1 from by omega]
  have e : ((k.toNat : Nat) : Int) = k := by omega
  constructor
  · intro hp; simp only [allK, e]; rw [if_pos hp]
  · intro hp; simp only [allK, e]; rw [if_neg (by simp [hp]), List.append_nil]
theorem GV.room_iff (g : GV) (q m : Int) : g.room q m = true ↔ (q = 0 ∨ g.mp < 0 ∨ g.pr + q ≤ g.mp) ∧ (m = 0 ∨ g.mg < 0 ∨ g.pg + m ≤ g.mg) := by
  unfold GV.room
  simp only [Bool.and_eq_true, Bool.or_eq_true, decide_eq_true_eq, or_assoc]
theorem GV.room_no (g : GV) (q m : Int) : g.room q m = false ↔ ¬ ((q = 0 ∨ g.mp < 0 ∨ g.pr + q ≤ g.mp) ∧ (m = 0 ∨ g.mg < 0 ∨ g.pg + m ≤ g.mg)) := by
  rw [← GV.room_iff]; simp
theorem at0_mem' {l : List Int} {z : Int} (h0 : 0 ≤ z) (h1 : z < l.length) : at0 l z ∈ l := by
  have h2 : z.toNat < l.length := by omega
  have : at0 l z = l[z.toNat] := by simp [at0, List.getD, h2]
  rw [this]; exact List.getElem_mem h2
theorem mem_at0' {l : List Int} {x : Int} (h : x ∈ l) : ∃ j : Int, 0 ≤ j ∧ j < l.length ∧ at0 l j = x := by
  obtain ⟨k, hk, rfl⟩ := List.getElem_of_mem h
  exact ⟨(k : Int), by omega, by omega, by simp [at0, List.getD, hk]⟩
theorem take_at0' {l : List Int} {z : Int} (h0 : 0 ≤ z) (h1 : z < l.length) : l.take (z + 1).toNat = l.take z.toNat ++ [at0 l z] := by
  have h2 : z.toNat < l.length := by omega
  rw [show (z + 1).toNat = z.toNat + 1 from by omega, List.take_add_one]
  simp [at0, List.getD, h2]
theorem find_at0 {l : List Int} {p : Int → Bool} {k : Int} (h0 : 0 ≤ k) (h1 : k < l.length) (hp : p (at0 l k) = true) (hn : ∀ j : Int, 0 ≤ j → j < k → p (at0 l j) = false) : l.find? p = some (at0 l k) := by
  have h2 : k.toNat < l.length := by omega
  have e : ∀ (i : Nat) (h : i < l.length), at0 l (i : Int) = l[i] := fun i h => by simp [at0, List.getD, h]
  have e2 := e k.toNat h2
  rw [show ((k.toNat : Nat) : Int) = k from by omega] at e2
  rw [List.find?_eq_some_iff_getElem]
  refine ⟨hp, k.toNat, h2, e2.symm, fun j hj => ?_⟩
  have := hn (j : Int) (by omega) (by omega)
  rw [e j (by omega)] at this
  simp [this]
def encGt (s : TG) (i : Nat) : Value :=
  if i % 5 = 0 ∧ i / 5 < 10 then .int .i64 (s.par ((i / 5 : Nat) : Int)) else
  if 1 ≤ i ∧ (i - 1) % 5 = 0 ∧ (i - 1) / 5 < 10 then .int .i64 (s.mp (((i - 1) / 5 : Nat) : Int)) else
  if 2 ≤ i ∧ (i - 2) % 5 = 0 ∧ (i - 2) / 5 < 10 then .int .i64 (s.mg (((i - 2) / 5 : Nat) : Int)) else
  if 3 ≤ i ∧ (i - 3) % 5 = 0 ∧ (i - 3) / 5 < 10 then .int .i64 (s.pr (((i - 3) / 5 : Nat) : Int)) else
  if 4 ≤ i ∧ (i - 4) % 5 = 0 ∧ (i - 4) / 5 < 10 then .int .i64 (s.pg (((i - 4) / 5 : Nat) : Int)) else
  if 50 ≤ i ∧ (i - 50) % 1 = 0 ∧ (i - 50) / 1 < 10 then .bool (s.here (((i - 50) / 1 : Nat) : Int)) else
  undef
theorem encGt.ld_g_I_Parent (s : TG) (z0 : Int) (q0 : 0 ≤ z0 ∧ z0 < 10) : (((0 + 0) + z0.toNat * 5) + 0) < 60 ∧ encGt s (((0 + 0) + z0.toNat * 5) + 0) = .int .i64 (s.par z0) := by
  refine ⟨by omega, ?_⟩
  unfold encGt
  rw [if_pos (by omega)]
  rw [show (((((0 + 0) + z0.toNat * 5) + 0) / 5 : Nat) : Int) = z0 from by omega]
theorem encGt.st_g_I_Parent (s : TG) (z0 : Int) (q0 : 0 ≤ z0 ∧ z0 < 10) (v : Int) : (((0 + 0) + z0.toNat * 5) + 0) < 60 ∧ upd (encGt s) (((0 + 0) + z0.toNat * 5) + 0) (.int .i64 (v)) = encGt ({ s with par := fset s.par z0 v }) := by
  refine ⟨by omega, ?_⟩
  funext j
  unfold upd
  by_cases hj : j = (((0 + 0) + z0.toNat * 5) + 0)
  · rw [if_pos hj, hj, (encGt.ld_g_I_Parent ({ s with par := fset s.par z0 v }) z0 q0).2]
    simp [fset, fset2]
  · rw [if_neg hj]
    unfold encGt
    refine ite_both (fun c0 => ?_) (fun c0 => ?_)
    · have hne : ¬ (((j / 5 : Nat) : Int) = z0) := by omega
      simp only [fset, fset2, hne, if_false, and_true, true_and]
    refine ite_both (fun c1 => ?_) (fun c1 => ?_)
    · first | rfl | simp [fset, fset2]
    refine ite_both (fun c2 => ?_) (fun c2 => ?_)
    · first | rfl | simp [fset, fset2]
    refine ite_both (fun c3 => ?_) (fun c3 => ?_)
    · first | rfl | simp [fset, fset2]
    refine ite_both (fun c4 => ?_) (fun c4 => ?_)
    · first | rfl | simp [fset, fset2]
    refine ite_both (fun c5 => ?_) (fun c5 => ?_)
    · first | rfl | simp [fset, fset2]
    rfl
theorem encGt.ld_g_I_MaxProcs (s : TG) (z0 : Int) (q0 : 0 ≤ z0 ∧ z0 < 10) : (((0 + 0) + z0.toNat * 5) + 1) < 60 ∧ encGt s (((0 + 0) + z0.toNat * 5) + 1) = .int .i64 (s.mp z0) := by
  refine ⟨by omega, ?_⟩
  unfold encGt
  rw [if_neg (by omega)]
  rw [if_pos (by omega)]
  rw [show ((((((0 + 0) + z0.toNat * 5) + 1) - 1) / 5 : Nat) : Int) = z0 from by omega]
theorem encGt.st_g_I_MaxProcs (s : TG) (z0 : Int) (q0 : 0 ≤ z0 ∧ z0 < 10) (v : Int) : (((0 + 0) + z0.toNat * 5) + 1) < 60 ∧ upd (encGt s) (((0 + 0) + z0.toNat * 5) + 1) (.int .i64 (v)) = encGt ({ s with mp := fset s.mp z0 v }) := by
  refine ⟨by omega, ?_⟩
  funext j
  unfold upd
  by_cases hj : j = (((0 + 0) + z0.toNat * 5) + 1)
  · rw [if_pos hj, hj, (encGt.ld_g_I_MaxProcs ({ s with mp := fset s.mp z0 v }) z0 q0).2]
    simp [fset, fset2]
  · rw [if_neg hj]
    unfold encGt
    refine ite_both (fun c0 => ?_) (fun c0 => ?_)
    · first | rfl | simp [fset, fset2]
    refine ite_both (fun c1 => ?_) (fun c1 => ?_)
    · have hne : ¬ ((((j - 1) / 5 : Nat) : Int) = z0) := by omega
      simp only [fset, fset2, hne, if_false, and_true, true_and]
    refine ite_both (fun c2 => ?_) (fun c2 => ?_)
    · first | rfl | simp [fset, fset2]
    refine ite_both (fun c3 => ?_) (fun c3 => ?_)
    · first | rfl | simp [fset, fset2]
    refine ite_both (fun c4 => ?_) (fun c4 => ?_)
    · first | rfl | simp [fset, fset2]
    refine ite_both (fun c5 => ?_) (fun c5 => ?_)
    · first | rfl | simp [fset, fset2]
    rfl
theorem encGt.ld_g_I_MaxPages (s : TG) (z0 : Int) (q0 : 0 ≤ z0 ∧ z0 < 10) : (((0 + 0) + z0.toNat * 5) + 2) < 60 ∧ encGt s (((0 + 0) + z0.toNat * 5) + 2) = .int .i64 (s.mg z0) := by
  refine ⟨by omega, ?_⟩
  unfold encGt
  rw [if_neg (by omega)]
  rw [if_neg (by omega)]
  rw [if_pos (by omega)]
  rw [show ((((((0 + 0) + z0.toNat * 5) + 2) - 2) / 5 : Nat) : Int) = z0 from by omega]
theorem encGt.st_g_I_MaxPages (s : TG) (z0 : Int) (q0 : 0 ≤ z0 ∧ z0 < 10) (v : Int) : (((0 + 0) + z0.toNat * 5) + 2) < 60 ∧ upd (encGt s) (((0 + 0) + z0.toNat * 5) + 2) (.int .i64 (v)) = encGt ({ s with mg := fset s.mg z0 v }) := by
  refine ⟨by omega, ?_⟩
  funext j
  unfold upd
  by_cases hj : j = (((0 + 0) + z0.toNat * 5) + 2)
  · rw [if_pos hj, hj, (encGt.ld_g_I_MaxPages ({ s with mg := fset s.mg z0 v }) z0 q0).2]
    simp [fset, fset2]
  · rw [if_neg hj]
    unfold encGt
    refine ite_both (fun c0 => ?_) (fun c0 => ?_)
    · first | rfl | simp [fset, fset2]
    refine ite_both (fun c1 => ?_) (fun c1 => ?_)
    · first | rfl | simp [fset, fset2]
    refine ite_both (fun c2 => ?_) (fun c2 => ?_)
    · have hne : ¬ ((((j - 2) / 5 : Nat) : Int) = z0) := by omega
      simp only [fset, fset2, hne, if_false, and_true, true_and]
    refine ite_both (fun c3 => ?_) (fun c3 => ?_)
    · first | rfl | simp [fset, fset2]
    refine ite_both (fun c4 => ?_) (fun c4 => ?_)
    · first | rfl | simp [fset, fset2]
    refine ite_both (fun c5 => ?_) (fun c5 => ?_)
    · first | rfl | simp [fset, fset2]
    rfl
theorem encGt.ld_g_I_Procs (s : TG) (z0 : Int) (q0 : 0 ≤ z0 ∧ z0 < 10) : (((0 + 0) + z0.toNat * 5) + 3) < 60 ∧ encGt s (((0 + 0) + z0.toNat * 5) + 3) = .int .i64 (s.pr z0) := by
  refine ⟨by omega, ?_⟩
  unfold encGt
  rw [if_neg (by omega)]
  rw [if_neg (by omega)]
  rw [if_neg (by omega)]
  rw [if_pos (by omega)]
  rw [show ((((((0 + 0) + z0.toNat * 5) + 3) - 3) / 5 : Nat) : Int) = z0 from by omega]
theorem encGt.st_g_I_Procs (s : TG) (z0 : Int) (q0 : 0 ≤ z0 ∧ z0 < 10) (v : Int) : (((0 + 0) + z0.toNat * 5) + 3) < 60 ∧ upd (encGt s) (((0 + 0) + z0.toNat * 5) + 3) (.int .i64 (v)) = encGt ({ s with pr := fset s.pr z0 v }) := by
  refine ⟨by omega, ?_⟩
  funext j
  unfold upd
  by_cases hj : j = (((0 + 0) + z0.toNat * 5) + 3)
  · rw [if_pos hj, hj, (encGt.ld_g_I_Procs ({ s with pr := fset s.pr z0 v }) z0 q0).2]
    simp [fset, fset2]
  · rw [if_neg hj]
    unfold encGt
    refine ite_both (fun c0 => ?_) (fun c0 => ?_)
    · first | rfl | simp [fset, fset2]
    refine ite_both (fun c1 => ?_) (fun c1 => ?_)
    · first | rfl | simp [fset, fset2]
    refine ite_both (fun c2 => ?_) (fun c2 => ?_)
    · first | rfl | simp [fset, fset2]
    refine ite_both (fun c3 => ?_) (fun c3 => ?_)
    · have hne : ¬ ((((j - 3) / 5 : Nat) : Int) = z0) := by omega
      simp only [fset, fset2, hne, if_false, and_true, true_and]
    refine ite_both (fun c4 => ?_) (fun c4 => ?_)
    · first | rfl | simp [fset, fset2]
    refine ite_both (fun c5 => ?_) (fun c5 => ?_)
    · first | rfl | simp [fset, fset2]
    rfl
theorem encGt.ld_g_I_Pages (s : TG) (z0 : Int) (q0 : 0 ≤ z0 ∧ z0 < 10) : (((0 + 0) + z0.toNat * 5) + 4) < 60 ∧ encGt s (((0 + 0) + z0.toNat * 5) + 4) = .int .i64 (s.pg z0) := by
  refine ⟨by omega, ?_⟩
  unfold encGt
  rw [if_neg (by omega)]
  rw [if_neg (by omega)]
  rw [if_neg (by omega)]
  rw [if_neg (by omega)]
  rw [if_pos (by omega)]
  rw [show ((((((0 + 0) + z0.toNat * 5) + 4) - 4) / 5 : Nat) : Int) = z0 from by omega]
theorem encGt.st_g_I_Pages (s : TG) (z0 : Int) (q0 : 0 ≤ z0 ∧ z0 < 10) (v : Int) : (((0 + 0) + z0.toNat * 5) + 4) < 60 ∧ upd (encGt s) (((0 + 0) + z0.toNat * 5) + 4) (.int .i64 (v)) = encGt ({ s with pg := fset s.pg z0 v }) := by
  refine ⟨by omega, ?_⟩
  funext j
  unfold upd
  by_cases hj : j = (((0 + 0) + z0.toNat * 5) + 4)
  · rw [if_pos hj, hj, (encGt.ld_g_I_Pages ({ s with pg := fset s.pg z0 v }) z0 q0).2]
    simp [fset, fset2]
  · rw [if_neg hj]
    unfold encGt
    refine ite_both (fun c0 => ?_) (fun c0 => ?_)
    · first | rfl | simp [fset, fset2]
    refine ite_both (fun c1 => ?_) (fun c1 => ?_)
    · first | rfl | simp [fset, fset2]
    refine ite_both (fun c2 => ?_) (fun c2 => ?_)
    · first | rfl | simp [fset, fset2]
    refine ite_both (fun c3 => ?_) (fun c3 => ?_)
    · first | rfl | simp [fset, fset2]
    refine ite_both (fun c4 => ?_) (fun c4 => ?_)
    · have hne : ¬ ((((j - 4) / 5 : Nat) : Int) = z0) := by omega
      simp only [fset, fset2, hne, if_false, and_true, true_and]
    refine ite_both (fun c5 => ?_) (fun c5 => ?_)
    · first | rfl | simp [fset, fset2]
    rfl
theorem encGt.ld_here_I (s : TG) (z0 : Int) (q0 : 0 ≤ z0 ∧ z0 < 10) : ((0 + 50) + z0.toNat * 1) < 60 ∧ encGt s ((0 + 50) + z0.toNat * 1) = .bool (s.here z0) := by
  refine ⟨by omega, ?_⟩
  unfold encGt
  rw [if_neg (by omega)]
  rw [if_neg (by omega)]
  rw [if_neg (by omega)]
  rw [if_neg (by omega)]
  rw [if_neg (by omega)]
  rw [if_pos (by omega)]
  rw [show (((((0 + 50) + z0.toNat * 1) - 50) / 1 : Nat) : Int) = z0 from by omega]
theorem encGt.st_here_I (s : TG) (z0 : Int) (q0 : 0 ≤ z0 ∧ z0 < 10) (v : Bool) : ((0 + 50) + z0.toNat * 1) < 60 ∧ upd (encGt s) ((0 + 50) + z0.toNat * 1) (.bool (v)) = encGt ({ s with here := fset s.here z0 v }) := by
  refine ⟨by omega, ?_⟩
  funext j
  unfold upd
  by_cases hj : j = ((0 + 50) + z0.toNat * 1)
  · rw [if_pos hj, hj, (encGt.ld_here_I ({ s with here := fset s.here z0 v }) z0 q0).2]
    simp [fset, fset2]
  · rw [if_neg hj]
    unfold encGt
    refine ite_both (fun c0 => ?_) (fun c0 => ?_)
    · first | rfl | simp [fset, fset2]
    refine ite_both (fun c1 => ?_) (fun c1 => ?_)
    · first | rfl | simp [fset, fset2]
    refine ite_both (fun c2 => ?_) (fun c2 => ?_)
    · first | rfl | simp [fset, fset2]
    refine ite_both (fun c3 => ?_) (fun c3 => ?_)
    · first | rfl | simp [fset, fset2]
    refine ite_both (fun c4 => ?_) (fun c4 => ?_)
    · first | rfl | simp [fset, fset2]
    refine ite_both (fun c5 => ?_) (fun c5 => ?_)
    · have hne : ¬ ((((j - 50) / 1 : Nat) : Int) = z0) := by omega
      simp only [fset, fset2, hne, if_false, and_true, true_and]
    rfl

def encGr (s : TG) (i : Nat) : Value :=
  if i % 1 = 0 ∧ i / 1 < 10 then .bool (s.here ((i / 1 : Nat) : Int)) else
  if 10 ≤ i ∧ (i - 10) % 5 = 0 ∧ (i - 10) / 5 < 10 then .int .i64 (s.par (((i - 10) / 5 : Nat) : Int)) else
  if 11 ≤ i ∧ (i - 11) % 5 = 0 ∧ (i - 11) / 5 < 10 then .int .i64 (s.mp (((i - 11) / 5 : Nat) : Int)) else
  if 12 ≤ i ∧ (i - 12) % 5 = 0 ∧ (i - 12) / 5 < 10 then .int .i64 (s.mg (((i - 12) / 5 : Nat) : Int)) else
  if 13 ≤ i ∧ (i - 13) % 5 = 0 ∧ (i - 13) / 5 < 10 then .int .i64 (s.pr (((i - 13) / 5 : Nat) : Int)) else
  if 14 ≤ i ∧ (i - 14) % 5 = 0 ∧ (i - 14) / 5 < 10 then .int .i64 (s.pg (((i - 14) / 5 : Nat) : Int)) else
  undef
theorem encGr.ld_Here_I (s : TG) (z0 : Int) (q0 : 0 ≤ z0 ∧ z0 < 10) : ((0 + 0) + z0.toNat * 1) < 60 ∧ encGr s ((0 + 0) + z0.toNat * 1) = .bool (s.here z0) := by
  refine ⟨by omega, ?_⟩
  unfold encGr
  rw [if_pos (by omega)]
  rw [show ((((0 + 0) + z0.toNat * 1) / 1 : Nat) : Int) = z0 from by omega]
theorem encGr.st_Here_I (s : TG) (z0 : Int) (q0 : 0 ≤ z0 ∧ z0 < 10) (v : Bool) : ((0 + 0) + z0.toNat * 1) < 60 ∧ upd (encGr s) ((0 + 0) + z0.toNat * 1) (.bool (v)) = encGr ({ s with here := fset s.here z0 v }) := by
  refine ⟨by omega, ?_⟩
  funext j
  unfold upd
  by_cases hj : j = ((0 + 0) + z0.toNat * 1)
  · rw [if_pos hj, hj, (encGr.ld_Here_I ({ s with here := fset s.here z0 v }) z0 q0).2]
    simp [fset, fset2]
  · rw [if_neg hj]
    unfold encGr
    refine ite_both (fun c0 => ?_) (fun c0 => ?_)
    · have hne : ¬ (((j / 1 : Nat) : Int) = z0) := by omega
      simp only [fset, fset2, hne, if_false, and_true, true_and]
    refine ite_both (fun c1 => ?_) (fun c1 => ?_)
    · first | rfl | simp [fset, fset2]
    refine ite_both (fun c2 => ?_) (fun c2 => ?_)
    · first | rfl | simp [fset, fset2]
    refine ite_both (fun c3 => ?_) (fun c3 => ?_)
    · first | rfl | simp [fset, fset2]
    refine ite_both (fun c4 => ?_) (fun c4 => ?_)
    · first | rfl | simp [fset, fset2]
    refine ite_both (fun c5 => ?_) (fun c5 => ?_)
    · first | rfl | simp [fset, fset2]
    rfl
theorem encGr.ld_G_I_Parent (s : TG) (z0 : Int) (q0 : 0 ≤ z0 ∧ z0 < 10) : (((0 + 10) + z0.toNat * 5) + 0) < 60 ∧ encGr s (((0 + 10) + z0.toNat * 5) + 0) = .int .i64 (s.par z0) := by
  refine ⟨by omega, ?_⟩
  unfold encGr
  rw [if_neg (by omega)]
  rw [if_pos (by omega)]
  rw [show ((((((0 + 10) + z0.toNat * 5) + 0) - 10) / 5 : Nat) : Int) = z0 from by omega]
theorem encGr.st_G_I_Parent (s : TG) (z0 : Int) (q0 : 0 ≤ z0 ∧ z0 < 10) (v : Int) : (((0 + 10) + z0.toNat * 5) + 0) < 60 ∧ upd (encGr s) (((0 + 10) + z0.toNat * 5) + 0) (.int .i64 (v)) = encGr ({ s with par := fset s.par z0 v }) := by
  refine ⟨by omega, ?_⟩
  funext j
  unfold upd
  by_cases hj : j = (((0 + 10) + z0.toNat * 5) + 0)
  · rw [if_pos hj, hj, (encGr.ld_G_I_Parent ({ s with par := fset s.par z0 v }) z0 q0).2]
    simp [fset, fset2]
  · rw [if_neg hj]
    unfold encGr
    refine ite_both (fun c0 => ?_) (fun c0 => ?_)
    · first | rfl | simp [fset, fset2]
    refine ite_both (fun c1 => ?_) (fun c1 => ?_)
    · have hne : ¬ ((((j - 10) / 5 : Nat) : Int) = z0) := by omega
      simp only [fset, fset2, hne, if_false, and_true, true_and]
    refine ite_both (fun c2 => ?_) (fun c2 => ?_)
    · first | rfl | simp [fset, fset2]
    refine ite_both (fun c3 => ?_) (fun c3 => ?_)
    · first | rfl | simp [fset, fset2]
    refine ite_both (fun c4 => ?_) (fun c4 => ?_)
    · first | rfl | simp [fset, fset2]
    refine ite_both (fun c5 => ?_) (fun c5 => ?_)
    · first | rfl | simp [fset, fset2]
    rfl
theorem encGr.ld_G_I_MaxProcs (s : TG) (z0 : Int) (q0 : 0 ≤ z0 ∧ z0 < 10) : (((0 + 10) + z0.toNat * 5) + 1) < 60 ∧ encGr s (((0 + 10) + z0.toNat * 5) + 1) = .int .i64 (s.mp z0) := by
  refine ⟨by omega, ?_⟩
  unfold encGr
  rw [if_neg (by omega)]
  rw [if_neg (by omega)]
  rw [if_pos (by omega)]
  rw [show ((((((0 + 10) + z0.toNat * 5) + 1) - 11) / 5 : Nat) : Int) = z0 from by omega]
theorem encGr.st_G_I_MaxProcs (s : TG) (z0 : Int) (q0 : 0 ≤ z0 ∧ z0 < 10) (v : Int) : (((0 + 10) + z0.toNat * 5) + 1) < 60 ∧ upd (encGr s) (((0 + 10) + z0.toNat * 5) + 1) (.int .i64 (v)) = encGr ({ s with mp := fset s.mp z0 v }) := by
  refine ⟨by omega, ?_⟩
  funext j
  unfold upd
  by_cases hj : j = (((0 + 10) + z0.toNat * 5) + 1)
  · rw [if_pos hj, hj, (encGr.ld_G_I_MaxProcs ({ s with mp := fset s.mp z0 v }) z0 q0).2]
    simp [fset, fset2]
  · rw [if_neg hj]
    unfold encGr
    refine ite_both (fun c0 => ?_) (fun c0 => ?_)
    · first | rfl | simp [fset, fset2]
    refine ite_both (fun c1 => ?_) (fun c1 => ?_)
    · first | rfl | simp [fset, fset2]
    refine ite_both (fun c2 => ?_) (fun c2 => ?_)
    · have hne : ¬ ((((j - 11) / 5 : Nat) : Int) = z0) := by omega
      simp only [fset, fset2, hne, if_false, and_true, true_and]
    refine ite_both (fun c3 => ?_) (fun c3 => ?_)
    · first | rfl | simp [fset, fset2]
    refine ite_both (fun c4 => ?_) (fun c4 => ?_)
    · first | rfl | simp [fset, fset2]
    refine ite_both (fun c5 => ?_) (fun c5 => ?_)
    · first | rfl | simp [fset, fset2]
    rfl
theorem encGr.ld_G_I_MaxPages (s : TG) (z0 : Int) (q0 : 0 ≤ z0 ∧ z0 < 10) : (((0 + 10) + z0.toNat * 5) + 2) < 60 ∧ encGr s (((0 + 10) + z0.toNat * 5) + 2) = .int .i64 (s.mg z0) := by
  refine ⟨by omega, ?_⟩
  unfold encGr
  rw [if_neg (by omega)]
  rw [if_neg (by omega)]
  rw [if_neg (by omega)]
  rw [if_pos (by omega)]
  rw [show ((((((0 + 10) + z0.toNat * 5) + 2) - 12) / 5 : Nat) : Int) = z0 from by omega]
theorem encGr.st_G_I_MaxPages (s : TG) (z0 : Int) (q0 : 0 ≤ z0 ∧ z0 < 10) (v : Int) : (((0 + 10) + z0.toNat * 5) + 2) < 60 ∧ upd (encGr s) (((0 + 10) + z0.toNat * 5) + 2) (.int .i64 (v)) = encGr ({ s with mg := fset s.mg z0 v }) := by
  refine ⟨by omega, ?_⟩
  funext j
  unfold upd
  by_cases hj : j = (((0 + 10) + z0.toNat * 5) + 2)
  · rw [if_pos hj, hj, (encGr.ld_G_I_MaxPages ({ s with mg := fset s.mg z0 v }) z0 q0).2]
    simp [fset, fset2]
  · rw [if_neg hj]
    unfold encGr
    refine ite_both (fun c0 => ?_) (fun c0 => ?_)
    · first | rfl | simp [fset, fset2]
    refine ite_both (fun c1 => ?_) (fun c1 => ?_)
    · first | rfl | simp [fset, fset2]
    refine ite_both (fun c2 => ?_) (fun c2 => ?_)
    · first | rfl | simp [fset, fset2]
    refine ite_both (fun c3 => ?_) (fun c3 => ?_)
    · have hne : ¬ ((((j - 12) / 5 : Nat) : Int) = z0) := by omega
      simp only [fset, fset2, hne, if_false, and_true, true_and]
    refine ite_both (fun c4 => ?_) (fun c4 => ?_)
    · first | rfl | simp [fset, fset2]
    refine ite_both (fun c5 => ?_) (fun c5 => ?_)
    · first | rfl | simp [fset, fset2]
    rfl
theorem encGr.ld_G_I_Procs (s : TG) (z0 : Int) (q0 : 0 ≤ z0 ∧ z0 < 10) : (((0 + 10) + z0.toNat * 5) + 3) < 60 ∧ encGr s (((0 + 10) + z0.toNat * 5) + 3) = .int .i64 (s.pr z0) := by
  refine ⟨by omega, ?_⟩
  unfold encGr
  rw [if_neg (by omega)]
  rw [if_neg (by omega)]
  rw [if_neg (by omega)]
  rw [if_neg (by omega)]
  rw [if_pos (by omega)]
  rw [show ((((((0 + 10) + z0.toNat * 5) + 3) - 13) / 5 : Nat) : Int) = z0 from by omega]
theorem encGr.st_G_I_Procs (s : TG) (z0 : Int) (q0 : 0 ≤ z0 ∧ z0 < 10) (v : Int) : (((0 + 10) + z0.toNat * 5) + 3) < 60 ∧ upd (encGr s) (((0 + 10) + z0.toNat * 5) + 3) (.int .i64 (v)) = encGr ({ s with pr := fset s.pr z0 v }) := by
  refine ⟨by omega, ?_⟩
  funext j
  unfold upd
  by_cases hj : j = (((0 + 10) + z0.toNat * 5) + 3)
  · rw [if_pos hj, hj, (encGr.ld_G_I_Procs ({ s with pr := fset s.pr z0 v }) z0 q0).2]
    simp [fset, fset2]
  · rw [if_neg hj]
    unfold encGr
    refine ite_both (fun c0 => ?_) (fun c0 => ?_)
    · first | rfl | simp [fset, fset2]
    refine ite_both (fun c1 => ?_) (fun c1 => ?_)
    · first | rfl | simp [fset, fset2]
    refine ite_both (fun c2 => ?_) (fun c2 => ?_)
    · first | rfl | simp [fset, fset2]
    refine ite_both (fun c3 => ?_) (fun c3 => ?_)
    · first | rfl | simp [fset, fset2]
    refine ite_both (fun c4 => ?_) (fun c4 => ?_)
    · have hne : ¬ ((((j - 13) / 5 : Nat) : Int) = z0) := by omega
      simp only [fset, fset2, hne, if_false, and_true, true_and]
    refine ite_both (fun c5 => ?_) (fun c5 => ?_)
    · first | rfl | simp [fset, fset2]
    rfl
theorem encGr.ld_G_I_Pages (s : TG) (z0 : Int) (q0 : 0 ≤ z0 ∧ z0 < 10) : (((0 + 10) + z0.toNat * 5) + 4) < 60 ∧ encGr s (((0 + 10) + z0.toNat * 5) + 4) = .int .i64 (s.pg z0) := by
  refine ⟨by omega, ?_⟩
  unfold encGr
  rw [if_neg (by omega)]
  rw [if_neg (by omega)]
  rw [if_neg (by omega)]
  rw [if_neg (by omega)]
  rw [if_neg (by omega)]
  rw [if_pos (by omega)]
  rw [show ((((((0 + 10) + z0.toNat * 5) + 4) - 14) / 5 : Nat) : Int) = z0 from by omega]
theorem encGr.st_G_I_Pages (s : TG) (z0 : Int) (q0 : 0 ≤ z0 ∧ z0 < 10) (v : Int) : (((0 + 10) + z0.toNat * 5) + 4) < 60 ∧ upd (encGr s) (((0 + 10) + z0.toNat * 5) + 4) (.int .i64 (v)) = encGr ({ s with pg := fset s.pg z0 v }) := by
  refine ⟨by omega, ?_⟩
  funext j
  unfold upd
  by_cases hj : j = (((0 + 10) + z0.toNat * 5) + 4)
  · rw [if_pos hj, hj, (encGr.ld_G_I_Pages ({ s with pg := fset s.pg z0 v }) z0 q0).2]
    simp [fset, fset2]
  · rw [if_neg hj]
    unfold encGr
    refine ite_both (fun c0 => ?_) (fun c0 => ?_)
    · first | rfl | simp [fset, fset2]
    refine ite_both (fun c1 => ?_) (fun c1 => ?_)
    · first | rfl | simp [fset, fset2]
    refine ite_both (fun c2 => ?_) (fun c2 => ?_)
    · first | rfl | simp [fset, fset2]
    refine ite_both (fun c3 => ?_) (fun c3 => ?_)
    · first | rfl | simp [fset, fset2]
    refine ite_both (fun c4 => ?_) (fun c4 => ?_)
    · first | rfl | simp [fset, fset2]
    refine ite_both (fun c5 => ?_) (fun c5 => ?_)
    · have hne : ¬ ((((j - 14) / 5 : Nat) : Int) = z0) := by omega
      simp only [fset, fset2, hne, if_false, and_true, true_and]
    rfl

def encV (s : GV) (i : Nat) : Value :=
  if i = 0 then .int .i64 (s.par) else
  if i = 1 then .int .i64 (s.mp) else
  if i = 2 then .int .i64 (s.mg) else
  if i = 3 then .int .i64 (s.pr) else
  if i = 4 then .int .i64 (s.pg) else
  undef
theorem encV.ld_Parent (s : GV) : (0 + 0) < 5 ∧ encV s (0 + 0) = .int .i64 (s.par) := by
  refine ⟨by omega, ?_⟩
  unfold encV
  rw [if_pos (by omega)]
theorem encV.ld_MaxProcs (s : GV) : (0 + 1) < 5 ∧ encV s (0 + 1) = .int .i64 (s.mp) := by
  refine ⟨by omega, ?_⟩
  unfold encV
  rw [if_neg (by omega)]
  rw [if_pos (by omega)]
theorem encV.ld_MaxPages (s : GV) : (0 + 2) < 5 ∧ encV s (0 + 2) = .int .i64 (s.mg) := by
  refine ⟨by omega, ?_⟩
  unfold encV
  rw [if_neg (by omega)]
  rw [if_neg (by omega)]
  rw [if_pos (by omega)]
theorem encV.ld_Procs (s : GV) : (0 + 3) < 5 ∧ encV s (0 + 3) = .int .i64 (s.pr) := by
  refine ⟨by omega, ?_⟩
  unfold encV
  rw [if_neg (by omega)]
  rw [if_neg (by omega)]
  rw [if_neg (by omega)]
  rw [if_pos (by omega)]
theorem encV.ld_Pages (s : GV) : (0 + 4) < 5 ∧ encV s (0 + 4) = .int .i64 (s.pg) := by
  refine ⟨by omega, ?_⟩
  unfold encV
  rw [if_neg (by omega)]
  rw [if_neg (by omega)]
  rw [if_neg (by omega)]
  rw [if_neg (by omega)]
  rw [if_pos (by omega)]


theorem encGt_gv (s : TG) (z : Int) (h : 0 ≤ z ∧ z < 10) : 0 + 0 + z.toNat * 5 + 5 ≤ 60 ∧ aggOf (encGt s) (0 + 0 + z.toNat * 5) 5 = .agg (s.gv z).arr := by
  refine ⟨by omega, ?_⟩
  have h0 := (encGt.ld_g_I_Parent s z h).2
  have h1 := (encGt.ld_g_I_MaxProcs s z h).2
  have h2 := (encGt.ld_g_I_MaxPages s z h).2
  have h3 := (encGt.ld_g_I_Procs s z h).2
  have h4 := (encGt.ld_g_I_Pages s z h).2
  simp only [aggOf, List.range, List.range.loop, List.map_cons, List.map_nil]
  simp only [Nat.add_zero] at h0 ⊢
  rw [h0, h1, h2, h3, h4]; rfl
theorem encGt_here (s : TG) : 0 + 50 + 10 ≤ 60 ∧ aggOf (encGt s) (0 + 50) 10 = .agg (arrB s.here 10) := by
  refine ⟨by omega, ?_⟩
  unfold aggOf arrB
  congr 2
theorem updL_lt' (C : Nat → Value) : ∀ (vs : List Value) (i j : Nat), j < i → updL C i vs j = C j
  | [], _, _, _ => rfl
  | v :: r, i, j, h => by
    unfold updL
    rw [updL_lt' (upd C i v) r (i + 1) j (by omega)]
    simp [upd]; omega
theorem updL_at' : ∀ (vs : List Value) (C : Nat → Value) (i j : Nat) (v : Value), vs[j]? = some v → updL C i vs (i + j) = v
  | [], _, _, _, _, h => by simp at h
  | u :: r, C, i, 0, v, h => by
    have h2 : u = v := by simpa using h
    unfold updL
    rw [updL_lt' _ _ _ _ (by omega), ← h2]
    simp [upd]
  | u :: r, C, i, j + 1, v, h => by
    unfold updL
    have := updL_at' r (upd C i u) (i + 1) j v (by simpa using h)
    rw [show i + 1 + j = i + (j + 1) from by omega] at this
    exact this
theorem updL_ge' : ∀ (vs : List Value) (C : Nat → Value) (i j : Nat), i + vs.length ≤ j → updL C i vs j = C j
  | [], _, _, _, _ => rfl
  | v :: r, C, i, j, h => by
    simp only [List.length_cons] at h
    unfold updL
    rw [updL_ge' r (upd C i v) (i + 1) j (by omega)]
    simp [upd]; omega
theorem encGt_put (s : TG) (z : Int) (h : 0 ≤ z ∧ z < 10) (g : GV) : 0 + 0 + z.toNat * 5 + 5 ≤ 60 ∧ updL (encGt s) (0 + 0 + z.toNat * 5) g.arr.toList = encGt (s.setG z g) := by
  refine ⟨by omega, ?_⟩
  funext i
  have hl : g.arr.toList.length = 5 := rfl
  by_cases a1 : i < 0 + 0 + z.toNat * 5
  · rw [updL_lt' _ _ _ _ a1]
    unfold encGt
    simp only [TG.setG]
    refine ite_both (fun c => by first | rfl | rw [fset_ne _ _ (by omega)]) (fun _ => ite_both (fun c => by first | rfl | rw [fset_ne _ _ (by omega)]) (fun _ => ite_both (fun c => by first | rfl | rw [fset_ne _ _ (by omega)]) (fun _ => ite_both (fun c => by first | rfl | rw [fset_ne _ _ (by omega)]) (fun _ => ite_both (fun c => by first | rfl | rw [fset_ne _ _ (by omega)]) (fun _ => ite_both (fun c => by first | rfl | rw [fset_ne _ _ (by omega)]) (fun _ => rfl))))))
  · by_cases a2 : i < 0 + 0 + z.toNat * 5 + 5
    · have h0 := (encGt.ld_g_I_Parent (s.setG z g) z h).2
      have h1 := (encGt.ld_g_I_MaxProcs (s.setG z g) z h).2
      have h2 := (encGt.ld_g_I_MaxPages (s.setG z g) z h).2
      have h3 := (encGt.ld_g_I_Procs (s.setG z g) z h).2
      have h4 := (encGt.ld_g_I_Pages (s.setG z g) z h).2
      simp only [TG.setG, fset_eq] at h0 h1 h2 h3 h4
      obtain ⟨j, rfl⟩ : ∃ j, i = 0 + 0 + z.toNat * 5 + j := ⟨i - (0 + 0 + z.toNat * 5), by omega⟩
      have hj : j = 0 ∨ j = 1 ∨ j = 2 ∨ j = 3 ∨ j = 4 := by omega
      rcases hj with rfl | rfl | rfl | rfl | rfl
      · exact (updL_at' g.arr.toList _ _ 0 _ rfl).trans h0.symm
      · exact (updL_at' g.arr.toList _ _ 1 _ rfl).trans h1.symm
      · exact (updL_at' g.arr.toList _ _ 2 _ rfl).trans h2.symm
      · exact (updL_at' g.arr.toList _ _ 3 _ rfl).trans h3.symm
      · exact (updL_at' g.arr.toList _ _ 4 _ rfl).trans h4.symm
    · rw [updL_ge' _ _ _ _ (by omega)]
      unfold encGt
      simp only [TG.setG]
      refine ite_both (fun c => by first | rfl | rw [fset_ne _ _ (by omega)]) (fun _ => ite_both (fun c => by first | rfl | rw [fset_ne _ _ (by omega)]) (fun _ => ite_both (fun c => by first | rfl | rw [fset_ne _ _ (by omega)]) (fun _ => ite_both (fun c => by first | rfl | rw [fset_ne _ _ (by omega)]) (fun _ => ite_both (fun c => by first | rfl | rw [fset_ne _ _ (by omega)]) (fun _ => ite_both (fun c => by first | rfl | rw [fset_ne _ _ (by omega)]) (fun _ => rfl))))))
theorem encV_box (g : GV) : ∀ i, i < 5 → cellsOf g.arr i = encV g i := fun i h => match i, h with
  | 0, _ => rfl
  | 1, _ => rfl
  | 2, _ => rfl
  | 3, _ => rfl
  | 4, _ => rfl
  | k + 5, h => absurd h (by omega)
theorem encV_gv (g : GV) : 0 + 5 ≤ 5 ∧ aggOf (encV g) 0 5 = .agg g.arr := ⟨by omega, rfl⟩
theorem encV_st (g g' : GV) : 0 + 5 ≤ 5 ∧ updL (encV g) 0 g'.arr.toList = encV g' := ⟨by omega, by
  funext i
  match i with
  | 0 => rfl
  | 1 => rfl
  | 2 => rfl
  | 3 => rfl
  | 4 => rfl
  | k + 5 =>
    rw [updL_ge' _ _ _ _ (by show 0 + 5 ≤ k + 5; omega)]
    have e1 : encV g (k + 5) = undef := by simp [encV]
    have e2 : encV g' (k + 5) = undef := by simp [encV]
    rw [e1, e2]⟩
def GV.zero : GV := ⟨0, 0, 0, 0, 0⟩
def TG.void : TG := ⟨fun _ => false, fun _ => 0, fun _ => 0, fun _ => 0, fun _ => 0, fun _ => 0⟩
def TG.root0 : TG := { TG.void with here := fset (fun _ => false) 0 true }
def TG.init : TG := TG.root0.setG 0 ⟨-1, -1, -1, 0, 0⟩
set_option maxRecDepth 20000 in
theorem boxGt : ∀ i, i < 60 → cellsOf #[.int .i64 0, .int .i64 0, .int .i64 0, .int .i64 0, .int .i64 0, .int .i64 0, .int .i64 0, .int .i64 0, .int .i64 0, .int .i64 0, .int .i64 0, .int .i64 0, .int .i64 0, .int .i64 0, .int .i64 0, .int .i64 0, .int .i64 0, .int .i64 0, .int .i64 0, .int .i64 0, .int .i64 0, .int .i64 0, .int .i64 0, .int .i64 0, .int .i64 0, .int .i64 0, .int .i64 0, .int .i64 0, .int .i64 0, .int .i64 0, .int .i64 0, .int .i64 0, .int .i64 0, .int .i64 0, .int .i64 0, .int .i64 0, .int .i64 0, .int .i64 0, .int .i64 0, .int .i64 0, .int .i64 0, .int .i64 0, .int .i64 0, .int .i64 0, .int .i64 0, .int .i64 0, .int .i64 0, .int .i64 0, .int .i64 0, .int .i64 0, .bool false, .bool false, .bool false, .bool false, .bool false, .bool false, .bool false, .bool false, .bool false, .bool false] i = encGt TG.void i := fun i hi => match i, hi with
  | 0, _ => rfl
  | 1, _ => rfl
  | 2, _ => rfl
  | 3, _ => rfl
  | 4, _ => rfl
  | 5, _ => rfl
  | 6, _ => rfl
  | 7, _ => rfl
  | 8, _ => rfl
  | 9, _ => rfl
  | 10, _ => rfl
  | 11, _ => rfl
  | 12, _ => rfl
  | 13, _ => rfl
  | 14, _ => rfl
  | 15, _ => rfl
  | 16, _ => rfl
  | 17, _ => rfl
  | 18, _ => rfl
  | 19, _ => rfl
  | 20, _ => rfl
  | 21, _ => rfl
  | 22, _ => rfl
  | 23, _ => rfl
  | 24, _ => rfl
  | 25, _ => rfl
  | 26, _ => rfl
  | 27, _ => rfl
  | 28, _ => rfl
  | 29, _ => rfl
  | 30, _ => rfl
  | 31, _ => rfl
  | 32, _ => rfl
  | 33, _ => rfl
  | 34, _ => rfl
  | 35, _ => rfl
  | 36, _ => rfl
  | 37, _ => rfl
  | 38, _ => rfl
  | 39, _ => rfl
  | 40, _ => rfl
  | 41, _ => rfl
  | 42, _ => rfl
  | 43, _ => rfl
  | 44, _ => rfl
  | 45, _ => rfl
  | 46, _ => rfl
  | 47, _ => rfl
  | 48, _ => rfl
  | 49, _ => rfl
  | 50, _ => rfl
  | 51, _ => rfl
  | 52, _ => rfl
  | 53, _ => rfl
  | 54, _ => rfl
  | 55, _ => rfl
  | 56, _ => rfl
  | 57, _ => rfl
  | 58, _ => rfl
  | 59, _ => rfl
  | k + 60, h => absurd h (by omega)
theorem encGr_gv (s : TG) (z : Int) (h : 0 ≤ z ∧ z < 10) : 0 + 10 + z.toNat * 5 + 5 ≤ 60 ∧ aggOf (encGr s) (0 + 10 + z.toNat * 5) 5 = .agg (s.gv z).arr := by
  refine ⟨by omega, ?_⟩
  have h0 := (encGr.ld_G_I_Parent s z h).2
  have h1 := (encGr.ld_G_I_MaxProcs s z h).2
  have h2 := (encGr.ld_G_I_MaxPages s z h).2
  have h3 := (encGr.ld_G_I_Procs s z h).2
  have h4 := (encGr.ld_G_I_Pages s z h).2
  simp only [aggOf, List.range, List.range.loop, List.map_cons, List.map_nil]
  simp only [Nat.add_zero] at h0 ⊢
  rw [h0, h1, h2, h3, h4]; rfl
theorem encGr_put (s : TG) (z : Int) (h : 0 ≤ z ∧ z < 10) (g : GV) : 0 + 10 + z.toNat * 5 + 5 ≤ 60 ∧ updL (encGr s) (0 + 10 + z.toNat * 5) g.arr.toList = encGr (s.setG z g) := by
  refine ⟨by omega, ?_⟩
  funext i
  have hl : g.arr.toList.length = 5 := rfl
  by_cases a1 : i < 0 + 10 + z.toNat * 5
  · rw [updL_lt' _ _ _ _ a1]
    unfold encGr
    simp only [TG.setG]
    refine ite_both (fun c => by first | rfl | rw [fset_ne _ _ (by omega)]) (fun _ => ite_both (fun c => by first | rfl | rw [fset_ne _ _ (by omega)]) (fun _ => ite_both (fun c => by first | rfl | rw [fset_ne _ _ (by omega)]) (fun _ => ite_both (fun c => by first | rfl | rw [fset_ne _ _ (by omega)]) (fun _ => ite_both (fun c => by first | rfl | rw [fset_ne _ _ (by omega)]) (fun _ => ite_both (fun c => by first | rfl | rw [fset_ne _ _ (by omega)]) (fun _ => rfl))))))
  · by_cases a2 : i < 0 + 10 + z.toNat * 5 + 5
    · have h0 := (encGr.ld_G_I_Parent (s.setG z g) z h).2
      have h1 := (encGr.ld_G_I_MaxProcs (s.setG z g) z h).2
      have h2 := (encGr.ld_G_I_MaxPages (s.setG z g) z h).2
      have h3 := (encGr.ld_G_I_Procs (s.setG z g) z h).2
      have h4 := (encGr.ld_G_I_Pages (s.setG z g) z h).2
      simp only [TG.setG, fset_eq] at h0 h1 h2 h3 h4
      obtain ⟨j, rfl⟩ : ∃ j, i = 0 + 10 + z.toNat * 5 + j := ⟨i - (0 + 10 + z.toNat * 5), by omega⟩
      have hj : j = 0 ∨ j = 1 ∨ j = 2 ∨ j = 3 ∨ j = 4 := by omega
      rcases hj with rfl | rfl | rfl | rfl | rfl
      · exact (updL_at' g.arr.toList _ _ 0 _ rfl).trans h0.symm
      · exact (updL_at' g.arr.toList _ _ 1 _ rfl).trans h1.symm
      · exact (updL_at' g.arr.toList _ _ 2 _ rfl).trans h2.symm
      · exact (updL_at' g.arr.toList _ _ 3 _ rfl).trans h3.symm
      · exact (updL_at' g.arr.toList _ _ 4 _ rfl).trans h4.symm
    · rw [updL_ge' _ _ _ _ (by omega)]
      unfold encGr
      simp only [TG.setG]
      refine ite_both (fun c => by first | rfl | rw [fset_ne _ _ (by omega)]) (fun _ => ite_both (fun c => by first | rfl | rw [fset_ne _ _ (by omega)]) (fun _ => ite_both (fun c => by first | rfl | rw [fset_ne _ _ (by omega)]) (fun _ => ite_both (fun c => by first | rfl | rw [fset_ne _ _ (by omega)]) (fun _ => ite_both (fun c => by first | rfl | rw [fset_ne _ _ (by omega)]) (fun _ => ite_both (fun c => by first | rfl | rw [fset_ne _ _ (by omega)]) (fun _ => rfl))))))

set_option maxRecDepth 20000 in
theorem boxGr : ∀ i, i < 60 → cellsOf #[.bool false, .bool false, .bool false, .bool false, .bool false, .bool false, .bool false, .bool false, .bool false, .bool false, .int .i64 0, .int .i64 0, .int .i64 0, .int .i64 0, .int .i64 0, .int .i64 0, .int .i64 0, .int .i64 0, .int .i64 0, .int .i64 0, .int .i64 0, .int .i64 0, .int .i64 0, .int .i64 0, .int .i64 0, .int .i64 0, .int .i64 0, .int .i64 0, .int .i64 0, .int .i64 0, .int .i64 0, .int .i64 0, .int .i64 0, .int .i64 0, .int .i64 0, .int .i64 0, .int .i64 0, .int .i64 0, .int .i64 0, .int .i64 0, .int .i64 0, .int .i64 0, .int .i64 0, .int .i64 0, .int .i64 0, .int .i64 0, .int .i64 0, .int .i64 0, .int .i64 0, .int .i64 0, .int .i64 0, .int .i64 0, .int .i64 0, .int .i64 0, .int .i64 0, .int .i64 0, .int .i64 0, .int .i64 0, .int .i64 0, .int .i64 0] i = encGr TG.void i := fun i hi => match i, hi with
  | 0, _ => rfl
  | 1, _ => rfl
  | 2, _ => rfl
  | 3, _ => rfl
  | 4, _ => rfl
  | 5, _ => rfl
  | 6, _ => rfl
  | 7, _ => rfl
  | 8, _ => rfl
  | 9, _ => rfl
  | 10, _ => rfl
  | 11, _ => rfl
  | 12, _ => rfl
  | 13, _ => rfl
  | 14, _ => rfl
  | 15, _ => rfl
  | 16, _ => rfl
  | 17, _ => rfl
  | 18, _ => rfl
  | 19, _ => rfl
  | 20, _ => rfl
  | 21, _ => rfl
  | 22, _ => rfl
  | 23, _ => rfl
  | 24, _ => rfl
  | 25, _ => rfl
  | 26, _ => rfl
  | 27, _ => rfl
  | 28, _ => rfl
  | 29, _ => rfl
  | 30, _ => rfl
  | 31, _ => rfl
  | 32, _ => rfl
  | 33, _ => rfl
  | 34, _ => rfl
  | 35, _ => rfl
  | 36, _ => rfl
  | 37, _ => rfl
  | 38, _ => rfl
  | 39, _ => rfl
  | 40, _ => rfl
  | 41, _ => rfl
  | 42, _ => rfl
  | 43, _ => rfl
  | 44, _ => rfl
  | 45, _ => rfl
  | 46, _ => rfl
  | 47, _ => rfl
  | 48, _ => rfl
  | 49, _ => rfl
  | 50, _ => rfl
  | 51, _ => rfl
  | 52, _ => rfl
  | 53, _ => rfl
  | 54, _ => rfl
  | 55, _ => rfl
  | 56, _ => rfl
  | 57, _ => rfl
  | 58, _ => rfl
  | 59, _ => rfl
  | k + 60, h => absurd h (by omega)

end Go.X
