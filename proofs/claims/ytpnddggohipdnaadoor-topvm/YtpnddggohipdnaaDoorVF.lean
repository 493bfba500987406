import Derived.Test.YtpnddggohipdnaaDoorVS
import Derived.Test.YtpnddggohipdnaaDoorXFam
import Derived.Test.YtpnddggohipdnaaDoorXFrow
namespace Go.X
open Go
/-! ### up to eight memories, each with its row and its like in the reference -/
def ltP (k : Nat) : Nat → Bool := fun j => decide (j < k)
theorem ltP_iff {k j : Nat} : ltP k j = true ↔ j < k := by simp [ltP]
theorem inP_next (k : Nat) : inP (ltP k) k = ltP (k + 1) := by
  funext j
  rw [Bool.eq_iff_iff, inP_iff, ltP_iff, ltP_iff]; omega
theorem bset_self (g : Nat → Nat) (z : Nat) : bset g z (g z) = g := by
  funext j
  by_cases c : j = z
  · subst c; rw [bset_eq]
  · rw [bset_ne _ _ c]
theorem bset_fupd (g : Nat → Nat) (z b : Nat) : bset g z b = fupd g z b := by
  funext j
  by_cases c : j = z
  · subst c; rw [bset_eq, fupd_eq]
  · rw [bset_ne _ _ c, fupd_ne _ _ c]
abbrev cN (kb : Nat) (f : Nat → MS) (ps : Nat → Option Addr) (cs : Nat → Nat) : Nat → Nat → Value := fun j => encN kb (ps j) (runs (f j).is_).length (cs j) (f j).fr (f j).own
abbrev rN (e : TypeId) (f : Nat → MS) (ps : Nat → Option Addr) (cs : Nat → Nat) : Nat → RowD := fun j => ⟨.slice (ps j) (runs (f j).is_).length (cs j), e, 3, (runs (f j).is_).length, newsOf (rgC (runs (f j).is_)) ((runs (f j).is_).length * 3)⟩
abbrev cW (rk : Nat) (f : Nat → MS) : Nat → Nat → Value := fun j => encRN rk (f j).is_ (f j).fr (f j).own
abbrev famV (P : Nat → Bool) (kb rk : Nat) (e : TypeId) (mb rb : Nat → Nat) (f : Nat → MS) (ps : Nat → Option Addr) (cs : Nat → Nat) : List Ent := [.cfam P mb 34 (cN kb f ps cs), .fam P (rN e f ps cs), .cfam P rb 49 (cW rk f)]
theorem cN_set (kb : Nat) (f : Nat → MS) (ps : Nat → Option Addr) (cs : Nat → Nat) (z : Nat) (m : MS) (p : Option Addr) (c : Nat) : cset (cN kb f ps cs) z (encN kb p (runs m.is_).length c m.fr m.own) = cN kb (fupd f z m) (fupd ps z p) (fupd cs z c) := by
  funext j
  by_cases q : j = z
  · subst q; rw [cset_eq]; unfold cN; rw [fupd_eq, fupd_eq, fupd_eq]
  · rw [cset_ne _ _ q]; unfold cN; rw [fupd_ne _ _ q, fupd_ne _ _ q, fupd_ne _ _ q]
theorem rN_set (e : TypeId) (f : Nat → MS) (ps : Nat → Option Addr) (cs : Nat → Nat) (z : Nat) (m : MS) (p : Option Addr) (c : Nat) : rset (rN e f ps cs) z ⟨.slice p (runs m.is_).length c, e, 3, (runs m.is_).length, newsOf (rgC (runs m.is_)) ((runs m.is_).length * 3)⟩ = rN e (fupd f z m) (fupd ps z p) (fupd cs z c) := by
  funext j
  by_cases q : j = z
  · subst q; rw [rset_eq]; unfold rN; rw [fupd_eq, fupd_eq, fupd_eq]
  · rw [rset_ne _ _ q]; unfold rN; rw [fupd_ne _ _ q, fupd_ne _ _ q, fupd_ne _ _ q]
theorem cW_set (rk : Nat) (f : Nat → MS) (z : Nat) (m : MS) : cset (cW rk f) z (encRN rk m.is_ m.fr m.own) = cW rk (fupd f z m) := by
  funext j
  by_cases q : j = z
  · subst q; rw [cset_eq]; unfold cW; rw [fupd_eq]
  · rw [cset_ne _ _ q]; unfold cW; rw [fupd_ne _ _ q]
section
variable {W w : World} {S : Nat → Nat → Prop} {H : List Ent} {kb rk : Nat} {e : TypeId} {mb rb : Nat → Nat} {f : Nat → MS} {ps : Nat → Option Addr} {cs : Nat → Nat}
abbrev oneV (kb rk b r : Nat) (e : TypeId) (m : MS) (p : Option Addr) (c : Nat) : List Ent := [.cells b 0 34 (encN kb p (runs m.is_).length c m.fr m.own), frow p c e 3 (runs m.is_).length (rgC (runs m.is_)), .cells r 0 49 (encRN rk m.is_ m.fr m.own)]
theorem frow_ent (p : Option Addr) (c : Nat) (e : TypeId) (k : Nat) (C : Nat → Value) : frow p c e 3 k C = RowD.ent ⟨.slice p k c, e, 3, k, newsOf C (k * 3)⟩ := rfl
theorem XM.outV {P : Nat → Bool} {z : Nat} (hz : P z = true) (h : XM W S (famV P kb rk e mb rb f ps cs ++ H) w) : XM W S (.cells (mb z) 0 34 (cN kb f ps cs z) :: (rN e f ps cs z).ent :: .cells (rb z) 0 49 (cW rk f z) :: .cfam (outP P z) mb 34 (cN kb f ps cs) :: .fam (outP P z) (rN e f ps cs) :: .cfam (outP P z) rb 49 (cW rk f) :: H) w := by
  have h : XM W S (.cfam P mb 34 (cN kb f ps cs) :: .fam P (rN e f ps cs) :: .cfam P rb 49 (cW rk f) :: H) w := h
  have h1 := XM.cfamOut z hz h
  have h2 := h1.perm (Pick.cons (.t2 .here) (Pick.nil)).perm
  simp only [List.cons_append, List.nil_append] at h2
  have h3 := XM.famOut z hz h2
  have h4 := h3.perm (Pick.cons (.t4 .here) (Pick.nil)).perm
  simp only [List.cons_append, List.nil_append] at h4
  have h5 := XM.cfamOut z hz h4
  have h6 := h5.perm (Pick.cons (.t4 .here) (.cons (.t2 .here) (.cons .here (.cons (.t2 .here) (.cons (.there .here) (.cons .here .nil)))))).perm
  simp only [List.cons_append, List.nil_append] at h6
  exact h6
theorem XM.inV {P : Nat → Bool} {z b r : Nat} {m : MS} {p : Option Addr} {c : Nat} (hz : P z = false) (h : XM W S (oneV kb rk b r e m p c ++ (famV P kb rk e mb rb f ps cs ++ H)) w) : XM W S (famV (inP P z) kb rk e (fupd mb z b) (fupd rb z r) (fupd f z m) (fupd ps z p) (fupd cs z c) ++ H) w := by
  have h : XM W S (.cells b 0 34 (encN kb p (runs m.is_).length c m.fr m.own) :: frow p c e 3 (runs m.is_).length (rgC (runs m.is_)) :: .cells r 0 49 (encRN rk m.is_ m.fr m.own) :: .cfam P mb 34 (cN kb f ps cs) :: .fam P (rN e f ps cs) :: .cfam P rb 49 (cW rk f) :: H) w := h
  have h0 := h.perm (Pick.cons .here (.cons (.t2 .here) .nil)).perm
  simp only [List.cons_append, List.nil_append] at h0
  have h1 := XM.cfamIn z (by omega) hz h0
  have h2 := h1.perm (Pick.cons (.there .here) (.cons (.t2 .here) .nil)).perm
  simp only [List.cons_append, List.nil_append] at h2
  rw [frow_ent] at h2
  have h3 := XM.famIn z hz h2
  have h4 := h3.perm (Pick.cons (.t2 .here) (.cons (.t2 .here) .nil)).perm
  simp only [List.cons_append, List.nil_append] at h4
  have h5 := XM.cfamIn z (by omega) hz h4
  have h6 := h5.perm (Pick.cons (.t2 .here) (.cons (.there .here) (.cons .here .nil))).perm
  simp only [List.cons_append, List.nil_append] at h6
  rw [cN_set, rN_set, cW_set, bset_fupd, bset_fupd] at h6
  exact h6
theorem XM.noV (h : XM W S H w) : XM W S (famV (ltP 0) kb rk e mb rb f ps cs ++ H) w := by
  have e0 : ltP 0 = fun _ => false := by funext j; simp [ltP]
  rw [e0]
  exact XM.cfamNil (XM.famNil (XM.cfamNil h))
end
/-- a row of pointers -/
def ptrC (mb : Nat → Nat) (i : Nat) : Value := ptr (mb i) 0 0
theorem ptrC.ld (mb : Nat → Nat) {k : Nat} {z : Int} (h : 0 ≤ z ∧ z < k) : 0 + z.toNat * 1 < k * 1 ∧ ptrC mb (0 + z.toNat * 1) = ptr (mb z.toNat) 0 0 := ⟨by omega, by
  unfold ptrC; rw [show 0 + z.toNat * 1 = z.toNat from by omega]⟩
theorem ptrC_app (mb : Nat → Nat) (k b : Nat) : ∀ i, i < k + 1 → ptrC (fupd mb k b) i = if i < k then ptrC mb i else ptr b 0 0 := fun i hi => by
  unfold ptrC
  by_cases c : i < k
  · rw [if_pos c, fupd_ne _ _ (by omega)]
  · rw [if_neg c, show i = k from by omega, fupd_eq]
section
variable {P : Program} {n : Fr} {Q : Exit → Act → World → Prop} {L : PF} {ops : Md} {rest : List Oper} {ty : TypeId} {pos : String} {af : Array Edge} {d : Nat} {W : World} {S : Nat → Nat → Prop} {H H' : List Ent}
theorem XO.appendP {t e : TypeId} {x y : Operand} {p : Option Addr} {cap c b k nb : Nat} {mb : Nat → Nat} (hx : ev L x = some (.slice p k cap)) (hy : ev L y = some (.slice (some ⟨b, 0, none⟩) 1 c))
    (ht : P.underlying t = some (.slice e)) (hr : rowT P e 1 = true) (hH : Del H (frow p cap e 1 k (ptrC mb)) H') (hN : Has H (.cells b 0 1 (cellsOf #[ptr nb 0 0]))) (hk : k + 1 ≤ 100000000000) (hd : Nat.blt d n.sz = true)
    (h : ∀ p' cap', XO P n ops Q rest ((d, .slice p' (k + 1) cap') :: L) (XM W S (frow p' cap' e 1 (k + 1) (ptrC (fupd mb k nb)) :: H'))) :
    XO P n ops Q (⟨some d, .call ⟨.builtin .append, #[x, y], #[t, t]⟩, ty, pos, af, none⟩ :: rest) L (XM W S H) :=
  XO.appendF (C2 := ptrC (fupd mb k nb)) hx hy ht hr hH hN rfl rfl (by omega) hk (fun i hi => by
    rw [ptrC_app mb k nb i (by omega)]
    by_cases c : i < k
    · rw [if_pos c, if_pos (by omega)]
    · rw [if_neg c, if_neg (by omega), show i - k * 1 = 0 from by omega]; rfl) hd h
end
/-- the state of the statement's loop -/
structure VX where
  v : VB
  f : Nat → MS
  k : Nat
  mb : Nat → Nat
  rb : Nat → Nat
  ps : Nat → Option Addr
  cs : Nat → Nat
  pm : Option Addr
  cm : Nat
  pw : Option Addr
  cw : Nat
def zWl (b : Nat) : List Value := ptr b 0 0 :: (List.replicate 32 (.int .i64 0) ++ List.replicate 16 (.bool false))
theorem zW_box (b : Nat) : ∀ i, i < 49 → cellsOf (zWl b).toArray i = encRN b MS.nil.is_ MS.nil.fr MS.nil.own i := fun i hi => by
  by_cases h : i = 0
  · subst h; rfl
  · have e := zRN_box i hi
    unfold zRN at e
    rw [if_neg h] at e
    have e2 : encRN 0 (fun _ => 0) (fun _ => 0) (fun _ => false) i = encRN b MS.nil.is_ MS.nil.fr MS.nil.own i := by
      unfold encRN; rw [if_neg h, if_neg h]; rfl
    rw [← e2, ← e]
    match i, h with
    | k + 1, _ => rfl
section
variable {W w : World} {S : Nat → Nat → Prop} {H : List Ent} {kb rk : Nat} {e : TypeId} {mb rb : Nat → Nat} {f : Nat → MS} {ps : Nat → Option Addr} {cs : Nat → Nat}
/-- one more memory -/
theorem XM.moreV {k b r : Nat} {m : MS} {p : Option Addr} {c : Nat} (h : XM W S (oneV kb rk b r e m p c ++ (famV (ltP k) kb rk e mb rb f ps cs ++ H)) w) : XM W S (famV (ltP (k + 1)) kb rk e (fupd mb k b) (fupd rb k r) (fupd f k m) (fupd ps k p) (fupd cs k c) ++ H) w := by
  rw [← inP_next]
  exact XM.inV (by simp [ltP]) h
/-- the first memory -/
theorem XM.startV {b r : Nat} {m : MS} {p : Option Addr} {c : Nat} (h : XM W S (oneV kb rk b r e m p c ++ H) w) : XM W S (famV (ltP 1) kb rk e (fupd (fun _ => 0) 0 b) (fupd (fun _ => 0) 0 r) (fupd (fun _ => MS.nil) 0 m) (fupd (fun _ => none) 0 p) (fupd (fun _ => 0) 0 c) ++ H) w := by
  refine XM.moreV ?_
  have h1 := XM.noV (kb := kb) (rk := rk) (e := e) (mb := fun _ => 0) (rb := fun _ => 0) (f := fun _ => MS.nil) (ps := fun _ => none) (cs := fun _ => 0) h
  have h1 : XM W S (.cfam (ltP 0) (fun _ => 0) 34 (cN kb (fun _ => MS.nil) (fun _ => none) (fun _ => 0)) :: .fam (ltP 0) (rN e (fun _ => MS.nil) (fun _ => none) (fun _ => 0)) :: .cfam (ltP 0) (fun _ => 0) 49 (cW rk (fun _ => MS.nil)) :: .cells b 0 34 (encN kb p (runs m.is_).length c m.fr m.own) :: frow p c e 3 (runs m.is_).length (rgC (runs m.is_)) :: .cells r 0 49 (encRN rk m.is_ m.fr m.own) :: H) w := h1
  have h2 := h1.perm (Pick.cons (.t3 .here) (.cons (.t3 .here) (.cons (.t3 .here) .nil))).perm
  simp only [List.cons_append, List.nil_append] at h2
  exact h2
/-- one is put back where it was -/
theorem XM.backV {k z : Nat} {m : MS} {p : Option Addr} {c : Nat} (hz : z < k) (h : XM W S (oneV kb rk (mb z) (rb z) e m p c ++ (famV (outP (ltP k) z) kb rk e mb rb f ps cs ++ H)) w) : XM W S (famV (ltP k) kb rk e mb rb (fupd f z m) (fupd ps z p) (fupd cs z c) ++ H) w := by
  have h1 := XM.inV (outP_at _ _) h
  rw [inout (ltP_iff.2 hz), fupd_self, fupd_self] at h1
  exact h1
end
section
variable {W w : World} {S : Nat → Nat → Prop} {H H0 : List Ent} {kb rk : Nat} {e : TypeId} {mb rb : Nat → Nat} {f : Nat → MS} {ps : Nat → Option Addr} {cs : Nat → Nat}
theorem XM.startP {b r : Nat} (m : MS) {p : Option Addr} {c : Nat} (hp : Pick H0 (oneV kb rk b r e m p c) H) (h : XM W S H0 w) : XM W S (famV (ltP 1) kb rk e (fupd (fun _ => 0) 0 b) (fupd (fun _ => 0) 0 r) (fupd (fun _ => MS.nil) 0 m) (fupd (fun _ => none) 0 p) (fupd (fun _ => 0) 0 c) ++ H) w := XM.startV (h.perm hp.perm)
theorem XM.outZ {k z : Nat} (hz : z < k) (hp : Pick H0 (famV (ltP k) kb rk e mb rb f ps cs) H) (h : XM W S H0 w) : XM W S (.cells (mb z) 0 34 (cN kb f ps cs z) :: (rN e f ps cs z).ent :: .cells (rb z) 0 49 (cW rk f z) :: .cfam (outP (ltP k) z) mb 34 (cN kb f ps cs) :: .fam (outP (ltP k) z) (rN e f ps cs) :: .cfam (outP (ltP k) z) rb 49 (cW rk f) :: H) w := XM.outV (ltP_iff.2 hz) (h.perm hp.perm)
theorem XM.backP {k z : Nat} (m : MS) {p : Option Addr} {c : Nat} (hz : z < k) (hp : Pick H0 (oneV kb rk (mb z) (rb z) e m p c ++ famV (outP (ltP k) z) kb rk e mb rb f ps cs) H) (h : XM W S H0 w) : XM W S (famV (ltP k) kb rk e mb rb (fupd f z m) (fupd ps z p) (fupd cs z c) ++ H) w :=
  XM.backV hz (h.perm (by have := hp.perm; rw [List.append_assoc] at this; exact this))
theorem XM.moreP {k b r : Nat} (m : MS) {p : Option Addr} {c : Nat} (hp : Pick H0 (oneV kb rk b r e m p c ++ famV (ltP k) kb rk e mb rb f ps cs) H) (h : XM W S H0 w) : XM W S (famV (ltP (k + 1)) kb rk e (fupd mb k b) (fupd rb k r) (fupd f k m) (fupd ps k p) (fupd cs k c) ++ H) w :=
  XM.moreV (h.perm (by have := hp.perm; rw [List.append_assoc] at this; exact this))
end
section
variable {W w : World} {S : Nat → Nat → Prop} {H H0 : List Ent} {kb rk : Nat} {e : TypeId} {mb rb : Nat → Nat} {f : Nat → MS} {ps : Nat → Option Addr} {cs : Nat → Nat}
theorem XM.outY {k z : Nat} (hz : z < k) (hp : Pick H0 (famV (ltP k) kb rk e mb rb f ps cs) H) (h : XM W S H0 w) : XM W S (.cells (mb z) 0 34 (encN kb (ps z) (runs (f z).is_).length (cs z) (f z).fr (f z).own) :: frow (ps z) (cs z) e 3 (runs (f z).is_).length (rgC (runs (f z).is_)) :: .cells (rb z) 0 49 (encRN rk (f z).is_ (f z).fr (f z).own) :: .cfam (outP (ltP k) z) mb 34 (cN kb f ps cs) :: .fam (outP (ltP k) z) (rN e f ps cs) :: .cfam (outP (ltP k) z) rb 49 (cW rk f) :: H) w := by
  have h1 := XM.outZ hz hp h
  rw [show (rN e f ps cs z).ent = frow (ps z) (cs z) e 3 (runs (f z).is_).length (rgC (runs (f z).is_)) from (frow_ent _ _ _ _ _).symm] at h1
  exact h1
theorem XM.sameP {k z : Nat} (hz : z < k) (hp : Pick H0 (oneV kb rk (mb z) (rb z) e (f z) (ps z) (cs z) ++ famV (outP (ltP k) z) kb rk e mb rb f ps cs) H) (h : XM W S H0 w) : XM W S (famV (ltP k) kb rk e mb rb f ps cs ++ H) w := by
  have h1 := XM.backP (f z) hz hp h
  rwa [fupd_self, fupd_self, fupd_self] at h1
end

end Go.X
