import Derived.Test.YthdinakloheinaaGreatDoorkTM
import Derived.Test.YthdinakloheinaaGreatDoorkGM
import Derived.Test.YthdinakloheinaaGreatDoorkFO
import Derived.Test.YthdinakloheinaaGreatDoorkFT
import Derived.Test.YthdinakloheinaaGreatDoorXFam
import Derived.Test.YthdinakloheinaaGreatDoorkGPl
import Derived.Test.YthdinakloheinaaGreatDoorXQ
import Derived.Test.YthdinakloheinaaGreatDoorProg
import Derived.KernelRfl
namespace Go.X.Kn
open Go Go.X
/-! ### the kernel's own block: processes, and where its parts lie -/
structure PU where
  st : Int
  par : Int
  grp : Int
  code : Int
  mem : Value
  fd : Int → Int
  bx : Sg.BS
structure KP where
  u : Int → PU
  gb : Nat
  sb : Nat
  qb : Nat
  bb : Nat
  tb : Nat
  pi : Nat
  ob : Nat
  ms : Int → Value
def PU.nil : PU := ⟨0, 0, 0, 0, .pointer none, fun _ => 0, Sg.BS.init⟩
def PU.cell (u : PU) (j : Nat) : Value :=
  if j = 0 then .int .i64 u.st else if j = 1 then .int .i64 u.par else if j = 2 then .int .i64 u.grp else if j = 3 then .int .i64 u.code else
  if j = 4 then u.mem else if j < 11 then .int .i64 (u.fd ((j - 5 : Nat) : Int)) else Sg.encB u.bx (j - 11)
def encKn (k : KP) (i : Nat) : Value :=
  if i < 440 then (k.u ((i / 22 : Nat) : Int)).cell (i % 22) else
  if i = 440 then ptr k.gb 0 0 else if i = 441 then ptr k.sb 0 0 else if i = 442 then ptr k.qb 0 0 else if i = 443 then ptr k.bb 0 0 else
  if i = 444 then ptr k.tb 0 0 else if i = 445 then ptr k.pi 0 0 else if i = 446 then ptr k.ob 0 0 else
  if i < 453 then k.ms ((i - 447 : Nat) : Int) else undef
def KP.put (k : KP) (n : Int) (u : PU) : KP := { k with u := fset k.u n u }
theorem KP.put_u (k : KP) (n : Int) (u : PU) : (k.put n u).u n = u := fset_eq _ _ _
theorem KP.put_ne (k : KP) {n m : Int} (u : PU) (h : ¬ m = n) : (k.put n u).u m = k.u m := fset_ne _ _ h
theorem KP.put_put (k : KP) (n : Int) (u v : PU) : (k.put n u).put n v = k.put n v := by
  show ({ k with u := fset (fset k.u n u) n v } : KP) = { k with u := fset k.u n v }
  have e : fset (fset k.u n u) n v = fset k.u n v := by
    funext j
    by_cases c : j = n
    · subst c; rw [fset_eq, fset_eq]
    · rw [fset_ne _ _ c, fset_ne _ _ c, fset_ne _ _ c]
  rw [e]
theorem KP.put_self (k : KP) (n : Int) : k.put n (k.u n) = k := by
  unfold KP.put
  rw [fset_same k.u rfl]
theorem encKn.at_ (k : KP) {n : Int} (h : 0 ≤ n ∧ n < 20) {j : Nat} (hj : j < 22) : encKn k (0 + 0 + n.toNat * 22 + j) = (k.u n).cell j := by
  unfold encKn
  rw [if_pos (by omega), show (((0 + 0 + n.toNat * 22 + j) / 22 : Nat) : Int) = n from by omega, show (0 + 0 + n.toNat * 22 + j) % 22 = j from by omega]
theorem encKn.ld_st (k : KP) {n : Int} (h : 0 ≤ n ∧ n < 20) : 0 + 0 + n.toNat * 22 + 0 < 453 ∧ encKn k (0 + 0 + n.toNat * 22 + 0) = .int .i64 (k.u n).st := ⟨by omega, encKn.at_ k h (by omega)⟩
theorem encKn.ld_par (k : KP) {n : Int} (h : 0 ≤ n ∧ n < 20) : 0 + 0 + n.toNat * 22 + 1 < 453 ∧ encKn k (0 + 0 + n.toNat * 22 + 1) = .int .i64 (k.u n).par := ⟨by omega, encKn.at_ k h (by omega)⟩
theorem encKn.ld_grp (k : KP) {n : Int} (h : 0 ≤ n ∧ n < 20) : 0 + 0 + n.toNat * 22 + 2 < 453 ∧ encKn k (0 + 0 + n.toNat * 22 + 2) = .int .i64 (k.u n).grp := ⟨by omega, encKn.at_ k h (by omega)⟩
theorem encKn.ld_code (k : KP) {n : Int} (h : 0 ≤ n ∧ n < 20) : 0 + 0 + n.toNat * 22 + 3 < 453 ∧ encKn k (0 + 0 + n.toNat * 22 + 3) = .int .i64 (k.u n).code := ⟨by omega, encKn.at_ k h (by omega)⟩
theorem encKn.ld_memP (k : KP) {n : Int} (h : 0 ≤ n ∧ n < 20) {b : Nat} (e : (k.u n).mem = ptr b 0 0) : 0 + 0 + n.toNat * 22 + 4 < 453 ∧ encKn k (0 + 0 + n.toNat * 22 + 4) = ptr b 0 0 := ⟨by omega, (encKn.at_ k h (by omega)).trans e⟩
abbrev fdA (f : Int → Int) : Array Value := arrV f 6
theorem encKn.ld_fds (k : KP) {n : Int} (h : 0 ≤ n ∧ n < 20) : 0 + 0 + n.toNat * 22 + 5 + 6 ≤ 453 ∧ aggOf (encKn k) (0 + 0 + n.toNat * 22 + 5) 6 = .agg (fdA (k.u n).fd) := by
  refine ⟨by omega, ?_⟩
  have e := fun (j : Nat) (hj : j < 6) => encKn.at_ k h (j := 5 + j) (by omega)
  unfold aggOf
  simp only [List.range, List.range.loop, List.map_cons, List.map_nil, Nat.add_zero]
  rw [show 0 + 0 + n.toNat * 22 + 5 = 0 + 0 + n.toNat * 22 + (5 + 0) from rfl, e 0 (by omega)]
  rw [show 0 + 0 + n.toNat * 22 + (5 + 0) + 1 = 0 + 0 + n.toNat * 22 + (5 + 1) from rfl, e 1 (by omega)]
  rw [show 0 + 0 + n.toNat * 22 + (5 + 0) + 2 = 0 + 0 + n.toNat * 22 + (5 + 2) from rfl, e 2 (by omega)]
  rw [show 0 + 0 + n.toNat * 22 + (5 + 0) + 3 = 0 + 0 + n.toNat * 22 + (5 + 3) from rfl, e 3 (by omega)]
  rw [show 0 + 0 + n.toNat * 22 + (5 + 0) + 4 = 0 + 0 + n.toNat * 22 + (5 + 4) from rfl, e 4 (by omega)]
  rw [show 0 + 0 + n.toNat * 22 + (5 + 0) + 5 = 0 + 0 + n.toNat * 22 + (5 + 5) from rfl, e 5 (by omega)]
  rfl
theorem encKn.ld_g (k : KP) : 0 + 440 < 453 ∧ encKn k (0 + 440) = ptr k.gb 0 0 := ⟨by omega, rfl⟩
theorem encKn.ld_s (k : KP) : 0 + 441 < 453 ∧ encKn k (0 + 441) = ptr k.sb 0 0 := ⟨by omega, rfl⟩
theorem encKn.ld_q (k : KP) : 0 + 442 < 453 ∧ encKn k (0 + 442) = ptr k.qb 0 0 := ⟨by omega, rfl⟩
theorem encKn.ld_b (k : KP) : 0 + 443 < 453 ∧ encKn k (0 + 443) = ptr k.bb 0 0 := ⟨by omega, rfl⟩
theorem encKn.ld_t (k : KP) : 0 + 444 < 453 ∧ encKn k (0 + 444) = ptr k.tb 0 0 := ⟨by omega, rfl⟩
theorem encKn.ld_pi (k : KP) : 0 + 445 < 453 ∧ encKn k (0 + 445) = ptr k.pi 0 0 := ⟨by omega, rfl⟩
theorem encKn.ld_ms (k : KP) {z : Int} (h : 0 ≤ z ∧ z < 6) : 0 + 447 + z.toNat * 1 < 453 ∧ encKn k (0 + 447 + z.toNat * 1) = k.ms z := ⟨by omega, by
  unfold encKn
  rw [if_neg (by omega), if_neg (by omega), if_neg (by omega), if_neg (by omega), if_neg (by omega), if_neg (by omega), if_neg (by omega), if_neg (by omega), if_pos (by omega), show ((0 + 447 + z.toNat * 1 - 447 : Nat) : Int) = z from by omega]⟩
/-- the process's cells change, no other ones -/
theorem encKn.chg (k : KP) {n : Int} (h : 0 ≤ n ∧ n < 20) (u : PU) (C : Nat → Value) (h1 : ∀ j, j < 22 → C (0 + 0 + n.toNat * 22 + j) = u.cell j) (h2 : ∀ i, (i < n.toNat * 22 ∨ n.toNat * 22 + 22 ≤ i) → C i = encKn k i) : C = encKn (k.put n u) := by
  funext i
  by_cases c : n.toNat * 22 ≤ i ∧ i < n.toNat * 22 + 22
  · have e1 := h1 (i - n.toNat * 22) (by omega)
    have e2 := encKn.at_ (k.put n u) h (j := i - n.toNat * 22) (by omega)
    rw [show 0 + 0 + n.toNat * 22 + (i - n.toNat * 22) = i from by omega] at e1 e2
    rw [e1, e2, KP.put_u]
  · rw [h2 i (by omega)]
    unfold encKn
    split
    · rename_i q
      rw [KP.put_ne _ _ (show ¬ ((i / 22 : Nat) : Int) = n by omega)]
    · rfl
theorem encKn.upd1 (k : KP) {n : Int} (h : 0 ≤ n ∧ n < 20) {j : Nat} (hj : j < 22) {v : Value} (u : PU) (hv : u.cell j = v) (ho : ∀ i, i < 22 → ¬ i = j → u.cell i = (k.u n).cell i) : upd (encKn k) (0 + 0 + n.toNat * 22 + j) v = encKn (k.put n u) := by
  refine encKn.chg k h u _ (fun i hi => ?_) (fun i hi => ?_)
  · unfold upd
    by_cases c : i = j
    · subst c; rw [if_pos rfl, hv]
    · rw [if_neg (by omega), encKn.at_ k h hi, ho i hi c]
  · unfold upd; rw [if_neg (by omega)]
theorem encKn.st_st (k : KP) {n : Int} (h : 0 ≤ n ∧ n < 20) (v : Int) : 0 + 0 + n.toNat * 22 + 0 < 453 ∧ upd (encKn k) (0 + 0 + n.toNat * 22 + 0) (.int .i64 v) = encKn (k.put n { k.u n with st := v }) :=
  ⟨by omega, encKn.upd1 k h (by omega) _ rfl (fun i _ c => by unfold PU.cell; rw [if_neg c, if_neg c])⟩
theorem encKn.st_par (k : KP) {n : Int} (h : 0 ≤ n ∧ n < 20) (v : Int) : 0 + 0 + n.toNat * 22 + 1 < 453 ∧ upd (encKn k) (0 + 0 + n.toNat * 22 + 1) (.int .i64 v) = encKn (k.put n { k.u n with par := v }) :=
  ⟨by omega, encKn.upd1 k h (by omega) _ rfl (fun i _ c => by unfold PU.cell; rw [if_neg (c := i = 1) c, if_neg (c := i = 1) c])⟩
theorem encKn.st_code (k : KP) {n : Int} (h : 0 ≤ n ∧ n < 20) (v : Int) : 0 + 0 + n.toNat * 22 + 3 < 453 ∧ upd (encKn k) (0 + 0 + n.toNat * 22 + 3) (.int .i64 v) = encKn (k.put n { k.u n with code := v }) :=
  ⟨by omega, encKn.upd1 k h (by omega) _ rfl (fun i _ c => by unfold PU.cell; rw [if_neg (c := i = 3) c, if_neg (c := i = 3) c])⟩
theorem updL_at : ∀ (l : List Value) (C : Nat → Value) (i j : Nat), updL C i l j = if i ≤ j ∧ j < i + l.length then l.getD (j - i) undef else C j
  | [], C, i, j => by rw [updL, if_neg (by simp only [List.length_nil]; omega)]
  | v :: r, C, i, j => by
    rw [updL, updL_at r]
    by_cases c : j = i
    · subst c
      rw [if_neg (by omega), if_pos (by simp)]
      unfold upd; rw [if_pos rfl]; simp
    · by_cases d : i + 1 ≤ j ∧ j < i + 1 + r.length
      · rw [if_pos d, if_pos (by simp; omega), show j - i = (j - (i + 1)) + 1 from by omega]; simp
      · rw [if_neg d, if_neg (by simp; omega)]
        unfold upd; rw [if_neg c]
def PU.arr (u : PU) : Array Value := ((List.range 22).map u.cell).toArray
theorem encKn.put_ (k : KP) {n : Int} (h : 0 ≤ n ∧ n < 20) (u : PU) : 0 + 0 + n.toNat * 22 + 22 ≤ 453 ∧ updL (encKn k) (0 + 0 + n.toNat * 22) u.arr.toList = encKn (k.put n u) := by
  refine ⟨by omega, encKn.chg k h u _ (fun j hj => ?_) (fun i hi => ?_)⟩
  · rw [updL_at, if_pos (by simp [PU.arr]; omega), show 0 + 0 + n.toNat * 22 + j - (0 + 0 + n.toNat * 22) = j from by omega]
    unfold PU.arr
    rw [List.getD_eq_getElem?_getD, List.toList_toArray, List.getElem?_map, List.getElem?_range hj]; rfl
  · rw [updL_at, if_neg (by simp [PU.arr]; omega)]
/-- the box of a process -/
abbrev offB (n : Int) : Nat := 0 + 0 + n.toNat * 22 + 11
def KP.box (k : KP) (n : Int) (b : Sg.BS) : KP := k.put n { k.u n with bx := b }
theorem encKn_bx (k : KP) {n : Int} (h : 0 ≤ n ∧ n < 20) {i : Nat} (hi : i < 11) : encKn k (offB n + i) = Sg.encB (k.u n).bx i := by
  have e := encKn.at_ k h (j := 11 + i) (by omega)
  rw [show offB n + i = 0 + 0 + n.toNat * 22 + (11 + i) from by unfold offB; omega, e]
  unfold PU.cell
  rw [if_neg (by omega), if_neg (by omega), if_neg (by omega), if_neg (by omega), if_neg (by omega), if_neg (by omega), show 11 + i - 11 = i from by omega]
theorem encKn_out (k : KP) {n : Int} (b : Sg.BS) (h : 0 ≤ n ∧ n < 20) {i : Nat} (hi : i < offB n ∨ offB n + 11 ≤ i) : encKn (k.box n b) i = encKn k i := by
  by_cases c : n.toNat * 22 ≤ i ∧ i < n.toNat * 22 + 22
  · have e1 := encKn.at_ (k.box n b) h (j := i - n.toNat * 22) (by omega)
    have e2 := encKn.at_ k h (j := i - n.toNat * 22) (by omega)
    rw [show 0 + 0 + n.toNat * 22 + (i - n.toNat * 22) = i from by omega] at e1 e2
    rw [e1, e2]
    unfold KP.box
    rw [KP.put_u]
    unfold PU.cell
    have : i - n.toNat * 22 < 11 := by unfold offB at hi; omega
    refine ite_both (fun _ => rfl) (fun c0 => ite_both (fun _ => rfl) (fun c1 => ite_both (fun _ => rfl) (fun c2 => ite_both (fun _ => rfl) (fun c3 => ite_both (fun _ => rfl) (fun c4 => ?_)))))
    rw [if_pos this, if_pos this]
  · unfold encKn
    split
    · unfold KP.box
      rw [KP.put_ne _ _ (show ¬ ((i / 22 : Nat) : Int) = n by omega)]
    · rfl
section
variable {W w : World} {S : Nat → Nat → Prop} {H F : List Ent}
theorem XM.cellsAs {b o n : Nat} {C C' : Nat → Value} (hC : ∀ i, i < n → C i = C' i) (h : XM W S (.cells b o n C :: H) w) : XM W S (.cells b o n C' :: H) w := Fa.XM.cellsAs hC h
theorem XM.openB {b : Nat} {k : KP} {n : Int} (hn : 0 ≤ n ∧ n < 20) (hp : Pick H [.cells b 0 453 (encKn k)] F) (h : XM W S H w) :
    XM W S (.cells b (0 + offB n) 11 (Sg.encB (k.u n).bx) :: .cells b 0 (offB n) (encKn k) :: .cells b (0 + offB n + 11) (453 - offB n - 11) (fun i => encKn k (offB n + 11 + i)) :: F) w := by
  have hoff : offB n + 11 ≤ 453 := by unfold offB; omega
  have h2 := XM.part (n := 453) (off := offB n) (m := 11) hoff (h.perm hp.perm)
  exact XM.cellsAs (C' := Sg.encB (k.u n).bx) (fun i hi => encKn_bx k hn hi) h2
theorem XM.closeB {b : Nat} {k : KP} {n : Int} {x : Sg.BS} (hn : 0 ≤ n ∧ n < 20) (hp : Pick H [.cells b (0 + offB n) 11 (Sg.encB x), .cells b 0 (offB n) (encKn k), .cells b (0 + offB n + 11) (453 - offB n - 11) (fun i => encKn k (offB n + 11 + i))] F) (h : XM W S H w) :
    XM W S (.cells b 0 453 (encKn (k.box n x)) :: F) w := by
  have hoff : offB n + 11 ≤ 453 := by unfold offB; omega
  refine XM.join (n := 453) (off := offB n) (m := 11) hoff (fun i hi => ?_) (fun i hi => ?_) (fun i hi => ?_) (h.perm hp.perm) (by omega)
  · exact encKn_out k x hn (.inl hi)
  · have e := encKn_bx (k.box n x) hn hi
    unfold KP.box at e
    rw [KP.put_u] at e
    exact e
  · exact encKn_out k x hn (.inr (by omega))
theorem KP.box_self (k : KP) (n : Int) : k.box n (k.u n).bx = k := KP.put_self k n
end
/-- what the kernel's own acts answer -/
def KP.live (k : KP) (n : Int) : Int := if n < 0 ∨ 20 ≤ n then 1 else if (k.u n).st = 1 then 0 else 2
theorem KP.live_rng {k : KP} {n : Int} (h : k.live n = 0) : (0 ≤ n ∧ n < 20) ∧ (k.u n).st = 1 := by
  unfold KP.live at h
  split at h
  · omega
  · split at h
    · exact ⟨by omega, by assumption⟩
    · omega
theorem KP.live_of {k : KP} {n : Int} (h : 0 ≤ n ∧ n < 20) (e : (k.u n).st = 1) : k.live n = 0 := by unfold KP.live; rw [if_neg (by omega), if_pos e]
def KP.see (k : KP) (s : Sp.SS) (n q : Int) : Int × Int :=
  if k.live n ≠ 0 then (0, k.live n) else if (s.find (s.in_ n).1 q).2 ≠ 0 then (0, (s.find (s.in_ n).1 q).2) else
  if (k.u (s.find (s.in_ n).1 q).1).st = 1 then ((s.find (s.in_ n).1 q).1, 0) else (0, 8)
theorem SS.find_rng {s : Sp.SS} {dep : Int → Nat} (h : s.Inv dep) {a q : Int} (e : (s.find a q).2 = 0) : (0 ≤ (s.find a q).1 ∧ (s.find a q).1 < 20) ∧ s.who a q = (s.find a q).1 ∧ (0 ≤ a ∧ a < 6 ∧ s.here a = true) ∧ 1 ≤ q ∧ q ≤ 20 := by
  have hb := h.bnd a q
  unfold Sp.SS.find at e ⊢
  split at e
  · rename_i c; exact absurd e c
  · rename_i c
    have hi : (0 ≤ a ∧ a < 6) ∧ s.here a = true := by
      have c : s.is a = 0 := by omega
      unfold Sp.SS.is at c
      split at c
      · omega
      · split at c
        · exact ⟨by omega, by assumption⟩
        · omega
    rw [if_neg c]
    split at e
    · simp at e
    · rename_i d
      split at e
      · simp at e
      · rename_i f
        rw [if_neg d, if_neg f]
        exact ⟨⟨by show 0 ≤ s.who a q; omega, by show s.who a q < 20; omega⟩, rfl, ⟨hi.1.1, hi.1.2, hi.2⟩, by omega⟩
def bxA (b : Sg.BS) : Array Value := #[.int .u16 ((Sg.pack b.wait : Nat) : Int), .int .u16 ((Sg.pack b.held : Nat) : Int), .int .i64 (b.how 0), .int .i64 (b.how 1), .int .i64 (b.how 2), .int .i64 (b.how 3), .int .i64 (b.how 4), .int .i64 (b.how 5), .int .i64 (b.how 6), .int .i64 (b.how 7), .int .i64 (b.how 8)]
theorem encKn.ld_bx (k : KP) {n : Int} (h : 0 ≤ n ∧ n < 20) : 0 + 0 + n.toNat * 22 + 11 + 11 ≤ 453 ∧ aggOf (encKn k) (0 + 0 + n.toNat * 22 + 11) 11 = .agg (bxA (k.u n).bx) := by
  refine ⟨by omega, ?_⟩
  have e := (Sg.encB_load (k.u n).bx).2
  rw [show (Value.agg (bxA (k.u n).bx)) = aggOf (Sg.encB (k.u n).bx) 0 11 from e.symm]
  unfold aggOf
  congr 2
  refine List.map_congr_left (fun j hj => ?_)
  have e9 := encKn_bx k h (List.mem_range.1 hj)
  show encKn k (0 + 0 + n.toNat * 22 + 11 + j) = Sg.encB (k.u n).bx (0 + j)
  rw [show 0 + j = j from Nat.zero_add j]
  exact e9
section
variable {W w : World} {S : Nat → Nat → Prop} {H F : List Ent}
theorem XM.sameB {b : Nat} {k : KP} {n : Int} (hn : 0 ≤ n ∧ n < 20) (hp : Pick H [.cells b (0 + offB n) 11 (Sg.encB (k.u n).bx), .cells b 0 (offB n) (encKn k), .cells b (0 + offB n + 11) (453 - offB n - 11) (fun i => encKn k (offB n + 11 + i))] F) (h : XM W S H w) :
    XM W S (.cells b 0 453 (encKn k) :: F) w := by
  have h1 := XM.closeB hn hp h
  rwa [KP.box_self] at h1
end
theorem SS.drop_no {s : Sp.SS} {z : Int} (h : (s.drop z).1 ≠ 0) : (s.drop z).2 = s := by
  unfold Sp.SS.drop at h ⊢
  split
  · rfl
  · rename_i c
    rw [if_neg c] at h
    split
    · rfl
    · rename_i d
      rw [if_neg d] at h
      split
      · rfl
      · rename_i e
        rw [e] at h; exact absurd rfl h
/-- children of n get another parent -/
def KP.adopt (k : KP) (n h i : Int) : KP := { k with u := fun j => if 0 ≤ j ∧ j < i ∧ (k.u j).st ≠ 0 ∧ (k.u j).par = n then { k.u j with par := h } else k.u j }
theorem KP.adopt_zero (k : KP) (n h : Int) : k.adopt n h 0 = k := by
  have e : (fun j => if 0 ≤ j ∧ j < 0 ∧ (k.u j).st ≠ 0 ∧ (k.u j).par = n then { k.u j with par := h } else k.u j) = k.u := by
    funext j; rw [if_neg (by omega)]
  unfold KP.adopt
  rw [e]
theorem KP.adopt_at (k : KP) (n h : Int) {i j : Int} (hj : i ≤ j) : (k.adopt n h i).u j = k.u j := by
  show (if 0 ≤ j ∧ j < i ∧ (k.u j).st ≠ 0 ∧ (k.u j).par = n then { k.u j with par := h } else k.u j) = _
  rw [if_neg (by omega)]
theorem KP.adopt_hit (k : KP) (n h : Int) {i : Int} (hi : 0 ≤ i) (h1 : (k.u i).st ≠ 0) (h2 : (k.u i).par = n) : (k.adopt n h i).put i { (k.adopt n h i).u i with par := h } = k.adopt n h (i + 1) := by
  show ({ k with u := fset (k.adopt n h i).u i { (k.adopt n h i).u i with par := h } } : KP) = { k with u := (k.adopt n h (i + 1)).u }
  have e : fset (k.adopt n h i).u i { (k.adopt n h i).u i with par := h } = (k.adopt n h (i + 1)).u := by
    funext j
    by_cases c : j = i
    · subst c
      rw [fset_eq, KP.adopt_at _ _ _ (Int.le_refl _)]
      show _ = (if 0 ≤ j ∧ j < j + 1 ∧ (k.u j).st ≠ 0 ∧ (k.u j).par = n then { k.u j with par := h } else k.u j)
      rw [if_pos ⟨hi, by omega, h1, h2⟩]
    · rw [fset_ne _ _ c]
      show (if 0 ≤ j ∧ j < i ∧ (k.u j).st ≠ 0 ∧ (k.u j).par = n then { k.u j with par := h } else k.u j) = (if 0 ≤ j ∧ j < i + 1 ∧ (k.u j).st ≠ 0 ∧ (k.u j).par = n then { k.u j with par := h } else k.u j)
      by_cases d : 0 ≤ j ∧ j < i ∧ (k.u j).st ≠ 0 ∧ (k.u j).par = n
      · rw [if_pos d, if_pos ⟨d.1, by omega, d.2.2⟩]
      · rw [if_neg d, if_neg (fun q => d ⟨q.1, by omega, q.2.2⟩)]
  rw [e]
theorem KP.adopt_miss (k : KP) (n h : Int) {i : Int} (hc : ¬ ((k.u i).st ≠ 0 ∧ (k.u i).par = n)) : k.adopt n h (i + 1) = k.adopt n h i := by
  show ({ k with u := (k.adopt n h (i + 1)).u } : KP) = { k with u := (k.adopt n h i).u }
  have e : (k.adopt n h (i + 1)).u = (k.adopt n h i).u := by
    funext j
    show (if 0 ≤ j ∧ j < i + 1 ∧ (k.u j).st ≠ 0 ∧ (k.u j).par = n then { k.u j with par := h } else k.u j) = (if 0 ≤ j ∧ j < i ∧ (k.u j).st ≠ 0 ∧ (k.u j).par = n then { k.u j with par := h } else k.u j)
    by_cases d : 0 ≤ j ∧ j < i ∧ (k.u j).st ≠ 0 ∧ (k.u j).par = n
    · rw [if_pos d, if_pos ⟨d.1, by omega, d.2.2⟩]
    · rw [if_neg d, if_neg (fun q => by
        by_cases c : j = i
        · subst c; exact hc q.2.2
        · exact d ⟨q.1, by omega, q.2.2⟩)]
  rw [e]
theorem KP.adopt_keep (k : KP) (n h i j : Int) : ((k.adopt n h i).u j).st = (k.u j).st ∧ ((k.adopt n h i).u j).bx = (k.u j).bx ∧ ((k.adopt n h i).u j).grp = (k.u j).grp ∧ ((k.adopt n h i).u j).code = (k.u j).code ∧ ((k.adopt n h i).u j).mem = (k.u j).mem ∧ ((k.adopt n h i).u j).fd = (k.u j).fd := by
  show ((if 0 ≤ j ∧ j < i ∧ (k.u j).st ≠ 0 ∧ (k.u j).par = n then { k.u j with par := h } else k.u j) : PU).st = _ ∧ ((if 0 ≤ j ∧ j < i ∧ (k.u j).st ≠ 0 ∧ (k.u j).par = n then { k.u j with par := h } else k.u j) : PU).bx = _ ∧ ((if 0 ≤ j ∧ j < i ∧ (k.u j).st ≠ 0 ∧ (k.u j).par = n then { k.u j with par := h } else k.u j) : PU).grp = _ ∧ ((if 0 ≤ j ∧ j < i ∧ (k.u j).st ≠ 0 ∧ (k.u j).par = n then { k.u j with par := h } else k.u j) : PU).code = _ ∧ ((if 0 ≤ j ∧ j < i ∧ (k.u j).st ≠ 0 ∧ (k.u j).par = n then { k.u j with par := h } else k.u j) : PU).mem = _ ∧ ((if 0 ≤ j ∧ j < i ∧ (k.u j).st ≠ 0 ∧ (k.u j).par = n then { k.u j with par := h } else k.u j) : PU).fd = _
  split <;> exact ⟨rfl, rfl, rfl, rfl, rfl, rfl⟩
/-- a box in which nothing ends its process, whatever child goes -/
structure Quiet (b : Sg.BS) : Prop where
  z : b.wait 0 = false
  e : b.first 0 = 0
  kid : (b.send 3).2 = b
theorem Quiet.init : Quiet Sg.BS.init := ⟨rfl, by decide +kernel, by unfold Sg.BS.send; rw [if_pos (by decide), if_pos (by decide)]⟩
def KP.ended (k : KP) (n c : Int) : KP := k.put n { k.u n with st := 2, code := c }
theorem KP.ended_bx (k : KP) (n c j : Int) : ((k.ended n c).u j).bx = (k.u j).bx := by
  unfold KP.ended
  by_cases h : j = n
  · subst h; rw [KP.put_u]
  · rw [KP.put_ne _ _ h]
/-! ### the memories of processes -/
def fupd {α : Type} (f : Nat → α) (z : Nat) (m : α) : Nat → α := fun j => if j = z then m else f j
theorem fupd_eq {α : Type} (f : Nat → α) (z : Nat) (m : α) : fupd f z m z = m := if_pos rfl
theorem fupd_ne {α : Type} (f : Nat → α) {z j : Nat} (m : α) (h : j ≠ z) : fupd f z m j = f j := if_neg h
theorem fupd_self {α : Type} (f : Nat → α) (z : Nat) : fupd f z (f z) = f := by
  funext j; unfold fupd; split
  · rename_i c; rw [c]
  · rfl
theorem bset_fupd (g : Nat → Nat) (z b : Nat) : bset g z b = fupd g z b := by
  funext j
  by_cases c : j = z
  · subst c; rw [bset_eq, fupd_eq]
  · rw [bset_ne _ _ c, fupd_ne _ _ c]
abbrev cN (bb : Nat) (f : Nat → Vm.MS) (ps : Nat → Option Addr) (cs : Nat → Nat) : Nat → Nat → Value := fun j => Vm.encN bb (ps j) (Vm.runs (f j).is_).length (cs j) (f j).fr (f j).own
abbrev rN (e : TypeId) (f : Nat → Vm.MS) (ps : Nat → Option Addr) (cs : Nat → Nat) : Nat → RowD := fun j => ⟨.slice (ps j) (Vm.runs (f j).is_).length (cs j), e, 3, (Vm.runs (f j).is_).length, newsOf (Vm.rgC (Vm.runs (f j).is_)) ((Vm.runs (f j).is_).length * 3)⟩
theorem cN_set (bb : Nat) (f : Nat → Vm.MS) (ps : Nat → Option Addr) (cs : Nat → Nat) (z : Nat) (m : Vm.MS) (p : Option Addr) (c : Nat) : cset (cN bb f ps cs) z (Vm.encN bb p (Vm.runs m.is_).length c m.fr m.own) = cN bb (fupd f z m) (fupd ps z p) (fupd cs z c) := by
  funext j
  by_cases q : j = z
  · subst q; rw [cset_eq]; unfold cN; rw [fupd_eq, fupd_eq, fupd_eq]
  · rw [cset_ne _ _ q]; unfold cN; rw [fupd_ne _ _ q, fupd_ne _ _ q, fupd_ne _ _ q]
theorem rN_set (e : TypeId) (f : Nat → Vm.MS) (ps : Nat → Option Addr) (cs : Nat → Nat) (z : Nat) (m : Vm.MS) (p : Option Addr) (c : Nat) : rset (rN e f ps cs) z ⟨.slice p (Vm.runs m.is_).length c, e, 3, (Vm.runs m.is_).length, newsOf (Vm.rgC (Vm.runs m.is_)) ((Vm.runs m.is_).length * 3)⟩ = rN e (fupd f z m) (fupd ps z p) (fupd cs z c) := by
  funext j
  by_cases q : j = z
  · subst q; rw [rset_eq]; unfold rN; rw [fupd_eq, fupd_eq, fupd_eq]
  · rw [rset_ne _ _ q]; unfold rN; rw [fupd_ne _ _ q, fupd_ne _ _ q, fupd_ne _ _ q]
theorem frow_ent (p : Option Addr) (c : Nat) (e : TypeId) (k : Nat) (C : Nat → Value) : frow p c e 3 k C = RowD.ent ⟨.slice p k c, e, 3, k, newsOf C (k * 3)⟩ := rfl
abbrev famM (P : Nat → Bool) (bb : Nat) (e : TypeId) (mb : Nat → Nat) (f : Nat → Vm.MS) (ps : Nat → Option Addr) (cs : Nat → Nat) : List Ent := [.cfam P mb 34 (cN bb f ps cs), .fam P (rN e f ps cs)]
abbrev oneM (bb b : Nat) (e : TypeId) (m : Vm.MS) (p : Option Addr) (c : Nat) : List Ent := [.cells b 0 34 (Vm.encN bb p (Vm.runs m.is_).length c m.fr m.own), frow p c e 3 (Vm.runs m.is_).length (Vm.rgC (Vm.runs m.is_))]
section
variable {W w : World} {S : Nat → Nat → Prop} {H H0 : List Ent} {bb : Nat} {e : TypeId} {mb : Nat → Nat} {f : Nat → Vm.MS} {ps : Nat → Option Addr} {cs : Nat → Nat} {P : Nat → Bool}
theorem XM.outM {z : Nat} (hz : P z = true) (hp : Pick H0 (famM P bb e mb f ps cs) H) (h : XM W S H0 w) : XM W S (.cells (mb z) 0 34 (Vm.encN bb (ps z) (Vm.runs (f z).is_).length (cs z) (f z).fr (f z).own) :: frow (ps z) (cs z) e 3 (Vm.runs (f z).is_).length (Vm.rgC (Vm.runs (f z).is_)) :: .cfam (outP P z) mb 34 (cN bb f ps cs) :: .fam (outP P z) (rN e f ps cs) :: H) w := by
  have h0 : XM W S (.cfam P mb 34 (cN bb f ps cs) :: .fam P (rN e f ps cs) :: H) w := h.perm hp.perm
  have h1 := XM.cfamOut z hz h0
  have h2 := h1.perm (Pick.cons (.t2 .here) (Pick.nil)).perm
  simp only [List.cons_append, List.nil_append] at h2
  have h3 := XM.famOut z hz h2
  have h4 := h3.perm (Pick.cons (.t2 .here) (.cons .here (.cons (.there .here) (.cons .here .nil)))).perm
  simp only [List.cons_append, List.nil_append] at h4
  rw [show (rN e f ps cs z).ent = frow (ps z) (cs z) e 3 (Vm.runs (f z).is_).length (Vm.rgC (Vm.runs (f z).is_)) from (frow_ent _ _ _ _ _).symm] at h4
  exact h4
theorem XM.newM {z b : Nat} (m : Vm.MS) {p : Option Addr} {c : Nat} (hz : P z = false) (hp : Pick H0 (oneM bb b e m p c ++ famM P bb e mb f ps cs) H) (h : XM W S H0 w) : XM W S (famM (inP P z) bb e (fupd mb z b) (fupd f z m) (fupd ps z p) (fupd cs z c) ++ H) w := by
  have h : XM W S (.cells b 0 34 (Vm.encN bb p (Vm.runs m.is_).length c m.fr m.own) :: frow p c e 3 (Vm.runs m.is_).length (Vm.rgC (Vm.runs m.is_)) :: .cfam P mb 34 (cN bb f ps cs) :: .fam P (rN e f ps cs) :: H) w := h.perm hp.perm
  have h0 := h.perm (Pick.cons .here (.cons (.there .here) .nil)).perm
  simp only [List.cons_append, List.nil_append] at h0
  have h1 := XM.cfamIn z (by omega) hz h0
  have h2 := h1.perm (Pick.cons (.there .here) (.cons (.there .here) .nil)).perm
  simp only [List.cons_append, List.nil_append] at h2
  rw [frow_ent] at h2
  have h3 := XM.famIn z hz h2
  have h4 := h3.perm (Pick.cons (.there .here) (.cons .here .nil)).perm
  simp only [List.cons_append, List.nil_append] at h4
  rw [cN_set, rN_set, bset_fupd] at h4
  exact h4
theorem XM.backM {z : Nat} (m : Vm.MS) {p : Option Addr} {c : Nat} (hz : P z = true) (hp : Pick H0 (oneM bb (mb z) e m p c ++ famM (outP P z) bb e mb f ps cs) H) (h : XM W S H0 w) : XM W S (famM P bb e mb (fupd f z m) (fupd ps z p) (fupd cs z c) ++ H) w := by
  have h1 := XM.newM m (outP_at _ _) hp h
  rw [inout hz, fupd_self] at h1
  exact h1
theorem XM.startM {b z : Nat} (m : Vm.MS) {p : Option Addr} {c : Nat} (hp : Pick H0 (oneM bb b e m p c) H) (h : XM W S H0 w) : XM W S (famM (inP (fun _ => false) z) bb e (fupd (fun _ => 0) z b) (fupd (fun _ => m) z m) (fupd (fun _ => none) z p) (fupd (fun _ => 0) z c) ++ H) w := by
  have h0 : XM W S (oneM bb b e m p c ++ H) w := h.perm hp.perm
  have h1 : XM W S (.cfam (fun _ => false) (fun _ => 0) 34 (cN bb (fun _ => m) (fun _ => none) (fun _ => 0)) :: .fam (fun _ => false) (rN e (fun _ => m) (fun _ => none) (fun _ => 0)) :: .cells b 0 34 (Vm.encN bb p (Vm.runs m.is_).length c m.fr m.own) :: frow p c e 3 (Vm.runs m.is_).length (Vm.rgC (Vm.runs m.is_)) :: H) w := XM.cfamNil (XM.famNil h0)
  exact XM.newM m rfl (Pick.cons (.t2 .here) (.cons (.t2 .here) (.cons .here (.cons .here .nil)))) h1
end
/-- who is in the table -/
def lv (k : KP) : Nat → Bool := fun j => decide (j < 20 ∧ (k.u (j : Int)).st ≠ 0)
theorem lv_iff {k : KP} {j : Nat} : lv k j = true ↔ j < 20 ∧ (k.u (j : Int)).st ≠ 0 := by simp [lv]
theorem lv_at {k : KP} {n : Int} (h : 0 ≤ n ∧ n < 20) (hs : (k.u n).st ≠ 0) : lv k n.toNat = true := lv_iff.2 ⟨by omega, by rw [show ((n.toNat : Nat) : Int) = n from by omega]; exact hs⟩
theorem lv_no {k : KP} {n : Int} (h : 0 ≤ n ∧ n < 20) (hs : (k.u n).st = 0) : lv k n.toNat = false := by
  rw [← Bool.not_eq_true, lv_iff]
  rintro ⟨_, h2⟩
  rw [show ((n.toNat : Nat) : Int) = n from by omega] at h2
  exact h2 hs
theorem lv_congr {k k' : KP} (h : ∀ n, 0 ≤ n → n < 20 → ((k.u n).st = 0 ↔ (k'.u n).st = 0)) : lv k = lv k' := by
  funext j
  rw [Bool.eq_iff_iff, lv_iff, lv_iff]
  constructor
  · rintro ⟨a, b⟩; exact ⟨a, fun c => b ((h j (by omega) (by omega)).2 c)⟩
  · rintro ⟨a, b⟩; exact ⟨a, fun c => b ((h j (by omega) (by omega)).1 c)⟩
theorem lv_gone {k : KP} {n : Int} {u : PU} (h : 0 ≤ n ∧ n < 20) (hu : u.st = 0) : lv (k.put n u) = outP (lv k) n.toNat := by
  funext j
  rw [Bool.eq_iff_iff, lv_iff, outP_iff, lv_iff]
  by_cases c : (j : Int) = n
  · rw [c, KP.put_u]
    constructor
    · rintro ⟨_, b⟩; exact absurd hu b
    · rintro ⟨_, b⟩; omega
  · rw [KP.put_ne _ _ c]
    constructor
    · rintro ⟨a, b⟩; exact ⟨⟨a, b⟩, by omega⟩
    · rintro ⟨⟨a, b⟩, _⟩; exact ⟨a, b⟩
theorem lv_new {k : KP} {n : Int} {u : PU} (h : 0 ≤ n ∧ n < 20) (hu : u.st ≠ 0) : lv (k.put n u) = inP (lv k) n.toNat := by
  funext j
  rw [Bool.eq_iff_iff, lv_iff, inP_iff, lv_iff]
  by_cases c : (j : Int) = n
  · rw [c, KP.put_u]
    constructor
    · rintro _; right; omega
    · rintro _; exact ⟨by omega, hu⟩
  · rw [KP.put_ne _ _ c]
    constructor
    · rintro ⟨a, b⟩; exact .inl ⟨a, b⟩
    · rintro (⟨a, b⟩ | b)
      · exact ⟨a, b⟩
      · exact absurd b (by omega)
/-- processes that have nothing but numbers -/
structure Kid (k : KP) (mb : Nat → Nat) : Prop where
  st : ∀ n, 0 ≤ n → n < 20 → (k.u n).st = 0 ∨ (k.u n).st = 1 ∨ (k.u n).st = 2
  mem : ∀ n, 0 ≤ n → n < 20 → (k.u n).st ≠ 0 → (k.u n).mem = ptr (mb n.toNat) 0 0
  grp : ∀ n, (k.u n).grp = 0
  fd : ∀ n i, (k.u n).fd i = 0
  bx : ∀ n, (k.u n).bx = Sg.BS.init
theorem Kid.quiet {k : KP} {mb : Nat → Nat} (h : Kid k mb) (n : Int) : Quiet (k.u n).bx := by rw [h.bx]; exact Quiet.init
def KP.exitE (k : KP) (n c : Int) : Int := if k.live n ≠ 0 then k.live n else if c < 0 ∨ 255 < c then 1 else if n = 0 then 8 else 0
theorem KP.ended_st (k : KP) (n c h i j : Int) : ((((k.ended n c).adopt n h i).u j).st = if j = n then 2 else (k.u j).st) := by
  rw [(KP.adopt_keep _ _ _ _ _).1]
  unfold KP.ended
  by_cases q : j = n
  · subst q; rw [KP.put_u, if_pos rfl]
  · rw [KP.put_ne _ _ q, if_neg q]
theorem nil_unmap : Vm.MS.nil.unmap Vm.VB.init 0 16 = (0, 0, Vm.VB.init, Vm.MS.nil) := by
  unfold Vm.MS.unmap
  rw [if_neg (by decide)]
  have e1 : ∀ (k : Nat), Vm.unN Vm.VB.init Vm.MS.nil.fr 0 k = (0, Vm.VB.init) := fun k => by
    induction k with
    | zero => rfl
    | succ k ih => rw [Vm.unN, ih]; rfl
  have e2 : ∀ {α : Type} (f : Int → α) (v : α), (∀ i, f i = v) → Vm.setI f 0 16 v = f := fun f v h => by
    funext i; unfold Vm.setI; split
    · exact (h i).symm
    · rfl
  rw [e1, e2 Vm.MS.nil.is_ 0 (fun _ => rfl), e2 Vm.MS.nil.fr 0 (fun _ => rfl), e2 Vm.MS.nil.own false (fun _ => rfl)]
def chC (a b : Int) : Nat → Value := fun i => if i = 0 then .int .i64 a else if i = 1 then .int .i64 b else undef
theorem chC.agg (a b : Int) : 0 + 2 ≤ 2 ∧ aggOf (chC a b) 0 2 = .agg #[.int .i64 a, .int .i64 b] := ⟨by omega, rfl⟩
theorem chC.st (a b c d : Int) : 0 + 2 ≤ 2 ∧ updL (chC a b) 0 [.int .i64 c, .int .i64 d] = chC c d := ⟨by omega, by
  funext i
  match i with
  | 0 => rfl
  | 1 => rfl
  | i + 2 => simp [updL, upd, chC]⟩
theorem chC.ld0 (a b : Int) : 0 + 0 < 2 ∧ chC a b (0 + 0) = .int .i64 a := ⟨by omega, rfl⟩
theorem chC.box : ∀ i, i < 2 → cellsOf #[.int .i64 0, .int .i64 0] i = chC 0 0 i := fun i h => match i, h with
  | 0, _ => rfl
  | 1, _ => rfl
  | k + 2, h => absurd h (by omega)
theorem SS.drop0 (s : Sp.SS) : (s.drop 0).1 ≠ 0 := by
  unfold Sp.SS.drop
  split
  · assumption
  · rw [if_pos (.inl rfl)]; exact (by decide : (5 : Int) ≠ 0)
theorem PU.fds (u : PU) : 0 + 5 + 6 ≤ 22 ∧ aggOf u.cell (0 + 5) 6 = .agg (fdA u.fd) := ⟨by omega, rfl⟩
theorem PU.agg (u : PU) : 0 + 22 ≤ 22 ∧ aggOf u.cell 0 22 = .agg u.arr := ⟨by omega, by
  unfold aggOf PU.arr
  congr 2⟩
theorem PU.cell_out (u : PU) {i : Nat} (h : 22 ≤ i) : u.cell i = undef := by
  unfold PU.cell
  rw [if_neg (by omega), if_neg (by omega), if_neg (by omega), if_neg (by omega), if_neg (by omega), if_neg (by omega)]
  exact Sg.encB_out _ (by omega)
theorem PU.arr_len (u : PU) : u.arr.toList.length = 22 := by simp [PU.arr]
theorem PU.put_ (v u : PU) : 0 + 22 ≤ 22 ∧ updL v.cell 0 u.arr.toList = u.cell := ⟨by omega, by
  funext i
  rw [updL_at, PU.arr_len]
  by_cases h : i < 22
  · rw [if_pos (by omega), Nat.sub_zero]
    unfold PU.arr
    rw [List.getD_eq_getElem?_getD, List.toList_toArray, List.getElem?_map, List.getElem?_range h]; rfl
  · rw [if_neg (by omega), PU.cell_out v (by omega), PU.cell_out u (by omega)]⟩
theorem PU.box (u : PU) : ∀ i, i < 22 → cellsOf u.arr i = u.cell i := fun i hi => by
  unfold cellsOf PU.arr
  rw [Array.getD_eq_getD_getElem?, List.getElem?_toArray, List.getElem?_map, List.getElem?_range hi]; rfl
section
variable {W w : World} {S : Nat → Nat → Prop} {H H0 : List Ent} {bb : Nat} {e : TypeId} {mb : Nat → Nat} {f : Nat → Vm.MS} {ps : Nat → Option Addr} {cs : Nat → Nat} {P : Nat → Bool}
theorem XM.sameM {z : Nat} (hz : P z = true) (hp : Pick H0 (oneM bb (mb z) e (f z) (ps z) (cs z) ++ famM (outP P z) bb e mb f ps cs) H) (h : XM W S H0 w) : XM W S (famM P bb e mb f ps cs ++ H) w := by
  have h1 := XM.backM (f z) hz hp h
  rwa [fupd_self, fupd_self, fupd_self] at h1
end
theorem nil_fork : Vm.VB.init.fork Vm.MS.nil = Vm.VB.init := by
  have e : ∀ k, Vm.upN Vm.VB.init.rf Vm.MS.nil.fr k = Vm.VB.init.rf := fun k => by
    induction k with
    | zero => rfl
    | succ k ih => rw [Vm.upN, ih]; rfl
  unfold Vm.VB.fork
  rw [e]
theorem nil_res : Vm.MS.nil.res = 0 := by decide
def KP.kid (k : KP) (n : Int) (nb : Nat) : PU := ⟨1, n, (k.u n).grp, 0, ptr nb 0 0, (k.u n).fd, (k.u n).bx.child⟩
theorem encKn.st_ms (k : KP) {z : Int} (h : 0 ≤ z ∧ z < 6) (v : Value) : 0 + 447 + z.toNat * 1 < 453 ∧ upd (encKn k) (0 + 447 + z.toNat * 1) v = encKn { k with ms := fset k.ms z v } := ⟨by omega, by
  funext i
  unfold upd
  by_cases c : i = 0 + 447 + z.toNat * 1
  · rw [if_pos c, c]
    have := (encKn.ld_ms { k with ms := fset k.ms z v } h).2
    rw [this]
    exact (fset_eq _ _ _).symm
  · rw [if_neg c]
    unfold encKn
    refine ite_both (fun _ => rfl) (fun c0 => ite_both (fun _ => rfl) (fun c1 => ite_both (fun _ => rfl) (fun c2 => ite_both (fun _ => rfl) (fun c3 => ite_both (fun _ => rfl) (fun c4 => ite_both (fun _ => rfl) (fun c5 => ite_both (fun _ => rfl) (fun c6 => ite_both (fun _ => rfl) (fun c7 => ite_both (fun c8 => ?_) (fun _ => rfl)))))))))
    show k.ms ((i - 447 : Nat) : Int) = fset k.ms z v ((i - 447 : Nat) : Int)
    rw [fset_ne _ _ (by omega)]⟩
/-- a kernel that is being made: nothing yet but its parts, and no table of open files -/
def KP.raw (gb sb qb bb tb pi : Nat) : KP := ⟨fun _ => PU.nil, gb, sb, qb, bb, tb, pi, 0, fun _ => .pointer none⟩
def encK0 (k : KP) (i : Nat) : Value := if i = 446 then .pointer none else encKn k i
def arrK0 (k : KP) : Array Value := ((List.range 453).map (encK0 k)).toArray
theorem arrK0_size (k : KP) : (arrK0 k).size = 453 := by simp [arrK0]
theorem arrK0_box (k : KP) : ∀ i, i < 453 → cellsOf (arrK0 k) i = encK0 k i := fun i hi => by simp [cellsOf, arrK0, hi]
theorem encK0.ld_t (k : KP) : 0 + 444 < 453 ∧ encK0 k (0 + 444) = ptr k.tb 0 0 := ⟨by omega, rfl⟩
theorem encK0.ld_pi (k : KP) : 0 + 445 < 453 ∧ encK0 k (0 + 445) = ptr k.pi 0 0 := ⟨by omega, rfl⟩
theorem encK0.st_o (k : KP) (b : Nat) : 0 + 446 < 453 ∧ upd (encK0 k) (0 + 446) (ptr b 0 0) = encKn { k with ob := b } := ⟨by omega, by
  funext i
  unfold upd encK0
  by_cases c : i = 0 + 446
  · subst c; rw [if_pos rfl]; rfl
  · rw [if_neg c, if_neg (by omega)]
    unfold encKn
    refine ite_both (fun _ => rfl) (fun c0 => ite_both (fun _ => rfl) (fun c1 => ite_both (fun _ => rfl) (fun c2 => ite_both (fun _ => rfl) (fun c3 => ite_both (fun _ => rfl) (fun c4 => ite_both (fun _ => rfl) (fun c5 => ite_both (fun _ => rfl) (fun c6 => ite_both (fun d => absurd d (by omega)) (fun _ => rfl))))))))⟩
def firstU (mb : Nat) : PU := ⟨1, -1, 0, 0, ptr mb 0 0, fun _ => 0, Sg.BS.init⟩
/-- the kernel as it begins -/
structure Begun (k : KP) (mb : Nat) : Prop where
  u : k.u = fset (fun _ => PU.nil) 0 (firstU mb)
def dK : Int → Nat := fset (fun _ => 0) (10 + 0) (0 + 1)
def Q1 : Fa.SF := Fa.SF.init.addT 0 0 100
def Q2 : Fa.SF := Q1.wake dK 0 true
theorem qA : Fa.SF.init.addTE 0 0 100 = 0 := by decide +kernel
theorem Q1_ok : Q1.Ok dK 1 0 := by
  have e : Q1 = Fa.SF.init.newU (10 + 0) 0 100 true := by unfold Q1 Fa.SF.addT; rw [qA]; rfl
  rw [e]
  exact Fa.SF.init_ok.add (by omega) ⟨by omega, by omega⟩ (by decide +kernel) ⟨by omega, by omega, by decide +kernel⟩ (by omega)
theorem Q2_ok : Q2.Ok dK 1 0 := Q1_ok.wake 0 true
theorem Q2_tick : (Q2.tick dK).1 = 0 := by decide +kernel
theorem Q2_ok' : (Q2.tick dK).2.Ok dK 1 1 := Q2_ok.tick (by omega) (by omega)
def G0 : Gr.TG := Gr.TG.init.charge 0 1 0
def S0 : Sp.SS := (Sp.SS.init.enter (fun _ => 1) 0 0).2.2

end Go.X.Kn

namespace Go.X
open Go Go.Proofs Go.X
instance : Tb Tryz.prog := ⟨⟨(.nd 10689 2 (.nd 5697 1 (.nd 2497 1 (.nd 1922 2 (.nd 832 0 (.nd 512 0 (.nd 450 2 (.nd 449 1 (.nd 448 0 .lf .lf) .lf) (.nd 451 3 .lf .lf)) (.nd 514 2 (.nd 513 1 .lf .lf) (.nd 515 3 .lf .lf))) (.nd 1152 0 (.nd 896 0 (.nd 833 1 .lf .lf) (.nd 897 1 .lf .lf)) (.nd 1920 0 (.nd 1216 0 .lf .lf) (.nd 1921 1 .lf .lf)))) (.nd 1987 3 (.nd 1927 7 (.nd 1925 5 (.nd 1924 4 (.nd 1923 3 .lf .lf) .lf) (.nd 1926 6 .lf .lf)) (.nd 1985 1 (.nd 1984 0 .lf .lf) (.nd 1986 2 .lf .lf))) (.nd 1991 7 (.nd 1989 5 (.nd 1988 4 .lf .lf) (.nd 1990 6 .lf .lf)) (.nd 2433 1 (.nd 2432 0 .lf .lf) (.nd 2496 0 .lf .lf))))) (.nd 4227 3 (.nd 4160 0 (.nd 3712 0 (.nd 3650 2 (.nd 3649 1 (.nd 3648 0 .lf .lf) .lf) (.nd 3651 3 .lf .lf)) (.nd 3714 2 (.nd 3713 1 .lf .lf) (.nd 3715 3 .lf .lf))) (.nd 4164 4 (.nd 4162 2 (.nd 4161 1 .lf .lf) (.nd 4163 3 .lf .lf)) (.nd 4225 1 (.nd 4224 0 .lf .lf) (.nd 4226 2 .lf .lf)))) (.nd 5632 0 (.nd 5506 2 (.nd 5504 0 (.nd 4228 4 .lf .lf) (.nd 5505 1 .lf .lf)) (.nd 5569 1 (.nd 5568 0 .lf .lf) (.nd 5570 2 .lf .lf))) (.nd 5636 4 (.nd 5634 2 (.nd 5633 1 .lf .lf) (.nd 5635 3 .lf .lf)) (.nd 5638 11 (.nd 5637 5 .lf .lf) (.nd 5696 0 .lf .lf)))))) (.nd 9088 0 (.nd 6466 441 (.nd 6403 442 (.nd 5702 11 (.nd 5700 4 (.nd 5699 3 (.nd 5698 2 .lf .lf) .lf) (.nd 5701 5 .lf .lf)) (.nd 6401 440 (.nd 6400 0 .lf .lf) (.nd 6402 441 .lf .lf))) (.nd 6407 446 (.nd 6405 444 (.nd 6404 443 .lf .lf) (.nd 6406 445 .lf .lf)) (.nd 6464 0 (.nd 6408 447 .lf .lf) (.nd 6465 440 .lf .lf)))) (.nd 8322 2 (.nd 6471 446 (.nd 6469 444 (.nd 6468 443 (.nd 6467 442 .lf .lf) .lf) (.nd 6470 445 .lf .lf)) (.nd 8320 0 (.nd 6472 447 .lf .lf) (.nd 8321 1 .lf .lf))) (.nd 8512 0 (.nd 8385 1 (.nd 8384 0 .lf .lf) (.nd 8386 2 .lf .lf)) (.nd 9024 0 (.nd 8576 0 .lf .lf) (.nd 9025 1 .lf .lf))))) (.nd 9922 2 (.nd 9601 50 (.nd 9280 0 (.nd 9217 1 (.nd 9216 0 (.nd 9089 1 .lf .lf) .lf) (.nd 9218 2 .lf .lf)) (.nd 9282 2 (.nd 9281 1 .lf .lf) (.nd 9600 0 .lf .lf))) (.nd 9857 1 (.nd 9665 50 (.nd 9664 0 .lf .lf) (.nd 9856 0 .lf .lf)) (.nd 9920 0 (.nd 9858 2 .lf .lf) (.nd 9921 1 .lf .lf)))) (.nd 10433 1 (.nd 10177 138 (.nd 10113 138 (.nd 10112 0 .lf .lf) (.nd 10176 0 .lf .lf)) (.nd 10369 1 (.nd 10368 0 .lf .lf) (.nd 10432 0 .lf .lf))) (.nd 10624 0 (.nd 10561 1 (.nd 10560 0 .lf .lf) (.nd 10562 3 .lf .lf)) (.nd 10626 3 (.nd 10625 1 .lf .lf) (.nd 10688 0 .lf .lf))))))) (.nd 13504 0 (.nd 11909 5 (.nd 11586 2 (.nd 11264 0 (.nd 10882 2 (.nd 10880 0 (.nd 10753 2 (.nd 10752 0 .lf .lf) .lf) (.nd 10881 1 .lf .lf)) (.nd 10945 1 (.nd 10944 0 .lf .lf) (.nd 10946 2 .lf .lf))) (.nd 11329 1 (.nd 11266 513 (.nd 11265 1 .lf .lf) (.nd 11328 0 .lf .lf)) (.nd 11584 0 (.nd 11330 513 .lf .lf) (.nd 11585 1 .lf .lf)))) (.nd 11777 1 (.nd 11650 2 (.nd 11648 0 (.nd 11588 4 (.nd 11587 3 .lf .lf) .lf) (.nd 11649 1 .lf .lf)) (.nd 11652 4 (.nd 11651 3 .lf .lf) (.nd 11776 0 .lf .lf))) (.nd 11905 1 (.nd 11841 1 (.nd 11840 0 .lf .lf) (.nd 11904 0 .lf .lf)) (.nd 11907 3 (.nd 11906 2 .lf .lf) (.nd 11908 4 .lf .lf))))) (.nd 11978 74 (.nd 11970 2 (.nd 11914 74 (.nd 11912 72 (.nd 11911 71 (.nd 11910 6 .lf .lf) .lf) (.nd 11913 73 .lf .lf)) (.nd 11968 0 (.nd 11915 75 .lf .lf) (.nd 11969 1 .lf .lf))) (.nd 11974 6 (.nd 11972 4 (.nd 11971 3 .lf .lf) (.nd 11973 5 .lf .lf)) (.nd 11976 72 (.nd 11975 71 .lf .lf) (.nd 11977 73 .lf .lf)))) (.nd 12482 2 (.nd 12160 0 (.nd 12096 0 (.nd 11979 75 .lf .lf) (.nd 12097 2280 .lf .lf)) (.nd 12480 0 (.nd 12161 2280 .lf .lf) (.nd 12481 1 .lf .lf))) (.nd 13440 0 (.nd 12545 1 (.nd 12544 0 .lf .lf) (.nd 12546 2 .lf .lf)) (.nd 13442 2 (.nd 13441 1 .lf .lf) (.nd 13443 3 .lf .lf)))))) (.nd 19969 1 (.nd 13829 5 (.nd 13765 5 (.nd 13761 1 (.nd 13507 3 (.nd 13506 2 (.nd 13505 1 .lf .lf) .lf) (.nd 13760 0 .lf .lf)) (.nd 13763 3 (.nd 13762 2 .lf .lf) (.nd 13764 4 .lf .lf))) (.nd 13825 1 (.nd 13767 7 (.nd 13766 6 .lf .lf) (.nd 13824 0 .lf .lf)) (.nd 13827 3 (.nd 13826 2 .lf .lf) (.nd 13828 4 .lf .lf)))) (.nd 15809 7 (.nd 13953 320 (.nd 13831 7 (.nd 13830 6 .lf .lf) (.nd 13952 0 .lf .lf)) (.nd 14017 320 (.nd 14016 0 .lf .lf) (.nd 15808 0 .lf .lf))) (.nd 16193 1 (.nd 15873 7 (.nd 15872 0 .lf .lf) (.nd 16192 0 .lf .lf)) (.nd 16257 1 (.nd 16256 0 .lf .lf) (.nd 19968 0 .lf .lf))))) (.nd 21062 6 (.nd 20418 2 (.nd 20354 2 (.nd 20352 0 (.nd 20033 1 (.nd 20032 0 .lf .lf) .lf) (.nd 20353 1 .lf .lf)) (.nd 20416 0 (.nd 20355 3 .lf .lf) (.nd 20417 1 .lf .lf))) (.nd 21058 2 (.nd 21056 0 (.nd 20419 3 .lf .lf) (.nd 21057 1 .lf .lf)) (.nd 21060 4 (.nd 21059 3 .lf .lf) (.nd 21061 5 .lf .lf)))) (.nd 21123 3 (.nd 21066 10 (.nd 21064 8 (.nd 21063 7 .lf .lf) (.nd 21065 9 .lf .lf)) (.nd 21121 1 (.nd 21120 0 .lf .lf) (.nd 21122 2 .lf .lf))) (.nd 21127 7 (.nd 21125 5 (.nd 21124 4 .lf .lf) (.nd 21126 6 .lf .lf)) (.nd 21129 9 (.nd 21128 8 .lf .lf) (.nd 21130 10 .lf .lf)))))))), (.nd 154 7 (.nd 67 7 (.nd 21 6 (.nd 11 3 (.nd 6 6 (.nd 4 5 (.nd 3 6 (.nd 2 6 .lf .lf) .lf) (.nd 5 6 .lf .lf)) (.nd 9 3 (.nd 8 7 (.nd 7 7 .lf .lf) .lf) (.nd 10 3 .lf .lf))) (.nd 16 2 (.nd 14 7 (.nd 13 7 (.nd 12 6 .lf .lf) .lf) (.nd 15 2 .lf .lf)) (.nd 19 7 (.nd 18 7 (.nd 17 2 .lf .lf) .lf) (.nd 20 1 .lf .lf)))) (.nd 38 7 (.nd 29 6 (.nd 27 7 (.nd 23 2 (.nd 22 4 .lf .lf) .lf) (.nd 28 7 .lf .lf)) (.nd 32 1 (.nd 31 7 (.nd 30 7 .lf .lf) .lf) (.nd 33 1 .lf .lf))) (.nd 57 7 (.nd 54 7 (.nd 53 7 (.nd 39 7 .lf .lf) .lf) (.nd 55 4 .lf .lf)) (.nd 65 7 (.nd 64 7 (.nd 58 7 .lf .lf) .lf) (.nd 66 7 .lf .lf))))) (.nd 100 7 (.nd 90 7 (.nd 85 7 (.nd 83 7 (.nd 82 2 (.nd 79 2 .lf .lf) .lf) (.nd 84 6 .lf .lf)) (.nd 88 7 (.nd 87 7 (.nd 86 7 .lf .lf) .lf) (.nd 89 7 .lf .lf))) (.nd 95 2 (.nd 93 2 (.nd 92 2 (.nd 91 2 .lf .lf) .lf) (.nd 94 2 .lf .lf)) (.nd 98 2 (.nd 97 2 (.nd 96 2 .lf .lf) .lf) (.nd 99 7 .lf .lf)))) (.nd 140 4 (.nd 130 7 (.nd 106 2 (.nd 102 6 (.nd 101 7 .lf .lf) .lf) (.nd 124 7 .lf .lf)) (.nd 133 7 (.nd 132 7 (.nd 131 7 .lf .lf) .lf) (.nd 134 7 .lf .lf))) (.nd 145 7 (.nd 143 7 (.nd 142 7 (.nd 141 7 .lf .lf) .lf) (.nd 144 7 .lf .lf)) (.nd 150 7 (.nd 149 7 .lf .lf) (.nd 151 7 .lf .lf)))))) (.nd 216 7 (.nd 177 7 (.nd 166 7 (.nd 159 7 (.nd 157 7 (.nd 156 7 (.nd 155 7 .lf .lf) .lf) (.nd 158 7 .lf .lf)) (.nd 164 4 (.nd 163 7 (.nd 162 7 .lf .lf) .lf) (.nd 165 7 .lf .lf))) (.nd 172 2 (.nd 170 7 (.nd 168 7 (.nd 167 7 .lf .lf) .lf) (.nd 171 7 .lf .lf)) (.nd 175 7 (.nd 174 7 (.nd 173 7 .lf .lf) .lf) (.nd 176 7 .lf .lf)))) (.nd 189 7 (.nd 184 7 (.nd 182 7 (.nd 181 7 (.nd 178 2 .lf .lf) .lf) (.nd 183 4 .lf .lf)) (.nd 187 7 (.nd 186 7 (.nd 185 7 .lf .lf) .lf) (.nd 188 7 .lf .lf))) (.nd 196 7 (.nd 194 7 (.nd 191 2 (.nd 190 7 .lf .lf) .lf) (.nd 195 7 .lf .lf)) (.nd 211 7 (.nd 210 7 (.nd 207 4 .lf .lf) .lf) (.nd 215 7 .lf .lf))))) (.nd 294 6 (.nd 252 2 (.nd 231 4 (.nd 219 7 (.nd 218 7 (.nd 217 7 .lf .lf) .lf) (.nd 228 2 .lf .lf)) (.nd 247 7 (.nd 246 7 (.nd 232 2 .lf .lf) .lf) (.nd 248 7 .lf .lf))) (.nd 258 6 (.nd 256 7 (.nd 254 7 (.nd 253 7 .lf .lf) .lf) (.nd 257 6 .lf .lf)) (.nd 269 4 (.nd 266 2 (.nd 262 2 .lf .lf) .lf) (.nd 282 6 .lf .lf)))) (.nd 321 7 (.nd 313 7 (.nd 311 7 (.nd 302 2 (.nd 299 7 .lf .lf) .lf) (.nd 312 7 .lf .lf)) (.nd 319 7 (.nd 318 7 (.nd 314 7 .lf .lf) .lf) (.nd 320 7 .lf .lf))) (.nd 327 6 (.nd 324 6 (.nd 323 6 (.nd 322 7 .lf .lf) .lf) (.nd 326 2 .lf .lf)) (.nd 329 7 (.nd 328 6 .lf .lf) (.nd 330 7 .lf .lf))))))), (.nd 151 60 (.nd 66 5 (.nd 21 1 (.nd 11 1 (.nd 6 1 (.nd 4 1 (.nd 3 1 (.nd 2 1 .lf .lf) .lf) (.nd 5 1 .lf .lf)) (.nd 9 1 (.nd 8 4 (.nd 7 4 .lf .lf) .lf) (.nd 10 1 .lf .lf))) (.nd 16 1 (.nd 14 2 (.nd 13 2 (.nd 12 1 .lf .lf) .lf) (.nd 15 1 .lf .lf)) (.nd 19 1 (.nd 18 1 (.nd 17 1 .lf .lf) .lf) (.nd 20 1 .lf .lf)))) (.nd 38 2 (.nd 29 1 (.nd 27 21 (.nd 23 1 (.nd 22 1 .lf .lf) .lf) (.nd 28 21 .lf .lf)) (.nd 32 1 (.nd 31 8 (.nd 30 8 .lf .lf) .lf) (.nd 33 1 .lf .lf))) (.nd 57 4 (.nd 54 2560 (.nd 53 128 (.nd 39 2 .lf .lf) .lf) (.nd 55 1 .lf .lf)) (.nd 64 20 (.nd 58 4 .lf .lf) (.nd 65 5 .lf .lf))))) (.nd 99 6 (.nd 89 22 (.nd 84 1 (.nd 82 1 (.nd 79 1 (.nd 67 50 .lf .lf) .lf) (.nd 83 6 .lf .lf)) (.nd 87 11 (.nd 86 11 (.nd 85 9 .lf .lf) .lf) (.nd 88 22 .lf .lf))) (.nd 94 1 (.nd 92 1 (.nd 91 1 (.nd 90 440 .lf .lf) .lf) (.nd 93 1 .lf .lf)) (.nd 97 1 (.nd 96 1 (.nd 95 1 .lf .lf) .lf) (.nd 98 1 .lf .lf)))) (.nd 134 24 (.nd 124 10 (.nd 102 1 (.nd 101 453 (.nd 100 453 .lf .lf) .lf) (.nd 106 1 .lf .lf)) (.nd 132 24 (.nd 131 3 (.nd 130 3 .lf .lf) .lf) (.nd 133 24 .lf .lf))) (.nd 144 34 (.nd 142 2 (.nd 141 2 (.nd 140 1 .lf .lf) .lf) (.nd 143 32 .lf .lf)) (.nd 149 10 (.nd 145 34 .lf .lf) (.nd 150 60 .lf .lf)))))) (.nd 211 4 (.nd 176 577 (.nd 165 4 (.nd 158 158 (.nd 156 138 (.nd 155 23 (.nd 154 23 .lf .lf) .lf) (.nd 157 20 .lf .lf)) (.nd 163 2 (.nd 162 2 (.nd 159 158 .lf .lf) .lf) (.nd 164 1 .lf .lf))) (.nd 171 3 (.nd 168 4 (.nd 167 4 (.nd 166 4 .lf .lf) .lf) (.nd 170 3 .lf .lf)) (.nd 174 512 (.nd 173 8 (.nd 172 1 .lf .lf) .lf) (.nd 175 64 .lf .lf)))) (.nd 188 2280 (.nd 183 1 (.nd 181 5 (.nd 178 1 (.nd 177 577 .lf .lf) .lf) (.nd 182 5 .lf .lf)) (.nd 186 76 (.nd 185 65 (.nd 184 65 .lf .lf) .lf) (.nd 187 76 .lf .lf))) (.nd 195 122 (.nd 191 1 (.nd 190 2281 (.nd 189 2281 .lf .lf) .lf) (.nd 194 120 .lf .lf)) (.nd 207 1 (.nd 196 122 .lf .lf) (.nd 210 4 .lf .lf))))) (.nd 266 1 (.nd 247 71 (.nd 219 321 (.nd 217 320 (.nd 216 8 (.nd 215 8 .lf .lf) .lf) (.nd 218 321 .lf .lf)) (.nd 232 1 (.nd 231 1 (.nd 228 1 .lf .lf) .lf) (.nd 246 7 .lf .lf))) (.nd 256 32 (.nd 253 2 (.nd 252 1 (.nd 248 71 .lf .lf) .lf) (.nd 254 2 .lf .lf)) (.nd 258 1 (.nd 257 1 .lf .lf) (.nd 262 1 .lf .lf)))) (.nd 318 4 (.nd 302 1 (.nd 294 1 (.nd 282 1 (.nd 269 1 .lf .lf) .lf) (.nd 299 64 .lf .lf)) (.nd 313 2 (.nd 312 2 (.nd 311 256 .lf .lf) .lf) (.nd 314 32 .lf .lf))) (.nd 327 1 (.nd 324 1 (.nd 323 1 (.nd 319 4 .lf .lf) .lf) (.nd 326 1 .lf .lf)) (.nd 329 11 (.nd 328 1 .lf .lf) (.nd 330 11 .lf .lf))))))), (.nd 156 6 (.nd 85 9 (.nd 54 20 (.nd 28 21 (.nd 27 21 .lf .lf) (.nd 53 128 .lf .lf)) (.nd 67 10 (.nd 64 20 .lf .lf) (.nd 83 6 .lf .lf))) (.nd 132 8 (.nd 99 6 (.nd 90 20 .lf .lf) (.nd 124 10 .lf .lf)) (.nd 149 10 (.nd 143 16 .lf .lf) .lf))) (.nd 217 40 (.nd 175 64 (.nd 173 8 (.nd 157 20 .lf .lf) (.nd 174 64 .lf .lf)) (.nd 194 24 (.nd 188 30 .lf .lf) .lf)) (.nd 311 256 (.nd 256 32 (.nd 246 7 .lf .lf) (.nd 299 64 .lf .lf)) (.nd 320 0 (.nd 314 16 .lf .lf) .lf)))), (.nd 156 23 (.nd 85 1 (.nd 54 128 (.nd 28 1 (.nd 27 1 .lf .lf) (.nd 53 1 .lf .lf)) (.nd 67 5 (.nd 64 1 .lf .lf) (.nd 83 1 .lf .lf))) (.nd 132 3 (.nd 99 1 (.nd 90 22 .lf .lf) (.nd 124 1 .lf .lf)) (.nd 149 1 (.nd 143 2 .lf .lf) .lf))) (.nd 217 8 (.nd 175 1 (.nd 173 1 (.nd 157 1 .lf .lf) (.nd 174 8 .lf .lf)) (.nd 194 5 (.nd 188 76 .lf .lf) .lf)) (.nd 311 1 (.nd 256 1 (.nd 246 1 .lf .lf) (.nd 299 1 .lf .lf)) (.nd 320 1 (.nd 314 2 .lf .lf) .lf)))), (.nd 183 2 (.nd 140 3 (.nd 55 1 (.nd 22 8 .lf .lf) .lf) (.nd 164 4 .lf .lf)) (.nd 231 1 (.nd 207 1 .lf .lf) (.nd 269 2 .lf .lf))), (.nd 147 0 (.nd 74 0 (.nd 38 0 (.nd 20 0 (.nd 11 0 (.nd 6 0 (.nd 4 0 (.nd 3 0 (.nd 2 0 .lf .lf) .lf) (.nd 5 0 .lf .lf)) (.nd 9 0 (.nd 8 0 (.nd 7 0 .lf .lf) .lf) (.nd 10 0 .lf .lf))) (.nd 16 0 (.nd 14 0 (.nd 13 0 (.nd 12 0 .lf .lf) .lf) (.nd 15 0 .lf .lf)) (.nd 18 0 (.nd 17 0 .lf .lf) (.nd 19 0 .lf .lf)))) (.nd 29 0 (.nd 25 0 (.nd 23 0 (.nd 22 0 (.nd 21 0 .lf .lf) .lf) (.nd 24 0 .lf .lf)) (.nd 27 0 (.nd 26 0 .lf .lf) (.nd 28 0 .lf .lf))) (.nd 34 0 (.nd 32 0 (.nd 31 0 (.nd 30 0 .lf .lf) .lf) (.nd 33 0 .lf .lf)) (.nd 36 0 (.nd 35 0 .lf .lf) (.nd 37 0 .lf .lf))))) (.nd 56 0 (.nd 47 0 (.nd 43 0 (.nd 41 0 (.nd 40 0 (.nd 39 0 .lf .lf) .lf) (.nd 42 0 .lf .lf)) (.nd 45 0 (.nd 44 0 .lf .lf) (.nd 46 0 .lf .lf))) (.nd 52 0 (.nd 50 0 (.nd 49 0 (.nd 48 0 .lf .lf) .lf) (.nd 51 0 .lf .lf)) (.nd 54 0 (.nd 53 0 .lf .lf) (.nd 55 0 .lf .lf)))) (.nd 65 0 (.nd 61 0 (.nd 59 0 (.nd 58 0 (.nd 57 0 .lf .lf) .lf) (.nd 60 0 .lf .lf)) (.nd 63 0 (.nd 62 0 .lf .lf) (.nd 64 0 .lf .lf))) (.nd 70 0 (.nd 68 0 (.nd 67 0 (.nd 66 0 .lf .lf) .lf) (.nd 69 0 .lf .lf)) (.nd 72 0 (.nd 71 0 .lf .lf) (.nd 73 0 .lf .lf)))))) (.nd 111 0 (.nd 93 0 (.nd 84 0 (.nd 79 0 (.nd 77 0 (.nd 76 0 (.nd 75 0 .lf .lf) .lf) (.nd 78 0 .lf .lf)) (.nd 82 0 (.nd 81 0 (.nd 80 0 .lf .lf) .lf) (.nd 83 0 .lf .lf))) (.nd 89 0 (.nd 87 0 (.nd 86 0 (.nd 85 0 .lf .lf) .lf) (.nd 88 0 .lf .lf)) (.nd 91 0 (.nd 90 0 .lf .lf) (.nd 92 0 .lf .lf)))) (.nd 102 0 (.nd 98 0 (.nd 96 0 (.nd 95 0 (.nd 94 0 .lf .lf) .lf) (.nd 97 0 .lf .lf)) (.nd 100 0 (.nd 99 0 .lf .lf) (.nd 101 0 .lf .lf))) (.nd 107 0 (.nd 105 0 (.nd 104 0 (.nd 103 0 .lf .lf) .lf) (.nd 106 0 .lf .lf)) (.nd 109 0 (.nd 108 0 .lf .lf) (.nd 110 0 .lf .lf))))) (.nd 129 0 (.nd 120 0 (.nd 116 0 (.nd 114 0 (.nd 113 0 (.nd 112 0 .lf .lf) .lf) (.nd 115 0 .lf .lf)) (.nd 118 0 (.nd 117 0 .lf .lf) (.nd 119 0 .lf .lf))) (.nd 125 0 (.nd 123 0 (.nd 122 0 (.nd 121 0 .lf .lf) .lf) (.nd 124 0 .lf .lf)) (.nd 127 0 (.nd 126 0 .lf .lf) (.nd 128 0 .lf .lf)))) (.nd 138 0 (.nd 134 0 (.nd 132 0 (.nd 131 0 (.nd 130 0 .lf .lf) .lf) (.nd 133 0 .lf .lf)) (.nd 136 0 (.nd 135 0 .lf .lf) (.nd 137 0 .lf .lf))) (.nd 143 0 (.nd 141 0 (.nd 140 0 (.nd 139 0 .lf .lf) .lf) (.nd 142 0 .lf .lf)) (.nd 145 0 (.nd 144 0 .lf .lf) (.nd 146 0 .lf .lf))))))) (.nd 220 0 (.nd 184 0 (.nd 166 0 (.nd 157 0 (.nd 152 0 (.nd 150 0 (.nd 149 0 (.nd 148 0 .lf .lf) .lf) (.nd 151 0 .lf .lf)) (.nd 155 0 (.nd 154 0 (.nd 153 0 .lf .lf) .lf) (.nd 156 0 .lf .lf))) (.nd 162 0 (.nd 160 0 (.nd 159 0 (.nd 158 0 .lf .lf) .lf) (.nd 161 0 .lf .lf)) (.nd 164 0 (.nd 163 0 .lf .lf) (.nd 165 0 .lf .lf)))) (.nd 175 0 (.nd 171 0 (.nd 169 0 (.nd 168 0 (.nd 167 0 .lf .lf) .lf) (.nd 170 0 .lf .lf)) (.nd 173 0 (.nd 172 0 .lf .lf) (.nd 174 0 .lf .lf))) (.nd 180 0 (.nd 178 0 (.nd 177 0 (.nd 176 0 .lf .lf) .lf) (.nd 179 0 .lf .lf)) (.nd 182 0 (.nd 181 0 .lf .lf) (.nd 183 0 .lf .lf))))) (.nd 202 0 (.nd 193 0 (.nd 189 0 (.nd 187 0 (.nd 186 0 (.nd 185 0 .lf .lf) .lf) (.nd 188 0 .lf .lf)) (.nd 191 0 (.nd 190 0 .lf .lf) (.nd 192 0 .lf .lf))) (.nd 198 0 (.nd 196 0 (.nd 195 0 (.nd 194 0 .lf .lf) .lf) (.nd 197 0 .lf .lf)) (.nd 200 0 (.nd 199 0 .lf .lf) (.nd 201 0 .lf .lf)))) (.nd 211 0 (.nd 207 0 (.nd 205 0 (.nd 204 0 (.nd 203 0 .lf .lf) .lf) (.nd 206 0 .lf .lf)) (.nd 209 0 (.nd 208 0 .lf .lf) (.nd 210 0 .lf .lf))) (.nd 216 0 (.nd 214 0 (.nd 213 0 (.nd 212 0 .lf .lf) .lf) (.nd 215 0 .lf .lf)) (.nd 218 0 (.nd 217 0 .lf .lf) (.nd 219 0 .lf .lf)))))) (.nd 257 0 (.nd 239 0 (.nd 230 0 (.nd 225 0 (.nd 223 0 (.nd 222 0 (.nd 221 0 .lf .lf) .lf) (.nd 224 0 .lf .lf)) (.nd 228 0 (.nd 227 0 (.nd 226 0 .lf .lf) .lf) (.nd 229 0 .lf .lf))) (.nd 235 0 (.nd 233 0 (.nd 232 0 (.nd 231 0 .lf .lf) .lf) (.nd 234 0 .lf .lf)) (.nd 237 0 (.nd 236 0 .lf .lf) (.nd 238 0 .lf .lf)))) (.nd 248 0 (.nd 244 0 (.nd 242 0 (.nd 241 0 (.nd 240 0 .lf .lf) .lf) (.nd 243 0 .lf .lf)) (.nd 246 0 (.nd 245 0 .lf .lf) (.nd 247 0 .lf .lf))) (.nd 253 0 (.nd 251 0 (.nd 250 0 (.nd 249 0 .lf .lf) .lf) (.nd 252 0 .lf .lf)) (.nd 255 0 (.nd 254 0 .lf .lf) (.nd 256 0 .lf .lf))))) (.nd 277 0 (.nd 266 0 (.nd 262 0 (.nd 260 0 (.nd 259 0 (.nd 258 0 .lf .lf) .lf) (.nd 261 0 .lf .lf)) (.nd 264 0 (.nd 263 0 .lf .lf) (.nd 265 0 .lf .lf))) (.nd 273 0 (.nd 271 0 (.nd 269 0 (.nd 267 0 .lf .lf) .lf) (.nd 272 0 .lf .lf)) (.nd 275 0 (.nd 274 0 .lf .lf) (.nd 276 0 .lf .lf)))) (.nd 287 0 (.nd 282 0 (.nd 280 0 (.nd 279 0 (.nd 278 0 .lf .lf) .lf) (.nd 281 0 .lf .lf)) (.nd 284 0 (.nd 283 0 .lf .lf) (.nd 285 0 .lf .lf))) (.nd 293 0 (.nd 290 0 (.nd 289 0 (.nd 288 0 .lf .lf) .lf) (.nd 291 0 .lf .lf)) (.nd 296 0 (.nd 294 0 .lf .lf) (.nd 321 0 .lf .lf))))))))⟩, by kernel_rfl⟩
theorem mixed : Tryz.prog.follows .mixedOrders = true := by kernel_rfl
theorem errvL0 (T : TypeId) : errv T 0 = .nilIface := rfl
theorem errvL1 (T : TypeId) : errv T 1 = .iface T (.int .i64 1) := rfl
theorem errvL2 (T : TypeId) : errv T 2 = .iface T (.int .i64 2) := rfl
theorem errvL3 (T : TypeId) : errv T 3 = .iface T (.int .i64 3) := rfl
theorem errvL4 (T : TypeId) : errv T 4 = .iface T (.int .i64 4) := rfl
theorem errvL5 (T : TypeId) : errv T 5 = .iface T (.int .i64 5) := rfl
theorem errvL6 (T : TypeId) : errv T 6 = .iface T (.int .i64 6) := rfl
theorem errvL7 (T : TypeId) : errv T 7 = .iface T (.int .i64 7) := rfl
theorem errvL8 (T : TypeId) : errv T 8 = .iface T (.int .i64 8) := rfl
theorem errvL9 (T : TypeId) : errv T 9 = .iface T (.int .i64 9) := rfl
theorem errvL10 (T : TypeId) : errv T 10 = .iface T (.int .i64 10) := rfl
theorem errvL11 (T : TypeId) : errv T 11 = .iface T (.int .i64 11) := rfl
theorem errvL12 (T : TypeId) : errv T 12 = .iface T (.int .i64 12) := rfl
theorem errvL13 (T : TypeId) : errv T 13 = .iface T (.int .i64 13) := rfl

end Go.X
