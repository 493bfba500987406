import Derived.Test.YthdinakloheinaaGreatDoorkSM
import Derived.Test.YthdinakloheinaaGreatDoorkGM
import Derived.Test.YthdinakloheinaaGreatDoorkFO
import Derived.Test.YthdinakloheinaaGreatDoorkFP
import Derived.Test.YthdinakloheinaaGreatDoorXFam
import Derived.Test.YthdinakloheinaaGreatDoorkFPL
import Derived.Test.YthdinakloheinaaGreatDoorkGPl
namespace Go.X.Kn
open Go Go.X
/-! ### the kernel's own block: processes, and where its parts lie -/
structure PU where
  st : Int
  par : Int
  grp : Int
  code : Int
  mem : Value
  fd : Int → Int
  bx : Sg.BS
structure KP where
  u : Int → PU
  gb : Nat
  sb : Nat
  qb : Nat
  bb : Nat
  tb : Nat
  pi : Nat
  ob : Nat
  ms : Int → Value
def PU.nil : PU := ⟨0, 0, 0, 0, .pointer none, fun _ => 0, Sg.BS.init⟩
def PU.cell (u : PU) (j : Nat) : Value :=
  if j = 0 then .int .i64 u.st else if j = 1 then .int .i64 u.par else if j = 2 then .int .i64 u.grp else if j = 3 then .int .i64 u.code else
  if j = 4 then u.mem else if j < 11 then .int .i64 (u.fd ((j - 5 : Nat) : Int)) else Sg.encB u.bx (j - 11)
def encKn (k : KP) (i : Nat) : Value :=
  if i < 440 then (k.u ((i / 22 : Nat) : Int)).cell (i % 22) else
  if i = 440 then ptr k.gb 0 0 else if i = 441 then ptr k.sb 0 0 else if i = 442 then ptr k.qb 0 0 else if i = 443 then ptr k.bb 0 0 else
  if i = 444 then ptr k.tb 0 0 else if i = 445 then ptr k.pi 0 0 else if i = 446 then ptr k.ob 0 0 else
  if i < 453 then k.ms ((i - 447 : Nat) : Int) else undef
def KP.put (k : KP) (n : Int) (u : PU) : KP := { k with u := fset k.u n u }
theorem KP.put_u (k : KP) (n : Int) (u : PU) : (k.put n u).u n = u := fset_eq _ _ _
theorem KP.put_ne (k : KP) {n m : Int} (u : PU) (h : ¬ m = n) : (k.put n u).u m = k.u m := fset_ne _ _ h
theorem KP.put_put (k : KP) (n : Int) (u v : PU) : (k.put n u).put n v = k.put n v := by
  show ({ k with u := fset (fset k.u n u) n v } : KP) = { k with u := fset k.u n v }
  have e : fset (fset k.u n u) n v = fset k.u n v := by
    funext j
    by_cases c : j = n
    · subst c; rw [fset_eq, fset_eq]
    · rw [fset_ne _ _ c, fset_ne _ _ c, fset_ne _ _ c]
  rw [e]
theorem KP.put_self (k : KP) (n : Int) : k.put n (k.u n) = k := by
  unfold KP.put
  rw [fset_same k.u rfl]
theorem encKn.at_ (k : KP) {n : Int} (h : 0 ≤ n ∧ n < 20) {j : Nat} (hj : j < 22) : encKn k (0 + 0 + n.toNat * 22 + j) = (k.u n).cell j := by
  unfold encKn
  rw [if_pos (by omega), show (((0 + 0 + n.toNat * 22 + j) / 22 : Nat) : Int) = n from by omega, show (0 + 0 + n.toNat * 22 + j) % 22 = j from by omega]
theorem encKn.ld_st (k : KP) {n : Int} (h : 0 ≤ n ∧ n < 20) : 0 + 0 + n.toNat * 22 + 0 < 453 ∧ encKn k (0 + 0 + n.toNat * 22 + 0) = .int .i64 (k.u n).st := ⟨by omega, encKn.at_ k h (by omega)⟩
theorem encKn.ld_par (k : KP) {n : Int} (h : 0 ≤ n ∧ n < 20) : 0 + 0 + n.toNat * 22 + 1 < 453 ∧ encKn k (0 + 0 + n.toNat * 22 + 1) = .int .i64 (k.u n).par := ⟨by omega, encKn.at_ k h (by omega)⟩
theorem encKn.ld_grp (k : KP) {n : Int} (h : 0 ≤ n ∧ n < 20) : 0 + 0 + n.toNat * 22 + 2 < 453 ∧ encKn k (0 + 0 + n.toNat * 22 + 2) = .int .i64 (k.u n).grp := ⟨by omega, encKn.at_ k h (by omega)⟩
theorem encKn.ld_code (k : KP) {n : Int} (h : 0 ≤ n ∧ n < 20) : 0 + 0 + n.toNat * 22 + 3 < 453 ∧ encKn k (0 + 0 + n.toNat * 22 + 3) = .int .i64 (k.u n).code := ⟨by omega, encKn.at_ k h (by omega)⟩
theorem encKn.ld_memP (k : KP) {n : Int} (h : 0 ≤ n ∧ n < 20) {b : Nat} (e : (k.u n).mem = ptr b 0 0) : 0 + 0 + n.toNat * 22 + 4 < 453 ∧ encKn k (0 + 0 + n.toNat * 22 + 4) = ptr b 0 0 := ⟨by omega, (encKn.at_ k h (by omega)).trans e⟩
theorem encKn.ld_fd (k : KP) {n i : Int} (h : 0 ≤ n ∧ n < 20) (hi : 0 ≤ i ∧ i < 6) : 0 + 0 + n.toNat * 22 + 5 + i.toNat * 1 < 453 ∧ encKn k (0 + 0 + n.toNat * 22 + 5 + i.toNat * 1) = .int .i64 ((k.u n).fd i) := ⟨by omega, by
  rw [show 0 + 0 + n.toNat * 22 + 5 + i.toNat * 1 = 0 + 0 + n.toNat * 22 + (5 + i.toNat) from by omega, encKn.at_ k h (by omega)]
  unfold PU.cell
  rw [if_neg (by omega), if_neg (by omega), if_neg (by omega), if_neg (by omega), if_neg (by omega), if_pos (by omega), show ((5 + i.toNat - 5 : Nat) : Int) = i from by omega]⟩
abbrev fdA (f : Int → Int) : Array Value := arrV f 6
theorem encKn.ld_fds (k : KP) {n : Int} (h : 0 ≤ n ∧ n < 20) : 0 + 0 + n.toNat * 22 + 5 + 6 ≤ 453 ∧ aggOf (encKn k) (0 + 0 + n.toNat * 22 + 5) 6 = .agg (fdA (k.u n).fd) := by
  refine ⟨by omega, ?_⟩
  have e := fun (j : Nat) (hj : j < 6) => encKn.at_ k h (j := 5 + j) (by omega)
  unfold aggOf
  simp only [List.range, List.range.loop, List.map_cons, List.map_nil, Nat.add_zero]
  rw [show 0 + 0 + n.toNat * 22 + 5 = 0 + 0 + n.toNat * 22 + (5 + 0) from rfl, e 0 (by omega)]
  rw [show 0 + 0 + n.toNat * 22 + (5 + 0) + 1 = 0 + 0 + n.toNat * 22 + (5 + 1) from rfl, e 1 (by omega)]
  rw [show 0 + 0 + n.toNat * 22 + (5 + 0) + 2 = 0 + 0 + n.toNat * 22 + (5 + 2) from rfl, e 2 (by omega)]
  rw [show 0 + 0 + n.toNat * 22 + (5 + 0) + 3 = 0 + 0 + n.toNat * 22 + (5 + 3) from rfl, e 3 (by omega)]
  rw [show 0 + 0 + n.toNat * 22 + (5 + 0) + 4 = 0 + 0 + n.toNat * 22 + (5 + 4) from rfl, e 4 (by omega)]
  rw [show 0 + 0 + n.toNat * 22 + (5 + 0) + 5 = 0 + 0 + n.toNat * 22 + (5 + 5) from rfl, e 5 (by omega)]
  rfl
theorem encKn.ld_g (k : KP) : 0 + 440 < 453 ∧ encKn k (0 + 440) = ptr k.gb 0 0 := ⟨by omega, rfl⟩
theorem encKn.ld_s (k : KP) : 0 + 441 < 453 ∧ encKn k (0 + 441) = ptr k.sb 0 0 := ⟨by omega, rfl⟩
theorem encKn.ld_q (k : KP) : 0 + 442 < 453 ∧ encKn k (0 + 442) = ptr k.qb 0 0 := ⟨by omega, rfl⟩
theorem encKn.ld_b (k : KP) : 0 + 443 < 453 ∧ encKn k (0 + 443) = ptr k.bb 0 0 := ⟨by omega, rfl⟩
theorem encKn.ld_t (k : KP) : 0 + 444 < 453 ∧ encKn k (0 + 444) = ptr k.tb 0 0 := ⟨by omega, rfl⟩
theorem encKn.ld_pi (k : KP) : 0 + 445 < 453 ∧ encKn k (0 + 445) = ptr k.pi 0 0 := ⟨by omega, rfl⟩
theorem encKn.ld_o (k : KP) : 0 + 446 < 453 ∧ encKn k (0 + 446) = ptr k.ob 0 0 := ⟨by omega, rfl⟩
theorem encKn.ld_ms (k : KP) {z : Int} (h : 0 ≤ z ∧ z < 6) : 0 + 447 + z.toNat * 1 < 453 ∧ encKn k (0 + 447 + z.toNat * 1) = k.ms z := ⟨by omega, by
  unfold encKn
  rw [if_neg (by omega), if_neg (by omega), if_neg (by omega), if_neg (by omega), if_neg (by omega), if_neg (by omega), if_neg (by omega), if_neg (by omega), if_pos (by omega), show ((0 + 447 + z.toNat * 1 - 447 : Nat) : Int) = z from by omega]⟩
/-- the process's cells change, no other ones -/
theorem encKn.chg (k : KP) {n : Int} (h : 0 ≤ n ∧ n < 20) (u : PU) (C : Nat → Value) (h1 : ∀ j, j < 22 → C (0 + 0 + n.toNat * 22 + j) = u.cell j) (h2 : ∀ i, (i < n.toNat * 22 ∨ n.toNat * 22 + 22 ≤ i) → C i = encKn k i) : C = encKn (k.put n u) := by
  funext i
  by_cases c : n.toNat * 22 ≤ i ∧ i < n.toNat * 22 + 22
  · have e1 := h1 (i - n.toNat * 22) (by omega)
    have e2 := encKn.at_ (k.put n u) h (j := i - n.toNat * 22) (by omega)
    rw [show 0 + 0 + n.toNat * 22 + (i - n.toNat * 22) = i from by omega] at e1 e2
    rw [e1, e2, KP.put_u]
  · rw [h2 i (by omega)]
    unfold encKn
    split
    · rename_i q
      rw [KP.put_ne _ _ (show ¬ ((i / 22 : Nat) : Int) = n by omega)]
    · rfl
theorem encKn.upd1 (k : KP) {n : Int} (h : 0 ≤ n ∧ n < 20) {j : Nat} (hj : j < 22) {v : Value} (u : PU) (hv : u.cell j = v) (ho : ∀ i, i < 22 → ¬ i = j → u.cell i = (k.u n).cell i) : upd (encKn k) (0 + 0 + n.toNat * 22 + j) v = encKn (k.put n u) := by
  refine encKn.chg k h u _ (fun i hi => ?_) (fun i hi => ?_)
  · unfold upd
    by_cases c : i = j
    · subst c; rw [if_pos rfl, hv]
    · rw [if_neg (by omega), encKn.at_ k h hi, ho i hi c]
  · unfold upd; rw [if_neg (by omega)]
theorem encKn.st_st (k : KP) {n : Int} (h : 0 ≤ n ∧ n < 20) (v : Int) : 0 + 0 + n.toNat * 22 + 0 < 453 ∧ upd (encKn k) (0 + 0 + n.toNat * 22 + 0) (.int .i64 v) = encKn (k.put n { k.u n with st := v }) :=
  ⟨by omega, encKn.upd1 k h (by omega) _ rfl (fun i _ c => by unfold PU.cell; rw [if_neg c, if_neg c])⟩
theorem encKn.st_par (k : KP) {n : Int} (h : 0 ≤ n ∧ n < 20) (v : Int) : 0 + 0 + n.toNat * 22 + 1 < 453 ∧ upd (encKn k) (0 + 0 + n.toNat * 22 + 1) (.int .i64 v) = encKn (k.put n { k.u n with par := v }) :=
  ⟨by omega, encKn.upd1 k h (by omega) _ rfl (fun i _ c => by unfold PU.cell; rw [if_neg (c := i = 1) c, if_neg (c := i = 1) c])⟩
theorem encKn.st_code (k : KP) {n : Int} (h : 0 ≤ n ∧ n < 20) (v : Int) : 0 + 0 + n.toNat * 22 + 3 < 453 ∧ upd (encKn k) (0 + 0 + n.toNat * 22 + 3) (.int .i64 v) = encKn (k.put n { k.u n with code := v }) :=
  ⟨by omega, encKn.upd1 k h (by omega) _ rfl (fun i _ c => by unfold PU.cell; rw [if_neg (c := i = 3) c, if_neg (c := i = 3) c])⟩
theorem encKn.st_fd (k : KP) {n i : Int} (h : 0 ≤ n ∧ n < 20) (hi : 0 ≤ i ∧ i < 6) (v : Int) : 0 + 0 + n.toNat * 22 + 5 + i.toNat * 1 < 453 ∧ upd (encKn k) (0 + 0 + n.toNat * 22 + 5 + i.toNat * 1) (.int .i64 v) = encKn (k.put n { k.u n with fd := fset (k.u n).fd i v }) := by
  refine ⟨by omega, ?_⟩
  rw [show 0 + 0 + n.toNat * 22 + 5 + i.toNat * 1 = 0 + 0 + n.toNat * 22 + (5 + i.toNat) from by omega]
  refine encKn.upd1 k h (by omega) _ ?_ (fun j hj c => ?_)
  · unfold PU.cell
    rw [if_neg (by omega), if_neg (by omega), if_neg (by omega), if_neg (by omega), if_neg (by omega), if_pos (by omega), show ((5 + i.toNat - 5 : Nat) : Int) = i from by omega]
    show Value.int .i64 (fset (k.u n).fd i v i) = _
    rw [fset_eq]
  · unfold PU.cell
    refine ite_both (fun _ => rfl) (fun c0 => ite_both (fun _ => rfl) (fun c1 => ite_both (fun _ => rfl) (fun c2 => ite_both (fun _ => rfl) (fun c3 => ite_both (fun _ => rfl) (fun c4 => ite_both (fun _ => ?_) (fun _ => rfl))))))
    show Value.int .i64 (fset (k.u n).fd i v ((j - 5 : Nat) : Int)) = _
    rw [fset_ne _ _ (by omega)]
theorem updL_at : ∀ (l : List Value) (C : Nat → Value) (i j : Nat), updL C i l j = if i ≤ j ∧ j < i + l.length then l.getD (j - i) undef else C j
  | [], C, i, j => by rw [updL, if_neg (by simp only [List.length_nil]; omega)]
  | v :: r, C, i, j => by
    rw [updL, updL_at r]
    by_cases c : j = i
    · subst c
      rw [if_neg (by omega), if_pos (by simp)]
      unfold upd; rw [if_pos rfl]; simp
    · by_cases d : i + 1 ≤ j ∧ j < i + 1 + r.length
      · rw [if_pos d, if_pos (by simp; omega), show j - i = (j - (i + 1)) + 1 from by omega]; simp
      · rw [if_neg d, if_neg (by simp; omega)]
        unfold upd; rw [if_neg c]
def PU.arr (u : PU) : Array Value := ((List.range 22).map u.cell).toArray
theorem encKn.put_ (k : KP) {n : Int} (h : 0 ≤ n ∧ n < 20) (u : PU) : 0 + 0 + n.toNat * 22 + 22 ≤ 453 ∧ updL (encKn k) (0 + 0 + n.toNat * 22) u.arr.toList = encKn (k.put n u) := by
  refine ⟨by omega, encKn.chg k h u _ (fun j hj => ?_) (fun i hi => ?_)⟩
  · rw [updL_at, if_pos (by simp [PU.arr]; omega), show 0 + 0 + n.toNat * 22 + j - (0 + 0 + n.toNat * 22) = j from by omega]
    unfold PU.arr
    rw [List.getD_eq_getElem?_getD, List.toList_toArray, List.getElem?_map, List.getElem?_range hj]; rfl
  · rw [updL_at, if_neg (by simp [PU.arr]; omega)]
/-- the box of a process -/
abbrev offB (n : Int) : Nat := 0 + 0 + n.toNat * 22 + 11
def KP.box (k : KP) (n : Int) (b : Sg.BS) : KP := k.put n { k.u n with bx := b }
theorem encKn_bx (k : KP) {n : Int} (h : 0 ≤ n ∧ n < 20) {i : Nat} (hi : i < 11) : encKn k (offB n + i) = Sg.encB (k.u n).bx i := by
  have e := encKn.at_ k h (j := 11 + i) (by omega)
  rw [show offB n + i = 0 + 0 + n.toNat * 22 + (11 + i) from by unfold offB; omega, e]
  unfold PU.cell
  rw [if_neg (by omega), if_neg (by omega), if_neg (by omega), if_neg (by omega), if_neg (by omega), if_neg (by omega), show 11 + i - 11 = i from by omega]
theorem encKn_out (k : KP) {n : Int} (b : Sg.BS) (h : 0 ≤ n ∧ n < 20) {i : Nat} (hi : i < offB n ∨ offB n + 11 ≤ i) : encKn (k.box n b) i = encKn k i := by
  by_cases c : n.toNat * 22 ≤ i ∧ i < n.toNat * 22 + 22
  · have e1 := encKn.at_ (k.box n b) h (j := i - n.toNat * 22) (by omega)
    have e2 := encKn.at_ k h (j := i - n.toNat * 22) (by omega)
    rw [show 0 + 0 + n.toNat * 22 + (i - n.toNat * 22) = i from by omega] at e1 e2
    rw [e1, e2]
    unfold KP.box
    rw [KP.put_u]
    unfold PU.cell
    have : i - n.toNat * 22 < 11 := by unfold offB at hi; omega
    refine ite_both (fun _ => rfl) (fun c0 => ite_both (fun _ => rfl) (fun c1 => ite_both (fun _ => rfl) (fun c2 => ite_both (fun _ => rfl) (fun c3 => ite_both (fun _ => rfl) (fun c4 => ?_)))))
    rw [if_pos this, if_pos this]
  · unfold encKn
    split
    · unfold KP.box
      rw [KP.put_ne _ _ (show ¬ ((i / 22 : Nat) : Int) = n by omega)]
    · rfl
section
variable {W w : World} {S : Nat → Nat → Prop} {H F : List Ent}
theorem XM.cellsAs {b o n : Nat} {C C' : Nat → Value} (hC : ∀ i, i < n → C i = C' i) (h : XM W S (.cells b o n C :: H) w) : XM W S (.cells b o n C' :: H) w := Fa.XM.cellsAs hC h
theorem XM.openB {b : Nat} {k : KP} {n : Int} (hn : 0 ≤ n ∧ n < 20) (hp : Pick H [.cells b 0 453 (encKn k)] F) (h : XM W S H w) :
    XM W S (.cells b (0 + offB n) 11 (Sg.encB (k.u n).bx) :: .cells b 0 (offB n) (encKn k) :: .cells b (0 + offB n + 11) (453 - offB n - 11) (fun i => encKn k (offB n + 11 + i)) :: F) w := by
  have hoff : offB n + 11 ≤ 453 := by unfold offB; omega
  have h2 := XM.part (n := 453) (off := offB n) (m := 11) hoff (h.perm hp.perm)
  exact XM.cellsAs (C' := Sg.encB (k.u n).bx) (fun i hi => encKn_bx k hn hi) h2
theorem XM.closeB {b : Nat} {k : KP} {n : Int} {x : Sg.BS} (hn : 0 ≤ n ∧ n < 20) (hp : Pick H [.cells b (0 + offB n) 11 (Sg.encB x), .cells b 0 (offB n) (encKn k), .cells b (0 + offB n + 11) (453 - offB n - 11) (fun i => encKn k (offB n + 11 + i))] F) (h : XM W S H w) :
    XM W S (.cells b 0 453 (encKn (k.box n x)) :: F) w := by
  have hoff : offB n + 11 ≤ 453 := by unfold offB; omega
  refine XM.join (n := 453) (off := offB n) (m := 11) hoff (fun i hi => ?_) (fun i hi => ?_) (fun i hi => ?_) (h.perm hp.perm) (by omega)
  · exact encKn_out k x hn (.inl hi)
  · have e := encKn_bx (k.box n x) hn hi
    unfold KP.box at e
    rw [KP.put_u] at e
    exact e
  · exact encKn_out k x hn (.inr (by omega))
theorem KP.box_self (k : KP) (n : Int) : k.box n (k.u n).bx = k := KP.put_self k n
end
/-- what the kernel's own acts answer -/
def KP.live (k : KP) (n : Int) : Int := if n < 0 ∨ 20 ≤ n then 1 else if (k.u n).st = 1 then 0 else 2
theorem KP.live_rng {k : KP} {n : Int} (h : k.live n = 0) : (0 ≤ n ∧ n < 20) ∧ (k.u n).st = 1 := by
  unfold KP.live at h
  split at h
  · omega
  · split at h
    · exact ⟨by omega, by assumption⟩
    · omega
theorem KP.live_of {k : KP} {n : Int} (h : 0 ≤ n ∧ n < 20) (e : (k.u n).st = 1) : k.live n = 0 := by unfold KP.live; rw [if_neg (by omega), if_pos e]
def KP.see (k : KP) (s : Sp.SS) (n q : Int) : Int × Int :=
  if k.live n ≠ 0 then (0, k.live n) else if (s.find (s.in_ n).1 q).2 ≠ 0 then (0, (s.find (s.in_ n).1 q).2) else
  if (k.u (s.find (s.in_ n).1 q).1).st = 1 then ((s.find (s.in_ n).1 q).1, 0) else (0, 8)
def bxA (b : Sg.BS) : Array Value := #[.int .u16 ((Sg.pack b.wait : Nat) : Int), .int .u16 ((Sg.pack b.held : Nat) : Int), .int .i64 (b.how 0), .int .i64 (b.how 1), .int .i64 (b.how 2), .int .i64 (b.how 3), .int .i64 (b.how 4), .int .i64 (b.how 5), .int .i64 (b.how 6), .int .i64 (b.how 7), .int .i64 (b.how 8)]
theorem encKn.ld_bx (k : KP) {n : Int} (h : 0 ≤ n ∧ n < 20) : 0 + 0 + n.toNat * 22 + 11 + 11 ≤ 453 ∧ aggOf (encKn k) (0 + 0 + n.toNat * 22 + 11) 11 = .agg (bxA (k.u n).bx) := by
  refine ⟨by omega, ?_⟩
  have e := (Sg.encB_load (k.u n).bx).2
  rw [show (Value.agg (bxA (k.u n).bx)) = aggOf (Sg.encB (k.u n).bx) 0 11 from e.symm]
  unfold aggOf
  congr 2
  refine List.map_congr_left (fun j hj => ?_)
  have e9 := encKn_bx k h (List.mem_range.1 hj)
  show encKn k (0 + 0 + n.toNat * 22 + 11 + j) = Sg.encB (k.u n).bx (0 + j)
  rw [show 0 + j = j from Nat.zero_add j]
  exact e9
section
variable {W w : World} {S : Nat → Nat → Prop} {H F : List Ent}
theorem XM.sameB {b : Nat} {k : KP} {n : Int} (hn : 0 ≤ n ∧ n < 20) (hp : Pick H [.cells b (0 + offB n) 11 (Sg.encB (k.u n).bx), .cells b 0 (offB n) (encKn k), .cells b (0 + offB n + 11) (453 - offB n - 11) (fun i => encKn k (offB n + 11 + i))] F) (h : XM W S H w) :
    XM W S (.cells b 0 453 (encKn k) :: F) w := by
  have h1 := XM.closeB hn hp h
  rwa [KP.box_self] at h1
end
theorem SS.drop_no {s : Sp.SS} {z : Int} (h : (s.drop z).1 ≠ 0) : (s.drop z).2 = s := by
  unfold Sp.SS.drop at h ⊢
  split
  · rfl
  · rename_i c
    rw [if_neg c] at h
    split
    · rfl
    · rename_i d
      rw [if_neg d] at h
      split
      · rfl
      · rename_i e
        rw [e] at h; exact absurd rfl h
/-- children of n get another parent -/
def KP.adopt (k : KP) (n h i : Int) : KP := { k with u := fun j => if 0 ≤ j ∧ j < i ∧ (k.u j).st ≠ 0 ∧ (k.u j).par = n then { k.u j with par := h } else k.u j }
theorem KP.adopt_zero (k : KP) (n h : Int) : k.adopt n h 0 = k := by
  have e : (fun j => if 0 ≤ j ∧ j < 0 ∧ (k.u j).st ≠ 0 ∧ (k.u j).par = n then { k.u j with par := h } else k.u j) = k.u := by
    funext j; rw [if_neg (by omega)]
  unfold KP.adopt
  rw [e]
theorem KP.adopt_at (k : KP) (n h : Int) {i j : Int} (hj : i ≤ j) : (k.adopt n h i).u j = k.u j := by
  show (if 0 ≤ j ∧ j < i ∧ (k.u j).st ≠ 0 ∧ (k.u j).par = n then { k.u j with par := h } else k.u j) = _
  rw [if_neg (by omega)]
theorem KP.adopt_hit (k : KP) (n h : Int) {i : Int} (hi : 0 ≤ i) (h1 : (k.u i).st ≠ 0) (h2 : (k.u i).par = n) : (k.adopt n h i).put i { (k.adopt n h i).u i with par := h } = k.adopt n h (i + 1) := by
  show ({ k with u := fset (k.adopt n h i).u i { (k.adopt n h i).u i with par := h } } : KP) = { k with u := (k.adopt n h (i + 1)).u }
  have e : fset (k.adopt n h i).u i { (k.adopt n h i).u i with par := h } = (k.adopt n h (i + 1)).u := by
    funext j
    by_cases c : j = i
    · subst c
      rw [fset_eq, KP.adopt_at _ _ _ (Int.le_refl _)]
      show _ = (if 0 ≤ j ∧ j < j + 1 ∧ (k.u j).st ≠ 0 ∧ (k.u j).par = n then { k.u j with par := h } else k.u j)
      rw [if_pos ⟨hi, by omega, h1, h2⟩]
    · rw [fset_ne _ _ c]
      show (if 0 ≤ j ∧ j < i ∧ (k.u j).st ≠ 0 ∧ (k.u j).par = n then { k.u j with par := h } else k.u j) = (if 0 ≤ j ∧ j < i + 1 ∧ (k.u j).st ≠ 0 ∧ (k.u j).par = n then { k.u j with par := h } else k.u j)
      by_cases d : 0 ≤ j ∧ j < i ∧ (k.u j).st ≠ 0 ∧ (k.u j).par = n
      · rw [if_pos d, if_pos ⟨d.1, by omega, d.2.2⟩]
      · rw [if_neg d, if_neg (fun q => d ⟨q.1, by omega, q.2.2⟩)]
  rw [e]
theorem KP.adopt_miss (k : KP) (n h : Int) {i : Int} (hc : ¬ ((k.u i).st ≠ 0 ∧ (k.u i).par = n)) : k.adopt n h (i + 1) = k.adopt n h i := by
  show ({ k with u := (k.adopt n h (i + 1)).u } : KP) = { k with u := (k.adopt n h i).u }
  have e : (k.adopt n h (i + 1)).u = (k.adopt n h i).u := by
    funext j
    show (if 0 ≤ j ∧ j < i + 1 ∧ (k.u j).st ≠ 0 ∧ (k.u j).par = n then { k.u j with par := h } else k.u j) = (if 0 ≤ j ∧ j < i ∧ (k.u j).st ≠ 0 ∧ (k.u j).par = n then { k.u j with par := h } else k.u j)
    by_cases d : 0 ≤ j ∧ j < i ∧ (k.u j).st ≠ 0 ∧ (k.u j).par = n
    · rw [if_pos d, if_pos ⟨d.1, by omega, d.2.2⟩]
    · rw [if_neg d, if_neg (fun q => by
        by_cases c : j = i
        · subst c; exact hc q.2.2
        · exact d ⟨q.1, by omega, q.2.2⟩)]
  rw [e]
theorem KP.adopt_keep (k : KP) (n h i j : Int) : ((k.adopt n h i).u j).st = (k.u j).st ∧ ((k.adopt n h i).u j).bx = (k.u j).bx ∧ ((k.adopt n h i).u j).grp = (k.u j).grp ∧ ((k.adopt n h i).u j).code = (k.u j).code ∧ ((k.adopt n h i).u j).mem = (k.u j).mem ∧ ((k.adopt n h i).u j).fd = (k.u j).fd := by
  show ((if 0 ≤ j ∧ j < i ∧ (k.u j).st ≠ 0 ∧ (k.u j).par = n then { k.u j with par := h } else k.u j) : PU).st = _ ∧ ((if 0 ≤ j ∧ j < i ∧ (k.u j).st ≠ 0 ∧ (k.u j).par = n then { k.u j with par := h } else k.u j) : PU).bx = _ ∧ ((if 0 ≤ j ∧ j < i ∧ (k.u j).st ≠ 0 ∧ (k.u j).par = n then { k.u j with par := h } else k.u j) : PU).grp = _ ∧ ((if 0 ≤ j ∧ j < i ∧ (k.u j).st ≠ 0 ∧ (k.u j).par = n then { k.u j with par := h } else k.u j) : PU).code = _ ∧ ((if 0 ≤ j ∧ j < i ∧ (k.u j).st ≠ 0 ∧ (k.u j).par = n then { k.u j with par := h } else k.u j) : PU).mem = _ ∧ ((if 0 ≤ j ∧ j < i ∧ (k.u j).st ≠ 0 ∧ (k.u j).par = n then { k.u j with par := h } else k.u j) : PU).fd = _
  split <;> exact ⟨rfl, rfl, rfl, rfl, rfl, rfl⟩
/-- a box in which nothing ends its process, whatever child goes -/
structure Quiet (b : Sg.BS) : Prop where
  z : b.wait 0 = false
  e : b.first 0 = 0
  kid : (b.send 3).2 = b
theorem Quiet.init : Quiet Sg.BS.init := ⟨rfl, by decide +kernel, by unfold Sg.BS.send; rw [if_pos (by decide), if_pos (by decide)]⟩
def KP.ended (k : KP) (n c : Int) : KP := k.put n { k.u n with st := 2, code := c }
/-! ### the memories of processes -/
def fupd {α : Type} (f : Nat → α) (z : Nat) (m : α) : Nat → α := fun j => if j = z then m else f j
theorem fupd_eq {α : Type} (f : Nat → α) (z : Nat) (m : α) : fupd f z m z = m := if_pos rfl
theorem fupd_ne {α : Type} (f : Nat → α) {z j : Nat} (m : α) (h : j ≠ z) : fupd f z m j = f j := if_neg h
theorem fupd_self {α : Type} (f : Nat → α) (z : Nat) : fupd f z (f z) = f := by
  funext j; unfold fupd; split
  · rename_i c; rw [c]
  · rfl
theorem bset_fupd (g : Nat → Nat) (z b : Nat) : bset g z b = fupd g z b := by
  funext j
  by_cases c : j = z
  · subst c; rw [bset_eq, fupd_eq]
  · rw [bset_ne _ _ c, fupd_ne _ _ c]
abbrev cN (bb : Nat) (f : Nat → Vm.MS) (ps : Nat → Option Addr) (cs : Nat → Nat) : Nat → Nat → Value := fun j => Vm.encN bb (ps j) (Vm.runs (f j).is_).length (cs j) (f j).fr (f j).own
abbrev rN (e : TypeId) (f : Nat → Vm.MS) (ps : Nat → Option Addr) (cs : Nat → Nat) : Nat → RowD := fun j => ⟨.slice (ps j) (Vm.runs (f j).is_).length (cs j), e, 3, (Vm.runs (f j).is_).length, newsOf (Vm.rgC (Vm.runs (f j).is_)) ((Vm.runs (f j).is_).length * 3)⟩
theorem cN_set (bb : Nat) (f : Nat → Vm.MS) (ps : Nat → Option Addr) (cs : Nat → Nat) (z : Nat) (m : Vm.MS) (p : Option Addr) (c : Nat) : cset (cN bb f ps cs) z (Vm.encN bb p (Vm.runs m.is_).length c m.fr m.own) = cN bb (fupd f z m) (fupd ps z p) (fupd cs z c) := by
  funext j
  by_cases q : j = z
  · subst q; rw [cset_eq]; unfold cN; rw [fupd_eq, fupd_eq, fupd_eq]
  · rw [cset_ne _ _ q]; unfold cN; rw [fupd_ne _ _ q, fupd_ne _ _ q, fupd_ne _ _ q]
theorem rN_set (e : TypeId) (f : Nat → Vm.MS) (ps : Nat → Option Addr) (cs : Nat → Nat) (z : Nat) (m : Vm.MS) (p : Option Addr) (c : Nat) : rset (rN e f ps cs) z ⟨.slice p (Vm.runs m.is_).length c, e, 3, (Vm.runs m.is_).length, newsOf (Vm.rgC (Vm.runs m.is_)) ((Vm.runs m.is_).length * 3)⟩ = rN e (fupd f z m) (fupd ps z p) (fupd cs z c) := by
  funext j
  by_cases q : j = z
  · subst q; rw [rset_eq]; unfold rN; rw [fupd_eq, fupd_eq, fupd_eq]
  · rw [rset_ne _ _ q]; unfold rN; rw [fupd_ne _ _ q, fupd_ne _ _ q, fupd_ne _ _ q]
theorem frow_ent (p : Option Addr) (c : Nat) (e : TypeId) (k : Nat) (C : Nat → Value) : frow p c e 3 k C = RowD.ent ⟨.slice p k c, e, 3, k, newsOf C (k * 3)⟩ := rfl
abbrev famM (P : Nat → Bool) (bb : Nat) (e : TypeId) (mb : Nat → Nat) (f : Nat → Vm.MS) (ps : Nat → Option Addr) (cs : Nat → Nat) : List Ent := [.cfam P mb 34 (cN bb f ps cs), .fam P (rN e f ps cs)]
abbrev oneM (bb b : Nat) (e : TypeId) (m : Vm.MS) (p : Option Addr) (c : Nat) : List Ent := [.cells b 0 34 (Vm.encN bb p (Vm.runs m.is_).length c m.fr m.own), frow p c e 3 (Vm.runs m.is_).length (Vm.rgC (Vm.runs m.is_))]
section
variable {W w : World} {S : Nat → Nat → Prop} {H H0 : List Ent} {bb : Nat} {e : TypeId} {mb : Nat → Nat} {f : Nat → Vm.MS} {ps : Nat → Option Addr} {cs : Nat → Nat} {P : Nat → Bool}
theorem XM.outM {z : Nat} (hz : P z = true) (hp : Pick H0 (famM P bb e mb f ps cs) H) (h : XM W S H0 w) : XM W S (.cells (mb z) 0 34 (Vm.encN bb (ps z) (Vm.runs (f z).is_).length (cs z) (f z).fr (f z).own) :: frow (ps z) (cs z) e 3 (Vm.runs (f z).is_).length (Vm.rgC (Vm.runs (f z).is_)) :: .cfam (outP P z) mb 34 (cN bb f ps cs) :: .fam (outP P z) (rN e f ps cs) :: H) w := by
  have h0 : XM W S (.cfam P mb 34 (cN bb f ps cs) :: .fam P (rN e f ps cs) :: H) w := h.perm hp.perm
  have h1 := XM.cfamOut z hz h0
  have h2 := h1.perm (Pick.cons (.t2 .here) (Pick.nil)).perm
  simp only [List.cons_append, List.nil_append] at h2
  have h3 := XM.famOut z hz h2
  have h4 := h3.perm (Pick.cons (.t2 .here) (.cons .here (.cons (.there .here) (.cons .here .nil)))).perm
  simp only [List.cons_append, List.nil_append] at h4
  rw [show (rN e f ps cs z).ent = frow (ps z) (cs z) e 3 (Vm.runs (f z).is_).length (Vm.rgC (Vm.runs (f z).is_)) from (frow_ent _ _ _ _ _).symm] at h4
  exact h4
theorem XM.newM {z b : Nat} (m : Vm.MS) {p : Option Addr} {c : Nat} (hz : P z = false) (hp : Pick H0 (oneM bb b e m p c ++ famM P bb e mb f ps cs) H) (h : XM W S H0 w) : XM W S (famM (inP P z) bb e (fupd mb z b) (fupd f z m) (fupd ps z p) (fupd cs z c) ++ H) w := by
  have h : XM W S (.cells b 0 34 (Vm.encN bb p (Vm.runs m.is_).length c m.fr m.own) :: frow p c e 3 (Vm.runs m.is_).length (Vm.rgC (Vm.runs m.is_)) :: .cfam P mb 34 (cN bb f ps cs) :: .fam P (rN e f ps cs) :: H) w := h.perm hp.perm
  have h0 := h.perm (Pick.cons .here (.cons (.there .here) .nil)).perm
  simp only [List.cons_append, List.nil_append] at h0
  have h1 := XM.cfamIn z (by omega) hz h0
  have h2 := h1.perm (Pick.cons (.there .here) (.cons (.there .here) .nil)).perm
  simp only [List.cons_append, List.nil_append] at h2
  rw [frow_ent] at h2
  have h3 := XM.famIn z hz h2
  have h4 := h3.perm (Pick.cons (.there .here) (.cons .here .nil)).perm
  simp only [List.cons_append, List.nil_append] at h4
  rw [cN_set, rN_set, bset_fupd] at h4
  exact h4
theorem XM.backM {z : Nat} (m : Vm.MS) {p : Option Addr} {c : Nat} (hz : P z = true) (hp : Pick H0 (oneM bb (mb z) e m p c ++ famM (outP P z) bb e mb f ps cs) H) (h : XM W S H0 w) : XM W S (famM P bb e mb (fupd f z m) (fupd ps z p) (fupd cs z c) ++ H) w := by
  have h1 := XM.newM m (outP_at _ _) hp h
  rw [inout hz, fupd_self] at h1
  exact h1
theorem XM.startM {b z : Nat} (m : Vm.MS) {p : Option Addr} {c : Nat} (hp : Pick H0 (oneM bb b e m p c) H) (h : XM W S H0 w) : XM W S (famM (inP (fun _ => false) z) bb e (fupd (fun _ => 0) z b) (fupd (fun _ => m) z m) (fupd (fun _ => none) z p) (fupd (fun _ => 0) z c) ++ H) w := by
  have h0 : XM W S (oneM bb b e m p c ++ H) w := h.perm hp.perm
  have h1 : XM W S (.cfam (fun _ => false) (fun _ => 0) 34 (cN bb (fun _ => m) (fun _ => none) (fun _ => 0)) :: .fam (fun _ => false) (rN e (fun _ => m) (fun _ => none) (fun _ => 0)) :: .cells b 0 34 (Vm.encN bb p (Vm.runs m.is_).length c m.fr m.own) :: frow p c e 3 (Vm.runs m.is_).length (Vm.rgC (Vm.runs m.is_)) :: H) w := XM.cfamNil (XM.famNil h0)
  exact XM.newM m rfl (Pick.cons (.t2 .here) (.cons (.t2 .here) (.cons .here (.cons .here .nil)))) h1
end
/-- who is in the table -/
def lv (k : KP) : Nat → Bool := fun j => decide (j < 20 ∧ (k.u (j : Int)).st ≠ 0)
/-- processes that have nothing but numbers -/
structure Kid (k : KP) (mb : Nat → Nat) : Prop where
  st : ∀ n, 0 ≤ n → n < 20 → (k.u n).st = 0 ∨ (k.u n).st = 1 ∨ (k.u n).st = 2
  mem : ∀ n, 0 ≤ n → n < 20 → (k.u n).st ≠ 0 → (k.u n).mem = ptr (mb n.toNat) 0 0
  grp : ∀ n, (k.u n).grp = 0
  fd : ∀ n i, (k.u n).fd i = 0
  bx : ∀ n, (k.u n).bx = Sg.BS.init
def KP.exitE (k : KP) (n c : Int) : Int := if k.live n ≠ 0 then k.live n else if c < 0 ∨ 255 < c then 1 else if n = 0 then 8 else 0
theorem KP.ended_st (k : KP) (n c h i j : Int) : ((((k.ended n c).adopt n h i).u j).st = if j = n then 2 else (k.u j).st) := by
  rw [(KP.adopt_keep _ _ _ _ _).1]
  unfold KP.ended
  by_cases q : j = n
  · subst q; rw [KP.put_u, if_pos rfl]
  · rw [KP.put_ne _ _ q, if_neg q]
def chC (a b : Int) : Nat → Value := fun i => if i = 0 then .int .i64 a else if i = 1 then .int .i64 b else undef
theorem chC.agg (a b : Int) : 0 + 2 ≤ 2 ∧ aggOf (chC a b) 0 2 = .agg #[.int .i64 a, .int .i64 b] := ⟨by omega, rfl⟩
theorem chC.st (a b c d : Int) : 0 + 2 ≤ 2 ∧ updL (chC a b) 0 [.int .i64 c, .int .i64 d] = chC c d := ⟨by omega, by
  funext i
  match i with
  | 0 => rfl
  | 1 => rfl
  | i + 2 => simp [updL, upd, chC]⟩
theorem chC.ld0 (a b : Int) : 0 + 0 < 2 ∧ chC a b (0 + 0) = .int .i64 a := ⟨by omega, rfl⟩
theorem chC.box : ∀ i, i < 2 → cellsOf #[.int .i64 0, .int .i64 0] i = chC 0 0 i := fun i h => match i, h with
  | 0, _ => rfl
  | 1, _ => rfl
  | k + 2, h => absurd h (by omega)
theorem PU.fds (u : PU) : 0 + 5 + 6 ≤ 22 ∧ aggOf u.cell (0 + 5) 6 = .agg (fdA u.fd) := ⟨by omega, rfl⟩
theorem PU.agg (u : PU) : 0 + 22 ≤ 22 ∧ aggOf u.cell 0 22 = .agg u.arr := ⟨by omega, by
  unfold aggOf PU.arr
  congr 2⟩
theorem PU.cell_out (u : PU) {i : Nat} (h : 22 ≤ i) : u.cell i = undef := by
  unfold PU.cell
  rw [if_neg (by omega), if_neg (by omega), if_neg (by omega), if_neg (by omega), if_neg (by omega), if_neg (by omega)]
  exact Sg.encB_out _ (by omega)
theorem PU.arr_len (u : PU) : u.arr.toList.length = 22 := by simp [PU.arr]
theorem PU.put_ (v u : PU) : 0 + 22 ≤ 22 ∧ updL v.cell 0 u.arr.toList = u.cell := ⟨by omega, by
  funext i
  rw [updL_at, PU.arr_len]
  by_cases h : i < 22
  · rw [if_pos (by omega), Nat.sub_zero]
    unfold PU.arr
    rw [List.getD_eq_getElem?_getD, List.toList_toArray, List.getElem?_map, List.getElem?_range h]; rfl
  · rw [if_neg (by omega), PU.cell_out v (by omega), PU.cell_out u (by omega)]⟩
theorem PU.box (u : PU) : ∀ i, i < 22 → cellsOf u.arr i = u.cell i := fun i hi => by
  unfold cellsOf PU.arr
  rw [Array.getD_eq_getD_getElem?, List.getElem?_toArray, List.getElem?_map, List.getElem?_range hi]; rfl
section
variable {W w : World} {S : Nat → Nat → Prop} {H H0 : List Ent} {bb : Nat} {e : TypeId} {mb : Nat → Nat} {f : Nat → Vm.MS} {ps : Nat → Option Addr} {cs : Nat → Nat} {P : Nat → Bool}
theorem XM.sameM {z : Nat} (hz : P z = true) (hp : Pick H0 (oneM bb (mb z) e (f z) (ps z) (cs z) ++ famM (outP P z) bb e mb f ps cs) H) (h : XM W S H0 w) : XM W S (famM P bb e mb f ps cs ++ H) w := by
  have h1 := XM.backM (f z) hz hp h
  rwa [fupd_self, fupd_self, fupd_self] at h1
end
def KP.kid (k : KP) (n : Int) (nb : Nat) : PU := ⟨1, n, (k.u n).grp, 0, ptr nb 0 0, (k.u n).fd, (k.u n).bx.child⟩
theorem encKn.st_ms (k : KP) {z : Int} (h : 0 ≤ z ∧ z < 6) (v : Value) : 0 + 447 + z.toNat * 1 < 453 ∧ upd (encKn k) (0 + 447 + z.toNat * 1) v = encKn { k with ms := fset k.ms z v } := ⟨by omega, by
  funext i
  unfold upd
  by_cases c : i = 0 + 447 + z.toNat * 1
  · rw [if_pos c, c]
    have := (encKn.ld_ms { k with ms := fset k.ms z v } h).2
    rw [this]
    exact (fset_eq _ _ _).symm
  · rw [if_neg c]
    unfold encKn
    refine ite_both (fun _ => rfl) (fun c0 => ite_both (fun _ => rfl) (fun c1 => ite_both (fun _ => rfl) (fun c2 => ite_both (fun _ => rfl) (fun c3 => ite_both (fun _ => rfl) (fun c4 => ite_both (fun _ => rfl) (fun c5 => ite_both (fun _ => rfl) (fun c6 => ite_both (fun _ => rfl) (fun c7 => ite_both (fun c8 => ?_) (fun _ => rfl)))))))))
    show k.ms ((i - 447 : Nat) : Int) = fset k.ms z v ((i - 447 : Nat) : Int)
    rw [fset_ne _ _ (by omega)]⟩
/-- a kernel that is being made: nothing yet but its parts, and no table of open files -/
def KP.raw (gb sb qb bb tb pi : Nat) : KP := ⟨fun _ => PU.nil, gb, sb, qb, bb, tb, pi, 0, fun _ => .pointer none⟩
def encK0 (k : KP) (i : Nat) : Value := if i = 446 then .pointer none else encKn k i
def arrK0 (k : KP) : Array Value := ((List.range 453).map (encK0 k)).toArray
theorem arrK0_size (k : KP) : (arrK0 k).size = 453 := by simp [arrK0]
theorem arrK0_box (k : KP) : ∀ i, i < 453 → cellsOf (arrK0 k) i = encK0 k i := fun i hi => by simp [cellsOf, arrK0, hi]
theorem encK0.ld_t (k : KP) : 0 + 444 < 453 ∧ encK0 k (0 + 444) = ptr k.tb 0 0 := ⟨by omega, rfl⟩
theorem encK0.ld_pi (k : KP) : 0 + 445 < 453 ∧ encK0 k (0 + 445) = ptr k.pi 0 0 := ⟨by omega, rfl⟩
theorem encK0.st_o (k : KP) (b : Nat) : 0 + 446 < 453 ∧ upd (encK0 k) (0 + 446) (ptr b 0 0) = encKn { k with ob := b } := ⟨by omega, by
  funext i
  unfold upd encK0
  by_cases c : i = 0 + 446
  · subst c; rw [if_pos rfl]; rfl
  · rw [if_neg c, if_neg (by omega)]
    unfold encKn
    refine ite_both (fun _ => rfl) (fun c0 => ite_both (fun _ => rfl) (fun c1 => ite_both (fun _ => rfl) (fun c2 => ite_both (fun _ => rfl) (fun c3 => ite_both (fun _ => rfl) (fun c4 => ite_both (fun _ => rfl) (fun c5 => ite_both (fun _ => rfl) (fun c6 => ite_both (fun d => absurd d (by omega)) (fun _ => rfl))))))))⟩
def firstU (mb : Nat) : PU := ⟨1, -1, 0, 0, ptr mb 0 0, fun _ => 0, Sg.BS.init⟩
/-- the kernel as it begins -/
structure Begun (k : KP) (mb : Nat) : Prop where
  u : k.u = fset (fun _ => PU.nil) 0 (firstU mb)
def dK : Int → Nat := fset (fun _ => 0) (10 + 0) (0 + 1)
def Q1 : Fa.SF := Fa.SF.init.addT 0 0 100
def Q2 : Fa.SF := Q1.wake dK 0 true
theorem qA : Fa.SF.init.addTE 0 0 100 = 0 := by decide +kernel
theorem Q1_ok : Q1.Ok dK 1 0 := by
  have e : Q1 = Fa.SF.init.newU (10 + 0) 0 100 true := by unfold Q1 Fa.SF.addT; rw [qA]; rfl
  rw [e]
  exact Fa.SF.init_ok.add (by omega) ⟨by omega, by omega⟩ (by decide +kernel) ⟨by omega, by omega, by decide +kernel⟩ (by omega)
theorem Q2_ok : Q2.Ok dK 1 0 := Q1_ok.wake 0 true
theorem Q2_tick : (Q2.tick dK).1 = 0 := by decide +kernel
theorem Q2_ok' : (Q2.tick dK).2.Ok dK 1 1 := Q2_ok.tick (by omega) (by omega)
def G0 : Gr.TG := Gr.TG.init.charge 0 1 0
def S0 : Sp.SS := (Sp.SS.init.enter (fun _ => 1) 0 0).2.2

end Go.X.Kn

namespace Go.X.Vm
open Go Go.X
/-! ### vm: what the acts answer -/
theorem carved_len (l : List RG) (a n : Int) : (l.flatMap (cvR a n)).length ≤ 2 * l.length := by
  induction l with
  | nil => simp
  | cons r l ih => rw [List.flatMap_cons, List.length_append, List.length_cons]; have := cvR_len a n r; omega
theorem cut0_nil (f : Int → Int) : cut0 f [] = f := by funext i; simp [cut0]
theorem cutF_nil (f : Int → Bool) : cutF f [] = f := by funext i; simp [cutF]
theorem MS.unmap_bad {v : VB} {m : MS} {a n : Int} (hb : badS a n) : m.unmap v a n = (0, 1, v, m) := by unfold MS.unmap; rw [if_pos hb]
theorem MS.unmap_ok (v : VB) {m : MS} (hm : m.Ok) {a n : Int} (hb : ¬ badS a n) : m.unmap v a n = ((unL v m.fr (spanL (fun i => m.is_ i != 0) a n.toNat)).1, 0, (unL v m.fr (spanL (fun i => m.is_ i != 0) a n.toNat)).2, ⟨setI m.is_ a n 0, cut0 m.fr (spanL (fun i => m.is_ i != 0) a n.toNat), cutF m.own (spanL (fun i => m.is_ i != 0) a n.toNat)⟩) := by
  unfold MS.unmap
  have hb2 := hb
  unfold badS at hb2
  have hz : ∀ i, i ∉ spanL (fun i => m.is_ i != 0) a n.toNat → a ≤ i ∧ i < a + n → m.is_ i = 0 := fun i h1 h2 => by
    rw [mem_spanL] at h1
    by_cases c : m.is_ i = 0
    · exact c
    · exact absurd ⟨⟨h2.1, by omega⟩, by simp [c]⟩ h1
  have hs : ∀ i, i ∈ spanL (fun i => m.is_ i != 0) a n.toNat → a ≤ i ∧ i < a + n := fun i h => by
    have := (mem_spanL.1 h).1; omega
  have e1 : setI m.fr a n 0 = cut0 m.fr (spanL (fun i => m.is_ i != 0) a n.toNat) := by
    funext i; unfold setI cut0
    by_cases c : i ∈ spanL (fun i => m.is_ i != 0) a n.toNat
    · rw [if_pos c, if_pos (hs i c)]
    · rw [if_neg c]; split
      · rename_i d; exact (hm.un i (hz i c d)).symm
      · rfl
  have e2 : setI m.own a n false = cutF m.own (spanL (fun i => m.is_ i != 0) a n.toNat) := by
    funext i; unfold setI cutF
    by_cases c : i ∈ spanL (fun i => m.is_ i != 0) a n.toNat
    · rw [if_pos c, if_pos (hs i c)]
    · rw [if_neg c]; split
      · rename_i d; exact (hm.ow i (hm.un i (hz i c d))).symm
      · rfl
  rw [if_neg hb, unN_span v (p := fun i => m.is_ i != 0) (fun i h => hm.un i (by simpa using h)), e1, e2]
theorem MS.may_rng {m : MS} {a : Int} {w : Bool} (h : m.may a w = true) : 0 ≤ a ∧ a < 128 := by
  unfold MS.may at h
  simp at h
  exact h.1
theorem VB.take_rf {v : VB} (h : v.take.2.1 = 0) : v.take.2.2.rf = fset v.rf v.take.1 1 ∧ v.take.2.2.by_ = brow v.by_ v.take.1 (fun _ => 0) := by
  by_cases c : (v.bb.take 0).2.1 = 0
  · rw [VB.take_ok c]; exact ⟨rfl, rfl⟩
  · rw [VB.take_no c] at h; exact absurd h c
theorem VB.Ok.copy {v : VB} (h : v.Ok) (f g : Int) : (v.copy f g).Ok := ⟨h.bb, h.rf, fun x j => by
  show 0 ≤ brow v.by_ f (v.by_ g) x j ∧ brow v.by_ f (v.by_ g) x j < 256
  unfold brow; split
  · exact h.by_ g j
  · exact h.by_ x j⟩
theorem VB.take_rf1 {v : VB} (h : v.take.2.1 = 0) {f : Int} (hf : 1 < v.rf f) : 1 ≤ v.take.2.2.rf f := by
  rw [(VB.take_rf h).1]; unfold fset; split <;> omega
theorem MS.touch_no {v : VB} {m : MS} {a : Int} {w : Bool} (h : m.may a w = false) : m.touch v a w = (0, 10, v, m) := by unfold MS.touch; rw [if_pos h]
theorem MS.touch_new {v : VB} {m : MS} {a : Int} {w : Bool} (h : m.may a w = true) (h0 : m.fr (a / 8) = 0) (e : v.take.2.1 = 0) : m.touch v a w = (v.take.1, 0, v.take.2.2, m.page (a / 8) v.take.1) := by
  unfold MS.touch; rw [if_neg (by simp [h]), if_pos h0, if_neg (by omega)]
theorem MS.touch_newbad {v : VB} {m : MS} {a : Int} {w : Bool} (h : m.may a w = true) (h0 : m.fr (a / 8) = 0) (e : ¬ v.take.2.1 = 0) : m.touch v a w = (0, v.take.2.1, v, m) := by
  unfold MS.touch; rw [if_neg (by simp [h]), if_pos h0, if_pos e]
theorem MS.touch_old {v : VB} {m : MS} {a : Int} {w : Bool} (h : m.may a w = true) (h0 : ¬ m.fr (a / 8) = 0) (q : w = false ∨ m.own (a / 8) = true) : m.touch v a w = (m.fr (a / 8) - 1, 0, v, m) := by
  unfold MS.touch; rw [if_neg (by simp [h]), if_neg h0, if_pos q]
theorem MS.touch_one {v : VB} {m : MS} {a : Int} {w : Bool} (h : m.may a w = true) (h0 : ¬ m.fr (a / 8) = 0) (q : w = true) (q2 : m.own (a / 8) = false) (r : v.rf (m.fr (a / 8) - 1) ≤ 1) : m.touch v a w = (m.fr (a / 8) - 1, 0, v, { m with own := fset m.own (a / 8) true }) := by
  unfold MS.touch; rw [if_neg (by simp [h]), if_neg h0, if_neg (by simp [q, q2]), if_pos r]
theorem MS.touch_bad {v : VB} {m : MS} {a : Int} {w : Bool} (h : m.may a w = true) (h0 : ¬ m.fr (a / 8) = 0) (q : w = true) (q2 : m.own (a / 8) = false) (r : 1 < v.rf (m.fr (a / 8) - 1)) (e : ¬ v.take.2.1 = 0) : m.touch v a w = (0, v.take.2.1, v, m) := by
  unfold MS.touch; rw [if_neg (by simp [h]), if_neg h0, if_neg (by simp [q, q2]), if_neg (by omega), if_pos e]
theorem MS.touch_copy {v : VB} {m : MS} {a : Int} {w : Bool} (h : m.may a w = true) (h0 : ¬ m.fr (a / 8) = 0) (q : w = true) (q2 : m.own (a / 8) = false) (r : 1 < v.rf (m.fr (a / 8) - 1)) (e : v.take.2.1 = 0) : m.touch v a w = (v.take.1, 0, (v.take.2.2.copy v.take.1 (m.fr (a / 8) - 1)).drop (m.fr (a / 8) - 1), m.page (a / 8) v.take.1) := by
  unfold MS.touch; rw [if_neg (by simp [h]), if_neg h0, if_neg (by simp [q, q2]), if_neg (by omega), if_neg (by omega)]
/-- the ways of a touch -/
theorem MS.touch_cases (v : VB) (m : MS) (a : Int) (w : Bool) :
    (m.may a w = false ∧ m.touch v a w = (0, 10, v, m)) ∨ (m.may a w = true ∧
    ((¬ v.take.2.1 = 0 ∧ m.touch v a w = (0, v.take.2.1, v, m)) ∨
     (m.fr (a / 8) = 0 ∧ v.take.2.1 = 0 ∧ m.touch v a w = (v.take.1, 0, v.take.2.2, m.page (a / 8) v.take.1)) ∨
     (¬ m.fr (a / 8) = 0 ∧ (w = false ∨ m.own (a / 8) = true) ∧ m.touch v a w = (m.fr (a / 8) - 1, 0, v, m)) ∨
     (¬ m.fr (a / 8) = 0 ∧ v.rf (m.fr (a / 8) - 1) ≤ 1 ∧ w = true ∧ m.touch v a w = (m.fr (a / 8) - 1, 0, v, { m with own := fset m.own (a / 8) true })) ∨
     (¬ m.fr (a / 8) = 0 ∧ v.take.2.1 = 0 ∧ 1 < v.rf (m.fr (a / 8) - 1) ∧ w = true ∧ m.touch v a w = (v.take.1, 0, (v.take.2.2.copy v.take.1 (m.fr (a / 8) - 1)).drop (m.fr (a / 8) - 1), m.page (a / 8) v.take.1)))) := by
  cases h : m.may a w with
  | false => exact .inl ⟨rfl, MS.touch_no h⟩
  | true =>
    refine .inr ⟨rfl, ?_⟩
    by_cases h0 : m.fr (a / 8) = 0
    · by_cases e : v.take.2.1 = 0
      · exact .inr (.inl ⟨h0, e, MS.touch_new h h0 e⟩)
      · exact .inl ⟨e, MS.touch_newbad h h0 e⟩
    · by_cases q : w = false ∨ m.own (a / 8) = true
      · exact .inr (.inr (.inl ⟨h0, q, MS.touch_old h h0 q⟩))
      · have q1 : w = true := by cases w <;> simp_all
        have q2 : m.own (a / 8) = false := by simpa [q1] using q
        by_cases r : v.rf (m.fr (a / 8) - 1) ≤ 1
        · exact .inr (.inr (.inr (.inl ⟨h0, r, q1, MS.touch_one h h0 q1 q2 r⟩)))
        · by_cases e : v.take.2.1 = 0
          · exact .inr (.inr (.inr (.inr ⟨h0, e, by omega, q1, MS.touch_copy h h0 q1 q2 (by omega) e⟩)))
          · exact .inl ⟨e, MS.touch_bad h h0 q1 q2 (by omega) e⟩
theorem VB.Ok.touch {v : VB} {m : MS} (hv : v.Ok) (a : Int) (w : Bool) : (m.touch v a w).2.2.1.Ok := by
  rcases MS.touch_cases v m a w with ⟨_, e⟩ | ⟨_, ⟨_, e⟩ | ⟨_, _, e⟩ | ⟨_, _, e⟩ | ⟨_, _, _, e⟩ | ⟨_, q, r, _, e⟩⟩ <;> rw [e]
  · exact hv
  · exact hv
  · exact hv.take
  · exact hv
  · exact hv
  · exact (hv.take.copy _ _).drop (VB.take_rf1 q r)
theorem upN_le (rf fr : Int → Int) : ∀ (k : Nat) (g : Int), rf g ≤ upN rf fr k g ∧ upN rf fr k g ≤ rf g + k
  | 0, g => by simp [upN]
  | k + 1, g => by
    have := upN_le rf fr k g
    rw [upN]; split
    · unfold fset; split
      · rename_i c; subst c; omega
      · omega
    · omega
theorem upN_next {rf fr : Int → Int} {i : Int} (h : 0 ≤ i) : upN rf fr (i + 1).toNat = if 0 < fr i then fset (upN rf fr i.toNat) (fr i - 1) (upN rf fr i.toNat (fr i - 1) + 1) else upN rf fr i.toNat := by
  rw [show (i + 1).toNat = i.toNat + 1 from by omega, upN, show ((i.toNat : Nat) : Int) = i from by omega]
/-- up to i the new, from i on the old -/
def cutI {α : Type} (f g : Int → α) (i : Int) : Int → α := fun j => if 0 ≤ j ∧ j < i then f j else g j
theorem cutI_next {α : Type} {f g : Int → α} {i : Int} (h : 0 ≤ i) {v : α} (e : f i = v) : fset (cutI f g i) i v = cutI f g (i + 1) := by
  funext j
  unfold fset cutI
  by_cases c : j = i
  · rw [if_pos c, if_pos (by omega), c, e]
  · rw [if_neg c]
    by_cases d : 0 ≤ j ∧ j < i
    · rw [if_pos d, if_pos (by omega)]
    · rw [if_neg d, if_neg (by omega)]

theorem fset_self (f : Int → Bool) (i : Int) {v : Bool} (h : f i = v) : fset f i v = f := by
  funext j; unfold fset; split
  · rename_i c; rw [c, h]
  · rfl
theorem MS.load_bad {v : VB} {m : MS} {a : Int} (h : ¬ (m.touch v a false).2.1 = 0) : m.load v a = (0, (m.touch v a false).2.1, (m.touch v a false).2.2) := by unfold MS.load; exact if_pos h
theorem MS.load_ok {v : VB} {m : MS} {a : Int} (h : (m.touch v a false).2.1 = 0) : m.load v a = ((m.touch v a false).2.2.1.by_ (m.touch v a false).1 (a % 8), 0, (m.touch v a false).2.2) := by unfold MS.load; exact if_neg (by simp [h])
theorem MS.store_bad {v : VB} {m : MS} {a b : Int} (h : ¬ (m.touch v a true).2.1 = 0) : m.store v a b = ((m.touch v a true).2.1, (m.touch v a true).2.2) := by unfold MS.store; exact if_pos h
theorem MS.store_ok {v : VB} {m : MS} {a b : Int} (h : (m.touch v a true).2.1 = 0) : m.store v a b = (0, ⟨(m.touch v a true).2.2.1.bb, fset2 (m.touch v a true).2.2.1.by_ (m.touch v a true).1 (a % 8) b, (m.touch v a true).2.2.1.rf⟩, (m.touch v a true).2.2.2) := by unfold MS.store; exact if_neg (by simp [h])
theorem cutI_zero {α : Type} (f g : Int → α) : cutI f g 0 = g := by funext j; unfold cutI; rw [if_neg (by omega)]
def zNs (b : Nat) (p : Option Addr) (n c : Nat) : List Value := ptr b 0 0 :: .slice p n c :: (List.replicate 16 [Value.int .i64 0, Value.bool false]).flatten
theorem zNs_box (b : Nat) (p : Option Addr) (n c : Nat) : ∀ i, i < 34 → cellsOf (zNs b p n c).toArray i = encN b p n c (fun _ => 1) (fun _ => false) i := fun i hi => by
  unfold cellsOf zNs
  by_cases h1 : i = 1
  · subst h1; rfl
  · have e := zN_box b i hi
    unfold cellsOf zNl at e
    rw [Array.getD_eq_getD_getElem?, List.getElem?_toArray] at e ⊢
    have e2 : encN b none 0 0 (fun _ => 1) (fun _ => false) i = encN b p n c (fun _ => 1) (fun _ => false) i := by
      unfold encN; rw [if_neg h1, if_neg h1]
    rw [← e2, ← e]
    match i, h1 with
    | 0, _ => rfl
    | k + 2, _ => rfl
/-! ### the reference -/
theorem setI_none {α : Type} (f : Int → α) (a : Int) (v : α) : setI f a (a - a) v = f := by funext j; unfold setI; rw [if_neg (by omega)]
theorem setI_grow {α : Type} {f : Int → α} {a i : Int} {v u : α} (h : a ≤ i) (e : u = v) : fset (setI f a (i - a) v) i u = setI f a (i + 1 - a) v := by
  subst e
  funext j
  unfold fset setI
  by_cases c : j = i
  · rw [if_pos c, if_pos (by omega)]
  · rw [if_neg c]
    by_cases d : a ≤ j ∧ j < a + (i - a)
    · rw [if_pos d, if_pos (by omega)]
    · rw [if_neg d, if_neg (by omega)]
theorem fset_fset {α : Type} (f : Int → α) (i : Int) (u v : α) : fset (fset f i u) i v = fset f i v := by
  funext j; unfold fset; split <;> rfl
end Go.X.Vm
