import Derived.Test.YtmklfkjfgjagaaaOL
import Derived.Test.YtmklfkjfgjagaaaNMM
import Derived.Test.YtmklfkjfgjagaaaNRO
namespace Go.X
open Go
/-! ### two files, one of them open twice -/
namespace TF
abbrev nA : ByteArray := ⟨#[97]⟩
abbrev nB : ByteArray := ⟨#[98]⟩
abbrev oth : ByteArray := ⟨#[111, 116, 104, 101, 114]⟩
def F0 : FF := FF.void.plant
def F1 : FF := F0.make 0 nA 1
def F2 : FF := F1.make 0 nB 1
def F3 : FF := F2.hold 1
def F4 : FF := F3.hold 1
def F5 : FF := F4.hold 2
def F6 : FF := F5.remove 0 nA
def O1 : OS := OS.void.lay 0 1 1 true
def O2 : OS := O1.lay 1 1 1 false
def O3 : OS := O2.lay 2 1 2 true
def O4 : OS := shareO O3 0
theorem p0 : FF.void.plantE = 0 := by decide +kernel
theorem m1 : F0.makeE 0 nA 1 = 0 ∧ F0.makeV 0 nA 1 = 1 := by decide +kernel
theorem m2 : F1.makeE 0 nB 1 = 0 ∧ F1.makeV 0 nB 1 = 2 := by decide +kernel
theorem n1 : onodeE F2 OS.void 1 = 0 ∧ onodeV F2 OS.void 1 = 0 := by decide +kernel
theorem n2 : onodeE F3 O1 1 = 0 ∧ onodeV F3 O1 1 = 1 := by decide +kernel
theorem n3 : onodeE F4 O2 2 = 0 ∧ onodeV F4 O2 2 = 2 := by decide +kernel
theorem o1 : onodeO F2 OS.void 1 true = O1 ∧ onodeF F2 OS.void 1 = F3 := ⟨by unfold onodeO; rw [if_pos n1.1, show OS.void.first = 0 from by decide +kernel]; rfl, by unfold onodeF; rw [if_pos n1.1]; rfl⟩
theorem o2 : onodeO F3 O1 1 false = O2 ∧ onodeF F3 O1 1 = F4 := ⟨by unfold onodeO; rw [if_pos n2.1, show O1.first = 1 from by decide +kernel]; rfl, by unfold onodeF; rw [if_pos n2.1]; rfl⟩
theorem o3 : onodeO F4 O2 2 true = O3 ∧ onodeF F4 O2 2 = F5 := ⟨by unfold onodeO; rw [if_pos n3.1, show O2.first = 2 from by decide +kernel]; rfl, by unfold onodeF; rw [if_pos n3.1]; rfl⟩
theorem sh : O3.is 0 = 0 ∧ O4.opens = 3 := by decide +kernel
theorem okF : ∃ d1 d2 d3 : Int → Nat, F0.Ok d1 1 ∧ F1.Ok d2 2 ∧ F2.Ok d3 3 ∧ F3.Ok d3 4 ∧ F4.Ok d3 5 ∧ F5.Ok d3 6 ∧ F6.Ok d3 7 := by
  obtain ⟨d1, q1⟩ := FF.inv_void.plant
  obtain ⟨d2, q2⟩ := q1.make 0 nA 1
  obtain ⟨d3, q3⟩ := q2.make 0 nB 1
  have q4 := q3.hold 1
  have q5 := q4.hold 1
  have q6 := q5.hold 2
  have q7 := q6.remove 0 nA
  exact ⟨d1, d2, d3, q1, q2, q3, q4, q5, q6, q7⟩
theorem Sh.data {s : FF} (h : s.Sh) (f : Int → ByteArray) (hf : ∀ n, 0 ≤ n → n < 40 → (f n).size ≤ 40) : FF.Sh { s with data := f } := ⟨h.rise, h.kids, hf, h.roots, h.num⟩
def dat (all db : ByteArray) : Int → ByteArray := fset (fset (fun _ => ByteArray.empty) 1 all) 2 db
/-- the forest, as they write; when the name is gone; when one of two holds it no more; when none does -/
def fF (all db : ByteArray) : FF := { F5 with data := dat all db }
def gF (all db : ByteArray) : FF := { F6 with data := dat all db }
def hF (all db : ByteArray) : FF := { gF all db with held := fset F6.held 1 1 }
def iF (all db : ByteArray) : FF := ({ hF all db with held := fset (fset F6.held 1 1) 1 0 } : FF).setN 1 0 0 0 0
theorem dat_le {all db : ByteArray} (h1 : all.size ≤ 40) (h2 : db.size ≤ 40) (n : Int) : (dat all db n).size ≤ 40 := by
  unfold dat fset
  split
  · exact h2
  · split
    · exact h1
    · simp
theorem dat_1 (all db : ByteArray) : dat all db 1 = all := by unfold dat; rw [fset_ne _ _ (by omega), fset_eq]
theorem dat_2 (all db : ByteArray) : dat all db 2 = db := by unfold dat; rw [fset_eq]
theorem dat_set1 (all db x : ByteArray) : fset (dat all db) 1 x = dat x db := by
  funext n
  unfold dat fset
  by_cases a : n = 1
  · subst a; simp
  · by_cases b : n = 2
    · subst b; simp
    · simp [a, b]
theorem dat_set2 (all db x : ByteArray) : fset (dat all db) 2 x = dat all x := by
  funext n
  unfold dat fset
  by_cases b : n = 2
  · subst b; simp
  · simp [b]
theorem make_data {s : FF} (h : s.data = fun _ => ByteArray.empty) (n : Int) (x : ByteArray) (k : Int) : (s.make n x k).data = fun _ => ByteArray.empty := by
  unfold FF.make; split
  · funext j
    show fset s.data _ _ j = _
    rw [h]; unfold fset; split <;> rfl
  · exact h
theorem hold_data {s : FF} (h : s.data = fun _ => ByteArray.empty) (n : Int) : (s.hold n).data = fun _ => ByteArray.empty := by
  unfold FF.hold; split <;> exact h
theorem F0_data : F0.data = fun _ => ByteArray.empty := by
  unfold F0 FF.plant; split
  · funext j
    show fset (fun _ => ByteArray.empty) _ _ j = _
    unfold fset; split <;> rfl
  · rfl
theorem goneF_no {s : FF} {n : Int} (h : ¬ (s.links n = 0 ∧ s.held n = 0)) : s.goneF n = s := by unfold FF.goneF; rw [if_neg h]
theorem goneF_yes {s : FF} {n : Int} (h : s.links n = 0 ∧ s.held n = 0) : s.goneF n = s.setN n 0 0 0 0 := by unfold FF.goneF; rw [if_pos h]
theorem F5_data : F5 = fF ByteArray.empty ByteArray.empty := by
  have e : F5.data = dat ByteArray.empty ByteArray.empty := by
    have h5 : F5.data = fun _ => ByteArray.empty := hold_data (hold_data (hold_data (make_data (make_data F0_data 0 nA 1) 0 nB 1) 1) 1) 2
    rw [h5]
    funext n
    unfold dat fset
    (repeat' split) <;> rfl
  unfold fF
  rw [← e]
theorem fF_sh {all db : ByteArray} (h1 : all.size ≤ 40) (h2 : db.size ≤ 40) : (fF all db).Sh := by
  obtain ⟨_, _, _, _, _, _, _, _, q, _⟩ := okF
  exact Sh.data (q.sh (by omega)) _ (fun n _ _ => dat_le h1 h2 n)
theorem gF_sh {all db : ByteArray} (h1 : all.size ≤ 40) (h2 : db.size ≤ 40) : (gF all db).Sh := by
  obtain ⟨_, _, _, _, _, _, _, _, _, q⟩ := okF
  exact Sh.data (q.sh (by omega)) _ (fun n _ _ => dat_le h1 h2 n)
theorem hF_sh {all db : ByteArray} (h1 : all.size ≤ 40) (h2 : db.size ≤ 40) : (hF all db).Sh := by
  have h := gF_sh h1 h2
  refine ⟨h.rise, h.kids, h.data, h.roots, fun n a b => ?_⟩
  have q := h.num n a b
  show _ ∧ _ ∧ 0 ≤ fset F6.held 1 1 n ∧ fset F6.held 1 1 n ≤ 1000000
  refine ⟨q.1, q.2.1, ?_⟩
  unfold fset
  split
  · omega
  · exact q.2.2
theorem rem (all db : ByteArray) : (fF all db).removeE 0 nA = 0 ∧ (fF all db).remove 0 nA = gF all db := by
  have e1 : (fF all db).findE 0 nA = 0 := show F5.findE 0 nA = 0 from by decide +kernel
  have e2 : (fF all db).findV 0 nA = 1 := show F5.findV 0 nA = 1 from by decide +kernel
  have e3 : ¬ (fF all db).busy 1 := show ¬ F5.busy 1 from by decide +kernel
  have e : (fF all db).removeE 0 nA = 0 := by unfold FF.removeE; rw [if_neg (by omega), e2, if_neg e3]
  have f1 : F5.findV 0 nA = 1 := by decide +kernel
  have f : F5.removeE 0 nA = 0 := by decide +kernel
  refine ⟨e, ?_⟩
  have g : F6 = { F5.cutF 0 nA with links := fset F5.links 1 (F5.links 1 - 1) } := by
    unfold F6 FF.remove
    rw [if_pos f, f1]
    exact goneF_no (by decide +kernel)
  unfold FF.remove
  rw [if_pos e, e2]
  refine (goneF_no ?_).trans ?_
  · exact (show ¬ (fset F5.links 1 (F5.links 1 - 1) 1 = 0 ∧ F5.held 1 = 0) from by decide +kernel)
  unfold gF
  rw [g]
  rfl
theorem let1 (all db : ByteArray) : (gF all db).letE 1 = 0 ∧ (gF all db).letF 1 = hF all db := by
  have e : (gF all db).letE 1 = 0 := show F6.letE 1 = 0 from by decide +kernel
  refine ⟨e, ?_⟩
  unfold FF.letF
  rw [if_pos e]
  refine (goneF_no ?_).trans ?_
  · exact (show ¬ (F6.links 1 = 0 ∧ fset F6.held 1 (F6.held 1 - 1) 1 = 0) from by decide +kernel)
  rw [show (gF all db).held 1 - 1 = 1 from show F6.held 1 - 1 = 1 from by decide +kernel]
  rfl
theorem let2 (all db : ByteArray) : (hF all db).letE 1 = 0 ∧ (hF all db).letF 1 = iF all db := by
  have e : (hF all db).letE 1 = 0 := show FF.letE { F6 with held := fset F6.held 1 1 } 1 = 0 from by decide +kernel
  refine ⟨e, ?_⟩
  unfold FF.letF
  rw [if_pos e]
  rw [show (hF all db).held 1 - 1 = 0 from show fset F6.held 1 1 1 - 1 = 0 from by decide +kernel]
  refine (goneF_yes ?_).trans ?_
  · exact (show F6.links 1 = 0 ∧ fset (fset F6.held 1 1) 1 0 1 = 0 from by decide +kernel)
  rfl
theorem nodes_g (all db : ByteArray) : (gF all db).nodes = 3 := (FF.nodes_congr (s := F6) rfl).trans (by decide +kernel)
theorem nodes_i (all db : ByteArray) : (iF all db).nodes = 2 := (FF.nodes_congr (s := F6.setN 1 0 0 0 0) rfl).trans (by decide +kernel)
/-- what is open -/
def oO (r a0 a1 a2 : Int) : OS := { O4 with refs := fset O4.refs 0 r, at_ := fset (fset (fset (fun _ => 0) 0 a0) 1 a1) 2 a2 }
theorem O4_oO : O4 = oO 2 0 0 0 := by
  have e1 : O4.refs = fset O4.refs 0 2 := (fset_same _ (by decide +kernel)).symm
  have e2 : O4.at_ = fset (fset (fset (fun _ => 0) 0 0) 1 0) 2 0 := by
    have : O4.at_ = O3.at_ := by unfold O4 shareO; rw [if_pos sh.1]
    rw [this]
    funext n
    show fset (fset (fset (fun _ => 0) 0 0) 1 0) 2 0 n = _
    rfl
  unfold oO
  rw [← e1, ← e2]
theorem oO_at (r a0 a1 a2 : Int) : (oO r a0 a1 a2).at_ = fset (fset (fset (fun _ => 0) 0 a0) 1 a1) 2 a2 := rfl
theorem oO_refs (r a0 a1 a2 : Int) : (oO r a0 a1 a2).refs = fset O4.refs 0 r := rfl
theorem at_ (r a0 a1 a2 : Int) : (oO r a0 a1 a2).at_ 0 = a0 ∧ (oO r a0 a1 a2).at_ 1 = a1 ∧ (oO r a0 a1 a2).at_ 2 = a2 := by
  rw [oO_at]
  refine ⟨?_, ?_, ?_⟩ <;> simp [fset]
theorem ref (r a0 a1 a2 : Int) : (oO r a0 a1 a2).refs 0 = r ∧ (oO r a0 a1 a2).refs 1 = 1 ∧ (oO r a0 a1 a2).refs 2 = 1 := by
  rw [oO_refs]
  refine ⟨fset_eq _ _ _, ?_, ?_⟩ <;> (rw [fset_ne _ _ (by omega)]; decide +kernel)
theorem is_ {r : Int} (hr : r ≠ 0) (a0 a1 a2 : Int) : (oO r a0 a1 a2).is 0 = 0 ∧ (oO r a0 a1 a2).is 1 = 0 ∧ (oO r a0 a1 a2).is 2 = 0 := by
  obtain ⟨q0, q1, q2⟩ := ref r a0 a1 a2
  unfold OS.is
  rw [q0, q1, q2]
  exact ⟨by rw [if_neg (by omega), if_neg hr], by rw [if_neg (by omega), if_neg (by omega)], by rw [if_neg (by omega), if_neg (by omega)]⟩
theorem knd (r a0 a1 a2 : Int) : (oO r a0 a1 a2).kind 0 = 1 ∧ (oO r a0 a1 a2).kind 1 = 1 ∧ (oO r a0 a1 a2).kind 2 = 1 ∧ (oO r a0 a1 a2).n 0 = 1 ∧ (oO r a0 a1 a2).n 1 = 1 ∧ (oO r a0 a1 a2).n 2 = 2 ∧ (oO r a0 a1 a2).write 0 = true ∧ (oO r a0 a1 a2).write 2 = true :=
  show O4.kind 0 = 1 ∧ O4.kind 1 = 1 ∧ O4.kind 2 = 1 ∧ O4.n 0 = 1 ∧ O4.n 1 = 1 ∧ O4.n 2 = 2 ∧ O4.write 0 = true ∧ O4.write 2 = true from by decide +kernel
theorem inv3 (s : OS) (hr : ∀ n, 0 ≤ n → n < 24 → 0 ≤ s.refs n ∧ s.refs n ≤ 5) (ha : ∀ n, 0 ≤ n → n < 24 → 0 ≤ s.at_ n ∧ s.at_ n ≤ 40) (hk : ∀ n, 0 ≤ n → n < 24 → s.refs n ≠ 0 → s.kind n = 1) (hw : ∀ n, 0 ≤ n → n < 24 → s.kind n ≠ 1 → s.write n = false) : s.Inv 5 :=
  ⟨hr, ha, fun n a b c => .inl (hk n a b c), hw⟩
theorem O4_all : ∀ n : Nat, n < 24 → (0 ≤ O4.refs n ∧ O4.refs n ≤ 5) ∧ (O4.refs n ≠ 0 → O4.kind n = 1) ∧ (O4.kind n ≠ 1 → O4.write n = false) := by decide +kernel
theorem O4_at (n : Int) (a : 0 ≤ n) (b : n < 24) : (0 ≤ O4.refs n ∧ O4.refs n ≤ 5) ∧ (O4.refs n ≠ 0 → O4.kind n = 1) ∧ (O4.kind n ≠ 1 → O4.write n = false) := by
  have := O4_all n.toNat (by omega)
  rw [show ((n.toNat : Nat) : Int) = n by omega] at this
  exact this
theorem oO_inv {r a0 a1 a2 : Int} (hr : 0 ≤ r ∧ r ≤ 2) (h0 : 0 ≤ a0 ∧ a0 ≤ 40) (h1 : 0 ≤ a1 ∧ a1 ≤ 40) (h2 : 0 ≤ a2 ∧ a2 ≤ 40) : (oO r a0 a1 a2).Inv 5 := by
  refine inv3 _ (fun n a b => ?_) (fun n a b => ?_) (fun n a b c => ?_) (fun n a b => (O4_at n a b).2.2)
  · show 0 ≤ fset O4.refs 0 r n ∧ fset O4.refs 0 r n ≤ 5
    unfold fset; split
    · omega
    · exact (O4_at n a b).1
  · show 0 ≤ fset (fset (fset (fun _ => 0) 0 a0) 1 a1) 2 a2 n ∧ fset (fset (fset (fun _ => 0) 0 a0) 1 a1) 2 a2 n ≤ 40
    unfold fset; split
    · exact h2
    · split
      · exact h1
      · split
        · exact h0
        · exact (show (0 : Int) ≤ 0 ∧ (0 : Int) ≤ 40 from by decide)
  · have c2 : fset O4.refs 0 r n ≠ 0 := c
    by_cases e : n = 0
    · subst e; exact (show O4.kind 0 = 1 from by decide +kernel)
    · rw [fset_ne _ _ e] at c2; exact (O4_at n a b).2.1 c2
theorem clr_inv {s : OS} {J : Int} (h : s.Inv J) (hJ : 0 ≤ J) (z : Int) : (s.clr z).Inv J := by
  refine ⟨fun n a b => ?_, fun n a b => ?_, fun n a b c => ?_, fun n a b c => ?_⟩
  · show 0 ≤ fset s.refs z 0 n ∧ fset s.refs z 0 n ≤ J
    unfold fset; split
    · omega
    · exact h.refs n a b
  · show 0 ≤ fset s.at_ z 0 n ∧ fset s.at_ z 0 n ≤ 40
    unfold fset; split
    · omega
    · exact h.at_ n a b
  · have c2 : fset s.refs z 0 n ≠ 0 := c
    show fset s.kind z 0 n = 1 ∨ fset s.kind z 0 n = 2 ∨ fset s.kind z 0 n = 3
    by_cases e : n = z
    · subst e; rw [fset_eq] at c2; exact absurd rfl c2
    · rw [fset_ne _ _ e] at c2 ⊢; exact h.kind n a b c2
  · have c2 : fset s.kind z 0 n ≠ 1 := c
    show fset s.write z false n = false
    unfold fset; split
    · rfl
    · rename_i e; rw [fset_ne _ _ e] at c2; exact h.write n a b c2
theorem wrB_app (d x : ByteArray) : wrB d d.size x = d ++ x := by
  refine ByteArray.ext_getElem (by rw [FF.wrB_size, ByteArray.size_append]; omega) (fun i hi hi2 => ?_)
  rw [FF.wrB_size] at hi
  rw [wrB_at]
  by_cases c : i < d.size
  · rw [if_neg (by omega), if_pos c, ByteArray.getElem_append_left c, get_at c]
  · rw [if_pos (by omega), ByteArray.getElem_append_right (by omega), get_at (by omega)]
theorem writeE_1 (all db : ByteArray) (a : Int) (ha : 0 ≤ a) (x : ByteArray) : (fF all db).writeE 1 a x = if 40 < a ∨ 40 - a < (x.size : Int) then 4 else 0 := by
  have e : (fF all db).isE 1 1 = 0 := show F5.isE 1 1 = 0 from by decide +kernel
  unfold FF.writeE
  rw [if_neg (by omega), if_neg (by omega)]
theorem writeE_2 (all db : ByteArray) (a : Int) (ha : 0 ≤ a) (x : ByteArray) : (fF all db).writeE 2 a x = if 40 < a ∨ 40 - a < (x.size : Int) then 4 else 0 := by
  have e : (fF all db).isE 2 1 = 0 := show F5.isE 2 1 = 0 from by decide +kernel
  unfold FF.writeE
  rw [if_neg (by omega), if_neg (by omega)]
theorem empty_app (d : ByteArray) : d ++ ByteArray.empty = d := append_nil d
/-- a part is written -/
theorem w1 (all db x : ByteArray) (r a1 a2 : Int) (hr : r ≠ 0) (ha : all.size ≤ 40) (P : PS) :
    owriteP P (oO r all.size a1 a2) 0 x = P ∧
    (((all.size + x.size ≤ 40 ∧ owriteE (fF all db) P (oO r all.size a1 a2) 0 x = 0 ∧ owriteV (fF all db) P (oO r all.size a1 a2) 0 x = x.size ∧ owriteF (fF all db) (oO r all.size a1 a2) 0 x = fF (all ++ x) db ∧ owriteO (fF all db) (oO r all.size a1 a2) 0 x = oO r ((all ++ x).size) a1 a2)) ∨
      (owriteE (fF all db) P (oO r all.size a1 a2) 0 x = 4 ∧ owriteF (fF all db) (oO r all.size a1 a2) 0 x = fF all db ∧ owriteO (fF all db) (oO r all.size a1 a2) 0 x = oO r all.size a1 a2)) := by
  obtain ⟨k0, _, _, k3, _, _, k6, _⟩ := knd r all.size a1 a2
  obtain ⟨i0, _, _⟩ := is_ hr all.size a1 a2
  obtain ⟨t0, _, _⟩ := at_ r all.size a1 a2
  have hfw : fileW (oO r all.size a1 a2) 0 := ⟨i0, by omega, fun h => by rcases h with h | h; omega; rw [k6] at h; cases h⟩
  have hE := writeE_1 all db all.size (by omega) x
  refine ⟨by unfold owriteP; rw [if_neg (by omega)], ?_⟩
  by_cases c : all.size + x.size ≤ 40
  · left
    have hE0 : (fF all db).writeE 1 all.size x = 0 := by rw [hE, if_neg (by omega)]
    refine ⟨c, ?_, ?_, ?_, ?_⟩
    · unfold owriteE; rw [if_neg (by omega), if_neg (by omega), if_neg hfw.2.2, k3, t0, hE0]
    · unfold owriteV; rw [if_neg (by omega), k3, t0, if_pos ⟨hfw, hE0⟩]
    · unfold owriteF; rw [if_pos hfw, k3, t0]
      unfold FF.write
      by_cases e : x = ByteArray.empty
      · rw [if_neg (fun q => q.2 e), e, empty_app]
      · rw [if_pos ⟨hE0, e⟩]
        show ({ F5 with data := fset (dat all db) 1 (wrB (dat all db 1) _ x) } : FF) = { F5 with data := dat (all ++ x) db }
        rw [dat_1, dat_set1, show ((all.size : Int)).toNat = all.size by omega, wrB_app]
    · unfold owriteO; rw [k3, t0, if_pos ⟨hfw, hE0⟩]
      unfold OS.move
      rw [t0]
      have : fset (oO r all.size a1 a2).at_ 0 ((all.size : Int) + x.size) = fset (fset (fset (fun _ => 0) 0 (((all ++ x).size : Nat) : Int)) 1 a1) 2 a2 := by
        funext n
        show fset (fset (fset (fset (fun _ => 0) 0 _) 1 a1) 2 a2) 0 _ n = _
        rw [ByteArray.size_append]
        unfold fset
        by_cases e : n = 0
        · subst e; simp
        · simp [e]
      rw [this]; rfl
  · right
    have hE4 : (fF all db).writeE 1 all.size x = 4 := by rw [hE, if_pos (by omega)]
    refine ⟨?_, ?_, ?_⟩
    · unfold owriteE; rw [if_neg (by omega), if_neg (by omega), if_neg hfw.2.2, k3, t0, hE4]
    · unfold owriteF; rw [if_pos hfw, k3, t0]; unfold FF.write; rw [if_neg (fun q => by omega)]
    · unfold owriteO; rw [k3, t0, if_neg (fun q => by omega)]
/-- the other file is written -/
theorem w2 (all db : ByteArray) (r a0 a1 a2 : Int) (hr : r ≠ 0) (h2 : 0 ≤ a2 ∧ a2 ≤ 40) (hd : db.size ≤ 40) (P : PS) :
    owriteP P (oO r a0 a1 a2) 2 oth = P ∧ ∃ db' b2, db'.size ≤ 40 ∧ 0 ≤ b2 ∧ b2 ≤ 40 ∧ owriteF (fF all db) (oO r a0 a1 a2) 2 oth = fF all db' ∧ owriteO (fF all db) (oO r a0 a1 a2) 2 oth = oO r a0 a1 b2 := by
  obtain ⟨_, _, k2, _, _, k5, _, k7⟩ := knd r a0 a1 a2
  obtain ⟨_, _, i2⟩ := is_ hr a0 a1 a2
  obtain ⟨_, _, t2⟩ := at_ r a0 a1 a2
  have hfw : fileW (oO r a0 a1 a2) 2 := ⟨i2, by omega, fun h => by rcases h with h | h; omega; rw [k7] at h; cases h⟩
  have hE := writeE_2 all db a2 h2.1 oth
  refine ⟨by unfold owriteP; rw [if_neg (by omega)], ?_⟩
  by_cases c : a2 + 5 ≤ 40
  · have hE0 : (fF all db).writeE 2 a2 oth = 0 := by rw [hE, if_neg (by show ¬ (40 < a2 ∨ 40 - a2 < 5); omega)]
    refine ⟨wrB db a2.toNat oth, a2 + 5, by rw [FF.wrB_size]; show max db.size (a2.toNat + 5) ≤ 40; omega, by omega, c, ?_, ?_⟩
    · unfold owriteF; rw [if_pos hfw, k5, t2]
      unfold FF.write
      rw [if_pos ⟨hE0, by decide⟩]
      show ({ F5 with data := fset (dat all db) 2 (wrB (dat all db 2) a2.toNat oth) } : FF) = { F5 with data := dat all (wrB db a2.toNat oth) }
      rw [dat_2, dat_set2]
    · unfold owriteO; rw [k5, t2, if_pos ⟨hfw, hE0⟩]
      unfold OS.move
      rw [t2]
      have : fset (oO r a0 a1 a2).at_ 2 (a2 + oth.size) = fset (fset (fset (fun _ => 0) 0 a0) 1 a1) 2 (a2 + 5) := by
        show fset (fset (fset (fset (fun _ => 0) 0 a0) 1 a1) 2 a2) 2 (a2 + 5) = _
        rw [FF.fset_fset]
      rw [this]; rfl
  · have hE4 : (fF all db).writeE 2 a2 oth = 4 := by rw [hE, if_pos (by show (40 < a2 ∨ 40 - a2 < 5); omega)]
    refine ⟨db, a2, hd, h2.1, h2.2, ?_, ?_⟩
    · unfold owriteF; rw [if_pos hfw, k5, t2]; unfold FF.write; rw [if_neg (fun q => by omega)]
    · unfold owriteO; rw [k5, t2, if_neg (fun q => by omega)]
/-- who has it in common lets it go -/
theorem c1 (F : FF) (P : PS) (a0 a1 a2 : Int) : closeE F P (oO 2 a0 a1 a2) 0 = 0 ∧ closeF F (oO 2 a0 a1 a2) 0 = F ∧ closeP P (oO 2 a0 a1 a2) 0 = P ∧ closeO (oO 2 a0 a1 a2) 0 = oO 1 a0 a1 a2 := by
  obtain ⟨i0, _, _⟩ := is_ (r := 2) (by omega) a0 a1 a2
  obtain ⟨q0, _, _⟩ := ref 2 a0 a1 a2
  have hg : 0 < (oO 2 a0 a1 a2).refs 0 - 1 := by omega
  have hn : ¬ lastC (oO 2 a0 a1 a2) 0 := fun h => h.2 hg
  refine ⟨by unfold closeE; rw [if_neg (by omega), if_pos hg], by unfold closeF; rw [if_neg (fun h => hn h.1)], by unfold closeP; rw [if_neg (fun h => hn h.1)], ?_⟩
  unfold closeO
  rw [if_neg (by omega), if_pos hg]
  unfold downO
  rw [q0]
  show ({ oO 2 a0 a1 a2 with refs := fset (fset O4.refs 0 2) 0 (2 - 1) } : OS) = _
  rw [FF.fset_fset]
  rfl
theorem last {F : FF} {P : PS} {s : OS} {n : Int} (i0 : s.is n = 0) (hr : s.refs n = 1) (hk : s.kind n = 1) (hn : s.n n = 1) : closeE F P s n = F.letE 1 ∧ closeF F s n = F.letF 1 ∧ closeP P s n = P ∧ closeO s n = s.clr n := by
  have hg : ¬ 0 < s.refs n - 1 := by omega
  refine ⟨?_, ?_, ?_, ?_⟩
  · unfold closeE; rw [if_neg (by omega), if_neg hg, if_pos hk, hn]
  · unfold closeF; rw [if_pos ⟨⟨i0, hg⟩, hk⟩, hn]
  · unfold closeP; rw [if_neg (fun h => h.2 hk)]
  · unfold closeO; rw [if_neg (by omega), if_neg hg]
theorem clr_other (s : OS) {z n : Int} (h : n ≠ z) : (s.clr z).is n = s.is n ∧ (s.clr z).refs n = s.refs n ∧ (s.clr z).kind n = s.kind n ∧ (s.clr z).n n = s.n n := by
  have e : (s.clr z).refs n = s.refs n := fset_ne _ _ h
  exact ⟨by unfold OS.is; rw [e], e, fset_ne _ _ h, fset_ne _ _ h⟩
theorem c1' (F : FF) (P : PS) (a0 a1 a2 : Int) : closeE F P ((oO 2 a0 a1 a2).clr 1) 0 = 0 ∧ closeF F ((oO 2 a0 a1 a2).clr 1) 0 = F ∧ closeP P ((oO 2 a0 a1 a2).clr 1) 0 = P ∧ closeO ((oO 2 a0 a1 a2).clr 1) 0 = (oO 1 a0 a1 a2).clr 1 := by
  obtain ⟨i0, _, _⟩ := is_ (r := 2) (by omega) a0 a1 a2
  obtain ⟨q0, _, _⟩ := ref 2 a0 a1 a2
  obtain ⟨e1, e2, e3, e4⟩ := clr_other (oO 2 a0 a1 a2) (z := 1) (n := 0) (by omega)
  have hg : 0 < ((oO 2 a0 a1 a2).clr 1).refs 0 - 1 := by omega
  have hn : ¬ lastC ((oO 2 a0 a1 a2).clr 1) 0 := fun h => h.2 hg
  refine ⟨by unfold closeE; rw [if_neg (by omega), if_pos hg], by unfold closeF; rw [if_neg (fun h => hn h.1)], by unfold closeP; rw [if_neg (fun h => hn h.1)], ?_⟩
  unfold closeO
  rw [if_neg (by omega), if_pos hg]
  unfold downO
  rw [e2, q0]
  unfold OS.clr
  congr 1
  show fset (fset (fset O4.refs 0 2) 1 0) 0 (2 - 1) = fset (fset O4.refs 0 1) 1 0
  funext n
  unfold fset
  by_cases e : n = 0
  · subst e; simp
  · simp [e]
theorem opens_end (a0 a1 a2 : Int) : (((oO 1 a0 a1 a2).clr 1).clr 0).opens = 1 := by
  have e : ∀ k, (((oO 1 a0 a1 a2).clr 1).clr 0).cntT k = OS.cntT ((O4.clr 1).clr 0) k := fun k => by
    induction k with
    | zero => rfl
    | succ k ih =>
      unfold OS.cntT
      rw [ih]
      congr 2
      show (0 < fset (fset (fset O4.refs 0 1) 1 0) 0 0 (k : Int)) = (0 < fset (fset O4.refs 1 0) 0 0 (k : Int))
      unfold fset
      by_cases c : (k : Int) = 0
      · simp [c]
      · have c2 : ¬ k = 0 := by omega
        simp [c2]
  unfold OS.opens
  rw [e]
  decide +kernel
theorem O3_all : ∀ n : Nat, n < 24 → (0 ≤ O3.refs n ∧ O3.refs n ≤ 5) ∧ (0 ≤ O3.at_ n ∧ O3.at_ n ≤ 40) ∧ (O3.refs n ≠ 0 → O3.kind n = 1) ∧ (O3.kind n ≠ 1 → O3.write n = false) := by decide +kernel
theorem O3_inv : O3.Inv 5 := by
  have h : ∀ n : Int, 0 ≤ n → n < 24 → _ := fun n a b => O3_all n.toNat (by omega)
  refine inv3 _ (fun n a b => ?_) (fun n a b => ?_) (fun n a b => ?_) (fun n a b => ?_)
  · have := (h n a b).1; rwa [show ((n.toNat : Nat) : Int) = n by omega] at this
  · have := (h n a b).2.1; rwa [show ((n.toNat : Nat) : Int) = n by omega] at this
  · have := (h n a b).2.2.1; rwa [show ((n.toNat : Nat) : Int) = n by omega] at this
  · have := (h n a b).2.2.2; rwa [show ((n.toNat : Nat) : Int) = n by omega] at this
theorem share4 : shareO O3 0 = oO 2 0 0 0 := O4_oO
theorem opens4 : (oO 2 0 0 0).opens = 3 := by rw [← O4_oO]; exact sh.2
/-- both ends are closed -/
theorem e1 (all db : ByteArray) (r a0 g a2 : Int) (hr : r ≠ 0) (P : PS) : closeE (gF all db) P (oO r a0 g a2) 1 = 0 ∧ closeF (gF all db) (oO r a0 g a2) 1 = hF all db ∧ closeP P (oO r a0 g a2) 1 = P ∧ closeO (oO r a0 g a2) 1 = (oO r a0 g a2).clr 1 := by
  obtain ⟨_, k1, _, _, k4, _⟩ := knd r a0 g a2
  obtain ⟨_, i1, _⟩ := is_ hr a0 g a2
  obtain ⟨_, q1, _⟩ := ref r a0 g a2
  obtain ⟨h1, h2, h3, h4⟩ := last (F := gF all db) (P := P) i1 q1 k1 k4
  exact ⟨h1.trans (let1 all db).1, h2.trans (let1 all db).2, h3, h4⟩
theorem e2 (all db : ByteArray) (a0 g a2 : Int) (P : PS) : closeE (hF all db) P ((oO 1 a0 g a2).clr 1) 0 = 0 ∧ closeF (hF all db) ((oO 1 a0 g a2).clr 1) 0 = iF all db ∧ closeP P ((oO 1 a0 g a2).clr 1) 0 = P ∧ closeO ((oO 1 a0 g a2).clr 1) 0 = ((oO 1 a0 g a2).clr 1).clr 0 := by
  obtain ⟨k0, _, _, k3, _⟩ := knd 1 a0 g a2
  obtain ⟨i0, _, _⟩ := is_ (r := 1) (by omega) a0 g a2
  obtain ⟨q0, _, _⟩ := ref 1 a0 g a2
  obtain ⟨x1, x2, x3, x4⟩ := clr_other (oO 1 a0 g a2) (z := 1) (n := 0) (by omega)
  obtain ⟨h1, h2, h3, h4⟩ := last (F := hF all db) (P := P) (x1.trans i0) (x2.trans q0) (x3.trans k0) (x4.trans k3)
  exact ⟨h1.trans (let2 all db).1, h2.trans (let2 all db).2, h3, h4⟩
theorem e3 (all db : ByteArray) (r a0 g a2 : Int) (hr : r = 1 ∨ r = 2) (P : PS) : closeE (hF all db) P ((oO r a0 g a2).clr 1) 0 = 0 ∧ closeP P ((oO r a0 g a2).clr 1) 0 = P := by
  rcases hr with rfl | rfl
  · exact ⟨(e2 all db a0 g a2 P).1, (e2 all db a0 g a2 P).2.2.1⟩
  · exact ⟨(c1' (hF all db) P a0 g a2).1, (c1' (hF all db) P a0 g a2).2.2.1⟩
theorem got_next (all : ByteArray) (g k : Int) (h : 0 ≤ g ∧ g ≤ all.size) (hk : 0 ≤ k ∧ g + k ≤ all.size) : all.extract 0 g.toNat ++ all.extract g.toNat (g + k).toNat = all.extract 0 (g + k).toNat := by
  rw [ByteArray.extract_append_extract, Nat.min_eq_left (by omega), Nat.max_eq_right (by omega)]
theorem extract_all (all : ByteArray) (g : Int) (h : g.toNat = all.size) : all.extract 0 g.toNat = all := by
  rw [h, ByteArray.extract_zero_size]
/-- some of it is read -/
theorem r1 (all db : ByteArray) (r a0 g a2 m : Int) (hr : r ≠ 0) (hg : 0 ≤ g ∧ g ≤ all.size) (P : PS) : oreadP P (oO r a0 g a2) 1 m = P ∧
    ((m < 0 ∧ oreadE (gF all db) P (oO r a0 g a2) 1 m ≠ 0 ∧ oreadV (gF all db) P (oO r a0 g a2) 1 m = ByteArray.empty ∧ oreadO (gF all db) (oO r a0 g a2) 1 m = oO r a0 g a2) ∨
     (0 ≤ m ∧ oreadE (gF all db) P (oO r a0 g a2) 1 m = 0 ∧ oreadV (gF all db) P (oO r a0 g a2) 1 m = all.extract g.toNat (g + min m (all.size - g)).toNat ∧ oreadO (gF all db) (oO r a0 g a2) 1 m = oO r a0 (g + min m (all.size - g)) a2)) := by
  obtain ⟨_, k1, _, _, k4, _⟩ := knd r a0 g a2
  obtain ⟨_, i1, _⟩ := is_ hr a0 g a2
  obtain ⟨_, t1, _⟩ := at_ r a0 g a2
  have hE : (gF all db).readE 1 g m = if g < 0 ∨ m < 0 then 1 else 0 := by
    have e : (gF all db).isE 1 1 = 0 := show F6.isE 1 1 = 0 from by decide +kernel
    unfold FF.readE
    rw [if_neg (by omega)]
  have eE : oreadE (gF all db) P (oO r a0 g a2) 1 m = (gF all db).readE 1 g m := by unfold oreadE; rw [if_neg (by omega), if_neg (by omega), if_neg (by omega), k4, t1]
  have eV : oreadV (gF all db) P (oO r a0 g a2) 1 m = (gF all db).readV 1 g m := by unfold oreadV; rw [if_neg (by omega), if_neg (by omega), if_neg (by omega), k4, t1]
  have eO : oreadO (gF all db) (oO r a0 g a2) 1 m = (oO r a0 g a2).move 1 (((gF all db).readV 1 g m).size) := by unfold oreadO; rw [if_pos ⟨i1, by omega, by omega⟩, k4, t1]
  have mv : ∀ z : Int, (oO r a0 g a2).move 1 z = oO r a0 (g + z) a2 := fun z => by
    unfold OS.move
    rw [t1]
    have : fset (oO r a0 g a2).at_ 1 (g + z) = fset (fset (fset (fun _ => 0) 0 a0) 1 (g + z)) 2 a2 := by
      funext n
      show fset (fset (fset (fset (fun _ => 0) 0 a0) 1 g) 2 a2) 1 (g + z) n = _
      unfold fset
      by_cases e : n = 1
      · subst e; simp
      · simp [e]
    rw [this]; rfl
  refine ⟨by unfold oreadP; rw [if_neg (by omega)], ?_⟩
  by_cases c : m < 0
  · left
    have e1 : (gF all db).readE 1 g m = 1 := by rw [hE, if_pos (.inr c)]
    have e2 : (gF all db).readV 1 g m = ByteArray.empty := by unfold FF.readV; rw [if_neg (by omega)]
    refine ⟨c, by rw [eE, e1]; decide, by rw [eV, e2], ?_⟩
    rw [eO, e2, mv]
    show oO r a0 (g + 0) a2 = _
    rw [Int.add_zero]
  · right
    have e1 : (gF all db).readE 1 g m = 0 := by rw [hE, if_neg (by omega)]
    have e2 : (gF all db).readV 1 g m = all.extract g.toNat (g + min m (all.size - g)).toNat := by
      unfold FF.readV
      rw [if_pos e1, show (gF all db).data 1 = all from dat_1 all db]
      rw [show (min g (all.size : Int)) = g by omega]
    refine ⟨by omega, by rw [eE, e1], by rw [eV, e2], ?_⟩
    rw [eO, e2, mv, ByteArray.size_extract]
    congr 1
    omega
end TF

end Go.X
