import Derived.Test.YtmklfkjfgjagaaaGreatDoorYLWn
namespace Go.X
open Go Go.Proofs
theorem cl_10 : callable Tryz.prog 10 = true := by kernel_rfl
theorem cl_11 : callable Tryz.prog 11 = true := by kernel_rfl
theorem cl_22 : callable Tryz.prog 22 = true := by kernel_rfl
theorem cl_25 : callable Tryz.prog 25 = true := by kernel_rfl
theorem cl_29 : callable Tryz.prog 29 = true := by kernel_rfl
theorem cl_30 : callable Tryz.prog 30 = true := by kernel_rfl
theorem cl_31 : callable Tryz.prog 31 = true := by kernel_rfl
theorem cl_32 : callable Tryz.prog 32 = true := by kernel_rfl
theorem cl_33 : callable Tryz.prog 33 = true := by kernel_rfl
theorem cl_34 : callable Tryz.prog 34 = true := by kernel_rfl
theorem cl_35 : callable Tryz.prog 35 = true := by kernel_rfl
theorem cl_36 : callable Tryz.prog 36 = true := by kernel_rfl
theorem cl_37 : callable Tryz.prog 37 = true := by kernel_rfl
theorem cl_40 : callable Tryz.prog 40 = true := by kernel_rfl
theorem cl_41 : callable Tryz.prog 41 = true := by kernel_rfl
theorem cl_42 : callable Tryz.prog 42 = true := by kernel_rfl
theorem cl_43 : callable Tryz.prog 43 = true := by kernel_rfl
theorem cl_44 : callable Tryz.prog 44 = true := by kernel_rfl
theorem cl_45 : callable Tryz.prog 45 = true := by kernel_rfl
theorem cl_9 : callable Tryz.prog 9 = true := by kernel_rfl
theorem fo_50_0 : fieldOff Tryz.prog 50 0 = some 0 := by kernel_rfl
theorem fo_50_1 : fieldOff Tryz.prog 50 1 = some 1 := by kernel_rfl
theorem fo_50_2 : fieldOff Tryz.prog 50 2 = some 2 := by kernel_rfl
theorem fo_50_3 : fieldOff Tryz.prog 50 3 = some 3 := by kernel_rfl

theorem aggEq : (Tryz.prog.underlying 116 = some (.struct (Tryz.prog.fieldsOf 116)) ∧ Tryz.prog.stoodInHeld 116 = false) ∧ Tryz.prog.eqGuardType Tryz.prog.depth 116 = false ∧ (Tryz.prog.fieldsOf 116).toList.all (okF Tryz.prog 4) = true :=
  ⟨⟨by kernel_rfl, by kernel_rfl⟩, by kernel_rfl, by kernel_rfl⟩

theorem r_List_no (b o : Nat) (s : FC) (n : Int) (h : s.isE n 2 ≠ 0) : Spec Tryz.prog 62 [ptr b o 0, .int .i64 n] [.cells b o 321 (encM s)] (fun v H1 => v = .tuple #[.slice none 0 0, .int .i64 (s.isE n 2)] ∧ H1 = [.cells b o 321 (encM s)]) := by
  have e := r_List b o s n
  rw [if_neg h] at e
  exact e
theorem r_List_yes (b o : Nat) (s : FC) (n : Int) (h : s.isE n 2 = 0) : Spec Tryz.prog 62 [ptr b o 0, .int .i64 n] [.cells b o 321 (encM s)] (fun v H1 => v = .tuple #[.slice (s.nP n) (s.names n).length (s.nC n), .int .i64 (s.isE n 2)] ∧ H1 = [.cells b o 321 (encM s)]) := by
  have e := r_List b o s n
  rw [if_pos h] at e
  exact e

end Go.X
