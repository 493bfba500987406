import Derived.Test.YthdinakloheinaaGreatDoorkNW6
namespace Go.X.Tr
open Go Go.Proofs Go.X
set_option maxRecDepth 20000
set_option maxHeartbeats 4000000

theorem p_is (b o : Nat) (K : Int) (hK : K ≤ 1000000) (s : PS) (hI : s.Inv K) (n : Int) : Spec Tryz.prog 193 [ptr b o 0, .int .i64 n]
 [.cells b o 24 (encP s)]
 (fun v H1 => ((s.is n = 0 ∧ 0 ≤ n ∧ n < 8) ∧ v = .tuple #[ptr b o (0 + 0 + n.toNat * 3), .nilIface] ∧ H1 = [.cells b o 24 (encP s)]) ∨ (s.is n ≠ 0 ∧ v = .tuple #[.pointer none, .iface 102 (.int .i64 (s.is n))] ∧ H1 = [.cells b o 24 (encP s)])) := by
  have b0 := hI.e0 n
  have b1 := hI.e1 n
  have bl := hI.len n
  refine Spec.go 35 [0, 1, 4, 5, 11, 28] [] Tryz.func193 rfl rfl rfl ?_
  intro W
  refine sp 8 rfl ?_ ?_ <;> intro h1
  · skip
    refine XE.ret2 rfl rfl rfl (post_of .h1 rfl ?_)
    try dsimp only [SW.den, SV.den, dens, ofC]
    rcases PS.is_cases s n with ⟨q, q1⟩ | ⟨q, q1⟩ | ⟨q, q1⟩ <;> first | (exfalso; omega) | exact .inl ⟨⟨q, by omega, by omega⟩, rfl, rfl⟩ | exact .inr ⟨by omega, by rw [q], rfl⟩
  · skip
    refine cd rfl ?_ ?_ <;> intro h2
    · skip
      refine XE.ret2 rfl rfl rfl (post_of .h1 rfl ?_)
      try dsimp only [SW.den, SV.den, dens, ofC]
      rcases PS.is_cases s n with ⟨q, q1⟩ | ⟨q, q1⟩ | ⟨q, q1⟩ <;> first | (exfalso; omega) | exact .inl ⟨⟨q, by omega, by omega⟩, rfl, rfl⟩ | exact .inr ⟨by omega, by rw [q], rfl⟩
    · skip
      refine rq [0, 1, 2, 3, 4, 5, 6, 7, 8, 9, 10, 11, 12, 13, 14, 15] mixed (by kernel_rfl) ?_
      refine sd (by omega) ?_
      refine ld .here (encP.ld_p_I_reads _ _ (by omega)) ?_
      refine sd (by omega) ?_
      refine ld .here (encP.ld_p_I_writes _ _ (by omega)) ?_
      refine sd (by omega) ?_
      refine cd rfl ?_ ?_ <;> intro h3
      · skip
        refine XE.ret2 rfl rfl rfl (post_of .h1 rfl ?_)
        try dsimp only [SW.den, SV.den, dens, ofC]
        rcases PS.is_cases s n with ⟨q, q1⟩ | ⟨q, q1⟩ | ⟨q, q1⟩ <;> first | (exfalso; omega) | exact .inl ⟨⟨q, by omega, by omega⟩, rfl, rfl⟩ | exact .inr ⟨by omega, by rw [q], rfl⟩
      · skip
        refine sd (by omega) ?_
        refine XE.ret2 rfl rfl rfl (post_of .h1 rfl ?_)
        try dsimp only [SW.den, SV.den, dens, ofC]
        rcases PS.is_cases s n with ⟨q, q1⟩ | ⟨q, q1⟩ | ⟨q, q1⟩ <;> first | (exfalso; omega) | exact .inl ⟨⟨q, by omega, by omega⟩, rfl, rfl⟩ | exact .inr ⟨by omega, by rw [q], rfl⟩
theorem p_end_true (b o i : Nat) : Spec Tryz.prog 196 [ptr b o i, .bool true]
 []
 (fun v H1 => v = ptr b o (i + 2) ∧ H1 = []) := by
  refine Spec.go 12 [0, 1, 4, 5] [] Tryz.func196 rfl rfl rfl ?_
  intro W
  refine XE.ret1 rfl rfl (post_of .nil rfl ?_)
  try dsimp only [SW.den, SV.den, dens, ofC]
  exact ⟨rfl, rfl⟩
theorem p_end_false (b o i : Nat) : Spec Tryz.prog 196 [ptr b o i, .bool false]
 []
 (fun v H1 => v = ptr b o (i + 1) ∧ H1 = []) := by
  refine Spec.go 12 [0, 1, 4, 5] [] Tryz.func196 rfl rfl rfl ?_
  intro W
  refine XE.ret1 rfl rfl (post_of .nil rfl ?_)
  try dsimp only [SW.den, SV.den, dens, ofC]
  exact ⟨rfl, rfl⟩
theorem p_Make (b o : Nat) (K : Int) (hK : K ≤ 1000000) (s : PS) (hI : s.Inv K) : Spec Tryz.prog 135 [ptr b o 0]
 [.cells b o 24 (encP s)]
 (fun v H1 => v = .tuple #[.int .i64 s.make.1, errv 102 s.make.2.1] ∧ H1 = [.cells b o 24 (encP s.make.2.2)]) := by
  refine Spec.go 33 [0, 2, 3, 4, 5, 6, 23] [] Tryz.func135 rfl rfl rfl ?_
  intro W
  refine lp (σ := Int) (fun k => (8 - k).toNat) (fun k => (0 ≤ k ∧ k ≤ 8) ∧ ∀ j : Int, 0 ≤ j → j < k → s.e j 0 + s.e j 1 ≠ 0) (fun k => [(5, .int .i64 k), (0, ptr b o 0)]) (fun k => XM W (foot [.cells b o 24 (encP s)]) [.cells b o 24 (encP s)]) (0) ?_ (S2 rfl rfl) (fun _ hw => XM.pick .h1 hw) ?_
  · skip
    exact ⟨by omega, fun j h1 h2 => by omega⟩
  intro k hk
  obtain ⟨hk, hn⟩ := hk
  have b0 := hI.e0 k
  have b1 := hI.e1 k
  refine gC ?_
  refine cd rfl ?_ ?_ <;> intro h1
  · skip
    refine rq [0, 1, 2, 3, 4, 5, 6, 7, 8, 9, 10, 11, 12, 13, 14, 15] mixed (by kernel_rfl) ?_
    refine sd (by omega) ?_
    refine ld .here (encP.ld_p_I_reads _ _ (by omega)) ?_
    refine sd (by omega) ?_
    refine ld .here (encP.ld_p_I_writes _ _ (by omega)) ?_
    refine sd (by omega) ?_
    refine cd rfl ?_ ?_ <;> intro h2
    · skip
      refine XO.v (V.build (vs := #[(1, .int .i64 1), (2, .int .i64 1)]) rfl (v := .agg #[.string ⟨#[]⟩, .int .i64 1, .int .i64 1]) (fun _ => by kernel_rfl)) rfl (gO ?_)
      refine sd (by omega) ?_
      refine stA .here (encP_make hI (by omega) (by assumption)) rfl ⟨rfl, rfl⟩ ?_
      refine XE.ret2 rfl rfl rfl (post_of .h1 rfl ?_)
      try dsimp only [SW.den, SV.den, dens, ofC]
      rw [PS.make_some (by omega) (by assumption) hn]; exact ⟨rfl, rfl⟩
    · skip
      refine sd (by omega) ?_
      refine ag (k + 1) ?_ ?_ (S2 rfl rfl) (fun _ hw => XM.pick .h1 hw)
      · skip
        (first | omega | (simp; done) | (simp; omega))
      · skip
        refine ⟨by omega, fun j h1 h2 => ?_⟩
        by_cases hjk : j = k
        · subst hjk; assumption
        · exact hn j h1 (by omega)
  · skip
    refine XE.ret2 rfl rfl rfl (post_of .h1 rfl ?_)
    try dsimp only [SW.den, SV.den, dens, ofC]
    obtain rfl : k = 8 := by omega
    rw [PS.make_none hn]; exact ⟨rfl, rfl⟩

theorem p_Drop_true (b o : Nat) (K : Int) (hK : K ≤ 1000000) (s : PS) (hI : s.Inv K) (n : Int) : Spec Tryz.prog 145 [ptr b o 0, .int .i64 n, .bool true]
 [.cells b o 24 (encP s)]
 (fun v H1 => v = errv 102 (s.turn n true (-1)).1 ∧ H1 = [.cells b o 24 (encP (s.turn n true (-1)).2)]) := by
  have b0 := hI.e0 n
  have b1 := hI.e1 n
  have bl := hI.len n
  have hnew : (s.e n (sel true) = 0) = (s.e n 1 = 0) := by simp [sel]
  refine Spec.go 45 [0, 1, 2, 6, 7, 8, 16, 23, 41] [] Tryz.func145 rfl rfl rfl ?_
  intro W
  refine ca (p_is _ _ K hK s hI _) .h1 ?_
  rintro _ _ (⟨h1, rfl, rfl⟩ | ⟨h1, rfl, rfl⟩)
  · skip
    obtain ⟨h1, h2, h3⟩ := h1
    refine gO ?_
    refine ca (p_end_true _ _ _) .nil ?_
    rintro _ _ ⟨rfl, rfl⟩
    refine gO ?_
    refine ld .here (encP.ld_p_I_writes _ _ (by omega)) ?_
    refine cd rfl ?_ ?_ <;> intro h4
    · skip
      refine XE.ret1 rfl rfl (post_of .h1 rfl ?_)
      try dsimp only [SW.den, SV.den, dens, ofC]
      first
        | (rw [PS.turn_err (by assumption)]; exact ⟨(errv_pos _ (by assumption)).symm, rfl⟩)
        | (rw [PS.turn_state (by assumption) (by assumption)]; exact ⟨rfl, rfl⟩)
        | (rw [PS.turn_ok (by assumption) (by assumption) (by omega)]; exact ⟨rfl, rfl⟩)
        | (rw [PS.turn_zero (by assumption) (by assumption) (by omega)]; refine ⟨rfl, ?_⟩; exact congrArg (fun e => [Ent.cells b o 24 (encP { b := fset s.b n ⟨#[]⟩, e := e })]) (drop_eq (by omega) (by omega)))
    · skip
      refine ca (p_end_true _ _ _) .nil ?_
      rintro _ _ ⟨rfl, rfl⟩
      refine gO ?_
      refine ld .here (encP.ld_p_I_writes _ _ (by omega)) ?_
      refine sd (by omega) ?_
      refine st .here (encP.st_p_I_writes _ _ (by omega) _) rfl ?_
      refine rq [0, 1, 2, 3, 4, 5, 6, 7, 8, 9] mixed (by kernel_rfl) ?_
      have c0 : ({ s with e := fset2 s.e n 1 (s.e n 1 - 1) } : PS).e n 0 = s.e n 0 + 0 := by simp [fset2]
      have c0f : fset2 s.e n 1 (s.e n 1 - 1) n 0 = s.e n 0 + 0 := by simp [fset2]
      have c1 : ({ s with e := fset2 s.e n 1 (s.e n 1 - 1) } : PS).e n 1 = s.e n 1 + -1 := by simp [fset2]; omega
      have c1f : fset2 s.e n 1 (s.e n 1 - 1) n 1 = s.e n 1 + -1 := by simp [fset2]; omega
      refine ld .here (encP.ld_p_I_reads _ _ (by omega)) ?_
      refine ld .here (encP.ld_p_I_writes _ _ (by omega)) ?_
      refine sd (by omega) ?_
      refine cd rfl ?_ ?_ <;> intro h5
      · skip
        refine XO.v (V.build (vs := #[]) rfl (v := .agg #[.string ⟨#[]⟩, .int .i64 0, .int .i64 0]) (fun _ => by kernel_rfl)) rfl (gO ?_)
        refine stA .here (encP_drop _ (by omega)) rfl ⟨rfl, rfl⟩ ?_
        refine XE.ret1 rfl rfl (post_of .h1 rfl ?_)
        try dsimp only [SW.den, SV.den, dens, ofC]
        first
        | (rw [PS.turn_err (by assumption)]; exact ⟨(errv_pos _ (by assumption)).symm, rfl⟩)
        | (rw [PS.turn_state (by assumption) (by assumption)]; exact ⟨rfl, rfl⟩)
        | (rw [PS.turn_ok (by assumption) (by assumption) (by omega)]; exact ⟨rfl, rfl⟩)
        | (rw [PS.turn_zero (by assumption) (by assumption) (by omega)]; refine ⟨rfl, ?_⟩; exact congrArg (fun e => [Ent.cells b o 24 (encP { b := fset s.b n ⟨#[]⟩, e := e })]) (drop_eq (by omega) (by omega)))
      · skip
        refine XE.ret1 rfl rfl (post_of .h1 rfl ?_)
        try dsimp only [SW.den, SV.den, dens, ofC]
        first
        | (rw [PS.turn_err (by assumption)]; exact ⟨(errv_pos _ (by assumption)).symm, rfl⟩)
        | (rw [PS.turn_state (by assumption) (by assumption)]; exact ⟨rfl, rfl⟩)
        | (rw [PS.turn_ok (by assumption) (by assumption) (by omega)]; exact ⟨rfl, rfl⟩)
        | (rw [PS.turn_zero (by assumption) (by assumption) (by omega)]; refine ⟨rfl, ?_⟩; exact congrArg (fun e => [Ent.cells b o 24 (encP { b := fset s.b n ⟨#[]⟩, e := e })]) (drop_eq (by omega) (by omega)))
  · skip
    try dsimp only [errvL0, errvL1, errvL2, errvL3, errvL4, errvL5, errvL6, errvL7, errvL8, errvL9, errvL10, errvL11, errvL12, errvL13]
    refine gO ?_
    refine XE.ret1 rfl rfl (post_of .h1 rfl ?_)
    try dsimp only [SW.den, SV.den, dens, ofC]
    first
        | (rw [PS.turn_err (by assumption)]; exact ⟨(errv_pos _ (by assumption)).symm, rfl⟩)
        | (rw [PS.turn_state (by assumption) (by assumption)]; exact ⟨rfl, rfl⟩)
        | (rw [PS.turn_ok (by assumption) (by assumption) (by omega)]; exact ⟨rfl, rfl⟩)
        | (rw [PS.turn_zero (by assumption) (by assumption) (by omega)]; refine ⟨rfl, ?_⟩; exact congrArg (fun e => [Ent.cells b o 24 (encP { b := fset s.b n ⟨#[]⟩, e := e })]) (drop_eq (by omega) (by omega)))

theorem p_Drop_false (b o : Nat) (K : Int) (hK : K ≤ 1000000) (s : PS) (hI : s.Inv K) (n : Int) : Spec Tryz.prog 145 [ptr b o 0, .int .i64 n, .bool false]
 [.cells b o 24 (encP s)]
 (fun v H1 => v = errv 102 (s.turn n false (-1)).1 ∧ H1 = [.cells b o 24 (encP (s.turn n false (-1)).2)]) := by
  have b0 := hI.e0 n
  have b1 := hI.e1 n
  have bl := hI.len n
  have hnew : (s.e n (sel false) = 0) = (s.e n 0 = 0) := by simp [sel]
  refine Spec.go 45 [0, 1, 2, 6, 7, 8, 16, 23, 41] [] Tryz.func145 rfl rfl rfl ?_
  intro W
  refine ca (p_is _ _ K hK s hI _) .h1 ?_
  rintro _ _ (⟨h1, rfl, rfl⟩ | ⟨h1, rfl, rfl⟩)
  · skip
    obtain ⟨h1, h2, h3⟩ := h1
    refine gO ?_
    refine ca (p_end_false _ _ _) .nil ?_
    rintro _ _ ⟨rfl, rfl⟩
    refine gO ?_
    refine ld .here (encP.ld_p_I_reads _ _ (by omega)) ?_
    refine cd rfl ?_ ?_ <;> intro h4
    · skip
      refine XE.ret1 rfl rfl (post_of .h1 rfl ?_)
      try dsimp only [SW.den, SV.den, dens, ofC]
      first
        | (rw [PS.turn_err (by assumption)]; exact ⟨(errv_pos _ (by assumption)).symm, rfl⟩)
        | (rw [PS.turn_state (by assumption) (by assumption)]; exact ⟨rfl, rfl⟩)
        | (rw [PS.turn_ok (by assumption) (by assumption) (by omega)]; exact ⟨rfl, rfl⟩)
        | (rw [PS.turn_zero (by assumption) (by assumption) (by omega)]; refine ⟨rfl, ?_⟩; exact congrArg (fun e => [Ent.cells b o 24 (encP { b := fset s.b n ⟨#[]⟩, e := e })]) (drop_eq (by omega) (by omega)))
    · skip
      refine ca (p_end_false _ _ _) .nil ?_
      rintro _ _ ⟨rfl, rfl⟩
      refine gO ?_
      refine ld .here (encP.ld_p_I_reads _ _ (by omega)) ?_
      refine sd (by omega) ?_
      refine st .here (encP.st_p_I_reads _ _ (by omega) _) rfl ?_
      refine rq [0, 1, 2, 3, 4, 5, 6, 7, 8, 9] mixed (by kernel_rfl) ?_
      have c0 : ({ s with e := fset2 s.e n 0 (s.e n 0 - 1) } : PS).e n 0 = s.e n 0 + -1 := by simp [fset2]; omega
      have c0f : fset2 s.e n 0 (s.e n 0 - 1) n 0 = s.e n 0 + -1 := by simp [fset2]; omega
      have c1 : ({ s with e := fset2 s.e n 0 (s.e n 0 - 1) } : PS).e n 1 = s.e n 1 + 0 := by simp [fset2]
      have c1f : fset2 s.e n 0 (s.e n 0 - 1) n 1 = s.e n 1 + 0 := by simp [fset2]
      refine ld .here (encP.ld_p_I_reads _ _ (by omega)) ?_
      refine ld .here (encP.ld_p_I_writes _ _ (by omega)) ?_
      refine sd (by omega) ?_
      refine cd rfl ?_ ?_ <;> intro h5
      · skip
        refine XO.v (V.build (vs := #[]) rfl (v := .agg #[.string ⟨#[]⟩, .int .i64 0, .int .i64 0]) (fun _ => by kernel_rfl)) rfl (gO ?_)
        refine stA .here (encP_drop _ (by omega)) rfl ⟨rfl, rfl⟩ ?_
        refine XE.ret1 rfl rfl (post_of .h1 rfl ?_)
        try dsimp only [SW.den, SV.den, dens, ofC]
        first
        | (rw [PS.turn_err (by assumption)]; exact ⟨(errv_pos _ (by assumption)).symm, rfl⟩)
        | (rw [PS.turn_state (by assumption) (by assumption)]; exact ⟨rfl, rfl⟩)
        | (rw [PS.turn_ok (by assumption) (by assumption) (by omega)]; exact ⟨rfl, rfl⟩)
        | (rw [PS.turn_zero (by assumption) (by assumption) (by omega)]; refine ⟨rfl, ?_⟩; exact congrArg (fun e => [Ent.cells b o 24 (encP { b := fset s.b n ⟨#[]⟩, e := e })]) (drop_eq (by omega) (by omega)))
      · skip
        refine XE.ret1 rfl rfl (post_of .h1 rfl ?_)
        try dsimp only [SW.den, SV.den, dens, ofC]
        first
        | (rw [PS.turn_err (by assumption)]; exact ⟨(errv_pos _ (by assumption)).symm, rfl⟩)
        | (rw [PS.turn_state (by assumption) (by assumption)]; exact ⟨rfl, rfl⟩)
        | (rw [PS.turn_ok (by assumption) (by assumption) (by omega)]; exact ⟨rfl, rfl⟩)
        | (rw [PS.turn_zero (by assumption) (by assumption) (by omega)]; refine ⟨rfl, ?_⟩; exact congrArg (fun e => [Ent.cells b o 24 (encP { b := fset s.b n ⟨#[]⟩, e := e })]) (drop_eq (by omega) (by omega)))
  · skip
    try dsimp only [errvL0, errvL1, errvL2, errvL3, errvL4, errvL5, errvL6, errvL7, errvL8, errvL9, errvL10, errvL11, errvL12, errvL13]
    refine gO ?_
    refine XE.ret1 rfl rfl (post_of .h1 rfl ?_)
    try dsimp only [SW.den, SV.den, dens, ofC]
    first
        | (rw [PS.turn_err (by assumption)]; exact ⟨(errv_pos _ (by assumption)).symm, rfl⟩)
        | (rw [PS.turn_state (by assumption) (by assumption)]; exact ⟨rfl, rfl⟩)
        | (rw [PS.turn_ok (by assumption) (by assumption) (by omega)]; exact ⟨rfl, rfl⟩)
        | (rw [PS.turn_zero (by assumption) (by assumption) (by omega)]; refine ⟨rfl, ?_⟩; exact congrArg (fun e => [Ent.cells b o 24 (encP { b := fset s.b n ⟨#[]⟩, e := e })]) (drop_eq (by omega) (by omega)))
theorem p_Read (b o : Nat) (K : Int) (hK : K ≤ 1000000) (s : PS) (hI : s.Inv K) (n m : Int) : Spec Tryz.prog 139 [ptr b o 0, .int .i64 n, .int .i64 m]
 [.cells b o 24 (encP s)]
 (fun v H1 => v = .tuple #[.string (s.read n m).1, errv 102 (s.read n m).2.1] ∧ H1 = [.cells b o 24 (encP (s.read n m).2.2)]) := by
  have b0 := hI.e0 n
  have b1 := hI.e1 n
  have bl := hI.len n
  refine Spec.go 70 [0, 1, 2, 6, 7, 8, 9, 10, 11, 19, 25, 28, 45] [] Tryz.func139 rfl rfl rfl ?_
  intro W
  refine ca (p_is _ _ K hK s hI _) .h1 ?_
  rintro _ _ (⟨h1, rfl, rfl⟩ | ⟨h1, rfl, rfl⟩)
  · skip
    obtain ⟨h1, h2, h3⟩ := h1
    refine gO ?_
    refine ld .here (encP.ld_p_I_reads _ _ (by omega)) ?_
    refine cd rfl ?_ ?_ <;> intro h4
    · skip
      refine XE.ret2 rfl rfl rfl (post_of .h1 rfl ?_)
      try dsimp only [SW.den, SV.den, dens, ofC]
      first
      | (rw [PS.read_err (by assumption)]; exact ⟨by show _ = Value.tuple #[_, errv 102 (s.is n)]; rw [errv_pos _ (by assumption)], rfl⟩)
      | (rw [PS.read_state (by assumption) (by assumption)]; exact ⟨rfl, rfl⟩)
      | (rw [PS.read_bound (by assumption) (by assumption) (by omega)]; exact ⟨rfl, rfl⟩)
      | (rw [PS.read_again (by assumption) (by assumption) (by omega) ⟨by assumption, by omega, by omega⟩]; exact ⟨rfl, rfl⟩)
      | (rw [PS.read_ok (by assumption) (by assumption) (by omega) (by rintro ⟨q1, q2, q3⟩; first | contradiction | omega)]; exact ⟨rfl, rfl⟩)
    · skip
      refine cd rfl ?_ ?_ <;> intro h5
      · skip
        refine XE.ret2 rfl rfl rfl (post_of .h1 rfl ?_)
        try dsimp only [SW.den, SV.den, dens, ofC]
        first
        | (rw [PS.read_err (by assumption)]; exact ⟨by show _ = Value.tuple #[_, errv 102 (s.is n)]; rw [errv_pos _ (by assumption)], rfl⟩)
        | (rw [PS.read_state (by assumption) (by assumption)]; exact ⟨rfl, rfl⟩)
        | (rw [PS.read_bound (by assumption) (by assumption) (by omega)]; exact ⟨rfl, rfl⟩)
        | (rw [PS.read_again (by assumption) (by assumption) (by omega) ⟨by assumption, by omega, by omega⟩]; exact ⟨rfl, rfl⟩)
        | (rw [PS.read_ok (by assumption) (by assumption) (by omega) (by rintro ⟨q1, q2, q3⟩; first | contradiction | omega)]; exact ⟨rfl, rfl⟩)
      · skip
        refine ld .here (encP.ld_p_I_b _ _ (by omega)) ?_
        refine sp 35 rfl ?_ ?_ <;> intro h6
        · skip
          refine ld .here (encP.ld_p_I_writes _ _ (by omega)) ?_
          refine sp 42 rfl ?_ ?_ <;> intro h7
          · skip
            refine cd rfl ?_ ?_ <;> intro h8
            · skip
              refine XE.ret2 rfl rfl rfl (post_of .h1 rfl ?_)
              try dsimp only [SW.den, SV.den, dens, ofC]
              first
              | (rw [PS.read_err (by assumption)]; exact ⟨by show _ = Value.tuple #[_, errv 102 (s.is n)]; rw [errv_pos _ (by assumption)], rfl⟩)
              | (rw [PS.read_state (by assumption) (by assumption)]; exact ⟨rfl, rfl⟩)
              | (rw [PS.read_bound (by assumption) (by assumption) (by omega)]; exact ⟨rfl, rfl⟩)
              | (rw [PS.read_again (by assumption) (by assumption) (by omega) ⟨by assumption, by omega, by omega⟩]; exact ⟨rfl, rfl⟩)
              | (rw [PS.read_ok (by assumption) (by assumption) (by omega) (by rintro ⟨q1, q2, q3⟩; first | contradiction | omega)]; exact ⟨rfl, rfl⟩)
            · skip
              refine ld .here (encP.ld_p_I_b _ _ (by omega)) ?_
              refine ld .here (encP.ld_p_I_b _ _ (by omega)) ?_
              refine sd (by omega) ?_
              refine ld .here (encP.ld_p_I_b _ _ (by omega)) ?_
              refine sd (by omega) ?_
              refine st .here (encP.st_p_I_b _ _ (by omega) _) rfl ?_
              refine XE.ret2 rfl rfl rfl (post_of .h1 rfl ?_)
              try dsimp only [SW.den, SV.den, dens, ofC]
              first
              | (rw [PS.read_err (by assumption)]; exact ⟨by show _ = Value.tuple #[_, errv 102 (s.is n)]; rw [errv_pos _ (by assumption)], rfl⟩)
              | (rw [PS.read_state (by assumption) (by assumption)]; exact ⟨rfl, rfl⟩)
              | (rw [PS.read_bound (by assumption) (by assumption) (by omega)]; exact ⟨rfl, rfl⟩)
              | (rw [PS.read_again (by assumption) (by assumption) (by omega) ⟨by assumption, by omega, by omega⟩]; exact ⟨rfl, rfl⟩)
              | (rw [PS.read_ok (by assumption) (by assumption) (by omega) (by rintro ⟨q1, q2, q3⟩; first | contradiction | omega)]; exact ⟨rfl, rfl⟩)
          · skip
            refine ld .here (encP.ld_p_I_b _ _ (by omega)) ?_
            refine ld .here (encP.ld_p_I_b _ _ (by omega)) ?_
            refine sd (by omega) ?_
            refine ld .here (encP.ld_p_I_b _ _ (by omega)) ?_
            refine sd (by omega) ?_
            refine st .here (encP.st_p_I_b _ _ (by omega) _) rfl ?_
            refine XE.ret2 rfl rfl rfl (post_of .h1 rfl ?_)
            try dsimp only [SW.den, SV.den, dens, ofC]
            first
            | (rw [PS.read_err (by assumption)]; exact ⟨by show _ = Value.tuple #[_, errv 102 (s.is n)]; rw [errv_pos _ (by assumption)], rfl⟩)
            | (rw [PS.read_state (by assumption) (by assumption)]; exact ⟨rfl, rfl⟩)
            | (rw [PS.read_bound (by assumption) (by assumption) (by omega)]; exact ⟨rfl, rfl⟩)
            | (rw [PS.read_again (by assumption) (by assumption) (by omega) ⟨by assumption, by omega, by omega⟩]; exact ⟨rfl, rfl⟩)
            | (rw [PS.read_ok (by assumption) (by assumption) (by omega) (by rintro ⟨q1, q2, q3⟩; first | contradiction | omega)]; exact ⟨rfl, rfl⟩)
        · skip
          refine ld .here (encP.ld_p_I_b _ _ (by omega)) ?_
          refine ld .here (encP.ld_p_I_b _ _ (by omega)) ?_
          refine sd (by omega) ?_
          refine ld .here (encP.ld_p_I_b _ _ (by omega)) ?_
          refine sd (by omega) ?_
          refine st .here (encP.st_p_I_b _ _ (by omega) _) rfl ?_
          refine XE.ret2 rfl rfl rfl (post_of .h1 rfl ?_)
          try dsimp only [SW.den, SV.den, dens, ofC]
          first
          | (rw [PS.read_err (by assumption)]; exact ⟨by show _ = Value.tuple #[_, errv 102 (s.is n)]; rw [errv_pos _ (by assumption)], rfl⟩)
          | (rw [PS.read_state (by assumption) (by assumption)]; exact ⟨rfl, rfl⟩)
          | (rw [PS.read_bound (by assumption) (by assumption) (by omega)]; exact ⟨rfl, rfl⟩)
          | (rw [PS.read_again (by assumption) (by assumption) (by omega) ⟨by assumption, by omega, by omega⟩]; exact ⟨rfl, rfl⟩)
          | (rw [PS.read_ok (by assumption) (by assumption) (by omega) (by rintro ⟨q1, q2, q3⟩; first | contradiction | omega)]; exact ⟨rfl, rfl⟩)
  · skip
    try dsimp only [errvL0, errvL1, errvL2, errvL3, errvL4, errvL5, errvL6, errvL7, errvL8, errvL9, errvL10, errvL11, errvL12, errvL13]
    refine gO ?_
    refine XE.ret2 rfl rfl rfl (post_of .h1 rfl ?_)
    try dsimp only [SW.den, SV.den, dens, ofC]
    first
    | (rw [PS.read_err (by assumption)]; exact ⟨by show _ = Value.tuple #[_, errv 102 (s.is n)]; rw [errv_pos _ (by assumption)], rfl⟩)
    | (rw [PS.read_state (by assumption) (by assumption)]; exact ⟨rfl, rfl⟩)
    | (rw [PS.read_bound (by assumption) (by assumption) (by omega)]; exact ⟨rfl, rfl⟩)
    | (rw [PS.read_again (by assumption) (by assumption) (by omega) ⟨by assumption, by omega, by omega⟩]; exact ⟨rfl, rfl⟩)
    | (rw [PS.read_ok (by assumption) (by assumption) (by omega) (by rintro ⟨q1, q2, q3⟩; first | contradiction | omega)]; exact ⟨rfl, rfl⟩)
theorem p_Write (b o : Nat) (K : Int) (hK : K ≤ 1000000) (s : PS) (hI : s.Inv K) (n : Int) (t : ByteArray) (ht : t.size ≤ 1000000) : Spec Tryz.prog 136 [ptr b o 0, .int .i64 n, .string t]
 [.cells b o 24 (encP s)]
 (fun v H1 => v = .tuple #[.int .i64 (s.write n t).1, errv 102 (s.write n t).2.1] ∧ H1 = [.cells b o 24 (encP (s.write n t).2.2)]) := by
  have b0 := hI.e0 n
  have b1 := hI.e1 n
  have bl := hI.len n
  have he := str_empty t
  refine Spec.go 59 [0, 1, 2, 6, 7, 8, 9, 10, 18, 24, 30, 46] [] Tryz.func136 rfl rfl rfl ?_
  intro W
  refine ca (p_is _ _ K hK s hI _) .h1 ?_
  rintro _ _ (⟨h1, rfl, rfl⟩ | ⟨h1, rfl, rfl⟩)
  · skip
    obtain ⟨h1, h2, h3⟩ := h1
    refine gO ?_
    refine ld .here (encP.ld_p_I_writes _ _ (by omega)) ?_
    refine cd rfl ?_ ?_ <;> intro h4
    · skip
      refine XE.ret2 rfl rfl rfl (post_of .h1 rfl ?_)
      try dsimp only [SW.den, SV.den, dens, ofC]
      first
      | (rw [PS.write_err (by assumption)]; exact ⟨by show _ = Value.tuple #[_, errv 102 (s.is n)]; rw [errv_pos _ (by assumption)], rfl⟩)
      | (rw [PS.write_state (by assumption) (by assumption)]; exact ⟨rfl, rfl⟩)
      | (rw [PS.write_broken (by assumption) (by assumption) (by assumption)]; exact ⟨rfl, rfl⟩)
      | (rw [PS.write_again (by assumption) (by assumption) (by assumption) ⟨by assumption, by first | omega | (have hq := _root_.mt he.2 (by assumption); omega)⟩]; exact ⟨rfl, rfl⟩)
      | (rw [PS.write_ok (by assumption) (by assumption) (by assumption) (by first | omega | (have hq := he.1 (Decidable.not_not.1 (by assumption)); omega))]; exact ⟨rfl, rfl⟩)
    · skip
      refine ld .here (encP.ld_p_I_reads _ _ (by omega)) ?_
      refine cd rfl ?_ ?_ <;> intro h5
      · skip
        refine XE.ret2 rfl rfl rfl (post_of .h1 rfl ?_)
        try dsimp only [SW.den, SV.den, dens, ofC]
        first
        | (rw [PS.write_err (by assumption)]; exact ⟨by show _ = Value.tuple #[_, errv 102 (s.is n)]; rw [errv_pos _ (by assumption)], rfl⟩)
        | (rw [PS.write_state (by assumption) (by assumption)]; exact ⟨rfl, rfl⟩)
        | (rw [PS.write_broken (by assumption) (by assumption) (by assumption)]; exact ⟨rfl, rfl⟩)
        | (rw [PS.write_again (by assumption) (by assumption) (by assumption) ⟨by assumption, by first | omega | (have hq := _root_.mt he.2 (by assumption); omega)⟩]; exact ⟨rfl, rfl⟩)
        | (rw [PS.write_ok (by assumption) (by assumption) (by assumption) (by first | omega | (have hq := he.1 (Decidable.not_not.1 (by assumption)); omega))]; exact ⟨rfl, rfl⟩)
      · skip
        refine ld .here (encP.ld_p_I_b _ _ (by omega)) ?_
        refine sd (by omega) ?_
        refine sp 43 rfl ?_ ?_ <;> intro h6
        · skip
          refine cd rfl ?_ ?_ <;> intro h7
          · skip
            refine XE.ret2 rfl rfl rfl (post_of .h1 rfl ?_)
            try dsimp only [SW.den, SV.den, dens, ofC]
            first
            | (rw [PS.write_err (by assumption)]; exact ⟨by show _ = Value.tuple #[_, errv 102 (s.is n)]; rw [errv_pos _ (by assumption)], rfl⟩)
            | (rw [PS.write_state (by assumption) (by assumption)]; exact ⟨rfl, rfl⟩)
            | (rw [PS.write_broken (by assumption) (by assumption) (by assumption)]; exact ⟨rfl, rfl⟩)
            | (rw [PS.write_again (by assumption) (by assumption) (by assumption) ⟨by assumption, by first | omega | (have hq := _root_.mt he.2 (by assumption); omega)⟩]; exact ⟨rfl, rfl⟩)
            | (rw [PS.write_ok (by assumption) (by assumption) (by assumption) (by first | omega | (have hq := he.1 (Decidable.not_not.1 (by assumption)); omega))]; exact ⟨rfl, rfl⟩)
          · skip
            refine rq [0, 1, 2, 3, 4, 5, 6, 7, 8, 9, 10] mixed (by kernel_rfl) ?_
            refine ld .here (encP.ld_p_I_b _ _ (by omega)) ?_
            refine sd (by omega) ?_
            refine sd (by simp only [ByteArray.size_extract]; omega) ?_
            refine st .here (encP.st_p_I_b _ _ (by omega) _) rfl ?_
            refine XE.ret2 rfl rfl rfl (post_of .h1 rfl ?_)
            try dsimp only [SW.den, SV.den, dens, ofC]
            first
            | (rw [PS.write_err (by assumption)]; exact ⟨by show _ = Value.tuple #[_, errv 102 (s.is n)]; rw [errv_pos _ (by assumption)], rfl⟩)
            | (rw [PS.write_state (by assumption) (by assumption)]; exact ⟨rfl, rfl⟩)
            | (rw [PS.write_broken (by assumption) (by assumption) (by assumption)]; exact ⟨rfl, rfl⟩)
            | (rw [PS.write_again (by assumption) (by assumption) (by assumption) ⟨by assumption, by first | omega | (have hq := _root_.mt he.2 (by assumption); omega)⟩]; exact ⟨rfl, rfl⟩)
            | (rw [PS.write_ok (by assumption) (by assumption) (by assumption) (by first | omega | (have hq := he.1 (Decidable.not_not.1 (by assumption)); omega))]; exact ⟨rfl, rfl⟩)
        · skip
          refine rq [0, 1, 2, 3, 4, 5, 6, 7, 8, 9, 10] mixed (by kernel_rfl) ?_
          refine ld .here (encP.ld_p_I_b _ _ (by omega)) ?_
          refine sd (by omega) ?_
          refine sd (by simp only [ByteArray.size_extract]; omega) ?_
          refine st .here (encP.st_p_I_b _ _ (by omega) _) rfl ?_
          refine XE.ret2 rfl rfl rfl (post_of .h1 rfl ?_)
          try dsimp only [SW.den, SV.den, dens, ofC]
          first
          | (rw [PS.write_err (by assumption)]; exact ⟨by show _ = Value.tuple #[_, errv 102 (s.is n)]; rw [errv_pos _ (by assumption)], rfl⟩)
          | (rw [PS.write_state (by assumption) (by assumption)]; exact ⟨rfl, rfl⟩)
          | (rw [PS.write_broken (by assumption) (by assumption) (by assumption)]; exact ⟨rfl, rfl⟩)
          | (rw [PS.write_again (by assumption) (by assumption) (by assumption) ⟨by assumption, by first | omega | (have hq := _root_.mt he.2 (by assumption); omega)⟩]; exact ⟨rfl, rfl⟩)
          | (rw [PS.write_ok (by assumption) (by assumption) (by assumption) (by first | omega | (have hq := he.1 (Decidable.not_not.1 (by assumption)); omega))]; exact ⟨rfl, rfl⟩)
  · skip
    try dsimp only [errvL0, errvL1, errvL2, errvL3, errvL4, errvL5, errvL6, errvL7, errvL8, errvL9, errvL10, errvL11, errvL12, errvL13]
    refine gO ?_
    refine XE.ret2 rfl rfl rfl (post_of .h1 rfl ?_)
    try dsimp only [SW.den, SV.den, dens, ofC]
    first
    | (rw [PS.write_err (by assumption)]; exact ⟨by show _ = Value.tuple #[_, errv 102 (s.is n)]; rw [errv_pos _ (by assumption)], rfl⟩)
    | (rw [PS.write_state (by assumption) (by assumption)]; exact ⟨rfl, rfl⟩)
    | (rw [PS.write_broken (by assumption) (by assumption) (by assumption)]; exact ⟨rfl, rfl⟩)
    | (rw [PS.write_again (by assumption) (by assumption) (by assumption) ⟨by assumption, by first | omega | (have hq := _root_.mt he.2 (by assumption); omega)⟩]; exact ⟨rfl, rfl⟩)
    | (rw [PS.write_ok (by assumption) (by assumption) (by assumption) (by first | omega | (have hq := he.1 (Decidable.not_not.1 (by assumption)); omega))]; exact ⟨rfl, rfl⟩)

end Go.X.Tr

namespace Go.X.Tr
open Go Go.Proofs Go.X
set_option maxRecDepth 20000
set_option maxHeartbeats 4000000

theorem p_Drop (b o : Nat) (K : Int) (hK : K ≤ 1000000) (s : PS) (hI : s.Inv K) (n : Int) (w : Bool) : Spec Tryz.prog 145 [ptr b o 0, .int .i64 n, .bool w] [.cells b o 24 (encP s)] (fun v H1 => v = errv 102 (s.turn n w (-1)).1 ∧ H1 = [.cells b o 24 (encP (s.turn n w (-1)).2)]) := by
  cases w
  · exact p_Drop_false b o K hK s hI n
  · exact p_Drop_true b o K hK s hI n
theorem f_is (bo oo bf bp : Nat) (O : OS) (n : Int) : Spec Tryz.prog 125 [ptr bo oo 0, .int .i64 n]
 [.cells bo oo 122 (encO bf bp O)]
 (fun v H1 => ((O.is n = 0 ∧ 0 ≤ n ∧ n < 24) ∧ v = .tuple #[ptr bo oo (0 + 2 + n.toNat * 5), .nilIface] ∧ H1 = [.cells bo oo 122 (encO bf bp O)]) ∨ (O.is n ≠ 0 ∧ v = .tuple #[.pointer none, .iface 102 (.int .i64 (O.is n))] ∧ H1 = [.cells bo oo 122 (encO bf bp O)])) := by
  refine Spec.go 27 [0, 1, 4, 5, 11, 20] [] Tryz.func125 rfl rfl rfl ?_
  intro W
  refine sp 8 rfl ?_ ?_ <;> intro h1
  · skip
    refine XE.ret2 rfl rfl rfl (post_of .h1 rfl ?_)
    try dsimp only [SW.den, SV.den, dens, ofC]
    rcases OS.is_cases O n with ⟨q0, q1⟩ | ⟨q0, q1⟩ | ⟨q0, q1⟩ <;> first | (exfalso; omega) | exact .inl ⟨⟨q0, by omega, by omega⟩, rfl, rfl⟩ | exact .inr ⟨by omega, by rw [q0], rfl⟩
  · skip
    refine cd rfl ?_ ?_ <;> intro h2
    · skip
      refine XE.ret2 rfl rfl rfl (post_of .h1 rfl ?_)
      try dsimp only [SW.den, SV.den, dens, ofC]
      rcases OS.is_cases O n with ⟨q0, q1⟩ | ⟨q0, q1⟩ | ⟨q0, q1⟩ <;> first | (exfalso; omega) | exact .inl ⟨⟨q0, by omega, by omega⟩, rfl, rfl⟩ | exact .inr ⟨by omega, by rw [q0], rfl⟩
    · skip
      refine sd (by omega) ?_
      refine ld .here (encO.ld_o_refs _ _ (by omega)) ?_
      refine cd rfl ?_ ?_ <;> intro h3
      · skip
        refine XE.ret2 rfl rfl rfl (post_of .h1 rfl ?_)
        try dsimp only [SW.den, SV.den, dens, ofC]
        rcases OS.is_cases O n with ⟨q0, q1⟩ | ⟨q0, q1⟩ | ⟨q0, q1⟩ <;> first | (exfalso; omega) | exact .inl ⟨⟨q0, by omega, by omega⟩, rfl, rfl⟩ | exact .inr ⟨by omega, by rw [q0], rfl⟩
      · skip
        refine sd (by omega) ?_
        refine XE.ret2 rfl rfl rfl (post_of .h1 rfl ?_)
        try dsimp only [SW.den, SV.den, dens, ofC]
        rcases OS.is_cases O n with ⟨q0, q1⟩ | ⟨q0, q1⟩ | ⟨q0, q1⟩ <;> first | (exfalso; omega) | exact .inl ⟨⟨q0, by omega, by omega⟩, rfl, rfl⟩ | exact .inr ⟨by omega, by rw [q0], rfl⟩
theorem f_free (bo oo bf bp : Nat) (O : OS) (m : Int) : Spec Tryz.prog 134 [ptr bo oo 0, .int .i64 m]
 [.cells bo oo 122 (encO bf bp O)]
 (fun v H1 => (((O.freeT m 24).length : Int) < m ∧ v = .slice none 0 0 ∧ H1 = [.cells bo oo 122 (encO bf bp O)]) ∨ (¬ ((O.freeT m 24).length : Int) < m ∧ ∃ p c, v = .slice p (O.freeT m 24).length c ∧ H1 = [irow p c 3 (O.freeT m 24), .cells bo oo 122 (encO bf bp O)])) := by
  refine Spec.go 34 [0, 1, 4, 5, 6, 7, 8, 23, 32] [] Tryz.func134 rfl rfl rfl ?_
  intro W
  refine XR.nilRow 3 1 ?_
  refine lp (σ := Int × Option Addr × Nat) (fun x => (24 - x.1).toNat) (fun x => 0 ≤ x.1 ∧ x.1 ≤ 24) (fun x => [(5, .slice x.2.1 (O.freeT m x.1.toNat).length x.2.2), (7, .int .i64 x.1), (0, ptr bo oo 0), (1, .int .i64 m)]) (fun x => XM W (foot [.cells bo oo 122 (encO bf bp O)]) [irow x.2.1 x.2.2 3 (O.freeT m x.1.toNat), .cells bo oo 122 (encO bf bp O)]) ((0, none, 0)) ?_ (S4 rfl rfl rfl rfl) (fun _ hw => XM.pick .h2 hw) ?_
  · skip
    exact ⟨by omega, by omega⟩
  intro x hx
  obtain ⟨hx0, hx1⟩ := hx
  have hst := O.freeT_next m hx0
  have hln := O.freeT_len m x.1.toNat
  refine gC ?_
  refine cd rfl ?_ ?_ <;> intro h1
  · skip
    refine sd (by omega) ?_
    refine ld (.there .here) (encO.ld_o_refs _ _ (by omega)) ?_
    refine sp 18 rfl ?_ ?_ <;> intro h2
    · skip
      refine cd rfl ?_ ?_ <;> intro h3
      · skip
        have e1 : O.freeT m (x.1 + 1).toNat = O.freeT m x.1.toNat ++ [x.1] := by rw [hst, if_pos ⟨by assumption, by assumption⟩]
        refine XO.buildSlice (A := #[.int .i64 _]) (vs := #[(0, .int .i64 _)]) rfl (bs1_55 _) rfl rfl ?_
        intro h4
        refine gO ?_
        refine XO.appendI (e := 3) rfl rfl Tryz.underlying55 rt_3_1 (.there .here) .here (by omega) rfl ?_
        intro pa ca
        refine gO ?_
        refine sd (by omega) ?_
        refine ag ((x.1 + 1, pa, ca)) ?_ ?_ (S4 (by rw [e1]; try rfl) rfl rfl rfl) (fun _ hw => by rw [e1]; exact XM.pick (.cons .here (.cons (.there .here) .nil)) hw)
        · skip
          (first | omega | (simp; done) | (simp; omega))
        · skip
          (first | omega | (simp; done) | (simp; omega))
      · skip
        have e1 : O.freeT m (x.1 + 1).toNat = O.freeT m x.1.toNat := by rw [hst, if_neg (fun q => absurd q.2 (by assumption))]
        refine sd (by omega) ?_
        refine ag ((x.1 + 1, x.2.1, x.2.2)) ?_ ?_ (S4 (by rw [e1]; try rfl) rfl rfl rfl) (fun _ hw => by rw [e1]; exact XM.pick .h2 hw)
        · skip
          (first | omega | (simp; done) | (simp; omega))
        · skip
          (first | omega | (simp; done) | (simp; omega))
    · skip
      have e1 : O.freeT m (x.1 + 1).toNat = O.freeT m x.1.toNat := by rw [hst, if_neg (fun q => absurd q.1 (by assumption))]
      refine sd (by omega) ?_
      refine ag ((x.1 + 1, x.2.1, x.2.2)) ?_ ?_ (S4 (by rw [e1]; try rfl) rfl rfl rfl) (fun _ hw => by rw [e1]; exact XM.pick .h2 hw)
      · skip
        (first | omega | (simp; done) | (simp; omega))
      · skip
        (first | omega | (simp; done) | (simp; omega))
  · skip
    have e24 : x.1 = 24 := by omega
    rw [e24]
    refine cd rfl ?_ ?_ <;> intro h7
    · skip
      refine XE.ret1 rfl rfl (post_of (.cons (.there .here) .nil) rfl ?_)
      try dsimp only [SW.den, SV.den, dens, ofC]
      exact .inl ⟨by assumption, rfl, rfl⟩
    · skip
      refine XE.ret1 rfl rfl (post_of .h2 rfl ?_)
      try dsimp only [SW.den, SV.den, dens, ofC]
      exact .inr ⟨by assumption, _, _, rfl, rfl⟩
theorem f_Share (bo oo bf bp : Nat) (O : OS) (J : Int) (hJ : J ≤ 1000000) (hO : O.Inv J) (n : Int) : Spec Tryz.prog 59 [ptr bo oo 0, .int .i64 n]
 [.cells bo oo 122 (encO bf bp O)]
 (fun v H1 => v = errv 102 (O.is n) ∧ H1 = [.cells bo oo 122 (encO bf bp (shareO O n))]) := by
  refine Spec.go 23 [0, 1, 4, 5, 6, 14] [] Tryz.func59 rfl rfl rfl ?_
  intro W
  refine ca (f_is _ _ _ _ _ _) .h1 ?_
  rintro _ _ (⟨⟨i0, i1, i2⟩, rfl, rfl⟩ | ⟨i0, rfl, rfl⟩)
  · skip
    try dsimp only [errvL0, errvL1, errvL2, errvL3, errvL4, errvL5, errvL6, errvL7, errvL8, errvL9, errvL10, errvL11, errvL12, errvL13]
    have hrb := hO.refs n i1 i2
    refine gO ?_
    refine ld .here (encO.ld_o_refs _ _ (by omega)) ?_
    refine sd (by omega) ?_
    refine st .here (encO.st_o_refs _ _ (by omega) _) rfl ?_
    refine XE.ret1 rfl rfl (post_of .h1 rfl ?_)
    try dsimp only [SW.den, SV.den, dens, ofC]
    exact ⟨by rw [i0]; rfl, by unfold shareO; rw [if_pos i0]⟩
  · skip
    try dsimp only [errvL0, errvL1, errvL2, errvL3, errvL4, errvL5, errvL6, errvL7, errvL8, errvL9, errvL10, errvL11, errvL12, errvL13]
    refine gO ?_
    refine XE.ret1 rfl rfl (post_of .h1 rfl ?_)
    try dsimp only [SW.den, SV.den, dens, ofC]
    exact ⟨by rw [errv_pos _ i0], by unfold shareO; rw [if_neg i0]⟩
end Go.X.Tr

namespace Go.X.Tr
open Go Go.Proofs Go.X
set_option maxRecDepth 20000
set_option maxHeartbeats 4000000

def arrO (bf bp : Nat) : Array Value := ((List.range 122).map (encO bf bp OS.void)).toArray
theorem arrO_size (bf bp : Nat) : (arrO bf bp).size = 122 := by simp [arrO]
theorem arrO_box (bf bp : Nat) : ∀ i, i < 122 → cellsOf (arrO bf bp) i = encO bf bp OS.void i := fun i hi => by simp [cellsOf, arrO, hi]
theorem f_Write (bo oo bf bp : Nat) (O : OS) (J : Int) (hJ : J ≤ 1000000) (hO : O.Inv J) (s : FC) (hI : s.toFF.Sh) (K : Int) (hK : K ≤ 1000000) (q : PS) (hq : q.Inv K) (n : Int) (x : ByteArray) (hx : x.size ≤ 1000000) : Spec Tryz.prog 70 [ptr bo oo 0, .int .i64 n, .string x]
 [.cells bo oo 122 (encO bf bp O), .cells bf 0 321 (encF s), .fam fam40 (FC.rowsN 9 s), .fam fam40 (FC.rowsK 3 s), .cells bp 0 24 (encP q)]
 (fun v H1 => v = .tuple #[.int .i64 (owriteV s.toFF q O n x), errv 102 (owriteE s.toFF q O n x)] ∧ ∃ t : FC, t.toFF = owriteF s.toFF O n x ∧ t.rP = s.rP ∧ t.rC = s.rC ∧ H1 = [.cells bo oo 122 (encO bf bp (owriteO s.toFF O n x)), .cells bf 0 321 (encF t), .fam fam40 (FC.rowsN 9 t), .fam fam40 (FC.rowsK 3 t), .cells bp 0 24 (encP (owriteP q O n x))]) := by
  refine Spec.go 79 [0, 1, 2, 6, 7, 8, 9, 17, 19, 37, 66] [] Tryz.func70 rfl rfl rfl ?_
  intro W
  refine ca (f_is _ _ _ _ _ _) .h1 ?_
  rintro _ _ (⟨⟨i0, i1, i2⟩, rfl, rfl⟩ | ⟨i0, rfl, rfl⟩)
  · skip
    try dsimp only [errvL0, errvL1, errvL2, errvL3, errvL4, errvL5, errvL6, errvL7, errvL8, errvL9, errvL10, errvL11, errvL12, errvL13]
    have hra := hO.refs n i1 i2
    have haa := hO.at_ n i1 i2
    have hka := hO.kind n i1 i2 (OS.is_0 i0).2.2
    refine gO ?_
    refine ld .here (encO.ld_o_kind _ _ (by omega)) ?_
    refine cd rfl ?_ ?_ <;> intro h1
    · skip
      refine rq [0, 1, 2, 3, 4, 5, 6, 7, 8, 9, 10, 11, 12, 13] mixed (by kernel_rfl) ?_
      refine ld .here (encO.ld_p _) ?_
      refine ld .here (encO.ld_o_n _ _ (by omega)) ?_
      refine ca (p_Write _ _ K hK q hq _ _ hx) (.cons (.t4 .here) .nil) ?_
      rintro _ _ ⟨rfl, rfl⟩
      refine gO ?_
      refine XE.ret2 rfl rfl rfl (post_of (.cons (.there .here) (.cons (.there .here) (.cons (.there .here) (.cons (.there .here) .h1)))) rfl ?_)
      try dsimp only [SW.den, SV.den, dens, ofC]
      have hk : O.kind n = 3 := by assumption
      have eE : owriteE s.toFF q O n x = (q.write (O.n n) x).2.1 := by unfold owriteE; rw [if_neg (by omega), if_pos hk]
      have eV : owriteV s.toFF q O n x = (q.write (O.n n) x).1 := by unfold owriteV; rw [if_pos ⟨i0, hk⟩]
      have eF : owriteF s.toFF O n x = s.toFF := by unfold owriteF; rw [if_neg (fun h => h.2.1 hk)]
      have eO : owriteO s.toFF O n x = O := by unfold owriteO; rw [if_neg (fun h => h.1.2.1 hk)]
      have eP : owriteP q O n x = (q.write (O.n n) x).2.2 := by unfold owriteP; rw [if_pos ⟨i0, hk⟩]
      exact ⟨by rw [eE, eV], s, by rw [eF], rfl, rfl, by rw [eO, eP]⟩
    · skip
      refine ld .here (encO.ld_o_kind _ _ (by omega)) ?_
      refine sp 43 rfl ?_ ?_ <;> intro h2
      · skip
        refine XE.ret2 rfl rfl rfl (post_of .h5 rfl ?_)
        try dsimp only [SW.den, SV.den, dens, ofC]
        have hk : ¬ O.kind n = 3 := by assumption
        have h2 : O.kind n = 2 := by assumption
        have eE : owriteE s.toFF q O n x = 8 := by unfold owriteE; rw [if_neg (by omega), if_neg hk, if_pos (.inl h2)]
        have eV : owriteV s.toFF q O n x = 0 := by unfold owriteV; rw [if_neg (fun h => hk h.2), if_neg (fun h => h.1.2.2 (.inl h2))]
        have eF : owriteF s.toFF O n x = s.toFF := by unfold owriteF; rw [if_neg (fun h => h.2.2 (.inl h2))]
        have eO : owriteO s.toFF O n x = O := by unfold owriteO; rw [if_neg (fun h => h.1.2.2 (.inl h2))]
        have eP : owriteP q O n x = q := by unfold owriteP; rw [if_neg (fun h => hk h.2)]
        exact ⟨by rw [eE, eV]; rfl, s, by rw [eF], rfl, rfl, by rw [eO, eP]⟩
      · skip
        skip
        refine ld .here (encO.ld_o_write _ _ (by omega)) ?_
        refine cdB rfl ?_ ?_ <;> intro h3
        · try simp only [sb] at h3
          have hwf : O.write n = false := by simpa using h3
          refine XE.ret2 rfl rfl rfl (post_of .h5 rfl ?_)
          try dsimp only [SW.den, SV.den, dens, ofC]
          have hk : ¬ O.kind n = 3 := by assumption
          have eE : owriteE s.toFF q O n x = 8 := by unfold owriteE; rw [if_neg (by omega), if_neg hk, if_pos (.inr hwf)]
          have eV : owriteV s.toFF q O n x = 0 := by unfold owriteV; rw [if_neg (fun h => hk h.2), if_neg (fun h => h.1.2.2 (.inr hwf))]
          have eF : owriteF s.toFF O n x = s.toFF := by unfold owriteF; rw [if_neg (fun h => h.2.2 (.inr hwf))]
          have eO : owriteO s.toFF O n x = O := by unfold owriteO; rw [if_neg (fun h => h.1.2.2 (.inr hwf))]
          have eP : owriteP q O n x = q := by unfold owriteP; rw [if_neg (fun h => hk h.2)]
          exact ⟨by rw [eE, eV]; rfl, s, by rw [eF], rfl, rfl, by rw [eO, eP]⟩
        · try simp only [sb] at h3
          have hwt : O.write n = true := by simpa using h3
          refine rq [0, 1, 2, 3, 4, 5, 6, 7, 8, 9, 10, 11, 12, 13, 14] mixed (by kernel_rfl) ?_
          refine ld .here (encO.ld_f _) ?_
          refine ld .here (encO.ld_o_n _ _ (by omega)) ?_
          refine ld .here (encO.ld_o_at _ _ (by omega)) ?_
          refine ca (t_Write _ _ _ hI _ _ _ (by omega)) (.cons (.there .here) (.cons (.there .here) (.cons (.there .here) .nil))) ?_
          rintro _ _ ⟨rfl, t, ht, tp, tc, rfl⟩
          refine gO ?_
          refine cd rfl ?_ ?_ <;> intro h4
          · skip
            refine XE.ret2 rfl rfl rfl (post_of (.cons (.t3 .here) .h4) rfl ?_)
            try dsimp only [SW.den, SV.den, dens, ofC]
            have hk : ¬ O.kind n = 3 := by assumption
            have h2 : ¬ O.kind n = 2 := by assumption
            have hfw : fileW O n := ⟨i0, hk, fun h => by rcases h with h | h; exact h2 h; rw [hwt] at h; cases h⟩
            have hwe : s.toFF.writeE (O.n n) (O.at_ n) x ≠ 0 := by assumption
            have eE : owriteE s.toFF q O n x = s.toFF.writeE (O.n n) (O.at_ n) x := by unfold owriteE; rw [if_neg (by omega), if_neg hk, if_neg hfw.2.2]
            have eV : owriteV s.toFF q O n x = 0 := by unfold owriteV; rw [if_neg (fun h => hk h.2), if_neg (fun h => hwe h.2)]
            have eF : owriteF s.toFF O n x = s.toFF.write (O.n n) (O.at_ n) x := by unfold owriteF; rw [if_pos hfw]
            have eO : owriteO s.toFF O n x = O := by unfold owriteO; rw [if_neg (fun h => hwe h.2)]
            have eP : owriteP q O n x = q := by unfold owriteP; rw [if_neg (fun h => hk h.2)]
            exact ⟨by rw [eE, eV], t, by rw [eF]; exact ht, tp, tc, by rw [eO, eP]⟩
          · skip
            refine ld (.t3 .here) (encO.ld_o_at _ _ (by omega)) ?_
            refine sd (by omega) ?_
            refine st (.t3 .here) (encO.st_o_at _ _ (by omega) _) rfl ?_
            refine XE.ret2 rfl rfl rfl (post_of (.cons (.t3 .here) .h4) rfl ?_)
            try dsimp only [SW.den, SV.den, dens, ofC]
            have hk : ¬ O.kind n = 3 := by assumption
            have h2 : ¬ O.kind n = 2 := by assumption
            have hfw : fileW O n := ⟨i0, hk, fun h => by rcases h with h | h; exact h2 h; rw [hwt] at h; cases h⟩
            have hwe : s.toFF.writeE (O.n n) (O.at_ n) x = 0 := Decidable.byContradiction (by assumption)
            have eE : owriteE s.toFF q O n x = 0 := by unfold owriteE; rw [if_neg (by omega), if_neg hk, if_neg hfw.2.2, hwe]
            have eV : owriteV s.toFF q O n x = (x.size : Int) := by unfold owriteV; rw [if_neg (fun h => hk h.2), if_pos ⟨hfw, hwe⟩]
            have eF : owriteF s.toFF O n x = s.toFF.write (O.n n) (O.at_ n) x := by unfold owriteF; rw [if_pos hfw]
            have eO : owriteO s.toFF O n x = O.move n (x.size) := by unfold owriteO; rw [if_pos ⟨hfw, hwe⟩]
            have eP : owriteP q O n x = q := by unfold owriteP; rw [if_neg (fun h => hk h.2)]
            exact ⟨by rw [eE, eV]; rfl, t, by rw [eF]; exact ht, tp, tc, by rw [eO, eP]; rfl⟩
  · skip
    try dsimp only [errvL0, errvL1, errvL2, errvL3, errvL4, errvL5, errvL6, errvL7, errvL8, errvL9, errvL10, errvL11, errvL12, errvL13]
    refine gO ?_
    refine XE.ret2 rfl rfl rfl (post_of .h5 rfl ?_)
    try dsimp only [SW.den, SV.den, dens, ofC]
    have eE : owriteE s.toFF q O n x = O.is n := by unfold owriteE; rw [if_pos i0]
    have eV : owriteV s.toFF q O n x = 0 := by unfold owriteV; rw [if_neg (fun h => i0 h.1), if_neg (fun h => i0 h.1.1)]
    have eF : owriteF s.toFF O n x = s.toFF := by unfold owriteF; rw [if_neg (fun h => i0 h.1)]
    have eO : owriteO s.toFF O n x = O := by unfold owriteO; rw [if_neg (fun h => i0 h.1.1)]
    have eP : owriteP q O n x = q := by unfold owriteP; rw [if_neg (fun h => i0 h.1)]
    exact ⟨by rw [eE, eV, errv_pos _ i0], s, by rw [eF], rfl, rfl, by rw [eO, eP]⟩
theorem f_Read (bo oo bf bp : Nat) (O : OS) (J : Int) (hJ : J ≤ 1000000) (hO : O.Inv J) (s : FC) (hI : s.toFF.Sh) (K : Int) (hK : K ≤ 1000000) (q : PS) (hq : q.Inv K) (n m : Int) : Spec Tryz.prog 72 [ptr bo oo 0, .int .i64 n, .int .i64 m]
 [.cells bo oo 122 (encO bf bp O), .cells bf 0 321 (encF s), .fam fam40 (FC.rowsN 9 s), .fam fam40 (FC.rowsK 3 s), .cells bp 0 24 (encP q)]
 (fun v H1 => v = .tuple #[.string (oreadV s.toFF q O n m), errv 102 (oreadE s.toFF q O n m)] ∧ H1 = [.cells bo oo 122 (encO bf bp (oreadO s.toFF O n m)), .cells bf 0 321 (encF s), .fam fam40 (FC.rowsN 9 s), .fam fam40 (FC.rowsK 3 s), .cells bp 0 24 (encP (oreadP q O n m))]) := by
  refine Spec.go 69 [0, 1, 2, 6, 7, 8, 9, 10, 18, 23, 24, 27] [] Tryz.func72 rfl rfl rfl ?_
  intro W
  refine ca (f_is _ _ _ _ _ _) .h1 ?_
  rintro _ _ (⟨⟨i0, i1, i2⟩, rfl, rfl⟩ | ⟨i0, rfl, rfl⟩)
  · skip
    try dsimp only [errvL0, errvL1, errvL2, errvL3, errvL4, errvL5, errvL6, errvL7, errvL8, errvL9, errvL10, errvL11, errvL12, errvL13]
    have hra := hO.refs n i1 i2
    have haa := hO.at_ n i1 i2
    have hka := hO.kind n i1 i2 (OS.is_0 i0).2.2
    refine gO ?_
    refine ld .here (encO.ld_o_kind _ _ (by omega)) ?_
    refine cd rfl ?_ ?_ <;> intro h1
    · skip
      refine XE.ret2 rfl rfl rfl (post_of .h5 rfl ?_)
      try dsimp only [SW.den, SV.den, dens, ofC]
      have hk : O.kind n = 3 := by assumption
      have eE : oreadE s.toFF q O n m = 8 := by unfold oreadE; rw [if_neg (by omega), if_pos hk]
      have eV : oreadV s.toFF q O n m = ⟨#[]⟩ := by unfold oreadV; rw [if_neg (by omega), if_pos hk]
      have eO : oreadO s.toFF O n m = O := by unfold oreadO; rw [if_neg (fun h => h.2.1 hk)]
      have eP : oreadP q O n m = q := by unfold oreadP; rw [if_neg (fun h => by omega)]
      exact ⟨by rw [eE, eV]; rfl, by rw [eO, eP]⟩
    · skip
      refine cd rfl ?_ ?_ <;> intro h2
      · skip
        refine rq [0, 1, 2, 3, 4, 5, 6, 7, 8, 9, 10, 11, 12, 13] mixed (by kernel_rfl) ?_
        refine ld .here (encO.ld_p _) ?_
        refine ld .here (encO.ld_o_n _ _ (by omega)) ?_
        refine ca (p_Read _ _ K hK q hq _ _) (.cons (.t4 .here) .nil) ?_
        rintro _ _ ⟨rfl, rfl⟩
        refine gO ?_
        refine XE.ret2 rfl rfl rfl (post_of (.cons (.there .here) (.cons (.there .here) (.cons (.there .here) (.cons (.there .here) .h1)))) rfl ?_)
        try dsimp only [SW.den, SV.den, dens, ofC]
        have hk : ¬ O.kind n = 3 := by assumption
        have h2 : O.kind n = 2 := by assumption
        have eE : oreadE s.toFF q O n m = (q.read (O.n n) m).2.1 := by unfold oreadE; rw [if_neg (by omega), if_neg hk, if_pos h2]
        have eV : oreadV s.toFF q O n m = (q.read (O.n n) m).1 := by unfold oreadV; rw [if_neg (by omega), if_neg hk, if_pos h2]
        have eO : oreadO s.toFF O n m = O := by unfold oreadO; rw [if_neg (fun h => h.2.2 h2)]
        have eP : oreadP q O n m = (q.read (O.n n) m).2.2 := by unfold oreadP; rw [if_pos ⟨i0, h2⟩]
        exact ⟨by rw [eE, eV], by rw [eO, eP]⟩
      · skip
        refine rq [0, 1, 2, 3, 4, 5, 6, 7, 8, 9, 10, 11, 12, 13, 14, 15, 16, 17, 18] mixed (by kernel_rfl) ?_
        refine ld .here (encO.ld_f _) ?_
        refine ld .here (encO.ld_o_n _ _ (by omega)) ?_
        refine ld .here (encO.ld_o_at _ _ (by omega)) ?_
        refine ca (t_Read _ _ _ hI _ _ _) (.cons (.there .here) .nil) ?_
        rintro _ _ ⟨rfl, rfl⟩
        have hrl := FF.readV_le hI (O.n n) (O.at_ n) m
        refine gO ?_
        refine ld (.there .here) (encO.ld_o_at _ _ (by omega)) ?_
        refine sd (by omega) ?_
        refine st (.there .here) (encO.st_o_at _ _ (by omega) _) rfl ?_
        refine XE.ret2 rfl rfl rfl (post_of (.cons (.there .here) .h4) rfl ?_)
        try dsimp only [SW.den, SV.den, dens, ofC]
        have hk : ¬ O.kind n = 3 := by assumption
        have h2 : ¬ O.kind n = 2 := by assumption
        have eE : oreadE s.toFF q O n m = s.toFF.readE (O.n n) (O.at_ n) m := by unfold oreadE; rw [if_neg (by omega), if_neg hk, if_neg h2]
        have eV : oreadV s.toFF q O n m = s.toFF.readV (O.n n) (O.at_ n) m := by unfold oreadV; rw [if_neg (by omega), if_neg hk, if_neg h2]
        have eO : oreadO s.toFF O n m = O.move n ((s.toFF.readV (O.n n) (O.at_ n) m).size) := by unfold oreadO; rw [if_pos ⟨i0, hk, h2⟩]
        have eP : oreadP q O n m = q := by unfold oreadP; rw [if_neg (fun h => h2 h.2)]
        exact ⟨by rw [eE, eV], by rw [eO, eP]; rfl⟩
  · skip
    try dsimp only [errvL0, errvL1, errvL2, errvL3, errvL4, errvL5, errvL6, errvL7, errvL8, errvL9, errvL10, errvL11, errvL12, errvL13]
    refine gO ?_
    refine XE.ret2 rfl rfl rfl (post_of .h5 rfl ?_)
    try dsimp only [SW.den, SV.den, dens, ofC]
    have eE : oreadE s.toFF q O n m = O.is n := by unfold oreadE; rw [if_pos i0]
    have eV : oreadV s.toFF q O n m = ⟨#[]⟩ := by unfold oreadV; rw [if_pos i0]
    have eO : oreadO s.toFF O n m = O := by unfold oreadO; rw [if_neg (fun h => i0 h.1)]
    have eP : oreadP q O n m = q := by unfold oreadP; rw [if_neg (fun h => i0 h.1)]
    exact ⟨by rw [eE, eV, errv_pos _ i0], by rw [eO, eP]⟩
theorem f_Close (bo oo bf bp : Nat) (O : OS) (J : Int) (hJ : J ≤ 1000000) (hO : O.Inv J) (s : FC) (hI : s.toFF.Sh) (K : Int) (hK : K ≤ 1000000) (q : PS) (hq : q.Inv K) (n : Int) : Spec Tryz.prog 76 [ptr bo oo 0, .int .i64 n]
 [.cells bo oo 122 (encO bf bp O), .cells bf 0 321 (encF s), .fam fam40 (FC.rowsN 9 s), .fam fam40 (FC.rowsK 3 s), .cells bp 0 24 (encP q)]
 (fun v H1 => v = errv 102 (closeE s.toFF q O n) ∧ ∃ t : FC, t.toFF = closeF s.toFF O n ∧ t.rP = s.rP ∧ t.rC = s.rC ∧ H1 = [.cells bo oo 122 (encO bf bp (closeO O n)), .cells bf 0 321 (encF t), .fam fam40 (FC.rowsN 9 t), .fam fam40 (FC.rowsK 3 t), .cells bp 0 24 (encP (closeP q O n))]) := by
  refine Spec.go 55 [0, 1, 4, 5, 6, 7, 15, 28, 37] [] Tryz.func76 rfl rfl rfl ?_
  intro W
  refine ca (f_is _ _ _ _ _ _) .h1 ?_
  rintro _ _ (⟨⟨i0, i1, i2⟩, rfl, rfl⟩ | ⟨i0, rfl, rfl⟩)
  · skip
    try dsimp only [errvL0, errvL1, errvL2, errvL3, errvL4, errvL5, errvL6, errvL7, errvL8, errvL9, errvL10, errvL11, errvL12, errvL13]
    have hra := hO.refs n i1 i2
    have haa := hO.at_ n i1 i2
    have hka := hO.kind n i1 i2 (OS.is_0 i0).2.2
    refine gO ?_
    refine ld .here (encO.ld_o_refs _ _ (by omega)) ?_
    refine sd (by omega) ?_
    refine st .here (encO.st_o_refs _ _ (by omega) _) rfl ?_
    refine ld .here (encO.ld_o_refs _ _ (by omega)) ?_
    refine cd rfl ?_ ?_ <;> intro h1
    · skip
      have e9 : fset O.refs n (O.refs n - 1) n = O.refs n - 1 := fset_eq _ _ _
      have h9 : fset O.refs n (O.refs n - 1) n > 0 := h1
      have hrg : 0 < O.refs n - 1 := by omega
      refine XE.ret1 rfl rfl (post_of .h5 rfl ?_)
      try dsimp only [SW.den, SV.den, dens, ofC]
      have eE : closeE s.toFF q O n = 0 := by unfold closeE; rw [if_neg (by omega), if_pos hrg]
      have eF : closeF s.toFF O n = s.toFF := by unfold closeF; rw [if_neg (fun h => h.1.2 hrg)]
      have eP : closeP q O n = q := by unfold closeP; rw [if_neg (fun h => h.1.2 hrg)]
      have eO : closeO O n = downO O n := by unfold closeO; rw [if_neg (by omega), if_pos hrg]
      exact ⟨by rw [eE]; rfl, s, by rw [eF], rfl, rfl, by rw [eO, eP]; rfl⟩
    · skip
      have e9 : fset O.refs n (O.refs n - 1) n = O.refs n - 1 := fset_eq _ _ _
      have h9 : ¬ fset O.refs n (O.refs n - 1) n > 0 := h1
      have hrg : ¬ 0 < O.refs n - 1 := by omega
      refine ldA .here (encO.un_agg _ _ (by omega)) ?_
      refine XO.allocZ (z := .agg (encO.arr ⟨0, 0, 0, false, 0⟩)) (m := 5) (C := encO.cell ⟨0, 0, 0, false, 0⟩) (by kernel_rfl) rfl (encO.box _) rfl ?_
      intro bx
      refine gO ?_
      refine stA .here (encO.ust _ _) rfl ⟨rfl, rfl⟩ ?_
      refine XO.v (V.build (vs := #[]) rfl (v := .agg (encO.arr ⟨0, 0, 0, false, 0⟩)) (fun _ => by kernel_rfl)) rfl (gO ?_)
      refine stA (.there .here) (encO.put (downO O n) n 0 0 false 0 ⟨i1, i2⟩) rfl ⟨rfl, rfl⟩ ?_
      refine ld .here (encO.u_0 _) ?_
      refine cd rfl ?_ ?_ <;> intro h2
      · skip
        refine rq [0, 1, 2, 3, 4, 5, 6, 7] mixed (by kernel_rfl) ?_
        refine ld (.there .here) (encO.ld_f _) ?_
        refine ld .here (encO.u_1 _) ?_
        refine ca (t_Let _ _ _ hI _) (.cons (.t2 .here) (.cons (.t2 .here) (.cons (.t2 .here) .nil))) ?_
        rintro _ _ ⟨rfl, t, ht, tp, tc, rfl⟩
        refine gO ?_
        refine XE.ret1 rfl rfl (post_of (.cons (.t4 .here) (.cons .here (.cons .here (.cons .here (.cons (.there .here) .nil))))) rfl ?_)
        try dsimp only [SW.den, SV.den, dens, ofC]
        have hk : O.kind n = 1 := by assumption
        have eE : closeE s.toFF q O n = s.toFF.letE (O.n n) := by unfold closeE; rw [if_neg (by omega), if_neg hrg, if_pos hk]
        have eF : closeF s.toFF O n = s.toFF.letF (O.n n) := by unfold closeF; rw [if_pos ⟨⟨i0, hrg⟩, hk⟩]
        have eP : closeP q O n = q := by unfold closeP; rw [if_neg (fun h => h.2 hk)]
        have eO : closeO O n = O.clr n := by unfold closeO; rw [if_neg (by omega), if_neg hrg]
        exact ⟨by rw [eE]; rfl, t, by rw [eF]; exact ht, tp, tc, by rw [eO, eP, ← OS.clr_down]; rfl⟩
      · skip
        refine rq [0, 1, 2, 3, 4, 5, 6, 7, 8, 9, 10] mixed (by kernel_rfl) ?_
        refine ld (.there .here) (encO.ld_p _) ?_
        refine ld .here (encO.u_1 _) ?_
        refine ld .here (encO.u_0 _) ?_
        refine ca (p_Drop _ _ K hK q hq _ _) (.cons (.t5 .here) .nil) ?_
        rintro _ _ ⟨rfl, rfl⟩
        refine gO ?_
        refine XE.ret1 rfl rfl (post_of (.cons (.t2 .here) (.cons (.t2 .here) (.cons (.t2 .here) (.cons (.t2 .here) .h1)))) rfl ?_)
        try dsimp only [SW.den, SV.den, dens, ofC]
        have hk : ¬ O.kind n = 1 := by assumption
        have eE : closeE s.toFF q O n = (q.turn (O.n n) (decide (O.kind n = 3)) (-1)).1 := by unfold closeE; rw [if_neg (by omega), if_neg hrg, if_neg hk]
        have eF : closeF s.toFF O n = s.toFF := by unfold closeF; rw [if_neg (fun h => hk h.2)]
        have eP : closeP q O n = (q.turn (O.n n) (decide (O.kind n = 3)) (-1)).2 := by unfold closeP; rw [if_pos ⟨⟨i0, hrg⟩, hk⟩]
        have eO : closeO O n = O.clr n := by unfold closeO; rw [if_neg (by omega), if_neg hrg]
        exact ⟨by rw [eE]; rfl, s, by rw [eF], rfl, rfl, by rw [eO, eP, ← OS.clr_down]; rfl⟩
  · skip
    try dsimp only [errvL0, errvL1, errvL2, errvL3, errvL4, errvL5, errvL6, errvL7, errvL8, errvL9, errvL10, errvL11, errvL12, errvL13]
    refine gO ?_
    refine XE.ret1 rfl rfl (post_of .h5 rfl ?_)
    try dsimp only [SW.den, SV.den, dens, ofC]
    have eE : closeE s.toFF q O n = O.is n := by unfold closeE; rw [if_pos i0]
    have eF : closeF s.toFF O n = s.toFF := by unfold closeF; rw [if_neg (fun h => i0 h.1.1)]
    have eP : closeP q O n = q := by unfold closeP; rw [if_neg (fun h => i0 h.1.1)]
    have eO : closeO O n = O := by unfold closeO; rw [if_pos i0]
    exact ⟨by rw [eE, errv_pos _ i0], s, by rw [eF], rfl, rfl, by rw [eO, eP]⟩
theorem f_New (bf bp : Nat) : Spec Tryz.prog 100 [ptr bf 0 0, ptr bp 0 0]
 []
 (fun v H1 => ∃ b, v = ptr b 0 0 ∧ H1 = [.cells b 0 122 (encO bf bp OS.void)]) := by
  refine Spec.go 9 [0, 1, 4] [] Tryz.func100 rfl rfl rfl ?_
  intro W
  refine XO.v (V.build (vs := #[(0, ptr bf 0 0), (1, ptr bp 0 0)]) rfl (v := .agg (arrO bf bp)) (fun _ => by kernel_rfl)) rfl (gO ?_)
  refine XO.box (m := 122) (C := encO bf bp OS.void) rfl (arrO_size bf bp) (arrO_box bf bp) rfl ?_
  intro b
  refine gO ?_
  refine XE.ret1 rfl rfl (post_of .h1 rfl ?_)
  try dsimp only [SW.den, SV.den, dens, ofC]
  exact ⟨_, rfl, rfl⟩
end Go.X.Tr
