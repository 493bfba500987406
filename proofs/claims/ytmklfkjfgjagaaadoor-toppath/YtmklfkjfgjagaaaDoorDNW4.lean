import Derived.Test.YtmklfkjfgjagaaaDoorDNW3
namespace Go.X
open Go Go.Proofs
theorem cl_24 : callable Tryd.prog 24 = true := by kernel_rfl
theorem cl_30 : callable Tryd.prog 30 = true := by kernel_rfl
theorem cl_31 : callable Tryd.prog 31 = true := by kernel_rfl
set_option maxRecDepth 10000 in
set_option maxHeartbeats 1000000 in
theorem t_Hold (b o : Nat) (s : FC) (hI : s.toFF.Sh) (n : Int) : Spec Tryd.prog 27 [ptr b o 0, .int .i64 n]
    [.cells b o 321 (encF s), .fam fam40 (s.rowsN 9), .fam fam40 (s.rowsK 3)]
    (fun v H1 => v = errv 68 (s.isE n 0) ∧ ∃ t : FC, t.toFF = s.hold n ∧ t.rP = s.rP ∧ t.rC = s.rC ∧ H1 = [.cells b o 321 (encF t), .fam fam40 (FC.rowsN 9 t), .fam fam40 (FC.rowsK 3 t)]) := by
  refine Spec.intro Tryd.func27 rfl rfl ?_
  intro W
  refine XC.seq ?_
  refine XC.region ?_
  refine XO.v (V.assign rfl) rfl ?_
  refine XO.nil ?_
  refine XE.next ?_
  refine XC.keep [(0, _), (1, _)] (Sub.cons rfl (Sub.cons rfl (Sub.nil _))) ?_
  refine XC.seq ?_
  refine XC.region ?_
  refine XO.v (V.move rfl) rfl ?_
  refine XO.v (V.move rfl) rfl ?_
  refine XO.call rfl (t_is _ _ _ _) (.cons .here .nil) cl_36 rfl ?_
  rintro _ _ ⟨rfl, rfl⟩
  refine XO.v (V.assign rfl) rfl ?_
  refine XO.nil ?_
  refine XE.next ?_
  refine XC.keep [(0, _), (1, _), (5, _)] (Sub.cons rfl (Sub.cons rfl (Sub.cons rfl (Sub.nil _)))) ?_
  refine XC.seq ?_
  refine XC.seq ?_
  refine XC.region ?_
  refine XO.v (V.move rfl) rfl ?_
  refine XO.v (V.errNil rfl Tryd.underlying26 rfl) rfl ?_
  refine XO.nil ?_
  refine XE.next ?_
  refine XC.keep [(0, _), (1, _), (5, _), (10, _)] (Sub.cons rfl (Sub.cons rfl (Sub.cons rfl (Sub.cons rfl (Sub.nil _))))) ?_
  refine XC.condP rfl (fun h1 => ?_) (fun h1 => ?_)
  · skip
    obtain ⟨i1, i2, i3⟩ := FF.isE_0 (show s.isE n 0 = 0 by simpa using h1)
    have i0 : s.isE n 0 = 0 := by simpa using h1
    have hnb := hI.num n (by omega) (by omega)
    refine XC.regionQ mixed (f := 13) (l := #[false, false, false, false, false, false, false, false, false, false, false, false, false]) rfl rfl XM.drawn' ?_
    refine XQ.pv (i := 0) (l' := #[true, false, false, false, false, false, false, false, false, false, false, false, false]) rfl (by kernel_rfl) rfl (V.move rfl) rfl rfl ?_
    refine XQ.pv (i := 1) (l' := #[true, true, false, false, false, false, false, false, false, false, false, false, false]) rfl (by kernel_rfl) rfl (V.move rfl) rfl rfl ?_
    refine XQ.pv (i := 2) (l' := #[true, true, true, false, false, false, false, false, false, false, false, false, false]) rfl (by kernel_rfl) rfl (V.nilCheckP rfl) rfl rfl ?_
    refine XQ.pv (i := 3) (l' := #[true, true, true, true, false, false, false, false, false, false, false, false, false]) rfl (by kernel_rfl) rfl (V.fieldAddr rfl fo_67_0) rfl rfl ?_
    refine XQ.pv (i := 4) (l' := #[true, true, true, true, true, false, false, false, false, false, false, false, false]) rfl (by kernel_rfl) rfl (V.indexArr rfl rfl ar_65 (by omega)) rfl rfl ?_
    refine XQ.pv (i := 5) (l' := #[true, true, true, true, true, true, false, false, false, false, false, false, false]) rfl (by kernel_rfl) rfl (V.fieldAddr rfl fo_64_3) rfl rfl ?_
    refine XQ.load (i := 6) (l' := #[true, true, true, true, true, true, true, false, false, false, false, false, false]) (.cells _ _ _ _) [12] rfl (by kernel_rfl) rfl .here (V.load rfl inEnt (encF.ld_n_held _ _ (by omega)) sc_3) rfl (by kernel_rfl) rfl ?_
    refine XQ.pv (i := 7) (l' := #[true, true, true, true, true, true, true, true, false, false, false, false, false]) rfl (by kernel_rfl) rfl (V.add rfl rfl _ (IntWalk.i64_in _ (by omega))) rfl rfl ?_
    refine XQ.pv (i := 8) (l' := #[true, true, true, true, true, true, true, true, true, false, false, false, false]) rfl (by kernel_rfl) rfl (V.nilCheckP rfl) rfl rfl ?_
    refine XQ.pv (i := 9) (l' := #[true, true, true, true, true, true, true, true, true, true, false, false, false]) rfl (by kernel_rfl) rfl (V.fieldAddr rfl fo_67_0) rfl rfl ?_
    refine XQ.pv (i := 10) (l' := #[true, true, true, true, true, true, true, true, true, true, true, false, false]) rfl (by kernel_rfl) rfl (V.indexArr rfl rfl ar_65 (by omega)) rfl rfl ?_
    refine XQ.pv (i := 11) (l' := #[true, true, true, true, true, true, true, true, true, true, true, true, false]) rfl (by kernel_rfl) rfl (V.fieldAddr rfl fo_64_3) rfl rfl ?_
    refine XQ.store (i := 12) (l' := #[true, true, true, true, true, true, true, true, true, true, true, true, true]) rfl (by kernel_rfl) rfl rfl rfl .here (encF.st_n_held _ _ (by omega) _) rfl sz_3_1 (fun _ hw' => ⟨fun hs => (hs 12 (by first | (simp; done) | (simp; rfl)) rfl).elim, trivial⟩) ?_
    refine XQ.done (by kernel_rfl) ?_
    refine XE.next ?_
    refine XC.keep [(5, _)] (Sub.cons rfl (Sub.nil _)) ?_
    refine XC.seq ?_
    refine XC.region ?_
    refine XO.v (V.move rfl) rfl ?_
    refine XO.v (V.assign rfl) rfl ?_
    refine XO.nil ?_
    refine XE.next ?_
    refine XC.keep [(4, _)] (Sub.cons rfl (Sub.nil _)) ?_
    refine XC.ret ?_
    refine XE.ret1 rfl rfl (post_of (.cons .here (.cons .here (.cons .here .nil))) rfl ?_)
    exact ⟨rfl, ({ s with held := fset s.held n (s.held n + 1) } : FC), by rw [held_of rfl]; unfold FF.hold; rw [if_pos i0], rfl, rfl, rfl⟩
  · skip
    have i0 : s.isE n 0 ≠ 0 := by assumption
    refine XC.skip ?_
    refine XE.next ?_
    refine XC.keep [(5, _)] (Sub.cons rfl (Sub.nil _)) ?_
    refine XC.seq ?_
    refine XC.region ?_
    refine XO.v (V.move rfl) rfl ?_
    refine XO.v (V.assign rfl) rfl ?_
    refine XO.nil ?_
    refine XE.next ?_
    refine XC.keep [(4, _)] (Sub.cons rfl (Sub.nil _)) ?_
    refine XC.ret ?_
    refine XE.ret1 rfl rfl (post_of (.cons .here (.cons .here (.cons .here .nil))) rfl ?_)
    exact ⟨rfl, s, by unfold FF.hold; rw [if_neg i0], rfl, rfl, rfl⟩
set_option maxRecDepth 10000 in
set_option maxHeartbeats 1000000 in
theorem t_Let (b o : Nat) (s : FC) (hI : s.toFF.Sh) (n : Int) : Spec Tryd.prog 35 [ptr b o 0, .int .i64 n]
    [.cells b o 321 (encF s), .fam fam40 (s.rowsN 9), .fam fam40 (s.rowsK 3)]
    (fun v H1 => v = errv 68 (s.letE n) ∧ ∃ t : FC, t.toFF = s.letF n ∧ t.rP = s.rP ∧ t.rC = s.rC ∧ H1 = [.cells b o 321 (encF t), .fam fam40 (FC.rowsN 9 t), .fam fam40 (FC.rowsK 3 t)]) := by
  refine Spec.intro Tryd.func35 rfl rfl ?_
  intro W
  refine XC.seq ?_
  refine XC.region ?_
  refine XO.v (V.assign rfl) rfl ?_
  refine XO.nil ?_
  refine XE.next ?_
  refine XC.keep [(0, _), (1, _)] (Sub.cons rfl (Sub.cons rfl (Sub.nil _))) ?_
  refine XC.seq ?_
  refine XC.region ?_
  refine XO.v (V.move rfl) rfl ?_
  refine XO.v (V.move rfl) rfl ?_
  refine XO.call rfl (t_is _ _ _ _) (.cons .here .nil) cl_36 rfl ?_
  rintro _ _ ⟨rfl, rfl⟩
  refine XO.v (V.assign rfl) rfl ?_
  refine XO.nil ?_
  refine XE.next ?_
  refine XC.keep [(0, _), (1, _), (5, _)] (Sub.cons rfl (Sub.cons rfl (Sub.cons rfl (Sub.nil _)))) ?_
  refine XC.seq ?_
  refine XC.seq ?_
  refine XC.region ?_
  refine XO.v (V.move rfl) rfl ?_
  refine XO.v (V.errNil rfl Tryd.underlying26 rfl) rfl ?_
  refine XO.nil ?_
  refine XE.next ?_
  refine XC.keep [(0, _), (1, _), (5, _), (10, _)] (Sub.cons rfl (Sub.cons rfl (Sub.cons rfl (Sub.cons rfl (Sub.nil _))))) ?_
  refine XC.condP rfl (fun h1 => ?_) (fun h1 => ?_)
  · skip
    have i0 : s.isE n 0 ≠ 0 := by assumption
    refine XC.seq ?_
    refine XC.region ?_
    refine XO.v (V.move rfl) rfl ?_
    refine XO.v (V.assign rfl) rfl ?_
    refine XO.nil ?_
    refine XE.next ?_
    refine XC.keep [(4, _)] (Sub.cons rfl (Sub.nil _)) ?_
    refine XC.ret ?_
    refine XE.thenRet ?_
    refine XE.ret1 rfl rfl (post_of (.cons .here (.cons .here (.cons .here .nil))) rfl ?_)
    have e : s.letE n = s.isE n 0 := by unfold FF.letE; rw [if_pos (by omega)]
    exact ⟨by rw [e], s, by unfold FF.letF; rw [if_neg (by omega)], rfl, rfl, rfl⟩
  · skip
    obtain ⟨i1, i2, i3⟩ := FF.isE_0 (show s.isE n 0 = 0 by simpa using h1)
    have i0 : s.isE n 0 = 0 := by simpa using h1
    have hnb := hI.num n (by omega) (by omega)
    refine XC.skip ?_
    refine XE.next ?_
    refine XC.keep [(0, _), (1, _)] (Sub.cons rfl (Sub.cons rfl (Sub.nil _))) ?_
    refine XC.seq ?_
    refine XC.seq ?_
    refine XC.region ?_
    refine XO.v (V.move rfl) rfl ?_
    refine XO.v (V.move rfl) rfl ?_
    refine XO.v (V.nilCheckP rfl) rfl ?_
    refine XO.v (V.fieldAddr rfl fo_67_0) rfl ?_
    refine XO.v (V.indexArr rfl rfl ar_65 (by omega)) rfl ?_
    refine XO.v (V.fieldAddr rfl fo_64_3) rfl ?_
    refine XO.v (V.load rfl (inXM .here) (encF.ld_n_held _ _ (by omega)) sc_3) rfl ?_
    refine XO.v (V.cmp rfl rfl rfl) rfl ?_
    refine XO.nil ?_
    refine XE.next ?_
    refine XC.keep [(0, _), (1, _), (19, _)] (Sub.cons rfl (Sub.cons rfl (Sub.cons rfl (Sub.nil _)))) ?_
    refine XC.condP rfl (fun h2 => ?_) (fun h2 => ?_)
    · skip
      refine XC.seq ?_
      refine XC.region ?_
      refine XO.v (V.makeIface rfl Tryd.underlying68 (by simp)) rfl ?_
      refine XO.v (V.assign rfl) rfl ?_
      refine XO.nil ?_
      refine XE.next ?_
      refine XC.keep [(4, _)] (Sub.cons rfl (Sub.nil _)) ?_
      refine XC.ret ?_
      refine XE.thenRet ?_
      refine XE.ret1 rfl rfl (post_of (.cons .here (.cons .here (.cons .here .nil))) rfl ?_)
      have e : s.letE n = 8 := by unfold FF.letE; rw [if_neg (by omega), if_pos (by omega)]
      exact ⟨by rw [e]; rfl, s, by unfold FF.letF; rw [if_neg (by omega)], rfl, rfl, rfl⟩
    · skip
      refine XC.skip ?_
      refine XE.next ?_
      refine XC.keep [(0, _), (1, _)] (Sub.cons rfl (Sub.cons rfl (Sub.nil _))) ?_
      refine XC.seq ?_
      refine XC.regionQ mixed (f := 13) (l := #[false, false, false, false, false, false, false, false, false, false, false, false, false]) rfl rfl XM.drawn' ?_
      refine XQ.pv (i := 0) (l' := #[true, false, false, false, false, false, false, false, false, false, false, false, false]) rfl (by kernel_rfl) rfl (V.move rfl) rfl rfl ?_
      refine XQ.pv (i := 1) (l' := #[true, true, false, false, false, false, false, false, false, false, false, false, false]) rfl (by kernel_rfl) rfl (V.move rfl) rfl rfl ?_
      refine XQ.pv (i := 2) (l' := #[true, true, true, false, false, false, false, false, false, false, false, false, false]) rfl (by kernel_rfl) rfl (V.nilCheckP rfl) rfl rfl ?_
      refine XQ.pv (i := 3) (l' := #[true, true, true, true, false, false, false, false, false, false, false, false, false]) rfl (by kernel_rfl) rfl (V.fieldAddr rfl fo_67_0) rfl rfl ?_
      refine XQ.pv (i := 4) (l' := #[true, true, true, true, true, false, false, false, false, false, false, false, false]) rfl (by kernel_rfl) rfl (V.indexArr rfl rfl ar_65 (by omega)) rfl rfl ?_
      refine XQ.pv (i := 5) (l' := #[true, true, true, true, true, true, false, false, false, false, false, false, false]) rfl (by kernel_rfl) rfl (V.fieldAddr rfl fo_64_3) rfl rfl ?_
      refine XQ.load (i := 6) (l' := #[true, true, true, true, true, true, true, false, false, false, false, false, false]) (.cells _ _ _ _) [12] rfl (by kernel_rfl) rfl .here (V.load rfl inEnt (encF.ld_n_held _ _ (by omega)) sc_3) rfl (by kernel_rfl) rfl ?_
      refine XQ.pv (i := 7) (l' := #[true, true, true, true, true, true, true, true, false, false, false, false, false]) rfl (by kernel_rfl) rfl (V.sub rfl rfl _ (IntWalk.i64_in _ (by omega))) rfl rfl ?_
      refine XQ.pv (i := 8) (l' := #[true, true, true, true, true, true, true, true, true, false, false, false, false]) rfl (by kernel_rfl) rfl (V.nilCheckP rfl) rfl rfl ?_
      refine XQ.pv (i := 9) (l' := #[true, true, true, true, true, true, true, true, true, true, false, false, false]) rfl (by kernel_rfl) rfl (V.fieldAddr rfl fo_67_0) rfl rfl ?_
      refine XQ.pv (i := 10) (l' := #[true, true, true, true, true, true, true, true, true, true, true, false, false]) rfl (by kernel_rfl) rfl (V.indexArr rfl rfl ar_65 (by omega)) rfl rfl ?_
      refine XQ.pv (i := 11) (l' := #[true, true, true, true, true, true, true, true, true, true, true, true, false]) rfl (by kernel_rfl) rfl (V.fieldAddr rfl fo_64_3) rfl rfl ?_
      refine XQ.store (i := 12) (l' := #[true, true, true, true, true, true, true, true, true, true, true, true, true]) rfl (by kernel_rfl) rfl rfl rfl .here (encF.st_n_held _ _ (by omega) _) rfl sz_3_1 (fun _ hw' => ⟨fun hs => (hs 12 (by first | (simp; done) | (simp; rfl)) rfl).elim, trivial⟩) ?_
      refine XQ.done (by kernel_rfl) ?_
      refine XE.next ?_
      refine XC.keep [(0, _), (1, _)] (Sub.cons rfl (Sub.cons rfl (Sub.nil _))) ?_
      refine XC.seq ?_
      refine XC.region ?_
      refine XO.v (V.move rfl) rfl ?_
      refine XO.v (V.move rfl) rfl ?_
      refine XO.call rfl (t_gone _ _ ({ s with held := fset s.held n (s.held n - 1) } : FC) n (by omega)) (.cons .here (.cons .here (.cons .here .nil))) cl_31 rfl ?_
      rintro _ _ ⟨rfl, t, ht, hp, hc, rfl⟩
      refine XO.nil ?_
      refine XE.next ?_
      refine XC.keep [] (Sub.nil _) ?_
      refine XC.seq ?_
      refine XC.region ?_
      refine XO.v (V.assign rfl) rfl ?_
      refine XO.nil ?_
      refine XE.next ?_
      refine XC.keep [(4, _)] (Sub.cons rfl (Sub.nil _)) ?_
      refine XC.ret ?_
      refine XE.ret1 rfl rfl (post_of (.cons .here (.cons .here (.cons .here .nil))) rfl ?_)
      have e : s.letE n = 0 := by unfold FF.letE; rw [if_neg (by omega), if_neg (by omega)]
      exact ⟨by rw [e]; rfl, t, by rw [ht]; unfold FF.letF; rw [if_pos e], hp, hc, rfl⟩
set_option maxRecDepth 10000 in
set_option maxHeartbeats 2000000 in
theorem t_Remove (b o : Nat) (s : FC) (hI : s.toFF.Sh) (n : Int) (x : ByteArray) : Spec Tryd.prog 13 [ptr b o 0, .int .i64 n, .string x]
    [.cells b o 321 (encF s), .fam fam40 (s.rowsN 9), .fam fam40 (s.rowsK 3)]
    (fun v H1 => v = errv 68 (s.removeE n x) ∧ ∃ t : FC, t.toFF = s.remove n x ∧ t.rP = s.rP ∧ t.rC = s.rC ∧ H1 = [.cells b o 321 (encF t), .fam fam40 (FC.rowsN 9 t), .fam fam40 (FC.rowsK 3 t)]) := by
  refine Spec.intro Tryd.func13 rfl rfl ?_
  intro W
  refine XC.seq ?_
  refine XC.region ?_
  refine XO.v (V.assign rfl) rfl ?_
  refine XO.nil ?_
  refine XE.next ?_
  refine XC.keep [(0, _), (1, _), (2, _)] (Sub.cons rfl (Sub.cons rfl (Sub.cons rfl (Sub.nil _)))) ?_
  refine XC.seq ?_
  refine XC.region ?_
  refine XO.v (V.move rfl) rfl ?_
  refine XO.v (V.move rfl) rfl ?_
  refine XO.v (V.move rfl) rfl ?_
  refine XO.call rfl (t_Find _ _ _ hI _ _) (.cons .here (.cons .here (.cons .here .nil))) cl_24 rfl ?_
  rintro _ _ ⟨rfl, rfl⟩
  refine XO.v (V.move rfl) rfl ?_
  refine XO.v (V.extract rfl rfl) rfl ?_
  refine XO.v (V.extract rfl rfl) rfl ?_
  refine XO.v (V.assign rfl) rfl ?_
  refine XO.v (V.assign rfl) rfl ?_
  refine XO.nil ?_
  refine XE.next ?_
  refine XC.keep [(0, _), (1, _), (2, _), (7, _), (8, _)] (Sub.cons rfl (Sub.cons rfl (Sub.cons rfl (Sub.cons rfl (Sub.cons rfl (Sub.nil _)))))) ?_
  refine XC.seq ?_
  refine XC.seq ?_
  refine XC.region ?_
  refine XO.v (V.move rfl) rfl ?_
  refine XO.v (V.errNil rfl Tryd.underlying26 rfl) rfl ?_
  refine XO.nil ?_
  refine XE.next ?_
  refine XC.keep [(0, _), (1, _), (2, _), (7, _), (8, _), (18, _)] (Sub.cons rfl (Sub.cons rfl (Sub.cons rfl (Sub.cons rfl (Sub.cons rfl (Sub.cons rfl (Sub.nil _))))))) ?_
  refine XC.condP rfl (fun h1 => ?_) (fun h1 => ?_)
  · skip
    have f0 : s.findE n x ≠ 0 := by assumption
    refine XC.seq ?_
    refine XC.region ?_
    refine XO.v (V.move rfl) rfl ?_
    refine XO.v (V.assign rfl) rfl ?_
    refine XO.nil ?_
    refine XE.next ?_
    refine XC.keep [(6, _)] (Sub.cons rfl (Sub.nil _)) ?_
    refine XC.ret ?_
    refine XE.thenRet ?_
    refine XE.ret1 rfl rfl (post_of (.cons .here (.cons .here (.cons .here .nil))) rfl ?_)
    have e : s.removeE n x = s.findE n x := by unfold FF.removeE; rw [if_pos (by omega)]
    exact ⟨by rw [e], s, by unfold FF.remove; rw [if_neg (by omega)], rfl, rfl, rfl⟩
  · skip
    obtain ⟨i1, i2, i3, k1, k2, hh⟩ := hI.kid (show s.findE n x = 0 by simpa using h1)
    have f0 : s.findE n x = 0 := by simpa using h1
    have hnb := hI.num (s.findV n x) (by omega) (by omega)
    have hkr := hI.rise (s.findV n x) (by omega) (by omega)
    refine XC.skip ?_
    refine XE.next ?_
    refine XC.keep [(0, _), (1, _), (2, _), (7, _)] (Sub.cons rfl (Sub.cons rfl (Sub.cons rfl (Sub.cons rfl (Sub.nil _))))) ?_
    refine XC.seq ?_
    refine XC.region ?_
    refine XO.v (V.move rfl) rfl ?_
    refine XO.v (V.move rfl) rfl ?_
    refine XO.v (V.nilCheckP rfl) rfl ?_
    refine XO.v (V.fieldAddr rfl fo_67_0) rfl ?_
    refine XO.v (V.indexArr rfl rfl ar_65 (by omega)) rfl ?_
    refine XO.v (V.assign rfl) rfl ?_
    refine XO.nil ?_
    refine XE.next ?_
    refine XC.keep [(0, _), (1, _), (2, _), (7, _), (9, _)] (Sub.cons rfl (Sub.cons rfl (Sub.cons rfl (Sub.cons rfl (Sub.cons rfl (Sub.nil _)))))) ?_
    refine XC.seq ?_
    refine XC.seq ?_
    refine XC.region ?_
    refine XO.v (V.move rfl) rfl ?_
    refine XO.v (V.nilCheckP rfl) rfl ?_
    refine XO.v (V.fieldAddr rfl fo_64_0) rfl ?_
    refine XO.v (V.load rfl (inXM .here) (encF.ld_n_kind _ _ (by omega)) sc_3) rfl ?_
    refine XO.v (V.cmp rfl rfl rfl) rfl ?_
    refine XO.v (V.move rfl) rfl ?_
    refine XO.splitP (d := 30) rfl (fun h2 => ?_) (fun h2 => ?_)
    · skip
      refine XO.guardRun rfl rfl rfl ?_
      refine XO.v (V.move rfl) rfl ?_
      refine XO.guardRun rfl rfl rfl ?_
      refine XO.v (V.nilCheckP rfl) rfl ?_
      refine XO.guardRun rfl rfl rfl ?_
      refine XO.v (V.fieldAddr rfl fo_64_6) rfl ?_
      refine XO.guardRun rfl rfl rfl ?_
      refine XO.v (V.load rfl (inXM .here) (encF.ld_n_kids _ _ (by omega)) sc_62) rfl ?_
      refine XO.guardRun rfl rfl rfl ?_
      refine XO.v (V.lenSl rfl Tryd.underlying62) rfl ?_
      refine XO.guardRun rfl rfl rfl ?_
      refine XO.v (V.cmp rfl rfl rfl) rfl ?_
      refine XO.guardRun rfl rfl rfl ?_
      refine XO.v (V.move rfl) rfl ?_
      refine XO.splitP (d := 37) rfl (fun h3 => ?_) (fun h3 => ?_)
      · skip
        refine XO.guardSkip rfl rfl rfl rfl rfl ?_
        refine XO.guardSkip rfl rfl rfl rfl rfl ?_
        refine XO.guardSkip rfl rfl rfl rfl rfl ?_
        refine XO.guardSkip rfl rfl rfl rfl rfl ?_
        refine XO.guardSkip rfl rfl rfl rfl rfl ?_
        refine XO.guardRun rfl rfl rfl ?_
        refine XO.v (V.pick rfl rfl rfl rfl) rfl ?_
        refine XO.v (V.pick rfl rfl rfl rfl) rfl ?_
        refine XO.nil ?_
        refine XE.next ?_
        refine XC.keep [(0, _), (1, _), (2, _), (7, _), (9, _), (44, _)] (Sub.cons rfl (Sub.cons rfl (Sub.cons rfl (Sub.cons rfl (Sub.cons rfl (Sub.cons rfl (Sub.nil _))))))) ?_
        refine XC.condT rfl rfl ?_
        refine XC.seq ?_
        refine XC.region ?_
        refine XO.v (V.makeIface rfl Tryd.underlying68 (by simp)) rfl ?_
        refine XO.v (V.assign rfl) rfl ?_
        refine XO.nil ?_
        refine XE.next ?_
        refine XC.keep [(6, _)] (Sub.cons rfl (Sub.nil _)) ?_
        refine XC.ret ?_
        refine XE.thenRet ?_
        refine XE.ret1 rfl rfl (post_of (.cons .here (.cons .here (.cons .here .nil))) rfl ?_)
        have e : s.removeE n x = 5 := by unfold FF.removeE; rw [if_neg (by omega), if_pos (by unfold FF.busy; exact ⟨by assumption, by omega⟩)]
        exact ⟨by rw [e]; rfl, s, by unfold FF.remove; rw [if_neg (by omega)], rfl, rfl, rfl⟩
      · skip
        refine XO.guardRun rfl rfl rfl ?_
        refine XO.v (V.move rfl) rfl ?_
        refine XO.guardRun rfl rfl rfl ?_
        refine XO.v (V.nilCheckP rfl) rfl ?_
        refine XO.guardRun rfl rfl rfl ?_
        refine XO.v (V.fieldAddr rfl fo_64_3) rfl ?_
        refine XO.guardRun rfl rfl rfl ?_
        refine XO.v (V.load rfl (inXM .here) (encF.ld_n_held _ _ (by omega)) sc_3) rfl ?_
        refine XO.guardRun rfl rfl rfl ?_
        refine XO.v (V.cmp rfl rfl rfl) rfl ?_
        refine XO.guardRun rfl rfl rfl ?_
        refine XO.v (V.pick rfl rfl rfl rfl) rfl ?_
        refine XO.v (V.pick rfl rfl rfl rfl) rfl ?_
        refine XO.nil ?_
        refine XE.next ?_
        refine XC.keep [(0, _), (1, _), (2, _), (7, _), (9, _), (44, _)] (Sub.cons rfl (Sub.cons rfl (Sub.cons rfl (Sub.cons rfl (Sub.cons rfl (Sub.cons rfl (Sub.nil _))))))) ?_
        refine XC.condP rfl (fun h4 => ?_) (fun h4 => ?_)
        · skip
          refine XC.seq ?_
          refine XC.region ?_
          refine XO.v (V.makeIface rfl Tryd.underlying68 (by simp)) rfl ?_
          refine XO.v (V.assign rfl) rfl ?_
          refine XO.nil ?_
          refine XE.next ?_
          refine XC.keep [(6, _)] (Sub.cons rfl (Sub.nil _)) ?_
          refine XC.ret ?_
          refine XE.thenRet ?_
          refine XE.ret1 rfl rfl (post_of (.cons .here (.cons .here (.cons .here .nil))) rfl ?_)
          have e : s.removeE n x = 5 := by unfold FF.removeE; rw [if_neg (by omega), if_pos (by unfold FF.busy; exact ⟨by assumption, by omega⟩)]
          exact ⟨by rw [e]; rfl, s, by unfold FF.remove; rw [if_neg (by omega)], rfl, rfl, rfl⟩
        · skip
          refine XC.skip ?_
          refine XE.next ?_
          refine XC.keep [(0, _), (1, _), (2, _), (7, _), (9, _)] (Sub.cons rfl (Sub.cons rfl (Sub.cons rfl (Sub.cons rfl (Sub.cons rfl (Sub.nil _)))))) ?_
          refine XC.seq ?_
          refine XC.region ?_
          refine XO.v (V.move rfl) rfl ?_
          refine XO.v (V.move rfl) rfl ?_
          refine XO.v (V.move rfl) rfl ?_
          refine XO.call rfl (t_cut _ _ _ hI _ _ (by omega) (by assumption)) (.cons .here (.cons .here (.cons .here .nil))) cl_30 rfl ?_
          rintro _ _ ⟨rfl, t, ht, hp, hc, rfl⟩
          have hln : t.links (s.findV n x) = s.links (s.findV n x) := congrFun (congrArg FF.links ht) _
          refine XO.nil ?_
          refine XE.next ?_
          refine XC.keep [(0, _), (7, _), (9, _)] (Sub.cons rfl (Sub.cons rfl (Sub.cons rfl (Sub.nil _)))) ?_
          refine XC.seq ?_
          refine XC.region ?_
          refine XO.v (V.move rfl) rfl ?_
          refine XO.v (V.nilCheckP rfl) rfl ?_
          refine XO.v (V.fieldAddr rfl fo_64_2) rfl ?_
          refine XO.v (V.load rfl (inXM .here) (encF.ld_n_links _ _ (by omega)) sc_3) rfl ?_
          refine XO.v (V.sub rfl rfl _ (IntWalk.i64_in _ (by omega))) rfl ?_
          refine XO.v (V.nilCheckP rfl) rfl ?_
          refine XO.v (V.fieldAddr rfl fo_64_2) rfl ?_
          refine XO.store rfl rfl .here (encF.st_n_links _ _ (by omega) _) rfl sz_3_1 ?_
          refine XO.nil ?_
          refine XE.next ?_
          refine XC.keep [(0, _), (7, _)] (Sub.cons rfl (Sub.cons rfl (Sub.nil _))) ?_
          refine XC.seq ?_
          refine XC.region ?_
          refine XO.v (V.move rfl) rfl ?_
          refine XO.v (V.move rfl) rfl ?_
          refine XO.call rfl (t_gone _ _ ({ t with links := fset t.links (s.findV n x) (t.links (s.findV n x) - 1) } : FC) (s.findV n x) (by omega)) (.cons .here (.cons .here (.cons .here .nil))) cl_31 rfl ?_
          rintro _ _ ⟨rfl, t2, ht2, hp2, hc2, rfl⟩
          refine XO.nil ?_
          refine XE.next ?_
          refine XC.keep [] (Sub.nil _) ?_
          refine XC.seq ?_
          refine XC.region ?_
          refine XO.v (V.assign rfl) rfl ?_
          refine XO.nil ?_
          refine XE.next ?_
          refine XC.keep [(6, _)] (Sub.cons rfl (Sub.nil _)) ?_
          refine XC.ret ?_
          refine XE.ret1 rfl rfl (post_of (.cons .here (.cons .here (.cons .here .nil))) rfl ?_)
          have e : s.removeE n x = 0 := by unfold FF.removeE; rw [if_neg (by omega), if_neg (by unfold FF.busy; omega)]
          exact ⟨by rw [e]; rfl, t2, by rw [ht2, links_of ht, hln]; unfold FF.remove; rw [if_pos e]; rfl, hp2.trans hp, hc2.trans hc, rfl⟩
    · skip
      refine XO.guardSkip rfl rfl rfl rfl rfl ?_
      refine XO.guardSkip rfl rfl rfl rfl rfl ?_
      refine XO.guardSkip rfl rfl rfl rfl rfl ?_
      refine XO.guardSkip rfl rfl rfl rfl rfl ?_
      refine XO.guardSkip rfl rfl rfl rfl rfl ?_
      refine XO.guardSkip rfl rfl rfl rfl rfl ?_
      refine XO.guardSkip rfl rfl rfl rfl rfl ?_
      refine XO.guardSkipU rfl rfl rfl rfl rfl ?_
      refine XO.guardSkipU rfl rfl rfl rfl rfl ?_
      refine XO.guardSkipU rfl rfl rfl rfl rfl ?_
      refine XO.guardSkipU rfl rfl rfl rfl rfl ?_
      refine XO.guardSkipU rfl rfl rfl rfl rfl ?_
      refine XO.guardSkip rfl rfl rfl rfl rfl ?_
      refine XO.v (V.pick rfl rfl rfl rfl) rfl ?_
      refine XO.nil ?_
      refine XE.next ?_
      refine XC.keep [(0, _), (1, _), (2, _), (7, _), (9, _), (44, _)] (Sub.cons rfl (Sub.cons rfl (Sub.cons rfl (Sub.cons rfl (Sub.cons rfl (Sub.cons rfl (Sub.nil _))))))) ?_
      refine XC.condF rfl rfl ?_
      refine XC.skip ?_
      refine XE.next ?_
      refine XC.keep [(0, _), (1, _), (2, _), (7, _), (9, _)] (Sub.cons rfl (Sub.cons rfl (Sub.cons rfl (Sub.cons rfl (Sub.cons rfl (Sub.nil _)))))) ?_
      refine XC.seq ?_
      refine XC.region ?_
      refine XO.v (V.move rfl) rfl ?_
      refine XO.v (V.move rfl) rfl ?_
      refine XO.v (V.move rfl) rfl ?_
      refine XO.call rfl (t_cut _ _ _ hI _ _ (by omega) (by assumption)) (.cons .here (.cons .here (.cons .here .nil))) cl_30 rfl ?_
      rintro _ _ ⟨rfl, t, ht, hp, hc, rfl⟩
      have hln : t.links (s.findV n x) = s.links (s.findV n x) := congrFun (congrArg FF.links ht) _
      refine XO.nil ?_
      refine XE.next ?_
      refine XC.keep [(0, _), (7, _), (9, _)] (Sub.cons rfl (Sub.cons rfl (Sub.cons rfl (Sub.nil _)))) ?_
      refine XC.seq ?_
      refine XC.region ?_
      refine XO.v (V.move rfl) rfl ?_
      refine XO.v (V.nilCheckP rfl) rfl ?_
      refine XO.v (V.fieldAddr rfl fo_64_2) rfl ?_
      refine XO.v (V.load rfl (inXM .here) (encF.ld_n_links _ _ (by omega)) sc_3) rfl ?_
      refine XO.v (V.sub rfl rfl _ (IntWalk.i64_in _ (by omega))) rfl ?_
      refine XO.v (V.nilCheckP rfl) rfl ?_
      refine XO.v (V.fieldAddr rfl fo_64_2) rfl ?_
      refine XO.store rfl rfl .here (encF.st_n_links _ _ (by omega) _) rfl sz_3_1 ?_
      refine XO.nil ?_
      refine XE.next ?_
      refine XC.keep [(0, _), (7, _)] (Sub.cons rfl (Sub.cons rfl (Sub.nil _))) ?_
      refine XC.seq ?_
      refine XC.region ?_
      refine XO.v (V.move rfl) rfl ?_
      refine XO.v (V.move rfl) rfl ?_
      refine XO.call rfl (t_gone _ _ ({ t with links := fset t.links (s.findV n x) (t.links (s.findV n x) - 1) } : FC) (s.findV n x) (by omega)) (.cons .here (.cons .here (.cons .here .nil))) cl_31 rfl ?_
      rintro _ _ ⟨rfl, t2, ht2, hp2, hc2, rfl⟩
      refine XO.nil ?_
      refine XE.next ?_
      refine XC.keep [] (Sub.nil _) ?_
      refine XC.seq ?_
      refine XC.region ?_
      refine XO.v (V.assign rfl) rfl ?_
      refine XO.nil ?_
      refine XE.next ?_
      refine XC.keep [(6, _)] (Sub.cons rfl (Sub.nil _)) ?_
      refine XC.ret ?_
      refine XE.ret1 rfl rfl (post_of (.cons .here (.cons .here (.cons .here .nil))) rfl ?_)
      have e : s.removeE n x = 0 := by unfold FF.removeE; rw [if_neg (by omega), if_neg (by unfold FF.busy; omega)]
      exact ⟨by rw [e]; rfl, t2, by rw [ht2, links_of ht, hln]; unfold FF.remove; rw [if_pos e]; rfl, hp2.trans hp, hc2.trans hc, rfl⟩


end Go.X
