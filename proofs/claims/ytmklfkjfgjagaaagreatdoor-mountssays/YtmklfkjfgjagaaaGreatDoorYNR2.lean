import Derived.Test.YtmklfkjfgjagaaaGreatDoorXShort
import Derived.Test.YtmklfkjfgjagaaaGreatDoorYNW6
import Derived.Test.YtmklfkjfgjagaaaGreatDoorNRO
namespace Go.X
open Go Go.Proofs
theorem ag_31 : aggT Tryz.prog 31 = true := by kernel_rfl
theorem ar_32 : arrOf Tryz.prog 32 = some (40, 8) := by kernel_rfl
theorem cl_27 : callable Tryz.prog 27 = true := by kernel_rfl
theorem cl_65 : callable Tryz.prog 65 = true := by kernel_rfl
theorem cl_72 : callable Tryz.prog 72 = true := by kernel_rfl
theorem fo_31_0 : fieldOff Tryz.prog 31 0 = some 0 := by kernel_rfl
theorem fo_31_2 : fieldOff Tryz.prog 31 2 = some 2 := by kernel_rfl
theorem fo_31_3 : fieldOff Tryz.prog 31 3 = some 3 := by kernel_rfl
theorem fo_31_4 : fieldOff Tryz.prog 31 4 = some 4 := by kernel_rfl
theorem fo_31_5 : fieldOff Tryz.prog 31 5 = some 5 := by kernel_rfl
theorem fo_31_6 : fieldOff Tryz.prog 31 6 = some 6 := by kernel_rfl
theorem fo_34_0 : fieldOff Tryz.prog 34 0 = some 0 := by kernel_rfl
theorem fo_34_1 : fieldOff Tryz.prog 34 1 = some 320 := by kernel_rfl
theorem sz_31_8 : szOf Tryz.prog 31 = some 8 := by kernel_rfl
set_option maxRecDepth 10000 in
set_option maxHeartbeats 400000 in
theorem r_Is (b o : Nat) (s : FC) (n k : Int) : Spec Tryz.prog 65 [ptr b o 0, .int .i64 n, .int .i64 k]
    [.cells b o 321 (encM s)]
    (fun v H1 => v = .int .i64 (s.isE n k) ∧ H1 = [.cells b o 321 (encM s)]) := by
 refine Spec.intro Tryz.func65 rfl rfl ?_
 intro W
 refine XC.sr ?_
 refine XO.as rfl rfl ?_
 refine XO.nk [(0, _), (1, _), (2, _)] (S3 rfl rfl rfl) ?_
 refine XC.seq ?_
 refine XC.sr ?_
 refine XO.mv rfl rfl ?_
 refine XO.v (V.cmp rfl rfl rfl) rfl ?_
 refine XO.mv rfl rfl ?_
 refine XO.splitP (d := 9) rfl (fun h1 => ?_) (fun h1 => ?_)
 ·
  refine XO.guardSkip rfl rfl rfl rfl rfl ?_
  refine XO.guardSkip rfl rfl rfl rfl rfl ?_
  refine XO.v (V.pick rfl rfl rfl rfl) rfl ?_
  refine XO.nk [(0, _), (1, _), (2, _), (12, _)] (S4 rfl rfl rfl rfl) ?_
  refine XC.condT rfl rfl ?_
  refine XC.sr ?_
  refine XO.as rfl rfl ?_
  refine XO.nk [(6, _)] (S1 rfl) ?_
  refine XC.ret ?_
  refine XE.thenRet ?_
  refine XE.ret1 rfl rfl (post_of .h1 rfl ?_)
  have e : s.isE n k = 1 := by unfold FF.isE; rw [if_pos (by omega)]
  exact ⟨by rw [e], rfl⟩
 ·
  refine XO.guardRun rfl rfl rfl ?_
  refine XO.mv rfl rfl ?_
  refine XO.guardRun rfl rfl rfl ?_
  refine XO.v (V.cmp rfl rfl rfl) rfl ?_
  refine XO.v (V.pick rfl rfl rfl rfl) rfl ?_
  refine XO.nk [(0, _), (1, _), (2, _), (12, _)] (S4 rfl rfl rfl rfl) ?_
  refine XC.condP rfl (fun h2 => ?_) (fun h2 => ?_)
  ·
   refine XC.sr ?_
   refine XO.as rfl rfl ?_
   refine XO.nk [(6, _)] (S1 rfl) ?_
   refine XC.ret ?_
   refine XE.thenRet ?_
   refine XE.ret1 rfl rfl (post_of .h1 rfl ?_)
   have e : s.isE n k = 1 := by unfold FF.isE; rw [if_pos (by omega)]
   exact ⟨by rw [e], rfl⟩
  ·
   refine XC.skip ?_
   refine XE.next ?_
   refine XC.keep [(0, _), (1, _), (2, _)] (S3 rfl rfl rfl) ?_
   refine XC.seq ?_
   refine XC.sr ?_
   refine XO.mv rfl rfl ?_
   refine XO.mv rfl rfl ?_
   refine XO.v (V.nilCheckP rfl) rfl ?_
   refine XO.v (V.fieldAddr rfl fo_34_0) rfl ?_
   refine XO.v (V.indexArr rfl rfl ar_32 (by omega)) rfl ?_
   refine XO.v (V.fieldAddr rfl fo_31_0) rfl ?_
   refine XO.v (V.load rfl (inXM .here) (encM.ld_N_Kind _ _ (by omega)) sc_3) rfl ?_
   refine XO.v (V.cmp rfl rfl rfl) rfl ?_
   refine XO.nk [(0, _), (1, _), (2, _), (20, _)] (S4 rfl rfl rfl rfl) ?_
   refine XC.condP rfl (fun h3 => ?_) (fun h3 => ?_)
   ·
    refine XC.sr ?_
    refine XO.as rfl rfl ?_
    refine XO.nk [(6, _)] (S1 rfl) ?_
    refine XC.ret ?_
    refine XE.thenRet ?_
    refine XE.ret1 rfl rfl (post_of .h1 rfl ?_)
    have e : s.isE n k = 2 := by unfold FF.isE; rw [if_neg (by omega), if_pos (by omega)]
    exact ⟨by rw [e], rfl⟩
   ·
    refine XC.skip ?_
    refine XE.next ?_
    refine XC.keep [(0, _), (1, _), (2, _)] (S3 rfl rfl rfl) ?_
    refine XC.seq ?_
    refine XC.sr ?_
    refine XO.mv rfl rfl ?_
    refine XO.v (V.cmp rfl rfl rfl) rfl ?_
    refine XO.mv rfl rfl ?_
    refine XO.splitP (d := 23) rfl (fun h4 => ?_) (fun h4 => ?_)
    ·
     refine XO.guardRun rfl rfl rfl ?_
     refine XO.mv rfl rfl ?_
     refine XO.guardRun rfl rfl rfl ?_
     refine XO.mv rfl rfl ?_
     refine XO.guardRun rfl rfl rfl ?_
     refine XO.v (V.nilCheckP rfl) rfl ?_
     refine XO.guardRun rfl rfl rfl ?_
     refine XO.v (V.fieldAddr rfl fo_34_0) rfl ?_
     refine XO.guardRun rfl rfl rfl ?_
     refine XO.v (V.indexArr rfl rfl ar_32 (by omega)) rfl ?_
     refine XO.guardRun rfl rfl rfl ?_
     refine XO.v (V.fieldAddr rfl fo_31_0) rfl ?_
     refine XO.guardRun rfl rfl rfl ?_
     refine XO.v (V.load rfl (inXM .here) (encM.ld_N_Kind _ _ (by omega)) sc_3) rfl ?_
     refine XO.guardRun rfl rfl rfl ?_
     refine XO.mv rfl rfl ?_
     refine XO.guardRun rfl rfl rfl ?_
     refine XO.v (V.cmp rfl rfl rfl) rfl ?_
     refine XO.v (V.pick rfl rfl rfl rfl) rfl ?_
     refine XO.nk [(33, _)] (S1 rfl) ?_
     refine XC.condP rfl (fun h5 => ?_) (fun h5 => ?_)
     ·
      refine XC.sr ?_
      refine XO.as rfl rfl ?_
      refine XO.nk [(6, _)] (S1 rfl) ?_
      refine XC.ret ?_
      refine XE.thenRet ?_
      refine XE.ret1 rfl rfl (post_of .h1 rfl ?_)
      have e : s.isE n k = 11 := by unfold FF.isE; rw [if_neg (by omega), if_neg (by omega), if_pos (by omega)]
      exact ⟨by rw [e], rfl⟩
     ·
      refine XC.skip ?_
      refine XE.next ?_
      refine XC.keep [] (Sub.nil _) ?_
      refine XC.sr ?_
      refine XO.as rfl rfl ?_
      refine XO.nk [(6, _)] (S1 rfl) ?_
      refine XC.ret ?_
      refine XE.ret1 rfl rfl (post_of .h1 rfl ?_)
      have e : s.isE n k = 0 := by unfold FF.isE; rw [if_neg (by omega), if_neg (by omega), if_neg (by omega)]
      exact ⟨by rw [e], rfl⟩
    ·
     refine XO.guardSkip rfl rfl rfl rfl rfl ?_
     refine XO.guardSkip rfl rfl rfl rfl rfl ?_
     refine XO.guardSkip rfl rfl rfl rfl rfl ?_
     refine XO.guardSkip rfl rfl rfl rfl rfl ?_
     refine XO.guardSkip rfl rfl rfl rfl rfl ?_
     refine XO.guardSkip rfl rfl rfl rfl rfl ?_
     refine XO.guardSkip rfl rfl rfl rfl rfl ?_
     refine XO.guardSkip rfl rfl rfl rfl rfl ?_
     refine XO.guardSkip rfl rfl rfl rfl rfl ?_
     refine XO.v (V.pick rfl rfl rfl rfl) rfl ?_
     refine XO.nk [(33, _)] (S1 rfl) ?_
     refine XC.condF rfl rfl ?_
     refine XC.skip ?_
     refine XE.next ?_
     refine XC.keep [] (Sub.nil _) ?_
     refine XC.sr ?_
     refine XO.as rfl rfl ?_
     refine XO.nk [(6, _)] (S1 rfl) ?_
     refine XC.ret ?_
     refine XE.ret1 rfl rfl (post_of .h1 rfl ?_)
     have e : s.isE n k = 0 := by unfold FF.isE; rw [if_neg (by omega), if_neg (by omega), if_neg (by omega)]
     exact ⟨by rw [e], rfl⟩
set_option maxRecDepth 10000 in
set_option maxHeartbeats 1000000 in
theorem r_fresh (b o : Nat) (s : FC) (k t l u : Int) : Spec Tryz.prog 27 [ptr b o 0, .agg (nodeMA k t l u)]
    [.cells b o 321 (encM s), .fam fam40 (s.rowsN 9), .fam fam40 (s.rowsK 3)]
    (fun v H1 => (s.free < 0 ∧ v = .tuple #[.int .i64 0, .int .i64 4] ∧ H1 = [.cells b o 321 (encM s), .fam fam40 (FC.rowsN 9 s), .fam fam40 (FC.rowsK 3 s)]) ∨ (¬ s.free < 0 ∧ v = .tuple #[.int .i64 s.free, .int .i64 0] ∧ H1 = [.cells b o 321 (encM (s.setC s.free k t l u)), .fam fam40 (FC.rowsN 9 (s.setC s.free k t l u)), .fam fam40 (FC.rowsK 3 (s.setC s.free k t l u))])) := by
 refine Spec.intro Tryz.func27 rfl rfl ?_
 intro W
 refine XC.sr ?_
 refine XO.box (m := 8) (C := encM.cell (nodeMU k t l u)) rfl rfl (nodeM_box k t l u) rfl ?_
 intro bx
 refine XO.as rfl rfl ?_
 refine XO.as rfl rfl ?_
 refine XO.nk [(0, _), (3, _)] (S2 rfl rfl) ?_
 refine XC.seq ?_
 refine XC.sr ?_
 refine XO.as rfl rfl ?_
 refine XO.nk [(0, _), (3, _), (6, _)] (S3 rfl rfl rfl) ?_
 refine XC.block ?_
 refine XC.loop (σ := Int) (fun i => (40 - i).toNat) (fun i => (0 ≤ i ∧ i ≤ 40) ∧ ∀ j, 0 ≤ j → j < i → s.kind j ≠ 0) (fun i => [(6, .int .i64 i), (0, ptr b o 0), (3, ptr bx 0 0)]) (fun i => XM W (foot [.cells b o 321 (encM s), .fam fam40 (s.rowsN 9), .fam fam40 (s.rowsK 3)]) [.cells b o 321 (encM s), .fam fam40 (s.rowsN 9), .fam fam40 (s.rowsK 3), .cells bx 0 8 (encM.cell (nodeMU k t l u))]) (0) ?_ (S3 rfl rfl rfl) (fun _ hw => XM.pick (.cons (.there .here) (.cons (.there .here) (.cons (.there .here) .h1))) hw) ?_
 ·
  exact ⟨by omega, fun j a b => by omega⟩
 intro i hi
 obtain ⟨hi, ho⟩ := hi
 refine XC.seq ?_
 refine XC.sr ?_
 refine XO.mv rfl rfl ?_
 refine XO.v (V.cmp rfl rfl rfl) rfl ?_
 refine XO.nk [(0, _), (3, _), (6, _), (8, _)] (S4 rfl rfl rfl rfl) ?_
 refine XC.condP rfl (fun h1 => ?_) (fun h1 => ?_)
 ·
  refine XC.skip ?_
  refine XE.next ?_
  refine XC.keep [(0, _), (3, _), (6, _)] (S3 rfl rfl rfl) ?_
  refine XC.seq ?_
  refine XC.block ?_
  refine XC.sr ?_
  refine XO.mv rfl rfl ?_
  refine XO.mv rfl rfl ?_
  refine XO.v (V.nilCheckP rfl) rfl ?_
  refine XO.v (V.fieldAddr rfl fo_34_0) rfl ?_
  refine XO.v (V.indexArr rfl rfl ar_32 (by omega)) rfl ?_
  refine XO.v (V.fieldAddr rfl fo_31_0) rfl ?_
  refine XO.v (V.load rfl (inXM .here) (encM.ld_N_Kind _ _ (by omega)) sc_3) rfl ?_
  refine XO.v (V.cmp rfl rfl rfl) rfl ?_
  refine XO.nk [(0, _), (3, _), (6, _), (18, _)] (S4 rfl rfl rfl rfl) ?_
  refine XC.condP rfl (fun h2 => ?_) (fun h2 => ?_)
  ·
   refine XC.seq ?_
   refine XC.regionQ mixed (f := 7) (l := #[false, false, false, false, false, false, false]) rfl rfl XM.drawn' ?_
   refine XQ.pv (i := 0) (l' := #[tt,ff,ff,ff,ff,ff,ff]) rfl (by kernel_rfl) rfl (V.move rfl) rfl rfl ?_
   refine XQ.pv (i := 1) (l' := #[tt,tt,ff,ff,ff,ff,ff]) rfl (by kernel_rfl) rfl (V.move rfl) rfl rfl ?_
   refine XQ.load (i := 2) (l' := #[tt,tt,tt,ff,ff,ff,ff]) (.cells _ _ _ _) [6] rfl (by kernel_rfl) rfl (.t3 .here) (V.loadAgg rfl inEnt (nodeM_agg k t l u) ag_31 sz_31_8) rfl (by kernel_rfl) rfl ?_
   refine XQ.pv (i := 3) (l' := #[tt,tt,tt,tt,ff,ff,ff]) rfl (by kernel_rfl) rfl (V.nilCheckP rfl) rfl rfl ?_
   refine XQ.pv (i := 4) (l' := #[tt,tt,tt,tt,tt,ff,ff]) rfl (by kernel_rfl) rfl (V.fieldAddr rfl fo_34_0) rfl rfl ?_
   refine XQ.pv (i := 5) (l' := #[tt,tt,tt,tt,tt,tt,ff]) rfl (by kernel_rfl) rfl (V.indexArr rfl rfl ar_32 (by omega)) rfl rfl ?_
   refine XQ.storeAgg (i := 6) (l' := #[tt,tt,tt,tt,tt,tt,tt]) rfl (by kernel_rfl) rfl rfl rfl .here (encM_new s i k t l u (by omega)) ⟨rfl, rfl⟩ sz_31_8 (fun _ hw' => ⟨fun hs => (hs 6 (by first | (simp; done) | (simp; rfl)) rfl).elim, trivial⟩) ?_
   refine XQ.mono (fun _ hw3 => XM.newN (s := s) (s.setC i k t l u) (by omega) rfl rfl rfl (.cons (.there .here) .nil) hw3) ?_
   refine XQ.mono (fun _ hw3 => XM.newK (s := s) (s.setC i k t l u) (by omega) rfl rfl rfl (.cons (.t2 .here) .nil) hw3) ?_
   refine XQ.done (by kernel_rfl) ?_
   refine XE.next ?_
   refine XC.keep [(6, _)] (S1 rfl) ?_
   refine XC.sr ?_
   refine XO.mv rfl rfl ?_
   refine XO.as rfl rfl ?_
   refine XO.as rfl rfl ?_
   refine XO.nk [(4, _), (5, _)] (S2 rfl rfl) ?_
   refine XC.ret ?_
   refine XE.blockRet ?_
   refine XE.thenRet ?_
   refine XE.thenRet ?_
   refine XE.blockRet ?_
   refine XE.thenRet ?_
   refine XE.ret2 rfl rfl rfl (post_of (.cons (.t2 .here) (.cons (.there .here) .h1)) rfl ?_)
   have e := FF.free_at hi.1 (by omega) ho (by assumption)
   exact .inr ⟨by omega, by rw [e], by rw [e]⟩
  ·
   refine XC.skip ?_
   refine XE.blockNormal ?_
   refine XE.next ?_
   refine XC.keep [(0, _), (3, _), (6, _)] (S3 rfl rfl rfl) ?_
   refine XC.region ?_
   refine XO.mv rfl rfl ?_
   refine XO.v (V.add rfl rfl _ (IntWalk.i64_in _ (by omega))) rfl ?_
   refine XO.as rfl rfl ?_
   refine XO.nil ?_
   refine XE.again (i + 1) ?_ ?_ (S3 rfl rfl rfl) (fun _ hw => XM.pick .h4 hw)
   ·
    (first | omega | (simp; done) | (simp; omega))
   ·
    refine ⟨by omega, fun j a b => ?_⟩
    by_cases c : j = i
    ·
     subst c; assumption
    ·
     exact ho j a (by omega)
 ·
  refine XC.exit ?_
  refine XE.thenExit ?_
  refine XE.thenExit ?_
  refine XE.blockExit ?_
  refine XE.next ?_
  refine XC.keep [] (Sub.nil _) ?_
  refine XC.sr ?_
  refine XO.as rfl rfl ?_
  refine XO.as rfl rfl ?_
  refine XO.nk [(4, _), (5, _)] (S2 rfl rfl) ?_
  refine XC.ret ?_
  refine XE.ret2 rfl rfl rfl (post_of .h3 rfl ?_)
  have e := FF.free_none (s := s.toFF) (fun j a b => ho j a (by omega))
  exact .inl ⟨by omega, rfl, rfl⟩
set_option maxRecDepth 10000 in
set_option maxHeartbeats 1000000 in
theorem r_gone (b o : Nat) (s : FC) (n : Int) (hn : 0 ≤ n ∧ n < 40) (hl : 0 ≤ s.links n ∧ s.links n ≤ 1000000 ∧ 0 ≤ s.held n ∧ s.held n ≤ 1000000) : Spec Tryz.prog 72 [ptr b o 0, .int .i64 n]
    [.cells b o 321 (encM s), .fam fam40 (s.rowsN 9), .fam fam40 (s.rowsK 3)]
    (fun v H1 => v = .tuple #[] ∧ ∃ t : FC, t.toFF = s.goneF n ∧ t.rP = s.rP ∧ t.rC = s.rC ∧ H1 = [.cells b o 321 (encM t), .fam fam40 (FC.rowsN 9 t), .fam fam40 (FC.rowsK 3 t)]) := by
 refine Spec.intro Tryz.func72 rfl rfl ?_
 intro W
 refine XC.seq ?_
 refine XC.regionQ mixed (f := 16) (l := #[false, false, false, false, false, false, false, false, false, false, false, false, false, false, false, false]) rfl rfl XM.drawn' ?_
 refine XQ.pv (i := 0) (l' := #[tt,ff,ff,ff,ff,ff,ff,ff,ff,ff,ff,ff,ff,ff,ff,ff]) rfl (by kernel_rfl) rfl (V.move rfl) rfl rfl ?_
 refine XQ.pv (i := 1) (l' := #[tt,tt,ff,ff,ff,ff,ff,ff,ff,ff,ff,ff,ff,ff,ff,ff]) rfl (by kernel_rfl) rfl (V.move rfl) rfl rfl ?_
 refine XQ.pv (i := 2) (l' := #[tt,tt,tt,ff,ff,ff,ff,ff,ff,ff,ff,ff,ff,ff,ff,ff]) rfl (by kernel_rfl) rfl (V.nilCheckP rfl) rfl rfl ?_
 refine XQ.pv (i := 3) (l' := #[tt,tt,tt,tt,ff,ff,ff,ff,ff,ff,ff,ff,ff,ff,ff,ff]) rfl (by kernel_rfl) rfl (V.fieldAddr rfl fo_34_0) rfl rfl ?_
 refine XQ.pv (i := 4) (l' := #[tt,tt,tt,tt,tt,ff,ff,ff,ff,ff,ff,ff,ff,ff,ff,ff]) rfl (by kernel_rfl) rfl (V.indexArr rfl rfl ar_32 (by omega)) rfl rfl ?_
 refine XQ.pv (i := 5) (l' := #[tt,tt,tt,tt,tt,tt,ff,ff,ff,ff,ff,ff,ff,ff,ff,ff]) rfl (by kernel_rfl) rfl (V.fieldAddr rfl fo_31_2) rfl rfl ?_
 refine XQ.load (i := 6) (l' := #[tt,tt,tt,tt,tt,tt,tt,ff,ff,ff,ff,ff,ff,ff,ff,ff]) (.cells _ _ _ _) [] rfl (by kernel_rfl) rfl .here (V.load rfl inEnt (encM.ld_N_Links _ _ (by omega)) sc_3) rfl (by kernel_rfl) rfl ?_
 refine XQ.pv (i := 7) (l' := #[tt,tt,tt,tt,tt,tt,tt,tt,ff,ff,ff,ff,ff,ff,ff,ff]) rfl (by kernel_rfl) rfl (V.move rfl) rfl rfl ?_
 refine XQ.pv (i := 8) (l' := #[tt,tt,tt,tt,tt,tt,tt,tt,tt,ff,ff,ff,ff,ff,ff,ff]) rfl (by kernel_rfl) rfl (V.move rfl) rfl rfl ?_
 refine XQ.pv (i := 9) (l' := #[tt,tt,tt,tt,tt,tt,tt,tt,tt,tt,ff,ff,ff,ff,ff,ff]) rfl (by kernel_rfl) rfl (V.nilCheckP rfl) rfl rfl ?_
 refine XQ.pv (i := 10) (l' := #[tt,tt,tt,tt,tt,tt,tt,tt,tt,tt,tt,ff,ff,ff,ff,ff]) rfl (by kernel_rfl) rfl (V.fieldAddr rfl fo_34_0) rfl rfl ?_
 refine XQ.pv (i := 11) (l' := #[tt,tt,tt,tt,tt,tt,tt,tt,tt,tt,tt,tt,ff,ff,ff,ff]) rfl (by kernel_rfl) rfl (V.indexArr rfl rfl ar_32 (by omega)) rfl rfl ?_
 refine XQ.pv (i := 12) (l' := #[tt,tt,tt,tt,tt,tt,tt,tt,tt,tt,tt,tt,tt,ff,ff,ff]) rfl (by kernel_rfl) rfl (V.fieldAddr rfl fo_31_3) rfl rfl ?_
 refine XQ.load (i := 13) (l' := #[tt,tt,tt,tt,tt,tt,tt,tt,tt,tt,tt,tt,tt,tt,ff,ff]) (.cells _ _ _ _) [] rfl (by kernel_rfl) rfl .here (V.load rfl inEnt (encM.ld_N_Held _ _ (by omega)) sc_3) rfl (by kernel_rfl) rfl ?_
 refine XQ.pv (i := 14) (l' := #[tt,tt,tt,tt,tt,tt,tt,tt,tt,tt,tt,tt,tt,tt,tt,ff]) rfl (by kernel_rfl) rfl (V.add rfl rfl _ (IntWalk.i64_in _ (by omega))) rfl rfl ?_
 refine XQ.pv (i := 15) (l' := #[tt,tt,tt,tt,tt,tt,tt,tt,tt,tt,tt,tt,tt,tt,tt,tt]) rfl (by kernel_rfl) rfl (V.cmp rfl rfl rfl) rfl rfl ?_
 refine XQ.done (by kernel_rfl) ?_
 refine XE.next ?_
 refine XC.keep [(0, _), (1, _), (19, _)] (S3 rfl rfl rfl) ?_
 refine XC.condP rfl (fun h1 => ?_) (fun h1 => ?_)
 ·
  refine XC.region ?_
  refine XO.mv rfl rfl ?_
  refine XO.mv rfl rfl ?_
  refine XO.v (V.build (vs := #[]) rfl (v := .agg (nodeMA 0 0 0 0)) (fun _ => by kernel_rfl)) rfl ?_
  refine XO.v (V.nilCheckP rfl) rfl ?_
  refine XO.v (V.fieldAddr rfl fo_34_0) rfl ?_
  refine XO.v (V.indexArr rfl rfl ar_32 (by omega)) rfl ?_
  refine XO.storeAgg rfl rfl .here (encM_new s n 0 0 0 0 (by omega)) ⟨rfl, rfl⟩ sz_31_8 ?_
  refine XO.mono (fun _ hw3 => XM.newN (s := s) (s.setC n 0 0 0 0) (by omega) rfl rfl rfl (.cons (.there .here) .nil) hw3) ?_
  refine XO.mono (fun _ hw3 => XM.newK (s := s) (s.setC n 0 0 0 0) (by omega) rfl rfl rfl (.cons (.t2 .here) .nil) hw3) ?_
  refine XO.nil ?_
  refine XE.end0 rfl (post_of (.cons (.t2 .here) (.cons (.there .here) .h1)) rfl ?_)
  exact ⟨rfl, s.setC n 0 0 0 0, by unfold FF.goneF; rw [if_pos (by omega)]; rfl, rfl, rfl, rfl⟩
 ·
  refine XC.skip ?_
  refine XE.end0 rfl (post_of .h3 rfl ?_)
  exact ⟨rfl, s, by unfold FF.goneF; rw [if_neg (by omega)], rfl, rfl, rfl⟩
set_option maxRecDepth 10000 in
set_option maxHeartbeats 2000000 in
theorem r_Plant (b o : Nat) (s : FC) (hI : s.toFF.Sh) : Spec Tryz.prog 11 [ptr b o 0]
    [.cells b o 321 (encM s), .fam fam40 (s.rowsN 9), .fam fam40 (s.rowsK 3), irow s.rP s.rC 3 s.roots]
    (fun v H1 => ∃ t : FC, v = .tuple #[.int .i64 (s.plantV), .int .i64 (s.plantE)] ∧ t.toFF = s.plant ∧ H1 = [.cells b o 321 (encM t), .fam fam40 (FC.rowsN 9 t), .fam fam40 (FC.rowsK 3 t), irow (FC.rP t) (FC.rC t) 3 (FC.toFF t).roots]) := by
 have hr4 := hI.roots.1
 refine Spec.intro Tryz.func11 rfl rfl ?_
 intro W
 refine XC.sr ?_
 refine XO.as rfl rfl ?_
 refine XO.as rfl rfl ?_
 refine XO.nk [(0, _)] (S1 rfl) ?_
 refine XC.seq ?_
 refine XC.sr ?_
 refine XO.mv rfl rfl ?_
 refine XO.v (V.nilCheckP rfl) rfl ?_
 refine XO.v (V.fieldAddr rfl fo_34_1) rfl ?_
 refine XO.v (V.load rfl (inXM .here) (encM_roots _) sc_29) rfl ?_
 refine XO.v (V.lenSl rfl Tryz.underlying29) rfl ?_
 refine XO.v (V.cmp rfl rfl rfl) rfl ?_
 refine XO.nk [(0, _), (11, _)] (S2 rfl rfl) ?_
 refine XC.condP rfl (fun h1 => ?_) (fun h1 => ?_)
 ·
  refine XC.sr ?_
  refine XO.as rfl rfl ?_
  refine XO.as rfl rfl ?_
  refine XO.nk [(2, _), (3, _)] (S2 rfl rfl) ?_
  refine XC.ret ?_
  refine XE.thenRet ?_
  refine XE.ret2 rfl rfl rfl (post_of .h4 rfl ?_)
  have e : s.plantE = 4 := by unfold FF.plantE; rw [if_pos (by omega)]
  exact ⟨s, by rw [show s.plantV = 0 from by unfold FF.plantV; rw [if_neg (by omega)], e], by unfold FF.plant; rw [if_neg (by omega)], rfl⟩
 ·
  refine XC.skip ?_
  refine XE.next ?_
  refine XC.keep [(0, _)] (S1 rfl) ?_
  refine XC.sr ?_
  refine XO.mv rfl rfl ?_
  refine XO.mv rfl rfl ?_
  refine XO.v (V.nilCheckP rfl) rfl ?_
  refine XO.v (V.fieldAddr rfl fo_34_1) rfl ?_
  refine XO.v (V.load rfl (inXM .here) (encM_roots _) sc_29) rfl ?_
  refine XO.v (V.lenSl rfl Tryz.underlying29) rfl ?_
  refine XO.v (V.build (vs := #[(0, .int .i64 2), (1, .int .i64 (s.roots.length)), (2, .int .i64 1)]) rfl (v := .agg (nodeMA 2 s.roots.length 1 0)) (fun _ => by kernel_rfl)) rfl ?_
  refine XO.call rfl (r_fresh _ _ _ _ _ _ _) .h3 cl_27 rfl ?_
  rintro _ _ (⟨h2, rfl, rfl⟩ | ⟨h2, rfl, rfl⟩)
  ·
   refine XO.mv rfl rfl ?_
   refine XO.v (V.extract rfl rfl) rfl ?_
   refine XO.v (V.extract rfl rfl) rfl ?_
   refine XO.as rfl rfl ?_
   refine XO.as rfl rfl ?_
   refine XO.nk [(0, _), (4, _), (5, _)] (S3 rfl rfl rfl) ?_
   refine XC.seq ?_
   refine XC.sr ?_
   refine XO.mv rfl rfl ?_
   refine XO.v (V.cmp rfl rfl rfl) rfl ?_
   refine XO.nk [(0, _), (4, _), (5, _), (24, _)] (S4 rfl rfl rfl rfl) ?_
   refine XC.condTP rfl (by omega) ?_
   refine XC.sr ?_
   refine XO.mv rfl rfl ?_
   refine XO.as rfl rfl ?_
   refine XO.as rfl rfl ?_
   refine XO.nk [(2, _), (3, _)] (S2 rfl rfl) ?_
   refine XC.ret ?_
   refine XE.thenRet ?_
   refine XE.ret2 rfl rfl rfl (post_of .h4 rfl ?_)
   have e : s.plantE = 4 := by unfold FF.plantE; rw [if_neg (by omega), if_pos (by assumption)]
   exact ⟨s, by rw [show s.plantV = 0 from by unfold FF.plantV; rw [if_neg (by omega)], e], by unfold FF.plant; rw [if_neg (by omega)], rfl⟩
  ·
   refine XO.mv rfl rfl ?_
   refine XO.v (V.extract rfl rfl) rfl ?_
   refine XO.v (V.extract rfl rfl) rfl ?_
   refine XO.as rfl rfl ?_
   refine XO.as rfl rfl ?_
   refine XO.nk [(0, _), (4, _), (5, _)] (S3 rfl rfl rfl) ?_
   refine XC.seq ?_
   refine XC.sr ?_
   refine XO.mv rfl rfl ?_
   refine XO.v (V.cmp rfl rfl rfl) rfl ?_
   refine XO.nk [(0, _), (4, _), (5, _), (24, _)] (S4 rfl rfl rfl rfl) ?_
   refine XC.condFP rfl (by omega) ?_
   refine XC.skip ?_
   refine XE.next ?_
   refine XC.keep [(0, _), (4, _)] (S2 rfl rfl) ?_
   refine XC.sr ?_
   have f := FF.free_ok (show ¬ s.free < 0 by assumption)
   refine XO.mv rfl rfl ?_
   refine XO.mv rfl rfl ?_
   refine XO.mv rfl rfl ?_
   refine XO.v (V.nilCheckP rfl) rfl ?_
   refine XO.v (V.fieldAddr rfl fo_34_0) rfl ?_
   refine XO.v (V.indexArr rfl rfl ar_32 (by omega)) rfl ?_
   refine XO.v (V.fieldAddr rfl fo_31_4) rfl ?_
   refine XO.store rfl rfl .here (encM.st_N_Up _ _ (by omega) _) rfl sz_3_1 ?_
   refine XO.nk [(0, _), (4, _)] (S2 rfl rfl) ?_
   refine XC.sr ?_
   refine XO.mv rfl rfl ?_
   refine XO.mv rfl rfl ?_
   refine XO.v (V.nilCheckP rfl) rfl ?_
   refine XO.v (V.fieldAddr rfl fo_34_1) rfl ?_
   refine XO.v (V.load rfl (inXM .here) (encM_roots _) sc_29) rfl ?_
   refine XO.mv rfl rfl ?_
   refine XO.buildSlice (A := #[.int .i64 _]) (vs := #[(0, .int .i64 _)]) rfl (bs1_29 _) rfl rfl ?_
   intro h3
   refine XO.appendI (e := 3) rfl rfl Tryz.underlying29 rt_3_1 (.t4 .here) .here (by show s.roots.length + 1 ≤ _; omega) rfl ?_
   intro p1 c1
   refine XO.v (V.nilCheckP rfl) rfl ?_
   refine XO.v (V.fieldAddr rfl fo_34_1) rfl ?_
   refine XO.store rfl rfl (.t2 .here) (encM_roots_st _ (s.roots ++ [s.free]) _ _ _ rfl) rfl sz_29_1 ?_
   refine XO.nk [(0, _)] (S1 rfl) ?_
   refine XC.sr ?_
   refine XO.mv rfl rfl ?_
   refine XO.v (V.nilCheckP rfl) rfl ?_
   refine XO.v (V.fieldAddr rfl fo_34_1) rfl ?_
   refine XO.v (V.load rfl (inXM (.t2 .here)) (encM_roots _) sc_29) rfl ?_
   refine XO.v (V.lenSl rfl Tryz.underlying29) rfl ?_
   refine XO.v (V.sub rfl rfl _ (IntWalk.i64_in _ (by simp only [List.length_append, List.length_singleton]; omega))) rfl ?_
   refine XO.as rfl rfl ?_
   refine XO.as rfl rfl ?_
   refine XO.nk [(2, _), (3, _)] (S2 rfl rfl) ?_
   refine XC.ret ?_
   refine XE.ret2 rfl rfl rfl (post_of (.cons (.t2 .here) (.cons (.t2 .here) (.cons (.t2 .here) .h1))) rfl ?_)
   have e : s.plantE = 0 := by unfold FF.plantE; rw [if_neg (by omega), if_neg (by assumption)]
   refine ⟨_, ?_, ?_, rfl⟩
   ·
    rw [show s.plantV = s.roots.length from by unfold FF.plantV; rw [if_pos e], e]
    simp only [List.length_append, List.length_singleton]
    rw [show ((s.roots.length + 1 : Nat) : Int) - 1 = s.roots.length by omega]
   ·
    unfold FF.plant; rw [if_pos e, ← FF.setN_up s.toFF s.free 2 _ 1 0 s.free]; rfl
set_option maxRecDepth 10000 in
set_option maxHeartbeats 1000000 in
theorem r_Root (b o : Nat) (s : FC) (hI : s.toFF.Sh) (t : Int) : Spec Tryz.prog 28 [ptr b o 0, .int .i64 t]
    [.cells b o 321 (encM s), irow s.rP s.rC 3 s.roots]
    (fun v H1 => v = .tuple #[.int .i64 (s.rootV t), .int .i64 (s.rootE t)] ∧ H1 = [.cells b o 321 (encM s), irow s.rP s.rC 3 s.roots]) := by
 have hr4 := hI.roots.1
 refine Spec.intro Tryz.func28 rfl rfl ?_
 intro W
 refine XC.sr ?_
 refine XO.as rfl rfl ?_
 refine XO.as rfl rfl ?_
 refine XO.nk [(0, _), (1, _)] (S2 rfl rfl) ?_
 refine XC.seq ?_
 refine XC.sr ?_
 refine XO.mv rfl rfl ?_
 refine XO.v (V.cmp rfl rfl rfl) rfl ?_
 refine XO.mv rfl rfl ?_
 refine XO.splitP (d := 8) rfl (fun h1 => ?_) (fun h1 => ?_)
 ·
  refine XO.guardSkip rfl rfl rfl rfl rfl ?_
  refine XO.guardSkip rfl rfl rfl rfl rfl ?_
  refine XO.v (V.pick rfl rfl rfl rfl) rfl ?_
  refine XO.nk [(0, _), (1, _), (11, _)] (S3 rfl rfl rfl) ?_
  refine XC.condT rfl rfl ?_
  refine XC.sr ?_
  refine XO.as rfl rfl ?_
  refine XO.as rfl rfl ?_
  refine XO.nk [(4, _), (5, _)] (S2 rfl rfl) ?_
  refine XC.ret ?_
  refine XE.thenRet ?_
  refine XE.ret2 rfl rfl rfl (post_of .h2 rfl ?_)
  have e : s.rootE t = 1 := by unfold FF.rootE; rw [if_pos (by omega)]
  exact ⟨by rw [show s.rootV t = 0 from by unfold FF.rootV; rw [if_neg (by omega)], e], rfl⟩
 ·
  refine XO.guardRun rfl rfl rfl ?_
  refine XO.mv rfl rfl ?_
  refine XO.guardRun rfl rfl rfl ?_
  refine XO.v (V.cmp rfl rfl rfl) rfl ?_
  refine XO.v (V.pick rfl rfl rfl rfl) rfl ?_
  refine XO.nk [(0, _), (1, _), (11, _)] (S3 rfl rfl rfl) ?_
  refine XC.condP rfl (fun h2 => ?_) (fun h2 => ?_)
  ·
   refine XC.sr ?_
   refine XO.as rfl rfl ?_
   refine XO.as rfl rfl ?_
   refine XO.nk [(4, _), (5, _)] (S2 rfl rfl) ?_
   refine XC.ret ?_
   refine XE.thenRet ?_
   refine XE.ret2 rfl rfl rfl (post_of .h2 rfl ?_)
   have e : s.rootE t = 1 := by unfold FF.rootE; rw [if_pos (by omega)]
   exact ⟨by rw [show s.rootV t = 0 from by unfold FF.rootV; rw [if_neg (by omega)], e], rfl⟩
  ·
   refine XC.skip ?_
   refine XE.next ?_
   refine XC.keep [(0, _), (1, _)] (S2 rfl rfl) ?_
   refine XC.seq ?_
   refine XC.sr ?_
   refine XO.mv rfl rfl ?_
   refine XO.mv rfl rfl ?_
   refine XO.v (V.nilCheckP rfl) rfl ?_
   refine XO.v (V.fieldAddr rfl fo_34_1) rfl ?_
   refine XO.v (V.load rfl (inXM .here) (encM_roots _) sc_29) rfl ?_
   refine XO.v (V.lenSl rfl Tryz.underlying29) rfl ?_
   refine XO.v (V.cmp rfl rfl rfl) rfl ?_
   refine XO.nk [(0, _), (1, _), (18, _)] (S3 rfl rfl rfl) ?_
   refine XC.condP rfl (fun h3 => ?_) (fun h3 => ?_)
   ·
    refine XC.sr ?_
    refine XO.as rfl rfl ?_
    refine XO.as rfl rfl ?_
    refine XO.nk [(4, _), (5, _)] (S2 rfl rfl) ?_
    refine XC.ret ?_
    refine XE.thenRet ?_
    refine XE.ret2 rfl rfl rfl (post_of .h2 rfl ?_)
    have e : s.rootE t = 2 := by unfold FF.rootE; rw [if_neg (by omega), if_pos (by omega)]
    exact ⟨by rw [show s.rootV t = 0 from by unfold FF.rootV; rw [if_neg (by omega)], e], rfl⟩
   ·
    refine XC.skip ?_
    refine XE.next ?_
    refine XC.keep [(0, _), (1, _)] (S2 rfl rfl) ?_
    refine XC.sr ?_
    refine XO.mv rfl rfl ?_
    refine XO.v (V.nilCheckP rfl) rfl ?_
    refine XO.v (V.fieldAddr rfl fo_34_1) rfl ?_
    refine XO.v (V.load rfl (inXM .here) (encM_roots _) sc_29) rfl ?_
    refine XO.openRow (.there .here) (by omega) ?_
    intro g hg
    rw [hg]
    refine XO.mv rfl rfl ?_
    refine XO.v (V.indexSl rfl rfl sl_29 (by omega)) rfl ?_
    refine XO.v (V.loadRow rfl (inXM (.there .here)) (ints_at (by omega)) sc_3) rfl ?_
    refine XO.as rfl rfl ?_
    refine XO.as rfl rfl ?_
    refine XO.nk [(4, _), (5, _)] (S2 rfl rfl) ?_
    refine XC.ret ?_
    refine XE.ret2 rfl rfl rfl (post_of .h2 rfl ?_)
    have e : s.rootE t = 0 := by unfold FF.rootE; rw [if_neg (by omega), if_neg (by omega)]
    exact ⟨by rw [show s.rootV t = at0 s.roots t from by unfold FF.rootV; rw [if_pos e], e], rfl⟩
set_option maxRecDepth 10000 in
set_option maxHeartbeats 1000000 in
theorem r_Of (b o : Nat) (s : FC) (hI : s.toFF.Sh) (n : Int) : Spec Tryz.prog 60 [ptr b o 0, .int .i64 n]
    [.cells b o 321 (encM s)]
    (fun v H1 => v = .tuple #[.agg (s.ofR n).arr, .int .i64 (s.isE n 0)] ∧ H1 = [.cells b o 321 (encM s)]) := by
 refine Spec.intro Tryz.func60 rfl rfl ?_
 intro W
 refine XC.sr ?_
 refine XO.allocZ (z := .agg NV.zero.arr) (m := 4) (C := encNV NV.zero) (by kernel_rfl) rfl (encNV_box _) rfl ?_
 intro bg
 refine XO.as rfl rfl ?_
 refine XO.nk [(0, _), (1, _), (4, _)] (S3 rfl rfl rfl) ?_
 refine XC.seq ?_
 refine XC.sr ?_
 refine XO.mv rfl rfl ?_
 refine XO.mv rfl rfl ?_
 refine XO.call rfl (r_Is _ _ _ _ _) (.cons (.there .here) .nil) cl_65 rfl ?_
 rintro _ _ ⟨rfl, rfl⟩
 refine XO.as rfl rfl ?_
 refine XO.nk [(0, _), (1, _), (4, _), (6, _)] (S4 rfl rfl rfl rfl) ?_
 refine XC.sr ?_
 refine XO.mv rfl rfl ?_
 refine XO.v (V.cmp rfl rfl rfl) rfl ?_
 refine XO.nk [(0, _), (1, _), (4, _), (6, _), (13, _)] (S5 rfl rfl rfl rfl rfl) ?_
 refine XC.condP rfl (fun h1 => ?_) (fun h1 => ?_)
 ·
  have i0 : s.isE n 0 ≠ 0 := by omega
  refine XC.sr ?_
  refine XO.v (V.build (vs := #[]) rfl (v := .agg NV.zero.arr) (fun _ => by kernel_rfl)) rfl ?_
  refine XO.mv rfl rfl ?_
  refine XO.storeAgg rfl rfl (.there .here) (encNV_st _ _) ⟨rfl, rfl⟩ sz_116_4 ?_
  refine XO.as rfl rfl ?_
  refine XO.nk [(4, _), (5, _)] (S2 rfl rfl) ?_
  refine XC.ret ?_
  refine XE.thenRet ?_
  refine XE.retG2 rfl (.agg rfl (.there .here) (encNV_agg _) ag_116 sz_116_4) (.tmp rfl) (post_of .h1 rfl ?_)
  exact ⟨by rw [show s.ofR n = NV.zero from by unfold FF.ofR; rw [if_neg i0]], rfl⟩
 ·
  obtain ⟨i1, i2, i3⟩ := FF.isE_0 (show s.isE n 0 = 0 by have := FF.isE_nn s.toFF n 0; omega)
  have i0 : s.isE n 0 = 0 := by have := FF.isE_nn s.toFF n 0; omega
  refine XC.skip ?_
  refine XE.next ?_
  refine XC.keep [(0, _), (1, _), (4, _)] (S3 rfl rfl rfl) ?_
  refine XC.sr ?_
  refine XO.mv rfl rfl ?_
  refine XO.mv rfl rfl ?_
  refine XO.v (V.nilCheckP rfl) rfl ?_
  refine XO.v (V.fieldAddr rfl fo_34_0) rfl ?_
  refine XO.v (V.indexArr rfl rfl ar_32 (by omega)) rfl ?_
  refine XO.v (V.loadAgg rfl (inXM .here) (encM_node _ _ (by omega)) ag_31 sz_31_8) rfl ?_
  refine XO.allocZ (z := .agg (nodeMA 0 0 0 0)) (m := 8) (C := encM.cell (nodeMU 0 0 0 0)) (by kernel_rfl) rfl (nodeM_box 0 0 0 0) rfl ?_
  intro bx
  refine XO.storeAgg rfl rfl .here (nodeMV_st _ _) ⟨rfl, rfl⟩ sz_31_8 ?_
  refine XO.nk [(4, _), (7, _)] (S2 rfl rfl) ?_
  refine XC.sr ?_
  refine XO.v (V.fieldAddr rfl fo_31_5) rfl ?_
  refine XO.v (V.load rfl (inXM .here) (nodeMV_5 _) sc_9) rfl ?_
  refine XO.v (V.lenStr rfl Tryz.underlying9) rfl ?_
  refine XO.as rfl rfl ?_
  refine XO.nk [(4, _), (7, _), (8, _)] (S3 rfl rfl rfl) ?_
  refine XC.seq ?_
  refine XC.sr ?_
  refine XO.v (V.fieldAddr rfl fo_31_0) rfl ?_
  refine XO.v (V.load rfl (inXM .here) (nodeMV_0 _) sc_3) rfl ?_
  refine XO.v (V.cmp rfl rfl rfl) rfl ?_
  refine XO.nk [(4, _), (7, _), (8, _), (27, _)] (S4 rfl rfl rfl rfl) ?_
  refine XC.condP rfl (fun h2 => ?_) (fun h2 => ?_)
  ·
   refine XC.region ?_
   refine XO.v (V.fieldAddr rfl fo_31_6) rfl ?_
   refine XO.v (V.load rfl (inXM .here) (nodeMV_6 _) sc_28) rfl ?_
   refine XO.v (V.lenSl rfl Tryz.underlying28) rfl ?_
   refine XO.as rfl rfl ?_
   refine XO.nk [(4, _), (7, _), (8, _)] (S3 rfl rfl rfl) ?_
   refine XC.sr ?_
   refine XO.v (V.fieldAddr rfl fo_31_0) rfl ?_
   refine XO.v (V.load rfl (inXM .here) (nodeMV_0 _) sc_3) rfl ?_
   refine XO.v (V.fieldAddr rfl fo_31_2) rfl ?_
   refine XO.v (V.load rfl (inXM .here) (nodeMV_2 _) sc_3) rfl ?_
   refine XO.v (V.fieldAddr rfl fo_31_3) rfl ?_
   refine XO.v (V.load rfl (inXM .here) (nodeMV_3 _) sc_3) rfl ?_
   refine XO.mv rfl rfl ?_
   refine XO.v (V.build (vs := #[(0, .int .i64 (s.kind n)), (1, .int .i64 (s.links n)), (2, .int .i64 (s.held n)), (3, .int .i64 ((s.names n).length : Int))]) rfl (v := .agg (NV.mk (s.kind n) (s.links n) (s.held n) (((s.names n).length : Int))).arr) (fun _ => by kernel_rfl)) rfl ?_
   refine XO.storeAgg rfl rfl (.t2 .here) (encNV_st _ _) ⟨rfl, rfl⟩ sz_116_4 ?_
   refine XO.as rfl rfl ?_
   refine XO.nk [(4, _), (5, _)] (S2 rfl rfl) ?_
   refine XC.ret ?_
   refine XE.retG2 rfl (.agg rfl (.t2 .here) (encNV_agg _) ag_116 sz_116_4) (.tmp rfl) (post_of (.cons (.there .here) .nil) rfl ?_)
   exact ⟨by rw [show s.ofR n = _ from by unfold FF.ofR; rw [if_pos i0, if_pos (by assumption)], i0], rfl⟩
  ·
   refine XC.skip ?_
   refine XE.next ?_
   refine XC.keep [(4, _), (7, _), (8, _)] (S3 rfl rfl rfl) ?_
   refine XC.sr ?_
   refine XO.v (V.fieldAddr rfl fo_31_0) rfl ?_
   refine XO.v (V.load rfl (inXM .here) (nodeMV_0 _) sc_3) rfl ?_
   refine XO.v (V.fieldAddr rfl fo_31_2) rfl ?_
   refine XO.v (V.load rfl (inXM .here) (nodeMV_2 _) sc_3) rfl ?_
   refine XO.v (V.fieldAddr rfl fo_31_3) rfl ?_
   refine XO.v (V.load rfl (inXM .here) (nodeMV_3 _) sc_3) rfl ?_
   refine XO.mv rfl rfl ?_
   refine XO.v (V.build (vs := #[(0, .int .i64 (s.kind n)), (1, .int .i64 (s.links n)), (2, .int .i64 (s.held n)), (3, .int .i64 ((s.data n).size : Int))]) rfl (v := .agg (NV.mk (s.kind n) (s.links n) (s.held n) (((s.data n).size : Int))).arr) (fun _ => by kernel_rfl)) rfl ?_
   refine XO.storeAgg rfl rfl (.t2 .here) (encNV_st _ _) ⟨rfl, rfl⟩ sz_116_4 ?_
   refine XO.as rfl rfl ?_
   refine XO.nk [(4, _), (5, _)] (S2 rfl rfl) ?_
   refine XC.ret ?_
   refine XE.retG2 rfl (.agg rfl (.t2 .here) (encNV_agg _) ag_116 sz_116_4) (.tmp rfl) (post_of (.cons (.there .here) .nil) rfl ?_)
   exact ⟨by rw [show s.ofR n = _ from by unfold FF.ofR; rw [if_pos i0, if_neg (by assumption)], i0], rfl⟩
set_option maxRecDepth 10000 in
set_option maxHeartbeats 1000000 in
theorem r_List (b o : Nat) (s : FC) (n : Int) : Spec Tryz.prog 62 [ptr b o 0, .int .i64 n]
    [.cells b o 321 (encM s)]
    (fun v H1 => v = .tuple #[if s.isE n 2 = 0 then .slice (s.nP n) (s.names n).length (s.nC n) else .slice none 0 0, .int .i64 (s.isE n 2)] ∧ H1 = [.cells b o 321 (encM s)]) := by
 refine Spec.intro Tryz.func62 rfl rfl ?_
 intro W
 refine XC.sr ?_
 refine XO.as rfl rfl ?_
 refine XO.as rfl rfl ?_
 refine XO.nk [(0, _), (1, _)] (S2 rfl rfl) ?_
 refine XC.seq ?_
 refine XC.sr ?_
 refine XO.mv rfl rfl ?_
 refine XO.mv rfl rfl ?_
 refine XO.call rfl (r_Is _ _ _ _ _) .h1 cl_65 rfl ?_
 rintro _ _ ⟨rfl, rfl⟩
 refine XO.as rfl rfl ?_
 refine XO.nk [(0, _), (1, _), (6, _)] (S3 rfl rfl rfl) ?_
 refine XC.sr ?_
 refine XO.mv rfl rfl ?_
 refine XO.v (V.cmp rfl rfl rfl) rfl ?_
 refine XO.nk [(0, _), (1, _), (6, _), (11, _)] (S4 rfl rfl rfl rfl) ?_
 refine XC.condP rfl (fun h1 => ?_) (fun h1 => ?_)
 ·
  refine XC.sr ?_
  refine XO.mv rfl rfl ?_
  refine XO.as rfl rfl ?_
  refine XO.as rfl rfl ?_
  refine XO.nk [(4, _), (5, _)] (S2 rfl rfl) ?_
  refine XC.ret ?_
  refine XE.thenRet ?_
  refine XE.ret2 rfl rfl rfl (post_of .h1 rfl ?_)
  exact ⟨by rw [if_neg (by omega)], rfl⟩
 ·
  have i0 : s.isE n 2 = 0 := by have := FF.isE_nn s.toFF n 2; omega
  obtain ⟨i1, i2, i3, i4⟩ := FF.isE_k0 i0
  refine XC.skip ?_
  refine XE.next ?_
  refine XC.keep [(0, _), (1, _)] (S2 rfl rfl) ?_
  refine XC.sr ?_
  refine XO.mv rfl rfl ?_
  refine XO.mv rfl rfl ?_
  refine XO.v (V.nilCheckP rfl) rfl ?_
  refine XO.v (V.fieldAddr rfl fo_34_0) rfl ?_
  refine XO.v (V.indexArr rfl rfl ar_32 (by omega)) rfl ?_
  refine XO.v (V.fieldAddr rfl fo_31_6) rfl ?_
  refine XO.v (V.load rfl (inXM .here) (encM.ld_N_Names _ _ (by omega)) sc_28) rfl ?_
  refine XO.as rfl rfl ?_
  refine XO.as rfl rfl ?_
  refine XO.nk [(4, _), (5, _)] (S2 rfl rfl) ?_
  refine XC.ret ?_
  refine XE.ret2 rfl rfl rfl (post_of .h1 rfl ?_)
  exact ⟨by rw [if_pos i0, i0], rfl⟩
set_option maxRecDepth 10000 in
set_option maxHeartbeats 1000000 in
theorem r_Nodes (b o : Nat) (s : FC) : Spec Tryz.prog 67 [ptr b o 0]
    [.cells b o 321 (encM s)]
    (fun v H1 => v = .int .i64 s.nodes ∧ H1 = [.cells b o 321 (encM s)]) := by
 refine Spec.intro Tryz.func67 rfl rfl ?_
 intro W
 refine XC.sr ?_
 refine XO.as rfl rfl ?_
 refine XO.nk [(0, _)] (S1 rfl) ?_
 refine XC.sr ?_
 refine XO.as rfl rfl ?_
 refine XO.nk [(0, _), (3, _)] (S2 rfl rfl) ?_
 refine XC.seq ?_
 refine XC.sr ?_
 refine XO.as rfl rfl ?_
 refine XO.nk [(0, _), (3, _), (4, _)] (S3 rfl rfl rfl) ?_
 refine XC.block ?_
 refine XC.loop (σ := Int) (fun i => (40 - i).toNat) (fun i => (0 ≤ i ∧ i ≤ 40) ∧ 0 ≤ s.cntN i.toNat ∧ s.cntN i.toNat ≤ i) (fun i => [(4, .int .i64 i), (3, .int .i64 (s.cntN i.toNat)), (0, ptr b o 0)]) (fun i => XM W (foot [.cells b o 321 (encM s)]) [.cells b o 321 (encM s)]) (0) ?_ (S3 rfl rfl rfl) (fun _ hw => XM.pick .h1 hw) ?_
 ·
  exact ⟨by omega, by show (0:Int) ≤ 0; omega, by show (0:Int) ≤ 0; omega⟩
 intro i hi
 obtain ⟨hi, ho⟩ := hi
 have hst := FF.cntN_next s.toFF hi.1
 refine XC.seq ?_
 refine XC.sr ?_
 refine XO.mv rfl rfl ?_
 refine XO.v (V.cmp rfl rfl rfl) rfl ?_
 refine XO.nk [(0, _), (3, _), (4, _), (6, _)] (S4 rfl rfl rfl rfl) ?_
 refine XC.condP rfl (fun h1 => ?_) (fun h1 => ?_)
 ·
  refine XC.skip ?_
  refine XE.next ?_
  refine XC.keep [(0, _), (3, _), (4, _)] (S3 rfl rfl rfl) ?_
  refine XC.seq ?_
  refine XC.block ?_
  refine XC.sr ?_
  refine XO.mv rfl rfl ?_
  refine XO.mv rfl rfl ?_
  refine XO.v (V.nilCheckP rfl) rfl ?_
  refine XO.v (V.fieldAddr rfl fo_34_0) rfl ?_
  refine XO.v (V.indexArr rfl rfl ar_32 (by omega)) rfl ?_
  refine XO.v (V.fieldAddr rfl fo_31_0) rfl ?_
  refine XO.v (V.load rfl (inXM .here) (encM.ld_N_Kind _ _ (by omega)) sc_3) rfl ?_
  refine XO.v (V.cmp rfl rfl rfl) rfl ?_
  refine XO.nk [(0, _), (3, _), (4, _), (16, _)] (S4 rfl rfl rfl rfl) ?_
  refine XC.condP rfl (fun h2 => ?_) (fun h2 => ?_)
  ·
   refine XC.region ?_
   refine XO.mv rfl rfl ?_
   refine XO.v (V.add rfl rfl _ (IntWalk.i64_in _ (by omega))) rfl ?_
   refine XO.as rfl rfl ?_
   refine XO.nil ?_
   refine XE.blockNormal ?_
   refine XE.next ?_
   refine XC.keep [(0, _), (3, _), (4, _)] (S3 rfl rfl rfl) ?_
   refine XC.region ?_
   refine XO.mv rfl rfl ?_
   refine XO.v (V.add rfl rfl _ (IntWalk.i64_in _ (by omega))) rfl ?_
   refine XO.as rfl rfl ?_
   refine XO.nil ?_
   refine XE.again (i + 1) ?_ ?_ (Sub.cons rfl (Sub.cons (eqi (by rw [hst, if_pos (by assumption)])) (S1 rfl))) (fun _ hw => XM.pick .h1 hw)
   ·
    (first | omega | (simp; done) | (simp; omega))
   ·
    rw [hst, if_pos (by assumption)]; omega
  ·
   refine XC.skip ?_
   refine XE.blockNormal ?_
   refine XE.next ?_
   refine XC.keep [(0, _), (3, _), (4, _)] (S3 rfl rfl rfl) ?_
   refine XC.region ?_
   refine XO.mv rfl rfl ?_
   refine XO.v (V.add rfl rfl _ (IntWalk.i64_in _ (by omega))) rfl ?_
   refine XO.as rfl rfl ?_
   refine XO.nil ?_
   refine XE.again (i + 1) ?_ ?_ (Sub.cons rfl (Sub.cons (eqi (by rw [hst, if_neg (by omega)]; omega)) (S1 rfl))) (fun _ hw => XM.pick .h1 hw)
   ·
    (first | omega | (simp; done) | (simp; omega))
   ·
    rw [hst, if_neg (by omega)]; omega
 ·
  refine XC.exit ?_
  refine XE.thenExit ?_
  refine XE.thenExit ?_
  refine XE.blockExit ?_
  refine XE.next ?_
  refine XC.keep [(3, _)] (S1 rfl) ?_
  refine XC.sr ?_
  refine XO.mv rfl rfl ?_
  refine XO.as rfl rfl ?_
  refine XO.nk [(2, _)] (S1 rfl) ?_
  refine XC.ret ?_
  refine XE.ret1 rfl rfl (post_of .h1 rfl ?_)
  have e : i = 40 := by omega
  subst e
  exact ⟨rfl, rfl⟩
set_option maxRecDepth 10000 in
set_option maxHeartbeats 1000000 in
theorem r_Cut (b o : Nat) (s : FC) (hI : s.toFF.Sh) (n z : Int) : Spec Tryz.prog 45 [ptr b o 0, .int .i64 n, .int .i64 z]
    [.cells b o 321 (encM s), .fam fam40 (s.rowsN 9), .fam fam40 (s.rowsK 3)]
    (fun v H1 => v = .int .i64 (s.clipE n z) ∧ ∃ t : FC, t.toFF = s.clip n z ∧ t.rP = s.rP ∧ t.rC = s.rC ∧ H1 = [.cells b o 321 (encM t), .fam fam40 (FC.rowsN 9 t), .fam fam40 (FC.rowsK 3 t)]) := by
 refine Spec.intro Tryz.func45 rfl rfl ?_
 intro W
 refine XC.sr ?_
 refine XO.as rfl rfl ?_
 refine XO.nk [(0, _), (1, _), (2, _)] (S3 rfl rfl rfl) ?_
 refine XC.seq ?_
 refine XC.sr ?_
 refine XO.mv rfl rfl ?_
 refine XO.mv rfl rfl ?_
 refine XO.call rfl (r_Is _ _ _ _ _) .h1 cl_65 rfl ?_
 rintro _ _ ⟨rfl, rfl⟩
 refine XO.as rfl rfl ?_
 refine XO.nk [(0, _), (1, _), (2, _), (7, _)] (S4 rfl rfl rfl rfl) ?_
 refine XC.sr ?_
 refine XO.mv rfl rfl ?_
 refine XO.v (V.cmp rfl rfl rfl) rfl ?_
 refine XO.nk [(0, _), (1, _), (2, _), (7, _), (12, _)] (S5 rfl rfl rfl rfl rfl) ?_
 refine XC.condP rfl (fun h1 => ?_) (fun h1 => ?_)
 ·
  refine XC.sr ?_
  refine XO.mv rfl rfl ?_
  refine XO.as rfl rfl ?_
  refine XO.nk [(6, _)] (S1 rfl) ?_
  refine XC.ret ?_
  refine XE.thenRet ?_
  refine XE.ret1 rfl rfl (post_of .h3 rfl ?_)
  have e : s.clipE n z = s.isE n 1 := by unfold FF.clipE; rw [if_pos (by omega)]
  exact ⟨by rw [e], s, by unfold FF.clip; rw [if_neg (by omega)], rfl, rfl, rfl⟩
 ·
  have i0 : s.isE n 1 = 0 := by have := FF.isE_nn s.toFF n 1; omega
  obtain ⟨i1, i2, i3, i4⟩ := FF.isE_k0 i0
  have hd := hI.data n (by omega) (by omega)
  refine XC.skip ?_
  refine XE.next ?_
  refine XC.keep [(0, _), (1, _), (2, _)] (S3 rfl rfl rfl) ?_
  refine XC.seq ?_
  refine XC.sr ?_
  refine XO.mv rfl rfl ?_
  refine XO.v (V.cmp rfl rfl rfl) rfl ?_
  refine XO.mv rfl rfl ?_
  refine XO.splitP (d := 16) rfl (fun h2 => ?_) (fun h2 => ?_)
  ·
   refine XO.guardSkip rfl rfl rfl rfl rfl ?_
   refine XO.guardSkip rfl rfl rfl rfl rfl ?_
   refine XO.guardSkip rfl rfl rfl rfl rfl ?_
   refine XO.guardSkip rfl rfl rfl rfl rfl ?_
   refine XO.guardSkip rfl rfl rfl rfl rfl ?_
   refine XO.guardSkip rfl rfl rfl rfl rfl ?_
   refine XO.guardSkip rfl rfl rfl rfl rfl ?_
   refine XO.guardSkip rfl rfl rfl rfl rfl ?_
   refine XO.guardSkip rfl rfl rfl rfl rfl ?_
   refine XO.guardSkip rfl rfl rfl rfl rfl ?_
   refine XO.v (V.pick rfl rfl rfl rfl) rfl ?_
   refine XO.nk [(0, _), (1, _), (2, _), (27, _)] (S4 rfl rfl rfl rfl) ?_
   refine XC.condT rfl rfl ?_
   refine XC.sr ?_
   refine XO.as rfl rfl ?_
   refine XO.nk [(6, _)] (S1 rfl) ?_
   refine XC.ret ?_
   refine XE.thenRet ?_
   refine XE.ret1 rfl rfl (post_of .h3 rfl ?_)
   have e : s.clipE n z = 1 := by unfold FF.clipE; rw [if_neg (by omega), if_pos (by omega)]
   exact ⟨by rw [e], s, by unfold FF.clip; rw [if_neg (by omega)], rfl, rfl, rfl⟩
  ·
   refine XO.guardRun rfl rfl rfl ?_
   refine XO.mv rfl rfl ?_
   refine XO.guardRun rfl rfl rfl ?_
   refine XO.mv rfl rfl ?_
   refine XO.guardRun rfl rfl rfl ?_
   refine XO.mv rfl rfl ?_
   refine XO.guardRun rfl rfl rfl ?_
   refine XO.v (V.nilCheckP rfl) rfl ?_
   refine XO.guardRun rfl rfl rfl ?_
   refine XO.v (V.fieldAddr rfl fo_34_0) rfl ?_
   refine XO.guardRun rfl rfl rfl ?_
   refine XO.v (V.indexArr rfl rfl ar_32 (by omega)) rfl ?_
   refine XO.guardRun rfl rfl rfl ?_
   refine XO.v (V.fieldAddr rfl fo_31_5) rfl ?_
   refine XO.guardRun rfl rfl rfl ?_
   refine XO.v (V.load rfl (inXM .here) (encM.ld_N_Data _ _ (by omega)) sc_9) rfl ?_
   refine XO.guardRun rfl rfl rfl ?_
   refine XO.v (V.lenStr rfl Tryz.underlying9) rfl ?_
   refine XO.guardRun rfl rfl rfl ?_
   refine XO.v (V.cmp rfl rfl rfl) rfl ?_
   refine XO.v (V.pick rfl rfl rfl rfl) rfl ?_
   refine XO.nk [(0, _), (1, _), (2, _), (27, _)] (S4 rfl rfl rfl rfl) ?_
   refine XC.condP rfl (fun h3 => ?_) (fun h3 => ?_)
   ·
    refine XC.sr ?_
    refine XO.as rfl rfl ?_
    refine XO.nk [(6, _)] (S1 rfl) ?_
    refine XC.ret ?_
    refine XE.thenRet ?_
    refine XE.ret1 rfl rfl (post_of .h3 rfl ?_)
    have e : s.clipE n z = 1 := by unfold FF.clipE; rw [if_neg (by omega), if_pos (by omega)]
    exact ⟨by rw [e], s, by unfold FF.clip; rw [if_neg (by omega)], rfl, rfl, rfl⟩
   ·
    refine XC.skip ?_
    refine XE.next ?_
    refine XC.keep [(0, _), (1, _), (2, _)] (S3 rfl rfl rfl) ?_
    refine XC.seq ?_
    refine XC.regionQ mixed (f := 16) (l := #[false, false, false, false, false, false, false, false, false, false, false, false, false, false, false, false]) rfl rfl XM.drawn' ?_
    refine XQ.pv (i := 0) (l' := #[tt,ff,ff,ff,ff,ff,ff,ff,ff,ff,ff,ff,ff,ff,ff,ff]) rfl (by kernel_rfl) rfl (V.move rfl) rfl rfl ?_
    refine XQ.pv (i := 1) (l' := #[tt,tt,ff,ff,ff,ff,ff,ff,ff,ff,ff,ff,ff,ff,ff,ff]) rfl (by kernel_rfl) rfl (V.move rfl) rfl rfl ?_
    refine XQ.pv (i := 2) (l' := #[tt,tt,tt,ff,ff,ff,ff,ff,ff,ff,ff,ff,ff,ff,ff,ff]) rfl (by kernel_rfl) rfl (V.move rfl) rfl rfl ?_
    refine XQ.pv (i := 3) (l' := #[tt,tt,tt,tt,ff,ff,ff,ff,ff,ff,ff,ff,ff,ff,ff,ff]) rfl (by kernel_rfl) rfl (V.move rfl) rfl rfl ?_
    refine XQ.pv (i := 4) (l' := #[tt,tt,tt,tt,tt,ff,ff,ff,ff,ff,ff,ff,ff,ff,ff,ff]) rfl (by kernel_rfl) rfl (V.nilCheckP rfl) rfl rfl ?_
    refine XQ.pv (i := 5) (l' := #[tt,tt,tt,tt,tt,tt,ff,ff,ff,ff,ff,ff,ff,ff,ff,ff]) rfl (by kernel_rfl) rfl (V.fieldAddr rfl fo_34_0) rfl rfl ?_
    refine XQ.pv (i := 6) (l' := #[tt,tt,tt,tt,tt,tt,tt,ff,ff,ff,ff,ff,ff,ff,ff,ff]) rfl (by kernel_rfl) rfl (V.indexArr rfl rfl ar_32 (by omega)) rfl rfl ?_
    refine XQ.pv (i := 7) (l' := #[tt,tt,tt,tt,tt,tt,tt,tt,ff,ff,ff,ff,ff,ff,ff,ff]) rfl (by kernel_rfl) rfl (V.fieldAddr rfl fo_31_5) rfl rfl ?_
    refine XQ.load (i := 8) (l' := #[tt,tt,tt,tt,tt,tt,tt,tt,tt,ff,ff,ff,ff,ff,ff,ff]) (.cells _ _ _ _) [15] rfl (by kernel_rfl) rfl .here (V.load rfl inEnt (encM.ld_N_Data _ _ (by omega)) sc_9) rfl (by kernel_rfl) rfl ?_
    refine XQ.pv (i := 9) (l' := #[tt,tt,tt,tt,tt,tt,tt,tt,tt,tt,ff,ff,ff,ff,ff,ff]) rfl (by kernel_rfl) rfl (V.move rfl) rfl rfl ?_
    refine XQ.pv (i := 10) (l' := #[tt,tt,tt,tt,tt,tt,tt,tt,tt,tt,tt,ff,ff,ff,ff,ff]) rfl (by kernel_rfl) rfl (V.sliceTo rfl rfl Tryz.underlying9 (by omega)) rfl rfl ?_
    refine XQ.pv (i := 11) (l' := #[tt,tt,tt,tt,tt,tt,tt,tt,tt,tt,tt,tt,ff,ff,ff,ff]) rfl (by kernel_rfl) rfl (V.nilCheckP rfl) rfl rfl ?_
    refine XQ.pv (i := 12) (l' := #[tt,tt,tt,tt,tt,tt,tt,tt,tt,tt,tt,tt,tt,ff,ff,ff]) rfl (by kernel_rfl) rfl (V.fieldAddr rfl fo_34_0) rfl rfl ?_
    refine XQ.pv (i := 13) (l' := #[tt,tt,tt,tt,tt,tt,tt,tt,tt,tt,tt,tt,tt,tt,ff,ff]) rfl (by kernel_rfl) rfl (V.indexArr rfl rfl ar_32 (by omega)) rfl rfl ?_
    refine XQ.pv (i := 14) (l' := #[tt,tt,tt,tt,tt,tt,tt,tt,tt,tt,tt,tt,tt,tt,tt,ff]) rfl (by kernel_rfl) rfl (V.fieldAddr rfl fo_31_5) rfl rfl ?_
    refine XQ.store (i := 15) (l' := #[tt,tt,tt,tt,tt,tt,tt,tt,tt,tt,tt,tt,tt,tt,tt,tt]) rfl (by kernel_rfl) rfl rfl rfl .here (encM.st_N_Data _ _ (by omega) _) rfl sz_9_1 (fun _ hw' => ⟨fun hs => (hs 15 (by first | (simp; done) | (simp; rfl)) rfl).elim, trivial⟩) ?_
    refine XQ.done (by kernel_rfl) ?_
    refine XE.next ?_
    refine XC.keep [] (Sub.nil _) ?_
    refine XC.sr ?_
    refine XO.as rfl rfl ?_
    refine XO.nk [(6, _)] (S1 rfl) ?_
    refine XC.ret ?_
    refine XE.ret1 rfl rfl (post_of .h3 rfl ?_)
    have e : s.clipE n z = 0 := by unfold FF.clipE; rw [if_neg (by omega), if_neg (by omega)]
    exact ⟨by rw [e], ({ s with data := fset s.data n ((s.data n).extract 0 z.toNat) } : FC), by unfold FF.clip; rw [if_pos e], rfl, rfl, rfl⟩
set_option maxRecDepth 10000 in
set_option maxHeartbeats 1000000 in
theorem r_Hold (b o : Nat) (s : FC) (hI : s.toFF.Sh) (n : Int) : Spec Tryz.prog 29 [ptr b o 0, .int .i64 n, .bool false]
    [.cells b o 321 (encM s), .fam fam40 (s.rowsN 9), .fam fam40 (s.rowsK 3)]
    (fun v H1 => v = .int .i64 (s.isE n 0) ∧ ∃ t : FC, t.toFF = s.hold n ∧ t.rP = s.rP ∧ t.rC = s.rC ∧ H1 = [.cells b o 321 (encM t), .fam fam40 (FC.rowsN 9 t), .fam fam40 (FC.rowsK 3 t)]) := by
 refine Spec.intro Tryz.func29 rfl rfl ?_
 intro W
 refine XC.sr ?_
 refine XO.as rfl rfl ?_
 refine XO.nk [(0, _), (1, _), (2, _)] (S3 rfl rfl rfl) ?_
 refine XC.seq ?_
 refine XC.sr ?_
 refine XO.mv rfl rfl ?_
 refine XO.mv rfl rfl ?_
 refine XO.call rfl (r_Is _ _ _ _ _) .h1 cl_65 rfl ?_
 rintro _ _ ⟨rfl, rfl⟩
 refine XO.as rfl rfl ?_
 refine XO.nk [(0, _), (1, _), (2, _), (7, _)] (S4 rfl rfl rfl rfl) ?_
 refine XC.sr ?_
 refine XO.mv rfl rfl ?_
 refine XO.v (V.cmp rfl rfl rfl) rfl ?_
 refine XO.nk [(0, _), (1, _), (2, _), (7, _), (12, _)] (S5 rfl rfl rfl rfl rfl) ?_
 refine XC.condP rfl (fun h1 => ?_) (fun h1 => ?_)
 ·
  refine XC.sr ?_
  refine XO.mv rfl rfl ?_
  refine XO.as rfl rfl ?_
  refine XO.nk [(6, _)] (S1 rfl) ?_
  refine XC.ret ?_
  refine XE.thenRet ?_
  refine XE.ret1 rfl rfl (post_of .h3 rfl ?_)
  exact ⟨rfl, s, by unfold FF.hold; rw [if_neg (by omega)], rfl, rfl, rfl⟩
 ·
  obtain ⟨i1, i2, i3⟩ := FF.isE_0 (show s.isE n 0 = 0 by have := FF.isE_nn s.toFF n 0; omega)
  have i0 : s.isE n 0 = 0 := by have := FF.isE_nn s.toFF n 0; omega
  have hnb := hI.num n (by omega) (by omega)
  refine XC.skip ?_
  refine XE.next ?_
  refine XC.keep [(0, _), (1, _), (2, _)] (S3 rfl rfl rfl) ?_
  refine XC.seq ?_
  refine XC.sr ?_
  refine XO.mv rfl rfl ?_
  refine XO.v (V.not rfl) rfl ?_
  refine XO.nk [(0, _), (1, _), (15, _)] (S3 rfl rfl rfl) ?_
  refine XC.condT rfl rfl ?_
  refine XC.seq ?_
  refine XC.regionQ mixed (f := 13) (l := #[false, false, false, false, false, false, false, false, false, false, false, false, false]) rfl rfl XM.drawn' ?_
  refine XQ.pv (i := 0) (l' := #[tt,ff,ff,ff,ff,ff,ff,ff,ff,ff,ff,ff,ff]) rfl (by kernel_rfl) rfl (V.move rfl) rfl rfl ?_
  refine XQ.pv (i := 1) (l' := #[tt,tt,ff,ff,ff,ff,ff,ff,ff,ff,ff,ff,ff]) rfl (by kernel_rfl) rfl (V.move rfl) rfl rfl ?_
  refine XQ.pv (i := 2) (l' := #[tt,tt,tt,ff,ff,ff,ff,ff,ff,ff,ff,ff,ff]) rfl (by kernel_rfl) rfl (V.nilCheckP rfl) rfl rfl ?_
  refine XQ.pv (i := 3) (l' := #[tt,tt,tt,tt,ff,ff,ff,ff,ff,ff,ff,ff,ff]) rfl (by kernel_rfl) rfl (V.fieldAddr rfl fo_34_0) rfl rfl ?_
  refine XQ.pv (i := 4) (l' := #[tt,tt,tt,tt,tt,ff,ff,ff,ff,ff,ff,ff,ff]) rfl (by kernel_rfl) rfl (V.indexArr rfl rfl ar_32 (by omega)) rfl rfl ?_
  refine XQ.pv (i := 5) (l' := #[tt,tt,tt,tt,tt,tt,ff,ff,ff,ff,ff,ff,ff]) rfl (by kernel_rfl) rfl (V.fieldAddr rfl fo_31_3) rfl rfl ?_
  refine XQ.load (i := 6) (l' := #[tt,tt,tt,tt,tt,tt,tt,ff,ff,ff,ff,ff,ff]) (.cells _ _ _ _) [12] rfl (by kernel_rfl) rfl .here (V.load rfl inEnt (encM.ld_N_Held _ _ (by omega)) sc_3) rfl (by kernel_rfl) rfl ?_
  refine XQ.pv (i := 7) (l' := #[tt,tt,tt,tt,tt,tt,tt,tt,ff,ff,ff,ff,ff]) rfl (by kernel_rfl) rfl (V.add rfl rfl _ (IntWalk.i64_in _ (by omega))) rfl rfl ?_
  refine XQ.pv (i := 8) (l' := #[tt,tt,tt,tt,tt,tt,tt,tt,tt,ff,ff,ff,ff]) rfl (by kernel_rfl) rfl (V.nilCheckP rfl) rfl rfl ?_
  refine XQ.pv (i := 9) (l' := #[tt,tt,tt,tt,tt,tt,tt,tt,tt,tt,ff,ff,ff]) rfl (by kernel_rfl) rfl (V.fieldAddr rfl fo_34_0) rfl rfl ?_
  refine XQ.pv (i := 10) (l' := #[tt,tt,tt,tt,tt,tt,tt,tt,tt,tt,tt,ff,ff]) rfl (by kernel_rfl) rfl (V.indexArr rfl rfl ar_32 (by omega)) rfl rfl ?_
  refine XQ.pv (i := 11) (l' := #[tt,tt,tt,tt,tt,tt,tt,tt,tt,tt,tt,tt,ff]) rfl (by kernel_rfl) rfl (V.fieldAddr rfl fo_31_3) rfl rfl ?_
  refine XQ.store (i := 12) (l' := #[tt,tt,tt,tt,tt,tt,tt,tt,tt,tt,tt,tt,tt]) rfl (by kernel_rfl) rfl rfl rfl .here (encM.st_N_Held _ _ (by omega) _) rfl sz_3_1 (fun _ hw' => ⟨fun hs => (hs 12 (by first | (simp; done) | (simp; rfl)) rfl).elim, trivial⟩) ?_
  refine XQ.done (by kernel_rfl) ?_
  refine XE.next ?_
  refine XC.keep [] (Sub.nil _) ?_
  refine XC.sr ?_
  refine XO.as rfl rfl ?_
  refine XO.nk [(6, _)] (S1 rfl) ?_
  refine XC.ret ?_
  refine XE.thenRet ?_
  refine XE.ret1 rfl rfl (post_of .h3 rfl ?_)
  exact ⟨by rw [i0], ({ s with held := fset s.held n (s.held n + 1) } : FC), by rw [held_of rfl]; unfold FF.hold; rw [if_pos i0], rfl, rfl, rfl⟩
set_option maxRecDepth 10000 in
set_option maxHeartbeats 1000000 in
theorem r_Let (b o : Nat) (s : FC) (hI : s.toFF.Sh) (n : Int) (hL : s.isE n 0 = 0 → 0 ≤ s.links n) : Spec Tryz.prog 29 [ptr b o 0, .int .i64 n, .bool true]
    [.cells b o 321 (encM s), .fam fam40 (s.rowsN 9), .fam fam40 (s.rowsK 3)]
    (fun v H1 => v = .int .i64 (s.letE n) ∧ ∃ t : FC, t.toFF = s.letF n ∧ t.rP = s.rP ∧ t.rC = s.rC ∧ H1 = [.cells b o 321 (encM t), .fam fam40 (FC.rowsN 9 t), .fam fam40 (FC.rowsK 3 t)]) := by
 refine Spec.intro Tryz.func29 rfl rfl ?_
 intro W
 refine XC.sr ?_
 refine XO.as rfl rfl ?_
 refine XO.nk [(0, _), (1, _), (2, _)] (S3 rfl rfl rfl) ?_
 refine XC.seq ?_
 refine XC.sr ?_
 refine XO.mv rfl rfl ?_
 refine XO.mv rfl rfl ?_
 refine XO.call rfl (r_Is _ _ _ _ _) .h1 cl_65 rfl ?_
 rintro _ _ ⟨rfl, rfl⟩
 refine XO.as rfl rfl ?_
 refine XO.nk [(0, _), (1, _), (2, _), (7, _)] (S4 rfl rfl rfl rfl) ?_
 refine XC.sr ?_
 refine XO.mv rfl rfl ?_
 refine XO.v (V.cmp rfl rfl rfl) rfl ?_
 refine XO.nk [(0, _), (1, _), (2, _), (7, _), (12, _)] (S5 rfl rfl rfl rfl rfl) ?_
 refine XC.condP rfl (fun h1 => ?_) (fun h1 => ?_)
 ·
  refine XC.sr ?_
  refine XO.mv rfl rfl ?_
  refine XO.as rfl rfl ?_
  refine XO.nk [(6, _)] (S1 rfl) ?_
  refine XC.ret ?_
  refine XE.thenRet ?_
  refine XE.ret1 rfl rfl (post_of .h3 rfl ?_)
  have e : s.letE n = s.isE n 0 := by unfold FF.letE; rw [if_pos (by omega)]
  exact ⟨by rw [e], s, by unfold FF.letF; rw [if_neg (by omega)], rfl, rfl, rfl⟩
 ·
  obtain ⟨i1, i2, i3⟩ := FF.isE_0 (show s.isE n 0 = 0 by have := FF.isE_nn s.toFF n 0; omega)
  have i0 : s.isE n 0 = 0 := by have := FF.isE_nn s.toFF n 0; omega
  have hnb := hI.num n (by omega) (by omega)
  have hl0 := hL i0
  refine XC.skip ?_
  refine XE.next ?_
  refine XC.keep [(0, _), (1, _), (2, _)] (S3 rfl rfl rfl) ?_
  refine XC.seq ?_
  refine XC.sr ?_
  refine XO.mv rfl rfl ?_
  refine XO.v (V.not rfl) rfl ?_
  refine XO.nk [(0, _), (1, _), (15, _)] (S3 rfl rfl rfl) ?_
  refine XC.condF rfl rfl ?_
  refine XC.skip ?_
  refine XE.next ?_
  refine XC.keep [(0, _), (1, _)] (S2 rfl rfl) ?_
  refine XC.seq ?_
  refine XC.sr ?_
  refine XO.mv rfl rfl ?_
  refine XO.mv rfl rfl ?_
  refine XO.v (V.nilCheckP rfl) rfl ?_
  refine XO.v (V.fieldAddr rfl fo_34_0) rfl ?_
  refine XO.v (V.indexArr rfl rfl ar_32 (by omega)) rfl ?_
  refine XO.v (V.fieldAddr rfl fo_31_3) rfl ?_
  refine XO.v (V.load rfl (inXM .here) (encM.ld_N_Held _ _ (by omega)) sc_3) rfl ?_
  refine XO.v (V.cmp rfl rfl rfl) rfl ?_
  refine XO.nk [(0, _), (1, _), (35, _)] (S3 rfl rfl rfl) ?_
  refine XC.condP rfl (fun h2 => ?_) (fun h2 => ?_)
  ·
   refine XC.sr ?_
   refine XO.as rfl rfl ?_
   refine XO.nk [(6, _)] (S1 rfl) ?_
   refine XC.ret ?_
   refine XE.thenRet ?_
   refine XE.ret1 rfl rfl (post_of .h3 rfl ?_)
   have e : s.letE n = 8 := by unfold FF.letE; rw [if_neg (by omega), if_pos (by omega)]
   exact ⟨by rw [e], s, by unfold FF.letF; rw [if_neg (by omega)], rfl, rfl, rfl⟩
  ·
   refine XC.skip ?_
   refine XE.next ?_
   refine XC.keep [(0, _), (1, _)] (S2 rfl rfl) ?_
   refine XC.seq ?_
   refine XC.regionQ mixed (f := 13) (l := #[false, false, false, false, false, false, false, false, false, false, false, false, false]) rfl rfl XM.drawn' ?_
   refine XQ.pv (i := 0) (l' := #[tt,ff,ff,ff,ff,ff,ff,ff,ff,ff,ff,ff,ff]) rfl (by kernel_rfl) rfl (V.move rfl) rfl rfl ?_
   refine XQ.pv (i := 1) (l' := #[tt,tt,ff,ff,ff,ff,ff,ff,ff,ff,ff,ff,ff]) rfl (by kernel_rfl) rfl (V.move rfl) rfl rfl ?_
   refine XQ.pv (i := 2) (l' := #[tt,tt,tt,ff,ff,ff,ff,ff,ff,ff,ff,ff,ff]) rfl (by kernel_rfl) rfl (V.nilCheckP rfl) rfl rfl ?_
   refine XQ.pv (i := 3) (l' := #[tt,tt,tt,tt,ff,ff,ff,ff,ff,ff,ff,ff,ff]) rfl (by kernel_rfl) rfl (V.fieldAddr rfl fo_34_0) rfl rfl ?_
   refine XQ.pv (i := 4) (l' := #[tt,tt,tt,tt,tt,ff,ff,ff,ff,ff,ff,ff,ff]) rfl (by kernel_rfl) rfl (V.indexArr rfl rfl ar_32 (by omega)) rfl rfl ?_
   refine XQ.pv (i := 5) (l' := #[tt,tt,tt,tt,tt,tt,ff,ff,ff,ff,ff,ff,ff]) rfl (by kernel_rfl) rfl (V.fieldAddr rfl fo_31_3) rfl rfl ?_
   refine XQ.load (i := 6) (l' := #[tt,tt,tt,tt,tt,tt,tt,ff,ff,ff,ff,ff,ff]) (.cells _ _ _ _) [12] rfl (by kernel_rfl) rfl .here (V.load rfl inEnt (encM.ld_N_Held _ _ (by omega)) sc_3) rfl (by kernel_rfl) rfl ?_
   refine XQ.pv (i := 7) (l' := #[tt,tt,tt,tt,tt,tt,tt,tt,ff,ff,ff,ff,ff]) rfl (by kernel_rfl) rfl (V.sub rfl rfl _ (IntWalk.i64_in _ (by omega))) rfl rfl ?_
   refine XQ.pv (i := 8) (l' := #[tt,tt,tt,tt,tt,tt,tt,tt,tt,ff,ff,ff,ff]) rfl (by kernel_rfl) rfl (V.nilCheckP rfl) rfl rfl ?_
   refine XQ.pv (i := 9) (l' := #[tt,tt,tt,tt,tt,tt,tt,tt,tt,tt,ff,ff,ff]) rfl (by kernel_rfl) rfl (V.fieldAddr rfl fo_34_0) rfl rfl ?_
   refine XQ.pv (i := 10) (l' := #[tt,tt,tt,tt,tt,tt,tt,tt,tt,tt,tt,ff,ff]) rfl (by kernel_rfl) rfl (V.indexArr rfl rfl ar_32 (by omega)) rfl rfl ?_
   refine XQ.pv (i := 11) (l' := #[tt,tt,tt,tt,tt,tt,tt,tt,tt,tt,tt,tt,ff]) rfl (by kernel_rfl) rfl (V.fieldAddr rfl fo_31_3) rfl rfl ?_
   refine XQ.store (i := 12) (l' := #[tt,tt,tt,tt,tt,tt,tt,tt,tt,tt,tt,tt,tt]) rfl (by kernel_rfl) rfl rfl rfl .here (encM.st_N_Held _ _ (by omega) _) rfl sz_3_1 (fun _ hw' => ⟨fun hs => (hs 12 (by first | (simp; done) | (simp; rfl)) rfl).elim, trivial⟩) ?_
   refine XQ.done (by kernel_rfl) ?_
   refine XE.next ?_
   refine XC.keep [(0, _), (1, _)] (S2 rfl rfl) ?_
   refine XC.sr ?_
   refine XO.mv rfl rfl ?_
   refine XO.mv rfl rfl ?_
   refine XO.call rfl (r_gone _ _ ({ s with held := fset s.held n (s.held n - 1) } : FC) n (by omega) (by show 0 ≤ s.links n ∧ s.links n ≤ 1000000 ∧ 0 ≤ fset s.held n (s.held n - 1) n ∧ fset s.held n (s.held n - 1) n ≤ 1000000; rw [fset_eq]; omega)) .h3 cl_72 rfl ?_
   rintro _ _ ⟨rfl, t, ht, hp, hc, rfl⟩
   refine XO.nk [] (Sub.nil _) ?_
   refine XC.sr ?_
   refine XO.as rfl rfl ?_
   refine XO.nk [(6, _)] (S1 rfl) ?_
   refine XC.ret ?_
   refine XE.ret1 rfl rfl (post_of .h3 rfl ?_)
   have e : s.letE n = 0 := by unfold FF.letE; rw [if_neg (by omega), if_neg (by omega)]
   exact ⟨by rw [e], t, by rw [ht]; unfold FF.letF; rw [if_pos e], hp, hc, rfl⟩
end Go.X

namespace Go.X
open Go Go.Proofs
theorem cl_82 : callable Tryz.prog 82 = true := by kernel_rfl
theorem cl_88 : callable Tryz.prog 88 = true := by kernel_rfl
theorem fo_31_7 : fieldOff Tryz.prog 31 7 = some 7 := by kernel_rfl
theorem sl_28 : sliceOf Tryz.prog 28 = some (9, 1) := by kernel_rfl
set_option maxRecDepth 10000 in
set_option maxHeartbeats 1000000 in
theorem r_NameMay (x : ByteArray) (hx : x.size ≤ 9223372036854775807) : Spec Tryz.prog 88 [.string x]
    []
    (fun v H1 => v = .bool (nameOk x) ∧ H1 = []) := by
 refine Spec.intro Tryz.func88 rfl rfl ?_
 intro W
 refine XC.sr ?_
 refine XO.as rfl rfl ?_
 refine XO.nk [(0, _)] (S1 rfl) ?_
 refine XC.seq ?_
 refine XC.sr ?_
 refine XO.mv rfl rfl ?_
 refine XO.v (V.lenStr rfl Tryz.underlying9) rfl ?_
 refine XO.v (V.cmp rfl rfl rfl) rfl ?_
 refine XO.mv rfl rfl ?_
 refine XO.splitP (d := 8) rfl (fun h1 => ?_) (fun h1 => ?_)
 ·
  refine XO.guardSkip rfl rfl rfl rfl rfl ?_
  refine XO.guardSkip rfl rfl rfl rfl rfl ?_
  refine XO.guardSkip rfl rfl rfl rfl rfl ?_
  refine XO.v (V.pick rfl rfl rfl rfl) rfl ?_
  refine XO.mv rfl rfl ?_
  refine XO.guardSkip rfl rfl rfl rfl rfl ?_
  refine XO.guardSkip rfl rfl rfl rfl rfl ?_
  refine XO.v (V.pick rfl rfl rfl rfl) rfl ?_
  refine XO.mv rfl rfl ?_
  refine XO.guardSkip rfl rfl rfl rfl rfl ?_
  refine XO.guardSkip rfl rfl rfl rfl rfl ?_
  refine XO.v (V.pick rfl rfl rfl rfl) rfl ?_
  refine XO.nk [(0, _), (20, _)] (S2 rfl rfl) ?_
  refine XC.condT rfl rfl ?_
  refine XC.sr ?_
  refine XO.as rfl rfl ?_
  refine XO.nk [(2, _)] (S1 rfl) ?_
  refine XC.ret ?_
  refine XE.thenRet ?_
  refine XE.ret1 rfl rfl (post_of .nil rfl ?_)
  exact ⟨congrArg Value.bool (nameOk_len (by omega)).symm, rfl⟩
 ·
  refine XO.guardRun rfl rfl rfl ?_
  refine XO.mv rfl rfl ?_
  refine XO.guardRun rfl rfl rfl ?_
  refine XO.v (V.lenStr rfl Tryz.underlying9) rfl ?_
  refine XO.guardRun rfl rfl rfl ?_
  refine XO.v (V.cmp rfl rfl rfl) rfl ?_
  refine XO.v (V.pick rfl rfl rfl rfl) rfl ?_
  refine XO.mv rfl rfl ?_
  refine XO.splitP (d := 13) rfl (fun h2 => ?_) (fun h2 => ?_)
  ·
   refine XO.guardSkip rfl rfl rfl rfl rfl ?_
   refine XO.guardSkip rfl rfl rfl rfl rfl ?_
   refine XO.v (V.pick rfl rfl rfl rfl) rfl ?_
   refine XO.mv rfl rfl ?_
   refine XO.guardSkip rfl rfl rfl rfl rfl ?_
   refine XO.guardSkip rfl rfl rfl rfl rfl ?_
   refine XO.v (V.pick rfl rfl rfl rfl) rfl ?_
   refine XO.nk [(0, _), (20, _)] (S2 rfl rfl) ?_
   refine XC.condT rfl rfl ?_
   refine XC.sr ?_
   refine XO.as rfl rfl ?_
   refine XO.nk [(2, _)] (S1 rfl) ?_
   refine XC.ret ?_
   refine XE.thenRet ?_
   refine XE.ret1 rfl rfl (post_of .nil rfl ?_)
   exact ⟨congrArg Value.bool (nameOk_len (by omega)).symm, rfl⟩
  ·
   refine XO.guardRun rfl rfl rfl ?_
   refine XO.mv rfl rfl ?_
   refine XO.guardRun rfl rfl rfl ?_
   refine XO.v (V.strCmp rfl rfl rfl) rfl ?_
   refine XO.v (V.pick rfl rfl rfl rfl) rfl ?_
   refine XO.mv rfl rfl ?_
   refine XO.splitP (d := 17) rfl (fun h3 => ?_) (fun h3 => ?_)
   ·
    refine XO.guardSkip rfl rfl rfl rfl rfl ?_
    refine XO.guardSkip rfl rfl rfl rfl rfl ?_
    refine XO.v (V.pick rfl rfl rfl rfl) rfl ?_
    refine XO.nk [(0, _), (20, _)] (S2 rfl rfl) ?_
    refine XC.condT rfl rfl ?_
    refine XC.sr ?_
    refine XO.as rfl rfl ?_
    refine XO.nk [(2, _)] (S1 rfl) ?_
    refine XC.ret ?_
    refine XE.thenRet ?_
    refine XE.ret1 rfl rfl (post_of .nil rfl ?_)
    exact ⟨congrArg Value.bool (nameOk_dot (.inl (by assumption))).symm, rfl⟩
   ·
    refine XO.guardRun rfl rfl rfl ?_
    refine XO.mv rfl rfl ?_
    refine XO.guardRun rfl rfl rfl ?_
    refine XO.v (V.strCmp rfl rfl rfl) rfl ?_
    refine XO.v (V.pick rfl rfl rfl rfl) rfl ?_
    refine XO.nk [(0, _), (20, _)] (S2 rfl rfl) ?_
    refine XC.condP rfl (fun h4 => ?_) (fun h4 => ?_)
    ·
     refine XC.sr ?_
     refine XO.as rfl rfl ?_
     refine XO.nk [(2, _)] (S1 rfl) ?_
     refine XC.ret ?_
     refine XE.thenRet ?_
     refine XE.ret1 rfl rfl (post_of .nil rfl ?_)
     exact ⟨congrArg Value.bool (nameOk_dot (.inr (by assumption))).symm, rfl⟩
    ·
     refine XC.skip ?_
     refine XE.next ?_
     refine XC.keep [(0, _)] (S1 rfl) ?_
     refine XC.seq ?_
     refine XC.sr ?_
     refine XO.as rfl rfl ?_
     refine XO.nk [(0, _), (3, _)] (S2 rfl rfl) ?_
     refine XC.block ?_
     refine XC.loop (σ := Int) (fun i => (x.size - i).toNat) (fun i => (0 ≤ i ∧ i ≤ x.size) ∧ ∀ j, j < i.toNat → okB (x.get! j) = true) (fun i => [(3, .int .i64 i), (0, .string x)]) (fun i => XM W (foot []) []) (0) ?_ (S2 rfl rfl) (fun _ hw => XM.pick .nil hw) ?_
     ·
      exact ⟨by omega, fun j h => by simp at h⟩
     intro i hi
     obtain ⟨hi, ho⟩ := hi
     refine XC.seq ?_
     refine XC.sr ?_
     refine XO.mv rfl rfl ?_
     refine XO.mv rfl rfl ?_
     refine XO.v (V.lenStr rfl Tryz.underlying9) rfl ?_
     refine XO.v (V.cmp rfl rfl rfl) rfl ?_
     refine XO.nk [(0, _), (3, _), (24, _)] (S3 rfl rfl rfl) ?_
     refine XC.condP rfl (fun h5 => ?_) (fun h5 => ?_)
     ·
      obtain ⟨u, hu⟩ := get_some (s := x) (j := i.toNat) (by omega)
      have hg := get_of hu
      refine XC.skip ?_
      refine XE.next ?_
      refine XC.keep [(0, _), (3, _)] (S2 rfl rfl) ?_
      refine XC.seq ?_
      refine XC.block ?_
      refine XC.sr ?_
      refine XO.mv rfl rfl ?_
      refine XO.mv rfl rfl ?_
      refine XO.v (V.indexStr rfl rfl Tryz.underlying9 (by omega) hu) rfl ?_
      refine XO.as rfl rfl ?_
      refine XO.nk [(0, _), (3, _), (4, _)] (S3 rfl rfl rfl) ?_
      refine XC.sr ?_
      refine XO.mv rfl rfl ?_
      refine XO.v (V.cmp rfl rfl rfl) rfl ?_
      refine XO.mv rfl rfl ?_
      refine XO.splitP (d := 32) rfl (fun h6 => ?_) (fun h6 => ?_)
      ·
       refine XO.guardRun rfl rfl rfl ?_
       refine XO.mv rfl rfl ?_
       refine XO.guardRun rfl rfl rfl ?_
       refine XO.v (V.cmp rfl rfl rfl) rfl ?_
       refine XO.v (V.pick rfl rfl rfl rfl) rfl ?_
       refine XO.mv rfl rfl ?_
       refine XO.splitP (d := 36) rfl (fun h7 => ?_) (fun h7 => ?_)
       ·
        refine XO.guardSkip rfl rfl rfl rfl rfl ?_
        refine XO.guardSkip rfl rfl rfl rfl rfl ?_
        refine XO.guardSkip rfl rfl rfl rfl rfl ?_
        refine XO.guardSkipU rfl rfl rfl rfl rfl ?_
        refine XO.guardSkipU rfl rfl rfl rfl rfl ?_
        refine XO.guardSkip rfl rfl rfl rfl rfl ?_
        refine XO.v (V.pick rfl rfl rfl rfl) rfl ?_
        refine XO.mv rfl rfl ?_
        refine XO.guardSkip rfl rfl rfl rfl rfl ?_
        refine XO.guardSkip rfl rfl rfl rfl rfl ?_
        refine XO.v (V.pick rfl rfl rfl rfl) rfl ?_
        refine XO.v (V.not rfl) rfl ?_
        refine XO.nk [(0, _), (3, _), (48, _)] (S3 rfl rfl rfl) ?_
        refine XC.condF rfl rfl ?_
        refine XC.skip ?_
        refine XE.blockNormal ?_
        refine XE.next ?_
        refine XC.keep [(0, _), (3, _)] (S2 rfl rfl) ?_
        refine XC.region ?_
        refine XO.mv rfl rfl ?_
        refine XO.v (V.add rfl rfl _ (IntWalk.i64_in _ (by omega))) rfl ?_
        refine XO.as rfl rfl ?_
        refine XO.nil ?_
        refine XE.again (i + 1) ?_ ?_ (S2 rfl rfl) (fun _ hw => XM.pick .nil hw)
        ·
         (first | omega | (simp; done) | (simp; omega))
        ·
         refine ⟨by omega, fun j hj => ?_⟩
         by_cases c : j = i.toNat
         ·
          subst c; rw [hg]; unfold okB; simp; omega
         ·
          exact ho j (by omega)
       ·
        refine XO.guardRun rfl rfl rfl ?_
        refine XO.mv rfl rfl ?_
        refine XO.guardRun rfl rfl rfl ?_
        refine XO.v (V.cmp rfl rfl rfl) rfl ?_
        refine XO.guardRun rfl rfl rfl ?_
        refine XO.mv rfl rfl ?_
        refine XO.splitP (d := 39) rfl (fun h8 => ?_) (fun h8 => ?_)
        ·
         refine XO.guardRun rfl rfl rfl ?_
         refine XO.mv rfl rfl ?_
         refine XO.guardRun rfl rfl rfl ?_
         refine XO.v (V.cmp rfl rfl rfl) rfl ?_
         refine XO.guardRun rfl rfl rfl ?_
         refine XO.v (V.pick rfl rfl rfl rfl) rfl ?_
         refine XO.v (V.pick rfl rfl rfl rfl) rfl ?_
         refine XO.mv rfl rfl ?_
         refine XO.splitP (d := 44) rfl (fun h9 => ?_) (fun h9 => ?_)
         ·
          refine XO.guardSkip rfl rfl rfl rfl rfl ?_
          refine XO.guardSkip rfl rfl rfl rfl rfl ?_
          refine XO.v (V.pick rfl rfl rfl rfl) rfl ?_
          refine XO.v (V.not rfl) rfl ?_
          refine XO.nk [(0, _), (3, _), (48, _)] (S3 rfl rfl rfl) ?_
          refine XC.condF rfl rfl ?_
          refine XC.skip ?_
          refine XE.blockNormal ?_
          refine XE.next ?_
          refine XC.keep [(0, _), (3, _)] (S2 rfl rfl) ?_
          refine XC.region ?_
          refine XO.mv rfl rfl ?_
          refine XO.v (V.add rfl rfl _ (IntWalk.i64_in _ (by omega))) rfl ?_
          refine XO.as rfl rfl ?_
          refine XO.nil ?_
          refine XE.again (i + 1) ?_ ?_ (S2 rfl rfl) (fun _ hw => XM.pick .nil hw)
          ·
           (first | omega | (simp; done) | (simp; omega))
          ·
           refine ⟨by omega, fun j hj => ?_⟩
           by_cases c : j = i.toNat
           ·
            subst c; rw [hg]; unfold okB; simp; omega
           ·
            exact ho j (by omega)
         ·
          refine XO.guardRun rfl rfl rfl ?_
          refine XO.mv rfl rfl ?_
          refine XO.guardRun rfl rfl rfl ?_
          refine XO.v (V.cmp rfl rfl rfl) rfl ?_
          refine XO.v (V.pick rfl rfl rfl rfl) rfl ?_
          refine XO.v (V.notP rfl) rfl ?_
          refine XO.nk [(0, _), (3, _), (48, _)] (S3 rfl rfl rfl) ?_
          refine XC.condP rfl (fun h10 => ?_) (fun h10 => ?_)
          ·
           refine XC.sr ?_
           refine XO.as rfl rfl ?_
           refine XO.nk [(2, _)] (S1 rfl) ?_
           refine XC.ret ?_
           refine XE.blockRet ?_
           refine XE.thenRet ?_
           refine XE.thenRet ?_
           refine XE.blockRet ?_
           refine XE.thenRet ?_
           refine XE.ret1 rfl rfl (post_of .nil rfl ?_)
           exact ⟨congrArg Value.bool (nameOk_bad (j := i.toNat) (by omega) (by rw [hg]; unfold okB; simp; omega)).symm, rfl⟩
          ·
           refine XC.skip ?_
           refine XE.blockNormal ?_
           refine XE.next ?_
           refine XC.keep [(0, _), (3, _)] (S2 rfl rfl) ?_
           refine XC.region ?_
           refine XO.mv rfl rfl ?_
           refine XO.v (V.add rfl rfl _ (IntWalk.i64_in _ (by omega))) rfl ?_
           refine XO.as rfl rfl ?_
           refine XO.nil ?_
           refine XE.again (i + 1) ?_ ?_ (S2 rfl rfl) (fun _ hw => XM.pick .nil hw)
           ·
            (first | omega | (simp; done) | (simp; omega))
           ·
            refine ⟨by omega, fun j hj => ?_⟩
            by_cases c : j = i.toNat
            ·
             subst c; rw [hg]; unfold okB; simp; omega
            ·
             exact ho j (by omega)
        ·
         refine XO.guardSkip rfl rfl rfl rfl rfl ?_
         refine XO.guardSkip rfl rfl rfl rfl rfl ?_
         refine XO.guardRun rfl rfl rfl ?_
         refine XO.v (V.pick rfl rfl rfl rfl) rfl ?_
         refine XO.v (V.pick rfl rfl rfl rfl) rfl ?_
         refine XO.mv rfl rfl ?_
         refine XO.guardRun rfl rfl rfl ?_
         refine XO.mv rfl rfl ?_
         refine XO.guardRun rfl rfl rfl ?_
         refine XO.v (V.cmp rfl rfl rfl) rfl ?_
         refine XO.v (V.pick rfl rfl rfl rfl) rfl ?_
         refine XO.v (V.notP rfl) rfl ?_
         refine XO.nk [(0, _), (3, _), (48, _)] (S3 rfl rfl rfl) ?_
         refine XC.condP rfl (fun h11 => ?_) (fun h11 => ?_)
         ·
          refine XC.sr ?_
          refine XO.as rfl rfl ?_
          refine XO.nk [(2, _)] (S1 rfl) ?_
          refine XC.ret ?_
          refine XE.blockRet ?_
          refine XE.thenRet ?_
          refine XE.thenRet ?_
          refine XE.blockRet ?_
          refine XE.thenRet ?_
          refine XE.ret1 rfl rfl (post_of .nil rfl ?_)
          exact ⟨congrArg Value.bool (nameOk_bad (j := i.toNat) (by omega) (by rw [hg]; unfold okB; simp; omega)).symm, rfl⟩
         ·
          refine XC.skip ?_
          refine XE.blockNormal ?_
          refine XE.next ?_
          refine XC.keep [(0, _), (3, _)] (S2 rfl rfl) ?_
          refine XC.region ?_
          refine XO.mv rfl rfl ?_
          refine XO.v (V.add rfl rfl _ (IntWalk.i64_in _ (by omega))) rfl ?_
          refine XO.as rfl rfl ?_
          refine XO.nil ?_
          refine XE.again (i + 1) ?_ ?_ (S2 rfl rfl) (fun _ hw => XM.pick .nil hw)
          ·
           (first | omega | (simp; done) | (simp; omega))
          ·
           refine ⟨by omega, fun j hj => ?_⟩
           by_cases c : j = i.toNat
           ·
            subst c; rw [hg]; unfold okB; simp; omega
           ·
            exact ho j (by omega)
      ·
       refine XO.guardSkip rfl rfl rfl rfl rfl ?_
       refine XO.guardSkip rfl rfl rfl rfl rfl ?_
       refine XO.v (V.pick rfl rfl rfl rfl) rfl ?_
       refine XO.mv rfl rfl ?_
       refine XO.guardRun rfl rfl rfl ?_
       refine XO.mv rfl rfl ?_
       refine XO.guardRun rfl rfl rfl ?_
       refine XO.v (V.cmp rfl rfl rfl) rfl ?_
       refine XO.guardRun rfl rfl rfl ?_
       refine XO.mv rfl rfl ?_
       refine XO.splitP (d := 39) rfl (fun h12 => ?_) (fun h12 => ?_)
       ·
        refine XO.guardRun rfl rfl rfl ?_
        refine XO.mv rfl rfl ?_
        refine XO.guardRun rfl rfl rfl ?_
        refine XO.v (V.cmp rfl rfl rfl) rfl ?_
        refine XO.guardRun rfl rfl rfl ?_
        refine XO.v (V.pick rfl rfl rfl rfl) rfl ?_
        refine XO.v (V.pick rfl rfl rfl rfl) rfl ?_
        refine XO.mv rfl rfl ?_
        refine XO.splitP (d := 44) rfl (fun h13 => ?_) (fun h13 => ?_)
        ·
         refine XO.guardSkip rfl rfl rfl rfl rfl ?_
         refine XO.guardSkip rfl rfl rfl rfl rfl ?_
         refine XO.v (V.pick rfl rfl rfl rfl) rfl ?_
         refine XO.v (V.not rfl) rfl ?_
         refine XO.nk [(0, _), (3, _), (48, _)] (S3 rfl rfl rfl) ?_
         refine XC.condF rfl rfl ?_
         refine XC.skip ?_
         refine XE.blockNormal ?_
         refine XE.next ?_
         refine XC.keep [(0, _), (3, _)] (S2 rfl rfl) ?_
         refine XC.region ?_
         refine XO.mv rfl rfl ?_
         refine XO.v (V.add rfl rfl _ (IntWalk.i64_in _ (by omega))) rfl ?_
         refine XO.as rfl rfl ?_
         refine XO.nil ?_
         refine XE.again (i + 1) ?_ ?_ (S2 rfl rfl) (fun _ hw => XM.pick .nil hw)
         ·
          (first | omega | (simp; done) | (simp; omega))
         ·
          refine ⟨by omega, fun j hj => ?_⟩
          by_cases c : j = i.toNat
          ·
           subst c; rw [hg]; unfold okB; simp; omega
          ·
           exact ho j (by omega)
        ·
         refine XO.guardRun rfl rfl rfl ?_
         refine XO.mv rfl rfl ?_
         refine XO.guardRun rfl rfl rfl ?_
         refine XO.v (V.cmp rfl rfl rfl) rfl ?_
         refine XO.v (V.pick rfl rfl rfl rfl) rfl ?_
         refine XO.v (V.notP rfl) rfl ?_
         refine XO.nk [(0, _), (3, _), (48, _)] (S3 rfl rfl rfl) ?_
         refine XC.condP rfl (fun h14 => ?_) (fun h14 => ?_)
         ·
          refine XC.sr ?_
          refine XO.as rfl rfl ?_
          refine XO.nk [(2, _)] (S1 rfl) ?_
          refine XC.ret ?_
          refine XE.blockRet ?_
          refine XE.thenRet ?_
          refine XE.thenRet ?_
          refine XE.blockRet ?_
          refine XE.thenRet ?_
          refine XE.ret1 rfl rfl (post_of .nil rfl ?_)
          exact ⟨congrArg Value.bool (nameOk_bad (j := i.toNat) (by omega) (by rw [hg]; unfold okB; simp; omega)).symm, rfl⟩
         ·
          refine XC.skip ?_
          refine XE.blockNormal ?_
          refine XE.next ?_
          refine XC.keep [(0, _), (3, _)] (S2 rfl rfl) ?_
          refine XC.region ?_
          refine XO.mv rfl rfl ?_
          refine XO.v (V.add rfl rfl _ (IntWalk.i64_in _ (by omega))) rfl ?_
          refine XO.as rfl rfl ?_
          refine XO.nil ?_
          refine XE.again (i + 1) ?_ ?_ (S2 rfl rfl) (fun _ hw => XM.pick .nil hw)
          ·
           (first | omega | (simp; done) | (simp; omega))
          ·
           refine ⟨by omega, fun j hj => ?_⟩
           by_cases c : j = i.toNat
           ·
            subst c; rw [hg]; unfold okB; simp; omega
           ·
            exact ho j (by omega)
       ·
        refine XO.guardSkip rfl rfl rfl rfl rfl ?_
        refine XO.guardSkip rfl rfl rfl rfl rfl ?_
        refine XO.guardRun rfl rfl rfl ?_
        refine XO.v (V.pick rfl rfl rfl rfl) rfl ?_
        refine XO.v (V.pick rfl rfl rfl rfl) rfl ?_
        refine XO.mv rfl rfl ?_
        refine XO.guardRun rfl rfl rfl ?_
        refine XO.mv rfl rfl ?_
        refine XO.guardRun rfl rfl rfl ?_
        refine XO.v (V.cmp rfl rfl rfl) rfl ?_
        refine XO.v (V.pick rfl rfl rfl rfl) rfl ?_
        refine XO.v (V.notP rfl) rfl ?_
        refine XO.nk [(0, _), (3, _), (48, _)] (S3 rfl rfl rfl) ?_
        refine XC.condP rfl (fun h15 => ?_) (fun h15 => ?_)
        ·
         refine XC.sr ?_
         refine XO.as rfl rfl ?_
         refine XO.nk [(2, _)] (S1 rfl) ?_
         refine XC.ret ?_
         refine XE.blockRet ?_
         refine XE.thenRet ?_
         refine XE.thenRet ?_
         refine XE.blockRet ?_
         refine XE.thenRet ?_
         refine XE.ret1 rfl rfl (post_of .nil rfl ?_)
         exact ⟨congrArg Value.bool (nameOk_bad (j := i.toNat) (by omega) (by rw [hg]; unfold okB; simp; omega)).symm, rfl⟩
        ·
         refine XC.skip ?_
         refine XE.blockNormal ?_
         refine XE.next ?_
         refine XC.keep [(0, _), (3, _)] (S2 rfl rfl) ?_
         refine XC.region ?_
         refine XO.mv rfl rfl ?_
         refine XO.v (V.add rfl rfl _ (IntWalk.i64_in _ (by omega))) rfl ?_
         refine XO.as rfl rfl ?_
         refine XO.nil ?_
         refine XE.again (i + 1) ?_ ?_ (S2 rfl rfl) (fun _ hw => XM.pick .nil hw)
         ·
          (first | omega | (simp; done) | (simp; omega))
         ·
          refine ⟨by omega, fun j hj => ?_⟩
          by_cases c : j = i.toNat
          ·
           subst c; rw [hg]; unfold okB; simp; omega
          ·
           exact ho j (by omega)
     ·
      have hall : ∀ j, j < x.size → okB (x.get! j) = true := fun j hj => ho j (by omega)
      refine XC.exit ?_
      refine XE.thenExit ?_
      refine XE.thenExit ?_
      refine XE.blockExit ?_
      refine XE.next ?_
      refine XC.keep [] (Sub.nil _) ?_
      refine XC.sr ?_
      refine XO.as rfl rfl ?_
      refine XO.nk [(2, _)] (S1 rfl) ?_
      refine XC.ret ?_
      refine XE.ret1 rfl rfl (post_of .nil rfl ?_)
      exact ⟨congrArg Value.bool (by rw [nameOk_all hall, decide_eq_true (p := x ≠ ⟨#[46]⟩) (by assumption), decide_eq_true (p := x ≠ ⟨#[46, 46]⟩) (by assumption), Bool.and_true, Bool.and_true]; symm; exact decide_eq_true (by omega)), rfl⟩
set_option maxRecDepth 10000 in
set_option maxHeartbeats 1000000 in
theorem r_place (b o : Nat) (s : FC) (hI : s.toFF.Sh) (n : Int) (hn : 0 ≤ n ∧ n < 40) (x : ByteArray) : Spec Tryz.prog 82 [ptr b o (0 + 0 + n.toNat * 8), .string x]
    [.cells b o 321 (encM s), .fam fam40 (s.rowsN 9)]
    (fun v H1 => v = .int .i64 (placeR (s.names n) x) ∧ H1 = [.cells b o 321 (encM s), .fam fam40 (s.rowsN 9)]) := by
 obtain ⟨hr, hk, h8, _⟩ := hI.rise n (by omega) (by omega)
 refine Spec.intro Tryz.func82 rfl rfl ?_
 intro W
 refine XC.sr ?_
 refine XO.as rfl rfl ?_
 refine XO.nk [(0, _), (1, _)] (S2 rfl rfl) ?_
 refine XC.seq ?_
 refine XC.sr ?_
 refine XO.as rfl rfl ?_
 refine XO.nk [(0, _), (1, _), (5, _)] (S3 rfl rfl rfl) ?_
 refine XC.block ?_
 refine XC.loop (σ := Int) (fun i => ((s.names n).length - i).toNat) (fun i => (0 ≤ i ∧ i ≤ (s.names n).length) ∧ ∀ j, j < i.toNat → ats (s.names n) j ≠ x) (fun i => [(5, .int .i64 i), (0, ptr b o (0 + 0 + n.toNat * 8)), (1, .string x)]) (fun i => XM W (foot [.cells b o 321 (encM s), .fam fam40 (s.rowsN 9)]) [.cells b o 321 (encM s), .fam fam40 (s.rowsN 9)]) (0) ?_ (S3 rfl rfl rfl) (fun _ hw => XM.pick .h2 hw) ?_
 ·
  exact ⟨by omega, fun j h => by simp at h⟩
 intro i hi
 obtain ⟨hi, ho⟩ := hi
 refine XC.seq ?_
 refine XC.sr ?_
 refine XO.mv rfl rfl ?_
 refine XO.mv rfl rfl ?_
 refine XO.v (V.nilCheckP rfl) rfl ?_
 refine XO.v (V.fieldAddr rfl fo_31_6) rfl ?_
 refine XO.v (V.load rfl (inXM .here) (encM.ld_N_Names _ _ (by omega)) sc_28) rfl ?_
 refine XO.v (V.lenSl rfl Tryz.underlying28) rfl ?_
 refine XO.v (V.cmp rfl rfl rfl) rfl ?_
 refine XO.nk [(0, _), (1, _), (5, _), (12, _)] (S4 rfl rfl rfl rfl) ?_
 refine XC.condP rfl (fun h1 => ?_) (fun h1 => ?_)
 ·
  refine XC.skip ?_
  refine XE.next ?_
  refine XC.keep [(0, _), (1, _), (5, _)] (S3 rfl rfl rfl) ?_
  refine XC.seq ?_
  refine XC.block ?_
  refine XC.sr ?_
  refine XO.mv rfl rfl ?_
  refine XO.v (V.nilCheckP rfl) rfl ?_
  refine XO.v (V.fieldAddr rfl fo_31_6) rfl ?_
  refine XO.v (V.load rfl (inXM .here) (encM.ld_N_Names _ _ (by omega)) sc_28) rfl ?_
  refine XO.mono (fun _ hw3 => XM.openN (s := s) (z := n) (by omega) (.cons (.there .here) .nil) hw3) ?_
  refine XO.openRow .here (by omega) ?_
  intro g hg
  rw [hg]
  refine XO.mv rfl rfl ?_
  refine XO.v (V.indexSl rfl rfl sl_28 (by omega)) rfl ?_
  refine XO.v (V.loadRow rfl (inXM .here) (strs_at (by omega)) sc_9) rfl ?_
  refine XO.mono (fun _ hw3 => XM.closeN (s := s) s (z := n) (by omega) rfl (fset_same _ rfl).symm (fset_same _ hg).symm (fset_same _ rfl).symm .h2 hw3) ?_
  refine XO.mv rfl rfl ?_
  refine XO.v (V.strCmp rfl rfl rfl) rfl ?_
  refine XO.nk [(0, _), (1, _), (5, _), (23, _)] (S4 rfl rfl rfl rfl) ?_
  refine XC.condP rfl (fun h2 => ?_) (fun h2 => ?_)
  ·
   refine XC.sr ?_
   refine XO.mv rfl rfl ?_
   refine XO.as rfl rfl ?_
   refine XO.nk [(4, _)] (S1 rfl) ?_
   refine XC.ret ?_
   refine XE.blockRet ?_
   refine XE.thenRet ?_
   refine XE.thenRet ?_
   refine XE.blockRet ?_
   refine XE.thenRet ?_
   refine XE.ret1 rfl rfl (post_of (.cons (.there .here) .h1) rfl ?_)
   exact ⟨by rw [place_at hr (i := i.toNat) (by omega) (by assumption), show ((i.toNat : Nat) : Int) = i by omega], rfl⟩
  ·
   refine XC.skip ?_
   refine XE.blockNormal ?_
   refine XE.next ?_
   refine XC.keep [(0, _), (1, _), (5, _)] (S3 rfl rfl rfl) ?_
   refine XC.region ?_
   refine XO.mv rfl rfl ?_
   refine XO.v (V.add rfl rfl _ (IntWalk.i64_in _ (by omega))) rfl ?_
   refine XO.as rfl rfl ?_
   refine XO.nil ?_
   refine XE.again (i + 1) ?_ ?_ (S3 rfl rfl rfl) (fun _ hw => XM.pick (.cons (.there .here) .h1) hw)
   ·
    (first | omega | (simp; done) | (simp; omega))
   ·
    refine ⟨by omega, fun j hj => ?_⟩
    by_cases c : j = i.toNat
    ·
     subst c; assumption
    ·
     exact ho j (by omega)
 ·
  refine XC.exit ?_
  refine XE.thenExit ?_
  refine XE.thenExit ?_
  refine XE.blockExit ?_
  refine XE.next ?_
  refine XC.keep [] (Sub.nil _) ?_
  refine XC.sr ?_
  refine XO.as rfl rfl ?_
  refine XO.nk [(4, _)] (S1 rfl) ?_
  refine XC.ret ?_
  refine XE.ret1 rfl rfl (post_of .h2 rfl ?_)
  exact ⟨by rw [place_no (fun j hj => ho j (by omega))], rfl⟩
set_option maxRecDepth 10000 in
set_option maxHeartbeats 1000000 in
theorem r_Find (b o : Nat) (s : FC) (hI : s.toFF.Sh) (n : Int) (x : ByteArray) : Spec Tryz.prog 39 [ptr b o 0, .int .i64 n, .string x]
    [.cells b o 321 (encM s), .fam fam40 (s.rowsN 9), .fam fam40 (s.rowsK 3)]
    (fun v H1 => v = .tuple #[.int .i64 (s.findV n x), .int .i64 (s.findE n x)] ∧ H1 = [.cells b o 321 (encM s), .fam fam40 (FC.rowsN 9 s), .fam fam40 (FC.rowsK 3 s)]) := by
  refine Spec.intro Tryz.func39 rfl rfl ?_
  intro W
  refine XC.sr ?_
  refine XO.as rfl rfl ?_
  refine XO.as rfl rfl ?_
  refine XO.nk [(0, _), (1, _), (2, _)] (S3 rfl rfl rfl) ?_
  refine XC.seq ?_
  refine XC.sr ?_
  refine XO.mv rfl rfl ?_
  refine XO.mv rfl rfl ?_
  refine XO.call rfl (r_Is _ _ _ _ _) .h1 cl_65 rfl ?_
  rintro _ _ ⟨rfl, rfl⟩
  refine XO.as rfl rfl ?_
  refine XO.nk [(0, _), (1, _), (2, _), (8, _)] (S4 rfl rfl rfl rfl) ?_
  refine XC.sr ?_
  refine XO.mv rfl rfl ?_
  refine XO.v (V.cmp rfl rfl rfl) rfl ?_
  refine XO.nk [(0, _), (1, _), (2, _), (8, _), (14, _)] (S5 rfl rfl rfl rfl rfl) ?_
  refine XC.condP rfl (fun h1 => ?_) (fun h1 => ?_)
  · skip
    refine XC.sr ?_
    refine XO.mv rfl rfl ?_
    refine XO.as rfl rfl ?_
    refine XO.as rfl rfl ?_
    refine XO.nk [(6, _), (7, _)] (S2 rfl rfl) ?_
    refine XC.ret ?_
    refine XE.thenRet ?_
    refine XE.ret2 rfl rfl rfl (post_of .h3 rfl ?_)
    have e : s.findE n x = s.isE n 2 := by unfold FF.findE; rw [if_pos (by omega)]
    exact ⟨by rw [show s.findV n x = 0 from by unfold FF.findV; rw [if_neg (by omega)], e], rfl⟩
  · skip
    have i0 : s.isE n 2 = 0 := by have := FF.isE_nn s.toFF n 2; omega
    obtain ⟨i1, i2, i3, i4⟩ := FF.isE_k0 i0
    obtain ⟨hr, hk, h8, _⟩ := hI.rise n i1 i2
    refine XC.skip ?_
    refine XE.next ?_
    refine XC.keep [(0, _), (1, _), (2, _)] (S3 rfl rfl rfl) ?_
    refine XC.sr ?_
    refine XO.mv rfl rfl ?_
    refine XO.mv rfl rfl ?_
    refine XO.v (V.nilCheckP rfl) rfl ?_
    refine XO.v (V.fieldAddr rfl fo_34_0) rfl ?_
    refine XO.v (V.indexArr rfl rfl ar_32 (by omega)) rfl ?_
    refine XO.mv rfl rfl ?_
    refine XO.call rfl (r_place _ _ _ hI _ (by omega) _) .h2 cl_82 rfl ?_
    rintro _ _ ⟨rfl, rfl⟩
    refine XO.as rfl rfl ?_
    refine XO.nk [(0, _), (1, _), (9, _)] (S3 rfl rfl rfl) ?_
    refine XC.seq ?_
    refine XC.sr ?_
    refine XO.mv rfl rfl ?_
    refine XO.v (V.cmp rfl rfl rfl) rfl ?_
    refine XO.nk [(0, _), (1, _), (9, _), (24, _)] (S4 rfl rfl rfl rfl) ?_
    refine XC.condP rfl (fun h2 => ?_) (fun h2 => ?_)
    · skip
      have hh : hasn (s.names n) x = false := place_neg.1 (by assumption)
      refine XC.sr ?_
      refine XO.as rfl rfl ?_
      refine XO.as rfl rfl ?_
      refine XO.nk [(6, _), (7, _)] (S2 rfl rfl) ?_
      refine XC.ret ?_
      refine XE.thenRet ?_
      refine XE.ret2 rfl rfl rfl (post_of .h3 rfl ?_)
      have e : s.findE n x = 2 := by unfold FF.findE; rw [if_neg (by omega), if_neg (by rw [hh]; simp)]
      exact ⟨by rw [show s.findV n x = 0 from by unfold FF.findV; rw [if_neg (by omega)], e], rfl⟩
    · skip
      have hh : hasn (s.names n) x = true := by cases q : hasn (s.names n) x with
        | true => rfl
        | false => exact absurd (place_neg.2 q) (by assumption)
      have hpr : placeR (s.names n) x = posn (s.names n) x := by unfold placeR; rw [if_pos hh]
      obtain ⟨hp1, hp2⟩ := hasn_iff.1 hh
      refine XC.skip ?_
      refine XE.next ?_
      refine XC.keep [(0, _), (1, _), (9, _)] (S3 rfl rfl rfl) ?_
      refine XC.sr ?_
      refine XO.mv rfl rfl ?_
      refine XO.mv rfl rfl ?_
      refine XO.v (V.nilCheckP rfl) rfl ?_
      refine XO.v (V.fieldAddr rfl fo_34_0) rfl ?_
      refine XO.v (V.indexArr rfl rfl ar_32 (by omega)) rfl ?_
      refine XO.v (V.fieldAddr rfl fo_31_7) rfl ?_
      refine XO.v (V.load rfl (inXM .here) (encM.ld_N_Kids _ _ (by omega)) sc_29) rfl ?_
      refine XO.mono (fun _ hw3 => XM.openK (s := s) (z := n) (by omega) (.cons (.t2 .here) .nil) hw3) ?_
      refine XO.openRow .here (by omega) ?_
      intro g hg
      rw [hg]
      refine XO.mv rfl rfl ?_
      refine XO.v (V.indexSl rfl rfl sl_29 (by omega)) rfl ?_
      refine XO.v (V.loadRow rfl (inXM .here) (ints_at (by omega)) sc_3) rfl ?_
      refine XO.as rfl rfl ?_
      refine XO.as rfl rfl ?_
      refine XO.mono (fun _ hw3 => XM.closeK (s := s) s (z := n) (by omega) rfl (fset_same _ rfl).symm (fset_same _ hg).symm (fset_same _ rfl).symm .h2 hw3) ?_
      refine XO.nk [(6, _), (7, _)] (S2 rfl rfl) ?_
      refine XC.ret ?_
      refine XE.ret2 rfl rfl rfl (post_of (.cons (.there .here) (.cons (.there .here) .h1)) rfl ?_)
      have e : s.findE n x = 0 := by unfold FF.findE; rw [if_neg (by omega), if_pos hh]
      exact ⟨by rw [show s.findV n x = at0 (s.kids n) (posn (s.names n) x) from by unfold FF.findV; rw [if_pos e], e, hpr], rfl⟩
set_option maxRecDepth 10000 in
set_option maxHeartbeats 1000000 in
theorem r_Room (b o : Nat) (s : FC) (hI : s.toFF.Sh) (n : Int) (x : ByteArray) (hx : x.size ≤ 9223372036854775807) : Spec Tryz.prog 73 [ptr b o 0, .int .i64 n, .string x]
    [.cells b o 321 (encM s), .fam fam40 (s.rowsN 9), .fam fam40 (s.rowsK 3)]
    (fun v H1 => v = .int .i64 (s.roomE n x) ∧ H1 = [.cells b o 321 (encM s), .fam fam40 (FC.rowsN 9 s), .fam fam40 (FC.rowsK 3 s)]) := by
  refine Spec.intro Tryz.func73 rfl rfl ?_
  intro W
  refine XC.sr ?_
  refine XO.as rfl rfl ?_
  refine XO.nk [(0, _), (1, _), (2, _)] (S3 rfl rfl rfl) ?_
  refine XC.seq ?_
  refine XC.sr ?_
  refine XO.mv rfl rfl ?_
  refine XO.mv rfl rfl ?_
  refine XO.call rfl (r_Is _ _ _ _ _) .h1 cl_65 rfl ?_
  rintro _ _ ⟨rfl, rfl⟩
  refine XO.as rfl rfl ?_
  refine XO.nk [(0, _), (1, _), (2, _), (7, _)] (S4 rfl rfl rfl rfl) ?_
  refine XC.sr ?_
  refine XO.mv rfl rfl ?_
  refine XO.v (V.cmp rfl rfl rfl) rfl ?_
  refine XO.nk [(0, _), (1, _), (2, _), (7, _), (13, _)] (S5 rfl rfl rfl rfl rfl) ?_
  refine XC.condP rfl (fun h1 => ?_) (fun h1 => ?_)
  · skip
    refine XC.sr ?_
    refine XO.mv rfl rfl ?_
    refine XO.as rfl rfl ?_
    refine XO.nk [(6, _)] (S1 rfl) ?_
    refine XC.ret ?_
    refine XE.thenRet ?_
    refine XE.ret1 rfl rfl (post_of .h3 rfl ?_)
    have e : s.roomE n x = s.isE n 2 := by unfold FF.roomE; rw [if_pos (by omega)]
    exact ⟨by rw [e], rfl⟩
  · skip
    have i0 : s.isE n 2 = 0 := by have := FF.isE_nn s.toFF n 2; omega
    obtain ⟨i1, i2, i3, i4⟩ := FF.isE_k0 i0
    obtain ⟨hr, hk, h8, _⟩ := hI.rise n i1 i2
    refine XC.skip ?_
    refine XE.next ?_
    refine XC.keep [(0, _), (1, _), (2, _)] (S3 rfl rfl rfl) ?_
    refine XC.sr ?_
    refine XO.mv rfl rfl ?_
    refine XO.call rfl (r_NameMay _ (by omega)) .nil cl_88 rfl ?_
    rintro _ _ ⟨rfl, rfl⟩
    refine XO.as rfl rfl ?_
    refine XO.nk [(0, _), (1, _), (2, _), (8, _)] (S4 rfl rfl rfl rfl) ?_
    refine XC.seq ?_
    refine XC.sr ?_
    refine XO.mv rfl rfl ?_
    refine XO.v (V.not rfl) rfl ?_
    refine XO.nk [(0, _), (1, _), (2, _), (18, _)] (S4 rfl rfl rfl rfl) ?_
    refine XC.cond rfl (fun h2 => ?_) (fun h2 => ?_)
    · try simp only [sb] at h2
      have hn : nameOk x = false := by simpa using h2
      refine XC.sr ?_
      refine XO.as rfl rfl ?_
      refine XO.nk [(6, _)] (S1 rfl) ?_
      refine XC.ret ?_
      refine XE.thenRet ?_
      refine XE.ret1 rfl rfl (post_of .h3 rfl ?_)
      have e : s.roomE n x = 9 := by unfold FF.roomE; rw [if_neg (by omega), if_pos hn]
      exact ⟨by rw [e], rfl⟩
    · try simp only [sb] at h2
      have hn : nameOk x = true := by simpa using h2
      refine XC.skip ?_
      refine XE.next ?_
      refine XC.keep [(0, _), (1, _), (2, _)] (S3 rfl rfl rfl) ?_
      refine XC.seq ?_
      refine XC.sr ?_
      refine XO.mv rfl rfl ?_
      refine XO.mv rfl rfl ?_
      refine XO.v (V.nilCheckP rfl) rfl ?_
      refine XO.v (V.fieldAddr rfl fo_34_0) rfl ?_
      refine XO.v (V.indexArr rfl rfl ar_32 (by omega)) rfl ?_
      refine XO.mv rfl rfl ?_
      refine XO.call rfl (r_place _ _ _ hI _ (by omega) _) .h2 cl_82 rfl ?_
      rintro _ _ ⟨rfl, rfl⟩
      refine XO.v (V.cmp rfl rfl rfl) rfl ?_
      refine XO.nk [(0, _), (1, _), (26, _)] (S3 rfl rfl rfl) ?_
      refine XC.condP rfl (fun h3 => ?_) (fun h3 => ?_)
      · skip
        have hh : hasn (s.names n) x = true := by cases q : hasn (s.names n) x with
          | true => rfl
          | false => exact absurd (place_neg.2 q) (by omega)
        refine XC.sr ?_
        refine XO.as rfl rfl ?_
        refine XO.nk [(6, _)] (S1 rfl) ?_
        refine XC.ret ?_
        refine XE.thenRet ?_
        refine XE.ret1 rfl rfl (post_of .h3 rfl ?_)
        have e : s.roomE n x = 3 := by unfold FF.roomE; rw [if_neg (by omega), if_neg (by rw [hn]; simp), if_pos hh]
        exact ⟨by rw [e], rfl⟩
      · skip
        have hh : hasn (s.names n) x = false := place_neg.1 (by omega)
        refine XC.skip ?_
        refine XE.next ?_
        refine XC.keep [(0, _), (1, _)] (S2 rfl rfl) ?_
        refine XC.seq ?_
        refine XC.sr ?_
        refine XO.mv rfl rfl ?_
        refine XO.mv rfl rfl ?_
        refine XO.v (V.nilCheckP rfl) rfl ?_
        refine XO.v (V.fieldAddr rfl fo_34_0) rfl ?_
        refine XO.v (V.indexArr rfl rfl ar_32 (by omega)) rfl ?_
        refine XO.v (V.fieldAddr rfl fo_31_6) rfl ?_
        refine XO.v (V.load rfl (inXM .here) (encM.ld_N_Names _ _ (by omega)) sc_28) rfl ?_
        refine XO.v (V.lenSl rfl Tryz.underlying28) rfl ?_
        refine XO.v (V.cmp rfl rfl rfl) rfl ?_
        refine XO.nk [(35, _)] (S1 rfl) ?_
        refine XC.condP rfl (fun h4 => ?_) (fun h4 => ?_)
        · skip
          refine XC.sr ?_
          refine XO.as rfl rfl ?_
          refine XO.nk [(6, _)] (S1 rfl) ?_
          refine XC.ret ?_
          refine XE.thenRet ?_
          refine XE.ret1 rfl rfl (post_of .h3 rfl ?_)
          have e : s.roomE n x = 4 := by unfold FF.roomE; rw [if_neg (by omega), if_neg (by rw [hn]; simp), if_neg (by rw [hh]; simp), if_pos (by omega)]
          exact ⟨by rw [e], rfl⟩
        · skip
          refine XC.skip ?_
          refine XE.next ?_
          refine XC.keep [] (Sub.nil _) ?_
          refine XC.sr ?_
          refine XO.as rfl rfl ?_
          refine XO.nk [(6, _)] (S1 rfl) ?_
          refine XC.ret ?_
          refine XE.ret1 rfl rfl (post_of .h3 rfl ?_)
          have e : s.roomE n x = 0 := by unfold FF.roomE; rw [if_neg (by omega), if_neg (by rw [hn]; simp), if_neg (by rw [hh]; simp), if_neg (by omega)]
          exact ⟨by rw [e], rfl⟩
end Go.X
