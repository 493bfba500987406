import Derived.Test.YtmklfkjfgjagaaaGreatDoorXShort
import Derived.Test.YtmklfkjfgjagaaaGreatDoorYNW5
namespace Go.X
open Go Go.Proofs

theorem bt_103 : byteT Tryz.prog 133 = true := by kernel_rfl
set_option maxRecDepth 10000 in
set_option maxHeartbeats 2000000 in
theorem t_Write (b o : Nat) (s : FC) (hI : s.toFF.Sh) (n a : Int) (x : ByteArray) (hx : x.size ≤ 9223372036854775807) : Spec Tryz.prog 42 [ptr b o 0, .int .i64 n, .int .i64 a, .string x]
    [.cells b o 321 (encF s), .fam fam40 (s.rowsN 9), .fam fam40 (s.rowsK 3)]
    (fun v H1 => v = errv 76 (s.writeE n a x) ∧ ∃ t : FC, t.toFF = s.write n a x ∧ t.rP = s.rP ∧ t.rC = s.rC ∧ H1 = [.cells b o 321 (encF t), .fam fam40 (FC.rowsN 9 t), .fam fam40 (FC.rowsK 3 t)]) := by
 refine Spec.intro Tryz.func42 rfl rfl ?_
 intro W
 refine XC.sr ?_
 refine XO.as rfl rfl ?_
 refine XO.nk [(0, _), (1, _), (2, _), (3, _)] (S4 rfl rfl rfl rfl) ?_
 refine XC.sr ?_
 refine XO.mv rfl rfl ?_
 refine XO.mv rfl rfl ?_
 refine XO.call rfl (t_file _ _ _ _) .h1 cl_75 rfl ?_
 rintro _ _ ⟨rfl, rfl⟩
 refine XO.as rfl rfl ?_
 refine XO.nk [(0, _), (1, _), (2, _), (3, _), (9, _)] (S5 rfl rfl rfl rfl rfl) ?_
 refine XC.seq ?_
 refine XC.sr ?_
 refine XO.mv rfl rfl ?_
 refine XO.v (V.errNil rfl Tryz.underlying37 rfl) rfl ?_
 refine XO.nk [(0, _), (1, _), (2, _), (3, _), (9, _), (15, _)] (S6 rfl rfl rfl rfl rfl rfl) ?_
 refine XC.condP rfl (fun h1 => ?_) (fun h1 => ?_)
 ·
  have i0 : s.isE n 1 ≠ 0 := by assumption
  refine XC.sr ?_
  refine XO.mv rfl rfl ?_
  refine XO.as rfl rfl ?_
  refine XO.nk [(8, _)] (S1 rfl) ?_
  refine XC.ret ?_
  refine XE.thenRet ?_
  refine XE.ret1 rfl rfl (post_of .h3 rfl ?_)
  have e : s.writeE n a x = s.isE n 1 := by unfold FF.writeE; rw [if_pos (by omega)]
  exact ⟨by rw [e], s, by unfold FF.write; rw [if_neg (by omega)], rfl, rfl, rfl⟩
 ·
  obtain ⟨i1, i2, i3, i4⟩ := FF.isE_k0 (show s.isE n 1 = 0 by simpa using h1)
  have i0 : s.isE n 1 = 0 := by simpa using h1
  have hd := hI.data n (by omega) (by omega)
  refine XC.skip ?_
  refine XE.next ?_
  refine XC.keep [(0, _), (1, _), (2, _), (3, _)] (S4 rfl rfl rfl rfl) ?_
  refine XC.seq ?_
  refine XC.sr ?_
  refine XO.mv rfl rfl ?_
  refine XO.v (V.cmp rfl rfl rfl) rfl ?_
  refine XO.nk [(0, _), (1, _), (2, _), (3, _), (18, _)] (S5 rfl rfl rfl rfl rfl) ?_
  refine XC.condP rfl (fun h2 => ?_) (fun h2 => ?_)
  ·
   refine XC.sr ?_
   refine XO.v (V.makeIface rfl Tryz.underlying76 (by simp)) rfl ?_
   refine XO.as rfl rfl ?_
   refine XO.nk [(8, _)] (S1 rfl) ?_
   refine XC.ret ?_
   refine XE.thenRet ?_
   refine XE.ret1 rfl rfl (post_of .h3 rfl ?_)
   have e : s.writeE n a x = 1 := by unfold FF.writeE; rw [if_neg (by omega), if_pos (by omega)]
   exact ⟨by rw [e]; rfl, s, by unfold FF.write; rw [if_neg (by omega)], rfl, rfl, rfl⟩
  ·
   refine XC.skip ?_
   refine XE.next ?_
   refine XC.keep [(0, _), (1, _), (2, _), (3, _)] (S4 rfl rfl rfl rfl) ?_
   refine XC.seq ?_
   refine XC.sr ?_
   refine XO.mv rfl rfl ?_
   refine XO.v (V.cmp rfl rfl rfl) rfl ?_
   refine XO.mv rfl rfl ?_
   refine XO.splitP (d := 22) rfl (fun h3 => ?_) (fun h3 => ?_)
   ·
    refine XO.guardSkip rfl rfl rfl rfl rfl ?_
    refine XO.guardSkip rfl rfl rfl rfl rfl ?_
    refine XO.guardSkip rfl rfl rfl rfl rfl ?_
    refine XO.guardSkip rfl rfl rfl rfl rfl ?_
    refine XO.guardSkip rfl rfl rfl rfl rfl ?_
    refine XO.v (V.pick rfl rfl rfl rfl) rfl ?_
    refine XO.nk [(0, _), (1, _), (2, _), (3, _), (28, _)] (S5 rfl rfl rfl rfl rfl) ?_
    refine XC.condT rfl rfl ?_
    refine XC.sr ?_
    refine XO.v (V.makeIface rfl Tryz.underlying76 (by simp)) rfl ?_
    refine XO.as rfl rfl ?_
    refine XO.nk [(8, _)] (S1 rfl) ?_
    refine XC.ret ?_
    refine XE.thenRet ?_
    refine XE.ret1 rfl rfl (post_of .h3 rfl ?_)
    have e : s.writeE n a x = 4 := by unfold FF.writeE; rw [if_neg (by omega), if_neg (by omega), if_pos (by omega)]
    exact ⟨by rw [e]; rfl, s, by unfold FF.write; rw [if_neg (by omega)], rfl, rfl, rfl⟩
   ·
    refine XO.guardRun rfl rfl rfl ?_
    refine XO.mv rfl rfl ?_
    refine XO.guardRun rfl rfl rfl ?_
    refine XO.v (V.lenStr rfl Tryz.underlying9) rfl ?_
    refine XO.guardRun rfl rfl rfl ?_
    refine XO.mv rfl rfl ?_
    refine XO.guardRun rfl rfl rfl ?_
    refine XO.v (V.sub rfl rfl _ (IntWalk.i64_in _ (by omega))) rfl ?_
    refine XO.guardRun rfl rfl rfl ?_
    refine XO.v (V.cmp rfl rfl rfl) rfl ?_
    refine XO.v (V.pick rfl rfl rfl rfl) rfl ?_
    refine XO.nk [(0, _), (1, _), (2, _), (3, _), (28, _)] (S5 rfl rfl rfl rfl rfl) ?_
    refine XC.condP rfl (fun h4 => ?_) (fun h4 => ?_)
    ·
     refine XC.sr ?_
     refine XO.v (V.makeIface rfl Tryz.underlying76 (by simp)) rfl ?_
     refine XO.as rfl rfl ?_
     refine XO.nk [(8, _)] (S1 rfl) ?_
     refine XC.ret ?_
     refine XE.thenRet ?_
     refine XE.ret1 rfl rfl (post_of .h3 rfl ?_)
     have e : s.writeE n a x = 4 := by unfold FF.writeE; rw [if_neg (by omega), if_neg (by omega), if_pos (by omega)]
     exact ⟨by rw [e]; rfl, s, by unfold FF.write; rw [if_neg (by omega)], rfl, rfl, rfl⟩
    ·
     refine XC.skip ?_
     refine XE.next ?_
     refine XC.keep [(0, _), (1, _), (2, _), (3, _)] (S4 rfl rfl rfl rfl) ?_
     refine XC.seq ?_
     refine XC.sr ?_
     refine XO.mv rfl rfl ?_
     refine XO.v (V.strCmp rfl rfl rfl) rfl ?_
     refine XO.nk [(0, _), (1, _), (2, _), (3, _), (31, _)] (S5 rfl rfl rfl rfl rfl) ?_
     refine XC.condP rfl (fun h5 => ?_) (fun h5 => ?_)
     ·
      refine XC.sr ?_
      refine XO.as rfl rfl ?_
      refine XO.nk [(8, _)] (S1 rfl) ?_
      refine XC.ret ?_
      refine XE.thenRet ?_
      refine XE.ret1 rfl rfl (post_of .h3 rfl ?_)
      have e : s.writeE n a x = 0 := by unfold FF.writeE; rw [if_neg (by omega), if_neg (by omega), if_neg (by omega)]
      exact ⟨by rw [e]; rfl, s, by unfold FF.write; rw [if_neg (fun q => q.2 (by assumption))], rfl, rfl, rfl⟩
     ·
      have hx0 : x.size ≠ 0 := fun q => (by assumption : ¬ x = ⟨#[]⟩) (size_nil.2 q)
      have hxe : x ≠ ByteArray.empty := by assumption
      refine XC.skip ?_
      refine XE.next ?_
      refine XC.keep [(0, _), (1, _), (2, _), (3, _)] (S4 rfl rfl rfl rfl) ?_
      refine XC.sr ?_
      refine XO.mv rfl rfl ?_
      refine XO.mv rfl rfl ?_
      refine XO.v (V.nilCheckP rfl) rfl ?_
      refine XO.v (V.fieldAddr rfl fo_72_0) rfl ?_
      refine XO.v (V.indexArr rfl rfl ar_70 (by omega)) rfl ?_
      refine XO.v (V.fieldAddr rfl fo_69_4) rfl ?_
      refine XO.v (V.load rfl (inXM .here) (encF.ld_n_data _ _ (by omega)) sc_9) rfl ?_
      refine XO.v (V.lenStr rfl Tryz.underlying9) rfl ?_
      refine XO.mv rfl rfl ?_
      refine XO.mv rfl rfl ?_
      refine XO.v (V.lenStr rfl Tryz.underlying9) rfl ?_
      refine XO.v (V.add rfl rfl _ (IntWalk.i64_in _ (by omega))) rfl ?_
      refine XO.v (V.max2 rfl rfl) rfl ?_
      refine XO.makeBytes rfl rfl (by omega) bt_103 rfl ?_
      intro bb
      refine XO.as rfl rfl ?_
      refine XO.nk [(0, _), (1, _), (2, _), (3, _), (10, _)] (S5 rfl rfl rfl rfl rfl) ?_
      refine XC.sr ?_
      refine XO.mv rfl rfl ?_
      refine XO.mv rfl rfl ?_
      refine XO.mv rfl rfl ?_
      refine XO.v (V.nilCheckP rfl) rfl ?_
      refine XO.v (V.fieldAddr rfl fo_72_0) rfl ?_
      refine XO.v (V.indexArr rfl rfl ar_70 (by omega)) rfl ?_
      refine XO.v (V.fieldAddr rfl fo_69_4) rfl ?_
      refine XO.v (V.load rfl (inXM (.there .here)) (encF.ld_n_data _ _ (by omega)) sc_9) rfl ?_
      refine XO.copyStr rfl rfl bt_103 (by omega) (by omega) .here rfl rfl ?_
      refine XO.nk [(0, _), (1, _), (2, _), (3, _), (10, _)] (S5 rfl rfl rfl rfl rfl) ?_
      refine XC.sr ?_
      refine XO.mv rfl rfl ?_
      refine XO.mv rfl rfl ?_
      refine XO.v (V.sliceBy rfl rfl bt_103 (by omega)) rfl ?_
      refine XO.mv rfl rfl ?_
      refine XO.copyStr rfl rfl bt_103 (by omega) (by omega) .here rfl rfl ?_
      refine XO.nk [(0, _), (1, _), (10, _)] (S3 rfl rfl rfl) ?_
      refine XC.seq ?_
      refine XC.regionQ mixed (f := 9) (l := #[false, false, false, false, false, false, false, false, false]) rfl rfl XM.drawn' ?_
      refine XQ.pv (i := 0) (l' := #[tt,ff,ff,ff,ff,ff,ff,ff,ff]) rfl (by kernel_rfl) rfl (V.move rfl) rfl rfl ?_
      refine XQ.pv (i := 1) (l' := #[tt,tt,ff,ff,ff,ff,ff,ff,ff]) rfl (by kernel_rfl) rfl (V.move rfl) rfl rfl ?_
      refine XQ.pv (i := 2) (l' := #[tt,tt,tt,ff,ff,ff,ff,ff,ff]) rfl (by kernel_rfl) rfl (V.move rfl) rfl rfl ?_
      refine XQ.load (i := 3) (l' := #[tt,tt,tt,tt,ff,ff,ff,ff,ff]) (.cells _ _ _ _) [8] rfl (by kernel_rfl) rfl .here (V.convB (B := wrB (s.data n) a.toNat x) rfl (by rw [FF.wrB_size]; omega) inEnt ⟨by rw [FF.wrB_size]; omega, fun i h => wr_cells _ _ _ i h⟩ bt_103 Tryz.underlying9) rfl (by kernel_rfl) rfl ?_
      refine XQ.pv (i := 4) (l' := #[tt,tt,tt,tt,tt,ff,ff,ff,ff]) rfl (by kernel_rfl) rfl (V.nilCheckP rfl) rfl rfl ?_
      refine XQ.pv (i := 5) (l' := #[tt,tt,tt,tt,tt,tt,ff,ff,ff]) rfl (by kernel_rfl) rfl (V.fieldAddr rfl fo_72_0) rfl rfl ?_
      refine XQ.pv (i := 6) (l' := #[tt,tt,tt,tt,tt,tt,tt,ff,ff]) rfl (by kernel_rfl) rfl (V.indexArr rfl rfl ar_70 (by omega)) rfl rfl ?_
      refine XQ.pv (i := 7) (l' := #[tt,tt,tt,tt,tt,tt,tt,tt,ff]) rfl (by kernel_rfl) rfl (V.fieldAddr rfl fo_69_4) rfl rfl ?_
      refine XQ.store (i := 8) (l' := #[tt,tt,tt,tt,tt,tt,tt,tt,tt]) rfl (by kernel_rfl) rfl rfl rfl (.there .here) (encF.st_n_data _ _ (by omega) _) rfl sz_9_1 (fun _ hw' => ⟨fun hs => (hs 8 (by first | (simp; done) | (simp; rfl)) rfl).elim, trivial⟩) ?_
      refine XQ.done (by kernel_rfl) ?_
      refine XE.next ?_
      refine XC.keep [] (Sub.nil _) ?_
      refine XC.sr ?_
      refine XO.as rfl rfl ?_
      refine XO.nk [(8, _)] (S1 rfl) ?_
      refine XC.ret ?_
      refine XE.ret1 rfl rfl (post_of (.cons (.there .here) (.cons (.there .here) (.cons (.there .here) .nil))) rfl ?_)
      have e : s.writeE n a x = 0 := by unfold FF.writeE; rw [if_neg (by omega), if_neg (by omega), if_neg (by omega)]
      exact ⟨by rw [e]; rfl, ({ s with data := fset s.data n (wrB (s.data n) a.toNat x) } : FC), by unfold FF.write; rw [if_pos ⟨e, hxe⟩], rfl, rfl, rfl⟩
end Go.X
