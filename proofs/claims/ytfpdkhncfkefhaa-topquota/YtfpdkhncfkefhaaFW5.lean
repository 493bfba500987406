import Derived.Test.YtfpdkhncfkefhaaFW4
namespace Go.X
open Go Go.Proofs
theorem cl_37 : callable Try.prog 37 = true := by kernel_rfl
theorem cl_38 : callable Try.prog 38 = true := by kernel_rfl
set_option maxRecDepth 10000 in
set_option maxHeartbeats 4000000 in
theorem f_Tick (b o : Nat) (s : SC) (d : Int → Nat) (hI : s.toSF.Inv d) (hR : s.Rep) (hD : ∀ n, 0 ≤ n → n < 30 → d n ≤ 1000) (Bd : Int) (hB : 0 ≤ Bd ∧ Bd ≤ 100000000000000) (hS : s.toSF.Small Bd) (hnow : 0 ≤ s.now ∧ s.now ≤ Bd) (hset : (s.toSF.tick0 d).Settled) : Spec Try.prog 18 [ptr b o 0]
    [.cells b o 2281 (encS s), .fam fam30 (s.rows 86)]
    (fun v H1 => v = .int .i64 (s.toSF.tick d).1 ∧ ∃ t : SC, t.toSF = (s.toSF.tick d).2 ∧ t.Rep ∧ H1 = [.cells b o 2281 (encS t), .fam fam30 (t.rows 86)]) := by
  refine Spec.intro Try.func18 rfl rfl ?_
  intro W
  refine XC.seq ?_
  refine XC.region ?_
  refine XO.v (V.assign rfl) rfl ?_
  refine XO.nil ?_
  refine XE.next ?_
  refine XC.keep [(0, _)] (Sub.cons rfl (Sub.nil _)) ?_
  refine XC.seq ?_
  refine XC.seq ?_
  refine XC.region ?_
  refine XO.v (V.assign rfl) rfl ?_
  refine XO.nil ?_
  refine XE.next ?_
  refine XC.keep [(0, _), (3, _)] (Sub.cons rfl (Sub.cons rfl (Sub.nil _))) ?_
  refine XC.block ?_
  refine XC.loop (σ := SC × Int) (fun x => (10 - x.2).toNat) (fun x => x.1.Rep ∧ x.1.toSF.Inv d ∧ (1 ≤ x.2 ∧ x.2 ≤ 10) ∧ x.1.toSF = s.toSF.refN d (x.2 - 1).toNat ∧ x.1.toSF.now = s.toSF.now ∧ x.1.toSF.Small Bd) (fun x => [(3, .int .i64 x.2), (0, ptr b o 0)]) (fun x => XM W (foot [.cells b o 2281 (encS s), .fam fam30 (s.rows 86)]) [.cells b o 2281 (encS x.1), .fam fam30 (SC.rows 86 x.1)]) ((s, 1)) ?_ (Sub.cons rfl (Sub.cons rfl (Sub.nil _))) (fun _ hw => XM.pick (.cons .here (.cons .here .nil)) hw) ?_
  · skip
    exact ⟨hR, hI, by simp, rfl, rfl, hS⟩
  intro x hx
  obtain ⟨xR, xI, hx1, hxe, hxn, xS⟩ := hx
  refine XC.seq ?_
  refine XC.seq ?_
  refine XC.region ?_
  refine XO.v (V.move rfl) rfl ?_
  refine XO.v (V.cmp rfl rfl rfl) rfl ?_
  refine XO.nil ?_
  refine XE.next ?_
  refine XC.keep [(0, _), (3, _), (10, _)] (Sub.cons rfl (Sub.cons rfl (Sub.cons rfl (Sub.nil _)))) ?_
  refine XC.condP rfl (fun h1 => ?_) (fun h1 => ?_)
  · skip
    have hqx := xI.quo x.2 (by omega) (by omega)
    refine XC.skip ?_
    refine XE.next ?_
    refine XC.keep [(0, _), (3, _)] (Sub.cons rfl (Sub.cons rfl (Sub.nil _))) ?_
    refine XC.seq ?_
    refine XC.block ?_
    refine XC.seq ?_
    refine XC.region ?_
    refine XO.v (V.move rfl) rfl ?_
    refine XO.v (V.move rfl) rfl ?_
    refine XO.v (V.nilCheckP rfl) rfl ?_
    refine XO.v (V.fieldAddr rfl fo_65_0) rfl ?_
    refine XO.v (V.indexArr rfl rfl ar_63 (by omega)) rfl ?_
    refine XO.v (V.assign rfl) rfl ?_
    refine XO.nil ?_
    refine XE.next ?_
    refine XC.keep [(0, _), (3, _), (4, _)] (Sub.cons rfl (Sub.cons rfl (Sub.cons rfl (Sub.nil _)))) ?_
    refine XC.seq ?_
    refine XC.regionQ mixed (f := 23) (l := #[false, false, false, false, false, false, false, false, false, false, false, false, false, false, false, false, false, false, false, false, false, false, false]) rfl rfl XM.drawn' ?_
    refine XQ.pv (i := 0) (l' := #[true, false, false, false, false, false, false, false, false, false, false, false, false, false, false, false, false, false, false, false, false, false, false]) rfl (by kernel_rfl) rfl (V.move rfl) rfl rfl ?_
    refine XQ.pv (i := 1) (l' := #[true, true, false, false, false, false, false, false, false, false, false, false, false, false, false, false, false, false, false, false, false, false, false]) rfl (by kernel_rfl) rfl (V.nilCheckP rfl) rfl rfl ?_
    refine XQ.pv (i := 2) (l' := #[true, true, true, false, false, false, false, false, false, false, false, false, false, false, false, false, false, false, false, false, false, false, false]) rfl (by kernel_rfl) rfl (V.fieldAddr rfl fo_62_0) rfl rfl ?_
    refine XQ.load (i := 3) (l' := #[true, true, true, true, false, false, false, false, false, false, false, false, false, false, false, false, false, false, false, false, false, false, false]) (.cells _ _ _ _) [] rfl (by kernel_rfl) rfl .here (V.load rfl inEnt (encS.ld_u_here _ _ (by omega)) sc_4) rfl (by kernel_rfl) rfl ?_
    refine XQ.pv (i := 4) (l' := #[true, true, true, true, true, false, false, false, false, false, false, false, false, false, false, false, false, false, false, false, false, false, false]) rfl (by kernel_rfl) rfl (V.move rfl) rfl rfl ?_
    refine XQ.split (d := 22) rfl (fun h2 => ?_) (fun h2 => ?_)
    · try simp only [sb] at h2
      have hhr : x.1.here x.2 = true := h2
      refine XQ.pvG (i := 5) (l' := #[true, true, true, true, true, true, false, false, false, false, false, false, false, false, false, false, false, false, false, false, false, false, false]) rfl rfl rfl (by kernel_rfl) rfl (V.move rfl) rfl rfl ?_
      refine XQ.pvG (i := 6) (l' := #[true, true, true, true, true, true, true, false, false, false, false, false, false, false, false, false, false, false, false, false, false, false, false]) rfl rfl rfl (by kernel_rfl) rfl (V.nilCheckP rfl) rfl rfl ?_
      refine XQ.pvG (i := 7) (l' := #[true, true, true, true, true, true, true, true, false, false, false, false, false, false, false, false, false, false, false, false, false, false, false]) rfl rfl rfl (by kernel_rfl) rfl (V.fieldAddr rfl fo_62_9) rfl rfl ?_
      refine XQ.loadG (i := 8) (l' := #[true, true, true, true, true, true, true, true, true, false, false, false, false, false, false, false, false, false, false, false, false, false, false]) (.cells _ _ _ _) [] rfl rfl rfl (by kernel_rfl) rfl .here (V.load rfl inEnt (encS.ld_u_quota _ _ (by omega)) sc_3) rfl (by kernel_rfl) rfl ?_
      refine XQ.pvG (i := 9) (l' := #[true, true, true, true, true, true, true, true, true, true, false, false, false, false, false, false, false, false, false, false, false, false, false]) rfl rfl rfl (by kernel_rfl) rfl (V.cmp rfl rfl rfl) rfl rfl ?_
      refine XQ.pv (i := 10) (l' := #[true, true, true, true, true, true, true, true, true, true, true, false, false, false, false, false, false, false, false, false, false, false, false]) rfl (by kernel_rfl) rfl (V.pick rfl rfl rfl rfl) rfl rfl ?_
      refine XQ.pv (i := 11) (l' := #[true, true, true, true, true, true, true, true, true, true, true, true, false, false, false, false, false, false, false, false, false, false, false]) rfl (by kernel_rfl) rfl (V.move rfl) rfl rfl ?_
      refine XQ.splitP (d := 29) rfl (fun h3 => ?_) (fun h3 => ?_)
      · skip
        refine XQ.pvG (i := 12) (l' := #[true, true, true, true, true, true, true, true, true, true, true, true, true, false, false, false, false, false, false, false, false, false, false]) rfl rfl rfl (by kernel_rfl) rfl (V.move rfl) rfl rfl ?_
        refine XQ.pvG (i := 13) (l' := #[true, true, true, true, true, true, true, true, true, true, true, true, true, true, false, false, false, false, false, false, false, false, false]) rfl rfl rfl (by kernel_rfl) rfl (V.nilCheckP rfl) rfl rfl ?_
        refine XQ.pvG (i := 14) (l' := #[true, true, true, true, true, true, true, true, true, true, true, true, true, true, true, false, false, false, false, false, false, false, false]) rfl rfl rfl (by kernel_rfl) rfl (V.fieldAddr rfl fo_65_1) rfl rfl ?_
        refine XQ.loadG (i := 15) (l' := #[true, true, true, true, true, true, true, true, true, true, true, true, true, true, true, true, false, false, false, false, false, false, false]) (.cells _ _ _ _) [] rfl rfl rfl (by kernel_rfl) rfl .here (V.load rfl inEnt (encS.ld_now _) sc_3) rfl (by kernel_rfl) rfl ?_
        refine XQ.pvG (i := 16) (l' := #[true, true, true, true, true, true, true, true, true, true, true, true, true, true, true, true, true, false, false, false, false, false, false]) rfl rfl rfl (by kernel_rfl) rfl (V.move rfl) rfl rfl ?_
        refine XQ.pvG (i := 17) (l' := #[true, true, true, true, true, true, true, true, true, true, true, true, true, true, true, true, true, true, false, false, false, false, false]) rfl rfl rfl (by kernel_rfl) rfl (V.nilCheckP rfl) rfl rfl ?_
        refine XQ.pvG (i := 18) (l' := #[true, true, true, true, true, true, true, true, true, true, true, true, true, true, true, true, true, true, true, false, false, false, false]) rfl rfl rfl (by kernel_rfl) rfl (V.fieldAddr rfl fo_62_10) rfl rfl ?_
        refine XQ.loadG (i := 19) (l' := #[true, true, true, true, true, true, true, true, true, true, true, true, true, true, true, true, true, true, true, true, false, false, false]) (.cells _ _ _ _) [] rfl rfl rfl (by kernel_rfl) rfl .here (V.load rfl inEnt (encS.ld_u_period _ _ (by omega)) sc_3) rfl (by kernel_rfl) rfl ?_
        refine XQ.pvG (i := 20) (l' := #[true, true, true, true, true, true, true, true, true, true, true, true, true, true, true, true, true, true, true, true, true, false, false]) rfl rfl rfl (by kernel_rfl) rfl (V.rem rfl rfl (by first | decide | omega) _ (Int.tmod_eq_emod_of_nonneg (by omega))) rfl rfl ?_
        refine XQ.pvG (i := 21) (l' := #[true, true, true, true, true, true, true, true, true, true, true, true, true, true, true, true, true, true, true, true, true, true, false]) rfl rfl rfl (by kernel_rfl) rfl (V.cmp rfl rfl rfl) rfl rfl ?_
        refine XQ.pv (i := 22) (l' := #[true, true, true, true, true, true, true, true, true, true, true, true, true, true, true, true, true, true, true, true, true, true, true]) rfl (by kernel_rfl) rfl (V.pick rfl rfl rfl rfl) rfl rfl ?_
        refine XQ.done (by kernel_rfl) ?_
        refine XE.next ?_
        refine XC.keep [(0, _), (3, _), (4, _), (40, _)] (Sub.cons rfl (Sub.cons rfl (Sub.cons rfl (Sub.cons rfl (Sub.nil _))))) ?_
        refine XC.condP rfl (fun h4 => ?_) (fun h4 => ?_)
        · skip
          refine XC.seq ?_
          refine XC.region ?_
          refine XO.v (V.move rfl) rfl ?_
          refine XO.v (V.nilCheckP rfl) rfl ?_
          refine XO.v (V.fieldAddr rfl fo_62_11) rfl ?_
          refine XO.store rfl rfl .here (encS.st_u_used _ _ (by omega) _) rfl sz_3_1 ?_
          refine XO.nil ?_
          refine XE.next ?_
          refine XC.keep [(0, _), (3, _)] (Sub.cons rfl (Sub.cons rfl (Sub.nil _))) ?_
          refine XC.region ?_
          refine XO.v (V.move rfl) rfl ?_
          refine XO.v (V.move rfl) rfl ?_
          refine XO.call rfl (f_settle _ _ ({ x.1 with used := fset x.1.used x.2 0 } : SC) d ⟨xI.h0, xI.up, xI.was, xI.quo, xI.wt⟩ xR _ (.inr ⟨by omega, by omega, hhr⟩)) (.cons .here (.cons .here .nil)) cl_36 rfl ?_
          rintro _ _ ⟨rfl, t, tl, tR, rfl⟩
          refine XO.nil ?_
          refine XE.blockNormal ?_
          refine XE.next ?_
          refine XC.keep [(0, _), (3, _)] (Sub.cons rfl (Sub.cons rfl (Sub.nil _))) ?_
          refine XC.region ?_
          refine XO.v (V.move rfl) rfl ?_
          refine XO.v (V.add rfl rfl _ (IntWalk.i64_in _ (by omega))) rfl ?_
          refine XO.v (V.assign rfl) rfl ?_
          refine XO.nil ?_
          refine XE.again ((t, x.2 + 1)) ?_ ?_ (Sub.cons rfl (Sub.cons rfl (Sub.nil _))) (fun _ hw => XM.pick (.cons .here (.cons .here .nil)) hw)
          · skip
            (simp; omega)
          · skip
            refine ⟨tR, ?_, by simp; omega, ?_, ?_, ?_⟩
            · show t.toSF.Inv d
              rw [tl]
              exact SF.look_inv (s := ({ x.1 with used := fset x.1.used x.2 0 } : SC).toSF) ⟨xI.h0, xI.up, xI.was, xI.quo, xI.wt⟩ (.inr ⟨by omega, by omega, hhr⟩)
            · show t.toSF = s.toSF.refN d (x.2 + 1 - 1).toNat
              rw [tl, SF.refN_go hx1.1 hxe ⟨hhr, by assumption, by assumption⟩]
            · show t.toSF.now = _
              rw [tl]
              exact (SF.lookF_keeps _ _ _).2.2.2.2.2.2.2.2.2.2.trans hxn
            · show t.toSF.Small Bd
              rw [tl]
              exact SF.Small.lookF _ (({ x.1 with used := fset x.1.used x.2 0 } : SC).toSF) _ ⟨xI.h0, xI.up, xI.was, xI.quo, xI.wt⟩ (xS.used hB.1 x.2) (.inr ⟨by omega, by omega, hhr⟩)
        · skip
          refine XC.skip ?_
          refine XE.blockNormal ?_
          refine XE.next ?_
          refine XC.keep [(0, _), (3, _)] (Sub.cons rfl (Sub.cons rfl (Sub.nil _))) ?_
          refine XC.region ?_
          refine XO.v (V.move rfl) rfl ?_
          refine XO.v (V.add rfl rfl _ (IntWalk.i64_in _ (by omega))) rfl ?_
          refine XO.v (V.assign rfl) rfl ?_
          refine XO.nil ?_
          refine XE.again ((x.1, x.2 + 1)) ?_ ?_ (Sub.cons rfl (Sub.cons rfl (Sub.nil _))) (fun _ hw => XM.pick (.cons .here (.cons .here .nil)) hw)
          · skip
            (simp; omega)
          · skip
            refine ⟨xR, xI, by simp; omega, ?_, hxn, xS⟩
            show x.1.toSF = s.toSF.refN d (x.2 + 1 - 1).toNat
            rw [SF.refN_no hx1.1 hxe]
            rintro ⟨q1, q2, q3⟩
            first
            | omega
            | (rw [hhr] at q1; cases q1)
      · skip
        refine XQ.skip (i := 12) (l' := #[true, true, true, true, true, true, true, true, true, true, true, true, true, false, false, false, false, false, false, false, false, false, false]) rfl rfl rfl rfl rfl (by kernel_rfl) rfl rfl rfl ?_
        refine XQ.skip (i := 13) (l' := #[true, true, true, true, true, true, true, true, true, true, true, true, true, true, false, false, false, false, false, false, false, false, false]) rfl rfl rfl rfl rfl (by kernel_rfl) rfl rfl rfl ?_
        refine XQ.skip (i := 14) (l' := #[true, true, true, true, true, true, true, true, true, true, true, true, true, true, true, false, false, false, false, false, false, false, false]) rfl rfl rfl rfl rfl (by kernel_rfl) rfl rfl rfl ?_
        refine XQ.skip (i := 15) (l' := #[true, true, true, true, true, true, true, true, true, true, true, true, true, true, true, true, false, false, false, false, false, false, false]) rfl rfl rfl rfl rfl (by kernel_rfl) rfl rfl rfl ?_
        refine XQ.skip (i := 16) (l' := #[true, true, true, true, true, true, true, true, true, true, true, true, true, true, true, true, true, false, false, false, false, false, false]) rfl rfl rfl rfl rfl (by kernel_rfl) rfl rfl rfl ?_
        refine XQ.skip (i := 17) (l' := #[true, true, true, true, true, true, true, true, true, true, true, true, true, true, true, true, true, true, false, false, false, false, false]) rfl rfl rfl rfl rfl (by kernel_rfl) rfl rfl rfl ?_
        refine XQ.skip (i := 18) (l' := #[true, true, true, true, true, true, true, true, true, true, true, true, true, true, true, true, true, true, true, false, false, false, false]) rfl rfl rfl rfl rfl (by kernel_rfl) rfl rfl rfl ?_
        refine XQ.skip (i := 19) (l' := #[true, true, true, true, true, true, true, true, true, true, true, true, true, true, true, true, true, true, true, true, false, false, false]) rfl rfl rfl rfl rfl (by kernel_rfl) rfl rfl rfl ?_
        refine XQ.skip (i := 20) (l' := #[true, true, true, true, true, true, true, true, true, true, true, true, true, true, true, true, true, true, true, true, true, false, false]) rfl rfl rfl rfl rfl (by kernel_rfl) rfl rfl rfl ?_
        refine XQ.skip (i := 21) (l' := #[true, true, true, true, true, true, true, true, true, true, true, true, true, true, true, true, true, true, true, true, true, true, false]) rfl rfl rfl rfl rfl (by kernel_rfl) rfl rfl rfl ?_
        refine XQ.pv (i := 22) (l' := #[true, true, true, true, true, true, true, true, true, true, true, true, true, true, true, true, true, true, true, true, true, true, true]) rfl (by kernel_rfl) rfl (V.pick rfl rfl rfl rfl) rfl rfl ?_
        refine XQ.done (by kernel_rfl) ?_
        refine XE.next ?_
        refine XC.keep [(0, _), (3, _), (4, _), (40, _)] (Sub.cons rfl (Sub.cons rfl (Sub.cons rfl (Sub.cons rfl (Sub.nil _))))) ?_
        refine XC.condF rfl rfl ?_
        refine XC.skip ?_
        refine XE.blockNormal ?_
        refine XE.next ?_
        refine XC.keep [(0, _), (3, _)] (Sub.cons rfl (Sub.cons rfl (Sub.nil _))) ?_
        refine XC.region ?_
        refine XO.v (V.move rfl) rfl ?_
        refine XO.v (V.add rfl rfl _ (IntWalk.i64_in _ (by omega))) rfl ?_
        refine XO.v (V.assign rfl) rfl ?_
        refine XO.nil ?_
        refine XE.again ((x.1, x.2 + 1)) ?_ ?_ (Sub.cons rfl (Sub.cons rfl (Sub.nil _))) (fun _ hw => XM.pick (.cons .here (.cons .here .nil)) hw)
        · skip
          (simp; omega)
        · skip
          refine ⟨xR, xI, by simp; omega, ?_, hxn, xS⟩
          show x.1.toSF = s.toSF.refN d (x.2 + 1 - 1).toNat
          rw [SF.refN_no hx1.1 hxe]
          rintro ⟨q1, q2, q3⟩
          first
          | omega
          | (rw [hhr] at q1; cases q1)
    · try simp only [sb] at h2
      have hhr : x.1.here x.2 = false := h2
      refine XQ.skip (i := 5) (l' := #[true, true, true, true, true, true, false, false, false, false, false, false, false, false, false, false, false, false, false, false, false, false, false]) rfl rfl rfl rfl rfl (by kernel_rfl) rfl rfl rfl ?_
      refine XQ.skip (i := 6) (l' := #[true, true, true, true, true, true, true, false, false, false, false, false, false, false, false, false, false, false, false, false, false, false, false]) rfl rfl rfl rfl rfl (by kernel_rfl) rfl rfl rfl ?_
      refine XQ.skip (i := 7) (l' := #[true, true, true, true, true, true, true, true, false, false, false, false, false, false, false, false, false, false, false, false, false, false, false]) rfl rfl rfl rfl rfl (by kernel_rfl) rfl rfl rfl ?_
      refine XQ.skip (i := 8) (l' := #[true, true, true, true, true, true, true, true, true, false, false, false, false, false, false, false, false, false, false, false, false, false, false]) rfl rfl rfl rfl rfl (by kernel_rfl) rfl rfl rfl ?_
      refine XQ.skip (i := 9) (l' := #[true, true, true, true, true, true, true, true, true, true, false, false, false, false, false, false, false, false, false, false, false, false, false]) rfl rfl rfl rfl rfl (by kernel_rfl) rfl rfl rfl ?_
      refine XQ.pv (i := 10) (l' := #[true, true, true, true, true, true, true, true, true, true, true, false, false, false, false, false, false, false, false, false, false, false, false]) rfl (by kernel_rfl) rfl (V.pick rfl rfl rfl rfl) rfl rfl ?_
      refine XQ.pv (i := 11) (l' := #[true, true, true, true, true, true, true, true, true, true, true, true, false, false, false, false, false, false, false, false, false, false, false]) rfl (by kernel_rfl) rfl (V.move rfl) rfl rfl ?_
      refine XQ.skip (i := 12) (l' := #[true, true, true, true, true, true, true, true, true, true, true, true, true, false, false, false, false, false, false, false, false, false, false]) rfl rfl rfl rfl rfl (by kernel_rfl) rfl rfl rfl ?_
      refine XQ.skip (i := 13) (l' := #[true, true, true, true, true, true, true, true, true, true, true, true, true, true, false, false, false, false, false, false, false, false, false]) rfl rfl rfl rfl rfl (by kernel_rfl) rfl rfl rfl ?_
      refine XQ.skip (i := 14) (l' := #[true, true, true, true, true, true, true, true, true, true, true, true, true, true, true, false, false, false, false, false, false, false, false]) rfl rfl rfl rfl rfl (by kernel_rfl) rfl rfl rfl ?_
      refine XQ.skip (i := 15) (l' := #[true, true, true, true, true, true, true, true, true, true, true, true, true, true, true, true, false, false, false, false, false, false, false]) rfl rfl rfl rfl rfl (by kernel_rfl) rfl rfl rfl ?_
      refine XQ.skip (i := 16) (l' := #[true, true, true, true, true, true, true, true, true, true, true, true, true, true, true, true, true, false, false, false, false, false, false]) rfl rfl rfl rfl rfl (by kernel_rfl) rfl rfl rfl ?_
      refine XQ.skip (i := 17) (l' := #[true, true, true, true, true, true, true, true, true, true, true, true, true, true, true, true, true, true, false, false, false, false, false]) rfl rfl rfl rfl rfl (by kernel_rfl) rfl rfl rfl ?_
      refine XQ.skip (i := 18) (l' := #[true, true, true, true, true, true, true, true, true, true, true, true, true, true, true, true, true, true, true, false, false, false, false]) rfl rfl rfl rfl rfl (by kernel_rfl) rfl rfl rfl ?_
      refine XQ.skip (i := 19) (l' := #[true, true, true, true, true, true, true, true, true, true, true, true, true, true, true, true, true, true, true, true, false, false, false]) rfl rfl rfl rfl rfl (by kernel_rfl) rfl rfl rfl ?_
      refine XQ.skip (i := 20) (l' := #[true, true, true, true, true, true, true, true, true, true, true, true, true, true, true, true, true, true, true, true, true, false, false]) rfl rfl rfl rfl rfl (by kernel_rfl) rfl rfl rfl ?_
      refine XQ.skip (i := 21) (l' := #[true, true, true, true, true, true, true, true, true, true, true, true, true, true, true, true, true, true, true, true, true, true, false]) rfl rfl rfl rfl rfl (by kernel_rfl) rfl rfl rfl ?_
      refine XQ.pv (i := 22) (l' := #[true, true, true, true, true, true, true, true, true, true, true, true, true, true, true, true, true, true, true, true, true, true, true]) rfl (by kernel_rfl) rfl (V.pick rfl rfl rfl rfl) rfl rfl ?_
      refine XQ.done (by kernel_rfl) ?_
      refine XE.next ?_
      refine XC.keep [(0, _), (3, _), (4, _), (40, _)] (Sub.cons rfl (Sub.cons rfl (Sub.cons rfl (Sub.cons rfl (Sub.nil _))))) ?_
      refine XC.condF rfl rfl ?_
      refine XC.skip ?_
      refine XE.blockNormal ?_
      refine XE.next ?_
      refine XC.keep [(0, _), (3, _)] (Sub.cons rfl (Sub.cons rfl (Sub.nil _))) ?_
      refine XC.region ?_
      refine XO.v (V.move rfl) rfl ?_
      refine XO.v (V.add rfl rfl _ (IntWalk.i64_in _ (by omega))) rfl ?_
      refine XO.v (V.assign rfl) rfl ?_
      refine XO.nil ?_
      refine XE.again ((x.1, x.2 + 1)) ?_ ?_ (Sub.cons rfl (Sub.cons rfl (Sub.nil _))) (fun _ hw => XM.pick (.cons .here (.cons .here .nil)) hw)
      · skip
        (simp; omega)
      · skip
        refine ⟨xR, xI, by simp; omega, ?_, hxn, xS⟩
        show x.1.toSF = s.toSF.refN d (x.2 + 1 - 1).toNat
        rw [SF.refN_no hx1.1 hxe]
        rintro ⟨q1, q2, q3⟩
        first
        | omega
        | (rw [hhr] at q1; cases q1)
  · skip
    have h10 : x.2 = 10 := by omega
    rw [show (x.2 - 1).toNat = 9 from by omega] at hxe
    have hte : ({ x.1 with now := x.1.now + 1 } : SC).toSF = (s.toSF.tick0 d) := by
      show ({ x.1.toSF with now := x.1.toSF.now + 1 } : SF) = { s.toSF.refN d 9 with now := s.toSF.now + 1 }
      rw [← hxe, ← hxn]
    have hI1 : SF.Inv ({ x.1 with now := x.1.now + 1 } : SC).toSF d := ⟨xI.h0, xI.up, xI.was, xI.quo, xI.wt⟩
    have hR1 : SC.Rep ({ x.1 with now := x.1.now + 1 } : SC) := xR
    have hS1 : SF.Small ({ x.1 with now := x.1.now + 1 } : SC).toSF Bd := xS
    have hw1 : ∀ i, ({ x.1 with now := x.1.now + 1 } : SC).toSF.was i = true → 0 < i ∧ i < 30 := fun i hi => ⟨(hI1.was i hi).1, (hI1.was i hi).2.1⟩
    have hF := hR1.first hw1 (g := 0) (by omega) (by omega)
    rw [← hte] at hset
    refine XC.exit ?_
    refine XE.thenExit ?_
    refine XE.thenExit ?_
    refine XE.blockExit ?_
    refine XE.next ?_
    refine XC.keep [(0, _)] (Sub.cons rfl (Sub.nil _)) ?_
    refine XC.seq ?_
    refine XC.region ?_
    refine XO.v (V.move rfl) rfl ?_
    refine XO.v (V.nilCheckP rfl) rfl ?_
    refine XO.v (V.fieldAddr rfl fo_65_1) rfl ?_
    refine XO.v (V.load rfl (inXM .here) (encS.ld_now _) sc_3) rfl ?_
    refine XO.v (V.add rfl rfl _ (IntWalk.i64_in _ (by omega))) rfl ?_
    refine XO.v (V.nilCheckP rfl) rfl ?_
    refine XO.v (V.fieldAddr rfl fo_65_1) rfl ?_
    refine XO.store rfl rfl .here (encS.st_now _ _) rfl sz_3_1 ?_
    refine XO.nil ?_
    refine XE.next ?_
    refine XC.keep [(0, _)] (Sub.cons rfl (Sub.nil _)) ?_
    refine XC.seq ?_
    refine XC.region ?_
    refine XO.v (V.move rfl) rfl ?_
    refine XO.v (V.nilCheckP rfl) rfl ?_
    refine XO.v (V.fieldAddr rfl fo_65_0) rfl ?_
    refine XO.v (V.indexArr rfl rfl ar_63 (by omega)) rfl ?_
    refine XO.v (V.fieldAddr rfl fo_62_6) rfl ?_
    refine XO.mono (fun _ hw3 => XM.openS (z := 0) (by omega) (.cons .here (.cons .here .nil)) hw3) ?_
    refine XO.call rfl (q_First _ _ _ _ _) (.cons .here (.cons .here .nil)) cl_37 rfl ?_
    rintro _ _ ⟨rfl, rfl⟩
    refine XO.mono (fun _ hw3 => XM.closeS0 (z := 0) (by omega) (.cons .here (.cons .here (.cons .here (.cons .here (.cons .here .nil))))) hw3) ?_
    refine XO.v (V.move rfl) rfl ?_
    refine XO.v (V.extract rfl rfl) rfl ?_
    refine XO.v (V.extract rfl rfl) rfl ?_
    refine XO.v (V.extract rfl rfl) rfl ?_
    refine XO.v (V.assign rfl) rfl ?_
    refine XO.v (V.assign rfl) rfl ?_
    refine XO.v (V.assign rfl) rfl ?_
    refine XO.nil ?_
    refine XE.next ?_
    refine XC.keep [(0, _), (5, _), (7, _)] (Sub.cons rfl (Sub.cons rfl (Sub.cons rfl (Sub.nil _)))) ?_
    refine XC.seq ?_
    refine XC.seq ?_
    refine XC.region ?_
    refine XO.v (V.move rfl) rfl ?_
    refine XO.v (V.not rfl) rfl ?_
    refine XO.nil ?_
    refine XE.next ?_
    refine XC.keep [(0, _), (5, _), (65, _)] (Sub.cons rfl (Sub.cons rfl (Sub.cons rfl (Sub.nil _)))) ?_
    refine XC.cond rfl (fun h5 => ?_) (fun h5 => ?_)
    · try simp only [sb] at h5
      have hb : ({ x.1 with now := x.1.now + 1 } : SC).toSF.best 0 < 0 := by
        apply Classical.byContradiction
        intro c
        have h9 := hF.1.2 c
        have h8 : (x.1.Q 0).first.2.2 = false := h5
        rw [show ({ x.1 with now := x.1.now + 1 } : SC).Q 0 = x.1.Q 0 from rfl, h8] at h9
        cases h9
      have hwho : SF.who d s.toSF = -1 := by
        unfold SF.who
        rw [← hte]
        exact SF.dsc_no _ _ (by omega) hb
      refine XC.seq ?_
      refine XC.region ?_
      refine XO.v (V.assign rfl) rfl ?_
      refine XO.nil ?_
      refine XE.next ?_
      refine XC.keep [(2, _)] (Sub.cons rfl (Sub.nil _)) ?_
      refine XC.ret ?_
      refine XE.thenRet ?_
      refine XE.ret1 rfl rfl (post_of (.cons .here (.cons .here .nil)) rfl ?_)
      refine ⟨?_, _, ?_, hR1, rfl⟩
      · unfold SF.tick; rw [hwho]; rfl
      · unfold SF.tick; rw [hwho]; exact hte
    · try simp only [sb] at h5
      have hb : ¬ ({ x.1 with now := x.1.now + 1 } : SC).toSF.best 0 < 0 := hF.1.1 h5
      obtain ⟨⟨b1, b2, b3⟩, b4, b5⟩ := SF.best_is hw1 hb
      have hf1 : (x.1.Q 0).first.1 = ({ x.1 with now := x.1.now + 1 } : SC).toSF.best 0 := hF.2 hb
      have hwho : SF.dsc ({ x.1 with now := x.1.now + 1 } : SC).toSF (SF.maxD d 30) (x.1.Q 0).first.1 = SF.who d s.toSF := by
        unfold SF.who
        rw [← hte, SF.dsc_go _ _ (by omega) hb, hf1]
      have hbI := hI1.was _ b1
      have hdb := (hI1.up _ b4 b5 hbI.2.2).2.2.2
      rw [b2] at hdb
      refine XC.skip ?_
      refine XE.next ?_
      refine XC.keep [(0, _), (5, _)] (Sub.cons rfl (Sub.cons rfl (Sub.nil _))) ?_
      refine XC.seq ?_
      refine XC.block ?_
      refine XC.loop (σ := Int) (fun a => SF.maxD d 30 - d a) (fun a => (0 < a ∧ a < 30 ∧ ({ x.1 with now := x.1.now + 1 } : SC).here a = true) ∧ ({ x.1 with now := x.1.now + 1 } : SC).was a = true ∧ (∃ k, SF.maxD d 30 < k + d a ∧ SF.dsc ({ x.1 with now := x.1.now + 1 } : SC).toSF k a = SF.who d s.toSF) ∧ ∃ j, SF.upW ({ x.1 with now := x.1.now + 1 } : SC).toSF j a) (fun a => [(5, .int .i64 a), (0, ptr b o 0)]) (fun a => XM W (foot [.cells b o 2281 (encS s), .fam fam30 (s.rows 86)]) [.cells b o 2281 (encS ({ x.1 with now := x.1.now + 1 } : SC)), .fam fam30 (SC.rows 86 ({ x.1 with now := x.1.now + 1 } : SC))]) ((x.1.Q 0).first.1) ?_ (Sub.cons rfl (Sub.cons rfl (Sub.nil _))) (fun _ hw => XM.pick (.cons .here (.cons .here .nil)) hw) ?_
      · skip
        rw [hf1] at hwho ⊢
        exact ⟨⟨b4, b5, hbI.2.2⟩, b1, ⟨SF.maxD d 30, by omega, hwho⟩, 1, .inr ⟨b1, by show ({ x.1 with now := x.1.now + 1 } : SC).toSF.par _ ≤ 0; rw [b2]; omega⟩⟩
      intro a ha
      obtain ⟨⟨a0, a1, a2⟩, aw, ⟨k, hk, ak⟩, ⟨j, ju⟩⟩ := ha
      refine XC.seq ?_
      refine XC.seq ?_
      refine XC.region ?_
      refine XO.v (V.move rfl) rfl ?_
      refine XO.v (V.cmp rfl rfl rfl) rfl ?_
      refine XO.nil ?_
      refine XE.next ?_
      refine XC.keep [(0, _), (5, _), (67, _)] (Sub.cons rfl (Sub.cons rfl (Sub.cons rfl (Sub.nil _)))) ?_
      refine XC.condP rfl (fun h6 => ?_) (fun h6 => ?_)
      · skip
        have hbs := SF.best_some hI1 hset a0 (by omega) aw
        have hFa := hR1.first hw1 (g := a) (by omega) (by omega)
        have hfa : (x.1.Q a).first.1 = ({ x.1 with now := x.1.now + 1 } : SC).toSF.best a := hFa.2 hbs
        obtain ⟨⟨c1, c2, c3⟩, c4, c5⟩ := SF.best_is hw1 hbs
        have hcI := hI1.was _ c1
        have hdc := (hI1.up _ c4 c5 hcI.2.2).2.2.2
        rw [c2] at hdc
        have hma := SF.maxD_le d 30 a (by omega) (by omega)
        have hmc := SF.maxD_le d 30 _ (Int.le_of_lt c4) c5
        refine XC.skip ?_
        refine XE.next ?_
        refine XC.keep [(0, _), (5, _)] (Sub.cons rfl (Sub.cons rfl (Sub.nil _))) ?_
        refine XC.block ?_
        refine XC.region ?_
        refine XO.v (V.move rfl) rfl ?_
        refine XO.v (V.move rfl) rfl ?_
        refine XO.v (V.nilCheckP rfl) rfl ?_
        refine XO.v (V.fieldAddr rfl fo_65_0) rfl ?_
        refine XO.v (V.indexArr rfl rfl ar_63 (by omega)) rfl ?_
        refine XO.v (V.fieldAddr rfl fo_62_6) rfl ?_
        refine XO.mono (fun _ hw3 => XM.openS (z := a) (by omega) (.cons .here (.cons .here .nil)) hw3) ?_
        refine XO.call rfl (q_First _ _ _ _ _) (.cons .here (.cons .here .nil)) cl_37 rfl ?_
        rintro _ _ ⟨rfl, rfl⟩
        refine XO.mono (fun _ hw3 => XM.closeS0 (z := a) (by omega) (.cons .here (.cons .here (.cons .here (.cons .here (.cons .here .nil))))) hw3) ?_
        refine XO.v (V.move rfl) rfl ?_
        refine XO.v (V.extract rfl rfl) rfl ?_
        refine XO.v (V.extract rfl rfl) rfl ?_
        refine XO.v (V.extract rfl rfl) rfl ?_
        refine XO.v (V.assign rfl) rfl ?_
        refine XO.nil ?_
        refine XE.blockNormal ?_
        refine XE.again ((x.1.Q a).first.1) ?_ ?_ (Sub.cons rfl (Sub.cons rfl (Sub.nil _))) (fun _ hw => XM.pick (.cons .here (.cons .here .nil)) hw)
        · skip
          rw [hfa]; omega
        · skip
          rw [hfa]
          obtain ⟨k2, rfl⟩ : ∃ k2, k = k2 + 1 := ⟨k - 1, by omega⟩
          rw [SF.dsc_go _ _ (by omega) hbs] at ak
          exact ⟨⟨c4, c5, hcI.2.2⟩, c1, ⟨k2, by omega, ak⟩, j + 1, .inr ⟨c1, by rw [c2]; exact ju⟩⟩
      · skip
        have hae : a = SF.who d s.toSF := by
          rw [SF.dsc_end _ _ (by omega)] at ak
          exact ak
        have htk : s.toSF.tick d = (a - 10, SF.chgF (d a + 1) ({ x.1 with now := x.1.now + 1 } : SC).toSF a) := by
          unfold SF.tick
          rw [← hae, if_neg (by omega), hte]
        have hda := hD a (by omega) a1
        refine XC.exit ?_
        refine XE.thenExit ?_
        refine XE.thenExit ?_
        refine XE.blockExit ?_
        refine XE.next ?_
        refine XC.keep [(0, _), (5, _)] (Sub.cons rfl (Sub.cons rfl (Sub.nil _))) ?_
        refine XC.seq ?_
        refine XC.seq ?_
        refine XC.region ?_
        refine XO.v (V.move rfl) rfl ?_
        refine XO.v (V.assign rfl) rfl ?_
        refine XO.nil ?_
        refine XE.next ?_
        refine XC.keep [(0, _), (5, _), (8, _)] (Sub.cons rfl (Sub.cons rfl (Sub.cons rfl (Sub.nil _)))) ?_
        refine XC.block ?_
        refine XC.loop (σ := SC × Int) (fun y => if y.2 = 0 then 0 else d y.2 + 1) (fun y => y.1.Rep ∧ y.1.toSF.Inv d ∧ (y.2 = 0 ∨ (0 < y.2 ∧ y.2 < 30 ∧ y.1.here y.2 = true)) ∧ y.1.toSF.Small (Bd + 1048577 * ((d a : Int) - (d y.2 : Int))) ∧ d y.2 ≤ d a ∧ (∃ k, d y.2 + 1 ≤ k ∧ SF.chgF k y.1.toSF y.2 = (s.toSF.tick d).2) ∧ ∃ j, SF.upW y.1.toSF j y.2) (fun y => [(8, .int .i64 y.2), (0, ptr b o 0), (5, .int .i64 a)]) (fun y => XM W (foot [.cells b o 2281 (encS s), .fam fam30 (s.rows 86)]) [.cells b o 2281 (encS y.1), .fam fam30 (SC.rows 86 y.1)]) ((({ x.1 with now := x.1.now + 1 } : SC), a)) ?_ (Sub.cons rfl (Sub.cons rfl (Sub.cons rfl (Sub.nil _)))) (fun _ hw => XM.pick (.cons .here (.cons .here .nil)) hw) ?_
        · skip
          exact ⟨hR1, hI1, .inr ⟨a0, a1, a2⟩, hS1.mono (by simp), Nat.le_refl _, ⟨d a + 1, Nat.le_refl _, by rw [htk]⟩, j, ju⟩
        intro y hy
        obtain ⟨yR, yI, yn, yS, yd, ⟨yk, hyk, yl⟩, ⟨j, yu⟩⟩ := hy
        refine XC.seq ?_
        refine XC.seq ?_
        refine XC.region ?_
        refine XO.v (V.move rfl) rfl ?_
        refine XO.v (V.cmp rfl rfl rfl) rfl ?_
        refine XO.nil ?_
        refine XE.next ?_
        refine XC.keep [(0, _), (5, _), (8, _), (81, _)] (Sub.cons rfl (Sub.cons rfl (Sub.cons rfl (Sub.cons rfl (Sub.nil _))))) ?_
        refine XC.condP rfl (fun h7 => ?_) (fun h7 => ?_)
        · skip
          obtain ⟨y0, y1, y2⟩ := yn.resolve_left (by omega)
          obtain ⟨p0, pp1, p2, p3⟩ := yI.up y.2 y0 y1 y2
          obtain ⟨k2, rfl⟩ : ∃ k2, yk = k2 + 1 := ⟨yk - 1, by omega⟩
          rw [SF.chgF_go _ _ y0] at yl
          obtain ⟨ywn, yu2⟩ : y.1.toSF.was y.2 = true ∧ ∃ j, SF.upW y.1.toSF j (y.1.toSF.par y.2) := by
            cases j with
            | zero => have : y.2 ≤ 0 := yu; omega
            | succ j =>
              rcases yu with q | ⟨q1, q2⟩
              · omega
              · exact ⟨q1, j, q2⟩
          have hdy := hD y.2 (by omega) y1
          refine XC.skip ?_
          refine XE.next ?_
          refine XC.keep [(0, _), (5, _), (8, _)] (Sub.cons rfl (Sub.cons rfl (Sub.cons rfl (Sub.nil _)))) ?_
          refine XC.seq ?_
          refine XC.block ?_
          refine XC.region ?_
          refine XO.v (V.move rfl) rfl ?_
          refine XO.v (V.move rfl) rfl ?_
          refine XO.call rfl (f_charge _ _ _ d yI yR (Bd + 1048577 * ((d a : Int) - (d y.2 : Int))) (by omega) yS _ ⟨y0, y1, y2⟩ ywn) (.cons .here (.cons .here .nil)) cl_38 rfl ?_
          rintro _ _ ⟨rfl, t, tl, tR, rfl⟩
          refine XO.nil ?_
          refine XE.blockNormal ?_
          refine XE.next ?_
          refine XC.keep [(0, _), (5, _), (8, _)] (Sub.cons rfl (Sub.cons rfl (Sub.cons rfl (Sub.nil _)))) ?_
          refine XC.region ?_
          have htp : t.par y.2 = y.1.toSF.par y.2 := by show t.toSF.par y.2 = _; rw [tl]; rfl
          refine XO.v (V.move rfl) rfl ?_
          refine XO.v (V.move rfl) rfl ?_
          refine XO.v (V.nilCheckP rfl) rfl ?_
          refine XO.v (V.fieldAddr rfl fo_65_0) rfl ?_
          refine XO.v (V.indexArr rfl rfl ar_63 (by omega)) rfl ?_
          refine XO.v (V.fieldAddr rfl fo_62_1) rfl ?_
          refine XO.v (V.load rfl (inXM .here) (encS.ld_u_parent _ _ (by omega)) sc_3) rfl ?_
          refine XO.v (V.assign rfl) rfl ?_
          refine XO.nil ?_
          refine XE.again ((t, y.1.toSF.par y.2)) ?_ ?_ (Sub.cons (eqi htp) (Sub.cons rfl (Sub.cons rfl (Sub.nil _)))) (fun _ hw => XM.pick (.cons .here (.cons .here .nil)) hw)
          · skip
            show (if y.1.toSF.par y.2 = 0 then 0 else d (y.1.toSF.par y.2) + 1) < (if y.2 = 0 then 0 else d y.2 + 1)
            rw [if_neg (show ¬ y.2 = 0 by omega)]
            split <;> omega
          · skip
            have hpn : y.1.toSF.par y.2 = 0 ∨ (0 < y.1.toSF.par y.2 ∧ y.1.toSF.par y.2 < 30 ∧ y.1.toSF.here (y.1.toSF.par y.2) = true) := by
              by_cases c : y.1.toSF.par y.2 = 0
              · exact .inl c
              · exact .inr ⟨by omega, by omega, p2⟩
            obtain ⟨j2, yu3⟩ := yu2
            refine ⟨tR, by show t.toSF.Inv d; rw [tl]; exact yI.chg y0 y1 y2, ?_, ?_, by show d (y.1.toSF.par y.2) ≤ d a; omega, ⟨k2, by show d (y.1.toSF.par y.2) + 1 ≤ k2; omega, by show SF.chgF k2 t.toSF (y.1.toSF.par y.2) = _; rw [tl]; exact yl⟩, j2, by show SF.upW t.toSF j2 (y.1.toSF.par y.2); rw [tl]; exact SF.upW_chg yI j2 _ hpn p3 yu3⟩
            · show y.1.toSF.par y.2 = 0 ∨ (0 < y.1.toSF.par y.2 ∧ y.1.toSF.par y.2 < 30 ∧ t.toSF.here (y.1.toSF.par y.2) = true)
              rw [tl]; exact hpn
            · show t.toSF.Small (Bd + 1048577 * ((d a : Int) - (d (y.1.toSF.par y.2) : Int)))
              rw [tl]
              exact (SF.Small.chg yI yS y0 y1 y2).mono (by omega)
        · skip
          refine XC.exit ?_
          refine XE.thenExit ?_
          refine XE.thenExit ?_
          refine XE.blockExit ?_
          refine XE.next ?_
          refine XC.keep [(5, _)] (Sub.cons rfl (Sub.nil _)) ?_
          refine XC.seq ?_
          refine XC.region ?_
          refine XO.v (V.move rfl) rfl ?_
          refine XO.v (V.sub rfl rfl _ (IntWalk.i64_in _ (by omega))) rfl ?_
          refine XO.v (V.assign rfl) rfl ?_
          refine XO.nil ?_
          refine XE.next ?_
          refine XC.keep [(2, _)] (Sub.cons rfl (Sub.nil _)) ?_
          refine XC.ret ?_
          refine XE.ret1 rfl rfl (post_of (.cons .here (.cons .here .nil)) rfl ?_)
          have hy0 : y.2 = 0 := by
            rcases yn with q | q
            · exact q
            · omega
          rw [hy0, SF.chgF_stop _ _ (by omega)] at yl
          exact ⟨by rw [htk], y.1, yl, yR, rfl⟩
end Go.X
