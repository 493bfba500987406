import Derived.Test.YtfpdkhncfkefhaaFR2
namespace Go.X
open Go Go.Proofs
theorem fo_38_1 : fieldOff Try.prog 38 1 = some 360 := by kernel_rfl
set_option maxRecDepth 10000 in
set_option maxHeartbeats 4000000 in
theorem r_Tick (b o : Nat) (s : SF) (d : Int → Nat) (hI : s.Inv d) (hD : ∀ n, 0 ≤ n → n < 30 → d n ≤ 1000) (Bd : Int) (hB : 0 ≤ Bd ∧ Bd ≤ 100000000000000) (hS : s.Small Bd) (hnow : 0 ≤ s.now ∧ s.now ≤ Bd) : Spec Try.prog 33 [ptr b o 0]
    [.cells b o 361 (encR s)]
    (fun v H1 => v = .int .i64 (s.tick d).1 ∧ H1 = [.cells b o 361 (encR (s.tick d).2)]) := by
  refine Spec.intro Try.func33 rfl rfl ?_
  intro W
  refine XC.seq ?_
  refine XC.region ?_
  refine XO.v (V.assign rfl) rfl ?_
  refine XO.nil ?_
  refine XE.next ?_
  refine XC.keep [(0, _)] (Sub.cons rfl (Sub.nil _)) ?_
  refine XC.seq ?_
  refine XC.seq ?_
  refine XC.region ?_
  refine XO.v (V.assign rfl) rfl ?_
  refine XO.nil ?_
  refine XE.next ?_
  refine XC.keep [(0, _), (3, _)] (Sub.cons rfl (Sub.cons rfl (Sub.nil _))) ?_
  refine XC.block ?_
  refine XC.loop (σ := SF × Int) (fun x => (10 - x.2).toNat) (fun x => x.1.Inv d ∧ (1 ≤ x.2 ∧ x.2 ≤ 10) ∧ x.1 = s.refN d (x.2 - 1).toNat ∧ x.1.now = s.now ∧ x.1.Small Bd) (fun x => [(3, .int .i64 x.2), (0, ptr b o 0)]) (fun x => XM W (foot [.cells b o 361 (encR s)]) [.cells b o 361 (encR x.1)]) ((s, 1)) ?_ (Sub.cons rfl (Sub.cons rfl (Sub.nil _))) (fun _ hw => XM.pick (.cons .here .nil) hw) ?_
  · skip
    exact ⟨hI, by simp, rfl, rfl, hS⟩
  intro x hx
  obtain ⟨xI, hx1, hxe, hxn, xS⟩ := hx
  refine XC.seq ?_
  refine XC.seq ?_
  refine XC.region ?_
  refine XO.v (V.move rfl) rfl ?_
  refine XO.v (V.cmp rfl rfl rfl) rfl ?_
  refine XO.nil ?_
  refine XE.next ?_
  refine XC.keep [(0, _), (3, _), (12, _)] (Sub.cons rfl (Sub.cons rfl (Sub.cons rfl (Sub.nil _)))) ?_
  refine XC.condP rfl (fun h1 => ?_) (fun h1 => ?_)
  · skip
    have hqx := xI.quo x.2 (by omega) (by omega)
    refine XC.skip ?_
    refine XE.next ?_
    refine XC.keep [(0, _), (3, _)] (Sub.cons rfl (Sub.cons rfl (Sub.nil _))) ?_
    refine XC.seq ?_
    refine XC.block ?_
    refine XC.seq ?_
    refine XC.regionQ mixed (f := 32) (l := #[false, false, false, false, false, false, false, false, false, false, false, false, false, false, false, false, false, false, false, false, false, false, false, false, false, false, false, false, false, false, false, false]) rfl rfl XM.drawn' ?_
    refine XQ.pv (i := 0) (l' := #[true, false, false, false, false, false, false, false, false, false, false, false, false, false, false, false, false, false, false, false, false, false, false, false, false, false, false, false, false, false, false, false]) rfl (by kernel_rfl) rfl (V.move rfl) rfl rfl ?_
    refine XQ.pv (i := 1) (l' := #[true, true, false, false, false, false, false, false, false, false, false, false, false, false, false, false, false, false, false, false, false, false, false, false, false, false, false, false, false, false, false, false]) rfl (by kernel_rfl) rfl (V.move rfl) rfl rfl ?_
    refine XQ.pv (i := 2) (l' := #[true, true, true, false, false, false, false, false, false, false, false, false, false, false, false, false, false, false, false, false, false, false, false, false, false, false, false, false, false, false, false, false]) rfl (by kernel_rfl) rfl (V.nilCheckP rfl) rfl rfl ?_
    refine XQ.pv (i := 3) (l' := #[true, true, true, true, false, false, false, false, false, false, false, false, false, false, false, false, false, false, false, false, false, false, false, false, false, false, false, false, false, false, false, false]) rfl (by kernel_rfl) rfl (V.fieldAddr rfl fo_38_0) rfl rfl ?_
    refine XQ.pv (i := 4) (l' := #[true, true, true, true, true, false, false, false, false, false, false, false, false, false, false, false, false, false, false, false, false, false, false, false, false, false, false, false, false, false, false, false]) rfl (by kernel_rfl) rfl (V.indexArr rfl rfl ar_36 (by omega)) rfl rfl ?_
    refine XQ.pv (i := 5) (l' := #[true, true, true, true, true, true, false, false, false, false, false, false, false, false, false, false, false, false, false, false, false, false, false, false, false, false, false, false, false, false, false, false]) rfl (by kernel_rfl) rfl (V.fieldAddr rfl fo_35_0) rfl rfl ?_
    refine XQ.load (i := 6) (l' := #[true, true, true, true, true, true, true, false, false, false, false, false, false, false, false, false, false, false, false, false, false, false, false, false, false, false, false, false, false, false, false, false]) (.cells _ _ _ _) [] rfl (by kernel_rfl) rfl .here (V.load rfl inEnt (encR.ld_U_Here _ _ (by omega)) sc_4) rfl (by kernel_rfl) rfl ?_
    refine XQ.pv (i := 7) (l' := #[true, true, true, true, true, true, true, true, false, false, false, false, false, false, false, false, false, false, false, false, false, false, false, false, false, false, false, false, false, false, false, false]) rfl (by kernel_rfl) rfl (V.move rfl) rfl rfl ?_
    refine XQ.split (d := 22) rfl (fun h2 => ?_) (fun h2 => ?_)
    · try simp only [sb] at h2
      have hhr : x.1.here x.2 = true := h2
      refine XQ.pvG (i := 8) (l' := #[true, true, true, true, true, true, true, true, true, false, false, false, false, false, false, false, false, false, false, false, false, false, false, false, false, false, false, false, false, false, false, false]) rfl rfl rfl (by kernel_rfl) rfl (V.move rfl) rfl rfl ?_
      refine XQ.pvG (i := 9) (l' := #[true, true, true, true, true, true, true, true, true, true, false, false, false, false, false, false, false, false, false, false, false, false, false, false, false, false, false, false, false, false, false, false]) rfl rfl rfl (by kernel_rfl) rfl (V.move rfl) rfl rfl ?_
      refine XQ.pvG (i := 10) (l' := #[true, true, true, true, true, true, true, true, true, true, true, false, false, false, false, false, false, false, false, false, false, false, false, false, false, false, false, false, false, false, false, false]) rfl rfl rfl (by kernel_rfl) rfl (V.nilCheckP rfl) rfl rfl ?_
      refine XQ.pvG (i := 11) (l' := #[true, true, true, true, true, true, true, true, true, true, true, true, false, false, false, false, false, false, false, false, false, false, false, false, false, false, false, false, false, false, false, false]) rfl rfl rfl (by kernel_rfl) rfl (V.fieldAddr rfl fo_38_0) rfl rfl ?_
      refine XQ.pvG (i := 12) (l' := #[true, true, true, true, true, true, true, true, true, true, true, true, true, false, false, false, false, false, false, false, false, false, false, false, false, false, false, false, false, false, false, false]) rfl rfl rfl (by kernel_rfl) rfl (V.indexArr rfl rfl ar_36 (by omega)) rfl rfl ?_
      refine XQ.pvG (i := 13) (l' := #[true, true, true, true, true, true, true, true, true, true, true, true, true, true, false, false, false, false, false, false, false, false, false, false, false, false, false, false, false, false, false, false]) rfl rfl rfl (by kernel_rfl) rfl (V.fieldAddr rfl fo_35_9) rfl rfl ?_
      refine XQ.loadG (i := 14) (l' := #[true, true, true, true, true, true, true, true, true, true, true, true, true, true, true, false, false, false, false, false, false, false, false, false, false, false, false, false, false, false, false, false]) (.cells _ _ _ _) [] rfl rfl rfl (by kernel_rfl) rfl .here (V.load rfl inEnt (encR.ld_U_Quota _ _ (by omega)) sc_3) rfl (by kernel_rfl) rfl ?_
      refine XQ.pvG (i := 15) (l' := #[true, true, true, true, true, true, true, true, true, true, true, true, true, true, true, true, false, false, false, false, false, false, false, false, false, false, false, false, false, false, false, false]) rfl rfl rfl (by kernel_rfl) rfl (V.cmp rfl rfl rfl) rfl rfl ?_
      refine XQ.pv (i := 16) (l' := #[true, true, true, true, true, true, true, true, true, true, true, true, true, true, true, true, true, false, false, false, false, false, false, false, false, false, false, false, false, false, false, false]) rfl (by kernel_rfl) rfl (V.pick rfl rfl rfl rfl) rfl rfl ?_
      refine XQ.pv (i := 17) (l' := #[true, true, true, true, true, true, true, true, true, true, true, true, true, true, true, true, true, true, false, false, false, false, false, false, false, false, false, false, false, false, false, false]) rfl (by kernel_rfl) rfl (V.move rfl) rfl rfl ?_
      refine XQ.splitP (d := 32) rfl (fun h3 => ?_) (fun h3 => ?_)
      · skip
        refine XQ.pvG (i := 18) (l' := #[true, true, true, true, true, true, true, true, true, true, true, true, true, true, true, true, true, true, true, false, false, false, false, false, false, false, false, false, false, false, false, false]) rfl rfl rfl (by kernel_rfl) rfl (V.move rfl) rfl rfl ?_
        refine XQ.pvG (i := 19) (l' := #[true, true, true, true, true, true, true, true, true, true, true, true, true, true, true, true, true, true, true, true, false, false, false, false, false, false, false, false, false, false, false, false]) rfl rfl rfl (by kernel_rfl) rfl (V.nilCheckP rfl) rfl rfl ?_
        refine XQ.pvG (i := 20) (l' := #[true, true, true, true, true, true, true, true, true, true, true, true, true, true, true, true, true, true, true, true, true, false, false, false, false, false, false, false, false, false, false, false]) rfl rfl rfl (by kernel_rfl) rfl (V.fieldAddr rfl fo_38_1) rfl rfl ?_
        refine XQ.loadG (i := 21) (l' := #[true, true, true, true, true, true, true, true, true, true, true, true, true, true, true, true, true, true, true, true, true, true, false, false, false, false, false, false, false, false, false, false]) (.cells _ _ _ _) [] rfl rfl rfl (by kernel_rfl) rfl .here (V.load rfl inEnt (encR.ld_Now _) sc_3) rfl (by kernel_rfl) rfl ?_
        refine XQ.pvG (i := 22) (l' := #[true, true, true, true, true, true, true, true, true, true, true, true, true, true, true, true, true, true, true, true, true, true, true, false, false, false, false, false, false, false, false, false]) rfl rfl rfl (by kernel_rfl) rfl (V.move rfl) rfl rfl ?_
        refine XQ.pvG (i := 23) (l' := #[true, true, true, true, true, true, true, true, true, true, true, true, true, true, true, true, true, true, true, true, true, true, true, true, false, false, false, false, false, false, false, false]) rfl rfl rfl (by kernel_rfl) rfl (V.move rfl) rfl rfl ?_
        refine XQ.pvG (i := 24) (l' := #[true, true, true, true, true, true, true, true, true, true, true, true, true, true, true, true, true, true, true, true, true, true, true, true, true, false, false, false, false, false, false, false]) rfl rfl rfl (by kernel_rfl) rfl (V.nilCheckP rfl) rfl rfl ?_
        refine XQ.pvG (i := 25) (l' := #[true, true, true, true, true, true, true, true, true, true, true, true, true, true, true, true, true, true, true, true, true, true, true, true, true, true, false, false, false, false, false, false]) rfl rfl rfl (by kernel_rfl) rfl (V.fieldAddr rfl fo_38_0) rfl rfl ?_
        refine XQ.pvG (i := 26) (l' := #[true, true, true, true, true, true, true, true, true, true, true, true, true, true, true, true, true, true, true, true, true, true, true, true, true, true, true, false, false, false, false, false]) rfl rfl rfl (by kernel_rfl) rfl (V.indexArr rfl rfl ar_36 (by omega)) rfl rfl ?_
        refine XQ.pvG (i := 27) (l' := #[true, true, true, true, true, true, true, true, true, true, true, true, true, true, true, true, true, true, true, true, true, true, true, true, true, true, true, true, false, false, false, false]) rfl rfl rfl (by kernel_rfl) rfl (V.fieldAddr rfl fo_35_10) rfl rfl ?_
        refine XQ.loadG (i := 28) (l' := #[true, true, true, true, true, true, true, true, true, true, true, true, true, true, true, true, true, true, true, true, true, true, true, true, true, true, true, true, true, false, false, false]) (.cells _ _ _ _) [] rfl rfl rfl (by kernel_rfl) rfl .here (V.load rfl inEnt (encR.ld_U_Period _ _ (by omega)) sc_3) rfl (by kernel_rfl) rfl ?_
        refine XQ.pvG (i := 29) (l' := #[true, true, true, true, true, true, true, true, true, true, true, true, true, true, true, true, true, true, true, true, true, true, true, true, true, true, true, true, true, true, false, false]) rfl rfl rfl (by kernel_rfl) rfl (V.rem rfl rfl (by first | decide | omega) _ (Int.tmod_eq_emod_of_nonneg (by omega))) rfl rfl ?_
        refine XQ.pvG (i := 30) (l' := #[true, true, true, true, true, true, true, true, true, true, true, true, true, true, true, true, true, true, true, true, true, true, true, true, true, true, true, true, true, true, true, false]) rfl rfl rfl (by kernel_rfl) rfl (V.cmp rfl rfl rfl) rfl rfl ?_
        refine XQ.pv (i := 31) (l' := #[true, true, true, true, true, true, true, true, true, true, true, true, true, true, true, true, true, true, true, true, true, true, true, true, true, true, true, true, true, true, true, true]) rfl (by kernel_rfl) rfl (V.pick rfl rfl rfl rfl) rfl rfl ?_
        refine XQ.done (by kernel_rfl) ?_
        refine XE.next ?_
        refine XC.keep [(0, _), (3, _), (46, _)] (Sub.cons rfl (Sub.cons rfl (Sub.cons rfl (Sub.nil _)))) ?_
        refine XC.condP rfl (fun h4 => ?_) (fun h4 => ?_)
        · skip
          refine XC.seq ?_
          refine XC.region ?_
          refine XO.v (V.move rfl) rfl ?_
          refine XO.v (V.move rfl) rfl ?_
          refine XO.v (V.nilCheckP rfl) rfl ?_
          refine XO.v (V.fieldAddr rfl fo_38_0) rfl ?_
          refine XO.v (V.indexArr rfl rfl ar_36 (by omega)) rfl ?_
          refine XO.v (V.fieldAddr rfl fo_35_11) rfl ?_
          refine XO.store rfl rfl .here (encR.st_U_Used _ _ (by omega) _) rfl sz_3_1 ?_
          refine XO.nil ?_
          refine XE.next ?_
          refine XC.keep [(0, _), (3, _)] (Sub.cons rfl (Sub.cons rfl (Sub.nil _))) ?_
          refine XC.region ?_
          refine XO.v (V.move rfl) rfl ?_
          refine XO.v (V.move rfl) rfl ?_
          refine XO.call rfl (r_look _ _ ({ x.1 with used := fset x.1.used x.2 0 } : SF) d ⟨xI.h0, xI.up, xI.was, xI.quo, xI.wt⟩ _ (.inr ⟨by omega, by omega, hhr⟩)) (.cons .here .nil) cl_41 rfl ?_
          rintro _ _ ⟨rfl, rfl⟩
          refine XO.nil ?_
          refine XE.blockNormal ?_
          refine XE.next ?_
          refine XC.keep [(0, _), (3, _)] (Sub.cons rfl (Sub.cons rfl (Sub.nil _))) ?_
          refine XC.region ?_
          refine XO.v (V.move rfl) rfl ?_
          refine XO.v (V.add rfl rfl _ (IntWalk.i64_in _ (by omega))) rfl ?_
          refine XO.v (V.assign rfl) rfl ?_
          refine XO.nil ?_
          refine XE.again ((SF.look d ({ x.1 with used := fset x.1.used x.2 0 } : SF) x.2, x.2 + 1)) ?_ ?_ (Sub.cons rfl (Sub.cons rfl (Sub.nil _))) (fun _ hw => XM.pick (.cons .here .nil) hw)
          · skip
            (simp; omega)
          · skip
            refine ⟨?_, by simp; omega, ?_, ?_, ?_⟩
            · exact SF.look_inv (s := ({ x.1 with used := fset x.1.used x.2 0 } : SF)) ⟨xI.h0, xI.up, xI.was, xI.quo, xI.wt⟩ (.inr ⟨by omega, by omega, hhr⟩)
            · show _ = s.refN d (x.2 + 1 - 1).toNat
              rw [SF.refN_go hx1.1 hxe ⟨hhr, by assumption, by assumption⟩]
            · exact (SF.lookF_keeps _ _ _).2.2.2.2.2.2.2.2.2.2.trans hxn
            · exact SF.Small.lookF _ ({ x.1 with used := fset x.1.used x.2 0 } : SF) _ ⟨xI.h0, xI.up, xI.was, xI.quo, xI.wt⟩ (xS.used hB.1 x.2) (.inr ⟨by omega, by omega, hhr⟩)
        · skip
          refine XC.skip ?_
          refine XE.blockNormal ?_
          refine XE.next ?_
          refine XC.keep [(0, _), (3, _)] (Sub.cons rfl (Sub.cons rfl (Sub.nil _))) ?_
          refine XC.region ?_
          refine XO.v (V.move rfl) rfl ?_
          refine XO.v (V.add rfl rfl _ (IntWalk.i64_in _ (by omega))) rfl ?_
          refine XO.v (V.assign rfl) rfl ?_
          refine XO.nil ?_
          refine XE.again ((x.1, x.2 + 1)) ?_ ?_ (Sub.cons rfl (Sub.cons rfl (Sub.nil _))) (fun _ hw => XM.pick (.cons .here .nil) hw)
          · skip
            (simp; omega)
          · skip
            refine ⟨xI, by simp; omega, ?_, hxn, xS⟩
            show x.1 = s.refN d (x.2 + 1 - 1).toNat
            rw [SF.refN_no hx1.1 hxe]
            rintro ⟨q1, q2, q3⟩
            first
            | omega
            | (rw [hhr] at q1; cases q1)
      · skip
        refine XQ.skip (i := 18) (l' := #[true, true, true, true, true, true, true, true, true, true, true, true, true, true, true, true, true, true, true, false, false, false, false, false, false, false, false, false, false, false, false, false]) rfl rfl rfl rfl rfl (by kernel_rfl) rfl rfl rfl ?_
        refine XQ.skip (i := 19) (l' := #[true, true, true, true, true, true, true, true, true, true, true, true, true, true, true, true, true, true, true, true, false, false, false, false, false, false, false, false, false, false, false, false]) rfl rfl rfl rfl rfl (by kernel_rfl) rfl rfl rfl ?_
        refine XQ.skip (i := 20) (l' := #[true, true, true, true, true, true, true, true, true, true, true, true, true, true, true, true, true, true, true, true, true, false, false, false, false, false, false, false, false, false, false, false]) rfl rfl rfl rfl rfl (by kernel_rfl) rfl rfl rfl ?_
        refine XQ.skip (i := 21) (l' := #[true, true, true, true, true, true, true, true, true, true, true, true, true, true, true, true, true, true, true, true, true, true, false, false, false, false, false, false, false, false, false, false]) rfl rfl rfl rfl rfl (by kernel_rfl) rfl rfl rfl ?_
        refine XQ.skip (i := 22) (l' := #[true, true, true, true, true, true, true, true, true, true, true, true, true, true, true, true, true, true, true, true, true, true, true, false, false, false, false, false, false, false, false, false]) rfl rfl rfl rfl rfl (by kernel_rfl) rfl rfl rfl ?_
        refine XQ.skip (i := 23) (l' := #[true, true, true, true, true, true, true, true, true, true, true, true, true, true, true, true, true, true, true, true, true, true, true, true, false, false, false, false, false, false, false, false]) rfl rfl rfl rfl rfl (by kernel_rfl) rfl rfl rfl ?_
        refine XQ.skip (i := 24) (l' := #[true, true, true, true, true, true, true, true, true, true, true, true, true, true, true, true, true, true, true, true, true, true, true, true, true, false, false, false, false, false, false, false]) rfl rfl rfl rfl rfl (by kernel_rfl) rfl rfl rfl ?_
        refine XQ.skip (i := 25) (l' := #[true, true, true, true, true, true, true, true, true, true, true, true, true, true, true, true, true, true, true, true, true, true, true, true, true, true, false, false, false, false, false, false]) rfl rfl rfl rfl rfl (by kernel_rfl) rfl rfl rfl ?_
        refine XQ.skip (i := 26) (l' := #[true, true, true, true, true, true, true, true, true, true, true, true, true, true, true, true, true, true, true, true, true, true, true, true, true, true, true, false, false, false, false, false]) rfl rfl rfl rfl rfl (by kernel_rfl) rfl rfl rfl ?_
        refine XQ.skip (i := 27) (l' := #[true, true, true, true, true, true, true, true, true, true, true, true, true, true, true, true, true, true, true, true, true, true, true, true, true, true, true, true, false, false, false, false]) rfl rfl rfl rfl rfl (by kernel_rfl) rfl rfl rfl ?_
        refine XQ.skip (i := 28) (l' := #[true, true, true, true, true, true, true, true, true, true, true, true, true, true, true, true, true, true, true, true, true, true, true, true, true, true, true, true, true, false, false, false]) rfl rfl rfl rfl rfl (by kernel_rfl) rfl rfl rfl ?_
        refine XQ.skip (i := 29) (l' := #[true, true, true, true, true, true, true, true, true, true, true, true, true, true, true, true, true, true, true, true, true, true, true, true, true, true, true, true, true, true, false, false]) rfl rfl rfl rfl rfl (by kernel_rfl) rfl rfl rfl ?_
        refine XQ.skip (i := 30) (l' := #[true, true, true, true, true, true, true, true, true, true, true, true, true, true, true, true, true, true, true, true, true, true, true, true, true, true, true, true, true, true, true, false]) rfl rfl rfl rfl rfl (by kernel_rfl) rfl rfl rfl ?_
        refine XQ.pv (i := 31) (l' := #[true, true, true, true, true, true, true, true, true, true, true, true, true, true, true, true, true, true, true, true, true, true, true, true, true, true, true, true, true, true, true, true]) rfl (by kernel_rfl) rfl (V.pick rfl rfl rfl rfl) rfl rfl ?_
        refine XQ.done (by kernel_rfl) ?_
        refine XE.next ?_
        refine XC.keep [(0, _), (3, _), (46, _)] (Sub.cons rfl (Sub.cons rfl (Sub.cons rfl (Sub.nil _)))) ?_
        refine XC.condF rfl rfl ?_
        refine XC.skip ?_
        refine XE.blockNormal ?_
        refine XE.next ?_
        refine XC.keep [(0, _), (3, _)] (Sub.cons rfl (Sub.cons rfl (Sub.nil _))) ?_
        refine XC.region ?_
        refine XO.v (V.move rfl) rfl ?_
        refine XO.v (V.add rfl rfl _ (IntWalk.i64_in _ (by omega))) rfl ?_
        refine XO.v (V.assign rfl) rfl ?_
        refine XO.nil ?_
        refine XE.again ((x.1, x.2 + 1)) ?_ ?_ (Sub.cons rfl (Sub.cons rfl (Sub.nil _))) (fun _ hw => XM.pick (.cons .here .nil) hw)
        · skip
          (simp; omega)
        · skip
          refine ⟨xI, by simp; omega, ?_, hxn, xS⟩
          show x.1 = s.refN d (x.2 + 1 - 1).toNat
          rw [SF.refN_no hx1.1 hxe]
          rintro ⟨q1, q2, q3⟩
          first
          | omega
          | (rw [hhr] at q1; cases q1)
    · try simp only [sb] at h2
      have hhr : x.1.here x.2 = false := h2
      refine XQ.skip (i := 8) (l' := #[true, true, true, true, true, true, true, true, true, false, false, false, false, false, false, false, false, false, false, false, false, false, false, false, false, false, false, false, false, false, false, false]) rfl rfl rfl rfl rfl (by kernel_rfl) rfl rfl rfl ?_
      refine XQ.skip (i := 9) (l' := #[true, true, true, true, true, true, true, true, true, true, false, false, false, false, false, false, false, false, false, false, false, false, false, false, false, false, false, false, false, false, false, false]) rfl rfl rfl rfl rfl (by kernel_rfl) rfl rfl rfl ?_
      refine XQ.skip (i := 10) (l' := #[true, true, true, true, true, true, true, true, true, true, true, false, false, false, false, false, false, false, false, false, false, false, false, false, false, false, false, false, false, false, false, false]) rfl rfl rfl rfl rfl (by kernel_rfl) rfl rfl rfl ?_
      refine XQ.skip (i := 11) (l' := #[true, true, true, true, true, true, true, true, true, true, true, true, false, false, false, false, false, false, false, false, false, false, false, false, false, false, false, false, false, false, false, false]) rfl rfl rfl rfl rfl (by kernel_rfl) rfl rfl rfl ?_
      refine XQ.skip (i := 12) (l' := #[true, true, true, true, true, true, true, true, true, true, true, true, true, false, false, false, false, false, false, false, false, false, false, false, false, false, false, false, false, false, false, false]) rfl rfl rfl rfl rfl (by kernel_rfl) rfl rfl rfl ?_
      refine XQ.skip (i := 13) (l' := #[true, true, true, true, true, true, true, true, true, true, true, true, true, true, false, false, false, false, false, false, false, false, false, false, false, false, false, false, false, false, false, false]) rfl rfl rfl rfl rfl (by kernel_rfl) rfl rfl rfl ?_
      refine XQ.skip (i := 14) (l' := #[true, true, true, true, true, true, true, true, true, true, true, true, true, true, true, false, false, false, false, false, false, false, false, false, false, false, false, false, false, false, false, false]) rfl rfl rfl rfl rfl (by kernel_rfl) rfl rfl rfl ?_
      refine XQ.skip (i := 15) (l' := #[true, true, true, true, true, true, true, true, true, true, true, true, true, true, true, true, false, false, false, false, false, false, false, false, false, false, false, false, false, false, false, false]) rfl rfl rfl rfl rfl (by kernel_rfl) rfl rfl rfl ?_
      refine XQ.pv (i := 16) (l' := #[true, true, true, true, true, true, true, true, true, true, true, true, true, true, true, true, true, false, false, false, false, false, false, false, false, false, false, false, false, false, false, false]) rfl (by kernel_rfl) rfl (V.pick rfl rfl rfl rfl) rfl rfl ?_
      refine XQ.pv (i := 17) (l' := #[true, true, true, true, true, true, true, true, true, true, true, true, true, true, true, true, true, true, false, false, false, false, false, false, false, false, false, false, false, false, false, false]) rfl (by kernel_rfl) rfl (V.move rfl) rfl rfl ?_
      refine XQ.skip (i := 18) (l' := #[true, true, true, true, true, true, true, true, true, true, true, true, true, true, true, true, true, true, true, false, false, false, false, false, false, false, false, false, false, false, false, false]) rfl rfl rfl rfl rfl (by kernel_rfl) rfl rfl rfl ?_
      refine XQ.skip (i := 19) (l' := #[true, true, true, true, true, true, true, true, true, true, true, true, true, true, true, true, true, true, true, true, false, false, false, false, false, false, false, false, false, false, false, false]) rfl rfl rfl rfl rfl (by kernel_rfl) rfl rfl rfl ?_
      refine XQ.skip (i := 20) (l' := #[true, true, true, true, true, true, true, true, true, true, true, true, true, true, true, true, true, true, true, true, true, false, false, false, false, false, false, false, false, false, false, false]) rfl rfl rfl rfl rfl (by kernel_rfl) rfl rfl rfl ?_
      refine XQ.skip (i := 21) (l' := #[true, true, true, true, true, true, true, true, true, true, true, true, true, true, true, true, true, true, true, true, true, true, false, false, false, false, false, false, false, false, false, false]) rfl rfl rfl rfl rfl (by kernel_rfl) rfl rfl rfl ?_
      refine XQ.skip (i := 22) (l' := #[true, true, true, true, true, true, true, true, true, true, true, true, true, true, true, true, true, true, true, true, true, true, true, false, false, false, false, false, false, false, false, false]) rfl rfl rfl rfl rfl (by kernel_rfl) rfl rfl rfl ?_
      refine XQ.skip (i := 23) (l' := #[true, true, true, true, true, true, true, true, true, true, true, true, true, true, true, true, true, true, true, true, true, true, true, true, false, false, false, false, false, false, false, false]) rfl rfl rfl rfl rfl (by kernel_rfl) rfl rfl rfl ?_
      refine XQ.skip (i := 24) (l' := #[true, true, true, true, true, true, true, true, true, true, true, true, true, true, true, true, true, true, true, true, true, true, true, true, true, false, false, false, false, false, false, false]) rfl rfl rfl rfl rfl (by kernel_rfl) rfl rfl rfl ?_
      refine XQ.skip (i := 25) (l' := #[true, true, true, true, true, true, true, true, true, true, true, true, true, true, true, true, true, true, true, true, true, true, true, true, true, true, false, false, false, false, false, false]) rfl rfl rfl rfl rfl (by kernel_rfl) rfl rfl rfl ?_
      refine XQ.skip (i := 26) (l' := #[true, true, true, true, true, true, true, true, true, true, true, true, true, true, true, true, true, true, true, true, true, true, true, true, true, true, true, false, false, false, false, false]) rfl rfl rfl rfl rfl (by kernel_rfl) rfl rfl rfl ?_
      refine XQ.skip (i := 27) (l' := #[true, true, true, true, true, true, true, true, true, true, true, true, true, true, true, true, true, true, true, true, true, true, true, true, true, true, true, true, false, false, false, false]) rfl rfl rfl rfl rfl (by kernel_rfl) rfl rfl rfl ?_
      refine XQ.skip (i := 28) (l' := #[true, true, true, true, true, true, true, true, true, true, true, true, true, true, true, true, true, true, true, true, true, true, true, true, true, true, true, true, true, false, false, false]) rfl rfl rfl rfl rfl (by kernel_rfl) rfl rfl rfl ?_
      refine XQ.skip (i := 29) (l' := #[true, true, true, true, true, true, true, true, true, true, true, true, true, true, true, true, true, true, true, true, true, true, true, true, true, true, true, true, true, true, false, false]) rfl rfl rfl rfl rfl (by kernel_rfl) rfl rfl rfl ?_
      refine XQ.skip (i := 30) (l' := #[true, true, true, true, true, true, true, true, true, true, true, true, true, true, true, true, true, true, true, true, true, true, true, true, true, true, true, true, true, true, true, false]) rfl rfl rfl rfl rfl (by kernel_rfl) rfl rfl rfl ?_
      refine XQ.pv (i := 31) (l' := #[true, true, true, true, true, true, true, true, true, true, true, true, true, true, true, true, true, true, true, true, true, true, true, true, true, true, true, true, true, true, true, true]) rfl (by kernel_rfl) rfl (V.pick rfl rfl rfl rfl) rfl rfl ?_
      refine XQ.done (by kernel_rfl) ?_
      refine XE.next ?_
      refine XC.keep [(0, _), (3, _), (46, _)] (Sub.cons rfl (Sub.cons rfl (Sub.cons rfl (Sub.nil _)))) ?_
      refine XC.condF rfl rfl ?_
      refine XC.skip ?_
      refine XE.blockNormal ?_
      refine XE.next ?_
      refine XC.keep [(0, _), (3, _)] (Sub.cons rfl (Sub.cons rfl (Sub.nil _))) ?_
      refine XC.region ?_
      refine XO.v (V.move rfl) rfl ?_
      refine XO.v (V.add rfl rfl _ (IntWalk.i64_in _ (by omega))) rfl ?_
      refine XO.v (V.assign rfl) rfl ?_
      refine XO.nil ?_
      refine XE.again ((x.1, x.2 + 1)) ?_ ?_ (Sub.cons rfl (Sub.cons rfl (Sub.nil _))) (fun _ hw => XM.pick (.cons .here .nil) hw)
      · skip
        (simp; omega)
      · skip
        refine ⟨xI, by simp; omega, ?_, hxn, xS⟩
        show x.1 = s.refN d (x.2 + 1 - 1).toNat
        rw [SF.refN_no hx1.1 hxe]
        rintro ⟨q1, q2, q3⟩
        first
        | omega
        | (rw [hhr] at q1; cases q1)
  · skip
    have h10 : x.2 = 10 := by omega
    rw [show (x.2 - 1).toNat = 9 from by omega] at hxe
    have hte : ({ x.1 with now := x.1.now + 1 } : SF) = s.tick0 d := by
      show ({ x.1 with now := x.1.now + 1 } : SF) = { s.refN d 9 with now := s.now + 1 }
      rw [← hxe, ← hxn]
    have hI1 : SF.Inv ({ x.1 with now := x.1.now + 1 } : SF) d := ⟨xI.h0, xI.up, xI.was, xI.quo, xI.wt⟩
    have hS1 : SF.Small ({ x.1 with now := x.1.now + 1 } : SF) Bd := xS
    refine XC.exit ?_
    refine XE.thenExit ?_
    refine XE.thenExit ?_
    refine XE.blockExit ?_
    refine XE.next ?_
    refine XC.keep [(0, _)] (Sub.cons rfl (Sub.nil _)) ?_
    refine XC.seq ?_
    refine XC.region ?_
    refine XO.v (V.move rfl) rfl ?_
    refine XO.v (V.nilCheckP rfl) rfl ?_
    refine XO.v (V.fieldAddr rfl fo_38_1) rfl ?_
    refine XO.v (V.load rfl (inXM .here) (encR.ld_Now _) sc_3) rfl ?_
    refine XO.v (V.add rfl rfl _ (IntWalk.i64_in _ (by omega))) rfl ?_
    refine XO.v (V.nilCheckP rfl) rfl ?_
    refine XO.v (V.fieldAddr rfl fo_38_1) rfl ?_
    refine XO.store rfl rfl .here (encR.st_Now _ _) rfl sz_3_1 ?_
    refine XO.nil ?_
    refine XE.next ?_
    refine XC.keep [(0, _)] (Sub.cons rfl (Sub.nil _)) ?_
    refine XC.seq ?_
    refine XC.region ?_
    refine XO.v (V.assign rfl) rfl ?_
    refine XO.nil ?_
    refine XE.next ?_
    refine XC.keep [(0, _), (4, _)] (Sub.cons rfl (Sub.cons rfl (Sub.nil _))) ?_
    refine XC.seq ?_
    refine XC.block ?_
    refine XC.loop (σ := SF × Int) (fun y => SF.maxD d 30 - d y.2) (fun y => y.1 = s.tick0 d ∧ y.1.Inv d ∧ y.1.Small Bd ∧ (0 ≤ y.2 ∧ y.2 < 30 ∧ y.1.here y.2 = true) ∧ ∃ k, SF.maxD d 30 < k + d y.2 ∧ SF.dsc y.1 k y.2 = SF.who d s) (fun y => [(4, .int .i64 y.2), (0, ptr b o 0)]) (fun y => XM W (foot [.cells b o 361 (encR s)]) [.cells b o 361 (encR y.1)]) ((({ x.1 with now := x.1.now + 1 } : SF), 0)) ?_ (Sub.cons rfl (Sub.cons rfl (Sub.nil _))) (fun _ hw => XM.pick (.cons .here .nil) hw) ?_
    · skip
      exact ⟨hte, hI1, hS1, ⟨by simp, by simp, hI1.h0⟩, SF.maxD d 30 + 1, by simp; omega, by unfold SF.who; rw [← hte]⟩
    intro y hy
    obtain ⟨yt, yI, yS, ⟨y0, y1, y2⟩, ⟨k, hk, yk⟩⟩ := hy
    refine XC.seq ?_
    refine XC.seq ?_
    refine XC.region ?_
    refine XO.v (V.move rfl) rfl ?_
    refine XO.v (V.cmp rfl rfl rfl) rfl ?_
    refine XO.nil ?_
    refine XE.next ?_
    refine XC.keep [(0, _), (4, _), (64, _)] (Sub.cons rfl (Sub.cons rfl (Sub.cons rfl (Sub.nil _)))) ?_
    refine XC.condP rfl (fun h5 => ?_) (fun h5 => ?_)
    · skip
      refine XC.skip ?_
      refine XE.next ?_
      refine XC.keep [(0, _), (4, _)] (Sub.cons rfl (Sub.cons rfl (Sub.nil _))) ?_
      refine XC.block ?_
      refine XC.seq ?_
      refine XC.region ?_
      refine XO.v (V.assign rfl) rfl ?_
      refine XO.nil ?_
      refine XE.next ?_
      refine XC.keep [(0, _), (4, _), (5, _)] (Sub.cons rfl (Sub.cons rfl (Sub.cons rfl (Sub.nil _)))) ?_
      refine XC.seq ?_
      refine XC.seq ?_
      refine XC.region ?_
      refine XO.v (V.assign rfl) rfl ?_
      refine XO.nil ?_
      refine XE.next ?_
      refine XC.keep [(0, _), (4, _), (5, _), (6, _)] (Sub.cons rfl (Sub.cons rfl (Sub.cons rfl (Sub.cons rfl (Sub.nil _))))) ?_
      refine XC.block ?_
      refine XC.loop (σ := Int) (fun i => i.toNat) (fun i => 0 ≤ i ∧ i ≤ 29) (fun i => [(5, .int .i64 (SF.bestN y.1 y.2 (29 - i).toNat)), (6, .int .i64 i), (0, ptr b o 0), (4, .int .i64 y.2)]) (fun i => XM W (foot [.cells b o 361 (encR s)]) [.cells b o 361 (encR y.1)]) (29) ?_ (Sub.cons rfl (Sub.cons rfl (Sub.cons rfl (Sub.cons rfl (Sub.nil _))))) (fun _ hw => XM.pick (.cons .here .nil) hw) ?_
      · skip
        exact ⟨by omega, by omega⟩
      intro i hi
      refine XC.seq ?_
      refine XC.seq ?_
      refine XC.region ?_
      refine XO.v (V.move rfl) rfl ?_
      refine XO.v (V.cmp rfl rfl rfl) rfl ?_
      refine XO.nil ?_
      refine XE.next ?_
      refine XC.keep [(0, _), (4, _), (5, _), (6, _), (66, _)] (Sub.cons rfl (Sub.cons rfl (Sub.cons rfl (Sub.cons rfl (Sub.cons rfl (Sub.nil _)))))) ?_
      refine XC.condP rfl (fun h6 => ?_) (fun h6 => ?_)
      · skip
        refine XC.skip ?_
        refine XE.next ?_
        refine XC.keep [(0, _), (4, _), (5, _), (6, _)] (Sub.cons rfl (Sub.cons rfl (Sub.cons rfl (Sub.cons rfl (Sub.nil _))))) ?_
        refine XC.seq ?_
        refine XC.block ?_
        refine XC.seq ?_
        refine XC.region ?_
        refine XO.v (V.move rfl) rfl ?_
        refine XO.v (V.move rfl) rfl ?_
        refine XO.v (V.nilCheckP rfl) rfl ?_
        refine XO.v (V.fieldAddr rfl fo_38_0) rfl ?_
        refine XO.v (V.indexArr rfl rfl ar_36 (by omega)) rfl ?_
        refine XO.v (V.loadAgg rfl (inXM .here) (encR.agg _ _ (by omega)) ag_35 sz_35_12) rfl ?_
        refine XO.allocZ (z := .agg (arrR (freshR false 0 0 0))) (m := 12) (C := encR.cell (freshR false 0 0 0)) (by kernel_rfl) (arrR_ok _).2 (encR.c_box _) rfl ?_
        intro bu
        refine XO.storeAgg rfl rfl .here (encR.c_put _ _) (arrR_ok _) sz_35_12 ?_
        refine XO.nil ?_
        refine XE.next ?_
        refine XC.keep [(0, _), (4, _), (5, _), (6, _), (7, _)] (Sub.cons rfl (Sub.cons rfl (Sub.cons rfl (Sub.cons rfl (Sub.cons rfl (Sub.nil _)))))) ?_
        refine XC.seq ?_
        refine XC.regionQ mixed (f := 28) (l := #[false, false, false, false, false, false, false, false, false, false, false, false, false, false, false, false, false, false, false, false, false, false, false, false, false, false, false, false]) rfl rfl XM.drawn' ?_
        refine XQ.pv (i := 0) (l' := #[true, false, false, false, false, false, false, false, false, false, false, false, false, false, false, false, false, false, false, false, false, false, false, false, false, false, false, false]) rfl (by kernel_rfl) rfl (V.fieldAddr rfl fo_35_0) rfl rfl ?_
        refine XQ.load (i := 1) (l' := #[true, true, false, false, false, false, false, false, false, false, false, false, false, false, false, false, false, false, false, false, false, false, false, false, false, false, false, false]) (.cells _ _ _ _) [] rfl (by kernel_rfl) rfl .here (V.load rfl inEnt (encR.c_here _ _) sc_4) rfl (by kernel_rfl) rfl ?_
        refine XQ.pv (i := 2) (l' := #[true, true, true, false, false, false, false, false, false, false, false, false, false, false, false, false, false, false, false, false, false, false, false, false, false, false, false, false]) rfl (by kernel_rfl) rfl (V.move rfl) rfl rfl ?_
        refine XQ.split (d := 77) rfl (fun h7 => ?_) (fun h7 => ?_)
        · try simp only [sb] at h7
          refine XQ.pvG (i := 3) (l' := #[true, true, true, true, false, false, false, false, false, false, false, false, false, false, false, false, false, false, false, false, false, false, false, false, false, false, false, false]) rfl rfl rfl (by kernel_rfl) rfl (V.fieldAddr rfl fo_35_4) rfl rfl ?_
          refine XQ.loadG (i := 4) (l' := #[true, true, true, true, true, false, false, false, false, false, false, false, false, false, false, false, false, false, false, false, false, false, false, false, false, false, false, false]) (.cells _ _ _ _) [] rfl rfl rfl (by kernel_rfl) rfl .here (V.load rfl inEnt (encR.c_par _ _) sc_3) rfl (by kernel_rfl) rfl ?_
          refine XQ.pvG (i := 5) (l' := #[true, true, true, true, true, true, false, false, false, false, false, false, false, false, false, false, false, false, false, false, false, false, false, false, false, false, false, false]) rfl rfl rfl (by kernel_rfl) rfl (V.move rfl) rfl rfl ?_
          refine XQ.pvG (i := 6) (l' := #[true, true, true, true, true, true, true, false, false, false, false, false, false, false, false, false, false, false, false, false, false, false, false, false, false, false, false, false]) rfl rfl rfl (by kernel_rfl) rfl (V.cmp rfl rfl rfl) rfl rfl ?_
          refine XQ.pv (i := 7) (l' := #[true, true, true, true, true, true, true, true, false, false, false, false, false, false, false, false, false, false, false, false, false, false, false, false, false, false, false, false]) rfl (by kernel_rfl) rfl (V.pick rfl rfl rfl rfl) rfl rfl ?_
          refine XQ.pv (i := 8) (l' := #[true, true, true, true, true, true, true, true, true, false, false, false, false, false, false, false, false, false, false, false, false, false, false, false, false, false, false, false]) rfl (by kernel_rfl) rfl (V.move rfl) rfl rfl ?_
          refine XQ.splitP (d := 83) rfl (fun h8 => ?_) (fun h8 => ?_)
          · skip
            refine XQ.pvG (i := 9) (l' := #[true, true, true, true, true, true, true, true, true, true, false, false, false, false, false, false, false, false, false, false, false, false, false, false, false, false, false, false]) rfl rfl rfl (by kernel_rfl) rfl (V.fieldAddr rfl fo_35_3) rfl rfl ?_
            refine XQ.loadG (i := 10) (l' := #[true, true, true, true, true, true, true, true, true, true, true, false, false, false, false, false, false, false, false, false, false, false, false, false, false, false, false, false]) (.cells _ _ _ _) [] rfl rfl rfl (by kernel_rfl) rfl .here (V.load rfl inEnt (encR.c_was _ _) sc_4) rfl (by kernel_rfl) rfl ?_
            refine XQ.pv (i := 11) (l' := #[true, true, true, true, true, true, true, true, true, true, true, true, false, false, false, false, false, false, false, false, false, false, false, false, false, false, false, false]) rfl (by kernel_rfl) rfl (V.pick rfl rfl rfl rfl) rfl rfl ?_
            refine XQ.pv (i := 12) (l' := #[true, true, true, true, true, true, true, true, true, true, true, true, true, false, false, false, false, false, false, false, false, false, false, false, false, false, false, false]) rfl (by kernel_rfl) rfl (V.move rfl) rfl rfl ?_
            refine XQ.split (d := 87) rfl (fun h9 => ?_) (fun h9 => ?_)
            · try simp only [sb] at h9
              have hwt : y.1.was i = true := h9
              refine XQ.pvG (i := 13) (l' := #[true, true, true, true, true, true, true, true, true, true, true, true, true, true, false, false, false, false, false, false, false, false, false, false, false, false, false, false]) rfl rfl rfl (by kernel_rfl) rfl (V.move rfl) rfl rfl ?_
              refine XQ.pvG (i := 14) (l' := #[true, true, true, true, true, true, true, true, true, true, true, true, true, true, true, false, false, false, false, false, false, false, false, false, false, false, false, false]) rfl rfl rfl (by kernel_rfl) rfl (V.cmp rfl rfl rfl) rfl rfl ?_
              refine XQ.pvG (i := 15) (l' := #[true, true, true, true, true, true, true, true, true, true, true, true, true, true, true, true, false, false, false, false, false, false, false, false, false, false, false, false]) rfl rfl rfl (by kernel_rfl) rfl (V.move rfl) rfl rfl ?_
              refine XQ.splitP (d := 90) rfl (fun h10 => ?_) (fun h10 => ?_)
              · skip
                refine XQ.skip (i := 16) (l' := #[true, true, true, true, true, true, true, true, true, true, true, true, true, true, true, true, true, false, false, false, false, false, false, false, false, false, false, false]) rfl rfl rfl rfl rfl (by kernel_rfl) rfl rfl rfl ?_
                refine XQ.skip (i := 17) (l' := #[true, true, true, true, true, true, true, true, true, true, true, true, true, true, true, true, true, true, false, false, false, false, false, false, false, false, false, false]) rfl rfl rfl rfl rfl (by kernel_rfl) rfl rfl rfl ?_
                refine XQ.skip (i := 18) (l' := #[true, true, true, true, true, true, true, true, true, true, true, true, true, true, true, true, true, true, true, false, false, false, false, false, false, false, false, false]) rfl rfl rfl rfl rfl (by kernel_rfl) rfl rfl rfl ?_
                refine XQ.skip (i := 19) (l' := #[true, true, true, true, true, true, true, true, true, true, true, true, true, true, true, true, true, true, true, true, false, false, false, false, false, false, false, false]) rfl rfl rfl rfl rfl (by kernel_rfl) rfl rfl rfl ?_
                refine XQ.skip (i := 20) (l' := #[true, true, true, true, true, true, true, true, true, true, true, true, true, true, true, true, true, true, true, true, true, false, false, false, false, false, false, false]) rfl rfl rfl rfl rfl (by kernel_rfl) rfl rfl rfl ?_
                refine XQ.skip (i := 21) (l' := #[true, true, true, true, true, true, true, true, true, true, true, true, true, true, true, true, true, true, true, true, true, true, false, false, false, false, false, false]) rfl rfl rfl rfl rfl (by kernel_rfl) rfl rfl rfl ?_
                refine XQ.skip (i := 22) (l' := #[true, true, true, true, true, true, true, true, true, true, true, true, true, true, true, true, true, true, true, true, true, true, true, false, false, false, false, false]) rfl rfl rfl rfl rfl (by kernel_rfl) rfl rfl rfl ?_
                refine XQ.skip (i := 23) (l' := #[true, true, true, true, true, true, true, true, true, true, true, true, true, true, true, true, true, true, true, true, true, true, true, true, false, false, false, false]) rfl rfl rfl rfl rfl (by kernel_rfl) rfl rfl rfl ?_
                refine XQ.skip (i := 24) (l' := #[true, true, true, true, true, true, true, true, true, true, true, true, true, true, true, true, true, true, true, true, true, true, true, true, true, false, false, false]) rfl rfl rfl rfl rfl (by kernel_rfl) rfl rfl rfl ?_
                refine XQ.skip (i := 25) (l' := #[true, true, true, true, true, true, true, true, true, true, true, true, true, true, true, true, true, true, true, true, true, true, true, true, true, true, false, false]) rfl rfl rfl rfl rfl (by kernel_rfl) rfl rfl rfl ?_
                refine XQ.pvG (i := 26) (l' := #[true, true, true, true, true, true, true, true, true, true, true, true, true, true, true, true, true, true, true, true, true, true, true, true, true, true, true, false]) rfl rfl rfl (by kernel_rfl) rfl (V.pick rfl rfl rfl rfl) rfl rfl ?_
                refine XQ.pv (i := 27) (l' := #[true, true, true, true, true, true, true, true, true, true, true, true, true, true, true, true, true, true, true, true, true, true, true, true, true, true, true, true]) rfl (by kernel_rfl) rfl (V.pick rfl rfl rfl rfl) rfl rfl ?_
                refine XQ.done (by kernel_rfl) ?_
                refine XE.next ?_
                refine XC.keep [(0, _), (4, _), (5, _), (6, _), (102, _)] (Sub.cons rfl (Sub.cons rfl (Sub.cons rfl (Sub.cons rfl (Sub.cons rfl (Sub.nil _)))))) ?_
                refine XC.condT rfl rfl ?_
                refine XC.region ?_
                refine XO.v (V.move rfl) rfl ?_
                refine XO.v (V.assign rfl) rfl ?_
                refine XO.nil ?_
                refine XE.blockNormal ?_
                refine XE.next ?_
                refine XC.keep [(0, _), (4, _), (5, _), (6, _)] (Sub.cons rfl (Sub.cons rfl (Sub.cons rfl (Sub.cons rfl (Sub.nil _))))) ?_
                refine XC.region ?_
                refine XO.v (V.move rfl) rfl ?_
                refine XO.v (V.sub rfl rfl _ (IntWalk.i64_in _ (by omega))) rfl ?_
                refine XO.v (V.assign rfl) rfl ?_
                refine XO.nil ?_
                refine XE.again (i - 1) ?_ ?_ (Sub.cons (eqi (SF.bestN_yes (by omega) (by omega) hwt (by omega) (.inl (by omega)))) (Sub.cons rfl (Sub.cons rfl (Sub.cons rfl (Sub.nil _))))) (fun _ hw => XM.pick (.cons (.there .here) .nil) hw)
                · skip
                  (first | omega | (simp; done) | (simp; omega))
                · skip
                  (first | omega | (simp; done) | (simp; omega))
              · skip
                obtain ⟨hb1, hb2, _⟩ := (SF.bestN_spec y.1 y.2 (29 - i).toNat (by omega)).2 (by omega)
                refine XQ.pvG (i := 16) (l' := #[true, true, true, true, true, true, true, true, true, true, true, true, true, true, true, true, true, false, false, false, false, false, false, false, false, false, false, false]) rfl rfl rfl (by kernel_rfl) rfl (V.fieldAddr rfl fo_35_7) rfl rfl ?_
                refine XQ.loadG (i := 17) (l' := #[true, true, true, true, true, true, true, true, true, true, true, true, true, true, true, true, true, true, false, false, false, false, false, false, false, false, false, false]) (.cells _ _ _ _) [] rfl rfl rfl (by kernel_rfl) rfl .here (V.load rfl inEnt (encR.c_v _ _) sc_3) rfl (by kernel_rfl) rfl ?_
                refine XQ.pvG (i := 18) (l' := #[true, true, true, true, true, true, true, true, true, true, true, true, true, true, true, true, true, true, true, false, false, false, false, false, false, false, false, false]) rfl rfl rfl (by kernel_rfl) rfl (V.move rfl) rfl rfl ?_
                refine XQ.pvG (i := 19) (l' := #[true, true, true, true, true, true, true, true, true, true, true, true, true, true, true, true, true, true, true, true, false, false, false, false, false, false, false, false]) rfl rfl rfl (by kernel_rfl) rfl (V.move rfl) rfl rfl ?_
                refine XQ.pvG (i := 20) (l' := #[true, true, true, true, true, true, true, true, true, true, true, true, true, true, true, true, true, true, true, true, true, false, false, false, false, false, false, false]) rfl rfl rfl (by kernel_rfl) rfl (V.nilCheckP rfl) rfl rfl ?_
                refine XQ.pvG (i := 21) (l' := #[true, true, true, true, true, true, true, true, true, true, true, true, true, true, true, true, true, true, true, true, true, true, false, false, false, false, false, false]) rfl rfl rfl (by kernel_rfl) rfl (V.fieldAddr rfl fo_38_0) rfl rfl ?_
                refine XQ.pvG (i := 22) (l' := #[true, true, true, true, true, true, true, true, true, true, true, true, true, true, true, true, true, true, true, true, true, true, true, false, false, false, false, false]) rfl rfl rfl (by kernel_rfl) rfl (V.indexArr rfl rfl ar_36 (by omega)) rfl rfl ?_
                refine XQ.pvG (i := 23) (l' := #[true, true, true, true, true, true, true, true, true, true, true, true, true, true, true, true, true, true, true, true, true, true, true, true, false, false, false, false]) rfl rfl rfl (by kernel_rfl) rfl (V.fieldAddr rfl fo_35_7) rfl rfl ?_
                refine XQ.loadG (i := 24) (l' := #[true, true, true, true, true, true, true, true, true, true, true, true, true, true, true, true, true, true, true, true, true, true, true, true, true, false, false, false]) (.cells _ _ _ _) [] rfl rfl rfl (by kernel_rfl) rfl (.there .here) (V.load rfl inEnt (encR.ld_U_Time _ _ (by omega)) sc_3) rfl (by kernel_rfl) rfl ?_
                refine XQ.pvG (i := 25) (l' := #[true, true, true, true, true, true, true, true, true, true, true, true, true, true, true, true, true, true, true, true, true, true, true, true, true, true, false, false]) rfl rfl rfl (by kernel_rfl) rfl (V.cmp rfl rfl rfl) rfl rfl ?_
                refine XQ.pvG (i := 26) (l' := #[true, true, true, true, true, true, true, true, true, true, true, true, true, true, true, true, true, true, true, true, true, true, true, true, true, true, true, false]) rfl rfl rfl (by kernel_rfl) rfl (V.pick rfl rfl rfl rfl) rfl rfl ?_
                refine XQ.pv (i := 27) (l' := #[true, true, true, true, true, true, true, true, true, true, true, true, true, true, true, true, true, true, true, true, true, true, true, true, true, true, true, true]) rfl (by kernel_rfl) rfl (V.pick rfl rfl rfl rfl) rfl rfl ?_
                refine XQ.done (by kernel_rfl) ?_
                refine XE.next ?_
                refine XC.keep [(0, _), (4, _), (5, _), (6, _), (102, _)] (Sub.cons rfl (Sub.cons rfl (Sub.cons rfl (Sub.cons rfl (Sub.cons rfl (Sub.nil _)))))) ?_
                refine XC.condP rfl (fun h11 => ?_) (fun h11 => ?_)
                · skip
                  refine XC.region ?_
                  refine XO.v (V.move rfl) rfl ?_
                  refine XO.v (V.assign rfl) rfl ?_
                  refine XO.nil ?_
                  refine XE.blockNormal ?_
                  refine XE.next ?_
                  refine XC.keep [(0, _), (4, _), (5, _), (6, _)] (Sub.cons rfl (Sub.cons rfl (Sub.cons rfl (Sub.cons rfl (Sub.nil _))))) ?_
                  refine XC.region ?_
                  refine XO.v (V.move rfl) rfl ?_
                  refine XO.v (V.sub rfl rfl _ (IntWalk.i64_in _ (by omega))) rfl ?_
                  refine XO.v (V.assign rfl) rfl ?_
                  refine XO.nil ?_
                  refine XE.again (i - 1) ?_ ?_ (Sub.cons (eqi (SF.bestN_yes (by omega) (by omega) hwt (by omega) (.inr (by omega)))) (Sub.cons rfl (Sub.cons rfl (Sub.cons rfl (Sub.nil _))))) (fun _ hw => XM.pick (.cons (.there .here) .nil) hw)
                  · skip
                    (first | omega | (simp; done) | (simp; omega))
                  · skip
                    (first | omega | (simp; done) | (simp; omega))
                · skip
                  refine XC.skip ?_
                  refine XE.blockNormal ?_
                  refine XE.next ?_
                  refine XC.keep [(0, _), (4, _), (5, _), (6, _)] (Sub.cons rfl (Sub.cons rfl (Sub.cons rfl (Sub.cons rfl (Sub.nil _))))) ?_
                  refine XC.region ?_
                  refine XO.v (V.move rfl) rfl ?_
                  refine XO.v (V.sub rfl rfl _ (IntWalk.i64_in _ (by omega))) rfl ?_
                  refine XO.v (V.assign rfl) rfl ?_
                  refine XO.nil ?_
                  refine XE.again (i - 1) ?_ ?_ (Sub.cons (eqi (SF.bestN_not (by omega) (by omega) (fun _ _ => by omega))) (Sub.cons rfl (Sub.cons rfl (Sub.cons rfl (Sub.nil _))))) (fun _ hw => XM.pick (.cons (.there .here) .nil) hw)
                  · skip
                    (first | omega | (simp; done) | (simp; omega))
                  · skip
                    (first | omega | (simp; done) | (simp; omega))
            · try simp only [sb] at h9
              have hwf : ¬ y.1.was i = true := by simp_all
              refine XQ.skip (i := 13) (l' := #[true, true, true, true, true, true, true, true, true, true, true, true, true, true, false, false, false, false, false, false, false, false, false, false, false, false, false, false]) rfl rfl rfl rfl rfl (by kernel_rfl) rfl rfl rfl ?_
              refine XQ.skip (i := 14) (l' := #[true, true, true, true, true, true, true, true, true, true, true, true, true, true, true, false, false, false, false, false, false, false, false, false, false, false, false, false]) rfl rfl rfl rfl rfl (by kernel_rfl) rfl rfl rfl ?_
              refine XQ.skip (i := 15) (l' := #[true, true, true, true, true, true, true, true, true, true, true, true, true, true, true, true, false, false, false, false, false, false, false, false, false, false, false, false]) rfl rfl rfl rfl rfl (by kernel_rfl) rfl rfl rfl ?_
              refine XQ.skipU (i := 16) (l' := #[true, true, true, true, true, true, true, true, true, true, true, true, true, true, true, true, true, false, false, false, false, false, false, false, false, false, false, false]) rfl rfl rfl rfl rfl (by kernel_rfl) rfl rfl rfl ?_
              refine XQ.skipU (i := 17) (l' := #[true, true, true, true, true, true, true, true, true, true, true, true, true, true, true, true, true, true, false, false, false, false, false, false, false, false, false, false]) rfl rfl rfl rfl rfl (by kernel_rfl) rfl rfl rfl ?_
              refine XQ.skipU (i := 18) (l' := #[true, true, true, true, true, true, true, true, true, true, true, true, true, true, true, true, true, true, true, false, false, false, false, false, false, false, false, false]) rfl rfl rfl rfl rfl (by kernel_rfl) rfl rfl rfl ?_
              refine XQ.skipU (i := 19) (l' := #[true, true, true, true, true, true, true, true, true, true, true, true, true, true, true, true, true, true, true, true, false, false, false, false, false, false, false, false]) rfl rfl rfl rfl rfl (by kernel_rfl) rfl rfl rfl ?_
              refine XQ.skipU (i := 20) (l' := #[true, true, true, true, true, true, true, true, true, true, true, true, true, true, true, true, true, true, true, true, true, false, false, false, false, false, false, false]) rfl rfl rfl rfl rfl (by kernel_rfl) rfl rfl rfl ?_
              refine XQ.skipU (i := 21) (l' := #[true, true, true, true, true, true, true, true, true, true, true, true, true, true, true, true, true, true, true, true, true, true, false, false, false, false, false, false]) rfl rfl rfl rfl rfl (by kernel_rfl) rfl rfl rfl ?_
              refine XQ.skipU (i := 22) (l' := #[true, true, true, true, true, true, true, true, true, true, true, true, true, true, true, true, true, true, true, true, true, true, true, false, false, false, false, false]) rfl rfl rfl rfl rfl (by kernel_rfl) rfl rfl rfl ?_
              refine XQ.skipU (i := 23) (l' := #[true, true, true, true, true, true, true, true, true, true, true, true, true, true, true, true, true, true, true, true, true, true, true, true, false, false, false, false]) rfl rfl rfl rfl rfl (by kernel_rfl) rfl rfl rfl ?_
              refine XQ.skipU (i := 24) (l' := #[true, true, true, true, true, true, true, true, true, true, true, true, true, true, true, true, true, true, true, true, true, true, true, true, true, false, false, false]) rfl rfl rfl rfl rfl (by kernel_rfl) rfl rfl rfl ?_
              refine XQ.skipU (i := 25) (l' := #[true, true, true, true, true, true, true, true, true, true, true, true, true, true, true, true, true, true, true, true, true, true, true, true, true, true, false, false]) rfl rfl rfl rfl rfl (by kernel_rfl) rfl rfl rfl ?_
              refine XQ.skip (i := 26) (l' := #[true, true, true, true, true, true, true, true, true, true, true, true, true, true, true, true, true, true, true, true, true, true, true, true, true, true, true, false]) rfl rfl rfl rfl rfl (by kernel_rfl) rfl rfl rfl ?_
              refine XQ.pv (i := 27) (l' := #[true, true, true, true, true, true, true, true, true, true, true, true, true, true, true, true, true, true, true, true, true, true, true, true, true, true, true, true]) rfl (by kernel_rfl) rfl (V.pick rfl rfl rfl rfl) rfl rfl ?_
              refine XQ.done (by kernel_rfl) ?_
              refine XE.next ?_
              refine XC.keep [(0, _), (4, _), (5, _), (6, _), (102, _)] (Sub.cons rfl (Sub.cons rfl (Sub.cons rfl (Sub.cons rfl (Sub.cons rfl (Sub.nil _)))))) ?_
              refine XC.condF rfl rfl ?_
              refine XC.skip ?_
              refine XE.blockNormal ?_
              refine XE.next ?_
              refine XC.keep [(0, _), (4, _), (5, _), (6, _)] (Sub.cons rfl (Sub.cons rfl (Sub.cons rfl (Sub.cons rfl (Sub.nil _))))) ?_
              refine XC.region ?_
              refine XO.v (V.move rfl) rfl ?_
              refine XO.v (V.sub rfl rfl _ (IntWalk.i64_in _ (by omega))) rfl ?_
              refine XO.v (V.assign rfl) rfl ?_
              refine XO.nil ?_
              refine XE.again (i - 1) ?_ ?_ (Sub.cons (eqi (SF.bestN_not (by omega) (by omega) (fun q _ => absurd q hwf))) (Sub.cons rfl (Sub.cons rfl (Sub.cons rfl (Sub.nil _))))) (fun _ hw => XM.pick (.cons (.there .here) .nil) hw)
              · skip
                (first | omega | (simp; done) | (simp; omega))
              · skip
                (first | omega | (simp; done) | (simp; omega))
          · skip
            refine XQ.skip (i := 9) (l' := #[true, true, true, true, true, true, true, true, true, true, false, false, false, false, false, false, false, false, false, false, false, false, false, false, false, false, false, false]) rfl rfl rfl rfl rfl (by kernel_rfl) rfl rfl rfl ?_
            refine XQ.skip (i := 10) (l' := #[true, true, true, true, true, true, true, true, true, true, true, false, false, false, false, false, false, false, false, false, false, false, false, false, false, false, false, false]) rfl rfl rfl rfl rfl (by kernel_rfl) rfl rfl rfl ?_
            refine XQ.pv (i := 11) (l' := #[true, true, true, true, true, true, true, true, true, true, true, true, false, false, false, false, false, false, false, false, false, false, false, false, false, false, false, false]) rfl (by kernel_rfl) rfl (V.pick rfl rfl rfl rfl) rfl rfl ?_
            refine XQ.pv (i := 12) (l' := #[true, true, true, true, true, true, true, true, true, true, true, true, true, false, false, false, false, false, false, false, false, false, false, false, false, false, false, false]) rfl (by kernel_rfl) rfl (V.move rfl) rfl rfl ?_
            refine XQ.skip (i := 13) (l' := #[true, true, true, true, true, true, true, true, true, true, true, true, true, true, false, false, false, false, false, false, false, false, false, false, false, false, false, false]) rfl rfl rfl rfl rfl (by kernel_rfl) rfl rfl rfl ?_
            refine XQ.skip (i := 14) (l' := #[true, true, true, true, true, true, true, true, true, true, true, true, true, true, true, false, false, false, false, false, false, false, false, false, false, false, false, false]) rfl rfl rfl rfl rfl (by kernel_rfl) rfl rfl rfl ?_
            refine XQ.skip (i := 15) (l' := #[true, true, true, true, true, true, true, true, true, true, true, true, true, true, true, true, false, false, false, false, false, false, false, false, false, false, false, false]) rfl rfl rfl rfl rfl (by kernel_rfl) rfl rfl rfl ?_
            refine XQ.skipU (i := 16) (l' := #[true, true, true, true, true, true, true, true, true, true, true, true, true, true, true, true, true, false, false, false, false, false, false, false, false, false, false, false]) rfl rfl rfl rfl rfl (by kernel_rfl) rfl rfl rfl ?_
            refine XQ.skipU (i := 17) (l' := #[true, true, true, true, true, true, true, true, true, true, true, true, true, true, true, true, true, true, false, false, false, false, false, false, false, false, false, false]) rfl rfl rfl rfl rfl (by kernel_rfl) rfl rfl rfl ?_
            refine XQ.skipU (i := 18) (l' := #[true, true, true, true, true, true, true, true, true, true, true, true, true, true, true, true, true, true, true, false, false, false, false, false, false, false, false, false]) rfl rfl rfl rfl rfl (by kernel_rfl) rfl rfl rfl ?_
            refine XQ.skipU (i := 19) (l' := #[true, true, true, true, true, true, true, true, true, true, true, true, true, true, true, true, true, true, true, true, false, false, false, false, false, false, false, false]) rfl rfl rfl rfl rfl (by kernel_rfl) rfl rfl rfl ?_
            refine XQ.skipU (i := 20) (l' := #[true, true, true, true, true, true, true, true, true, true, true, true, true, true, true, true, true, true, true, true, true, false, false, false, false, false, false, false]) rfl rfl rfl rfl rfl (by kernel_rfl) rfl rfl rfl ?_
            refine XQ.skipU (i := 21) (l' := #[true, true, true, true, true, true, true, true, true, true, true, true, true, true, true, true, true, true, true, true, true, true, false, false, false, false, false, false]) rfl rfl rfl rfl rfl (by kernel_rfl) rfl rfl rfl ?_
            refine XQ.skipU (i := 22) (l' := #[true, true, true, true, true, true, true, true, true, true, true, true, true, true, true, true, true, true, true, true, true, true, true, false, false, false, false, false]) rfl rfl rfl rfl rfl (by kernel_rfl) rfl rfl rfl ?_
            refine XQ.skipU (i := 23) (l' := #[true, true, true, true, true, true, true, true, true, true, true, true, true, true, true, true, true, true, true, true, true, true, true, true, false, false, false, false]) rfl rfl rfl rfl rfl (by kernel_rfl) rfl rfl rfl ?_
            refine XQ.skipU (i := 24) (l' := #[true, true, true, true, true, true, true, true, true, true, true, true, true, true, true, true, true, true, true, true, true, true, true, true, true, false, false, false]) rfl rfl rfl rfl rfl (by kernel_rfl) rfl rfl rfl ?_
            refine XQ.skipU (i := 25) (l' := #[true, true, true, true, true, true, true, true, true, true, true, true, true, true, true, true, true, true, true, true, true, true, true, true, true, true, false, false]) rfl rfl rfl rfl rfl (by kernel_rfl) rfl rfl rfl ?_
            refine XQ.skip (i := 26) (l' := #[true, true, true, true, true, true, true, true, true, true, true, true, true, true, true, true, true, true, true, true, true, true, true, true, true, true, true, false]) rfl rfl rfl rfl rfl (by kernel_rfl) rfl rfl rfl ?_
            refine XQ.pv (i := 27) (l' := #[true, true, true, true, true, true, true, true, true, true, true, true, true, true, true, true, true, true, true, true, true, true, true, true, true, true, true, true]) rfl (by kernel_rfl) rfl (V.pick rfl rfl rfl rfl) rfl rfl ?_
            refine XQ.done (by kernel_rfl) ?_
            refine XE.next ?_
            refine XC.keep [(0, _), (4, _), (5, _), (6, _), (102, _)] (Sub.cons rfl (Sub.cons rfl (Sub.cons rfl (Sub.cons rfl (Sub.cons rfl (Sub.nil _)))))) ?_
            refine XC.condF rfl rfl ?_
            refine XC.skip ?_
            refine XE.blockNormal ?_
            refine XE.next ?_
            refine XC.keep [(0, _), (4, _), (5, _), (6, _)] (Sub.cons rfl (Sub.cons rfl (Sub.cons rfl (Sub.cons rfl (Sub.nil _))))) ?_
            refine XC.region ?_
            refine XO.v (V.move rfl) rfl ?_
            refine XO.v (V.sub rfl rfl _ (IntWalk.i64_in _ (by omega))) rfl ?_
            refine XO.v (V.assign rfl) rfl ?_
            refine XO.nil ?_
            refine XE.again (i - 1) ?_ ?_ (Sub.cons (eqi (SF.bestN_not (by omega) (by omega) (fun _ q => by omega))) (Sub.cons rfl (Sub.cons rfl (Sub.cons rfl (Sub.nil _))))) (fun _ hw => XM.pick (.cons (.there .here) .nil) hw)
            · skip
              (first | omega | (simp; done) | (simp; omega))
            · skip
              (first | omega | (simp; done) | (simp; omega))
        · try simp only [sb] at h7
          have hwf : ¬ y.1.was i = true := fun q => by
            have := (yI.was i q).2.2
            simp_all
          refine XQ.skip (i := 3) (l' := #[true, true, true, true, false, false, false, false, false, false, false, false, false, false, false, false, false, false, false, false, false, false, false, false, false, false, false, false]) rfl rfl rfl rfl rfl (by kernel_rfl) rfl rfl rfl ?_
          refine XQ.skip (i := 4) (l' := #[true, true, true, true, true, false, false, false, false, false, false, false, false, false, false, false, false, false, false, false, false, false, false, false, false, false, false, false]) rfl rfl rfl rfl rfl (by kernel_rfl) rfl rfl rfl ?_
          refine XQ.skip (i := 5) (l' := #[true, true, true, true, true, true, false, false, false, false, false, false, false, false, false, false, false, false, false, false, false, false, false, false, false, false, false, false]) rfl rfl rfl rfl rfl (by kernel_rfl) rfl rfl rfl ?_
          refine XQ.skip (i := 6) (l' := #[true, true, true, true, true, true, true, false, false, false, false, false, false, false, false, false, false, false, false, false, false, false, false, false, false, false, false, false]) rfl rfl rfl rfl rfl (by kernel_rfl) rfl rfl rfl ?_
          refine XQ.pv (i := 7) (l' := #[true, true, true, true, true, true, true, true, false, false, false, false, false, false, false, false, false, false, false, false, false, false, false, false, false, false, false, false]) rfl (by kernel_rfl) rfl (V.pick rfl rfl rfl rfl) rfl rfl ?_
          refine XQ.pv (i := 8) (l' := #[true, true, true, true, true, true, true, true, true, false, false, false, false, false, false, false, false, false, false, false, false, false, false, false, false, false, false, false]) rfl (by kernel_rfl) rfl (V.move rfl) rfl rfl ?_
          refine XQ.skip (i := 9) (l' := #[true, true, true, true, true, true, true, true, true, true, false, false, false, false, false, false, false, false, false, false, false, false, false, false, false, false, false, false]) rfl rfl rfl rfl rfl (by kernel_rfl) rfl rfl rfl ?_
          refine XQ.skip (i := 10) (l' := #[true, true, true, true, true, true, true, true, true, true, true, false, false, false, false, false, false, false, false, false, false, false, false, false, false, false, false, false]) rfl rfl rfl rfl rfl (by kernel_rfl) rfl rfl rfl ?_
          refine XQ.pv (i := 11) (l' := #[true, true, true, true, true, true, true, true, true, true, true, true, false, false, false, false, false, false, false, false, false, false, false, false, false, false, false, false]) rfl (by kernel_rfl) rfl (V.pick rfl rfl rfl rfl) rfl rfl ?_
          refine XQ.pv (i := 12) (l' := #[true, true, true, true, true, true, true, true, true, true, true, true, true, false, false, false, false, false, false, false, false, false, false, false, false, false, false, false]) rfl (by kernel_rfl) rfl (V.move rfl) rfl rfl ?_
          refine XQ.skip (i := 13) (l' := #[true, true, true, true, true, true, true, true, true, true, true, true, true, true, false, false, false, false, false, false, false, false, false, false, false, false, false, false]) rfl rfl rfl rfl rfl (by kernel_rfl) rfl rfl rfl ?_
          refine XQ.skip (i := 14) (l' := #[true, true, true, true, true, true, true, true, true, true, true, true, true, true, true, false, false, false, false, false, false, false, false, false, false, false, false, false]) rfl rfl rfl rfl rfl (by kernel_rfl) rfl rfl rfl ?_
          refine XQ.skip (i := 15) (l' := #[true, true, true, true, true, true, true, true, true, true, true, true, true, true, true, true, false, false, false, false, false, false, false, false, false, false, false, false]) rfl rfl rfl rfl rfl (by kernel_rfl) rfl rfl rfl ?_
          refine XQ.skipU (i := 16) (l' := #[true, true, true, true, true, true, true, true, true, true, true, true, true, true, true, true, true, false, false, false, false, false, false, false, false, false, false, false]) rfl rfl rfl rfl rfl (by kernel_rfl) rfl rfl rfl ?_
          refine XQ.skipU (i := 17) (l' := #[true, true, true, true, true, true, true, true, true, true, true, true, true, true, true, true, true, true, false, false, false, false, false, false, false, false, false, false]) rfl rfl rfl rfl rfl (by kernel_rfl) rfl rfl rfl ?_
          refine XQ.skipU (i := 18) (l' := #[true, true, true, true, true, true, true, true, true, true, true, true, true, true, true, true, true, true, true, false, false, false, false, false, false, false, false, false]) rfl rfl rfl rfl rfl (by kernel_rfl) rfl rfl rfl ?_
          refine XQ.skipU (i := 19) (l' := #[true, true, true, true, true, true, true, true, true, true, true, true, true, true, true, true, true, true, true, true, false, false, false, false, false, false, false, false]) rfl rfl rfl rfl rfl (by kernel_rfl) rfl rfl rfl ?_
          refine XQ.skipU (i := 20) (l' := #[true, true, true, true, true, true, true, true, true, true, true, true, true, true, true, true, true, true, true, true, true, false, false, false, false, false, false, false]) rfl rfl rfl rfl rfl (by kernel_rfl) rfl rfl rfl ?_
          refine XQ.skipU (i := 21) (l' := #[true, true, true, true, true, true, true, true, true, true, true, true, true, true, true, true, true, true, true, true, true, true, false, false, false, false, false, false]) rfl rfl rfl rfl rfl (by kernel_rfl) rfl rfl rfl ?_
          refine XQ.skipU (i := 22) (l' := #[true, true, true, true, true, true, true, true, true, true, true, true, true, true, true, true, true, true, true, true, true, true, true, false, false, false, false, false]) rfl rfl rfl rfl rfl (by kernel_rfl) rfl rfl rfl ?_
          refine XQ.skipU (i := 23) (l' := #[true, true, true, true, true, true, true, true, true, true, true, true, true, true, true, true, true, true, true, true, true, true, true, true, false, false, false, false]) rfl rfl rfl rfl rfl (by kernel_rfl) rfl rfl rfl ?_
          refine XQ.skipU (i := 24) (l' := #[true, true, true, true, true, true, true, true, true, true, true, true, true, true, true, true, true, true, true, true, true, true, true, true, true, false, false, false]) rfl rfl rfl rfl rfl (by kernel_rfl) rfl rfl rfl ?_
          refine XQ.skipU (i := 25) (l' := #[true, true, true, true, true, true, true, true, true, true, true, true, true, true, true, true, true, true, true, true, true, true, true, true, true, true, false, false]) rfl rfl rfl rfl rfl (by kernel_rfl) rfl rfl rfl ?_
          refine XQ.skip (i := 26) (l' := #[true, true, true, true, true, true, true, true, true, true, true, true, true, true, true, true, true, true, true, true, true, true, true, true, true, true, true, false]) rfl rfl rfl rfl rfl (by kernel_rfl) rfl rfl rfl ?_
          refine XQ.pv (i := 27) (l' := #[true, true, true, true, true, true, true, true, true, true, true, true, true, true, true, true, true, true, true, true, true, true, true, true, true, true, true, true]) rfl (by kernel_rfl) rfl (V.pick rfl rfl rfl rfl) rfl rfl ?_
          refine XQ.done (by kernel_rfl) ?_
          refine XE.next ?_
          refine XC.keep [(0, _), (4, _), (5, _), (6, _), (102, _)] (Sub.cons rfl (Sub.cons rfl (Sub.cons rfl (Sub.cons rfl (Sub.cons rfl (Sub.nil _)))))) ?_
          refine XC.condF rfl rfl ?_
          refine XC.skip ?_
          refine XE.blockNormal ?_
          refine XE.next ?_
          refine XC.keep [(0, _), (4, _), (5, _), (6, _)] (Sub.cons rfl (Sub.cons rfl (Sub.cons rfl (Sub.cons rfl (Sub.nil _))))) ?_
          refine XC.region ?_
          refine XO.v (V.move rfl) rfl ?_
          refine XO.v (V.sub rfl rfl _ (IntWalk.i64_in _ (by omega))) rfl ?_
          refine XO.v (V.assign rfl) rfl ?_
          refine XO.nil ?_
          refine XE.again (i - 1) ?_ ?_ (Sub.cons (eqi (SF.bestN_not (by omega) (by omega) (fun q _ => absurd q hwf))) (Sub.cons rfl (Sub.cons rfl (Sub.cons rfl (Sub.nil _))))) (fun _ hw => XM.pick (.cons (.there .here) .nil) hw)
          · skip
            (first | omega | (simp; done) | (simp; omega))
          · skip
            (first | omega | (simp; done) | (simp; omega))
      · skip
        have hi0 : i = 0 := by omega
        have hbe : (SF.bestN y.1 y.2 (29 - i).toNat) = y.1.best y.2 := by rw [hi0]; rfl
        refine XC.exit ?_
        refine XE.thenExit ?_
        refine XE.thenExit ?_
        refine XE.blockExit ?_
        refine XE.next ?_
        refine XC.keep [(0, _), (5, _)] (Sub.cons rfl (Sub.cons rfl (Sub.nil _))) ?_
        refine XC.seq ?_
        refine XC.seq ?_
        refine XC.region ?_
        refine XO.v (V.move rfl) rfl ?_
        refine XO.v (V.cmp rfl rfl rfl) rfl ?_
        refine XO.nil ?_
        refine XE.next ?_
        refine XC.keep [(0, _), (5, _), (105, _)] (Sub.cons rfl (Sub.cons rfl (Sub.cons rfl (Sub.nil _)))) ?_
        refine XC.condP rfl (fun h12 => ?_) (fun h12 => ?_)
        · skip
          have hwho : SF.who d s = -1 := by
            obtain ⟨k2, rfl⟩ : ∃ k2, k = k2 + 1 := ⟨k - 1, by have := SF.maxD_le d 30 y.2 y0 y1; omega⟩
            rw [← yk]
            exact SF.dsc_no _ _ (by omega) (by omega)
          refine XC.seq ?_
          refine XC.region ?_
          refine XO.v (V.assign rfl) rfl ?_
          refine XO.nil ?_
          refine XE.next ?_
          refine XC.keep [(2, _)] (Sub.cons rfl (Sub.nil _)) ?_
          refine XC.ret ?_
          refine XE.thenRet ?_
          refine XE.blockRet ?_
          refine XE.thenRet ?_
          refine XE.blockRet ?_
          refine XE.thenRet ?_
          refine XE.ret1 rfl rfl (post_of (.cons .here .nil) rfl ?_)
          refine ⟨?_, ?_⟩
          · unfold SF.tick; rw [hwho]; rfl
          · unfold SF.tick; rw [hwho, yt]; rfl
        · skip
          have hbs : ¬ y.1.best y.2 < 0 := by omega
          obtain ⟨⟨c1, c2, c3⟩, c4, c5⟩ := SF.best_is (fun i hi => ⟨(yI.was i hi).1, (yI.was i hi).2.1⟩) hbs
          have hcI := yI.was _ c1
          have hdc := (yI.up _ c4 c5 hcI.2.2).2.2.2
          rw [c2] at hdc
          have hma := SF.maxD_le d 30 y.2 (by omega) (by omega)
          have hmc := SF.maxD_le d 30 _ (Int.le_of_lt c4) c5
          refine XC.skip ?_
          refine XE.next ?_
          refine XC.keep [(0, _), (5, _)] (Sub.cons rfl (Sub.cons rfl (Sub.nil _))) ?_
          refine XC.region ?_
          refine XO.v (V.move rfl) rfl ?_
          refine XO.v (V.assign rfl) rfl ?_
          refine XO.nil ?_
          refine XE.blockNormal ?_
          refine XE.again ((y.1, (SF.bestN y.1 y.2 (29 - i).toNat))) ?_ ?_ (Sub.cons rfl (Sub.cons rfl (Sub.nil _))) (fun _ hw => XM.pick (.cons .here .nil) hw)
          · skip
            show SF.maxD d 30 - d (SF.bestN y.1 y.2 (29 - i).toNat) < SF.maxD d 30 - d y.2
            rw [hbe]; omega
          · skip
            obtain ⟨k2, rfl⟩ : ∃ k2, k = k2 + 1 := ⟨k - 1, by omega⟩
            rw [SF.dsc_go _ _ (by omega) hbs] at yk
            refine ⟨yt, yI, yS, ?_, k2, ?_, ?_⟩
            · show 0 ≤ (SF.bestN y.1 y.2 (29 - i).toNat) ∧ (SF.bestN y.1 y.2 (29 - i).toNat) < 30 ∧ y.1.here (SF.bestN y.1 y.2 (29 - i).toNat) = true
              rw [hbe]; exact ⟨by omega, c5, hcI.2.2⟩
            · show SF.maxD d 30 < k2 + d (SF.bestN y.1 y.2 (29 - i).toNat)
              rw [hbe]; omega
            · show SF.dsc y.1 k2 (SF.bestN y.1 y.2 (29 - i).toNat) = _
              rw [hbe]; exact yk
    · skip
      have hae : y.2 = SF.who d s := by
        rw [SF.dsc_end _ _ (by omega)] at yk
        exact yk
      have htk : s.tick d = (y.2 - 10, SF.chgF (d y.2 + 1) y.1 y.2) := by
        unfold SF.tick
        rw [← hae, if_neg (by omega), ← yt]
      have hda := hD y.2 y0 y1
      refine XC.exit ?_
      refine XE.thenExit ?_
      refine XE.thenExit ?_
      refine XE.blockExit ?_
      refine XE.next ?_
      refine XC.keep [(0, _), (4, _)] (Sub.cons rfl (Sub.cons rfl (Sub.nil _))) ?_
      refine XC.seq ?_
      refine XC.seq ?_
      refine XC.region ?_
      refine XO.v (V.move rfl) rfl ?_
      refine XO.v (V.assign rfl) rfl ?_
      refine XO.nil ?_
      refine XE.next ?_
      refine XC.keep [(0, _), (4, _), (8, _)] (Sub.cons rfl (Sub.cons rfl (Sub.cons rfl (Sub.nil _)))) ?_
      refine XC.block ?_
      refine XC.loop (σ := SF × Int) (fun z => if z.2 = 0 then 0 else d z.2 + 1) (fun z => z.1.Inv d ∧ (z.2 = 0 ∨ (0 < z.2 ∧ z.2 < 30 ∧ z.1.here z.2 = true)) ∧ z.1.Small (Bd + 1048577 * ((d y.2 : Int) - (d z.2 : Int))) ∧ d z.2 ≤ d y.2 ∧ ∃ k, d z.2 + 1 ≤ k ∧ SF.chgF k z.1 z.2 = (s.tick d).2) (fun z => [(8, .int .i64 z.2), (0, ptr b o 0), (4, .int .i64 y.2)]) (fun z => XM W (foot [.cells b o 361 (encR s)]) [.cells b o 361 (encR z.1)]) ((y.1, y.2)) ?_ (Sub.cons rfl (Sub.cons rfl (Sub.cons rfl (Sub.nil _)))) (fun _ hw => XM.pick (.cons .here .nil) hw) ?_
      · skip
        exact ⟨yI, .inr ⟨by show 0 < y.2; omega, y1, y2⟩, yS.mono (by simp), Nat.le_refl _, d y.2 + 1, Nat.le_refl _, by rw [htk]⟩
      intro z hz
      obtain ⟨zI, zn, zS, zd, ⟨zk, hzk, zl⟩⟩ := hz
      refine XC.seq ?_
      refine XC.seq ?_
      refine XC.region ?_
      refine XO.v (V.move rfl) rfl ?_
      refine XO.v (V.cmp rfl rfl rfl) rfl ?_
      refine XO.nil ?_
      refine XE.next ?_
      refine XC.keep [(0, _), (4, _), (8, _), (109, _)] (Sub.cons rfl (Sub.cons rfl (Sub.cons rfl (Sub.cons rfl (Sub.nil _))))) ?_
      refine XC.condP rfl (fun h13 => ?_) (fun h13 => ?_)
      · skip
        obtain ⟨z0, z1, z2⟩ := zn.resolve_left (by omega)
        obtain ⟨p0, pp1, p2, p3⟩ := zI.up z.2 z0 z1 z2
        obtain ⟨k2, rfl⟩ : ∃ k2, zk = k2 + 1 := ⟨zk - 1, by omega⟩
        rw [SF.chgF_go _ _ z0] at zl
        have hdz := hD z.2 (by omega) z1
        have hzw := zI.wt z.2 (by omega) z1 z2
        have hqz : ¬ z.1.wt z.2 = 0 := by omega
        have hzs := zS z.2 (by omega) z1
        have hzg := zS (z.1.par z.2) (by omega) (by omega)
        have hqq : 0 ≤ 1048576 / z.1.wt z.2 ∧ 1048576 / z.1.wt z.2 ≤ 1048576 := ⟨Int.ediv_nonneg (by omega) (by omega), Int.ediv_le_self _ (by omega)⟩
        refine XC.skip ?_
        refine XE.next ?_
        refine XC.keep [(0, _), (4, _), (8, _)] (Sub.cons rfl (Sub.cons rfl (Sub.cons rfl (Sub.nil _)))) ?_
        refine XC.seq ?_
        refine XC.block ?_
        refine XC.seq ?_
        refine XC.region ?_
        refine XO.v (V.move rfl) rfl ?_
        refine XO.v (V.move rfl) rfl ?_
        refine XO.v (V.nilCheckP rfl) rfl ?_
        refine XO.v (V.fieldAddr rfl fo_38_0) rfl ?_
        refine XO.v (V.indexArr rfl rfl ar_36 (by omega)) rfl ?_
        refine XO.v (V.assign rfl) rfl ?_
        refine XO.nil ?_
        refine XE.next ?_
        refine XC.keep [(0, _), (4, _), (8, _), (9, _)] (Sub.cons rfl (Sub.cons rfl (Sub.cons rfl (Sub.cons rfl (Sub.nil _))))) ?_
        refine XC.seq ?_
        refine XC.regionQ mixed (f := 9) (l := #[false, false, false, false, false, false, false, false, false]) rfl rfl XM.drawn' ?_
        refine XQ.pv (i := 0) (l' := #[true, false, false, false, false, false, false, false, false]) rfl (by kernel_rfl) rfl (V.move rfl) rfl rfl ?_
        refine XQ.pv (i := 1) (l' := #[true, true, false, false, false, false, false, false, false]) rfl (by kernel_rfl) rfl (V.move rfl) rfl rfl ?_
        refine XQ.pv (i := 2) (l' := #[true, true, true, false, false, false, false, false, false]) rfl (by kernel_rfl) rfl (V.nilCheckP rfl) rfl rfl ?_
        refine XQ.pv (i := 3) (l' := #[true, true, true, true, false, false, false, false, false]) rfl (by kernel_rfl) rfl (V.fieldAddr rfl fo_35_4) rfl rfl ?_
        refine XQ.load (i := 4) (l' := #[true, true, true, true, true, false, false, false, false]) (.cells _ _ _ _) [] rfl (by kernel_rfl) rfl .here (V.load rfl inEnt (encR.ld_U_In _ _ (by omega)) sc_3) rfl (by kernel_rfl) rfl ?_
        refine XQ.pv (i := 5) (l' := #[true, true, true, true, true, true, false, false, false]) rfl (by kernel_rfl) rfl (V.nilCheckP rfl) rfl rfl ?_
        refine XQ.pv (i := 6) (l' := #[true, true, true, true, true, true, true, false, false]) rfl (by kernel_rfl) rfl (V.fieldAddr rfl fo_38_0) rfl rfl ?_
        refine XQ.pv (i := 7) (l' := #[true, true, true, true, true, true, true, true, false]) rfl (by kernel_rfl) rfl (V.indexArr rfl rfl ar_36 (by omega)) rfl rfl ?_
        refine XQ.pv (i := 8) (l' := #[true, true, true, true, true, true, true, true, true]) rfl (by kernel_rfl) rfl (V.assign rfl) rfl rfl ?_
        refine XQ.done (by kernel_rfl) ?_
        refine XE.next ?_
        refine XC.keep [(0, _), (4, _), (8, _), (9, _), (10, _)] (Sub.cons rfl (Sub.cons rfl (Sub.cons rfl (Sub.cons rfl (Sub.cons rfl (Sub.nil _)))))) ?_
        refine XC.seq ?_
        refine XC.regionQ mixed (f := 13) (l := #[false, false, false, false, false, false, false, false, false, false, false, false, false]) rfl rfl XM.drawn' ?_
        refine XQ.pv (i := 0) (l' := #[true, false, false, false, false, false, false, false, false, false, false, false, false]) rfl (by kernel_rfl) rfl (V.move rfl) rfl rfl ?_
        refine XQ.pv (i := 1) (l' := #[true, true, false, false, false, false, false, false, false, false, false, false, false]) rfl (by kernel_rfl) rfl (V.move rfl) rfl rfl ?_
        refine XQ.pv (i := 2) (l' := #[true, true, true, false, false, false, false, false, false, false, false, false, false]) rfl (by kernel_rfl) rfl (V.nilCheckP rfl) rfl rfl ?_
        refine XQ.pv (i := 3) (l' := #[true, true, true, true, false, false, false, false, false, false, false, false, false]) rfl (by kernel_rfl) rfl (V.fieldAddr rfl fo_35_8) rfl rfl ?_
        refine XQ.load (i := 4) (l' := #[true, true, true, true, true, false, false, false, false, false, false, false, false]) (.cells _ _ _ _) [12] rfl (by kernel_rfl) rfl .here (V.load rfl inEnt (encR.ld_U_Floor _ _ (by omega)) sc_3) rfl (by kernel_rfl) rfl ?_
        refine XQ.pv (i := 5) (l' := #[true, true, true, true, true, true, false, false, false, false, false, false, false]) rfl (by kernel_rfl) rfl (V.move rfl) rfl rfl ?_
        refine XQ.pv (i := 6) (l' := #[true, true, true, true, true, true, true, false, false, false, false, false, false]) rfl (by kernel_rfl) rfl (V.nilCheckP rfl) rfl rfl ?_
        refine XQ.pv (i := 7) (l' := #[true, true, true, true, true, true, true, true, false, false, false, false, false]) rfl (by kernel_rfl) rfl (V.fieldAddr rfl fo_35_7) rfl rfl ?_
        refine XQ.load (i := 8) (l' := #[true, true, true, true, true, true, true, true, true, false, false, false, false]) (.cells _ _ _ _) [12] rfl (by kernel_rfl) rfl .here (V.load rfl inEnt (encR.ld_U_Time _ _ (by omega)) sc_3) rfl (by kernel_rfl) rfl ?_
        refine XQ.pv (i := 9) (l' := #[true, true, true, true, true, true, true, true, true, true, false, false, false]) rfl (by kernel_rfl) rfl (V.max2 rfl rfl) rfl rfl ?_
        refine XQ.pv (i := 10) (l' := #[true, true, true, true, true, true, true, true, true, true, true, false, false]) rfl (by kernel_rfl) rfl (V.nilCheckP rfl) rfl rfl ?_
        refine XQ.pv (i := 11) (l' := #[true, true, true, true, true, true, true, true, true, true, true, true, false]) rfl (by kernel_rfl) rfl (V.fieldAddr rfl fo_35_8) rfl rfl ?_
        refine XQ.store (i := 12) (l' := #[true, true, true, true, true, true, true, true, true, true, true, true, true]) rfl (by kernel_rfl) rfl rfl rfl .here (encR.st_U_Floor _ _ (by omega) _) rfl sz_3_1 (fun _ hw' => ⟨fun hs => (hs 12 (by simp) rfl).elim, fun hs => (hs 12 (by simp) rfl).elim, trivial⟩) ?_
        refine XQ.done (by kernel_rfl) ?_
        refine XE.next ?_
        refine XC.keep [(0, _), (4, _), (8, _), (9, _)] (Sub.cons rfl (Sub.cons rfl (Sub.cons rfl (Sub.cons rfl (Sub.nil _))))) ?_
        refine XC.seq ?_
        refine XC.regionQ mixed (f := 14) (l := #[false, false, false, false, false, false, false, false, false, false, false, false, false, false]) rfl rfl XM.drawn' ?_
        refine XQ.pv (i := 0) (l' := #[true, false, false, false, false, false, false, false, false, false, false, false, false, false]) rfl (by kernel_rfl) rfl (V.move rfl) rfl rfl ?_
        refine XQ.pv (i := 1) (l' := #[true, true, false, false, false, false, false, false, false, false, false, false, false, false]) rfl (by kernel_rfl) rfl (V.move rfl) rfl rfl ?_
        refine XQ.pv (i := 2) (l' := #[true, true, true, false, false, false, false, false, false, false, false, false, false, false]) rfl (by kernel_rfl) rfl (V.nilCheckP rfl) rfl rfl ?_
        refine XQ.pv (i := 3) (l' := #[true, true, true, true, false, false, false, false, false, false, false, false, false, false]) rfl (by kernel_rfl) rfl (V.fieldAddr rfl fo_35_7) rfl rfl ?_
        refine XQ.load (i := 4) (l' := #[true, true, true, true, true, false, false, false, false, false, false, false, false, false]) (.cells _ _ _ _) [13] rfl (by kernel_rfl) rfl .here (V.load rfl inEnt (encR.ld_U_Time _ _ (by omega)) sc_3) rfl (by kernel_rfl) rfl ?_
        refine XQ.pv (i := 5) (l' := #[true, true, true, true, true, true, false, false, false, false, false, false, false, false]) rfl (by kernel_rfl) rfl (V.move rfl) rfl rfl ?_
        refine XQ.pv (i := 6) (l' := #[true, true, true, true, true, true, true, false, false, false, false, false, false, false]) rfl (by kernel_rfl) rfl (V.nilCheckP rfl) rfl rfl ?_
        refine XQ.pv (i := 7) (l' := #[true, true, true, true, true, true, true, true, false, false, false, false, false, false]) rfl (by kernel_rfl) rfl (V.fieldAddr rfl fo_35_5) rfl rfl ?_
        refine XQ.load (i := 8) (l' := #[true, true, true, true, true, true, true, true, true, false, false, false, false, false]) (.cells _ _ _ _) [13] rfl (by kernel_rfl) rfl .here (V.load rfl inEnt (encR.ld_U_Weight _ _ (by omega)) sc_3) rfl (by kernel_rfl) rfl ?_
        refine XQ.pv (i := 9) (l' := #[true, true, true, true, true, true, true, true, true, true, false, false, false, false]) rfl (by kernel_rfl) rfl (V.quo rfl rfl hqz _ (quo_nn (by omega) (show 0 < z.1.wt z.2 from hzw) (by omega))) rfl rfl ?_
        refine XQ.pv (i := 10) (l' := #[true, true, true, true, true, true, true, true, true, true, true, false, false, false]) rfl (by kernel_rfl) rfl (V.add rfl rfl _ (SF.i64_le (a := z.1.v z.2 + 1048576 / z.1.wt z.2) (by omega) (by omega))) rfl rfl ?_
        refine XQ.pv (i := 11) (l' := #[true, true, true, true, true, true, true, true, true, true, true, true, false, false]) rfl (by kernel_rfl) rfl (V.nilCheckP rfl) rfl rfl ?_
        refine XQ.pv (i := 12) (l' := #[true, true, true, true, true, true, true, true, true, true, true, true, true, false]) rfl (by kernel_rfl) rfl (V.fieldAddr rfl fo_35_7) rfl rfl ?_
        refine XQ.store (i := 13) (l' := #[true, true, true, true, true, true, true, true, true, true, true, true, true, true]) rfl (by kernel_rfl) rfl rfl rfl .here (encR.st_U_Time _ _ (by omega) _) rfl sz_3_1 (fun _ hw' => ⟨fun hs => (hs 13 (by simp) rfl).elim, fun hs => (hs 13 (by simp) rfl).elim, trivial⟩) ?_
        refine XQ.done (by kernel_rfl) ?_
        refine XE.next ?_
        refine XC.keep [(0, _), (4, _), (8, _), (9, _)] (Sub.cons rfl (Sub.cons rfl (Sub.cons rfl (Sub.cons rfl (Sub.nil _))))) ?_
        refine XC.seq ?_
        refine XC.region ?_
        refine XO.v (V.move rfl) rfl ?_
        refine XO.v (V.nilCheckP rfl) rfl ?_
        refine XO.v (V.fieldAddr rfl fo_35_6) rfl ?_
        refine XO.v (V.load rfl (inXM .here) (encR.ld_U_Ran _ _ (by omega)) sc_3) rfl ?_
        refine XO.v (V.add rfl rfl _ (SF.i64_le (a := z.1.ran z.2 + 1) (by omega) (by omega))) rfl ?_
        refine XO.v (V.nilCheckP rfl) rfl ?_
        refine XO.v (V.fieldAddr rfl fo_35_6) rfl ?_
        refine XO.store rfl rfl .here (encR.st_U_Ran _ _ (by omega) _) rfl sz_3_1 ?_
        refine XO.nil ?_
        refine XE.next ?_
        refine XC.keep [(0, _), (4, _), (8, _), (9, _)] (Sub.cons rfl (Sub.cons rfl (Sub.cons rfl (Sub.cons rfl (Sub.nil _))))) ?_
        refine XC.seq ?_
        refine XC.seq ?_
        refine XC.region ?_
        refine XO.v (V.move rfl) rfl ?_
        refine XO.v (V.nilCheckP rfl) rfl ?_
        refine XO.v (V.fieldAddr rfl fo_35_9) rfl ?_
        refine XO.v (V.load rfl (inXM .here) (encR.ld_U_Quota _ _ (by omega)) sc_3) rfl ?_
        refine XO.v (V.cmp rfl rfl rfl) rfl ?_
        refine XO.nil ?_
        refine XE.next ?_
        refine XC.keep [(0, _), (4, _), (8, _), (9, _), (166, _)] (Sub.cons rfl (Sub.cons rfl (Sub.cons rfl (Sub.cons rfl (Sub.cons rfl (Sub.nil _)))))) ?_
        refine XC.condP rfl (fun h14 => ?_) (fun h14 => ?_)
        · skip
          have hc : z.1.chg z.2 = { ({ z.1 with floor := fset z.1.floor (z.1.par z.2) (max (z.1.floor (z.1.par z.2)) (z.1.v z.2)), v := fset z.1.v z.2 (z.1.v z.2 + 1048576 / z.1.wt z.2), ran := fset z.1.ran z.2 (z.1.ran z.2 + 1), used := fset z.1.used z.2 (z.1.used z.2 + 1) } : SF) with was := fset z.1.was z.2 (SF.ready ({ z.1 with floor := fset z.1.floor (z.1.par z.2) (max (z.1.floor (z.1.par z.2)) (z.1.v z.2)), v := fset z.1.v z.2 (z.1.v z.2 + 1048576 / z.1.wt z.2), ran := fset z.1.ran z.2 (z.1.ran z.2 + 1), used := fset z.1.used z.2 (z.1.used z.2 + 1) } : SF) z.2) } := by
            have h9 : z.1.chg1 z.2 = ({ z.1 with floor := fset z.1.floor (z.1.par z.2) (max (z.1.floor (z.1.par z.2)) (z.1.v z.2)), v := fset z.1.v z.2 (z.1.v z.2 + 1048576 / z.1.wt z.2), ran := fset z.1.ran z.2 (z.1.ran z.2 + 1), used := fset z.1.used z.2 (z.1.used z.2 + 1) } : SF) := by unfold SF.chg1; rw [if_pos (by omega)]
            unfold SF.chg; rw [h9]
          have zI1 : SF.Inv ({ z.1 with floor := fset z.1.floor (z.1.par z.2) (max (z.1.floor (z.1.par z.2)) (z.1.v z.2)), v := fset z.1.v z.2 (z.1.v z.2 + 1048576 / z.1.wt z.2), ran := fset z.1.ran z.2 (z.1.ran z.2 + 1), used := fset z.1.used z.2 (z.1.used z.2 + 1) } : SF) d := ⟨zI.h0, zI.up, zI.was, zI.quo, zI.wt⟩
          refine XC.region ?_
          refine XO.v (V.move rfl) rfl ?_
          refine XO.v (V.nilCheckP rfl) rfl ?_
          refine XO.v (V.fieldAddr rfl fo_35_11) rfl ?_
          refine XO.v (V.load rfl (inXM .here) (encR.ld_U_Used _ _ (by omega)) sc_3) rfl ?_
          refine XO.v (V.add rfl rfl _ (SF.i64_le (a := z.1.used z.2 + 1) (by omega) (by omega))) rfl ?_
          refine XO.v (V.nilCheckP rfl) rfl ?_
          refine XO.v (V.fieldAddr rfl fo_35_11) rfl ?_
          refine XO.store rfl rfl .here (encR.st_U_Used _ _ (by omega) _) rfl sz_3_1 ?_
          refine XO.nil ?_
          refine XE.next ?_
          refine XC.keep [(0, _), (4, _), (8, _), (9, _)] (Sub.cons rfl (Sub.cons rfl (Sub.cons rfl (Sub.cons rfl (Sub.nil _))))) ?_
          refine XC.region ?_
          refine XO.v (V.move rfl) rfl ?_
          refine XO.v (V.move rfl) rfl ?_
          refine XO.v (V.move rfl) rfl ?_
          refine XO.call rfl (r_Ready _ _ _ d zI1 _ (by omega)) (.cons .here .nil) cl_42 rfl ?_
          rintro _ _ ⟨rfl, rfl⟩
          refine XO.v (V.nilCheckP rfl) rfl ?_
          refine XO.v (V.fieldAddr rfl fo_35_3) rfl ?_
          refine XO.store rfl rfl .here (encR.st_U_Was _ _ (by omega) _) rfl sz_4_1 ?_
          refine XO.nil ?_
          refine XE.blockNormal ?_
          refine XE.next ?_
          refine XC.keep [(0, _), (4, _), (8, _)] (Sub.cons rfl (Sub.cons rfl (Sub.cons rfl (Sub.nil _)))) ?_
          refine XC.region ?_
          refine XO.v (V.move rfl) rfl ?_
          refine XO.v (V.move rfl) rfl ?_
          refine XO.v (V.nilCheckP rfl) rfl ?_
          refine XO.v (V.fieldAddr rfl fo_38_0) rfl ?_
          refine XO.v (V.indexArr rfl rfl ar_36 (by omega)) rfl ?_
          refine XO.v (V.fieldAddr rfl fo_35_4) rfl ?_
          refine XO.v (V.load rfl (inXM .here) (encR.ld_U_In _ _ (by omega)) sc_3) rfl ?_
          refine XO.v (V.assign rfl) rfl ?_
          refine XO.nil ?_
          refine XE.again ((z.1.chg z.2, z.1.par z.2)) ?_ ?_ (Sub.cons rfl (Sub.cons rfl (Sub.cons rfl (Sub.nil _)))) (fun _ hw => by rw [show (z.1.chg z.2, z.1.par z.2).1 = z.1.chg z.2 from rfl, hc]; exact XM.pick (.cons .here .nil) hw)
          · skip
            show (if z.1.par z.2 = 0 then 0 else d (z.1.par z.2) + 1) < (if z.2 = 0 then 0 else d z.2 + 1)
            rw [if_neg (show ¬ z.2 = 0 by omega)]
            split <;> omega
          · skip
            have hpn : z.1.par z.2 = 0 ∨ (0 < z.1.par z.2 ∧ z.1.par z.2 < 30 ∧ z.1.here (z.1.par z.2) = true) := by
              by_cases c : z.1.par z.2 = 0
              · exact .inl c
              · exact .inr ⟨by omega, by omega, p2⟩
            refine ⟨zI.chg z0 z1 z2, hpn, ?_, by show d (z.1.par z.2) ≤ d y.2; omega, k2, by show d (z.1.par z.2) + 1 ≤ k2; omega, zl⟩
            show (z.1.chg z.2).Small (Bd + 1048577 * ((d y.2 : Int) - (d (z.1.par z.2) : Int)))
            exact (SF.Small.chg zI zS z0 z1 z2).mono (by omega)
        · skip
          have hc : z.1.chg z.2 = { ({ z.1 with floor := fset z.1.floor (z.1.par z.2) (max (z.1.floor (z.1.par z.2)) (z.1.v z.2)), v := fset z.1.v z.2 (z.1.v z.2 + 1048576 / z.1.wt z.2), ran := fset z.1.ran z.2 (z.1.ran z.2 + 1) } : SF) with was := fset z.1.was z.2 (SF.ready ({ z.1 with floor := fset z.1.floor (z.1.par z.2) (max (z.1.floor (z.1.par z.2)) (z.1.v z.2)), v := fset z.1.v z.2 (z.1.v z.2 + 1048576 / z.1.wt z.2), ran := fset z.1.ran z.2 (z.1.ran z.2 + 1) } : SF) z.2) } := by
            have h9 : z.1.chg1 z.2 = ({ z.1 with floor := fset z.1.floor (z.1.par z.2) (max (z.1.floor (z.1.par z.2)) (z.1.v z.2)), v := fset z.1.v z.2 (z.1.v z.2 + 1048576 / z.1.wt z.2), ran := fset z.1.ran z.2 (z.1.ran z.2 + 1) } : SF) := by unfold SF.chg1; rw [if_neg (by omega)]
            unfold SF.chg; rw [h9]
          have zI1 : SF.Inv ({ z.1 with floor := fset z.1.floor (z.1.par z.2) (max (z.1.floor (z.1.par z.2)) (z.1.v z.2)), v := fset z.1.v z.2 (z.1.v z.2 + 1048576 / z.1.wt z.2), ran := fset z.1.ran z.2 (z.1.ran z.2 + 1) } : SF) d := ⟨zI.h0, zI.up, zI.was, zI.quo, zI.wt⟩
          refine XC.skip ?_
          refine XE.next ?_
          refine XC.keep [(0, _), (4, _), (8, _), (9, _)] (Sub.cons rfl (Sub.cons rfl (Sub.cons rfl (Sub.cons rfl (Sub.nil _))))) ?_
          refine XC.region ?_
          refine XO.v (V.move rfl) rfl ?_
          refine XO.v (V.move rfl) rfl ?_
          refine XO.v (V.move rfl) rfl ?_
          refine XO.call rfl (r_Ready _ _ _ d zI1 _ (by omega)) (.cons .here .nil) cl_42 rfl ?_
          rintro _ _ ⟨rfl, rfl⟩
          refine XO.v (V.nilCheckP rfl) rfl ?_
          refine XO.v (V.fieldAddr rfl fo_35_3) rfl ?_
          refine XO.store rfl rfl .here (encR.st_U_Was _ _ (by omega) _) rfl sz_4_1 ?_
          refine XO.nil ?_
          refine XE.blockNormal ?_
          refine XE.next ?_
          refine XC.keep [(0, _), (4, _), (8, _)] (Sub.cons rfl (Sub.cons rfl (Sub.cons rfl (Sub.nil _)))) ?_
          refine XC.region ?_
          refine XO.v (V.move rfl) rfl ?_
          refine XO.v (V.move rfl) rfl ?_
          refine XO.v (V.nilCheckP rfl) rfl ?_
          refine XO.v (V.fieldAddr rfl fo_38_0) rfl ?_
          refine XO.v (V.indexArr rfl rfl ar_36 (by omega)) rfl ?_
          refine XO.v (V.fieldAddr rfl fo_35_4) rfl ?_
          refine XO.v (V.load rfl (inXM .here) (encR.ld_U_In _ _ (by omega)) sc_3) rfl ?_
          refine XO.v (V.assign rfl) rfl ?_
          refine XO.nil ?_
          refine XE.again ((z.1.chg z.2, z.1.par z.2)) ?_ ?_ (Sub.cons rfl (Sub.cons rfl (Sub.cons rfl (Sub.nil _)))) (fun _ hw => by rw [show (z.1.chg z.2, z.1.par z.2).1 = z.1.chg z.2 from rfl, hc]; exact XM.pick (.cons .here .nil) hw)
          · skip
            show (if z.1.par z.2 = 0 then 0 else d (z.1.par z.2) + 1) < (if z.2 = 0 then 0 else d z.2 + 1)
            rw [if_neg (show ¬ z.2 = 0 by omega)]
            split <;> omega
          · skip
            have hpn : z.1.par z.2 = 0 ∨ (0 < z.1.par z.2 ∧ z.1.par z.2 < 30 ∧ z.1.here (z.1.par z.2) = true) := by
              by_cases c : z.1.par z.2 = 0
              · exact .inl c
              · exact .inr ⟨by omega, by omega, p2⟩
            refine ⟨zI.chg z0 z1 z2, hpn, ?_, by show d (z.1.par z.2) ≤ d y.2; omega, k2, by show d (z.1.par z.2) + 1 ≤ k2; omega, zl⟩
            show (z.1.chg z.2).Small (Bd + 1048577 * ((d y.2 : Int) - (d (z.1.par z.2) : Int)))
            exact (SF.Small.chg zI zS z0 z1 z2).mono (by omega)
      · skip
        refine XC.exit ?_
        refine XE.thenExit ?_
        refine XE.thenExit ?_
        refine XE.blockExit ?_
        refine XE.next ?_
        refine XC.keep [(4, _)] (Sub.cons rfl (Sub.nil _)) ?_
        refine XC.seq ?_
        refine XC.region ?_
        refine XO.v (V.move rfl) rfl ?_
        refine XO.v (V.sub rfl rfl _ (IntWalk.i64_in _ (by omega))) rfl ?_
        refine XO.v (V.assign rfl) rfl ?_
        refine XO.nil ?_
        refine XE.next ?_
        refine XC.keep [(2, _)] (Sub.cons rfl (Sub.nil _)) ?_
        refine XC.ret ?_
        refine XE.ret1 rfl rfl (post_of (.cons .here .nil) rfl ?_)
        have hz0 : z.2 = 0 := by
          rcases zn with q | q
          · exact q
          · omega
        rw [hz0, SF.chgF_stop _ _ (by omega)] at zl
        exact ⟨by rw [htk], by rw [zl]⟩
end Go.X
