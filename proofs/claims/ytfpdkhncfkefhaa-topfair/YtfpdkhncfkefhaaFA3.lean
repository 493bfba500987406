import Derived.Test.YtfpdkhncfkefhaaFA2
namespace Go.X
open Go Go.Proofs

set_option maxRecDepth 10000 in
set_option maxHeartbeats 4000000 in
theorem fair_ns (p1 : Option Addr) (c1 : Nat) (b2 o2 n2 c2 : Nat) (hl2 : n2 ≤ c2) (w2 : Int → Int) (hw2 : ∀ z : Int, 0 ≤ z → z < n2 → -9223372036854775808 ≤ w2 z ∧ w2 z ≤ 9223372036854775807) (tk : Int) (htk : -9223372036854775808 ≤ tk ∧ tk ≤ 9223372036854775807) : Spec Try.prog 5 [.slice p1 0 c1, .slice (some ⟨b2, o2, none⟩) n2 c2, .int .i64 tk]
    [.ro b2 o2 n2 (encI w2 n2)]
    (fun v H1 => v = .bool true ∧ H1 = []) := by
  refine Spec.intro Try.func5 rfl rfl ?_
  intro W
  refine XC.seq ?_
  refine XC.region ?_
  refine XO.v (V.assign rfl) rfl ?_
  refine XO.nil ?_
  refine XE.next ?_
  refine XC.keep [(0, _), (1, _), (2, _)] (Sub.cons rfl (Sub.cons rfl (Sub.cons rfl (Sub.nil _)))) ?_
  refine XC.seq ?_
  refine XC.region ?_
  refine XO.call rfl (f_New) .nil cl_9 rfl ?_
  rintro _ _ ⟨bs, rfl, t0, t0l, t0R, rfl⟩
  refine XO.v (V.assign rfl) rfl ?_
  refine XO.nil ?_
  refine XE.next ?_
  refine XC.keep [(0, _), (1, _), (2, _), (7, _)] (Sub.cons rfl (Sub.cons rfl (Sub.cons rfl (Sub.cons rfl (Sub.nil _))))) ?_
  refine XC.seq ?_
  refine XC.seq ?_
  refine XC.region ?_
  have hO0 : t0.toSF.Ok dW 1 0 := by rw [t0l]; exact SF.init_okd SF.dW_le
  refine XO.v (V.move rfl) rfl ?_
  refine XO.v (V.ptrNilP rfl Try.underlying25 rfl) rfl ?_
  refine XO.v (V.move rfl) rfl ?_
  refine XO.guardRun rfl rfl rfl ?_
  refine XO.v (V.move rfl) rfl ?_
  refine XO.guardRun rfl rfl rfl ?_
  refine XO.call rfl (f_AddTask _ _ t0 dW hO0.inv t0R _ _ _) (.cons .here (.cons .here .nil)) cl_16 rfl ?_
  rintro _ _ ⟨rfl, t1, t1l, t1R, rfl⟩
  have e1 : t1.toSF = F1 := by rw [t1l, t0l]; rfl
  have hA : t0.toSF.addTE 0 0 1 = 0 := by rw [t0l]; exact fA
  have hO1 : t1.toSF.TW 1 0 := by rw [e1]; exact F1_tw
  have hB : t1.toSF.tkE 0 = 0 := by rw [e1]; exact fB
  refine XO.guardRun rfl rfl rfl ?_
  refine XO.v (V.errNil rfl Try.underlying40 rfl) rfl ?_
  refine XO.v (V.pick rfl rfl rfl rfl) rfl ?_
  refine XO.v (V.move rfl) rfl ?_
  refine XO.splitF (d := 41) rfl (by simp [hA]) ?_
  refine XO.guardRun rfl rfl rfl ?_
  refine XO.v (V.move rfl) rfl ?_
  refine XO.guardRun rfl rfl rfl ?_
  refine XO.call rfl (f_wake _ _ t1 dW hO1.ok.inv t1R _ _) (.cons .here (.cons .here .nil)) cl_17 rfl ?_
  rintro _ _ ⟨rfl, t2, t2l, t2R, rfl⟩
  have e2 : t2.toSF = F2 := by rw [t2l, e1]; rfl
  have hO2 : t2.toSF.TW 1 0 := by rw [e2]; exact F2_tw
  have hC : (t2.toSF.tick dW).1 = 0 := by rw [e2]; exact fC
  refine XO.guardRun rfl rfl rfl ?_
  refine XO.v (V.errNil rfl Try.underlying40 rfl) rfl ?_
  refine XO.v (V.pick rfl rfl rfl rfl) rfl ?_
  refine XO.v (V.move rfl) rfl ?_
  refine XO.splitF (d := 46) rfl (by simp [hB]) ?_
  refine XO.guardRun rfl rfl rfl ?_
  refine XO.v (V.move rfl) rfl ?_
  refine XO.guardRun rfl rfl rfl ?_
  refine XO.call rfl (f_Tick _ _ t2 dW hO2.ok.inv t2R (fun n a b => by have := SF.dW_le n; omega) (2000000000 * 0) ⟨by omega, by omega⟩ hO2.ok.small ⟨hO2.ok.now.1, by have := hO2.ok.now; omega⟩ (hO2.ok.tick0 (by omega)).set) (.cons .here (.cons .here .nil)) cl_18 rfl ?_
  rintro _ _ ⟨rfl, t3, t3l, t3R, rfl⟩
  refine XO.guardRun rfl rfl rfl ?_
  refine XO.v (V.cmp rfl rfl rfl) rfl ?_
  refine XO.v (V.pick rfl rfl rfl rfl) rfl ?_
  refine XO.nil ?_
  refine XE.next ?_
  refine XC.keep [(0, _), (1, _), (2, _), (50, _)] (Sub.cons rfl (Sub.cons rfl (Sub.cons rfl (Sub.cons rfl (Sub.nil _))))) ?_
  refine XC.condFP rfl (by simp [hC]) ?_
  refine XC.skip ?_
  refine XE.next ?_
  refine XC.keep [(0, _), (1, _), (2, _)] (Sub.cons rfl (Sub.cons rfl (Sub.cons rfl (Sub.nil _)))) ?_
  refine XC.seq ?_
  refine XC.seq ?_
  refine XC.region ?_
  refine XO.v (V.move rfl) rfl ?_
  refine XO.v (V.lenSl rfl Try.underlying46) rfl ?_
  refine XO.v (V.cmp rfl rfl rfl) rfl ?_
  refine XO.v (V.move rfl) rfl ?_
  refine XO.splitP (d := 54) rfl (fun h3 => ?_) (fun h3 => ?_)
  · skip
    refine XO.guardSkip rfl rfl rfl rfl rfl ?_
    refine XO.guardSkip rfl rfl rfl rfl rfl ?_
    refine XO.guardSkip rfl rfl rfl rfl rfl ?_
    refine XO.v (V.pick rfl rfl rfl rfl) rfl ?_
    refine XO.v (V.move rfl) rfl ?_
    refine XO.guardSkip rfl rfl rfl rfl rfl ?_
    refine XO.guardSkip rfl rfl rfl rfl rfl ?_
    refine XO.v (V.pick rfl rfl rfl rfl) rfl ?_
    refine XO.v (V.move rfl) rfl ?_
    refine XO.guardSkip rfl rfl rfl rfl rfl ?_
    refine XO.guardSkip rfl rfl rfl rfl rfl ?_
    refine XO.v (V.pick rfl rfl rfl rfl) rfl ?_
    refine XO.nil ?_
    refine XE.next ?_
    refine XC.keep [(0, _), (1, _), (2, _), (66, _)] (Sub.cons rfl (Sub.cons rfl (Sub.cons rfl (Sub.cons rfl (Sub.nil _))))) ?_
    refine XC.condT rfl rfl ?_
    refine XC.seq ?_
    refine XC.region ?_
    refine XO.v (V.assign rfl) rfl ?_
    refine XO.nil ?_
    refine XE.next ?_
    refine XC.keep [(6, _)] (Sub.cons rfl (Sub.nil _)) ?_
    refine XC.ret ?_
    refine XE.thenRet ?_
    refine XE.ret1 rfl rfl (post_of .nil rfl ?_)
    exact ⟨rfl, rfl⟩
  · skip
    refine XO.guardRun rfl rfl rfl ?_
    refine XO.v (V.move rfl) rfl ?_
    refine XO.guardRun rfl rfl rfl ?_
    refine XO.v (V.lenSl rfl Try.underlying46) rfl ?_
    refine XO.guardRun rfl rfl rfl ?_
    refine XO.v (V.cmp rfl rfl rfl) rfl ?_
    refine XO.v (V.pick rfl rfl rfl rfl) rfl ?_
    refine XO.v (V.move rfl) rfl ?_
    refine XO.splitP (d := 59) rfl (fun h4 => ?_) (fun h4 => ?_)
    · skip
      refine XO.guardSkip rfl rfl rfl rfl rfl ?_
      refine XO.guardSkip rfl rfl rfl rfl rfl ?_
      refine XO.v (V.pick rfl rfl rfl rfl) rfl ?_
      refine XO.v (V.move rfl) rfl ?_
      refine XO.guardSkip rfl rfl rfl rfl rfl ?_
      refine XO.guardSkip rfl rfl rfl rfl rfl ?_
      refine XO.v (V.pick rfl rfl rfl rfl) rfl ?_
      refine XO.nil ?_
      refine XE.next ?_
      refine XC.keep [(0, _), (1, _), (2, _), (66, _)] (Sub.cons rfl (Sub.cons rfl (Sub.cons rfl (Sub.cons rfl (Sub.nil _))))) ?_
      refine XC.condT rfl rfl ?_
      refine XC.seq ?_
      refine XC.region ?_
      refine XO.v (V.assign rfl) rfl ?_
      refine XO.nil ?_
      refine XE.next ?_
      refine XC.keep [(6, _)] (Sub.cons rfl (Sub.nil _)) ?_
      refine XC.ret ?_
      refine XE.thenRet ?_
      refine XE.ret1 rfl rfl (post_of .nil rfl ?_)
      exact ⟨rfl, rfl⟩
    · skip
      refine XO.guardRun rfl rfl rfl ?_
      refine XO.v (V.move rfl) rfl ?_
      refine XO.guardRun rfl rfl rfl ?_
      refine XO.v (V.cmp rfl rfl rfl) rfl ?_
      refine XO.v (V.pick rfl rfl rfl rfl) rfl ?_
      refine XO.v (V.move rfl) rfl ?_
      refine XO.splitP (d := 63) rfl (fun h5 => ?_) (fun h5 => ?_)
      · skip
        refine XO.guardSkip rfl rfl rfl rfl rfl ?_
        refine XO.guardSkip rfl rfl rfl rfl rfl ?_
        refine XO.v (V.pick rfl rfl rfl rfl) rfl ?_
        refine XO.nil ?_
        refine XE.next ?_
        refine XC.keep [(0, _), (1, _), (2, _), (66, _)] (Sub.cons rfl (Sub.cons rfl (Sub.cons rfl (Sub.cons rfl (Sub.nil _))))) ?_
        refine XC.condT rfl rfl ?_
        refine XC.seq ?_
        refine XC.region ?_
        refine XO.v (V.assign rfl) rfl ?_
        refine XO.nil ?_
        refine XE.next ?_
        refine XC.keep [(6, _)] (Sub.cons rfl (Sub.nil _)) ?_
        refine XC.ret ?_
        refine XE.thenRet ?_
        refine XE.ret1 rfl rfl (post_of .nil rfl ?_)
        exact ⟨rfl, rfl⟩
      · skip
        refine XO.guardRun rfl rfl rfl ?_
        refine XO.v (V.move rfl) rfl ?_
        refine XO.guardRun rfl rfl rfl ?_
        refine XO.v (V.cmp rfl rfl rfl) rfl ?_
        refine XO.v (V.pick rfl rfl rfl rfl) rfl ?_
        refine XO.nil ?_
        refine XE.next ?_
        refine XC.keep [(0, _), (1, _), (2, _), (66, _)] (Sub.cons rfl (Sub.cons rfl (Sub.cons rfl (Sub.cons rfl (Sub.nil _))))) ?_
        refine XC.condP rfl (fun h6 => ?_) (fun h6 => ?_)
        · skip
          refine XC.seq ?_
          refine XC.region ?_
          refine XO.v (V.assign rfl) rfl ?_
          refine XO.nil ?_
          refine XE.next ?_
          refine XC.keep [(6, _)] (Sub.cons rfl (Sub.nil _)) ?_
          refine XC.ret ?_
          refine XE.thenRet ?_
          refine XE.ret1 rfl rfl (post_of .nil rfl ?_)
          exact ⟨rfl, rfl⟩
        · skip
          refine XC.skip ?_
          refine XE.next ?_
          refine XC.keep [(0, _), (1, _), (2, _)] (Sub.cons rfl (Sub.cons rfl (Sub.cons rfl (Sub.nil _)))) ?_
          refine XC.seq ?_
          refine XC.region ?_
          refine XO.call rfl (f_New) .nil cl_9 rfl ?_
          rintro _ _ ⟨bs2, rfl, u0, u0l, u0R, rfl⟩
          refine XO.v (V.assign rfl) rfl ?_
          refine XO.nil ?_
          refine XE.next ?_
          refine XC.keep [(0, _), (1, _), (2, _), (7, _)] (Sub.cons rfl (Sub.cons rfl (Sub.cons rfl (Sub.cons rfl (Sub.nil _))))) ?_
          refine XC.seq ?_
          refine XC.region ?_
          refine XO.allocZ (z := .agg (arrV (fun _ => 0) 20)) (m := 20) (C := encI (fun _ => 0) 20) (by kernel_rfl) (arrV_size (fun _ => 0) 20) (encI.box (fun _ => 0) 20) rfl ?_
          intro bw
          refine XO.allocZ (z := .agg (arrV (fun _ => 0) 20)) (m := 20) (C := encI (fun _ => 0) 20) (by kernel_rfl) (arrV_size (fun _ => 0) 20) (encI.box (fun _ => 0) 20) rfl ?_
          intro bg
          refine XO.nil ?_
          refine XE.next ?_
          refine XC.keep [(0, _), (1, _), (2, _), (7, _), (8, _), (9, _)] (Sub.cons rfl (Sub.cons rfl (Sub.cons rfl (Sub.cons rfl (Sub.cons rfl (Sub.cons rfl (Sub.nil _))))))) ?_
          refine XC.seq ?_
          refine XC.region ?_
          refine XO.allocZ (z := .agg (arrV (fun _ => 0) 4)) (m := 4) (C := encI (fun _ => 0) 4) (by kernel_rfl) (arrV_size (fun _ => 0) 4) (encI.box (fun _ => 0) 4) rfl ?_
          intro bq
          refine XO.nil ?_
          refine XE.next ?_
          refine XC.keep [(0, _), (1, _), (2, _), (7, _), (8, _), (9, _), (10, _)] (Sub.cons rfl (Sub.cons rfl (Sub.cons rfl (Sub.cons rfl (Sub.cons rfl (Sub.cons rfl (Sub.cons rfl (Sub.nil _)))))))) ?_
          refine XC.seq ?_
          refine XC.seq ?_
          refine XC.region ?_
          refine XO.v (V.assign rfl) rfl ?_
          refine XO.nil ?_
          refine XE.next ?_
          refine XC.keep [(0, _), (1, _), (2, _), (7, _), (8, _), (9, _), (10, _), (11, _)] (Sub.cons rfl (Sub.cons rfl (Sub.cons rfl (Sub.cons rfl (Sub.cons rfl (Sub.cons rfl (Sub.cons rfl (Sub.cons rfl (Sub.nil _))))))))) ?_
          refine XC.block ?_
          refine XC.loop (σ := SC × (Int → Int) × Int) (fun p => (4 - p.2.2).toNat) (fun p => p.1.Rep ∧ p.1.toSF.TF p.2.2 0 (fun _ => 0) (fun _ => 0) p.2.1 0 ∧ p.1.toSF.Z) (fun p => [(11, .int .i64 p.2.2), (0, .slice p1 0 c1), (1, .slice (some ⟨b2, o2, none⟩) n2 c2), (2, .int .i64 tk), (7, ptr bs2 0 0), (8, ptr bw 0 0), (9, ptr bg 0 0), (10, ptr bq 0 0)]) (fun p => XM W (foot [.ro b2 o2 n2 (encI w2 n2)]) [.cells bs2 0 2281 (encS p.1), .fam fam30 (SC.rows 86 p.1), .cells bw 0 20 (encI (fun _ => 0) 20), .cells bg 0 20 (encI (fun _ => 0) 20), .cells bq 0 4 (encI p.2.1 4), .ro b2 o2 n2 (encI w2 n2)]) ((u0, (fun _ => 0), 1)) ?_ (Sub.cons rfl (Sub.cons rfl (Sub.cons rfl (Sub.cons rfl (Sub.cons rfl (Sub.cons rfl (Sub.cons rfl (Sub.cons rfl (Sub.nil _))))))))) (fun _ hw => XM.pick (.cons (.there (.there (.there .here))) (.cons (.there (.there (.there .here))) (.cons (.there (.there .here)) (.cons (.there .here) (.cons .here (.cons (.there (.there .here)) .nil)))))) hw) ?_
          · skip
            exact ⟨u0R, by show u0.toSF.TF 1 0 _ _ _ 0; rw [u0l]; exact SF.TF.init _ _ _, by show u0.toSF.Z; rw [u0l]; exact SF.Z.init⟩
          intro p hp
          obtain ⟨pR, pT, pZ⟩ := hp
          have pG := pT.G0
          refine XC.seq ?_
          refine XC.seq ?_
          refine XC.region ?_
          refine XO.v (V.move rfl) rfl ?_
          refine XO.v (V.cmp rfl rfl rfl) rfl ?_
          refine XO.nil ?_
          refine XE.next ?_
          refine XC.keep [(0, _), (1, _), (2, _), (7, _), (8, _), (9, _), (10, _), (11, _), (69, _)] (Sub.cons rfl (Sub.cons rfl (Sub.cons rfl (Sub.cons rfl (Sub.cons rfl (Sub.cons rfl (Sub.cons rfl (Sub.cons rfl (Sub.cons rfl (Sub.nil _)))))))))) ?_
          refine XC.condP rfl (fun h7 => ?_) (fun h7 => ?_)
          · skip
            refine XC.skip ?_
            refine XE.next ?_
            refine XC.keep [(0, _), (1, _), (2, _), (7, _), (8, _), (9, _), (10, _), (11, _)] (Sub.cons rfl (Sub.cons rfl (Sub.cons rfl (Sub.cons rfl (Sub.cons rfl (Sub.cons rfl (Sub.cons rfl (Sub.cons rfl (Sub.nil _))))))))) ?_
            refine XC.seq ?_
            refine XC.block ?_
            refine XC.seq ?_
            refine XC.region ?_
            refine XO.v (V.move rfl) rfl ?_
            refine XO.v (V.move rfl) rfl ?_
            refine XO.v (V.mul rfl rfl _ (IntWalk.i64_in _ (by omega))) rfl ?_
            refine XO.v (V.move rfl) rfl ?_
            refine XO.v (V.lenSl rfl Try.underlying46) rfl ?_
            refine XO.v (V.add rfl rfl _ (IntWalk.i64_in _ (by omega))) rfl ?_
            refine XO.v (V.rem rfl rfl (by first | decide | omega) _ (Int.tmod_eq_emod_of_nonneg (by omega))) rfl ?_
            refine XO.v (V.add rfl rfl _ (IntWalk.i64_in _ (by omega))) rfl ?_
            refine XO.v (V.indexArr rfl rfl ar_52 (by omega)) rfl ?_
            refine XO.store rfl rfl (.there (.there (.there (.there .here)))) (encI.st _ _ _ _ (by omega)) rfl sz_3_1 ?_
            refine XO.nil ?_
            refine XE.next ?_
            refine XC.keep [(0, _), (1, _), (2, _), (7, _), (8, _), (9, _), (10, _), (11, _)] (Sub.cons rfl (Sub.cons rfl (Sub.cons rfl (Sub.cons rfl (Sub.cons rfl (Sub.cons rfl (Sub.cons rfl (Sub.cons rfl (Sub.nil _))))))))) ?_
            refine XC.seq ?_
            refine XC.region ?_
            refine XO.v (V.move rfl) rfl ?_
            refine XO.v (V.move rfl) rfl ?_
            refine XO.v (V.move rfl) rfl ?_
            refine XO.v (V.indexArr rfl rfl ar_52 (by omega)) rfl ?_
            refine XO.v (V.load rfl (inXM (.there (.there (.there (.there .here))))) (encI.ld _ _ _ (by omega)) sc_3) rfl ?_
            have hgv : fset p.2.1 p.2.2 (1 + (7 * p.2.2 + ((0 : Nat) : Int)) % 9) p.2.2 = (1 + (7 * p.2.2 + ((0 : Nat) : Int)) % 9) := fset_eq _ _ _
            obtain ⟨kE, kT, kZ⟩ := pT.addG (w := (1 + (7 * p.2.2 + ((0 : Nat) : Int)) % 9)) (by omega) (by omega)
            refine XO.call rfl (f_AddGroup _ _ p.1 dF pT.ok.inv pR _ _ _) (.cons .here (.cons .here .nil)) cl_19 rfl ?_
            rintro _ _ ⟨rfl, t, tl, tR, rfl⟩
            refine XO.v (V.errNil rfl Try.underlying40 rfl) rfl ?_
            refine XO.nil ?_
            refine XE.next ?_
            refine XC.keep [(0, _), (1, _), (2, _), (7, _), (8, _), (9, _), (10, _), (11, _), (87, _)] (Sub.cons rfl (Sub.cons rfl (Sub.cons rfl (Sub.cons rfl (Sub.cons rfl (Sub.cons rfl (Sub.cons rfl (Sub.cons rfl (Sub.cons rfl (Sub.nil _)))))))))) ?_
            refine XC.condFP rfl (by rw [hgv, kE]; simp) ?_
            refine XC.skip ?_
            refine XE.blockNormal ?_
            refine XE.next ?_
            refine XC.keep [(0, _), (1, _), (2, _), (7, _), (8, _), (9, _), (10, _), (11, _)] (Sub.cons rfl (Sub.cons rfl (Sub.cons rfl (Sub.cons rfl (Sub.cons rfl (Sub.cons rfl (Sub.cons rfl (Sub.cons rfl (Sub.nil _))))))))) ?_
            refine XC.region ?_
            refine XO.v (V.move rfl) rfl ?_
            refine XO.v (V.add rfl rfl _ (IntWalk.i64_in _ (by omega))) rfl ?_
            refine XO.v (V.assign rfl) rfl ?_
            refine XO.nil ?_
            refine XE.again ((t, fset p.2.1 p.2.2 (1 + (7 * p.2.2 + ((0 : Nat) : Int)) % 9), p.2.2 + 1)) ?_ ?_ (Sub.cons rfl (Sub.cons rfl (Sub.cons rfl (Sub.cons rfl (Sub.cons rfl (Sub.cons rfl (Sub.cons rfl (Sub.cons rfl (Sub.nil _))))))))) (fun _ hw => XM.pick (.cons .here (.cons .here (.cons .here (.cons .here (.cons .here (.cons .here .nil)))))) hw)
            · skip
              (simp; omega)
            · skip
              have et : t.toSF = p.1.toSF.addG p.2.2 0 (1 + (7 * p.2.2 + ((0 : Nat) : Int)) % 9) := by rw [tl, hgv]
              exact ⟨tR, by rw [et]; exact kT, by rw [et]; exact kZ pZ⟩
          · skip
            have hp4 : p.2.2 = 4 := by omega
            rw [hp4] at pT
            refine XC.exit ?_
            refine XE.thenExit ?_
            refine XE.thenExit ?_
            refine XE.blockExit ?_
            refine XE.next ?_
            refine XC.keep [(0, _), (1, _), (2, _), (7, _), (8, _), (9, _), (10, _)] (Sub.cons rfl (Sub.cons rfl (Sub.cons rfl (Sub.cons rfl (Sub.cons rfl (Sub.cons rfl (Sub.cons rfl (Sub.nil _)))))))) ?_
            refine XC.seq ?_
            refine XC.region ?_
            refine XO.v (V.assign rfl) rfl ?_
            refine XO.nil ?_
            refine XE.next ?_
            refine XC.keep [(0, _), (1, _), (2, _), (7, _), (8, _), (9, _), (10, _), (12, _)] (Sub.cons rfl (Sub.cons rfl (Sub.cons rfl (Sub.cons rfl (Sub.cons rfl (Sub.cons rfl (Sub.cons rfl (Sub.cons rfl (Sub.nil _))))))))) ?_
            refine XC.seq ?_
            refine XC.seq ?_
            refine XC.region ?_
            refine XO.v (V.assign rfl) rfl ?_
            refine XO.nil ?_
            refine XE.next ?_
            refine XC.keep [(0, _), (1, _), (2, _), (7, _), (8, _), (9, _), (10, _), (12, _), (13, _)] (Sub.cons rfl (Sub.cons rfl (Sub.cons rfl (Sub.cons rfl (Sub.cons rfl (Sub.cons rfl (Sub.cons rfl (Sub.cons rfl (Sub.cons rfl (Sub.nil _)))))))))) ?_
            refine XC.block ?_
            refine XC.loop (σ := SC × (Int → Int) × (Int → Int) × Int × Int) (fun y => ((0 : Nat) - y.2.2.2.2).toNat) (fun y => y.1.Rep ∧ y.1.toSF.TF 4 y.2.2.2.1 y.2.1 y.2.2.1 p.2.1 0 ∧ y.1.toSF.Z ∧ 0 ≤ y.2.2.2.1 ∧ y.2.2.2.1 ≤ y.2.2.2.2 ∧ y.2.2.2.2 ≤ (0 : Nat)) (fun y => [(12, .int .i64 y.2.2.2.1), (13, .int .i64 y.2.2.2.2), (0, .slice p1 0 c1), (1, .slice (some ⟨b2, o2, none⟩) n2 c2), (2, .int .i64 tk), (7, ptr bs2 0 0), (8, ptr bw 0 0), (9, ptr bg 0 0), (10, ptr bq 0 0)]) (fun y => XM W (foot [.ro b2 o2 n2 (encI w2 n2)]) [.cells bs2 0 2281 (encS y.1), .fam fam30 (SC.rows 86 y.1), .cells bw 0 20 (encI y.2.1 20), .cells bg 0 20 (encI y.2.2.1 20), .cells bq 0 4 (encI p.2.1 4), .ro b2 o2 n2 (encI w2 n2)]) ((p.1, (fun _ => 0), (fun _ => 0), 0, 0)) ?_ (Sub.cons rfl (Sub.cons rfl (Sub.cons rfl (Sub.cons rfl (Sub.cons rfl (Sub.cons rfl (Sub.cons rfl (Sub.cons rfl (Sub.cons rfl (Sub.nil _)))))))))) (fun _ hw => XM.pick (.cons .here (.cons .here (.cons .here (.cons .here (.cons .here (.cons .here .nil)))))) hw) ?_
            · skip
              exact ⟨pR, pT, pZ, by simp, by simp, by simp⟩
            intro y hy
            obtain ⟨yR, yT, yZ, yn0, yn1, yn2⟩ := hy
            refine XC.seq ?_
            refine XC.seq ?_
            refine XC.region ?_
            refine XO.v (V.move rfl) rfl ?_
            refine XO.v (V.move rfl) rfl ?_
            refine XO.v (V.lenSl rfl Try.underlying46) rfl ?_
            refine XO.v (V.cmp rfl rfl rfl) rfl ?_
            refine XO.nil ?_
            refine XE.next ?_
            refine XC.keep [(0, _), (1, _), (2, _), (7, _), (8, _), (9, _), (10, _), (12, _), (13, _), (91, _)] (Sub.cons rfl (Sub.cons rfl (Sub.cons rfl (Sub.cons rfl (Sub.cons rfl (Sub.cons rfl (Sub.cons rfl (Sub.cons rfl (Sub.cons rfl (Sub.cons rfl (Sub.nil _))))))))))) ?_
            refine XC.condFP rfl (by simp; omega) ?_
            refine XC.exit ?_
            refine XE.thenExit ?_
            refine XE.thenExit ?_
            refine XE.blockExit ?_
            refine XE.next ?_
            refine XC.keep [(2, _), (7, _), (8, _), (9, _), (10, _), (12, _)] (Sub.cons rfl (Sub.cons rfl (Sub.cons rfl (Sub.cons rfl (Sub.cons rfl (Sub.cons rfl (Sub.nil _))))))) ?_
            refine XC.seq ?_
            refine XC.seq ?_
            refine XC.region ?_
            refine XO.v (V.assign rfl) rfl ?_
            refine XO.nil ?_
            refine XE.next ?_
            refine XC.keep [(2, _), (7, _), (8, _), (9, _), (10, _), (12, _), (16, _)] (Sub.cons rfl (Sub.cons rfl (Sub.cons rfl (Sub.cons rfl (Sub.cons rfl (Sub.cons rfl (Sub.cons rfl (Sub.nil _)))))))) ?_
            refine XC.block ?_
            refine XC.loop (σ := SC × Int) (fun z => (y.2.2.2.1 - z.2).toNat) (fun z => z.1.Rep ∧ z.1.toSF.TF 4 y.2.2.2.1 y.2.1 y.2.2.1 p.2.1 0 ∧ z.1.toSF.Z ∧ (0 ≤ z.2 ∧ z.2 ≤ y.2.2.2.1) ∧ ∀ x, 0 ≤ x → x < z.2 → z.1.toSF.awake (10 + x) = true) (fun z => [(16, .int .i64 z.2), (2, .int .i64 tk), (7, ptr bs2 0 0), (8, ptr bw 0 0), (9, ptr bg 0 0), (10, ptr bq 0 0), (12, .int .i64 y.2.2.2.1)]) (fun z => XM W (foot [.ro b2 o2 n2 (encI w2 n2)]) [.cells bs2 0 2281 (encS z.1), .fam fam30 (SC.rows 86 z.1), .cells bw 0 20 (encI y.2.1 20), .cells bg 0 20 (encI y.2.2.1 20), .cells bq 0 4 (encI p.2.1 4)]) ((y.1, 0)) ?_ (Sub.cons rfl (Sub.cons rfl (Sub.cons rfl (Sub.cons rfl (Sub.cons rfl (Sub.cons rfl (Sub.cons rfl (Sub.nil _)))))))) (fun _ hw => XM.pick (.cons .here (.cons .here (.cons .here (.cons .here (.cons .here .nil))))) hw) ?_
            · skip
              exact ⟨yR, yT, yZ, ⟨by simp, by simp; omega⟩, fun x a b => by have b2 : x < 0 := b; omega⟩
            intro z hz
            obtain ⟨zR, zT, zZ, zi, za⟩ := hz
            refine XC.seq ?_
            refine XC.seq ?_
            refine XC.region ?_
            refine XO.v (V.move rfl) rfl ?_
            refine XO.v (V.move rfl) rfl ?_
            refine XO.v (V.cmp rfl rfl rfl) rfl ?_
            refine XO.nil ?_
            refine XE.next ?_
            refine XC.keep [(2, _), (7, _), (8, _), (9, _), (10, _), (12, _), (16, _), (124, _)] (Sub.cons rfl (Sub.cons rfl (Sub.cons rfl (Sub.cons rfl (Sub.cons rfl (Sub.cons rfl (Sub.cons rfl (Sub.cons rfl (Sub.nil _))))))))) ?_
            refine XC.condP rfl (fun h8 => ?_) (fun h8 => ?_)
            · skip
              refine XC.skip ?_
              refine XE.next ?_
              refine XC.keep [(2, _), (7, _), (8, _), (9, _), (10, _), (12, _), (16, _)] (Sub.cons rfl (Sub.cons rfl (Sub.cons rfl (Sub.cons rfl (Sub.cons rfl (Sub.cons rfl (Sub.cons rfl (Sub.nil _)))))))) ?_
              refine XC.seq ?_
              refine XC.block ?_
              refine XC.seq ?_
              refine XC.region ?_
              refine XO.v (V.move rfl) rfl ?_
              refine XO.v (V.move rfl) rfl ?_
              have hE := zT.tkE0 (x := z.2) (by omega) (by omega)
              refine XO.call rfl (f_wake _ _ z.1 dF zT.ok.inv zR _ _) (.cons .here (.cons .here .nil)) cl_17 rfl ?_
              rintro _ _ ⟨rfl, t, tl, tR, rfl⟩
              refine XO.v (V.errNil rfl Try.underlying40 rfl) rfl ?_
              refine XO.nil ?_
              refine XE.next ?_
              refine XC.keep [(2, _), (7, _), (8, _), (9, _), (10, _), (12, _), (16, _), (130, _)] (Sub.cons rfl (Sub.cons rfl (Sub.cons rfl (Sub.cons rfl (Sub.cons rfl (Sub.cons rfl (Sub.cons rfl (Sub.cons rfl (Sub.nil _))))))))) ?_
              refine XC.condFP rfl (by rw [hE]; simp) ?_
              refine XC.skip ?_
              refine XE.blockNormal ?_
              refine XE.next ?_
              refine XC.keep [(2, _), (7, _), (8, _), (9, _), (10, _), (12, _), (16, _)] (Sub.cons rfl (Sub.cons rfl (Sub.cons rfl (Sub.cons rfl (Sub.cons rfl (Sub.cons rfl (Sub.cons rfl (Sub.nil _)))))))) ?_
              refine XC.region ?_
              refine XO.v (V.move rfl) rfl ?_
              refine XO.v (V.add rfl rfl _ (IntWalk.i64_in _ (by omega))) rfl ?_
              refine XO.v (V.assign rfl) rfl ?_
              refine XO.nil ?_
              refine XE.again ((t, z.2 + 1)) ?_ ?_ (Sub.cons rfl (Sub.cons rfl (Sub.cons rfl (Sub.cons rfl (Sub.cons rfl (Sub.cons rfl (Sub.cons rfl (Sub.nil _)))))))) (fun _ hw => XM.pick (.cons .here (.cons .here (.cons .here (.cons .here (.cons .here .nil))))) hw)
              · skip
                (simp; omega)
              · skip
                refine ⟨tR, by rw [tl]; exact zT.wake _ _, by rw [tl]; exact zZ.wake _ _ _, by simp; omega, fun x a b => ?_⟩
                have b2 : x < z.2 + 1 := b
                rw [tl, SF.wake_awake hE]
                by_cases c9 : x = z.2
                · subst c9; exact fset_eq _ _ _
                · rw [fset_ne _ _ (by omega)]; exact za x a (by omega)
            · skip
              refine XC.exit ?_
              refine XE.thenExit ?_
              refine XE.thenExit ?_
              refine XE.blockExit ?_
              refine XE.next ?_
              refine XC.keep [(2, _), (7, _), (8, _), (9, _), (10, _), (12, _)] (Sub.cons rfl (Sub.cons rfl (Sub.cons rfl (Sub.cons rfl (Sub.cons rfl (Sub.cons rfl (Sub.nil _))))))) ?_
              refine XC.seq ?_
              refine XC.region ?_
              refine XO.allocZ (z := .agg (arrV (fun _ => 0) 20)) (m := 20) (C := encI (fun _ => 0) 20) (by kernel_rfl) (arrV_size (fun _ => 0) 20) (encI.box (fun _ => 0) 20) rfl ?_
              intro br
              refine XO.nil ?_
              refine XE.next ?_
              refine XC.keep [(2, _), (7, _), (8, _), (9, _), (10, _), (12, _), (17, _)] (Sub.cons rfl (Sub.cons rfl (Sub.cons rfl (Sub.cons rfl (Sub.cons rfl (Sub.cons rfl (Sub.cons rfl (Sub.nil _)))))))) ?_
              refine XC.seq ?_
              refine XC.region ?_
              refine XO.allocZ (z := .agg (arrV (fun _ => 0) 4)) (m := 4) (C := encI (fun _ => 0) 4) (by kernel_rfl) (arrV_size (fun _ => 0) 4) (encI.box (fun _ => 0) 4) rfl ?_
              intro bh
              refine XO.nil ?_
              refine XE.next ?_
              refine XC.keep [(2, _), (7, _), (8, _), (9, _), (10, _), (12, _), (17, _), (18, _)] (Sub.cons rfl (Sub.cons rfl (Sub.cons rfl (Sub.cons rfl (Sub.cons rfl (Sub.cons rfl (Sub.cons rfl (Sub.cons rfl (Sub.nil _))))))))) ?_
              refine XC.seq ?_
              refine XC.seq ?_
              refine XC.region ?_
              refine XO.v (V.assign rfl) rfl ?_
              refine XO.nil ?_
              refine XE.next ?_
              refine XC.keep [(2, _), (7, _), (8, _), (9, _), (10, _), (12, _), (17, _), (18, _), (19, _)] (Sub.cons rfl (Sub.cons rfl (Sub.cons rfl (Sub.cons rfl (Sub.cons rfl (Sub.cons rfl (Sub.cons rfl (Sub.cons rfl (Sub.cons rfl (Sub.nil _)))))))))) ?_
              refine XC.block ?_
              refine XC.loop (σ := SC × (Int → Int) × (Int → Int) × Int) (fun c => (tk - c.2.2.2).toNat) (fun c => c.1.Rep ∧ c.1.toSF.TF 4 y.2.2.2.1 y.2.1 y.2.2.1 p.2.1 c.2.2.2 ∧ c.1.toSF.DF y.2.2.2.1 c.2.1 c.2.2.1 c.2.2.2 ∧ 0 ≤ c.2.2.2 ∧ c.2.2.2 ≤ tk) (fun c => [(19, .int .i64 c.2.2.2), (2, .int .i64 tk), (7, ptr bs2 0 0), (8, ptr bw 0 0), (9, ptr bg 0 0), (10, ptr bq 0 0), (12, .int .i64 y.2.2.2.1), (17, ptr br 0 0), (18, ptr bh 0 0)]) (fun c => XM W (foot [.ro b2 o2 n2 (encI w2 n2)]) [.cells bs2 0 2281 (encS c.1), .fam fam30 (SC.rows 86 c.1), .cells bw 0 20 (encI y.2.1 20), .cells bg 0 20 (encI y.2.2.1 20), .cells bq 0 4 (encI p.2.1 4), .cells br 0 20 (encI c.2.1 20), .cells bh 0 4 (encI c.2.2.1 4)]) ((z.1, (fun _ => 0), (fun _ => 0), 0)) ?_ (Sub.cons rfl (Sub.cons rfl (Sub.cons rfl (Sub.cons rfl (Sub.cons rfl (Sub.cons rfl (Sub.cons rfl (Sub.cons rfl (Sub.cons rfl (Sub.nil _)))))))))) (fun _ hw => XM.pick (.cons (.there (.there .here)) (.cons (.there (.there .here)) (.cons (.there (.there .here)) (.cons (.there (.there .here)) (.cons (.there (.there .here)) (.cons (.there .here) (.cons .here .nil))))))) hw) ?_
              · skip
                exact ⟨zR, zT, SF.DF.start zZ (fun x a b => za x a (by omega)), by simp, by simp; omega⟩
              intro c hc
              obtain ⟨cR, cT, cD, ck0, ck1⟩ := hc
              refine XC.seq ?_
              refine XC.seq ?_
              refine XC.region ?_
              refine XO.v (V.move rfl) rfl ?_
              refine XO.v (V.move rfl) rfl ?_
              refine XO.v (V.cmp rfl rfl rfl) rfl ?_
              refine XO.nil ?_
              refine XE.next ?_
              refine XC.keep [(2, _), (7, _), (8, _), (9, _), (10, _), (12, _), (17, _), (18, _), (19, _), (133, _)] (Sub.cons rfl (Sub.cons rfl (Sub.cons rfl (Sub.cons rfl (Sub.cons rfl (Sub.cons rfl (Sub.cons rfl (Sub.cons rfl (Sub.cons rfl (Sub.cons rfl (Sub.nil _))))))))))) ?_
              refine XC.condP rfl (fun h9 => ?_) (fun h9 => ?_)
              · skip
                refine XC.skip ?_
                refine XE.next ?_
                refine XC.keep [(2, _), (7, _), (8, _), (9, _), (10, _), (12, _), (17, _), (18, _), (19, _)] (Sub.cons rfl (Sub.cons rfl (Sub.cons rfl (Sub.cons rfl (Sub.cons rfl (Sub.cons rfl (Sub.cons rfl (Sub.cons rfl (Sub.cons rfl (Sub.nil _)))))))))) ?_
                refine XC.seq ?_
                refine XC.block ?_
                refine XC.seq ?_
                refine XC.region ?_
                refine XO.v (V.move rfl) rfl ?_
                refine XO.call rfl (f_Tick _ _ c.1 dF cT.ok.inv cR (fun n a b => by have := SF.dF_le n; omega) (2000000000 * c.2.2.2) ⟨by omega, by omega⟩ cT.ok.small ⟨cT.ok.now.1, by have := cT.ok.now; omega⟩ (cT.ok.tick0 (by omega)).set) (.cons .here (.cons .here .nil)) cl_18 rfl ?_
                rintro _ _ ⟨rfl, t, tl, tR, rfl⟩
                refine XO.v (V.assign rfl) rfl ?_
                refine XO.nil ?_
                refine XE.next ?_
                refine XC.keep [(2, _), (7, _), (8, _), (9, _), (10, _), (12, _), (17, _), (18, _), (19, _), (20, _)] (Sub.cons rfl (Sub.cons rfl (Sub.cons rfl (Sub.cons rfl (Sub.cons rfl (Sub.cons rfl (Sub.cons rfl (Sub.cons rfl (Sub.cons rfl (Sub.cons rfl (Sub.nil _))))))))))) ?_
                refine XC.seq ?_
                refine XC.seq ?_
                refine XC.region ?_
                obtain ⟨tT, tn, tp⟩ := cT.tick cD (by omega)
                refine XO.v (V.move rfl) rfl ?_
                refine XO.v (V.cmp rfl rfl rfl) rfl ?_
                refine XO.nil ?_
                refine XE.next ?_
                refine XC.keep [(2, _), (7, _), (8, _), (9, _), (10, _), (12, _), (17, _), (18, _), (19, _), (20, _), (139, _)] (Sub.cons rfl (Sub.cons rfl (Sub.cons rfl (Sub.cons rfl (Sub.cons rfl (Sub.cons rfl (Sub.cons rfl (Sub.cons rfl (Sub.cons rfl (Sub.cons rfl (Sub.cons rfl (Sub.nil _)))))))))))) ?_
                refine XC.condP rfl (fun h10 => ?_) (fun h10 => ?_)
                · skip
                  refine XC.seq ?_
                  refine XC.seq ?_
                  refine XC.region ?_
                  refine XO.v (V.move rfl) rfl ?_
                  refine XO.v (V.cmp rfl rfl rfl) rfl ?_
                  refine XO.nil ?_
                  refine XE.next ?_
                  refine XC.keep [(2, _), (7, _), (8, _), (9, _), (10, _), (12, _), (17, _), (18, _), (19, _), (141, _)] (Sub.cons rfl (Sub.cons rfl (Sub.cons rfl (Sub.cons rfl (Sub.cons rfl (Sub.cons rfl (Sub.cons rfl (Sub.cons rfl (Sub.cons rfl (Sub.cons rfl (Sub.nil _))))))))))) ?_
                  refine XC.condFP rfl (by rw [(tn (by omega)).1]; simp) ?_
                  refine XC.skip ?_
                  refine XE.next ?_
                  refine XC.keep [(2, _), (7, _), (8, _), (9, _), (10, _), (12, _), (17, _), (18, _), (19, _)] (Sub.cons rfl (Sub.cons rfl (Sub.cons rfl (Sub.cons rfl (Sub.cons rfl (Sub.cons rfl (Sub.cons rfl (Sub.cons rfl (Sub.cons rfl (Sub.nil _)))))))))) ?_
                  refine XC.exit ?_
                  refine XE.thenExit ?_
                  refine XE.blockExit ?_
                  refine XE.next ?_
                  refine XC.keep [(2, _), (7, _), (8, _), (9, _), (10, _), (12, _), (17, _), (18, _), (19, _)] (Sub.cons rfl (Sub.cons rfl (Sub.cons rfl (Sub.cons rfl (Sub.cons rfl (Sub.cons rfl (Sub.cons rfl (Sub.cons rfl (Sub.cons rfl (Sub.nil _)))))))))) ?_
                  refine XC.region ?_
                  refine XO.v (V.move rfl) rfl ?_
                  refine XO.v (V.add rfl rfl _ (IntWalk.i64_in _ (by omega))) rfl ?_
                  refine XO.v (V.assign rfl) rfl ?_
                  refine XO.nil ?_
                  refine XE.again ((t, c.2.1, c.2.2.1, c.2.2.2 + 1)) ?_ ?_ (Sub.cons rfl (Sub.cons rfl (Sub.cons rfl (Sub.cons rfl (Sub.cons rfl (Sub.cons rfl (Sub.cons rfl (Sub.cons rfl (Sub.cons rfl (Sub.nil _)))))))))) (fun _ hw => XM.pick (.cons .here (.cons .here (.cons .here (.cons .here (.cons .here (.cons .here (.cons .here .nil))))))) hw)
                  · skip
                    (simp; omega)
                  · skip
                    exact ⟨tR, by rw [tl]; exact tT, by rw [tl]; exact (tn (by omega)).2, by simp; omega, by simp; omega⟩
                · skip
                  obtain ⟨⟨q0, q1⟩, qD⟩ := tp (by omega)
                  refine XC.skip ?_
                  refine XE.next ?_
                  refine XC.keep [(2, _), (7, _), (8, _), (9, _), (10, _), (12, _), (17, _), (18, _), (19, _), (20, _)] (Sub.cons rfl (Sub.cons rfl (Sub.cons rfl (Sub.cons rfl (Sub.cons rfl (Sub.cons rfl (Sub.cons rfl (Sub.cons rfl (Sub.cons rfl (Sub.cons rfl (Sub.nil _))))))))))) ?_
                  refine XC.seq ?_
                  refine XC.seq ?_
                  refine XC.region ?_
                  refine XO.v (V.move rfl) rfl ?_
                  refine XO.v (V.cmp rfl rfl rfl) rfl ?_
                  refine XO.v (V.move rfl) rfl ?_
                  refine XO.splitF (d := 144) rfl (by omega) ?_
                  refine XO.guardRun rfl rfl rfl ?_
                  refine XO.v (V.move rfl) rfl ?_
                  refine XO.guardRun rfl rfl rfl ?_
                  refine XO.v (V.move rfl) rfl ?_
                  refine XO.guardRun rfl rfl rfl ?_
                  refine XO.v (V.cmp rfl rfl rfl) rfl ?_
                  refine XO.v (V.pick rfl rfl rfl rfl) rfl ?_
                  refine XO.nil ?_
                  refine XE.next ?_
                  refine XC.keep [(2, _), (7, _), (8, _), (9, _), (10, _), (12, _), (17, _), (18, _), (19, _), (20, _), (148, _)] (Sub.cons rfl (Sub.cons rfl (Sub.cons rfl (Sub.cons rfl (Sub.cons rfl (Sub.cons rfl (Sub.cons rfl (Sub.cons rfl (Sub.cons rfl (Sub.cons rfl (Sub.cons rfl (Sub.nil _)))))))))))) ?_
                  refine XC.condFP rfl (by omega) ?_
                  refine XC.skip ?_
                  refine XE.next ?_
                  refine XC.keep [(2, _), (7, _), (8, _), (9, _), (10, _), (12, _), (17, _), (18, _), (19, _), (20, _)] (Sub.cons rfl (Sub.cons rfl (Sub.cons rfl (Sub.cons rfl (Sub.cons rfl (Sub.cons rfl (Sub.cons rfl (Sub.cons rfl (Sub.cons rfl (Sub.cons rfl (Sub.nil _))))))))))) ?_
                  refine XC.seq ?_
                  refine XC.region ?_
                  have hrb := cD.bd (c.1.toSF.tick dF).1 (by omega) (by omega)
                  obtain ⟨_, g0, g1, _⟩ := cT.tk (c.1.toSF.tick dF).1 (by omega) (by omega)
                  have hgb := cD.gbd (y.2.2.1 (c.1.toSF.tick dF).1) (by omega) (by omega)
                  refine XO.v (V.move rfl) rfl ?_
                  refine XO.v (V.indexArr rfl rfl ar_49 (by omega)) rfl ?_
                  refine XO.v (V.load rfl (inXM (.there (.there (.there (.there (.there .here)))))) (encI.ld _ _ _ (by omega)) sc_3) rfl ?_
                  refine XO.v (V.add rfl rfl _ (SF.i64_le (a := c.2.1 (c.1.toSF.tick dF).1 + 1) (by omega) (by omega))) rfl ?_
                  refine XO.v (V.indexArr rfl rfl ar_49 (by omega)) rfl ?_
                  refine XO.store rfl rfl (.there (.there (.there (.there (.there .here))))) (encI.st _ _ _ _ (by omega)) rfl sz_3_1 ?_
                  refine XO.nil ?_
                  refine XE.next ?_
                  refine XC.keep [(2, _), (7, _), (8, _), (9, _), (10, _), (12, _), (17, _), (18, _), (19, _), (20, _)] (Sub.cons rfl (Sub.cons rfl (Sub.cons rfl (Sub.cons rfl (Sub.cons rfl (Sub.cons rfl (Sub.cons rfl (Sub.cons rfl (Sub.cons rfl (Sub.cons rfl (Sub.nil _))))))))))) ?_
                  refine XC.seq ?_
                  refine XC.region ?_
                  refine XO.v (V.move rfl) rfl ?_
                  refine XO.v (V.indexArr rfl rfl ar_49 (by omega)) rfl ?_
                  refine XO.v (V.load rfl (inXM (.there (.there (.there .here)))) (encI.ld _ _ _ (by omega)) sc_3) rfl ?_
                  refine XO.v (V.indexArr rfl rfl ar_52 (by omega)) rfl ?_
                  refine XO.v (V.load rfl (inXM (.there (.there (.there (.there (.there (.there .here))))))) (encI.ld _ _ _ (by omega)) sc_3) rfl ?_
                  refine XO.v (V.add rfl rfl _ (SF.i64_le (a := c.2.2.1 (y.2.2.1 (c.1.toSF.tick dF).1) + 1) (by omega) (by omega))) rfl ?_
                  refine XO.v (V.indexArr rfl rfl ar_52 (by omega)) rfl ?_
                  refine XO.store rfl rfl (.there (.there (.there (.there (.there (.there .here)))))) (encI.st _ _ _ _ (by omega)) rfl sz_3_1 ?_
                  refine XO.nil ?_
                  refine XE.next ?_
                  refine XC.keep [(2, _), (7, _), (8, _), (9, _), (10, _), (12, _), (17, _), (18, _), (19, _)] (Sub.cons rfl (Sub.cons rfl (Sub.cons rfl (Sub.cons rfl (Sub.cons rfl (Sub.cons rfl (Sub.cons rfl (Sub.cons rfl (Sub.cons rfl (Sub.nil _)))))))))) ?_
                  refine XC.seq ?_
                  refine XC.region ?_
                  refine XO.v (V.assign rfl) rfl ?_
                  refine XO.nil ?_
                  refine XE.next ?_
                  refine XC.keep [(2, _), (7, _), (8, _), (9, _), (10, _), (12, _), (17, _), (18, _), (19, _), (21, _)] (Sub.cons rfl (Sub.cons rfl (Sub.cons rfl (Sub.cons rfl (Sub.cons rfl (Sub.cons rfl (Sub.cons rfl (Sub.cons rfl (Sub.cons rfl (Sub.cons rfl (Sub.nil _))))))))))) ?_
                  refine XC.block ?_
                  refine XC.loop (σ := Int) (fun i => (y.2.2.2.1 - i).toNat) (fun i => 0 ≤ i ∧ i ≤ y.2.2.2.1) (fun i => [(21, .int .i64 i), (2, .int .i64 tk), (7, ptr bs2 0 0), (8, ptr bw 0 0), (9, ptr bg 0 0), (10, ptr bq 0 0), (12, .int .i64 y.2.2.2.1), (17, ptr br 0 0), (18, ptr bh 0 0), (19, .int .i64 c.2.2.2)]) (fun i => XM W (foot [.ro b2 o2 n2 (encI w2 n2)]) [.cells bs2 0 2281 (encS t), .fam fam30 (SC.rows 86 t), .cells bw 0 20 (encI y.2.1 20), .cells bg 0 20 (encI y.2.2.1 20), .cells bq 0 4 (encI p.2.1 4), .cells br 0 20 (encI (fset c.2.1 (c.1.toSF.tick dF).1 (c.2.1 (c.1.toSF.tick dF).1 + 1)) 20), .cells bh 0 4 (encI (fset c.2.2.1 (y.2.2.1 (c.1.toSF.tick dF).1) (c.2.2.1 (y.2.2.1 (c.1.toSF.tick dF).1) + 1)) 4)]) (0) ?_ (Sub.cons rfl (Sub.cons rfl (Sub.cons rfl (Sub.cons rfl (Sub.cons rfl (Sub.cons rfl (Sub.cons rfl (Sub.cons rfl (Sub.cons rfl (Sub.cons rfl (Sub.nil _))))))))))) (fun _ hw => XM.pick (.cons .here (.cons .here (.cons .here (.cons .here (.cons .here (.cons .here (.cons .here .nil))))))) hw) ?_
                  · skip
                    omega
                  intro i hi
                  refine XC.seq ?_
                  refine XC.seq ?_
                  refine XC.region ?_
                  refine XO.v (V.move rfl) rfl ?_
                  refine XO.v (V.move rfl) rfl ?_
                  refine XO.v (V.cmp rfl rfl rfl) rfl ?_
                  refine XO.nil ?_
                  refine XE.next ?_
                  refine XC.keep [(2, _), (7, _), (8, _), (9, _), (10, _), (12, _), (17, _), (18, _), (19, _), (21, _), (163, _)] (Sub.cons rfl (Sub.cons rfl (Sub.cons rfl (Sub.cons rfl (Sub.cons rfl (Sub.cons rfl (Sub.cons rfl (Sub.cons rfl (Sub.cons rfl (Sub.cons rfl (Sub.cons rfl (Sub.nil _)))))))))))) ?_
                  refine XC.condP rfl (fun h12 => ?_) (fun h12 => ?_)
                  · skip
                    refine XC.skip ?_
                    refine XE.next ?_
                    refine XC.keep [(2, _), (7, _), (8, _), (9, _), (10, _), (12, _), (17, _), (18, _), (19, _), (21, _)] (Sub.cons rfl (Sub.cons rfl (Sub.cons rfl (Sub.cons rfl (Sub.cons rfl (Sub.cons rfl (Sub.cons rfl (Sub.cons rfl (Sub.cons rfl (Sub.cons rfl (Sub.nil _))))))))))) ?_
                    refine XC.seq ?_
                    refine XC.block ?_
                    refine XC.seq ?_
                    refine XC.region ?_
                    refine XO.v (V.assign rfl) rfl ?_
                    refine XO.nil ?_
                    refine XE.next ?_
                    refine XC.keep [(2, _), (7, _), (8, _), (9, _), (10, _), (12, _), (17, _), (18, _), (19, _), (21, _), (22, _)] (Sub.cons rfl (Sub.cons rfl (Sub.cons rfl (Sub.cons rfl (Sub.cons rfl (Sub.cons rfl (Sub.cons rfl (Sub.cons rfl (Sub.cons rfl (Sub.cons rfl (Sub.cons rfl (Sub.nil _)))))))))))) ?_
                    refine XC.block ?_
                    refine XC.loop (σ := Int) (fun j => (y.2.2.2.1 - j).toNat) (fun j => 0 ≤ j ∧ j ≤ y.2.2.2.1) (fun j => [(22, .int .i64 j), (2, .int .i64 tk), (7, ptr bs2 0 0), (8, ptr bw 0 0), (9, ptr bg 0 0), (10, ptr bq 0 0), (12, .int .i64 y.2.2.2.1), (17, ptr br 0 0), (18, ptr bh 0 0), (19, .int .i64 c.2.2.2), (21, .int .i64 i)]) (fun j => XM W (foot [.ro b2 o2 n2 (encI w2 n2)]) [.cells bs2 0 2281 (encS t), .fam fam30 (SC.rows 86 t), .cells bw 0 20 (encI y.2.1 20), .cells bg 0 20 (encI y.2.2.1 20), .cells bq 0 4 (encI p.2.1 4), .cells br 0 20 (encI (fset c.2.1 (c.1.toSF.tick dF).1 (c.2.1 (c.1.toSF.tick dF).1 + 1)) 20), .cells bh 0 4 (encI (fset c.2.2.1 (y.2.2.1 (c.1.toSF.tick dF).1) (c.2.2.1 (y.2.2.1 (c.1.toSF.tick dF).1) + 1)) 4)]) (0) ?_ (Sub.cons rfl (Sub.cons rfl (Sub.cons rfl (Sub.cons rfl (Sub.cons rfl (Sub.cons rfl (Sub.cons rfl (Sub.cons rfl (Sub.cons rfl (Sub.cons rfl (Sub.cons rfl (Sub.nil _)))))))))))) (fun _ hw => XM.pick (.cons .here (.cons .here (.cons .here (.cons .here (.cons .here (.cons .here (.cons .here .nil))))))) hw) ?_
                    · skip
                      omega
                    intro j hj
                    refine XC.seq ?_
                    refine XC.seq ?_
                    refine XC.region ?_
                    refine XO.v (V.move rfl) rfl ?_
                    refine XO.v (V.move rfl) rfl ?_
                    refine XO.v (V.cmp rfl rfl rfl) rfl ?_
                    refine XO.nil ?_
                    refine XE.next ?_
                    refine XC.keep [(2, _), (7, _), (8, _), (9, _), (10, _), (12, _), (17, _), (18, _), (19, _), (21, _), (22, _), (168, _)] (Sub.cons rfl (Sub.cons rfl (Sub.cons rfl (Sub.cons rfl (Sub.cons rfl (Sub.cons rfl (Sub.cons rfl (Sub.cons rfl (Sub.cons rfl (Sub.cons rfl (Sub.cons rfl (Sub.cons rfl (Sub.nil _))))))))))))) ?_
                    refine XC.condP rfl (fun h13 => ?_) (fun h13 => ?_)
                    · skip
                      refine XC.skip ?_
                      refine XE.next ?_
                      refine XC.keep [(2, _), (7, _), (8, _), (9, _), (10, _), (12, _), (17, _), (18, _), (19, _), (21, _), (22, _)] (Sub.cons rfl (Sub.cons rfl (Sub.cons rfl (Sub.cons rfl (Sub.cons rfl (Sub.cons rfl (Sub.cons rfl (Sub.cons rfl (Sub.cons rfl (Sub.cons rfl (Sub.cons rfl (Sub.nil _)))))))))))) ?_
                      refine XC.seq ?_
                      refine XC.block ?_
                      refine XC.seq ?_
                      refine XC.seq ?_
                      refine XC.regionQ mixed (f := 7) (l := #[false, false, false, false, false, false, false]) rfl rfl XM.drawn' ?_
                      refine XQ.pv (i := 0) (l' := #[true, false, false, false, false, false, false]) rfl (by kernel_rfl) rfl (V.move rfl) rfl rfl ?_
                      refine XQ.pv (i := 1) (l' := #[true, true, false, false, false, false, false]) rfl (by kernel_rfl) rfl (V.indexArr rfl rfl ar_49 (by omega)) rfl rfl ?_
                      refine XQ.load (i := 2) (l' := #[true, true, true, false, false, false, false]) (.cells _ _ _ _) [] rfl (by kernel_rfl) rfl (.there (.there (.there .here))) (V.load rfl inEnt (encI.ld _ _ _ (by omega)) sc_3) rfl (by kernel_rfl) rfl ?_
                      refine XQ.pv (i := 3) (l' := #[true, true, true, true, false, false, false]) rfl (by kernel_rfl) rfl (V.move rfl) rfl rfl ?_
                      refine XQ.pv (i := 4) (l' := #[true, true, true, true, true, false, false]) rfl (by kernel_rfl) rfl (V.indexArr rfl rfl ar_49 (by omega)) rfl rfl ?_
                      refine XQ.load (i := 5) (l' := #[true, true, true, true, true, true, false]) (.cells _ _ _ _) [] rfl (by kernel_rfl) rfl (.there (.there (.there .here))) (V.load rfl inEnt (encI.ld _ _ _ (by omega)) sc_3) rfl (by kernel_rfl) rfl ?_
                      refine XQ.pv (i := 6) (l' := #[true, true, true, true, true, true, true]) rfl (by kernel_rfl) rfl (V.cmp rfl rfl rfl) rfl rfl ?_
                      refine XQ.done (by kernel_rfl) ?_
                      refine XE.next ?_
                      refine XC.keep [(2, _), (7, _), (8, _), (9, _), (10, _), (12, _), (17, _), (18, _), (19, _), (21, _), (22, _), (177, _)] (Sub.cons rfl (Sub.cons rfl (Sub.cons rfl (Sub.cons rfl (Sub.cons rfl (Sub.cons rfl (Sub.cons rfl (Sub.cons rfl (Sub.cons rfl (Sub.cons rfl (Sub.cons rfl (Sub.cons rfl (Sub.nil _))))))))))))) ?_
                      refine XC.condP rfl (fun h14 => ?_) (fun h14 => ?_)
                      · skip
                        refine XC.exit ?_
                        refine XE.thenExit ?_
                        refine XE.blockExit ?_
                        refine XE.next ?_
                        refine XC.keep [(2, _), (7, _), (8, _), (9, _), (10, _), (12, _), (17, _), (18, _), (19, _), (21, _), (22, _)] (Sub.cons rfl (Sub.cons rfl (Sub.cons rfl (Sub.cons rfl (Sub.cons rfl (Sub.cons rfl (Sub.cons rfl (Sub.cons rfl (Sub.cons rfl (Sub.cons rfl (Sub.cons rfl (Sub.nil _)))))))))))) ?_
                        refine XC.region ?_
                        refine XO.v (V.move rfl) rfl ?_
                        refine XO.v (V.add rfl rfl _ (IntWalk.i64_in _ (by omega))) rfl ?_
                        refine XO.v (V.assign rfl) rfl ?_
                        refine XO.nil ?_
                        refine XE.again (j + 1) ?_ ?_ (Sub.cons rfl (Sub.cons rfl (Sub.cons rfl (Sub.cons rfl (Sub.cons rfl (Sub.cons rfl (Sub.cons rfl (Sub.cons rfl (Sub.cons rfl (Sub.cons rfl (Sub.cons rfl (Sub.nil _)))))))))))) (fun _ hw => XM.pick (.cons .here (.cons .here (.cons .here (.cons .here (.cons .here (.cons .here (.cons .here .nil))))))) hw)
                        · skip
                          (first | omega | (simp; done) | (simp; omega))
                        · skip
                          (first | omega | (simp; done) | (simp; omega))
                      · skip
                        refine XC.skip ?_
                        refine XE.next ?_
                        refine XC.keep [(2, _), (7, _), (8, _), (9, _), (10, _), (12, _), (17, _), (18, _), (19, _), (21, _), (22, _)] (Sub.cons rfl (Sub.cons rfl (Sub.cons rfl (Sub.cons rfl (Sub.cons rfl (Sub.cons rfl (Sub.cons rfl (Sub.cons rfl (Sub.cons rfl (Sub.cons rfl (Sub.cons rfl (Sub.nil _)))))))))))) ?_
                        refine XC.seq ?_
                        refine XC.regionQ mixed (f := 9) (l := #[false, false, false, false, false, false, false, false, false]) rfl rfl XM.drawn' ?_
                        have wpi : 1 ≤ y.2.1 i := (by rw [← (tT.tk i (by omega) (by omega)).2.2.2]; exact tT.ok.inv.wt _ (by omega) (tT.th (by omega) (by omega)).1 (tT.th (by omega) (by omega)).2)
                        have bpi := qD.bd i (by omega) (by omega)
                        have hpi : 0 ≤ (fset c.2.1 (c.1.toSF.tick dF).1 (c.2.1 (c.1.toSF.tick dF).1 + 1)) i * (1048576 / y.2.1 i) ∧ (fset c.2.1 (c.1.toSF.tick dF).1 (c.2.1 (c.1.toSF.tick dF).1 + 1)) i * (1048576 / y.2.1 i) ≤ 501 * 1048576 := ⟨Int.mul_nonneg (by omega) (Int.ediv_nonneg (by omega) (by omega)), Int.mul_le_mul (by omega) (Int.ediv_le_self _ (by omega)) (Int.ediv_nonneg (by omega) (by omega)) (by omega)⟩
                        have wpj : 1 ≤ y.2.1 j := (by rw [← (tT.tk j (by omega) (by omega)).2.2.2]; exact tT.ok.inv.wt _ (by omega) (tT.th (by omega) (by omega)).1 (tT.th (by omega) (by omega)).2)
                        have bpj := qD.bd j (by omega) (by omega)
                        have hpj : 0 ≤ (fset c.2.1 (c.1.toSF.tick dF).1 (c.2.1 (c.1.toSF.tick dF).1 + 1)) j * (1048576 / y.2.1 j) ∧ (fset c.2.1 (c.1.toSF.tick dF).1 (c.2.1 (c.1.toSF.tick dF).1 + 1)) j * (1048576 / y.2.1 j) ≤ 501 * 1048576 := ⟨Int.mul_nonneg (by omega) (Int.ediv_nonneg (by omega) (by omega)), Int.mul_le_mul (by omega) (Int.ediv_le_self _ (by omega)) (Int.ediv_nonneg (by omega) (by omega)) (by omega)⟩
                        refine XQ.pv (i := 0) (l' := #[true, false, false, false, false, false, false, false, false]) rfl (by kernel_rfl) rfl (V.move rfl) rfl rfl ?_
                        refine XQ.pv (i := 1) (l' := #[true, true, false, false, false, false, false, false, false]) rfl (by kernel_rfl) rfl (V.indexArr rfl rfl ar_49 (by omega)) rfl rfl ?_
                        refine XQ.load (i := 2) (l' := #[true, true, true, false, false, false, false, false, false]) (.cells _ _ _ _) [] rfl (by kernel_rfl) rfl (.there (.there (.there (.there (.there .here))))) (V.load rfl inEnt (encI.ld _ _ _ (by omega)) sc_3) rfl (by kernel_rfl) rfl ?_
                        refine XQ.pv (i := 3) (l' := #[true, true, true, true, false, false, false, false, false]) rfl (by kernel_rfl) rfl (V.move rfl) rfl rfl ?_
                        refine XQ.pv (i := 4) (l' := #[true, true, true, true, true, false, false, false, false]) rfl (by kernel_rfl) rfl (V.indexArr rfl rfl ar_49 (by omega)) rfl rfl ?_
                        refine XQ.load (i := 5) (l' := #[true, true, true, true, true, true, false, false, false]) (.cells _ _ _ _) [] rfl (by kernel_rfl) rfl (.there (.there .here)) (V.load rfl inEnt (encI.ld _ _ _ (by omega)) sc_3) rfl (by kernel_rfl) rfl ?_
                        refine XQ.pv (i := 6) (l' := #[true, true, true, true, true, true, true, false, false]) rfl (by kernel_rfl) rfl (V.quo rfl rfl (by first | decide | omega) _ (quo_nn (by omega) (by omega) (by omega))) rfl rfl ?_
                        refine XQ.pv (i := 7) (l' := #[true, true, true, true, true, true, true, true, false]) rfl (by kernel_rfl) rfl (V.mul rfl rfl _ (SF.i64_le (a := (fset c.2.1 (c.1.toSF.tick dF).1 (c.2.1 (c.1.toSF.tick dF).1 + 1)) i * (1048576 / y.2.1 i)) hpi.1 (by omega))) rfl rfl ?_
                        refine XQ.pv (i := 8) (l' := #[true, true, true, true, true, true, true, true, true]) rfl (by kernel_rfl) rfl (V.assign rfl) rfl rfl ?_
                        refine XQ.done (by kernel_rfl) ?_
                        refine XE.next ?_
                        refine XC.keep [(2, _), (7, _), (8, _), (9, _), (10, _), (12, _), (17, _), (18, _), (19, _), (21, _), (22, _), (23, _)] (Sub.cons rfl (Sub.cons rfl (Sub.cons rfl (Sub.cons rfl (Sub.cons rfl (Sub.cons rfl (Sub.cons rfl (Sub.cons rfl (Sub.cons rfl (Sub.cons rfl (Sub.cons rfl (Sub.cons rfl (Sub.nil _))))))))))))) ?_
                        refine XC.seq ?_
                        refine XC.regionQ mixed (f := 9) (l := #[false, false, false, false, false, false, false, false, false]) rfl rfl XM.drawn' ?_
                        refine XQ.pv (i := 0) (l' := #[true, false, false, false, false, false, false, false, false]) rfl (by kernel_rfl) rfl (V.move rfl) rfl rfl ?_
                        refine XQ.pv (i := 1) (l' := #[true, true, false, false, false, false, false, false, false]) rfl (by kernel_rfl) rfl (V.indexArr rfl rfl ar_49 (by omega)) rfl rfl ?_
                        refine XQ.load (i := 2) (l' := #[true, true, true, false, false, false, false, false, false]) (.cells _ _ _ _) [] rfl (by kernel_rfl) rfl (.there (.there (.there (.there (.there .here))))) (V.load rfl inEnt (encI.ld _ _ _ (by omega)) sc_3) rfl (by kernel_rfl) rfl ?_
                        refine XQ.pv (i := 3) (l' := #[true, true, true, true, false, false, false, false, false]) rfl (by kernel_rfl) rfl (V.move rfl) rfl rfl ?_
                        refine XQ.pv (i := 4) (l' := #[true, true, true, true, true, false, false, false, false]) rfl (by kernel_rfl) rfl (V.indexArr rfl rfl ar_49 (by omega)) rfl rfl ?_
                        refine XQ.load (i := 5) (l' := #[true, true, true, true, true, true, false, false, false]) (.cells _ _ _ _) [] rfl (by kernel_rfl) rfl (.there (.there .here)) (V.load rfl inEnt (encI.ld _ _ _ (by omega)) sc_3) rfl (by kernel_rfl) rfl ?_
                        refine XQ.pv (i := 6) (l' := #[true, true, true, true, true, true, true, false, false]) rfl (by kernel_rfl) rfl (V.quo rfl rfl (by first | decide | omega) _ (quo_nn (by omega) (by omega) (by omega))) rfl rfl ?_
                        refine XQ.pv (i := 7) (l' := #[true, true, true, true, true, true, true, true, false]) rfl (by kernel_rfl) rfl (V.mul rfl rfl _ (SF.i64_le (a := (fset c.2.1 (c.1.toSF.tick dF).1 (c.2.1 (c.1.toSF.tick dF).1 + 1)) j * (1048576 / y.2.1 j)) hpj.1 (by omega))) rfl rfl ?_
                        refine XQ.pv (i := 8) (l' := #[true, true, true, true, true, true, true, true, true]) rfl (by kernel_rfl) rfl (V.assign rfl) rfl rfl ?_
                        refine XQ.done (by kernel_rfl) ?_
                        refine XE.next ?_
                        refine XC.keep [(2, _), (7, _), (8, _), (9, _), (10, _), (12, _), (17, _), (18, _), (19, _), (21, _), (22, _), (23, _), (24, _)] (Sub.cons rfl (Sub.cons rfl (Sub.cons rfl (Sub.cons rfl (Sub.cons rfl (Sub.cons rfl (Sub.cons rfl (Sub.cons rfl (Sub.cons rfl (Sub.cons rfl (Sub.cons rfl (Sub.cons rfl (Sub.cons rfl (Sub.nil _)))))))))))))) ?_
                        refine XC.seq ?_
                        refine XC.regionQ mixed (f := 13) (l := #[false, false, false, false, false, false, false, false, false, false, false, false, false]) rfl rfl XM.drawn' ?_
                        refine XQ.pv (i := 0) (l' := #[true, false, false, false, false, false, false, false, false, false, false, false, false]) rfl (by kernel_rfl) rfl (V.move rfl) rfl rfl ?_
                        refine XQ.pv (i := 1) (l' := #[true, true, false, false, false, false, false, false, false, false, false, false, false]) rfl (by kernel_rfl) rfl (V.move rfl) rfl rfl ?_
                        refine XQ.pv (i := 2) (l' := #[true, true, true, false, false, false, false, false, false, false, false, false, false]) rfl (by kernel_rfl) rfl (V.sub rfl rfl _ (IntWalk.i64_in _ (by omega))) rfl rfl ?_
                        refine XQ.pv (i := 3) (l' := #[true, true, true, true, false, false, false, false, false, false, false, false, false]) rfl (by kernel_rfl) rfl (V.move rfl) rfl rfl ?_
                        refine XQ.pv (i := 4) (l' := #[true, true, true, true, true, false, false, false, false, false, false, false, false]) rfl (by kernel_rfl) rfl (V.indexArr rfl rfl ar_49 (by omega)) rfl rfl ?_
                        refine XQ.load (i := 5) (l' := #[true, true, true, true, true, true, false, false, false, false, false, false, false]) (.cells _ _ _ _) [] rfl (by kernel_rfl) rfl (.there (.there .here)) (V.load rfl inEnt (encI.ld _ _ _ (by omega)) sc_3) rfl (by kernel_rfl) rfl ?_
                        refine XQ.pv (i := 6) (l' := #[true, true, true, true, true, true, true, false, false, false, false, false, false]) rfl (by kernel_rfl) rfl (V.quo rfl rfl (by first | decide | omega) _ (quo_nn (by omega) (by omega) (by omega))) rfl rfl ?_
                        refine XQ.pv (i := 7) (l' := #[true, true, true, true, true, true, true, true, false, false, false, false, false]) rfl (by kernel_rfl) rfl (V.move rfl) rfl rfl ?_
                        refine XQ.pv (i := 8) (l' := #[true, true, true, true, true, true, true, true, true, false, false, false, false]) rfl (by kernel_rfl) rfl (V.indexArr rfl rfl ar_49 (by omega)) rfl rfl ?_
                        refine XQ.load (i := 9) (l' := #[true, true, true, true, true, true, true, true, true, true, false, false, false]) (.cells _ _ _ _) [] rfl (by kernel_rfl) rfl (.there (.there .here)) (V.load rfl inEnt (encI.ld _ _ _ (by omega)) sc_3) rfl (by kernel_rfl) rfl ?_
                        refine XQ.pv (i := 10) (l' := #[true, true, true, true, true, true, true, true, true, true, true, false, false]) rfl (by kernel_rfl) rfl (V.quo rfl rfl (by first | decide | omega) _ (quo_nn (by omega) (by omega) (by omega))) rfl rfl ?_
                        refine XQ.pv (i := 11) (l' := #[true, true, true, true, true, true, true, true, true, true, true, true, false]) rfl (by kernel_rfl) rfl (V.max2 rfl rfl) rfl rfl ?_
                        refine XQ.pv (i := 12) (l' := #[true, true, true, true, true, true, true, true, true, true, true, true, true]) rfl (by kernel_rfl) rfl (V.cmp rfl rfl rfl) rfl rfl ?_
                        refine XQ.done (by kernel_rfl) ?_
                        refine XE.next ?_
                        refine XC.keep [(2, _), (7, _), (8, _), (9, _), (10, _), (12, _), (17, _), (18, _), (19, _), (21, _), (22, _), (206, _)] (Sub.cons rfl (Sub.cons rfl (Sub.cons rfl (Sub.cons rfl (Sub.cons rfl (Sub.cons rfl (Sub.cons rfl (Sub.cons rfl (Sub.cons rfl (Sub.cons rfl (Sub.cons rfl (Sub.cons rfl (Sub.nil _))))))))))))) ?_
                        refine XC.condFP rfl (by have := tT.pair qD (i := i) (j := j) (by omega) (by omega) (by omega) (by omega) (by omega); omega) ?_
                        refine XC.skip ?_
                        refine XE.blockNormal ?_
                        refine XE.next ?_
                        refine XC.keep [(2, _), (7, _), (8, _), (9, _), (10, _), (12, _), (17, _), (18, _), (19, _), (21, _), (22, _)] (Sub.cons rfl (Sub.cons rfl (Sub.cons rfl (Sub.cons rfl (Sub.cons rfl (Sub.cons rfl (Sub.cons rfl (Sub.cons rfl (Sub.cons rfl (Sub.cons rfl (Sub.cons rfl (Sub.nil _)))))))))))) ?_
                        refine XC.region ?_
                        refine XO.v (V.move rfl) rfl ?_
                        refine XO.v (V.add rfl rfl _ (IntWalk.i64_in _ (by omega))) rfl ?_
                        refine XO.v (V.assign rfl) rfl ?_
                        refine XO.nil ?_
                        refine XE.again (j + 1) ?_ ?_ (Sub.cons rfl (Sub.cons rfl (Sub.cons rfl (Sub.cons rfl (Sub.cons rfl (Sub.cons rfl (Sub.cons rfl (Sub.cons rfl (Sub.cons rfl (Sub.cons rfl (Sub.cons rfl (Sub.nil _)))))))))))) (fun _ hw => XM.pick (.cons .here (.cons .here (.cons .here (.cons .here (.cons .here (.cons .here (.cons .here .nil))))))) hw)
                        · skip
                          (first | omega | (simp; done) | (simp; omega))
                        · skip
                          (first | omega | (simp; done) | (simp; omega))
                    · skip
                      refine XC.exit ?_
                      refine XE.thenExit ?_
                      refine XE.thenExit ?_
                      refine XE.blockExit ?_
                      refine XE.blockNormal ?_
                      refine XE.next ?_
                      refine XC.keep [(2, _), (7, _), (8, _), (9, _), (10, _), (12, _), (17, _), (18, _), (19, _), (21, _)] (Sub.cons rfl (Sub.cons rfl (Sub.cons rfl (Sub.cons rfl (Sub.cons rfl (Sub.cons rfl (Sub.cons rfl (Sub.cons rfl (Sub.cons rfl (Sub.cons rfl (Sub.nil _))))))))))) ?_
                      refine XC.region ?_
                      refine XO.v (V.move rfl) rfl ?_
                      refine XO.v (V.add rfl rfl _ (IntWalk.i64_in _ (by omega))) rfl ?_
                      refine XO.v (V.assign rfl) rfl ?_
                      refine XO.nil ?_
                      refine XE.again (i + 1) ?_ ?_ (Sub.cons rfl (Sub.cons rfl (Sub.cons rfl (Sub.cons rfl (Sub.cons rfl (Sub.cons rfl (Sub.cons rfl (Sub.cons rfl (Sub.cons rfl (Sub.cons rfl (Sub.nil _))))))))))) (fun _ hw => XM.pick (.cons .here (.cons .here (.cons .here (.cons .here (.cons .here (.cons .here (.cons .here .nil))))))) hw)
                      · skip
                        (first | omega | (simp; done) | (simp; omega))
                      · skip
                        (first | omega | (simp; done) | (simp; omega))
                  · skip
                    refine XC.exit ?_
                    refine XE.thenExit ?_
                    refine XE.thenExit ?_
                    refine XE.blockExit ?_
                    refine XE.blockNormal ?_
                    refine XE.next ?_
                    refine XC.keep [(2, _), (7, _), (8, _), (9, _), (10, _), (12, _), (17, _), (18, _), (19, _)] (Sub.cons rfl (Sub.cons rfl (Sub.cons rfl (Sub.cons rfl (Sub.cons rfl (Sub.cons rfl (Sub.cons rfl (Sub.cons rfl (Sub.cons rfl (Sub.nil _)))))))))) ?_
                    refine XC.region ?_
                    refine XO.v (V.move rfl) rfl ?_
                    refine XO.v (V.add rfl rfl _ (IntWalk.i64_in _ (by omega))) rfl ?_
                    refine XO.v (V.assign rfl) rfl ?_
                    refine XO.nil ?_
                    refine XE.again ((t, (fset c.2.1 (c.1.toSF.tick dF).1 (c.2.1 (c.1.toSF.tick dF).1 + 1)), (fset c.2.2.1 (y.2.2.1 (c.1.toSF.tick dF).1) (c.2.2.1 (y.2.2.1 (c.1.toSF.tick dF).1) + 1)), c.2.2.2 + 1)) ?_ ?_ (Sub.cons rfl (Sub.cons rfl (Sub.cons rfl (Sub.cons rfl (Sub.cons rfl (Sub.cons rfl (Sub.cons rfl (Sub.cons rfl (Sub.cons rfl (Sub.nil _)))))))))) (fun _ hw => XM.pick (.cons .here (.cons .here (.cons .here (.cons .here (.cons .here (.cons .here (.cons .here .nil))))))) hw)
                    · skip
                      (simp; omega)
                    · skip
                      exact ⟨tR, by rw [tl]; exact tT, by rw [tl]; exact qD, by simp; omega, by simp; omega⟩
              · skip
                refine XC.exit ?_
                refine XE.thenExit ?_
                refine XE.thenExit ?_
                refine XE.blockExit ?_
                refine XE.next ?_
                refine XC.keep [(2, _), (7, _), (9, _), (10, _), (12, _), (17, _), (18, _)] (Sub.cons rfl (Sub.cons rfl (Sub.cons rfl (Sub.cons rfl (Sub.cons rfl (Sub.cons rfl (Sub.cons rfl (Sub.nil _)))))))) ?_
                refine XC.seq ?_
                refine XC.seq ?_
                refine XC.region ?_
                refine XO.v (V.assign rfl) rfl ?_
                refine XO.nil ?_
                refine XE.next ?_
                refine XC.keep [(2, _), (7, _), (9, _), (10, _), (12, _), (17, _), (18, _), (25, _)] (Sub.cons rfl (Sub.cons rfl (Sub.cons rfl (Sub.cons rfl (Sub.cons rfl (Sub.cons rfl (Sub.cons rfl (Sub.cons rfl (Sub.nil _))))))))) ?_
                refine XC.block ?_
                refine XC.loop (σ := Int) (fun i => (y.2.2.2.1 - i).toNat) (fun i => 0 ≤ i ∧ i ≤ y.2.2.2.1) (fun i => [(25, .int .i64 i), (2, .int .i64 tk), (7, ptr bs2 0 0), (9, ptr bg 0 0), (10, ptr bq 0 0), (12, .int .i64 y.2.2.2.1), (17, ptr br 0 0), (18, ptr bh 0 0)]) (fun i => XM W (foot [.ro b2 o2 n2 (encI w2 n2)]) [.cells bs2 0 2281 (encS c.1), .fam fam30 (SC.rows 86 c.1), .cells bw 0 20 (encI y.2.1 20), .cells bg 0 20 (encI y.2.2.1 20), .cells bq 0 4 (encI p.2.1 4), .cells br 0 20 (encI c.2.1 20), .cells bh 0 4 (encI c.2.2.1 4)]) (0) ?_ (Sub.cons rfl (Sub.cons rfl (Sub.cons rfl (Sub.cons rfl (Sub.cons rfl (Sub.cons rfl (Sub.cons rfl (Sub.cons rfl (Sub.nil _))))))))) (fun _ hw => XM.pick (.cons .here (.cons .here (.cons .here (.cons .here (.cons .here (.cons .here (.cons .here .nil))))))) hw) ?_
                · skip
                  omega
                intro i hi
                refine XC.seq ?_
                refine XC.seq ?_
                refine XC.region ?_
                refine XO.v (V.move rfl) rfl ?_
                refine XO.v (V.move rfl) rfl ?_
                refine XO.v (V.cmp rfl rfl rfl) rfl ?_
                refine XO.nil ?_
                refine XE.next ?_
                refine XC.keep [(2, _), (7, _), (9, _), (10, _), (12, _), (17, _), (18, _), (25, _), (209, _)] (Sub.cons rfl (Sub.cons rfl (Sub.cons rfl (Sub.cons rfl (Sub.cons rfl (Sub.cons rfl (Sub.cons rfl (Sub.cons rfl (Sub.cons rfl (Sub.nil _)))))))))) ?_
                refine XC.condP rfl (fun h15 => ?_) (fun h15 => ?_)
                · skip
                  refine XC.skip ?_
                  refine XE.next ?_
                  refine XC.keep [(2, _), (7, _), (9, _), (10, _), (12, _), (17, _), (18, _), (25, _)] (Sub.cons rfl (Sub.cons rfl (Sub.cons rfl (Sub.cons rfl (Sub.cons rfl (Sub.cons rfl (Sub.cons rfl (Sub.cons rfl (Sub.nil _))))))))) ?_
                  refine XC.seq ?_
                  refine XC.block ?_
                  refine XC.seq ?_
                  refine XC.region ?_
                  refine XO.v (V.move rfl) rfl ?_
                  refine XO.v (V.move rfl) rfl ?_
                  have hE := cT.tkE0 (x := i) (by omega) (by omega)
                  refine XO.call rfl (f_ran _ _ _ _) (.cons .here .nil) cl_13 rfl ?_
                  rintro _ _ ⟨rfl, rfl⟩
                  refine XO.v (V.move rfl) rfl ?_
                  refine XO.v (V.extract rfl rfl) rfl ?_
                  refine XO.v (V.extract rfl rfl) rfl ?_
                  refine XO.v (V.assign rfl) rfl ?_
                  refine XO.v (V.assign rfl) rfl ?_
                  refine XO.nil ?_
                  refine XE.next ?_
                  refine XC.keep [(2, _), (7, _), (9, _), (10, _), (12, _), (17, _), (18, _), (25, _), (26, _), (27, _)] (Sub.cons rfl (Sub.cons rfl (Sub.cons rfl (Sub.cons rfl (Sub.cons rfl (Sub.cons rfl (Sub.cons rfl (Sub.cons rfl (Sub.cons rfl (Sub.cons rfl (Sub.nil _))))))))))) ?_
                  refine XC.seq ?_
                  refine XC.seq ?_
                  refine XC.region ?_
                  refine XO.v (V.move rfl) rfl ?_
                  refine XO.v (V.errNil rfl Try.underlying40 rfl) rfl ?_
                  refine XO.v (V.move rfl) rfl ?_
                  refine XO.splitF (d := 220) rfl (by rw [hE]; simp) ?_
                  refine XO.guardRun rfl rfl rfl ?_
                  refine XO.v (V.move rfl) rfl ?_
                  refine XO.guardRun rfl rfl rfl ?_
                  refine XO.v (V.move rfl) rfl ?_
                  refine XO.guardRun rfl rfl rfl ?_
                  refine XO.v (V.indexArr rfl rfl ar_49 (by omega)) rfl ?_
                  refine XO.guardRun rfl rfl rfl ?_
                  refine XO.v (V.load rfl (inXM (.there (.there (.there (.there (.there .here)))))) (encI.ld _ _ _ (by omega)) sc_3) rfl ?_
                  refine XO.guardRun rfl rfl rfl ?_
                  refine XO.v (V.cmp rfl rfl rfl) rfl ?_
                  refine XO.v (V.pick rfl rfl rfl rfl) rfl ?_
                  refine XO.nil ?_
                  refine XE.next ?_
                  refine XC.keep [(2, _), (7, _), (9, _), (10, _), (12, _), (17, _), (18, _), (25, _), (226, _)] (Sub.cons rfl (Sub.cons rfl (Sub.cons rfl (Sub.cons rfl (Sub.cons rfl (Sub.cons rfl (Sub.cons rfl (Sub.cons rfl (Sub.cons rfl (Sub.nil _)))))))))) ?_
                  refine XC.condFP rfl (by rw [if_pos hE, cD.rn i (by omega) (by omega)]; simp) ?_
                  refine XC.skip ?_
                  refine XE.next ?_
                  refine XC.keep [(2, _), (7, _), (9, _), (10, _), (12, _), (17, _), (18, _), (25, _)] (Sub.cons rfl (Sub.cons rfl (Sub.cons rfl (Sub.cons rfl (Sub.cons rfl (Sub.cons rfl (Sub.cons rfl (Sub.cons rfl (Sub.nil _))))))))) ?_
                  refine XC.seq ?_
                  refine XC.region ?_
                  refine XO.v (V.assign rfl) rfl ?_
                  refine XO.nil ?_
                  refine XE.next ?_
                  refine XC.keep [(2, _), (7, _), (9, _), (10, _), (12, _), (17, _), (18, _), (25, _), (28, _)] (Sub.cons rfl (Sub.cons rfl (Sub.cons rfl (Sub.cons rfl (Sub.cons rfl (Sub.cons rfl (Sub.cons rfl (Sub.cons rfl (Sub.cons rfl (Sub.nil _)))))))))) ?_
                  refine XC.block ?_
                  refine XC.loop (σ := Int) (fun j => (y.2.2.2.1 - j).toNat) (fun j => 0 ≤ j ∧ j ≤ y.2.2.2.1) (fun j => [(28, .int .i64 j), (2, .int .i64 tk), (7, ptr bs2 0 0), (9, ptr bg 0 0), (10, ptr bq 0 0), (12, .int .i64 y.2.2.2.1), (17, ptr br 0 0), (18, ptr bh 0 0), (25, .int .i64 i)]) (fun j => XM W (foot [.ro b2 o2 n2 (encI w2 n2)]) [.cells bs2 0 2281 (encS c.1), .fam fam30 (SC.rows 86 c.1), .cells bw 0 20 (encI y.2.1 20), .cells bg 0 20 (encI y.2.2.1 20), .cells bq 0 4 (encI p.2.1 4), .cells br 0 20 (encI c.2.1 20), .cells bh 0 4 (encI c.2.2.1 4)]) (0) ?_ (Sub.cons rfl (Sub.cons rfl (Sub.cons rfl (Sub.cons rfl (Sub.cons rfl (Sub.cons rfl (Sub.cons rfl (Sub.cons rfl (Sub.cons rfl (Sub.nil _)))))))))) (fun _ hw => XM.pick (.cons .here (.cons .here (.cons .here (.cons .here (.cons .here (.cons .here (.cons .here .nil))))))) hw) ?_
                  · skip
                    omega
                  intro j hj
                  refine XC.seq ?_
                  refine XC.seq ?_
                  refine XC.region ?_
                  refine XO.v (V.move rfl) rfl ?_
                  refine XO.v (V.move rfl) rfl ?_
                  refine XO.v (V.cmp rfl rfl rfl) rfl ?_
                  refine XO.nil ?_
                  refine XE.next ?_
                  refine XC.keep [(2, _), (7, _), (9, _), (10, _), (12, _), (17, _), (18, _), (25, _), (28, _), (229, _)] (Sub.cons rfl (Sub.cons rfl (Sub.cons rfl (Sub.cons rfl (Sub.cons rfl (Sub.cons rfl (Sub.cons rfl (Sub.cons rfl (Sub.cons rfl (Sub.cons rfl (Sub.nil _))))))))))) ?_
                  refine XC.condP rfl (fun h17 => ?_) (fun h17 => ?_)
                  · skip
                    refine XC.skip ?_
                    refine XE.next ?_
                    refine XC.keep [(2, _), (7, _), (9, _), (10, _), (12, _), (17, _), (18, _), (25, _), (28, _)] (Sub.cons rfl (Sub.cons rfl (Sub.cons rfl (Sub.cons rfl (Sub.cons rfl (Sub.cons rfl (Sub.cons rfl (Sub.cons rfl (Sub.cons rfl (Sub.nil _)))))))))) ?_
                    refine XC.seq ?_
                    refine XC.block ?_
                    refine XC.seq ?_
                    refine XC.region ?_
                    obtain ⟨_, gi0, gi1, _⟩ := cT.tk i (by omega) (by omega)
                    obtain ⟨_, gj0, gj1, _⟩ := cT.tk j (by omega) (by omega)
                    refine XO.v (V.move rfl) rfl ?_
                    refine XO.v (V.indexArr rfl rfl ar_49 (by omega)) rfl ?_
                    refine XO.v (V.load rfl (inXM (.there (.there (.there .here)))) (encI.ld _ _ _ (by omega)) sc_3) rfl ?_
                    refine XO.v (V.assign rfl) rfl ?_
                    refine XO.nil ?_
                    refine XE.next ?_
                    refine XC.keep [(2, _), (7, _), (9, _), (10, _), (12, _), (17, _), (18, _), (25, _), (28, _), (29, _)] (Sub.cons rfl (Sub.cons rfl (Sub.cons rfl (Sub.cons rfl (Sub.cons rfl (Sub.cons rfl (Sub.cons rfl (Sub.cons rfl (Sub.cons rfl (Sub.cons rfl (Sub.nil _))))))))))) ?_
                    refine XC.seq ?_
                    refine XC.region ?_
                    refine XO.v (V.move rfl) rfl ?_
                    refine XO.v (V.indexArr rfl rfl ar_49 (by omega)) rfl ?_
                    refine XO.v (V.load rfl (inXM (.there (.there (.there .here)))) (encI.ld _ _ _ (by omega)) sc_3) rfl ?_
                    refine XO.v (V.assign rfl) rfl ?_
                    refine XO.nil ?_
                    refine XE.next ?_
                    refine XC.keep [(2, _), (7, _), (9, _), (10, _), (12, _), (17, _), (18, _), (25, _), (28, _), (29, _), (30, _)] (Sub.cons rfl (Sub.cons rfl (Sub.cons rfl (Sub.cons rfl (Sub.cons rfl (Sub.cons rfl (Sub.cons rfl (Sub.cons rfl (Sub.cons rfl (Sub.cons rfl (Sub.cons rfl (Sub.nil _)))))))))))) ?_
                    refine XC.seq ?_
                    refine XC.seq ?_
                    refine XC.region ?_
                    refine XO.v (V.move rfl) rfl ?_
                    refine XO.v (V.cmp rfl rfl rfl) rfl ?_
                    refine XO.v (V.move rfl) rfl ?_
                    refine XO.splitP (d := 240) rfl (fun h18 => ?_) (fun h18 => ?_)
                    · skip
                      refine XO.guardSkip rfl rfl rfl rfl rfl ?_
                      refine XO.guardSkip rfl rfl rfl rfl rfl ?_
                      refine XO.v (V.pick rfl rfl rfl rfl) rfl ?_
                      refine XO.v (V.move rfl) rfl ?_
                      refine XO.guardSkip rfl rfl rfl rfl rfl ?_
                      refine XO.guardSkip rfl rfl rfl rfl rfl ?_
                      refine XO.guardSkip rfl rfl rfl rfl rfl ?_
                      refine XO.v (V.pick rfl rfl rfl rfl) rfl ?_
                      refine XO.nil ?_
                      refine XE.next ?_
                      refine XC.keep [(2, _), (7, _), (9, _), (10, _), (12, _), (17, _), (18, _), (25, _), (28, _), (29, _), (30, _), (248, _)] (Sub.cons rfl (Sub.cons rfl (Sub.cons rfl (Sub.cons rfl (Sub.cons rfl (Sub.cons rfl (Sub.cons rfl (Sub.cons rfl (Sub.cons rfl (Sub.cons rfl (Sub.cons rfl (Sub.cons rfl (Sub.nil _))))))))))))) ?_
                      refine XC.condT rfl rfl ?_
                      refine XC.exit ?_
                      refine XE.thenExit ?_
                      refine XE.blockExit ?_
                      refine XE.next ?_
                      refine XC.keep [(2, _), (7, _), (9, _), (10, _), (12, _), (17, _), (18, _), (25, _), (28, _)] (Sub.cons rfl (Sub.cons rfl (Sub.cons rfl (Sub.cons rfl (Sub.cons rfl (Sub.cons rfl (Sub.cons rfl (Sub.cons rfl (Sub.cons rfl (Sub.nil _)))))))))) ?_
                      refine XC.region ?_
                      refine XO.v (V.move rfl) rfl ?_
                      refine XO.v (V.add rfl rfl _ (IntWalk.i64_in _ (by omega))) rfl ?_
                      refine XO.v (V.assign rfl) rfl ?_
                      refine XO.nil ?_
                      refine XE.again (j + 1) ?_ ?_ (Sub.cons rfl (Sub.cons rfl (Sub.cons rfl (Sub.cons rfl (Sub.cons rfl (Sub.cons rfl (Sub.cons rfl (Sub.cons rfl (Sub.cons rfl (Sub.nil _)))))))))) (fun _ hw => XM.pick (.cons .here (.cons .here (.cons .here (.cons .here (.cons .here (.cons .here (.cons .here .nil))))))) hw)
                      · skip
                        (first | omega | (simp; done) | (simp; omega))
                      · skip
                        (first | omega | (simp; done) | (simp; omega))
                    · skip
                      refine XO.guardRun rfl rfl rfl ?_
                      refine XO.v (V.move rfl) rfl ?_
                      refine XO.guardRun rfl rfl rfl ?_
                      refine XO.v (V.cmp rfl rfl rfl) rfl ?_
                      refine XO.v (V.pick rfl rfl rfl rfl) rfl ?_
                      refine XO.v (V.move rfl) rfl ?_
                      refine XO.splitP (d := 244) rfl (fun h19 => ?_) (fun h19 => ?_)
                      · skip
                        refine XO.guardSkip rfl rfl rfl rfl rfl ?_
                        refine XO.guardSkip rfl rfl rfl rfl rfl ?_
                        refine XO.guardSkip rfl rfl rfl rfl rfl ?_
                        refine XO.v (V.pick rfl rfl rfl rfl) rfl ?_
                        refine XO.nil ?_
                        refine XE.next ?_
                        refine XC.keep [(2, _), (7, _), (9, _), (10, _), (12, _), (17, _), (18, _), (25, _), (28, _), (29, _), (30, _), (248, _)] (Sub.cons rfl (Sub.cons rfl (Sub.cons rfl (Sub.cons rfl (Sub.cons rfl (Sub.cons rfl (Sub.cons rfl (Sub.cons rfl (Sub.cons rfl (Sub.cons rfl (Sub.cons rfl (Sub.cons rfl (Sub.nil _))))))))))))) ?_
                        refine XC.condT rfl rfl ?_
                        refine XC.exit ?_
                        refine XE.thenExit ?_
                        refine XE.blockExit ?_
                        refine XE.next ?_
                        refine XC.keep [(2, _), (7, _), (9, _), (10, _), (12, _), (17, _), (18, _), (25, _), (28, _)] (Sub.cons rfl (Sub.cons rfl (Sub.cons rfl (Sub.cons rfl (Sub.cons rfl (Sub.cons rfl (Sub.cons rfl (Sub.cons rfl (Sub.cons rfl (Sub.nil _)))))))))) ?_
                        refine XC.region ?_
                        refine XO.v (V.move rfl) rfl ?_
                        refine XO.v (V.add rfl rfl _ (IntWalk.i64_in _ (by omega))) rfl ?_
                        refine XO.v (V.assign rfl) rfl ?_
                        refine XO.nil ?_
                        refine XE.again (j + 1) ?_ ?_ (Sub.cons rfl (Sub.cons rfl (Sub.cons rfl (Sub.cons rfl (Sub.cons rfl (Sub.cons rfl (Sub.cons rfl (Sub.cons rfl (Sub.cons rfl (Sub.nil _)))))))))) (fun _ hw => XM.pick (.cons .here (.cons .here (.cons .here (.cons .here (.cons .here (.cons .here (.cons .here .nil))))))) hw)
                        · skip
                          (first | omega | (simp; done) | (simp; omega))
                        · skip
                          (first | omega | (simp; done) | (simp; omega))
                      · skip
                        refine XO.guardRun rfl rfl rfl ?_
                        refine XO.v (V.move rfl) rfl ?_
                        refine XO.guardRun rfl rfl rfl ?_
                        refine XO.v (V.move rfl) rfl ?_
                        refine XO.guardRun rfl rfl rfl ?_
                        refine XO.v (V.cmp rfl rfl rfl) rfl ?_
                        refine XO.v (V.pick rfl rfl rfl rfl) rfl ?_
                        refine XO.nil ?_
                        refine XE.next ?_
                        refine XC.keep [(2, _), (7, _), (9, _), (10, _), (12, _), (17, _), (18, _), (25, _), (28, _), (29, _), (30, _), (248, _)] (Sub.cons rfl (Sub.cons rfl (Sub.cons rfl (Sub.cons rfl (Sub.cons rfl (Sub.cons rfl (Sub.cons rfl (Sub.cons rfl (Sub.cons rfl (Sub.cons rfl (Sub.cons rfl (Sub.cons rfl (Sub.nil _))))))))))))) ?_
                        refine XC.condP rfl (fun h20 => ?_) (fun h20 => ?_)
                        · skip
                          refine XC.exit ?_
                          refine XE.thenExit ?_
                          refine XE.blockExit ?_
                          refine XE.next ?_
                          refine XC.keep [(2, _), (7, _), (9, _), (10, _), (12, _), (17, _), (18, _), (25, _), (28, _)] (Sub.cons rfl (Sub.cons rfl (Sub.cons rfl (Sub.cons rfl (Sub.cons rfl (Sub.cons rfl (Sub.cons rfl (Sub.cons rfl (Sub.cons rfl (Sub.nil _)))))))))) ?_
                          refine XC.region ?_
                          refine XO.v (V.move rfl) rfl ?_
                          refine XO.v (V.add rfl rfl _ (IntWalk.i64_in _ (by omega))) rfl ?_
                          refine XO.v (V.assign rfl) rfl ?_
                          refine XO.nil ?_
                          refine XE.again (j + 1) ?_ ?_ (Sub.cons rfl (Sub.cons rfl (Sub.cons rfl (Sub.cons rfl (Sub.cons rfl (Sub.cons rfl (Sub.cons rfl (Sub.cons rfl (Sub.cons rfl (Sub.nil _)))))))))) (fun _ hw => XM.pick (.cons .here (.cons .here (.cons .here (.cons .here (.cons .here (.cons .here (.cons .here .nil))))))) hw)
                          · skip
                            (first | omega | (simp; done) | (simp; omega))
                          · skip
                            (first | omega | (simp; done) | (simp; omega))
                        · skip
                          refine XC.skip ?_
                          refine XE.next ?_
                          refine XC.keep [(2, _), (7, _), (9, _), (10, _), (12, _), (17, _), (18, _), (25, _), (28, _), (29, _), (30, _)] (Sub.cons rfl (Sub.cons rfl (Sub.cons rfl (Sub.cons rfl (Sub.cons rfl (Sub.cons rfl (Sub.cons rfl (Sub.cons rfl (Sub.cons rfl (Sub.cons rfl (Sub.cons rfl (Sub.nil _)))))))))))) ?_
                          refine XC.seq ?_
                          refine XC.regionQ mixed (f := 9) (l := #[false, false, false, false, false, false, false, false, false]) rfl rfl XM.drawn' ?_
                          have wgi : 1 ≤ p.2.1 (y.2.2.1 i) := (by rw [← (cT.gr (y.2.2.1 i) (by omega) (by omega)).2.1]; exact cT.ok.inv.wt _ (by omega) (by omega) ((cT.here _ (by omega) (by omega)).2 (by omega)))
                          have bgi := cD.gbd (y.2.2.1 i) (by omega) (by omega)
                          have hgi : 0 ≤ c.2.2.1 (y.2.2.1 i) * (1048576 / p.2.1 (y.2.2.1 i)) ∧ c.2.2.1 (y.2.2.1 i) * (1048576 / p.2.1 (y.2.2.1 i)) ≤ 501 * 1048576 := ⟨Int.mul_nonneg (by omega) (Int.ediv_nonneg (by omega) (by omega)), Int.mul_le_mul (by omega) (Int.ediv_le_self _ (by omega)) (Int.ediv_nonneg (by omega) (by omega)) (by omega)⟩
                          have wgj : 1 ≤ p.2.1 (y.2.2.1 j) := (by rw [← (cT.gr (y.2.2.1 j) (by omega) (by omega)).2.1]; exact cT.ok.inv.wt _ (by omega) (by omega) ((cT.here _ (by omega) (by omega)).2 (by omega)))
                          have bgj := cD.gbd (y.2.2.1 j) (by omega) (by omega)
                          have hgj : 0 ≤ c.2.2.1 (y.2.2.1 j) * (1048576 / p.2.1 (y.2.2.1 j)) ∧ c.2.2.1 (y.2.2.1 j) * (1048576 / p.2.1 (y.2.2.1 j)) ≤ 501 * 1048576 := ⟨Int.mul_nonneg (by omega) (Int.ediv_nonneg (by omega) (by omega)), Int.mul_le_mul (by omega) (Int.ediv_le_self _ (by omega)) (Int.ediv_nonneg (by omega) (by omega)) (by omega)⟩
                          refine XQ.pv (i := 0) (l' := #[true, false, false, false, false, false, false, false, false]) rfl (by kernel_rfl) rfl (V.move rfl) rfl rfl ?_
                          refine XQ.pv (i := 1) (l' := #[true, true, false, false, false, false, false, false, false]) rfl (by kernel_rfl) rfl (V.indexArr rfl rfl ar_52 (by omega)) rfl rfl ?_
                          refine XQ.load (i := 2) (l' := #[true, true, true, false, false, false, false, false, false]) (.cells _ _ _ _) [] rfl (by kernel_rfl) rfl (.there (.there (.there (.there (.there (.there .here)))))) (V.load rfl inEnt (encI.ld _ _ _ (by omega)) sc_3) rfl (by kernel_rfl) rfl ?_
                          refine XQ.pv (i := 3) (l' := #[true, true, true, true, false, false, false, false, false]) rfl (by kernel_rfl) rfl (V.move rfl) rfl rfl ?_
                          refine XQ.pv (i := 4) (l' := #[true, true, true, true, true, false, false, false, false]) rfl (by kernel_rfl) rfl (V.indexArr rfl rfl ar_52 (by omega)) rfl rfl ?_
                          refine XQ.load (i := 5) (l' := #[true, true, true, true, true, true, false, false, false]) (.cells _ _ _ _) [] rfl (by kernel_rfl) rfl (.there (.there (.there (.there .here)))) (V.load rfl inEnt (encI.ld _ _ _ (by omega)) sc_3) rfl (by kernel_rfl) rfl ?_
                          refine XQ.pv (i := 6) (l' := #[true, true, true, true, true, true, true, false, false]) rfl (by kernel_rfl) rfl (V.quo rfl rfl (by first | decide | omega) _ (quo_nn (by omega) (by omega) (by omega))) rfl rfl ?_
                          refine XQ.pv (i := 7) (l' := #[true, true, true, true, true, true, true, true, false]) rfl (by kernel_rfl) rfl (V.mul rfl rfl _ (SF.i64_le (a := c.2.2.1 (y.2.2.1 i) * (1048576 / p.2.1 (y.2.2.1 i))) hgi.1 (by omega))) rfl rfl ?_
                          refine XQ.pv (i := 8) (l' := #[true, true, true, true, true, true, true, true, true]) rfl (by kernel_rfl) rfl (V.assign rfl) rfl rfl ?_
                          refine XQ.done (by kernel_rfl) ?_
                          refine XE.next ?_
                          refine XC.keep [(2, _), (7, _), (9, _), (10, _), (12, _), (17, _), (18, _), (25, _), (28, _), (29, _), (30, _), (31, _)] (Sub.cons rfl (Sub.cons rfl (Sub.cons rfl (Sub.cons rfl (Sub.cons rfl (Sub.cons rfl (Sub.cons rfl (Sub.cons rfl (Sub.cons rfl (Sub.cons rfl (Sub.cons rfl (Sub.cons rfl (Sub.nil _))))))))))))) ?_
                          refine XC.seq ?_
                          refine XC.regionQ mixed (f := 9) (l := #[false, false, false, false, false, false, false, false, false]) rfl rfl XM.drawn' ?_
                          refine XQ.pv (i := 0) (l' := #[true, false, false, false, false, false, false, false, false]) rfl (by kernel_rfl) rfl (V.move rfl) rfl rfl ?_
                          refine XQ.pv (i := 1) (l' := #[true, true, false, false, false, false, false, false, false]) rfl (by kernel_rfl) rfl (V.indexArr rfl rfl ar_52 (by omega)) rfl rfl ?_
                          refine XQ.load (i := 2) (l' := #[true, true, true, false, false, false, false, false, false]) (.cells _ _ _ _) [] rfl (by kernel_rfl) rfl (.there (.there (.there (.there (.there (.there .here)))))) (V.load rfl inEnt (encI.ld _ _ _ (by omega)) sc_3) rfl (by kernel_rfl) rfl ?_
                          refine XQ.pv (i := 3) (l' := #[true, true, true, true, false, false, false, false, false]) rfl (by kernel_rfl) rfl (V.move rfl) rfl rfl ?_
                          refine XQ.pv (i := 4) (l' := #[true, true, true, true, true, false, false, false, false]) rfl (by kernel_rfl) rfl (V.indexArr rfl rfl ar_52 (by omega)) rfl rfl ?_
                          refine XQ.load (i := 5) (l' := #[true, true, true, true, true, true, false, false, false]) (.cells _ _ _ _) [] rfl (by kernel_rfl) rfl (.there (.there (.there (.there .here)))) (V.load rfl inEnt (encI.ld _ _ _ (by omega)) sc_3) rfl (by kernel_rfl) rfl ?_
                          refine XQ.pv (i := 6) (l' := #[true, true, true, true, true, true, true, false, false]) rfl (by kernel_rfl) rfl (V.quo rfl rfl (by first | decide | omega) _ (quo_nn (by omega) (by omega) (by omega))) rfl rfl ?_
                          refine XQ.pv (i := 7) (l' := #[true, true, true, true, true, true, true, true, false]) rfl (by kernel_rfl) rfl (V.mul rfl rfl _ (SF.i64_le (a := c.2.2.1 (y.2.2.1 j) * (1048576 / p.2.1 (y.2.2.1 j))) hgj.1 (by omega))) rfl rfl ?_
                          refine XQ.pv (i := 8) (l' := #[true, true, true, true, true, true, true, true, true]) rfl (by kernel_rfl) rfl (V.assign rfl) rfl rfl ?_
                          refine XQ.done (by kernel_rfl) ?_
                          refine XE.next ?_
                          refine XC.keep [(2, _), (7, _), (9, _), (10, _), (12, _), (17, _), (18, _), (25, _), (28, _), (29, _), (30, _), (31, _), (32, _)] (Sub.cons rfl (Sub.cons rfl (Sub.cons rfl (Sub.cons rfl (Sub.cons rfl (Sub.cons rfl (Sub.cons rfl (Sub.cons rfl (Sub.cons rfl (Sub.cons rfl (Sub.cons rfl (Sub.cons rfl (Sub.cons rfl (Sub.nil _)))))))))))))) ?_
                          refine XC.seq ?_
                          refine XC.regionQ mixed (f := 13) (l := #[false, false, false, false, false, false, false, false, false, false, false, false, false]) rfl rfl XM.drawn' ?_
                          refine XQ.pv (i := 0) (l' := #[true, false, false, false, false, false, false, false, false, false, false, false, false]) rfl (by kernel_rfl) rfl (V.move rfl) rfl rfl ?_
                          refine XQ.pv (i := 1) (l' := #[true, true, false, false, false, false, false, false, false, false, false, false, false]) rfl (by kernel_rfl) rfl (V.move rfl) rfl rfl ?_
                          refine XQ.pv (i := 2) (l' := #[true, true, true, false, false, false, false, false, false, false, false, false, false]) rfl (by kernel_rfl) rfl (V.sub rfl rfl _ (IntWalk.i64_in _ (by omega))) rfl rfl ?_
                          refine XQ.pv (i := 3) (l' := #[true, true, true, true, false, false, false, false, false, false, false, false, false]) rfl (by kernel_rfl) rfl (V.move rfl) rfl rfl ?_
                          refine XQ.pv (i := 4) (l' := #[true, true, true, true, true, false, false, false, false, false, false, false, false]) rfl (by kernel_rfl) rfl (V.indexArr rfl rfl ar_52 (by omega)) rfl rfl ?_
                          refine XQ.load (i := 5) (l' := #[true, true, true, true, true, true, false, false, false, false, false, false, false]) (.cells _ _ _ _) [] rfl (by kernel_rfl) rfl (.there (.there (.there (.there .here)))) (V.load rfl inEnt (encI.ld _ _ _ (by omega)) sc_3) rfl (by kernel_rfl) rfl ?_
                          refine XQ.pv (i := 6) (l' := #[true, true, true, true, true, true, true, false, false, false, false, false, false]) rfl (by kernel_rfl) rfl (V.quo rfl rfl (by first | decide | omega) _ (quo_nn (by omega) (by omega) (by omega))) rfl rfl ?_
                          refine XQ.pv (i := 7) (l' := #[true, true, true, true, true, true, true, true, false, false, false, false, false]) rfl (by kernel_rfl) rfl (V.move rfl) rfl rfl ?_
                          refine XQ.pv (i := 8) (l' := #[true, true, true, true, true, true, true, true, true, false, false, false, false]) rfl (by kernel_rfl) rfl (V.indexArr rfl rfl ar_52 (by omega)) rfl rfl ?_
                          refine XQ.load (i := 9) (l' := #[true, true, true, true, true, true, true, true, true, true, false, false, false]) (.cells _ _ _ _) [] rfl (by kernel_rfl) rfl (.there (.there (.there (.there .here)))) (V.load rfl inEnt (encI.ld _ _ _ (by omega)) sc_3) rfl (by kernel_rfl) rfl ?_
                          refine XQ.pv (i := 10) (l' := #[true, true, true, true, true, true, true, true, true, true, true, false, false]) rfl (by kernel_rfl) rfl (V.quo rfl rfl (by first | decide | omega) _ (quo_nn (by omega) (by omega) (by omega))) rfl rfl ?_
                          refine XQ.pv (i := 11) (l' := #[true, true, true, true, true, true, true, true, true, true, true, true, false]) rfl (by kernel_rfl) rfl (V.max2 rfl rfl) rfl rfl ?_
                          refine XQ.pv (i := 12) (l' := #[true, true, true, true, true, true, true, true, true, true, true, true, true]) rfl (by kernel_rfl) rfl (V.cmp rfl rfl rfl) rfl rfl ?_
                          refine XQ.done (by kernel_rfl) ?_
                          refine XE.next ?_
                          refine XC.keep [(2, _), (7, _), (9, _), (10, _), (12, _), (17, _), (18, _), (25, _), (28, _), (277, _)] (Sub.cons rfl (Sub.cons rfl (Sub.cons rfl (Sub.cons rfl (Sub.cons rfl (Sub.cons rfl (Sub.cons rfl (Sub.cons rfl (Sub.cons rfl (Sub.cons rfl (Sub.nil _))))))))))) ?_
                          refine XC.condFP rfl (by have := cT.gpair cD (i := i) (j := j) (by omega) (by omega) (by omega) (by omega) (by omega) (by omega); omega) ?_
                          refine XC.skip ?_
                          refine XE.blockNormal ?_
                          refine XE.next ?_
                          refine XC.keep [(2, _), (7, _), (9, _), (10, _), (12, _), (17, _), (18, _), (25, _), (28, _)] (Sub.cons rfl (Sub.cons rfl (Sub.cons rfl (Sub.cons rfl (Sub.cons rfl (Sub.cons rfl (Sub.cons rfl (Sub.cons rfl (Sub.cons rfl (Sub.nil _)))))))))) ?_
                          refine XC.region ?_
                          refine XO.v (V.move rfl) rfl ?_
                          refine XO.v (V.add rfl rfl _ (IntWalk.i64_in _ (by omega))) rfl ?_
                          refine XO.v (V.assign rfl) rfl ?_
                          refine XO.nil ?_
                          refine XE.again (j + 1) ?_ ?_ (Sub.cons rfl (Sub.cons rfl (Sub.cons rfl (Sub.cons rfl (Sub.cons rfl (Sub.cons rfl (Sub.cons rfl (Sub.cons rfl (Sub.cons rfl (Sub.nil _)))))))))) (fun _ hw => XM.pick (.cons .here (.cons .here (.cons .here (.cons .here (.cons .here (.cons .here (.cons .here .nil))))))) hw)
                          · skip
                            (first | omega | (simp; done) | (simp; omega))
                          · skip
                            (first | omega | (simp; done) | (simp; omega))
                  · skip
                    refine XC.exit ?_
                    refine XE.thenExit ?_
                    refine XE.thenExit ?_
                    refine XE.blockExit ?_
                    refine XE.blockNormal ?_
                    refine XE.next ?_
                    refine XC.keep [(2, _), (7, _), (9, _), (10, _), (12, _), (17, _), (18, _), (25, _)] (Sub.cons rfl (Sub.cons rfl (Sub.cons rfl (Sub.cons rfl (Sub.cons rfl (Sub.cons rfl (Sub.cons rfl (Sub.cons rfl (Sub.nil _))))))))) ?_
                    refine XC.region ?_
                    refine XO.v (V.move rfl) rfl ?_
                    refine XO.v (V.add rfl rfl _ (IntWalk.i64_in _ (by omega))) rfl ?_
                    refine XO.v (V.assign rfl) rfl ?_
                    refine XO.nil ?_
                    refine XE.again (i + 1) ?_ ?_ (Sub.cons rfl (Sub.cons rfl (Sub.cons rfl (Sub.cons rfl (Sub.cons rfl (Sub.cons rfl (Sub.cons rfl (Sub.cons rfl (Sub.nil _))))))))) (fun _ hw => XM.pick (.cons .here (.cons .here (.cons .here (.cons .here (.cons .here (.cons .here (.cons .here .nil))))))) hw)
                    · skip
                      (first | omega | (simp; done) | (simp; omega))
                    · skip
                      (first | omega | (simp; done) | (simp; omega))
                · skip
                  refine XC.exit ?_
                  refine XE.thenExit ?_
                  refine XE.thenExit ?_
                  refine XE.blockExit ?_
                  refine XE.next ?_
                  refine XC.keep [(2, _), (7, _)] (Sub.cons rfl (Sub.cons rfl (Sub.nil _))) ?_
                  refine XC.seq ?_
                  refine XC.region ?_
                  refine XO.v (V.move rfl) rfl ?_
                  refine XO.call rfl (f_now _ _ _) (.cons .here .nil) cl_12 rfl ?_
                  rintro _ _ ⟨rfl, rfl⟩
                  refine XO.v (V.move rfl) rfl ?_
                  refine XO.v (V.cmp rfl rfl rfl) rfl ?_
                  refine XO.v (V.assign rfl) rfl ?_
                  refine XO.nil ?_
                  refine XE.next ?_
                  refine XC.keep [(6, _)] (Sub.cons rfl (Sub.nil _)) ?_
                  refine XC.ret ?_
                  refine XE.ret1 rfl rfl (post_of .nil rfl ?_)
                  exact ⟨congrArg Value.bool (decide_eq_true (by have h9 : c.1.now = c.2.2.2 := cT.now; rw [h9]; omega)), rfl⟩
end Go.X
