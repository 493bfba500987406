import Derived.Test.YtfpdkhncfkefhaaFK1
namespace Go.X
open Go Go.Proofs

set_option maxRecDepth 10000 in
set_option maxHeartbeats 4000000 in
theorem wake_ns (p1 : Option Addr) (c1 : Nat) (bl ol len cap : Nat) (hlen : len ≤ cap) (A : Int → ActV) (hA : ∀ z : Int, 0 ≤ z → z < len → (A z).ok) : Spec Try.prog 4 [.slice p1 0 c1, .slice (some ⟨bl, ol, none⟩) len cap]
    [.ro bl ol (8 * len) (encActs A)]
    (fun v H1 => v = .bool true ∧ H1 = []) := by
  refine Spec.intro Try.func4 rfl rfl ?_
  intro W
  refine XC.seq ?_
  refine XC.region ?_
  refine XO.v (V.assign rfl) rfl ?_
  refine XO.nil ?_
  refine XE.next ?_
  refine XC.keep [(0, _), (1, _)] (Sub.cons rfl (Sub.cons rfl (Sub.nil _))) ?_
  refine XC.seq ?_
  refine XC.region ?_
  refine XO.call rfl (f_New) .nil cl_9 rfl ?_
  rintro _ _ ⟨bs, rfl, t0, t0l, t0R, rfl⟩
  refine XO.v (V.assign rfl) rfl ?_
  refine XO.nil ?_
  refine XE.next ?_
  refine XC.keep [(0, _), (1, _), (5, _)] (Sub.cons rfl (Sub.cons rfl (Sub.cons rfl (Sub.nil _)))) ?_
  refine XC.seq ?_
  refine XC.seq ?_
  refine XC.region ?_
  have hO0 : t0.toSF.Ok dW 1 0 := by rw [t0l]; exact SF.init_okd SF.dW_le
  refine XO.v (V.move rfl) rfl ?_
  refine XO.v (V.ptrNilP rfl Try.underlying25 rfl) rfl ?_
  refine XO.v (V.move rfl) rfl ?_
  refine XO.guardRun rfl rfl rfl ?_
  refine XO.v (V.move rfl) rfl ?_
  refine XO.guardRun rfl rfl rfl ?_
  refine XO.call rfl (f_AddTask _ _ t0 dW hO0.inv t0R _ _ _) (.cons .here (.cons .here .nil)) cl_16 rfl ?_
  rintro _ _ ⟨rfl, t1, t1l, t1R, rfl⟩
  have e1 : t1.toSF = W1 := by rw [t1l, t0l]; rfl
  have hA : t0.toSF.addTE 0 0 7 = 0 := by rw [t0l]; exact wA
  have hO1 : t1.toSF.TW 1 0 := by rw [e1]; exact W1_tw
  have hB : t1.toSF.tkE 0 = 0 := by rw [e1]; exact wB
  refine XO.guardRun rfl rfl rfl ?_
  refine XO.v (V.errNil rfl Try.underlying40 rfl) rfl ?_
  refine XO.v (V.pick rfl rfl rfl rfl) rfl ?_
  refine XO.v (V.move rfl) rfl ?_
  refine XO.splitF (d := 26) rfl (by simp [hA]) ?_
  refine XO.guardRun rfl rfl rfl ?_
  refine XO.v (V.move rfl) rfl ?_
  refine XO.guardRun rfl rfl rfl ?_
  refine XO.call rfl (f_wake _ _ t1 dW hO1.ok.inv t1R _ _) (.cons .here (.cons .here .nil)) cl_17 rfl ?_
  rintro _ _ ⟨rfl, t2, t2l, t2R, rfl⟩
  have e2 : t2.toSF = W2 := by rw [t2l, e1]; rfl
  refine XO.guardRun rfl rfl rfl ?_
  refine XO.v (V.errNil rfl Try.underlying40 rfl) rfl ?_
  refine XO.v (V.pick rfl rfl rfl rfl) rfl ?_
  refine XO.nil ?_
  refine XE.next ?_
  refine XC.keep [(0, _), (1, _), (5, _), (30, _)] (Sub.cons rfl (Sub.cons rfl (Sub.cons rfl (Sub.cons rfl (Sub.nil _))))) ?_
  refine XC.condFP rfl (by simp [hB]) ?_
  refine XC.skip ?_
  refine XE.next ?_
  refine XC.keep [(0, _), (1, _), (5, _)] (Sub.cons rfl (Sub.cons rfl (Sub.cons rfl (Sub.nil _)))) ?_
  refine XC.seq ?_
  refine XC.seq ?_
  refine XC.region ?_
  refine XO.v (V.move rfl) rfl ?_
  refine XO.v (V.lenSl rfl Try.underlying46) rfl ?_
  refine XO.v (V.cmp rfl rfl rfl) rfl ?_
  refine XO.v (V.move rfl) rfl ?_
  refine XO.splitP (d := 34) rfl (fun h2 => ?_) (fun h2 => ?_)
  · skip
    refine XO.guardSkip rfl rfl rfl rfl rfl ?_
    refine XO.guardSkip rfl rfl rfl rfl rfl ?_
    refine XO.guardSkip rfl rfl rfl rfl rfl ?_
    refine XO.v (V.pick rfl rfl rfl rfl) rfl ?_
    refine XO.nil ?_
    refine XE.next ?_
    refine XC.keep [(0, _), (1, _), (5, _), (38, _)] (Sub.cons rfl (Sub.cons rfl (Sub.cons rfl (Sub.cons rfl (Sub.nil _))))) ?_
    refine XC.condT rfl rfl ?_
    refine XC.seq ?_
    refine XC.region ?_
    refine XO.v (V.assign rfl) rfl ?_
    refine XO.nil ?_
    refine XE.next ?_
    refine XC.keep [(4, _)] (Sub.cons rfl (Sub.nil _)) ?_
    refine XC.ret ?_
    refine XE.thenRet ?_
    refine XE.ret1 rfl rfl (post_of .nil rfl ?_)
    exact ⟨rfl, rfl⟩
  · skip
    refine XO.guardRun rfl rfl rfl ?_
    refine XO.v (V.move rfl) rfl ?_
    refine XO.guardRun rfl rfl rfl ?_
    refine XO.call rfl (light_any _ _ _ _) .nil cl_8 rfl ?_
    rintro _ _ ⟨rfl, rfl⟩
    refine XO.guardRun rfl rfl rfl ?_
    refine XO.v (V.notP rfl) rfl ?_
    refine XO.v (V.pick rfl rfl rfl rfl) rfl ?_
    refine XO.nil ?_
    refine XE.next ?_
    refine XC.keep [(0, _), (1, _), (5, _), (38, _)] (Sub.cons rfl (Sub.cons rfl (Sub.cons rfl (Sub.cons rfl (Sub.nil _))))) ?_
    refine XC.condP rfl (fun h3 => ?_) (fun h3 => ?_)
    · skip
      refine XC.seq ?_
      refine XC.region ?_
      refine XO.v (V.assign rfl) rfl ?_
      refine XO.nil ?_
      refine XE.next ?_
      refine XC.keep [(4, _)] (Sub.cons rfl (Sub.nil _)) ?_
      refine XC.ret ?_
      refine XE.thenRet ?_
      refine XE.ret1 rfl rfl (post_of .nil rfl ?_)
      exact ⟨rfl, rfl⟩
    · skip
      refine XC.skip ?_
      refine XE.next ?_
      refine XC.keep [(0, _), (1, _), (5, _)] (Sub.cons rfl (Sub.cons rfl (Sub.cons rfl (Sub.nil _)))) ?_
      refine XC.seq ?_
      refine XC.region ?_
      refine XO.allocZ (z := .agg (arrV (fun _ => 0) 20)) (m := 20) (C := encI (fun _ => 0) 20) (by kernel_rfl) (arrV_size (fun _ => 0) 20) (encI.box (fun _ => 0) 20) rfl ?_
      intro bw
      refine XO.allocZ (z := .agg (arrV (fun _ => 0) 20)) (m := 20) (C := encI (fun _ => 0) 20) (by kernel_rfl) (arrV_size (fun _ => 0) 20) (encI.box (fun _ => 0) 20) rfl ?_
      intro br
      refine XO.allocZ (z := .agg (arrV (fun _ => 0) 20)) (m := 20) (C := encI (fun _ => 0) 20) (by kernel_rfl) (arrV_size (fun _ => 0) 20) (encI.box (fun _ => 0) 20) rfl ?_
      intro bm
      refine XO.nil ?_
      refine XE.next ?_
      refine XC.keep [(0, _), (1, _), (5, _), (6, _), (7, _), (8, _)] (Sub.cons rfl (Sub.cons rfl (Sub.cons rfl (Sub.cons rfl (Sub.cons rfl (Sub.cons rfl (Sub.nil _))))))) ?_
      refine XC.seq ?_
      refine XC.region ?_
      refine XO.allocZ (z := .agg (arrB (fun _ => false) 20)) (m := 20) (C := encBl (fun _ => false) 20) (by kernel_rfl) (arrB_size (fun _ => false) 20) (encBl.box (fun _ => false) 20) rfl ?_
      intro bk
      refine XO.nil ?_
      refine XE.next ?_
      refine XC.keep [(0, _), (1, _), (5, _), (6, _), (7, _), (8, _), (9, _)] (Sub.cons rfl (Sub.cons rfl (Sub.cons rfl (Sub.cons rfl (Sub.cons rfl (Sub.cons rfl (Sub.cons rfl (Sub.nil _)))))))) ?_
      refine XC.seq ?_
      refine XC.region ?_
      refine XO.v (V.indexArr rfl rfl ar_49 (by omega)) rfl ?_
      refine XO.store rfl rfl (.there (.there (.there .here))) (encI.st _ _ _ _ (by omega)) rfl sz_3_1 ?_
      refine XO.nil ?_
      refine XE.next ?_
      refine XC.keep [(0, _), (1, _), (5, _), (6, _), (7, _), (8, _), (9, _)] (Sub.cons rfl (Sub.cons rfl (Sub.cons rfl (Sub.cons rfl (Sub.cons rfl (Sub.cons rfl (Sub.cons rfl (Sub.nil _)))))))) ?_
      refine XC.seq ?_
      refine XC.region ?_
      refine XO.v (V.assign rfl) rfl ?_
      refine XO.nil ?_
      refine XE.next ?_
      refine XC.keep [(0, _), (1, _), (5, _), (6, _), (7, _), (8, _), (9, _), (10, _)] (Sub.cons rfl (Sub.cons rfl (Sub.cons rfl (Sub.cons rfl (Sub.cons rfl (Sub.cons rfl (Sub.cons rfl (Sub.cons rfl (Sub.nil _))))))))) ?_
      refine XC.seq ?_
      refine XC.seq ?_
      refine XC.region ?_
      refine XO.v (V.assign rfl) rfl ?_
      refine XO.nil ?_
      refine XE.next ?_
      refine XC.keep [(0, _), (1, _), (5, _), (6, _), (7, _), (8, _), (9, _), (10, _), (11, _)] (Sub.cons rfl (Sub.cons rfl (Sub.cons rfl (Sub.cons rfl (Sub.cons rfl (Sub.cons rfl (Sub.cons rfl (Sub.cons rfl (Sub.cons rfl (Sub.nil _)))))))))) ?_
      refine XC.block ?_
      refine XC.loop (σ := SC × (Int → Int) × Int × Int) (fun y => ((0 : Nat) - y.2.2.2).toNat) (fun y => y.1.Rep ∧ y.1.toSF.TW y.2.2.1 0 ∧ (1 ≤ y.2.2.1 ∧ y.2.2.1 ≤ y.2.2.2 + 1 ∧ 0 ≤ y.2.2.2 ∧ y.2.2.2 ≤ (0 : Nat)) ∧ y.1.toSF.awake 10 = true ∧ y.1.toSF.wt 10 = 7 ∧ ∀ x, 1 ≤ x → x < y.2.2.1 → y.2.1 x = y.1.toSF.wt (10 + x) ∧ y.1.toSF.awake (10 + x) = false) (fun y => [(10, .int .i64 y.2.2.1), (11, .int .i64 y.2.2.2), (0, .slice p1 0 c1), (1, .slice (some ⟨bl, ol, none⟩) len cap), (5, ptr bs 0 0), (6, ptr bw 0 0), (7, ptr br 0 0), (8, ptr bm 0 0), (9, ptr bk 0 0)]) (fun y => XM W (foot [.ro bl ol (8 * len) (encActs A)]) [.cells bs 0 2281 (encS y.1), .fam fam30 (SC.rows 86 y.1), .cells bw 0 20 (encI y.2.1 20), .cells br 0 20 (encI (fun _ => 0) 20), .cells bm 0 20 (encI (fun _ => 0) 20), .cells bk 0 20 (encBl (fun _ => false) 20), .ro bl ol (8 * len) (encActs A)]) ((t2, fset (fun _ => 0) 0 7, 1, 0)) ?_ (Sub.cons rfl (Sub.cons rfl (Sub.cons rfl (Sub.cons rfl (Sub.cons rfl (Sub.cons rfl (Sub.cons rfl (Sub.cons rfl (Sub.cons rfl (Sub.nil _)))))))))) (fun _ hw => XM.pick (.cons (.there (.there (.there (.there .here)))) (.cons (.there (.there (.there (.there .here)))) (.cons (.there (.there (.there .here))) (.cons (.there (.there .here)) (.cons (.there .here) (.cons .here (.cons .here .nil))))))) hw) ?_
      · skip
        exact ⟨t2R, by show t2.toSF.TW 1 0; rw [e2]; exact W2_tw, ⟨by simp, by simp, by simp, by simp⟩, by show t2.toSF.awake 10 = true; rw [e2]; exact W2_aw, by show t2.toSF.wt 10 = 7; rw [e2]; exact W2_wt, fun x a b => by have b2 : x < 1 := b; omega⟩
      intro y hy
      obtain ⟨yR, yT, yn, ya, yw, yx⟩ := hy
      refine XC.seq ?_
      refine XC.seq ?_
      refine XC.region ?_
      refine XO.v (V.move rfl) rfl ?_
      refine XO.v (V.move rfl) rfl ?_
      refine XO.v (V.lenSl rfl Try.underlying46) rfl ?_
      refine XO.v (V.cmp rfl rfl rfl) rfl ?_
      refine XO.nil ?_
      refine XE.next ?_
      refine XC.keep [(0, _), (1, _), (5, _), (6, _), (7, _), (8, _), (9, _), (10, _), (11, _), (43, _)] (Sub.cons rfl (Sub.cons rfl (Sub.cons rfl (Sub.cons rfl (Sub.cons rfl (Sub.cons rfl (Sub.cons rfl (Sub.cons rfl (Sub.cons rfl (Sub.cons rfl (Sub.nil _))))))))))) ?_
      refine XC.condFP rfl (by simp; omega) ?_
      refine XC.exit ?_
      refine XE.thenExit ?_
      refine XE.thenExit ?_
      refine XE.blockExit ?_
      refine XE.next ?_
      refine XC.keep [(1, _), (5, _), (6, _), (7, _), (8, _), (9, _), (10, _)] (Sub.cons rfl (Sub.cons rfl (Sub.cons rfl (Sub.cons rfl (Sub.cons rfl (Sub.cons rfl (Sub.cons rfl (Sub.nil _)))))))) ?_
      refine XC.seq ?_
      refine XC.seq ?_
      refine XC.region ?_
      refine XO.v (V.assign rfl) rfl ?_
      refine XO.nil ?_
      refine XE.next ?_
      refine XC.keep [(1, _), (5, _), (6, _), (7, _), (8, _), (9, _), (10, _), (12, _)] (Sub.cons rfl (Sub.cons rfl (Sub.cons rfl (Sub.cons rfl (Sub.cons rfl (Sub.cons rfl (Sub.cons rfl (Sub.cons rfl (Sub.nil _))))))))) ?_
      refine XC.block ?_
      refine XC.loop (σ := SC × (Int → Int) × (Int → Int) × (Int → Bool) × Int) (fun z => (len - z.2.2.2.2).toNat) (fun z => z.1.Rep ∧ SF.WK z.1.toSF y.2.2.1 z.2.1 z.2.2.1 z.2.2.2.1 (40 * z.2.2.2.2) ∧ (∀ x, 1 ≤ x → x < y.2.2.1 → y.2.1 x = z.1.toSF.wt (10 + x)) ∧ 0 ≤ z.2.2.2.2 ∧ z.2.2.2.2 ≤ len) (fun z => [(12, .int .i64 z.2.2.2.2), (1, .slice (some ⟨bl, ol, none⟩) len cap), (5, ptr bs 0 0), (6, ptr bw 0 0), (7, ptr br 0 0), (8, ptr bm 0 0), (9, ptr bk 0 0), (10, .int .i64 y.2.2.1)]) (fun z => XM W (foot [.ro bl ol (8 * len) (encActs A)]) [.cells bs 0 2281 (encS z.1), .fam fam30 (SC.rows 86 z.1), .cells bw 0 20 (encI y.2.1 20), .cells br 0 20 (encI z.2.2.1 20), .cells bm 0 20 (encI z.2.1 20), .cells bk 0 20 (encBl z.2.2.2.1 20), .ro bl ol (8 * len) (encActs A)]) ((y.1, (fun _ => 0), (fun _ => 0), (fun _ => false), 0)) ?_ (Sub.cons rfl (Sub.cons rfl (Sub.cons rfl (Sub.cons rfl (Sub.cons rfl (Sub.cons rfl (Sub.cons rfl (Sub.cons rfl (Sub.nil _))))))))) (fun _ hw => XM.pick (.cons .here (.cons .here (.cons .here (.cons .here (.cons .here (.cons .here (.cons .here .nil))))))) hw) ?_
      · skip
        exact ⟨yR, SF.WK.start yT yn.1 ya yw (fun x a b => (yx x a b).2), fun x a b => (yx x a b).1, by simp, by simp⟩
      intro z hz
      obtain ⟨zR, zK, zW, zi0, zi1⟩ := hz
      refine XC.seq ?_
      refine XC.seq ?_
      refine XC.region ?_
      refine XO.v (V.move rfl) rfl ?_
      refine XO.v (V.move rfl) rfl ?_
      refine XO.v (V.lenSl rfl Try.underlying22) rfl ?_
      refine XO.v (V.cmp rfl rfl rfl) rfl ?_
      refine XO.nil ?_
      refine XE.next ?_
      refine XC.keep [(1, _), (5, _), (6, _), (7, _), (8, _), (9, _), (10, _), (12, _), (65, _)] (Sub.cons rfl (Sub.cons rfl (Sub.cons rfl (Sub.cons rfl (Sub.cons rfl (Sub.cons rfl (Sub.cons rfl (Sub.cons rfl (Sub.cons rfl (Sub.nil _)))))))))) ?_
      refine XC.condP rfl (fun h4 => ?_) (fun h4 => ?_)
      · skip
        refine XC.skip ?_
        refine XE.next ?_
        refine XC.keep [(1, _), (5, _), (6, _), (7, _), (8, _), (9, _), (10, _), (12, _)] (Sub.cons rfl (Sub.cons rfl (Sub.cons rfl (Sub.cons rfl (Sub.cons rfl (Sub.cons rfl (Sub.cons rfl (Sub.cons rfl (Sub.nil _))))))))) ?_
        refine XC.seq ?_
        refine XC.block ?_
        refine XC.seq ?_
        refine XC.region ?_
        refine XO.v (V.move rfl) rfl ?_
        refine XO.v (V.move rfl) rfl ?_
        refine XO.v (V.indexSl rfl rfl sl_22 (by omega)) rfl ?_
        refine XO.v (V.loadAggRo rfl (inXM (.there (.there (.there (.there (.there (.there .here))))))) (acts_load A len _ (by omega)) ag_32 sz_32_8) rfl ?_
        refine XO.allocZ (z := .agg actZero) (m := 8) (C := cellsOf actZero) (by kernel_rfl) rfl (fun _ _ => rfl) rfl ?_
        intro ba
        refine XO.storeAgg rfl rfl .here (acts_store _) ⟨rfl, rfl⟩ sz_32_8 ?_
        refine XO.nil ?_
        refine XE.next ?_
        refine XC.keep [(1, _), (5, _), (6, _), (7, _), (8, _), (9, _), (10, _), (12, _), (13, _)] (Sub.cons rfl (Sub.cons rfl (Sub.cons rfl (Sub.cons rfl (Sub.cons rfl (Sub.cons rfl (Sub.cons rfl (Sub.cons rfl (Sub.cons rfl (Sub.nil _)))))))))) ?_
        refine XC.seq ?_
        refine XC.seq ?_
        refine XC.region ?_
        refine XO.v (V.fieldAddr rfl fo_32_0) rfl ?_
        refine XO.v (V.load rfl (inXM .here) (encAct.ld_Kind _) sc_9) rfl ?_
        refine XO.v (V.strCmp rfl rfl rfl) rfl ?_
        refine XO.nil ?_
        refine XE.next ?_
        refine XC.keep [(1, _), (5, _), (6, _), (7, _), (8, _), (9, _), (10, _), (12, _), (13, _), (74, _)] (Sub.cons rfl (Sub.cons rfl (Sub.cons rfl (Sub.cons rfl (Sub.cons rfl (Sub.cons rfl (Sub.cons rfl (Sub.cons rfl (Sub.cons rfl (Sub.cons rfl (Sub.nil _))))))))))) ?_
        refine XC.condP rfl (fun h5 => ?_) (fun h5 => ?_)
        · skip
          refine XC.seq ?_
          refine XC.seq ?_
          refine XC.region ?_
          refine XO.v (V.fieldAddr rfl fo_32_1) rfl ?_
          refine XO.v (V.load rfl (inXM .here) (encAct.ld_A _) sc_3) rfl ?_
          refine XO.v (V.cmp rfl rfl rfl) rfl ?_
          refine XO.v (V.move rfl) rfl ?_
          refine XO.splitP (d := 78) rfl (fun h6 => ?_) (fun h6 => ?_)
          · skip
            refine XO.guardRun rfl rfl rfl ?_
            refine XO.v (V.move rfl) rfl ?_
            refine XO.guardRun rfl rfl rfl ?_
            refine XO.v (V.fieldAddr rfl fo_32_1) rfl ?_
            refine XO.guardRun rfl rfl rfl ?_
            refine XO.v (V.load rfl (inXM .here) (encAct.ld_A _) sc_3) rfl ?_
            refine XO.guardRun rfl rfl rfl ?_
            refine XO.v (V.fieldAddr rfl fo_32_5) rfl ?_
            refine XO.guardRun rfl rfl rfl ?_
            refine XO.v (V.load rfl (inXM .here) (encAct.ld_On _) sc_4) rfl ?_
            refine XO.guardRun rfl rfl rfl ?_
            refine XO.call rfl (f_wake _ _ z.1 dW zK.tw.ok.inv zR _ _) (.cons (.there .here) (.cons (.there .here) .nil)) cl_17 rfl ?_
            rintro _ _ ⟨rfl, t, tl, tR, rfl⟩
            refine XO.guardRun rfl rfl rfl ?_
            refine XO.v (V.errNil rfl Try.underlying40 rfl) rfl ?_
            refine XO.v (V.pick rfl rfl rfl rfl) rfl ?_
            refine XO.nil ?_
            refine XE.next ?_
            refine XC.keep [(1, _), (5, _), (6, _), (7, _), (8, _), (9, _), (10, _), (12, _), (13, _), (86, _)] (Sub.cons rfl (Sub.cons rfl (Sub.cons rfl (Sub.cons rfl (Sub.cons rfl (Sub.cons rfl (Sub.cons rfl (Sub.cons rfl (Sub.cons rfl (Sub.cons rfl (Sub.nil _))))))))))) ?_
            refine XC.condP rfl (fun h7 => ?_) (fun h7 => ?_)
            · skip
              have han := zK.tw.flat.tkE (A z.2.2.2.2).a (by assumption)
              refine XC.seq ?_
              refine XC.seq ?_
              refine XC.region ?_
              refine XO.v (V.fieldAddr rfl fo_32_5) rfl ?_
              refine XO.v (V.load rfl (inXM (.there (.there .here))) (encAct.ld_On _) sc_4) rfl ?_
              refine XO.v (V.move rfl) rfl ?_
              refine XO.split (d := 89) rfl (fun h8 => ?_) (fun h8 => ?_)
              · try simp only [sb] at h8
                refine XO.guardRun rfl rfl rfl ?_
                refine XO.v (V.fieldAddr rfl fo_32_1) rfl ?_
                refine XO.guardRun rfl rfl rfl ?_
                refine XO.v (V.load rfl (inXM (.there (.there .here))) (encAct.ld_A _) sc_3) rfl ?_
                refine XO.guardRun rfl rfl rfl ?_
                refine XO.v (V.indexArr rfl rfl ar_50 (by omega)) rfl ?_
                refine XO.guardRun rfl rfl rfl ?_
                refine XO.v (V.load rfl (inXM (.there (.there (.there (.there (.there (.there .here))))))) (encBl.ld _ _ _ (by omega)) sc_4) rfl ?_
                refine XO.guardRun rfl rfl rfl ?_
                refine XO.v (V.not rfl) rfl ?_
                refine XO.v (V.pick rfl rfl rfl rfl) rfl ?_
                refine XO.nil ?_
                refine XE.next ?_
                refine XC.keep [(1, _), (5, _), (6, _), (7, _), (8, _), (9, _), (10, _), (12, _), (13, _), (95, _)] (Sub.cons rfl (Sub.cons rfl (Sub.cons rfl (Sub.cons rfl (Sub.cons rfl (Sub.cons rfl (Sub.cons rfl (Sub.cons rfl (Sub.cons rfl (Sub.cons rfl (Sub.nil _))))))))))) ?_
                refine XC.cond rfl (fun h9 => ?_) (fun h9 => ?_)
                · try simp only [sb] at h9
                  refine XC.seq ?_
                  refine XC.region ?_
                  refine XO.v (V.fieldAddr rfl fo_32_1) rfl ?_
                  refine XO.v (V.load rfl (inXM (.there (.there .here))) (encAct.ld_A _) sc_3) rfl ?_
                  refine XO.v (V.indexArr rfl rfl ar_49 (by omega)) rfl ?_
                  refine XO.store rfl rfl (.there (.there (.there (.there .here)))) (encI.st _ _ _ _ (by omega)) rfl sz_3_1 ?_
                  refine XO.nil ?_
                  refine XE.next ?_
                  refine XC.keep [(1, _), (5, _), (6, _), (7, _), (8, _), (9, _), (10, _), (12, _), (13, _)] (Sub.cons rfl (Sub.cons rfl (Sub.cons rfl (Sub.cons rfl (Sub.cons rfl (Sub.cons rfl (Sub.cons rfl (Sub.cons rfl (Sub.cons rfl (Sub.nil _)))))))))) ?_
                  refine XC.region ?_
                  refine XO.v (V.fieldAddr rfl fo_32_1) rfl ?_
                  refine XO.v (V.load rfl (inXM (.there (.there .here))) (encAct.ld_A _) sc_3) rfl ?_
                  refine XO.v (V.indexArr rfl rfl ar_49 (by omega)) rfl ?_
                  refine XO.store rfl rfl (.there (.there (.there (.there (.there .here))))) (encI.st _ _ _ _ (by omega)) rfl sz_3_1 ?_
                  refine XO.nil ?_
                  refine XE.next ?_
                  refine XC.keep [(1, _), (5, _), (6, _), (7, _), (8, _), (9, _), (10, _), (12, _), (13, _)] (Sub.cons rfl (Sub.cons rfl (Sub.cons rfl (Sub.cons rfl (Sub.cons rfl (Sub.cons rfl (Sub.cons rfl (Sub.cons rfl (Sub.cons rfl (Sub.nil _)))))))))) ?_
                  refine XC.region ?_
                  refine XO.v (V.fieldAddr rfl fo_32_1) rfl ?_
                  refine XO.v (V.load rfl (inXM (.there (.there .here))) (encAct.ld_A _) sc_3) rfl ?_
                  refine XO.v (V.fieldAddr rfl fo_32_5) rfl ?_
                  refine XO.v (V.load rfl (inXM (.there (.there .here))) (encAct.ld_On _) sc_4) rfl ?_
                  refine XO.v (V.indexArr rfl rfl ar_50 (by omega)) rfl ?_
                  refine XO.store rfl rfl (.there (.there (.there (.there (.there (.there .here)))))) (encBl.st _ _ _ _ (by omega)) rfl sz_4_1 ?_
                  refine XO.nil ?_
                  refine XE.next ?_
                  refine XC.keep [(1, _), (5, _), (6, _), (7, _), (8, _), (9, _), (10, _), (12, _)] (Sub.cons rfl (Sub.cons rfl (Sub.cons rfl (Sub.cons rfl (Sub.cons rfl (Sub.cons rfl (Sub.cons rfl (Sub.cons rfl (Sub.nil _))))))))) ?_
                  refine XC.exit ?_
                  refine XE.thenExit ?_
                  refine XE.blockExit ?_
                  refine XE.next ?_
                  refine XC.keep [(1, _), (5, _), (6, _), (7, _), (8, _), (9, _), (10, _), (12, _)] (Sub.cons rfl (Sub.cons rfl (Sub.cons rfl (Sub.cons rfl (Sub.cons rfl (Sub.cons rfl (Sub.cons rfl (Sub.cons rfl (Sub.nil _))))))))) ?_
                  refine XC.region ?_
                  refine XO.v (V.move rfl) rfl ?_
                  refine XO.v (V.add rfl rfl _ (IntWalk.i64_in _ (by omega))) rfl ?_
                  refine XO.v (V.assign rfl) rfl ?_
                  refine XO.nil ?_
                  refine XE.again ((t, fset z.2.1 (A z.2.2.2.2).a 0, fset z.2.2.1 (A z.2.2.2.2).a 0, fset z.2.2.2.1 (A z.2.2.2.2).a (A z.2.2.2.2).on, z.2.2.2.2 + 1)) ?_ ?_ (Sub.cons rfl (Sub.cons rfl (Sub.cons rfl (Sub.cons rfl (Sub.cons rfl (Sub.cons rfl (Sub.cons rfl (Sub.cons rfl (Sub.nil _))))))))) (fun _ hw => XM.pick (.cons .here (.cons .here (.cons (.there .here) (.cons (.there .here) (.cons (.there .here) (.cons (.there .here) (.cons (.there .here) .nil))))))) hw)
                  · skip
                    (simp; omega)
                  · skip
                    have hon : (A z.2.2.2.2).on = true := by assumption
                    have k := (zK.wakes (by omega) (a := (A z.2.2.2.2).a) (by assumption) (by assumption)).more (show 40 * z.2.2.2.2 ≤ 40 * (z.2.2.2.2 + 1) by omega)
                    have et : t.toSF = z.1.toSF.wake dW (A z.2.2.2.2).a true := by rw [tl, hon]
                    refine ⟨tR, ?_, fun x a b => ?_, by simp; omega, by simp; omega⟩
                    · show SF.WK t.toSF _ _ _ (fset z.2.2.2.1 (A z.2.2.2.2).a (A z.2.2.2.2).on) _
                      rw [et, hon]; exact k
                    · show y.2.1 x = t.toSF.wt (10 + x)
                      rw [et, SF.wake_keeps.2.2.1]; exact zW x a b
                · try simp only [sb] at h9
                  refine XC.skip ?_
                  refine XE.next ?_
                  refine XC.keep [(1, _), (5, _), (6, _), (7, _), (8, _), (9, _), (10, _), (12, _), (13, _)] (Sub.cons rfl (Sub.cons rfl (Sub.cons rfl (Sub.cons rfl (Sub.cons rfl (Sub.cons rfl (Sub.cons rfl (Sub.cons rfl (Sub.cons rfl (Sub.nil _)))))))))) ?_
                  refine XC.region ?_
                  refine XO.v (V.fieldAddr rfl fo_32_1) rfl ?_
                  refine XO.v (V.load rfl (inXM (.there (.there .here))) (encAct.ld_A _) sc_3) rfl ?_
                  refine XO.v (V.fieldAddr rfl fo_32_5) rfl ?_
                  refine XO.v (V.load rfl (inXM (.there (.there .here))) (encAct.ld_On _) sc_4) rfl ?_
                  refine XO.v (V.indexArr rfl rfl ar_50 (by omega)) rfl ?_
                  refine XO.store rfl rfl (.there (.there (.there (.there (.there (.there .here)))))) (encBl.st _ _ _ _ (by omega)) rfl sz_4_1 ?_
                  refine XO.nil ?_
                  refine XE.next ?_
                  refine XC.keep [(1, _), (5, _), (6, _), (7, _), (8, _), (9, _), (10, _), (12, _)] (Sub.cons rfl (Sub.cons rfl (Sub.cons rfl (Sub.cons rfl (Sub.cons rfl (Sub.cons rfl (Sub.cons rfl (Sub.cons rfl (Sub.nil _))))))))) ?_
                  refine XC.exit ?_
                  refine XE.thenExit ?_
                  refine XE.blockExit ?_
                  refine XE.next ?_
                  refine XC.keep [(1, _), (5, _), (6, _), (7, _), (8, _), (9, _), (10, _), (12, _)] (Sub.cons rfl (Sub.cons rfl (Sub.cons rfl (Sub.cons rfl (Sub.cons rfl (Sub.cons rfl (Sub.cons rfl (Sub.cons rfl (Sub.nil _))))))))) ?_
                  refine XC.region ?_
                  refine XO.v (V.move rfl) rfl ?_
                  refine XO.v (V.add rfl rfl _ (IntWalk.i64_in _ (by omega))) rfl ?_
                  refine XO.v (V.assign rfl) rfl ?_
                  refine XO.nil ?_
                  refine XE.again ((t, z.2.1, z.2.2.1, fset z.2.2.2.1 (A z.2.2.2.2).a (A z.2.2.2.2).on, z.2.2.2.2 + 1)) ?_ ?_ (Sub.cons rfl (Sub.cons rfl (Sub.cons rfl (Sub.cons rfl (Sub.cons rfl (Sub.cons rfl (Sub.cons rfl (Sub.cons rfl (Sub.nil _))))))))) (fun _ hw => XM.pick (.cons .here (.cons .here (.cons (.there .here) (.cons (.there .here) (.cons (.there .here) (.cons (.there .here) (.cons (.there .here) .nil))))))) hw)
                  · skip
                    (simp; omega)
                  · skip
                    have hc : (A z.2.2.2.2).on = false ∨ z.2.2.2.1 (A z.2.2.2.2).a = true := by first | exact .inl (by assumption) | exact .inr (by assumption) | exact .inl (by simp_all) | exact .inr (by simp_all)
                    have k := (zK.wake (a := (A z.2.2.2.2).a) (on := (A z.2.2.2.2).on) (by assumption) (by assumption) hc).more (show 40 * z.2.2.2.2 ≤ 40 * (z.2.2.2.2 + 1) by omega)
                    refine ⟨tR, ?_, fun x a b => ?_, by simp; omega, by simp; omega⟩
                    · show SF.WK t.toSF _ _ _ (fset z.2.2.2.1 (A z.2.2.2.2).a (A z.2.2.2.2).on) _
                      rw [tl]; exact k
                    · show y.2.1 x = t.toSF.wt (10 + x)
                      rw [tl, SF.wake_keeps.2.2.1]; exact zW x a b
              · try simp only [sb] at h8
                refine XO.guardSkip rfl rfl rfl rfl rfl ?_
                refine XO.guardSkip rfl rfl rfl rfl rfl ?_
                refine XO.guardSkip rfl rfl rfl rfl rfl ?_
                refine XO.guardSkip rfl rfl rfl rfl rfl ?_
                refine XO.guardSkip rfl rfl rfl rfl rfl ?_
                refine XO.v (V.pick rfl rfl rfl rfl) rfl ?_
                refine XO.nil ?_
                refine XE.next ?_
                refine XC.keep [(1, _), (5, _), (6, _), (7, _), (8, _), (9, _), (10, _), (12, _), (13, _), (95, _)] (Sub.cons rfl (Sub.cons rfl (Sub.cons rfl (Sub.cons rfl (Sub.cons rfl (Sub.cons rfl (Sub.cons rfl (Sub.cons rfl (Sub.cons rfl (Sub.cons rfl (Sub.nil _))))))))))) ?_
                refine XC.condF rfl rfl ?_
                refine XC.skip ?_
                refine XE.next ?_
                refine XC.keep [(1, _), (5, _), (6, _), (7, _), (8, _), (9, _), (10, _), (12, _), (13, _)] (Sub.cons rfl (Sub.cons rfl (Sub.cons rfl (Sub.cons rfl (Sub.cons rfl (Sub.cons rfl (Sub.cons rfl (Sub.cons rfl (Sub.cons rfl (Sub.nil _)))))))))) ?_
                refine XC.region ?_
                refine XO.v (V.fieldAddr rfl fo_32_1) rfl ?_
                refine XO.v (V.load rfl (inXM (.there (.there .here))) (encAct.ld_A _) sc_3) rfl ?_
                refine XO.v (V.fieldAddr rfl fo_32_5) rfl ?_
                refine XO.v (V.load rfl (inXM (.there (.there .here))) (encAct.ld_On _) sc_4) rfl ?_
                refine XO.v (V.indexArr rfl rfl ar_50 (by omega)) rfl ?_
                refine XO.store rfl rfl (.there (.there (.there (.there (.there (.there .here)))))) (encBl.st _ _ _ _ (by omega)) rfl sz_4_1 ?_
                refine XO.nil ?_
                refine XE.next ?_
                refine XC.keep [(1, _), (5, _), (6, _), (7, _), (8, _), (9, _), (10, _), (12, _)] (Sub.cons rfl (Sub.cons rfl (Sub.cons rfl (Sub.cons rfl (Sub.cons rfl (Sub.cons rfl (Sub.cons rfl (Sub.cons rfl (Sub.nil _))))))))) ?_
                refine XC.exit ?_
                refine XE.thenExit ?_
                refine XE.blockExit ?_
                refine XE.next ?_
                refine XC.keep [(1, _), (5, _), (6, _), (7, _), (8, _), (9, _), (10, _), (12, _)] (Sub.cons rfl (Sub.cons rfl (Sub.cons rfl (Sub.cons rfl (Sub.cons rfl (Sub.cons rfl (Sub.cons rfl (Sub.cons rfl (Sub.nil _))))))))) ?_
                refine XC.region ?_
                refine XO.v (V.move rfl) rfl ?_
                refine XO.v (V.add rfl rfl _ (IntWalk.i64_in _ (by omega))) rfl ?_
                refine XO.v (V.assign rfl) rfl ?_
                refine XO.nil ?_
                refine XE.again ((t, z.2.1, z.2.2.1, fset z.2.2.2.1 (A z.2.2.2.2).a (A z.2.2.2.2).on, z.2.2.2.2 + 1)) ?_ ?_ (Sub.cons rfl (Sub.cons rfl (Sub.cons rfl (Sub.cons rfl (Sub.cons rfl (Sub.cons rfl (Sub.cons rfl (Sub.cons rfl (Sub.nil _))))))))) (fun _ hw => XM.pick (.cons .here (.cons .here (.cons (.there .here) (.cons (.there .here) (.cons (.there .here) (.cons (.there .here) (.cons (.there .here) .nil))))))) hw)
                · skip
                  (simp; omega)
                · skip
                  have hc : (A z.2.2.2.2).on = false ∨ z.2.2.2.1 (A z.2.2.2.2).a = true := by first | exact .inl (by assumption) | exact .inr (by assumption) | exact .inl (by simp_all) | exact .inr (by simp_all)
                  have k := (zK.wake (a := (A z.2.2.2.2).a) (on := (A z.2.2.2.2).on) (by assumption) (by assumption) hc).more (show 40 * z.2.2.2.2 ≤ 40 * (z.2.2.2.2 + 1) by omega)
                  refine ⟨tR, ?_, fun x a b => ?_, by simp; omega, by simp; omega⟩
                  · show SF.WK t.toSF _ _ _ (fset z.2.2.2.1 (A z.2.2.2.2).a (A z.2.2.2.2).on) _
                    rw [tl]; exact k
                  · show y.2.1 x = t.toSF.wt (10 + x)
                    rw [tl, SF.wake_keeps.2.2.1]; exact zW x a b
            · skip
              refine XC.skip ?_
              refine XE.next ?_
              refine XC.keep [(1, _), (5, _), (6, _), (7, _), (8, _), (9, _), (10, _), (12, _)] (Sub.cons rfl (Sub.cons rfl (Sub.cons rfl (Sub.cons rfl (Sub.cons rfl (Sub.cons rfl (Sub.cons rfl (Sub.cons rfl (Sub.nil _))))))))) ?_
              refine XC.exit ?_
              refine XE.thenExit ?_
              refine XE.blockExit ?_
              refine XE.next ?_
              refine XC.keep [(1, _), (5, _), (6, _), (7, _), (8, _), (9, _), (10, _), (12, _)] (Sub.cons rfl (Sub.cons rfl (Sub.cons rfl (Sub.cons rfl (Sub.cons rfl (Sub.cons rfl (Sub.cons rfl (Sub.cons rfl (Sub.nil _))))))))) ?_
              refine XC.region ?_
              refine XO.v (V.move rfl) rfl ?_
              refine XO.v (V.add rfl rfl _ (IntWalk.i64_in _ (by omega))) rfl ?_
              refine XO.v (V.assign rfl) rfl ?_
              refine XO.nil ?_
              refine XE.again ((t, z.2.1, z.2.2.1, z.2.2.2.1, z.2.2.2.2 + 1)) ?_ ?_ (Sub.cons rfl (Sub.cons rfl (Sub.cons rfl (Sub.cons rfl (Sub.cons rfl (Sub.cons rfl (Sub.cons rfl (Sub.cons rfl (Sub.nil _))))))))) (fun _ hw => XM.pick (.cons .here (.cons .here (.cons (.there .here) (.cons (.there .here) (.cons (.there .here) (.cons (.there .here) (.cons (.there .here) .nil))))))) hw)
              · skip
                (simp; omega)
              · skip
                have et : t.toSF = z.1.toSF := tl.trans (SF.TW.nowake (by assumption) dW)
                exact ⟨tR, by rw [et]; exact zK.more (show 40 * z.2.2.2.2 ≤ 40 * (z.2.2.2.2 + 1) by omega), fun x a b => by rw [et]; exact zW x a b, by simp; omega, by simp; omega⟩
          · skip
            refine XO.guardSkip rfl rfl rfl rfl rfl ?_
            refine XO.guardSkip rfl rfl rfl rfl rfl ?_
            refine XO.guardSkip rfl rfl rfl rfl rfl ?_
            refine XO.guardSkip rfl rfl rfl rfl rfl ?_
            refine XO.guardSkip rfl rfl rfl rfl rfl ?_
            refine XO.guardSkip rfl rfl rfl rfl rfl ?_
            refine XO.guardSkip rfl rfl rfl rfl rfl ?_
            refine XO.v (V.pick rfl rfl rfl rfl) rfl ?_
            refine XO.nil ?_
            refine XE.next ?_
            refine XC.keep [(1, _), (5, _), (6, _), (7, _), (8, _), (9, _), (10, _), (12, _), (13, _), (86, _)] (Sub.cons rfl (Sub.cons rfl (Sub.cons rfl (Sub.cons rfl (Sub.cons rfl (Sub.cons rfl (Sub.cons rfl (Sub.cons rfl (Sub.cons rfl (Sub.cons rfl (Sub.nil _))))))))))) ?_
            refine XC.condF rfl rfl ?_
            refine XC.skip ?_
            refine XE.next ?_
            refine XC.keep [(1, _), (5, _), (6, _), (7, _), (8, _), (9, _), (10, _), (12, _)] (Sub.cons rfl (Sub.cons rfl (Sub.cons rfl (Sub.cons rfl (Sub.cons rfl (Sub.cons rfl (Sub.cons rfl (Sub.cons rfl (Sub.nil _))))))))) ?_
            refine XC.exit ?_
            refine XE.thenExit ?_
            refine XE.blockExit ?_
            refine XE.next ?_
            refine XC.keep [(1, _), (5, _), (6, _), (7, _), (8, _), (9, _), (10, _), (12, _)] (Sub.cons rfl (Sub.cons rfl (Sub.cons rfl (Sub.cons rfl (Sub.cons rfl (Sub.cons rfl (Sub.cons rfl (Sub.cons rfl (Sub.nil _))))))))) ?_
            refine XC.region ?_
            refine XO.v (V.move rfl) rfl ?_
            refine XO.v (V.add rfl rfl _ (IntWalk.i64_in _ (by omega))) rfl ?_
            refine XO.v (V.assign rfl) rfl ?_
            refine XO.nil ?_
            refine XE.again ((z.1, z.2.1, z.2.2.1, z.2.2.2.1, z.2.2.2.2 + 1)) ?_ ?_ (Sub.cons rfl (Sub.cons rfl (Sub.cons rfl (Sub.cons rfl (Sub.cons rfl (Sub.cons rfl (Sub.cons rfl (Sub.cons rfl (Sub.nil _))))))))) (fun _ hw => XM.pick (.cons (.there .here) (.cons (.there .here) (.cons (.there .here) (.cons (.there .here) (.cons (.there .here) (.cons (.there .here) (.cons (.there .here) .nil))))))) hw)
            · skip
              (simp; omega)
            · skip
              exact ⟨zR, zK.more (show 40 * z.2.2.2.2 ≤ 40 * (z.2.2.2.2 + 1) by omega), zW, by simp; omega, by simp; omega⟩
        · skip
          refine XC.skip ?_
          refine XE.next ?_
          refine XC.keep [(1, _), (5, _), (6, _), (7, _), (8, _), (9, _), (10, _), (12, _), (13, _)] (Sub.cons rfl (Sub.cons rfl (Sub.cons rfl (Sub.cons rfl (Sub.cons rfl (Sub.cons rfl (Sub.cons rfl (Sub.cons rfl (Sub.cons rfl (Sub.nil _)))))))))) ?_
          refine XC.seq ?_
          refine XC.region ?_
          refine XO.v (V.assign rfl) rfl ?_
          refine XO.nil ?_
          refine XE.next ?_
          refine XC.keep [(1, _), (5, _), (6, _), (7, _), (8, _), (9, _), (10, _), (12, _), (13, _), (14, _)] (Sub.cons rfl (Sub.cons rfl (Sub.cons rfl (Sub.cons rfl (Sub.cons rfl (Sub.cons rfl (Sub.cons rfl (Sub.cons rfl (Sub.cons rfl (Sub.cons rfl (Sub.nil _))))))))))) ?_
          refine XC.block ?_
          refine XC.loop (σ := SC × (Int → Int) × (Int → Int) × Int) (fun c => (40 - c.2.2.2).toNat) (fun c => c.1.Rep ∧ SF.WK c.1.toSF y.2.2.1 c.2.1 c.2.2.1 z.2.2.2.1 (40 * z.2.2.2.2 + c.2.2.2) ∧ (∀ x, 1 ≤ x → x < y.2.2.1 → y.2.1 x = c.1.toSF.wt (10 + x)) ∧ 0 ≤ c.2.2.2 ∧ c.2.2.2 ≤ 40) (fun c => [(14, .int .i64 c.2.2.2), (1, .slice (some ⟨bl, ol, none⟩) len cap), (5, ptr bs 0 0), (6, ptr bw 0 0), (7, ptr br 0 0), (8, ptr bm 0 0), (9, ptr bk 0 0), (10, .int .i64 y.2.2.1), (12, .int .i64 z.2.2.2.2), (13, ptr ba 0 0)]) (fun c => XM W (foot [.ro bl ol (8 * len) (encActs A)]) [.cells bs 0 2281 (encS c.1), .fam fam30 (SC.rows 86 c.1), .cells bw 0 20 (encI y.2.1 20), .cells br 0 20 (encI c.2.2.1 20), .cells bm 0 20 (encI c.2.1 20), .cells bk 0 20 (encBl z.2.2.2.1 20), .cells ba 0 8 (encAct (A z.2.2.2.2)), .ro bl ol (8 * len) (encActs A)]) ((z.1, z.2.1, z.2.2.1, 0)) ?_ (Sub.cons rfl (Sub.cons rfl (Sub.cons rfl (Sub.cons rfl (Sub.cons rfl (Sub.cons rfl (Sub.cons rfl (Sub.cons rfl (Sub.cons rfl (Sub.cons rfl (Sub.nil _))))))))))) (fun _ hw => XM.pick (.cons (.there .here) (.cons (.there .here) (.cons (.there .here) (.cons (.there .here) (.cons (.there .here) (.cons (.there .here) (.cons .here (.cons .here .nil)))))))) hw) ?_
          · skip
            exact ⟨zR, zK.more (by simp), zW, by simp, by simp⟩
          intro c hc
          obtain ⟨cR, cK, cW, ck0, ck1⟩ := hc
          refine XC.seq ?_
          refine XC.seq ?_
          refine XC.region ?_
          refine XO.v (V.move rfl) rfl ?_
          refine XO.v (V.fieldAddr rfl fo_32_2) rfl ?_
          refine XO.v (V.load rfl (inXM (.there (.there (.there (.there (.there (.there .here))))))) (encAct.ld_B _) sc_3) rfl ?_
          refine XO.v (V.min2 rfl rfl) rfl ?_
          refine XO.v (V.cmp rfl rfl rfl) rfl ?_
          refine XO.nil ?_
          refine XE.next ?_
          refine XC.keep [(1, _), (5, _), (6, _), (7, _), (8, _), (9, _), (10, _), (12, _), (13, _), (14, _), (111, _)] (Sub.cons rfl (Sub.cons rfl (Sub.cons rfl (Sub.cons rfl (Sub.cons rfl (Sub.cons rfl (Sub.cons rfl (Sub.cons rfl (Sub.cons rfl (Sub.cons rfl (Sub.cons rfl (Sub.nil _)))))))))))) ?_
          refine XC.condP rfl (fun h10 => ?_) (fun h10 => ?_)
          · skip
            refine XC.skip ?_
            refine XE.next ?_
            refine XC.keep [(1, _), (5, _), (6, _), (7, _), (8, _), (9, _), (10, _), (12, _), (13, _), (14, _)] (Sub.cons rfl (Sub.cons rfl (Sub.cons rfl (Sub.cons rfl (Sub.cons rfl (Sub.cons rfl (Sub.cons rfl (Sub.cons rfl (Sub.cons rfl (Sub.cons rfl (Sub.nil _))))))))))) ?_
            refine XC.seq ?_
            refine XC.block ?_
            refine XC.seq ?_
            refine XC.region ?_
            refine XO.v (V.move rfl) rfl ?_
            refine XO.call rfl (f_Tick _ _ c.1 dW cK.tw.ok.inv cR (fun n a b => by have := SF.dW_le n; omega) (2000000000 * (40 * z.2.2.2.2 + c.2.2.2)) ⟨by omega, by omega⟩ cK.tw.ok.small ⟨cK.tw.ok.now.1, by have := cK.tw.ok.now; omega⟩ (cK.tw.ok.tick0 (by omega)).set) (.cons .here (.cons .here .nil)) cl_18 rfl ?_
            rintro _ _ ⟨rfl, t, tl, tR, rfl⟩
            refine XO.v (V.assign rfl) rfl ?_
            refine XO.nil ?_
            refine XE.next ?_
            refine XC.keep [(1, _), (5, _), (6, _), (7, _), (8, _), (9, _), (10, _), (12, _), (13, _), (14, _), (15, _)] (Sub.cons rfl (Sub.cons rfl (Sub.cons rfl (Sub.cons rfl (Sub.cons rfl (Sub.cons rfl (Sub.cons rfl (Sub.cons rfl (Sub.cons rfl (Sub.cons rfl (Sub.cons rfl (Sub.nil _)))))))))))) ?_
            refine XC.seq ?_
            refine XC.seq ?_
            refine XC.region ?_
            obtain ⟨⟨q0, q1⟩, q2, qK, q3⟩ := cK.tick (by omega)
            refine XO.v (V.move rfl) rfl ?_
            refine XO.v (V.cmp rfl rfl rfl) rfl ?_
            refine XO.v (V.move rfl) rfl ?_
            refine XO.splitF (d := 118) rfl (by omega) ?_
            refine XO.guardRun rfl rfl rfl ?_
            refine XO.v (V.move rfl) rfl ?_
            refine XO.guardRun rfl rfl rfl ?_
            refine XO.v (V.move rfl) rfl ?_
            refine XO.guardRun rfl rfl rfl ?_
            refine XO.v (V.cmp rfl rfl rfl) rfl ?_
            refine XO.v (V.pick rfl rfl rfl rfl) rfl ?_
            refine XO.v (V.move rfl) rfl ?_
            refine XO.splitF (d := 123) rfl (by omega) ?_
            refine XO.guardRun rfl rfl rfl ?_
            refine XO.v (V.move rfl) rfl ?_
            refine XO.guardRun rfl rfl rfl ?_
            refine XO.v (V.cmp rfl rfl rfl) rfl ?_
            refine XO.guardRun rfl rfl rfl ?_
            refine XO.v (V.move rfl) rfl ?_
            refine XO.splitP (d := 126) rfl (fun h13 => ?_) (fun h13 => ?_)
            · skip
              refine XO.guardRun rfl rfl rfl ?_
              refine XO.v (V.move rfl) rfl ?_
              refine XO.guardRun rfl rfl rfl ?_
              refine XO.v (V.indexArr rfl rfl ar_50 (by omega)) rfl ?_
              refine XO.guardRun rfl rfl rfl ?_
              refine XO.v (V.load rfl (inXM (.there (.there (.there (.there (.there .here)))))) (encBl.ld _ _ _ (by omega)) sc_4) rfl ?_
              refine XO.guardRun rfl rfl rfl ?_
              refine XO.v (V.not rfl) rfl ?_
              refine XO.guardRun rfl rfl rfl ?_
              refine XO.v (V.pick rfl rfl rfl rfl) rfl ?_
              refine XO.v (V.pick rfl rfl rfl rfl) rfl ?_
              refine XO.nil ?_
              refine XE.next ?_
              refine XC.keep [(1, _), (5, _), (6, _), (7, _), (8, _), (9, _), (10, _), (12, _), (13, _), (14, _), (15, _), (132, _)] (Sub.cons rfl (Sub.cons rfl (Sub.cons rfl (Sub.cons rfl (Sub.cons rfl (Sub.cons rfl (Sub.cons rfl (Sub.cons rfl (Sub.cons rfl (Sub.cons rfl (Sub.cons rfl (Sub.cons rfl (Sub.nil _))))))))))))) ?_
              refine XC.cond rfl (fun h14 => ?_) (fun h14 => ?_)
              · try simp only [sb] at h14
                have := q2 (by omega)
                simp_all
              · try simp only [sb] at h14
                refine XC.skip ?_
                refine XE.next ?_
                refine XC.keep [(1, _), (5, _), (6, _), (7, _), (8, _), (9, _), (10, _), (12, _), (13, _), (14, _), (15, _)] (Sub.cons rfl (Sub.cons rfl (Sub.cons rfl (Sub.cons rfl (Sub.cons rfl (Sub.cons rfl (Sub.cons rfl (Sub.cons rfl (Sub.cons rfl (Sub.cons rfl (Sub.cons rfl (Sub.nil _)))))))))))) ?_
                refine XC.seq ?_
                refine XC.region ?_
                refine XO.v (V.assign rfl) rfl ?_
                refine XO.nil ?_
                refine XE.next ?_
                refine XC.keep [(1, _), (5, _), (6, _), (7, _), (8, _), (9, _), (10, _), (12, _), (13, _), (14, _), (15, _), (16, _)] (Sub.cons rfl (Sub.cons rfl (Sub.cons rfl (Sub.cons rfl (Sub.cons rfl (Sub.cons rfl (Sub.cons rfl (Sub.cons rfl (Sub.cons rfl (Sub.cons rfl (Sub.cons rfl (Sub.cons rfl (Sub.nil _))))))))))))) ?_
                refine XC.block ?_
                refine XC.loop (σ := (Int → Int) × (Int → Int) × Int) (fun e => (y.2.2.1 - e.2.2).toNat) (fun e => (1 ≤ e.2.2 ∧ e.2.2 ≤ y.2.2.1) ∧ ∀ j, (j < e.2.2 → 1 ≤ j → e.1 j = c.2.1 j + (if (c.1.toSF.tick dW).1 = j then 1 else 0) ∧ e.2.1 j = c.2.2.1 j + (if (c.1.toSF.tick dW).1 = 0 then 1 else 0)) ∧ (e.2.2 ≤ j → e.1 j = c.2.1 j ∧ e.2.1 j = c.2.2.1 j)) (fun e => [(16, .int .i64 e.2.2), (1, .slice (some ⟨bl, ol, none⟩) len cap), (5, ptr bs 0 0), (6, ptr bw 0 0), (7, ptr br 0 0), (8, ptr bm 0 0), (9, ptr bk 0 0), (10, .int .i64 y.2.2.1), (12, .int .i64 z.2.2.2.2), (13, ptr ba 0 0), (14, .int .i64 c.2.2.2), (15, .int .i64 (c.1.toSF.tick dW).1)]) (fun e => XM W (foot [.ro bl ol (8 * len) (encActs A)]) [.cells bs 0 2281 (encS t), .fam fam30 (SC.rows 86 t), .cells bw 0 20 (encI y.2.1 20), .cells br 0 20 (encI e.2.1 20), .cells bm 0 20 (encI e.1 20), .cells bk 0 20 (encBl z.2.2.2.1 20), .cells ba 0 8 (encAct (A z.2.2.2.2)), .ro bl ol (8 * len) (encActs A)]) ((c.2.1, c.2.2.1, 1)) ?_ (Sub.cons rfl (Sub.cons rfl (Sub.cons rfl (Sub.cons rfl (Sub.cons rfl (Sub.cons rfl (Sub.cons rfl (Sub.cons rfl (Sub.cons rfl (Sub.cons rfl (Sub.cons rfl (Sub.cons rfl (Sub.nil _))))))))))))) (fun _ hw => XM.pick (.cons .here (.cons .here (.cons .here (.cons .here (.cons .here (.cons .here (.cons .here (.cons .here .nil)))))))) hw) ?_
                · skip
                  exact ⟨by simp; omega, fun j => ⟨fun a b => by have a2 : j < 1 := a; omega, fun _ => ⟨rfl, rfl⟩⟩⟩
                intro e he
                obtain ⟨hx, he⟩ := he
                refine XC.seq ?_
                refine XC.seq ?_
                refine XC.region ?_
                refine XO.v (V.move rfl) rfl ?_
                refine XO.v (V.move rfl) rfl ?_
                refine XO.v (V.cmp rfl rfl rfl) rfl ?_
                refine XO.nil ?_
                refine XE.next ?_
                refine XC.keep [(1, _), (5, _), (6, _), (7, _), (8, _), (9, _), (10, _), (12, _), (13, _), (14, _), (15, _), (16, _), (135, _)] (Sub.cons rfl (Sub.cons rfl (Sub.cons rfl (Sub.cons rfl (Sub.cons rfl (Sub.cons rfl (Sub.cons rfl (Sub.cons rfl (Sub.cons rfl (Sub.cons rfl (Sub.cons rfl (Sub.cons rfl (Sub.cons rfl (Sub.nil _)))))))))))))) ?_
                refine XC.condP rfl (fun h15 => ?_) (fun h15 => ?_)
                · skip
                  refine XC.skip ?_
                  refine XE.next ?_
                  refine XC.keep [(1, _), (5, _), (6, _), (7, _), (8, _), (9, _), (10, _), (12, _), (13, _), (14, _), (15, _), (16, _)] (Sub.cons rfl (Sub.cons rfl (Sub.cons rfl (Sub.cons rfl (Sub.cons rfl (Sub.cons rfl (Sub.cons rfl (Sub.cons rfl (Sub.cons rfl (Sub.cons rfl (Sub.cons rfl (Sub.cons rfl (Sub.nil _))))))))))))) ?_
                  refine XC.seq ?_
                  refine XC.block ?_
                  refine XC.seq ?_
                  refine XC.seq ?_
                  refine XC.region ?_
                  have hbd := cK.bd e.2.2 (by omega) (by omega)
                  obtain ⟨he1, he2⟩ := (he e.2.2).2 (by omega)
                  refine XO.v (V.move rfl) rfl ?_
                  refine XO.v (V.move rfl) rfl ?_
                  refine XO.v (V.cmp rfl rfl rfl) rfl ?_
                  refine XO.nil ?_
                  refine XE.next ?_
                  refine XC.keep [(1, _), (5, _), (6, _), (7, _), (8, _), (9, _), (10, _), (12, _), (13, _), (14, _), (15, _), (16, _), (140, _)] (Sub.cons rfl (Sub.cons rfl (Sub.cons rfl (Sub.cons rfl (Sub.cons rfl (Sub.cons rfl (Sub.cons rfl (Sub.cons rfl (Sub.cons rfl (Sub.cons rfl (Sub.cons rfl (Sub.cons rfl (Sub.cons rfl (Sub.nil _)))))))))))))) ?_
                  refine XC.condP rfl (fun h16 => ?_) (fun h16 => ?_)
                  · skip
                    refine XC.region ?_
                    refine XO.v (V.move rfl) rfl ?_
                    refine XO.v (V.indexArr rfl rfl ar_49 (by omega)) rfl ?_
                    refine XO.v (V.load rfl (inXM (.there (.there (.there (.there .here))))) (encI.ld _ _ _ (by omega)) sc_3) rfl ?_
                    refine XO.v (V.add rfl rfl _ (IntWalk.i64_in _ (by omega))) rfl ?_
                    refine XO.v (V.indexArr rfl rfl ar_49 (by omega)) rfl ?_
                    refine XO.store rfl rfl (.there (.there (.there (.there .here)))) (encI.st _ _ _ _ (by omega)) rfl sz_3_1 ?_
                    refine XO.nil ?_
                    refine XE.next ?_
                    refine XC.keep [(1, _), (5, _), (6, _), (7, _), (8, _), (9, _), (10, _), (12, _), (13, _), (14, _), (15, _), (16, _)] (Sub.cons rfl (Sub.cons rfl (Sub.cons rfl (Sub.cons rfl (Sub.cons rfl (Sub.cons rfl (Sub.cons rfl (Sub.cons rfl (Sub.cons rfl (Sub.cons rfl (Sub.cons rfl (Sub.cons rfl (Sub.nil _))))))))))))) ?_
                    refine XC.cutG (σ := (Int → Int) × (Int → Int)) (fun g => (∀ j, j ≠ e.2.2 → g.1 j = e.1 j ∧ g.2 j = e.2.1 j) ∧ g.1 e.2.2 = c.2.1 e.2.2 + (if (c.1.toSF.tick dW).1 = e.2.2 then 1 else 0) ∧ g.2 e.2.2 = c.2.2.1 e.2.2 + (if (c.1.toSF.tick dW).1 = 0 then 1 else 0)) (fun g => [(1, .slice (some ⟨bl, ol, none⟩) len cap), (5, ptr bs 0 0), (6, ptr bw 0 0), (7, ptr br 0 0), (8, ptr bm 0 0), (9, ptr bk 0 0), (10, .int .i64 y.2.2.1), (12, .int .i64 z.2.2.2.2), (13, ptr ba 0 0), (14, .int .i64 c.2.2.2), (15, .int .i64 (c.1.toSF.tick dW).1), (16, .int .i64 e.2.2)]) (fun g => XM W (foot [.ro bl ol (8 * len) (encActs A)]) [.cells bs 0 2281 (encS t), .fam fam30 (SC.rows 86 t), .cells bw 0 20 (encI y.2.1 20), .cells br 0 20 (encI g.2 20), .cells bm 0 20 (encI g.1 20), .cells bk 0 20 (encBl z.2.2.2.1 20), .cells ba 0 8 (encAct (A z.2.2.2.2)), .ro bl ol (8 * len) (encActs A)]) ?_ ?_
                    · skip
                      refine XC.seq ?_
                      refine XC.region ?_
                      refine XO.v (V.move rfl) rfl ?_
                      refine XO.v (V.cmp rfl rfl rfl) rfl ?_
                      refine XO.nil ?_
                      refine XE.next ?_
                      refine XC.keep [(1, _), (5, _), (6, _), (7, _), (8, _), (9, _), (10, _), (12, _), (13, _), (14, _), (15, _), (16, _), (147, _)] (Sub.cons rfl (Sub.cons rfl (Sub.cons rfl (Sub.cons rfl (Sub.cons rfl (Sub.cons rfl (Sub.cons rfl (Sub.cons rfl (Sub.cons rfl (Sub.cons rfl (Sub.cons rfl (Sub.cons rfl (Sub.cons rfl (Sub.nil _)))))))))))))) ?_
                      refine XC.condFP rfl (by omega) ?_
                      refine XC.skip ?_
                      refine XE.meetG ((fset e.1 e.2.2 (e.1 e.2.2 + 1), e.2.1)) ?_ (Sub.cons rfl (Sub.cons rfl (Sub.cons rfl (Sub.cons rfl (Sub.cons rfl (Sub.cons rfl (Sub.cons rfl (Sub.cons rfl (Sub.cons rfl (Sub.cons rfl (Sub.cons rfl (Sub.cons rfl (Sub.nil _))))))))))))) (fun _ hw => XM.pick (.cons .here (.cons .here (.cons .here (.cons .here (.cons .here (.cons .here (.cons .here (.cons .here .nil)))))))) hw)
                      refine ⟨fun j hj => ⟨fset_ne _ _ hj, rfl⟩, ?_, ?_⟩
                      · show fset e.1 e.2.2 (e.1 e.2.2 + 1) e.2.2 = _
                        rw [fset_eq, he1, if_pos (by omega)]
                      · show e.2.1 e.2.2 = _
                        rw [he2, if_neg (by omega)]; omega
                    intro g hg
                    obtain ⟨hg, hg1, hg2⟩ := hg
                    have hWx : y.2.1 e.2.2 = c.1.toSF.wt (10 + e.2.2) := cW e.2.2 (by omega) (by omega)
                    have hWp : 1 ≤ y.2.1 e.2.2 := by rw [hWx]; exact cK.tw.ok.inv.wt _ (by omega) (by omega) (cK.here (by omega) (by omega))
                    have hgb : 0 ≤ g.1 e.2.2 ∧ g.1 e.2.2 ≤ 7000 ∧ 0 ≤ g.2 e.2.2 ∧ g.2 e.2.2 ≤ 7000 := by
                      rw [hg1, hg2]; split <;> split <;> omega
                    have hOn : 0 ≤ 1048576 / y.2.1 e.2.2 ∧ 1048576 / y.2.1 e.2.2 ≤ 1048576 := ⟨Int.ediv_nonneg (by omega) (by omega), Int.ediv_le_self _ (by omega)⟩
                    have hP : 0 ≤ g.1 e.2.2 * (1048576 / y.2.1 e.2.2) ∧ g.1 e.2.2 * (1048576 / y.2.1 e.2.2) ≤ 7000 * 1048576 := ⟨Int.mul_nonneg hgb.1 hOn.1, Int.mul_le_mul hgb.2.1 hOn.2 hOn.1 (by omega)⟩
                    have hchk : z.2.2.2.1 e.2.2 = true → g.1 e.2.2 * (1048576 / y.2.1 e.2.2) - g.2 e.2.2 * 149796 ≤ 1048576 / y.2.1 e.2.2 + 149796 := fun q => by
                      have h1 : (c.2.1 e.2.2 + if (c.1.toSF.tick dW).1 = e.2.2 then 1 else 0) * (1048576 / (c.1.toSF.tick dW).2.wt (10 + e.2.2)) - (c.2.2.1 e.2.2 + if (c.1.toSF.tick dW).1 = 0 then 1 else 0) * 149796 ≤ 1048576 / (c.1.toSF.tick dW).2.wt (10 + e.2.2) + 149796 := qK.check (x := e.2.2) (by omega) (by omega) q
                      rw [q3, ← hWx, ← hg1, ← hg2] at h1
                      exact h1
                    refine XC.seq ?_
                    refine XC.region ?_
                    refine XO.v (V.move rfl) rfl ?_
                    refine XO.v (V.indexArr rfl rfl ar_49 (by omega)) rfl ?_
                    refine XO.v (V.load rfl (inXM (.there (.there .here))) (encI.ld _ _ _ (by omega)) sc_3) rfl ?_
                    refine XO.v (V.quo rfl rfl (by first | decide | omega) _ (quo_nn (by omega) (by omega) (by omega))) rfl ?_
                    refine XO.v (V.assign rfl) rfl ?_
                    refine XO.nil ?_
                    refine XE.next ?_
                    refine XC.keep [(1, _), (5, _), (6, _), (7, _), (8, _), (9, _), (10, _), (12, _), (13, _), (14, _), (15, _), (16, _), (17, _)] (Sub.cons rfl (Sub.cons rfl (Sub.cons rfl (Sub.cons rfl (Sub.cons rfl (Sub.cons rfl (Sub.cons rfl (Sub.cons rfl (Sub.cons rfl (Sub.cons rfl (Sub.cons rfl (Sub.cons rfl (Sub.cons rfl (Sub.nil _)))))))))))))) ?_
                    refine XC.seq ?_
                    refine XC.regionQ mixed (f := 18) (l := #[false, false, false, false, false, false, false, false, false, false, false, false, false, false, false, false, false, false]) rfl rfl XM.drawn' ?_
                    refine XQ.pv (i := 0) (l' := #[true, false, false, false, false, false, false, false, false, false, false, false, false, false, false, false, false, false]) rfl (by kernel_rfl) rfl (V.move rfl) rfl rfl ?_
                    refine XQ.pv (i := 1) (l' := #[true, true, false, false, false, false, false, false, false, false, false, false, false, false, false, false, false, false]) rfl (by kernel_rfl) rfl (V.indexArr rfl rfl ar_50 (by omega)) rfl rfl ?_
                    refine XQ.load (i := 2) (l' := #[true, true, true, false, false, false, false, false, false, false, false, false, false, false, false, false, false, false]) (.cells _ _ _ _) [] rfl (by kernel_rfl) rfl (.there (.there (.there (.there (.there .here))))) (V.load rfl inEnt (encBl.ld _ _ _ (by omega)) sc_4) rfl (by kernel_rfl) rfl ?_
                    refine XQ.pv (i := 3) (l' := #[true, true, true, true, false, false, false, false, false, false, false, false, false, false, false, false, false, false]) rfl (by kernel_rfl) rfl (V.move rfl) rfl rfl ?_
                    refine XQ.split (d := 160) rfl (fun h17 => ?_) (fun h17 => ?_)
                    · try simp only [sb] at h17
                      refine XQ.pvG (i := 4) (l' := #[true, true, true, true, true, false, false, false, false, false, false, false, false, false, false, false, false, false]) rfl rfl rfl (by kernel_rfl) rfl (V.move rfl) rfl rfl ?_
                      refine XQ.pvG (i := 5) (l' := #[true, true, true, true, true, true, false, false, false, false, false, false, false, false, false, false, false, false]) rfl rfl rfl (by kernel_rfl) rfl (V.indexArr rfl rfl ar_49 (by omega)) rfl rfl ?_
                      refine XQ.loadG (i := 6) (l' := #[true, true, true, true, true, true, true, false, false, false, false, false, false, false, false, false, false, false]) (.cells _ _ _ _) [] rfl rfl rfl (by kernel_rfl) rfl (.there (.there (.there (.there .here)))) (V.load rfl inEnt (encI.ld _ _ _ (by omega)) sc_3) rfl (by kernel_rfl) rfl ?_
                      refine XQ.pvG (i := 7) (l' := #[true, true, true, true, true, true, true, true, false, false, false, false, false, false, false, false, false, false]) rfl rfl rfl (by kernel_rfl) rfl (V.move rfl) rfl rfl ?_
                      refine XQ.pvG (i := 8) (l' := #[true, true, true, true, true, true, true, true, true, false, false, false, false, false, false, false, false, false]) rfl rfl rfl (by kernel_rfl) rfl (V.mul rfl rfl _ (SF.i64_le (a := g.1 e.2.2 * (1048576 / y.2.1 e.2.2)) hP.1 (by omega))) rfl rfl ?_
                      refine XQ.pvG (i := 9) (l' := #[true, true, true, true, true, true, true, true, true, true, false, false, false, false, false, false, false, false]) rfl rfl rfl (by kernel_rfl) rfl (V.move rfl) rfl rfl ?_
                      refine XQ.pvG (i := 10) (l' := #[true, true, true, true, true, true, true, true, true, true, true, false, false, false, false, false, false, false]) rfl rfl rfl (by kernel_rfl) rfl (V.indexArr rfl rfl ar_49 (by omega)) rfl rfl ?_
                      refine XQ.loadG (i := 11) (l' := #[true, true, true, true, true, true, true, true, true, true, true, true, false, false, false, false, false, false]) (.cells _ _ _ _) [] rfl rfl rfl (by kernel_rfl) rfl (.there (.there (.there .here))) (V.load rfl inEnt (encI.ld _ _ _ (by omega)) sc_3) rfl (by kernel_rfl) rfl ?_
                      refine XQ.pvG (i := 12) (l' := #[true, true, true, true, true, true, true, true, true, true, true, true, true, false, false, false, false, false]) rfl rfl rfl (by kernel_rfl) rfl (V.mul rfl rfl _ (IntWalk.i64_in _ (by omega))) rfl rfl ?_
                      refine XQ.pvG (i := 13) (l' := #[true, true, true, true, true, true, true, true, true, true, true, true, true, true, false, false, false, false]) rfl rfl rfl (by kernel_rfl) rfl (V.sub rfl rfl _ (IntWalk.i64_in _ (by omega))) rfl rfl ?_
                      refine XQ.pvG (i := 14) (l' := #[true, true, true, true, true, true, true, true, true, true, true, true, true, true, true, false, false, false]) rfl rfl rfl (by kernel_rfl) rfl (V.move rfl) rfl rfl ?_
                      refine XQ.pvG (i := 15) (l' := #[true, true, true, true, true, true, true, true, true, true, true, true, true, true, true, true, false, false]) rfl rfl rfl (by kernel_rfl) rfl (V.add rfl rfl _ (IntWalk.i64_in _ (by omega))) rfl rfl ?_
                      refine XQ.pvG (i := 16) (l' := #[true, true, true, true, true, true, true, true, true, true, true, true, true, true, true, true, true, false]) rfl rfl rfl (by kernel_rfl) rfl (V.cmp rfl rfl rfl) rfl rfl ?_
                      refine XQ.pv (i := 17) (l' := #[true, true, true, true, true, true, true, true, true, true, true, true, true, true, true, true, true, true]) rfl (by kernel_rfl) rfl (V.pick rfl rfl rfl rfl) rfl rfl ?_
                      refine XQ.done (by kernel_rfl) ?_
                      refine XE.next ?_
                      refine XC.keep [(1, _), (5, _), (6, _), (7, _), (8, _), (9, _), (10, _), (12, _), (13, _), (14, _), (15, _), (16, _), (174, _)] (Sub.cons rfl (Sub.cons rfl (Sub.cons rfl (Sub.cons rfl (Sub.cons rfl (Sub.cons rfl (Sub.cons rfl (Sub.cons rfl (Sub.cons rfl (Sub.cons rfl (Sub.cons rfl (Sub.cons rfl (Sub.cons rfl (Sub.nil _)))))))))))))) ?_
                      refine XC.condFP rfl (by have := hchk (by assumption); omega) ?_
                      refine XC.skip ?_
                      refine XE.blockNormal ?_
                      refine XE.next ?_
                      refine XC.keep [(1, _), (5, _), (6, _), (7, _), (8, _), (9, _), (10, _), (12, _), (13, _), (14, _), (15, _), (16, _)] (Sub.cons rfl (Sub.cons rfl (Sub.cons rfl (Sub.cons rfl (Sub.cons rfl (Sub.cons rfl (Sub.cons rfl (Sub.cons rfl (Sub.cons rfl (Sub.cons rfl (Sub.cons rfl (Sub.cons rfl (Sub.nil _))))))))))))) ?_
                      refine XC.region ?_
                      refine XO.v (V.move rfl) rfl ?_
                      refine XO.v (V.add rfl rfl _ (IntWalk.i64_in _ (by omega))) rfl ?_
                      refine XO.v (V.assign rfl) rfl ?_
                      refine XO.nil ?_
                      refine XE.again ((g.1, g.2, e.2.2 + 1)) ?_ ?_ (Sub.cons rfl (Sub.cons rfl (Sub.cons rfl (Sub.cons rfl (Sub.cons rfl (Sub.cons rfl (Sub.cons rfl (Sub.cons rfl (Sub.cons rfl (Sub.cons rfl (Sub.cons rfl (Sub.cons rfl (Sub.nil _))))))))))))) (fun _ hw => XM.pick (.cons .here (.cons .here (.cons .here (.cons .here (.cons .here (.cons .here (.cons .here (.cons .here .nil)))))))) hw)
                      · skip
                        (simp; omega)
                      · skip
                        refine ⟨by simp; omega, fun j => ⟨fun a b => ?_, fun a => ?_⟩⟩
                        · have a2 : j < e.2.2 + 1 := a
                          by_cases c9 : j = e.2.2
                          · subst c9; exact ⟨hg1, hg2⟩
                          · obtain ⟨r1, r2⟩ := hg j c9
                            show g.1 j = _ ∧ g.2 j = _
                            rw [r1, r2]; exact (he j).1 (by omega) b
                        · have a2 : e.2.2 + 1 ≤ j := a
                          obtain ⟨r1, r2⟩ := hg j (by omega)
                          show g.1 j = _ ∧ g.2 j = _
                          rw [r1, r2]; exact (he j).2 (by omega)
                    · try simp only [sb] at h17
                      refine XQ.skip (i := 4) (l' := #[true, true, true, true, true, false, false, false, false, false, false, false, false, false, false, false, false, false]) rfl rfl rfl rfl rfl (by kernel_rfl) rfl rfl rfl ?_
                      refine XQ.skip (i := 5) (l' := #[true, true, true, true, true, true, false, false, false, false, false, false, false, false, false, false, false, false]) rfl rfl rfl rfl rfl (by kernel_rfl) rfl rfl rfl ?_
                      refine XQ.skip (i := 6) (l' := #[true, true, true, true, true, true, true, false, false, false, false, false, false, false, false, false, false, false]) rfl rfl rfl rfl rfl (by kernel_rfl) rfl rfl rfl ?_
                      refine XQ.skip (i := 7) (l' := #[true, true, true, true, true, true, true, true, false, false, false, false, false, false, false, false, false, false]) rfl rfl rfl rfl rfl (by kernel_rfl) rfl rfl rfl ?_
                      refine XQ.skip (i := 8) (l' := #[true, true, true, true, true, true, true, true, true, false, false, false, false, false, false, false, false, false]) rfl rfl rfl rfl rfl (by kernel_rfl) rfl rfl rfl ?_
                      refine XQ.skip (i := 9) (l' := #[true, true, true, true, true, true, true, true, true, true, false, false, false, false, false, false, false, false]) rfl rfl rfl rfl rfl (by kernel_rfl) rfl rfl rfl ?_
                      refine XQ.skip (i := 10) (l' := #[true, true, true, true, true, true, true, true, true, true, true, false, false, false, false, false, false, false]) rfl rfl rfl rfl rfl (by kernel_rfl) rfl rfl rfl ?_
                      refine XQ.skip (i := 11) (l' := #[true, true, true, true, true, true, true, true, true, true, true, true, false, false, false, false, false, false]) rfl rfl rfl rfl rfl (by kernel_rfl) rfl rfl rfl ?_
                      refine XQ.skip (i := 12) (l' := #[true, true, true, true, true, true, true, true, true, true, true, true, true, false, false, false, false, false]) rfl rfl rfl rfl rfl (by kernel_rfl) rfl rfl rfl ?_
                      refine XQ.skip (i := 13) (l' := #[true, true, true, true, true, true, true, true, true, true, true, true, true, true, false, false, false, false]) rfl rfl rfl rfl rfl (by kernel_rfl) rfl rfl rfl ?_
                      refine XQ.skip (i := 14) (l' := #[true, true, true, true, true, true, true, true, true, true, true, true, true, true, true, false, false, false]) rfl rfl rfl rfl rfl (by kernel_rfl) rfl rfl rfl ?_
                      refine XQ.skip (i := 15) (l' := #[true, true, true, true, true, true, true, true, true, true, true, true, true, true, true, true, false, false]) rfl rfl rfl rfl rfl (by kernel_rfl) rfl rfl rfl ?_
                      refine XQ.skip (i := 16) (l' := #[true, true, true, true, true, true, true, true, true, true, true, true, true, true, true, true, true, false]) rfl rfl rfl rfl rfl (by kernel_rfl) rfl rfl rfl ?_
                      refine XQ.pv (i := 17) (l' := #[true, true, true, true, true, true, true, true, true, true, true, true, true, true, true, true, true, true]) rfl (by kernel_rfl) rfl (V.pick rfl rfl rfl rfl) rfl rfl ?_
                      refine XQ.done (by kernel_rfl) ?_
                      refine XE.next ?_
                      refine XC.keep [(1, _), (5, _), (6, _), (7, _), (8, _), (9, _), (10, _), (12, _), (13, _), (14, _), (15, _), (16, _), (174, _)] (Sub.cons rfl (Sub.cons rfl (Sub.cons rfl (Sub.cons rfl (Sub.cons rfl (Sub.cons rfl (Sub.cons rfl (Sub.cons rfl (Sub.cons rfl (Sub.cons rfl (Sub.cons rfl (Sub.cons rfl (Sub.cons rfl (Sub.nil _)))))))))))))) ?_
                      refine XC.condF rfl rfl ?_
                      refine XC.skip ?_
                      refine XE.blockNormal ?_
                      refine XE.next ?_
                      refine XC.keep [(1, _), (5, _), (6, _), (7, _), (8, _), (9, _), (10, _), (12, _), (13, _), (14, _), (15, _), (16, _)] (Sub.cons rfl (Sub.cons rfl (Sub.cons rfl (Sub.cons rfl (Sub.cons rfl (Sub.cons rfl (Sub.cons rfl (Sub.cons rfl (Sub.cons rfl (Sub.cons rfl (Sub.cons rfl (Sub.cons rfl (Sub.nil _))))))))))))) ?_
                      refine XC.region ?_
                      refine XO.v (V.move rfl) rfl ?_
                      refine XO.v (V.add rfl rfl _ (IntWalk.i64_in _ (by omega))) rfl ?_
                      refine XO.v (V.assign rfl) rfl ?_
                      refine XO.nil ?_
                      refine XE.again ((g.1, g.2, e.2.2 + 1)) ?_ ?_ (Sub.cons rfl (Sub.cons rfl (Sub.cons rfl (Sub.cons rfl (Sub.cons rfl (Sub.cons rfl (Sub.cons rfl (Sub.cons rfl (Sub.cons rfl (Sub.cons rfl (Sub.cons rfl (Sub.cons rfl (Sub.nil _))))))))))))) (fun _ hw => XM.pick (.cons .here (.cons .here (.cons .here (.cons .here (.cons .here (.cons .here (.cons .here (.cons .here .nil)))))))) hw)
                      · skip
                        (simp; omega)
                      · skip
                        refine ⟨by simp; omega, fun j => ⟨fun a b => ?_, fun a => ?_⟩⟩
                        · have a2 : j < e.2.2 + 1 := a
                          by_cases c9 : j = e.2.2
                          · subst c9; exact ⟨hg1, hg2⟩
                          · obtain ⟨r1, r2⟩ := hg j c9
                            show g.1 j = _ ∧ g.2 j = _
                            rw [r1, r2]; exact (he j).1 (by omega) b
                        · have a2 : e.2.2 + 1 ≤ j := a
                          obtain ⟨r1, r2⟩ := hg j (by omega)
                          show g.1 j = _ ∧ g.2 j = _
                          rw [r1, r2]; exact (he j).2 (by omega)
                  · skip
                    refine XC.skip ?_
                    refine XE.next ?_
                    refine XC.keep [(1, _), (5, _), (6, _), (7, _), (8, _), (9, _), (10, _), (12, _), (13, _), (14, _), (15, _), (16, _)] (Sub.cons rfl (Sub.cons rfl (Sub.cons rfl (Sub.cons rfl (Sub.cons rfl (Sub.cons rfl (Sub.cons rfl (Sub.cons rfl (Sub.cons rfl (Sub.cons rfl (Sub.cons rfl (Sub.cons rfl (Sub.nil _))))))))))))) ?_
                    refine XC.cutG (σ := (Int → Int) × (Int → Int)) (fun g => (∀ j, j ≠ e.2.2 → g.1 j = e.1 j ∧ g.2 j = e.2.1 j) ∧ g.1 e.2.2 = c.2.1 e.2.2 + (if (c.1.toSF.tick dW).1 = e.2.2 then 1 else 0) ∧ g.2 e.2.2 = c.2.2.1 e.2.2 + (if (c.1.toSF.tick dW).1 = 0 then 1 else 0)) (fun g => [(1, .slice (some ⟨bl, ol, none⟩) len cap), (5, ptr bs 0 0), (6, ptr bw 0 0), (7, ptr br 0 0), (8, ptr bm 0 0), (9, ptr bk 0 0), (10, .int .i64 y.2.2.1), (12, .int .i64 z.2.2.2.2), (13, ptr ba 0 0), (14, .int .i64 c.2.2.2), (15, .int .i64 (c.1.toSF.tick dW).1), (16, .int .i64 e.2.2)]) (fun g => XM W (foot [.ro bl ol (8 * len) (encActs A)]) [.cells bs 0 2281 (encS t), .fam fam30 (SC.rows 86 t), .cells bw 0 20 (encI y.2.1 20), .cells br 0 20 (encI g.2 20), .cells bm 0 20 (encI g.1 20), .cells bk 0 20 (encBl z.2.2.2.1 20), .cells ba 0 8 (encAct (A z.2.2.2.2)), .ro bl ol (8 * len) (encActs A)]) ?_ ?_
                    · skip
                      refine XC.seq ?_
                      refine XC.region ?_
                      refine XO.v (V.move rfl) rfl ?_
                      refine XO.v (V.cmp rfl rfl rfl) rfl ?_
                      refine XO.nil ?_
                      refine XE.next ?_
                      refine XC.keep [(1, _), (5, _), (6, _), (7, _), (8, _), (9, _), (10, _), (12, _), (13, _), (14, _), (15, _), (16, _), (147, _)] (Sub.cons rfl (Sub.cons rfl (Sub.cons rfl (Sub.cons rfl (Sub.cons rfl (Sub.cons rfl (Sub.cons rfl (Sub.cons rfl (Sub.cons rfl (Sub.cons rfl (Sub.cons rfl (Sub.cons rfl (Sub.cons rfl (Sub.nil _)))))))))))))) ?_
                      refine XC.condP rfl (fun h18 => ?_) (fun h18 => ?_)
                      · skip
                        refine XC.region ?_
                        refine XO.v (V.move rfl) rfl ?_
                        refine XO.v (V.indexArr rfl rfl ar_49 (by omega)) rfl ?_
                        refine XO.v (V.load rfl (inXM (.there (.there (.there .here)))) (encI.ld _ _ _ (by omega)) sc_3) rfl ?_
                        refine XO.v (V.add rfl rfl _ (IntWalk.i64_in _ (by omega))) rfl ?_
                        refine XO.v (V.indexArr rfl rfl ar_49 (by omega)) rfl ?_
                        refine XO.store rfl rfl (.there (.there (.there .here))) (encI.st _ _ _ _ (by omega)) rfl sz_3_1 ?_
                        refine XO.nil ?_
                        refine XE.meetG ((e.1, fset e.2.1 e.2.2 (e.2.1 e.2.2 + 1))) ?_ (Sub.cons rfl (Sub.cons rfl (Sub.cons rfl (Sub.cons rfl (Sub.cons rfl (Sub.cons rfl (Sub.cons rfl (Sub.cons rfl (Sub.cons rfl (Sub.cons rfl (Sub.cons rfl (Sub.cons rfl (Sub.nil _))))))))))))) (fun _ hw => XM.pick (.cons .here (.cons .here (.cons .here (.cons .here (.cons .here (.cons .here (.cons .here (.cons .here .nil)))))))) hw)
                        refine ⟨fun j hj => ⟨rfl, fset_ne _ _ hj⟩, ?_, ?_⟩
                        · show e.1 e.2.2 = _
                          rw [he1, if_neg (by omega)]; omega
                        · show fset e.2.1 e.2.2 (e.2.1 e.2.2 + 1) e.2.2 = _
                          rw [fset_eq, he2, if_pos (by omega)]
                      · skip
                        refine XC.skip ?_
                        refine XE.meetG ((e.1, e.2.1)) ?_ (Sub.cons rfl (Sub.cons rfl (Sub.cons rfl (Sub.cons rfl (Sub.cons rfl (Sub.cons rfl (Sub.cons rfl (Sub.cons rfl (Sub.cons rfl (Sub.cons rfl (Sub.cons rfl (Sub.cons rfl (Sub.nil _))))))))))))) (fun _ hw => XM.pick (.cons .here (.cons .here (.cons .here (.cons .here (.cons .here (.cons .here (.cons .here (.cons .here .nil)))))))) hw)
                        refine ⟨fun j hj => ⟨rfl, rfl⟩, ?_, ?_⟩
                        · show e.1 e.2.2 = _
                          rw [he1, if_neg (by omega)]; omega
                        · show e.2.1 e.2.2 = _
                          rw [he2, if_neg (by omega)]; omega
                    intro g hg
                    obtain ⟨hg, hg1, hg2⟩ := hg
                    have hWx : y.2.1 e.2.2 = c.1.toSF.wt (10 + e.2.2) := cW e.2.2 (by omega) (by omega)
                    have hWp : 1 ≤ y.2.1 e.2.2 := by rw [hWx]; exact cK.tw.ok.inv.wt _ (by omega) (by omega) (cK.here (by omega) (by omega))
                    have hgb : 0 ≤ g.1 e.2.2 ∧ g.1 e.2.2 ≤ 7000 ∧ 0 ≤ g.2 e.2.2 ∧ g.2 e.2.2 ≤ 7000 := by
                      rw [hg1, hg2]; split <;> split <;> omega
                    have hOn : 0 ≤ 1048576 / y.2.1 e.2.2 ∧ 1048576 / y.2.1 e.2.2 ≤ 1048576 := ⟨Int.ediv_nonneg (by omega) (by omega), Int.ediv_le_self _ (by omega)⟩
                    have hP : 0 ≤ g.1 e.2.2 * (1048576 / y.2.1 e.2.2) ∧ g.1 e.2.2 * (1048576 / y.2.1 e.2.2) ≤ 7000 * 1048576 := ⟨Int.mul_nonneg hgb.1 hOn.1, Int.mul_le_mul hgb.2.1 hOn.2 hOn.1 (by omega)⟩
                    have hchk : z.2.2.2.1 e.2.2 = true → g.1 e.2.2 * (1048576 / y.2.1 e.2.2) - g.2 e.2.2 * 149796 ≤ 1048576 / y.2.1 e.2.2 + 149796 := fun q => by
                      have h1 : (c.2.1 e.2.2 + if (c.1.toSF.tick dW).1 = e.2.2 then 1 else 0) * (1048576 / (c.1.toSF.tick dW).2.wt (10 + e.2.2)) - (c.2.2.1 e.2.2 + if (c.1.toSF.tick dW).1 = 0 then 1 else 0) * 149796 ≤ 1048576 / (c.1.toSF.tick dW).2.wt (10 + e.2.2) + 149796 := qK.check (x := e.2.2) (by omega) (by omega) q
                      rw [q3, ← hWx, ← hg1, ← hg2] at h1
                      exact h1
                    refine XC.seq ?_
                    refine XC.region ?_
                    refine XO.v (V.move rfl) rfl ?_
                    refine XO.v (V.indexArr rfl rfl ar_49 (by omega)) rfl ?_
                    refine XO.v (V.load rfl (inXM (.there (.there .here))) (encI.ld _ _ _ (by omega)) sc_3) rfl ?_
                    refine XO.v (V.quo rfl rfl (by first | decide | omega) _ (quo_nn (by omega) (by omega) (by omega))) rfl ?_
                    refine XO.v (V.assign rfl) rfl ?_
                    refine XO.nil ?_
                    refine XE.next ?_
                    refine XC.keep [(1, _), (5, _), (6, _), (7, _), (8, _), (9, _), (10, _), (12, _), (13, _), (14, _), (15, _), (16, _), (17, _)] (Sub.cons rfl (Sub.cons rfl (Sub.cons rfl (Sub.cons rfl (Sub.cons rfl (Sub.cons rfl (Sub.cons rfl (Sub.cons rfl (Sub.cons rfl (Sub.cons rfl (Sub.cons rfl (Sub.cons rfl (Sub.cons rfl (Sub.nil _)))))))))))))) ?_
                    refine XC.seq ?_
                    refine XC.regionQ mixed (f := 18) (l := #[false, false, false, false, false, false, false, false, false, false, false, false, false, false, false, false, false, false]) rfl rfl XM.drawn' ?_
                    refine XQ.pv (i := 0) (l' := #[true, false, false, false, false, false, false, false, false, false, false, false, false, false, false, false, false, false]) rfl (by kernel_rfl) rfl (V.move rfl) rfl rfl ?_
                    refine XQ.pv (i := 1) (l' := #[true, true, false, false, false, false, false, false, false, false, false, false, false, false, false, false, false, false]) rfl (by kernel_rfl) rfl (V.indexArr rfl rfl ar_50 (by omega)) rfl rfl ?_
                    refine XQ.load (i := 2) (l' := #[true, true, true, false, false, false, false, false, false, false, false, false, false, false, false, false, false, false]) (.cells _ _ _ _) [] rfl (by kernel_rfl) rfl (.there (.there (.there (.there (.there .here))))) (V.load rfl inEnt (encBl.ld _ _ _ (by omega)) sc_4) rfl (by kernel_rfl) rfl ?_
                    refine XQ.pv (i := 3) (l' := #[true, true, true, true, false, false, false, false, false, false, false, false, false, false, false, false, false, false]) rfl (by kernel_rfl) rfl (V.move rfl) rfl rfl ?_
                    refine XQ.split (d := 160) rfl (fun h19 => ?_) (fun h19 => ?_)
                    · try simp only [sb] at h19
                      refine XQ.pvG (i := 4) (l' := #[true, true, true, true, true, false, false, false, false, false, false, false, false, false, false, false, false, false]) rfl rfl rfl (by kernel_rfl) rfl (V.move rfl) rfl rfl ?_
                      refine XQ.pvG (i := 5) (l' := #[true, true, true, true, true, true, false, false, false, false, false, false, false, false, false, false, false, false]) rfl rfl rfl (by kernel_rfl) rfl (V.indexArr rfl rfl ar_49 (by omega)) rfl rfl ?_
                      refine XQ.loadG (i := 6) (l' := #[true, true, true, true, true, true, true, false, false, false, false, false, false, false, false, false, false, false]) (.cells _ _ _ _) [] rfl rfl rfl (by kernel_rfl) rfl (.there (.there (.there (.there .here)))) (V.load rfl inEnt (encI.ld _ _ _ (by omega)) sc_3) rfl (by kernel_rfl) rfl ?_
                      refine XQ.pvG (i := 7) (l' := #[true, true, true, true, true, true, true, true, false, false, false, false, false, false, false, false, false, false]) rfl rfl rfl (by kernel_rfl) rfl (V.move rfl) rfl rfl ?_
                      refine XQ.pvG (i := 8) (l' := #[true, true, true, true, true, true, true, true, true, false, false, false, false, false, false, false, false, false]) rfl rfl rfl (by kernel_rfl) rfl (V.mul rfl rfl _ (SF.i64_le (a := g.1 e.2.2 * (1048576 / y.2.1 e.2.2)) hP.1 (by omega))) rfl rfl ?_
                      refine XQ.pvG (i := 9) (l' := #[true, true, true, true, true, true, true, true, true, true, false, false, false, false, false, false, false, false]) rfl rfl rfl (by kernel_rfl) rfl (V.move rfl) rfl rfl ?_
                      refine XQ.pvG (i := 10) (l' := #[true, true, true, true, true, true, true, true, true, true, true, false, false, false, false, false, false, false]) rfl rfl rfl (by kernel_rfl) rfl (V.indexArr rfl rfl ar_49 (by omega)) rfl rfl ?_
                      refine XQ.loadG (i := 11) (l' := #[true, true, true, true, true, true, true, true, true, true, true, true, false, false, false, false, false, false]) (.cells _ _ _ _) [] rfl rfl rfl (by kernel_rfl) rfl (.there (.there (.there .here))) (V.load rfl inEnt (encI.ld _ _ _ (by omega)) sc_3) rfl (by kernel_rfl) rfl ?_
                      refine XQ.pvG (i := 12) (l' := #[true, true, true, true, true, true, true, true, true, true, true, true, true, false, false, false, false, false]) rfl rfl rfl (by kernel_rfl) rfl (V.mul rfl rfl _ (IntWalk.i64_in _ (by omega))) rfl rfl ?_
                      refine XQ.pvG (i := 13) (l' := #[true, true, true, true, true, true, true, true, true, true, true, true, true, true, false, false, false, false]) rfl rfl rfl (by kernel_rfl) rfl (V.sub rfl rfl _ (IntWalk.i64_in _ (by omega))) rfl rfl ?_
                      refine XQ.pvG (i := 14) (l' := #[true, true, true, true, true, true, true, true, true, true, true, true, true, true, true, false, false, false]) rfl rfl rfl (by kernel_rfl) rfl (V.move rfl) rfl rfl ?_
                      refine XQ.pvG (i := 15) (l' := #[true, true, true, true, true, true, true, true, true, true, true, true, true, true, true, true, false, false]) rfl rfl rfl (by kernel_rfl) rfl (V.add rfl rfl _ (IntWalk.i64_in _ (by omega))) rfl rfl ?_
                      refine XQ.pvG (i := 16) (l' := #[true, true, true, true, true, true, true, true, true, true, true, true, true, true, true, true, true, false]) rfl rfl rfl (by kernel_rfl) rfl (V.cmp rfl rfl rfl) rfl rfl ?_
                      refine XQ.pv (i := 17) (l' := #[true, true, true, true, true, true, true, true, true, true, true, true, true, true, true, true, true, true]) rfl (by kernel_rfl) rfl (V.pick rfl rfl rfl rfl) rfl rfl ?_
                      refine XQ.done (by kernel_rfl) ?_
                      refine XE.next ?_
                      refine XC.keep [(1, _), (5, _), (6, _), (7, _), (8, _), (9, _), (10, _), (12, _), (13, _), (14, _), (15, _), (16, _), (174, _)] (Sub.cons rfl (Sub.cons rfl (Sub.cons rfl (Sub.cons rfl (Sub.cons rfl (Sub.cons rfl (Sub.cons rfl (Sub.cons rfl (Sub.cons rfl (Sub.cons rfl (Sub.cons rfl (Sub.cons rfl (Sub.cons rfl (Sub.nil _)))))))))))))) ?_
                      refine XC.condFP rfl (by have := hchk (by assumption); omega) ?_
                      refine XC.skip ?_
                      refine XE.blockNormal ?_
                      refine XE.next ?_
                      refine XC.keep [(1, _), (5, _), (6, _), (7, _), (8, _), (9, _), (10, _), (12, _), (13, _), (14, _), (15, _), (16, _)] (Sub.cons rfl (Sub.cons rfl (Sub.cons rfl (Sub.cons rfl (Sub.cons rfl (Sub.cons rfl (Sub.cons rfl (Sub.cons rfl (Sub.cons rfl (Sub.cons rfl (Sub.cons rfl (Sub.cons rfl (Sub.nil _))))))))))))) ?_
                      refine XC.region ?_
                      refine XO.v (V.move rfl) rfl ?_
                      refine XO.v (V.add rfl rfl _ (IntWalk.i64_in _ (by omega))) rfl ?_
                      refine XO.v (V.assign rfl) rfl ?_
                      refine XO.nil ?_
                      refine XE.again ((g.1, g.2, e.2.2 + 1)) ?_ ?_ (Sub.cons rfl (Sub.cons rfl (Sub.cons rfl (Sub.cons rfl (Sub.cons rfl (Sub.cons rfl (Sub.cons rfl (Sub.cons rfl (Sub.cons rfl (Sub.cons rfl (Sub.cons rfl (Sub.cons rfl (Sub.nil _))))))))))))) (fun _ hw => XM.pick (.cons .here (.cons .here (.cons .here (.cons .here (.cons .here (.cons .here (.cons .here (.cons .here .nil)))))))) hw)
                      · skip
                        (simp; omega)
                      · skip
                        refine ⟨by simp; omega, fun j => ⟨fun a b => ?_, fun a => ?_⟩⟩
                        · have a2 : j < e.2.2 + 1 := a
                          by_cases c9 : j = e.2.2
                          · subst c9; exact ⟨hg1, hg2⟩
                          · obtain ⟨r1, r2⟩ := hg j c9
                            show g.1 j = _ ∧ g.2 j = _
                            rw [r1, r2]; exact (he j).1 (by omega) b
                        · have a2 : e.2.2 + 1 ≤ j := a
                          obtain ⟨r1, r2⟩ := hg j (by omega)
                          show g.1 j = _ ∧ g.2 j = _
                          rw [r1, r2]; exact (he j).2 (by omega)
                    · try simp only [sb] at h19
                      refine XQ.skip (i := 4) (l' := #[true, true, true, true, true, false, false, false, false, false, false, false, false, false, false, false, false, false]) rfl rfl rfl rfl rfl (by kernel_rfl) rfl rfl rfl ?_
                      refine XQ.skip (i := 5) (l' := #[true, true, true, true, true, true, false, false, false, false, false, false, false, false, false, false, false, false]) rfl rfl rfl rfl rfl (by kernel_rfl) rfl rfl rfl ?_
                      refine XQ.skip (i := 6) (l' := #[true, true, true, true, true, true, true, false, false, false, false, false, false, false, false, false, false, false]) rfl rfl rfl rfl rfl (by kernel_rfl) rfl rfl rfl ?_
                      refine XQ.skip (i := 7) (l' := #[true, true, true, true, true, true, true, true, false, false, false, false, false, false, false, false, false, false]) rfl rfl rfl rfl rfl (by kernel_rfl) rfl rfl rfl ?_
                      refine XQ.skip (i := 8) (l' := #[true, true, true, true, true, true, true, true, true, false, false, false, false, false, false, false, false, false]) rfl rfl rfl rfl rfl (by kernel_rfl) rfl rfl rfl ?_
                      refine XQ.skip (i := 9) (l' := #[true, true, true, true, true, true, true, true, true, true, false, false, false, false, false, false, false, false]) rfl rfl rfl rfl rfl (by kernel_rfl) rfl rfl rfl ?_
                      refine XQ.skip (i := 10) (l' := #[true, true, true, true, true, true, true, true, true, true, true, false, false, false, false, false, false, false]) rfl rfl rfl rfl rfl (by kernel_rfl) rfl rfl rfl ?_
                      refine XQ.skip (i := 11) (l' := #[true, true, true, true, true, true, true, true, true, true, true, true, false, false, false, false, false, false]) rfl rfl rfl rfl rfl (by kernel_rfl) rfl rfl rfl ?_
                      refine XQ.skip (i := 12) (l' := #[true, true, true, true, true, true, true, true, true, true, true, true, true, false, false, false, false, false]) rfl rfl rfl rfl rfl (by kernel_rfl) rfl rfl rfl ?_
                      refine XQ.skip (i := 13) (l' := #[true, true, true, true, true, true, true, true, true, true, true, true, true, true, false, false, false, false]) rfl rfl rfl rfl rfl (by kernel_rfl) rfl rfl rfl ?_
                      refine XQ.skip (i := 14) (l' := #[true, true, true, true, true, true, true, true, true, true, true, true, true, true, true, false, false, false]) rfl rfl rfl rfl rfl (by kernel_rfl) rfl rfl rfl ?_
                      refine XQ.skip (i := 15) (l' := #[true, true, true, true, true, true, true, true, true, true, true, true, true, true, true, true, false, false]) rfl rfl rfl rfl rfl (by kernel_rfl) rfl rfl rfl ?_
                      refine XQ.skip (i := 16) (l' := #[true, true, true, true, true, true, true, true, true, true, true, true, true, true, true, true, true, false]) rfl rfl rfl rfl rfl (by kernel_rfl) rfl rfl rfl ?_
                      refine XQ.pv (i := 17) (l' := #[true, true, true, true, true, true, true, true, true, true, true, true, true, true, true, true, true, true]) rfl (by kernel_rfl) rfl (V.pick rfl rfl rfl rfl) rfl rfl ?_
                      refine XQ.done (by kernel_rfl) ?_
                      refine XE.next ?_
                      refine XC.keep [(1, _), (5, _), (6, _), (7, _), (8, _), (9, _), (10, _), (12, _), (13, _), (14, _), (15, _), (16, _), (174, _)] (Sub.cons rfl (Sub.cons rfl (Sub.cons rfl (Sub.cons rfl (Sub.cons rfl (Sub.cons rfl (Sub.cons rfl (Sub.cons rfl (Sub.cons rfl (Sub.cons rfl (Sub.cons rfl (Sub.cons rfl (Sub.cons rfl (Sub.nil _)))))))))))))) ?_
                      refine XC.condF rfl rfl ?_
                      refine XC.skip ?_
                      refine XE.blockNormal ?_
                      refine XE.next ?_
                      refine XC.keep [(1, _), (5, _), (6, _), (7, _), (8, _), (9, _), (10, _), (12, _), (13, _), (14, _), (15, _), (16, _)] (Sub.cons rfl (Sub.cons rfl (Sub.cons rfl (Sub.cons rfl (Sub.cons rfl (Sub.cons rfl (Sub.cons rfl (Sub.cons rfl (Sub.cons rfl (Sub.cons rfl (Sub.cons rfl (Sub.cons rfl (Sub.nil _))))))))))))) ?_
                      refine XC.region ?_
                      refine XO.v (V.move rfl) rfl ?_
                      refine XO.v (V.add rfl rfl _ (IntWalk.i64_in _ (by omega))) rfl ?_
                      refine XO.v (V.assign rfl) rfl ?_
                      refine XO.nil ?_
                      refine XE.again ((g.1, g.2, e.2.2 + 1)) ?_ ?_ (Sub.cons rfl (Sub.cons rfl (Sub.cons rfl (Sub.cons rfl (Sub.cons rfl (Sub.cons rfl (Sub.cons rfl (Sub.cons rfl (Sub.cons rfl (Sub.cons rfl (Sub.cons rfl (Sub.cons rfl (Sub.nil _))))))))))))) (fun _ hw => XM.pick (.cons .here (.cons .here (.cons .here (.cons .here (.cons .here (.cons .here (.cons .here (.cons .here .nil)))))))) hw)
                      · skip
                        (simp; omega)
                      · skip
                        refine ⟨by simp; omega, fun j => ⟨fun a b => ?_, fun a => ?_⟩⟩
                        · have a2 : j < e.2.2 + 1 := a
                          by_cases c9 : j = e.2.2
                          · subst c9; exact ⟨hg1, hg2⟩
                          · obtain ⟨r1, r2⟩ := hg j c9
                            show g.1 j = _ ∧ g.2 j = _
                            rw [r1, r2]; exact (he j).1 (by omega) b
                        · have a2 : e.2.2 + 1 ≤ j := a
                          obtain ⟨r1, r2⟩ := hg j (by omega)
                          show g.1 j = _ ∧ g.2 j = _
                          rw [r1, r2]; exact (he j).2 (by omega)
                · skip
                  refine XC.exit ?_
                  refine XE.thenExit ?_
                  refine XE.thenExit ?_
                  refine XE.blockExit ?_
                  refine XE.blockNormal ?_
                  refine XE.next ?_
                  refine XC.keep [(1, _), (5, _), (6, _), (7, _), (8, _), (9, _), (10, _), (12, _), (13, _), (14, _)] (Sub.cons rfl (Sub.cons rfl (Sub.cons rfl (Sub.cons rfl (Sub.cons rfl (Sub.cons rfl (Sub.cons rfl (Sub.cons rfl (Sub.cons rfl (Sub.cons rfl (Sub.nil _))))))))))) ?_
                  refine XC.region ?_
                  refine XO.v (V.move rfl) rfl ?_
                  refine XO.v (V.add rfl rfl _ (IntWalk.i64_in _ (by omega))) rfl ?_
                  refine XO.v (V.assign rfl) rfl ?_
                  refine XO.nil ?_
                  refine XE.again ((t, e.1, e.2.1, c.2.2.2 + 1)) ?_ ?_ (Sub.cons rfl (Sub.cons rfl (Sub.cons rfl (Sub.cons rfl (Sub.cons rfl (Sub.cons rfl (Sub.cons rfl (Sub.cons rfl (Sub.cons rfl (Sub.cons rfl (Sub.nil _))))))))))) (fun _ hw => XM.pick (.cons .here (.cons .here (.cons .here (.cons .here (.cons .here (.cons .here (.cons .here (.cons .here .nil)))))))) hw)
                  · skip
                    (simp; omega)
                  · skip
                    have et : t.toSF = (c.1.toSF.tick dW).2 := tl
                    refine ⟨tR, ?_, fun x a b => ?_, by simp; omega, by simp; omega⟩
                    · show SF.WK t.toSF _ e.1 e.2.1 _ (40 * z.2.2.2.2 + (c.2.2.2 + 1))
                      rw [et, show 40 * z.2.2.2.2 + (c.2.2.2 + 1) = 40 * z.2.2.2.2 + c.2.2.2 + 1 by omega]
                      exact qK.ext (fun j a b => (he j).1 (by omega) a)
                    · show y.2.1 x = t.toSF.wt (10 + x)
                      rw [et, q3]; exact cW x a b
            · skip
              refine XO.guardSkip rfl rfl rfl rfl rfl ?_
              refine XO.guardSkip rfl rfl rfl rfl rfl ?_
              refine XO.guardSkip rfl rfl rfl rfl rfl ?_
              refine XO.guardSkip rfl rfl rfl rfl rfl ?_
              refine XO.guardRun rfl rfl rfl ?_
              refine XO.v (V.pick rfl rfl rfl rfl) rfl ?_
              refine XO.v (V.pick rfl rfl rfl rfl) rfl ?_
              refine XO.nil ?_
              refine XE.next ?_
              refine XC.keep [(1, _), (5, _), (6, _), (7, _), (8, _), (9, _), (10, _), (12, _), (13, _), (14, _), (15, _), (132, _)] (Sub.cons rfl (Sub.cons rfl (Sub.cons rfl (Sub.cons rfl (Sub.cons rfl (Sub.cons rfl (Sub.cons rfl (Sub.cons rfl (Sub.cons rfl (Sub.cons rfl (Sub.cons rfl (Sub.cons rfl (Sub.nil _))))))))))))) ?_
              refine XC.condF rfl rfl ?_
              refine XC.skip ?_
              refine XE.next ?_
              refine XC.keep [(1, _), (5, _), (6, _), (7, _), (8, _), (9, _), (10, _), (12, _), (13, _), (14, _), (15, _)] (Sub.cons rfl (Sub.cons rfl (Sub.cons rfl (Sub.cons rfl (Sub.cons rfl (Sub.cons rfl (Sub.cons rfl (Sub.cons rfl (Sub.cons rfl (Sub.cons rfl (Sub.cons rfl (Sub.nil _)))))))))))) ?_
              refine XC.seq ?_
              refine XC.region ?_
              refine XO.v (V.assign rfl) rfl ?_
              refine XO.nil ?_
              refine XE.next ?_
              refine XC.keep [(1, _), (5, _), (6, _), (7, _), (8, _), (9, _), (10, _), (12, _), (13, _), (14, _), (15, _), (16, _)] (Sub.cons rfl (Sub.cons rfl (Sub.cons rfl (Sub.cons rfl (Sub.cons rfl (Sub.cons rfl (Sub.cons rfl (Sub.cons rfl (Sub.cons rfl (Sub.cons rfl (Sub.cons rfl (Sub.cons rfl (Sub.nil _))))))))))))) ?_
              refine XC.block ?_
              refine XC.loop (σ := (Int → Int) × (Int → Int) × Int) (fun e => (y.2.2.1 - e.2.2).toNat) (fun e => (1 ≤ e.2.2 ∧ e.2.2 ≤ y.2.2.1) ∧ ∀ j, (j < e.2.2 → 1 ≤ j → e.1 j = c.2.1 j + (if (c.1.toSF.tick dW).1 = j then 1 else 0) ∧ e.2.1 j = c.2.2.1 j + (if (c.1.toSF.tick dW).1 = 0 then 1 else 0)) ∧ (e.2.2 ≤ j → e.1 j = c.2.1 j ∧ e.2.1 j = c.2.2.1 j)) (fun e => [(16, .int .i64 e.2.2), (1, .slice (some ⟨bl, ol, none⟩) len cap), (5, ptr bs 0 0), (6, ptr bw 0 0), (7, ptr br 0 0), (8, ptr bm 0 0), (9, ptr bk 0 0), (10, .int .i64 y.2.2.1), (12, .int .i64 z.2.2.2.2), (13, ptr ba 0 0), (14, .int .i64 c.2.2.2), (15, .int .i64 (c.1.toSF.tick dW).1)]) (fun e => XM W (foot [.ro bl ol (8 * len) (encActs A)]) [.cells bs 0 2281 (encS t), .fam fam30 (SC.rows 86 t), .cells bw 0 20 (encI y.2.1 20), .cells br 0 20 (encI e.2.1 20), .cells bm 0 20 (encI e.1 20), .cells bk 0 20 (encBl z.2.2.2.1 20), .cells ba 0 8 (encAct (A z.2.2.2.2)), .ro bl ol (8 * len) (encActs A)]) ((c.2.1, c.2.2.1, 1)) ?_ (Sub.cons rfl (Sub.cons rfl (Sub.cons rfl (Sub.cons rfl (Sub.cons rfl (Sub.cons rfl (Sub.cons rfl (Sub.cons rfl (Sub.cons rfl (Sub.cons rfl (Sub.cons rfl (Sub.cons rfl (Sub.nil _))))))))))))) (fun _ hw => XM.pick (.cons .here (.cons .here (.cons .here (.cons .here (.cons .here (.cons .here (.cons .here (.cons .here .nil)))))))) hw) ?_
              · skip
                exact ⟨by simp; omega, fun j => ⟨fun a b => by have a2 : j < 1 := a; omega, fun _ => ⟨rfl, rfl⟩⟩⟩
              intro e he
              obtain ⟨hx, he⟩ := he
              refine XC.seq ?_
              refine XC.seq ?_
              refine XC.region ?_
              refine XO.v (V.move rfl) rfl ?_
              refine XO.v (V.move rfl) rfl ?_
              refine XO.v (V.cmp rfl rfl rfl) rfl ?_
              refine XO.nil ?_
              refine XE.next ?_
              refine XC.keep [(1, _), (5, _), (6, _), (7, _), (8, _), (9, _), (10, _), (12, _), (13, _), (14, _), (15, _), (16, _), (135, _)] (Sub.cons rfl (Sub.cons rfl (Sub.cons rfl (Sub.cons rfl (Sub.cons rfl (Sub.cons rfl (Sub.cons rfl (Sub.cons rfl (Sub.cons rfl (Sub.cons rfl (Sub.cons rfl (Sub.cons rfl (Sub.cons rfl (Sub.nil _)))))))))))))) ?_
              refine XC.condP rfl (fun h20 => ?_) (fun h20 => ?_)
              · skip
                refine XC.skip ?_
                refine XE.next ?_
                refine XC.keep [(1, _), (5, _), (6, _), (7, _), (8, _), (9, _), (10, _), (12, _), (13, _), (14, _), (15, _), (16, _)] (Sub.cons rfl (Sub.cons rfl (Sub.cons rfl (Sub.cons rfl (Sub.cons rfl (Sub.cons rfl (Sub.cons rfl (Sub.cons rfl (Sub.cons rfl (Sub.cons rfl (Sub.cons rfl (Sub.cons rfl (Sub.nil _))))))))))))) ?_
                refine XC.seq ?_
                refine XC.block ?_
                refine XC.seq ?_
                refine XC.seq ?_
                refine XC.region ?_
                have hbd := cK.bd e.2.2 (by omega) (by omega)
                obtain ⟨he1, he2⟩ := (he e.2.2).2 (by omega)
                refine XO.v (V.move rfl) rfl ?_
                refine XO.v (V.move rfl) rfl ?_
                refine XO.v (V.cmp rfl rfl rfl) rfl ?_
                refine XO.nil ?_
                refine XE.next ?_
                refine XC.keep [(1, _), (5, _), (6, _), (7, _), (8, _), (9, _), (10, _), (12, _), (13, _), (14, _), (15, _), (16, _), (140, _)] (Sub.cons rfl (Sub.cons rfl (Sub.cons rfl (Sub.cons rfl (Sub.cons rfl (Sub.cons rfl (Sub.cons rfl (Sub.cons rfl (Sub.cons rfl (Sub.cons rfl (Sub.cons rfl (Sub.cons rfl (Sub.cons rfl (Sub.nil _)))))))))))))) ?_
                refine XC.condP rfl (fun h21 => ?_) (fun h21 => ?_)
                · skip
                  refine XC.region ?_
                  refine XO.v (V.move rfl) rfl ?_
                  refine XO.v (V.indexArr rfl rfl ar_49 (by omega)) rfl ?_
                  refine XO.v (V.load rfl (inXM (.there (.there (.there (.there .here))))) (encI.ld _ _ _ (by omega)) sc_3) rfl ?_
                  refine XO.v (V.add rfl rfl _ (IntWalk.i64_in _ (by omega))) rfl ?_
                  refine XO.v (V.indexArr rfl rfl ar_49 (by omega)) rfl ?_
                  refine XO.store rfl rfl (.there (.there (.there (.there .here)))) (encI.st _ _ _ _ (by omega)) rfl sz_3_1 ?_
                  refine XO.nil ?_
                  refine XE.next ?_
                  refine XC.keep [(1, _), (5, _), (6, _), (7, _), (8, _), (9, _), (10, _), (12, _), (13, _), (14, _), (15, _), (16, _)] (Sub.cons rfl (Sub.cons rfl (Sub.cons rfl (Sub.cons rfl (Sub.cons rfl (Sub.cons rfl (Sub.cons rfl (Sub.cons rfl (Sub.cons rfl (Sub.cons rfl (Sub.cons rfl (Sub.cons rfl (Sub.nil _))))))))))))) ?_
                  refine XC.cutG (σ := (Int → Int) × (Int → Int)) (fun g => (∀ j, j ≠ e.2.2 → g.1 j = e.1 j ∧ g.2 j = e.2.1 j) ∧ g.1 e.2.2 = c.2.1 e.2.2 + (if (c.1.toSF.tick dW).1 = e.2.2 then 1 else 0) ∧ g.2 e.2.2 = c.2.2.1 e.2.2 + (if (c.1.toSF.tick dW).1 = 0 then 1 else 0)) (fun g => [(1, .slice (some ⟨bl, ol, none⟩) len cap), (5, ptr bs 0 0), (6, ptr bw 0 0), (7, ptr br 0 0), (8, ptr bm 0 0), (9, ptr bk 0 0), (10, .int .i64 y.2.2.1), (12, .int .i64 z.2.2.2.2), (13, ptr ba 0 0), (14, .int .i64 c.2.2.2), (15, .int .i64 (c.1.toSF.tick dW).1), (16, .int .i64 e.2.2)]) (fun g => XM W (foot [.ro bl ol (8 * len) (encActs A)]) [.cells bs 0 2281 (encS t), .fam fam30 (SC.rows 86 t), .cells bw 0 20 (encI y.2.1 20), .cells br 0 20 (encI g.2 20), .cells bm 0 20 (encI g.1 20), .cells bk 0 20 (encBl z.2.2.2.1 20), .cells ba 0 8 (encAct (A z.2.2.2.2)), .ro bl ol (8 * len) (encActs A)]) ?_ ?_
                  · skip
                    refine XC.seq ?_
                    refine XC.region ?_
                    refine XO.v (V.move rfl) rfl ?_
                    refine XO.v (V.cmp rfl rfl rfl) rfl ?_
                    refine XO.nil ?_
                    refine XE.next ?_
                    refine XC.keep [(1, _), (5, _), (6, _), (7, _), (8, _), (9, _), (10, _), (12, _), (13, _), (14, _), (15, _), (16, _), (147, _)] (Sub.cons rfl (Sub.cons rfl (Sub.cons rfl (Sub.cons rfl (Sub.cons rfl (Sub.cons rfl (Sub.cons rfl (Sub.cons rfl (Sub.cons rfl (Sub.cons rfl (Sub.cons rfl (Sub.cons rfl (Sub.cons rfl (Sub.nil _)))))))))))))) ?_
                    refine XC.condFP rfl (by omega) ?_
                    refine XC.skip ?_
                    refine XE.meetG ((fset e.1 e.2.2 (e.1 e.2.2 + 1), e.2.1)) ?_ (Sub.cons rfl (Sub.cons rfl (Sub.cons rfl (Sub.cons rfl (Sub.cons rfl (Sub.cons rfl (Sub.cons rfl (Sub.cons rfl (Sub.cons rfl (Sub.cons rfl (Sub.cons rfl (Sub.cons rfl (Sub.nil _))))))))))))) (fun _ hw => XM.pick (.cons .here (.cons .here (.cons .here (.cons .here (.cons .here (.cons .here (.cons .here (.cons .here .nil)))))))) hw)
                    refine ⟨fun j hj => ⟨fset_ne _ _ hj, rfl⟩, ?_, ?_⟩
                    · show fset e.1 e.2.2 (e.1 e.2.2 + 1) e.2.2 = _
                      rw [fset_eq, he1, if_pos (by omega)]
                    · show e.2.1 e.2.2 = _
                      rw [he2, if_neg (by omega)]; omega
                  intro g hg
                  obtain ⟨hg, hg1, hg2⟩ := hg
                  have hWx : y.2.1 e.2.2 = c.1.toSF.wt (10 + e.2.2) := cW e.2.2 (by omega) (by omega)
                  have hWp : 1 ≤ y.2.1 e.2.2 := by rw [hWx]; exact cK.tw.ok.inv.wt _ (by omega) (by omega) (cK.here (by omega) (by omega))
                  have hgb : 0 ≤ g.1 e.2.2 ∧ g.1 e.2.2 ≤ 7000 ∧ 0 ≤ g.2 e.2.2 ∧ g.2 e.2.2 ≤ 7000 := by
                    rw [hg1, hg2]; split <;> split <;> omega
                  have hOn : 0 ≤ 1048576 / y.2.1 e.2.2 ∧ 1048576 / y.2.1 e.2.2 ≤ 1048576 := ⟨Int.ediv_nonneg (by omega) (by omega), Int.ediv_le_self _ (by omega)⟩
                  have hP : 0 ≤ g.1 e.2.2 * (1048576 / y.2.1 e.2.2) ∧ g.1 e.2.2 * (1048576 / y.2.1 e.2.2) ≤ 7000 * 1048576 := ⟨Int.mul_nonneg hgb.1 hOn.1, Int.mul_le_mul hgb.2.1 hOn.2 hOn.1 (by omega)⟩
                  have hchk : z.2.2.2.1 e.2.2 = true → g.1 e.2.2 * (1048576 / y.2.1 e.2.2) - g.2 e.2.2 * 149796 ≤ 1048576 / y.2.1 e.2.2 + 149796 := fun q => by
                    have h1 : (c.2.1 e.2.2 + if (c.1.toSF.tick dW).1 = e.2.2 then 1 else 0) * (1048576 / (c.1.toSF.tick dW).2.wt (10 + e.2.2)) - (c.2.2.1 e.2.2 + if (c.1.toSF.tick dW).1 = 0 then 1 else 0) * 149796 ≤ 1048576 / (c.1.toSF.tick dW).2.wt (10 + e.2.2) + 149796 := qK.check (x := e.2.2) (by omega) (by omega) q
                    rw [q3, ← hWx, ← hg1, ← hg2] at h1
                    exact h1
                  refine XC.seq ?_
                  refine XC.region ?_
                  refine XO.v (V.move rfl) rfl ?_
                  refine XO.v (V.indexArr rfl rfl ar_49 (by omega)) rfl ?_
                  refine XO.v (V.load rfl (inXM (.there (.there .here))) (encI.ld _ _ _ (by omega)) sc_3) rfl ?_
                  refine XO.v (V.quo rfl rfl (by first | decide | omega) _ (quo_nn (by omega) (by omega) (by omega))) rfl ?_
                  refine XO.v (V.assign rfl) rfl ?_
                  refine XO.nil ?_
                  refine XE.next ?_
                  refine XC.keep [(1, _), (5, _), (6, _), (7, _), (8, _), (9, _), (10, _), (12, _), (13, _), (14, _), (15, _), (16, _), (17, _)] (Sub.cons rfl (Sub.cons rfl (Sub.cons rfl (Sub.cons rfl (Sub.cons rfl (Sub.cons rfl (Sub.cons rfl (Sub.cons rfl (Sub.cons rfl (Sub.cons rfl (Sub.cons rfl (Sub.cons rfl (Sub.cons rfl (Sub.nil _)))))))))))))) ?_
                  refine XC.seq ?_
                  refine XC.regionQ mixed (f := 18) (l := #[false, false, false, false, false, false, false, false, false, false, false, false, false, false, false, false, false, false]) rfl rfl XM.drawn' ?_
                  refine XQ.pv (i := 0) (l' := #[true, false, false, false, false, false, false, false, false, false, false, false, false, false, false, false, false, false]) rfl (by kernel_rfl) rfl (V.move rfl) rfl rfl ?_
                  refine XQ.pv (i := 1) (l' := #[true, true, false, false, false, false, false, false, false, false, false, false, false, false, false, false, false, false]) rfl (by kernel_rfl) rfl (V.indexArr rfl rfl ar_50 (by omega)) rfl rfl ?_
                  refine XQ.load (i := 2) (l' := #[true, true, true, false, false, false, false, false, false, false, false, false, false, false, false, false, false, false]) (.cells _ _ _ _) [] rfl (by kernel_rfl) rfl (.there (.there (.there (.there (.there .here))))) (V.load rfl inEnt (encBl.ld _ _ _ (by omega)) sc_4) rfl (by kernel_rfl) rfl ?_
                  refine XQ.pv (i := 3) (l' := #[true, true, true, true, false, false, false, false, false, false, false, false, false, false, false, false, false, false]) rfl (by kernel_rfl) rfl (V.move rfl) rfl rfl ?_
                  refine XQ.split (d := 160) rfl (fun h22 => ?_) (fun h22 => ?_)
                  · try simp only [sb] at h22
                    refine XQ.pvG (i := 4) (l' := #[true, true, true, true, true, false, false, false, false, false, false, false, false, false, false, false, false, false]) rfl rfl rfl (by kernel_rfl) rfl (V.move rfl) rfl rfl ?_
                    refine XQ.pvG (i := 5) (l' := #[true, true, true, true, true, true, false, false, false, false, false, false, false, false, false, false, false, false]) rfl rfl rfl (by kernel_rfl) rfl (V.indexArr rfl rfl ar_49 (by omega)) rfl rfl ?_
                    refine XQ.loadG (i := 6) (l' := #[true, true, true, true, true, true, true, false, false, false, false, false, false, false, false, false, false, false]) (.cells _ _ _ _) [] rfl rfl rfl (by kernel_rfl) rfl (.there (.there (.there (.there .here)))) (V.load rfl inEnt (encI.ld _ _ _ (by omega)) sc_3) rfl (by kernel_rfl) rfl ?_
                    refine XQ.pvG (i := 7) (l' := #[true, true, true, true, true, true, true, true, false, false, false, false, false, false, false, false, false, false]) rfl rfl rfl (by kernel_rfl) rfl (V.move rfl) rfl rfl ?_
                    refine XQ.pvG (i := 8) (l' := #[true, true, true, true, true, true, true, true, true, false, false, false, false, false, false, false, false, false]) rfl rfl rfl (by kernel_rfl) rfl (V.mul rfl rfl _ (SF.i64_le (a := g.1 e.2.2 * (1048576 / y.2.1 e.2.2)) hP.1 (by omega))) rfl rfl ?_
                    refine XQ.pvG (i := 9) (l' := #[true, true, true, true, true, true, true, true, true, true, false, false, false, false, false, false, false, false]) rfl rfl rfl (by kernel_rfl) rfl (V.move rfl) rfl rfl ?_
                    refine XQ.pvG (i := 10) (l' := #[true, true, true, true, true, true, true, true, true, true, true, false, false, false, false, false, false, false]) rfl rfl rfl (by kernel_rfl) rfl (V.indexArr rfl rfl ar_49 (by omega)) rfl rfl ?_
                    refine XQ.loadG (i := 11) (l' := #[true, true, true, true, true, true, true, true, true, true, true, true, false, false, false, false, false, false]) (.cells _ _ _ _) [] rfl rfl rfl (by kernel_rfl) rfl (.there (.there (.there .here))) (V.load rfl inEnt (encI.ld _ _ _ (by omega)) sc_3) rfl (by kernel_rfl) rfl ?_
                    refine XQ.pvG (i := 12) (l' := #[true, true, true, true, true, true, true, true, true, true, true, true, true, false, false, false, false, false]) rfl rfl rfl (by kernel_rfl) rfl (V.mul rfl rfl _ (IntWalk.i64_in _ (by omega))) rfl rfl ?_
                    refine XQ.pvG (i := 13) (l' := #[true, true, true, true, true, true, true, true, true, true, true, true, true, true, false, false, false, false]) rfl rfl rfl (by kernel_rfl) rfl (V.sub rfl rfl _ (IntWalk.i64_in _ (by omega))) rfl rfl ?_
                    refine XQ.pvG (i := 14) (l' := #[true, true, true, true, true, true, true, true, true, true, true, true, true, true, true, false, false, false]) rfl rfl rfl (by kernel_rfl) rfl (V.move rfl) rfl rfl ?_
                    refine XQ.pvG (i := 15) (l' := #[true, true, true, true, true, true, true, true, true, true, true, true, true, true, true, true, false, false]) rfl rfl rfl (by kernel_rfl) rfl (V.add rfl rfl _ (IntWalk.i64_in _ (by omega))) rfl rfl ?_
                    refine XQ.pvG (i := 16) (l' := #[true, true, true, true, true, true, true, true, true, true, true, true, true, true, true, true, true, false]) rfl rfl rfl (by kernel_rfl) rfl (V.cmp rfl rfl rfl) rfl rfl ?_
                    refine XQ.pv (i := 17) (l' := #[true, true, true, true, true, true, true, true, true, true, true, true, true, true, true, true, true, true]) rfl (by kernel_rfl) rfl (V.pick rfl rfl rfl rfl) rfl rfl ?_
                    refine XQ.done (by kernel_rfl) ?_
                    refine XE.next ?_
                    refine XC.keep [(1, _), (5, _), (6, _), (7, _), (8, _), (9, _), (10, _), (12, _), (13, _), (14, _), (15, _), (16, _), (174, _)] (Sub.cons rfl (Sub.cons rfl (Sub.cons rfl (Sub.cons rfl (Sub.cons rfl (Sub.cons rfl (Sub.cons rfl (Sub.cons rfl (Sub.cons rfl (Sub.cons rfl (Sub.cons rfl (Sub.cons rfl (Sub.cons rfl (Sub.nil _)))))))))))))) ?_
                    refine XC.condFP rfl (by have := hchk (by assumption); omega) ?_
                    refine XC.skip ?_
                    refine XE.blockNormal ?_
                    refine XE.next ?_
                    refine XC.keep [(1, _), (5, _), (6, _), (7, _), (8, _), (9, _), (10, _), (12, _), (13, _), (14, _), (15, _), (16, _)] (Sub.cons rfl (Sub.cons rfl (Sub.cons rfl (Sub.cons rfl (Sub.cons rfl (Sub.cons rfl (Sub.cons rfl (Sub.cons rfl (Sub.cons rfl (Sub.cons rfl (Sub.cons rfl (Sub.cons rfl (Sub.nil _))))))))))))) ?_
                    refine XC.region ?_
                    refine XO.v (V.move rfl) rfl ?_
                    refine XO.v (V.add rfl rfl _ (IntWalk.i64_in _ (by omega))) rfl ?_
                    refine XO.v (V.assign rfl) rfl ?_
                    refine XO.nil ?_
                    refine XE.again ((g.1, g.2, e.2.2 + 1)) ?_ ?_ (Sub.cons rfl (Sub.cons rfl (Sub.cons rfl (Sub.cons rfl (Sub.cons rfl (Sub.cons rfl (Sub.cons rfl (Sub.cons rfl (Sub.cons rfl (Sub.cons rfl (Sub.cons rfl (Sub.cons rfl (Sub.nil _))))))))))))) (fun _ hw => XM.pick (.cons .here (.cons .here (.cons .here (.cons .here (.cons .here (.cons .here (.cons .here (.cons .here .nil)))))))) hw)
                    · skip
                      (simp; omega)
                    · skip
                      refine ⟨by simp; omega, fun j => ⟨fun a b => ?_, fun a => ?_⟩⟩
                      · have a2 : j < e.2.2 + 1 := a
                        by_cases c9 : j = e.2.2
                        · subst c9; exact ⟨hg1, hg2⟩
                        · obtain ⟨r1, r2⟩ := hg j c9
                          show g.1 j = _ ∧ g.2 j = _
                          rw [r1, r2]; exact (he j).1 (by omega) b
                      · have a2 : e.2.2 + 1 ≤ j := a
                        obtain ⟨r1, r2⟩ := hg j (by omega)
                        show g.1 j = _ ∧ g.2 j = _
                        rw [r1, r2]; exact (he j).2 (by omega)
                  · try simp only [sb] at h22
                    refine XQ.skip (i := 4) (l' := #[true, true, true, true, true, false, false, false, false, false, false, false, false, false, false, false, false, false]) rfl rfl rfl rfl rfl (by kernel_rfl) rfl rfl rfl ?_
                    refine XQ.skip (i := 5) (l' := #[true, true, true, true, true, true, false, false, false, false, false, false, false, false, false, false, false, false]) rfl rfl rfl rfl rfl (by kernel_rfl) rfl rfl rfl ?_
                    refine XQ.skip (i := 6) (l' := #[true, true, true, true, true, true, true, false, false, false, false, false, false, false, false, false, false, false]) rfl rfl rfl rfl rfl (by kernel_rfl) rfl rfl rfl ?_
                    refine XQ.skip (i := 7) (l' := #[true, true, true, true, true, true, true, true, false, false, false, false, false, false, false, false, false, false]) rfl rfl rfl rfl rfl (by kernel_rfl) rfl rfl rfl ?_
                    refine XQ.skip (i := 8) (l' := #[true, true, true, true, true, true, true, true, true, false, false, false, false, false, false, false, false, false]) rfl rfl rfl rfl rfl (by kernel_rfl) rfl rfl rfl ?_
                    refine XQ.skip (i := 9) (l' := #[true, true, true, true, true, true, true, true, true, true, false, false, false, false, false, false, false, false]) rfl rfl rfl rfl rfl (by kernel_rfl) rfl rfl rfl ?_
                    refine XQ.skip (i := 10) (l' := #[true, true, true, true, true, true, true, true, true, true, true, false, false, false, false, false, false, false]) rfl rfl rfl rfl rfl (by kernel_rfl) rfl rfl rfl ?_
                    refine XQ.skip (i := 11) (l' := #[true, true, true, true, true, true, true, true, true, true, true, true, false, false, false, false, false, false]) rfl rfl rfl rfl rfl (by kernel_rfl) rfl rfl rfl ?_
                    refine XQ.skip (i := 12) (l' := #[true, true, true, true, true, true, true, true, true, true, true, true, true, false, false, false, false, false]) rfl rfl rfl rfl rfl (by kernel_rfl) rfl rfl rfl ?_
                    refine XQ.skip (i := 13) (l' := #[true, true, true, true, true, true, true, true, true, true, true, true, true, true, false, false, false, false]) rfl rfl rfl rfl rfl (by kernel_rfl) rfl rfl rfl ?_
                    refine XQ.skip (i := 14) (l' := #[true, true, true, true, true, true, true, true, true, true, true, true, true, true, true, false, false, false]) rfl rfl rfl rfl rfl (by kernel_rfl) rfl rfl rfl ?_
                    refine XQ.skip (i := 15) (l' := #[true, true, true, true, true, true, true, true, true, true, true, true, true, true, true, true, false, false]) rfl rfl rfl rfl rfl (by kernel_rfl) rfl rfl rfl ?_
                    refine XQ.skip (i := 16) (l' := #[true, true, true, true, true, true, true, true, true, true, true, true, true, true, true, true, true, false]) rfl rfl rfl rfl rfl (by kernel_rfl) rfl rfl rfl ?_
                    refine XQ.pv (i := 17) (l' := #[true, true, true, true, true, true, true, true, true, true, true, true, true, true, true, true, true, true]) rfl (by kernel_rfl) rfl (V.pick rfl rfl rfl rfl) rfl rfl ?_
                    refine XQ.done (by kernel_rfl) ?_
                    refine XE.next ?_
                    refine XC.keep [(1, _), (5, _), (6, _), (7, _), (8, _), (9, _), (10, _), (12, _), (13, _), (14, _), (15, _), (16, _), (174, _)] (Sub.cons rfl (Sub.cons rfl (Sub.cons rfl (Sub.cons rfl (Sub.cons rfl (Sub.cons rfl (Sub.cons rfl (Sub.cons rfl (Sub.cons rfl (Sub.cons rfl (Sub.cons rfl (Sub.cons rfl (Sub.cons rfl (Sub.nil _)))))))))))))) ?_
                    refine XC.condF rfl rfl ?_
                    refine XC.skip ?_
                    refine XE.blockNormal ?_
                    refine XE.next ?_
                    refine XC.keep [(1, _), (5, _), (6, _), (7, _), (8, _), (9, _), (10, _), (12, _), (13, _), (14, _), (15, _), (16, _)] (Sub.cons rfl (Sub.cons rfl (Sub.cons rfl (Sub.cons rfl (Sub.cons rfl (Sub.cons rfl (Sub.cons rfl (Sub.cons rfl (Sub.cons rfl (Sub.cons rfl (Sub.cons rfl (Sub.cons rfl (Sub.nil _))))))))))))) ?_
                    refine XC.region ?_
                    refine XO.v (V.move rfl) rfl ?_
                    refine XO.v (V.add rfl rfl _ (IntWalk.i64_in _ (by omega))) rfl ?_
                    refine XO.v (V.assign rfl) rfl ?_
                    refine XO.nil ?_
                    refine XE.again ((g.1, g.2, e.2.2 + 1)) ?_ ?_ (Sub.cons rfl (Sub.cons rfl (Sub.cons rfl (Sub.cons rfl (Sub.cons rfl (Sub.cons rfl (Sub.cons rfl (Sub.cons rfl (Sub.cons rfl (Sub.cons rfl (Sub.cons rfl (Sub.cons rfl (Sub.nil _))))))))))))) (fun _ hw => XM.pick (.cons .here (.cons .here (.cons .here (.cons .here (.cons .here (.cons .here (.cons .here (.cons .here .nil)))))))) hw)
                    · skip
                      (simp; omega)
                    · skip
                      refine ⟨by simp; omega, fun j => ⟨fun a b => ?_, fun a => ?_⟩⟩
                      · have a2 : j < e.2.2 + 1 := a
                        by_cases c9 : j = e.2.2
                        · subst c9; exact ⟨hg1, hg2⟩
                        · obtain ⟨r1, r2⟩ := hg j c9
                          show g.1 j = _ ∧ g.2 j = _
                          rw [r1, r2]; exact (he j).1 (by omega) b
                      · have a2 : e.2.2 + 1 ≤ j := a
                        obtain ⟨r1, r2⟩ := hg j (by omega)
                        show g.1 j = _ ∧ g.2 j = _
                        rw [r1, r2]; exact (he j).2 (by omega)
                · skip
                  refine XC.skip ?_
                  refine XE.next ?_
                  refine XC.keep [(1, _), (5, _), (6, _), (7, _), (8, _), (9, _), (10, _), (12, _), (13, _), (14, _), (15, _), (16, _)] (Sub.cons rfl (Sub.cons rfl (Sub.cons rfl (Sub.cons rfl (Sub.cons rfl (Sub.cons rfl (Sub.cons rfl (Sub.cons rfl (Sub.cons rfl (Sub.cons rfl (Sub.cons rfl (Sub.cons rfl (Sub.nil _))))))))))))) ?_
                  refine XC.cutG (σ := (Int → Int) × (Int → Int)) (fun g => (∀ j, j ≠ e.2.2 → g.1 j = e.1 j ∧ g.2 j = e.2.1 j) ∧ g.1 e.2.2 = c.2.1 e.2.2 + (if (c.1.toSF.tick dW).1 = e.2.2 then 1 else 0) ∧ g.2 e.2.2 = c.2.2.1 e.2.2 + (if (c.1.toSF.tick dW).1 = 0 then 1 else 0)) (fun g => [(1, .slice (some ⟨bl, ol, none⟩) len cap), (5, ptr bs 0 0), (6, ptr bw 0 0), (7, ptr br 0 0), (8, ptr bm 0 0), (9, ptr bk 0 0), (10, .int .i64 y.2.2.1), (12, .int .i64 z.2.2.2.2), (13, ptr ba 0 0), (14, .int .i64 c.2.2.2), (15, .int .i64 (c.1.toSF.tick dW).1), (16, .int .i64 e.2.2)]) (fun g => XM W (foot [.ro bl ol (8 * len) (encActs A)]) [.cells bs 0 2281 (encS t), .fam fam30 (SC.rows 86 t), .cells bw 0 20 (encI y.2.1 20), .cells br 0 20 (encI g.2 20), .cells bm 0 20 (encI g.1 20), .cells bk 0 20 (encBl z.2.2.2.1 20), .cells ba 0 8 (encAct (A z.2.2.2.2)), .ro bl ol (8 * len) (encActs A)]) ?_ ?_
                  · skip
                    refine XC.seq ?_
                    refine XC.region ?_
                    refine XO.v (V.move rfl) rfl ?_
                    refine XO.v (V.cmp rfl rfl rfl) rfl ?_
                    refine XO.nil ?_
                    refine XE.next ?_
                    refine XC.keep [(1, _), (5, _), (6, _), (7, _), (8, _), (9, _), (10, _), (12, _), (13, _), (14, _), (15, _), (16, _), (147, _)] (Sub.cons rfl (Sub.cons rfl (Sub.cons rfl (Sub.cons rfl (Sub.cons rfl (Sub.cons rfl (Sub.cons rfl (Sub.cons rfl (Sub.cons rfl (Sub.cons rfl (Sub.cons rfl (Sub.cons rfl (Sub.cons rfl (Sub.nil _)))))))))))))) ?_
                    refine XC.condP rfl (fun h23 => ?_) (fun h23 => ?_)
                    · skip
                      refine XC.region ?_
                      refine XO.v (V.move rfl) rfl ?_
                      refine XO.v (V.indexArr rfl rfl ar_49 (by omega)) rfl ?_
                      refine XO.v (V.load rfl (inXM (.there (.there (.there .here)))) (encI.ld _ _ _ (by omega)) sc_3) rfl ?_
                      refine XO.v (V.add rfl rfl _ (IntWalk.i64_in _ (by omega))) rfl ?_
                      refine XO.v (V.indexArr rfl rfl ar_49 (by omega)) rfl ?_
                      refine XO.store rfl rfl (.there (.there (.there .here))) (encI.st _ _ _ _ (by omega)) rfl sz_3_1 ?_
                      refine XO.nil ?_
                      refine XE.meetG ((e.1, fset e.2.1 e.2.2 (e.2.1 e.2.2 + 1))) ?_ (Sub.cons rfl (Sub.cons rfl (Sub.cons rfl (Sub.cons rfl (Sub.cons rfl (Sub.cons rfl (Sub.cons rfl (Sub.cons rfl (Sub.cons rfl (Sub.cons rfl (Sub.cons rfl (Sub.cons rfl (Sub.nil _))))))))))))) (fun _ hw => XM.pick (.cons .here (.cons .here (.cons .here (.cons .here (.cons .here (.cons .here (.cons .here (.cons .here .nil)))))))) hw)
                      refine ⟨fun j hj => ⟨rfl, fset_ne _ _ hj⟩, ?_, ?_⟩
                      · show e.1 e.2.2 = _
                        rw [he1, if_neg (by omega)]; omega
                      · show fset e.2.1 e.2.2 (e.2.1 e.2.2 + 1) e.2.2 = _
                        rw [fset_eq, he2, if_pos (by omega)]
                    · skip
                      refine XC.skip ?_
                      refine XE.meetG ((e.1, e.2.1)) ?_ (Sub.cons rfl (Sub.cons rfl (Sub.cons rfl (Sub.cons rfl (Sub.cons rfl (Sub.cons rfl (Sub.cons rfl (Sub.cons rfl (Sub.cons rfl (Sub.cons rfl (Sub.cons rfl (Sub.cons rfl (Sub.nil _))))))))))))) (fun _ hw => XM.pick (.cons .here (.cons .here (.cons .here (.cons .here (.cons .here (.cons .here (.cons .here (.cons .here .nil)))))))) hw)
                      refine ⟨fun j hj => ⟨rfl, rfl⟩, ?_, ?_⟩
                      · show e.1 e.2.2 = _
                        rw [he1, if_neg (by omega)]; omega
                      · show e.2.1 e.2.2 = _
                        rw [he2, if_neg (by omega)]; omega
                  intro g hg
                  obtain ⟨hg, hg1, hg2⟩ := hg
                  have hWx : y.2.1 e.2.2 = c.1.toSF.wt (10 + e.2.2) := cW e.2.2 (by omega) (by omega)
                  have hWp : 1 ≤ y.2.1 e.2.2 := by rw [hWx]; exact cK.tw.ok.inv.wt _ (by omega) (by omega) (cK.here (by omega) (by omega))
                  have hgb : 0 ≤ g.1 e.2.2 ∧ g.1 e.2.2 ≤ 7000 ∧ 0 ≤ g.2 e.2.2 ∧ g.2 e.2.2 ≤ 7000 := by
                    rw [hg1, hg2]; split <;> split <;> omega
                  have hOn : 0 ≤ 1048576 / y.2.1 e.2.2 ∧ 1048576 / y.2.1 e.2.2 ≤ 1048576 := ⟨Int.ediv_nonneg (by omega) (by omega), Int.ediv_le_self _ (by omega)⟩
                  have hP : 0 ≤ g.1 e.2.2 * (1048576 / y.2.1 e.2.2) ∧ g.1 e.2.2 * (1048576 / y.2.1 e.2.2) ≤ 7000 * 1048576 := ⟨Int.mul_nonneg hgb.1 hOn.1, Int.mul_le_mul hgb.2.1 hOn.2 hOn.1 (by omega)⟩
                  have hchk : z.2.2.2.1 e.2.2 = true → g.1 e.2.2 * (1048576 / y.2.1 e.2.2) - g.2 e.2.2 * 149796 ≤ 1048576 / y.2.1 e.2.2 + 149796 := fun q => by
                    have h1 : (c.2.1 e.2.2 + if (c.1.toSF.tick dW).1 = e.2.2 then 1 else 0) * (1048576 / (c.1.toSF.tick dW).2.wt (10 + e.2.2)) - (c.2.2.1 e.2.2 + if (c.1.toSF.tick dW).1 = 0 then 1 else 0) * 149796 ≤ 1048576 / (c.1.toSF.tick dW).2.wt (10 + e.2.2) + 149796 := qK.check (x := e.2.2) (by omega) (by omega) q
                    rw [q3, ← hWx, ← hg1, ← hg2] at h1
                    exact h1
                  refine XC.seq ?_
                  refine XC.region ?_
                  refine XO.v (V.move rfl) rfl ?_
                  refine XO.v (V.indexArr rfl rfl ar_49 (by omega)) rfl ?_
                  refine XO.v (V.load rfl (inXM (.there (.there .here))) (encI.ld _ _ _ (by omega)) sc_3) rfl ?_
                  refine XO.v (V.quo rfl rfl (by first | decide | omega) _ (quo_nn (by omega) (by omega) (by omega))) rfl ?_
                  refine XO.v (V.assign rfl) rfl ?_
                  refine XO.nil ?_
                  refine XE.next ?_
                  refine XC.keep [(1, _), (5, _), (6, _), (7, _), (8, _), (9, _), (10, _), (12, _), (13, _), (14, _), (15, _), (16, _), (17, _)] (Sub.cons rfl (Sub.cons rfl (Sub.cons rfl (Sub.cons rfl (Sub.cons rfl (Sub.cons rfl (Sub.cons rfl (Sub.cons rfl (Sub.cons rfl (Sub.cons rfl (Sub.cons rfl (Sub.cons rfl (Sub.cons rfl (Sub.nil _)))))))))))))) ?_
                  refine XC.seq ?_
                  refine XC.regionQ mixed (f := 18) (l := #[false, false, false, false, false, false, false, false, false, false, false, false, false, false, false, false, false, false]) rfl rfl XM.drawn' ?_
                  refine XQ.pv (i := 0) (l' := #[true, false, false, false, false, false, false, false, false, false, false, false, false, false, false, false, false, false]) rfl (by kernel_rfl) rfl (V.move rfl) rfl rfl ?_
                  refine XQ.pv (i := 1) (l' := #[true, true, false, false, false, false, false, false, false, false, false, false, false, false, false, false, false, false]) rfl (by kernel_rfl) rfl (V.indexArr rfl rfl ar_50 (by omega)) rfl rfl ?_
                  refine XQ.load (i := 2) (l' := #[true, true, true, false, false, false, false, false, false, false, false, false, false, false, false, false, false, false]) (.cells _ _ _ _) [] rfl (by kernel_rfl) rfl (.there (.there (.there (.there (.there .here))))) (V.load rfl inEnt (encBl.ld _ _ _ (by omega)) sc_4) rfl (by kernel_rfl) rfl ?_
                  refine XQ.pv (i := 3) (l' := #[true, true, true, true, false, false, false, false, false, false, false, false, false, false, false, false, false, false]) rfl (by kernel_rfl) rfl (V.move rfl) rfl rfl ?_
                  refine XQ.split (d := 160) rfl (fun h24 => ?_) (fun h24 => ?_)
                  · try simp only [sb] at h24
                    refine XQ.pvG (i := 4) (l' := #[true, true, true, true, true, false, false, false, false, false, false, false, false, false, false, false, false, false]) rfl rfl rfl (by kernel_rfl) rfl (V.move rfl) rfl rfl ?_
                    refine XQ.pvG (i := 5) (l' := #[true, true, true, true, true, true, false, false, false, false, false, false, false, false, false, false, false, false]) rfl rfl rfl (by kernel_rfl) rfl (V.indexArr rfl rfl ar_49 (by omega)) rfl rfl ?_
                    refine XQ.loadG (i := 6) (l' := #[true, true, true, true, true, true, true, false, false, false, false, false, false, false, false, false, false, false]) (.cells _ _ _ _) [] rfl rfl rfl (by kernel_rfl) rfl (.there (.there (.there (.there .here)))) (V.load rfl inEnt (encI.ld _ _ _ (by omega)) sc_3) rfl (by kernel_rfl) rfl ?_
                    refine XQ.pvG (i := 7) (l' := #[true, true, true, true, true, true, true, true, false, false, false, false, false, false, false, false, false, false]) rfl rfl rfl (by kernel_rfl) rfl (V.move rfl) rfl rfl ?_
                    refine XQ.pvG (i := 8) (l' := #[true, true, true, true, true, true, true, true, true, false, false, false, false, false, false, false, false, false]) rfl rfl rfl (by kernel_rfl) rfl (V.mul rfl rfl _ (SF.i64_le (a := g.1 e.2.2 * (1048576 / y.2.1 e.2.2)) hP.1 (by omega))) rfl rfl ?_
                    refine XQ.pvG (i := 9) (l' := #[true, true, true, true, true, true, true, true, true, true, false, false, false, false, false, false, false, false]) rfl rfl rfl (by kernel_rfl) rfl (V.move rfl) rfl rfl ?_
                    refine XQ.pvG (i := 10) (l' := #[true, true, true, true, true, true, true, true, true, true, true, false, false, false, false, false, false, false]) rfl rfl rfl (by kernel_rfl) rfl (V.indexArr rfl rfl ar_49 (by omega)) rfl rfl ?_
                    refine XQ.loadG (i := 11) (l' := #[true, true, true, true, true, true, true, true, true, true, true, true, false, false, false, false, false, false]) (.cells _ _ _ _) [] rfl rfl rfl (by kernel_rfl) rfl (.there (.there (.there .here))) (V.load rfl inEnt (encI.ld _ _ _ (by omega)) sc_3) rfl (by kernel_rfl) rfl ?_
                    refine XQ.pvG (i := 12) (l' := #[true, true, true, true, true, true, true, true, true, true, true, true, true, false, false, false, false, false]) rfl rfl rfl (by kernel_rfl) rfl (V.mul rfl rfl _ (IntWalk.i64_in _ (by omega))) rfl rfl ?_
                    refine XQ.pvG (i := 13) (l' := #[true, true, true, true, true, true, true, true, true, true, true, true, true, true, false, false, false, false]) rfl rfl rfl (by kernel_rfl) rfl (V.sub rfl rfl _ (IntWalk.i64_in _ (by omega))) rfl rfl ?_
                    refine XQ.pvG (i := 14) (l' := #[true, true, true, true, true, true, true, true, true, true, true, true, true, true, true, false, false, false]) rfl rfl rfl (by kernel_rfl) rfl (V.move rfl) rfl rfl ?_
                    refine XQ.pvG (i := 15) (l' := #[true, true, true, true, true, true, true, true, true, true, true, true, true, true, true, true, false, false]) rfl rfl rfl (by kernel_rfl) rfl (V.add rfl rfl _ (IntWalk.i64_in _ (by omega))) rfl rfl ?_
                    refine XQ.pvG (i := 16) (l' := #[true, true, true, true, true, true, true, true, true, true, true, true, true, true, true, true, true, false]) rfl rfl rfl (by kernel_rfl) rfl (V.cmp rfl rfl rfl) rfl rfl ?_
                    refine XQ.pv (i := 17) (l' := #[true, true, true, true, true, true, true, true, true, true, true, true, true, true, true, true, true, true]) rfl (by kernel_rfl) rfl (V.pick rfl rfl rfl rfl) rfl rfl ?_
                    refine XQ.done (by kernel_rfl) ?_
                    refine XE.next ?_
                    refine XC.keep [(1, _), (5, _), (6, _), (7, _), (8, _), (9, _), (10, _), (12, _), (13, _), (14, _), (15, _), (16, _), (174, _)] (Sub.cons rfl (Sub.cons rfl (Sub.cons rfl (Sub.cons rfl (Sub.cons rfl (Sub.cons rfl (Sub.cons rfl (Sub.cons rfl (Sub.cons rfl (Sub.cons rfl (Sub.cons rfl (Sub.cons rfl (Sub.cons rfl (Sub.nil _)))))))))))))) ?_
                    refine XC.condFP rfl (by have := hchk (by assumption); omega) ?_
                    refine XC.skip ?_
                    refine XE.blockNormal ?_
                    refine XE.next ?_
                    refine XC.keep [(1, _), (5, _), (6, _), (7, _), (8, _), (9, _), (10, _), (12, _), (13, _), (14, _), (15, _), (16, _)] (Sub.cons rfl (Sub.cons rfl (Sub.cons rfl (Sub.cons rfl (Sub.cons rfl (Sub.cons rfl (Sub.cons rfl (Sub.cons rfl (Sub.cons rfl (Sub.cons rfl (Sub.cons rfl (Sub.cons rfl (Sub.nil _))))))))))))) ?_
                    refine XC.region ?_
                    refine XO.v (V.move rfl) rfl ?_
                    refine XO.v (V.add rfl rfl _ (IntWalk.i64_in _ (by omega))) rfl ?_
                    refine XO.v (V.assign rfl) rfl ?_
                    refine XO.nil ?_
                    refine XE.again ((g.1, g.2, e.2.2 + 1)) ?_ ?_ (Sub.cons rfl (Sub.cons rfl (Sub.cons rfl (Sub.cons rfl (Sub.cons rfl (Sub.cons rfl (Sub.cons rfl (Sub.cons rfl (Sub.cons rfl (Sub.cons rfl (Sub.cons rfl (Sub.cons rfl (Sub.nil _))))))))))))) (fun _ hw => XM.pick (.cons .here (.cons .here (.cons .here (.cons .here (.cons .here (.cons .here (.cons .here (.cons .here .nil)))))))) hw)
                    · skip
                      (simp; omega)
                    · skip
                      refine ⟨by simp; omega, fun j => ⟨fun a b => ?_, fun a => ?_⟩⟩
                      · have a2 : j < e.2.2 + 1 := a
                        by_cases c9 : j = e.2.2
                        · subst c9; exact ⟨hg1, hg2⟩
                        · obtain ⟨r1, r2⟩ := hg j c9
                          show g.1 j = _ ∧ g.2 j = _
                          rw [r1, r2]; exact (he j).1 (by omega) b
                      · have a2 : e.2.2 + 1 ≤ j := a
                        obtain ⟨r1, r2⟩ := hg j (by omega)
                        show g.1 j = _ ∧ g.2 j = _
                        rw [r1, r2]; exact (he j).2 (by omega)
                  · try simp only [sb] at h24
                    refine XQ.skip (i := 4) (l' := #[true, true, true, true, true, false, false, false, false, false, false, false, false, false, false, false, false, false]) rfl rfl rfl rfl rfl (by kernel_rfl) rfl rfl rfl ?_
                    refine XQ.skip (i := 5) (l' := #[true, true, true, true, true, true, false, false, false, false, false, false, false, false, false, false, false, false]) rfl rfl rfl rfl rfl (by kernel_rfl) rfl rfl rfl ?_
                    refine XQ.skip (i := 6) (l' := #[true, true, true, true, true, true, true, false, false, false, false, false, false, false, false, false, false, false]) rfl rfl rfl rfl rfl (by kernel_rfl) rfl rfl rfl ?_
                    refine XQ.skip (i := 7) (l' := #[true, true, true, true, true, true, true, true, false, false, false, false, false, false, false, false, false, false]) rfl rfl rfl rfl rfl (by kernel_rfl) rfl rfl rfl ?_
                    refine XQ.skip (i := 8) (l' := #[true, true, true, true, true, true, true, true, true, false, false, false, false, false, false, false, false, false]) rfl rfl rfl rfl rfl (by kernel_rfl) rfl rfl rfl ?_
                    refine XQ.skip (i := 9) (l' := #[true, true, true, true, true, true, true, true, true, true, false, false, false, false, false, false, false, false]) rfl rfl rfl rfl rfl (by kernel_rfl) rfl rfl rfl ?_
                    refine XQ.skip (i := 10) (l' := #[true, true, true, true, true, true, true, true, true, true, true, false, false, false, false, false, false, false]) rfl rfl rfl rfl rfl (by kernel_rfl) rfl rfl rfl ?_
                    refine XQ.skip (i := 11) (l' := #[true, true, true, true, true, true, true, true, true, true, true, true, false, false, false, false, false, false]) rfl rfl rfl rfl rfl (by kernel_rfl) rfl rfl rfl ?_
                    refine XQ.skip (i := 12) (l' := #[true, true, true, true, true, true, true, true, true, true, true, true, true, false, false, false, false, false]) rfl rfl rfl rfl rfl (by kernel_rfl) rfl rfl rfl ?_
                    refine XQ.skip (i := 13) (l' := #[true, true, true, true, true, true, true, true, true, true, true, true, true, true, false, false, false, false]) rfl rfl rfl rfl rfl (by kernel_rfl) rfl rfl rfl ?_
                    refine XQ.skip (i := 14) (l' := #[true, true, true, true, true, true, true, true, true, true, true, true, true, true, true, false, false, false]) rfl rfl rfl rfl rfl (by kernel_rfl) rfl rfl rfl ?_
                    refine XQ.skip (i := 15) (l' := #[true, true, true, true, true, true, true, true, true, true, true, true, true, true, true, true, false, false]) rfl rfl rfl rfl rfl (by kernel_rfl) rfl rfl rfl ?_
                    refine XQ.skip (i := 16) (l' := #[true, true, true, true, true, true, true, true, true, true, true, true, true, true, true, true, true, false]) rfl rfl rfl rfl rfl (by kernel_rfl) rfl rfl rfl ?_
                    refine XQ.pv (i := 17) (l' := #[true, true, true, true, true, true, true, true, true, true, true, true, true, true, true, true, true, true]) rfl (by kernel_rfl) rfl (V.pick rfl rfl rfl rfl) rfl rfl ?_
                    refine XQ.done (by kernel_rfl) ?_
                    refine XE.next ?_
                    refine XC.keep [(1, _), (5, _), (6, _), (7, _), (8, _), (9, _), (10, _), (12, _), (13, _), (14, _), (15, _), (16, _), (174, _)] (Sub.cons rfl (Sub.cons rfl (Sub.cons rfl (Sub.cons rfl (Sub.cons rfl (Sub.cons rfl (Sub.cons rfl (Sub.cons rfl (Sub.cons rfl (Sub.cons rfl (Sub.cons rfl (Sub.cons rfl (Sub.cons rfl (Sub.nil _)))))))))))))) ?_
                    refine XC.condF rfl rfl ?_
                    refine XC.skip ?_
                    refine XE.blockNormal ?_
                    refine XE.next ?_
                    refine XC.keep [(1, _), (5, _), (6, _), (7, _), (8, _), (9, _), (10, _), (12, _), (13, _), (14, _), (15, _), (16, _)] (Sub.cons rfl (Sub.cons rfl (Sub.cons rfl (Sub.cons rfl (Sub.cons rfl (Sub.cons rfl (Sub.cons rfl (Sub.cons rfl (Sub.cons rfl (Sub.cons rfl (Sub.cons rfl (Sub.cons rfl (Sub.nil _))))))))))))) ?_
                    refine XC.region ?_
                    refine XO.v (V.move rfl) rfl ?_
                    refine XO.v (V.add rfl rfl _ (IntWalk.i64_in _ (by omega))) rfl ?_
                    refine XO.v (V.assign rfl) rfl ?_
                    refine XO.nil ?_
                    refine XE.again ((g.1, g.2, e.2.2 + 1)) ?_ ?_ (Sub.cons rfl (Sub.cons rfl (Sub.cons rfl (Sub.cons rfl (Sub.cons rfl (Sub.cons rfl (Sub.cons rfl (Sub.cons rfl (Sub.cons rfl (Sub.cons rfl (Sub.cons rfl (Sub.cons rfl (Sub.nil _))))))))))))) (fun _ hw => XM.pick (.cons .here (.cons .here (.cons .here (.cons .here (.cons .here (.cons .here (.cons .here (.cons .here .nil)))))))) hw)
                    · skip
                      (simp; omega)
                    · skip
                      refine ⟨by simp; omega, fun j => ⟨fun a b => ?_, fun a => ?_⟩⟩
                      · have a2 : j < e.2.2 + 1 := a
                        by_cases c9 : j = e.2.2
                        · subst c9; exact ⟨hg1, hg2⟩
                        · obtain ⟨r1, r2⟩ := hg j c9
                          show g.1 j = _ ∧ g.2 j = _
                          rw [r1, r2]; exact (he j).1 (by omega) b
                      · have a2 : e.2.2 + 1 ≤ j := a
                        obtain ⟨r1, r2⟩ := hg j (by omega)
                        show g.1 j = _ ∧ g.2 j = _
                        rw [r1, r2]; exact (he j).2 (by omega)
              · skip
                refine XC.exit ?_
                refine XE.thenExit ?_
                refine XE.thenExit ?_
                refine XE.blockExit ?_
                refine XE.blockNormal ?_
                refine XE.next ?_
                refine XC.keep [(1, _), (5, _), (6, _), (7, _), (8, _), (9, _), (10, _), (12, _), (13, _), (14, _)] (Sub.cons rfl (Sub.cons rfl (Sub.cons rfl (Sub.cons rfl (Sub.cons rfl (Sub.cons rfl (Sub.cons rfl (Sub.cons rfl (Sub.cons rfl (Sub.cons rfl (Sub.nil _))))))))))) ?_
                refine XC.region ?_
                refine XO.v (V.move rfl) rfl ?_
                refine XO.v (V.add rfl rfl _ (IntWalk.i64_in _ (by omega))) rfl ?_
                refine XO.v (V.assign rfl) rfl ?_
                refine XO.nil ?_
                refine XE.again ((t, e.1, e.2.1, c.2.2.2 + 1)) ?_ ?_ (Sub.cons rfl (Sub.cons rfl (Sub.cons rfl (Sub.cons rfl (Sub.cons rfl (Sub.cons rfl (Sub.cons rfl (Sub.cons rfl (Sub.cons rfl (Sub.cons rfl (Sub.nil _))))))))))) (fun _ hw => XM.pick (.cons .here (.cons .here (.cons .here (.cons .here (.cons .here (.cons .here (.cons .here (.cons .here .nil)))))))) hw)
                · skip
                  (simp; omega)
                · skip
                  have et : t.toSF = (c.1.toSF.tick dW).2 := tl
                  refine ⟨tR, ?_, fun x a b => ?_, by simp; omega, by simp; omega⟩
                  · show SF.WK t.toSF _ e.1 e.2.1 _ (40 * z.2.2.2.2 + (c.2.2.2 + 1))
                    rw [et, show 40 * z.2.2.2.2 + (c.2.2.2 + 1) = 40 * z.2.2.2.2 + c.2.2.2 + 1 by omega]
                    exact qK.ext (fun j a b => (he j).1 (by omega) a)
                  · show y.2.1 x = t.toSF.wt (10 + x)
                    rw [et, q3]; exact cW x a b
          · skip
            refine XC.exit ?_
            refine XE.thenExit ?_
            refine XE.thenExit ?_
            refine XE.blockExit ?_
            refine XE.blockNormal ?_
            refine XE.next ?_
            refine XC.keep [(1, _), (5, _), (6, _), (7, _), (8, _), (9, _), (10, _), (12, _)] (Sub.cons rfl (Sub.cons rfl (Sub.cons rfl (Sub.cons rfl (Sub.cons rfl (Sub.cons rfl (Sub.cons rfl (Sub.cons rfl (Sub.nil _))))))))) ?_
            refine XC.region ?_
            refine XO.v (V.move rfl) rfl ?_
            refine XO.v (V.add rfl rfl _ (IntWalk.i64_in _ (by omega))) rfl ?_
            refine XO.v (V.assign rfl) rfl ?_
            refine XO.nil ?_
            refine XE.again ((c.1, c.2.1, c.2.2.1, z.2.2.2.1, z.2.2.2.2 + 1)) ?_ ?_ (Sub.cons rfl (Sub.cons rfl (Sub.cons rfl (Sub.cons rfl (Sub.cons rfl (Sub.cons rfl (Sub.cons rfl (Sub.cons rfl (Sub.nil _))))))))) (fun _ hw => XM.pick (.cons .here (.cons .here (.cons .here (.cons .here (.cons .here (.cons .here (.cons (.there .here) .nil))))))) hw)
            · skip
              (simp; omega)
            · skip
              exact ⟨cR, cK.more (show 40 * z.2.2.2.2 + c.2.2.2 ≤ 40 * (z.2.2.2.2 + 1) by omega), cW, by simp; omega, by simp; omega⟩
      · skip
        refine XC.exit ?_
        refine XE.thenExit ?_
        refine XE.thenExit ?_
        refine XE.blockExit ?_
        refine XE.next ?_
        refine XC.keep [] (Sub.nil _) ?_
        refine XC.seq ?_
        refine XC.region ?_
        refine XO.v (V.assign rfl) rfl ?_
        refine XO.nil ?_
        refine XE.next ?_
        refine XC.keep [(4, _)] (Sub.cons rfl (Sub.nil _)) ?_
        refine XC.ret ?_
        refine XE.ret1 rfl rfl (post_of .nil rfl ?_)
        exact ⟨rfl, rfl⟩
set_option maxRecDepth 10000 in
set_option maxHeartbeats 4000000 in
theorem wake_nn (p1 : Option Addr) (c1 : Nat) (pl : Option Addr) (cap : Nat) : Spec Try.prog 4 [.slice p1 0 c1, .slice pl 0 cap]
    []
    (fun v H1 => v = .bool true ∧ H1 = []) := by
  refine Spec.intro Try.func4 rfl rfl ?_
  intro W
  refine XC.seq ?_
  refine XC.region ?_
  refine XO.v (V.assign rfl) rfl ?_
  refine XO.nil ?_
  refine XE.next ?_
  refine XC.keep [(0, _), (1, _)] (Sub.cons rfl (Sub.cons rfl (Sub.nil _))) ?_
  refine XC.seq ?_
  refine XC.region ?_
  refine XO.call rfl (f_New) .nil cl_9 rfl ?_
  rintro _ _ ⟨bs, rfl, t0, t0l, t0R, rfl⟩
  refine XO.v (V.assign rfl) rfl ?_
  refine XO.nil ?_
  refine XE.next ?_
  refine XC.keep [(0, _), (1, _), (5, _)] (Sub.cons rfl (Sub.cons rfl (Sub.cons rfl (Sub.nil _)))) ?_
  refine XC.seq ?_
  refine XC.seq ?_
  refine XC.region ?_
  have hO0 : t0.toSF.Ok dW 1 0 := by rw [t0l]; exact SF.init_okd SF.dW_le
  refine XO.v (V.move rfl) rfl ?_
  refine XO.v (V.ptrNilP rfl Try.underlying25 rfl) rfl ?_
  refine XO.v (V.move rfl) rfl ?_
  refine XO.guardRun rfl rfl rfl ?_
  refine XO.v (V.move rfl) rfl ?_
  refine XO.guardRun rfl rfl rfl ?_
  refine XO.call rfl (f_AddTask _ _ t0 dW hO0.inv t0R _ _ _) (.cons .here (.cons .here .nil)) cl_16 rfl ?_
  rintro _ _ ⟨rfl, t1, t1l, t1R, rfl⟩
  have e1 : t1.toSF = W1 := by rw [t1l, t0l]; rfl
  have hA : t0.toSF.addTE 0 0 7 = 0 := by rw [t0l]; exact wA
  have hO1 : t1.toSF.TW 1 0 := by rw [e1]; exact W1_tw
  have hB : t1.toSF.tkE 0 = 0 := by rw [e1]; exact wB
  refine XO.guardRun rfl rfl rfl ?_
  refine XO.v (V.errNil rfl Try.underlying40 rfl) rfl ?_
  refine XO.v (V.pick rfl rfl rfl rfl) rfl ?_
  refine XO.v (V.move rfl) rfl ?_
  refine XO.splitF (d := 26) rfl (by simp [hA]) ?_
  refine XO.guardRun rfl rfl rfl ?_
  refine XO.v (V.move rfl) rfl ?_
  refine XO.guardRun rfl rfl rfl ?_
  refine XO.call rfl (f_wake _ _ t1 dW hO1.ok.inv t1R _ _) (.cons .here (.cons .here .nil)) cl_17 rfl ?_
  rintro _ _ ⟨rfl, t2, t2l, t2R, rfl⟩
  have e2 : t2.toSF = W2 := by rw [t2l, e1]; rfl
  refine XO.guardRun rfl rfl rfl ?_
  refine XO.v (V.errNil rfl Try.underlying40 rfl) rfl ?_
  refine XO.v (V.pick rfl rfl rfl rfl) rfl ?_
  refine XO.nil ?_
  refine XE.next ?_
  refine XC.keep [(0, _), (1, _), (5, _), (30, _)] (Sub.cons rfl (Sub.cons rfl (Sub.cons rfl (Sub.cons rfl (Sub.nil _))))) ?_
  refine XC.condFP rfl (by simp [hB]) ?_
  refine XC.skip ?_
  refine XE.next ?_
  refine XC.keep [(0, _), (1, _), (5, _)] (Sub.cons rfl (Sub.cons rfl (Sub.cons rfl (Sub.nil _)))) ?_
  refine XC.seq ?_
  refine XC.seq ?_
  refine XC.region ?_
  refine XO.v (V.move rfl) rfl ?_
  refine XO.v (V.lenSl rfl Try.underlying46) rfl ?_
  refine XO.v (V.cmp rfl rfl rfl) rfl ?_
  refine XO.v (V.move rfl) rfl ?_
  refine XO.splitP (d := 34) rfl (fun h2 => ?_) (fun h2 => ?_)
  · skip
    refine XO.guardSkip rfl rfl rfl rfl rfl ?_
    refine XO.guardSkip rfl rfl rfl rfl rfl ?_
    refine XO.guardSkip rfl rfl rfl rfl rfl ?_
    refine XO.v (V.pick rfl rfl rfl rfl) rfl ?_
    refine XO.nil ?_
    refine XE.next ?_
    refine XC.keep [(0, _), (1, _), (5, _), (38, _)] (Sub.cons rfl (Sub.cons rfl (Sub.cons rfl (Sub.cons rfl (Sub.nil _))))) ?_
    refine XC.condT rfl rfl ?_
    refine XC.seq ?_
    refine XC.region ?_
    refine XO.v (V.assign rfl) rfl ?_
    refine XO.nil ?_
    refine XE.next ?_
    refine XC.keep [(4, _)] (Sub.cons rfl (Sub.nil _)) ?_
    refine XC.ret ?_
    refine XE.thenRet ?_
    refine XE.ret1 rfl rfl (post_of .nil rfl ?_)
    exact ⟨rfl, rfl⟩
  · skip
    refine XO.guardRun rfl rfl rfl ?_
    refine XO.v (V.move rfl) rfl ?_
    refine XO.guardRun rfl rfl rfl ?_
    refine XO.call rfl (light_any _ _ _ _) .nil cl_8 rfl ?_
    rintro _ _ ⟨rfl, rfl⟩
    refine XO.guardRun rfl rfl rfl ?_
    refine XO.v (V.notP rfl) rfl ?_
    refine XO.v (V.pick rfl rfl rfl rfl) rfl ?_
    refine XO.nil ?_
    refine XE.next ?_
    refine XC.keep [(0, _), (1, _), (5, _), (38, _)] (Sub.cons rfl (Sub.cons rfl (Sub.cons rfl (Sub.cons rfl (Sub.nil _))))) ?_
    refine XC.condP rfl (fun h3 => ?_) (fun h3 => ?_)
    · skip
      refine XC.seq ?_
      refine XC.region ?_
      refine XO.v (V.assign rfl) rfl ?_
      refine XO.nil ?_
      refine XE.next ?_
      refine XC.keep [(4, _)] (Sub.cons rfl (Sub.nil _)) ?_
      refine XC.ret ?_
      refine XE.thenRet ?_
      refine XE.ret1 rfl rfl (post_of .nil rfl ?_)
      exact ⟨rfl, rfl⟩
    · skip
      refine XC.skip ?_
      refine XE.next ?_
      refine XC.keep [(0, _), (1, _), (5, _)] (Sub.cons rfl (Sub.cons rfl (Sub.cons rfl (Sub.nil _)))) ?_
      refine XC.seq ?_
      refine XC.region ?_
      refine XO.allocZ (z := .agg (arrV (fun _ => 0) 20)) (m := 20) (C := encI (fun _ => 0) 20) (by kernel_rfl) (arrV_size (fun _ => 0) 20) (encI.box (fun _ => 0) 20) rfl ?_
      intro bw
      refine XO.allocZ (z := .agg (arrV (fun _ => 0) 20)) (m := 20) (C := encI (fun _ => 0) 20) (by kernel_rfl) (arrV_size (fun _ => 0) 20) (encI.box (fun _ => 0) 20) rfl ?_
      intro br
      refine XO.allocZ (z := .agg (arrV (fun _ => 0) 20)) (m := 20) (C := encI (fun _ => 0) 20) (by kernel_rfl) (arrV_size (fun _ => 0) 20) (encI.box (fun _ => 0) 20) rfl ?_
      intro bm
      refine XO.nil ?_
      refine XE.next ?_
      refine XC.keep [(0, _), (1, _), (5, _), (6, _), (7, _), (8, _)] (Sub.cons rfl (Sub.cons rfl (Sub.cons rfl (Sub.cons rfl (Sub.cons rfl (Sub.cons rfl (Sub.nil _))))))) ?_
      refine XC.seq ?_
      refine XC.region ?_
      refine XO.allocZ (z := .agg (arrB (fun _ => false) 20)) (m := 20) (C := encBl (fun _ => false) 20) (by kernel_rfl) (arrB_size (fun _ => false) 20) (encBl.box (fun _ => false) 20) rfl ?_
      intro bk
      refine XO.nil ?_
      refine XE.next ?_
      refine XC.keep [(0, _), (1, _), (5, _), (6, _), (7, _), (8, _), (9, _)] (Sub.cons rfl (Sub.cons rfl (Sub.cons rfl (Sub.cons rfl (Sub.cons rfl (Sub.cons rfl (Sub.cons rfl (Sub.nil _)))))))) ?_
      refine XC.seq ?_
      refine XC.region ?_
      refine XO.v (V.indexArr rfl rfl ar_49 (by omega)) rfl ?_
      refine XO.store rfl rfl (.there (.there (.there .here))) (encI.st _ _ _ _ (by omega)) rfl sz_3_1 ?_
      refine XO.nil ?_
      refine XE.next ?_
      refine XC.keep [(0, _), (1, _), (5, _), (6, _), (7, _), (8, _), (9, _)] (Sub.cons rfl (Sub.cons rfl (Sub.cons rfl (Sub.cons rfl (Sub.cons rfl (Sub.cons rfl (Sub.cons rfl (Sub.nil _)))))))) ?_
      refine XC.seq ?_
      refine XC.region ?_
      refine XO.v (V.assign rfl) rfl ?_
      refine XO.nil ?_
      refine XE.next ?_
      refine XC.keep [(0, _), (1, _), (5, _), (6, _), (7, _), (8, _), (9, _), (10, _)] (Sub.cons rfl (Sub.cons rfl (Sub.cons rfl (Sub.cons rfl (Sub.cons rfl (Sub.cons rfl (Sub.cons rfl (Sub.cons rfl (Sub.nil _))))))))) ?_
      refine XC.seq ?_
      refine XC.seq ?_
      refine XC.region ?_
      refine XO.v (V.assign rfl) rfl ?_
      refine XO.nil ?_
      refine XE.next ?_
      refine XC.keep [(0, _), (1, _), (5, _), (6, _), (7, _), (8, _), (9, _), (10, _), (11, _)] (Sub.cons rfl (Sub.cons rfl (Sub.cons rfl (Sub.cons rfl (Sub.cons rfl (Sub.cons rfl (Sub.cons rfl (Sub.cons rfl (Sub.cons rfl (Sub.nil _)))))))))) ?_
      refine XC.block ?_
      refine XC.loop (σ := SC × (Int → Int) × Int × Int) (fun y => ((0 : Nat) - y.2.2.2).toNat) (fun y => y.1.Rep ∧ y.1.toSF.TW y.2.2.1 0 ∧ (1 ≤ y.2.2.1 ∧ y.2.2.1 ≤ y.2.2.2 + 1 ∧ 0 ≤ y.2.2.2 ∧ y.2.2.2 ≤ (0 : Nat)) ∧ y.1.toSF.awake 10 = true ∧ y.1.toSF.wt 10 = 7 ∧ ∀ x, 1 ≤ x → x < y.2.2.1 → y.2.1 x = y.1.toSF.wt (10 + x) ∧ y.1.toSF.awake (10 + x) = false) (fun y => [(10, .int .i64 y.2.2.1), (11, .int .i64 y.2.2.2), (0, .slice p1 0 c1), (1, .slice pl 0 cap), (5, ptr bs 0 0), (6, ptr bw 0 0), (7, ptr br 0 0), (8, ptr bm 0 0), (9, ptr bk 0 0)]) (fun y => XM W (foot []) [.cells bs 0 2281 (encS y.1), .fam fam30 (SC.rows 86 y.1), .cells bw 0 20 (encI y.2.1 20), .cells br 0 20 (encI (fun _ => 0) 20), .cells bm 0 20 (encI (fun _ => 0) 20), .cells bk 0 20 (encBl (fun _ => false) 20)]) ((t2, fset (fun _ => 0) 0 7, 1, 0)) ?_ (Sub.cons rfl (Sub.cons rfl (Sub.cons rfl (Sub.cons rfl (Sub.cons rfl (Sub.cons rfl (Sub.cons rfl (Sub.cons rfl (Sub.cons rfl (Sub.nil _)))))))))) (fun _ hw => XM.pick (.cons (.there (.there (.there (.there .here)))) (.cons (.there (.there (.there (.there .here)))) (.cons (.there (.there (.there .here))) (.cons (.there (.there .here)) (.cons (.there .here) (.cons .here .nil)))))) hw) ?_
      · skip
        exact ⟨t2R, by show t2.toSF.TW 1 0; rw [e2]; exact W2_tw, ⟨by simp, by simp, by simp, by simp⟩, by show t2.toSF.awake 10 = true; rw [e2]; exact W2_aw, by show t2.toSF.wt 10 = 7; rw [e2]; exact W2_wt, fun x a b => by have b2 : x < 1 := b; omega⟩
      intro y hy
      obtain ⟨yR, yT, yn, ya, yw, yx⟩ := hy
      refine XC.seq ?_
      refine XC.seq ?_
      refine XC.region ?_
      refine XO.v (V.move rfl) rfl ?_
      refine XO.v (V.move rfl) rfl ?_
      refine XO.v (V.lenSl rfl Try.underlying46) rfl ?_
      refine XO.v (V.cmp rfl rfl rfl) rfl ?_
      refine XO.nil ?_
      refine XE.next ?_
      refine XC.keep [(0, _), (1, _), (5, _), (6, _), (7, _), (8, _), (9, _), (10, _), (11, _), (43, _)] (Sub.cons rfl (Sub.cons rfl (Sub.cons rfl (Sub.cons rfl (Sub.cons rfl (Sub.cons rfl (Sub.cons rfl (Sub.cons rfl (Sub.cons rfl (Sub.cons rfl (Sub.nil _))))))))))) ?_
      refine XC.condFP rfl (by simp; omega) ?_
      refine XC.exit ?_
      refine XE.thenExit ?_
      refine XE.thenExit ?_
      refine XE.blockExit ?_
      refine XE.next ?_
      refine XC.keep [(1, _), (5, _), (6, _), (7, _), (8, _), (9, _), (10, _)] (Sub.cons rfl (Sub.cons rfl (Sub.cons rfl (Sub.cons rfl (Sub.cons rfl (Sub.cons rfl (Sub.cons rfl (Sub.nil _)))))))) ?_
      refine XC.seq ?_
      refine XC.seq ?_
      refine XC.region ?_
      refine XO.v (V.assign rfl) rfl ?_
      refine XO.nil ?_
      refine XE.next ?_
      refine XC.keep [(1, _), (5, _), (6, _), (7, _), (8, _), (9, _), (10, _), (12, _)] (Sub.cons rfl (Sub.cons rfl (Sub.cons rfl (Sub.cons rfl (Sub.cons rfl (Sub.cons rfl (Sub.cons rfl (Sub.cons rfl (Sub.nil _))))))))) ?_
      refine XC.block ?_
      refine XC.loop (σ := SC × (Int → Int) × (Int → Int) × (Int → Bool) × Int) (fun z => ((0 : Nat) - z.2.2.2.2).toNat) (fun z => z.1.Rep ∧ SF.WK z.1.toSF y.2.2.1 z.2.1 z.2.2.1 z.2.2.2.1 (40 * z.2.2.2.2) ∧ (∀ x, 1 ≤ x → x < y.2.2.1 → y.2.1 x = z.1.toSF.wt (10 + x)) ∧ 0 ≤ z.2.2.2.2 ∧ z.2.2.2.2 ≤ (0 : Nat)) (fun z => [(12, .int .i64 z.2.2.2.2), (1, .slice pl 0 cap), (5, ptr bs 0 0), (6, ptr bw 0 0), (7, ptr br 0 0), (8, ptr bm 0 0), (9, ptr bk 0 0), (10, .int .i64 y.2.2.1)]) (fun z => XM W (foot []) [.cells bs 0 2281 (encS z.1), .fam fam30 (SC.rows 86 z.1), .cells bw 0 20 (encI y.2.1 20), .cells br 0 20 (encI z.2.2.1 20), .cells bm 0 20 (encI z.2.1 20), .cells bk 0 20 (encBl z.2.2.2.1 20)]) ((y.1, (fun _ => 0), (fun _ => 0), (fun _ => false), 0)) ?_ (Sub.cons rfl (Sub.cons rfl (Sub.cons rfl (Sub.cons rfl (Sub.cons rfl (Sub.cons rfl (Sub.cons rfl (Sub.cons rfl (Sub.nil _))))))))) (fun _ hw => XM.pick (.cons .here (.cons .here (.cons .here (.cons .here (.cons .here (.cons .here .nil)))))) hw) ?_
      · skip
        exact ⟨yR, SF.WK.start yT yn.1 ya yw (fun x a b => (yx x a b).2), fun x a b => (yx x a b).1, by simp, by simp⟩
      intro z hz
      obtain ⟨zR, zK, zW, zi0, zi1⟩ := hz
      refine XC.seq ?_
      refine XC.seq ?_
      refine XC.region ?_
      refine XO.v (V.move rfl) rfl ?_
      refine XO.v (V.move rfl) rfl ?_
      refine XO.v (V.lenSl rfl Try.underlying22) rfl ?_
      refine XO.v (V.cmp rfl rfl rfl) rfl ?_
      refine XO.nil ?_
      refine XE.next ?_
      refine XC.keep [(1, _), (5, _), (6, _), (7, _), (8, _), (9, _), (10, _), (12, _), (65, _)] (Sub.cons rfl (Sub.cons rfl (Sub.cons rfl (Sub.cons rfl (Sub.cons rfl (Sub.cons rfl (Sub.cons rfl (Sub.cons rfl (Sub.cons rfl (Sub.nil _)))))))))) ?_
      refine XC.condFP rfl (by simp; omega) ?_
      refine XC.exit ?_
      refine XE.thenExit ?_
      refine XE.thenExit ?_
      refine XE.blockExit ?_
      refine XE.next ?_
      refine XC.keep [] (Sub.nil _) ?_
      refine XC.seq ?_
      refine XC.region ?_
      refine XO.v (V.assign rfl) rfl ?_
      refine XO.nil ?_
      refine XE.next ?_
      refine XC.keep [(4, _)] (Sub.cons rfl (Sub.nil _)) ?_
      refine XC.ret ?_
      refine XE.ret1 rfl rfl (post_of .nil rfl ?_)
      exact ⟨rfl, rfl⟩
end Go.X
