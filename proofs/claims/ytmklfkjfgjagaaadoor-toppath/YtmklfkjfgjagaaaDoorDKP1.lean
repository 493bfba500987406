import Derived.Test.YtmklfkjfgjagaaaDoorDKLW
import Derived.Test.YtmklfkjfgjagaaaDoorKP
namespace Go.X
open Go Go.Proofs
theorem ag_38 : aggT Tryd.prog 38 = true := by kernel_rfl
theorem cl_10 : callable Tryd.prog 10 = true := by kernel_rfl
theorem cl_11 : callable Tryd.prog 11 = true := by kernel_rfl
theorem cl_12 : callable Tryd.prog 12 = true := by kernel_rfl
theorem cl_13 : callable Tryd.prog 13 = true := by kernel_rfl
theorem cl_14 : callable Tryd.prog 14 = true := by kernel_rfl
theorem cl_15 : callable Tryd.prog 15 = true := by kernel_rfl
theorem cl_16 : callable Tryd.prog 16 = true := by kernel_rfl
theorem cl_17 : callable Tryd.prog 17 = true := by kernel_rfl
theorem cl_18 : callable Tryd.prog 18 = true := by kernel_rfl
theorem cl_19 : callable Tryd.prog 19 = true := by kernel_rfl
theorem cl_23 : callable Tryd.prog 23 = true := by kernel_rfl
theorem cl_5 : callable Tryd.prog 5 = true := by kernel_rfl
theorem cl_6 : callable Tryd.prog 6 = true := by kernel_rfl
theorem cl_7 : callable Tryd.prog 7 = true := by kernel_rfl
theorem cl_8 : callable Tryd.prog 8 = true := by kernel_rfl
theorem cl_9 : callable Tryd.prog 9 = true := by kernel_rfl
theorem fo_38_0 : fieldOff Tryd.prog 38 0 = some 0 := by kernel_rfl
theorem fo_38_1 : fieldOff Tryd.prog 38 1 = some 1 := by kernel_rfl
theorem fo_38_2 : fieldOff Tryd.prog 38 2 = some 2 := by kernel_rfl
theorem fo_50_2 : fieldOff Tryd.prog 50 2 = some 2 := by kernel_rfl
theorem sz_38_8 : szOf Tryd.prog 38 = some 8 := by kernel_rfl
set_option maxRecDepth 10000 in
set_option maxHeartbeats 16000000 in
theorem path_s (bl ol len cap : Nat) (hlen : len ≤ cap) (A : Int → ActV) (hA : ∀ z : Int, 0 ≤ z → z < len → (A z).ok) (p : ByteArray) (hzp : p.size ≤ 9223372036854775807) (n : ByteArray) (hzn : n.size ≤ 9223372036854775807) : Spec Tryd.prog 4 [.slice (some ⟨bl, ol, none⟩) len cap, .string p, .string n]
    [.ro bl ol (8 * len) (encActs A)]
    (fun v H1 => v = .bool true ∧ H1 = []) := by
  obtain ⟨d1, d2, o1, o2⟩ := MTop.ok
  refine Spec.intro Tryd.func4 rfl rfl ?_
  intro W
  refine XC.seq ?_
  refine XC.region ?_
  refine XO.v (V.assign rfl) rfl ?_
  refine XO.nil ?_
  refine XE.next ?_
  refine XC.keep [(0, _), (1, _), (2, _)] (Sub.cons rfl (Sub.cons rfl (Sub.cons rfl (Sub.nil _)))) ?_
  refine XC.seq ?_
  refine XC.region ?_
  refine XO.call rfl (t_New) .nil cl_5 rfl ?_
  rintro _ _ ⟨bf, rfl, rfl⟩
  refine XO.v (V.assign rfl) rfl ?_
  refine XO.nil ?_
  refine XE.next ?_
  refine XC.keep [(0, _), (1, _), (2, _), (7, _)] (Sub.cons rfl (Sub.cons rfl (Sub.cons rfl (Sub.cons rfl (Sub.nil _))))) ?_
  refine XC.seq ?_
  refine XC.seq ?_
  refine XC.region ?_
  refine XO.v (V.move rfl) rfl ?_
  refine XO.v (V.ptrNilP rfl Tryd.underlying23 rfl) rfl ?_
  refine XO.nil ?_
  refine XE.next ?_
  refine XC.keep [(0, _), (1, _), (2, _), (7, _), (35, _)] (Sub.cons rfl (Sub.cons rfl (Sub.cons rfl (Sub.cons rfl (Sub.cons rfl (Sub.nil _)))))) ?_
  refine XC.condF rfl rfl ?_
  refine XC.skip ?_
  refine XE.next ?_
  refine XC.keep [(0, _), (1, _), (2, _), (7, _)] (Sub.cons rfl (Sub.cons rfl (Sub.cons rfl (Sub.cons rfl (Sub.nil _))))) ?_
  refine XC.seq ?_
  refine XC.region ?_
  refine XO.v (V.move rfl) rfl ?_
  refine XO.call rfl (t_Plant _ _ _ (FF.inv_void.sh (by omega))) (.cons .here (.cons .here (.cons .here (.cons .here .nil)))) cl_6 rfl ?_
  rintro _ _ ⟨s1, rfl, hs1, rfl⟩
  have e1 : s1.toFF = FF.void.plant := hs1
  have hS1 : s1.toFF.Sh := by rw [e1]; exact o1.sh (by omega)
  rw [show FF.plantE FC.void.toFF = 0 from MTop.p1]
  refine XO.v (V.move rfl) rfl ?_
  refine XO.v (V.extract rfl rfl) rfl ?_
  refine XO.v (V.extract rfl rfl) rfl ?_
  refine XO.v (V.assign rfl) rfl ?_
  refine XO.v (V.assign rfl) rfl ?_
  refine XO.nil ?_
  refine XE.next ?_
  refine XC.keep [(0, _), (1, _), (2, _), (7, _), (9, _)] (Sub.cons rfl (Sub.cons rfl (Sub.cons rfl (Sub.cons rfl (Sub.cons rfl (Sub.nil _)))))) ?_
  refine XC.seq ?_
  refine XC.region ?_
  refine XO.v (V.move rfl) rfl ?_
  refine XO.call rfl (t_Plant _ _ s1 hS1) (.cons .here (.cons .here (.cons .here (.cons .here .nil)))) cl_6 rfl ?_
  rintro _ _ ⟨s2, rfl, hs2, rfl⟩
  rw [e1] at hs2
  have e2 : s2.toFF = MTop.F2 := hs2
  have hO2 : s2.toFF.Ok d2 2 := by rw [e2]; exact o2
  have hr0 : s2.rootV 0 = 0 := by rw [e2]; exact MTop.r0.2
  rw [e1, MTop.p2]
  refine XO.v (V.move rfl) rfl ?_
  refine XO.v (V.extract rfl rfl) rfl ?_
  refine XO.v (V.extract rfl rfl) rfl ?_
  refine XO.v (V.assign rfl) rfl ?_
  refine XO.v (V.assign rfl) rfl ?_
  refine XO.nil ?_
  refine XE.next ?_
  refine XC.keep [(0, _), (1, _), (2, _), (7, _), (9, _), (11, _)] (Sub.cons rfl (Sub.cons rfl (Sub.cons rfl (Sub.cons rfl (Sub.cons rfl (Sub.cons rfl (Sub.nil _))))))) ?_
  refine XC.seq ?_
  refine XC.region ?_
  refine XO.v (V.move rfl) rfl ?_
  refine XO.call rfl (m_New _ s2 d2 2 hO2 (by omega) 0) (.cons .here (.cons .here (.cons .here (.cons .here .nil)))) cl_7 rfl ?_
  rintro _ _ (⟨n0, rfl, rfl⟩ | ⟨n0, btt, s3, rfl, hh3, p3, c3, rfl⟩)
  · skip
    exact absurd (show s2.rootE 0 = 0 by rw [e2]; exact MTop.r0.1) n0
  · skip
    rw [hr0] at hh3
    rw [hr0]
    have hO3 : s3.toFF.Ok d2 3 := by rw [hh3]; exact hO2.hold 0
    refine XO.v (V.move rfl) rfl ?_
    refine XO.v (V.extract rfl rfl) rfl ?_
    refine XO.v (V.extract rfl rfl) rfl ?_
    refine XO.v (V.assign rfl) rfl ?_
    refine XO.v (V.assign rfl) rfl ?_
    refine XO.nil ?_
    refine XE.next ?_
    refine XC.keep [(0, _), (1, _), (2, _), (7, _), (9, _), (11, _), (12, _), (13, _)] (Sub.cons rfl (Sub.cons rfl (Sub.cons rfl (Sub.cons rfl (Sub.cons rfl (Sub.cons rfl (Sub.cons rfl (Sub.cons rfl (Sub.nil _))))))))) ?_
    refine XC.seq ?_
    refine XC.seq ?_
    refine XC.region ?_
    refine XO.v (V.move rfl) rfl ?_
    refine XO.v (V.errNil rfl Tryd.underlying26 rfl) rfl ?_
    refine XO.v (V.move rfl) rfl ?_
    refine XO.splitF (d := 53) rfl (fun q => q rfl) ?_
    refine XO.guardRun rfl rfl rfl ?_
    refine XO.v (V.move rfl) rfl ?_
    refine XO.guardRun rfl rfl rfl ?_
    refine XO.v (V.errNil rfl Tryd.underlying26 rfl) rfl ?_
    refine XO.v (V.pick rfl rfl rfl rfl) rfl ?_
    refine XO.v (V.move rfl) rfl ?_
    refine XO.splitF (d := 57) rfl (fun q => q rfl) ?_
    refine XO.guardRun rfl rfl rfl ?_
    refine XO.v (V.move rfl) rfl ?_
    refine XO.guardRun rfl rfl rfl ?_
    refine XO.v (V.nilNil rfl Tryd.underlying26 rfl) rfl ?_
    refine XO.v (V.pick rfl rfl rfl rfl) rfl ?_
    refine XO.v (V.move rfl) rfl ?_
    refine XO.guardRun rfl rfl rfl ?_
    refine XO.v (V.move rfl) rfl ?_
    refine XO.guardRun rfl rfl rfl ?_
    refine XO.v (V.ptrNilP rfl Tryd.underlying29 rfl) rfl ?_
    refine XO.v (V.pick rfl rfl rfl rfl) rfl ?_
    refine XO.v (V.move rfl) rfl ?_
    refine XO.guardRun rfl rfl rfl ?_
    refine XO.v (V.move rfl) rfl ?_
    refine XO.guardRun rfl rfl rfl ?_
    refine XO.call rfl (m_Root _ _ _ _) (.cons .here .nil) cl_19 rfl ?_
    rintro _ _ ⟨rfl, rfl⟩
    refine XO.guardRun rfl rfl rfl ?_
    refine XO.v (V.build (vs := #[]) rfl (v := .agg (WH.arr WH.nil)) (fun _ => by kernel_rfl)) rfl ?_
    refine XO.guardRun rfl rfl rfl ?_
    refine XO.v (V.neW rfl rfl whEq) rfl ?_
    refine XO.v (V.pick rfl rfl rfl rfl) rfl ?_
    refine XO.nil ?_
    refine XE.next ?_
    refine XC.keep [(0, _), (1, _), (2, _), (7, _), (12, _), (70, _)] (Sub.cons rfl (Sub.cons rfl (Sub.cons rfl (Sub.cons rfl (Sub.cons rfl (Sub.cons rfl (Sub.nil _))))))) ?_
    refine XC.condFP rfl (fun h => h rfl) ?_
    refine XC.skip ?_
    refine XE.next ?_
    refine XC.keep [(0, _), (1, _), (2, _), (7, _), (12, _)] (Sub.cons rfl (Sub.cons rfl (Sub.cons rfl (Sub.cons rfl (Sub.cons rfl (Sub.nil _)))))) ?_
    refine XC.seq ?_
    refine XC.seq ?_
    refine XC.region ?_
    refine XO.v (V.move rfl) rfl ?_
    refine XO.call rfl (light_any _ _ _ _) .nil cl_8 rfl ?_
    rintro _ _ ⟨rfl, rfl⟩
    refine XO.v (V.notP rfl) rfl ?_
    refine XO.v (V.move rfl) rfl ?_
    refine XO.splitP (d := 74) rfl (fun h3 => ?_) (fun h3 => ?_)
    · skip
      refine XO.guardSkip rfl rfl rfl rfl rfl ?_
      refine XO.guardSkip rfl rfl rfl rfl rfl ?_
      refine XO.guardSkip rfl rfl rfl rfl rfl ?_
      refine XO.v (V.pick rfl rfl rfl rfl) rfl ?_
      refine XO.v (V.move rfl) rfl ?_
      refine XO.guardSkip rfl rfl rfl rfl rfl ?_
      refine XO.guardSkip rfl rfl rfl rfl rfl ?_
      refine XO.guardSkip rfl rfl rfl rfl rfl ?_
      refine XO.v (V.pick rfl rfl rfl rfl) rfl ?_
      refine XO.v (V.move rfl) rfl ?_
      refine XO.guardSkip rfl rfl rfl rfl rfl ?_
      refine XO.guardSkip rfl rfl rfl rfl rfl ?_
      refine XO.guardSkip rfl rfl rfl rfl rfl ?_
      refine XO.v (V.pick rfl rfl rfl rfl) rfl ?_
      refine XO.nil ?_
      refine XE.next ?_
      refine XC.keep [(0, _), (1, _), (2, _), (7, _), (12, _), (88, _)] (Sub.cons rfl (Sub.cons rfl (Sub.cons rfl (Sub.cons rfl (Sub.cons rfl (Sub.cons rfl (Sub.nil _))))))) ?_
      refine XC.condT rfl rfl ?_
      refine XC.seq ?_
      refine XC.region ?_
      refine XO.v (V.assign rfl) rfl ?_
      refine XO.nil ?_
      refine XE.next ?_
      refine XC.keep [(6, _)] (Sub.cons rfl (Sub.nil _)) ?_
      refine XC.ret ?_
      refine XE.thenRet ?_
      refine XE.ret1 rfl rfl (post_of .nil rfl ?_)
      exact ⟨rfl, rfl⟩
    · skip
      refine XO.guardRun rfl rfl rfl ?_
      refine XO.v (V.move rfl) rfl ?_
      refine XO.guardRun rfl rfl rfl ?_
      refine XO.callR 0 rfl (texts_any _ _ len cap hlen A hA (by omega) _) (.cons (.there (.there (.there (.there (.there (.there .here)))))) .nil) rfl cl_9 rfl ?_
      rintro _ _ ⟨⟨bt, rfl, tx⟩, rfl⟩
      refine XO.guardRun rfl rfl rfl ?_
      refine XO.v (V.not rfl) rfl ?_
      refine XO.v (V.pick rfl rfl rfl rfl) rfl ?_
      refine XO.v (V.move rfl) rfl ?_
      refine XO.split (d := 79) rfl (fun h4 => ?_) (fun h4 => ?_)
      · try simp only [sb] at h4
        refine XO.guardSkip rfl rfl rfl rfl rfl ?_
        refine XO.guardSkip rfl rfl rfl rfl rfl ?_
        refine XO.guardSkip rfl rfl rfl rfl rfl ?_
        refine XO.v (V.pick rfl rfl rfl rfl) rfl ?_
        refine XO.v (V.move rfl) rfl ?_
        refine XO.guardSkip rfl rfl rfl rfl rfl ?_
        refine XO.guardSkip rfl rfl rfl rfl rfl ?_
        refine XO.guardSkip rfl rfl rfl rfl rfl ?_
        refine XO.v (V.pick rfl rfl rfl rfl) rfl ?_
        refine XO.nil ?_
        refine XE.next ?_
        refine XC.keep [(0, _), (1, _), (2, _), (7, _), (12, _), (88, _)] (Sub.cons rfl (Sub.cons rfl (Sub.cons rfl (Sub.cons rfl (Sub.cons rfl (Sub.cons rfl (Sub.nil _))))))) ?_
        refine XC.condT rfl rfl ?_
        refine XC.seq ?_
        refine XC.region ?_
        refine XO.v (V.assign rfl) rfl ?_
        refine XO.nil ?_
        refine XE.next ?_
        refine XC.keep [(6, _)] (Sub.cons rfl (Sub.nil _)) ?_
        refine XC.ret ?_
        refine XE.thenRet ?_
        refine XE.ret1 rfl rfl (post_of .nil rfl ?_)
        exact ⟨rfl, rfl⟩
      · try simp only [sb] at h4
        have tx := tx (by simpa using h4)
        refine XO.guardRun rfl rfl rfl ?_
        refine XO.v (V.move rfl) rfl ?_
        refine XO.guardRun rfl rfl rfl ?_
        refine XO.v (V.lenStr rfl Tryd.underlying9) rfl ?_
        refine XO.guardRun rfl rfl rfl ?_
        refine XO.v (V.cmp rfl rfl rfl) rfl ?_
        refine XO.v (V.pick rfl rfl rfl rfl) rfl ?_
        refine XO.v (V.move rfl) rfl ?_
        refine XO.splitP (d := 84) rfl (fun h5 => ?_) (fun h5 => ?_)
        · skip
          refine XO.guardSkip rfl rfl rfl rfl rfl ?_
          refine XO.guardSkip rfl rfl rfl rfl rfl ?_
          refine XO.guardSkip rfl rfl rfl rfl rfl ?_
          refine XO.v (V.pick rfl rfl rfl rfl) rfl ?_
          refine XO.nil ?_
          refine XE.next ?_
          refine XC.keep [(0, _), (1, _), (2, _), (7, _), (12, _), (88, _)] (Sub.cons rfl (Sub.cons rfl (Sub.cons rfl (Sub.cons rfl (Sub.cons rfl (Sub.cons rfl (Sub.nil _))))))) ?_
          refine XC.condT rfl rfl ?_
          refine XC.seq ?_
          refine XC.region ?_
          refine XO.v (V.assign rfl) rfl ?_
          refine XO.nil ?_
          refine XE.next ?_
          refine XC.keep [(6, _)] (Sub.cons rfl (Sub.nil _)) ?_
          refine XC.ret ?_
          refine XE.thenRet ?_
          refine XE.ret1 rfl rfl (post_of .nil rfl ?_)
          exact ⟨rfl, rfl⟩
        · skip
          refine XO.guardRun rfl rfl rfl ?_
          refine XO.v (V.move rfl) rfl ?_
          refine XO.guardRun rfl rfl rfl ?_
          refine XO.v (V.lenStr rfl Tryd.underlying9) rfl ?_
          refine XO.guardRun rfl rfl rfl ?_
          refine XO.v (V.cmp rfl rfl rfl) rfl ?_
          refine XO.v (V.pick rfl rfl rfl rfl) rfl ?_
          refine XO.nil ?_
          refine XE.next ?_
          refine XC.keep [(0, _), (1, _), (2, _), (7, _), (12, _), (88, _)] (Sub.cons rfl (Sub.cons rfl (Sub.cons rfl (Sub.cons rfl (Sub.cons rfl (Sub.cons rfl (Sub.nil _))))))) ?_
          refine XC.condP rfl (fun h6 => ?_) (fun h6 => ?_)
          · skip
            refine XC.seq ?_
            refine XC.region ?_
            refine XO.v (V.assign rfl) rfl ?_
            refine XO.nil ?_
            refine XE.next ?_
            refine XC.keep [(6, _)] (Sub.cons rfl (Sub.nil _)) ?_
            refine XC.ret ?_
            refine XE.thenRet ?_
            refine XE.ret1 rfl rfl (post_of .nil rfl ?_)
            exact ⟨rfl, rfl⟩
          · skip
            have hn1 : n.size ≤ 100 := by omega
            refine XC.skip ?_
            refine XE.next ?_
            refine XC.keep [(0, _), (1, _), (2, _), (7, _), (12, _)] (Sub.cons rfl (Sub.cons rfl (Sub.cons rfl (Sub.cons rfl (Sub.cons rfl (Sub.nil _)))))) ?_
            refine XC.seq ?_
            refine XC.seq ?_
            refine XC.region ?_
            refine XO.v (V.assign rfl) rfl ?_
            refine XO.nil ?_
            refine XE.next ?_
            refine XC.keep [(0, _), (1, _), (2, _), (7, _), (12, _), (14, _)] (Sub.cons rfl (Sub.cons rfl (Sub.cons rfl (Sub.cons rfl (Sub.cons rfl (Sub.cons rfl (Sub.nil _))))))) ?_
            refine XC.block ?_
            refine XC.loop (σ := FC × TV × Int) (fun x => (len - x.2.2).toNat) (fun x => MTop.PSt x.1.toFF (16 + 14 * x.2.2) ∧ x.2.1.ok ∧ 0 ≤ x.2.2 ∧ x.2.2 ≤ len) (fun x => [(14, .int .i64 x.2.2), (0, .slice (some ⟨bl, ol, none⟩) len cap), (1, .string p), (2, .string n), (7, ptr bf 0 0), (12, ptr btt 0 0)]) (fun x => XM W (foot [.ro bl ol (8 * len) (encActs A)]) [.cells btt 0 4 (encT bf x.2.1.r (.slice x.2.1.p x.2.1.l.length x.2.1.c)), frow x.2.1.p x.2.1.cap 59 4 x.2.1.k x.2.1.C, .cells bf 0 321 (encF x.1), .fam fam40 (FC.rowsN 9 x.1), .fam fam40 (FC.rowsK 3 x.1), .ro bl ol (8 * len) (encActs A)]) ((s3, ⟨⟨0, 0⟩, [], none, 0, 0, 0, C0⟩, 0)) ?_ (Sub.cons rfl (Sub.cons rfl (Sub.cons rfl (Sub.cons rfl (Sub.cons rfl (Sub.cons rfl (Sub.nil _))))))) (fun _ hw => XM.pick (.cons (.there .here) (.cons (.there .here) (.cons (.there .here) (.cons (.there .here) (.cons (.there .here) (.cons .here .nil)))))) hw) ?_
            · skip
              exact ⟨MTop.PSt.ge ⟨d2, hO3⟩ (by simp), MTop.nil_ok' _ _, by simp, by simp⟩
            intro x hx
            obtain ⟨hst, hx, hx0, hx1⟩ := hx
            have hst_ := hst
            obtain ⟨d, hO⟩ := hst_
            have hS := hO.sh (by omega)
            refine XC.seq ?_
            refine XC.seq ?_
            refine XC.region ?_
            refine XO.v (V.move rfl) rfl ?_
            refine XO.v (V.move rfl) rfl ?_
            refine XO.v (V.lenSl rfl Tryd.underlying22) rfl ?_
            refine XO.v (V.cmp rfl rfl rfl) rfl ?_
            refine XO.nil ?_
            refine XE.next ?_
            refine XC.keep [(0, _), (1, _), (2, _), (7, _), (12, _), (14, _), (92, _)] (Sub.cons rfl (Sub.cons rfl (Sub.cons rfl (Sub.cons rfl (Sub.cons rfl (Sub.cons rfl (Sub.cons rfl (Sub.nil _)))))))) ?_
            refine XC.condP rfl (fun h7 => ?_) (fun h7 => ?_)
            · skip
              refine XC.skip ?_
              refine XE.next ?_
              refine XC.keep [(0, _), (1, _), (2, _), (7, _), (12, _), (14, _)] (Sub.cons rfl (Sub.cons rfl (Sub.cons rfl (Sub.cons rfl (Sub.cons rfl (Sub.cons rfl (Sub.nil _))))))) ?_
              refine XC.seq ?_
              refine XC.block ?_
              refine XC.seq ?_
              refine XC.region ?_
              refine XO.v (V.move rfl) rfl ?_
              refine XO.v (V.move rfl) rfl ?_
              refine XO.v (V.indexSl rfl rfl sl_22 (by omega)) rfl ?_
              refine XO.v (V.loadAggRo rfl (inXM (.there (.there (.there (.there (.there .here)))))) (acts_load A len _ (by omega)) ag_38 sz_38_8) rfl ?_
              refine XO.allocZ (z := .agg actZero) (m := 8) (C := cellsOf actZero) (by kernel_rfl) rfl (fun _ _ => rfl) rfl ?_
              intro ba
              refine XO.storeAgg rfl rfl .here (acts_store _) ⟨rfl, rfl⟩ sz_38_8 ?_
              refine XO.nil ?_
              refine XE.next ?_
              refine XC.keep [(0, _), (1, _), (2, _), (7, _), (12, _), (14, _), (15, _)] (Sub.cons rfl (Sub.cons rfl (Sub.cons rfl (Sub.cons rfl (Sub.cons rfl (Sub.cons rfl (Sub.cons rfl (Sub.nil _)))))))) ?_
              refine XC.seq ?_
              refine XC.region ?_
              have tz := tx x.2.2 (by omega) (by omega)
              have ha : (A x.2.2).s.size ≤ 60 ∧ (A x.2.2).t.size ≤ 60 := by omega
              refine XO.v (V.fieldAddr rfl fo_38_0) rfl ?_
              refine XO.v (V.load rfl (inXM .here) (encAct.ld_Kind _) sc_9) rfl ?_
              refine XO.nil ?_
              refine XE.next ?_
              refine XC.keep [(0, _), (1, _), (2, _), (7, _), (12, _), (14, _), (15, _), (100, _)] (Sub.cons rfl (Sub.cons rfl (Sub.cons rfl (Sub.cons rfl (Sub.cons rfl (Sub.cons rfl (Sub.cons rfl (Sub.cons rfl (Sub.nil _))))))))) ?_
              refine XC.block ?_
              refine XC.seq ?_
              refine XC.region ?_
              refine XO.v (V.strCmp rfl rfl rfl) rfl ?_
              refine XO.v (V.assign rfl) rfl ?_
              refine XO.nil ?_
              refine XE.next ?_
              refine XC.keep [(0, _), (1, _), (2, _), (7, _), (12, _), (14, _), (15, _), (100, _), (101, _)] (Sub.cons rfl (Sub.cons rfl (Sub.cons rfl (Sub.cons rfl (Sub.cons rfl (Sub.cons rfl (Sub.cons rfl (Sub.cons rfl (Sub.cons rfl (Sub.nil _)))))))))) ?_
              refine XC.condP rfl (fun h8 => ?_) (fun h8 => ?_)
              · skip
                refine XC.region ?_
                refine XO.v (V.move rfl) rfl ?_
                refine XO.v (V.fieldAddr rfl fo_38_1) rfl ?_
                refine XO.v (V.load rfl (inXM .here) (encAct.ld_A _) sc_3) rfl ?_
                refine XO.v (V.fieldAddr rfl fo_38_6) rfl ?_
                refine XO.v (V.load rfl (inXM .here) (encAct.ld_S _) sc_9) rfl ?_
                refine XO.v (V.fieldAddr rfl fo_38_2) rfl ?_
                refine XO.v (V.load rfl (inXM .here) (encAct.ld_B _) sc_3) rfl ?_
                refine XO.call rfl (t_Make _ _ _ hS _ _ _ (by omega)) (.cons (.there (.there (.there .here))) (.cons (.there (.there (.there .here))) (.cons (.there (.there (.there .here))) .nil))) cl_12 rfl ?_
                rintro _ _ ⟨rfl, u, hu, pu, cu, rfl⟩
                refine XO.v (V.move rfl) rfl ?_
                refine XO.v (V.extract rfl rfl) rfl ?_
                refine XO.v (V.extract rfl rfl) rfl ?_
                refine XO.nil ?_
                refine XE.blockNormal ?_
                refine XE.blockNormal ?_
                refine XE.next ?_
                refine XC.keep [(0, _), (1, _), (2, _), (7, _), (12, _), (14, _)] (Sub.cons rfl (Sub.cons rfl (Sub.cons rfl (Sub.cons rfl (Sub.cons rfl (Sub.cons rfl (Sub.nil _))))))) ?_
                refine XC.region ?_
                refine XO.v (V.move rfl) rfl ?_
                refine XO.v (V.add rfl rfl _ (IntWalk.i64_in _ (by omega))) rfl ?_
                refine XO.v (V.assign rfl) rfl ?_
                refine XO.nil ?_
                refine XE.again ((u, x.2.1, x.2.2 + 1)) ?_ ?_ (Sub.cons rfl (Sub.cons rfl (Sub.cons rfl (Sub.cons rfl (Sub.cons rfl (Sub.cons rfl (Sub.nil _))))))) (fun _ hw => XM.pick (.cons (.there (.there (.there (.there .here)))) (.cons (.there (.there (.there (.there .here)))) (.cons .here (.cons .here (.cons .here (.cons (.there .here) .nil)))))) hw)
                · skip
                  (simp; omega)
                · skip
                  exact ⟨(hst.make hu).ge (by simp; omega), hx, by simp; omega, by simp; omega⟩
              · skip
                refine XC.seq ?_
                refine XC.region ?_
                refine XO.v (V.strCmp rfl rfl rfl) rfl ?_
                refine XO.v (V.assign rfl) rfl ?_
                refine XO.nil ?_
                refine XE.next ?_
                refine XC.keep [(0, _), (1, _), (2, _), (7, _), (12, _), (14, _), (15, _), (114, _)] (Sub.cons rfl (Sub.cons rfl (Sub.cons rfl (Sub.cons rfl (Sub.cons rfl (Sub.cons rfl (Sub.cons rfl (Sub.cons rfl (Sub.nil _))))))))) ?_
                refine XC.condP rfl (fun h9 => ?_) (fun h9 => ?_)
                · skip
                  refine XC.seq ?_
                  refine XC.region ?_
                  refine XO.v (V.move rfl) rfl ?_
                  refine XO.v (V.fieldAddr rfl fo_38_6) rfl ?_
                  refine XO.v (V.load rfl (inXM .here) (encAct.ld_S _) sc_9) rfl ?_
                  refine XO.call rfl (m_Raw _ _ _ _ _ _ _ _ _ hx.v hx.m hx.le x.1 hS _ (by omega)) (.cons (.there .here) (.cons (.there .here) (.cons (.there .here) (.cons (.there .here) (.cons (.there .here) .nil))))) cl_14 rfl ?_
                  rintro _ _ ⟨rfl, rfl⟩
                  refine XO.v (V.move rfl) rfl ?_
                  refine XO.v (V.extract rfl rfl) rfl ?_
                  refine XO.v (V.extract rfl rfl) rfl ?_
                  refine XO.allocZ (z := .agg (WH.arr WH.nil)) (m := 2) (C := encW WH.nil) (by kernel_rfl) rfl (encW.box _) rfl ?_
                  intro b16
                  refine XO.storeAgg rfl rfl .here (encW.st _ _) ⟨rfl, rfl⟩ sz_42_2 ?_
                  refine XO.v (V.assign rfl) rfl ?_
                  refine XO.nil ?_
                  refine XE.next ?_
                  refine XC.keep [(0, _), (1, _), (2, _), (7, _), (12, _), (14, _), (15, _), (16, _), (17, _)] (Sub.cons rfl (Sub.cons rfl (Sub.cons rfl (Sub.cons rfl (Sub.cons rfl (Sub.cons rfl (Sub.cons rfl (Sub.cons rfl (Sub.cons rfl (Sub.nil _)))))))))) ?_
                  refine XC.seq ?_
                  refine XC.region ?_
                  refine XO.v (V.move rfl) rfl ?_
                  refine XO.v (V.fieldAddr rfl fo_38_7) rfl ?_
                  refine XO.v (V.load rfl (inXM (.there (.there (.there (.there (.there (.there .here))))))) (encAct.ld_T _) sc_9) rfl ?_
                  refine XO.call rfl (m_Walk _ _ _ _ _ _ _ _ _ hx.v hx.m hx.le x.1 hS _ (by omega)) (.cons (.there .here) (.cons (.there .here) (.cons (.there .here) (.cons (.there .here) (.cons (.there .here) .nil))))) cl_15 rfl ?_
                  rintro _ _ ⟨rfl, rfl⟩
                  refine XO.v (V.move rfl) rfl ?_
                  refine XO.v (V.extract rfl rfl) rfl ?_
                  refine XO.v (V.extract rfl rfl) rfl ?_
                  refine XO.allocZ (z := .agg (WH.arr WH.nil)) (m := 2) (C := encW WH.nil) (by kernel_rfl) rfl (encW.box _) rfl ?_
                  intro b18
                  refine XO.storeAgg rfl rfl .here (encW.st _ _) ⟨rfl, rfl⟩ sz_42_2 ?_
                  refine XO.v (V.assign rfl) rfl ?_
                  refine XO.nil ?_
                  refine XE.next ?_
                  refine XC.keep [(0, _), (1, _), (2, _), (7, _), (12, _), (14, _), (16, _), (17, _), (18, _), (19, _)] (Sub.cons rfl (Sub.cons rfl (Sub.cons rfl (Sub.cons rfl (Sub.cons rfl (Sub.cons rfl (Sub.cons rfl (Sub.cons rfl (Sub.cons rfl (Sub.cons rfl (Sub.nil _))))))))))) ?_
                  refine XC.seq ?_
                  refine XC.region ?_
                  refine XO.v (V.move rfl) rfl ?_
                  refine XO.v (V.errNil rfl Tryd.underlying26 rfl) rfl ?_
                  refine XO.v (V.move rfl) rfl ?_
                  refine XO.splitP (d := 132) rfl (fun h10 => ?_) (fun h10 => ?_)
                  · skip
                    refine XO.guardRun rfl rfl rfl ?_
                    refine XO.v (V.move rfl) rfl ?_
                    refine XO.guardRun rfl rfl rfl ?_
                    refine XO.v (V.errNil rfl Tryd.underlying26 rfl) rfl ?_
                    refine XO.v (V.pick rfl rfl rfl rfl) rfl ?_
                    refine XO.nil ?_
                    refine XE.next ?_
                    refine XC.keep [(0, _), (1, _), (2, _), (7, _), (12, _), (14, _), (16, _), (18, _), (135, _)] (Sub.cons rfl (Sub.cons rfl (Sub.cons rfl (Sub.cons rfl (Sub.cons rfl (Sub.cons rfl (Sub.cons rfl (Sub.cons rfl (Sub.cons rfl (Sub.nil _)))))))))) ?_
                    refine XC.condP rfl (fun h11 => ?_) (fun h11 => ?_)
                    · skip
                      refine XC.region ?_
                      refine XO.v (V.move rfl) rfl ?_
                      refine XO.v (V.loadAgg rfl (inXM (.there (.there (.there (.there (.there (.there .here))))))) (encW.agg _) ag_42 sz_42_2) rfl ?_
                      refine XO.v (V.loadAgg rfl (inXM .here) (encW.agg _) ag_42 sz_42_2) rfl ?_
                      refine XO.call rfl (m_Bind _ _ _ _ _ _ _ _ _ hx.v hx.m hx.le x.1 d _ hO (by omega) (rawV x.1.toFF x.2.1.l x.2.1.r (A x.2.2).s) (walkV x.1.toFF x.2.1.l x.2.1.r (A x.2.2).t)) (.cons (.there .here) (.cons (.there .here) (.cons (.there .here) (.cons (.there .here) (.cons (.there .here) .nil))))) cl_16 rfl ?_
                      rintro _ _ ⟨rfl, p3, cap3, k3, c3, C3, u, hv3, hC3, hu, pu, cu, rfl⟩
                      refine XO.nil ?_
                      refine XE.blockNormal ?_
                      refine XE.blockNormal ?_
                      refine XE.next ?_
                      refine XC.keep [(0, _), (1, _), (2, _), (7, _), (12, _), (14, _)] (Sub.cons rfl (Sub.cons rfl (Sub.cons rfl (Sub.cons rfl (Sub.cons rfl (Sub.cons rfl (Sub.nil _))))))) ?_
                      refine XC.region ?_
                      refine XO.v (V.move rfl) rfl ?_
                      refine XO.v (V.add rfl rfl _ (IntWalk.i64_in _ (by omega))) rfl ?_
                      refine XO.v (V.assign rfl) rfl ?_
                      refine XO.nil ?_
                      refine XE.again ((u, ⟨x.2.1.r, bindL x.1.toFF x.2.1.l (rawV x.1.toFF x.2.1.l x.2.1.r (A x.2.2).s) (walkV x.1.toFF x.2.1.l x.2.1.r (A x.2.2).t), p3, cap3, k3, c3, C3⟩, x.2.2 + 1)) ?_ ?_ (Sub.cons rfl (Sub.cons rfl (Sub.cons rfl (Sub.cons rfl (Sub.cons rfl (Sub.cons rfl (Sub.nil _))))))) (fun _ hw => XM.pick (.cons .here (.cons .here (.cons .here (.cons .here (.cons .here (.cons (.there (.there (.there .here))) .nil)))))) hw)
                      · skip
                        (simp; omega)
                      · skip
                        exact ⟨(hst.bind hu).ge (by simp; omega), ⟨hv3, hC3, bindL_le hx.le⟩, by simp; omega, by simp; omega⟩
                    · skip
                      refine XC.skip ?_
                      refine XE.blockNormal ?_
                      refine XE.blockNormal ?_
                      refine XE.next ?_
                      refine XC.keep [(0, _), (1, _), (2, _), (7, _), (12, _), (14, _)] (Sub.cons rfl (Sub.cons rfl (Sub.cons rfl (Sub.cons rfl (Sub.cons rfl (Sub.cons rfl (Sub.nil _))))))) ?_
                      refine XC.region ?_
                      refine XO.v (V.move rfl) rfl ?_
                      refine XO.v (V.add rfl rfl _ (IntWalk.i64_in _ (by omega))) rfl ?_
                      refine XO.v (V.assign rfl) rfl ?_
                      refine XO.nil ?_
                      refine XE.again ((x.1, x.2.1, x.2.2 + 1)) ?_ ?_ (Sub.cons rfl (Sub.cons rfl (Sub.cons rfl (Sub.cons rfl (Sub.cons rfl (Sub.cons rfl (Sub.nil _))))))) (fun _ hw => XM.pick (.cons (.there .here) (.cons (.there .here) (.cons (.there .here) (.cons (.there .here) (.cons (.there .here) (.cons (.there (.there (.there .here))) .nil)))))) hw)
                      · skip
                        (simp; omega)
                      · skip
                        exact ⟨hst.ge (by simp; omega), hx, by simp; omega, by simp; omega⟩
                  · skip
                    refine XO.guardSkip rfl rfl rfl rfl rfl ?_
                    refine XO.guardSkip rfl rfl rfl rfl rfl ?_
                    refine XO.v (V.pick rfl rfl rfl rfl) rfl ?_
                    refine XO.nil ?_
                    refine XE.next ?_
                    refine XC.keep [(0, _), (1, _), (2, _), (7, _), (12, _), (14, _), (16, _), (18, _), (135, _)] (Sub.cons rfl (Sub.cons rfl (Sub.cons rfl (Sub.cons rfl (Sub.cons rfl (Sub.cons rfl (Sub.cons rfl (Sub.cons rfl (Sub.cons rfl (Sub.nil _)))))))))) ?_
                    refine XC.condF rfl rfl ?_
                    refine XC.skip ?_
                    refine XE.blockNormal ?_
                    refine XE.blockNormal ?_
                    refine XE.next ?_
                    refine XC.keep [(0, _), (1, _), (2, _), (7, _), (12, _), (14, _)] (Sub.cons rfl (Sub.cons rfl (Sub.cons rfl (Sub.cons rfl (Sub.cons rfl (Sub.cons rfl (Sub.nil _))))))) ?_
                    refine XC.region ?_
                    refine XO.v (V.move rfl) rfl ?_
                    refine XO.v (V.add rfl rfl _ (IntWalk.i64_in _ (by omega))) rfl ?_
                    refine XO.v (V.assign rfl) rfl ?_
                    refine XO.nil ?_
                    refine XE.again ((x.1, x.2.1, x.2.2 + 1)) ?_ ?_ (Sub.cons rfl (Sub.cons rfl (Sub.cons rfl (Sub.cons rfl (Sub.cons rfl (Sub.cons rfl (Sub.nil _))))))) (fun _ hw => XM.pick (.cons (.there .here) (.cons (.there .here) (.cons (.there .here) (.cons (.there .here) (.cons (.there .here) (.cons (.there (.there (.there .here))) .nil)))))) hw)
                    · skip
                      (simp; omega)
                    · skip
                      exact ⟨hst.ge (by simp; omega), hx, by simp; omega, by simp; omega⟩
                · skip
                  refine XC.skip ?_
                  refine XE.blockNormal ?_
                  refine XE.blockNormal ?_
                  refine XE.next ?_
                  refine XC.keep [(0, _), (1, _), (2, _), (7, _), (12, _), (14, _)] (Sub.cons rfl (Sub.cons rfl (Sub.cons rfl (Sub.cons rfl (Sub.cons rfl (Sub.cons rfl (Sub.nil _))))))) ?_
                  refine XC.region ?_
                  refine XO.v (V.move rfl) rfl ?_
                  refine XO.v (V.add rfl rfl _ (IntWalk.i64_in _ (by omega))) rfl ?_
                  refine XO.v (V.assign rfl) rfl ?_
                  refine XO.nil ?_
                  refine XE.again ((x.1, x.2.1, x.2.2 + 1)) ?_ ?_ (Sub.cons rfl (Sub.cons rfl (Sub.cons rfl (Sub.cons rfl (Sub.cons rfl (Sub.cons rfl (Sub.nil _))))))) (fun _ hw => XM.pick (.cons (.there .here) (.cons (.there .here) (.cons (.there .here) (.cons (.there .here) (.cons (.there .here) (.cons (.there .here) .nil)))))) hw)
                  · skip
                    (simp; omega)
                  · skip
                    exact ⟨hst.ge (by simp; omega), hx, by simp; omega, by simp; omega⟩
            · skip
              refine XC.exit ?_
              refine XE.thenExit ?_
              refine XE.thenExit ?_
              refine XE.blockExit ?_
              refine XE.next ?_
              refine XC.keep [(1, _), (2, _), (7, _), (12, _)] (Sub.cons rfl (Sub.cons rfl (Sub.cons rfl (Sub.cons rfl (Sub.nil _))))) ?_
              refine XC.seq ?_
              refine XC.region ?_
              refine XO.v (V.move rfl) rfl ?_
              refine XO.v (V.move rfl) rfl ?_
              refine XO.call rfl (m_Walk _ _ _ _ _ _ _ _ _ hx.v hx.m hx.le x.1 hS p (by omega)) (.cons .here (.cons .here (.cons .here (.cons .here (.cons .here .nil))))) cl_15 rfl ?_
              rintro _ _ ⟨rfl, rfl⟩
              refine XO.v (V.move rfl) rfl ?_
              refine XO.v (V.extract rfl rfl) rfl ?_
              refine XO.v (V.extract rfl rfl) rfl ?_
              refine XO.allocZ (z := .agg (WH.arr WH.nil)) (m := 2) (C := encW WH.nil) (by kernel_rfl) rfl (encW.box _) rfl ?_
              intro b20
              refine XO.storeAgg rfl rfl .here (encW.st _ _) ⟨rfl, rfl⟩ sz_42_2 ?_
              refine XO.v (V.assign rfl) rfl ?_
              refine XO.nil ?_
              refine XE.next ?_
              refine XC.keep [(1, _), (2, _), (7, _), (12, _), (20, _), (21, _)] (Sub.cons rfl (Sub.cons rfl (Sub.cons rfl (Sub.cons rfl (Sub.cons rfl (Sub.cons rfl (Sub.nil _))))))) ?_
              refine XC.seq ?_
              refine XC.seq ?_
              refine XC.region ?_
              refine XO.v (V.move rfl) rfl ?_
              refine XO.v (V.errNil rfl Tryd.underlying26 rfl) rfl ?_
              refine XO.nil ?_
              refine XE.next ?_
              refine XC.keep [(1, _), (2, _), (7, _), (12, _), (20, _), (147, _)] (Sub.cons rfl (Sub.cons rfl (Sub.cons rfl (Sub.cons rfl (Sub.cons rfl (Sub.cons rfl (Sub.nil _))))))) ?_
              refine XC.condP rfl (fun h12 => ?_) (fun h12 => ?_)
              · skip
                have h1 : walkE x.1.toFF x.2.1.l x.2.1.r p ≠ 0 := h12
                refine XC.seq ?_
                refine XC.region ?_
                refine XO.v (V.loadAgg rfl (inXM .here) (encW.agg _) ag_42 sz_42_2) rfl ?_
                refine XO.v (V.build (vs := #[]) rfl (v := .agg (WH.arr WH.nil)) (fun _ => by kernel_rfl)) rfl ?_
                refine XO.v (V.eqW rfl rfl whEq) rfl ?_
                refine XO.v (V.assign rfl) rfl ?_
                refine XO.nil ?_
                refine XE.next ?_
                refine XC.keep [(6, _)] (Sub.cons rfl (Sub.nil _)) ?_
                refine XC.ret ?_
                refine XE.thenRet ?_
                refine XE.ret1 rfl rfl (post_of .nil rfl ?_)
                exact ⟨by rw [walk_err h1]; rfl, rfl⟩
              · skip
                have h1 : walkE x.1.toFF x.2.1.l x.2.1.r p = 0 := Decidable.byContradiction h12
                refine XC.skip ?_
                refine XE.next ?_
                refine XC.keep [(1, _), (2, _), (7, _), (12, _), (20, _)] (Sub.cons rfl (Sub.cons rfl (Sub.cons rfl (Sub.cons rfl (Sub.cons rfl (Sub.nil _)))))) ?_
                refine XC.seq ?_
                refine XC.region ?_
                refine XO.v (V.move rfl) rfl ?_
                refine XO.v (V.concat rfl rfl (by have h0 : (⟨#[47]⟩ : ByteArray).size = 1 := rfl; omega)) rfl ?_
                refine XO.v (V.move rfl) rfl ?_
                refine XO.v (V.concat rfl rfl (by have h0 : (⟨#[47]⟩ : ByteArray).size = 1 := rfl; rw [ByteArray.size_append]; omega)) rfl ?_
                refine XO.v (V.assign rfl) rfl ?_
                refine XO.nil ?_
                refine XE.next ?_
                refine XC.keep [(1, _), (2, _), (7, _), (12, _), (20, _), (22, _)] (Sub.cons rfl (Sub.cons rfl (Sub.cons rfl (Sub.cons rfl (Sub.cons rfl (Sub.cons rfl (Sub.nil _))))))) ?_
                refine XC.cutG (σ := ByteArray) (fun y => y = whole p n) (fun y => [(1, .string p), (2, .string n), (7, ptr bf 0 0), (12, ptr btt 0 0), (20, ptr b20 0 0), (22, .string y)]) (fun y => XM W (foot [.ro bl ol (8 * len) (encActs A)]) [.cells btt 0 4 (encT bf x.2.1.r (.slice x.2.1.p x.2.1.l.length x.2.1.c)), frow x.2.1.p x.2.1.cap 59 4 x.2.1.k x.2.1.C, .cells bf 0 321 (encF x.1), .fam fam40 (FC.rowsN 9 x.1), .fam fam40 (FC.rowsK 3 x.1), .cells b20 0 2 (encW (walkV x.1.toFF x.2.1.l x.2.1.r p))]) ?_ ?_
                · skip
                  refine XC.seq ?_
                  refine XC.region ?_
                  refine XO.v (V.move rfl) rfl ?_
                  refine XO.v (V.strCmp rfl rfl rfl) rfl ?_
                  refine XO.nil ?_
                  refine XE.next ?_
                  refine XC.keep [(1, _), (2, _), (7, _), (12, _), (20, _), (22, _), (156, _)] (Sub.cons rfl (Sub.cons rfl (Sub.cons rfl (Sub.cons rfl (Sub.cons rfl (Sub.cons rfl (Sub.cons rfl (Sub.nil _)))))))) ?_
                  refine XC.condP rfl (fun h13 => ?_) (fun h13 => ?_)
                  · skip
                    have hsl : p = slash := h13
                    refine XC.region ?_
                    refine XO.v (V.move rfl) rfl ?_
                    refine XO.v (V.concat rfl rfl (by have h0 : (⟨#[47]⟩ : ByteArray).size = 1 := rfl; omega)) rfl ?_
                    refine XO.v (V.assign rfl) rfl ?_
                    refine XO.nil ?_
                    refine XE.meetG (slash ++ n) ?_ (Sub.cons rfl (Sub.cons rfl (Sub.cons rfl (Sub.cons rfl (Sub.cons rfl (Sub.cons rfl (Sub.nil _))))))) (fun _ hw => XM.pick (.cons (.there .here) (.cons (.there .here) (.cons (.there .here) (.cons (.there .here) (.cons (.there .here) (.cons .here .nil)))))) hw)
                    · show slash ++ n = whole p n; unfold whole; rw [if_pos hsl]
                  · skip
                    have hsl : ¬ p = slash := h13
                    refine XC.skip ?_
                    refine XE.meetG (p ++ slash ++ n) ?_ (Sub.cons rfl (Sub.cons rfl (Sub.cons rfl (Sub.cons rfl (Sub.cons rfl (Sub.cons rfl (Sub.nil _))))))) (fun _ hw => XM.pick (.cons (.there .here) (.cons (.there .here) (.cons (.there .here) (.cons (.there .here) (.cons (.there .here) (.cons .here .nil)))))) hw)
                    · show p ++ slash ++ n = whole p n; unfold whole; rw [if_neg hsl]
                intro y hy
                subst hy
                have hw := whole_size p n
                refine XC.seq ?_
                refine XC.region ?_
                refine XO.v (V.move rfl) rfl ?_
                refine XO.v (V.move rfl) rfl ?_
                refine XO.call rfl (m_Walk _ _ _ _ _ _ _ _ _ hx.v hx.m hx.le x.1 hS (whole p n) (by omega)) (.cons .here (.cons .here (.cons .here (.cons .here (.cons .here .nil))))) cl_15 rfl ?_
                rintro _ _ ⟨rfl, rfl⟩
                refine XO.v (V.move rfl) rfl ?_
                refine XO.v (V.extract rfl rfl) rfl ?_
                refine XO.v (V.extract rfl rfl) rfl ?_
                refine XO.allocZ (z := .agg (WH.arr WH.nil)) (m := 2) (C := encW WH.nil) (by kernel_rfl) rfl (encW.box _) rfl ?_
                intro b23
                refine XO.storeAgg rfl rfl .here (encW.st _ _) ⟨rfl, rfl⟩ sz_42_2 ?_
                refine XO.v (V.assign rfl) rfl ?_
                refine XO.nil ?_
                refine XE.next ?_
                refine XC.keep [(2, _), (7, _), (12, _), (20, _), (21, _), (22, _), (23, _)] (Sub.cons rfl (Sub.cons rfl (Sub.cons rfl (Sub.cons rfl (Sub.cons rfl (Sub.cons rfl (Sub.cons rfl (Sub.nil _)))))))) ?_
                refine XC.seq ?_
                refine XC.seq ?_
                refine XC.region ?_
                refine XO.v (V.move rfl) rfl ?_
                refine XO.v (V.errNil rfl Tryd.underlying26 rfl) rfl ?_
                refine XO.v (V.move rfl) rfl ?_
                refine XO.splitP (d := 167) rfl (fun h14 => ?_) (fun h14 => ?_)
                · skip
                  refine XO.guardSkip rfl rfl rfl rfl rfl ?_
                  refine XO.guardSkip rfl rfl rfl rfl rfl ?_
                  refine XO.guardSkip rfl rfl rfl rfl rfl ?_
                  refine XO.v (V.pick rfl rfl rfl rfl) rfl ?_
                  refine XO.nil ?_
                  refine XE.next ?_
                  refine XC.keep [(2, _), (7, _), (12, _), (20, _), (22, _), (23, _), (171, _)] (Sub.cons rfl (Sub.cons rfl (Sub.cons rfl (Sub.cons rfl (Sub.cons rfl (Sub.cons rfl (Sub.cons rfl (Sub.nil _)))))))) ?_
                  refine XC.condT rfl rfl ?_
                  refine XC.seq ?_
                  refine XC.region ?_
                  refine XO.v (V.assign rfl) rfl ?_
                  refine XO.nil ?_
                  refine XE.next ?_
                  refine XC.keep [(6, _)] (Sub.cons rfl (Sub.nil _)) ?_
                  refine XC.ret ?_
                  refine XE.thenRet ?_
                  refine XE.ret1 rfl rfl (post_of .nil rfl ?_)
                  exact ⟨rfl, rfl⟩
                · skip
                  have h2 : walkE x.1.toFF x.2.1.l x.2.1.r (whole p n) = 0 := Decidable.byContradiction h14
                  refine XO.guardRun rfl rfl rfl ?_
                  refine XO.v (V.move rfl) rfl ?_
                  refine XO.guardRun rfl rfl rfl ?_
                  refine XO.call rfl (t_Name n (by omega)) .nil cl_22 rfl ?_
                  rintro _ _ ⟨rfl, rfl⟩
                  refine XO.guardRun rfl rfl rfl ?_
                  refine XO.v (V.not rfl) rfl ?_
                  refine XO.v (V.pick rfl rfl rfl rfl) rfl ?_
                  refine XO.nil ?_
                  refine XE.next ?_
                  refine XC.keep [(2, _), (7, _), (12, _), (20, _), (22, _), (23, _), (171, _)] (Sub.cons rfl (Sub.cons rfl (Sub.cons rfl (Sub.cons rfl (Sub.cons rfl (Sub.cons rfl (Sub.cons rfl (Sub.nil _)))))))) ?_
                  refine XC.cond rfl (fun h15 => ?_) (fun h15 => ?_)
                  · try simp only [sb] at h15
                    refine XC.seq ?_
                    refine XC.region ?_
                    refine XO.v (V.assign rfl) rfl ?_
                    refine XO.nil ?_
                    refine XE.next ?_
                    refine XC.keep [(6, _)] (Sub.cons rfl (Sub.nil _)) ?_
                    refine XC.ret ?_
                    refine XE.thenRet ?_
                    refine XE.ret1 rfl rfl (post_of .nil rfl ?_)
                    exact ⟨rfl, rfl⟩
                  · try simp only [sb] at h15
                    have hy : nameOk n = true := by simpa using h15
                    have hP := path_ok h1 h2 hy
                    refine XC.skip ?_
                    refine XE.next ?_
                    refine XC.keep [(2, _), (7, _), (12, _), (20, _), (22, _), (23, _)] (Sub.cons rfl (Sub.cons rfl (Sub.cons rfl (Sub.cons rfl (Sub.cons rfl (Sub.cons rfl (Sub.nil _))))))) ?_
                    refine XC.seq ?_
                    refine XC.region ?_
                    refine XO.v (V.move rfl) rfl ?_
                    refine XO.v (V.move rfl) rfl ?_
                    refine XO.call rfl (m_Last _ _ _ _ _ _ _ _ _ hx.v hx.m hx.le x.1 hS (whole p n) (by omega)) (.cons (.there .here) (.cons (.there .here) (.cons (.there .here) (.cons (.there .here) (.cons (.there .here) .nil))))) cl_23 rfl ?_
                    rintro _ _ ⟨rfl, rfl⟩
                    refine XO.v (V.move rfl) rfl ?_
                    refine XO.v (V.extract rfl rfl) rfl ?_
                    refine XO.v (V.extract rfl rfl) rfl ?_
                    refine XO.v (V.extract rfl rfl) rfl ?_
                    refine XO.allocZ (z := .agg (WH.arr WH.nil)) (m := 2) (C := encW WH.nil) (by kernel_rfl) rfl (encW.box _) rfl ?_
                    intro b24
                    refine XO.storeAgg rfl rfl .here (encW.st _ _) ⟨rfl, rfl⟩ sz_42_2 ?_
                    refine XO.v (V.assign rfl) rfl ?_
                    refine XO.v (V.assign rfl) rfl ?_
                    refine XO.nil ?_
                    refine XE.next ?_
                    refine XC.keep [(2, _), (7, _), (12, _), (20, _), (21, _), (22, _), (23, _), (24, _), (25, _)] (Sub.cons rfl (Sub.cons rfl (Sub.cons rfl (Sub.cons rfl (Sub.cons rfl (Sub.cons rfl (Sub.cons rfl (Sub.cons rfl (Sub.cons rfl (Sub.nil _)))))))))) ?_
                    refine XC.seq ?_
                    refine XC.seq ?_
                    refine XC.region ?_
                    refine XO.v (V.move rfl) rfl ?_
                    refine XO.v (V.errNil rfl Tryd.underlying26 rfl) rfl ?_
                    refine XO.v (V.move rfl) rfl ?_
                    refine XO.splitF (d := 181) rfl (fun h => h hP.lastE) ?_
                    refine XO.guardRun rfl rfl rfl ?_
                    refine XO.v (V.loadAgg rfl (inXM .here) (encW.agg _) ag_42 sz_42_2) rfl ?_
                    refine XO.guardRun rfl rfl rfl ?_
                    refine XO.v (V.loadAgg rfl (inXM (.there (.there (.there (.there (.there (.there (.there .here)))))))) (encW.agg _) ag_42 sz_42_2) rfl ?_
                    refine XO.guardRun rfl rfl rfl ?_
                    refine XO.v (V.neW rfl rfl whEq) rfl ?_
                    refine XO.v (V.pick rfl rfl rfl rfl) rfl ?_
                    refine XO.v (V.move rfl) rfl ?_
                    refine XO.splitF (d := 186) rfl (fun h => h hP.lastV) ?_
                    refine XO.guardRun rfl rfl rfl ?_
                    refine XO.v (V.move rfl) rfl ?_
                    refine XO.guardRun rfl rfl rfl ?_
                    refine XO.v (V.move rfl) rfl ?_
                    refine XO.guardRun rfl rfl rfl ?_
                    refine XO.v (V.strCmp rfl rfl rfl) rfl ?_
                    refine XO.v (V.pick rfl rfl rfl rfl) rfl ?_
                    refine XO.nil ?_
                    refine XE.next ?_
                    refine XC.keep [(2, _), (7, _), (12, _), (20, _), (22, _), (23, _), (190, _)] (Sub.cons rfl (Sub.cons rfl (Sub.cons rfl (Sub.cons rfl (Sub.cons rfl (Sub.cons rfl (Sub.cons rfl (Sub.nil _)))))))) ?_
                    refine XC.condFP rfl (fun h => h hP.lastN) ?_
                    refine XC.skip ?_
                    refine XE.next ?_
                    refine XC.keep [(2, _), (7, _), (12, _), (20, _), (22, _), (23, _)] (Sub.cons rfl (Sub.cons rfl (Sub.cons rfl (Sub.cons rfl (Sub.cons rfl (Sub.cons rfl (Sub.nil _))))))) ?_
                    refine XC.seq ?_
                    refine XC.region ?_
                    refine XO.v (V.move rfl) rfl ?_
                    refine XO.v (V.fieldAddr rfl fo_42_1) rfl ?_
                    refine XO.v (V.load rfl (inXM (.there (.there (.there (.there (.there (.there (.there .here)))))))) (encW.ld1 _) sc_3) rfl ?_
                    refine XO.v (V.move rfl) rfl ?_
                    refine XO.call rfl (t_Find _ _ _ hS _ _) (.cons (.there (.there (.there .here))) (.cons (.there (.there (.there .here))) (.cons (.there (.there (.there .here))) .nil))) cl_24 rfl ?_
                    rintro _ _ ⟨rfl, rfl⟩
                    refine XO.v (V.move rfl) rfl ?_
                    refine XO.v (V.extract rfl rfl) rfl ?_
                    refine XO.v (V.extract rfl rfl) rfl ?_
                    refine XO.v (V.assign rfl) rfl ?_
                    refine XO.v (V.assign rfl) rfl ?_
                    refine XO.nil ?_
                    refine XE.next ?_
                    refine XC.keep [(12, _), (20, _), (21, _), (22, _), (23, _), (26, _)] (Sub.cons rfl (Sub.cons rfl (Sub.cons rfl (Sub.cons rfl (Sub.cons rfl (Sub.cons rfl (Sub.nil _))))))) ?_
                    refine XC.seq ?_
                    refine XC.region ?_
                    refine XO.v (V.move rfl) rfl ?_
                    refine XO.v (V.move rfl) rfl ?_
                    refine XO.call rfl (m_Raw _ _ _ _ _ _ _ _ _ hx.v hx.m hx.le x.1 hS (whole p n) (by omega)) (.cons (.there (.there (.there (.there .here)))) (.cons (.there (.there (.there (.there .here)))) (.cons .here (.cons .here (.cons .here .nil))))) cl_14 rfl ?_
                    rintro _ _ ⟨rfl, rfl⟩
                    refine XO.v (V.move rfl) rfl ?_
                    refine XO.v (V.extract rfl rfl) rfl ?_
                    refine XO.v (V.extract rfl rfl) rfl ?_
                    refine XO.allocZ (z := .agg (WH.arr WH.nil)) (m := 2) (C := encW WH.nil) (by kernel_rfl) rfl (encW.box _) rfl ?_
                    intro b27
                    refine XO.storeAgg rfl rfl .here (encW.st _ _) ⟨rfl, rfl⟩ sz_42_2 ?_
                    refine XO.v (V.assign rfl) rfl ?_
                    refine XO.nil ?_
                    refine XE.next ?_
                    refine XC.keep [(12, _), (20, _), (21, _), (22, _), (23, _), (26, _), (27, _), (28, _)] (Sub.cons rfl (Sub.cons rfl (Sub.cons rfl (Sub.cons rfl (Sub.cons rfl (Sub.cons rfl (Sub.cons rfl (Sub.cons rfl (Sub.nil _))))))))) ?_
                    refine XC.seq ?_
                    refine XC.seq ?_
                    refine XC.region ?_
                    refine XO.v (V.move rfl) rfl ?_
                    refine XO.v (V.errNil rfl Tryd.underlying26 rfl) rfl ?_
                    refine XO.v (V.move rfl) rfl ?_
                    refine XO.splitF (d := 207) rfl (fun h => h hP.findE) ?_
                    refine XO.guardRun rfl rfl rfl ?_
                    refine XO.v (V.move rfl) rfl ?_
                    refine XO.guardRun rfl rfl rfl ?_
                    refine XO.v (V.errNil rfl Tryd.underlying26 rfl) rfl ?_
                    refine XO.v (V.pick rfl rfl rfl rfl) rfl ?_
                    refine XO.v (V.move rfl) rfl ?_
                    refine XO.splitF (d := 211) rfl (fun h => h hP.rawE) ?_
                    refine XO.guardRun rfl rfl rfl ?_
                    refine XO.v (V.loadAgg rfl (inXM .here) (encW.agg _) ag_42 sz_42_2) rfl ?_
                    refine XO.guardRun rfl rfl rfl ?_
                    refine XO.v (V.fieldAddr rfl fo_42_0) rfl ?_
                    refine XO.guardRun rfl rfl rfl ?_
                    refine XO.v (V.load rfl (inXM (.there (.there (.there (.there (.there (.there (.there (.there .here))))))))) (encW.ld0 _) sc_3) rfl ?_
                    refine XO.guardRun rfl rfl rfl ?_
                    refine XO.v (V.move rfl) rfl ?_
                    refine XO.guardRun rfl rfl rfl ?_
                    refine XO.v (V.build (vs := #[(0, .int .i64 (walkV x.1.toFF x.2.1.l x.2.1.r p).tree), (1, .int .i64 (x.1.toFF.findV (walkV x.1.toFF x.2.1.l x.2.1.r p).node n))]) rfl (v := .agg (WH.arr ⟨(walkV x.1.toFF x.2.1.l x.2.1.r p).tree, x.1.toFF.findV (walkV x.1.toFF x.2.1.l x.2.1.r p).node n⟩)) (fun _ => by kernel_rfl)) rfl ?_
                    refine XO.guardRun rfl rfl rfl ?_
                    refine XO.v (V.neW rfl rfl whEq) rfl ?_
                    refine XO.v (V.pick rfl rfl rfl rfl) rfl ?_
                    refine XO.nil ?_
                    refine XE.next ?_
                    refine XC.keep [(12, _), (20, _), (22, _), (23, _), (27, _), (218, _)] (Sub.cons rfl (Sub.cons rfl (Sub.cons rfl (Sub.cons rfl (Sub.cons rfl (Sub.cons rfl (Sub.nil _))))))) ?_
                    refine XC.condFP rfl (fun h => h hP.rawV) ?_
                    refine XC.skip ?_
                    refine XE.next ?_
                    refine XC.keep [(12, _), (20, _), (22, _), (23, _), (27, _)] (Sub.cons rfl (Sub.cons rfl (Sub.cons rfl (Sub.cons rfl (Sub.cons rfl (Sub.nil _)))))) ?_
                    refine XC.seq ?_
                    refine XC.region ?_
                    refine XO.v (V.assign rfl) rfl ?_
                    refine XO.nil ?_
                    refine XE.next ?_
                    refine XC.keep [(12, _), (20, _), (22, _), (23, _), (27, _), (29, _)] (Sub.cons rfl (Sub.cons rfl (Sub.cons rfl (Sub.cons rfl (Sub.cons rfl (Sub.cons rfl (Sub.nil _))))))) ?_
                    refine XC.seq ?_
                    refine XC.region ?_
                    refine XO.v (V.move rfl) rfl ?_
                    refine XO.call rfl (m_Mounts _ _ _ _ _ _ _ _ _ hx.v hx.m hx.le) (.cons (.there .here) (.cons (.there .here) .nil)) cl_11 rfl ?_
                    rintro _ _ ⟨p', cap', k', c', C', hv', hC', rfl, rfl⟩
                    refine XO.v (V.assign rfl) rfl ?_
                    refine XO.nil ?_
                    refine XE.next ?_
                    refine XC.keep [(12, _), (20, _), (22, _), (23, _), (27, _), (29, _), (30, _)] (Sub.cons rfl (Sub.cons rfl (Sub.cons rfl (Sub.cons rfl (Sub.cons rfl (Sub.cons rfl (Sub.cons rfl (Sub.nil _)))))))) ?_
                    refine XC.seq ?_
                    refine XC.seq ?_
                    refine XC.region ?_
                    refine XO.v (V.assign rfl) rfl ?_
                    refine XO.nil ?_
                    refine XE.next ?_
                    refine XC.keep [(12, _), (20, _), (22, _), (23, _), (27, _), (29, _), (30, _), (31, _)] (Sub.cons rfl (Sub.cons rfl (Sub.cons rfl (Sub.cons rfl (Sub.cons rfl (Sub.cons rfl (Sub.cons rfl (Sub.cons rfl (Sub.nil _))))))))) ?_
                    refine XC.block ?_
                    refine XC.loop (σ := Int × Bool) (fun z => (x.2.1.l.length - z.1).toNat) (fun z => (0 ≤ z.1 ∧ z.1 ≤ x.2.1.l.length) ∧ z.2 = hasAt (x.2.1.l.take z.1.toNat) ⟨(walkV x.1.toFF x.2.1.l x.2.1.r p).tree, x.1.toFF.findV (walkV x.1.toFF x.2.1.l x.2.1.r p).node n⟩) (fun z => [(29, .bool z.2), (31, .int .i64 z.1), (12, ptr btt 0 0), (20, ptr b20 0 0), (22, .string (whole p n)), (23, ptr b23 0 0), (27, ptr b27 0 0), (30, (.slice p' x.2.1.l.length c'))]) (fun z => XM W (foot [.ro bl ol (8 * len) (encActs A)]) [.cells btt 0 4 (encT bf x.2.1.r (.slice x.2.1.p x.2.1.l.length x.2.1.c)), frow x.2.1.p x.2.1.cap 59 4 x.2.1.k x.2.1.C, .cells bf 0 321 (encF x.1), .fam fam40 (FC.rowsN 9 x.1), .fam fam40 (FC.rowsK 3 x.1), .cells b20 0 2 (encW (walkV x.1.toFF x.2.1.l x.2.1.r p)), .cells b23 0 2 (encW (walkV x.1.toFF x.2.1.l x.2.1.r (whole p n))), .cells b27 0 2 (encW (rawV x.1.toFF x.2.1.l x.2.1.r (whole p n))), frow p' cap' 59 4 k' C']) ((0, false)) ?_ (Sub.cons rfl (Sub.cons rfl (Sub.cons rfl (Sub.cons rfl (Sub.cons rfl (Sub.cons rfl (Sub.cons rfl (Sub.cons rfl (Sub.nil _))))))))) (fun _ hw => XM.pick (.cons (.there .here) (.cons (.there .here) (.cons (.there (.there .here)) (.cons (.there (.there .here)) (.cons (.there (.there .here)) (.cons (.there (.there (.there (.there .here)))) (.cons (.there (.there (.there .here))) (.cons (.there .here) (.cons .here .nil))))))))) hw) ?_
                    · skip
                      exact ⟨⟨by simp, by simp⟩, by simp [hasAt]⟩
                    intro z hz
                    obtain ⟨⟨hz0, hz1⟩, hz2⟩ := hz
                    have hlk' := RV.ok_le hv'
                    have hlk' : x.2.1.l.length ≤ k' := hlk'
                    have hle6 := hx.le
                    refine XC.seq ?_
                    refine XC.seq ?_
                    refine XC.region ?_
                    refine XO.v (V.move rfl) rfl ?_
                    refine XO.v (V.move rfl) rfl ?_
                    refine XO.v (V.lenSl rfl Tryd.underlying34) rfl ?_
                    refine XO.v (V.cmp rfl rfl rfl) rfl ?_
                    refine XO.nil ?_
                    refine XE.next ?_
                    refine XC.keep [(12, _), (20, _), (22, _), (23, _), (27, _), (29, _), (30, _), (31, _), (224, _)] (Sub.cons rfl (Sub.cons rfl (Sub.cons rfl (Sub.cons rfl (Sub.cons rfl (Sub.cons rfl (Sub.cons rfl (Sub.cons rfl (Sub.cons rfl (Sub.nil _)))))))))) ?_
                    refine XC.condP rfl (fun h20 => ?_) (fun h20 => ?_)
                    · skip
                      refine XC.skip ?_
                      refine XE.next ?_
                      refine XC.keep [(12, _), (20, _), (22, _), (23, _), (27, _), (29, _), (30, _), (31, _)] (Sub.cons rfl (Sub.cons rfl (Sub.cons rfl (Sub.cons rfl (Sub.cons rfl (Sub.cons rfl (Sub.cons rfl (Sub.cons rfl (Sub.nil _))))))))) ?_
                      refine XC.seq ?_
                      refine XC.block ?_
                      refine XC.regionQ mixed (f := 11) (l := #[false, false, false, false, false, false, false, false, false, false, false]) rfl rfl XM.drawn' ?_
                      refine XQ.pv (i := 0) (l' := #[true, false, false, false, false, false, false, false, false, false, false]) rfl (by kernel_rfl) rfl (V.move rfl) rfl rfl ?_
                      refine XQ.pv (i := 1) (l' := #[true, true, false, false, false, false, false, false, false, false, false]) rfl (by kernel_rfl) rfl (V.move rfl) rfl rfl ?_
                      refine XQ.split (d := 228) rfl (fun h21 => ?_) (fun h21 => ?_)
                      · try simp only [sb] at h21
                        have hsee : z.2 = true := by simpa using h21
                        refine XQ.skip (i := 2) (l' := #[true, true, true, false, false, false, false, false, false, false, false]) rfl rfl rfl rfl rfl (by kernel_rfl) rfl rfl rfl ?_
                        refine XQ.skip (i := 3) (l' := #[true, true, true, true, false, false, false, false, false, false, false]) rfl rfl rfl rfl rfl (by kernel_rfl) rfl rfl rfl ?_
                        refine XQ.skip (i := 4) (l' := #[true, true, true, true, true, false, false, false, false, false, false]) rfl rfl rfl rfl rfl (by kernel_rfl) rfl rfl rfl ?_
                        refine XQ.skip (i := 5) (l' := #[true, true, true, true, true, true, false, false, false, false, false]) rfl rfl rfl rfl rfl (by kernel_rfl) rfl rfl rfl ?_
                        refine XQ.skip (i := 6) (l' := #[true, true, true, true, true, true, true, false, false, false, false]) rfl rfl rfl rfl rfl (by kernel_rfl) rfl rfl rfl ?_
                        refine XQ.skip (i := 7) (l' := #[true, true, true, true, true, true, true, true, false, false, false]) rfl rfl rfl rfl rfl (by kernel_rfl) rfl rfl rfl ?_
                        refine XQ.skip (i := 8) (l' := #[true, true, true, true, true, true, true, true, true, false, false]) rfl rfl rfl rfl rfl (by kernel_rfl) rfl rfl rfl ?_
                        refine XQ.pv (i := 9) (l' := #[true, true, true, true, true, true, true, true, true, true, false]) rfl (by kernel_rfl) rfl (V.pick rfl rfl rfl rfl) rfl rfl ?_
                        refine XQ.pv (i := 10) (l' := #[true, true, true, true, true, true, true, true, true, true, true]) rfl (by kernel_rfl) rfl (V.assign rfl) rfl rfl ?_
                        refine XQ.done (by kernel_rfl) ?_
                        refine XE.blockNormal ?_
                        refine XE.next ?_
                        refine XC.keep [(12, _), (20, _), (22, _), (23, _), (27, _), (29, _), (30, _), (31, _)] (Sub.cons rfl (Sub.cons rfl (Sub.cons rfl (Sub.cons rfl (Sub.cons rfl (Sub.cons rfl (Sub.cons rfl (Sub.cons rfl (Sub.nil _))))))))) ?_
                        refine XC.region ?_
                        refine XO.v (V.move rfl) rfl ?_
                        refine XO.v (V.add rfl rfl _ (IntWalk.i64_in _ (by omega))) rfl ?_
                        refine XO.v (V.assign rfl) rfl ?_
                        refine XO.nil ?_
                        refine XE.again ((z.1 + 1, true)) ?_ ?_ (Sub.cons rfl (Sub.cons rfl (Sub.cons rfl (Sub.cons rfl (Sub.cons rfl (Sub.cons rfl (Sub.cons rfl (Sub.cons rfl (Sub.nil _))))))))) (fun _ hw => XM.pick (.cons .here (.cons .here (.cons .here (.cons .here (.cons .here (.cons .here (.cons .here (.cons .here (.cons .here .nil))))))))) hw)
                        · skip
                          (simp; omega)
                        · skip
                          exact ⟨⟨by simp; omega, by simp; omega⟩, by show true = hasAt (x.2.1.l.take (z.1 + 1).toNat) _; rw [hasAt_take ⟨by omega, by omega⟩, ← hz2, hsee]; rfl⟩
                      · try simp only [sb] at h21
                        have hsee : z.2 = false := by simpa using h21
                        refine XQ.pvG (i := 2) (l' := #[true, true, true, false, false, false, false, false, false, false, false]) rfl rfl rfl (by kernel_rfl) rfl (V.move rfl) rfl rfl ?_
                        refine XQ.openRow (.there (.there (.there (.there (.there (.there (.there (.there .here)))))))) (by omega) ?_
                        intro g hg
                        subst hg
                        refine XQ.pvG (i := 3) (l' := #[true, true, true, true, false, false, false, false, false, false, false]) rfl rfl rfl (by kernel_rfl) rfl (V.move rfl) rfl rfl ?_
                        refine XQ.pvG (i := 4) (l' := #[true, true, true, true, true, false, false, false, false, false, false]) rfl rfl rfl (by kernel_rfl) rfl (V.indexSl rfl rfl sl_34 (by omega)) rfl rfl ?_
                        refine XQ.pvG (i := 5) (l' := #[true, true, true, true, true, true, false, false, false, false, false]) rfl rfl rfl (by kernel_rfl) rfl (V.fieldAddr rfl fo_59_0) rfl rfl ?_
                        refine XQ.loadG (i := 6) (l' := #[true, true, true, true, true, true, true, false, false, false, false]) (.row _ _ _ _ _) [] rfl rfl rfl (by kernel_rfl) rfl (.there (.there (.there (.there (.there (.there (.there (.there .here)))))))) (V.loadFA rfl inEnt (hC'.ldA hlk' _ (by omega)) ag_42 sz_42_2) rfl (by kernel_rfl) rfl ?_
                        refine XQ.loadG (i := 7) (l' := #[true, true, true, true, true, true, true, true, false, false, false]) (.cells _ _ _ _) [] rfl rfl rfl (by kernel_rfl) rfl (.there (.there (.there (.there (.there (.there (.there .here))))))) (V.loadAgg rfl inEnt (encW.agg _) ag_42 sz_42_2) rfl (by kernel_rfl) rfl ?_
                        refine XQ.pvG (i := 8) (l' := #[true, true, true, true, true, true, true, true, true, false, false]) rfl rfl rfl (by kernel_rfl) rfl (V.eqW rfl rfl whEq) rfl rfl ?_
                        refine XQ.pv (i := 9) (l' := #[true, true, true, true, true, true, true, true, true, true, false]) rfl (by kernel_rfl) rfl (V.pick rfl rfl rfl rfl) rfl rfl ?_
                        refine XQ.pv (i := 10) (l' := #[true, true, true, true, true, true, true, true, true, true, true]) rfl (by kernel_rfl) rfl (V.assign rfl) rfl rfl ?_
                        refine XQ.done (by kernel_rfl) ?_
                        refine XE.blockNormal ?_
                        refine XE.next ?_
                        refine XC.keep [(12, _), (20, _), (22, _), (23, _), (27, _), (29, _), (30, _), (31, _)] (Sub.cons rfl (Sub.cons rfl (Sub.cons rfl (Sub.cons rfl (Sub.cons rfl (Sub.cons rfl (Sub.cons rfl (Sub.cons rfl (Sub.nil _))))))))) ?_
                        refine XC.region ?_
                        refine XO.v (V.move rfl) rfl ?_
                        refine XO.v (V.add rfl rfl _ (IntWalk.i64_in _ (by omega))) rfl ?_
                        refine XO.v (V.assign rfl) rfl ?_
                        refine XO.nil ?_
                        refine XE.again ((z.1 + 1, decide ((mat x.2.1.l z.1).at_ = rawV x.1.toFF x.2.1.l x.2.1.r (whole p n)))) ?_ ?_ (Sub.cons rfl (Sub.cons rfl (Sub.cons rfl (Sub.cons rfl (Sub.cons rfl (Sub.cons rfl (Sub.cons rfl (Sub.cons rfl (Sub.nil _))))))))) (fun _ hw => XM.pick (.cons .here (.cons .here (.cons .here (.cons .here (.cons .here (.cons .here (.cons .here (.cons .here (.cons .here .nil))))))))) hw)
                        · skip
                          (simp; omega)
                        · skip
                          exact ⟨⟨by simp; omega, by simp; omega⟩, by show decide _ = hasAt (x.2.1.l.take (z.1 + 1).toNat) _; rw [hasAt_take ⟨by omega, by omega⟩, ← hz2, hsee, hP.rawV]; rfl⟩
                    · skip
                      have hz9 : z.1 = x.2.1.l.length := by omega
                      rw [hz9, hasAt_all] at hz2
                      refine XC.exit ?_
                      refine XE.thenExit ?_
                      refine XE.thenExit ?_
                      refine XE.blockExit ?_
                      refine XE.next ?_
                      refine XC.keep [(12, _), (20, _), (22, _), (23, _), (27, _), (29, _)] (Sub.cons rfl (Sub.cons rfl (Sub.cons rfl (Sub.cons rfl (Sub.cons rfl (Sub.cons rfl (Sub.nil _))))))) ?_
                      refine XC.seq ?_
                      refine XC.seq ?_
                      refine XC.region ?_
                      refine XO.v (V.move rfl) rfl ?_
                      refine XO.v (V.not rfl) rfl ?_
                      refine XO.v (V.move rfl) rfl ?_
                      refine XO.split (d := 239) rfl (fun h22 => ?_) (fun h22 => ?_)
                      · try simp only [sb] at h22
                        have hsn : hasAt x.2.1.l ⟨(walkV x.1.toFF x.2.1.l x.2.1.r p).tree, x.1.toFF.findV (walkV x.1.toFF x.2.1.l x.2.1.r p).node n⟩ = false := by rw [← hz2]; simpa using h22
                        refine XO.guardRun rfl rfl rfl ?_
                        refine XO.v (V.loadAgg rfl (inXM (.there (.there (.there (.there (.there (.there .here))))))) (encW.agg _) ag_42 sz_42_2) rfl ?_
                        refine XO.guardRun rfl rfl rfl ?_
                        refine XO.v (V.loadAgg rfl (inXM (.there (.there (.there (.there (.there (.there (.there .here)))))))) (encW.agg _) ag_42 sz_42_2) rfl ?_
                        refine XO.guardRun rfl rfl rfl ?_
                        refine XO.v (V.neW rfl rfl whEq) rfl ?_
                        refine XO.v (V.pick rfl rfl rfl rfl) rfl ?_
                        refine XO.nil ?_
                        refine XE.next ?_
                        refine XC.keep [(12, _), (20, _), (22, _), (243, _)] (Sub.cons rfl (Sub.cons rfl (Sub.cons rfl (Sub.cons rfl (Sub.nil _))))) ?_
                        refine XC.condFP rfl (by first | exact fun h => h ((hP.deep hsn).trans hP.rawV.symm) | simp) ?_
                        refine XC.skip ?_
                        refine XE.next ?_
                        refine XC.keep [(12, _), (20, _), (22, _)] (Sub.cons rfl (Sub.cons rfl (Sub.cons rfl (Sub.nil _)))) ?_
                        refine XC.seq ?_
                        refine XC.region ?_
                        have hwb : (whole p n ++ ⟨#[47, 46, 46]⟩).size = (whole p n).size + 3 := by rw [ByteArray.size_append]; rfl
                        have hwc : (whole p n ++ ⟨#[47, 46, 46]⟩).size ≤ 100000 := by rw [hwb]; omega
                        refine XO.v (V.move rfl) rfl ?_
                        refine XO.v (V.move rfl) rfl ?_
                        refine XO.v (V.concat rfl rfl (by have h0 : (⟨#[47, 46, 46]⟩ : ByteArray).size = 3 := rfl; omega)) rfl ?_
                        refine XO.call rfl (m_Walk _ _ _ _ _ _ _ _ _ hx.v hx.m hx.le x.1 hS _ hwc) (.cons .here (.cons .here (.cons .here (.cons .here (.cons .here .nil))))) cl_15 rfl ?_
                        rintro _ _ ⟨rfl, rfl⟩
                        refine XO.v (V.move rfl) rfl ?_
                        refine XO.v (V.extract rfl rfl) rfl ?_
                        refine XO.v (V.extract rfl rfl) rfl ?_
                        refine XO.allocZ (z := .agg (WH.arr WH.nil)) (m := 2) (C := encW WH.nil) (by kernel_rfl) rfl (encW.box _) rfl ?_
                        intro b32
                        refine XO.storeAgg rfl rfl .here (encW.st _ _) ⟨rfl, rfl⟩ sz_42_2 ?_
                        refine XO.v (V.assign rfl) rfl ?_
                        refine XO.nil ?_
                        refine XE.next ?_
                        refine XC.keep [(20, _), (21, _), (22, _), (32, _)] (Sub.cons rfl (Sub.cons rfl (Sub.cons rfl (Sub.cons rfl (Sub.nil _))))) ?_
                        refine XC.seq ?_
                        refine XC.region ?_
                        refine XO.v (V.move rfl) rfl ?_
                        refine XO.v (V.errNil rfl Tryd.underlying26 rfl) rfl ?_
                        refine XO.v (V.move rfl) rfl ?_
                        refine XO.splitP (d := 253) rfl (fun h23 => ?_) (fun h23 => ?_)
                        · skip
                          have hE : walkE x.1.toFF x.2.1.l x.2.1.r (whole p n ++ ⟨#[47, 46, 46]⟩) ≠ 0 := h23
                          have hbig : 60 < (whole p n).size + 3 := by
                            rcases Nat.lt_or_ge 60 ((whole p n).size + 3) with q | q
                            · exact q
                            · exact absurd (hP.back q).1 hE
                          refine XO.guardRun rfl rfl rfl ?_
                          refine XO.v (V.move rfl) rfl ?_
                          refine XO.guardRun rfl rfl rfl ?_
                          refine XO.v (V.lenStr rfl Tryd.underlying9) rfl ?_
                          refine XO.guardRun rfl rfl rfl ?_
                          refine XO.v (V.add rfl rfl _ (IntWalk.i64_in _ (by omega))) rfl ?_
                          refine XO.guardRun rfl rfl rfl ?_
                          refine XO.v (V.cmp rfl rfl rfl) rfl ?_
                          refine XO.v (V.pick rfl rfl rfl rfl) rfl ?_
                          refine XO.v (V.move rfl) rfl ?_
                          refine XO.splitT (d := 259) rfl (by omega) ?_
                          refine XO.guardSkip rfl rfl rfl rfl rfl ?_
                          refine XO.guardSkip rfl rfl rfl rfl rfl ?_
                          refine XO.guardSkip rfl rfl rfl rfl rfl ?_
                          refine XO.guardSkipU rfl rfl rfl rfl rfl ?_
                          refine XO.guardSkipU rfl rfl rfl rfl rfl ?_
                          refine XO.guardSkipU rfl rfl rfl rfl rfl ?_
                          refine XO.guardSkip rfl rfl rfl rfl rfl ?_
                          refine XO.v (V.pick rfl rfl rfl rfl) rfl ?_
                          refine XO.v (V.assign rfl) rfl ?_
                          refine XO.nil ?_
                          refine XE.next ?_
                          refine XC.keep [(6, _)] (Sub.cons rfl (Sub.nil _)) ?_
                          refine XC.ret ?_
                          refine XE.ret1 rfl rfl (post_of .nil rfl ?_)
                          exact ⟨rfl, rfl⟩
                        · skip
                          have hE : walkE x.1.toFF x.2.1.l x.2.1.r (whole p n ++ ⟨#[47, 46, 46]⟩) = 0 := Decidable.byContradiction h23
                          have hsm : (whole p n).size + 3 ≤ 60 := by
                            rcases Nat.lt_or_ge 60 ((whole p n).size + 3) with q | q
                            · exact absurd hE (back_bad (by omega))
                            · exact q
                          refine XO.guardSkip rfl rfl rfl rfl rfl ?_
                          refine XO.guardSkip rfl rfl rfl rfl rfl ?_
                          refine XO.guardSkip rfl rfl rfl rfl rfl ?_
                          refine XO.guardSkip rfl rfl rfl rfl rfl ?_
                          refine XO.v (V.pick rfl rfl rfl rfl) rfl ?_
                          refine XO.v (V.move rfl) rfl ?_
                          refine XO.guardRun rfl rfl rfl ?_
                          refine XO.v (V.move rfl) rfl ?_
                          refine XO.guardRun rfl rfl rfl ?_
                          refine XO.v (V.errNil rfl Tryd.underlying26 rfl) rfl ?_
                          refine XO.guardRun rfl rfl rfl ?_
                          refine XO.v (V.move rfl) rfl ?_
                          refine XO.splitT (d := 262) rfl (hE) ?_
                          refine XO.guardRun rfl rfl rfl ?_
                          refine XO.v (V.loadAgg rfl (inXM .here) (encW.agg _) ag_42 sz_42_2) rfl ?_
                          refine XO.guardRun rfl rfl rfl ?_
                          refine XO.v (V.loadAgg rfl (inXM (.there (.there (.there (.there (.there (.there .here))))))) (encW.agg _) ag_42 sz_42_2) rfl ?_
                          refine XO.guardRun rfl rfl rfl ?_
                          refine XO.v (V.eqW rfl rfl whEq) rfl ?_
                          refine XO.guardRun rfl rfl rfl ?_
                          refine XO.v (V.pick rfl rfl rfl rfl) rfl ?_
                          refine XO.v (V.pick rfl rfl rfl rfl) rfl ?_
                          refine XO.v (V.assign rfl) rfl ?_
                          refine XO.nil ?_
                          refine XE.next ?_
                          refine XC.keep [(6, _)] (Sub.cons rfl (Sub.nil _)) ?_
                          refine XC.ret ?_
                          refine XE.ret1 rfl rfl (post_of .nil rfl ?_)
                          exact ⟨by rw [(hP.back hsm).2]; simp, rfl⟩
                      · try simp only [sb] at h22
                        refine XO.guardSkip rfl rfl rfl rfl rfl ?_
                        refine XO.guardSkip rfl rfl rfl rfl rfl ?_
                        refine XO.guardSkip rfl rfl rfl rfl rfl ?_
                        refine XO.v (V.pick rfl rfl rfl rfl) rfl ?_
                        refine XO.nil ?_
                        refine XE.next ?_
                        refine XC.keep [(12, _), (20, _), (22, _), (243, _)] (Sub.cons rfl (Sub.cons rfl (Sub.cons rfl (Sub.cons rfl (Sub.nil _))))) ?_
                        refine XC.condF rfl rfl ?_
                        refine XC.skip ?_
                        refine XE.next ?_
                        refine XC.keep [(12, _), (20, _), (22, _)] (Sub.cons rfl (Sub.cons rfl (Sub.cons rfl (Sub.nil _)))) ?_
                        refine XC.seq ?_
                        refine XC.region ?_
                        have hwb : (whole p n ++ ⟨#[47, 46, 46]⟩).size = (whole p n).size + 3 := by rw [ByteArray.size_append]; rfl
                        have hwc : (whole p n ++ ⟨#[47, 46, 46]⟩).size ≤ 100000 := by rw [hwb]; omega
                        refine XO.v (V.move rfl) rfl ?_
                        refine XO.v (V.move rfl) rfl ?_
                        refine XO.v (V.concat rfl rfl (by have h0 : (⟨#[47, 46, 46]⟩ : ByteArray).size = 3 := rfl; omega)) rfl ?_
                        refine XO.call rfl (m_Walk _ _ _ _ _ _ _ _ _ hx.v hx.m hx.le x.1 hS _ hwc) (.cons .here (.cons .here (.cons .here (.cons .here (.cons .here .nil))))) cl_15 rfl ?_
                        rintro _ _ ⟨rfl, rfl⟩
                        refine XO.v (V.move rfl) rfl ?_
                        refine XO.v (V.extract rfl rfl) rfl ?_
                        refine XO.v (V.extract rfl rfl) rfl ?_
                        refine XO.allocZ (z := .agg (WH.arr WH.nil)) (m := 2) (C := encW WH.nil) (by kernel_rfl) rfl (encW.box _) rfl ?_
                        intro b32
                        refine XO.storeAgg rfl rfl .here (encW.st _ _) ⟨rfl, rfl⟩ sz_42_2 ?_
                        refine XO.v (V.assign rfl) rfl ?_
                        refine XO.nil ?_
                        refine XE.next ?_
                        refine XC.keep [(20, _), (21, _), (22, _), (32, _)] (Sub.cons rfl (Sub.cons rfl (Sub.cons rfl (Sub.cons rfl (Sub.nil _))))) ?_
                        refine XC.seq ?_
                        refine XC.region ?_
                        refine XO.v (V.move rfl) rfl ?_
                        refine XO.v (V.errNil rfl Tryd.underlying26 rfl) rfl ?_
                        refine XO.v (V.move rfl) rfl ?_
                        refine XO.splitP (d := 253) rfl (fun h26 => ?_) (fun h26 => ?_)
                        · skip
                          have hE : walkE x.1.toFF x.2.1.l x.2.1.r (whole p n ++ ⟨#[47, 46, 46]⟩) ≠ 0 := h26
                          have hbig : 60 < (whole p n).size + 3 := by
                            rcases Nat.lt_or_ge 60 ((whole p n).size + 3) with q | q
                            · exact q
                            · exact absurd (hP.back q).1 hE
                          refine XO.guardRun rfl rfl rfl ?_
                          refine XO.v (V.move rfl) rfl ?_
                          refine XO.guardRun rfl rfl rfl ?_
                          refine XO.v (V.lenStr rfl Tryd.underlying9) rfl ?_
                          refine XO.guardRun rfl rfl rfl ?_
                          refine XO.v (V.add rfl rfl _ (IntWalk.i64_in _ (by omega))) rfl ?_
                          refine XO.guardRun rfl rfl rfl ?_
                          refine XO.v (V.cmp rfl rfl rfl) rfl ?_
                          refine XO.v (V.pick rfl rfl rfl rfl) rfl ?_
                          refine XO.v (V.move rfl) rfl ?_
                          refine XO.splitT (d := 259) rfl (by omega) ?_
                          refine XO.guardSkip rfl rfl rfl rfl rfl ?_
                          refine XO.guardSkip rfl rfl rfl rfl rfl ?_
                          refine XO.guardSkip rfl rfl rfl rfl rfl ?_
                          refine XO.guardSkipU rfl rfl rfl rfl rfl ?_
                          refine XO.guardSkipU rfl rfl rfl rfl rfl ?_
                          refine XO.guardSkipU rfl rfl rfl rfl rfl ?_
                          refine XO.guardSkip rfl rfl rfl rfl rfl ?_
                          refine XO.v (V.pick rfl rfl rfl rfl) rfl ?_
                          refine XO.v (V.assign rfl) rfl ?_
                          refine XO.nil ?_
                          refine XE.next ?_
                          refine XC.keep [(6, _)] (Sub.cons rfl (Sub.nil _)) ?_
                          refine XC.ret ?_
                          refine XE.ret1 rfl rfl (post_of .nil rfl ?_)
                          exact ⟨rfl, rfl⟩
                        · skip
                          have hE : walkE x.1.toFF x.2.1.l x.2.1.r (whole p n ++ ⟨#[47, 46, 46]⟩) = 0 := Decidable.byContradiction h26
                          have hsm : (whole p n).size + 3 ≤ 60 := by
                            rcases Nat.lt_or_ge 60 ((whole p n).size + 3) with q | q
                            · exact absurd hE (back_bad (by omega))
                            · exact q
                          refine XO.guardSkip rfl rfl rfl rfl rfl ?_
                          refine XO.guardSkip rfl rfl rfl rfl rfl ?_
                          refine XO.guardSkip rfl rfl rfl rfl rfl ?_
                          refine XO.guardSkip rfl rfl rfl rfl rfl ?_
                          refine XO.v (V.pick rfl rfl rfl rfl) rfl ?_
                          refine XO.v (V.move rfl) rfl ?_
                          refine XO.guardRun rfl rfl rfl ?_
                          refine XO.v (V.move rfl) rfl ?_
                          refine XO.guardRun rfl rfl rfl ?_
                          refine XO.v (V.errNil rfl Tryd.underlying26 rfl) rfl ?_
                          refine XO.guardRun rfl rfl rfl ?_
                          refine XO.v (V.move rfl) rfl ?_
                          refine XO.splitT (d := 262) rfl (hE) ?_
                          refine XO.guardRun rfl rfl rfl ?_
                          refine XO.v (V.loadAgg rfl (inXM .here) (encW.agg _) ag_42 sz_42_2) rfl ?_
                          refine XO.guardRun rfl rfl rfl ?_
                          refine XO.v (V.loadAgg rfl (inXM (.there (.there (.there (.there (.there (.there .here))))))) (encW.agg _) ag_42 sz_42_2) rfl ?_
                          refine XO.guardRun rfl rfl rfl ?_
                          refine XO.v (V.eqW rfl rfl whEq) rfl ?_
                          refine XO.guardRun rfl rfl rfl ?_
                          refine XO.v (V.pick rfl rfl rfl rfl) rfl ?_
                          refine XO.v (V.pick rfl rfl rfl rfl) rfl ?_
                          refine XO.v (V.assign rfl) rfl ?_
                          refine XO.nil ?_
                          refine XE.next ?_
                          refine XC.keep [(6, _)] (Sub.cons rfl (Sub.nil _)) ?_
                          refine XC.ret ?_
                          refine XE.ret1 rfl rfl (post_of .nil rfl ?_)
                          exact ⟨by rw [(hP.back hsm).2]; simp, rfl⟩
end Go.X
