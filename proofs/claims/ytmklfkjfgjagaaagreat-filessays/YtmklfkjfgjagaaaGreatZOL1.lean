import Derived.Test.YtmklfkjfgjagaaaGreatXShort
import Derived.Test.YtmklfkjfgjagaaaGreatZOLW
namespace Go.X
open Go Go.Proofs
theorem ag_63 : aggT Tryz.prog 63 = true := by kernel_rfl
theorem cl_11 : callable Tryz.prog 11 = true := by kernel_rfl
theorem cl_12 : callable Tryz.prog 12 = true := by kernel_rfl
theorem cl_13 : callable Tryz.prog 13 = true := by kernel_rfl
theorem cl_18 : callable Tryz.prog 18 = true := by kernel_rfl
theorem cl_19 : callable Tryz.prog 19 = true := by kernel_rfl
theorem cl_21 : callable Tryz.prog 21 = true := by kernel_rfl
theorem cl_4 : callable Tryz.prog 4 = true := by kernel_rfl
theorem cl_5 : callable Tryz.prog 5 = true := by kernel_rfl
theorem cl_6 : callable Tryz.prog 6 = true := by kernel_rfl
theorem sz_63_8 : szOf Tryz.prog 63 = some 8 := by kernel_rfl
set_option maxRecDepth 10000 in
set_option maxHeartbeats 8000000 in
theorem law_some (bl ol len cap : Nat) (hlen : len ≤ cap) (A : Int → ActV) (hA : ∀ z : Int, 0 ≤ z → z < len → (A z).ok) : Spec Tryz.prog 3 [.slice (some ⟨bl, ol, none⟩) len cap]
    [.ro bl ol (8 * len) (encActs A)]
    (fun v H1 => v = .bool true ∧ H1 = []) := by
 obtain ⟨d0, k0⟩ := FF.inv_void.plant
 refine Spec.intro Tryz.func3 rfl rfl ?_
 intro W
 refine XC.sr ?_
 refine XO.as rfl rfl ?_
 refine XO.nk [(0, _)] (S1 rfl) ?_
 refine XC.sr ?_
 refine XO.call rfl (opens_any) .nil cl_4 rfl ?_
 rintro _ _ ⟨rfl, rfl⟩
 refine XO.as rfl rfl ?_
 refine XO.nk [(0, _), (3, _)] (S2 rfl rfl) ?_
 refine XC.seq ?_
 refine XC.sr ?_
 refine XO.mv rfl rfl ?_
 refine XO.v (V.not rfl) rfl ?_
 refine XO.mv rfl rfl ?_
 refine XO.guardRun rfl rfl rfl ?_
 refine XO.mv rfl rfl ?_
 refine XO.guardRun rfl rfl rfl ?_
 refine XO.call rfl (light_any _ _ _ _) .nil cl_5 rfl ?_
 rintro _ _ ⟨rfl, rfl⟩
 refine XO.guardRun rfl rfl rfl ?_
 refine XO.v (V.notP rfl) rfl ?_
 refine XO.v (V.pick rfl rfl rfl rfl) rfl ?_
 refine XO.mv rfl rfl ?_
 refine XO.splitP (d := 28) rfl (fun h1 => ?_) (fun h1 => ?_)
 ·
  refine XO.guardSkip rfl rfl rfl rfl rfl ?_
  refine XO.guardSkip rfl rfl rfl rfl rfl ?_
  refine XO.guardSkip rfl rfl rfl rfl rfl ?_
  refine XO.v (V.pick rfl rfl rfl rfl) rfl ?_
  refine XO.nk [(0, _), (3, _), (32, _)] (S3 rfl rfl rfl) ?_
  refine XC.condT rfl rfl ?_
  refine XC.sr ?_
  refine XO.mv rfl rfl ?_
  refine XO.as rfl rfl ?_
  refine XO.nk [(2, _)] (S1 rfl) ?_
  refine XC.ret ?_
  refine XE.thenRet ?_
  refine XE.ret1 rfl rfl (post_of .nil rfl ?_)
  exact ⟨rfl, rfl⟩
 ·
  refine XO.guardRun rfl rfl rfl ?_
  refine XO.mv rfl rfl ?_
  refine XO.guardRun rfl rfl rfl ?_
  refine XO.callR 0 rfl (texts_any _ _ len cap hlen A hA (by omega) _) .h1 rfl cl_6 rfl ?_
  rintro _ _ ⟨⟨bt, rfl, tx⟩, rfl⟩
  refine XO.guardRun rfl rfl rfl ?_
  refine XO.v (V.not rfl) rfl ?_
  refine XO.v (V.pick rfl rfl rfl rfl) rfl ?_
  refine XO.nk [(0, _), (3, _), (32, _)] (S3 rfl rfl rfl) ?_
  refine XC.cond rfl (fun h2 => ?_) (fun h2 => ?_)
  ·
   try simp only [sb] at h2
   refine XC.sr ?_
   refine XO.mv rfl rfl ?_
   refine XO.as rfl rfl ?_
   refine XO.nk [(2, _)] (S1 rfl) ?_
   refine XC.ret ?_
   refine XE.thenRet ?_
   refine XE.ret1 rfl rfl (post_of .nil rfl ?_)
   exact ⟨rfl, rfl⟩
  ·
   try simp only [sb] at h2
   have tx := tx (by simpa using h2)
   refine XC.skip ?_
   refine XE.next ?_
   refine XC.keep [(0, _)] (S1 rfl) ?_
   refine XC.sr ?_
   refine XO.call rfl (t_New) .nil cl_7 rfl ?_
   rintro _ _ ⟨bf, rfl, rfl⟩
   refine XO.as rfl rfl ?_
   refine XO.nk [(0, _), (4, _)] (S2 rfl rfl) ?_
   refine XC.sr ?_
   refine XO.v (V.build (vs := #[]) rfl (v := .agg arrM0) (fun _ => by kernel_rfl)) rfl ?_
   refine XO.box (m := 321) (C := encM FC.void) rfl arrM0_size arrM0_box rfl ?_
   intro bm
   refine XO.mono (fun _ hw3 => XM.newForest hw3) ?_
   refine XO.as rfl rfl ?_
   refine XO.nk [(0, _), (4, _), (5, _)] (S3 rfl rfl rfl) ?_
   refine XC.sr ?_
   refine XO.mv rfl rfl ?_
   refine XO.call rfl (t_Plant _ _ _ (FF.inv_void.sh (by omega))) (.cons (.t4 .here) (.cons (.t4 .here) (.cons (.t4 .here) (.cons (.t4 .here) .nil)))) cl_8 rfl ?_
   rintro _ _ ⟨t0, rfl, ht0, rfl⟩
   refine XO.mv rfl rfl ?_
   refine XO.v (V.extract rfl rfl) rfl ?_
   refine XO.v (V.extract rfl rfl) rfl ?_
   refine XO.nk [(0, _), (4, _), (5, _)] (S3 rfl rfl rfl) ?_
   refine XC.sr ?_
   refine XO.mv rfl rfl ?_
   refine XO.call rfl (r_Plant _ _ _ (FF.inv_void.sh (by omega))) (.cons (.t7 .here) (.cons (.t4 .here) (.cons (.t4 .here) (.cons (.t4 .here) .nil)))) cl_9 rfl ?_
   rintro _ _ ⟨u0, rfl, hu0, rfl⟩
   refine XO.nk [(0, _), (4, _), (5, _)] (S3 rfl rfl rfl) ?_
   refine XC.sr ?_
   refine XO.v (V.build (vs := #[]) rfl (v := .agg #[.string ⟨#[]⟩, .int .i64 0, .int .i64 0, .string ⟨#[]⟩, .int .i64 0, .int .i64 0, .string ⟨#[]⟩, .int .i64 0, .int .i64 0, .string ⟨#[]⟩, .int .i64 0, .int .i64 0, .string ⟨#[]⟩, .int .i64 0, .int .i64 0, .string ⟨#[]⟩, .int .i64 0, .int .i64 0, .string ⟨#[]⟩, .int .i64 0, .int .i64 0, .string ⟨#[]⟩, .int .i64 0, .int .i64 0]) (fun _ => by kernel_rfl)) rfl ?_
   refine XO.box (m := 24) (C := encP PS.init) rfl rfl boxP_init rfl ?_
   intro bp
   refine XO.as rfl rfl ?_
   refine XO.nk [(0, _), (4, _), (5, _), (6, _)] (S4 rfl rfl rfl rfl) ?_
   refine XC.sr ?_
   refine XO.v (V.build (vs := #[]) rfl (v := .agg #[.string ⟨#[]⟩, .string ⟨#[]⟩, .string ⟨#[]⟩, .string ⟨#[]⟩, .string ⟨#[]⟩, .string ⟨#[]⟩, .string ⟨#[]⟩, .string ⟨#[]⟩, .int .i64 0, .int .i64 0, .int .i64 0, .int .i64 0, .int .i64 0, .int .i64 0, .int .i64 0, .int .i64 0, .int .i64 0, .int .i64 0, .int .i64 0, .int .i64 0, .int .i64 0, .int .i64 0, .int .i64 0, .int .i64 0]) (fun _ => by kernel_rfl)) rfl ?_
   refine XO.box (m := 24) (C := encR PS.init) rfl rfl boxR_init rfl ?_
   intro bx
   refine XO.as rfl rfl ?_
   refine XO.nk [(0, _), (4, _), (5, _), (6, _), (7, _)] (S5 rfl rfl rfl rfl rfl) ?_
   refine XC.sr ?_
   refine XO.mv rfl rfl ?_
   refine XO.mv rfl rfl ?_
   refine XO.call rfl (f_New bf bp) .nil cl_10 rfl ?_
   rintro _ _ ⟨bo, rfl, rfl⟩
   refine XO.as rfl rfl ?_
   refine XO.nk [(0, _), (4, _), (5, _), (6, _), (7, _), (8, _)] (S6 rfl rfl rfl rfl rfl rfl) ?_
   refine XC.sr ?_
   refine XO.mv rfl rfl ?_
   refine XO.mv rfl rfl ?_
   refine XO.v (V.build (vs := #[(0, ptr bm 0 0), (1, ptr bx 0 0)]) rfl (v := .agg (arrQ bm bx)) (fun _ => by kernel_rfl)) rfl ?_
   refine XO.box (m := 122) (C := encQ bm bx OS.void) rfl (arrQ_size bm bx) (arrQ_box bm bx) rfl ?_
   intro bq
   refine XO.as rfl rfl ?_
   refine XO.nk [(0, _), (4, _), (5, _), (6, _), (7, _), (8, _), (9, _)] (S7 rfl rfl rfl rfl rfl rfl rfl) ?_
   refine XC.seq ?_
   refine XC.sr ?_
   refine XO.as rfl rfl ?_
   refine XO.nk [(0, _), (4, _), (5, _), (6, _), (7, _), (8, _), (9, _), (10, _)] (S8 rfl rfl rfl rfl rfl rfl rfl rfl) ?_
   refine XC.block ?_
   refine XC.loop (σ := FC × FC × OS × PS × Int) (fun x => (len - x.2.2.2.2).toNat) (fun x => x.2.1.toFF = x.1.toFF ∧ (∃ d, x.1.toFF.Ok d (x.2.2.2.2 + 1)) ∧ x.2.2.1.Inv (x.2.2.2.2 + 1) ∧ x.2.2.2.1.Inv x.2.2.2.2 ∧ 0 ≤ x.2.2.2.2 ∧ x.2.2.2.2 ≤ len) (fun x => [(10, .int .i64 x.2.2.2.2), (0, .slice (some ⟨bl, ol, none⟩) len cap), (4, ptr bf 0 0), (5, ptr bm 0 0), (6, ptr bp 0 0), (7, ptr bx 0 0), (8, ptr bo 0 0), (9, ptr bq 0 0)]) (fun x => XM W (foot [.ro bl ol (8 * len) (encActs A)]) [.cells bf 0 321 (encF x.1), .fam fam40 (FC.rowsN 9 x.1), .fam fam40 (FC.rowsK 3 x.1), irow (FC.rP x.1) (FC.rC x.1) 3 (FC.toFF x.1).roots, .cells bm 0 321 (encM x.2.1), .fam fam40 (FC.rowsN 9 x.2.1), .fam fam40 (FC.rowsK 3 x.2.1), irow (FC.rP x.2.1) (FC.rC x.2.1) 3 (FC.toFF x.2.1).roots, .cells bo 0 122 (encO bf bp x.2.2.1), .cells bp 0 24 (encP x.2.2.2.1), .cells bq 0 122 (encQ bm bx x.2.2.1), .cells bx 0 24 (encR x.2.2.2.1), .ro bl ol (8 * len) (encActs A)]) ((t0, u0, OS.void, PS.init, 0)) ?_ (S8 rfl rfl rfl rfl rfl rfl rfl rfl) (fun _ hw => XM.pick (.cons (.t8 .here) (.cons (.t8 .here) (.cons (.t8 .here) (.cons (.t8 .here) (.cons (.t4 .here) (.cons (.t4 .here) (.cons (.t4 .here) (.cons (.t4 .here) (.cons (.there .here) (.cons (.t2 .here) .h3)))))))))) hw) ?_
   ·
    exact ⟨(hu0.trans ht0.symm : u0.toFF = t0.toFF), ⟨d0, by show t0.toFF.Ok d0 (0 + 1); rw [ht0]; exact k0⟩, OS.Inv.void, PS.Inv.init, by simp, by simp⟩
   intro x hx
   obtain ⟨hU, ⟨d, hO⟩, hOI, hq, hx0, hx1⟩ := hx
   refine XC.seq ?_
   refine XC.sr ?_
   refine XO.mv rfl rfl ?_
   refine XO.mv rfl rfl ?_
   refine XO.v (V.lenSl rfl Tryz.underlying22) rfl ?_
   refine XO.v (V.cmp rfl rfl rfl) rfl ?_
   refine XO.nk [(0, _), (4, _), (5, _), (6, _), (7, _), (8, _), (9, _), (10, _), (58, _)] (Sub.cons rfl (S8 rfl rfl rfl rfl rfl rfl rfl rfl)) ?_
   refine XC.condP rfl (fun h3 => ?_) (fun h3 => ?_)
   ·
    refine XC.skip ?_
    refine XE.next ?_
    refine XC.keep [(0, _), (4, _), (5, _), (6, _), (7, _), (8, _), (9, _), (10, _)] (S8 rfl rfl rfl rfl rfl rfl rfl rfl) ?_
    refine XC.seq ?_
    refine XC.block ?_
    refine XC.sr ?_
    refine XO.mv rfl rfl ?_
    refine XO.mv rfl rfl ?_
    refine XO.v (V.indexSl rfl rfl sl_22 (by omega)) rfl ?_
    refine XO.v (V.loadAggRo rfl (inXM (.t12 .here)) (acts_load A len _ (by omega)) ag_63 sz_63_8) rfl ?_
    refine XO.allocZ (z := .agg actZero) (m := 8) (C := cellsOf actZero) (by kernel_rfl) rfl (fun _ _ => rfl) rfl ?_
    intro ba
    refine XO.storeAgg rfl rfl .here (acts_store _) ⟨rfl, rfl⟩ sz_63_8 ?_
    refine XO.nk [(0, _), (4, _), (5, _), (6, _), (7, _), (8, _), (9, _), (10, _), (11, _)] (Sub.cons rfl (S8 rfl rfl rfl rfl rfl rfl rfl rfl)) ?_
    refine XC.sr ?_
    refine XO.as rfl rfl ?_
    refine XO.nk [(0, _), (4, _), (5, _), (6, _), (7, _), (8, _), (9, _), (10, _), (11, _)] (Sub.cons rfl (S8 rfl rfl rfl rfl rfl rfl rfl rfl)) ?_
    refine XC.cutG (σ := FC × FC × OS × PS) (fun y => y.2.1.toFF = y.1.toFF ∧ (∃ d, y.1.toFF.Ok d (x.2.2.2.2 + 2)) ∧ y.2.2.1.Inv (x.2.2.2.2 + 2) ∧ y.2.2.2.Inv (x.2.2.2.2 + 1)) (fun y => [(0, .slice (some ⟨bl, ol, none⟩) len cap), (4, ptr bf 0 0), (5, ptr bm 0 0), (6, ptr bp 0 0), (7, ptr bx 0 0), (8, ptr bo 0 0), (9, ptr bq 0 0), (10, .int .i64 x.2.2.2.2), (11, ptr ba 0 0), (12, .bool true)]) (fun y => XM W (foot [.ro bl ol (8 * len) (encActs A)]) [.cells bf 0 321 (encF y.1), .fam fam40 (FC.rowsN 9 y.1), .fam fam40 (FC.rowsK 3 y.1), irow (FC.rP y.1) (FC.rC y.1) 3 (FC.toFF y.1).roots, .cells bm 0 321 (encM y.2.1), .fam fam40 (FC.rowsN 9 y.2.1), .fam fam40 (FC.rowsK 3 y.2.1), irow (FC.rP y.2.1) (FC.rC y.2.1) 3 (FC.toFF y.2.1).roots, .cells bo 0 122 (encO bf bp y.2.2.1), .cells bp 0 24 (encP y.2.2.2), .cells bq 0 122 (encQ bm bx y.2.2.1), .cells bx 0 24 (encR y.2.2.2), .cells ba 0 8 (encAct (A x.2.2.2.2)), .ro bl ol (8 * len) (encActs A)]) ?_ ?_
    ·
     refine XC.sr ?_
     have tz := tx x.2.2.2.2 (by omega) (by omega)
     have ha : (A x.2.2.2.2).s.size ≤ 60 ∧ (A x.2.2.2.2).t.size ≤ 60 := by omega
     refine XO.v (V.fieldAddr rfl fo_63_0) rfl ?_
     refine XO.v (V.load rfl (inXM .here) (encAct.ld_Kind _) sc_9) rfl ?_
     refine XO.v (V.strCmp rfl rfl rfl) rfl ?_
     refine XO.mv rfl rfl ?_
     refine XO.splitP (d := 68) rfl (fun h4 => ?_) (fun h4 => ?_)
     ·
      refine XO.guardSkip rfl rfl rfl rfl rfl ?_
      refine XO.guardSkip rfl rfl rfl rfl rfl ?_
      refine XO.guardSkip rfl rfl rfl rfl rfl ?_
      refine XO.v (V.pick rfl rfl rfl rfl) rfl ?_
      refine XO.nk [(0, _), (4, _), (5, _), (6, _), (7, _), (8, _), (9, _), (10, _), (11, _), (72, _)] (Sub.cons rfl (Sub.cons rfl (S8 rfl rfl rfl rfl rfl rfl rfl rfl))) ?_
      refine XC.condT rfl rfl ?_
      refine XC.region ?_
      refine XO.mv rfl rfl ?_
      refine XO.mv rfl rfl ?_
      refine XO.v (V.loadAgg rfl (inXM .here) (act_agg _) ag_63 sz_63_8) rfl ?_
      refine XO.call rfl (grown_any _ _ x.1 x.2.1 hU (A x.2.2.2.2) ha d _ hO (by omega)) (.cons (.there .here) (.cons (.there .here) (.cons (.there .here) (.cons (.there .here) (.cons (.there .here) (.cons (.there .here) (.cons (.there .here) (.cons (.there .here) .nil)))))))) cl_11 rfl ?_
      rintro _ _ ⟨rfl, t, u, d2, hU2, hO2, rfl⟩
      refine XO.as rfl rfl ?_
      refine XO.nil ?_
      refine XE.meetG ((t, u, x.2.2.1, x.2.2.2.1)) ?_ (Sub.cons rfl (Sub.cons rfl (S8 rfl rfl rfl rfl rfl rfl rfl rfl))) (fun _ hw => XM.pick (.cons .here (.cons .here (.cons .here (.cons .here (.cons .here (.cons .here (.cons .here (.cons .here (.cons (.there .here) (.cons (.there .here) (.cons (.there .here) (.cons (.there .here) .h2)))))))))))) hw)
      ·
       exact ⟨hU2, ⟨d2, hO2.up (by omega)⟩, hOI.mono (by omega), hq.mono (by omega)⟩
     ·
      refine XO.guardRun rfl rfl rfl ?_
      refine XO.v (V.fieldAddr rfl fo_63_0) rfl ?_
      refine XO.guardRun rfl rfl rfl ?_
      refine XO.v (V.load rfl (inXM .here) (encAct.ld_Kind _) sc_9) rfl ?_
      refine XO.guardRun rfl rfl rfl ?_
      refine XO.v (V.strCmp rfl rfl rfl) rfl ?_
      refine XO.v (V.pick rfl rfl rfl rfl) rfl ?_
      refine XO.nk [(0, _), (4, _), (5, _), (6, _), (7, _), (8, _), (9, _), (10, _), (11, _), (72, _)] (Sub.cons rfl (Sub.cons rfl (S8 rfl rfl rfl rfl rfl rfl rfl rfl))) ?_
      refine XC.condP rfl (fun h5 => ?_) (fun h5 => ?_)
      ·
       refine XC.region ?_
       refine XO.mv rfl rfl ?_
       refine XO.mv rfl rfl ?_
       refine XO.v (V.loadAgg rfl (inXM .here) (act_agg _) ag_63 sz_63_8) rfl ?_
       refine XO.call rfl (grown_any _ _ x.1 x.2.1 hU (A x.2.2.2.2) ha d _ hO (by omega)) (.cons (.there .here) (.cons (.there .here) (.cons (.there .here) (.cons (.there .here) (.cons (.there .here) (.cons (.there .here) (.cons (.there .here) (.cons (.there .here) .nil)))))))) cl_11 rfl ?_
       rintro _ _ ⟨rfl, t, u, d2, hU2, hO2, rfl⟩
       refine XO.as rfl rfl ?_
       refine XO.nil ?_
       refine XE.meetG ((t, u, x.2.2.1, x.2.2.2.1)) ?_ (Sub.cons rfl (Sub.cons rfl (S8 rfl rfl rfl rfl rfl rfl rfl rfl))) (fun _ hw => XM.pick (.cons .here (.cons .here (.cons .here (.cons .here (.cons .here (.cons .here (.cons .here (.cons .here (.cons (.there .here) (.cons (.there .here) (.cons (.there .here) (.cons (.there .here) .h2)))))))))))) hw)
       ·
        exact ⟨hU2, ⟨d2, hO2.up (by omega)⟩, hOI.mono (by omega), hq.mono (by omega)⟩
      ·
       refine XC.region ?_
       refine XO.mv rfl rfl ?_
       refine XO.mv rfl rfl ?_
       refine XO.v (V.loadAgg rfl (inXM .here) (act_agg _) ag_63 sz_63_8) rfl ?_
       refine XO.call rfl (opened_any _ _ _ _ _ _ x.1 x.2.1 hU x.2.2.1 x.2.2.2.1 (A x.2.2.2.2) ha d _ hO (by omega) _ (by omega) (by omega) hOI _ (by omega) (by omega) hq) (.cons (.there .here) (.cons (.there .here) (.cons (.there .here) (.cons (.there .here) (.cons (.there .here) (.cons (.there .here) (.cons (.there .here) (.cons (.there .here) (.cons (.there .here) (.cons (.there .here) (.cons (.there .here) (.cons (.there .here) .nil)))))))))))) cl_12 rfl ?_
       rintro _ _ ⟨rfl, t, u, O2, q2, hU2, hO2, hOI2, hq2, rfl⟩
       refine XO.as rfl rfl ?_
       refine XO.nil ?_
       refine XE.meetG ((t, u, O2, q2)) ?_ (Sub.cons rfl (Sub.cons rfl (S8 rfl rfl rfl rfl rfl rfl rfl rfl))) (fun _ hw => XM.pick .h14 hw)
       ·
        exact ⟨hU2, ⟨d, hO2.up (by omega)⟩, hOI2.mono (by omega), hq2⟩
    intro y hy
    obtain ⟨hU2, ⟨d2, hO2⟩, hOI2, hq2⟩ := hy
    refine XC.sr ?_
    refine XO.mv rfl rfl ?_
    refine XO.v (V.fieldAddr rfl fo_63_1) rfl ?_
    refine XO.v (V.load rfl (inXM (.t12 .here)) (encAct.ld_A _) sc_3) rfl ?_
    refine XO.call rfl (f_Of _ _ _ _ y.2.2.1 _) (.cons (.t8 .here) .nil) cl_13 rfl ?_
    rintro _ _ ⟨rfl, rfl⟩
    refine XO.mv rfl rfl ?_
    refine XO.v (V.extract rfl rfl) rfl ?_
    refine XO.v (V.extract rfl rfl) rfl ?_
    refine XO.v (V.extract rfl rfl) rfl ?_
    refine XO.v (V.extract rfl rfl) rfl ?_
    refine XO.v (V.extract rfl rfl) rfl ?_
    refine XO.as rfl rfl ?_
    refine XO.as rfl rfl ?_
    refine XO.as rfl rfl ?_
    refine XO.as rfl rfl ?_
    refine XO.as rfl rfl ?_
    refine XO.nk [(0, _), (4, _), (5, _), (6, _), (7, _), (8, _), (9, _), (10, _), (11, _), (12, _), (13, _), (14, _), (15, _), (16, _), (17, _)] (Sub.cons rfl (Sub.cons rfl (Sub.cons rfl (Sub.cons rfl (Sub.cons rfl (Sub.cons rfl (Sub.cons rfl (S8 rfl rfl rfl rfl rfl rfl rfl rfl)))))))) ?_
    refine XC.sr ?_
    refine XO.mv rfl rfl ?_
    refine XO.v (V.fieldAddr rfl fo_63_1) rfl ?_
    refine XO.v (V.load rfl (inXM (.t12 .here)) (encAct.ld_A _) sc_3) rfl ?_
    refine XO.call rfl (fr_Is _ _ _ _ y.2.2.1 _) (.cons (.t10 .here) .nil) cl_14 rfl ?_
    rintro _ _ ⟨rfl, rfl⟩
    refine XO.as rfl rfl ?_
    refine XO.nk [(0, _), (4, _), (5, _), (6, _), (7, _), (8, _), (9, _), (10, _), (11, _), (12, _), (13, _), (14, _), (15, _), (16, _), (17, _), (18, _)] (Sub.cons rfl (Sub.cons rfl (Sub.cons rfl (Sub.cons rfl (Sub.cons rfl (Sub.cons rfl (Sub.cons rfl (Sub.cons rfl (S8 rfl rfl rfl rfl rfl rfl rfl rfl))))))))) ?_
    refine XC.sr ?_
    refine XO.v (V.build (vs := #[]) rfl (v := .agg (encQ.arr ⟨0, 0, 0, 0, false⟩)) (fun _ => by kernel_rfl)) rfl ?_
    refine XO.allocZ (z := .agg (encQ.arr ⟨0, 0, 0, 0, false⟩)) (m := 5) (C := encQ.cell ⟨0, 0, 0, 0, false⟩) (by kernel_rfl) rfl (encQ.box _) rfl ?_
    intro bu
    refine XO.storeAgg rfl rfl .here (encQ.ust _ _) ⟨rfl, rfl⟩ sz_57_5 ?_
    refine XO.nk [(0, _), (4, _), (5, _), (6, _), (7, _), (8, _), (9, _), (10, _), (11, _), (12, _), (13, _), (14, _), (15, _), (16, _), (17, _), (18, _), (19, _)] (Sub.cons rfl (Sub.cons rfl (Sub.cons rfl (Sub.cons rfl (Sub.cons rfl (Sub.cons rfl (Sub.cons rfl (Sub.cons rfl (Sub.cons rfl (S8 rfl rfl rfl rfl rfl rfl rfl rfl)))))))))) ?_
    refine XC.seq ?_
    refine XC.sr ?_
    refine XO.mv rfl rfl ?_
    refine XO.v (V.cmp rfl rfl rfl) rfl ?_
    refine XO.nk [(0, _), (4, _), (5, _), (6, _), (7, _), (8, _), (9, _), (10, _), (11, _), (12, _), (13, _), (14, _), (15, _), (16, _), (17, _), (18, _), (19, _), (97, _)] (Sub.cons rfl (Sub.cons rfl (Sub.cons rfl (Sub.cons rfl (Sub.cons rfl (Sub.cons rfl (Sub.cons rfl (Sub.cons rfl (Sub.cons rfl (Sub.cons rfl (S8 rfl rfl rfl rfl rfl rfl rfl rfl))))))))))) ?_
    refine XC.condP rfl (fun h6 => ?_) (fun h6 => ?_)
    ·
     have i0 : OS.is y.2.2.1 (A x.2.2.2.2).a = 0 := h6
     obtain ⟨i1, i2, i3⟩ := OS.is_0 i0
     refine XC.regionQ mixed (f := 8) (l := #[false, false, false, false, false, false, false, false]) rfl rfl XM.drawn' ?_
     refine XQ.pv (i := 0) (l' := #[tt,ff,ff,ff,ff,ff,ff,ff]) rfl (by kernel_rfl) rfl (V.move rfl) rfl rfl ?_
     refine XQ.pv (i := 1) (l' := #[tt,tt,ff,ff,ff,ff,ff,ff]) rfl (by kernel_rfl) rfl (V.fieldAddr rfl fo_63_1) rfl rfl ?_
     refine XQ.load (i := 2) (l' := #[tt,tt,tt,ff,ff,ff,ff,ff]) (.cells _ _ _ _) [7] rfl (by kernel_rfl) rfl (.there (.there (.there (.there (.there (.there (.there (.there (.there (.there (.there (.there (.there .here))))))))))))) (V.load rfl inEnt (encAct.ld_A _) sc_3) rfl (by kernel_rfl) rfl ?_
     refine XQ.pv (i := 3) (l' := #[tt,tt,tt,tt,ff,ff,ff,ff]) rfl (by kernel_rfl) rfl (V.nilCheckP rfl) rfl rfl ?_
     refine XQ.pv (i := 4) (l' := #[tt,tt,tt,tt,tt,ff,ff,ff]) rfl (by kernel_rfl) rfl (V.fieldAddr rfl fo_60_2) rfl rfl ?_
     refine XQ.pv (i := 5) (l' := #[tt,tt,tt,tt,tt,tt,ff,ff]) rfl (by kernel_rfl) rfl (V.indexArr rfl rfl ar_58 (by omega)) rfl rfl ?_
     refine XQ.load (i := 6) (l' := #[tt,tt,tt,tt,tt,tt,tt,ff]) (.cells _ _ _ _) [7] rfl (by kernel_rfl) rfl (.there .here) (V.loadAgg rfl inEnt (encQ.un_agg _ _ (by omega)) ag_57 sz_57_5) rfl (by kernel_rfl) rfl ?_
     refine XQ.storeAgg (i := 7) (l' := #[tt,tt,tt,tt,tt,tt,tt,tt]) rfl (by kernel_rfl) rfl rfl rfl .here (encQ.ust _ _) ⟨rfl, rfl⟩ sz_57_5 (fun _ hw' => ⟨fun hs => (hs 7 (by first | (simp; done) | (simp; rfl)) rfl).elim, fun hs => (hs 7 (by first | (simp; done) | (simp; rfl)) rfl).elim, trivial⟩) ?_
     refine XQ.done (by kernel_rfl) ?_
     refine XE.next ?_
     refine XC.keep [(0, _), (4, _), (5, _), (6, _), (7, _), (8, _), (9, _), (10, _), (11, _), (12, _), (13, _), (14, _), (15, _), (16, _), (17, _), (18, _), (19, _)] (Sub.cons rfl (Sub.cons rfl (Sub.cons rfl (Sub.cons rfl (Sub.cons rfl (Sub.cons rfl (Sub.cons rfl (Sub.cons rfl (Sub.cons rfl (S8 rfl rfl rfl rfl rfl rfl rfl rfl)))))))))) ?_
     refine XC.seq ?_
     refine XC.sr ?_
     refine XO.mv rfl rfl ?_
     refine XO.v (V.not rfl) rfl ?_
     refine XO.mv rfl rfl ?_
     refine XO.guardRun rfl rfl rfl ?_
     refine XO.mv rfl rfl ?_
     refine XO.guardRun rfl rfl rfl ?_
     refine XO.mv rfl rfl ?_
     refine XO.guardRun rfl rfl rfl ?_
     refine XO.call rfl (same_any _ _ (by first | omega | exact OS.is_nn _ _)) .nil cl_15 rfl ?_
     rintro _ _ ⟨rfl, rfl⟩
     refine XO.guardRun rfl rfl rfl ?_
     refine XO.v (V.notP rfl) rfl ?_
     refine XO.v (V.pick rfl rfl rfl rfl) rfl ?_
     refine XO.mv rfl rfl ?_
     refine XO.splitF (d := 113) rfl (by simp) ?_
     refine XO.guardRun rfl rfl rfl ?_
     refine XO.mv rfl rfl ?_
     refine XO.guardRun rfl rfl rfl ?_
     refine XO.v (V.fieldAddr rfl fo_57_0) rfl ?_
     refine XO.guardRun rfl rfl rfl ?_
     refine XO.v (V.load rfl (inXM .here) (encQ.u_0 _) sc_3) rfl ?_
     refine XO.guardRun rfl rfl rfl ?_
     refine XO.v (V.cmp rfl rfl rfl) rfl ?_
     refine XO.v (V.pick rfl rfl rfl rfl) rfl ?_
     refine XO.mv rfl rfl ?_
     refine XO.splitF (d := 119) rfl (fun h => h (ofx_yes i0 _)) ?_
     refine XO.guardRun rfl rfl rfl ?_
     refine XO.mv rfl rfl ?_
     refine XO.guardRun rfl rfl rfl ?_
     refine XO.v (V.fieldAddr rfl fo_57_1) rfl ?_
     refine XO.guardRun rfl rfl rfl ?_
     refine XO.v (V.load rfl (inXM .here) (encQ.u_1 _) sc_3) rfl ?_
     refine XO.guardRun rfl rfl rfl ?_
     refine XO.v (V.cmp rfl rfl rfl) rfl ?_
     refine XO.v (V.pick rfl rfl rfl rfl) rfl ?_
     refine XO.mv rfl rfl ?_
     refine XO.splitF (d := 125) rfl (fun h => h (ofx_yes i0 _)) ?_
     refine XO.guardRun rfl rfl rfl ?_
     refine XO.mv rfl rfl ?_
     refine XO.guardRun rfl rfl rfl ?_
     refine XO.v (V.fieldAddr rfl fo_57_2) rfl ?_
     refine XO.guardRun rfl rfl rfl ?_
     refine XO.v (V.load rfl (inXM .here) (encQ.u_2 _) sc_3) rfl ?_
     refine XO.guardRun rfl rfl rfl ?_
     refine XO.v (V.cmp rfl rfl rfl) rfl ?_
     refine XO.v (V.pick rfl rfl rfl rfl) rfl ?_
     refine XO.mv rfl rfl ?_
     refine XO.splitF (d := 131) rfl (fun h => h (ofx_yes i0 _)) ?_
     refine XO.guardRun rfl rfl rfl ?_
     refine XO.mv rfl rfl ?_
     refine XO.guardRun rfl rfl rfl ?_
     refine XO.v (V.fieldAddr rfl fo_57_3) rfl ?_
     refine XO.guardRun rfl rfl rfl ?_
     refine XO.v (V.load rfl (inXM .here) (encQ.u_3 _) sc_3) rfl ?_
     refine XO.guardRun rfl rfl rfl ?_
     refine XO.v (V.cmp rfl rfl rfl) rfl ?_
     refine XO.v (V.pick rfl rfl rfl rfl) rfl ?_
     refine XO.nk [(0, _), (4, _), (5, _), (6, _), (7, _), (8, _), (9, _), (10, _), (11, _), (136, _)] (Sub.cons rfl (Sub.cons rfl (S8 rfl rfl rfl rfl rfl rfl rfl rfl))) ?_
     refine XC.condFP rfl (fun h => h (ofx_yes i0 _)) ?_
     refine XC.skip ?_
     refine XE.next ?_
     refine XC.keep [(0, _), (4, _), (5, _), (6, _), (7, _), (8, _), (9, _), (10, _), (11, _)] (Sub.cons rfl (S8 rfl rfl rfl rfl rfl rfl rfl rfl)) ?_
     refine XC.seq ?_
     refine XC.regionQ mixed (f := 30) (l := #[false, false, false, false, false, false, false, false, false, false, false, false, false, false, false, false, false, false, false, false, false, false, false, false, false, false, false, false, false, false]) rfl rfl XM.drawn' ?_
     refine XQ.pv (i := 0) (l' := #[tt,ff,ff,ff,ff,ff,ff,ff,ff,ff,ff,ff,ff,ff,ff,ff,ff,ff,ff,ff,ff,ff,ff,ff,ff,ff,ff,ff,ff,ff]) rfl (by kernel_rfl) rfl (V.move rfl) rfl rfl ?_
     refine XQ.pv (i := 2) (l' := #[tt,ff,tt,ff,ff,ff,ff,ff,ff,ff,ff,ff,ff,ff,ff,ff,ff,ff,ff,ff,ff,ff,ff,ff,ff,ff,ff,ff,ff,ff]) rfl (by kernel_rfl) rfl (V.move rfl) rfl rfl ?_
     refine XQ.call (i := 1) (l' := #[tt,tt,tt,ff,ff,ff,ff,ff,ff,ff,ff,ff,ff,ff,ff,ff,ff,ff,ff,ff,ff,ff,ff,ff,ff,ff,ff,ff,ff,ff]) rfl (by kernel_rfl) rfl rfl (f_Open _ _ _ _ y.2.2.1) (.cons (.t2 .here) .nil) cl_16 rfl (by rintro _ _ ⟨rfl, rfl⟩; all_goals (intro _ hw'; exact trivial)) ?_
     rintro _ _ ⟨rfl, rfl⟩
     refine XQ.call (i := 3) (l' := #[tt,tt,tt,tt,ff,ff,ff,ff,ff,ff,ff,ff,ff,ff,ff,ff,ff,ff,ff,ff,ff,ff,ff,ff,ff,ff,ff,ff,ff,ff]) rfl (by kernel_rfl) rfl rfl (fr_Open _ _ _ _ y.2.2.1) (.cons (.t2 .here) .nil) cl_17 rfl (by rintro _ _ ⟨rfl, rfl⟩; all_goals (intro _ hw'; exact trivial)) ?_
     rintro _ _ ⟨rfl, rfl⟩
     refine XQ.pv (i := 4) (l' := #[tt,tt,tt,tt,tt,ff,ff,ff,ff,ff,ff,ff,ff,ff,ff,ff,ff,ff,ff,ff,ff,ff,ff,ff,ff,ff,ff,ff,ff,ff]) rfl (by kernel_rfl) rfl (V.cmp rfl rfl rfl) rfl rfl ?_
     refine XQ.pv (i := 5) (l' := #[tt,tt,tt,tt,tt,tt,ff,ff,ff,ff,ff,ff,ff,ff,ff,ff,ff,ff,ff,ff,ff,ff,ff,ff,ff,ff,ff,ff,ff,ff]) rfl (by kernel_rfl) rfl (V.move rfl) rfl rfl ?_
     refine XQ.splitF (d := 142) rfl (fun h => h rfl) ?_
     refine XQ.pvG (i := 6) (l' := #[tt,tt,tt,tt,tt,tt,tt,ff,ff,ff,ff,ff,ff,ff,ff,ff,ff,ff,ff,ff,ff,ff,ff,ff,ff,ff,ff,ff,ff,ff]) rfl rfl rfl (by kernel_rfl) rfl (V.move rfl) rfl rfl ?_
     refine XQ.pvG (i := 8) (l' := #[tt,tt,tt,tt,tt,tt,tt,ff,tt,ff,ff,ff,ff,ff,ff,ff,ff,ff,ff,ff,ff,ff,ff,ff,ff,ff,ff,ff,ff,ff]) rfl rfl rfl (by kernel_rfl) rfl (V.move rfl) rfl rfl ?_
     refine XQ.callG (i := 7) (l' := #[tt,tt,tt,tt,tt,tt,tt,tt,tt,ff,ff,ff,ff,ff,ff,ff,ff,ff,ff,ff,ff,ff,ff,ff,ff,ff,ff,ff,ff,ff]) rfl rfl rfl (by kernel_rfl) rfl rfl (p_Pipes _ _ (x.2.2.2.2 + 1) (by omega) _ hq2) (.cons (.t11 .here) .nil) cl_18 rfl (by rintro _ _ ⟨rfl, rfl⟩; all_goals (intro _ hw'; exact trivial)) ?_
     rintro _ _ ⟨rfl, rfl⟩
     refine XQ.callG (i := 9) (l' := #[tt,tt,tt,tt,tt,tt,tt,tt,tt,tt,ff,ff,ff,ff,ff,ff,ff,ff,ff,ff,ff,ff,ff,ff,ff,ff,ff,ff,ff,ff]) rfl rfl rfl (by kernel_rfl) rfl rfl (pr_Pipes _ _ (x.2.2.2.2 + 1) (by omega) _ hq2) (.cons (.t12 .here) .nil) cl_19 rfl (by rintro _ _ ⟨rfl, rfl⟩; all_goals (intro _ hw'; exact trivial)) ?_
     rintro _ _ ⟨rfl, rfl⟩
     refine XQ.pvG (i := 10) (l' := #[tt,tt,tt,tt,tt,tt,tt,tt,tt,tt,tt,ff,ff,ff,ff,ff,ff,ff,ff,ff,ff,ff,ff,ff,ff,ff,ff,ff,ff,ff]) rfl rfl rfl (by kernel_rfl) rfl (V.cmp rfl rfl rfl) rfl rfl ?_
     refine XQ.pv (i := 11) (l' := #[tt,tt,tt,tt,tt,tt,tt,tt,tt,tt,tt,tt,ff,ff,ff,ff,ff,ff,ff,ff,ff,ff,ff,ff,ff,ff,ff,ff,ff,ff]) rfl (by kernel_rfl) rfl (V.pick rfl rfl rfl rfl) rfl rfl ?_
     refine XQ.pv (i := 12) (l' := #[tt,tt,tt,tt,tt,tt,tt,tt,tt,tt,tt,tt,tt,ff,ff,ff,ff,ff,ff,ff,ff,ff,ff,ff,ff,ff,ff,ff,ff,ff]) rfl (by kernel_rfl) rfl (V.move rfl) rfl rfl ?_
     refine XQ.splitF (d := 149) rfl (fun h => h rfl) ?_
     refine XQ.pvG (i := 13) (l' := #[tt,tt,tt,tt,tt,tt,tt,tt,tt,tt,tt,tt,tt,tt,ff,ff,ff,ff,ff,ff,ff,ff,ff,ff,ff,ff,ff,ff,ff,ff]) rfl rfl rfl (by kernel_rfl) rfl (V.move rfl) rfl rfl ?_
     refine XQ.pvG (i := 14) (l' := #[tt,tt,tt,tt,tt,tt,tt,tt,tt,tt,tt,tt,tt,tt,tt,ff,ff,ff,ff,ff,ff,ff,ff,ff,ff,ff,ff,ff,ff,ff]) rfl rfl rfl (by kernel_rfl) rfl (V.fieldAddr rfl fo_63_2) rfl rfl ?_
     refine XQ.loadG (i := 15) (l' := #[tt,tt,tt,tt,tt,tt,tt,tt,tt,tt,tt,tt,tt,tt,tt,tt,ff,ff,ff,ff,ff,ff,ff,ff,ff,ff,ff,ff,ff,ff]) (.cells _ _ _ _) [16, 24] rfl rfl rfl (by kernel_rfl) rfl (.there (.there (.there (.there (.there (.there (.there (.there (.there (.there (.there (.there (.there .here))))))))))))) (V.load rfl inEnt (encAct.ld_B _) sc_3) rfl (by kernel_rfl) rfl ?_
     refine XQ.pvG (i := 17) (l' := #[tt,tt,tt,tt,tt,tt,tt,tt,tt,tt,tt,tt,tt,tt,tt,tt,ff,tt,ff,ff,ff,ff,ff,ff,ff,ff,ff,ff,ff,ff]) rfl rfl rfl (by kernel_rfl) rfl (V.fieldAddr rfl fo_63_2) rfl rfl ?_
     refine XQ.loadG (i := 18) (l' := #[tt,tt,tt,tt,tt,tt,tt,tt,tt,tt,tt,tt,tt,tt,tt,tt,ff,tt,tt,ff,ff,ff,ff,ff,ff,ff,ff,ff,ff,ff]) (.cells _ _ _ _) [24] rfl rfl rfl (by kernel_rfl) rfl (.there (.there (.there (.there (.there (.there (.there (.there (.there (.there (.there (.there (.there .here))))))))))))) (V.load rfl inEnt (encAct.ld_B _) sc_3) rfl (by kernel_rfl) rfl ?_
     refine XQ.pvG (i := 19) (l' := #[tt,tt,tt,tt,tt,tt,tt,tt,tt,tt,tt,tt,tt,tt,tt,tt,ff,tt,tt,tt,ff,ff,ff,ff,ff,ff,ff,ff,ff,ff]) rfl rfl rfl (by kernel_rfl) rfl (V.cmp rfl rfl rfl) rfl rfl ?_
     refine XQ.callG (i := 16) (l' := #[tt,tt,tt,tt,tt,tt,tt,tt,tt,tt,tt,tt,tt,tt,tt,tt,tt,tt,tt,tt,ff,ff,ff,ff,ff,ff,ff,ff,ff,ff]) rfl rfl rfl (by kernel_rfl) rfl rfl (f_Room _ _ _ _ y.2.2.1 (x.2.2.2.2 + 2) (by omega) hOI2 _) (.cons (.t3 .here) .nil) cl_20 rfl (by rintro _ _ ⟨rfl, rfl⟩; all_goals (intro _ hw'; exact ⟨fun _ => inXM (.there (.there (.there (.there (.there (.there (.there (.there (.there (.there (.there (.there (.there .here))))))))))))) _ hw', fun hs => (hs 16 (by first | (simp; done) | (simp; rfl)) rfl).elim, trivial⟩)) ?_
     rintro _ _ ⟨rfl, rfl⟩
     refine XQ.pvG (i := 20) (l' := #[tt,tt,tt,tt,tt,tt,tt,tt,tt,tt,tt,tt,tt,tt,tt,tt,tt,tt,tt,tt,tt,ff,ff,ff,ff,ff,ff,ff,ff,ff]) rfl rfl rfl (by kernel_rfl) rfl (V.move rfl) rfl rfl ?_
     refine XQ.splitP (d := 157) rfl (fun h13 => ?_) (fun h13 => ?_)
     ·
      refine XQ.skip (i := 21) (l' := #[tt,tt,tt,tt,tt,tt,tt,tt,tt,tt,tt,tt,tt,tt,tt,tt,tt,tt,tt,tt,tt,tt,ff,ff,ff,ff,ff,ff,ff,ff]) rfl rfl rfl rfl rfl (by kernel_rfl) rfl rfl rfl ?_
      refine XQ.skip (i := 22) (l' := #[tt,tt,tt,tt,tt,tt,tt,tt,tt,tt,tt,tt,tt,tt,tt,tt,tt,tt,tt,tt,tt,tt,tt,ff,ff,ff,ff,ff,ff,ff]) rfl rfl rfl rfl rfl (by kernel_rfl) rfl rfl rfl ?_
      refine XQ.skip (i := 23) (l' := #[tt,tt,tt,tt,tt,tt,tt,tt,tt,tt,tt,tt,tt,tt,tt,tt,tt,tt,tt,tt,tt,tt,tt,tt,ff,ff,ff,ff,ff,ff]) rfl rfl rfl rfl rfl (by kernel_rfl) rfl rfl rfl ?_
      refine XQ.strip 24 (fun _ hw' => ⟨fun _ => inXM (.there (.there (.there (.there (.there (.there (.there (.there (.there (.there (.there (.there (.there .here))))))))))))) _ hw', fun hs => (hs 16 (by first | (simp; done) | (simp; rfl)) rfl).elim, trivial⟩) ?_
      refine XQ.skip (i := 24) (l' := #[tt,tt,tt,tt,tt,tt,tt,tt,tt,tt,tt,tt,tt,tt,tt,tt,tt,tt,tt,tt,tt,tt,tt,tt,tt,ff,ff,ff,ff,ff]) rfl rfl rfl rfl rfl (by kernel_rfl) rfl rfl rfl ?_
      refine XQ.skip (i := 25) (l' := #[tt,tt,tt,tt,tt,tt,tt,tt,tt,tt,tt,tt,tt,tt,tt,tt,tt,tt,tt,tt,tt,tt,tt,tt,tt,tt,ff,ff,ff,ff]) rfl rfl rfl rfl rfl (by kernel_rfl) rfl rfl rfl ?_
      refine XQ.skip (i := 26) (l' := #[tt,tt,tt,tt,tt,tt,tt,tt,tt,tt,tt,tt,tt,tt,tt,tt,tt,tt,tt,tt,tt,tt,tt,tt,tt,tt,tt,ff,ff,ff]) rfl rfl rfl rfl rfl (by kernel_rfl) rfl rfl rfl ?_
      refine XQ.pvG (i := 27) (l' := #[tt,tt,tt,tt,tt,tt,tt,tt,tt,tt,tt,tt,tt,tt,tt,tt,tt,tt,tt,tt,tt,tt,tt,tt,tt,tt,tt,tt,ff,ff]) rfl rfl rfl (by kernel_rfl) rfl (V.pick rfl rfl rfl rfl) rfl rfl ?_
      refine XQ.pvG (i := 28) (l' := #[tt,tt,tt,tt,tt,tt,tt,tt,tt,tt,tt,tt,tt,tt,tt,tt,tt,tt,tt,tt,tt,tt,tt,tt,tt,tt,tt,tt,tt,ff]) rfl rfl rfl (by kernel_rfl) rfl (V.boolEq (r := false) rfl rfl Tryz.underlying4 (congrArg some (by first | (rw [roomB_1 (by assumption)]; rfl) | (rw [roomB_2 (by assumption)]; simp)))) rfl rfl ?_
      refine XQ.pv (i := 29) (l' := #[tt,tt,tt,tt,tt,tt,tt,tt,tt,tt,tt,tt,tt,tt,tt,tt,tt,tt,tt,tt,tt,tt,tt,tt,tt,tt,tt,tt,tt,tt]) rfl (by kernel_rfl) rfl (V.pick rfl rfl rfl rfl) rfl rfl ?_
      refine XQ.done (by kernel_rfl) ?_
      refine XE.next ?_
      refine XC.keep [(0, _), (4, _), (5, _), (6, _), (7, _), (8, _), (9, _), (10, _), (166, _)] (Sub.cons rfl (S8 rfl rfl rfl rfl rfl rfl rfl rfl)) ?_
      refine XC.condF rfl rfl ?_
      refine XC.skip ?_
      refine XE.blockNormal ?_
      refine XE.next ?_
      refine XC.keep [(0, _), (4, _), (5, _), (6, _), (7, _), (8, _), (9, _), (10, _)] (S8 rfl rfl rfl rfl rfl rfl rfl rfl) ?_
      refine XC.region ?_
      refine XO.mv rfl rfl ?_
      refine XO.v (V.add rfl rfl _ (IntWalk.i64_in _ (by omega))) rfl ?_
      refine XO.as rfl rfl ?_
      refine XO.nil ?_
      refine XE.again ((y.1, y.2.1, y.2.2.1, y.2.2.2, x.2.2.2.2 + 1)) ?_ ?_ (S8 rfl rfl rfl rfl rfl rfl rfl rfl) (fun _ hw => XM.pick (.cons (.t5 .here) (.cons (.t5 .here) (.cons (.t5 .here) (.cons (.t5 .here) (.cons (.t5 .here) (.cons (.t5 .here) (.cons (.t5 .here) (.cons (.t5 .here) (.cons .here (.cons (.there .here) (.cons (.there .here) (.cons .here (.cons (.t2 .here) .nil))))))))))))) hw)
      ·
       (simp; omega)
      ·
       exact ⟨hU2, ⟨d2, hO2.up (by simp; omega)⟩, hOI2.mono (by simp; omega), hq2, by simp; omega, by simp; omega⟩
     ·
      refine XQ.pvG (i := 21) (l' := #[tt,tt,tt,tt,tt,tt,tt,tt,tt,tt,tt,tt,tt,tt,tt,tt,tt,tt,tt,tt,tt,tt,ff,ff,ff,ff,ff,ff,ff,ff]) rfl rfl rfl (by kernel_rfl) rfl (V.fieldAddr rfl fo_63_2) rfl rfl ?_
      refine XQ.loadG (i := 22) (l' := #[tt,tt,tt,tt,tt,tt,tt,tt,tt,tt,tt,tt,tt,tt,tt,tt,tt,tt,tt,tt,tt,tt,tt,ff,ff,ff,ff,ff,ff,ff]) (.cells _ _ _ _) [] rfl rfl rfl (by kernel_rfl) rfl (.there (.there (.there (.there (.there (.there (.there (.there (.there (.there (.there (.there (.there .here))))))))))))) (V.load rfl inEnt (encAct.ld_B _) sc_3) rfl (by kernel_rfl) rfl ?_
      refine XQ.pvG (i := 23) (l' := #[tt,tt,tt,tt,tt,tt,tt,tt,tt,tt,tt,tt,tt,tt,tt,tt,tt,tt,tt,tt,tt,tt,tt,tt,ff,ff,ff,ff,ff,ff]) rfl rfl rfl (by kernel_rfl) rfl (V.move rfl) rfl rfl ?_
      refine XQ.callG (i := 24) (l' := #[tt,tt,tt,tt,tt,tt,tt,tt,tt,tt,tt,tt,tt,tt,tt,tt,tt,tt,tt,tt,tt,tt,tt,tt,tt,ff,ff,ff,ff,ff]) rfl rfl rfl (by kernel_rfl) rfl rfl (fr_Open _ _ _ _ y.2.2.1) (.cons (.t3 .here) .nil) cl_17 rfl (by rintro _ _ ⟨rfl, rfl⟩; all_goals (intro _ hw'; exact ⟨fun _ => inXM (.there (.there (.there (.there (.there (.there (.there (.there (.there (.there (.there (.there (.there .here))))))))))))) _ hw', fun hs => (hs 24 (by first | (simp; done) | (simp; rfl)) rfl).elim, fun hs => (hs 16 (by first | (simp; done) | (simp; rfl)) rfl).elim, trivial⟩)) ?_
      rintro _ _ ⟨rfl, rfl⟩
      have hol := OS.opens_le y.2.2.1
      refine XQ.pvG (i := 25) (l' := #[tt,tt,tt,tt,tt,tt,tt,tt,tt,tt,tt,tt,tt,tt,tt,tt,tt,tt,tt,tt,tt,tt,tt,tt,tt,tt,ff,ff,ff,ff]) rfl rfl rfl (by kernel_rfl) rfl (V.sub rfl rfl _ (IntWalk.i64_in _ (by omega))) rfl rfl ?_
      refine XQ.pvG (i := 26) (l' := #[tt,tt,tt,tt,tt,tt,tt,tt,tt,tt,tt,tt,tt,tt,tt,tt,tt,tt,tt,tt,tt,tt,tt,tt,tt,tt,tt,ff,ff,ff]) rfl rfl rfl (by kernel_rfl) rfl (V.cmp rfl rfl rfl) rfl rfl ?_
      refine XQ.pvG (i := 27) (l' := #[tt,tt,tt,tt,tt,tt,tt,tt,tt,tt,tt,tt,tt,tt,tt,tt,tt,tt,tt,tt,tt,tt,tt,tt,tt,tt,tt,tt,ff,ff]) rfl rfl rfl (by kernel_rfl) rfl (V.pick rfl rfl rfl rfl) rfl rfl ?_
      refine XQ.pvG (i := 28) (l' := #[tt,tt,tt,tt,tt,tt,tt,tt,tt,tt,tt,tt,tt,tt,tt,tt,tt,tt,tt,tt,tt,tt,tt,tt,tt,tt,tt,tt,tt,ff]) rfl rfl rfl (by kernel_rfl) rfl (V.boolEq (r := false) rfl rfl Tryz.underlying4 (congrArg some (by first | (rw [roomB_1 (by assumption)]; rfl) | (rw [roomB_2 (by assumption)]; simp)))) rfl rfl ?_
      refine XQ.pv (i := 29) (l' := #[tt,tt,tt,tt,tt,tt,tt,tt,tt,tt,tt,tt,tt,tt,tt,tt,tt,tt,tt,tt,tt,tt,tt,tt,tt,tt,tt,tt,tt,tt]) rfl (by kernel_rfl) rfl (V.pick rfl rfl rfl rfl) rfl rfl ?_
      refine XQ.done (by kernel_rfl) ?_
      refine XE.next ?_
      refine XC.keep [(0, _), (4, _), (5, _), (6, _), (7, _), (8, _), (9, _), (10, _), (166, _)] (Sub.cons rfl (S8 rfl rfl rfl rfl rfl rfl rfl rfl)) ?_
      refine XC.condF rfl rfl ?_
      refine XC.skip ?_
      refine XE.blockNormal ?_
      refine XE.next ?_
      refine XC.keep [(0, _), (4, _), (5, _), (6, _), (7, _), (8, _), (9, _), (10, _)] (S8 rfl rfl rfl rfl rfl rfl rfl rfl) ?_
      refine XC.region ?_
      refine XO.mv rfl rfl ?_
      refine XO.v (V.add rfl rfl _ (IntWalk.i64_in _ (by omega))) rfl ?_
      refine XO.as rfl rfl ?_
      refine XO.nil ?_
      refine XE.again ((y.1, y.2.1, y.2.2.1, y.2.2.2, x.2.2.2.2 + 1)) ?_ ?_ (S8 rfl rfl rfl rfl rfl rfl rfl rfl) (fun _ hw => XM.pick (.cons (.t5 .here) (.cons (.t5 .here) (.cons (.t5 .here) (.cons (.t5 .here) (.cons (.t5 .here) (.cons (.t5 .here) (.cons (.t5 .here) (.cons (.t5 .here) (.cons (.there .here) (.cons (.t2 .here) (.cons .here (.cons .here (.cons (.t2 .here) .nil))))))))))))) hw)
      ·
       (simp; omega)
      ·
       exact ⟨hU2, ⟨d2, hO2.up (by simp; omega)⟩, hOI2.mono (by simp; omega), hq2, by simp; omega, by simp; omega⟩
    ·
     have i0 : ¬ OS.is y.2.2.1 (A x.2.2.2.2).a = 0 := h6
     refine XC.skip ?_
     refine XE.next ?_
     refine XC.keep [(0, _), (4, _), (5, _), (6, _), (7, _), (8, _), (9, _), (10, _), (11, _), (12, _), (13, _), (14, _), (15, _), (16, _), (17, _), (18, _), (19, _)] (Sub.cons rfl (Sub.cons rfl (Sub.cons rfl (Sub.cons rfl (Sub.cons rfl (Sub.cons rfl (Sub.cons rfl (Sub.cons rfl (Sub.cons rfl (S8 rfl rfl rfl rfl rfl rfl rfl rfl)))))))))) ?_
     refine XC.seq ?_
     refine XC.sr ?_
     refine XO.mv rfl rfl ?_
     refine XO.v (V.not rfl) rfl ?_
     refine XO.mv rfl rfl ?_
     refine XO.guardRun rfl rfl rfl ?_
     refine XO.mv rfl rfl ?_
     refine XO.guardRun rfl rfl rfl ?_
     refine XO.mv rfl rfl ?_
     refine XO.guardRun rfl rfl rfl ?_
     refine XO.call rfl (same_any _ _ (by first | omega | exact OS.is_nn _ _)) .nil cl_15 rfl ?_
     rintro _ _ ⟨rfl, rfl⟩
     refine XO.guardRun rfl rfl rfl ?_
     refine XO.v (V.notP rfl) rfl ?_
     refine XO.v (V.pick rfl rfl rfl rfl) rfl ?_
     refine XO.mv rfl rfl ?_
     refine XO.splitF (d := 113) rfl (by simp) ?_
     refine XO.guardRun rfl rfl rfl ?_
     refine XO.mv rfl rfl ?_
     refine XO.guardRun rfl rfl rfl ?_
     refine XO.v (V.fieldAddr rfl fo_57_0) rfl ?_
     refine XO.guardRun rfl rfl rfl ?_
     refine XO.v (V.load rfl (inXM .here) (encQ.u_0 _) sc_3) rfl ?_
     refine XO.guardRun rfl rfl rfl ?_
     refine XO.v (V.cmp rfl rfl rfl) rfl ?_
     refine XO.v (V.pick rfl rfl rfl rfl) rfl ?_
     refine XO.mv rfl rfl ?_
     refine XO.splitF (d := 119) rfl (fun h => h (ofx_no i0 _)) ?_
     refine XO.guardRun rfl rfl rfl ?_
     refine XO.mv rfl rfl ?_
     refine XO.guardRun rfl rfl rfl ?_
     refine XO.v (V.fieldAddr rfl fo_57_1) rfl ?_
     refine XO.guardRun rfl rfl rfl ?_
     refine XO.v (V.load rfl (inXM .here) (encQ.u_1 _) sc_3) rfl ?_
     refine XO.guardRun rfl rfl rfl ?_
     refine XO.v (V.cmp rfl rfl rfl) rfl ?_
     refine XO.v (V.pick rfl rfl rfl rfl) rfl ?_
     refine XO.mv rfl rfl ?_
     refine XO.splitF (d := 125) rfl (fun h => h (ofx_no i0 _)) ?_
     refine XO.guardRun rfl rfl rfl ?_
     refine XO.mv rfl rfl ?_
     refine XO.guardRun rfl rfl rfl ?_
     refine XO.v (V.fieldAddr rfl fo_57_2) rfl ?_
     refine XO.guardRun rfl rfl rfl ?_
     refine XO.v (V.load rfl (inXM .here) (encQ.u_2 _) sc_3) rfl ?_
     refine XO.guardRun rfl rfl rfl ?_
     refine XO.v (V.cmp rfl rfl rfl) rfl ?_
     refine XO.v (V.pick rfl rfl rfl rfl) rfl ?_
     refine XO.mv rfl rfl ?_
     refine XO.splitF (d := 131) rfl (fun h => h (ofx_no i0 _)) ?_
     refine XO.guardRun rfl rfl rfl ?_
     refine XO.mv rfl rfl ?_
     refine XO.guardRun rfl rfl rfl ?_
     refine XO.v (V.fieldAddr rfl fo_57_3) rfl ?_
     refine XO.guardRun rfl rfl rfl ?_
     refine XO.v (V.load rfl (inXM .here) (encQ.u_3 _) sc_3) rfl ?_
     refine XO.guardRun rfl rfl rfl ?_
     refine XO.v (V.cmp rfl rfl rfl) rfl ?_
     refine XO.v (V.pick rfl rfl rfl rfl) rfl ?_
     refine XO.nk [(0, _), (4, _), (5, _), (6, _), (7, _), (8, _), (9, _), (10, _), (11, _), (136, _)] (Sub.cons rfl (Sub.cons rfl (S8 rfl rfl rfl rfl rfl rfl rfl rfl))) ?_
     refine XC.condFP rfl (fun h => h (ofx_no i0 _)) ?_
     refine XC.skip ?_
     refine XE.next ?_
     refine XC.keep [(0, _), (4, _), (5, _), (6, _), (7, _), (8, _), (9, _), (10, _), (11, _)] (Sub.cons rfl (S8 rfl rfl rfl rfl rfl rfl rfl rfl)) ?_
     refine XC.seq ?_
     refine XC.regionQ mixed (f := 30) (l := #[false, false, false, false, false, false, false, false, false, false, false, false, false, false, false, false, false, false, false, false, false, false, false, false, false, false, false, false, false, false]) rfl rfl XM.drawn' ?_
     refine XQ.pv (i := 0) (l' := #[tt,ff,ff,ff,ff,ff,ff,ff,ff,ff,ff,ff,ff,ff,ff,ff,ff,ff,ff,ff,ff,ff,ff,ff,ff,ff,ff,ff,ff,ff]) rfl (by kernel_rfl) rfl (V.move rfl) rfl rfl ?_
     refine XQ.pv (i := 2) (l' := #[tt,ff,tt,ff,ff,ff,ff,ff,ff,ff,ff,ff,ff,ff,ff,ff,ff,ff,ff,ff,ff,ff,ff,ff,ff,ff,ff,ff,ff,ff]) rfl (by kernel_rfl) rfl (V.move rfl) rfl rfl ?_
     refine XQ.call (i := 1) (l' := #[tt,tt,tt,ff,ff,ff,ff,ff,ff,ff,ff,ff,ff,ff,ff,ff,ff,ff,ff,ff,ff,ff,ff,ff,ff,ff,ff,ff,ff,ff]) rfl (by kernel_rfl) rfl rfl (f_Open _ _ _ _ y.2.2.1) (.cons (.t2 .here) .nil) cl_16 rfl (by rintro _ _ ⟨rfl, rfl⟩; all_goals (intro _ hw'; exact trivial)) ?_
     rintro _ _ ⟨rfl, rfl⟩
     refine XQ.call (i := 3) (l' := #[tt,tt,tt,tt,ff,ff,ff,ff,ff,ff,ff,ff,ff,ff,ff,ff,ff,ff,ff,ff,ff,ff,ff,ff,ff,ff,ff,ff,ff,ff]) rfl (by kernel_rfl) rfl rfl (fr_Open _ _ _ _ y.2.2.1) (.cons (.t2 .here) .nil) cl_17 rfl (by rintro _ _ ⟨rfl, rfl⟩; all_goals (intro _ hw'; exact trivial)) ?_
     rintro _ _ ⟨rfl, rfl⟩
     refine XQ.pv (i := 4) (l' := #[tt,tt,tt,tt,tt,ff,ff,ff,ff,ff,ff,ff,ff,ff,ff,ff,ff,ff,ff,ff,ff,ff,ff,ff,ff,ff,ff,ff,ff,ff]) rfl (by kernel_rfl) rfl (V.cmp rfl rfl rfl) rfl rfl ?_
     refine XQ.pv (i := 5) (l' := #[tt,tt,tt,tt,tt,tt,ff,ff,ff,ff,ff,ff,ff,ff,ff,ff,ff,ff,ff,ff,ff,ff,ff,ff,ff,ff,ff,ff,ff,ff]) rfl (by kernel_rfl) rfl (V.move rfl) rfl rfl ?_
     refine XQ.splitF (d := 142) rfl (fun h => h rfl) ?_
     refine XQ.pvG (i := 6) (l' := #[tt,tt,tt,tt,tt,tt,tt,ff,ff,ff,ff,ff,ff,ff,ff,ff,ff,ff,ff,ff,ff,ff,ff,ff,ff,ff,ff,ff,ff,ff]) rfl rfl rfl (by kernel_rfl) rfl (V.move rfl) rfl rfl ?_
     refine XQ.pvG (i := 8) (l' := #[tt,tt,tt,tt,tt,tt,tt,ff,tt,ff,ff,ff,ff,ff,ff,ff,ff,ff,ff,ff,ff,ff,ff,ff,ff,ff,ff,ff,ff,ff]) rfl rfl rfl (by kernel_rfl) rfl (V.move rfl) rfl rfl ?_
     refine XQ.callG (i := 7) (l' := #[tt,tt,tt,tt,tt,tt,tt,tt,tt,ff,ff,ff,ff,ff,ff,ff,ff,ff,ff,ff,ff,ff,ff,ff,ff,ff,ff,ff,ff,ff]) rfl rfl rfl (by kernel_rfl) rfl rfl (p_Pipes _ _ (x.2.2.2.2 + 1) (by omega) _ hq2) (.cons (.t11 .here) .nil) cl_18 rfl (by rintro _ _ ⟨rfl, rfl⟩; all_goals (intro _ hw'; exact trivial)) ?_
     rintro _ _ ⟨rfl, rfl⟩
     refine XQ.callG (i := 9) (l' := #[tt,tt,tt,tt,tt,tt,tt,tt,tt,tt,ff,ff,ff,ff,ff,ff,ff,ff,ff,ff,ff,ff,ff,ff,ff,ff,ff,ff,ff,ff]) rfl rfl rfl (by kernel_rfl) rfl rfl (pr_Pipes _ _ (x.2.2.2.2 + 1) (by omega) _ hq2) (.cons (.t12 .here) .nil) cl_19 rfl (by rintro _ _ ⟨rfl, rfl⟩; all_goals (intro _ hw'; exact trivial)) ?_
     rintro _ _ ⟨rfl, rfl⟩
     refine XQ.pvG (i := 10) (l' := #[tt,tt,tt,tt,tt,tt,tt,tt,tt,tt,tt,ff,ff,ff,ff,ff,ff,ff,ff,ff,ff,ff,ff,ff,ff,ff,ff,ff,ff,ff]) rfl rfl rfl (by kernel_rfl) rfl (V.cmp rfl rfl rfl) rfl rfl ?_
     refine XQ.pv (i := 11) (l' := #[tt,tt,tt,tt,tt,tt,tt,tt,tt,tt,tt,tt,ff,ff,ff,ff,ff,ff,ff,ff,ff,ff,ff,ff,ff,ff,ff,ff,ff,ff]) rfl (by kernel_rfl) rfl (V.pick rfl rfl rfl rfl) rfl rfl ?_
     refine XQ.pv (i := 12) (l' := #[tt,tt,tt,tt,tt,tt,tt,tt,tt,tt,tt,tt,tt,ff,ff,ff,ff,ff,ff,ff,ff,ff,ff,ff,ff,ff,ff,ff,ff,ff]) rfl (by kernel_rfl) rfl (V.move rfl) rfl rfl ?_
     refine XQ.splitF (d := 149) rfl (fun h => h rfl) ?_
     refine XQ.pvG (i := 13) (l' := #[tt,tt,tt,tt,tt,tt,tt,tt,tt,tt,tt,tt,tt,tt,ff,ff,ff,ff,ff,ff,ff,ff,ff,ff,ff,ff,ff,ff,ff,ff]) rfl rfl rfl (by kernel_rfl) rfl (V.move rfl) rfl rfl ?_
     refine XQ.pvG (i := 14) (l' := #[tt,tt,tt,tt,tt,tt,tt,tt,tt,tt,tt,tt,tt,tt,tt,ff,ff,ff,ff,ff,ff,ff,ff,ff,ff,ff,ff,ff,ff,ff]) rfl rfl rfl (by kernel_rfl) rfl (V.fieldAddr rfl fo_63_2) rfl rfl ?_
     refine XQ.loadG (i := 15) (l' := #[tt,tt,tt,tt,tt,tt,tt,tt,tt,tt,tt,tt,tt,tt,tt,tt,ff,ff,ff,ff,ff,ff,ff,ff,ff,ff,ff,ff,ff,ff]) (.cells _ _ _ _) [16, 24] rfl rfl rfl (by kernel_rfl) rfl (.there (.there (.there (.there (.there (.there (.there (.there (.there (.there (.there (.there (.there .here))))))))))))) (V.load rfl inEnt (encAct.ld_B _) sc_3) rfl (by kernel_rfl) rfl ?_
     refine XQ.pvG (i := 17) (l' := #[tt,tt,tt,tt,tt,tt,tt,tt,tt,tt,tt,tt,tt,tt,tt,tt,ff,tt,ff,ff,ff,ff,ff,ff,ff,ff,ff,ff,ff,ff]) rfl rfl rfl (by kernel_rfl) rfl (V.fieldAddr rfl fo_63_2) rfl rfl ?_
     refine XQ.loadG (i := 18) (l' := #[tt,tt,tt,tt,tt,tt,tt,tt,tt,tt,tt,tt,tt,tt,tt,tt,ff,tt,tt,ff,ff,ff,ff,ff,ff,ff,ff,ff,ff,ff]) (.cells _ _ _ _) [24] rfl rfl rfl (by kernel_rfl) rfl (.there (.there (.there (.there (.there (.there (.there (.there (.there (.there (.there (.there (.there .here))))))))))))) (V.load rfl inEnt (encAct.ld_B _) sc_3) rfl (by kernel_rfl) rfl ?_
     refine XQ.pvG (i := 19) (l' := #[tt,tt,tt,tt,tt,tt,tt,tt,tt,tt,tt,tt,tt,tt,tt,tt,ff,tt,tt,tt,ff,ff,ff,ff,ff,ff,ff,ff,ff,ff]) rfl rfl rfl (by kernel_rfl) rfl (V.cmp rfl rfl rfl) rfl rfl ?_
     refine XQ.callG (i := 16) (l' := #[tt,tt,tt,tt,tt,tt,tt,tt,tt,tt,tt,tt,tt,tt,tt,tt,tt,tt,tt,tt,ff,ff,ff,ff,ff,ff,ff,ff,ff,ff]) rfl rfl rfl (by kernel_rfl) rfl rfl (f_Room _ _ _ _ y.2.2.1 (x.2.2.2.2 + 2) (by omega) hOI2 _) (.cons (.t3 .here) .nil) cl_20 rfl (by rintro _ _ ⟨rfl, rfl⟩; all_goals (intro _ hw'; exact ⟨fun _ => inXM (.there (.there (.there (.there (.there (.there (.there (.there (.there (.there (.there (.there (.there .here))))))))))))) _ hw', fun hs => (hs 16 (by first | (simp; done) | (simp; rfl)) rfl).elim, trivial⟩)) ?_
     rintro _ _ ⟨rfl, rfl⟩
     refine XQ.pvG (i := 20) (l' := #[tt,tt,tt,tt,tt,tt,tt,tt,tt,tt,tt,tt,tt,tt,tt,tt,tt,tt,tt,tt,tt,ff,ff,ff,ff,ff,ff,ff,ff,ff]) rfl rfl rfl (by kernel_rfl) rfl (V.move rfl) rfl rfl ?_
     refine XQ.splitP (d := 157) rfl (fun h20 => ?_) (fun h20 => ?_)
     ·
      refine XQ.skip (i := 21) (l' := #[tt,tt,tt,tt,tt,tt,tt,tt,tt,tt,tt,tt,tt,tt,tt,tt,tt,tt,tt,tt,tt,tt,ff,ff,ff,ff,ff,ff,ff,ff]) rfl rfl rfl rfl rfl (by kernel_rfl) rfl rfl rfl ?_
      refine XQ.skip (i := 22) (l' := #[tt,tt,tt,tt,tt,tt,tt,tt,tt,tt,tt,tt,tt,tt,tt,tt,tt,tt,tt,tt,tt,tt,tt,ff,ff,ff,ff,ff,ff,ff]) rfl rfl rfl rfl rfl (by kernel_rfl) rfl rfl rfl ?_
      refine XQ.skip (i := 23) (l' := #[tt,tt,tt,tt,tt,tt,tt,tt,tt,tt,tt,tt,tt,tt,tt,tt,tt,tt,tt,tt,tt,tt,tt,tt,ff,ff,ff,ff,ff,ff]) rfl rfl rfl rfl rfl (by kernel_rfl) rfl rfl rfl ?_
      refine XQ.strip 24 (fun _ hw' => ⟨fun _ => inXM (.there (.there (.there (.there (.there (.there (.there (.there (.there (.there (.there (.there (.there .here))))))))))))) _ hw', fun hs => (hs 16 (by first | (simp; done) | (simp; rfl)) rfl).elim, trivial⟩) ?_
      refine XQ.skip (i := 24) (l' := #[tt,tt,tt,tt,tt,tt,tt,tt,tt,tt,tt,tt,tt,tt,tt,tt,tt,tt,tt,tt,tt,tt,tt,tt,tt,ff,ff,ff,ff,ff]) rfl rfl rfl rfl rfl (by kernel_rfl) rfl rfl rfl ?_
      refine XQ.skip (i := 25) (l' := #[tt,tt,tt,tt,tt,tt,tt,tt,tt,tt,tt,tt,tt,tt,tt,tt,tt,tt,tt,tt,tt,tt,tt,tt,tt,tt,ff,ff,ff,ff]) rfl rfl rfl rfl rfl (by kernel_rfl) rfl rfl rfl ?_
      refine XQ.skip (i := 26) (l' := #[tt,tt,tt,tt,tt,tt,tt,tt,tt,tt,tt,tt,tt,tt,tt,tt,tt,tt,tt,tt,tt,tt,tt,tt,tt,tt,tt,ff,ff,ff]) rfl rfl rfl rfl rfl (by kernel_rfl) rfl rfl rfl ?_
      refine XQ.pvG (i := 27) (l' := #[tt,tt,tt,tt,tt,tt,tt,tt,tt,tt,tt,tt,tt,tt,tt,tt,tt,tt,tt,tt,tt,tt,tt,tt,tt,tt,tt,tt,ff,ff]) rfl rfl rfl (by kernel_rfl) rfl (V.pick rfl rfl rfl rfl) rfl rfl ?_
      refine XQ.pvG (i := 28) (l' := #[tt,tt,tt,tt,tt,tt,tt,tt,tt,tt,tt,tt,tt,tt,tt,tt,tt,tt,tt,tt,tt,tt,tt,tt,tt,tt,tt,tt,tt,ff]) rfl rfl rfl (by kernel_rfl) rfl (V.boolEq (r := false) rfl rfl Tryz.underlying4 (congrArg some (by first | (rw [roomB_1 (by assumption)]; rfl) | (rw [roomB_2 (by assumption)]; simp)))) rfl rfl ?_
      refine XQ.pv (i := 29) (l' := #[tt,tt,tt,tt,tt,tt,tt,tt,tt,tt,tt,tt,tt,tt,tt,tt,tt,tt,tt,tt,tt,tt,tt,tt,tt,tt,tt,tt,tt,tt]) rfl (by kernel_rfl) rfl (V.pick rfl rfl rfl rfl) rfl rfl ?_
      refine XQ.done (by kernel_rfl) ?_
      refine XE.next ?_
      refine XC.keep [(0, _), (4, _), (5, _), (6, _), (7, _), (8, _), (9, _), (10, _), (166, _)] (Sub.cons rfl (S8 rfl rfl rfl rfl rfl rfl rfl rfl)) ?_
      refine XC.condF rfl rfl ?_
      refine XC.skip ?_
      refine XE.blockNormal ?_
      refine XE.next ?_
      refine XC.keep [(0, _), (4, _), (5, _), (6, _), (7, _), (8, _), (9, _), (10, _)] (S8 rfl rfl rfl rfl rfl rfl rfl rfl) ?_
      refine XC.region ?_
      refine XO.mv rfl rfl ?_
      refine XO.v (V.add rfl rfl _ (IntWalk.i64_in _ (by omega))) rfl ?_
      refine XO.as rfl rfl ?_
      refine XO.nil ?_
      refine XE.again ((y.1, y.2.1, y.2.2.1, y.2.2.2, x.2.2.2.2 + 1)) ?_ ?_ (S8 rfl rfl rfl rfl rfl rfl rfl rfl) (fun _ hw => XM.pick (.cons (.t5 .here) (.cons (.t5 .here) (.cons (.t5 .here) (.cons (.t5 .here) (.cons (.t5 .here) (.cons (.t5 .here) (.cons (.t5 .here) (.cons (.t5 .here) (.cons .here (.cons (.there .here) (.cons (.there .here) (.cons .here (.cons (.t2 .here) .nil))))))))))))) hw)
      ·
       (simp; omega)
      ·
       exact ⟨hU2, ⟨d2, hO2.up (by simp; omega)⟩, hOI2.mono (by simp; omega), hq2, by simp; omega, by simp; omega⟩
     ·
      refine XQ.pvG (i := 21) (l' := #[tt,tt,tt,tt,tt,tt,tt,tt,tt,tt,tt,tt,tt,tt,tt,tt,tt,tt,tt,tt,tt,tt,ff,ff,ff,ff,ff,ff,ff,ff]) rfl rfl rfl (by kernel_rfl) rfl (V.fieldAddr rfl fo_63_2) rfl rfl ?_
      refine XQ.loadG (i := 22) (l' := #[tt,tt,tt,tt,tt,tt,tt,tt,tt,tt,tt,tt,tt,tt,tt,tt,tt,tt,tt,tt,tt,tt,tt,ff,ff,ff,ff,ff,ff,ff]) (.cells _ _ _ _) [] rfl rfl rfl (by kernel_rfl) rfl (.there (.there (.there (.there (.there (.there (.there (.there (.there (.there (.there (.there (.there .here))))))))))))) (V.load rfl inEnt (encAct.ld_B _) sc_3) rfl (by kernel_rfl) rfl ?_
      refine XQ.pvG (i := 23) (l' := #[tt,tt,tt,tt,tt,tt,tt,tt,tt,tt,tt,tt,tt,tt,tt,tt,tt,tt,tt,tt,tt,tt,tt,tt,ff,ff,ff,ff,ff,ff]) rfl rfl rfl (by kernel_rfl) rfl (V.move rfl) rfl rfl ?_
      refine XQ.callG (i := 24) (l' := #[tt,tt,tt,tt,tt,tt,tt,tt,tt,tt,tt,tt,tt,tt,tt,tt,tt,tt,tt,tt,tt,tt,tt,tt,tt,ff,ff,ff,ff,ff]) rfl rfl rfl (by kernel_rfl) rfl rfl (fr_Open _ _ _ _ y.2.2.1) (.cons (.t3 .here) .nil) cl_17 rfl (by rintro _ _ ⟨rfl, rfl⟩; all_goals (intro _ hw'; exact ⟨fun _ => inXM (.there (.there (.there (.there (.there (.there (.there (.there (.there (.there (.there (.there (.there .here))))))))))))) _ hw', fun hs => (hs 24 (by first | (simp; done) | (simp; rfl)) rfl).elim, fun hs => (hs 16 (by first | (simp; done) | (simp; rfl)) rfl).elim, trivial⟩)) ?_
      rintro _ _ ⟨rfl, rfl⟩
      have hol := OS.opens_le y.2.2.1
      refine XQ.pvG (i := 25) (l' := #[tt,tt,tt,tt,tt,tt,tt,tt,tt,tt,tt,tt,tt,tt,tt,tt,tt,tt,tt,tt,tt,tt,tt,tt,tt,tt,ff,ff,ff,ff]) rfl rfl rfl (by kernel_rfl) rfl (V.sub rfl rfl _ (IntWalk.i64_in _ (by omega))) rfl rfl ?_
      refine XQ.pvG (i := 26) (l' := #[tt,tt,tt,tt,tt,tt,tt,tt,tt,tt,tt,tt,tt,tt,tt,tt,tt,tt,tt,tt,tt,tt,tt,tt,tt,tt,tt,ff,ff,ff]) rfl rfl rfl (by kernel_rfl) rfl (V.cmp rfl rfl rfl) rfl rfl ?_
      refine XQ.pvG (i := 27) (l' := #[tt,tt,tt,tt,tt,tt,tt,tt,tt,tt,tt,tt,tt,tt,tt,tt,tt,tt,tt,tt,tt,tt,tt,tt,tt,tt,tt,tt,ff,ff]) rfl rfl rfl (by kernel_rfl) rfl (V.pick rfl rfl rfl rfl) rfl rfl ?_
      refine XQ.pvG (i := 28) (l' := #[tt,tt,tt,tt,tt,tt,tt,tt,tt,tt,tt,tt,tt,tt,tt,tt,tt,tt,tt,tt,tt,tt,tt,tt,tt,tt,tt,tt,tt,ff]) rfl rfl rfl (by kernel_rfl) rfl (V.boolEq (r := false) rfl rfl Tryz.underlying4 (congrArg some (by first | (rw [roomB_1 (by assumption)]; rfl) | (rw [roomB_2 (by assumption)]; simp)))) rfl rfl ?_
      refine XQ.pv (i := 29) (l' := #[tt,tt,tt,tt,tt,tt,tt,tt,tt,tt,tt,tt,tt,tt,tt,tt,tt,tt,tt,tt,tt,tt,tt,tt,tt,tt,tt,tt,tt,tt]) rfl (by kernel_rfl) rfl (V.pick rfl rfl rfl rfl) rfl rfl ?_
      refine XQ.done (by kernel_rfl) ?_
      refine XE.next ?_
      refine XC.keep [(0, _), (4, _), (5, _), (6, _), (7, _), (8, _), (9, _), (10, _), (166, _)] (Sub.cons rfl (S8 rfl rfl rfl rfl rfl rfl rfl rfl)) ?_
      refine XC.condF rfl rfl ?_
      refine XC.skip ?_
      refine XE.blockNormal ?_
      refine XE.next ?_
      refine XC.keep [(0, _), (4, _), (5, _), (6, _), (7, _), (8, _), (9, _), (10, _)] (S8 rfl rfl rfl rfl rfl rfl rfl rfl) ?_
      refine XC.region ?_
      refine XO.mv rfl rfl ?_
      refine XO.v (V.add rfl rfl _ (IntWalk.i64_in _ (by omega))) rfl ?_
      refine XO.as rfl rfl ?_
      refine XO.nil ?_
      refine XE.again ((y.1, y.2.1, y.2.2.1, y.2.2.2, x.2.2.2.2 + 1)) ?_ ?_ (S8 rfl rfl rfl rfl rfl rfl rfl rfl) (fun _ hw => XM.pick (.cons (.t5 .here) (.cons (.t5 .here) (.cons (.t5 .here) (.cons (.t5 .here) (.cons (.t5 .here) (.cons (.t5 .here) (.cons (.t5 .here) (.cons (.t5 .here) (.cons (.there .here) (.cons (.t2 .here) (.cons .here (.cons .here (.cons (.t2 .here) .nil))))))))))))) hw)
      ·
       (simp; omega)
      ·
       exact ⟨hU2, ⟨d2, hO2.up (by simp; omega)⟩, hOI2.mono (by simp; omega), hq2, by simp; omega, by simp; omega⟩
   ·
    refine XC.exit ?_
    refine XE.thenExit ?_
    refine XE.thenExit ?_
    refine XE.blockExit ?_
    refine XE.next ?_
    refine XC.keep [(4, _), (5, _)] (S2 rfl rfl) ?_
    refine XC.sr ?_
    refine XO.mv rfl rfl ?_
    refine XO.mv rfl rfl ?_
    refine XO.call rfl (as_forest _ _ x.1 x.2.1 hU d _ hO (by omega)) .h8 cl_21 rfl ?_
    rintro _ _ ⟨rfl, rfl⟩
    refine XO.as rfl rfl ?_
    refine XO.nk [(2, _)] (S1 rfl) ?_
    refine XC.ret ?_
    refine XE.ret1 rfl rfl (post_of .nil rfl ?_)
    exact ⟨rfl, rfl⟩
end Go.X
