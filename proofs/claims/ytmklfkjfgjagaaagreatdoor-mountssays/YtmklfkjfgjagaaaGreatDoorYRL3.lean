import Derived.Test.YtmklfkjfgjagaaaGreatDoorXShort
import Derived.Test.YtmklfkjfgjagaaaGreatDoorYRL2
namespace Go.X
open Go Go.Proofs
theorem ag_50 : aggT Tryz.prog 50 = true := by kernel_rfl
theorem cl_12 : callable Tryz.prog 12 = true := by kernel_rfl
theorem cl_13 : callable Tryz.prog 13 = true := by kernel_rfl
theorem cl_14 : callable Tryz.prog 14 = true := by kernel_rfl
theorem cl_17 : callable Tryz.prog 17 = true := by kernel_rfl
theorem cl_18 : callable Tryz.prog 18 = true := by kernel_rfl
theorem cl_19 : callable Tryz.prog 19 = true := by kernel_rfl
theorem cl_20 : callable Tryz.prog 20 = true := by kernel_rfl
theorem cl_21 : callable Tryz.prog 21 = true := by kernel_rfl
theorem cl_4 : callable Tryz.prog 4 = true := by kernel_rfl
theorem cl_5 : callable Tryz.prog 5 = true := by kernel_rfl
theorem cl_6 : callable Tryz.prog 6 = true := by kernel_rfl
theorem sz_50_8 : szOf Tryz.prog 50 = some 8 := by kernel_rfl
set_option maxRecDepth 10000 in
set_option maxHeartbeats 16000000 in
theorem law_some (bl ol len cap : Nat) (hlen : len ≤ cap) (A : Int → ActV) (hA : ∀ z : Int, 0 ≤ z → z < len → (A z).ok) : Spec Tryz.prog 3 [.slice (some ⟨bl, ol, none⟩) len cap]
    [.ro bl ol (8 * len) (encActs A)]
    (fun v H1 => v = .bool true ∧ H1 = []) := by
 obtain ⟨e1, e2, o1, o2⟩ := MTop.ok
 refine Spec.intro Tryz.func3 rfl rfl ?_
 intro W
 refine XC.sr ?_
 refine XO.as rfl rfl ?_
 refine XO.nk [(0, _)] (S1 rfl) ?_
 refine XC.sr ?_
 refine XO.call rfl (leads_any) .nil cl_4 rfl ?_
 rintro _ _ ⟨rfl, rfl⟩
 refine XO.as rfl rfl ?_
 refine XO.nk [(0, _), (3, _)] (S2 rfl rfl) ?_
 refine XC.seq ?_
 refine XC.sr ?_
 refine XO.mv rfl rfl ?_
 refine XO.v (V.not rfl) rfl ?_
 refine XO.mv rfl rfl ?_
 refine XO.guardRun rfl rfl rfl ?_
 refine XO.mv rfl rfl ?_
 refine XO.guardRun rfl rfl rfl ?_
 refine XO.call rfl (light_any _ _ _ _) .nil cl_5 rfl ?_
 rintro _ _ ⟨rfl, rfl⟩
 refine XO.guardRun rfl rfl rfl ?_
 refine XO.v (V.notP rfl) rfl ?_
 refine XO.v (V.pick rfl rfl rfl rfl) rfl ?_
 refine XO.mv rfl rfl ?_
 refine XO.splitP (d := 24) rfl (fun h1 => ?_) (fun h1 => ?_)
 ·
  refine XO.guardSkip rfl rfl rfl rfl rfl ?_
  refine XO.guardSkip rfl rfl rfl rfl rfl ?_
  refine XO.guardSkip rfl rfl rfl rfl rfl ?_
  refine XO.v (V.pick rfl rfl rfl rfl) rfl ?_
  refine XO.nk [(0, _), (3, _), (28, _)] (S3 rfl rfl rfl) ?_
  refine XC.condT rfl rfl ?_
  refine XC.sr ?_
  refine XO.mv rfl rfl ?_
  refine XO.as rfl rfl ?_
  refine XO.nk [(2, _)] (S1 rfl) ?_
  refine XC.ret ?_
  refine XE.thenRet ?_
  refine XE.ret1 rfl rfl (post_of .nil rfl ?_)
  exact ⟨rfl, rfl⟩
 ·
  refine XO.guardRun rfl rfl rfl ?_
  refine XO.mv rfl rfl ?_
  refine XO.guardRun rfl rfl rfl ?_
  refine XO.callR 0 rfl (texts_any _ _ len cap hlen A hA (by omega) _) .h1 rfl cl_6 rfl ?_
  rintro _ _ ⟨⟨bt, rfl, tx⟩, rfl⟩
  refine XO.guardRun rfl rfl rfl ?_
  refine XO.v (V.not rfl) rfl ?_
  refine XO.v (V.pick rfl rfl rfl rfl) rfl ?_
  refine XO.nk [(0, _), (3, _), (28, _)] (S3 rfl rfl rfl) ?_
  refine XC.cond rfl (fun h2 => ?_) (fun h2 => ?_)
  ·
   try simp only [sb] at h2
   refine XC.sr ?_
   refine XO.mv rfl rfl ?_
   refine XO.as rfl rfl ?_
   refine XO.nk [(2, _)] (S1 rfl) ?_
   refine XC.ret ?_
   refine XE.thenRet ?_
   refine XE.ret1 rfl rfl (post_of .nil rfl ?_)
   exact ⟨rfl, rfl⟩
  ·
   try simp only [sb] at h2
   have tx := tx (by simpa using h2)
   refine XC.skip ?_
   refine XE.next ?_
   refine XC.keep [(0, _)] (S1 rfl) ?_
   refine XC.sr ?_
   refine XO.call rfl (t_New) .nil cl_7 rfl ?_
   rintro _ _ ⟨bf, rfl, rfl⟩
   refine XO.as rfl rfl ?_
   refine XO.nk [(0, _), (4, _)] (S2 rfl rfl) ?_
   refine XC.sr ?_
   refine XO.v (V.build (vs := #[]) rfl (v := .agg arrM0) (fun _ => by kernel_rfl)) rfl ?_
   refine XO.box (m := 321) (C := encM FC.void) rfl arrM0_size arrM0_box rfl ?_
   intro bm
   refine XO.mono (fun _ hw3 => XM.newForest hw3) ?_
   refine XO.as rfl rfl ?_
   refine XO.nk [(0, _), (4, _), (5, _)] (S3 rfl rfl rfl) ?_
   refine XC.sr ?_
   refine XO.mv rfl rfl ?_
   refine XO.call rfl (m_New _ FC.void _ 0 FF.inv_void (by omega) 0) (.cons (.t4 .here) (.cons (.t4 .here) (.cons (.t4 .here) (.cons (.t4 .here) .nil)))) cl_8 rfl ?_
   rintro _ _ (⟨n0, rfl, rfl⟩ | ⟨n0, btt, s3, rfl, hh3, p3, c3, rfl⟩)
   ·
    rw [show FF.rootE FC.void.toFF 0 = 2 from MTop.v0]
    refine XO.mv rfl rfl ?_
    refine XO.v (V.extract rfl rfl) rfl ?_
    refine XO.v (V.extract rfl rfl) rfl ?_
    refine XO.as rfl rfl ?_
    refine XO.as rfl rfl ?_
    refine XO.nk [(0, _), (4, _), (5, _), (6, _), (7, _)] (S5 rfl rfl rfl rfl rfl) ?_
    refine XC.seq ?_
    refine XC.sr ?_
    refine XO.mv rfl rfl ?_
    refine XO.call rfl (same_any _ _ (by omega)) .nil cl_9 rfl ?_
    rintro _ _ ⟨rfl, rfl⟩
    refine XO.v (V.notP rfl) rfl ?_
    refine XO.mv rfl rfl ?_
    refine XO.splitF (d := 41) rfl (by simp) ?_
    refine XO.guardRun rfl rfl rfl ?_
    refine XO.mv rfl rfl ?_
    refine XO.guardRun rfl rfl rfl ?_
    refine XO.v (V.ptrNone rfl Tryz.underlying35 rfl) rfl ?_
    refine XO.v (V.pick rfl rfl rfl rfl) rfl ?_
    refine XO.nk [(0, _), (4, _), (5, _), (44, _)] (S4 rfl rfl rfl rfl) ?_
    refine XC.condF rfl rfl ?_
    refine XC.skip ?_
    refine XE.next ?_
    refine XC.keep [(0, _), (4, _), (5, _)] (S3 rfl rfl rfl) ?_
    refine XC.seq ?_
    refine XC.sr ?_
    refine XO.as rfl rfl ?_
    refine XO.nk [(0, _), (4, _), (5, _), (8, _)] (S4 rfl rfl rfl rfl) ?_
    refine XC.block ?_
    refine XC.loop (σ := FC × FC × Int) (fun z => (2 - z.2.2).toNat) (fun z => z.2.1.toFF = z.1.toFF ∧ z.1.toFF = MTop.PL z.2.2 ∧ 0 ≤ z.2.2 ∧ z.2.2 ≤ 2) (fun z => [(8, .int .i64 z.2.2), (0, .slice (some ⟨bl, ol, none⟩) len cap), (4, ptr bf 0 0), (5, ptr bm 0 0)]) (fun z => XM W (foot [.ro bl ol (8 * len) (encActs A)]) [.cells bf 0 321 (encF z.1), .fam fam40 (FC.rowsN 9 z.1), .fam fam40 (FC.rowsK 3 z.1), irow (FC.rP z.1) (FC.rC z.1) 3 (FC.toFF z.1).roots, .cells bm 0 321 (encM z.2.1), .fam fam40 (FC.rowsN 9 z.2.1), .fam fam40 (FC.rowsK 3 z.2.1), irow (FC.rP z.2.1) (FC.rC z.2.1) 3 (FC.toFF z.2.1).roots, .ro bl ol (8 * len) (encActs A)]) ((FC.void, FC.void, 0)) ?_ (S4 rfl rfl rfl rfl) (fun _ hw => XM.pick (.cons .here (.cons .here (.cons .here (.cons .here (.cons (.t3 .here) .h4))))) hw) ?_
    ·
     exact ⟨rfl, rfl, by simp, by simp⟩
    intro z hz
    obtain ⟨hzU, hzP, hz0, hz3⟩ := hz
    refine XC.seq ?_
    refine XC.sr ?_
    refine XO.mv rfl rfl ?_
    refine XO.v (V.cmp rfl rfl rfl) rfl ?_
    refine XO.nk [(0, _), (4, _), (5, _), (8, _), (46, _)] (S5 rfl rfl rfl rfl rfl) ?_
    refine XC.condP rfl (fun h4 => ?_) (fun h4 => ?_)
    ·
     refine XC.skip ?_
     refine XE.next ?_
     refine XC.keep [(0, _), (4, _), (5, _), (8, _)] (S4 rfl rfl rfl rfl) ?_
     refine XC.seq ?_
     refine XC.block ?_
     refine XC.sr ?_
     have hSz : z.1.toFF.Sh := by rw [hzP]; exact MTop.PL_sh hz0 (by omega)
     have hSw : z.2.1.toFF.Sh := by rw [hzU]; exact hSz
     refine XO.mv rfl rfl ?_
     refine XO.call rfl (t_Plant _ _ z.1 hSz) .h4 cl_10 rfl ?_
     rintro _ _ ⟨z1, rfl, hz1, rfl⟩
     refine XO.mv rfl rfl ?_
     refine XO.v (V.extract rfl rfl) rfl ?_
     refine XO.v (V.extract rfl rfl) rfl ?_
     refine XO.nk [(0, _), (4, _), (5, _), (8, _)] (S4 rfl rfl rfl rfl) ?_
     refine XC.region ?_
     refine XO.mv rfl rfl ?_
     refine XO.call rfl (r_Plant _ _ z.2.1 hSw) (.cons (.t4 .here) (.cons (.t4 .here) (.cons (.t4 .here) (.cons (.t4 .here) .nil)))) cl_11 rfl ?_
     rintro _ _ ⟨z2, rfl, hz2, rfl⟩
     refine XO.nil ?_
     refine XE.blockNormal ?_
     refine XE.next ?_
     refine XC.keep [(0, _), (4, _), (5, _), (8, _)] (S4 rfl rfl rfl rfl) ?_
     refine XC.region ?_
     refine XO.mv rfl rfl ?_
     refine XO.v (V.add rfl rfl _ (IntWalk.i64_in _ (by omega))) rfl ?_
     refine XO.as rfl rfl ?_
     refine XO.nil ?_
     refine XE.again ((z1, z2, z.2.2 + 1)) ?_ ?_ (S4 rfl rfl rfl rfl) (fun _ hw => XM.pick (.cons (.t4 .here) (.cons (.t4 .here) (.cons (.t4 .here) (.cons (.t4 .here) .h5)))) hw)
     ·
      (simp; omega)
     ·
      exact ⟨by show z2.toFF = z1.toFF; rw [hz2, hz1, hzU], by show z1.toFF = MTop.PL (z.2.2 + 1); rw [hz1, hzP, MTop.PL_next hz0 (by omega)], by simp; omega, by simp; omega⟩
    ·
     refine XC.exit ?_
     refine XE.thenExit ?_
     refine XE.thenExit ?_
     refine XE.blockExit ?_
     refine XE.next ?_
     refine XC.keep [(0, _), (4, _), (5, _)] (S3 rfl rfl rfl) ?_
     refine XC.sr ?_
     have e9 : z.1.toFF = MTop.F2 := by rw [hzP, show z.2.2 = 2 from by omega]; rfl
     have hO2 : z.1.toFF.Ok e2 2 := by rw [e9]; exact o2
     have hOw : z.2.1.toFF.Ok e2 2 := by rw [hzU, e9]; exact o2
     have hr0 : z.1.rootV 0 = 0 := by rw [e9]; exact MTop.r0.2
     have hrw : z.2.1.rootV 0 = 0 := by rw [hzU, e9]; exact MTop.r0.2
     refine XO.mv rfl rfl ?_
     refine XO.call rfl (m_New _ z.1 e2 2 hO2 (by omega) 0) .h4 cl_8 rfl ?_
     rintro _ _ (⟨n0, rfl, rfl⟩ | ⟨n0, btt, s3, rfl, hh3, p3, c3, rfl⟩)
     ·
      exact absurd (show z.1.rootE 0 = 0 by rw [e9]; exact MTop.r0.1) n0
     ·
      rw [hr0] at hh3
      rw [hr0]
      rw [show irow (FC.rP z.1) (FC.rC z.1) 3 (FC.toFF z.1).roots = irow (FC.rP s3) (FC.rC s3) 3 (FC.toFF s3).roots from by rw [p3, c3, hh3, FF.hold_roots]]
      refine XO.mv rfl rfl ?_
      refine XO.v (V.extract rfl rfl) rfl ?_
      refine XO.v (V.extract rfl rfl) rfl ?_
      refine XO.as rfl rfl ?_
      refine XO.as rfl rfl ?_
      refine XO.nk [(0, _), (4, _), (5, _), (7, _), (9, _)] (S5 rfl rfl rfl rfl rfl) ?_
      refine XC.sr ?_
      refine XO.mv rfl rfl ?_
      refine XO.call rfl (u_New _ z.2.1 e2 2 hOw (by omega) 0 (by rw [hzU, e9]; exact MTop.r0.1)) (.cons (.t6 .here) (.cons (.t6 .here) (.cons (.t6 .here) (.cons (.t6 .here) .nil)))) cl_12 rfl ?_
      rintro _ _ ⟨bu, m3, rfl, hm3, q3, k3, rfl⟩
      rw [hrw] at hm3
      rw [hrw]
      rw [show irow (FC.rP z.2.1) (FC.rC z.2.1) 3 (FC.toFF z.2.1).roots = irow (FC.rP m3) (FC.rC m3) 3 (FC.toFF m3).roots from by rw [q3, k3, hm3, FF.hold_roots]]
      refine XO.mv rfl rfl ?_
      refine XO.v (V.extract rfl rfl) rfl ?_
      refine XO.v (V.extract rfl rfl) rfl ?_
      refine XO.as rfl rfl ?_
      refine XO.as rfl rfl ?_
      refine XO.nk [(0, _), (4, _), (5, _), (7, _), (9, _), (10, _)] (S6 rfl rfl rfl rfl rfl rfl) ?_
      refine XC.seq ?_
      refine XC.sr ?_
      refine XO.mv rfl rfl ?_
      refine XO.v (V.nilNil rfl Tryz.underlying37 rfl) rfl ?_
      refine XO.mv rfl rfl ?_
      refine XO.guardRun rfl rfl rfl ?_
      refine XO.mv rfl rfl ?_
      refine XO.guardRun rfl rfl rfl ?_
      refine XO.v (V.ptrNilP rfl Tryz.underlying35 rfl) rfl ?_
      refine XO.v (V.pick rfl rfl rfl rfl) rfl ?_
      refine XO.nk [(0, _), (4, _), (5, _), (9, _), (10, _), (71, _)] (S6 rfl rfl rfl rfl rfl rfl) ?_
      refine XC.condF rfl rfl ?_
      refine XC.skip ?_
      refine XE.next ?_
      refine XC.keep [(0, _), (4, _), (5, _), (9, _), (10, _)] (S5 rfl rfl rfl rfl rfl) ?_
      refine XC.seq ?_
      refine XC.sr ?_
      refine XO.as rfl rfl ?_
      refine XO.nk [(0, _), (4, _), (5, _), (9, _), (10, _), (12, _)] (S6 rfl rfl rfl rfl rfl rfl) ?_
      refine XC.block ?_
      refine XC.loop (σ := MSt × Int) (fun x => (len - x.2).toNat) (fun x => x.1.Ok (3 + 14 * x.2) ∧ 0 ≤ x.2 ∧ x.2 ≤ len) (fun x => [(9, ptr x.1.bt 0 0), (12, .int .i64 x.2), (0, .slice (some ⟨bl, ol, none⟩) len cap), (4, ptr bf 0 0), (5, ptr bm 0 0), (10, ptr bu 0 0)]) (fun x => XM W (foot [.ro bl ol (8 * len) (encActs A)]) [.cells x.1.bt 0 4 (encT bf x.1.t.r (.slice x.1.t.p x.1.t.l.length x.1.t.c)), frow x.1.t.p x.1.t.cap 98 4 x.1.t.k x.1.t.C, .cells bf 0 321 (encF x.1.s), .fam fam40 (FC.rowsN 9 x.1.s), .fam fam40 (FC.rowsK 3 x.1.s), irow (FC.rP x.1.s) (FC.rC x.1.s) 3 (FC.toFF x.1.s).roots, .cells bu 0 4 (encT bm x.1.t.r (.slice x.1.w.p x.1.t.l.length x.1.w.c)), frow x.1.w.p x.1.w.cap 98 4 x.1.w.k x.1.w.C, .cells bm 0 321 (encM x.1.m), .fam fam40 (FC.rowsN 9 x.1.m), .fam fam40 (FC.rowsK 3 x.1.m), irow (FC.rP x.1.m) (FC.rC x.1.m) 3 (FC.toFF x.1.m).roots, .ro bl ol (8 * len) (encActs A)]) ((⟨s3, m3, btt, ⟨⟨0, 0⟩, [], none, 0, 0, 0, C0⟩, ⟨⟨0, 0⟩, [], none, 0, 0, 0, C0⟩⟩, 0)) ?_ (S6 rfl rfl rfl rfl rfl rfl) (fun _ hw => XM.pick (.cons (.t6 .here) (.cons (.t6 .here) (.cons (.t6 .here) (.cons (.t6 .here) (.cons (.t6 .here) (.cons (.t6 .here) .h7)))))) hw) ?_
      ·
       exact ⟨⟨by show m3.toFF = s3.toFF; rw [hm3, hh3, hzU], by show StM s3.toFF (3 + 14 * 0) ⟨0, 0⟩ []; rw [hh3, e9]; exact MTop.stM, MTop.nil_ok' _ _, C0_ok, MC.nil _⟩, by simp, by simp⟩
      intro x hx
      obtain ⟨hx, hx0, hx1⟩ := hx
      obtain ⟨d, hO⟩ := hx.st.ok
      refine XC.seq ?_
      refine XC.sr ?_
      refine XO.mv rfl rfl ?_
      refine XO.mv rfl rfl ?_
      refine XO.v (V.lenSl rfl Tryz.underlying22) rfl ?_
      refine XO.v (V.cmp rfl rfl rfl) rfl ?_
      refine XO.nk [(0, _), (4, _), (5, _), (9, _), (10, _), (12, _), (75, _)] (S7 rfl rfl rfl rfl rfl rfl rfl) ?_
      refine XC.condP rfl (fun h5 => ?_) (fun h5 => ?_)
      ·
       refine XC.skip ?_
       refine XE.next ?_
       refine XC.keep [(0, _), (4, _), (5, _), (9, _), (10, _), (12, _)] (S6 rfl rfl rfl rfl rfl rfl) ?_
       refine XC.seq ?_
       refine XC.block ?_
       refine XC.sr ?_
       refine XO.mv rfl rfl ?_
       refine XO.mv rfl rfl ?_
       refine XO.v (V.indexSl rfl rfl sl_22 (by omega)) rfl ?_
       refine XO.v (V.loadAggRo rfl (inXM (.t12 .here)) (acts_load A len _ (by omega)) ag_50 sz_50_8) rfl ?_
       refine XO.allocZ (z := .agg actZero) (m := 8) (C := cellsOf actZero) (by kernel_rfl) rfl (fun _ _ => rfl) rfl ?_
       intro ba
       refine XO.storeAgg rfl rfl .here (acts_store _) ⟨rfl, rfl⟩ sz_50_8 ?_
       refine XO.nk [(0, _), (4, _), (5, _), (9, _), (10, _), (12, _), (13, _)] (S7 rfl rfl rfl rfl rfl rfl rfl) ?_
       refine XC.sr ?_
       refine XO.as rfl rfl ?_
       refine XO.nk [(0, _), (4, _), (5, _), (9, _), (10, _), (12, _), (13, _), (14, _)] (S8 rfl rfl rfl rfl rfl rfl rfl rfl) ?_
       refine XC.cutG (σ := MSt) (fun y => y.Ok (3 + 14 * x.2 + 14)) (fun y => [(0, .slice (some ⟨bl, ol, none⟩) len cap), (4, ptr bf 0 0), (5, ptr bm 0 0), (9, ptr y.bt 0 0), (10, ptr bu 0 0), (12, .int .i64 x.2), (14, .bool true)]) (fun y => XM W (foot [.ro bl ol (8 * len) (encActs A)]) [.cells y.bt 0 4 (encT bf y.t.r (.slice y.t.p y.t.l.length y.t.c)), frow y.t.p y.t.cap 98 4 y.t.k y.t.C, .cells bf 0 321 (encF y.s), .fam fam40 (FC.rowsN 9 y.s), .fam fam40 (FC.rowsK 3 y.s), irow (FC.rP y.s) (FC.rC y.s) 3 (FC.toFF y.s).roots, .cells bu 0 4 (encT bm y.t.r (.slice y.w.p y.t.l.length y.w.c)), frow y.w.p y.w.cap 98 4 y.w.k y.w.C, .cells bm 0 321 (encM y.m), .fam fam40 (FC.rowsN 9 y.m), .fam fam40 (FC.rowsK 3 y.m), irow (FC.rP y.m) (FC.rC y.m) 3 (FC.toFF y.m).roots, .ro bl ol (8 * len) (encActs A)]) ?_ ?_
       ·
        refine XC.sr ?_
        have tz := tx x.2 (by omega) (by omega)
        have ha : (A x.2).s.size ≤ 80 ∧ (A x.2).t.size ≤ 80 := by omega
        refine XO.v (V.fieldAddr rfl fo_50_0) rfl ?_
        refine XO.v (V.load rfl (inXM .here) (encAct.ld_Kind _) sc_9) rfl ?_
        refine XO.nk [(0, _), (4, _), (5, _), (9, _), (10, _), (12, _), (13, _), (14, _), (83, _)] (Sub.cons rfl (S8 rfl rfl rfl rfl rfl rfl rfl rfl)) ?_
        refine XC.block ?_
        refine XC.seq ?_
        refine XC.sr ?_
        refine XO.v (V.strCmp rfl rfl rfl) rfl ?_
        refine XO.as rfl rfl ?_
        refine XO.nk [(0, _), (4, _), (5, _), (9, _), (10, _), (12, _), (13, _), (14, _), (83, _), (88, _)] (Sub.cons rfl (Sub.cons rfl (S8 rfl rfl rfl rfl rfl rfl rfl rfl))) ?_
        refine XC.condP rfl (fun h6 => ?_) (fun h6 => ?_)
        ·
         refine XC.skip ?_
         refine XE.next ?_
         refine XC.keep [(0, _), (4, _), (5, _), (9, _), (10, _), (12, _), (13, _), (14, _), (83, _), (88, _)] (Sub.cons rfl (Sub.cons rfl (S8 rfl rfl rfl rfl rfl rfl rfl rfl))) ?_
         refine XC.condTP rfl (by assumption) ?_
         refine XC.region ?_
         refine XO.mv rfl rfl ?_
         refine XO.mv rfl rfl ?_
         refine XO.v (V.loadAgg rfl (inXM .here) (act_agg _) ag_50 sz_50_8) rfl ?_
         refine XO.call rfl (mgrown_any _ _ x.1.s x.1.m hx.u (A x.2) (by omega) d _ hO (by omega)) (.cons (.t3 .here) (.cons (.t3 .here) (.cons (.t3 .here) (.cons (.t3 .here) (.cons (.t5 .here) (.cons (.t5 .here) (.cons (.t5 .here) (.cons (.t5 .here) .nil)))))))) cl_13 rfl ?_
         rintro _ _ ⟨rfl, t, u, d2, hU2, hO2, hH, rfl⟩
         have hH := hH (by first | exact .inl (by assumption) | exact .inr (.inl (by assumption)) | exact .inr (.inr (by assumption)))
         refine XO.as rfl rfl ?_
         refine XO.nil ?_
         refine XE.blockNormal ?_
         refine XE.meetG (⟨t, u, x.1.bt, x.1.t, x.1.w⟩) ?_ (S7 rfl rfl rfl rfl rfl rfl rfl) (fun _ hw => XM.pick (.cons (.t9 .here) (.cons (.t9 .here) (.cons .here (.cons .here (.cons .here (.cons .here (.cons (.t5 .here) (.cons (.t5 .here) (.cons .here (.cons .here (.cons .here (.cons .here (.cons (.there .here) .nil))))))))))))) hw)
         ·
          exact ⟨hU2, (hx.st.keep hO2 hH).ge (by omega), hx.t, hx.w, hx.c⟩
        ·
         refine XC.sr ?_
         refine XO.v (V.strCmp rfl rfl rfl) rfl ?_
         refine XO.as rfl rfl ?_
         refine XO.nk [(0, _), (4, _), (5, _), (9, _), (10, _), (12, _), (13, _), (14, _), (83, _), (88, _)] (Sub.cons rfl (Sub.cons rfl (S8 rfl rfl rfl rfl rfl rfl rfl rfl))) ?_
         refine XC.condP rfl (fun h7 => ?_) (fun h7 => ?_)
         ·
          refine XC.skip ?_
          refine XE.next ?_
          refine XC.keep [(0, _), (4, _), (5, _), (9, _), (10, _), (12, _), (13, _), (14, _), (83, _), (88, _)] (Sub.cons rfl (Sub.cons rfl (S8 rfl rfl rfl rfl rfl rfl rfl rfl))) ?_
          refine XC.condTP rfl (by assumption) ?_
          refine XC.region ?_
          refine XO.mv rfl rfl ?_
          refine XO.mv rfl rfl ?_
          refine XO.v (V.loadAgg rfl (inXM .here) (act_agg _) ag_50 sz_50_8) rfl ?_
          refine XO.call rfl (mgrown_any _ _ x.1.s x.1.m hx.u (A x.2) (by omega) d _ hO (by omega)) (.cons (.t3 .here) (.cons (.t3 .here) (.cons (.t3 .here) (.cons (.t3 .here) (.cons (.t5 .here) (.cons (.t5 .here) (.cons (.t5 .here) (.cons (.t5 .here) .nil)))))))) cl_13 rfl ?_
          rintro _ _ ⟨rfl, t, u, d2, hU2, hO2, hH, rfl⟩
          have hH := hH (by first | exact .inl (by assumption) | exact .inr (.inl (by assumption)) | exact .inr (.inr (by assumption)))
          refine XO.as rfl rfl ?_
          refine XO.nil ?_
          refine XE.blockNormal ?_
          refine XE.meetG (⟨t, u, x.1.bt, x.1.t, x.1.w⟩) ?_ (S7 rfl rfl rfl rfl rfl rfl rfl) (fun _ hw => XM.pick (.cons (.t9 .here) (.cons (.t9 .here) (.cons .here (.cons .here (.cons .here (.cons .here (.cons (.t5 .here) (.cons (.t5 .here) (.cons .here (.cons .here (.cons .here (.cons .here (.cons (.there .here) .nil))))))))))))) hw)
          ·
           exact ⟨hU2, (hx.st.keep hO2 hH).ge (by omega), hx.t, hx.w, hx.c⟩
         ·
          refine XC.region ?_
          refine XO.v (V.strCmp rfl rfl rfl) rfl ?_
          refine XO.as rfl rfl ?_
          refine XO.nk [(0, _), (4, _), (5, _), (9, _), (10, _), (12, _), (13, _), (14, _), (83, _), (88, _)] (Sub.cons rfl (Sub.cons rfl (S8 rfl rfl rfl rfl rfl rfl rfl rfl))) ?_
          refine XC.condP rfl (fun h8 => ?_) (fun h8 => ?_)
          ·
           refine XC.region ?_
           refine XO.mv rfl rfl ?_
           refine XO.mv rfl rfl ?_
           refine XO.v (V.loadAgg rfl (inXM .here) (act_agg _) ag_50 sz_50_8) rfl ?_
           refine XO.call rfl (mgrown_any _ _ x.1.s x.1.m hx.u (A x.2) (by omega) d _ hO (by omega)) (.cons (.t3 .here) (.cons (.t3 .here) (.cons (.t3 .here) (.cons (.t3 .here) (.cons (.t5 .here) (.cons (.t5 .here) (.cons (.t5 .here) (.cons (.t5 .here) .nil)))))))) cl_13 rfl ?_
           rintro _ _ ⟨rfl, t, u, d2, hU2, hO2, hH, rfl⟩
           have hH := hH (by first | exact .inl (by assumption) | exact .inr (.inl (by assumption)) | exact .inr (.inr (by assumption)))
           refine XO.as rfl rfl ?_
           refine XO.nil ?_
           refine XE.blockNormal ?_
           refine XE.meetG (⟨t, u, x.1.bt, x.1.t, x.1.w⟩) ?_ (S7 rfl rfl rfl rfl rfl rfl rfl) (fun _ hw => XM.pick (.cons (.t9 .here) (.cons (.t9 .here) (.cons .here (.cons .here (.cons .here (.cons .here (.cons (.t5 .here) (.cons (.t5 .here) (.cons .here (.cons .here (.cons .here (.cons .here (.cons (.there .here) .nil))))))))))))) hw)
           ·
            exact ⟨hU2, (hx.st.keep hO2 hH).ge (by omega), hx.t, hx.w, hx.c⟩
          ·
           refine XC.sr ?_
           refine XO.v (V.strCmp rfl rfl rfl) rfl ?_
           refine XO.as rfl rfl ?_
           refine XO.nk [(0, _), (4, _), (5, _), (9, _), (10, _), (12, _), (13, _), (14, _), (96, _)] (Sub.cons rfl (S8 rfl rfl rfl rfl rfl rfl rfl rfl)) ?_
           refine XC.condP rfl (fun h9 => ?_) (fun h9 => ?_)
           ·
            refine XC.sr ?_
            refine XO.mv rfl rfl ?_
            refine XO.call rfl (m_Copy _ _ _ _ _ _ _ _ _ hx.t.v hx.t.m hx.t.le x.1.s d _ hO (by omega)) (.cons (.there .here) (.cons (.there .here) (.cons (.there .here) (.cons (.there .here) (.cons (.there .here) .nil))))) cl_14 rfl ?_
            rintro _ _ ⟨bt2, p2, cap2, k2, c2, C2, s4, rfl, hv2, hC2, hh4, hO4, p4, c4, rfl⟩
            rw [show irow (FC.rP x.1.s) (FC.rC x.1.s) 3 (FC.toFF x.1.s).roots = irow (FC.rP s4) (FC.rC s4) 3 (FC.toFF s4).roots from by rw [p4, c4, hh4, copyF_roots]]
            refine XO.as rfl rfl ?_
            refine XO.nk [(0, _), (4, _), (5, _), (9, _), (10, _), (12, _), (14, _), (15, _)] (S8 rfl rfl rfl rfl rfl rfl rfl rfl) ?_
            refine XC.seq ?_
            refine XC.sr ?_
            refine XO.mv rfl rfl ?_
            refine XO.v (V.ptrNilP rfl Tryz.underlying35 rfl) rfl ?_
            refine XO.nk [(0, _), (4, _), (5, _), (9, _), (10, _), (12, _), (14, _), (15, _), (101, _)] (Sub.cons rfl (S8 rfl rfl rfl rfl rfl rfl rfl rfl)) ?_
            refine XC.condF rfl rfl ?_
            refine XC.skip ?_
            refine XE.next ?_
            refine XC.keep [(0, _), (4, _), (5, _), (9, _), (10, _), (12, _), (14, _), (15, _)] (S8 rfl rfl rfl rfl rfl rfl rfl rfl) ?_
            refine XC.sr ?_
            refine XO.mv rfl rfl ?_
            refine XO.call rfl (m_Pivot _ _ _ _ _ _ _ _ _ hx.t.v hx.t.m hx.t.le s4 d _ hO4 (by omega) 1) (.cons (.t2 .here) (.cons (.t2 .here) (.cons (.t2 .here) (.cons (.t2 .here) (.cons (.t2 .here) (.cons (.t3 .here) .nil)))))) cl_15 rfl ?_
            rintro _ _ (⟨n0, rfl, rfl⟩ | ⟨n0, rfl, s5, h5, hO5, p5, c5, rfl⟩)
            ·
             refine XO.nk [(0, _), (4, _), (5, _), (9, _), (10, _), (12, _), (14, _), (15, _)] (S8 rfl rfl rfl rfl rfl rfl rfl rfl) ?_
             refine XC.sr ?_
             refine XO.mv rfl rfl ?_
             refine XO.call rfl (m_Close _ _ _ _ _ _ _ _ _ hx.t.v hx.t.m hx.t.le s4 d _ hO4 (by omega)) .h5 cl_16 rfl ?_
             rintro _ _ ⟨rfl, s6, h6, hO6, p6, c6, rfl⟩
             have hb : s6.toFF = x.1.s.toFF := by rw [h6, hh4]; exact hx.st.back0
             refine XO.nk [(0, _), (4, _), (5, _), (10, _), (12, _), (14, _), (15, _)] (S7 rfl rfl rfl rfl rfl rfl rfl) ?_
             refine XC.region ?_
             refine XO.mv rfl rfl ?_
             refine XO.as rfl rfl ?_
             refine XO.nil ?_
             refine XE.blockNormal ?_
             refine XE.meetG (⟨s6, x.1.m, bt2, ⟨x.1.t.r, x.1.t.l, p2, cap2, k2, c2, C2⟩, x.1.w⟩) ?_ (S7 rfl rfl rfl rfl rfl rfl rfl) (fun _ hw => by show XM _ _ [_, _, _, _, _, irow (FC.rP s6) (FC.rC s6) 3 (FC.toFF s6).roots, _, _, _, _, _, _, _] _; rw [p6, c6, show (FC.toFF s6).roots = (FC.toFF s4).roots from by rw [hb, hh4]; exact (copyF_roots _ _ _).symm]; exact XM.pick (.cons (.t6 .here) (.cons (.t6 .here) (.cons (.t2 .here) (.cons (.t2 .here) (.cons (.t2 .here) (.cons (.t2 .here) (.cons (.t3 .here) (.cons (.t3 .here) (.cons (.t3 .here) (.cons (.t3 .here) (.cons (.t3 .here) (.cons (.t3 .here) (.cons (.t3 .here) .nil))))))))))))) hw)
             ·
              exact ⟨by show x.1.m.toFF = s6.toFF; rw [hb]; exact hx.u, by show StM s6.toFF _ _ _; rw [hb]; exact hx.st.ge (by omega), ⟨hv2, hC2, hx.t.le⟩, hx.w, hx.c⟩
            ·
             refine XO.nk [(0, _), (4, _), (5, _), (9, _), (10, _), (12, _), (14, _), (15, _)] (S8 rfl rfl rfl rfl rfl rfl rfl rfl) ?_
             refine XC.sr ?_
             refine XO.mv rfl rfl ?_
             refine XO.call rfl (m_Close _ _ _ [] _ _ _ _ _ C0_ok (MC.nil _) (Nat.zero_le _) s5 d _ hO5 (by omega)) .h5 cl_16 rfl ?_
             rintro _ _ ⟨rfl, s6, h6, hO6, p6, c6, rfl⟩
             rw [hh4] at n0 h5
             have hb : s6.toFF = x.1.s.toFF := by rw [h6, h5, hh4]; exact hx.st.back 1 (by rw [← n0, StM.rootE_copy])
             refine XO.nk [(0, _), (4, _), (5, _), (10, _), (12, _), (14, _), (15, _)] (S7 rfl rfl rfl rfl rfl rfl rfl) ?_
             refine XC.region ?_
             refine XO.mv rfl rfl ?_
             refine XO.as rfl rfl ?_
             refine XO.nil ?_
             refine XE.blockNormal ?_
             refine XE.meetG (⟨s6, x.1.m, bt2, ⟨x.1.t.r, x.1.t.l, p2, cap2, k2, c2, C2⟩, x.1.w⟩) ?_ (S7 rfl rfl rfl rfl rfl rfl rfl) (fun _ hw => by show XM _ _ [_, _, _, _, _, irow (FC.rP s6) (FC.rC s6) 3 (FC.toFF s6).roots, _, _, _, _, _, _, _] _; rw [p6, c6, p5, c5, show (FC.toFF s6).roots = (FC.toFF s4).roots from by rw [hb, hh4]; exact (copyF_roots _ _ _).symm]; exact XM.pick (.cons (.t6 .here) (.cons (.t6 .here) (.cons (.t2 .here) (.cons (.t2 .here) (.cons (.t2 .here) (.cons (.t2 .here) (.cons (.t3 .here) (.cons (.t3 .here) (.cons (.t3 .here) (.cons (.t3 .here) (.cons (.t3 .here) (.cons (.t3 .here) (.cons (.t3 .here) .nil))))))))))))) hw)
             ·
              exact ⟨by show x.1.m.toFF = s6.toFF; rw [hb]; exact hx.u, by show StM s6.toFF _ _ _; rw [hb]; exact hx.st.ge (by omega), ⟨hv2, hC2, hx.t.le⟩, hx.w, hx.c⟩
           ·
            refine XC.region ?_
            refine XO.mv rfl rfl ?_
            refine XO.mv rfl rfl ?_
            refine XO.v (V.loadAgg rfl (inXM .here) (act_agg _) ag_50 sz_50_8) rfl ?_
            refine XO.call rfl (mounted_any _ _ _ _ _ _ _ _ _ _ _ hx.t.v hx.t.m hx.t.le _ _ _ _ _ hx.w hx.c x.1.s x.1.m hx.u (A x.2) (by omega) _ hx.st (by omega)) (.cons (.there .here) (.cons (.there .here) (.cons (.there .here) (.cons (.there .here) (.cons (.there .here) (.cons (.there .here) (.cons (.there .here) (.cons (.there .here) (.cons (.there .here) (.cons (.there .here) (.cons (.there .here) (.cons (.there .here) .nil)))))))))))) cl_17 rfl ?_
            rintro _ _ ⟨rfl, t2, w2, s2, m2, ht2, hw2, hc2, hU2, hst2, rfl⟩
            refine XO.as rfl rfl ?_
            refine XO.nil ?_
            refine XE.blockNormal ?_
            refine XE.meetG (⟨s2, m2, x.1.bt, t2, w2⟩) ?_ (S7 rfl rfl rfl rfl rfl rfl rfl) (fun _ hw => XM.pick (.cons .here (.cons .here (.cons .here (.cons .here (.cons .here (.cons .here (.cons .here (.cons .here (.cons .here (.cons .here (.cons .here (.cons .here (.cons (.there .here) .nil))))))))))))) hw)
            ·
             exact ⟨hU2, hst2, ht2, hw2, hc2⟩
       intro y hy
       obtain ⟨d2, hO2⟩ := hy.st.ok
       refine XC.seq ?_
       refine XC.regionQ mixed (f := 32) (l := #[false, false, false, false, false, false, false, false, false, false, false, false, false, false, false, false, false, false, false, false, false, false, false, false, false, false, false, false, false, false, false, false]) rfl rfl XM.drawn' ?_
       refine XQ.pv (i := 0) (l' := #[tt,ff,ff,ff,ff,ff,ff,ff,ff,ff,ff,ff,ff,ff,ff,ff,ff,ff,ff,ff,ff,ff,ff,ff,ff,ff,ff,ff,ff,ff,ff,ff]) rfl (by kernel_rfl) rfl (V.move rfl) rfl rfl ?_
       refine XQ.pv (i := 1) (l' := #[tt,tt,ff,ff,ff,ff,ff,ff,ff,ff,ff,ff,ff,ff,ff,ff,ff,ff,ff,ff,ff,ff,ff,ff,ff,ff,ff,ff,ff,ff,ff,ff]) rfl (by kernel_rfl) rfl (V.not rfl) rfl rfl ?_
       refine XQ.pv (i := 2) (l' := #[tt,tt,tt,ff,ff,ff,ff,ff,ff,ff,ff,ff,ff,ff,ff,ff,ff,ff,ff,ff,ff,ff,ff,ff,ff,ff,ff,ff,ff,ff,ff,ff]) rfl (by kernel_rfl) rfl (V.move rfl) rfl rfl ?_
       refine XQ.pvG (i := 3) (l' := #[tt,tt,tt,tt,ff,ff,ff,ff,ff,ff,ff,ff,ff,ff,ff,ff,ff,ff,ff,ff,ff,ff,ff,ff,ff,ff,ff,ff,ff,ff,ff,ff]) rfl rfl rfl (by kernel_rfl) rfl (V.move rfl) rfl rfl ?_
       refine XQ.pvG (i := 5) (l' := #[tt,tt,tt,tt,ff,tt,ff,ff,ff,ff,ff,ff,ff,ff,ff,ff,ff,ff,ff,ff,ff,ff,ff,ff,ff,ff,ff,ff,ff,ff,ff,ff]) rfl rfl rfl (by kernel_rfl) rfl (V.move rfl) rfl rfl ?_
       refine XQ.pvG (i := 6) (l' := #[tt,tt,tt,tt,ff,tt,tt,ff,ff,ff,ff,ff,ff,ff,ff,ff,ff,ff,ff,ff,ff,ff,ff,ff,ff,ff,ff,ff,ff,ff,ff,ff]) rfl rfl rfl (by kernel_rfl) rfl (V.nilCheckP rfl) rfl rfl ?_
       refine XQ.pvG (i := 7) (l' := #[tt,tt,tt,tt,ff,tt,tt,tt,ff,ff,ff,ff,ff,ff,ff,ff,ff,ff,ff,ff,ff,ff,ff,ff,ff,ff,ff,ff,ff,ff,ff,ff]) rfl rfl rfl (by kernel_rfl) rfl (V.fieldAddr rfl fo_60_1) rfl rfl ?_
       refine XQ.loadG (i := 8) (l' := #[tt,tt,tt,tt,ff,tt,tt,tt,tt,ff,ff,ff,ff,ff,ff,ff,ff,ff,ff,ff,ff,ff,ff,ff,ff,ff,ff,ff,ff,ff,ff,ff]) (.cells _ _ _ _) [13, 18, 28] rfl rfl rfl (by kernel_rfl) rfl (.t6 .here) (V.loadAgg rfl inEnt (encT.ld1 _ _) ag_56 sz_56_2) rfl (by kernel_rfl) rfl ?_
       refine XQ.callG (i := 4) (l' := #[tt,tt,tt,tt,tt,tt,tt,tt,tt,ff,ff,ff,ff,ff,ff,ff,ff,ff,ff,ff,ff,ff,ff,ff,ff,ff,ff,ff,ff,ff,ff,ff]) rfl rfl rfl (by kernel_rfl) rfl rfl (m_Root _ _ _ _) .h1 cl_18 rfl (by rintro _ _ ⟨rfl, rfl⟩; all_goals (intro _ hw'; exact ⟨fun _ => inXM (.t6 .here) _ hw', trivial⟩)) ?_
       rintro _ _ ⟨rfl, rfl⟩
       refine XQ.pvG (i := 9) (l' := #[tt,tt,tt,tt,tt,tt,tt,tt,tt,tt,ff,ff,ff,ff,ff,ff,ff,ff,ff,ff,ff,ff,ff,ff,ff,ff,ff,ff,ff,ff,ff,ff]) rfl rfl rfl (by kernel_rfl) rfl (V.neW rfl rfl whEq) rfl rfl ?_
       refine XQ.pv (i := 10) (l' := #[tt,tt,tt,tt,tt,tt,tt,tt,tt,tt,tt,ff,ff,ff,ff,ff,ff,ff,ff,ff,ff,ff,ff,ff,ff,ff,ff,ff,ff,ff,ff,ff]) rfl (by kernel_rfl) rfl (V.pick rfl rfl rfl rfl) rfl rfl ?_
       refine XQ.pv (i := 11) (l' := #[tt,tt,tt,tt,tt,tt,tt,tt,tt,tt,tt,tt,ff,ff,ff,ff,ff,ff,ff,ff,ff,ff,ff,ff,ff,ff,ff,ff,ff,ff,ff,ff]) rfl (by kernel_rfl) rfl (V.move rfl) rfl rfl ?_
       refine XQ.splitF (d := 118) rfl (fun h => h rfl) ?_
       refine XQ.pvG (i := 12) (l' := #[tt,tt,tt,tt,tt,tt,tt,tt,tt,tt,tt,tt,tt,ff,ff,ff,ff,ff,ff,ff,ff,ff,ff,ff,ff,ff,ff,ff,ff,ff,ff,ff]) rfl rfl rfl (by kernel_rfl) rfl (V.move rfl) rfl rfl ?_
       refine XQ.pvG (i := 14) (l' := #[tt,tt,tt,tt,tt,tt,tt,tt,tt,tt,tt,tt,tt,ff,tt,ff,ff,ff,ff,ff,ff,ff,ff,ff,ff,ff,ff,ff,ff,ff,ff,ff]) rfl rfl rfl (by kernel_rfl) rfl (V.move rfl) rfl rfl ?_
       refine XQ.pvG (i := 15) (l' := #[tt,tt,tt,tt,tt,tt,tt,tt,tt,tt,tt,tt,tt,ff,tt,tt,ff,ff,ff,ff,ff,ff,ff,ff,ff,ff,ff,ff,ff,ff,ff,ff]) rfl rfl rfl (by kernel_rfl) rfl (V.nilCheckP rfl) rfl rfl ?_
       refine XQ.pvG (i := 16) (l' := #[tt,tt,tt,tt,tt,tt,tt,tt,tt,tt,tt,tt,tt,ff,tt,tt,tt,ff,ff,ff,ff,ff,ff,ff,ff,ff,ff,ff,ff,ff,ff,ff]) rfl rfl rfl (by kernel_rfl) rfl (V.fieldAddr rfl fo_60_2) rfl rfl ?_
       refine XQ.loadG (i := 17) (l' := #[tt,tt,tt,tt,tt,tt,tt,tt,tt,tt,tt,tt,tt,ff,tt,tt,tt,tt,ff,ff,ff,ff,ff,ff,ff,ff,ff,ff,ff,ff,ff,ff]) (.cells _ _ _ _) [18, 28] rfl rfl rfl (by kernel_rfl) rfl (.t6 .here) (V.load rfl inEnt (encT.ld2 _ _) sc_58) rfl (by kernel_rfl) rfl ?_
       refine XQ.callG (i := 13) (l' := #[tt,tt,tt,tt,tt,tt,tt,tt,tt,tt,tt,tt,tt,tt,tt,tt,tt,tt,ff,ff,ff,ff,ff,ff,ff,ff,ff,ff,ff,ff,ff,ff]) rfl rfl rfl (by kernel_rfl) rfl rfl (m_Mounts _ _ _ _ _ _ _ _ _ hy.t.v hy.t.m hy.t.le) .h2 cl_20 rfl (by rintro _ _ ⟨p', cap', k', c', C', hv', hC', rfl, rfl⟩; all_goals (intro _ hw'; exact ⟨fun _ => inXM (.t7 .here) _ hw', fun hs => (hs 13 (by first | (simp; done) | (simp; rfl)) rfl).elim, trivial⟩)) ?_
       rintro _ _ ⟨p', cap', k', c', C', hv', hC', rfl, rfl⟩
       refine XQ.callG (i := 18) (l' := #[tt,tt,tt,tt,tt,tt,tt,tt,tt,tt,tt,tt,tt,tt,tt,tt,tt,tt,tt,ff,ff,ff,ff,ff,ff,ff,ff,ff,ff,ff,ff,ff]) rfl rfl rfl (by kernel_rfl) rfl rfl (same_mounts _ _ _ _ _ _ hv' hC' hy.t.le _ _ _ _ _ hy.w hy.c) (.cons .here (.cons (.t7 .here) .nil)) cl_19 rfl (by rintro _ _ ⟨rfl, rfl⟩; all_goals (intro _ hw'; exact ⟨fun hs => (hs 18 (by first | (simp; done) | (simp; rfl)) rfl).elim, fun hs => (hs 13 (by first | (simp; done) | (simp; rfl)) rfl).elim, trivial⟩)) ?_
       rintro _ _ ⟨rfl, rfl⟩
       refine XQ.pvG (i := 19) (l' := #[tt,tt,tt,tt,tt,tt,tt,tt,tt,tt,tt,tt,tt,tt,tt,tt,tt,tt,tt,tt,ff,ff,ff,ff,ff,ff,ff,ff,ff,ff,ff,ff]) rfl rfl rfl (by kernel_rfl) rfl (V.not rfl) rfl rfl ?_
       refine XQ.pv (i := 20) (l' := #[tt,tt,tt,tt,tt,tt,tt,tt,tt,tt,tt,tt,tt,tt,tt,tt,tt,tt,tt,tt,tt,ff,ff,ff,ff,ff,ff,ff,ff,ff,ff,ff]) rfl (by kernel_rfl) rfl (V.pick rfl rfl rfl rfl) rfl rfl ?_
       refine XQ.pv (i := 21) (l' := #[tt,tt,tt,tt,tt,tt,tt,tt,tt,tt,tt,tt,tt,tt,tt,tt,tt,tt,tt,tt,tt,tt,ff,ff,ff,ff,ff,ff,ff,ff,ff,ff]) rfl (by kernel_rfl) rfl (V.move rfl) rfl rfl ?_
       refine XQ.pvG (i := 22) (l' := #[tt,tt,tt,tt,tt,tt,tt,tt,tt,tt,tt,tt,tt,tt,tt,tt,tt,tt,tt,tt,tt,tt,tt,ff,ff,ff,ff,ff,ff,ff,ff,ff]) rfl rfl rfl (by kernel_rfl) rfl (V.move rfl) rfl rfl ?_
       refine XQ.pvG (i := 23) (l' := #[tt,tt,tt,tt,tt,tt,tt,tt,tt,tt,tt,tt,tt,tt,tt,tt,tt,tt,tt,tt,tt,tt,tt,tt,ff,ff,ff,ff,ff,ff,ff,ff]) rfl rfl rfl (by kernel_rfl) rfl (V.rem rfl rfl (by first | decide | omega) _ (Int.tmod_eq_emod_of_nonneg (by omega))) rfl rfl ?_
       refine XQ.pvG (i := 24) (l' := #[tt,tt,tt,tt,tt,tt,tt,tt,tt,tt,tt,tt,tt,tt,tt,tt,tt,tt,tt,tt,tt,tt,tt,tt,tt,ff,ff,ff,ff,ff,ff,ff]) rfl rfl rfl (by kernel_rfl) rfl (V.cmp rfl rfl rfl) rfl rfl ?_
       refine XQ.pvG (i := 25) (l' := #[tt,tt,tt,tt,tt,tt,tt,tt,tt,tt,tt,tt,tt,tt,tt,tt,tt,tt,tt,tt,tt,tt,tt,tt,tt,tt,ff,ff,ff,ff,ff,ff]) rfl rfl rfl (by kernel_rfl) rfl (V.move rfl) rfl rfl ?_
       refine XQ.splitP (d := 132) rfl (fun h11 => ?_) (fun h11 => ?_)
       ·
        refine XQ.pvG (i := 26) (l' := #[tt,tt,tt,tt,tt,tt,tt,tt,tt,tt,tt,tt,tt,tt,tt,tt,tt,tt,tt,tt,tt,tt,tt,tt,tt,tt,tt,ff,ff,ff,ff,ff]) rfl rfl rfl (by kernel_rfl) rfl (V.move rfl) rfl rfl ?_
        refine XQ.pvG (i := 27) (l' := #[tt,tt,tt,tt,tt,tt,tt,tt,tt,tt,tt,tt,tt,tt,tt,tt,tt,tt,tt,tt,tt,tt,tt,tt,tt,tt,tt,tt,ff,ff,ff,ff]) rfl rfl rfl (by kernel_rfl) rfl (V.move rfl) rfl rfl ?_
        refine XQ.callG (i := 28) (l' := #[tt,tt,tt,tt,tt,tt,tt,tt,tt,tt,tt,tt,tt,tt,tt,tt,tt,tt,tt,tt,tt,tt,tt,tt,tt,tt,tt,tt,tt,ff,ff,ff]) rfl rfl rfl (by kernel_rfl) rfl rfl (as_forest _ _ y.s y.m hy.u d2 _ hO2 (by omega)) (.cons (.t4 .here) (.cons (.t4 .here) (.cons (.t4 .here) (.cons (.t4 .here) (.cons (.t5 .here) (.cons (.t5 .here) (.cons (.t5 .here) (.cons (.t5 .here) .nil)))))))) cl_21 rfl (by rintro _ _ ⟨rfl, rfl⟩; all_goals (intro _ hw'; exact ⟨fun hs => (hs 18 (by first | (simp; done) | (simp; rfl)) rfl).elim, fun hs => (hs 13 (by first | (simp; done) | (simp; rfl)) rfl).elim, trivial⟩)) ?_
        rintro _ _ ⟨rfl, rfl⟩
        refine XQ.pvG (i := 29) (l' := #[tt,tt,tt,tt,tt,tt,tt,tt,tt,tt,tt,tt,tt,tt,tt,tt,tt,tt,tt,tt,tt,tt,tt,tt,tt,tt,tt,tt,tt,tt,ff,ff]) rfl rfl rfl (by kernel_rfl) rfl (V.not rfl) rfl rfl ?_
        refine XQ.pvG (i := 30) (l' := #[tt,tt,tt,tt,tt,tt,tt,tt,tt,tt,tt,tt,tt,tt,tt,tt,tt,tt,tt,tt,tt,tt,tt,tt,tt,tt,tt,tt,tt,tt,tt,ff]) rfl rfl rfl (by kernel_rfl) rfl (V.pick rfl rfl rfl rfl) rfl rfl ?_
        refine XQ.pv (i := 31) (l' := #[tt,tt,tt,tt,tt,tt,tt,tt,tt,tt,tt,tt,tt,tt,tt,tt,tt,tt,tt,tt,tt,tt,tt,tt,tt,tt,tt,tt,tt,tt,tt,tt]) rfl (by kernel_rfl) rfl (V.pick rfl rfl rfl rfl) rfl rfl ?_
        refine XQ.done (by kernel_rfl) ?_
        refine XE.next ?_
        refine XC.keep [(0, _), (4, _), (5, _), (9, _), (10, _), (12, _), (138, _)] (S7 rfl rfl rfl rfl rfl rfl rfl) ?_
        refine XC.condF rfl rfl ?_
        refine XC.skip ?_
        refine XE.blockNormal ?_
        refine XE.next ?_
        refine XC.keep [(0, _), (4, _), (5, _), (9, _), (10, _), (12, _)] (S6 rfl rfl rfl rfl rfl rfl) ?_
        refine XC.region ?_
        refine XO.mv rfl rfl ?_
        refine XO.v (V.add rfl rfl _ (IntWalk.i64_in _ (by omega))) rfl ?_
        refine XO.as rfl rfl ?_
        refine XO.nil ?_
        refine XE.again ((y, x.2 + 1)) ?_ ?_ (S6 rfl rfl rfl rfl rfl rfl) (fun _ hw => XM.pick (.cons (.t10 .here) (.cons (.t10 .here) (.cons .here (.cons .here (.cons .here (.cons .here (.cons (.t6 .here) (.cons (.t5 .here) (.cons .here (.cons .here (.cons .here (.cons .here (.cons (.there .here) .nil))))))))))))) hw)
        ·
         (simp; omega)
        ·
         exact ⟨by show y.Ok (3 + 14 * (x.2 + 1)); rw [show 3 + 14 * (x.2 + 1) = 3 + 14 * x.2 + 14 from by omega]; exact hy, by simp; omega, by simp; omega⟩
       ·
        refine XQ.skip (i := 26) (l' := #[tt,tt,tt,tt,tt,tt,tt,tt,tt,tt,tt,tt,tt,tt,tt,tt,tt,tt,tt,tt,tt,tt,tt,tt,tt,tt,tt,ff,ff,ff,ff,ff]) rfl rfl rfl rfl rfl (by kernel_rfl) rfl rfl rfl ?_
        refine XQ.skip (i := 27) (l' := #[tt,tt,tt,tt,tt,tt,tt,tt,tt,tt,tt,tt,tt,tt,tt,tt,tt,tt,tt,tt,tt,tt,tt,tt,tt,tt,tt,tt,ff,ff,ff,ff]) rfl rfl rfl rfl rfl (by kernel_rfl) rfl rfl rfl ?_
        refine XQ.strip 28 (fun _ hw' => ⟨fun hs => (hs 18 (by first | (simp; done) | (simp; rfl)) rfl).elim, fun hs => (hs 13 (by first | (simp; done) | (simp; rfl)) rfl).elim, trivial⟩) ?_
        refine XQ.skip (i := 28) (l' := #[tt,tt,tt,tt,tt,tt,tt,tt,tt,tt,tt,tt,tt,tt,tt,tt,tt,tt,tt,tt,tt,tt,tt,tt,tt,tt,tt,tt,tt,ff,ff,ff]) rfl rfl rfl rfl rfl (by kernel_rfl) rfl rfl rfl ?_
        refine XQ.skip (i := 29) (l' := #[tt,tt,tt,tt,tt,tt,tt,tt,tt,tt,tt,tt,tt,tt,tt,tt,tt,tt,tt,tt,tt,tt,tt,tt,tt,tt,tt,tt,tt,tt,ff,ff]) rfl rfl rfl rfl rfl (by kernel_rfl) rfl rfl rfl ?_
        refine XQ.pvG (i := 30) (l' := #[tt,tt,tt,tt,tt,tt,tt,tt,tt,tt,tt,tt,tt,tt,tt,tt,tt,tt,tt,tt,tt,tt,tt,tt,tt,tt,tt,tt,tt,tt,tt,ff]) rfl rfl rfl (by kernel_rfl) rfl (V.pick rfl rfl rfl rfl) rfl rfl ?_
        refine XQ.pv (i := 31) (l' := #[tt,tt,tt,tt,tt,tt,tt,tt,tt,tt,tt,tt,tt,tt,tt,tt,tt,tt,tt,tt,tt,tt,tt,tt,tt,tt,tt,tt,tt,tt,tt,tt]) rfl (by kernel_rfl) rfl (V.pick rfl rfl rfl rfl) rfl rfl ?_
        refine XQ.done (by kernel_rfl) ?_
        refine XE.next ?_
        refine XC.keep [(0, _), (4, _), (5, _), (9, _), (10, _), (12, _), (138, _)] (S7 rfl rfl rfl rfl rfl rfl rfl) ?_
        refine XC.condF rfl rfl ?_
        refine XC.skip ?_
        refine XE.blockNormal ?_
        refine XE.next ?_
        refine XC.keep [(0, _), (4, _), (5, _), (9, _), (10, _), (12, _)] (S6 rfl rfl rfl rfl rfl rfl) ?_
        refine XC.region ?_
        refine XO.mv rfl rfl ?_
        refine XO.v (V.add rfl rfl _ (IntWalk.i64_in _ (by omega))) rfl ?_
        refine XO.as rfl rfl ?_
        refine XO.nil ?_
        refine XE.again ((y, x.2 + 1)) ?_ ?_ (S6 rfl rfl rfl rfl rfl rfl) (fun _ hw => XM.pick (.cons (.t2 .here) (.cons (.t2 .here) (.cons (.t2 .here) (.cons (.t2 .here) (.cons (.t2 .here) (.cons (.t2 .here) (.cons (.t2 .here) (.cons (.there .here) (.cons (.there .here) (.cons (.there .here) (.cons (.there .here) (.cons (.there .here) (.cons (.there .here) .nil))))))))))))) hw)
        ·
         (simp; omega)
        ·
         exact ⟨by show y.Ok (3 + 14 * (x.2 + 1)); rw [show 3 + 14 * (x.2 + 1) = 3 + 14 * x.2 + 14 from by omega]; exact hy, by simp; omega, by simp; omega⟩
      ·
       refine XC.exit ?_
       refine XE.thenExit ?_
       refine XE.thenExit ?_
       refine XE.blockExit ?_
       refine XE.next ?_
       refine XC.keep [(4, _), (5, _)] (S2 rfl rfl) ?_
       refine XC.sr ?_
       refine XO.mv rfl rfl ?_
       refine XO.mv rfl rfl ?_
       refine XO.call rfl (as_forest _ _ x.1.s x.1.m hx.u d _ hO (by omega)) (.cons (.t2 .here) (.cons (.t2 .here) (.cons (.t2 .here) (.cons (.t2 .here) (.cons (.t4 .here) (.cons (.t4 .here) (.cons (.t4 .here) (.cons (.t4 .here) .nil)))))))) cl_21 rfl ?_
       rintro _ _ ⟨rfl, rfl⟩
       refine XO.as rfl rfl ?_
       refine XO.nk [(2, _)] (S1 rfl) ?_
       refine XC.ret ?_
       refine XE.ret1 rfl rfl (post_of .nil rfl ?_)
       exact ⟨rfl, rfl⟩
   ·
    exact absurd (show FF.rootE FF.void 0 = 2 from MTop.v0) (fun q => by have q2 : FF.rootE FF.void 0 = 0 := n0; omega)
end Go.X
