import Derived.Test.YtmklfkjfgjagaaaGreatDoorXShort
import Derived.Test.YtmklfkjfgjagaaaGreatDoorYRL3
namespace Go.X
open Go Go.Proofs

set_option maxRecDepth 10000 in
set_option maxHeartbeats 16000000 in
theorem law_nil' (p : Option Addr) (cap : Nat) : Spec Tryz.prog 3 [.slice p 0 cap]
    []
    (fun v H1 => v = .bool true ∧ H1 = []) := by
 obtain ⟨e1, e2, o1, o2⟩ := MTop.ok
 refine Spec.intro Tryz.func3 rfl rfl ?_
 intro W
 refine XC.sr ?_
 refine XO.as rfl rfl ?_
 refine XO.nk [(0, _)] (S1 rfl) ?_
 refine XC.sr ?_
 refine XO.call rfl (leads_any) .nil cl_4 rfl ?_
 rintro _ _ ⟨rfl, rfl⟩
 refine XO.as rfl rfl ?_
 refine XO.nk [(0, _), (3, _)] (S2 rfl rfl) ?_
 refine XC.seq ?_
 refine XC.sr ?_
 refine XO.mv rfl rfl ?_
 refine XO.v (V.not rfl) rfl ?_
 refine XO.mv rfl rfl ?_
 refine XO.guardRun rfl rfl rfl ?_
 refine XO.mv rfl rfl ?_
 refine XO.guardRun rfl rfl rfl ?_
 refine XO.call rfl (light_any _ _ _ _) .nil cl_5 rfl ?_
 rintro _ _ ⟨rfl, rfl⟩
 refine XO.guardRun rfl rfl rfl ?_
 refine XO.v (V.notP rfl) rfl ?_
 refine XO.v (V.pick rfl rfl rfl rfl) rfl ?_
 refine XO.mv rfl rfl ?_
 refine XO.splitP (d := 24) rfl (fun h1 => ?_) (fun h1 => ?_)
 ·
  refine XO.guardSkip rfl rfl rfl rfl rfl ?_
  refine XO.guardSkip rfl rfl rfl rfl rfl ?_
  refine XO.guardSkip rfl rfl rfl rfl rfl ?_
  refine XO.v (V.pick rfl rfl rfl rfl) rfl ?_
  refine XO.nk [(0, _), (3, _), (28, _)] (S3 rfl rfl rfl) ?_
  refine XC.condT rfl rfl ?_
  refine XC.sr ?_
  refine XO.mv rfl rfl ?_
  refine XO.as rfl rfl ?_
  refine XO.nk [(2, _)] (S1 rfl) ?_
  refine XC.ret ?_
  refine XE.thenRet ?_
  refine XE.ret1 rfl rfl (post_of .nil rfl ?_)
  exact ⟨rfl, rfl⟩
 ·
  refine XO.guardRun rfl rfl rfl ?_
  refine XO.mv rfl rfl ?_
  refine XO.guardRun rfl rfl rfl ?_
  refine XO.call rfl (texts_nil _ _ _) .nil cl_6 rfl ?_
  rintro _ _ ⟨rfl, rfl⟩
  refine XO.guardRun rfl rfl rfl ?_
  refine XO.v (V.not rfl) rfl ?_
  refine XO.v (V.pick rfl rfl rfl rfl) rfl ?_
  refine XO.nk [(0, _), (3, _), (28, _)] (S3 rfl rfl rfl) ?_
  refine XC.condF rfl rfl ?_
  refine XC.skip ?_
  refine XE.next ?_
  refine XC.keep [(0, _)] (S1 rfl) ?_
  refine XC.sr ?_
  refine XO.call rfl (t_New) .nil cl_7 rfl ?_
  rintro _ _ ⟨bf, rfl, rfl⟩
  refine XO.as rfl rfl ?_
  refine XO.nk [(0, _), (4, _)] (S2 rfl rfl) ?_
  refine XC.sr ?_
  refine XO.v (V.build (vs := #[]) rfl (v := .agg arrM0) (fun _ => by kernel_rfl)) rfl ?_
  refine XO.box (m := 321) (C := encM FC.void) rfl arrM0_size arrM0_box rfl ?_
  intro bm
  refine XO.mono (fun _ hw3 => XM.newForest hw3) ?_
  refine XO.as rfl rfl ?_
  refine XO.nk [(0, _), (4, _), (5, _)] (S3 rfl rfl rfl) ?_
  refine XC.sr ?_
  refine XO.mv rfl rfl ?_
  refine XO.call rfl (m_New _ FC.void _ 0 FF.inv_void (by omega) 0) (.cons (.t4 .here) (.cons (.t4 .here) (.cons (.t4 .here) (.cons (.t4 .here) .nil)))) cl_8 rfl ?_
  rintro _ _ (⟨n0, rfl, rfl⟩ | ⟨n0, btt, s3, rfl, hh3, p3, c3, rfl⟩)
  ·
   rw [show FF.rootE FC.void.toFF 0 = 2 from MTop.v0]
   refine XO.mv rfl rfl ?_
   refine XO.v (V.extract rfl rfl) rfl ?_
   refine XO.v (V.extract rfl rfl) rfl ?_
   refine XO.as rfl rfl ?_
   refine XO.as rfl rfl ?_
   refine XO.nk [(0, _), (4, _), (5, _), (6, _), (7, _)] (S5 rfl rfl rfl rfl rfl) ?_
   refine XC.seq ?_
   refine XC.sr ?_
   refine XO.mv rfl rfl ?_
   refine XO.call rfl (same_any _ _ (by omega)) .nil cl_9 rfl ?_
   rintro _ _ ⟨rfl, rfl⟩
   refine XO.v (V.notP rfl) rfl ?_
   refine XO.mv rfl rfl ?_
   refine XO.splitF (d := 41) rfl (by simp) ?_
   refine XO.guardRun rfl rfl rfl ?_
   refine XO.mv rfl rfl ?_
   refine XO.guardRun rfl rfl rfl ?_
   refine XO.v (V.ptrNone rfl Tryz.underlying35 rfl) rfl ?_
   refine XO.v (V.pick rfl rfl rfl rfl) rfl ?_
   refine XO.nk [(0, _), (4, _), (5, _), (44, _)] (S4 rfl rfl rfl rfl) ?_
   refine XC.condF rfl rfl ?_
   refine XC.skip ?_
   refine XE.next ?_
   refine XC.keep [(0, _), (4, _), (5, _)] (S3 rfl rfl rfl) ?_
   refine XC.seq ?_
   refine XC.sr ?_
   refine XO.as rfl rfl ?_
   refine XO.nk [(0, _), (4, _), (5, _), (8, _)] (S4 rfl rfl rfl rfl) ?_
   refine XC.block ?_
   refine XC.loop (σ := FC × FC × Int) (fun z => (2 - z.2.2).toNat) (fun z => z.2.1.toFF = z.1.toFF ∧ z.1.toFF = MTop.PL z.2.2 ∧ 0 ≤ z.2.2 ∧ z.2.2 ≤ 2) (fun z => [(8, .int .i64 z.2.2), (0, .slice p 0 cap), (4, ptr bf 0 0), (5, ptr bm 0 0)]) (fun z => XM W (foot []) [.cells bf 0 321 (encF z.1), .fam fam40 (FC.rowsN 9 z.1), .fam fam40 (FC.rowsK 3 z.1), irow (FC.rP z.1) (FC.rC z.1) 3 (FC.toFF z.1).roots, .cells bm 0 321 (encM z.2.1), .fam fam40 (FC.rowsN 9 z.2.1), .fam fam40 (FC.rowsK 3 z.2.1), irow (FC.rP z.2.1) (FC.rC z.2.1) 3 (FC.toFF z.2.1).roots]) ((FC.void, FC.void, 0)) ?_ (S4 rfl rfl rfl rfl) (fun _ hw => XM.pick (.cons .here (.cons .here (.cons .here (.cons .here (.cons (.t3 .here) .h3))))) hw) ?_
   ·
    exact ⟨rfl, rfl, by simp, by simp⟩
   intro z hz
   obtain ⟨hzU, hzP, hz0, hz3⟩ := hz
   refine XC.seq ?_
   refine XC.sr ?_
   refine XO.mv rfl rfl ?_
   refine XO.v (V.cmp rfl rfl rfl) rfl ?_
   refine XO.nk [(0, _), (4, _), (5, _), (8, _), (46, _)] (S5 rfl rfl rfl rfl rfl) ?_
   refine XC.condP rfl (fun h3 => ?_) (fun h3 => ?_)
   ·
    refine XC.skip ?_
    refine XE.next ?_
    refine XC.keep [(0, _), (4, _), (5, _), (8, _)] (S4 rfl rfl rfl rfl) ?_
    refine XC.seq ?_
    refine XC.block ?_
    refine XC.sr ?_
    have hSz : z.1.toFF.Sh := by rw [hzP]; exact MTop.PL_sh hz0 (by omega)
    have hSw : z.2.1.toFF.Sh := by rw [hzU]; exact hSz
    refine XO.mv rfl rfl ?_
    refine XO.call rfl (t_Plant _ _ z.1 hSz) .h4 cl_10 rfl ?_
    rintro _ _ ⟨z1, rfl, hz1, rfl⟩
    refine XO.mv rfl rfl ?_
    refine XO.v (V.extract rfl rfl) rfl ?_
    refine XO.v (V.extract rfl rfl) rfl ?_
    refine XO.nk [(0, _), (4, _), (5, _), (8, _)] (S4 rfl rfl rfl rfl) ?_
    refine XC.region ?_
    refine XO.mv rfl rfl ?_
    refine XO.call rfl (r_Plant _ _ z.2.1 hSw) (.cons (.t4 .here) (.cons (.t4 .here) (.cons (.t4 .here) (.cons (.t4 .here) .nil)))) cl_11 rfl ?_
    rintro _ _ ⟨z2, rfl, hz2, rfl⟩
    refine XO.nil ?_
    refine XE.blockNormal ?_
    refine XE.next ?_
    refine XC.keep [(0, _), (4, _), (5, _), (8, _)] (S4 rfl rfl rfl rfl) ?_
    refine XC.region ?_
    refine XO.mv rfl rfl ?_
    refine XO.v (V.add rfl rfl _ (IntWalk.i64_in _ (by omega))) rfl ?_
    refine XO.as rfl rfl ?_
    refine XO.nil ?_
    refine XE.again ((z1, z2, z.2.2 + 1)) ?_ ?_ (S4 rfl rfl rfl rfl) (fun _ hw => XM.pick (.cons (.t4 .here) (.cons (.t4 .here) (.cons (.t4 .here) (.cons (.t4 .here) .h4)))) hw)
    ·
     (simp; omega)
    ·
     exact ⟨by show z2.toFF = z1.toFF; rw [hz2, hz1, hzU], by show z1.toFF = MTop.PL (z.2.2 + 1); rw [hz1, hzP, MTop.PL_next hz0 (by omega)], by simp; omega, by simp; omega⟩
   ·
    refine XC.exit ?_
    refine XE.thenExit ?_
    refine XE.thenExit ?_
    refine XE.blockExit ?_
    refine XE.next ?_
    refine XC.keep [(0, _), (4, _), (5, _)] (S3 rfl rfl rfl) ?_
    refine XC.sr ?_
    have e9 : z.1.toFF = MTop.F2 := by rw [hzP, show z.2.2 = 2 from by omega]; rfl
    have hO2 : z.1.toFF.Ok e2 2 := by rw [e9]; exact o2
    have hOw : z.2.1.toFF.Ok e2 2 := by rw [hzU, e9]; exact o2
    have hr0 : z.1.rootV 0 = 0 := by rw [e9]; exact MTop.r0.2
    have hrw : z.2.1.rootV 0 = 0 := by rw [hzU, e9]; exact MTop.r0.2
    refine XO.mv rfl rfl ?_
    refine XO.call rfl (m_New _ z.1 e2 2 hO2 (by omega) 0) .h4 cl_8 rfl ?_
    rintro _ _ (⟨n0, rfl, rfl⟩ | ⟨n0, btt, s3, rfl, hh3, p3, c3, rfl⟩)
    ·
     exact absurd (show z.1.rootE 0 = 0 by rw [e9]; exact MTop.r0.1) n0
    ·
     rw [hr0] at hh3
     rw [hr0]
     rw [show irow (FC.rP z.1) (FC.rC z.1) 3 (FC.toFF z.1).roots = irow (FC.rP s3) (FC.rC s3) 3 (FC.toFF s3).roots from by rw [p3, c3, hh3, FF.hold_roots]]
     refine XO.mv rfl rfl ?_
     refine XO.v (V.extract rfl rfl) rfl ?_
     refine XO.v (V.extract rfl rfl) rfl ?_
     refine XO.as rfl rfl ?_
     refine XO.as rfl rfl ?_
     refine XO.nk [(0, _), (4, _), (5, _), (7, _), (9, _)] (S5 rfl rfl rfl rfl rfl) ?_
     refine XC.sr ?_
     refine XO.mv rfl rfl ?_
     refine XO.call rfl (u_New _ z.2.1 e2 2 hOw (by omega) 0 (by rw [hzU, e9]; exact MTop.r0.1)) (.cons (.t6 .here) (.cons (.t6 .here) (.cons (.t6 .here) (.cons (.t6 .here) .nil)))) cl_12 rfl ?_
     rintro _ _ ⟨bu, m3, rfl, hm3, q3, k3, rfl⟩
     rw [hrw] at hm3
     rw [hrw]
     rw [show irow (FC.rP z.2.1) (FC.rC z.2.1) 3 (FC.toFF z.2.1).roots = irow (FC.rP m3) (FC.rC m3) 3 (FC.toFF m3).roots from by rw [q3, k3, hm3, FF.hold_roots]]
     refine XO.mv rfl rfl ?_
     refine XO.v (V.extract rfl rfl) rfl ?_
     refine XO.v (V.extract rfl rfl) rfl ?_
     refine XO.as rfl rfl ?_
     refine XO.as rfl rfl ?_
     refine XO.nk [(0, _), (4, _), (5, _), (7, _), (9, _), (10, _)] (S6 rfl rfl rfl rfl rfl rfl) ?_
     refine XC.seq ?_
     refine XC.sr ?_
     refine XO.mv rfl rfl ?_
     refine XO.v (V.nilNil rfl Tryz.underlying37 rfl) rfl ?_
     refine XO.mv rfl rfl ?_
     refine XO.guardRun rfl rfl rfl ?_
     refine XO.mv rfl rfl ?_
     refine XO.guardRun rfl rfl rfl ?_
     refine XO.v (V.ptrNilP rfl Tryz.underlying35 rfl) rfl ?_
     refine XO.v (V.pick rfl rfl rfl rfl) rfl ?_
     refine XO.nk [(0, _), (4, _), (5, _), (9, _), (10, _), (71, _)] (S6 rfl rfl rfl rfl rfl rfl) ?_
     refine XC.condF rfl rfl ?_
     refine XC.skip ?_
     refine XE.next ?_
     refine XC.keep [(0, _), (4, _), (5, _), (9, _), (10, _)] (S5 rfl rfl rfl rfl rfl) ?_
     refine XC.seq ?_
     refine XC.sr ?_
     refine XO.as rfl rfl ?_
     refine XO.nk [(0, _), (4, _), (5, _), (9, _), (10, _), (12, _)] (S6 rfl rfl rfl rfl rfl rfl) ?_
     refine XC.block ?_
     refine XC.loop (σ := MSt × Int) (fun x => 0) (fun x => x.1.Ok (3 + 14 * x.2) ∧ 0 ≤ x.2 ∧ x.2 ≤ (0 : Nat)) (fun x => [(9, ptr x.1.bt 0 0), (12, .int .i64 x.2), (0, .slice p 0 cap), (4, ptr bf 0 0), (5, ptr bm 0 0), (10, ptr bu 0 0)]) (fun x => XM W (foot []) [.cells x.1.bt 0 4 (encT bf x.1.t.r (.slice x.1.t.p x.1.t.l.length x.1.t.c)), frow x.1.t.p x.1.t.cap 98 4 x.1.t.k x.1.t.C, .cells bf 0 321 (encF x.1.s), .fam fam40 (FC.rowsN 9 x.1.s), .fam fam40 (FC.rowsK 3 x.1.s), irow (FC.rP x.1.s) (FC.rC x.1.s) 3 (FC.toFF x.1.s).roots, .cells bu 0 4 (encT bm x.1.t.r (.slice x.1.w.p x.1.t.l.length x.1.w.c)), frow x.1.w.p x.1.w.cap 98 4 x.1.w.k x.1.w.C, .cells bm 0 321 (encM x.1.m), .fam fam40 (FC.rowsN 9 x.1.m), .fam fam40 (FC.rowsK 3 x.1.m), irow (FC.rP x.1.m) (FC.rC x.1.m) 3 (FC.toFF x.1.m).roots]) ((⟨s3, m3, btt, ⟨⟨0, 0⟩, [], none, 0, 0, 0, C0⟩, ⟨⟨0, 0⟩, [], none, 0, 0, 0, C0⟩⟩, 0)) ?_ (S6 rfl rfl rfl rfl rfl rfl) (fun _ hw => XM.pick (.cons (.t6 .here) (.cons (.t6 .here) (.cons (.t6 .here) (.cons (.t6 .here) (.cons (.t6 .here) (.cons (.t6 .here) .h6)))))) hw) ?_
     ·
      exact ⟨⟨by show m3.toFF = s3.toFF; rw [hm3, hh3, hzU], by show StM s3.toFF (3 + 14 * 0) ⟨0, 0⟩ []; rw [hh3, e9]; exact MTop.stM, MTop.nil_ok' _ _, C0_ok, MC.nil _⟩, by simp, by simp⟩
     intro x hx
     obtain ⟨hx, hx0, hx1⟩ := hx
     obtain ⟨d, hO⟩ := hx.st.ok
     refine XC.seq ?_
     refine XC.sr ?_
     refine XO.mv rfl rfl ?_
     refine XO.mv rfl rfl ?_
     refine XO.v (V.lenSl rfl Tryz.underlying22) rfl ?_
     refine XO.v (V.cmp rfl rfl rfl) rfl ?_
     refine XO.nk [(0, _), (4, _), (5, _), (9, _), (10, _), (12, _), (75, _)] (S7 rfl rfl rfl rfl rfl rfl rfl) ?_
     refine XC.condFP rfl (by simp; omega) ?_
     refine XC.exit ?_
     refine XE.thenExit ?_
     refine XE.thenExit ?_
     refine XE.blockExit ?_
     refine XE.next ?_
     refine XC.keep [(4, _), (5, _)] (S2 rfl rfl) ?_
     refine XC.sr ?_
     refine XO.mv rfl rfl ?_
     refine XO.mv rfl rfl ?_
     refine XO.call rfl (as_forest _ _ x.1.s x.1.m hx.u d _ hO (by omega)) (.cons (.t2 .here) (.cons (.t2 .here) (.cons (.t2 .here) (.cons (.t2 .here) (.cons (.t4 .here) (.cons (.t4 .here) (.cons (.t4 .here) (.cons (.t4 .here) .nil)))))))) cl_21 rfl ?_
     rintro _ _ ⟨rfl, rfl⟩
     refine XO.as rfl rfl ?_
     refine XO.nk [(2, _)] (S1 rfl) ?_
     refine XC.ret ?_
     refine XE.ret1 rfl rfl (post_of .nil rfl ?_)
     exact ⟨rfl, rfl⟩
  ·
   exact absurd (show FF.rootE FF.void 0 = 2 from MTop.v0) (fun q => by have q2 : FF.rootE FF.void 0 = 0 := n0; omega)
theorem law_nil : Spec Tryz.prog 3 [.slice none 0 0] [] (fun v H1 => v = .bool true ∧ H1 = []) := law_nil' none 0

end Go.X
