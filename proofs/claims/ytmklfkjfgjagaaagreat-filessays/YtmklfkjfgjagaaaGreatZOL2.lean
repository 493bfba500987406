import Derived.Test.YtmklfkjfgjagaaaGreatXShort
import Derived.Test.YtmklfkjfgjagaaaGreatZOL1
namespace Go.X
open Go Go.Proofs

set_option maxRecDepth 10000 in
set_option maxHeartbeats 8000000 in
theorem law_nil' (p : Option Addr) (cap : Nat) : Spec Tryz.prog 3 [.slice p 0 cap]
    []
    (fun v H1 => v = .bool true ∧ H1 = []) := by
 obtain ⟨d0, k0⟩ := FF.inv_void.plant
 refine Spec.intro Tryz.func3 rfl rfl ?_
 intro W
 refine XC.sr ?_
 refine XO.as rfl rfl ?_
 refine XO.nk [(0, _)] (S1 rfl) ?_
 refine XC.sr ?_
 refine XO.call rfl (opens_any) .nil cl_4 rfl ?_
 rintro _ _ ⟨rfl, rfl⟩
 refine XO.as rfl rfl ?_
 refine XO.nk [(0, _), (3, _)] (S2 rfl rfl) ?_
 refine XC.seq ?_
 refine XC.sr ?_
 refine XO.mv rfl rfl ?_
 refine XO.v (V.not rfl) rfl ?_
 refine XO.mv rfl rfl ?_
 refine XO.guardRun rfl rfl rfl ?_
 refine XO.mv rfl rfl ?_
 refine XO.guardRun rfl rfl rfl ?_
 refine XO.call rfl (light_any _ _ _ _) .nil cl_5 rfl ?_
 rintro _ _ ⟨rfl, rfl⟩
 refine XO.guardRun rfl rfl rfl ?_
 refine XO.v (V.notP rfl) rfl ?_
 refine XO.v (V.pick rfl rfl rfl rfl) rfl ?_
 refine XO.mv rfl rfl ?_
 refine XO.splitP (d := 28) rfl (fun h1 => ?_) (fun h1 => ?_)
 ·
  refine XO.guardSkip rfl rfl rfl rfl rfl ?_
  refine XO.guardSkip rfl rfl rfl rfl rfl ?_
  refine XO.guardSkip rfl rfl rfl rfl rfl ?_
  refine XO.v (V.pick rfl rfl rfl rfl) rfl ?_
  refine XO.nk [(0, _), (3, _), (32, _)] (S3 rfl rfl rfl) ?_
  refine XC.condT rfl rfl ?_
  refine XC.sr ?_
  refine XO.mv rfl rfl ?_
  refine XO.as rfl rfl ?_
  refine XO.nk [(2, _)] (S1 rfl) ?_
  refine XC.ret ?_
  refine XE.thenRet ?_
  refine XE.ret1 rfl rfl (post_of .nil rfl ?_)
  exact ⟨rfl, rfl⟩
 ·
  refine XO.guardRun rfl rfl rfl ?_
  refine XO.mv rfl rfl ?_
  refine XO.guardRun rfl rfl rfl ?_
  refine XO.call rfl (texts_nil _ _ _) .nil cl_6 rfl ?_
  rintro _ _ ⟨rfl, rfl⟩
  refine XO.guardRun rfl rfl rfl ?_
  refine XO.v (V.not rfl) rfl ?_
  refine XO.v (V.pick rfl rfl rfl rfl) rfl ?_
  refine XO.nk [(0, _), (3, _), (32, _)] (S3 rfl rfl rfl) ?_
  refine XC.condF rfl rfl ?_
  refine XC.skip ?_
  refine XE.next ?_
  refine XC.keep [(0, _)] (S1 rfl) ?_
  refine XC.sr ?_
  refine XO.call rfl (t_New) .nil cl_7 rfl ?_
  rintro _ _ ⟨bf, rfl, rfl⟩
  refine XO.as rfl rfl ?_
  refine XO.nk [(0, _), (4, _)] (S2 rfl rfl) ?_
  refine XC.sr ?_
  refine XO.v (V.build (vs := #[]) rfl (v := .agg arrM0) (fun _ => by kernel_rfl)) rfl ?_
  refine XO.box (m := 321) (C := encM FC.void) rfl arrM0_size arrM0_box rfl ?_
  intro bm
  refine XO.mono (fun _ hw3 => XM.newForest hw3) ?_
  refine XO.as rfl rfl ?_
  refine XO.nk [(0, _), (4, _), (5, _)] (S3 rfl rfl rfl) ?_
  refine XC.sr ?_
  refine XO.mv rfl rfl ?_
  refine XO.call rfl (t_Plant _ _ _ (FF.inv_void.sh (by omega))) (.cons (.t4 .here) (.cons (.t4 .here) (.cons (.t4 .here) (.cons (.t4 .here) .nil)))) cl_8 rfl ?_
  rintro _ _ ⟨t0, rfl, ht0, rfl⟩
  refine XO.mv rfl rfl ?_
  refine XO.v (V.extract rfl rfl) rfl ?_
  refine XO.v (V.extract rfl rfl) rfl ?_
  refine XO.nk [(0, _), (4, _), (5, _)] (S3 rfl rfl rfl) ?_
  refine XC.sr ?_
  refine XO.mv rfl rfl ?_
  refine XO.call rfl (r_Plant _ _ _ (FF.inv_void.sh (by omega))) (.cons (.t7 .here) (.cons (.t4 .here) (.cons (.t4 .here) (.cons (.t4 .here) .nil)))) cl_9 rfl ?_
  rintro _ _ ⟨u0, rfl, hu0, rfl⟩
  refine XO.nk [(0, _), (4, _), (5, _)] (S3 rfl rfl rfl) ?_
  refine XC.sr ?_
  refine XO.v (V.build (vs := #[]) rfl (v := .agg #[.string ⟨#[]⟩, .int .i64 0, .int .i64 0, .string ⟨#[]⟩, .int .i64 0, .int .i64 0, .string ⟨#[]⟩, .int .i64 0, .int .i64 0, .string ⟨#[]⟩, .int .i64 0, .int .i64 0, .string ⟨#[]⟩, .int .i64 0, .int .i64 0, .string ⟨#[]⟩, .int .i64 0, .int .i64 0, .string ⟨#[]⟩, .int .i64 0, .int .i64 0, .string ⟨#[]⟩, .int .i64 0, .int .i64 0]) (fun _ => by kernel_rfl)) rfl ?_
  refine XO.box (m := 24) (C := encP PS.init) rfl rfl boxP_init rfl ?_
  intro bp
  refine XO.as rfl rfl ?_
  refine XO.nk [(0, _), (4, _), (5, _), (6, _)] (S4 rfl rfl rfl rfl) ?_
  refine XC.sr ?_
  refine XO.v (V.build (vs := #[]) rfl (v := .agg #[.string ⟨#[]⟩, .string ⟨#[]⟩, .string ⟨#[]⟩, .string ⟨#[]⟩, .string ⟨#[]⟩, .string ⟨#[]⟩, .string ⟨#[]⟩, .string ⟨#[]⟩, .int .i64 0, .int .i64 0, .int .i64 0, .int .i64 0, .int .i64 0, .int .i64 0, .int .i64 0, .int .i64 0, .int .i64 0, .int .i64 0, .int .i64 0, .int .i64 0, .int .i64 0, .int .i64 0, .int .i64 0, .int .i64 0]) (fun _ => by kernel_rfl)) rfl ?_
  refine XO.box (m := 24) (C := encR PS.init) rfl rfl boxR_init rfl ?_
  intro bx
  refine XO.as rfl rfl ?_
  refine XO.nk [(0, _), (4, _), (5, _), (6, _), (7, _)] (S5 rfl rfl rfl rfl rfl) ?_
  refine XC.sr ?_
  refine XO.mv rfl rfl ?_
  refine XO.mv rfl rfl ?_
  refine XO.call rfl (f_New bf bp) .nil cl_10 rfl ?_
  rintro _ _ ⟨bo, rfl, rfl⟩
  refine XO.as rfl rfl ?_
  refine XO.nk [(0, _), (4, _), (5, _), (6, _), (7, _), (8, _)] (S6 rfl rfl rfl rfl rfl rfl) ?_
  refine XC.sr ?_
  refine XO.mv rfl rfl ?_
  refine XO.mv rfl rfl ?_
  refine XO.v (V.build (vs := #[(0, ptr bm 0 0), (1, ptr bx 0 0)]) rfl (v := .agg (arrQ bm bx)) (fun _ => by kernel_rfl)) rfl ?_
  refine XO.box (m := 122) (C := encQ bm bx OS.void) rfl (arrQ_size bm bx) (arrQ_box bm bx) rfl ?_
  intro bq
  refine XO.as rfl rfl ?_
  refine XO.nk [(0, _), (4, _), (5, _), (6, _), (7, _), (8, _), (9, _)] (S7 rfl rfl rfl rfl rfl rfl rfl) ?_
  refine XC.seq ?_
  refine XC.sr ?_
  refine XO.as rfl rfl ?_
  refine XO.nk [(0, _), (4, _), (5, _), (6, _), (7, _), (8, _), (9, _), (10, _)] (S8 rfl rfl rfl rfl rfl rfl rfl rfl) ?_
  refine XC.block ?_
  refine XC.loop (σ := FC × FC × OS × PS × Int) (fun x => 0) (fun x => x.2.1.toFF = x.1.toFF ∧ (∃ d, x.1.toFF.Ok d (x.2.2.2.2 + 1)) ∧ x.2.2.1.Inv (x.2.2.2.2 + 1) ∧ x.2.2.2.1.Inv x.2.2.2.2 ∧ 0 ≤ x.2.2.2.2 ∧ x.2.2.2.2 ≤ (0 : Nat)) (fun x => [(10, .int .i64 x.2.2.2.2), (0, .slice p 0 cap), (4, ptr bf 0 0), (5, ptr bm 0 0), (6, ptr bp 0 0), (7, ptr bx 0 0), (8, ptr bo 0 0), (9, ptr bq 0 0)]) (fun x => XM W (foot []) [.cells bf 0 321 (encF x.1), .fam fam40 (FC.rowsN 9 x.1), .fam fam40 (FC.rowsK 3 x.1), irow (FC.rP x.1) (FC.rC x.1) 3 (FC.toFF x.1).roots, .cells bm 0 321 (encM x.2.1), .fam fam40 (FC.rowsN 9 x.2.1), .fam fam40 (FC.rowsK 3 x.2.1), irow (FC.rP x.2.1) (FC.rC x.2.1) 3 (FC.toFF x.2.1).roots, .cells bo 0 122 (encO bf bp x.2.2.1), .cells bp 0 24 (encP x.2.2.2.1), .cells bq 0 122 (encQ bm bx x.2.2.1), .cells bx 0 24 (encR x.2.2.2.1)]) ((t0, u0, OS.void, PS.init, 0)) ?_ (S8 rfl rfl rfl rfl rfl rfl rfl rfl) (fun _ hw => XM.pick (.cons (.t8 .here) (.cons (.t8 .here) (.cons (.t8 .here) (.cons (.t8 .here) (.cons (.t4 .here) (.cons (.t4 .here) (.cons (.t4 .here) (.cons (.t4 .here) (.cons (.there .here) (.cons (.t2 .here) .h2)))))))))) hw) ?_
  ·
   exact ⟨(hu0.trans ht0.symm : u0.toFF = t0.toFF), ⟨d0, by show t0.toFF.Ok d0 (0 + 1); rw [ht0]; exact k0⟩, OS.Inv.void, PS.Inv.init, by simp, by simp⟩
  intro x hx
  obtain ⟨hU, ⟨d, hO⟩, hOI, hq, hx0, hx1⟩ := hx
  refine XC.seq ?_
  refine XC.sr ?_
  refine XO.mv rfl rfl ?_
  refine XO.mv rfl rfl ?_
  refine XO.v (V.lenSl rfl Tryz.underlying22) rfl ?_
  refine XO.v (V.cmp rfl rfl rfl) rfl ?_
  refine XO.nk [(0, _), (4, _), (5, _), (6, _), (7, _), (8, _), (9, _), (10, _), (58, _)] (Sub.cons rfl (S8 rfl rfl rfl rfl rfl rfl rfl rfl)) ?_
  refine XC.condFP rfl (by simp; omega) ?_
  refine XC.exit ?_
  refine XE.thenExit ?_
  refine XE.thenExit ?_
  refine XE.blockExit ?_
  refine XE.next ?_
  refine XC.keep [(4, _), (5, _)] (S2 rfl rfl) ?_
  refine XC.sr ?_
  refine XO.mv rfl rfl ?_
  refine XO.mv rfl rfl ?_
  refine XO.call rfl (as_forest _ _ x.1 x.2.1 hU d _ hO (by omega)) .h8 cl_21 rfl ?_
  rintro _ _ ⟨rfl, rfl⟩
  refine XO.as rfl rfl ?_
  refine XO.nk [(2, _)] (S1 rfl) ?_
  refine XC.ret ?_
  refine XE.ret1 rfl rfl (post_of .nil rfl ?_)
  exact ⟨rfl, rfl⟩
theorem law_nil : Spec Tryz.prog 3 [.slice none 0 0] [] (fun v H1 => v = .bool true ∧ H1 = []) := law_nil' none 0

end Go.X
