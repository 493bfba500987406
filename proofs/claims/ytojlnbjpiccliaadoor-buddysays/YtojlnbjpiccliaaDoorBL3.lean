import Derived.Test.YtojlnbjpiccliaaDoorBL2
namespace Go.X
open Go Go.Proofs

set_option maxRecDepth 10000 in
set_option maxHeartbeats 2000000 in
theorem law_nil' (p : Option Addr) (cap : Nat) : Spec Tryd.prog 3 [.slice p 0 cap]
    [.ro 0 0 64 tab64]
    (fun v H1 => v = .bool true ∧ H1 = []) := by
  refine Spec.intro Tryd.func3 rfl rfl ?_
  intro W
  refine XC.seq ?_
  refine XC.region ?_
  refine XO.v (V.assign rfl) rfl ?_
  refine XO.nil ?_
  refine XE.next ?_
  refine XC.keep [(0, _)] (Sub.cons rfl (Sub.nil _)) ?_
  refine XC.seq ?_
  refine XC.region ?_
  refine XO.callR 0 rfl (blocks_any) (.cons .here .nil) rfl cl_5 rfl ?_
  rintro _ _ ⟨rfl, rfl⟩
  refine XO.v (V.assign rfl) rfl ?_
  refine XO.nil ?_
  refine XE.next ?_
  refine XC.keep [(0, _), (3, _)] (Sub.cons rfl (Sub.cons rfl (Sub.nil _))) ?_
  refine XC.seq ?_
  refine XC.seq ?_
  refine XC.region ?_
  refine XO.v (V.move rfl) rfl ?_
  refine XO.v (V.not rfl) rfl ?_
  refine XO.v (V.move rfl) rfl ?_
  refine XO.guardRun rfl rfl rfl ?_
  refine XO.v (V.move rfl) rfl ?_
  refine XO.guardRun rfl rfl rfl ?_
  refine XO.call rfl (light_any _ _ _ _) .nil cl_6 rfl ?_
  rintro _ _ ⟨rfl, rfl⟩
  refine XO.guardRun rfl rfl rfl ?_
  refine XO.v (V.notP rfl) rfl ?_
  refine XO.v (V.pick rfl rfl rfl rfl) rfl ?_
  refine XO.nil ?_
  refine XE.next ?_
  refine XC.keep [(0, _), (3, _), (18, _)] (Sub.cons rfl (Sub.cons rfl (Sub.cons rfl (Sub.nil _)))) ?_
  refine XC.condP rfl (fun h1 => ?_) (fun h1 => ?_)
  · skip
    refine XC.seq ?_
    refine XC.region ?_
    refine XO.v (V.move rfl) rfl ?_
    refine XO.v (V.assign rfl) rfl ?_
    refine XO.nil ?_
    refine XE.next ?_
    refine XC.keep [(2, _)] (Sub.cons rfl (Sub.nil _)) ?_
    refine XC.ret ?_
    refine XE.thenRet ?_
    refine XE.ret1 rfl rfl (post_of .nil rfl ?_)
    exact ⟨rfl, rfl⟩
  · skip
    refine XC.skip ?_
    refine XE.next ?_
    refine XC.keep [(0, _)] (Sub.cons rfl (Sub.nil _)) ?_
    refine XC.seq ?_
    refine XC.region ?_
    refine XO.call rfl (p_New) .nil cl_7 rfl ?_
    rintro _ _ ⟨bs, rfl, rfl⟩
    refine XO.v (V.assign rfl) rfl ?_
    refine XO.nil ?_
    refine XE.next ?_
    refine XC.keep [(0, _), (4, _)] (Sub.cons rfl (Sub.cons rfl (Sub.nil _))) ?_
    refine XC.seq ?_
    refine XC.region ?_
    refine XO.call rfl (u_New) .nil cl_8 rfl ?_
    rintro _ _ ⟨bm, rfl, rfl⟩
    refine XO.v (V.assign rfl) rfl ?_
    refine XO.nil ?_
    refine XE.next ?_
    refine XC.keep [(0, _), (4, _), (5, _)] (Sub.cons rfl (Sub.cons rfl (Sub.cons rfl (Sub.nil _)))) ?_
    refine XC.seq ?_
    refine XC.seq ?_
    refine XC.region ?_
    refine XO.v (V.assign rfl) rfl ?_
    refine XO.nil ?_
    refine XE.next ?_
    refine XC.keep [(0, _), (4, _), (5, _), (6, _)] (Sub.cons rfl (Sub.cons rfl (Sub.cons rfl (Sub.cons rfl (Sub.nil _))))) ?_
    refine XC.block ?_
    refine XC.loop (σ := BB × Int) (fun x => 0) (fun x => x.1.Inv ∧ 0 ≤ x.2 ∧ x.2 ≤ (0 : Nat)) (fun x => [(6, .int .i64 x.2), (0, .slice p 0 cap), (4, ptr bs 0 0), (5, ptr bm 0 0)]) (fun x => XM W (foot [.ro 0 0 64 tab64]) [.cells bs 0 71 (encP x.1.pool), .cells bm 0 128 (encM x.1), .ro 0 0 64 tab64]) ((BB.init, 0)) ?_ (Sub.cons rfl (Sub.cons rfl (Sub.cons rfl (Sub.cons rfl (Sub.nil _))))) (fun _ hw => XM.pick (.cons (.there .here) (.cons .here (.cons .here .nil))) hw) ?_
    · skip
      exact ⟨BB.Inv.init, by simp, by simp⟩
    intro x hx
    obtain ⟨hx, hx0, hx1⟩ := hx
    refine XC.seq ?_
    refine XC.seq ?_
    refine XC.region ?_
    refine XO.v (V.move rfl) rfl ?_
    refine XO.v (V.move rfl) rfl ?_
    refine XO.v (V.lenSl rfl Tryd.underlying22) rfl ?_
    refine XO.v (V.cmp rfl rfl rfl) rfl ?_
    refine XO.nil ?_
    refine XE.next ?_
    refine XC.keep [(0, _), (4, _), (5, _), (6, _), (25, _)] (Sub.cons rfl (Sub.cons rfl (Sub.cons rfl (Sub.cons rfl (Sub.cons rfl (Sub.nil _)))))) ?_
    refine XC.condFP rfl (by simp; omega) ?_
    refine XC.exit ?_
    refine XE.thenExit ?_
    refine XE.thenExit ?_
    refine XE.blockExit ?_
    refine XE.next ?_
    refine XC.keep [(4, _), (5, _)] (Sub.cons rfl (Sub.cons rfl (Sub.nil _))) ?_
    refine XC.seq ?_
    refine XC.region ?_
    refine XO.v (V.move rfl) rfl ?_
    refine XO.v (V.move rfl) rfl ?_
    refine XO.callR 2 rfl (as_blocks _ _ _ hx) (.cons .here (.cons .here (.cons .here .nil))) rfl cl_14 rfl ?_
    rintro _ _ ⟨rfl, rfl⟩
    refine XO.v (V.assign rfl) rfl ?_
    refine XO.nil ?_
    refine XE.next ?_
    refine XC.keep [(2, _)] (Sub.cons rfl (Sub.nil _)) ?_
    refine XC.ret ?_
    refine XE.ret1 rfl rfl (post_of .nil rfl ?_)
    exact ⟨rfl, rfl⟩
theorem law_nil : Spec Tryd.prog 3 [.slice none 0 0] [.ro 0 0 64 tab64] (fun v H1 => v = .bool true ∧ H1 = []) := law_nil' none 0

end Go.X
