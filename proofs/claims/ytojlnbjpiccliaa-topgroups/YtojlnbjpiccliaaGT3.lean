import Derived.Test.YtojlnbjpiccliaaGT2
namespace Go.X
open Go Go.Proofs

set_option maxRecDepth 10000 in
set_option maxHeartbeats 4000000 in
theorem top_nil' (p : Option Addr) (cap : Nat) : Spec Try.prog 6 [.slice p 0 cap]
    []
    (fun v H1 => v = .bool true ∧ H1 = []) := by
  refine Spec.intro Try.func6 rfl rfl ?_
  intro W
  refine XC.seq ?_
  refine XC.region ?_
  refine XO.v (V.assign rfl) rfl ?_
  refine XO.nil ?_
  refine XE.next ?_
  refine XC.keep [(0, _)] (Sub.cons rfl (Sub.nil _)) ?_
  refine XC.seq ?_
  refine XC.region ?_
  refine XO.call rfl (g_new) .nil cl_27 rfl ?_
  rintro _ _ ⟨bs, rfl, rfl⟩
  refine XO.v (V.assign rfl) rfl ?_
  refine XO.nil ?_
  refine XE.next ?_
  refine XC.keep [(0, _), (3, _)] (Sub.cons rfl (Sub.cons rfl (Sub.nil _))) ?_
  refine XC.seq ?_
  refine XC.seq ?_
  refine XC.region ?_
  refine XO.v (V.move rfl) rfl ?_
  refine XO.v (V.ptrNilP rfl Try.underlying48 rfl) rfl ?_
  refine XO.nil ?_
  refine XE.next ?_
  refine XC.keep [(0, _), (3, _), (15, _)] (Sub.cons rfl (Sub.cons rfl (Sub.cons rfl (Sub.nil _)))) ?_
  refine XC.condF rfl rfl ?_
  refine XC.skip ?_
  refine XE.next ?_
  refine XC.keep [(0, _), (3, _)] (Sub.cons rfl (Sub.cons rfl (Sub.nil _))) ?_
  refine XC.seq ?_
  refine XC.seq ?_
  refine XC.region ?_
  refine XO.v (V.move rfl) rfl ?_
  refine XO.call rfl (light_any _ _ _ _) .nil cl_10 rfl ?_
  rintro _ _ ⟨rfl, rfl⟩
  refine XO.v (V.notP rfl) rfl ?_
  refine XO.nil ?_
  refine XE.next ?_
  refine XC.keep [(0, _), (3, _), (18, _)] (Sub.cons rfl (Sub.cons rfl (Sub.cons rfl (Sub.nil _)))) ?_
  refine XC.condP rfl (fun h1 => ?_) (fun h1 => ?_)
  · skip
    refine XC.seq ?_
    refine XC.region ?_
    refine XO.v (V.assign rfl) rfl ?_
    refine XO.nil ?_
    refine XE.next ?_
    refine XC.keep [(2, _)] (Sub.cons rfl (Sub.nil _)) ?_
    refine XC.ret ?_
    refine XE.thenRet ?_
    refine XE.ret1 rfl rfl (post_of .nil rfl ?_)
    exact ⟨rfl, rfl⟩
  · skip
    refine XC.skip ?_
    refine XE.next ?_
    refine XC.keep [(0, _), (3, _)] (Sub.cons rfl (Sub.cons rfl (Sub.nil _))) ?_
    refine XC.seq ?_
    refine XC.region ?_
    refine XO.allocZ (z := .agg (arrO (fun _ => 0) (fun _ => 0))) (m := 20) (C := encO (fun _ => 0) (fun _ => 0)) (by kernel_rfl) (arrO_size _ _) (encO.box _ _) rfl ?_
    intro bo
    refine XO.nil ?_
    refine XE.next ?_
    refine XC.keep [(0, _), (3, _), (4, _)] (Sub.cons rfl (Sub.cons rfl (Sub.cons rfl (Sub.nil _)))) ?_
    refine XC.seq ?_
    refine XC.seq ?_
    refine XC.region ?_
    refine XO.v (V.assign rfl) rfl ?_
    refine XO.nil ?_
    refine XE.next ?_
    refine XC.keep [(0, _), (3, _), (4, _), (5, _)] (Sub.cons rfl (Sub.cons rfl (Sub.cons rfl (Sub.cons rfl (Sub.nil _))))) ?_
    refine XC.block ?_
    refine XC.loop (σ := TG × (Int → Int) × (Int → Int) × Int) (fun x => 0) (fun x => x.1.Inv ∧ x.1.Small (1000 * x.2.2.2) ∧ x.1.Own x.2.1 x.2.2.1 ∧ 0 ≤ x.2.2.2 ∧ x.2.2.2 ≤ (0 : Nat)) (fun x => [(5, .int .i64 x.2.2.2), (0, .slice p 0 cap), (3, ptr bs 0 0), (4, ptr bo 0 0)]) (fun x => XM W (foot []) [.cells bs 0 60 (encGt x.1), .cells bo 0 20 (encO x.2.1 x.2.2.1)]) ((TG.init, (fun _ => 0), (fun _ => 0), 0)) ?_ (Sub.cons rfl (Sub.cons rfl (Sub.cons rfl (Sub.cons rfl (Sub.nil _))))) (fun _ hw => XM.pick (.cons (.there .here) (.cons .here .nil)) hw) ?_
    · skip
      exact ⟨TG.Inv.init, TG.Small.init, TG.Own.init, by simp, by simp⟩
    intro x hx
    obtain ⟨hI, hS, hOw, hx0, hx1⟩ := hx
    have hO := hI.ok
    refine XC.seq ?_
    refine XC.seq ?_
    refine XC.region ?_
    refine XO.v (V.move rfl) rfl ?_
    refine XO.v (V.move rfl) rfl ?_
    refine XO.v (V.lenSl rfl Try.underlying22) rfl ?_
    refine XO.v (V.cmp rfl rfl rfl) rfl ?_
    refine XO.nil ?_
    refine XE.next ?_
    refine XC.keep [(0, _), (3, _), (4, _), (5, _), (22, _)] (Sub.cons rfl (Sub.cons rfl (Sub.cons rfl (Sub.cons rfl (Sub.cons rfl (Sub.nil _)))))) ?_
    refine XC.condFP rfl (by simp; omega) ?_
    refine XC.exit ?_
    refine XE.thenExit ?_
    refine XE.thenExit ?_
    refine XE.blockExit ?_
    refine XE.next ?_
    refine XC.keep [] (Sub.nil _) ?_
    refine XC.seq ?_
    refine XC.region ?_
    refine XO.v (V.assign rfl) rfl ?_
    refine XO.nil ?_
    refine XE.next ?_
    refine XC.keep [(2, _)] (Sub.cons rfl (Sub.nil _)) ?_
    refine XC.ret ?_
    refine XE.ret1 rfl rfl (post_of .nil rfl ?_)
    exact ⟨rfl, rfl⟩
theorem top_nil : Spec Try.prog 6 [.slice none 0 0] [] (fun v H1 => v = .bool true ∧ H1 = []) := top_nil' none 0

end Go.X
