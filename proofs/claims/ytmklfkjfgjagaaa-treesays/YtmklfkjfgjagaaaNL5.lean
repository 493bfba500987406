import Derived.Test.YtmklfkjfgjagaaaNL4
namespace Go.X
open Go Go.Proofs

set_option maxRecDepth 10000 in
set_option maxHeartbeats 4000000 in
theorem law_nil' (p : Option Addr) (cap : Nat) : Spec Try.prog 3 [.slice p 0 cap]
    []
    (fun v H1 => v = .bool true ∧ H1 = []) := by
  refine Spec.intro Try.func3 rfl rfl ?_
  intro W
  refine XC.seq ?_
  refine XC.region ?_
  refine XO.v (V.assign rfl) rfl ?_
  refine XO.nil ?_
  refine XE.next ?_
  refine XC.keep [(0, _)] (Sub.cons rfl (Sub.nil _)) ?_
  refine XC.seq ?_
  refine XC.region ?_
  refine XO.call rfl (grows_any) .nil cl_7 rfl ?_
  rintro _ _ ⟨rfl, rfl⟩
  refine XO.v (V.assign rfl) rfl ?_
  refine XO.nil ?_
  refine XE.next ?_
  refine XC.keep [(0, _), (3, _)] (Sub.cons rfl (Sub.cons rfl (Sub.nil _))) ?_
  refine XC.seq ?_
  refine XC.seq ?_
  refine XC.region ?_
  refine XO.v (V.move rfl) rfl ?_
  refine XO.v (V.not rfl) rfl ?_
  refine XO.v (V.move rfl) rfl ?_
  refine XO.guardRun rfl rfl rfl ?_
  refine XO.v (V.move rfl) rfl ?_
  refine XO.guardRun rfl rfl rfl ?_
  refine XO.call rfl (light_any _ _ _ _) .nil cl_8 rfl ?_
  rintro _ _ ⟨rfl, rfl⟩
  refine XO.guardRun rfl rfl rfl ?_
  refine XO.v (V.notP rfl) rfl ?_
  refine XO.v (V.pick rfl rfl rfl rfl) rfl ?_
  refine XO.v (V.move rfl) rfl ?_
  refine XO.splitP (d := 16) rfl (fun h1 => ?_) (fun h1 => ?_)
  · skip
    refine XO.guardSkip rfl rfl rfl rfl rfl ?_
    refine XO.guardSkip rfl rfl rfl rfl rfl ?_
    refine XO.guardSkip rfl rfl rfl rfl rfl ?_
    refine XO.v (V.pick rfl rfl rfl rfl) rfl ?_
    refine XO.nil ?_
    refine XE.next ?_
    refine XC.keep [(0, _), (3, _), (20, _)] (Sub.cons rfl (Sub.cons rfl (Sub.cons rfl (Sub.nil _)))) ?_
    refine XC.condT rfl rfl ?_
    refine XC.seq ?_
    refine XC.region ?_
    refine XO.v (V.move rfl) rfl ?_
    refine XO.v (V.assign rfl) rfl ?_
    refine XO.nil ?_
    refine XE.next ?_
    refine XC.keep [(2, _)] (Sub.cons rfl (Sub.nil _)) ?_
    refine XC.ret ?_
    refine XE.thenRet ?_
    refine XE.ret1 rfl rfl (post_of .nil rfl ?_)
    exact ⟨rfl, rfl⟩
  · skip
    refine XO.guardRun rfl rfl rfl ?_
    refine XO.v (V.move rfl) rfl ?_
    refine XO.guardRun rfl rfl rfl ?_
    refine XO.call rfl (texts_nil _ _ _) .nil cl_9 rfl ?_
    rintro _ _ ⟨rfl, rfl⟩
    refine XO.guardRun rfl rfl rfl ?_
    refine XO.v (V.not rfl) rfl ?_
    refine XO.v (V.pick rfl rfl rfl rfl) rfl ?_
    refine XO.nil ?_
    refine XE.next ?_
    refine XC.keep [(0, _), (3, _), (20, _)] (Sub.cons rfl (Sub.cons rfl (Sub.cons rfl (Sub.nil _)))) ?_
    refine XC.condF rfl rfl ?_
    refine XC.skip ?_
    refine XE.next ?_
    refine XC.keep [(0, _)] (Sub.cons rfl (Sub.nil _)) ?_
    refine XC.seq ?_
    refine XC.region ?_
    refine XO.call rfl (t_New) .nil cl_10 rfl ?_
    rintro _ _ ⟨bf, rfl, rfl⟩
    refine XO.v (V.assign rfl) rfl ?_
    refine XO.nil ?_
    refine XE.next ?_
    refine XC.keep [(0, _), (4, _)] (Sub.cons rfl (Sub.cons rfl (Sub.nil _))) ?_
    refine XC.seq ?_
    refine XC.region ?_
    refine XO.v (V.build (vs := #[]) rfl (v := .agg arrM0) (fun _ => by kernel_rfl)) rfl ?_
    refine XO.box (m := 321) (C := encM FC.void) rfl arrM0_size arrM0_box rfl ?_
    intro bm
    refine XO.mono (fun _ hw3 => XM.newForest hw3) ?_
    refine XO.v (V.assign rfl) rfl ?_
    refine XO.nil ?_
    refine XE.next ?_
    refine XC.keep [(0, _), (4, _), (5, _)] (Sub.cons rfl (Sub.cons rfl (Sub.cons rfl (Sub.nil _)))) ?_
    refine XC.seq ?_
    refine XC.seq ?_
    refine XC.region ?_
    refine XO.v (V.assign rfl) rfl ?_
    refine XO.nil ?_
    refine XE.next ?_
    refine XC.keep [(0, _), (4, _), (5, _), (6, _)] (Sub.cons rfl (Sub.cons rfl (Sub.cons rfl (Sub.cons rfl (Sub.nil _))))) ?_
    refine XC.block ?_
    refine XC.loop (σ := FC × FC × Int) (fun x => 0) (fun x => x.2.1.toFF = x.1.toFF ∧ (∃ d, x.1.toFF.Ok d x.2.2) ∧ 0 ≤ x.2.2 ∧ x.2.2 ≤ (0 : Nat)) (fun x => [(6, .int .i64 x.2.2), (0, .slice p 0 cap), (4, ptr bf 0 0), (5, ptr bm 0 0)]) (fun x => XM W (foot []) [.cells bf 0 321 (encF x.1), .fam fam40 (FC.rowsN 9 x.1), .fam fam40 (FC.rowsK 3 x.1), irow (FC.rP x.1) (FC.rC x.1) 3 (FC.toFF x.1).roots, .cells bm 0 321 (encM x.2.1), .fam fam40 (FC.rowsN 9 x.2.1), .fam fam40 (FC.rowsK 3 x.2.1), irow (FC.rP x.2.1) (FC.rC x.2.1) 3 (FC.toFF x.2.1).roots]) ((FC.void, FC.void, 0)) ?_ (Sub.cons rfl (Sub.cons rfl (Sub.cons rfl (Sub.cons rfl (Sub.nil _))))) (fun _ hw => XM.pick (.cons (.there (.there (.there (.there .here)))) (.cons (.there (.there (.there (.there .here)))) (.cons (.there (.there (.there (.there .here)))) (.cons (.there (.there (.there (.there .here)))) (.cons (.there (.there (.there .here))) (.cons .here (.cons .here (.cons .here .nil)))))))) hw) ?_
    · skip
      exact ⟨rfl, ⟨_, FF.inv_void⟩, by simp, by simp⟩
    intro x hx
    obtain ⟨hU, ⟨d, hO⟩, hx0, hx1⟩ := hx
    refine XC.seq ?_
    refine XC.seq ?_
    refine XC.region ?_
    refine XO.v (V.move rfl) rfl ?_
    refine XO.v (V.move rfl) rfl ?_
    refine XO.v (V.lenSl rfl Try.underlying22) rfl ?_
    refine XO.v (V.cmp rfl rfl rfl) rfl ?_
    refine XO.nil ?_
    refine XE.next ?_
    refine XC.keep [(0, _), (4, _), (5, _), (6, _), (28, _)] (Sub.cons rfl (Sub.cons rfl (Sub.cons rfl (Sub.cons rfl (Sub.cons rfl (Sub.nil _)))))) ?_
    refine XC.condFP rfl (by simp; omega) ?_
    refine XC.exit ?_
    refine XE.thenExit ?_
    refine XE.thenExit ?_
    refine XE.blockExit ?_
    refine XE.next ?_
    refine XC.keep [(4, _), (5, _)] (Sub.cons rfl (Sub.cons rfl (Sub.nil _))) ?_
    refine XC.seq ?_
    refine XC.region ?_
    refine XO.v (V.move rfl) rfl ?_
    refine XO.v (V.move rfl) rfl ?_
    refine XO.call rfl (as_forest _ _ x.1 x.2.1 hU d _ hO (by omega)) (.cons .here (.cons .here (.cons .here (.cons .here (.cons .here (.cons .here (.cons .here (.cons .here .nil)))))))) cl_14 rfl ?_
    rintro _ _ ⟨rfl, rfl⟩
    refine XO.v (V.assign rfl) rfl ?_
    refine XO.nil ?_
    refine XE.next ?_
    refine XC.keep [(2, _)] (Sub.cons rfl (Sub.nil _)) ?_
    refine XC.ret ?_
    refine XE.ret1 rfl rfl (post_of .nil rfl ?_)
    exact ⟨rfl, rfl⟩
theorem law_nil : Spec Try.prog 3 [.slice none 0 0] [] (fun v H1 => v = .bool true ∧ H1 = []) := law_nil' none 0

end Go.X
