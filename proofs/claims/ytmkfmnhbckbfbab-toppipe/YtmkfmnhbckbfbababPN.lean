import Derived.Test.YtmkfmnhbckbfbababPL
namespace Go.X
open Go Go.Proofs

set_option maxRecDepth 10000 in
set_option maxHeartbeats 2000000 in
theorem top_nil' (p : Option Addr) (cap : Nat) : Spec Try.prog 3 [.slice p 0 cap]
    []
    (fun v H1 => v = .bool true ∧ H1 = []) := by
  refine Spec.intro Try.func3 rfl rfl ?_
  intro W
  refine XC.seq ?_
  refine XC.region ?_
  refine XO.v (V.assign rfl) rfl ?_
  refine XO.nil ?_
  refine XE.next ?_
  refine XC.keep [(0, _)] (Sub.cons rfl (Sub.nil _)) ?_
  refine XC.seq ?_
  refine XC.region ?_
  refine XO.v (V.build (vs := #[]) rfl (v := .agg #[.string ⟨#[]⟩, .int .i64 0, .int .i64 0, .string ⟨#[]⟩, .int .i64 0, .int .i64 0, .string ⟨#[]⟩, .int .i64 0, .int .i64 0, .string ⟨#[]⟩, .int .i64 0, .int .i64 0, .string ⟨#[]⟩, .int .i64 0, .int .i64 0, .string ⟨#[]⟩, .int .i64 0, .int .i64 0, .string ⟨#[]⟩, .int .i64 0, .int .i64 0, .string ⟨#[]⟩, .int .i64 0, .int .i64 0]) (fun _ => by kernel_rfl)) rfl ?_
  refine XO.box (m := 24) (C := encP PS.init) rfl rfl boxP_init rfl ?_
  intro bs
  refine XO.v (V.assign rfl) rfl ?_
  refine XO.nil ?_
  refine XE.next ?_
  refine XC.keep [(0, _), (3, _)] (Sub.cons rfl (Sub.cons rfl (Sub.nil _))) ?_
  refine XC.seq ?_
  refine XC.region ?_
  refine XO.v (V.move rfl) rfl ?_
  refine XO.call rfl (p_make_one) (.cons .here .nil) cl_8 rfl ?_
  rintro _ _ ⟨rfl, rfl⟩
  refine XO.v (V.move rfl) rfl ?_
  refine XO.v (V.extract rfl rfl) rfl ?_
  refine XO.v (V.extract rfl rfl) rfl ?_
  refine XO.v (V.assign rfl) rfl ?_
  refine XO.v (V.assign rfl) rfl ?_
  refine XO.nil ?_
  refine XE.next ?_
  refine XC.keep [(0, _), (3, _), (4, _), (5, _)] (Sub.cons rfl (Sub.cons rfl (Sub.cons rfl (Sub.cons rfl (Sub.nil _))))) ?_
  refine XC.seq ?_
  refine XC.seq ?_
  refine XC.region ?_
  refine XO.v (V.move rfl) rfl ?_
  refine XO.v (V.nilNil rfl Try.underlying30 rfl) rfl ?_
  refine XO.v (V.move rfl) rfl ?_
  refine XO.guardRun rfl rfl rfl ?_
  refine XO.v (V.move rfl) rfl ?_
  refine XO.guardRun rfl rfl rfl ?_
  refine XO.call rfl (p_Pipes _ _ 1 (by omega) _ PS.one_inv) (.cons .here .nil) cl_9 rfl ?_
  rintro _ _ ⟨rfl, rfl⟩
  refine XO.guardRun rfl rfl rfl ?_
  refine XO.v (V.cmp rfl rfl rfl) rfl ?_
  refine XO.v (V.pick rfl rfl rfl rfl) rfl ?_
  refine XO.nil ?_
  refine XE.next ?_
  refine XC.keep [(0, _), (3, _), (4, _), (30, _)] (Sub.cons rfl (Sub.cons rfl (Sub.cons rfl (Sub.cons rfl (Sub.nil _))))) ?_
  refine XC.condFP rfl (by decide) ?_
  refine XC.skip ?_
  refine XE.next ?_
  refine XC.keep [(0, _), (3, _), (4, _)] (Sub.cons rfl (Sub.cons rfl (Sub.cons rfl (Sub.nil _)))) ?_
  refine XC.seq ?_
  refine XC.seq ?_
  refine XC.region ?_
  refine XO.v (V.move rfl) rfl ?_
  refine XO.call rfl (light_any _ _ _ _) .nil cl_10 rfl ?_
  rintro _ _ ⟨rfl, rfl⟩
  refine XO.v (V.notP rfl) rfl ?_
  refine XO.v (V.move rfl) rfl ?_
  refine XO.splitP (d := 34) rfl (fun h1 => ?_) (fun h1 => ?_)
  · skip
    refine XO.guardSkip rfl rfl rfl rfl rfl ?_
    refine XO.guardSkip rfl rfl rfl rfl rfl ?_
    refine XO.guardSkip rfl rfl rfl rfl rfl ?_
    refine XO.v (V.pick rfl rfl rfl rfl) rfl ?_
    refine XO.nil ?_
    refine XE.next ?_
    refine XC.keep [(0, _), (3, _), (4, _), (38, _)] (Sub.cons rfl (Sub.cons rfl (Sub.cons rfl (Sub.cons rfl (Sub.nil _))))) ?_
    refine XC.condT rfl rfl ?_
    refine XC.seq ?_
    refine XC.region ?_
    refine XO.v (V.assign rfl) rfl ?_
    refine XO.nil ?_
    refine XE.next ?_
    refine XC.keep [(2, _)] (Sub.cons rfl (Sub.nil _)) ?_
    refine XC.ret ?_
    refine XE.thenRet ?_
    refine XE.ret1 rfl rfl (post_of .nil rfl ?_)
    first | exact ⟨rfl, rfl⟩ | exact ⟨congrArg Value.bool (decide_eq_true (gone_open hx.z)), rfl⟩
  · skip
    refine XO.guardRun rfl rfl rfl ?_
    refine XO.v (V.move rfl) rfl ?_
    refine XO.guardRun rfl rfl rfl ?_
    refine XO.call rfl (texts_nil _ _ _) .nil cl_11 rfl ?_
    rintro _ _ ⟨rfl, rfl⟩
    refine XO.guardRun rfl rfl rfl ?_
    refine XO.v (V.not rfl) rfl ?_
    refine XO.v (V.pick rfl rfl rfl rfl) rfl ?_
    refine XO.nil ?_
    refine XE.next ?_
    refine XC.keep [(0, _), (3, _), (4, _), (38, _)] (Sub.cons rfl (Sub.cons rfl (Sub.cons rfl (Sub.cons rfl (Sub.nil _))))) ?_
    refine XC.condF rfl rfl ?_
    refine XC.skip ?_
    refine XE.next ?_
    refine XC.keep [(0, _), (3, _), (4, _)] (Sub.cons rfl (Sub.cons rfl (Sub.cons rfl (Sub.nil _)))) ?_
    refine XC.seq ?_
    refine XC.region ?_
    refine XO.v (V.assign rfl) rfl ?_
    refine XO.nil ?_
    refine XE.next ?_
    refine XC.keep [(0, _), (3, _), (4, _), (6, _)] (Sub.cons rfl (Sub.cons rfl (Sub.cons rfl (Sub.cons rfl (Sub.nil _))))) ?_
    refine XC.seq ?_
    refine XC.region ?_
    refine XO.v (V.assign rfl) rfl ?_
    refine XO.nil ?_
    refine XE.next ?_
    refine XC.keep [(0, _), (3, _), (4, _), (6, _), (7, _)] (Sub.cons rfl (Sub.cons rfl (Sub.cons rfl (Sub.cons rfl (Sub.cons rfl (Sub.nil _)))))) ?_
    refine XC.seq ?_
    refine XC.seq ?_
    refine XC.region ?_
    refine XO.v (V.assign rfl) rfl ?_
    refine XO.nil ?_
    refine XE.next ?_
    refine XC.keep [(0, _), (3, _), (4, _), (6, _), (7, _), (8, _)] (Sub.cons rfl (Sub.cons rfl (Sub.cons rfl (Sub.cons rfl (Sub.cons rfl (Sub.cons rfl (Sub.nil _))))))) ?_
    refine XC.block ?_
    refine XC.loop (σ := TPS) (fun x => 0) (fun x => x.V 0) (fun x => [(6, .string x.inn), (7, .string x.out), (8, .int .i64 x.i), (0, .slice p 0 cap), (3, ptr bs 0 0), (4, .int .i64 0)]) (fun x => XM W (foot []) [.cells bs 0 24 (encP x.s)]) (⟨PS.one, 0, ⟨#[]⟩, ⟨#[]⟩⟩) ?_ (Sub.cons rfl (Sub.cons rfl (Sub.cons rfl (Sub.cons rfl (Sub.cons rfl (Sub.cons rfl (Sub.nil _))))))) (fun _ hw => XM.pick (.cons .here .nil) hw) ?_
    · skip
      exact ⟨PS.one_inv, by simp, by simp, rfl, rfl, fun j hj => by simp [PS.one, fset2]; omega, rfl, by simp [ByteArray.size]⟩
    intro x hx
    obtain ⟨hf1, hf2, hf3⟩ := hx.facts
    have hi0 := hx.i0
    have hi1 := hx.i1
    have hsz := hx.sz
    have hbl := hx.inv.len 0
    have he0 : (⟨#[]⟩ : ByteArray).size = 0 := rfl
    refine XC.seq ?_
    refine XC.seq ?_
    refine XC.region ?_
    refine XO.v (V.move rfl) rfl ?_
    refine XO.v (V.move rfl) rfl ?_
    refine XO.v (V.lenSl rfl Try.underlying22) rfl ?_
    refine XO.v (V.cmp rfl rfl rfl) rfl ?_
    refine XO.nil ?_
    refine XE.next ?_
    refine XC.keep [(0, _), (3, _), (4, _), (6, _), (7, _), (8, _), (42, _)] (Sub.cons rfl (Sub.cons rfl (Sub.cons rfl (Sub.cons rfl (Sub.cons rfl (Sub.cons rfl (Sub.cons rfl (Sub.nil _)))))))) ?_
    refine XC.condFP rfl (by simp; omega) ?_
    refine XC.exit ?_
    refine XE.thenExit ?_
    refine XE.thenExit ?_
    refine XE.blockExit ?_
    refine XE.next ?_
    refine XC.keep [(3, _), (4, _), (6, _), (7, _)] (Sub.cons rfl (Sub.cons rfl (Sub.cons rfl (Sub.cons rfl (Sub.nil _))))) ?_
    refine XC.seq ?_
    refine XC.seq ?_
    refine XC.region ?_
    refine XO.v (V.move rfl) rfl ?_
    refine XO.v (V.move rfl) rfl ?_
    refine XO.call rfl (p_turn_eq (by omega) hx.inv true (half_drop hx.r hx.w)) (.cons .here .nil) cl_14 rfl ?_
    rintro _ _ ⟨rfl, rfl⟩
    refine XO.v (V.nilNil rfl Try.underlying30 rfl) rfl ?_
    refine XO.nil ?_
    refine XE.next ?_
    refine XC.keep [(3, _), (4, _), (6, _), (7, _), (152, _)] (Sub.cons rfl (Sub.cons rfl (Sub.cons rfl (Sub.cons rfl (Sub.cons rfl (Sub.nil _)))))) ?_
    refine XC.condF rfl rfl ?_
    refine XC.skip ?_
    refine XE.next ?_
    refine XC.keep [(3, _), (4, _), (6, _), (7, _)] (Sub.cons rfl (Sub.cons rfl (Sub.cons rfl (Sub.cons rfl (Sub.nil _))))) ?_
    refine XC.seq ?_
    refine XC.region ?_
    refine XO.v (V.move rfl) rfl ?_
    refine XO.v (V.move rfl) rfl ?_
    refine XO.call rfl (p_read_eq (K := 2) (by omega) (half_inv hx.inv hx.r hx.w) (half_read hx.r (hx.inv.len 0))) (.cons .here .nil) cl_13 rfl ?_
    rintro _ _ ⟨rfl, rfl⟩
    refine XO.v (V.move rfl) rfl ?_
    refine XO.v (V.extract rfl rfl) rfl ?_
    refine XO.v (V.extract rfl rfl) rfl ?_
    refine XO.v (V.assign rfl) rfl ?_
    refine XO.v (V.assign rfl) rfl ?_
    refine XO.nil ?_
    refine XE.next ?_
    refine XC.keep [(3, _), (4, _), (6, _), (7, _), (13, _), (14, _)] (Sub.cons rfl (Sub.cons rfl (Sub.cons rfl (Sub.cons rfl (Sub.cons rfl (Sub.cons rfl (Sub.nil _))))))) ?_
    refine XC.seq ?_
    refine XC.region ?_
    refine XO.v (V.move rfl) rfl ?_
    refine XO.v (V.move rfl) rfl ?_
    refine XO.call rfl (p_read_eq (K := 2) (by omega) (dry_inv hx.inv hx.r hx.w) (dry_read hx.r)) (.cons .here .nil) cl_13 rfl ?_
    rintro _ _ ⟨rfl, rfl⟩
    refine XO.v (V.move rfl) rfl ?_
    refine XO.v (V.extract rfl rfl) rfl ?_
    refine XO.v (V.extract rfl rfl) rfl ?_
    refine XO.v (V.assign rfl) rfl ?_
    refine XO.v (V.assign rfl) rfl ?_
    refine XO.nil ?_
    refine XE.next ?_
    refine XC.keep [(3, _), (4, _), (6, _), (7, _), (13, _), (14, _), (15, _), (16, _)] (Sub.cons rfl (Sub.cons rfl (Sub.cons rfl (Sub.cons rfl (Sub.cons rfl (Sub.cons rfl (Sub.cons rfl (Sub.cons rfl (Sub.nil _))))))))) ?_
    refine XC.seq ?_
    refine XC.region ?_
    refine XO.v (V.move rfl) rfl ?_
    refine XO.v (V.nilNil rfl Try.underlying30 rfl) rfl ?_
    refine XO.v (V.move rfl) rfl ?_
    refine XO.guardRun rfl rfl rfl ?_
    refine XO.v (V.move rfl) rfl ?_
    refine XO.guardRun rfl rfl rfl ?_
    refine XO.v (V.nilNil rfl Try.underlying30 rfl) rfl ?_
    refine XO.v (V.pick rfl rfl rfl rfl) rfl ?_
    refine XO.v (V.move rfl) rfl ?_
    refine XO.guardRun rfl rfl rfl ?_
    refine XO.v (V.move rfl) rfl ?_
    refine XO.guardRun rfl rfl rfl ?_
    refine XO.v (V.move rfl) rfl ?_
    refine XO.guardRun rfl rfl rfl ?_
    refine XO.v (V.concat rfl rfl (by omega)) rfl ?_
    refine XO.guardRun rfl rfl rfl ?_
    refine XO.v (V.move rfl) rfl ?_
    refine XO.guardRun rfl rfl rfl ?_
    refine XO.v (V.strCmp rfl rfl rfl) rfl ?_
    refine XO.v (V.pick rfl rfl rfl rfl) rfl ?_
    refine XO.v (V.move rfl) rfl ?_
    refine XO.splitT (d := 178) rfl ((hx.io).symm) ?_
    refine XO.guardRun rfl rfl rfl ?_
    refine XO.v (V.move rfl) rfl ?_
    refine XO.guardRun rfl rfl rfl ?_
    refine XO.v (V.strCmp rfl rfl rfl) rfl ?_
    refine XO.v (V.pick rfl rfl rfl rfl) rfl ?_
    refine XO.v (V.move rfl) rfl ?_
    refine XO.splitT (d := 182) rfl (by first | omega | (simp; done) | (simp; omega)) ?_
    refine XO.guardRun rfl rfl rfl ?_
    refine XO.v (V.move rfl) rfl ?_
    refine XO.guardRun rfl rfl rfl ?_
    refine XO.v (V.move rfl) rfl ?_
    refine XO.guardRun rfl rfl rfl ?_
    refine XO.call rfl (p_turn_eq (K := 2) (by omega) (dry_inv hx.inv hx.r hx.w) false (gone_drop hx.r)) (.cons .here .nil) cl_14 rfl ?_
    rintro _ _ ⟨rfl, rfl⟩
    refine XO.guardRun rfl rfl rfl ?_
    refine XO.v (V.nilNil rfl Try.underlying30 rfl) rfl ?_
    refine XO.v (V.pick rfl rfl rfl rfl) rfl ?_
    refine XO.v (V.move rfl) rfl ?_
    refine XO.guardRun rfl rfl rfl ?_
    refine XO.v (V.move rfl) rfl ?_
    refine XO.guardRun rfl rfl rfl ?_
    refine XO.call rfl (p_Pipes _ _ 3 (by omega) _ (gone_inv hx.inv hx.r hx.w)) (.cons .here .nil) cl_9 rfl ?_
    rintro _ _ ⟨rfl, rfl⟩
    refine XO.guardRun rfl rfl rfl ?_
    refine XO.v (V.cmp rfl rfl rfl) rfl ?_
    refine XO.v (V.pick rfl rfl rfl rfl) rfl ?_
    refine XO.v (V.assign rfl) rfl ?_
    refine XO.nil ?_
    refine XE.next ?_
    refine XC.keep [(2, _)] (Sub.cons rfl (Sub.nil _)) ?_
    refine XC.ret ?_
    refine XE.ret1 rfl rfl (post_of .nil rfl ?_)
    first | exact ⟨rfl, rfl⟩ | exact ⟨congrArg Value.bool (decide_eq_true (gone_open hx.z)), rfl⟩
theorem top_nil : Spec Try.prog 3 [.slice none 0 0] [] (fun v H1 => v = .bool true ∧ H1 = []) := top_nil' none 0

end Go.X
