import Derived.Test.YtmklfkjfgjagaaaNL2
namespace Go.X
open Go Go.Proofs
theorem cl_10 : callable Try.prog 10 = true := by kernel_rfl
set_option maxRecDepth 10000 in
set_option maxHeartbeats 4000000 in
theorem grows_any  : Spec Try.prog 7 []
    []
    (fun v H1 => v = .bool true ∧ H1 = []) := by
  have h0 : FC.void.toFF.Sh := FF.inv_void.sh (by omega)
  obtain ⟨d1, o1⟩ := FF.inv_void.plant
  obtain ⟨d2, o2⟩ := o1.make (FF.rootV FF.void.plant FF.void.plantV) ⟨#[97]⟩ 1
  have o3 := o2.write (FF.void.plant.makeV (FF.rootV FF.void.plant FF.void.plantV) ⟨#[97]⟩ 1) 0 ⟨#[120, 121]⟩
  refine Spec.intro Try.func7 rfl rfl ?_
  intro W
  refine XC.seq ?_
  refine XC.region ?_
  refine XO.v (V.assign rfl) rfl ?_
  refine XO.nil ?_
  refine XE.next ?_
  refine XC.keep [] (Sub.nil _) ?_
  refine XC.seq ?_
  refine XC.region ?_
  refine XO.call rfl (t_New) .nil cl_10 rfl ?_
  rintro _ _ ⟨bf, rfl, rfl⟩
  refine XO.v (V.assign rfl) rfl ?_
  refine XO.nil ?_
  refine XE.next ?_
  refine XC.keep [(1, _)] (Sub.cons rfl (Sub.nil _)) ?_
  refine XC.seq ?_
  refine XC.seq ?_
  refine XC.region ?_
  refine XO.v (V.move rfl) rfl ?_
  refine XO.v (V.ptrNilP rfl Try.underlying25 rfl) rfl ?_
  refine XO.nil ?_
  refine XE.next ?_
  refine XC.keep [(1, _), (13, _)] (Sub.cons rfl (Sub.cons rfl (Sub.nil _))) ?_
  refine XC.condF rfl rfl ?_
  refine XC.skip ?_
  refine XE.next ?_
  refine XC.keep [(1, _)] (Sub.cons rfl (Sub.nil _)) ?_
  refine XC.seq ?_
  refine XC.region ?_
  refine XO.v (V.move rfl) rfl ?_
  refine XO.call rfl (t_Plant _ _ _ h0) (.cons .here (.cons .here (.cons .here (.cons .here .nil)))) cl_15 rfl ?_
  rintro _ _ ⟨t1, rfl, ht1, rfl⟩
  refine XO.v (V.move rfl) rfl ?_
  refine XO.v (V.extract rfl rfl) rfl ?_
  refine XO.v (V.extract rfl rfl) rfl ?_
  refine XO.v (V.assign rfl) rfl ?_
  refine XO.v (V.assign rfl) rfl ?_
  refine XO.nil ?_
  refine XE.next ?_
  refine XC.keep [(1, _), (2, _), (3, _)] (Sub.cons rfl (Sub.cons rfl (Sub.cons rfl (Sub.nil _)))) ?_
  refine XC.seq ?_
  refine XC.region ?_
  have ht1 : t1.toFF = FF.void.plant := ht1
  have h1 : t1.toFF.Sh := by rw [ht1]; exact o1.sh (by omega)
  refine XO.v (V.move rfl) rfl ?_
  refine XO.v (V.move rfl) rfl ?_
  refine XO.call rfl (t_Root _ _ _ h1 _) (.cons .here (.cons (.there (.there .here)) .nil)) cl_38 rfl ?_
  rintro _ _ ⟨rfl, rfl⟩
  refine XO.v (V.move rfl) rfl ?_
  refine XO.v (V.extract rfl rfl) rfl ?_
  refine XO.v (V.extract rfl rfl) rfl ?_
  refine XO.v (V.assign rfl) rfl ?_
  refine XO.v (V.assign rfl) rfl ?_
  refine XO.nil ?_
  refine XE.next ?_
  refine XC.keep [(1, _), (3, _), (4, _), (5, _)] (Sub.cons rfl (Sub.cons rfl (Sub.cons rfl (Sub.cons rfl (Sub.nil _))))) ?_
  refine XC.seq ?_
  refine XC.region ?_
  refine XO.v (V.move rfl) rfl ?_
  refine XO.v (V.move rfl) rfl ?_
  refine XO.call rfl (t_Make _ _ _ h1 _ _ _ (by decide)) (.cons .here (.cons (.there .here) (.cons (.there .here) .nil))) cl_17 rfl ?_
  rintro _ _ ⟨rfl, t2, ht2, hp2, hc2, rfl⟩
  refine XO.v (V.move rfl) rfl ?_
  refine XO.v (V.extract rfl rfl) rfl ?_
  refine XO.v (V.extract rfl rfl) rfl ?_
  refine XO.v (V.assign rfl) rfl ?_
  refine XO.v (V.assign rfl) rfl ?_
  refine XO.nil ?_
  refine XE.next ?_
  refine XC.keep [(1, _), (3, _), (5, _), (6, _), (7, _)] (Sub.cons rfl (Sub.cons rfl (Sub.cons rfl (Sub.cons rfl (Sub.cons rfl (Sub.nil _)))))) ?_
  refine XC.seq ?_
  refine XC.region ?_
  have ht2 : t2.toFF = t1.toFF.make (t1.toFF.rootV FF.void.plantV) ⟨#[97]⟩ 1 := ht2
  have h2 : t2.toFF.Sh := by rw [ht2, ht1]; exact o2.sh (by omega)
  refine XO.v (V.move rfl) rfl ?_
  refine XO.v (V.move rfl) rfl ?_
  refine XO.call rfl (t_Write _ _ _ h2 _ _ _ (by decide)) (.cons .here (.cons .here (.cons .here .nil))) cl_19 rfl ?_
  rintro _ _ ⟨rfl, t3, ht3, hp3, hc3, rfl⟩
  refine XO.v (V.assign rfl) rfl ?_
  refine XO.nil ?_
  refine XE.next ?_
  refine XC.keep [(1, _), (3, _), (5, _), (6, _), (7, _), (8, _)] (Sub.cons rfl (Sub.cons rfl (Sub.cons rfl (Sub.cons rfl (Sub.cons rfl (Sub.cons rfl (Sub.nil _))))))) ?_
  refine XC.seq ?_
  refine XC.region ?_
  have ht3 : t3.toFF = t2.toFF.write (t1.toFF.makeV (t1.toFF.rootV FF.void.plantV) ⟨#[97]⟩ 1) 0 ⟨#[120, 121]⟩ := ht3
  have h3 : t3.toFF.Sh := by rw [ht3, ht2, ht1]; exact o3.sh (by omega)
  refine XO.v (V.move rfl) rfl ?_
  refine XO.v (V.move rfl) rfl ?_
  refine XO.call rfl (t_Read _ _ _ h3 _ _ _) (.cons .here .nil) cl_22 rfl ?_
  rintro _ _ ⟨rfl, rfl⟩
  refine XO.v (V.move rfl) rfl ?_
  refine XO.v (V.extract rfl rfl) rfl ?_
  refine XO.v (V.extract rfl rfl) rfl ?_
  refine XO.v (V.assign rfl) rfl ?_
  refine XO.v (V.assign rfl) rfl ?_
  refine XO.nil ?_
  refine XE.next ?_
  refine XC.keep [(1, _), (3, _), (5, _), (6, _), (7, _), (8, _), (9, _), (10, _)] (Sub.cons rfl (Sub.cons rfl (Sub.cons rfl (Sub.cons rfl (Sub.cons rfl (Sub.cons rfl (Sub.cons rfl (Sub.cons rfl (Sub.nil _))))))))) ?_
  refine XC.seq ?_
  refine XC.region ?_
  refine XO.v (V.move rfl) rfl ?_
  refine XO.call rfl (same_any _ _ (by first | omega | exact FF.plantE_nn _)) .nil cl_39 rfl ?_
  rintro _ _ ⟨rfl, rfl⟩
  refine XO.v (V.move rfl) rfl ?_
  refine XO.splitT (d := 42) rfl (by decide +kernel) ?_
  refine XO.guardRun rfl rfl rfl ?_
  refine XO.v (V.move rfl) rfl ?_
  refine XO.guardRun rfl rfl rfl ?_
  refine XO.call rfl (same_any _ _ (by first | omega | exact FF.rootE_nn _ _)) .nil cl_39 rfl ?_
  rintro _ _ ⟨rfl, rfl⟩
  refine XO.v (V.pick rfl rfl rfl rfl) rfl ?_
  refine XO.v (V.move rfl) rfl ?_
  refine XO.splitT (d := 46) rfl (by show t1.toFF.rootE FF.void.plantV = 0; rw [ht1]; decide +kernel) ?_
  refine XO.guardRun rfl rfl rfl ?_
  refine XO.v (V.move rfl) rfl ?_
  refine XO.guardRun rfl rfl rfl ?_
  refine XO.call rfl (same_any _ _ (by first | omega | exact FF.makeE_nn _ _ _ _)) .nil cl_39 rfl ?_
  rintro _ _ ⟨rfl, rfl⟩
  refine XO.v (V.pick rfl rfl rfl rfl) rfl ?_
  refine XO.v (V.move rfl) rfl ?_
  refine XO.splitT (d := 50) rfl (by show t1.toFF.makeE (t1.toFF.rootV FF.void.plantV) ⟨#[97]⟩ 1 = 0; rw [ht1]; decide +kernel) ?_
  refine XO.guardRun rfl rfl rfl ?_
  refine XO.v (V.move rfl) rfl ?_
  refine XO.guardRun rfl rfl rfl ?_
  refine XO.call rfl (same_any _ _ (by first | omega | exact FF.writeE_nn _ _ _ _)) .nil cl_39 rfl ?_
  rintro _ _ ⟨rfl, rfl⟩
  refine XO.v (V.pick rfl rfl rfl rfl) rfl ?_
  refine XO.v (V.move rfl) rfl ?_
  refine XO.splitT (d := 54) rfl (by show t2.toFF.writeE (t1.toFF.makeV (t1.toFF.rootV FF.void.plantV) ⟨#[97]⟩ 1) 0 ⟨#[120, 121]⟩ = 0; rw [ht2, ht1]; decide +kernel) ?_
  refine XO.guardRun rfl rfl rfl ?_
  refine XO.v (V.move rfl) rfl ?_
  refine XO.guardRun rfl rfl rfl ?_
  refine XO.call rfl (same_any _ _ (by first | omega | exact FF.readE_nn _ _ _ _)) .nil cl_39 rfl ?_
  rintro _ _ ⟨rfl, rfl⟩
  refine XO.v (V.pick rfl rfl rfl rfl) rfl ?_
  refine XO.v (V.move rfl) rfl ?_
  refine XO.splitT (d := 58) rfl (by show t3.toFF.readE (t1.toFF.makeV (t1.toFF.rootV FF.void.plantV) ⟨#[97]⟩ 1) 1 9 = 0; rw [ht3, ht2, ht1]; decide +kernel) ?_
  refine XO.guardRun rfl rfl rfl ?_
  refine XO.v (V.move rfl) rfl ?_
  refine XO.guardRun rfl rfl rfl ?_
  refine XO.v (V.cmp rfl rfl rfl) rfl ?_
  refine XO.v (V.pick rfl rfl rfl rfl) rfl ?_
  refine XO.v (V.move rfl) rfl ?_
  refine XO.splitT (d := 62) rfl (by show t1.toFF.makeV (t1.toFF.rootV FF.void.plantV) ⟨#[97]⟩ 1 = 1; rw [ht1]; decide +kernel) ?_
  refine XO.guardRun rfl rfl rfl ?_
  refine XO.v (V.move rfl) rfl ?_
  refine XO.guardRun rfl rfl rfl ?_
  refine XO.v (V.strCmp rfl rfl rfl) rfl ?_
  refine XO.v (V.pick rfl rfl rfl rfl) rfl ?_
  refine XO.v (V.move rfl) rfl ?_
  refine XO.splitT (d := 66) rfl (by show t3.toFF.readV (t1.toFF.makeV (t1.toFF.rootV FF.void.plantV) ⟨#[97]⟩ 1) 1 9 = ⟨#[121]⟩; rw [ht3, ht2, ht1]; decide +kernel) ?_
  refine XO.guardRun rfl rfl rfl ?_
  refine XO.v (V.move rfl) rfl ?_
  refine XO.guardRun rfl rfl rfl ?_
  refine XO.call rfl (t_Nodes _ _ _) (.cons .here .nil) cl_16 rfl ?_
  rintro _ _ ⟨rfl, rfl⟩
  refine XO.guardRun rfl rfl rfl ?_
  refine XO.v (V.cmp rfl rfl rfl) rfl ?_
  refine XO.v (V.pick rfl rfl rfl rfl) rfl ?_
  refine XO.v (V.assign rfl) rfl ?_
  refine XO.nil ?_
  refine XE.next ?_
  refine XC.keep [(0, _)] (Sub.cons rfl (Sub.nil _)) ?_
  refine XC.ret ?_
  refine XE.ret1 rfl rfl (post_of .nil rfl ?_)
  exact ⟨congrArg Value.bool (decide_eq_true (by show t3.toFF.nodes = 2; rw [ht3, ht2, ht1]; decide +kernel)), rfl⟩
end Go.X
