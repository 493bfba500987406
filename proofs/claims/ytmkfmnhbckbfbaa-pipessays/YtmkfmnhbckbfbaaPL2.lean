import Derived.Test.YtmkfmnhbckbfbaaPL1
import Derived.Test.YtmkfmnhbckbfbaaLW
namespace Go.X
open Go Go.Proofs
theorem ag_39 : aggT Try.prog 39 = true := by kernel_rfl
theorem cl_10 : callable Try.prog 10 = true := by kernel_rfl
theorem cl_11 : callable Try.prog 11 = true := by kernel_rfl
theorem cl_12 : callable Try.prog 12 = true := by kernel_rfl
theorem cl_13 : callable Try.prog 13 = true := by kernel_rfl
theorem cl_14 : callable Try.prog 14 = true := by kernel_rfl
theorem cl_15 : callable Try.prog 15 = true := by kernel_rfl
theorem cl_16 : callable Try.prog 16 = true := by kernel_rfl
theorem cl_17 : callable Try.prog 17 = true := by kernel_rfl
theorem cl_18 : callable Try.prog 18 = true := by kernel_rfl
theorem cl_19 : callable Try.prog 19 = true := by kernel_rfl
theorem cl_20 : callable Try.prog 20 = true := by kernel_rfl
theorem cl_21 : callable Try.prog 21 = true := by kernel_rfl
theorem cl_22 : callable Try.prog 22 = true := by kernel_rfl
theorem cl_24 : callable Try.prog 24 = true := by kernel_rfl
theorem cl_25 : callable Try.prog 25 = true := by kernel_rfl
theorem fo_39_0 : fieldOff Try.prog 39 0 = some 0 := by kernel_rfl
theorem fo_39_1 : fieldOff Try.prog 39 1 = some 1 := by kernel_rfl
theorem fo_39_2 : fieldOff Try.prog 39 2 = some 2 := by kernel_rfl
theorem fo_39_5 : fieldOff Try.prog 39 5 = some 5 := by kernel_rfl
theorem fo_39_6 : fieldOff Try.prog 39 6 = some 6 := by kernel_rfl
theorem sc_4 : scal Try.prog 4 = true := by kernel_rfl
theorem sl_22 : sliceOf Try.prog 22 = some (39, 8) := by kernel_rfl
theorem sz_39_8 : szOf Try.prog 39 = some 8 := by kernel_rfl
theorem p_Share (b o : Nat) (K : Int) (hK : K ≤ 1000000) (s : PS) (hI : s.Inv K) (n : Int) (x : Bool) : Spec Try.prog 15 [ptr b o 0, .int .i64 n, .bool x] [.cells b o 24 (encP s)] (fun v H1 => v = errv 127 (s.turn n x 1).1 ∧ H1 = [.cells b o 24 (encP (s.turn n x 1).2)]) := by
  cases x
  · exact p_Share_false b o K hK s hI n
  · exact p_Share_true b o K hK s hI n
theorem p_Drop (b o : Nat) (K : Int) (hK : K ≤ 1000000) (s : PS) (hI : s.Inv K) (n : Int) (x : Bool) : Spec Try.prog 17 [ptr b o 0, .int .i64 n, .bool x] [.cells b o 24 (encP s)] (fun v H1 => v = errv 127 (s.turn n x (-1)).1 ∧ H1 = [.cells b o 24 (encP (s.turn n x (-1)).2)]) := by
  cases x
  · exact p_Drop_false b o K hK s hI n
  · exact p_Drop_true b o K hK s hI n
theorem r_Turn (b o : Nat) (K : Int) (hK : K ≤ 1000000) (s : PS) (hI : s.Inv K) (n d : Int) (hd : -1 ≤ d ∧ d ≤ 1) (x : Bool) : Spec Try.prog 16 [ptr b o 0, .int .i64 n, .bool x, .int .i64 d] [.cells b o 24 (encR s)] (fun v H1 => v = .int .i64 (s.turn n x d).1 ∧ H1 = [.cells b o 24 (encR (s.turn n x d).2)]) := by
  cases x
  · exact r_Turn_false b o K hK s hI n d hd
  · exact r_Turn_true b o K hK s hI n d hd
set_option maxRecDepth 10000 in
set_option maxHeartbeats 400000 in
theorem flows_any  : Spec Try.prog 10 []
    []
    (fun v H1 => v = .bool true ∧ H1 = []) := by
  have i0 : PS.init.Inv 0 := PS.Inv.init
  have i1 : PS.init.make.2.2.Inv 1 := PS.make_inv i0 (by omega)
  have i2 : (PS.init.make.2.2.write PS.init.make.1 ⟨#[97, 98]⟩).2.2.Inv 2 := PS.write_inv i1
  have i3 : ((PS.init.make.2.2.write PS.init.make.1 ⟨#[97, 98]⟩).2.2.read PS.init.make.1 1).2.2.Inv 3 := PS.read_inv i2
  refine Spec.intro Try.func10 rfl rfl ?_
  intro W
  refine XC.seq ?_
  refine XC.region ?_
  refine XO.v (V.assign rfl) rfl ?_
  refine XO.nil ?_
  refine XE.next ?_
  refine XC.keep [] (Sub.nil _) ?_
  refine XC.seq ?_
  refine XC.region ?_
  refine XO.v (V.build (vs := #[]) rfl (v := .agg #[.string ⟨#[]⟩, .int .i64 0, .int .i64 0, .string ⟨#[]⟩, .int .i64 0, .int .i64 0, .string ⟨#[]⟩, .int .i64 0, .int .i64 0, .string ⟨#[]⟩, .int .i64 0, .int .i64 0, .string ⟨#[]⟩, .int .i64 0, .int .i64 0, .string ⟨#[]⟩, .int .i64 0, .int .i64 0, .string ⟨#[]⟩, .int .i64 0, .int .i64 0, .string ⟨#[]⟩, .int .i64 0, .int .i64 0]) (fun _ => by kernel_rfl)) rfl ?_
  refine XO.box (m := 24) (C := encP PS.init) rfl rfl boxP_init rfl ?_
  intro bs
  refine XO.v (V.assign rfl) rfl ?_
  refine XO.nil ?_
  refine XE.next ?_
  refine XC.keep [(1, _)] (Sub.cons rfl (Sub.nil _)) ?_
  refine XC.seq ?_
  refine XC.region ?_
  refine XO.v (V.move rfl) rfl ?_
  refine XO.call rfl (p_Make _ _ 0 (by omega) _ i0) (.cons .here .nil) cl_12 rfl ?_
  rintro _ _ ⟨rfl, rfl⟩
  refine XO.v (V.move rfl) rfl ?_
  refine XO.v (V.extract rfl rfl) rfl ?_
  refine XO.v (V.extract rfl rfl) rfl ?_
  refine XO.v (V.assign rfl) rfl ?_
  refine XO.v (V.assign rfl) rfl ?_
  refine XO.nil ?_
  refine XE.next ?_
  refine XC.keep [(1, _), (2, _), (3, _)] (Sub.cons rfl (Sub.cons rfl (Sub.cons rfl (Sub.nil _)))) ?_
  refine XC.seq ?_
  refine XC.region ?_
  refine XO.v (V.move rfl) rfl ?_
  refine XO.v (V.move rfl) rfl ?_
  refine XO.call rfl (p_Write _ _ 1 (by omega) _ i1 _ _ (by decide)) (.cons .here .nil) cl_20 rfl ?_
  rintro _ _ ⟨rfl, rfl⟩
  refine XO.v (V.move rfl) rfl ?_
  refine XO.v (V.extract rfl rfl) rfl ?_
  refine XO.v (V.extract rfl rfl) rfl ?_
  refine XO.v (V.assign rfl) rfl ?_
  refine XO.v (V.assign rfl) rfl ?_
  refine XO.nil ?_
  refine XE.next ?_
  refine XC.keep [(1, _), (2, _), (3, _), (4, _), (5, _)] (Sub.cons rfl (Sub.cons rfl (Sub.cons rfl (Sub.cons rfl (Sub.cons rfl (Sub.nil _)))))) ?_
  refine XC.seq ?_
  refine XC.region ?_
  refine XO.v (V.move rfl) rfl ?_
  refine XO.v (V.move rfl) rfl ?_
  refine XO.call rfl (p_Read _ _ 2 (by omega) _ i2 _ _) (.cons .here .nil) cl_18 rfl ?_
  rintro _ _ ⟨rfl, rfl⟩
  refine XO.v (V.move rfl) rfl ?_
  refine XO.v (V.extract rfl rfl) rfl ?_
  refine XO.v (V.extract rfl rfl) rfl ?_
  refine XO.v (V.assign rfl) rfl ?_
  refine XO.v (V.assign rfl) rfl ?_
  refine XO.nil ?_
  refine XE.next ?_
  refine XC.keep [(1, _), (3, _), (4, _), (5, _), (6, _), (7, _)] (Sub.cons rfl (Sub.cons rfl (Sub.cons rfl (Sub.cons rfl (Sub.cons rfl (Sub.cons rfl (Sub.nil _))))))) ?_
  refine XC.seq ?_
  refine XC.region ?_
  refine XO.v (V.move rfl) rfl ?_
  refine XO.call rfl (same_any _ _ (PS.make_nn _)) .nil cl_14 rfl ?_
  rintro _ _ ⟨rfl, rfl⟩
  refine XO.v (V.move rfl) rfl ?_
  refine XO.splitT (d := 29) rfl (by decide) ?_
  refine XO.guardRun rfl rfl rfl ?_
  refine XO.v (V.move rfl) rfl ?_
  refine XO.guardRun rfl rfl rfl ?_
  refine XO.call rfl (same_any _ _ (PS.write_nn _ _ _)) .nil cl_14 rfl ?_
  rintro _ _ ⟨rfl, rfl⟩
  refine XO.v (V.pick rfl rfl rfl rfl) rfl ?_
  refine XO.v (V.move rfl) rfl ?_
  refine XO.splitT (d := 33) rfl (by decide) ?_
  refine XO.guardRun rfl rfl rfl ?_
  refine XO.v (V.move rfl) rfl ?_
  refine XO.guardRun rfl rfl rfl ?_
  refine XO.call rfl (same_any _ _ (PS.read_nn _ _ _)) .nil cl_14 rfl ?_
  rintro _ _ ⟨rfl, rfl⟩
  refine XO.v (V.pick rfl rfl rfl rfl) rfl ?_
  refine XO.v (V.move rfl) rfl ?_
  refine XO.splitT (d := 37) rfl (by decide) ?_
  refine XO.guardRun rfl rfl rfl ?_
  refine XO.v (V.move rfl) rfl ?_
  refine XO.guardRun rfl rfl rfl ?_
  refine XO.v (V.cmp rfl rfl rfl) rfl ?_
  refine XO.v (V.pick rfl rfl rfl rfl) rfl ?_
  refine XO.v (V.move rfl) rfl ?_
  refine XO.splitT (d := 41) rfl (by decide) ?_
  refine XO.guardRun rfl rfl rfl ?_
  refine XO.v (V.move rfl) rfl ?_
  refine XO.guardRun rfl rfl rfl ?_
  refine XO.v (V.strCmp rfl rfl rfl) rfl ?_
  refine XO.v (V.pick rfl rfl rfl rfl) rfl ?_
  refine XO.v (V.move rfl) rfl ?_
  refine XO.splitT (d := 45) rfl (by decide) ?_
  refine XO.guardRun rfl rfl rfl ?_
  refine XO.v (V.move rfl) rfl ?_
  refine XO.guardRun rfl rfl rfl ?_
  refine XO.call rfl (p_Pipes _ _ 3 (by omega) _ i3) (.cons .here .nil) cl_24 rfl ?_
  rintro _ _ ⟨rfl, rfl⟩
  refine XO.guardRun rfl rfl rfl ?_
  refine XO.v (V.cmp rfl rfl rfl) rfl ?_
  refine XO.v (V.pick rfl rfl rfl rfl) rfl ?_
  refine XO.v (V.assign rfl) rfl ?_
  refine XO.nil ?_
  refine XE.next ?_
  refine XC.keep [(0, _)] (Sub.cons rfl (Sub.nil _)) ?_
  refine XC.ret ?_
  refine XE.ret1 rfl rfl (post_of .nil rfl ?_)
  exact ⟨congrArg Value.bool (show _ = true from by decide), rfl⟩
set_option maxRecDepth 10000 in
set_option maxHeartbeats 2000000 in
theorem law_some (bl ol len cap : Nat) (hlen : len ≤ cap) (A : Int → ActV) (hA : ∀ z : Int, 0 ≤ z → z < len → (A z).ok) : Spec Try.prog 3 [.slice (some ⟨bl, ol, none⟩) len cap]
    [.ro bl ol (8 * len) (encActs A)]
    (fun v H1 => v = .bool true ∧ H1 = []) := by
  refine Spec.intro Try.func3 rfl rfl ?_
  intro W
  refine XC.seq ?_
  refine XC.region ?_
  refine XO.v (V.assign rfl) rfl ?_
  refine XO.nil ?_
  refine XE.next ?_
  refine XC.keep [(0, _)] (Sub.cons rfl (Sub.nil _)) ?_
  refine XC.seq ?_
  refine XC.region ?_
  refine XO.call rfl (flows_any) .nil cl_10 rfl ?_
  rintro _ _ ⟨rfl, rfl⟩
  refine XO.v (V.assign rfl) rfl ?_
  refine XO.nil ?_
  refine XE.next ?_
  refine XC.keep [(0, _), (3, _)] (Sub.cons rfl (Sub.cons rfl (Sub.nil _))) ?_
  refine XC.seq ?_
  refine XC.seq ?_
  refine XC.region ?_
  refine XO.v (V.move rfl) rfl ?_
  refine XO.v (V.not rfl) rfl ?_
  refine XO.v (V.move rfl) rfl ?_
  refine XO.guardRun rfl rfl rfl ?_
  refine XO.v (V.move rfl) rfl ?_
  refine XO.guardRun rfl rfl rfl ?_
  refine XO.call rfl (light_any _ _ _ _) .nil cl_11 rfl ?_
  rintro _ _ ⟨rfl, rfl⟩
  refine XO.guardRun rfl rfl rfl ?_
  refine XO.v (V.notP rfl) rfl ?_
  refine XO.v (V.pick rfl rfl rfl rfl) rfl ?_
  refine XO.nil ?_
  refine XE.next ?_
  refine XC.keep [(0, _), (3, _), (33, _)] (Sub.cons rfl (Sub.cons rfl (Sub.cons rfl (Sub.nil _)))) ?_
  refine XC.condP rfl (fun h1 => ?_) (fun h1 => ?_)
  · skip
    refine XC.seq ?_
    refine XC.region ?_
    refine XO.v (V.move rfl) rfl ?_
    refine XO.v (V.assign rfl) rfl ?_
    refine XO.nil ?_
    refine XE.next ?_
    refine XC.keep [(2, _)] (Sub.cons rfl (Sub.nil _)) ?_
    refine XC.ret ?_
    refine XE.thenRet ?_
    refine XE.ret1 rfl rfl (post_of .nil rfl ?_)
    exact ⟨rfl, rfl⟩
  · skip
    refine XC.skip ?_
    refine XE.next ?_
    refine XC.keep [(0, _)] (Sub.cons rfl (Sub.nil _)) ?_
    refine XC.seq ?_
    refine XC.region ?_
    refine XO.v (V.build (vs := #[]) rfl (v := .agg #[.string ⟨#[]⟩, .int .i64 0, .int .i64 0, .string ⟨#[]⟩, .int .i64 0, .int .i64 0, .string ⟨#[]⟩, .int .i64 0, .int .i64 0, .string ⟨#[]⟩, .int .i64 0, .int .i64 0, .string ⟨#[]⟩, .int .i64 0, .int .i64 0, .string ⟨#[]⟩, .int .i64 0, .int .i64 0, .string ⟨#[]⟩, .int .i64 0, .int .i64 0, .string ⟨#[]⟩, .int .i64 0, .int .i64 0]) (fun _ => by kernel_rfl)) rfl ?_
    refine XO.box (m := 24) (C := encP PS.init) rfl rfl boxP_init rfl ?_
    intro bs
    refine XO.v (V.assign rfl) rfl ?_
    refine XO.nil ?_
    refine XE.next ?_
    refine XC.keep [(0, _), (4, _)] (Sub.cons rfl (Sub.cons rfl (Sub.nil _))) ?_
    refine XC.seq ?_
    refine XC.region ?_
    refine XO.v (V.build (vs := #[]) rfl (v := .agg #[.string ⟨#[]⟩, .string ⟨#[]⟩, .string ⟨#[]⟩, .string ⟨#[]⟩, .string ⟨#[]⟩, .string ⟨#[]⟩, .string ⟨#[]⟩, .string ⟨#[]⟩, .int .i64 0, .int .i64 0, .int .i64 0, .int .i64 0, .int .i64 0, .int .i64 0, .int .i64 0, .int .i64 0, .int .i64 0, .int .i64 0, .int .i64 0, .int .i64 0, .int .i64 0, .int .i64 0, .int .i64 0, .int .i64 0]) (fun _ => by kernel_rfl)) rfl ?_
    refine XO.box (m := 24) (C := encR PS.init) rfl rfl boxR_init rfl ?_
    intro bm
    refine XO.v (V.assign rfl) rfl ?_
    refine XO.nil ?_
    refine XE.next ?_
    refine XC.keep [(0, _), (4, _), (5, _)] (Sub.cons rfl (Sub.cons rfl (Sub.cons rfl (Sub.nil _)))) ?_
    refine XC.seq ?_
    refine XC.seq ?_
    refine XC.region ?_
    refine XO.v (V.assign rfl) rfl ?_
    refine XO.nil ?_
    refine XE.next ?_
    refine XC.keep [(0, _), (4, _), (5, _), (6, _)] (Sub.cons rfl (Sub.cons rfl (Sub.cons rfl (Sub.cons rfl (Sub.nil _))))) ?_
    refine XC.block ?_
    refine XC.loop (σ := PS × Int) (fun x => (len - x.2).toNat) (fun x => x.1.Inv x.2 ∧ 0 ≤ x.2 ∧ x.2 ≤ len) (fun x => [(6, .int .i64 x.2), (0, .slice (some ⟨bl, ol, none⟩) len cap), (4, ptr bs 0 0), (5, ptr bm 0 0)]) (fun x => XM W (foot [.ro bl ol (8 * len) (encActs A)]) [.cells bs 0 24 (encP x.1), .cells bm 0 24 (encR x.1), .ro bl ol (8 * len) (encActs A)]) ((PS.init, 0)) ?_ (Sub.cons rfl (Sub.cons rfl (Sub.cons rfl (Sub.cons rfl (Sub.nil _))))) (fun _ hw => XM.pick (.cons (.there .here) (.cons .here (.cons .here .nil))) hw) ?_
    · skip
      exact ⟨PS.Inv.init, by simp, by simp⟩
    intro x hx
    obtain ⟨hi, hx0, hx1⟩ := hx
    have hx : x.1.Inv x.2 ∧ True := ⟨hi, trivial⟩
    refine XC.seq ?_
    refine XC.seq ?_
    refine XC.region ?_
    refine XO.v (V.move rfl) rfl ?_
    refine XO.v (V.move rfl) rfl ?_
    refine XO.v (V.lenSl rfl Try.underlying22) rfl ?_
    refine XO.v (V.cmp rfl rfl rfl) rfl ?_
    refine XO.nil ?_
    refine XE.next ?_
    refine XC.keep [(0, _), (4, _), (5, _), (6, _), (42, _)] (Sub.cons rfl (Sub.cons rfl (Sub.cons rfl (Sub.cons rfl (Sub.cons rfl (Sub.nil _)))))) ?_
    refine XC.condP rfl (fun h2 => ?_) (fun h2 => ?_)
    · skip
      refine XC.skip ?_
      refine XE.next ?_
      refine XC.keep [(0, _), (4, _), (5, _), (6, _)] (Sub.cons rfl (Sub.cons rfl (Sub.cons rfl (Sub.cons rfl (Sub.nil _))))) ?_
      refine XC.seq ?_
      refine XC.block ?_
      refine XC.seq ?_
      refine XC.region ?_
      refine XO.v (V.move rfl) rfl ?_
      refine XO.v (V.move rfl) rfl ?_
      refine XO.v (V.indexSl rfl rfl sl_22 (by omega)) rfl ?_
      refine XO.v (V.loadAggRo rfl (inXM (.there (.there .here))) (acts_load A len _ (by omega)) ag_39 sz_39_8) rfl ?_
      refine XO.allocZ (z := .agg actZero) (m := 8) (C := cellsOf actZero) (by kernel_rfl) rfl (fun _ _ => rfl) rfl ?_
      intro ba
      refine XO.storeAgg rfl rfl .here (acts_store _) ⟨rfl, rfl⟩ sz_39_8 ?_
      refine XO.nil ?_
      refine XE.next ?_
      refine XC.keep [(0, _), (4, _), (5, _), (6, _), (7, _)] (Sub.cons rfl (Sub.cons rfl (Sub.cons rfl (Sub.cons rfl (Sub.cons rfl (Sub.nil _)))))) ?_
      refine XC.seq ?_
      refine XC.seq ?_
      refine XC.region ?_
      refine XO.v (V.fieldAddr rfl fo_39_6) rfl ?_
      refine XO.v (V.load rfl (inXM .here) (encAct.ld_S _) sc_9) rfl ?_
      refine XO.v (V.lenStr rfl Try.underlying9) rfl ?_
      refine XO.v (V.cmp rfl rfl rfl) rfl ?_
      refine XO.nil ?_
      refine XE.next ?_
      refine XC.keep [(0, _), (4, _), (5, _), (6, _), (7, _), (52, _)] (Sub.cons rfl (Sub.cons rfl (Sub.cons rfl (Sub.cons rfl (Sub.cons rfl (Sub.cons rfl (Sub.nil _))))))) ?_
      refine XC.condP rfl (fun h3 => ?_) (fun h3 => ?_)
      · skip
        refine XC.seq ?_
        refine XC.region ?_
        refine XO.v (V.assign rfl) rfl ?_
        refine XO.nil ?_
        refine XE.next ?_
        refine XC.keep [(2, _)] (Sub.cons rfl (Sub.nil _)) ?_
        refine XC.ret ?_
        refine XE.thenRet ?_
        refine XE.blockRet ?_
        refine XE.thenRet ?_
        refine XE.thenRet ?_
        refine XE.blockRet ?_
        refine XE.thenRet ?_
        refine XE.ret1 rfl rfl (post_of .nil rfl ?_)
        exact ⟨rfl, rfl⟩
      · skip
        refine XC.skip ?_
        refine XE.next ?_
        refine XC.keep [(0, _), (4, _), (5, _), (6, _), (7, _)] (Sub.cons rfl (Sub.cons rfl (Sub.cons rfl (Sub.cons rfl (Sub.cons rfl (Sub.nil _)))))) ?_
        refine XC.seq ?_
        refine XC.region ?_
        refine XO.v (V.assign rfl) rfl ?_
        refine XO.nil ?_
        refine XE.next ?_
        refine XC.keep [(0, _), (4, _), (5, _), (6, _), (7, _)] (Sub.cons rfl (Sub.cons rfl (Sub.cons rfl (Sub.cons rfl (Sub.cons rfl (Sub.nil _)))))) ?_
        refine XC.cutG (σ := PS) (fun y => y.Inv (x.2 + 1)) (fun y => [(0, .slice (some ⟨bl, ol, none⟩) len cap), (4, ptr bs 0 0), (5, ptr bm 0 0), (6, .int .i64 x.2), (7, ptr ba 0 0), (8, .bool true)]) (fun y => XM W (foot [.ro bl ol (8 * len) (encActs A)]) [.cells bs 0 24 (encP y), .cells bm 0 24 (encR y), .cells ba 0 8 (encAct (A x.2)), .ro bl ol (8 * len) (encActs A)]) ?_ ?_
        · skip
          refine XC.seq ?_
          refine XC.region ?_
          refine XO.v (V.fieldAddr rfl fo_39_0) rfl ?_
          refine XO.v (V.load rfl (inXM .here) (encAct.ld_Kind _) sc_9) rfl ?_
          refine XO.nil ?_
          refine XE.next ?_
          refine XC.keep [(0, _), (4, _), (5, _), (6, _), (7, _), (54, _)] (Sub.cons rfl (Sub.cons rfl (Sub.cons rfl (Sub.cons rfl (Sub.cons rfl (Sub.cons rfl (Sub.nil _))))))) ?_
          refine XC.block ?_
          refine XC.seq ?_
          refine XC.region ?_
          refine XO.v (V.strCmp rfl rfl rfl) rfl ?_
          refine XO.v (V.assign rfl) rfl ?_
          refine XO.nil ?_
          refine XE.next ?_
          refine XC.keep [(0, _), (4, _), (5, _), (6, _), (7, _), (54, _), (81, _)] (Sub.cons rfl (Sub.cons rfl (Sub.cons rfl (Sub.cons rfl (Sub.cons rfl (Sub.cons rfl (Sub.cons rfl (Sub.nil _)))))))) ?_
          refine XC.condP rfl (fun h4 => ?_) (fun h4 => ?_)
          · skip
            refine XC.seq ?_
            refine XC.region ?_
            refine XO.v (V.move rfl) rfl ?_
            refine XO.call rfl (p_Make _ _ x.2 (by omega) _ hx.1) (.cons (.there .here) .nil) cl_12 rfl ?_
            rintro _ _ ⟨rfl, rfl⟩
            refine XO.v (V.move rfl) rfl ?_
            refine XO.v (V.extract rfl rfl) rfl ?_
            refine XO.v (V.extract rfl rfl) rfl ?_
            refine XO.v (V.assign rfl) rfl ?_
            refine XO.v (V.assign rfl) rfl ?_
            refine XO.nil ?_
            refine XE.next ?_
            refine XC.keep [(0, _), (4, _), (5, _), (6, _), (7, _), (9, _), (10, _)] (Sub.cons rfl (Sub.cons rfl (Sub.cons rfl (Sub.cons rfl (Sub.cons rfl (Sub.cons rfl (Sub.cons rfl (Sub.nil _)))))))) ?_
            refine XC.seq ?_
            refine XC.region ?_
            refine XO.v (V.move rfl) rfl ?_
            refine XO.call rfl (r_Make _ _ x.2 (by omega) _ hx.1) (.cons (.there (.there .here)) .nil) cl_13 rfl ?_
            rintro _ _ ⟨rfl, rfl⟩
            refine XO.v (V.move rfl) rfl ?_
            refine XO.v (V.extract rfl rfl) rfl ?_
            refine XO.v (V.extract rfl rfl) rfl ?_
            refine XO.v (V.assign rfl) rfl ?_
            refine XO.v (V.assign rfl) rfl ?_
            refine XO.nil ?_
            refine XE.next ?_
            refine XC.keep [(0, _), (4, _), (5, _), (6, _), (7, _), (9, _), (10, _), (11, _), (12, _)] (Sub.cons rfl (Sub.cons rfl (Sub.cons rfl (Sub.cons rfl (Sub.cons rfl (Sub.cons rfl (Sub.cons rfl (Sub.cons rfl (Sub.cons rfl (Sub.nil _)))))))))) ?_
            refine XC.region ?_
            refine XO.v (V.move rfl) rfl ?_
            refine XO.v (V.move rfl) rfl ?_
            refine XO.v (V.cmp rfl rfl rfl) rfl ?_
            refine XO.v (V.move rfl) rfl ?_
            refine XO.splitT (d := 96) rfl (by first | omega | (simp; done) | (simp; omega)) ?_
            refine XO.guardRun rfl rfl rfl ?_
            refine XO.v (V.move rfl) rfl ?_
            refine XO.guardRun rfl rfl rfl ?_
            refine XO.v (V.move rfl) rfl ?_
            refine XO.guardRun rfl rfl rfl ?_
            refine XO.call rfl (same_any _ _ (by first | omega | assumption | exact PS.make_nn _ | exact PS.turn_nn _ _ _ _ | exact PS.read_nn _ _ _ | exact PS.write_nn _ _ _ | exact PS.is_nn _ _)) .nil cl_14 rfl ?_
            rintro _ _ ⟨rfl, rfl⟩
            refine XO.v (V.pick rfl rfl rfl rfl) rfl ?_
            refine XO.v (V.assign rfl) rfl ?_
            refine XO.nil ?_
            refine XE.blockNormal ?_
            refine XE.meetG (x.1.make.2.2) ?_ (Sub.cons rfl (Sub.cons rfl (Sub.cons rfl (Sub.cons rfl (Sub.cons rfl (Sub.cons (eqb (by simp)) (Sub.nil _))))))) (fun _ hw => XM.pick (.cons (.there .here) (.cons .here (.cons .here (.cons .here .nil)))) hw)
            · exact PS.make_inv hi hx0
          · skip
            refine XC.seq ?_
            refine XC.region ?_
            refine XO.v (V.strCmp rfl rfl rfl) rfl ?_
            refine XO.v (V.assign rfl) rfl ?_
            refine XO.nil ?_
            refine XE.next ?_
            refine XC.keep [(0, _), (4, _), (5, _), (6, _), (7, _), (54, _), (101, _)] (Sub.cons rfl (Sub.cons rfl (Sub.cons rfl (Sub.cons rfl (Sub.cons rfl (Sub.cons rfl (Sub.cons rfl (Sub.nil _)))))))) ?_
            refine XC.condP rfl (fun h6 => ?_) (fun h6 => ?_)
            · skip
              refine XC.regionQ mixed (f := 14) (l := #[false, false, false, false, false, false, false, false, false, false, false, false, false, false]) rfl rfl XM.drawn' ?_
              refine XQ.pv (i := 0) (l' := #[true, false, false, false, false, false, false, false, false, false, false, false, false, false]) rfl (by kernel_rfl) rfl (V.move rfl) rfl rfl ?_
              refine XQ.pv (i := 1) (l' := #[true, true, false, false, false, false, false, false, false, false, false, false, false, false]) rfl (by kernel_rfl) rfl (V.fieldAddr rfl fo_39_1) rfl rfl ?_
              refine XQ.load (i := 2) (l' := #[true, true, true, false, false, false, false, false, false, false, false, false, false, false]) (.cells _ _ _ _) [5, 11, 12] rfl (by kernel_rfl) rfl .here (V.load rfl inEnt (encAct.ld_A _) sc_3) rfl (by kernel_rfl) rfl ?_
              refine XQ.pv (i := 3) (l' := #[true, true, true, true, false, false, false, false, false, false, false, false, false, false]) rfl (by kernel_rfl) rfl (V.fieldAddr rfl fo_39_5) rfl rfl ?_
              refine XQ.load (i := 4) (l' := #[true, true, true, true, true, false, false, false, false, false, false, false, false, false]) (.cells _ _ _ _) [5, 11, 12] rfl (by kernel_rfl) rfl .here (V.load rfl inEnt (encAct.ld_On _) sc_4) rfl (by kernel_rfl) rfl ?_
              refine XQ.pv (i := 6) (l' := #[true, true, true, true, true, false, true, false, false, false, false, false, false, false]) rfl (by kernel_rfl) rfl (V.move rfl) rfl rfl ?_
              refine XQ.pv (i := 7) (l' := #[true, true, true, true, true, false, true, true, false, false, false, false, false, false]) rfl (by kernel_rfl) rfl (V.fieldAddr rfl fo_39_1) rfl rfl ?_
              refine XQ.load (i := 8) (l' := #[true, true, true, true, true, false, true, true, true, false, false, false, false, false]) (.cells _ _ _ _) [11, 12] rfl (by kernel_rfl) rfl .here (V.load rfl inEnt (encAct.ld_A _) sc_3) rfl (by kernel_rfl) rfl ?_
              refine XQ.pv (i := 9) (l' := #[true, true, true, true, true, false, true, true, true, true, false, false, false, false]) rfl (by kernel_rfl) rfl (V.fieldAddr rfl fo_39_5) rfl rfl ?_
              refine XQ.load (i := 10) (l' := #[true, true, true, true, true, false, true, true, true, true, true, false, false, false]) (.cells _ _ _ _) [11, 12] rfl (by kernel_rfl) rfl .here (V.load rfl inEnt (encAct.ld_On _) sc_4) rfl (by kernel_rfl) rfl ?_
              refine XQ.call (i := 5) (l' := #[true, true, true, true, true, true, true, true, true, true, true, false, false, false]) rfl (by kernel_rfl) rfl rfl (p_Share _ _ x.2 (by omega) _ hx.1 _ _) (.cons (.there .here) .nil) cl_15 rfl (by rintro _ _ ⟨rfl, rfl⟩; all_goals (intro _ hw'; exact ⟨fun _ => inXM (.there .here) _ hw', fun _ => inXM (.there .here) _ hw', fun hs => (hs 5 (by simp) rfl).elim, fun hs => (hs 5 (by simp) rfl).elim, trivial⟩)) ?_
              rintro _ _ ⟨rfl, rfl⟩
              refine XQ.call (i := 11) (l' := #[true, true, true, true, true, true, true, true, true, true, true, true, false, false]) rfl (by kernel_rfl) rfl rfl (r_Turn _ _ x.2 (by omega) _ hx.1 _ _ (by omega) _) (.cons (.there (.there .here)) .nil) cl_16 rfl (by rintro _ _ ⟨rfl, rfl⟩; all_goals (intro _ hw'; exact ⟨fun hs => (hs 11 (by simp) rfl).elim, fun hs => (hs 11 (by simp) rfl).elim, fun hs => (hs 5 (by simp) rfl).elim, fun hs => (hs 5 (by simp) rfl).elim, trivial⟩)) ?_
              rintro _ _ ⟨rfl, rfl⟩
              refine XQ.call (i := 12) (l' := #[true, true, true, true, true, true, true, true, true, true, true, true, true, false]) rfl (by kernel_rfl) rfl rfl (same_any _ _ (by first | omega | assumption | exact PS.make_nn _ | exact PS.turn_nn _ _ _ _ | exact PS.read_nn _ _ _ | exact PS.write_nn _ _ _ | exact PS.is_nn _ _)) .nil cl_14 rfl (by rintro _ _ ⟨rfl, rfl⟩; all_goals (intro _ hw'; exact ⟨fun hs => (hs 11 (by simp) rfl).elim, fun hs => (hs 11 (by simp) rfl).elim, fun hs => (hs 5 (by simp) rfl).elim, fun hs => (hs 5 (by simp) rfl).elim, trivial⟩)) ?_
              rintro _ _ ⟨rfl, rfl⟩
              refine XQ.pv (i := 13) (l' := #[true, true, true, true, true, true, true, true, true, true, true, true, true, true]) rfl (by kernel_rfl) rfl (V.assign rfl) rfl rfl ?_
              refine XQ.done (by kernel_rfl) ?_
              refine XE.blockNormal ?_
              refine XE.meetG ((x.1.turn (A x.2).a (A x.2).on 1).2) ?_ (Sub.cons rfl (Sub.cons rfl (Sub.cons rfl (Sub.cons rfl (Sub.cons rfl (Sub.cons (eqb (by simp)) (Sub.nil _))))))) (fun _ hw => XM.pick (.cons (.there .here) (.cons .here (.cons .here (.cons .here .nil)))) hw)
              · exact PS.turn_inv hi (.inl rfl)
            · skip
              refine XC.seq ?_
              refine XC.region ?_
              refine XO.v (V.strCmp rfl rfl rfl) rfl ?_
              refine XO.v (V.assign rfl) rfl ?_
              refine XO.nil ?_
              refine XE.next ?_
              refine XC.keep [(0, _), (4, _), (5, _), (6, _), (7, _), (54, _), (116, _)] (Sub.cons rfl (Sub.cons rfl (Sub.cons rfl (Sub.cons rfl (Sub.cons rfl (Sub.cons rfl (Sub.cons rfl (Sub.nil _)))))))) ?_
              refine XC.condP rfl (fun h7 => ?_) (fun h7 => ?_)
              · skip
                refine XC.regionQ mixed (f := 14) (l := #[false, false, false, false, false, false, false, false, false, false, false, false, false, false]) rfl rfl XM.drawn' ?_
                refine XQ.pv (i := 0) (l' := #[true, false, false, false, false, false, false, false, false, false, false, false, false, false]) rfl (by kernel_rfl) rfl (V.move rfl) rfl rfl ?_
                refine XQ.pv (i := 1) (l' := #[true, true, false, false, false, false, false, false, false, false, false, false, false, false]) rfl (by kernel_rfl) rfl (V.fieldAddr rfl fo_39_1) rfl rfl ?_
                refine XQ.load (i := 2) (l' := #[true, true, true, false, false, false, false, false, false, false, false, false, false, false]) (.cells _ _ _ _) [5, 11, 12] rfl (by kernel_rfl) rfl .here (V.load rfl inEnt (encAct.ld_A _) sc_3) rfl (by kernel_rfl) rfl ?_
                refine XQ.pv (i := 3) (l' := #[true, true, true, true, false, false, false, false, false, false, false, false, false, false]) rfl (by kernel_rfl) rfl (V.fieldAddr rfl fo_39_5) rfl rfl ?_
                refine XQ.load (i := 4) (l' := #[true, true, true, true, true, false, false, false, false, false, false, false, false, false]) (.cells _ _ _ _) [5, 11, 12] rfl (by kernel_rfl) rfl .here (V.load rfl inEnt (encAct.ld_On _) sc_4) rfl (by kernel_rfl) rfl ?_
                refine XQ.pv (i := 6) (l' := #[true, true, true, true, true, false, true, false, false, false, false, false, false, false]) rfl (by kernel_rfl) rfl (V.move rfl) rfl rfl ?_
                refine XQ.pv (i := 7) (l' := #[true, true, true, true, true, false, true, true, false, false, false, false, false, false]) rfl (by kernel_rfl) rfl (V.fieldAddr rfl fo_39_1) rfl rfl ?_
                refine XQ.load (i := 8) (l' := #[true, true, true, true, true, false, true, true, true, false, false, false, false, false]) (.cells _ _ _ _) [11, 12] rfl (by kernel_rfl) rfl .here (V.load rfl inEnt (encAct.ld_A _) sc_3) rfl (by kernel_rfl) rfl ?_
                refine XQ.pv (i := 9) (l' := #[true, true, true, true, true, false, true, true, true, true, false, false, false, false]) rfl (by kernel_rfl) rfl (V.fieldAddr rfl fo_39_5) rfl rfl ?_
                refine XQ.load (i := 10) (l' := #[true, true, true, true, true, false, true, true, true, true, true, false, false, false]) (.cells _ _ _ _) [11, 12] rfl (by kernel_rfl) rfl .here (V.load rfl inEnt (encAct.ld_On _) sc_4) rfl (by kernel_rfl) rfl ?_
                refine XQ.call (i := 5) (l' := #[true, true, true, true, true, true, true, true, true, true, true, false, false, false]) rfl (by kernel_rfl) rfl rfl (p_Drop _ _ x.2 (by omega) _ hx.1 _ _) (.cons (.there .here) .nil) cl_17 rfl (by rintro _ _ ⟨rfl, rfl⟩; all_goals (intro _ hw'; exact ⟨fun _ => inXM (.there .here) _ hw', fun _ => inXM (.there .here) _ hw', fun hs => (hs 5 (by simp) rfl).elim, fun hs => (hs 5 (by simp) rfl).elim, trivial⟩)) ?_
                rintro _ _ ⟨rfl, rfl⟩
                refine XQ.call (i := 11) (l' := #[true, true, true, true, true, true, true, true, true, true, true, true, false, false]) rfl (by kernel_rfl) rfl rfl (r_Turn _ _ x.2 (by omega) _ hx.1 _ _ (by omega) _) (.cons (.there (.there .here)) .nil) cl_16 rfl (by rintro _ _ ⟨rfl, rfl⟩; all_goals (intro _ hw'; exact ⟨fun hs => (hs 11 (by simp) rfl).elim, fun hs => (hs 11 (by simp) rfl).elim, fun hs => (hs 5 (by simp) rfl).elim, fun hs => (hs 5 (by simp) rfl).elim, trivial⟩)) ?_
                rintro _ _ ⟨rfl, rfl⟩
                refine XQ.call (i := 12) (l' := #[true, true, true, true, true, true, true, true, true, true, true, true, true, false]) rfl (by kernel_rfl) rfl rfl (same_any _ _ (by first | omega | assumption | exact PS.make_nn _ | exact PS.turn_nn _ _ _ _ | exact PS.read_nn _ _ _ | exact PS.write_nn _ _ _ | exact PS.is_nn _ _)) .nil cl_14 rfl (by rintro _ _ ⟨rfl, rfl⟩; all_goals (intro _ hw'; exact ⟨fun hs => (hs 11 (by simp) rfl).elim, fun hs => (hs 11 (by simp) rfl).elim, fun hs => (hs 5 (by simp) rfl).elim, fun hs => (hs 5 (by simp) rfl).elim, trivial⟩)) ?_
                rintro _ _ ⟨rfl, rfl⟩
                refine XQ.pv (i := 13) (l' := #[true, true, true, true, true, true, true, true, true, true, true, true, true, true]) rfl (by kernel_rfl) rfl (V.assign rfl) rfl rfl ?_
                refine XQ.done (by kernel_rfl) ?_
                refine XE.blockNormal ?_
                refine XE.meetG ((x.1.turn (A x.2).a (A x.2).on (-1)).2) ?_ (Sub.cons rfl (Sub.cons rfl (Sub.cons rfl (Sub.cons rfl (Sub.cons rfl (Sub.cons (eqb (by simp)) (Sub.nil _))))))) (fun _ hw => XM.pick (.cons (.there .here) (.cons .here (.cons .here (.cons .here .nil)))) hw)
                · exact PS.turn_inv hi (.inr rfl)
              · skip
                refine XC.seq ?_
                refine XC.region ?_
                refine XO.v (V.strCmp rfl rfl rfl) rfl ?_
                refine XO.v (V.assign rfl) rfl ?_
                refine XO.nil ?_
                refine XE.next ?_
                refine XC.keep [(0, _), (4, _), (5, _), (6, _), (7, _), (131, _)] (Sub.cons rfl (Sub.cons rfl (Sub.cons rfl (Sub.cons rfl (Sub.cons rfl (Sub.cons rfl (Sub.nil _))))))) ?_
                refine XC.condP rfl (fun h8 => ?_) (fun h8 => ?_)
                · skip
                  refine XC.seq ?_
                  refine XC.region ?_
                  refine XO.v (V.move rfl) rfl ?_
                  refine XO.v (V.fieldAddr rfl fo_39_1) rfl ?_
                  refine XO.v (V.load rfl (inXM .here) (encAct.ld_A _) sc_3) rfl ?_
                  refine XO.v (V.fieldAddr rfl fo_39_2) rfl ?_
                  refine XO.v (V.load rfl (inXM .here) (encAct.ld_B _) sc_3) rfl ?_
                  refine XO.call rfl (p_Read _ _ x.2 (by omega) _ hx.1 _ _) (.cons (.there .here) .nil) cl_18 rfl ?_
                  rintro _ _ ⟨rfl, rfl⟩
                  refine XO.v (V.move rfl) rfl ?_
                  refine XO.v (V.extract rfl rfl) rfl ?_
                  refine XO.v (V.extract rfl rfl) rfl ?_
                  refine XO.v (V.assign rfl) rfl ?_
                  refine XO.v (V.assign rfl) rfl ?_
                  refine XO.nil ?_
                  refine XE.next ?_
                  refine XC.keep [(0, _), (4, _), (5, _), (6, _), (7, _), (13, _), (14, _)] (Sub.cons rfl (Sub.cons rfl (Sub.cons rfl (Sub.cons rfl (Sub.cons rfl (Sub.cons rfl (Sub.cons rfl (Sub.nil _)))))))) ?_
                  refine XC.seq ?_
                  refine XC.region ?_
                  refine XO.v (V.move rfl) rfl ?_
                  refine XO.v (V.fieldAddr rfl fo_39_1) rfl ?_
                  refine XO.v (V.load rfl (inXM (.there .here)) (encAct.ld_A _) sc_3) rfl ?_
                  refine XO.v (V.fieldAddr rfl fo_39_2) rfl ?_
                  refine XO.v (V.load rfl (inXM (.there .here)) (encAct.ld_B _) sc_3) rfl ?_
                  refine XO.call rfl (r_Read _ _ x.2 (by omega) _ hx.1 _ _) (.cons (.there (.there .here)) .nil) cl_19 rfl ?_
                  rintro _ _ ⟨rfl, rfl⟩
                  refine XO.v (V.move rfl) rfl ?_
                  refine XO.v (V.extract rfl rfl) rfl ?_
                  refine XO.v (V.extract rfl rfl) rfl ?_
                  refine XO.v (V.assign rfl) rfl ?_
                  refine XO.v (V.assign rfl) rfl ?_
                  refine XO.nil ?_
                  refine XE.next ?_
                  refine XC.keep [(0, _), (4, _), (5, _), (6, _), (7, _), (13, _), (14, _), (15, _), (16, _)] (Sub.cons rfl (Sub.cons rfl (Sub.cons rfl (Sub.cons rfl (Sub.cons rfl (Sub.cons rfl (Sub.cons rfl (Sub.cons rfl (Sub.cons rfl (Sub.nil _)))))))))) ?_
                  refine XC.region ?_
                  refine XO.v (V.move rfl) rfl ?_
                  refine XO.v (V.move rfl) rfl ?_
                  refine XO.v (V.strCmp rfl rfl rfl) rfl ?_
                  refine XO.v (V.move rfl) rfl ?_
                  refine XO.splitT (d := 154) rfl (by first | omega | (simp; done) | (simp; omega)) ?_
                  refine XO.guardRun rfl rfl rfl ?_
                  refine XO.v (V.move rfl) rfl ?_
                  refine XO.guardRun rfl rfl rfl ?_
                  refine XO.v (V.move rfl) rfl ?_
                  refine XO.guardRun rfl rfl rfl ?_
                  refine XO.call rfl (same_any _ _ (by first | omega | assumption | exact PS.make_nn _ | exact PS.turn_nn _ _ _ _ | exact PS.read_nn _ _ _ | exact PS.write_nn _ _ _ | exact PS.is_nn _ _)) .nil cl_14 rfl ?_
                  rintro _ _ ⟨rfl, rfl⟩
                  refine XO.v (V.pick rfl rfl rfl rfl) rfl ?_
                  refine XO.v (V.assign rfl) rfl ?_
                  refine XO.nil ?_
                  refine XE.blockNormal ?_
                  refine XE.meetG ((x.1.read (A x.2).a (A x.2).b).2.2) ?_ (Sub.cons rfl (Sub.cons rfl (Sub.cons rfl (Sub.cons rfl (Sub.cons rfl (Sub.cons (eqb (by simp)) (Sub.nil _))))))) (fun _ hw => XM.pick (.cons (.there .here) (.cons .here (.cons .here (.cons .here .nil)))) hw)
                  · exact PS.read_inv hi
                · skip
                  refine XC.seq ?_
                  refine XC.region ?_
                  refine XO.v (V.move rfl) rfl ?_
                  refine XO.v (V.fieldAddr rfl fo_39_1) rfl ?_
                  refine XO.v (V.load rfl (inXM .here) (encAct.ld_A _) sc_3) rfl ?_
                  refine XO.v (V.fieldAddr rfl fo_39_6) rfl ?_
                  refine XO.v (V.load rfl (inXM .here) (encAct.ld_S _) sc_9) rfl ?_
                  refine XO.call rfl (p_Write _ _ x.2 (by omega) _ hx.1 _ _ (by omega)) (.cons (.there .here) .nil) cl_20 rfl ?_
                  rintro _ _ ⟨rfl, rfl⟩
                  refine XO.v (V.move rfl) rfl ?_
                  refine XO.v (V.extract rfl rfl) rfl ?_
                  refine XO.v (V.extract rfl rfl) rfl ?_
                  refine XO.v (V.assign rfl) rfl ?_
                  refine XO.v (V.assign rfl) rfl ?_
                  refine XO.nil ?_
                  refine XE.next ?_
                  refine XC.keep [(0, _), (4, _), (5, _), (6, _), (7, _), (17, _), (18, _)] (Sub.cons rfl (Sub.cons rfl (Sub.cons rfl (Sub.cons rfl (Sub.cons rfl (Sub.cons rfl (Sub.cons rfl (Sub.nil _)))))))) ?_
                  refine XC.seq ?_
                  refine XC.region ?_
                  refine XO.v (V.move rfl) rfl ?_
                  refine XO.v (V.fieldAddr rfl fo_39_1) rfl ?_
                  refine XO.v (V.load rfl (inXM (.there .here)) (encAct.ld_A _) sc_3) rfl ?_
                  refine XO.v (V.fieldAddr rfl fo_39_6) rfl ?_
                  refine XO.v (V.load rfl (inXM (.there .here)) (encAct.ld_S _) sc_9) rfl ?_
                  refine XO.call rfl (r_Write _ _ x.2 (by omega) _ hx.1 _ _ (by omega)) (.cons (.there (.there .here)) .nil) cl_21 rfl ?_
                  rintro _ _ ⟨rfl, rfl⟩
                  refine XO.v (V.move rfl) rfl ?_
                  refine XO.v (V.extract rfl rfl) rfl ?_
                  refine XO.v (V.extract rfl rfl) rfl ?_
                  refine XO.v (V.assign rfl) rfl ?_
                  refine XO.v (V.assign rfl) rfl ?_
                  refine XO.nil ?_
                  refine XE.next ?_
                  refine XC.keep [(0, _), (4, _), (5, _), (6, _), (7, _), (17, _), (18, _), (19, _), (20, _)] (Sub.cons rfl (Sub.cons rfl (Sub.cons rfl (Sub.cons rfl (Sub.cons rfl (Sub.cons rfl (Sub.cons rfl (Sub.cons rfl (Sub.cons rfl (Sub.nil _)))))))))) ?_
                  refine XC.region ?_
                  refine XO.v (V.move rfl) rfl ?_
                  refine XO.v (V.move rfl) rfl ?_
                  refine XO.v (V.cmp rfl rfl rfl) rfl ?_
                  refine XO.v (V.move rfl) rfl ?_
                  refine XO.splitT (d := 76) rfl (by first | omega | (simp; done) | (simp; omega)) ?_
                  refine XO.guardRun rfl rfl rfl ?_
                  refine XO.v (V.move rfl) rfl ?_
                  refine XO.guardRun rfl rfl rfl ?_
                  refine XO.v (V.move rfl) rfl ?_
                  refine XO.guardRun rfl rfl rfl ?_
                  refine XO.call rfl (same_any _ _ (by first | omega | assumption | exact PS.make_nn _ | exact PS.turn_nn _ _ _ _ | exact PS.read_nn _ _ _ | exact PS.write_nn _ _ _ | exact PS.is_nn _ _)) .nil cl_14 rfl ?_
                  rintro _ _ ⟨rfl, rfl⟩
                  refine XO.v (V.pick rfl rfl rfl rfl) rfl ?_
                  refine XO.v (V.assign rfl) rfl ?_
                  refine XO.nil ?_
                  refine XE.blockNormal ?_
                  refine XE.meetG ((x.1.write (A x.2).a (A x.2).s).2.2) ?_ (Sub.cons rfl (Sub.cons rfl (Sub.cons rfl (Sub.cons rfl (Sub.cons rfl (Sub.cons (eqb (by simp)) (Sub.nil _))))))) (fun _ hw => XM.pick (.cons (.there .here) (.cons .here (.cons .here (.cons .here .nil)))) hw)
                  · exact PS.write_inv hi
        intro y hy
        refine XC.seq ?_
        refine XC.region ?_
        refine XO.v (V.move rfl) rfl ?_
        refine XO.v (V.fieldAddr rfl fo_39_1) rfl ?_
        refine XO.v (V.load rfl (inXM (.there (.there .here))) (encAct.ld_A _) sc_3) rfl ?_
        refine XO.call rfl (p_Of _ _ (x.2 + 1) (by omega) _ hy _) (.cons .here .nil) cl_22 rfl ?_
        rintro _ _ (⟨h11, rfl, rfl⟩ | ⟨h11, rfl, rfl⟩)
        · skip
          have ha := h11
          refine XO.v (V.move rfl) rfl ?_
          refine XO.v (V.extract rfl rfl) rfl ?_
          refine XO.v (V.extract rfl rfl) rfl ?_
          refine XO.v (V.extract rfl rfl) rfl ?_
          refine XO.v (V.extract rfl rfl) rfl ?_
          refine XO.v (V.assign rfl) rfl ?_
          refine XO.v (V.assign rfl) rfl ?_
          refine XO.v (V.assign rfl) rfl ?_
          refine XO.v (V.assign rfl) rfl ?_
          refine XO.nil ?_
          refine XE.next ?_
          refine XC.keep [(0, _), (4, _), (5, _), (6, _), (7, _), (8, _), (21, _), (22, _), (23, _), (24, _)] (Sub.cons rfl (Sub.cons rfl (Sub.cons rfl (Sub.cons rfl (Sub.cons rfl (Sub.cons rfl (Sub.cons rfl (Sub.cons rfl (Sub.cons rfl (Sub.cons rfl (Sub.nil _))))))))))) ?_
          refine XC.seq ?_
          refine XC.region ?_
          refine XO.v (V.move rfl) rfl ?_
          refine XO.v (V.fieldAddr rfl fo_39_1) rfl ?_
          refine XO.v (V.load rfl (inXM (.there (.there .here))) (encAct.ld_A _) sc_3) rfl ?_
          refine XO.call rfl (r_Is _ _ (x.2 + 1) (by omega) _ hy _) (.cons (.there .here) .nil) cl_23 rfl ?_
          rintro _ _ ⟨⟨rfl, h12⟩, rfl⟩
          refine XO.v (V.assign rfl) rfl ?_
          refine XO.nil ?_
          refine XE.next ?_
          refine XC.keep [(0, _), (4, _), (5, _), (6, _), (7, _), (8, _), (21, _), (22, _), (23, _), (24, _), (25, _)] (Sub.cons rfl (Sub.cons rfl (Sub.cons rfl (Sub.cons rfl (Sub.cons rfl (Sub.cons rfl (Sub.cons rfl (Sub.cons rfl (Sub.cons rfl (Sub.cons rfl (Sub.cons rfl (Sub.nil _)))))))))))) ?_
          refine XC.seq ?_
          refine XC.seq ?_
          refine XC.region ?_
          refine XO.v (V.move rfl) rfl ?_
          refine XO.v (V.not rfl) rfl ?_
          refine XO.v (V.move rfl) rfl ?_
          refine XO.guardRun rfl rfl rfl ?_
          refine XO.v (V.move rfl) rfl ?_
          refine XO.guardRun rfl rfl rfl ?_
          refine XO.v (V.move rfl) rfl ?_
          refine XO.guardRun rfl rfl rfl ?_
          refine XO.call rfl (same_nil _) .nil cl_14 rfl ?_
          rintro _ _ ⟨rfl, rfl⟩
          refine XO.guardRun rfl rfl rfl ?_
          refine XO.v (V.notP rfl) rfl ?_
          refine XO.v (V.pick rfl rfl rfl rfl) rfl ?_
          refine XO.v (V.move rfl) rfl ?_
          refine XO.splitF (d := 180) rfl (by first | omega | (simp; done) | (simp; omega)) ?_
          refine XO.guardRun rfl rfl rfl ?_
          refine XO.v (V.move rfl) rfl ?_
          refine XO.guardRun rfl rfl rfl ?_
          refine XO.call rfl (p_Pipes _ _ (x.2 + 1) (by omega) _ hy) (.cons (.there .here) .nil) cl_24 rfl ?_
          rintro _ _ ⟨rfl, rfl⟩
          refine XO.guardRun rfl rfl rfl ?_
          refine XO.v (V.move rfl) rfl ?_
          refine XO.guardRun rfl rfl rfl ?_
          refine XO.call rfl (r_Pipes _ _ (x.2 + 1) (by omega) _ hy) (.cons (.there .here) .nil) cl_25 rfl ?_
          rintro _ _ ⟨rfl, rfl⟩
          refine XO.guardRun rfl rfl rfl ?_
          refine XO.v (V.cmp rfl rfl rfl) rfl ?_
          refine XO.v (V.pick rfl rfl rfl rfl) rfl ?_
          refine XO.nil ?_
          refine XE.next ?_
          refine XC.keep [(0, _), (4, _), (5, _), (6, _), (7, _), (21, _), (22, _), (23, _), (25, _), (186, _)] (Sub.cons rfl (Sub.cons rfl (Sub.cons rfl (Sub.cons rfl (Sub.cons rfl (Sub.cons rfl (Sub.cons rfl (Sub.cons rfl (Sub.cons rfl (Sub.cons rfl (Sub.nil _))))))))))) ?_
          refine XC.condFP rfl (by simp) ?_
          refine XC.skip ?_
          refine XE.next ?_
          refine XC.keep [(0, _), (4, _), (5, _), (6, _), (7, _), (21, _), (22, _), (23, _), (25, _)] (Sub.cons rfl (Sub.cons rfl (Sub.cons rfl (Sub.cons rfl (Sub.cons rfl (Sub.cons rfl (Sub.cons rfl (Sub.cons rfl (Sub.cons rfl (Sub.nil _)))))))))) ?_
          refine XC.seq ?_
          refine XC.regionQ mixed (f := 54) (l := #[false, false, false, false, false, false, false, false, false, false, false, false, false, false, false, false, false, false, false, false, false, false, false, false, false, false, false, false, false, false, false, false, false, false, false, false, false, false, false, false, false, false, false, false, false, false, false, false, false, false, false, false, false, false]) rfl rfl XM.drawn' ?_
          refine XQ.pv (i := 0) (l' := #[true, false, false, false, false, false, false, false, false, false, false, false, false, false, false, false, false, false, false, false, false, false, false, false, false, false, false, false, false, false, false, false, false, false, false, false, false, false, false, false, false, false, false, false, false, false, false, false, false, false, false, false, false, false]) rfl (by kernel_rfl) rfl (V.move rfl) rfl rfl ?_
          refine XQ.pv (i := 1) (l' := #[true, true, false, false, false, false, false, false, false, false, false, false, false, false, false, false, false, false, false, false, false, false, false, false, false, false, false, false, false, false, false, false, false, false, false, false, false, false, false, false, false, false, false, false, false, false, false, false, false, false, false, false, false, false]) rfl (by kernel_rfl) rfl (V.cmp rfl rfl rfl) rfl rfl ?_
          refine XQ.pv (i := 2) (l' := #[true, true, true, false, false, false, false, false, false, false, false, false, false, false, false, false, false, false, false, false, false, false, false, false, false, false, false, false, false, false, false, false, false, false, false, false, false, false, false, false, false, false, false, false, false, false, false, false, false, false, false, false, false, false]) rfl (by kernel_rfl) rfl (V.move rfl) rfl rfl ?_
          refine XQ.splitF (d := 189) rfl (by first | omega | (simp; done) | (simp; omega)) ?_
          refine XQ.skip (i := 3) (l' := #[true, true, true, true, false, false, false, false, false, false, false, false, false, false, false, false, false, false, false, false, false, false, false, false, false, false, false, false, false, false, false, false, false, false, false, false, false, false, false, false, false, false, false, false, false, false, false, false, false, false, false, false, false, false]) rfl rfl rfl rfl rfl (by kernel_rfl) rfl rfl rfl ?_
          refine XQ.skip (i := 4) (l' := #[true, true, true, true, true, false, false, false, false, false, false, false, false, false, false, false, false, false, false, false, false, false, false, false, false, false, false, false, false, false, false, false, false, false, false, false, false, false, false, false, false, false, false, false, false, false, false, false, false, false, false, false, false, false]) rfl rfl rfl rfl rfl (by kernel_rfl) rfl rfl rfl ?_
          refine XQ.skip (i := 5) (l' := #[true, true, true, true, true, true, false, false, false, false, false, false, false, false, false, false, false, false, false, false, false, false, false, false, false, false, false, false, false, false, false, false, false, false, false, false, false, false, false, false, false, false, false, false, false, false, false, false, false, false, false, false, false, false]) rfl rfl rfl rfl rfl (by kernel_rfl) rfl rfl rfl ?_
          refine XQ.skipU (i := 6) (l' := #[true, true, true, true, true, true, true, false, false, false, false, false, false, false, false, false, false, false, false, false, false, false, false, false, false, false, false, false, false, false, false, false, false, false, false, false, false, false, false, false, false, false, false, false, false, false, false, false, false, false, false, false, false, false]) rfl rfl rfl rfl rfl (by kernel_rfl) rfl rfl rfl ?_
          refine XQ.skipU (i := 7) (l' := #[true, true, true, true, true, true, true, true, false, false, false, false, false, false, false, false, false, false, false, false, false, false, false, false, false, false, false, false, false, false, false, false, false, false, false, false, false, false, false, false, false, false, false, false, false, false, false, false, false, false, false, false, false, false]) rfl rfl rfl rfl rfl (by kernel_rfl) rfl rfl rfl ?_
          refine XQ.skip (i := 8) (l' := #[true, true, true, true, true, true, true, true, true, false, false, false, false, false, false, false, false, false, false, false, false, false, false, false, false, false, false, false, false, false, false, false, false, false, false, false, false, false, false, false, false, false, false, false, false, false, false, false, false, false, false, false, false, false]) rfl rfl rfl rfl rfl (by kernel_rfl) rfl rfl rfl ?_
          refine XQ.skip (i := 9) (l' := #[true, true, true, true, true, true, true, true, true, true, false, false, false, false, false, false, false, false, false, false, false, false, false, false, false, false, false, false, false, false, false, false, false, false, false, false, false, false, false, false, false, false, false, false, false, false, false, false, false, false, false, false, false, false]) rfl rfl rfl rfl rfl (by kernel_rfl) rfl rfl rfl ?_
          refine XQ.skipU (i := 10) (l' := #[true, true, true, true, true, true, true, true, true, true, true, false, false, false, false, false, false, false, false, false, false, false, false, false, false, false, false, false, false, false, false, false, false, false, false, false, false, false, false, false, false, false, false, false, false, false, false, false, false, false, false, false, false, false]) rfl rfl rfl rfl rfl (by kernel_rfl) rfl rfl rfl ?_
          refine XQ.skipU (i := 11) (l' := #[true, true, true, true, true, true, true, true, true, true, true, true, false, false, false, false, false, false, false, false, false, false, false, false, false, false, false, false, false, false, false, false, false, false, false, false, false, false, false, false, false, false, false, false, false, false, false, false, false, false, false, false, false, false]) rfl rfl rfl rfl rfl (by kernel_rfl) rfl rfl rfl ?_
          refine XQ.skip (i := 12) (l' := #[true, true, true, true, true, true, true, true, true, true, true, true, true, false, false, false, false, false, false, false, false, false, false, false, false, false, false, false, false, false, false, false, false, false, false, false, false, false, false, false, false, false, false, false, false, false, false, false, false, false, false, false, false, false]) rfl rfl rfl rfl rfl (by kernel_rfl) rfl rfl rfl ?_
          refine XQ.pv (i := 13) (l' := #[true, true, true, true, true, true, true, true, true, true, true, true, true, true, false, false, false, false, false, false, false, false, false, false, false, false, false, false, false, false, false, false, false, false, false, false, false, false, false, false, false, false, false, false, false, false, false, false, false, false, false, false, false, false]) rfl (by kernel_rfl) rfl (V.pick rfl rfl rfl rfl) rfl rfl ?_
          refine XQ.pv (i := 14) (l' := #[true, true, true, true, true, true, true, true, true, true, true, true, true, true, true, false, false, false, false, false, false, false, false, false, false, false, false, false, false, false, false, false, false, false, false, false, false, false, false, false, false, false, false, false, false, false, false, false, false, false, false, false, false, false]) rfl (by kernel_rfl) rfl (V.move rfl) rfl rfl ?_
          refine XQ.pvG (i := 15) (l' := #[true, true, true, true, true, true, true, true, true, true, true, true, true, true, true, true, false, false, false, false, false, false, false, false, false, false, false, false, false, false, false, false, false, false, false, false, false, false, false, false, false, false, false, false, false, false, false, false, false, false, false, false, false, false]) rfl rfl rfl (by kernel_rfl) rfl (V.move rfl) rfl rfl ?_
          refine XQ.pvG (i := 16) (l' := #[true, true, true, true, true, true, true, true, true, true, true, true, true, true, true, true, true, false, false, false, false, false, false, false, false, false, false, false, false, false, false, false, false, false, false, false, false, false, false, false, false, false, false, false, false, false, false, false, false, false, false, false, false, false]) rfl rfl rfl (by kernel_rfl) rfl (V.cmp rfl rfl rfl) rfl rfl ?_
          refine XQ.pvG (i := 17) (l' := #[true, true, true, true, true, true, true, true, true, true, true, true, true, true, true, true, true, true, false, false, false, false, false, false, false, false, false, false, false, false, false, false, false, false, false, false, false, false, false, false, false, false, false, false, false, false, false, false, false, false, false, false, false, false]) rfl rfl rfl (by kernel_rfl) rfl (V.move rfl) rfl rfl ?_
          refine XQ.splitT (d := 204) rfl (by first | omega | (simp; done) | (simp; omega)) ?_
          refine XQ.pvG (i := 18) (l' := #[true, true, true, true, true, true, true, true, true, true, true, true, true, true, true, true, true, true, true, false, false, false, false, false, false, false, false, false, false, false, false, false, false, false, false, false, false, false, false, false, false, false, false, false, false, false, false, false, false, false, false, false, false, false]) rfl rfl rfl (by kernel_rfl) rfl (V.move rfl) rfl rfl ?_
          refine XQ.pvG (i := 19) (l' := #[true, true, true, true, true, true, true, true, true, true, true, true, true, true, true, true, true, true, true, true, false, false, false, false, false, false, false, false, false, false, false, false, false, false, false, false, false, false, false, false, false, false, false, false, false, false, false, false, false, false, false, false, false, false]) rfl rfl rfl (by kernel_rfl) rfl (V.move rfl) rfl rfl ?_
          refine XQ.pvG (i := 20) (l' := #[true, true, true, true, true, true, true, true, true, true, true, true, true, true, true, true, true, true, true, true, true, false, false, false, false, false, false, false, false, false, false, false, false, false, false, false, false, false, false, false, false, false, false, false, false, false, false, false, false, false, false, false, false, false]) rfl rfl rfl (by kernel_rfl) rfl (V.fieldAddr rfl fo_39_1) rfl rfl ?_
          refine XQ.loadG (i := 21) (l' := #[true, true, true, true, true, true, true, true, true, true, true, true, true, true, true, true, true, true, true, true, true, true, false, false, false, false, false, false, false, false, false, false, false, false, false, false, false, false, false, false, false, false, false, false, false, false, false, false, false, false, false, false, false, false]) (.cells _ _ _ _) [] rfl rfl rfl (by kernel_rfl) rfl (.there (.there .here)) (V.load rfl inEnt (encAct.ld_A _) sc_3) rfl (by kernel_rfl) rfl ?_
          refine XQ.pvG (i := 22) (l' := #[true, true, true, true, true, true, true, true, true, true, true, true, true, true, true, true, true, true, true, true, true, true, true, false, false, false, false, false, false, false, false, false, false, false, false, false, false, false, false, false, false, false, false, false, false, false, false, false, false, false, false, false, false, false]) rfl rfl rfl (by kernel_rfl) rfl (V.nilCheckP rfl) rfl rfl ?_
          refine XQ.pvG (i := 23) (l' := #[true, true, true, true, true, true, true, true, true, true, true, true, true, true, true, true, true, true, true, true, true, true, true, true, false, false, false, false, false, false, false, false, false, false, false, false, false, false, false, false, false, false, false, false, false, false, false, false, false, false, false, false, false, false]) rfl rfl rfl (by kernel_rfl) rfl (V.fieldAddr rfl fo_36_0) rfl rfl ?_
          refine XQ.pvG (i := 24) (l' := #[true, true, true, true, true, true, true, true, true, true, true, true, true, true, true, true, true, true, true, true, true, true, true, true, true, false, false, false, false, false, false, false, false, false, false, false, false, false, false, false, false, false, false, false, false, false, false, false, false, false, false, false, false, false]) rfl rfl rfl (by kernel_rfl) rfl (V.indexArr rfl rfl ar_32 (by omega)) rfl rfl ?_
          refine XQ.loadG (i := 25) (l' := #[true, true, true, true, true, true, true, true, true, true, true, true, true, true, true, true, true, true, true, true, true, true, true, true, true, true, false, false, false, false, false, false, false, false, false, false, false, false, false, false, false, false, false, false, false, false, false, false, false, false, false, false, false, false]) (.cells _ _ _ _) [] rfl rfl rfl (by kernel_rfl) rfl .here (V.load rfl inEnt (encR.ld_B_I _ _ (by omega)) sc_9) rfl (by kernel_rfl) rfl ?_
          refine XQ.pvG (i := 26) (l' := #[true, true, true, true, true, true, true, true, true, true, true, true, true, true, true, true, true, true, true, true, true, true, true, true, true, true, true, false, false, false, false, false, false, false, false, false, false, false, false, false, false, false, false, false, false, false, false, false, false, false, false, false, false, false]) rfl rfl rfl (by kernel_rfl) rfl (V.lenStr rfl Try.underlying9) rfl rfl ?_
          refine XQ.pvG (i := 27) (l' := #[true, true, true, true, true, true, true, true, true, true, true, true, true, true, true, true, true, true, true, true, true, true, true, true, true, true, true, true, false, false, false, false, false, false, false, false, false, false, false, false, false, false, false, false, false, false, false, false, false, false, false, false, false, false]) rfl rfl rfl (by kernel_rfl) rfl (V.cmp rfl rfl rfl) rfl rfl ?_
          refine XQ.pvG (i := 28) (l' := #[true, true, true, true, true, true, true, true, true, true, true, true, true, true, true, true, true, true, true, true, true, true, true, true, true, true, true, true, true, false, false, false, false, false, false, false, false, false, false, false, false, false, false, false, false, false, false, false, false, false, false, false, false, false]) rfl rfl rfl (by kernel_rfl) rfl (V.move rfl) rfl rfl ?_
          refine XQ.splitF (d := 215) rfl (by first | omega | (simp; done) | (simp; omega)) ?_
          refine XQ.pvG (i := 29) (l' := #[true, true, true, true, true, true, true, true, true, true, true, true, true, true, true, true, true, true, true, true, true, true, true, true, true, true, true, true, true, true, false, false, false, false, false, false, false, false, false, false, false, false, false, false, false, false, false, false, false, false, false, false, false, false]) rfl rfl rfl (by kernel_rfl) rfl (V.move rfl) rfl rfl ?_
          refine XQ.pvG (i := 30) (l' := #[true, true, true, true, true, true, true, true, true, true, true, true, true, true, true, true, true, true, true, true, true, true, true, true, true, true, true, true, true, true, true, false, false, false, false, false, false, false, false, false, false, false, false, false, false, false, false, false, false, false, false, false, false, false]) rfl rfl rfl (by kernel_rfl) rfl (V.move rfl) rfl rfl ?_
          refine XQ.pvG (i := 31) (l' := #[true, true, true, true, true, true, true, true, true, true, true, true, true, true, true, true, true, true, true, true, true, true, true, true, true, true, true, true, true, true, true, true, false, false, false, false, false, false, false, false, false, false, false, false, false, false, false, false, false, false, false, false, false, false]) rfl rfl rfl (by kernel_rfl) rfl (V.fieldAddr rfl fo_39_1) rfl rfl ?_
          refine XQ.loadG (i := 32) (l' := #[true, true, true, true, true, true, true, true, true, true, true, true, true, true, true, true, true, true, true, true, true, true, true, true, true, true, true, true, true, true, true, true, true, false, false, false, false, false, false, false, false, false, false, false, false, false, false, false, false, false, false, false, false, false]) (.cells _ _ _ _) [] rfl rfl rfl (by kernel_rfl) rfl (.there (.there .here)) (V.load rfl inEnt (encAct.ld_A _) sc_3) rfl (by kernel_rfl) rfl ?_
          refine XQ.pvG (i := 33) (l' := #[true, true, true, true, true, true, true, true, true, true, true, true, true, true, true, true, true, true, true, true, true, true, true, true, true, true, true, true, true, true, true, true, true, true, false, false, false, false, false, false, false, false, false, false, false, false, false, false, false, false, false, false, false, false]) rfl rfl rfl (by kernel_rfl) rfl (V.nilCheckP rfl) rfl rfl ?_
          refine XQ.pvG (i := 34) (l' := #[true, true, true, true, true, true, true, true, true, true, true, true, true, true, true, true, true, true, true, true, true, true, true, true, true, true, true, true, true, true, true, true, true, true, true, false, false, false, false, false, false, false, false, false, false, false, false, false, false, false, false, false, false, false]) rfl rfl rfl (by kernel_rfl) rfl (V.fieldAddr rfl fo_36_1) rfl rfl ?_
          refine XQ.pvG (i := 35) (l' := #[true, true, true, true, true, true, true, true, true, true, true, true, true, true, true, true, true, true, true, true, true, true, true, true, true, true, true, true, true, true, true, true, true, true, true, true, false, false, false, false, false, false, false, false, false, false, false, false, false, false, false, false, false, false]) rfl rfl rfl (by kernel_rfl) rfl (V.indexArr rfl rfl ar_34 (by omega)) rfl rfl ?_
          refine XQ.pvG (i := 36) (l' := #[true, true, true, true, true, true, true, true, true, true, true, true, true, true, true, true, true, true, true, true, true, true, true, true, true, true, true, true, true, true, true, true, true, true, true, true, true, false, false, false, false, false, false, false, false, false, false, false, false, false, false, false, false, false]) rfl rfl rfl (by kernel_rfl) rfl (V.indexArr rfl rfl ar_33 (by omega)) rfl rfl ?_
          refine XQ.loadG (i := 37) (l' := #[true, true, true, true, true, true, true, true, true, true, true, true, true, true, true, true, true, true, true, true, true, true, true, true, true, true, true, true, true, true, true, true, true, true, true, true, true, true, false, false, false, false, false, false, false, false, false, false, false, false, false, false, false, false]) (.cells _ _ _ _) [] rfl rfl rfl (by kernel_rfl) rfl .here (V.load rfl inEnt (encR.ld_Ends_I_I _ _ _ (by omega) (by omega)) sc_3) rfl (by kernel_rfl) rfl ?_
          refine XQ.pvG (i := 38) (l' := #[true, true, true, true, true, true, true, true, true, true, true, true, true, true, true, true, true, true, true, true, true, true, true, true, true, true, true, true, true, true, true, true, true, true, true, true, true, true, true, false, false, false, false, false, false, false, false, false, false, false, false, false, false, false]) rfl rfl rfl (by kernel_rfl) rfl (V.cmp rfl rfl rfl) rfl rfl ?_
          refine XQ.pvG (i := 39) (l' := #[true, true, true, true, true, true, true, true, true, true, true, true, true, true, true, true, true, true, true, true, true, true, true, true, true, true, true, true, true, true, true, true, true, true, true, true, true, true, true, true, false, false, false, false, false, false, false, false, false, false, false, false, false, false]) rfl rfl rfl (by kernel_rfl) rfl (V.pick rfl rfl rfl rfl) rfl rfl ?_
          refine XQ.pvG (i := 40) (l' := #[true, true, true, true, true, true, true, true, true, true, true, true, true, true, true, true, true, true, true, true, true, true, true, true, true, true, true, true, true, true, true, true, true, true, true, true, true, true, true, true, true, false, false, false, false, false, false, false, false, false, false, false, false, false]) rfl rfl rfl (by kernel_rfl) rfl (V.move rfl) rfl rfl ?_
          refine XQ.splitF (d := 227) rfl (by first | omega | (simp; done) | (simp; omega)) ?_
          refine XQ.pvG (i := 41) (l' := #[true, true, true, true, true, true, true, true, true, true, true, true, true, true, true, true, true, true, true, true, true, true, true, true, true, true, true, true, true, true, true, true, true, true, true, true, true, true, true, true, true, true, false, false, false, false, false, false, false, false, false, false, false, false]) rfl rfl rfl (by kernel_rfl) rfl (V.move rfl) rfl rfl ?_
          refine XQ.pvG (i := 42) (l' := #[true, true, true, true, true, true, true, true, true, true, true, true, true, true, true, true, true, true, true, true, true, true, true, true, true, true, true, true, true, true, true, true, true, true, true, true, true, true, true, true, true, true, true, false, false, false, false, false, false, false, false, false, false, false]) rfl rfl rfl (by kernel_rfl) rfl (V.move rfl) rfl rfl ?_
          refine XQ.pvG (i := 43) (l' := #[true, true, true, true, true, true, true, true, true, true, true, true, true, true, true, true, true, true, true, true, true, true, true, true, true, true, true, true, true, true, true, true, true, true, true, true, true, true, true, true, true, true, true, true, false, false, false, false, false, false, false, false, false, false]) rfl rfl rfl (by kernel_rfl) rfl (V.fieldAddr rfl fo_39_1) rfl rfl ?_
          refine XQ.loadG (i := 44) (l' := #[true, true, true, true, true, true, true, true, true, true, true, true, true, true, true, true, true, true, true, true, true, true, true, true, true, true, true, true, true, true, true, true, true, true, true, true, true, true, true, true, true, true, true, true, true, false, false, false, false, false, false, false, false, false]) (.cells _ _ _ _) [] rfl rfl rfl (by kernel_rfl) rfl (.there (.there .here)) (V.load rfl inEnt (encAct.ld_A _) sc_3) rfl (by kernel_rfl) rfl ?_
          refine XQ.pvG (i := 45) (l' := #[true, true, true, true, true, true, true, true, true, true, true, true, true, true, true, true, true, true, true, true, true, true, true, true, true, true, true, true, true, true, true, true, true, true, true, true, true, true, true, true, true, true, true, true, true, true, false, false, false, false, false, false, false, false]) rfl rfl rfl (by kernel_rfl) rfl (V.nilCheckP rfl) rfl rfl ?_
          refine XQ.pvG (i := 46) (l' := #[true, true, true, true, true, true, true, true, true, true, true, true, true, true, true, true, true, true, true, true, true, true, true, true, true, true, true, true, true, true, true, true, true, true, true, true, true, true, true, true, true, true, true, true, true, true, true, false, false, false, false, false, false, false]) rfl rfl rfl (by kernel_rfl) rfl (V.fieldAddr rfl fo_36_1) rfl rfl ?_
          refine XQ.pvG (i := 47) (l' := #[true, true, true, true, true, true, true, true, true, true, true, true, true, true, true, true, true, true, true, true, true, true, true, true, true, true, true, true, true, true, true, true, true, true, true, true, true, true, true, true, true, true, true, true, true, true, true, true, false, false, false, false, false, false]) rfl rfl rfl (by kernel_rfl) rfl (V.indexArr rfl rfl ar_34 (by omega)) rfl rfl ?_
          refine XQ.pvG (i := 48) (l' := #[true, true, true, true, true, true, true, true, true, true, true, true, true, true, true, true, true, true, true, true, true, true, true, true, true, true, true, true, true, true, true, true, true, true, true, true, true, true, true, true, true, true, true, true, true, true, true, true, true, false, false, false, false, false]) rfl rfl rfl (by kernel_rfl) rfl (V.indexArr rfl rfl ar_33 (by omega)) rfl rfl ?_
          refine XQ.loadG (i := 49) (l' := #[true, true, true, true, true, true, true, true, true, true, true, true, true, true, true, true, true, true, true, true, true, true, true, true, true, true, true, true, true, true, true, true, true, true, true, true, true, true, true, true, true, true, true, true, true, true, true, true, true, true, false, false, false, false]) (.cells _ _ _ _) [] rfl rfl rfl (by kernel_rfl) rfl .here (V.load rfl inEnt (encR.ld_Ends_I_I _ _ _ (by omega) (by omega)) sc_3) rfl (by kernel_rfl) rfl ?_
          refine XQ.pvG (i := 50) (l' := #[true, true, true, true, true, true, true, true, true, true, true, true, true, true, true, true, true, true, true, true, true, true, true, true, true, true, true, true, true, true, true, true, true, true, true, true, true, true, true, true, true, true, true, true, true, true, true, true, true, true, true, false, false, false]) rfl rfl rfl (by kernel_rfl) rfl (V.cmp rfl rfl rfl) rfl rfl ?_
          refine XQ.pvG (i := 51) (l' := #[true, true, true, true, true, true, true, true, true, true, true, true, true, true, true, true, true, true, true, true, true, true, true, true, true, true, true, true, true, true, true, true, true, true, true, true, true, true, true, true, true, true, true, true, true, true, true, true, true, true, true, true, false, false]) rfl rfl rfl (by kernel_rfl) rfl (V.pick rfl rfl rfl rfl) rfl rfl ?_
          refine XQ.pvG (i := 52) (l' := #[true, true, true, true, true, true, true, true, true, true, true, true, true, true, true, true, true, true, true, true, true, true, true, true, true, true, true, true, true, true, true, true, true, true, true, true, true, true, true, true, true, true, true, true, true, true, true, true, true, true, true, true, true, false]) rfl rfl rfl (by kernel_rfl) rfl (V.pick rfl rfl rfl rfl) rfl rfl ?_
          refine XQ.pv (i := 53) (l' := #[true, true, true, true, true, true, true, true, true, true, true, true, true, true, true, true, true, true, true, true, true, true, true, true, true, true, true, true, true, true, true, true, true, true, true, true, true, true, true, true, true, true, true, true, true, true, true, true, true, true, true, true, true, true]) rfl (by kernel_rfl) rfl (V.pick rfl rfl rfl rfl) rfl rfl ?_
          refine XQ.done (by kernel_rfl) ?_
          refine XE.next ?_
          refine XC.keep [(0, _), (4, _), (5, _), (6, _), (240, _)] (Sub.cons rfl (Sub.cons rfl (Sub.cons rfl (Sub.cons rfl (Sub.cons rfl (Sub.nil _)))))) ?_
          refine XC.condFP rfl (by simp) ?_
          refine XC.skip ?_
          refine XE.blockNormal ?_
          refine XE.next ?_
          refine XC.keep [(0, _), (4, _), (5, _), (6, _)] (Sub.cons rfl (Sub.cons rfl (Sub.cons rfl (Sub.cons rfl (Sub.nil _))))) ?_
          refine XC.region ?_
          refine XO.v (V.move rfl) rfl ?_
          refine XO.v (V.add rfl rfl _ (IntWalk.i64_in _ (by omega))) rfl ?_
          refine XO.v (V.assign rfl) rfl ?_
          refine XO.nil ?_
          refine XE.again ((y, x.2 + 1)) ?_ ?_ (Sub.cons rfl (Sub.cons rfl (Sub.cons rfl (Sub.cons rfl (Sub.nil _))))) (fun _ hw => XM.pick (.cons (.there .here) (.cons .here (.cons (.there .here) .nil))) hw)
          · skip
            (simp; omega)
          · skip
            exact ⟨hy, by simp; omega, by simp; omega⟩
        · skip
          have ha := h11
          refine XO.v (V.move rfl) rfl ?_
          refine XO.v (V.extract rfl rfl) rfl ?_
          refine XO.v (V.extract rfl rfl) rfl ?_
          refine XO.v (V.extract rfl rfl) rfl ?_
          refine XO.v (V.extract rfl rfl) rfl ?_
          refine XO.v (V.assign rfl) rfl ?_
          refine XO.v (V.assign rfl) rfl ?_
          refine XO.v (V.assign rfl) rfl ?_
          refine XO.v (V.assign rfl) rfl ?_
          refine XO.nil ?_
          refine XE.next ?_
          refine XC.keep [(0, _), (4, _), (5, _), (6, _), (7, _), (8, _), (21, _), (22, _), (23, _), (24, _)] (Sub.cons rfl (Sub.cons rfl (Sub.cons rfl (Sub.cons rfl (Sub.cons rfl (Sub.cons rfl (Sub.cons rfl (Sub.cons rfl (Sub.cons rfl (Sub.cons rfl (Sub.nil _))))))))))) ?_
          refine XC.seq ?_
          refine XC.region ?_
          refine XO.v (V.move rfl) rfl ?_
          refine XO.v (V.fieldAddr rfl fo_39_1) rfl ?_
          refine XO.v (V.load rfl (inXM (.there (.there .here))) (encAct.ld_A _) sc_3) rfl ?_
          refine XO.call rfl (r_Is _ _ (x.2 + 1) (by omega) _ hy _) (.cons (.there .here) .nil) cl_23 rfl ?_
          rintro _ _ ⟨⟨rfl, h18⟩, rfl⟩
          refine XO.v (V.assign rfl) rfl ?_
          refine XO.nil ?_
          refine XE.next ?_
          refine XC.keep [(0, _), (4, _), (5, _), (6, _), (7, _), (8, _), (21, _), (22, _), (23, _), (24, _), (25, _)] (Sub.cons rfl (Sub.cons rfl (Sub.cons rfl (Sub.cons rfl (Sub.cons rfl (Sub.cons rfl (Sub.cons rfl (Sub.cons rfl (Sub.cons rfl (Sub.cons rfl (Sub.cons rfl (Sub.nil _)))))))))))) ?_
          refine XC.seq ?_
          refine XC.seq ?_
          refine XC.region ?_
          refine XO.v (V.move rfl) rfl ?_
          refine XO.v (V.not rfl) rfl ?_
          refine XO.v (V.move rfl) rfl ?_
          refine XO.guardRun rfl rfl rfl ?_
          refine XO.v (V.move rfl) rfl ?_
          refine XO.guardRun rfl rfl rfl ?_
          refine XO.v (V.move rfl) rfl ?_
          refine XO.guardRun rfl rfl rfl ?_
          refine XO.call rfl (same_any _ _ (PS.is_nn _ _)) .nil cl_14 rfl ?_
          rintro _ _ ⟨rfl, rfl⟩
          refine XO.guardRun rfl rfl rfl ?_
          refine XO.v (V.notP rfl) rfl ?_
          refine XO.v (V.pick rfl rfl rfl rfl) rfl ?_
          refine XO.v (V.move rfl) rfl ?_
          refine XO.splitF (d := 180) rfl (by first | omega | (simp; done) | (simp; omega)) ?_
          refine XO.guardRun rfl rfl rfl ?_
          refine XO.v (V.move rfl) rfl ?_
          refine XO.guardRun rfl rfl rfl ?_
          refine XO.call rfl (p_Pipes _ _ (x.2 + 1) (by omega) _ hy) (.cons (.there .here) .nil) cl_24 rfl ?_
          rintro _ _ ⟨rfl, rfl⟩
          refine XO.guardRun rfl rfl rfl ?_
          refine XO.v (V.move rfl) rfl ?_
          refine XO.guardRun rfl rfl rfl ?_
          refine XO.call rfl (r_Pipes _ _ (x.2 + 1) (by omega) _ hy) (.cons (.there .here) .nil) cl_25 rfl ?_
          rintro _ _ ⟨rfl, rfl⟩
          refine XO.guardRun rfl rfl rfl ?_
          refine XO.v (V.cmp rfl rfl rfl) rfl ?_
          refine XO.v (V.pick rfl rfl rfl rfl) rfl ?_
          refine XO.nil ?_
          refine XE.next ?_
          refine XC.keep [(0, _), (4, _), (5, _), (6, _), (7, _), (21, _), (22, _), (23, _), (25, _), (186, _)] (Sub.cons rfl (Sub.cons rfl (Sub.cons rfl (Sub.cons rfl (Sub.cons rfl (Sub.cons rfl (Sub.cons rfl (Sub.cons rfl (Sub.cons rfl (Sub.cons rfl (Sub.nil _))))))))))) ?_
          refine XC.condFP rfl (by simp) ?_
          refine XC.skip ?_
          refine XE.next ?_
          refine XC.keep [(0, _), (4, _), (5, _), (6, _), (7, _), (21, _), (22, _), (23, _), (25, _)] (Sub.cons rfl (Sub.cons rfl (Sub.cons rfl (Sub.cons rfl (Sub.cons rfl (Sub.cons rfl (Sub.cons rfl (Sub.cons rfl (Sub.cons rfl (Sub.nil _)))))))))) ?_
          refine XC.seq ?_
          refine XC.regionQ mixed (f := 54) (l := #[false, false, false, false, false, false, false, false, false, false, false, false, false, false, false, false, false, false, false, false, false, false, false, false, false, false, false, false, false, false, false, false, false, false, false, false, false, false, false, false, false, false, false, false, false, false, false, false, false, false, false, false, false, false]) rfl rfl XM.drawn' ?_
          refine XQ.pv (i := 0) (l' := #[true, false, false, false, false, false, false, false, false, false, false, false, false, false, false, false, false, false, false, false, false, false, false, false, false, false, false, false, false, false, false, false, false, false, false, false, false, false, false, false, false, false, false, false, false, false, false, false, false, false, false, false, false, false]) rfl (by kernel_rfl) rfl (V.move rfl) rfl rfl ?_
          refine XQ.pv (i := 1) (l' := #[true, true, false, false, false, false, false, false, false, false, false, false, false, false, false, false, false, false, false, false, false, false, false, false, false, false, false, false, false, false, false, false, false, false, false, false, false, false, false, false, false, false, false, false, false, false, false, false, false, false, false, false, false, false]) rfl (by kernel_rfl) rfl (V.cmp rfl rfl rfl) rfl rfl ?_
          refine XQ.pv (i := 2) (l' := #[true, true, true, false, false, false, false, false, false, false, false, false, false, false, false, false, false, false, false, false, false, false, false, false, false, false, false, false, false, false, false, false, false, false, false, false, false, false, false, false, false, false, false, false, false, false, false, false, false, false, false, false, false, false]) rfl (by kernel_rfl) rfl (V.move rfl) rfl rfl ?_
          refine XQ.splitT (d := 189) rfl (by first | omega | (simp; done) | (simp; omega)) ?_
          refine XQ.pvG (i := 3) (l' := #[true, true, true, true, false, false, false, false, false, false, false, false, false, false, false, false, false, false, false, false, false, false, false, false, false, false, false, false, false, false, false, false, false, false, false, false, false, false, false, false, false, false, false, false, false, false, false, false, false, false, false, false, false, false]) rfl rfl rfl (by kernel_rfl) rfl (V.move rfl) rfl rfl ?_
          refine XQ.pvG (i := 4) (l' := #[true, true, true, true, true, false, false, false, false, false, false, false, false, false, false, false, false, false, false, false, false, false, false, false, false, false, false, false, false, false, false, false, false, false, false, false, false, false, false, false, false, false, false, false, false, false, false, false, false, false, false, false, false, false]) rfl rfl rfl (by kernel_rfl) rfl (V.cmp rfl rfl rfl) rfl rfl ?_
          refine XQ.pvG (i := 5) (l' := #[true, true, true, true, true, true, false, false, false, false, false, false, false, false, false, false, false, false, false, false, false, false, false, false, false, false, false, false, false, false, false, false, false, false, false, false, false, false, false, false, false, false, false, false, false, false, false, false, false, false, false, false, false, false]) rfl rfl rfl (by kernel_rfl) rfl (V.move rfl) rfl rfl ?_
          refine XQ.splitF (d := 192) rfl (by first | omega | (simp; done) | (simp; omega)) ?_
          refine XQ.pvG (i := 6) (l' := #[true, true, true, true, true, true, true, false, false, false, false, false, false, false, false, false, false, false, false, false, false, false, false, false, false, false, false, false, false, false, false, false, false, false, false, false, false, false, false, false, false, false, false, false, false, false, false, false, false, false, false, false, false, false]) rfl rfl rfl (by kernel_rfl) rfl (V.move rfl) rfl rfl ?_
          refine XQ.pvG (i := 7) (l' := #[true, true, true, true, true, true, true, true, false, false, false, false, false, false, false, false, false, false, false, false, false, false, false, false, false, false, false, false, false, false, false, false, false, false, false, false, false, false, false, false, false, false, false, false, false, false, false, false, false, false, false, false, false, false]) rfl rfl rfl (by kernel_rfl) rfl (V.cmp rfl rfl rfl) rfl rfl ?_
          refine XQ.pvG (i := 8) (l' := #[true, true, true, true, true, true, true, true, true, false, false, false, false, false, false, false, false, false, false, false, false, false, false, false, false, false, false, false, false, false, false, false, false, false, false, false, false, false, false, false, false, false, false, false, false, false, false, false, false, false, false, false, false, false]) rfl rfl rfl (by kernel_rfl) rfl (V.pick rfl rfl rfl rfl) rfl rfl ?_
          refine XQ.pvG (i := 9) (l' := #[true, true, true, true, true, true, true, true, true, true, false, false, false, false, false, false, false, false, false, false, false, false, false, false, false, false, false, false, false, false, false, false, false, false, false, false, false, false, false, false, false, false, false, false, false, false, false, false, false, false, false, false, false, false]) rfl rfl rfl (by kernel_rfl) rfl (V.move rfl) rfl rfl ?_
          refine XQ.splitF (d := 196) rfl (by first | omega | (simp; done) | (simp; omega)) ?_
          refine XQ.pvG (i := 10) (l' := #[true, true, true, true, true, true, true, true, true, true, true, false, false, false, false, false, false, false, false, false, false, false, false, false, false, false, false, false, false, false, false, false, false, false, false, false, false, false, false, false, false, false, false, false, false, false, false, false, false, false, false, false, false, false]) rfl rfl rfl (by kernel_rfl) rfl (V.move rfl) rfl rfl ?_
          refine XQ.pvG (i := 11) (l' := #[true, true, true, true, true, true, true, true, true, true, true, true, false, false, false, false, false, false, false, false, false, false, false, false, false, false, false, false, false, false, false, false, false, false, false, false, false, false, false, false, false, false, false, false, false, false, false, false, false, false, false, false, false, false]) rfl rfl rfl (by kernel_rfl) rfl (V.cmp rfl rfl rfl) rfl rfl ?_
          refine XQ.pvG (i := 12) (l' := #[true, true, true, true, true, true, true, true, true, true, true, true, true, false, false, false, false, false, false, false, false, false, false, false, false, false, false, false, false, false, false, false, false, false, false, false, false, false, false, false, false, false, false, false, false, false, false, false, false, false, false, false, false, false]) rfl rfl rfl (by kernel_rfl) rfl (V.pick rfl rfl rfl rfl) rfl rfl ?_
          refine XQ.pv (i := 13) (l' := #[true, true, true, true, true, true, true, true, true, true, true, true, true, true, false, false, false, false, false, false, false, false, false, false, false, false, false, false, false, false, false, false, false, false, false, false, false, false, false, false, false, false, false, false, false, false, false, false, false, false, false, false, false, false]) rfl (by kernel_rfl) rfl (V.pick rfl rfl rfl rfl) rfl rfl ?_
          refine XQ.pv (i := 14) (l' := #[true, true, true, true, true, true, true, true, true, true, true, true, true, true, true, false, false, false, false, false, false, false, false, false, false, false, false, false, false, false, false, false, false, false, false, false, false, false, false, false, false, false, false, false, false, false, false, false, false, false, false, false, false, false]) rfl (by kernel_rfl) rfl (V.move rfl) rfl rfl ?_
          refine XQ.splitF (d := 201) rfl (by first | omega | (simp; done) | (simp; omega)) ?_
          refine XQ.pvG (i := 15) (l' := #[true, true, true, true, true, true, true, true, true, true, true, true, true, true, true, true, false, false, false, false, false, false, false, false, false, false, false, false, false, false, false, false, false, false, false, false, false, false, false, false, false, false, false, false, false, false, false, false, false, false, false, false, false, false]) rfl rfl rfl (by kernel_rfl) rfl (V.move rfl) rfl rfl ?_
          refine XQ.pvG (i := 16) (l' := #[true, true, true, true, true, true, true, true, true, true, true, true, true, true, true, true, true, false, false, false, false, false, false, false, false, false, false, false, false, false, false, false, false, false, false, false, false, false, false, false, false, false, false, false, false, false, false, false, false, false, false, false, false, false]) rfl rfl rfl (by kernel_rfl) rfl (V.cmp rfl rfl rfl) rfl rfl ?_
          refine XQ.pvG (i := 17) (l' := #[true, true, true, true, true, true, true, true, true, true, true, true, true, true, true, true, true, true, false, false, false, false, false, false, false, false, false, false, false, false, false, false, false, false, false, false, false, false, false, false, false, false, false, false, false, false, false, false, false, false, false, false, false, false]) rfl rfl rfl (by kernel_rfl) rfl (V.move rfl) rfl rfl ?_
          refine XQ.splitF (d := 204) rfl (by first | omega | (simp; done) | (simp; omega)) ?_
          refine XQ.skip (i := 18) (l' := #[true, true, true, true, true, true, true, true, true, true, true, true, true, true, true, true, true, true, true, false, false, false, false, false, false, false, false, false, false, false, false, false, false, false, false, false, false, false, false, false, false, false, false, false, false, false, false, false, false, false, false, false, false, false]) rfl rfl rfl rfl rfl (by kernel_rfl) rfl rfl rfl ?_
          refine XQ.skip (i := 19) (l' := #[true, true, true, true, true, true, true, true, true, true, true, true, true, true, true, true, true, true, true, true, false, false, false, false, false, false, false, false, false, false, false, false, false, false, false, false, false, false, false, false, false, false, false, false, false, false, false, false, false, false, false, false, false, false]) rfl rfl rfl rfl rfl (by kernel_rfl) rfl rfl rfl ?_
          refine XQ.skip (i := 20) (l' := #[true, true, true, true, true, true, true, true, true, true, true, true, true, true, true, true, true, true, true, true, true, false, false, false, false, false, false, false, false, false, false, false, false, false, false, false, false, false, false, false, false, false, false, false, false, false, false, false, false, false, false, false, false, false]) rfl rfl rfl rfl rfl (by kernel_rfl) rfl rfl rfl ?_
          refine XQ.skip (i := 21) (l' := #[true, true, true, true, true, true, true, true, true, true, true, true, true, true, true, true, true, true, true, true, true, true, false, false, false, false, false, false, false, false, false, false, false, false, false, false, false, false, false, false, false, false, false, false, false, false, false, false, false, false, false, false, false, false]) rfl rfl rfl rfl rfl (by kernel_rfl) rfl rfl rfl ?_
          refine XQ.skip (i := 22) (l' := #[true, true, true, true, true, true, true, true, true, true, true, true, true, true, true, true, true, true, true, true, true, true, true, false, false, false, false, false, false, false, false, false, false, false, false, false, false, false, false, false, false, false, false, false, false, false, false, false, false, false, false, false, false, false]) rfl rfl rfl rfl rfl (by kernel_rfl) rfl rfl rfl ?_
          refine XQ.skip (i := 23) (l' := #[true, true, true, true, true, true, true, true, true, true, true, true, true, true, true, true, true, true, true, true, true, true, true, true, false, false, false, false, false, false, false, false, false, false, false, false, false, false, false, false, false, false, false, false, false, false, false, false, false, false, false, false, false, false]) rfl rfl rfl rfl rfl (by kernel_rfl) rfl rfl rfl ?_
          refine XQ.skip (i := 24) (l' := #[true, true, true, true, true, true, true, true, true, true, true, true, true, true, true, true, true, true, true, true, true, true, true, true, true, false, false, false, false, false, false, false, false, false, false, false, false, false, false, false, false, false, false, false, false, false, false, false, false, false, false, false, false, false]) rfl rfl rfl rfl rfl (by kernel_rfl) rfl rfl rfl ?_
          refine XQ.skip (i := 25) (l' := #[true, true, true, true, true, true, true, true, true, true, true, true, true, true, true, true, true, true, true, true, true, true, true, true, true, true, false, false, false, false, false, false, false, false, false, false, false, false, false, false, false, false, false, false, false, false, false, false, false, false, false, false, false, false]) rfl rfl rfl rfl rfl (by kernel_rfl) rfl rfl rfl ?_
          refine XQ.skip (i := 26) (l' := #[true, true, true, true, true, true, true, true, true, true, true, true, true, true, true, true, true, true, true, true, true, true, true, true, true, true, true, false, false, false, false, false, false, false, false, false, false, false, false, false, false, false, false, false, false, false, false, false, false, false, false, false, false, false]) rfl rfl rfl rfl rfl (by kernel_rfl) rfl rfl rfl ?_
          refine XQ.skip (i := 27) (l' := #[true, true, true, true, true, true, true, true, true, true, true, true, true, true, true, true, true, true, true, true, true, true, true, true, true, true, true, true, false, false, false, false, false, false, false, false, false, false, false, false, false, false, false, false, false, false, false, false, false, false, false, false, false, false]) rfl rfl rfl rfl rfl (by kernel_rfl) rfl rfl rfl ?_
          refine XQ.skip (i := 28) (l' := #[true, true, true, true, true, true, true, true, true, true, true, true, true, true, true, true, true, true, true, true, true, true, true, true, true, true, true, true, true, false, false, false, false, false, false, false, false, false, false, false, false, false, false, false, false, false, false, false, false, false, false, false, false, false]) rfl rfl rfl rfl rfl (by kernel_rfl) rfl rfl rfl ?_
          refine XQ.skipU (i := 29) (l' := #[true, true, true, true, true, true, true, true, true, true, true, true, true, true, true, true, true, true, true, true, true, true, true, true, true, true, true, true, true, true, false, false, false, false, false, false, false, false, false, false, false, false, false, false, false, false, false, false, false, false, false, false, false, false]) rfl rfl rfl rfl rfl (by kernel_rfl) rfl rfl rfl ?_
          refine XQ.skipU (i := 30) (l' := #[true, true, true, true, true, true, true, true, true, true, true, true, true, true, true, true, true, true, true, true, true, true, true, true, true, true, true, true, true, true, true, false, false, false, false, false, false, false, false, false, false, false, false, false, false, false, false, false, false, false, false, false, false, false]) rfl rfl rfl rfl rfl (by kernel_rfl) rfl rfl rfl ?_
          refine XQ.skipU (i := 31) (l' := #[true, true, true, true, true, true, true, true, true, true, true, true, true, true, true, true, true, true, true, true, true, true, true, true, true, true, true, true, true, true, true, true, false, false, false, false, false, false, false, false, false, false, false, false, false, false, false, false, false, false, false, false, false, false]) rfl rfl rfl rfl rfl (by kernel_rfl) rfl rfl rfl ?_
          refine XQ.skipU (i := 32) (l' := #[true, true, true, true, true, true, true, true, true, true, true, true, true, true, true, true, true, true, true, true, true, true, true, true, true, true, true, true, true, true, true, true, true, false, false, false, false, false, false, false, false, false, false, false, false, false, false, false, false, false, false, false, false, false]) rfl rfl rfl rfl rfl (by kernel_rfl) rfl rfl rfl ?_
          refine XQ.skipU (i := 33) (l' := #[true, true, true, true, true, true, true, true, true, true, true, true, true, true, true, true, true, true, true, true, true, true, true, true, true, true, true, true, true, true, true, true, true, true, false, false, false, false, false, false, false, false, false, false, false, false, false, false, false, false, false, false, false, false]) rfl rfl rfl rfl rfl (by kernel_rfl) rfl rfl rfl ?_
          refine XQ.skipU (i := 34) (l' := #[true, true, true, true, true, true, true, true, true, true, true, true, true, true, true, true, true, true, true, true, true, true, true, true, true, true, true, true, true, true, true, true, true, true, true, false, false, false, false, false, false, false, false, false, false, false, false, false, false, false, false, false, false, false]) rfl rfl rfl rfl rfl (by kernel_rfl) rfl rfl rfl ?_
          refine XQ.skipU (i := 35) (l' := #[true, true, true, true, true, true, true, true, true, true, true, true, true, true, true, true, true, true, true, true, true, true, true, true, true, true, true, true, true, true, true, true, true, true, true, true, false, false, false, false, false, false, false, false, false, false, false, false, false, false, false, false, false, false]) rfl rfl rfl rfl rfl (by kernel_rfl) rfl rfl rfl ?_
          refine XQ.skipU (i := 36) (l' := #[true, true, true, true, true, true, true, true, true, true, true, true, true, true, true, true, true, true, true, true, true, true, true, true, true, true, true, true, true, true, true, true, true, true, true, true, true, false, false, false, false, false, false, false, false, false, false, false, false, false, false, false, false, false]) rfl rfl rfl rfl rfl (by kernel_rfl) rfl rfl rfl ?_
          refine XQ.skipU (i := 37) (l' := #[true, true, true, true, true, true, true, true, true, true, true, true, true, true, true, true, true, true, true, true, true, true, true, true, true, true, true, true, true, true, true, true, true, true, true, true, true, true, false, false, false, false, false, false, false, false, false, false, false, false, false, false, false, false]) rfl rfl rfl rfl rfl (by kernel_rfl) rfl rfl rfl ?_
          refine XQ.skipU (i := 38) (l' := #[true, true, true, true, true, true, true, true, true, true, true, true, true, true, true, true, true, true, true, true, true, true, true, true, true, true, true, true, true, true, true, true, true, true, true, true, true, true, true, false, false, false, false, false, false, false, false, false, false, false, false, false, false, false]) rfl rfl rfl rfl rfl (by kernel_rfl) rfl rfl rfl ?_
          refine XQ.skip (i := 39) (l' := #[true, true, true, true, true, true, true, true, true, true, true, true, true, true, true, true, true, true, true, true, true, true, true, true, true, true, true, true, true, true, true, true, true, true, true, true, true, true, true, true, false, false, false, false, false, false, false, false, false, false, false, false, false, false]) rfl rfl rfl rfl rfl (by kernel_rfl) rfl rfl rfl ?_
          refine XQ.skip (i := 40) (l' := #[true, true, true, true, true, true, true, true, true, true, true, true, true, true, true, true, true, true, true, true, true, true, true, true, true, true, true, true, true, true, true, true, true, true, true, true, true, true, true, true, true, false, false, false, false, false, false, false, false, false, false, false, false, false]) rfl rfl rfl rfl rfl (by kernel_rfl) rfl rfl rfl ?_
          refine XQ.skipU (i := 41) (l' := #[true, true, true, true, true, true, true, true, true, true, true, true, true, true, true, true, true, true, true, true, true, true, true, true, true, true, true, true, true, true, true, true, true, true, true, true, true, true, true, true, true, true, false, false, false, false, false, false, false, false, false, false, false, false]) rfl rfl rfl rfl rfl (by kernel_rfl) rfl rfl rfl ?_
          refine XQ.skipU (i := 42) (l' := #[true, true, true, true, true, true, true, true, true, true, true, true, true, true, true, true, true, true, true, true, true, true, true, true, true, true, true, true, true, true, true, true, true, true, true, true, true, true, true, true, true, true, true, false, false, false, false, false, false, false, false, false, false, false]) rfl rfl rfl rfl rfl (by kernel_rfl) rfl rfl rfl ?_
          refine XQ.skipU (i := 43) (l' := #[true, true, true, true, true, true, true, true, true, true, true, true, true, true, true, true, true, true, true, true, true, true, true, true, true, true, true, true, true, true, true, true, true, true, true, true, true, true, true, true, true, true, true, true, false, false, false, false, false, false, false, false, false, false]) rfl rfl rfl rfl rfl (by kernel_rfl) rfl rfl rfl ?_
          refine XQ.skipU (i := 44) (l' := #[true, true, true, true, true, true, true, true, true, true, true, true, true, true, true, true, true, true, true, true, true, true, true, true, true, true, true, true, true, true, true, true, true, true, true, true, true, true, true, true, true, true, true, true, true, false, false, false, false, false, false, false, false, false]) rfl rfl rfl rfl rfl (by kernel_rfl) rfl rfl rfl ?_
          refine XQ.skipU (i := 45) (l' := #[true, true, true, true, true, true, true, true, true, true, true, true, true, true, true, true, true, true, true, true, true, true, true, true, true, true, true, true, true, true, true, true, true, true, true, true, true, true, true, true, true, true, true, true, true, true, false, false, false, false, false, false, false, false]) rfl rfl rfl rfl rfl (by kernel_rfl) rfl rfl rfl ?_
          refine XQ.skipU (i := 46) (l' := #[true, true, true, true, true, true, true, true, true, true, true, true, true, true, true, true, true, true, true, true, true, true, true, true, true, true, true, true, true, true, true, true, true, true, true, true, true, true, true, true, true, true, true, true, true, true, true, false, false, false, false, false, false, false]) rfl rfl rfl rfl rfl (by kernel_rfl) rfl rfl rfl ?_
          refine XQ.skipU (i := 47) (l' := #[true, true, true, true, true, true, true, true, true, true, true, true, true, true, true, true, true, true, true, true, true, true, true, true, true, true, true, true, true, true, true, true, true, true, true, true, true, true, true, true, true, true, true, true, true, true, true, true, false, false, false, false, false, false]) rfl rfl rfl rfl rfl (by kernel_rfl) rfl rfl rfl ?_
          refine XQ.skipU (i := 48) (l' := #[true, true, true, true, true, true, true, true, true, true, true, true, true, true, true, true, true, true, true, true, true, true, true, true, true, true, true, true, true, true, true, true, true, true, true, true, true, true, true, true, true, true, true, true, true, true, true, true, true, false, false, false, false, false]) rfl rfl rfl rfl rfl (by kernel_rfl) rfl rfl rfl ?_
          refine XQ.skipU (i := 49) (l' := #[true, true, true, true, true, true, true, true, true, true, true, true, true, true, true, true, true, true, true, true, true, true, true, true, true, true, true, true, true, true, true, true, true, true, true, true, true, true, true, true, true, true, true, true, true, true, true, true, true, true, false, false, false, false]) rfl rfl rfl rfl rfl (by kernel_rfl) rfl rfl rfl ?_
          refine XQ.skipU (i := 50) (l' := #[true, true, true, true, true, true, true, true, true, true, true, true, true, true, true, true, true, true, true, true, true, true, true, true, true, true, true, true, true, true, true, true, true, true, true, true, true, true, true, true, true, true, true, true, true, true, true, true, true, true, true, false, false, false]) rfl rfl rfl rfl rfl (by kernel_rfl) rfl rfl rfl ?_
          refine XQ.skip (i := 51) (l' := #[true, true, true, true, true, true, true, true, true, true, true, true, true, true, true, true, true, true, true, true, true, true, true, true, true, true, true, true, true, true, true, true, true, true, true, true, true, true, true, true, true, true, true, true, true, true, true, true, true, true, true, true, false, false]) rfl rfl rfl rfl rfl (by kernel_rfl) rfl rfl rfl ?_
          refine XQ.pvG (i := 52) (l' := #[true, true, true, true, true, true, true, true, true, true, true, true, true, true, true, true, true, true, true, true, true, true, true, true, true, true, true, true, true, true, true, true, true, true, true, true, true, true, true, true, true, true, true, true, true, true, true, true, true, true, true, true, true, false]) rfl rfl rfl (by kernel_rfl) rfl (V.pick rfl rfl rfl rfl) rfl rfl ?_
          refine XQ.pv (i := 53) (l' := #[true, true, true, true, true, true, true, true, true, true, true, true, true, true, true, true, true, true, true, true, true, true, true, true, true, true, true, true, true, true, true, true, true, true, true, true, true, true, true, true, true, true, true, true, true, true, true, true, true, true, true, true, true, true]) rfl (by kernel_rfl) rfl (V.pick rfl rfl rfl rfl) rfl rfl ?_
          refine XQ.done (by kernel_rfl) ?_
          refine XE.next ?_
          refine XC.keep [(0, _), (4, _), (5, _), (6, _), (240, _)] (Sub.cons rfl (Sub.cons rfl (Sub.cons rfl (Sub.cons rfl (Sub.cons rfl (Sub.nil _)))))) ?_
          refine XC.condF rfl rfl ?_
          refine XC.skip ?_
          refine XE.blockNormal ?_
          refine XE.next ?_
          refine XC.keep [(0, _), (4, _), (5, _), (6, _)] (Sub.cons rfl (Sub.cons rfl (Sub.cons rfl (Sub.cons rfl (Sub.nil _))))) ?_
          refine XC.region ?_
          refine XO.v (V.move rfl) rfl ?_
          refine XO.v (V.add rfl rfl _ (IntWalk.i64_in _ (by omega))) rfl ?_
          refine XO.v (V.assign rfl) rfl ?_
          refine XO.nil ?_
          refine XE.again ((y, x.2 + 1)) ?_ ?_ (Sub.cons rfl (Sub.cons rfl (Sub.cons rfl (Sub.cons rfl (Sub.nil _))))) (fun _ hw => XM.pick (.cons (.there .here) (.cons .here (.cons (.there .here) .nil))) hw)
          · skip
            (simp; omega)
          · skip
            exact ⟨hy, by simp; omega, by simp; omega⟩
    · skip
      refine XC.exit ?_
      refine XE.thenExit ?_
      refine XE.thenExit ?_
      refine XE.blockExit ?_
      refine XE.next ?_
      refine XC.keep [] (Sub.nil _) ?_
      refine XC.seq ?_
      refine XC.region ?_
      refine XO.v (V.assign rfl) rfl ?_
      refine XO.nil ?_
      refine XE.next ?_
      refine XC.keep [(2, _)] (Sub.cons rfl (Sub.nil _)) ?_
      refine XC.ret ?_
      refine XE.ret1 rfl rfl (post_of .nil rfl ?_)
      exact ⟨rfl, rfl⟩
end Go.X
