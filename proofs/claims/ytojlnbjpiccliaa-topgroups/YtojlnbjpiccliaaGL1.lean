import Derived.Test.YtojlnbjpiccliaaLWg
namespace Go.X
open Go Go.Proofs
theorem cl_15 : callable Try.prog 15 = true := by kernel_rfl
theorem cl_27 : callable Try.prog 27 = true := by kernel_rfl
theorem cl_29 : callable Try.prog 29 = true := by kernel_rfl
theorem cl_46 : callable Try.prog 46 = true := by kernel_rfl
theorem cl_54 : callable Try.prog 54 = true := by kernel_rfl
theorem cl_86 : callable Try.prog 86 = true := by kernel_rfl
theorem cl_87 : callable Try.prog 87 = true := by kernel_rfl

theorem aggEq : (Try.prog.underlying 63 = some (.struct (Try.prog.fieldsOf 63)) ∧ Try.prog.stoodInHeld 63 = false) ∧ Try.prog.eqGuardType Try.prog.depth 63 = false ∧ (Try.prog.fieldsOf 63).toList.all (okF Try.prog 5) = true :=
  ⟨⟨by kernel_rfl, by kernel_rfl⟩, by kernel_rfl, by kernel_rfl⟩

set_option maxRecDepth 10000 in
set_option maxHeartbeats 400000 in
theorem same_numbers (p q : Option Addr) (cap cap2 : Nat) (zs ws : List Int) (hz : zs.length ≤ 1000000) : Spec Try.prog 54 [.slice p zs.length cap, .slice q ws.length cap2]
    [irow p cap 3 zs, irow q cap2 3 ws]
    (fun v H1 => v = .bool (decide (zs = ws)) ∧ H1 = [irow p cap 3 zs, irow q cap2 3 ws]) := by
  refine Spec.intro Try.func54 rfl rfl ?_
  intro W
  refine XC.seq ?_
  refine XC.region ?_
  refine XO.v (V.assign rfl) rfl ?_
  refine XO.nil ?_
  refine XE.next ?_
  refine XC.keep [(0, _), (1, _)] (Sub.cons rfl (Sub.cons rfl (Sub.nil _))) ?_
  refine XC.seq ?_
  refine XC.seq ?_
  refine XC.region ?_
  refine XO.v (V.move rfl) rfl ?_
  refine XO.v (V.lenSl rfl Try.underlying85) rfl ?_
  refine XO.v (V.move rfl) rfl ?_
  refine XO.v (V.lenSl rfl Try.underlying85) rfl ?_
  refine XO.v (V.cmp rfl rfl rfl) rfl ?_
  refine XO.nil ?_
  refine XE.next ?_
  refine XC.keep [(0, _), (1, _), (10, _)] (Sub.cons rfl (Sub.cons rfl (Sub.cons rfl (Sub.nil _)))) ?_
  refine XC.condP rfl (fun h1 => ?_) (fun h1 => ?_)
  · skip
    refine XC.seq ?_
    refine XC.region ?_
    refine XO.v (V.assign rfl) rfl ?_
    refine XO.nil ?_
    refine XE.next ?_
    refine XC.keep [(4, _)] (Sub.cons rfl (Sub.nil _)) ?_
    refine XC.ret ?_
    refine XE.thenRet ?_
    refine XE.ret1 rfl rfl (post_of (.cons .here (.cons .here .nil)) rfl ?_)
    have hne : ¬ zs = ws := by rintro rfl; omega
    exact ⟨by simp [hne], rfl⟩
  · skip
    refine XC.skip ?_
    refine XE.next ?_
    refine XC.keep [(0, _), (1, _)] (Sub.cons rfl (Sub.cons rfl (Sub.nil _))) ?_
    refine XC.seq ?_
    refine XC.seq ?_
    refine XC.region ?_
    refine XO.v (V.assign rfl) rfl ?_
    refine XO.nil ?_
    refine XE.next ?_
    refine XC.keep [(0, _), (1, _), (5, _)] (Sub.cons rfl (Sub.cons rfl (Sub.cons rfl (Sub.nil _)))) ?_
    refine XC.block ?_
    refine XC.loop (σ := Int) (fun k => (zs.length - k).toNat) (fun k => (0 ≤ k ∧ k ≤ zs.length) ∧ ∀ z : Int, 0 ≤ z → z < k → at0 zs z = at0 ws z) (fun k => [(5, .int .i64 k), (0, .slice p zs.length cap), (1, .slice q ws.length cap2)]) (fun k => XM W (foot [irow p cap 3 zs, irow q cap2 3 ws]) [irow p cap 3 zs, irow q cap2 3 ws]) (0) ?_ (Sub.cons rfl (Sub.cons rfl (Sub.cons rfl (Sub.nil _)))) (fun _ hw => XM.pick (.cons .here (.cons .here .nil)) hw) ?_
    · skip
      exact ⟨by omega, fun z h1 h2 => by omega⟩
    intro k hk
    obtain ⟨hk, hn⟩ := hk
    refine XC.seq ?_
    refine XC.seq ?_
    refine XC.region ?_
    refine XO.v (V.move rfl) rfl ?_
    refine XO.v (V.move rfl) rfl ?_
    refine XO.v (V.lenSl rfl Try.underlying85) rfl ?_
    refine XO.v (V.cmp rfl rfl rfl) rfl ?_
    refine XO.nil ?_
    refine XE.next ?_
    refine XC.keep [(0, _), (1, _), (5, _), (14, _)] (Sub.cons rfl (Sub.cons rfl (Sub.cons rfl (Sub.cons rfl (Sub.nil _))))) ?_
    refine XC.condP rfl (fun h2 => ?_) (fun h2 => ?_)
    · skip
      refine XC.skip ?_
      refine XE.next ?_
      refine XC.keep [(0, _), (1, _), (5, _)] (Sub.cons rfl (Sub.cons rfl (Sub.cons rfl (Sub.nil _)))) ?_
      refine XC.seq ?_
      refine XC.block ?_
      refine XC.seq ?_
      refine XC.openRow .here (by omega) ?_
      intro h3 h4
      subst h4
      refine XC.openRow (.there .here) (by omega) ?_
      intro h5 h6
      subst h6
      refine XC.regionQ mixed (f := 9) (l := #[false, false, false, false, false, false, false, false, false]) rfl rfl XM.drawn' ?_
      refine XQ.pv (i := 0) (l' := #[true, false, false, false, false, false, false, false, false]) rfl (by kernel_rfl) rfl (V.move rfl) rfl rfl ?_
      refine XQ.pv (i := 1) (l' := #[true, true, false, false, false, false, false, false, false]) rfl (by kernel_rfl) rfl (V.move rfl) rfl rfl ?_
      refine XQ.pv (i := 2) (l' := #[true, true, true, false, false, false, false, false, false]) rfl (by kernel_rfl) rfl (V.indexSl rfl rfl sl_85 (by omega)) rfl rfl ?_
      refine XQ.load (i := 3) (l' := #[true, true, true, true, false, false, false, false, false]) (.row _ _ _ _ _) [] rfl (by kernel_rfl) rfl .here (V.loadRow rfl inEnt (ints_at (by omega)) sc_3) rfl (by kernel_rfl) rfl ?_
      refine XQ.pv (i := 4) (l' := #[true, true, true, true, true, false, false, false, false]) rfl (by kernel_rfl) rfl (V.move rfl) rfl rfl ?_
      refine XQ.pv (i := 5) (l' := #[true, true, true, true, true, true, false, false, false]) rfl (by kernel_rfl) rfl (V.move rfl) rfl rfl ?_
      refine XQ.pv (i := 6) (l' := #[true, true, true, true, true, true, true, false, false]) rfl (by kernel_rfl) rfl (V.indexSl rfl rfl sl_85 (by omega)) rfl rfl ?_
      refine XQ.load (i := 7) (l' := #[true, true, true, true, true, true, true, true, false]) (.row _ _ _ _ _) [] rfl (by kernel_rfl) rfl (.there .here) (V.loadRow rfl inEnt (ints_at (by omega)) sc_3) rfl (by kernel_rfl) rfl ?_
      refine XQ.pv (i := 8) (l' := #[true, true, true, true, true, true, true, true, true]) rfl (by kernel_rfl) rfl (V.cmp rfl rfl rfl) rfl rfl ?_
      refine XQ.done (by kernel_rfl) ?_
      refine XE.next ?_
      refine XC.keep [(0, _), (1, _), (5, _), (25, _)] (Sub.cons rfl (Sub.cons rfl (Sub.cons rfl (Sub.cons rfl (Sub.nil _))))) ?_
      refine XC.condP rfl (fun h7 => ?_) (fun h7 => ?_)
      · skip
        refine XC.seq ?_
        refine XC.region ?_
        refine XO.v (V.assign rfl) rfl ?_
        refine XO.nil ?_
        refine XE.next ?_
        refine XC.keep [(4, _)] (Sub.cons rfl (Sub.nil _)) ?_
        refine XC.ret ?_
        refine XE.blockRet ?_
        refine XE.thenRet ?_
        refine XE.thenRet ?_
        refine XE.blockRet ?_
        refine XE.thenRet ?_
        refine XE.ret1 rfl rfl (post_of (.cons .here (.cons .here .nil)) rfl ?_)
        have hne : ¬ zs = ws := by rintro rfl; omega
        exact ⟨by simp [hne], rfl⟩
      · skip
        refine XC.skip ?_
        refine XE.blockNormal ?_
        refine XE.next ?_
        refine XC.keep [(0, _), (1, _), (5, _)] (Sub.cons rfl (Sub.cons rfl (Sub.cons rfl (Sub.nil _)))) ?_
        refine XC.region ?_
        refine XO.v (V.move rfl) rfl ?_
        refine XO.v (V.add rfl rfl _ (IntWalk.i64_in _ (by omega))) rfl ?_
        refine XO.v (V.assign rfl) rfl ?_
        refine XO.nil ?_
        refine XE.again (k + 1) ?_ ?_ (Sub.cons rfl (Sub.cons rfl (Sub.cons rfl (Sub.nil _)))) (fun _ hw => XM.pick (.cons .here (.cons .here .nil)) hw)
        · skip
          (first | omega | (simp; done) | (simp; omega))
        · skip
          refine ⟨by omega, fun z h1 h2 => ?_⟩
          by_cases hzk : z = k
          · subst hzk; omega
          · exact hn z h1 (by omega)
    · skip
      refine XC.exit ?_
      refine XE.thenExit ?_
      refine XE.thenExit ?_
      refine XE.blockExit ?_
      refine XE.next ?_
      refine XC.keep [] (Sub.nil _) ?_
      refine XC.seq ?_
      refine XC.region ?_
      refine XO.v (V.assign rfl) rfl ?_
      refine XO.nil ?_
      refine XE.next ?_
      refine XC.keep [(4, _)] (Sub.cons rfl (Sub.nil _)) ?_
      refine XC.ret ?_
      refine XE.ret1 rfl rfl (post_of (.cons .here (.cons .here .nil)) rfl ?_)
      have he : zs = ws := ints_eq (by omega) (fun z h1 h2 => hn z h1 (by omega))
      exact ⟨by simp [he], rfl⟩
set_option maxRecDepth 10000 in
set_option maxHeartbeats 400000 in
theorem trees_any  : Spec Try.prog 26 []
    []
    (fun v H1 => v = .bool true ∧ H1 = []) := by
  have o1 : (TG.init.add 0).Ok := (TG.Inv.init.add 0).ok
  have hs1 : (TG.init.add 0).Small 0 := TG.Small.init.add (by omega) 0
  refine Spec.intro Try.func26 rfl rfl ?_
  intro W
  refine XC.seq ?_
  refine XC.region ?_
  refine XO.v (V.assign rfl) rfl ?_
  refine XO.nil ?_
  refine XE.next ?_
  refine XC.keep [] (Sub.nil _) ?_
  refine XC.seq ?_
  refine XC.region ?_
  refine XO.call rfl (g_new) .nil cl_27 rfl ?_
  rintro _ _ ⟨bs, rfl, rfl⟩
  refine XO.v (V.assign rfl) rfl ?_
  refine XO.nil ?_
  refine XE.next ?_
  refine XC.keep [(1, _)] (Sub.cons rfl (Sub.nil _)) ?_
  refine XC.seq ?_
  refine XC.seq ?_
  refine XC.region ?_
  refine XO.v (V.move rfl) rfl ?_
  refine XO.v (V.ptrNilP rfl Try.underlying48 rfl) rfl ?_
  refine XO.nil ?_
  refine XE.next ?_
  refine XC.keep [(1, _), (9, _)] (Sub.cons rfl (Sub.cons rfl (Sub.nil _))) ?_
  refine XC.condF rfl rfl ?_
  refine XC.skip ?_
  refine XE.next ?_
  refine XC.keep [(1, _)] (Sub.cons rfl (Sub.nil _)) ?_
  refine XC.seq ?_
  refine XC.region ?_
  refine XO.v (V.move rfl) rfl ?_
  refine XO.call rfl (g_Add _ _ _ TG.Inv.init.ok _) (.cons .here .nil) cl_29 rfl ?_
  rintro _ _ ⟨rfl, rfl⟩
  refine XO.v (V.move rfl) rfl ?_
  refine XO.v (V.extract rfl rfl) rfl ?_
  refine XO.v (V.extract rfl rfl) rfl ?_
  refine XO.v (V.assign rfl) rfl ?_
  refine XO.v (V.assign rfl) rfl ?_
  refine XO.nil ?_
  refine XE.next ?_
  refine XC.keep [(1, _), (2, _), (3, _)] (Sub.cons rfl (Sub.cons rfl (Sub.cons rfl (Sub.nil _)))) ?_
  refine XC.seq ?_
  refine XC.region ?_
  refine XO.v (V.move rfl) rfl ?_
  refine XO.v (V.move rfl) rfl ?_
  refine XO.call rfl (g_charge _ _ _ o1 _ _ _ 0 (by omega) hs1) (.cons .here .nil) cl_35 rfl ?_
  rintro _ _ ⟨rfl, rfl⟩
  refine XO.v (V.assign rfl) rfl ?_
  refine XO.nil ?_
  refine XE.next ?_
  refine XC.keep [(1, _), (2, _), (3, _), (4, _)] (Sub.cons rfl (Sub.cons rfl (Sub.cons rfl (Sub.cons rfl (Sub.nil _))))) ?_
  refine XC.seq ?_
  refine XC.region ?_
  refine XO.v (V.move rfl) rfl ?_
  refine XO.call rfl (g_of _ _ _ _) (.cons .here .nil) cl_46 rfl ?_
  rintro _ _ ⟨rfl, rfl⟩
  refine XO.v (V.move rfl) rfl ?_
  refine XO.v (V.extract rfl rfl) rfl ?_
  refine XO.v (V.extract rfl rfl) rfl ?_
  refine XO.allocZ (z := .agg GV.zero.arr) (m := 5) (C := encV GV.zero) (by kernel_rfl) rfl (encV_box _) rfl ?_
  intro bg
  refine XO.storeAgg rfl rfl .here (encV_st _ _) ⟨rfl, rfl⟩ sz_63_5 ?_
  refine XO.v (V.assign rfl) rfl ?_
  refine XO.nil ?_
  refine XE.next ?_
  refine XC.keep [(2, _), (3, _), (4, _), (5, _), (6, _)] (Sub.cons rfl (Sub.cons rfl (Sub.cons rfl (Sub.cons rfl (Sub.cons rfl (Sub.nil _)))))) ?_
  refine XC.seq ?_
  refine XC.region ?_
  refine XO.v (V.move rfl) rfl ?_
  refine XO.call rfl (same_any _ _ (TG.addE_nn _ _)) .nil cl_15 rfl ?_
  rintro _ _ ⟨rfl, rfl⟩
  refine XO.v (V.move rfl) rfl ?_
  refine XO.splitT (d := 25) rfl (by decide +kernel) ?_
  refine XO.guardRun rfl rfl rfl ?_
  refine XO.v (V.move rfl) rfl ?_
  refine XO.guardRun rfl rfl rfl ?_
  refine XO.v (V.cmp rfl rfl rfl) rfl ?_
  refine XO.v (V.pick rfl rfl rfl rfl) rfl ?_
  refine XO.v (V.move rfl) rfl ?_
  refine XO.splitT (d := 29) rfl (by decide +kernel) ?_
  refine XO.guardRun rfl rfl rfl ?_
  refine XO.v (V.move rfl) rfl ?_
  refine XO.guardRun rfl rfl rfl ?_
  refine XO.call rfl (same_any _ _ (TG.chargeE_nn _ _ _ _)) .nil cl_15 rfl ?_
  rintro _ _ ⟨rfl, rfl⟩
  refine XO.v (V.pick rfl rfl rfl rfl) rfl ?_
  refine XO.v (V.move rfl) rfl ?_
  refine XO.splitT (d := 33) rfl (by decide +kernel) ?_
  refine XO.guardRun rfl rfl rfl ?_
  refine XO.v (V.move rfl) rfl ?_
  refine XO.guardRun rfl rfl rfl ?_
  refine XO.call rfl (same_any _ _ (TG.isE_nn _ _)) .nil cl_15 rfl ?_
  rintro _ _ ⟨rfl, rfl⟩
  refine XO.v (V.pick rfl rfl rfl rfl) rfl ?_
  refine XO.v (V.move rfl) rfl ?_
  refine XO.splitT (d := 37) rfl (by decide +kernel) ?_
  refine XO.guardRun rfl rfl rfl ?_
  refine XO.v (V.fieldAddr rfl fo_63_3) rfl ?_
  refine XO.guardRun rfl rfl rfl ?_
  refine XO.v (V.load rfl (inXM .here) (encV.ld_Procs _) sc_3) rfl ?_
  refine XO.guardRun rfl rfl rfl ?_
  refine XO.v (V.cmp rfl rfl rfl) rfl ?_
  refine XO.v (V.pick rfl rfl rfl rfl) rfl ?_
  refine XO.v (V.move rfl) rfl ?_
  refine XO.splitT (d := 42) rfl (by decide +kernel) ?_
  refine XO.guardRun rfl rfl rfl ?_
  refine XO.v (V.fieldAddr rfl fo_63_4) rfl ?_
  refine XO.guardRun rfl rfl rfl ?_
  refine XO.v (V.load rfl (inXM .here) (encV.ld_Pages _) sc_3) rfl ?_
  refine XO.guardRun rfl rfl rfl ?_
  refine XO.v (V.cmp rfl rfl rfl) rfl ?_
  refine XO.v (V.pick rfl rfl rfl rfl) rfl ?_
  refine XO.v (V.move rfl) rfl ?_
  refine XO.splitT (d := 47) rfl (by decide +kernel) ?_
  refine XO.guardRun rfl rfl rfl ?_
  refine XO.v (V.fieldAddr rfl fo_63_0) rfl ?_
  refine XO.guardRun rfl rfl rfl ?_
  refine XO.v (V.load rfl (inXM .here) (encV.ld_Parent _) sc_3) rfl ?_
  refine XO.guardRun rfl rfl rfl ?_
  refine XO.v (V.cmp rfl rfl rfl) rfl ?_
  refine XO.v (V.pick rfl rfl rfl rfl) rfl ?_
  refine XO.v (V.assign rfl) rfl ?_
  refine XO.nil ?_
  refine XE.next ?_
  refine XC.keep [(0, _)] (Sub.cons rfl (Sub.nil _)) ?_
  refine XC.ret ?_
  refine XE.ret1 rfl rfl (post_of .nil rfl ?_)
  exact ⟨congrArg Value.bool (show _ = true from by decide +kernel), rfl⟩
set_option maxRecDepth 10000 in
set_option maxHeartbeats 1000000 in
theorem as_tree (bs bm : Nat) (s t : TG) (hR : TG.Rel s t) : Spec Try.prog 45 [ptr bs 0 0, ptr bm 0 0]
    [.cells bs 0 60 (encGt s), .cells bm 0 60 (encGr t)]
    (fun v H1 => v = .bool true ∧ H1 = [.cells bs 0 60 (encGt s), .cells bm 0 60 (encGr t)]) := by
  refine Spec.intro Try.func45 rfl rfl ?_
  intro W
  refine XC.seq ?_
  refine XC.region ?_
  refine XO.v (V.assign rfl) rfl ?_
  refine XO.nil ?_
  refine XE.next ?_
  refine XC.keep [(0, _), (1, _)] (Sub.cons rfl (Sub.cons rfl (Sub.nil _))) ?_
  refine XC.seq ?_
  refine XC.seq ?_
  refine XC.region ?_
  refine XO.v (V.assign rfl) rfl ?_
  refine XO.nil ?_
  refine XE.next ?_
  refine XC.keep [(0, _), (1, _), (5, _)] (Sub.cons rfl (Sub.cons rfl (Sub.cons rfl (Sub.nil _)))) ?_
  refine XC.block ?_
  refine XC.loop (σ := Int) (fun n => (11 - n).toNat) (fun n => -1 ≤ n ∧ n ≤ 11) (fun n => [(5, .int .i64 n), (0, ptr bs 0 0), (1, ptr bm 0 0)]) (fun n => XM W (foot [.cells bs 0 60 (encGt s), .cells bm 0 60 (encGr t)]) [.cells bs 0 60 (encGt s), .cells bm 0 60 (encGr t)]) (-1) ?_ (Sub.cons rfl (Sub.cons rfl (Sub.cons rfl (Sub.nil _)))) (fun _ hw => XM.pick (.cons .here (.cons .here .nil)) hw) ?_
  · skip
    omega
  intro n hn
  have hE := hR.isE n
  refine XC.seq ?_
  refine XC.seq ?_
  refine XC.region ?_
  refine XO.v (V.move rfl) rfl ?_
  refine XO.v (V.cmp rfl rfl rfl) rfl ?_
  refine XO.nil ?_
  refine XE.next ?_
  refine XC.keep [(0, _), (1, _), (5, _), (10, _)] (Sub.cons rfl (Sub.cons rfl (Sub.cons rfl (Sub.cons rfl (Sub.nil _))))) ?_
  refine XC.condP rfl (fun h1 => ?_) (fun h1 => ?_)
  · skip
    refine XC.skip ?_
    refine XE.next ?_
    refine XC.keep [(0, _), (1, _), (5, _)] (Sub.cons rfl (Sub.cons rfl (Sub.cons rfl (Sub.nil _)))) ?_
    refine XC.seq ?_
    refine XC.block ?_
    refine XC.seq ?_
    refine XC.region ?_
    refine XO.v (V.move rfl) rfl ?_
    refine XO.v (V.move rfl) rfl ?_
    refine XO.call rfl (g_of _ _ _ _) (.cons .here .nil) cl_46 rfl ?_
    rintro _ _ ⟨rfl, rfl⟩
    refine XO.v (V.move rfl) rfl ?_
    refine XO.v (V.extract rfl rfl) rfl ?_
    refine XO.v (V.extract rfl rfl) rfl ?_
    refine XO.allocZ (z := .agg GV.zero.arr) (m := 5) (C := encV GV.zero) (by kernel_rfl) rfl (encV_box _) rfl ?_
    intro bg
    refine XO.storeAgg rfl rfl .here (encV_st _ _) ⟨rfl, rfl⟩ sz_63_5 ?_
    refine XO.v (V.assign rfl) rfl ?_
    refine XO.nil ?_
    refine XE.next ?_
    refine XC.keep [(0, _), (1, _), (5, _), (6, _), (7, _)] (Sub.cons rfl (Sub.cons rfl (Sub.cons rfl (Sub.cons rfl (Sub.cons rfl (Sub.nil _)))))) ?_
    refine XC.seq ?_
    refine XC.region ?_
    refine XO.v (V.move rfl) rfl ?_
    refine XO.v (V.move rfl) rfl ?_
    refine XO.call rfl (r_is _ _ _ _) (.cons (.there (.there .here)) .nil) cl_76 rfl ?_
    rintro _ _ ⟨rfl, rfl⟩
    refine XO.v (V.assign rfl) rfl ?_
    refine XO.nil ?_
    refine XE.next ?_
    refine XC.keep [(0, _), (1, _), (5, _), (6, _), (7, _), (8, _)] (Sub.cons rfl (Sub.cons rfl (Sub.cons rfl (Sub.cons rfl (Sub.cons rfl (Sub.cons rfl (Sub.nil _))))))) ?_
    refine XC.seq ?_
    refine XC.regionQ mixed (f := 27) (l := #[false, false, false, false, false, false, false, false, false, false, false, false, false, false, false, false, false, false, false, false, false, false, false, false, false, false, false]) rfl rfl XM.drawn' ?_
    refine XQ.pv (i := 0) (l' := #[true, false, false, false, false, false, false, false, false, false, false, false, false, false, false, false, false, false, false, false, false, false, false, false, false, false, false]) rfl (by kernel_rfl) rfl (V.move rfl) rfl rfl ?_
    refine XQ.pv (i := 1) (l' := #[true, true, false, false, false, false, false, false, false, false, false, false, false, false, false, false, false, false, false, false, false, false, false, false, false, false, false]) rfl (by kernel_rfl) rfl (V.move rfl) rfl rfl ?_
    refine XQ.call (i := 2) (l' := #[true, true, true, false, false, false, false, false, false, false, false, false, false, false, false, false, false, false, false, false, false, false, false, false, false, false, false]) rfl (by kernel_rfl) rfl rfl (same_any _ _ (TG.isE_nn _ _)) .nil cl_15 rfl (by rintro _ _ ⟨rfl, rfl⟩; all_goals (intro _ hw'; exact trivial)) ?_
    rintro _ _ ⟨rfl, rfl⟩
    refine XQ.pv (i := 3) (l' := #[true, true, true, true, false, false, false, false, false, false, false, false, false, false, false, false, false, false, false, false, false, false, false, false, false, false, false]) rfl (by kernel_rfl) rfl (V.notP rfl) rfl rfl ?_
    refine XQ.pv (i := 4) (l' := #[true, true, true, true, true, false, false, false, false, false, false, false, false, false, false, false, false, false, false, false, false, false, false, false, false, false, false]) rfl (by kernel_rfl) rfl (V.move rfl) rfl rfl ?_
    refine XQ.splitF (d := 26) rfl (by rw [hE]; simp) ?_
    refine XQ.pvG (i := 5) (l' := #[true, true, true, true, true, true, false, false, false, false, false, false, false, false, false, false, false, false, false, false, false, false, false, false, false, false, false]) rfl rfl rfl (by kernel_rfl) rfl (V.move rfl) rfl rfl ?_
    refine XQ.pvG (i := 6) (l' := #[true, true, true, true, true, true, true, false, false, false, false, false, false, false, false, false, false, false, false, false, false, false, false, false, false, false, false]) rfl rfl rfl (by kernel_rfl) rfl (V.cmp rfl rfl rfl) rfl rfl ?_
    refine XQ.pvG (i := 7) (l' := #[true, true, true, true, true, true, true, true, false, false, false, false, false, false, false, false, false, false, false, false, false, false, false, false, false, false, false]) rfl rfl rfl (by kernel_rfl) rfl (V.move rfl) rfl rfl ?_
    refine XQ.splitP (d := 29) rfl (fun h3 => ?_) (fun h3 => ?_)
    · skip
      refine XQ.loadG (i := 8) (l' := #[true, true, true, true, true, true, true, true, true, false, false, false, false, false, false, false, false, false, false, false, false, false, false, false, false, false, false]) (.cells _ _ _ _) [] rfl rfl rfl (by kernel_rfl) rfl (.there .here) (V.loadAgg rfl inEnt (encV_is (g' := GV.zero) (if_neg (by omega))) ag_63 sz_63_5) rfl (by kernel_rfl) rfl ?_
      refine XQ.pvG (i := 9) (l' := #[true, true, true, true, true, true, true, true, true, true, false, false, false, false, false, false, false, false, false, false, false, false, false, false, false, false, false]) rfl rfl rfl (by kernel_rfl) rfl (V.build (vs := #[]) rfl (v := .agg GV.zero.arr) (fun _ => by kernel_rfl)) rfl rfl ?_
      refine XQ.pvG (i := 10) (l' := #[true, true, true, true, true, true, true, true, true, true, true, false, false, false, false, false, false, false, false, false, false, false, false, false, false, false, false]) rfl rfl rfl (by kernel_rfl) rfl (V.aggNe rfl rfl aggEq (GV.ints _)) rfl rfl ?_
      refine XQ.pvG (i := 11) (l' := #[true, true, true, true, true, true, true, true, true, true, true, true, false, false, false, false, false, false, false, false, false, false, false, false, false, false, false]) rfl rfl rfl (by kernel_rfl) rfl (V.pick rfl rfl rfl rfl) rfl rfl ?_
      refine XQ.pv (i := 12) (l' := #[true, true, true, true, true, true, true, true, true, true, true, true, true, false, false, false, false, false, false, false, false, false, false, false, false, false, false]) rfl (by kernel_rfl) rfl (V.pick rfl rfl rfl rfl) rfl rfl ?_
      refine XQ.pv (i := 13) (l' := #[true, true, true, true, true, true, true, true, true, true, true, true, true, true, false, false, false, false, false, false, false, false, false, false, false, false, false]) rfl (by kernel_rfl) rfl (V.move rfl) rfl rfl ?_
      refine XQ.pvG (i := 14) (l' := #[true, true, true, true, true, true, true, true, true, true, true, true, true, true, true, false, false, false, false, false, false, false, false, false, false, false, false]) rfl rfl rfl (by kernel_rfl) rfl (V.move rfl) rfl rfl ?_
      refine XQ.pvG (i := 15) (l' := #[true, true, true, true, true, true, true, true, true, true, true, true, true, true, true, true, false, false, false, false, false, false, false, false, false, false, false]) rfl rfl rfl (by kernel_rfl) rfl (V.cmp rfl rfl rfl) rfl rfl ?_
      refine XQ.pvG (i := 16) (l' := #[true, true, true, true, true, true, true, true, true, true, true, true, true, true, true, true, true, false, false, false, false, false, false, false, false, false, false]) rfl rfl rfl (by kernel_rfl) rfl (V.move rfl) rfl rfl ?_
      refine XQ.splitP (d := 38) rfl (fun h4 => ?_) (fun h4 => ?_)
      · skip
        obtain ⟨i1, i2, i3⟩ := TG.isE_ok (show s.isE n = 0 from by omega)
        refine XQ.loadG (i := 17) (l' := #[true, true, true, true, true, true, true, true, true, true, true, true, true, true, true, true, true, true, false, false, false, false, false, false, false, false, false]) (.cells _ _ _ _) [] rfl rfl rfl (by kernel_rfl) rfl (.there .here) (V.loadAgg rfl inEnt (encV_is (g' := s.gv n) (if_pos (by omega))) ag_63 sz_63_5) rfl (by kernel_rfl) rfl ?_
        refine XQ.pvG (i := 18) (l' := #[true, true, true, true, true, true, true, true, true, true, true, true, true, true, true, true, true, true, true, false, false, false, false, false, false, false, false]) rfl rfl rfl (by kernel_rfl) rfl (V.move rfl) rfl rfl ?_
        refine XQ.pvG (i := 19) (l' := #[true, true, true, true, true, true, true, true, true, true, true, true, true, true, true, true, true, true, true, true, false, false, false, false, false, false, false]) rfl rfl rfl (by kernel_rfl) rfl (V.move rfl) rfl rfl ?_
        refine XQ.pvG (i := 20) (l' := #[true, true, true, true, true, true, true, true, true, true, true, true, true, true, true, true, true, true, true, true, true, false, false, false, false, false, false]) rfl rfl rfl (by kernel_rfl) rfl (V.nilCheckP rfl) rfl rfl ?_
        refine XQ.pvG (i := 21) (l' := #[true, true, true, true, true, true, true, true, true, true, true, true, true, true, true, true, true, true, true, true, true, true, false, false, false, false, false]) rfl rfl rfl (by kernel_rfl) rfl (V.fieldAddr rfl fo_117_1) rfl rfl ?_
        refine XQ.pvG (i := 22) (l' := #[true, true, true, true, true, true, true, true, true, true, true, true, true, true, true, true, true, true, true, true, true, true, true, false, false, false, false]) rfl rfl rfl (by kernel_rfl) rfl (V.indexArr rfl rfl ar_64 (by omega)) rfl rfl ?_
        refine XQ.loadG (i := 23) (l' := #[true, true, true, true, true, true, true, true, true, true, true, true, true, true, true, true, true, true, true, true, true, true, true, true, false, false, false]) (.cells _ _ _ _) [] rfl rfl rfl (by kernel_rfl) rfl .here (V.loadAgg rfl inEnt (encGr_gvR hR n ⟨i1, i2⟩ i3) ag_63 sz_63_5) rfl (by kernel_rfl) rfl ?_
        refine XQ.pvG (i := 24) (l' := #[true, true, true, true, true, true, true, true, true, true, true, true, true, true, true, true, true, true, true, true, true, true, true, true, true, false, false]) rfl rfl rfl (by kernel_rfl) rfl (V.aggNe rfl rfl aggEq (GV.ints _)) rfl rfl ?_
        refine XQ.pvG (i := 25) (l' := #[true, true, true, true, true, true, true, true, true, true, true, true, true, true, true, true, true, true, true, true, true, true, true, true, true, true, false]) rfl rfl rfl (by kernel_rfl) rfl (V.pick rfl rfl rfl rfl) rfl rfl ?_
        refine XQ.pv (i := 26) (l' := #[true, true, true, true, true, true, true, true, true, true, true, true, true, true, true, true, true, true, true, true, true, true, true, true, true, true, true]) rfl (by kernel_rfl) rfl (V.pick rfl rfl rfl rfl) rfl rfl ?_
        refine XQ.done (by kernel_rfl) ?_
        refine XE.next ?_
        refine XC.keep [(0, _), (1, _), (5, _), (48, _)] (Sub.cons rfl (Sub.cons rfl (Sub.cons rfl (Sub.cons rfl (Sub.nil _))))) ?_
        refine XC.condF rfl rfl ?_
        refine XC.skip ?_
        refine XE.blockNormal ?_
        refine XE.next ?_
        refine XC.keep [(0, _), (1, _), (5, _)] (Sub.cons rfl (Sub.cons rfl (Sub.cons rfl (Sub.nil _)))) ?_
        refine XC.region ?_
        refine XO.v (V.move rfl) rfl ?_
        refine XO.v (V.add rfl rfl _ (IntWalk.i64_in _ (by omega))) rfl ?_
        refine XO.v (V.assign rfl) rfl ?_
        refine XO.nil ?_
        refine XE.again (n + 1) ?_ ?_ (Sub.cons rfl (Sub.cons rfl (Sub.cons rfl (Sub.nil _)))) (fun _ hw => XM.pick (.cons (.there (.there .here)) (.cons .here .nil)) hw)
        · skip
          (first | omega | (simp; done) | (simp; omega))
        · skip
          (first | omega | (simp; done) | (simp; omega))
      · skip
        refine XQ.skip (i := 17) (l' := #[true, true, true, true, true, true, true, true, true, true, true, true, true, true, true, true, true, true, false, false, false, false, false, false, false, false, false]) rfl rfl rfl rfl rfl (by kernel_rfl) rfl rfl rfl ?_
        refine XQ.skip (i := 18) (l' := #[true, true, true, true, true, true, true, true, true, true, true, true, true, true, true, true, true, true, true, false, false, false, false, false, false, false, false]) rfl rfl rfl rfl rfl (by kernel_rfl) rfl rfl rfl ?_
        refine XQ.skip (i := 19) (l' := #[true, true, true, true, true, true, true, true, true, true, true, true, true, true, true, true, true, true, true, true, false, false, false, false, false, false, false]) rfl rfl rfl rfl rfl (by kernel_rfl) rfl rfl rfl ?_
        refine XQ.skip (i := 20) (l' := #[true, true, true, true, true, true, true, true, true, true, true, true, true, true, true, true, true, true, true, true, true, false, false, false, false, false, false]) rfl rfl rfl rfl rfl (by kernel_rfl) rfl rfl rfl ?_
        refine XQ.skip (i := 21) (l' := #[true, true, true, true, true, true, true, true, true, true, true, true, true, true, true, true, true, true, true, true, true, true, false, false, false, false, false]) rfl rfl rfl rfl rfl (by kernel_rfl) rfl rfl rfl ?_
        refine XQ.skip (i := 22) (l' := #[true, true, true, true, true, true, true, true, true, true, true, true, true, true, true, true, true, true, true, true, true, true, true, false, false, false, false]) rfl rfl rfl rfl rfl (by kernel_rfl) rfl rfl rfl ?_
        refine XQ.skip (i := 23) (l' := #[true, true, true, true, true, true, true, true, true, true, true, true, true, true, true, true, true, true, true, true, true, true, true, true, false, false, false]) rfl rfl rfl rfl rfl (by kernel_rfl) rfl rfl rfl ?_
        refine XQ.skip (i := 24) (l' := #[true, true, true, true, true, true, true, true, true, true, true, true, true, true, true, true, true, true, true, true, true, true, true, true, true, false, false]) rfl rfl rfl rfl rfl (by kernel_rfl) rfl rfl rfl ?_
        refine XQ.pvG (i := 25) (l' := #[true, true, true, true, true, true, true, true, true, true, true, true, true, true, true, true, true, true, true, true, true, true, true, true, true, true, false]) rfl rfl rfl (by kernel_rfl) rfl (V.pick rfl rfl rfl rfl) rfl rfl ?_
        refine XQ.pv (i := 26) (l' := #[true, true, true, true, true, true, true, true, true, true, true, true, true, true, true, true, true, true, true, true, true, true, true, true, true, true, true]) rfl (by kernel_rfl) rfl (V.pick rfl rfl rfl rfl) rfl rfl ?_
        refine XQ.done (by kernel_rfl) ?_
        refine XE.next ?_
        refine XC.keep [(0, _), (1, _), (5, _), (48, _)] (Sub.cons rfl (Sub.cons rfl (Sub.cons rfl (Sub.cons rfl (Sub.nil _))))) ?_
        refine XC.condF rfl rfl ?_
        refine XC.skip ?_
        refine XE.blockNormal ?_
        refine XE.next ?_
        refine XC.keep [(0, _), (1, _), (5, _)] (Sub.cons rfl (Sub.cons rfl (Sub.cons rfl (Sub.nil _)))) ?_
        refine XC.region ?_
        refine XO.v (V.move rfl) rfl ?_
        refine XO.v (V.add rfl rfl _ (IntWalk.i64_in _ (by omega))) rfl ?_
        refine XO.v (V.assign rfl) rfl ?_
        refine XO.nil ?_
        refine XE.again (n + 1) ?_ ?_ (Sub.cons rfl (Sub.cons rfl (Sub.cons rfl (Sub.nil _)))) (fun _ hw => XM.pick (.cons (.there (.there .here)) (.cons .here .nil)) hw)
        · skip
          (first | omega | (simp; done) | (simp; omega))
        · skip
          (first | omega | (simp; done) | (simp; omega))
    · skip
      refine XQ.skip (i := 8) (l' := #[true, true, true, true, true, true, true, true, true, false, false, false, false, false, false, false, false, false, false, false, false, false, false, false, false, false, false]) rfl rfl rfl rfl rfl (by kernel_rfl) rfl rfl rfl ?_
      refine XQ.skip (i := 9) (l' := #[true, true, true, true, true, true, true, true, true, true, false, false, false, false, false, false, false, false, false, false, false, false, false, false, false, false, false]) rfl rfl rfl rfl rfl (by kernel_rfl) rfl rfl rfl ?_
      refine XQ.skip (i := 10) (l' := #[true, true, true, true, true, true, true, true, true, true, true, false, false, false, false, false, false, false, false, false, false, false, false, false, false, false, false]) rfl rfl rfl rfl rfl (by kernel_rfl) rfl rfl rfl ?_
      refine XQ.pvG (i := 11) (l' := #[true, true, true, true, true, true, true, true, true, true, true, true, false, false, false, false, false, false, false, false, false, false, false, false, false, false, false]) rfl rfl rfl (by kernel_rfl) rfl (V.pick rfl rfl rfl rfl) rfl rfl ?_
      refine XQ.pv (i := 12) (l' := #[true, true, true, true, true, true, true, true, true, true, true, true, true, false, false, false, false, false, false, false, false, false, false, false, false, false, false]) rfl (by kernel_rfl) rfl (V.pick rfl rfl rfl rfl) rfl rfl ?_
      refine XQ.pv (i := 13) (l' := #[true, true, true, true, true, true, true, true, true, true, true, true, true, true, false, false, false, false, false, false, false, false, false, false, false, false, false]) rfl (by kernel_rfl) rfl (V.move rfl) rfl rfl ?_
      refine XQ.pvG (i := 14) (l' := #[true, true, true, true, true, true, true, true, true, true, true, true, true, true, true, false, false, false, false, false, false, false, false, false, false, false, false]) rfl rfl rfl (by kernel_rfl) rfl (V.move rfl) rfl rfl ?_
      refine XQ.pvG (i := 15) (l' := #[true, true, true, true, true, true, true, true, true, true, true, true, true, true, true, true, false, false, false, false, false, false, false, false, false, false, false]) rfl rfl rfl (by kernel_rfl) rfl (V.cmp rfl rfl rfl) rfl rfl ?_
      refine XQ.pvG (i := 16) (l' := #[true, true, true, true, true, true, true, true, true, true, true, true, true, true, true, true, true, false, false, false, false, false, false, false, false, false, false]) rfl rfl rfl (by kernel_rfl) rfl (V.move rfl) rfl rfl ?_
      refine XQ.splitP (d := 38) rfl (fun h5 => ?_) (fun h5 => ?_)
      · skip
        obtain ⟨i1, i2, i3⟩ := TG.isE_ok (show s.isE n = 0 from by omega)
        refine XQ.loadG (i := 17) (l' := #[true, true, true, true, true, true, true, true, true, true, true, true, true, true, true, true, true, true, false, false, false, false, false, false, false, false, false]) (.cells _ _ _ _) [] rfl rfl rfl (by kernel_rfl) rfl (.there .here) (V.loadAgg rfl inEnt (encV_is (g' := s.gv n) (if_pos (by omega))) ag_63 sz_63_5) rfl (by kernel_rfl) rfl ?_
        refine XQ.pvG (i := 18) (l' := #[true, true, true, true, true, true, true, true, true, true, true, true, true, true, true, true, true, true, true, false, false, false, false, false, false, false, false]) rfl rfl rfl (by kernel_rfl) rfl (V.move rfl) rfl rfl ?_
        refine XQ.pvG (i := 19) (l' := #[true, true, true, true, true, true, true, true, true, true, true, true, true, true, true, true, true, true, true, true, false, false, false, false, false, false, false]) rfl rfl rfl (by kernel_rfl) rfl (V.move rfl) rfl rfl ?_
        refine XQ.pvG (i := 20) (l' := #[true, true, true, true, true, true, true, true, true, true, true, true, true, true, true, true, true, true, true, true, true, false, false, false, false, false, false]) rfl rfl rfl (by kernel_rfl) rfl (V.nilCheckP rfl) rfl rfl ?_
        refine XQ.pvG (i := 21) (l' := #[true, true, true, true, true, true, true, true, true, true, true, true, true, true, true, true, true, true, true, true, true, true, false, false, false, false, false]) rfl rfl rfl (by kernel_rfl) rfl (V.fieldAddr rfl fo_117_1) rfl rfl ?_
        refine XQ.pvG (i := 22) (l' := #[true, true, true, true, true, true, true, true, true, true, true, true, true, true, true, true, true, true, true, true, true, true, true, false, false, false, false]) rfl rfl rfl (by kernel_rfl) rfl (V.indexArr rfl rfl ar_64 (by omega)) rfl rfl ?_
        refine XQ.loadG (i := 23) (l' := #[true, true, true, true, true, true, true, true, true, true, true, true, true, true, true, true, true, true, true, true, true, true, true, true, false, false, false]) (.cells _ _ _ _) [] rfl rfl rfl (by kernel_rfl) rfl .here (V.loadAgg rfl inEnt (encGr_gvR hR n ⟨i1, i2⟩ i3) ag_63 sz_63_5) rfl (by kernel_rfl) rfl ?_
        refine XQ.pvG (i := 24) (l' := #[true, true, true, true, true, true, true, true, true, true, true, true, true, true, true, true, true, true, true, true, true, true, true, true, true, false, false]) rfl rfl rfl (by kernel_rfl) rfl (V.aggNe rfl rfl aggEq (GV.ints _)) rfl rfl ?_
        refine XQ.pvG (i := 25) (l' := #[true, true, true, true, true, true, true, true, true, true, true, true, true, true, true, true, true, true, true, true, true, true, true, true, true, true, false]) rfl rfl rfl (by kernel_rfl) rfl (V.pick rfl rfl rfl rfl) rfl rfl ?_
        refine XQ.pv (i := 26) (l' := #[true, true, true, true, true, true, true, true, true, true, true, true, true, true, true, true, true, true, true, true, true, true, true, true, true, true, true]) rfl (by kernel_rfl) rfl (V.pick rfl rfl rfl rfl) rfl rfl ?_
        refine XQ.done (by kernel_rfl) ?_
        refine XE.next ?_
        refine XC.keep [(0, _), (1, _), (5, _), (48, _)] (Sub.cons rfl (Sub.cons rfl (Sub.cons rfl (Sub.cons rfl (Sub.nil _))))) ?_
        refine XC.condF rfl rfl ?_
        refine XC.skip ?_
        refine XE.blockNormal ?_
        refine XE.next ?_
        refine XC.keep [(0, _), (1, _), (5, _)] (Sub.cons rfl (Sub.cons rfl (Sub.cons rfl (Sub.nil _)))) ?_
        refine XC.region ?_
        refine XO.v (V.move rfl) rfl ?_
        refine XO.v (V.add rfl rfl _ (IntWalk.i64_in _ (by omega))) rfl ?_
        refine XO.v (V.assign rfl) rfl ?_
        refine XO.nil ?_
        refine XE.again (n + 1) ?_ ?_ (Sub.cons rfl (Sub.cons rfl (Sub.cons rfl (Sub.nil _)))) (fun _ hw => XM.pick (.cons (.there (.there .here)) (.cons .here .nil)) hw)
        · skip
          (first | omega | (simp; done) | (simp; omega))
        · skip
          (first | omega | (simp; done) | (simp; omega))
      · skip
        refine XQ.skip (i := 17) (l' := #[true, true, true, true, true, true, true, true, true, true, true, true, true, true, true, true, true, true, false, false, false, false, false, false, false, false, false]) rfl rfl rfl rfl rfl (by kernel_rfl) rfl rfl rfl ?_
        refine XQ.skip (i := 18) (l' := #[true, true, true, true, true, true, true, true, true, true, true, true, true, true, true, true, true, true, true, false, false, false, false, false, false, false, false]) rfl rfl rfl rfl rfl (by kernel_rfl) rfl rfl rfl ?_
        refine XQ.skip (i := 19) (l' := #[true, true, true, true, true, true, true, true, true, true, true, true, true, true, true, true, true, true, true, true, false, false, false, false, false, false, false]) rfl rfl rfl rfl rfl (by kernel_rfl) rfl rfl rfl ?_
        refine XQ.skip (i := 20) (l' := #[true, true, true, true, true, true, true, true, true, true, true, true, true, true, true, true, true, true, true, true, true, false, false, false, false, false, false]) rfl rfl rfl rfl rfl (by kernel_rfl) rfl rfl rfl ?_
        refine XQ.skip (i := 21) (l' := #[true, true, true, true, true, true, true, true, true, true, true, true, true, true, true, true, true, true, true, true, true, true, false, false, false, false, false]) rfl rfl rfl rfl rfl (by kernel_rfl) rfl rfl rfl ?_
        refine XQ.skip (i := 22) (l' := #[true, true, true, true, true, true, true, true, true, true, true, true, true, true, true, true, true, true, true, true, true, true, true, false, false, false, false]) rfl rfl rfl rfl rfl (by kernel_rfl) rfl rfl rfl ?_
        refine XQ.skip (i := 23) (l' := #[true, true, true, true, true, true, true, true, true, true, true, true, true, true, true, true, true, true, true, true, true, true, true, true, false, false, false]) rfl rfl rfl rfl rfl (by kernel_rfl) rfl rfl rfl ?_
        refine XQ.skip (i := 24) (l' := #[true, true, true, true, true, true, true, true, true, true, true, true, true, true, true, true, true, true, true, true, true, true, true, true, true, false, false]) rfl rfl rfl rfl rfl (by kernel_rfl) rfl rfl rfl ?_
        refine XQ.pvG (i := 25) (l' := #[true, true, true, true, true, true, true, true, true, true, true, true, true, true, true, true, true, true, true, true, true, true, true, true, true, true, false]) rfl rfl rfl (by kernel_rfl) rfl (V.pick rfl rfl rfl rfl) rfl rfl ?_
        refine XQ.pv (i := 26) (l' := #[true, true, true, true, true, true, true, true, true, true, true, true, true, true, true, true, true, true, true, true, true, true, true, true, true, true, true]) rfl (by kernel_rfl) rfl (V.pick rfl rfl rfl rfl) rfl rfl ?_
        refine XQ.done (by kernel_rfl) ?_
        refine XE.next ?_
        refine XC.keep [(0, _), (1, _), (5, _), (48, _)] (Sub.cons rfl (Sub.cons rfl (Sub.cons rfl (Sub.cons rfl (Sub.nil _))))) ?_
        refine XC.condF rfl rfl ?_
        refine XC.skip ?_
        refine XE.blockNormal ?_
        refine XE.next ?_
        refine XC.keep [(0, _), (1, _), (5, _)] (Sub.cons rfl (Sub.cons rfl (Sub.cons rfl (Sub.nil _)))) ?_
        refine XC.region ?_
        refine XO.v (V.move rfl) rfl ?_
        refine XO.v (V.add rfl rfl _ (IntWalk.i64_in _ (by omega))) rfl ?_
        refine XO.v (V.assign rfl) rfl ?_
        refine XO.nil ?_
        refine XE.again (n + 1) ?_ ?_ (Sub.cons rfl (Sub.cons rfl (Sub.cons rfl (Sub.nil _)))) (fun _ hw => XM.pick (.cons (.there (.there .here)) (.cons .here .nil)) hw)
        · skip
          (first | omega | (simp; done) | (simp; omega))
        · skip
          (first | omega | (simp; done) | (simp; omega))
  · skip
    refine XC.exit ?_
    refine XE.thenExit ?_
    refine XE.thenExit ?_
    refine XE.blockExit ?_
    refine XE.next ?_
    refine XC.keep [(0, _), (1, _)] (Sub.cons rfl (Sub.cons rfl (Sub.nil _))) ?_
    refine XC.seq ?_
    refine XC.region ?_
    refine XO.v (V.move rfl) rfl ?_
    refine XO.call rfl (g_all _ _ _) (.cons .here .nil) cl_86 rfl ?_
    rintro _ _ ⟨pl, cl, rfl, rfl⟩
    refine XO.v (V.move rfl) rfl ?_
    refine XO.call rfl (r_all _ _ _) (.cons (.there (.there .here)) .nil) cl_87 rfl ?_
    rintro _ _ ⟨pw, cw, rfl, rfl⟩
    have hal : s.all.length ≤ 10 := allK_len s.here 10
    refine XO.call rfl (same_numbers _ _ _ _ _ _ (by omega)) (.cons (.there (.there .here)) (.cons .here .nil)) cl_54 rfl ?_
    rintro _ _ ⟨rfl, rfl⟩
    refine XO.v (V.assign rfl) rfl ?_
    refine XO.nil ?_
    refine XE.next ?_
    refine XC.keep [(4, _)] (Sub.cons rfl (Sub.nil _)) ?_
    refine XC.ret ?_
    refine XE.ret1 rfl rfl (post_of (.cons (.there (.there (.there .here))) (.cons (.there (.there .here)) .nil)) rfl ?_)
    exact ⟨congrArg Value.bool (by rw [hR.all]; simp), rfl⟩
end Go.X
