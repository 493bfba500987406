import Derived.Test.YtmkfmnhbckbfbabDoorST
import Derived.Test.YtmkfmnhbckbfbabDoorabLWd
namespace Go.X
open Go Go.Proofs
theorem ag_36 : aggT Tryd.prog 36 = true := by kernel_rfl
theorem ar_33 : arrOf Tryd.prog 33 = some (9, 1) := by kernel_rfl
theorem cl_10 : callable Tryd.prog 10 = true := by kernel_rfl
theorem cl_11 : callable Tryd.prog 11 = true := by kernel_rfl
theorem cl_5 : callable Tryd.prog 5 = true := by kernel_rfl
theorem cl_6 : callable Tryd.prog 6 = true := by kernel_rfl
theorem cl_7 : callable Tryd.prog 7 = true := by kernel_rfl
theorem cl_8 : callable Tryd.prog 8 = true := by kernel_rfl
theorem cl_9 : callable Tryd.prog 9 = true := by kernel_rfl
theorem fo_36_0 : fieldOff Tryd.prog 36 0 = some 0 := by kernel_rfl
theorem fo_36_1 : fieldOff Tryd.prog 36 1 = some 1 := by kernel_rfl
theorem fo_36_2 : fieldOff Tryd.prog 36 2 = some 2 := by kernel_rfl
theorem fo_36_5 : fieldOff Tryd.prog 36 5 = some 5 := by kernel_rfl
theorem sc_4 : scal Tryd.prog 4 = true := by kernel_rfl
theorem sc_9 : scal Tryd.prog 9 = true := by kernel_rfl
theorem sl_22 : sliceOf Tryd.prog 22 = some (36, 8) := by kernel_rfl
theorem sz_36_8 : szOf Tryd.prog 36 = some 8 := by kernel_rfl
theorem sz_4_1 : szOf Tryd.prog 4 = some 1 := by kernel_rfl
set_option maxRecDepth 10000 in
set_option maxHeartbeats 4000000 in
theorem top_some (bl ol len cap : Nat) (hlen : len ≤ cap) (A : Int → ActV) (hA : ∀ z : Int, 0 ≤ z → z < len → (A z).ok) : Spec Tryd.prog 3 [.slice (some ⟨bl, ol, none⟩) len cap]
    [.ro 1 0 32 tab32, .ro bl ol (8 * len) (encActs A)]
    (fun v H1 => v = .bool true ∧ H1 = []) := by
  refine Spec.intro Tryd.func3 rfl rfl ?_
  intro W
  refine XC.seq ?_
  refine XC.region ?_
  refine XO.v (V.assign rfl) rfl ?_
  refine XO.nil ?_
  refine XE.next ?_
  refine XC.keep [(0, _)] (Sub.cons rfl (Sub.nil _)) ?_
  refine XC.seq ?_
  refine XC.region ?_
  refine XO.v (V.build (vs := #[]) rfl (v := .agg #[.int .u16 0, .int .u16 0, .int .i64 0, .int .i64 0, .int .i64 0, .int .i64 0, .int .i64 0, .int .i64 0, .int .i64 0, .int .i64 0, .int .i64 0]) (fun _ => by kernel_rfl)) rfl ?_
  refine XO.box (m := 11) (C := encB BS.init) rfl rfl boxB_init rfl ?_
  intro bz
  refine XO.v (V.assign rfl) rfl ?_
  refine XO.nil ?_
  refine XE.next ?_
  refine XC.keep [(0, _), (3, _)] (Sub.cons rfl (Sub.cons rfl (Sub.nil _))) ?_
  refine XC.seq ?_
  refine XC.seq ?_
  refine XC.region ?_
  refine XO.v (V.move rfl) rfl ?_
  refine XO.call rfl (s_Send _ _ _ _) (.cons .here .nil) cl_5 rfl ?_
  rintro _ _ ⟨rfl, rfl⟩
  refine XO.v (V.errNil rfl Tryd.underlying29 rfl) rfl ?_
  refine XO.v (V.move rfl) rfl ?_
  refine XO.splitF (d := 18) rfl (by decide) ?_
  refine XO.guardRun rfl rfl rfl ?_
  refine XO.v (V.move rfl) rfl ?_
  refine XO.guardRun rfl rfl rfl ?_
  refine XO.call rfl (s_Waits _ _ _ _) (.cons .here .nil) cl_6 rfl ?_
  rintro _ _ ⟨rfl, rfl⟩
  refine XO.guardRun rfl rfl rfl ?_
  refine XO.v (V.not rfl) rfl ?_
  refine XO.v (V.pick rfl rfl rfl rfl) rfl ?_
  refine XO.nil ?_
  refine XE.next ?_
  refine XC.keep [(0, _), (22, _)] (Sub.cons rfl (Sub.cons rfl (Sub.nil _))) ?_
  refine XC.condF rfl (by decide) ?_
  refine XC.skip ?_
  refine XE.next ?_
  refine XC.keep [(0, _)] (Sub.cons rfl (Sub.nil _)) ?_
  refine XC.seq ?_
  refine XC.region ?_
  refine XO.v (V.build (vs := #[]) rfl (v := .agg #[.int .u16 0, .int .u16 0, .int .i64 0, .int .i64 0, .int .i64 0, .int .i64 0, .int .i64 0, .int .i64 0, .int .i64 0, .int .i64 0, .int .i64 0]) (fun _ => by kernel_rfl)) rfl ?_
  refine XO.box (m := 11) (C := encB BS.init) rfl rfl boxB_init rfl ?_
  intro bs
  refine XO.v (V.assign rfl) rfl ?_
  refine XO.nil ?_
  refine XE.next ?_
  refine XC.keep [(0, _), (3, _)] (Sub.cons rfl (Sub.cons rfl (Sub.nil _))) ?_
  refine XC.seq ?_
  refine XC.seq ?_
  refine XC.region ?_
  refine XO.v (V.move rfl) rfl ?_
  refine XO.call rfl (light_any _ _ _ _) .nil cl_7 rfl ?_
  rintro _ _ ⟨rfl, rfl⟩
  refine XO.v (V.notP rfl) rfl ?_
  refine XO.nil ?_
  refine XE.next ?_
  refine XC.keep [(0, _), (3, _), (27, _)] (Sub.cons rfl (Sub.cons rfl (Sub.cons rfl (Sub.nil _)))) ?_
  refine XC.condP rfl (fun h2 => ?_) (fun h2 => ?_)
  · skip
    refine XC.seq ?_
    refine XC.region ?_
    refine XO.v (V.assign rfl) rfl ?_
    refine XO.nil ?_
    refine XE.next ?_
    refine XC.keep [(2, _)] (Sub.cons rfl (Sub.nil _)) ?_
    refine XC.ret ?_
    refine XE.thenRet ?_
    refine XE.ret1 rfl rfl (post_of .nil rfl ?_)
    exact ⟨rfl, rfl⟩
  · skip
    refine XC.skip ?_
    refine XE.next ?_
    refine XC.keep [(0, _), (3, _)] (Sub.cons rfl (Sub.cons rfl (Sub.nil _))) ?_
    refine XC.seq ?_
    refine XC.region ?_
    refine XO.allocZ (z := .agg #[.bool false, .bool false, .bool false, .bool false, .bool false, .bool false, .bool false, .bool false, .bool false]) (m := 9) (C := encF fun _ => false) (by kernel_rfl) rfl boxF_init rfl ?_
    intro bh
    refine XO.allocZ (z := .agg #[.bool false, .bool false, .bool false, .bool false, .bool false, .bool false, .bool false, .bool false, .bool false]) (m := 9) (C := encF fun _ => false) (by kernel_rfl) rfl boxF_init rfl ?_
    intro bw
    refine XO.nil ?_
    refine XE.next ?_
    refine XC.keep [(0, _), (3, _), (4, _), (5, _)] (Sub.cons rfl (Sub.cons rfl (Sub.cons rfl (Sub.cons rfl (Sub.nil _))))) ?_
    refine XC.seq ?_
    refine XC.seq ?_
    refine XC.region ?_
    refine XO.v (V.assign rfl) rfl ?_
    refine XO.nil ?_
    refine XE.next ?_
    refine XC.keep [(0, _), (3, _), (4, _), (5, _), (6, _)] (Sub.cons rfl (Sub.cons rfl (Sub.cons rfl (Sub.cons rfl (Sub.cons rfl (Sub.nil _)))))) ?_
    refine XC.block ?_
    refine XC.loop (σ := BS × (Int → Bool) × (Int → Bool) × Int) (fun x => (len - x.2.2.2).toNat) (fun x => TInv (x.1, x.2.1, x.2.2.1) ∧ 0 ≤ x.2.2.2 ∧ x.2.2.2 ≤ len) (fun x => [(6, .int .i64 x.2.2.2), (0, .slice (some ⟨bl, ol, none⟩) len cap), (3, ptr bs 0 0), (4, ptr bh 0 0), (5, ptr bw 0 0)]) (fun x => XM W (foot [.ro 1 0 32 tab32, .ro bl ol (8 * len) (encActs A)]) [.cells bs 0 11 (encB x.1), .cells bh 0 9 (encF x.2.1), .cells bw 0 9 (encF x.2.2.1), .ro 1 0 32 tab32, .ro bl ol (8 * len) (encActs A)]) ((BS.init, (fun _ => false), (fun _ => false), 0)) ?_ (Sub.cons rfl (Sub.cons rfl (Sub.cons rfl (Sub.cons rfl (Sub.cons rfl (Sub.nil _)))))) (fun _ hw => XM.pick (.cons (.there (.there .here)) (.cons (.there .here) (.cons .here (.cons (.there .here) (.cons (.there .here) .nil))))) hw) ?_
    · skip
      exact ⟨⟨rfl, fun _ _ _ h => h, fun _ _ _ => rfl⟩, by simp, by simp⟩
    intro x hx
    obtain ⟨hi, hx0, hx1⟩ := hx
    refine XC.seq ?_
    refine XC.seq ?_
    refine XC.region ?_
    refine XO.v (V.move rfl) rfl ?_
    refine XO.v (V.move rfl) rfl ?_
    refine XO.v (V.lenSl rfl Tryd.underlying22) rfl ?_
    refine XO.v (V.cmp rfl rfl rfl) rfl ?_
    refine XO.nil ?_
    refine XE.next ?_
    refine XC.keep [(0, _), (3, _), (4, _), (5, _), (6, _), (31, _)] (Sub.cons rfl (Sub.cons rfl (Sub.cons rfl (Sub.cons rfl (Sub.cons rfl (Sub.cons rfl (Sub.nil _))))))) ?_
    refine XC.condP rfl (fun h3 => ?_) (fun h3 => ?_)
    · skip
      refine XC.skip ?_
      refine XE.next ?_
      refine XC.keep [(0, _), (3, _), (4, _), (5, _), (6, _)] (Sub.cons rfl (Sub.cons rfl (Sub.cons rfl (Sub.cons rfl (Sub.cons rfl (Sub.nil _)))))) ?_
      refine XC.seq ?_
      refine XC.block ?_
      refine XC.seq ?_
      refine XC.region ?_
      refine XO.v (V.move rfl) rfl ?_
      refine XO.v (V.move rfl) rfl ?_
      refine XO.v (V.indexSl rfl rfl sl_22 (by omega)) rfl ?_
      refine XO.v (V.loadAggRo rfl (inXM (.there (.there (.there (.there .here))))) (acts_load A len _ (by omega)) ag_36 sz_36_8) rfl ?_
      refine XO.allocZ (z := .agg actZero) (m := 8) (C := cellsOf actZero) (by kernel_rfl) rfl (fun _ _ => rfl) rfl ?_
      intro ba
      refine XO.storeAgg rfl rfl .here (acts_store _) ⟨rfl, rfl⟩ sz_36_8 ?_
      refine XO.nil ?_
      refine XE.next ?_
      refine XC.keep [(0, _), (3, _), (4, _), (5, _), (6, _), (7, _)] (Sub.cons rfl (Sub.cons rfl (Sub.cons rfl (Sub.cons rfl (Sub.cons rfl (Sub.cons rfl (Sub.nil _))))))) ?_
      refine XC.cutG (σ := BS × (Int → Bool) × (Int → Bool)) (fun y => TInv y) (fun y => [(0, .slice (some ⟨bl, ol, none⟩) len cap), (3, ptr bs 0 0), (4, ptr bh 0 0), (5, ptr bw 0 0), (6, .int .i64 x.2.2.2)]) (fun y => XM W (foot [.ro 1 0 32 tab32, .ro bl ol (8 * len) (encActs A)]) [.cells bs 0 11 (encB y.1), .cells bh 0 9 (encF y.2.1), .cells bw 0 9 (encF y.2.2), .ro 1 0 32 tab32, .ro bl ol (8 * len) (encActs A)]) ?_ ?_
      · skip
        refine XC.seq ?_
        refine XC.region ?_
        refine XO.v (V.fieldAddr rfl fo_36_0) rfl ?_
        refine XO.v (V.load rfl (inXM .here) (encAct.ld_Kind _) sc_9) rfl ?_
        refine XO.nil ?_
        refine XE.next ?_
        refine XC.keep [(0, _), (3, _), (4, _), (5, _), (6, _), (7, _), (39, _)] (Sub.cons rfl (Sub.cons rfl (Sub.cons rfl (Sub.cons rfl (Sub.cons rfl (Sub.cons rfl (Sub.cons rfl (Sub.nil _)))))))) ?_
        refine XC.block ?_
        refine XC.seq ?_
        refine XC.region ?_
        refine XO.v (V.strCmp rfl rfl rfl) rfl ?_
        refine XO.v (V.assign rfl) rfl ?_
        refine XO.nil ?_
        refine XE.next ?_
        refine XC.keep [(0, _), (3, _), (4, _), (5, _), (6, _), (7, _), (39, _), (40, _)] (Sub.cons rfl (Sub.cons rfl (Sub.cons rfl (Sub.cons rfl (Sub.cons rfl (Sub.cons rfl (Sub.cons rfl (Sub.cons rfl (Sub.nil _))))))))) ?_
        refine XC.condP rfl (fun h4 => ?_) (fun h4 => ?_)
        · skip
          refine XC.seq ?_
          refine XC.region ?_
          refine XO.v (V.move rfl) rfl ?_
          refine XO.v (V.fieldAddr rfl fo_36_1) rfl ?_
          refine XO.v (V.load rfl (inXM .here) (encAct.ld_A _) sc_3) rfl ?_
          refine XO.call rfl (s_Send _ _ _ _) (.cons (.there .here) .nil) cl_5 rfl ?_
          rintro _ _ ⟨rfl, rfl⟩
          refine XO.v (V.errNil rfl Tryd.underlying29 rfl) rfl ?_
          refine XO.nil ?_
          refine XE.next ?_
          refine XC.keep [(0, _), (3, _), (4, _), (5, _), (6, _), (7, _), (46, _)] (Sub.cons rfl (Sub.cons rfl (Sub.cons rfl (Sub.cons rfl (Sub.cons rfl (Sub.cons rfl (Sub.cons rfl (Sub.nil _)))))))) ?_
          refine XC.condP rfl (fun h5 => ?_) (fun h5 => ?_)
          · skip
            have hn := BS.send_zero h5
            refine XC.regionQ mixed (f := 14) (l := #[false, false, false, false, false, false, false, false, false, false, false, false, false, false]) rfl rfl XM.drawn' ?_
            refine XQ.pv (i := 0) (l' := #[true, false, false, false, false, false, false, false, false, false, false, false, false, false]) rfl (by kernel_rfl) rfl (V.fieldAddr rfl fo_36_1) rfl rfl ?_
            refine XQ.load (i := 1) (l' := #[true, true, false, false, false, false, false, false, false, false, false, false, false, false]) (.cells _ _ _ _) [13] rfl (by kernel_rfl) rfl (.there .here) (V.load rfl inEnt (encAct.ld_A _) sc_3) rfl (by kernel_rfl) rfl ?_
            refine XQ.pv (i := 2) (l' := #[true, true, true, false, false, false, false, false, false, false, false, false, false, false]) rfl (by kernel_rfl) rfl (V.move rfl) rfl rfl ?_
            refine XQ.pv (i := 3) (l' := #[true, true, true, true, false, false, false, false, false, false, false, false, false, false]) rfl (by kernel_rfl) rfl (V.fieldAddr rfl fo_36_1) rfl rfl ?_
            refine XQ.load (i := 4) (l' := #[true, true, true, true, true, false, false, false, false, false, false, false, false, false]) (.cells _ _ _ _) [5, 13] rfl (by kernel_rfl) rfl (.there .here) (V.load rfl inEnt (encAct.ld_A _) sc_3) rfl (by kernel_rfl) rfl ?_
            refine XQ.call (i := 5) (l' := #[true, true, true, true, true, true, false, false, false, false, false, false, false, false]) rfl (by kernel_rfl) rfl rfl (s_Waits _ _ _ _) (.cons .here .nil) cl_6 rfl (by rintro _ _ ⟨rfl, rfl⟩; all_goals (intro _ hw'; exact ⟨fun hs => (hs 5 (by simp) rfl).elim, fun _ => inXM (.there .here) _ hw', trivial⟩)) ?_
            rintro _ _ ⟨rfl, rfl⟩
            refine XQ.pv (i := 6) (l' := #[true, true, true, true, true, true, true, false, false, false, false, false, false, false]) rfl (by kernel_rfl) rfl (V.move rfl) rfl rfl ?_
            refine XQ.split (d := 53) rfl (fun h6 => ?_) (fun h6 => ?_)
            · try simp at h6
              refine XQ.skip (i := 7) (l' := #[true, true, true, true, true, true, true, true, false, false, false, false, false, false]) rfl rfl rfl rfl rfl (by kernel_rfl) rfl rfl rfl ?_
              refine XQ.skip (i := 8) (l' := #[true, true, true, true, true, true, true, true, true, false, false, false, false, false]) rfl rfl rfl rfl rfl (by kernel_rfl) rfl rfl rfl ?_
              refine XQ.skip (i := 9) (l' := #[true, true, true, true, true, true, true, true, true, true, false, false, false, false]) rfl rfl rfl rfl rfl (by kernel_rfl) rfl rfl rfl ?_
              refine XQ.skip (i := 10) (l' := #[true, true, true, true, true, true, true, true, true, true, true, false, false, false]) rfl rfl rfl rfl rfl (by kernel_rfl) rfl rfl rfl ?_
              refine XQ.pv (i := 11) (l' := #[true, true, true, true, true, true, true, true, true, true, true, true, false, false]) rfl (by kernel_rfl) rfl (V.pick rfl rfl rfl rfl) rfl rfl ?_
              refine XQ.pv (i := 12) (l' := #[true, true, true, true, true, true, true, true, true, true, true, true, true, false]) rfl (by kernel_rfl) rfl (V.indexArr rfl rfl ar_33 (by omega)) rfl rfl ?_
              refine XQ.store (i := 13) (l' := #[true, true, true, true, true, true, true, true, true, true, true, true, true, true]) rfl (by kernel_rfl) rfl rfl rfl (.there (.there (.there .here))) (encF.st_I _ _ (by omega) _) rfl sz_4_1 (fun _ hw' => ⟨fun hs => (hs 5 (by simp) rfl).elim, fun hs => (hs 13 (by simp) rfl).elim, trivial⟩) ?_
              refine XQ.done (by kernel_rfl) ?_
              refine XE.blockNormal ?_
              refine XE.meetG (((x.1.send (A x.2.2.2).a).2, x.2.1, fset x.2.2.1 (A x.2.2.2).a true)) ?_ (Sub.cons rfl (Sub.cons rfl (Sub.cons rfl (Sub.cons rfl (Sub.cons rfl (Sub.nil _)))))) (fun _ hw => XM.pick (.cons .here (.cons (.there .here) (.cons (.there .here) (.cons (.there .here) (.cons (.there .here) .nil))))) hw)
              · exact hi.send (fun _ => rfl)
            · try simp at h6
              refine XQ.pvG (i := 7) (l' := #[true, true, true, true, true, true, true, true, false, false, false, false, false, false]) rfl rfl rfl (by kernel_rfl) rfl (V.fieldAddr rfl fo_36_1) rfl rfl ?_
              refine XQ.loadG (i := 8) (l' := #[true, true, true, true, true, true, true, true, true, false, false, false, false, false]) (.cells _ _ _ _) [13] rfl rfl rfl (by kernel_rfl) rfl (.there .here) (V.load rfl inEnt (encAct.ld_A _) sc_3) rfl (by kernel_rfl) rfl ?_
              refine XQ.pvG (i := 9) (l' := #[true, true, true, true, true, true, true, true, true, true, false, false, false, false]) rfl rfl rfl (by kernel_rfl) rfl (V.indexArr rfl rfl ar_33 (by omega)) rfl rfl ?_
              refine XQ.loadG (i := 10) (l' := #[true, true, true, true, true, true, true, true, true, true, true, false, false, false]) (.cells _ _ _ _) [13] rfl rfl rfl (by kernel_rfl) rfl (.there (.there (.there .here))) (V.load rfl inEnt (encF.ld_I _ _ (by omega)) sc_4) rfl (by kernel_rfl) rfl ?_
              refine XQ.pv (i := 11) (l' := #[true, true, true, true, true, true, true, true, true, true, true, true, false, false]) rfl (by kernel_rfl) rfl (V.pick rfl rfl rfl rfl) rfl rfl ?_
              refine XQ.pv (i := 12) (l' := #[true, true, true, true, true, true, true, true, true, true, true, true, true, false]) rfl (by kernel_rfl) rfl (V.indexArr rfl rfl ar_33 (by omega)) rfl rfl ?_
              refine XQ.store (i := 13) (l' := #[true, true, true, true, true, true, true, true, true, true, true, true, true, true]) rfl (by kernel_rfl) rfl rfl rfl (.there (.there (.there .here))) (encF.st_I _ _ (by omega) _) rfl sz_4_1 (fun _ hw' => ⟨fun hs => (hs 13 (by simp) rfl).elim, fun hs => (hs 13 (by simp) rfl).elim, fun hs => (hs 5 (by simp) rfl).elim, fun hs => (hs 13 (by simp) rfl).elim, trivial⟩) ?_
              refine XQ.done (by kernel_rfl) ?_
              refine XE.blockNormal ?_
              refine XE.meetG (((x.1.send (A x.2.2.2).a).2, x.2.1, fset x.2.2.1 (A x.2.2.2).a (x.2.2.1 (A x.2.2.2).a))) ?_ (Sub.cons rfl (Sub.cons rfl (Sub.cons rfl (Sub.cons rfl (Sub.cons rfl (Sub.nil _)))))) (fun _ hw => XM.pick (.cons .here (.cons (.there .here) (.cons (.there .here) (.cons (.there .here) (.cons (.there .here) .nil))))) hw)
              · exact hi.send (fun q => by rw [(BS.num_iff _).2 hn] at *; simp_all)
          · skip
            refine XC.skip ?_
            refine XE.blockNormal ?_
            refine XE.meetG (((x.1.send (A x.2.2.2).a).2, x.2.1, x.2.2.1)) ?_ (Sub.cons rfl (Sub.cons rfl (Sub.cons rfl (Sub.cons rfl (Sub.cons rfl (Sub.nil _)))))) (fun _ hw => XM.pick (.cons .here (.cons (.there .here) (.cons (.there .here) (.cons (.there .here) (.cons (.there .here) .nil))))) hw)
            · rw [BS.send_bad (by assumption)]; exact hi
        · skip
          refine XC.seq ?_
          refine XC.region ?_
          refine XO.v (V.strCmp rfl rfl rfl) rfl ?_
          refine XO.v (V.assign rfl) rfl ?_
          refine XO.nil ?_
          refine XE.next ?_
          refine XC.keep [(0, _), (3, _), (4, _), (5, _), (6, _), (7, _), (39, _), (60, _)] (Sub.cons rfl (Sub.cons rfl (Sub.cons rfl (Sub.cons rfl (Sub.cons rfl (Sub.cons rfl (Sub.cons rfl (Sub.cons rfl (Sub.nil _))))))))) ?_
          refine XC.condP rfl (fun h7 => ?_) (fun h7 => ?_)
          · skip
            refine XC.seq ?_
            refine XC.region ?_
            refine XO.v (V.move rfl) rfl ?_
            refine XO.v (V.fieldAddr rfl fo_36_1) rfl ?_
            refine XO.v (V.load rfl (inXM .here) (encAct.ld_A _) sc_3) rfl ?_
            refine XO.v (V.fieldAddr rfl fo_36_5) rfl ?_
            refine XO.v (V.load rfl (inXM .here) (encAct.ld_On _) sc_4) rfl ?_
            refine XO.call rfl (s_Hold _ _ _ _ _) (.cons (.there .here) .nil) cl_8 rfl ?_
            rintro _ _ ⟨rfl, rfl⟩
            refine XO.v (V.errNil rfl Tryd.underlying29 rfl) rfl ?_
            refine XO.nil ?_
            refine XE.next ?_
            refine XC.keep [(0, _), (3, _), (4, _), (5, _), (6, _), (7, _), (68, _)] (Sub.cons rfl (Sub.cons rfl (Sub.cons rfl (Sub.cons rfl (Sub.cons rfl (Sub.cons rfl (Sub.cons rfl (Sub.nil _)))))))) ?_
            refine XC.condP rfl (fun h8 => ?_) (fun h8 => ?_)
            · skip
              have hn := BS.hold_zero h8
              refine XC.region ?_
              refine XO.v (V.fieldAddr rfl fo_36_1) rfl ?_
              refine XO.v (V.load rfl (inXM (.there .here)) (encAct.ld_A _) sc_3) rfl ?_
              refine XO.v (V.fieldAddr rfl fo_36_5) rfl ?_
              refine XO.v (V.load rfl (inXM (.there .here)) (encAct.ld_On _) sc_4) rfl ?_
              refine XO.v (V.indexArr rfl rfl ar_33 (by omega)) rfl ?_
              refine XO.store rfl rfl (.there (.there .here)) (encF.st_I _ _ (by omega) _) rfl sz_4_1 ?_
              refine XO.nil ?_
              refine XE.blockNormal ?_
              refine XE.meetG (((x.1.hold (A x.2.2.2).a (A x.2.2.2).on).2, fset x.2.1 (A x.2.2.2).a (A x.2.2.2).on, x.2.2.1)) ?_ (Sub.cons rfl (Sub.cons rfl (Sub.cons rfl (Sub.cons rfl (Sub.cons rfl (Sub.nil _)))))) (fun _ hw => XM.pick (.cons .here (.cons (.there .here) (.cons (.there .here) (.cons (.there .here) (.cons (.there .here) .nil))))) hw)
              · exact hi.hold (by assumption)
            · skip
              refine XC.skip ?_
              refine XE.blockNormal ?_
              refine XE.meetG (((x.1.hold (A x.2.2.2).a (A x.2.2.2).on).2, x.2.1, x.2.2.1)) ?_ (Sub.cons rfl (Sub.cons rfl (Sub.cons rfl (Sub.cons rfl (Sub.cons rfl (Sub.nil _)))))) (fun _ hw => XM.pick (.cons .here (.cons (.there .here) (.cons (.there .here) (.cons (.there .here) (.cons (.there .here) .nil))))) hw)
              · rw [BS.hold_bad (by assumption)]; exact hi
          · skip
            refine XC.seq ?_
            refine XC.region ?_
            refine XO.v (V.strCmp rfl rfl rfl) rfl ?_
            refine XO.v (V.assign rfl) rfl ?_
            refine XO.nil ?_
            refine XE.next ?_
            refine XC.keep [(0, _), (3, _), (4, _), (5, _), (6, _), (7, _), (39, _), (74, _)] (Sub.cons rfl (Sub.cons rfl (Sub.cons rfl (Sub.cons rfl (Sub.cons rfl (Sub.cons rfl (Sub.cons rfl (Sub.cons rfl (Sub.nil _))))))))) ?_
            refine XC.condP rfl (fun h9 => ?_) (fun h9 => ?_)
            · skip
              refine XC.seq ?_
              refine XC.seq ?_
              refine XC.region ?_
              refine XO.v (V.move rfl) rfl ?_
              refine XO.v (V.fieldAddr rfl fo_36_1) rfl ?_
              refine XO.v (V.load rfl (inXM .here) (encAct.ld_A _) sc_3) rfl ?_
              refine XO.v (V.fieldAddr rfl fo_36_2) rfl ?_
              refine XO.v (V.load rfl (inXM .here) (encAct.ld_B _) sc_3) rfl ?_
              refine XO.call rfl (s_How _ _ _ _ _) (.cons (.there .here) .nil) cl_9 rfl ?_
              rintro _ _ ⟨rfl, rfl⟩
              refine XO.v (V.errNil rfl Tryd.underlying29 rfl) rfl ?_
              refine XO.v (V.move rfl) rfl ?_
              refine XO.splitP (d := 83) rfl (fun h10 => ?_) (fun h10 => ?_)
              · skip
                have hn := BS.set_zero h10
                refine XO.guardRun rfl rfl rfl ?_
                refine XO.v (V.fieldAddr rfl fo_36_2) rfl ?_
                refine XO.guardRun rfl rfl rfl ?_
                refine XO.v (V.load rfl (inXM (.there .here)) (encAct.ld_B _) sc_3) rfl ?_
                refine XO.guardRun rfl rfl rfl ?_
                refine XO.v (V.cmp rfl rfl rfl) rfl ?_
                refine XO.v (V.pick rfl rfl rfl rfl) rfl ?_
                refine XO.nil ?_
                refine XE.next ?_
                refine XC.keep [(0, _), (3, _), (4, _), (5, _), (6, _), (7, _), (87, _)] (Sub.cons rfl (Sub.cons rfl (Sub.cons rfl (Sub.cons rfl (Sub.cons rfl (Sub.cons rfl (Sub.cons rfl (Sub.nil _)))))))) ?_
                refine XC.condP rfl (fun h11 => ?_) (fun h11 => ?_)
                · skip
                  refine XC.region ?_
                  refine XO.v (V.fieldAddr rfl fo_36_1) rfl ?_
                  refine XO.v (V.load rfl (inXM (.there .here)) (encAct.ld_A _) sc_3) rfl ?_
                  refine XO.v (V.indexArr rfl rfl ar_33 (by omega)) rfl ?_
                  refine XO.store rfl rfl (.there (.there (.there .here))) (encF.st_I _ _ (by omega) _) rfl sz_4_1 ?_
                  refine XO.nil ?_
                  refine XE.next ?_
                  refine XC.keep [(0, _), (3, _), (4, _), (5, _), (6, _), (7, _)] (Sub.cons rfl (Sub.cons rfl (Sub.cons rfl (Sub.cons rfl (Sub.cons rfl (Sub.cons rfl (Sub.nil _))))))) ?_
                  refine XC.seq ?_
                  refine XC.region ?_
                  refine XO.v (V.fieldAddr rfl fo_36_1) rfl ?_
                  refine XO.v (V.load rfl (inXM (.there .here)) (encAct.ld_A _) sc_3) rfl ?_
                  refine XO.v (V.cmp rfl rfl rfl) rfl ?_
                  refine XO.v (V.move rfl) rfl ?_
                  refine XO.splitP (d := 94) rfl (fun h12 => ?_) (fun h12 => ?_)
                  · skip
                    refine XO.guardRun rfl rfl rfl ?_
                    refine XO.v (V.fieldAddr rfl fo_36_2) rfl ?_
                    refine XO.guardRun rfl rfl rfl ?_
                    refine XO.v (V.load rfl (inXM (.there .here)) (encAct.ld_B _) sc_3) rfl ?_
                    refine XO.guardRun rfl rfl rfl ?_
                    refine XO.v (V.cmp rfl rfl rfl) rfl ?_
                    refine XO.v (V.pick rfl rfl rfl rfl) rfl ?_
                    refine XO.nil ?_
                    refine XE.next ?_
                    refine XC.keep [(0, _), (3, _), (4, _), (5, _), (6, _), (98, _)] (Sub.cons rfl (Sub.cons rfl (Sub.cons rfl (Sub.cons rfl (Sub.cons rfl (Sub.cons rfl (Sub.nil _))))))) ?_
                    refine XC.condP rfl (fun h13 => ?_) (fun h13 => ?_)
                    · skip
                      refine XC.region ?_
                      refine XO.v (V.indexArr rfl rfl ar_33 (by omega)) rfl ?_
                      refine XO.store rfl rfl (.there (.there (.there .here))) (encF.st_I _ _ (by omega) _) rfl sz_4_1 ?_
                      refine XO.nil ?_
                      refine XE.blockNormal ?_
                      refine XE.meetG (((x.1.set (A x.2.2.2).a (A x.2.2.2).b).2, x.2.1, fset (fset x.2.2.1 (A x.2.2.2).a false) 3 false)) ?_ (Sub.cons rfl (Sub.cons rfl (Sub.cons rfl (Sub.cons rfl (Sub.cons rfl (Sub.nil _)))))) (fun _ hw => XM.pick (.cons .here (.cons (.there .here) (.cons (.there .here) (.cons (.there .here) (.cons (.there .here) .nil))))) hw)
                      · exfalso; omega
                    · skip
                      refine XC.skip ?_
                      refine XE.blockNormal ?_
                      refine XE.meetG (((x.1.set (A x.2.2.2).a (A x.2.2.2).b).2, x.2.1, fset x.2.2.1 (A x.2.2.2).a false)) ?_ (Sub.cons rfl (Sub.cons rfl (Sub.cons rfl (Sub.cons rfl (Sub.cons rfl (Sub.nil _)))))) (fun _ hw => XM.pick (.cons .here (.cons (.there .here) (.cons (.there .here) (.cons (.there .here) (.cons (.there .here) .nil))))) hw)
                      · refine hi.set (fset_wt ?_)
                        exact BS.set_clearK (by assumption) (by assumption)
                  · skip
                    refine XO.guardSkip rfl rfl rfl rfl rfl ?_
                    refine XO.guardSkip rfl rfl rfl rfl rfl ?_
                    refine XO.guardSkip rfl rfl rfl rfl rfl ?_
                    refine XO.v (V.pick rfl rfl rfl rfl) rfl ?_
                    refine XO.nil ?_
                    refine XE.next ?_
                    refine XC.keep [(0, _), (3, _), (4, _), (5, _), (6, _), (98, _)] (Sub.cons rfl (Sub.cons rfl (Sub.cons rfl (Sub.cons rfl (Sub.cons rfl (Sub.cons rfl (Sub.nil _))))))) ?_
                    refine XC.condF rfl rfl ?_
                    refine XC.skip ?_
                    refine XE.blockNormal ?_
                    refine XE.meetG (((x.1.set (A x.2.2.2).a (A x.2.2.2).b).2, x.2.1, fset x.2.2.1 (A x.2.2.2).a false)) ?_ (Sub.cons rfl (Sub.cons rfl (Sub.cons rfl (Sub.cons rfl (Sub.cons rfl (Sub.nil _)))))) (fun _ hw => XM.pick (.cons .here (.cons (.there .here) (.cons (.there .here) (.cons (.there .here) (.cons (.there .here) .nil))))) hw)
                    · refine hi.set (fset_wt ?_)
                      exact BS.set_clearK (by assumption) (by assumption)
                · skip
                  refine XC.skip ?_
                  refine XE.next ?_
                  refine XC.keep [(0, _), (3, _), (4, _), (5, _), (6, _), (7, _)] (Sub.cons rfl (Sub.cons rfl (Sub.cons rfl (Sub.cons rfl (Sub.cons rfl (Sub.cons rfl (Sub.nil _))))))) ?_
                  refine XC.seq ?_
                  refine XC.region ?_
                  refine XO.v (V.fieldAddr rfl fo_36_1) rfl ?_
                  refine XO.v (V.load rfl (inXM (.there .here)) (encAct.ld_A _) sc_3) rfl ?_
                  refine XO.v (V.cmp rfl rfl rfl) rfl ?_
                  refine XO.v (V.move rfl) rfl ?_
                  refine XO.splitP (d := 94) rfl (fun h14 => ?_) (fun h14 => ?_)
                  · skip
                    refine XO.guardRun rfl rfl rfl ?_
                    refine XO.v (V.fieldAddr rfl fo_36_2) rfl ?_
                    refine XO.guardRun rfl rfl rfl ?_
                    refine XO.v (V.load rfl (inXM (.there .here)) (encAct.ld_B _) sc_3) rfl ?_
                    refine XO.guardRun rfl rfl rfl ?_
                    refine XO.v (V.cmp rfl rfl rfl) rfl ?_
                    refine XO.v (V.pick rfl rfl rfl rfl) rfl ?_
                    refine XO.nil ?_
                    refine XE.next ?_
                    refine XC.keep [(0, _), (3, _), (4, _), (5, _), (6, _), (98, _)] (Sub.cons rfl (Sub.cons rfl (Sub.cons rfl (Sub.cons rfl (Sub.cons rfl (Sub.cons rfl (Sub.nil _))))))) ?_
                    refine XC.condP rfl (fun h15 => ?_) (fun h15 => ?_)
                    · skip
                      refine XC.region ?_
                      refine XO.v (V.indexArr rfl rfl ar_33 (by omega)) rfl ?_
                      refine XO.store rfl rfl (.there (.there (.there .here))) (encF.st_I _ _ (by omega) _) rfl sz_4_1 ?_
                      refine XO.nil ?_
                      refine XE.blockNormal ?_
                      refine XE.meetG (((x.1.set (A x.2.2.2).a (A x.2.2.2).b).2, x.2.1, fset x.2.2.1 3 false)) ?_ (Sub.cons rfl (Sub.cons rfl (Sub.cons rfl (Sub.cons rfl (Sub.cons rfl (Sub.nil _)))))) (fun _ hw => XM.pick (.cons .here (.cons (.there .here) (.cons (.there .here) (.cons (.there .here) (.cons (.there .here) .nil))))) hw)
                      · refine hi.set (fset_wt ?_)
                        have ha : (A x.2.2.2).a = 3 := by assumption
                        have hb : (A x.2.2.2).b = 0 := by assumption
                        rw [ha, hb]; exact BS.set_clear3
                    · skip
                      refine XC.skip ?_
                      refine XE.blockNormal ?_
                      refine XE.meetG (((x.1.set (A x.2.2.2).a (A x.2.2.2).b).2, x.2.1, x.2.2.1)) ?_ (Sub.cons rfl (Sub.cons rfl (Sub.cons rfl (Sub.cons rfl (Sub.cons rfl (Sub.nil _)))))) (fun _ hw => XM.pick (.cons .here (.cons (.there .here) (.cons (.there .here) (.cons (.there .here) (.cons (.there .here) .nil))))) hw)
                      · exact hi.set (fun _ => .inl rfl)
                  · skip
                    refine XO.guardSkip rfl rfl rfl rfl rfl ?_
                    refine XO.guardSkip rfl rfl rfl rfl rfl ?_
                    refine XO.guardSkip rfl rfl rfl rfl rfl ?_
                    refine XO.v (V.pick rfl rfl rfl rfl) rfl ?_
                    refine XO.nil ?_
                    refine XE.next ?_
                    refine XC.keep [(0, _), (3, _), (4, _), (5, _), (6, _), (98, _)] (Sub.cons rfl (Sub.cons rfl (Sub.cons rfl (Sub.cons rfl (Sub.cons rfl (Sub.cons rfl (Sub.nil _))))))) ?_
                    refine XC.condF rfl rfl ?_
                    refine XC.skip ?_
                    refine XE.blockNormal ?_
                    refine XE.meetG (((x.1.set (A x.2.2.2).a (A x.2.2.2).b).2, x.2.1, x.2.2.1)) ?_ (Sub.cons rfl (Sub.cons rfl (Sub.cons rfl (Sub.cons rfl (Sub.cons rfl (Sub.nil _)))))) (fun _ hw => XM.pick (.cons .here (.cons (.there .here) (.cons (.there .here) (.cons (.there .here) (.cons (.there .here) .nil))))) hw)
                    · exact hi.set (fun _ => .inl rfl)
              · skip
                skip
                refine XO.guardSkip rfl rfl rfl rfl rfl ?_
                refine XO.guardSkip rfl rfl rfl rfl rfl ?_
                refine XO.guardSkip rfl rfl rfl rfl rfl ?_
                refine XO.v (V.pick rfl rfl rfl rfl) rfl ?_
                refine XO.nil ?_
                refine XE.next ?_
                refine XC.keep [(0, _), (3, _), (4, _), (5, _), (6, _), (7, _), (87, _)] (Sub.cons rfl (Sub.cons rfl (Sub.cons rfl (Sub.cons rfl (Sub.cons rfl (Sub.cons rfl (Sub.cons rfl (Sub.nil _)))))))) ?_
                refine XC.condF rfl rfl ?_
                refine XC.skip ?_
                refine XE.next ?_
                refine XC.keep [(0, _), (3, _), (4, _), (5, _), (6, _), (7, _)] (Sub.cons rfl (Sub.cons rfl (Sub.cons rfl (Sub.cons rfl (Sub.cons rfl (Sub.cons rfl (Sub.nil _))))))) ?_
                refine XC.seq ?_
                refine XC.region ?_
                refine XO.v (V.fieldAddr rfl fo_36_1) rfl ?_
                refine XO.v (V.load rfl (inXM (.there .here)) (encAct.ld_A _) sc_3) rfl ?_
                refine XO.v (V.cmp rfl rfl rfl) rfl ?_
                refine XO.v (V.move rfl) rfl ?_
                refine XO.splitP (d := 94) rfl (fun h16 => ?_) (fun h16 => ?_)
                · skip
                  refine XO.guardRun rfl rfl rfl ?_
                  refine XO.v (V.fieldAddr rfl fo_36_2) rfl ?_
                  refine XO.guardRun rfl rfl rfl ?_
                  refine XO.v (V.load rfl (inXM (.there .here)) (encAct.ld_B _) sc_3) rfl ?_
                  refine XO.guardRun rfl rfl rfl ?_
                  refine XO.v (V.cmp rfl rfl rfl) rfl ?_
                  refine XO.v (V.pick rfl rfl rfl rfl) rfl ?_
                  refine XO.nil ?_
                  refine XE.next ?_
                  refine XC.keep [(0, _), (3, _), (4, _), (5, _), (6, _), (98, _)] (Sub.cons rfl (Sub.cons rfl (Sub.cons rfl (Sub.cons rfl (Sub.cons rfl (Sub.cons rfl (Sub.nil _))))))) ?_
                  refine XC.condP rfl (fun h17 => ?_) (fun h17 => ?_)
                  · skip
                    refine XC.region ?_
                    refine XO.v (V.indexArr rfl rfl ar_33 (by omega)) rfl ?_
                    refine XO.store rfl rfl (.there (.there (.there .here))) (encF.st_I _ _ (by omega) _) rfl sz_4_1 ?_
                    refine XO.nil ?_
                    refine XE.blockNormal ?_
                    refine XE.meetG (((x.1.set (A x.2.2.2).a (A x.2.2.2).b).2, x.2.1, fset x.2.2.1 3 false)) ?_ (Sub.cons rfl (Sub.cons rfl (Sub.cons rfl (Sub.cons rfl (Sub.cons rfl (Sub.nil _)))))) (fun _ hw => XM.pick (.cons .here (.cons (.there .here) (.cons (.there .here) (.cons (.there .here) (.cons (.there .here) .nil))))) hw)
                    · refine hi.set (fset_wt ?_)
                      have ha : (A x.2.2.2).a = 3 := by assumption
                      have hb : (A x.2.2.2).b = 0 := by assumption
                      rw [ha, hb]; exact BS.set_clear3
                  · skip
                    refine XC.skip ?_
                    refine XE.blockNormal ?_
                    refine XE.meetG (((x.1.set (A x.2.2.2).a (A x.2.2.2).b).2, x.2.1, x.2.2.1)) ?_ (Sub.cons rfl (Sub.cons rfl (Sub.cons rfl (Sub.cons rfl (Sub.cons rfl (Sub.nil _)))))) (fun _ hw => XM.pick (.cons .here (.cons (.there .here) (.cons (.there .here) (.cons (.there .here) (.cons (.there .here) .nil))))) hw)
                    · exact hi.set (fun _ => .inl rfl)
                · skip
                  refine XO.guardSkip rfl rfl rfl rfl rfl ?_
                  refine XO.guardSkip rfl rfl rfl rfl rfl ?_
                  refine XO.guardSkip rfl rfl rfl rfl rfl ?_
                  refine XO.v (V.pick rfl rfl rfl rfl) rfl ?_
                  refine XO.nil ?_
                  refine XE.next ?_
                  refine XC.keep [(0, _), (3, _), (4, _), (5, _), (6, _), (98, _)] (Sub.cons rfl (Sub.cons rfl (Sub.cons rfl (Sub.cons rfl (Sub.cons rfl (Sub.cons rfl (Sub.nil _))))))) ?_
                  refine XC.condF rfl rfl ?_
                  refine XC.skip ?_
                  refine XE.blockNormal ?_
                  refine XE.meetG (((x.1.set (A x.2.2.2).a (A x.2.2.2).b).2, x.2.1, x.2.2.1)) ?_ (Sub.cons rfl (Sub.cons rfl (Sub.cons rfl (Sub.cons rfl (Sub.cons rfl (Sub.nil _)))))) (fun _ hw => XM.pick (.cons .here (.cons (.there .here) (.cons (.there .here) (.cons (.there .here) (.cons (.there .here) .nil))))) hw)
                  · exact hi.set (fun _ => .inl rfl)
            · skip
              refine XC.seq ?_
              refine XC.region ?_
              refine XO.v (V.strCmp rfl rfl rfl) rfl ?_
              refine XO.v (V.assign rfl) rfl ?_
              refine XO.nil ?_
              refine XE.next ?_
              refine XC.keep [(0, _), (3, _), (4, _), (5, _), (6, _), (100, _)] (Sub.cons rfl (Sub.cons rfl (Sub.cons rfl (Sub.cons rfl (Sub.cons rfl (Sub.cons rfl (Sub.nil _))))))) ?_
              refine XC.condP rfl (fun h18 => ?_) (fun h18 => ?_)
              · skip
                refine XC.seq ?_
                refine XC.region ?_
                refine XO.v (V.move rfl) rfl ?_
                refine XO.callR 1 rfl (s_Take _ _ x.1 hi.w0) (.cons (.there .here) (.cons (.there (.there (.there .here))) .nil)) rfl cl_10 rfl ?_
                rintro _ _ ⟨rfl, rfl⟩
                refine XO.v (V.move rfl) rfl ?_
                refine XO.v (V.extract rfl rfl) rfl ?_
                refine XO.v (V.extract rfl rfl) rfl ?_
                refine XO.v (V.assign rfl) rfl ?_
                refine XO.v (V.assign rfl) rfl ?_
                refine XO.nil ?_
                refine XE.next ?_
                refine XC.keep [(0, _), (3, _), (4, _), (5, _), (6, _), (8, _), (9, _)] (Sub.cons rfl (Sub.cons rfl (Sub.cons rfl (Sub.cons rfl (Sub.cons rfl (Sub.cons rfl (Sub.cons rfl (Sub.nil _)))))))) ?_
                refine XC.seq ?_
                refine XC.seq ?_
                refine XC.region ?_
                refine XO.v (V.move rfl) rfl ?_
                refine XO.v (V.move rfl) rfl ?_
                refine XO.splitP (d := 108) rfl (fun h19 => ?_) (fun h19 => ?_)
                · skip
                  have hc := BS.first_cases x.1 2 hi.w0
                  have hq : x.1.first 2 ≠ 0 := h19
                  obtain ⟨n0, n8⟩ : 1 ≤ x.1.take.1 ∧ x.1.take.1 ≤ 8 := by show 1 ≤ x.1.first 2 ∧ x.1.first 2 ≤ 8; omega
                  obtain ⟨f1, f2⟩ := BS.first_says hq
                  have f3 : x.2.2.1 x.1.take.1 = true := hi.wt _ n0 n8 f1
                  have f4 : x.2.1 x.1.take.1 = false := (hi.hd _ n0 n8).trans f2
                  refine XO.guardRun rfl rfl rfl ?_
                  refine XO.v (V.move rfl) rfl ?_
                  refine XO.guardRun rfl rfl rfl ?_
                  refine XO.v (V.cmp rfl rfl rfl) rfl ?_
                  refine XO.guardRun rfl rfl rfl ?_
                  refine XO.v (V.move rfl) rfl ?_
                  refine XO.splitF (d := 111) rfl (by simp; omega) ?_
                  refine XO.guardRun rfl rfl rfl ?_
                  refine XO.v (V.move rfl) rfl ?_
                  refine XO.guardRun rfl rfl rfl ?_
                  refine XO.v (V.cmp rfl rfl rfl) rfl ?_
                  refine XO.guardRun rfl rfl rfl ?_
                  refine XO.v (V.pick rfl rfl rfl rfl) rfl ?_
                  refine XO.guardRun rfl rfl rfl ?_
                  refine XO.v (V.move rfl) rfl ?_
                  refine XO.splitF (d := 115) rfl (by simp; omega) ?_
                  refine XO.guardRun rfl rfl rfl ?_
                  refine XO.v (V.move rfl) rfl ?_
                  refine XO.guardRun rfl rfl rfl ?_
                  refine XO.v (V.indexArr rfl rfl ar_33 (by omega)) rfl ?_
                  refine XO.guardRun rfl rfl rfl ?_
                  refine XO.v (V.load rfl (inXM (.there (.there (.there (.there .here))))) (encF.ld_I _ _ (by omega)) sc_4) rfl ?_
                  refine XO.guardRun rfl rfl rfl ?_
                  refine XO.v (V.not rfl) rfl ?_
                  refine XO.guardRun rfl rfl rfl ?_
                  refine XO.v (V.pick rfl rfl rfl rfl) rfl ?_
                  refine XO.guardRun rfl rfl rfl ?_
                  refine XO.v (V.move rfl) rfl ?_
                  refine XO.split (d := 121) rfl (fun h22 => ?_) (fun h22 => ?_)
                  · try simp at h22
                    all_goals (exfalso; simp_all)
                  · try simp at h22
                    refine XO.guardRun rfl rfl rfl ?_
                    refine XO.v (V.move rfl) rfl ?_
                    refine XO.guardRun rfl rfl rfl ?_
                    refine XO.v (V.indexArr rfl rfl ar_33 (by omega)) rfl ?_
                    refine XO.guardRun rfl rfl rfl ?_
                    refine XO.v (V.load rfl (inXM (.there (.there (.there .here)))) (encF.ld_I _ _ (by omega)) sc_4) rfl ?_
                    refine XO.guardRun rfl rfl rfl ?_
                    refine XO.v (V.pick rfl rfl rfl rfl) rfl ?_
                    refine XO.guardRun rfl rfl rfl ?_
                    refine XO.v (V.move rfl) rfl ?_
                    refine XO.split (d := 126) rfl (fun h23 => ?_) (fun h23 => ?_)
                    · try simp at h23
                      all_goals (exfalso; simp_all)
                    · try simp at h23
                      refine XO.guardRun rfl rfl rfl ?_
                      refine XO.v (V.move rfl) rfl ?_
                      refine XO.guardRun rfl rfl rfl ?_
                      refine XO.v (V.move rfl) rfl ?_
                      refine XO.guardRun rfl rfl rfl ?_
                      refine XO.call rfl (s_Waits _ _ _ _) (.cons .here .nil) cl_6 rfl ?_
                      rintro _ _ ⟨rfl, rfl⟩
                      refine XO.guardRun rfl rfl rfl ?_
                      refine XO.v (V.pick rfl rfl rfl rfl) rfl ?_
                      refine XO.v (V.pick rfl rfl rfl rfl) rfl ?_
                      refine XO.nil ?_
                      refine XE.next ?_
                      refine XC.keep [(0, _), (3, _), (4, _), (5, _), (6, _), (8, _), (9, _), (131, _)] (Sub.cons rfl (Sub.cons rfl (Sub.cons rfl (Sub.cons rfl (Sub.cons rfl (Sub.cons rfl (Sub.cons rfl (Sub.cons rfl (Sub.nil _))))))))) ?_
                      refine XC.condF rfl (waits_false (BS.take_clear _)) ?_
                      refine XC.skip ?_
                      refine XE.next ?_
                      refine XC.keep [(0, _), (3, _), (4, _), (5, _), (6, _), (8, _), (9, _)] (Sub.cons rfl (Sub.cons rfl (Sub.cons rfl (Sub.cons rfl (Sub.cons rfl (Sub.cons rfl (Sub.cons rfl (Sub.nil _)))))))) ?_
                      refine XC.seq ?_
                      refine XC.region ?_
                      refine XO.v (V.move rfl) rfl ?_
                      refine XO.nil ?_
                      refine XE.next ?_
                      refine XC.keep [(0, _), (3, _), (4, _), (5, _), (6, _), (8, _), (132, _)] (Sub.cons rfl (Sub.cons rfl (Sub.cons rfl (Sub.cons rfl (Sub.cons rfl (Sub.cons rfl (Sub.cons rfl (Sub.nil _)))))))) ?_
                      refine XC.condTP rfl (by assumption) ?_
                      refine XC.region ?_
                      refine XO.v (V.move rfl) rfl ?_
                      refine XO.v (V.indexArr rfl rfl ar_33 (by omega)) rfl ?_
                      refine XO.store rfl rfl (.there (.there (.there (.there .here)))) (encF.st_I _ _ (by omega) _) rfl sz_4_1 ?_
                      refine XO.nil ?_
                      refine XE.blockNormal ?_
                      refine XE.meetG ((x.1.take.2, x.2.1, fset x.2.2.1 x.1.take.1 false)) ?_ (Sub.cons rfl (Sub.cons rfl (Sub.cons rfl (Sub.cons rfl (Sub.cons rfl (Sub.nil _)))))) (fun _ hw => XM.pick (.cons .here (.cons (.there (.there .here)) (.cons (.there (.there .here)) (.cons .here (.cons (.there .here) .nil))))) hw)
                      · exact hi.take
                · skip
                  refine XO.guardSkip rfl rfl rfl rfl rfl ?_
                  refine XO.guardSkip rfl rfl rfl rfl rfl ?_
                  refine XO.guardSkip rfl rfl rfl rfl rfl ?_
                  refine XO.guardSkipU rfl rfl rfl rfl rfl ?_
                  refine XO.guardSkipU rfl rfl rfl rfl rfl ?_
                  refine XO.guardSkip rfl rfl rfl rfl rfl ?_
                  refine XO.guardSkip rfl rfl rfl rfl rfl ?_
                  refine XO.guardSkipU rfl rfl rfl rfl rfl ?_
                  refine XO.guardSkipU rfl rfl rfl rfl rfl ?_
                  refine XO.guardSkipU rfl rfl rfl rfl rfl ?_
                  refine XO.guardSkipU rfl rfl rfl rfl rfl ?_
                  refine XO.guardSkip rfl rfl rfl rfl rfl ?_
                  refine XO.guardSkip rfl rfl rfl rfl rfl ?_
                  refine XO.guardSkipU rfl rfl rfl rfl rfl ?_
                  refine XO.guardSkipU rfl rfl rfl rfl rfl ?_
                  refine XO.guardSkipU rfl rfl rfl rfl rfl ?_
                  refine XO.guardSkip rfl rfl rfl rfl rfl ?_
                  refine XO.guardSkip rfl rfl rfl rfl rfl ?_
                  refine XO.guardSkipU rfl rfl rfl rfl rfl ?_
                  refine XO.guardSkipU rfl rfl rfl rfl rfl ?_
                  refine XO.guardSkipU rfl rfl rfl rfl rfl ?_
                  refine XO.guardSkip rfl rfl rfl rfl rfl ?_
                  refine XO.v (V.pick rfl rfl rfl rfl) rfl ?_
                  refine XO.nil ?_
                  refine XE.next ?_
                  refine XC.keep [(0, _), (3, _), (4, _), (5, _), (6, _), (8, _), (9, _), (131, _)] (Sub.cons rfl (Sub.cons rfl (Sub.cons rfl (Sub.cons rfl (Sub.cons rfl (Sub.cons rfl (Sub.cons rfl (Sub.cons rfl (Sub.nil _))))))))) ?_
                  refine XC.condF rfl rfl ?_
                  refine XC.skip ?_
                  refine XE.next ?_
                  refine XC.keep [(0, _), (3, _), (4, _), (5, _), (6, _), (8, _), (9, _)] (Sub.cons rfl (Sub.cons rfl (Sub.cons rfl (Sub.cons rfl (Sub.cons rfl (Sub.cons rfl (Sub.cons rfl (Sub.nil _)))))))) ?_
                  refine XC.seq ?_
                  refine XC.region ?_
                  refine XO.v (V.move rfl) rfl ?_
                  refine XO.nil ?_
                  refine XE.next ?_
                  refine XC.keep [(0, _), (3, _), (4, _), (5, _), (6, _), (8, _), (132, _)] (Sub.cons rfl (Sub.cons rfl (Sub.cons rfl (Sub.cons rfl (Sub.cons rfl (Sub.cons rfl (Sub.cons rfl (Sub.nil _)))))))) ?_
                  refine XC.condFP rfl (by assumption) ?_
                  refine XC.skip ?_
                  refine XE.blockNormal ?_
                  refine XE.meetG ((x.1.take.2, x.2.1, x.2.2.1)) ?_ (Sub.cons rfl (Sub.cons rfl (Sub.cons rfl (Sub.cons rfl (Sub.cons rfl (Sub.nil _)))))) (fun _ hw => XM.pick (.cons .here (.cons (.there (.there .here)) (.cons (.there (.there .here)) (.cons .here (.cons (.there .here) .nil))))) hw)
                  · have hq : x.1.first 2 = 0 := Decidable.not_not.1 (show ¬ x.1.take.1 ≠ 0 by assumption)
                    rw [BS.take_none hq hi.w0]; exact hi
              · skip
                refine XC.skip ?_
                refine XE.blockNormal ?_
                refine XE.meetG ((x.1, x.2.1, x.2.2.1)) ?_ (Sub.cons rfl (Sub.cons rfl (Sub.cons rfl (Sub.cons rfl (Sub.cons rfl (Sub.nil _)))))) (fun _ hw => XM.pick (.cons (.there .here) (.cons (.there .here) (.cons (.there .here) (.cons (.there .here) (.cons (.there .here) .nil))))) hw)
                · exact hi
      intro y hy
      refine XC.seq ?_
      refine XC.region ?_
      refine XO.v (V.move rfl) rfl ?_
      refine XO.callR 1 rfl (s_Ends _ _ _ hy.w0) (.cons .here (.cons (.there (.there .here)) .nil)) rfl cl_11 rfl ?_
      rintro _ _ ⟨rfl, rfl⟩
      refine XO.v (V.move rfl) rfl ?_
      refine XO.v (V.extract rfl rfl) rfl ?_
      refine XO.v (V.extract rfl rfl) rfl ?_
      refine XO.v (V.assign rfl) rfl ?_
      refine XO.v (V.assign rfl) rfl ?_
      refine XO.nil ?_
      refine XE.next ?_
      refine XC.keep [(0, _), (3, _), (4, _), (5, _), (6, _), (10, _), (11, _)] (Sub.cons rfl (Sub.cons rfl (Sub.cons rfl (Sub.cons rfl (Sub.cons rfl (Sub.cons rfl (Sub.cons rfl (Sub.nil _)))))))) ?_
      refine XC.seq ?_
      refine XC.seq ?_
      refine XC.region ?_
      refine XO.v (V.move rfl) rfl ?_
      refine XO.v (V.move rfl) rfl ?_
      refine XO.splitP (d := 141) rfl (fun h24 => ?_) (fun h24 => ?_)
      · skip
        have hc := BS.first_cases _ 0 hy.w0
        obtain ⟨n0, n8⟩ : 1 ≤ y.1.first 0 ∧ y.1.first 0 ≤ 8 := by omega
        obtain ⟨f1, f2⟩ := BS.first_says h24
        have f3 : y.2.2 (y.1.first 0) = true := hy.wt _ n0 n8 f1
        have f4 : y.2.1 (y.1.first 0) = false := (hy.hd _ n0 n8).trans f2
        refine XO.guardRun rfl rfl rfl ?_
        refine XO.v (V.move rfl) rfl ?_
        refine XO.guardRun rfl rfl rfl ?_
        refine XO.v (V.cmp rfl rfl rfl) rfl ?_
        refine XO.guardRun rfl rfl rfl ?_
        refine XO.v (V.move rfl) rfl ?_
        refine XO.splitF (d := 144) rfl (by simp; omega) ?_
        refine XO.guardRun rfl rfl rfl ?_
        refine XO.v (V.move rfl) rfl ?_
        refine XO.guardRun rfl rfl rfl ?_
        refine XO.v (V.cmp rfl rfl rfl) rfl ?_
        refine XO.guardRun rfl rfl rfl ?_
        refine XO.v (V.pick rfl rfl rfl rfl) rfl ?_
        refine XO.guardRun rfl rfl rfl ?_
        refine XO.v (V.move rfl) rfl ?_
        refine XO.splitF (d := 148) rfl (by simp; omega) ?_
        refine XO.guardRun rfl rfl rfl ?_
        refine XO.v (V.move rfl) rfl ?_
        refine XO.guardRun rfl rfl rfl ?_
        refine XO.v (V.indexArr rfl rfl ar_33 (by omega)) rfl ?_
        refine XO.guardRun rfl rfl rfl ?_
        refine XO.v (V.load rfl (inXM (.there (.there (.there .here)))) (encF.ld_I _ _ (by omega)) sc_4) rfl ?_
        refine XO.guardRun rfl rfl rfl ?_
        refine XO.v (V.not rfl) rfl ?_
        refine XO.guardRun rfl rfl rfl ?_
        refine XO.v (V.pick rfl rfl rfl rfl) rfl ?_
        refine XO.guardRun rfl rfl rfl ?_
        refine XO.v (V.move rfl) rfl ?_
        refine XO.split (d := 154) rfl (fun h27 => ?_) (fun h27 => ?_)
        · try simp at h27
          all_goals (exfalso; simp_all)
        · try simp at h27
          refine XO.guardRun rfl rfl rfl ?_
          refine XO.v (V.move rfl) rfl ?_
          refine XO.guardRun rfl rfl rfl ?_
          refine XO.v (V.indexArr rfl rfl ar_33 (by omega)) rfl ?_
          refine XO.guardRun rfl rfl rfl ?_
          refine XO.v (V.load rfl (inXM (.there (.there .here))) (encF.ld_I _ _ (by omega)) sc_4) rfl ?_
          refine XO.guardRun rfl rfl rfl ?_
          refine XO.v (V.move rfl) rfl ?_
          refine XO.split (d := 158) rfl (fun h28 => ?_) (fun h28 => ?_)
          · try simp at h28
            all_goals (exfalso; simp_all)
          · try simp at h28
            refine XO.guardSkip rfl rfl rfl rfl rfl ?_
            refine XO.guardSkip rfl rfl rfl rfl rfl ?_
            refine XO.guardRun rfl rfl rfl ?_
            refine XO.v (V.pick rfl rfl rfl rfl) rfl ?_
            refine XO.guardRun rfl rfl rfl ?_
            refine XO.v (V.pick rfl rfl rfl rfl) rfl ?_
            refine XO.v (V.pick rfl rfl rfl rfl) rfl ?_
            refine XO.nil ?_
            refine XE.next ?_
            refine XC.keep [(0, _), (3, _), (4, _), (5, _), (6, _), (163, _)] (Sub.cons rfl (Sub.cons rfl (Sub.cons rfl (Sub.cons rfl (Sub.cons rfl (Sub.cons rfl (Sub.nil _))))))) ?_
            refine XC.condF rfl rfl ?_
            refine XC.skip ?_
            refine XE.next ?_
            refine XC.keep [(0, _), (3, _), (4, _), (5, _), (6, _)] (Sub.cons rfl (Sub.cons rfl (Sub.cons rfl (Sub.cons rfl (Sub.cons rfl (Sub.nil _)))))) ?_
            refine XC.seq ?_
            refine XC.region ?_
            refine XO.v (V.assign rfl) rfl ?_
            refine XO.nil ?_
            refine XE.next ?_
            refine XC.keep [(0, _), (3, _), (4, _), (5, _), (6, _), (12, _)] (Sub.cons rfl (Sub.cons rfl (Sub.cons rfl (Sub.cons rfl (Sub.cons rfl (Sub.cons rfl (Sub.nil _))))))) ?_
            refine XC.block ?_
            refine XC.loop (σ := Int) (fun k => (9 - k).toNat) (fun k => 1 ≤ k ∧ k ≤ 9) (fun k => [(12, .int .i64 k), (0, .slice (some ⟨bl, ol, none⟩) len cap), (3, ptr bs 0 0), (4, ptr bh 0 0), (5, ptr bw 0 0), (6, .int .i64 x.2.2.2)]) (fun k => XM W (foot [.ro 1 0 32 tab32, .ro bl ol (8 * len) (encActs A)]) [.cells bs 0 11 (encB y.1), .cells bh 0 9 (encF y.2.1), .cells bw 0 9 (encF y.2.2), .ro 1 0 32 tab32, .ro bl ol (8 * len) (encActs A)]) (1) ?_ (Sub.cons rfl (Sub.cons rfl (Sub.cons rfl (Sub.cons rfl (Sub.cons rfl (Sub.cons rfl (Sub.nil _))))))) (fun _ hw => XM.pick (.cons .here (.cons (.there .here) (.cons (.there .here) (.cons .here (.cons .here .nil))))) hw) ?_
            · skip
              omega
            intro k hk
            refine XC.seq ?_
            refine XC.seq ?_
            refine XC.region ?_
            refine XO.v (V.move rfl) rfl ?_
            refine XO.v (V.cmp rfl rfl rfl) rfl ?_
            refine XO.nil ?_
            refine XE.next ?_
            refine XC.keep [(0, _), (3, _), (4, _), (5, _), (6, _), (12, _), (165, _)] (Sub.cons rfl (Sub.cons rfl (Sub.cons rfl (Sub.cons rfl (Sub.cons rfl (Sub.cons rfl (Sub.cons rfl (Sub.nil _)))))))) ?_
            refine XC.condP rfl (fun h29 => ?_) (fun h29 => ?_)
            · skip
              refine XC.skip ?_
              refine XE.next ?_
              refine XC.keep [(0, _), (3, _), (4, _), (5, _), (6, _), (12, _)] (Sub.cons rfl (Sub.cons rfl (Sub.cons rfl (Sub.cons rfl (Sub.cons rfl (Sub.cons rfl (Sub.nil _))))))) ?_
              refine XC.seq ?_
              refine XC.block ?_
              refine XC.seq ?_
              refine XC.region ?_
              refine XO.v (V.move rfl) rfl ?_
              refine XO.v (V.move rfl) rfl ?_
              refine XO.call rfl (s_Waits _ _ _ _) (.cons .here .nil) cl_6 rfl ?_
              rintro _ _ ⟨rfl, rfl⟩
              refine XO.v (V.move rfl) rfl ?_
              refine XO.split (d := 171) rfl (fun h30 => ?_) (fun h30 => ?_)
              · try simp at h30
                have hw : y.2.2 k = true := hy.wt k (by omega) (by omega) (by simp_all)
                refine XO.guardRun rfl rfl rfl ?_
                refine XO.v (V.move rfl) rfl ?_
                refine XO.guardRun rfl rfl rfl ?_
                refine XO.v (V.indexArr rfl rfl ar_33 (by omega)) rfl ?_
                refine XO.guardRun rfl rfl rfl ?_
                refine XO.v (V.load rfl (inXM (.there (.there .here))) (encF.ld_I _ _ (by omega)) sc_4) rfl ?_
                refine XO.guardRun rfl rfl rfl ?_
                refine XO.v (V.not rfl) rfl ?_
                refine XO.v (V.pick rfl rfl rfl rfl) rfl ?_
                refine XO.nil ?_
                refine XE.next ?_
                refine XC.keep [(0, _), (3, _), (4, _), (5, _), (6, _), (12, _), (176, _)] (Sub.cons rfl (Sub.cons rfl (Sub.cons rfl (Sub.cons rfl (Sub.cons rfl (Sub.cons rfl (Sub.cons rfl (Sub.nil _)))))))) ?_
                refine XC.condF rfl (by simp_all) ?_
                refine XC.skip ?_
                refine XE.blockNormal ?_
                refine XE.next ?_
                refine XC.keep [(0, _), (3, _), (4, _), (5, _), (6, _), (12, _)] (Sub.cons rfl (Sub.cons rfl (Sub.cons rfl (Sub.cons rfl (Sub.cons rfl (Sub.cons rfl (Sub.nil _))))))) ?_
                refine XC.region ?_
                refine XO.v (V.move rfl) rfl ?_
                refine XO.v (V.add rfl rfl _ (IntWalk.i64_in _ (by omega))) rfl ?_
                refine XO.v (V.assign rfl) rfl ?_
                refine XO.nil ?_
                refine XE.again (k + 1) ?_ ?_ (Sub.cons rfl (Sub.cons rfl (Sub.cons rfl (Sub.cons rfl (Sub.cons rfl (Sub.cons rfl (Sub.nil _))))))) (fun _ hw => XM.pick (.cons .here (.cons .here (.cons .here (.cons .here (.cons .here .nil))))) hw)
                · skip
                  (first | omega | (simp; done) | (simp; omega))
                · skip
                  (first | omega | (simp; done) | (simp; omega))
              · try simp at h30
                refine XO.guardSkip rfl rfl rfl rfl rfl ?_
                refine XO.guardSkip rfl rfl rfl rfl rfl ?_
                refine XO.guardSkip rfl rfl rfl rfl rfl ?_
                refine XO.guardSkip rfl rfl rfl rfl rfl ?_
                refine XO.v (V.pick rfl rfl rfl rfl) rfl ?_
                refine XO.nil ?_
                refine XE.next ?_
                refine XC.keep [(0, _), (3, _), (4, _), (5, _), (6, _), (12, _), (176, _)] (Sub.cons rfl (Sub.cons rfl (Sub.cons rfl (Sub.cons rfl (Sub.cons rfl (Sub.cons rfl (Sub.cons rfl (Sub.nil _)))))))) ?_
                refine XC.condF rfl rfl ?_
                refine XC.skip ?_
                refine XE.blockNormal ?_
                refine XE.next ?_
                refine XC.keep [(0, _), (3, _), (4, _), (5, _), (6, _), (12, _)] (Sub.cons rfl (Sub.cons rfl (Sub.cons rfl (Sub.cons rfl (Sub.cons rfl (Sub.cons rfl (Sub.nil _))))))) ?_
                refine XC.region ?_
                refine XO.v (V.move rfl) rfl ?_
                refine XO.v (V.add rfl rfl _ (IntWalk.i64_in _ (by omega))) rfl ?_
                refine XO.v (V.assign rfl) rfl ?_
                refine XO.nil ?_
                refine XE.again (k + 1) ?_ ?_ (Sub.cons rfl (Sub.cons rfl (Sub.cons rfl (Sub.cons rfl (Sub.cons rfl (Sub.cons rfl (Sub.nil _))))))) (fun _ hw => XM.pick (.cons .here (.cons .here (.cons .here (.cons .here (.cons .here .nil))))) hw)
                · skip
                  (first | omega | (simp; done) | (simp; omega))
                · skip
                  (first | omega | (simp; done) | (simp; omega))
            · skip
              refine XC.exit ?_
              refine XE.thenExit ?_
              refine XE.thenExit ?_
              refine XE.blockExit ?_
              refine XE.blockNormal ?_
              refine XE.next ?_
              refine XC.keep [(0, _), (3, _), (4, _), (5, _), (6, _)] (Sub.cons rfl (Sub.cons rfl (Sub.cons rfl (Sub.cons rfl (Sub.cons rfl (Sub.nil _)))))) ?_
              refine XC.region ?_
              refine XO.v (V.move rfl) rfl ?_
              refine XO.v (V.add rfl rfl _ (IntWalk.i64_in _ (by omega))) rfl ?_
              refine XO.v (V.assign rfl) rfl ?_
              refine XO.nil ?_
              refine XE.again ((y.1, y.2.1, y.2.2, x.2.2.2 + 1)) ?_ ?_ (Sub.cons rfl (Sub.cons rfl (Sub.cons rfl (Sub.cons rfl (Sub.cons rfl (Sub.nil _)))))) (fun _ hw => XM.pick (.cons .here (.cons .here (.cons .here (.cons .here (.cons .here .nil))))) hw)
              · skip
                (simp; omega)
              · skip
                exact ⟨hy, by simp; omega, by simp; omega⟩
      · skip
        refine XO.guardSkip rfl rfl rfl rfl rfl ?_
        refine XO.guardSkip rfl rfl rfl rfl rfl ?_
        refine XO.guardSkip rfl rfl rfl rfl rfl ?_
        refine XO.guardSkipU rfl rfl rfl rfl rfl ?_
        refine XO.guardSkipU rfl rfl rfl rfl rfl ?_
        refine XO.guardSkip rfl rfl rfl rfl rfl ?_
        refine XO.guardSkip rfl rfl rfl rfl rfl ?_
        refine XO.guardSkipU rfl rfl rfl rfl rfl ?_
        refine XO.guardSkipU rfl rfl rfl rfl rfl ?_
        refine XO.guardSkipU rfl rfl rfl rfl rfl ?_
        refine XO.guardSkipU rfl rfl rfl rfl rfl ?_
        refine XO.guardSkip rfl rfl rfl rfl rfl ?_
        refine XO.guardSkip rfl rfl rfl rfl rfl ?_
        refine XO.guardSkipU rfl rfl rfl rfl rfl ?_
        refine XO.guardSkipU rfl rfl rfl rfl rfl ?_
        refine XO.guardSkipU rfl rfl rfl rfl rfl ?_
        refine XO.guardSkipU rfl rfl rfl rfl rfl ?_
        refine XO.guardSkipU rfl rfl rfl rfl rfl ?_
        refine XO.guardSkipU rfl rfl rfl rfl rfl ?_
        refine XO.guardSkipU rfl rfl rfl rfl rfl ?_
        refine XO.guardSkip rfl rfl rfl rfl rfl ?_
        refine XO.v (V.pick rfl rfl rfl rfl) rfl ?_
        refine XO.nil ?_
        refine XE.next ?_
        refine XC.keep [(0, _), (3, _), (4, _), (5, _), (6, _), (163, _)] (Sub.cons rfl (Sub.cons rfl (Sub.cons rfl (Sub.cons rfl (Sub.cons rfl (Sub.cons rfl (Sub.nil _))))))) ?_
        refine XC.condF rfl rfl ?_
        refine XC.skip ?_
        refine XE.next ?_
        refine XC.keep [(0, _), (3, _), (4, _), (5, _), (6, _)] (Sub.cons rfl (Sub.cons rfl (Sub.cons rfl (Sub.cons rfl (Sub.cons rfl (Sub.nil _)))))) ?_
        refine XC.seq ?_
        refine XC.region ?_
        refine XO.v (V.assign rfl) rfl ?_
        refine XO.nil ?_
        refine XE.next ?_
        refine XC.keep [(0, _), (3, _), (4, _), (5, _), (6, _), (12, _)] (Sub.cons rfl (Sub.cons rfl (Sub.cons rfl (Sub.cons rfl (Sub.cons rfl (Sub.cons rfl (Sub.nil _))))))) ?_
        refine XC.block ?_
        refine XC.loop (σ := Int) (fun k => (9 - k).toNat) (fun k => 1 ≤ k ∧ k ≤ 9) (fun k => [(12, .int .i64 k), (0, .slice (some ⟨bl, ol, none⟩) len cap), (3, ptr bs 0 0), (4, ptr bh 0 0), (5, ptr bw 0 0), (6, .int .i64 x.2.2.2)]) (fun k => XM W (foot [.ro 1 0 32 tab32, .ro bl ol (8 * len) (encActs A)]) [.cells bs 0 11 (encB y.1), .cells bh 0 9 (encF y.2.1), .cells bw 0 9 (encF y.2.2), .ro 1 0 32 tab32, .ro bl ol (8 * len) (encActs A)]) (1) ?_ (Sub.cons rfl (Sub.cons rfl (Sub.cons rfl (Sub.cons rfl (Sub.cons rfl (Sub.cons rfl (Sub.nil _))))))) (fun _ hw => XM.pick (.cons .here (.cons (.there .here) (.cons (.there .here) (.cons .here (.cons .here .nil))))) hw) ?_
        · skip
          omega
        intro k hk
        refine XC.seq ?_
        refine XC.seq ?_
        refine XC.region ?_
        refine XO.v (V.move rfl) rfl ?_
        refine XO.v (V.cmp rfl rfl rfl) rfl ?_
        refine XO.nil ?_
        refine XE.next ?_
        refine XC.keep [(0, _), (3, _), (4, _), (5, _), (6, _), (12, _), (165, _)] (Sub.cons rfl (Sub.cons rfl (Sub.cons rfl (Sub.cons rfl (Sub.cons rfl (Sub.cons rfl (Sub.cons rfl (Sub.nil _)))))))) ?_
        refine XC.condP rfl (fun h31 => ?_) (fun h31 => ?_)
        · skip
          refine XC.skip ?_
          refine XE.next ?_
          refine XC.keep [(0, _), (3, _), (4, _), (5, _), (6, _), (12, _)] (Sub.cons rfl (Sub.cons rfl (Sub.cons rfl (Sub.cons rfl (Sub.cons rfl (Sub.cons rfl (Sub.nil _))))))) ?_
          refine XC.seq ?_
          refine XC.block ?_
          refine XC.seq ?_
          refine XC.region ?_
          refine XO.v (V.move rfl) rfl ?_
          refine XO.v (V.move rfl) rfl ?_
          refine XO.call rfl (s_Waits _ _ _ _) (.cons .here .nil) cl_6 rfl ?_
          rintro _ _ ⟨rfl, rfl⟩
          refine XO.v (V.move rfl) rfl ?_
          refine XO.split (d := 171) rfl (fun h32 => ?_) (fun h32 => ?_)
          · try simp at h32
            have hw : y.2.2 k = true := hy.wt k (by omega) (by omega) (by simp_all)
            refine XO.guardRun rfl rfl rfl ?_
            refine XO.v (V.move rfl) rfl ?_
            refine XO.guardRun rfl rfl rfl ?_
            refine XO.v (V.indexArr rfl rfl ar_33 (by omega)) rfl ?_
            refine XO.guardRun rfl rfl rfl ?_
            refine XO.v (V.load rfl (inXM (.there (.there .here))) (encF.ld_I _ _ (by omega)) sc_4) rfl ?_
            refine XO.guardRun rfl rfl rfl ?_
            refine XO.v (V.not rfl) rfl ?_
            refine XO.v (V.pick rfl rfl rfl rfl) rfl ?_
            refine XO.nil ?_
            refine XE.next ?_
            refine XC.keep [(0, _), (3, _), (4, _), (5, _), (6, _), (12, _), (176, _)] (Sub.cons rfl (Sub.cons rfl (Sub.cons rfl (Sub.cons rfl (Sub.cons rfl (Sub.cons rfl (Sub.cons rfl (Sub.nil _)))))))) ?_
            refine XC.condF rfl (by simp_all) ?_
            refine XC.skip ?_
            refine XE.blockNormal ?_
            refine XE.next ?_
            refine XC.keep [(0, _), (3, _), (4, _), (5, _), (6, _), (12, _)] (Sub.cons rfl (Sub.cons rfl (Sub.cons rfl (Sub.cons rfl (Sub.cons rfl (Sub.cons rfl (Sub.nil _))))))) ?_
            refine XC.region ?_
            refine XO.v (V.move rfl) rfl ?_
            refine XO.v (V.add rfl rfl _ (IntWalk.i64_in _ (by omega))) rfl ?_
            refine XO.v (V.assign rfl) rfl ?_
            refine XO.nil ?_
            refine XE.again (k + 1) ?_ ?_ (Sub.cons rfl (Sub.cons rfl (Sub.cons rfl (Sub.cons rfl (Sub.cons rfl (Sub.cons rfl (Sub.nil _))))))) (fun _ hw => XM.pick (.cons .here (.cons .here (.cons .here (.cons .here (.cons .here .nil))))) hw)
            · skip
              (first | omega | (simp; done) | (simp; omega))
            · skip
              (first | omega | (simp; done) | (simp; omega))
          · try simp at h32
            refine XO.guardSkip rfl rfl rfl rfl rfl ?_
            refine XO.guardSkip rfl rfl rfl rfl rfl ?_
            refine XO.guardSkip rfl rfl rfl rfl rfl ?_
            refine XO.guardSkip rfl rfl rfl rfl rfl ?_
            refine XO.v (V.pick rfl rfl rfl rfl) rfl ?_
            refine XO.nil ?_
            refine XE.next ?_
            refine XC.keep [(0, _), (3, _), (4, _), (5, _), (6, _), (12, _), (176, _)] (Sub.cons rfl (Sub.cons rfl (Sub.cons rfl (Sub.cons rfl (Sub.cons rfl (Sub.cons rfl (Sub.cons rfl (Sub.nil _)))))))) ?_
            refine XC.condF rfl rfl ?_
            refine XC.skip ?_
            refine XE.blockNormal ?_
            refine XE.next ?_
            refine XC.keep [(0, _), (3, _), (4, _), (5, _), (6, _), (12, _)] (Sub.cons rfl (Sub.cons rfl (Sub.cons rfl (Sub.cons rfl (Sub.cons rfl (Sub.cons rfl (Sub.nil _))))))) ?_
            refine XC.region ?_
            refine XO.v (V.move rfl) rfl ?_
            refine XO.v (V.add rfl rfl _ (IntWalk.i64_in _ (by omega))) rfl ?_
            refine XO.v (V.assign rfl) rfl ?_
            refine XO.nil ?_
            refine XE.again (k + 1) ?_ ?_ (Sub.cons rfl (Sub.cons rfl (Sub.cons rfl (Sub.cons rfl (Sub.cons rfl (Sub.cons rfl (Sub.nil _))))))) (fun _ hw => XM.pick (.cons .here (.cons .here (.cons .here (.cons .here (.cons .here .nil))))) hw)
            · skip
              (first | omega | (simp; done) | (simp; omega))
            · skip
              (first | omega | (simp; done) | (simp; omega))
        · skip
          refine XC.exit ?_
          refine XE.thenExit ?_
          refine XE.thenExit ?_
          refine XE.blockExit ?_
          refine XE.blockNormal ?_
          refine XE.next ?_
          refine XC.keep [(0, _), (3, _), (4, _), (5, _), (6, _)] (Sub.cons rfl (Sub.cons rfl (Sub.cons rfl (Sub.cons rfl (Sub.cons rfl (Sub.nil _)))))) ?_
          refine XC.region ?_
          refine XO.v (V.move rfl) rfl ?_
          refine XO.v (V.add rfl rfl _ (IntWalk.i64_in _ (by omega))) rfl ?_
          refine XO.v (V.assign rfl) rfl ?_
          refine XO.nil ?_
          refine XE.again ((y.1, y.2.1, y.2.2, x.2.2.2 + 1)) ?_ ?_ (Sub.cons rfl (Sub.cons rfl (Sub.cons rfl (Sub.cons rfl (Sub.cons rfl (Sub.nil _)))))) (fun _ hw => XM.pick (.cons .here (.cons .here (.cons .here (.cons .here (.cons .here .nil))))) hw)
          · skip
            (simp; omega)
          · skip
            exact ⟨hy, by simp; omega, by simp; omega⟩
    · skip
      refine XC.exit ?_
      refine XE.thenExit ?_
      refine XE.thenExit ?_
      refine XE.blockExit ?_
      refine XE.next ?_
      refine XC.keep [] (Sub.nil _) ?_
      refine XC.seq ?_
      refine XC.region ?_
      refine XO.v (V.assign rfl) rfl ?_
      refine XO.nil ?_
      refine XE.next ?_
      refine XC.keep [(2, _)] (Sub.cons rfl (Sub.nil _)) ?_
      refine XC.ret ?_
      refine XE.ret1 rfl rfl (post_of .nil rfl ?_)
      exact ⟨rfl, rfl⟩
end Go.X
