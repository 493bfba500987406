import Derived.Test.YtojlnbjpiccliaaQL1
namespace Go.X
open Go Go.Proofs
theorem ag_31 : aggT Try.prog 31 = true := by kernel_rfl
theorem cl_10 : callable Try.prog 10 = true := by kernel_rfl
theorem cl_48 : callable Try.prog 48 = true := by kernel_rfl
theorem cl_50 : callable Try.prog 50 = true := by kernel_rfl
theorem cl_52 : callable Try.prog 52 = true := by kernel_rfl
theorem cl_53 : callable Try.prog 53 = true := by kernel_rfl
theorem cl_54 : callable Try.prog 54 = true := by kernel_rfl
theorem cl_55 : callable Try.prog 55 = true := by kernel_rfl
theorem cl_56 : callable Try.prog 56 = true := by kernel_rfl
theorem fo_31_0 : fieldOff Try.prog 31 0 = some 0 := by kernel_rfl
theorem fo_31_1 : fieldOff Try.prog 31 1 = some 1 := by kernel_rfl
theorem fo_31_4 : fieldOff Try.prog 31 4 = some 4 := by kernel_rfl
theorem sc_9 : scal Try.prog 9 = true := by kernel_rfl
theorem sl_22 : sliceOf Try.prog 22 = some (31, 8) := by kernel_rfl
theorem sz_31_8 : szOf Try.prog 31 = some 8 := by kernel_rfl
set_option maxRecDepth 10000 in
set_option maxHeartbeats 4000000 in
theorem law_some (bl ol len cap : Nat) (hlen : len ≤ cap) (A : Int → ActV) (hA : ∀ z : Int, 0 ≤ z → z < len → (A z).ok) : Spec Try.prog 7 [.slice (some ⟨bl, ol, none⟩) len cap]
    [.ro bl ol (8 * len) (encActs A)]
    (fun v H1 => v = .bool true ∧ H1 = []) := by
  refine Spec.intro Try.func7 rfl rfl ?_
  intro W
  refine XC.seq ?_
  refine XC.region ?_
  refine XO.v (V.assign rfl) rfl ?_
  refine XO.nil ?_
  refine XE.next ?_
  refine XC.keep [(0, _)] (Sub.cons rfl (Sub.nil _)) ?_
  refine XC.seq ?_
  refine XC.region ?_
  refine XO.call rfl (lines_any) .nil cl_48 rfl ?_
  rintro _ _ ⟨rfl, rfl⟩
  refine XO.v (V.assign rfl) rfl ?_
  refine XO.nil ?_
  refine XE.next ?_
  refine XC.keep [(0, _), (3, _)] (Sub.cons rfl (Sub.cons rfl (Sub.nil _))) ?_
  refine XC.seq ?_
  refine XC.seq ?_
  refine XC.region ?_
  refine XO.v (V.move rfl) rfl ?_
  refine XO.v (V.not rfl) rfl ?_
  refine XO.v (V.move rfl) rfl ?_
  refine XO.guardRun rfl rfl rfl ?_
  refine XO.v (V.move rfl) rfl ?_
  refine XO.guardRun rfl rfl rfl ?_
  refine XO.call rfl (light_any _ _ _ _) .nil cl_10 rfl ?_
  rintro _ _ ⟨rfl, rfl⟩
  refine XO.guardRun rfl rfl rfl ?_
  refine XO.v (V.notP rfl) rfl ?_
  refine XO.v (V.pick rfl rfl rfl rfl) rfl ?_
  refine XO.nil ?_
  refine XE.next ?_
  refine XC.keep [(0, _), (3, _), (28, _)] (Sub.cons rfl (Sub.cons rfl (Sub.cons rfl (Sub.nil _)))) ?_
  refine XC.condP rfl (fun h1 => ?_) (fun h1 => ?_)
  · skip
    refine XC.seq ?_
    refine XC.region ?_
    refine XO.v (V.move rfl) rfl ?_
    refine XO.v (V.assign rfl) rfl ?_
    refine XO.nil ?_
    refine XE.next ?_
    refine XC.keep [(2, _)] (Sub.cons rfl (Sub.nil _)) ?_
    refine XC.ret ?_
    refine XE.thenRet ?_
    refine XE.ret1 rfl rfl (post_of .nil rfl ?_)
    exact ⟨rfl, rfl⟩
  · skip
    refine XC.skip ?_
    refine XE.next ?_
    refine XC.keep [(0, _)] (Sub.cons rfl (Sub.nil _)) ?_
    refine XC.seq ?_
    refine XC.region ?_
    refine XO.v (V.build (vs := #[]) rfl (v := .agg #[.slice none 0 0, .int .i64 0, .int .i64 0, .int .i64 0, .int .i64 0, .int .i64 0, .int .i64 0, .int .i64 0, .int .i64 0, .int .i64 0, .int .i64 0, .int .i64 0, .int .i64 0, .int .i64 0, .int .i64 0, .int .i64 0, .int .i64 0, .int .i64 0, .int .i64 0, .int .i64 0, .int .i64 0, .int .i64 0, .int .i64 0, .int .i64 0, .int .i64 0, .int .i64 0, .int .i64 0, .int .i64 0, .int .i64 0, .int .i64 0, .int .i64 0, .int .i64 0, .int .i64 0, .int .i64 0, .int .i64 0, .int .i64 0, .int .i64 0, .int .i64 0, .int .i64 0, .int .i64 0, .int .i64 0, .int .i64 0, .int .i64 0, .int .i64 0, .int .i64 0, .int .i64 0, .int .i64 0, .int .i64 0, .int .i64 0, .int .i64 0, .int .i64 0, .int .i64 0, .int .i64 0, .int .i64 0, .int .i64 0, .int .i64 0, .int .i64 0, .int .i64 0, .int .i64 0, .int .i64 0, .int .i64 0, .int .i64 0, .int .i64 0, .int .i64 0, .int .i64 0]) (fun _ => by kernel_rfl)) rfl ?_
    refine XO.box (m := 65) (C := encQ QS.void none 0) rfl rfl boxQ_init rfl ?_
    intro bs
    refine XO.nilRow 126 2 ?_
    refine XO.v (V.assign rfl) rfl ?_
    refine XO.nil ?_
    refine XE.next ?_
    refine XC.keep [(0, _), (4, _)] (Sub.cons rfl (Sub.cons rfl (Sub.nil _))) ?_
    refine XC.seq ?_
    refine XC.region ?_
    refine XO.v (V.build (vs := #[]) rfl (v := .agg (arrRQ)) (fun _ => by kernel_rfl)) rfl ?_
    refine XO.box (m := 128) (C := encRQ RQ.void) rfl rfl boxRQ rfl ?_
    intro bm
    refine XO.v (V.assign rfl) rfl ?_
    refine XO.nil ?_
    refine XE.next ?_
    refine XC.keep [(0, _), (4, _), (5, _)] (Sub.cons rfl (Sub.cons rfl (Sub.cons rfl (Sub.nil _)))) ?_
    refine XC.seq ?_
    refine XC.seq ?_
    refine XC.region ?_
    refine XO.v (V.assign rfl) rfl ?_
    refine XO.nil ?_
    refine XE.next ?_
    refine XC.keep [(0, _), (4, _), (5, _), (6, _)] (Sub.cons rfl (Sub.cons rfl (Sub.cons rfl (Sub.cons rfl (Sub.nil _))))) ?_
    refine XC.block ?_
    refine XC.loop (σ := QL) (fun x => (len - x.i).toNat) (fun x => QRel x.s x.r ∧ 0 ≤ x.i ∧ x.i ≤ len) (fun x => [(6, .int .i64 x.i), (0, .slice (some ⟨bl, ol, none⟩) len cap), (4, ptr bs 0 0), (5, ptr bm 0 0)]) (fun x => XM W (foot [.ro bl ol (8 * len) (encActs A)]) [.cells bs 0 65 (encQ x.s x.p x.c), frow x.p x.c 126 2 x.s.n (encH x.s), .cells bm 0 128 (encRQ x.r), .ro bl ol (8 * len) (encActs A)]) (⟨QS.void, none, 0, RQ.void, 0⟩) ?_ (Sub.cons rfl (Sub.cons rfl (Sub.cons rfl (Sub.cons rfl (Sub.nil _))))) (fun _ hw => XM.pick (.cons (.there (.there .here)) (.cons (.there .here) (.cons .here (.cons .here .nil)))) hw) ?_
    · skip
      exact ⟨QRel.void, by simp, by simp⟩
    intro x hx
    obtain ⟨hx, hx0, hx1⟩ := hx
    refine XC.seq ?_
    refine XC.seq ?_
    refine XC.region ?_
    refine XO.v (V.move rfl) rfl ?_
    refine XO.v (V.move rfl) rfl ?_
    refine XO.v (V.lenSl rfl Try.underlying22) rfl ?_
    refine XO.v (V.cmp rfl rfl rfl) rfl ?_
    refine XO.nil ?_
    refine XE.next ?_
    refine XC.keep [(0, _), (4, _), (5, _), (6, _), (37, _)] (Sub.cons rfl (Sub.cons rfl (Sub.cons rfl (Sub.cons rfl (Sub.cons rfl (Sub.nil _)))))) ?_
    refine XC.condP rfl (fun h2 => ?_) (fun h2 => ?_)
    · skip
      refine XC.skip ?_
      refine XE.next ?_
      refine XC.keep [(0, _), (4, _), (5, _), (6, _)] (Sub.cons rfl (Sub.cons rfl (Sub.cons rfl (Sub.cons rfl (Sub.nil _))))) ?_
      refine XC.seq ?_
      refine XC.block ?_
      refine XC.seq ?_
      refine XC.region ?_
      refine XO.v (V.move rfl) rfl ?_
      refine XO.v (V.move rfl) rfl ?_
      refine XO.v (V.indexSl rfl rfl sl_22 (by omega)) rfl ?_
      refine XO.v (V.loadAggRo rfl (inXM (.there (.there (.there .here)))) (acts_load A len _ (by omega)) ag_31 sz_31_8) rfl ?_
      refine XO.allocZ (z := .agg actZero) (m := 8) (C := cellsOf actZero) (by kernel_rfl) rfl (fun _ _ => rfl) rfl ?_
      intro ba
      refine XO.storeAgg rfl rfl .here (acts_store _) ⟨rfl, rfl⟩ sz_31_8 ?_
      refine XO.nil ?_
      refine XE.next ?_
      refine XC.keep [(0, _), (4, _), (5, _), (6, _), (7, _)] (Sub.cons rfl (Sub.cons rfl (Sub.cons rfl (Sub.cons rfl (Sub.cons rfl (Sub.nil _)))))) ?_
      refine XC.seq ?_
      refine XC.region ?_
      refine XO.v (V.assign rfl) rfl ?_
      refine XO.nil ?_
      refine XE.next ?_
      refine XC.keep [(0, _), (4, _), (5, _), (6, _), (7, _)] (Sub.cons rfl (Sub.cons rfl (Sub.cons rfl (Sub.cons rfl (Sub.cons rfl (Sub.nil _)))))) ?_
      refine XC.cutG (σ := QL) (fun y => QRel y.s y.r) (fun y => [(0, .slice (some ⟨bl, ol, none⟩) len cap), (4, ptr bs 0 0), (5, ptr bm 0 0), (6, .int .i64 x.i), (8, .bool true)]) (fun y => XM W (foot [.ro bl ol (8 * len) (encActs A)]) [.cells bs 0 65 (encQ y.s y.p y.c), frow y.p y.c 126 2 y.s.n (encH y.s), .cells bm 0 128 (encRQ y.r), .ro bl ol (8 * len) (encActs A)]) ?_ ?_
      · skip
        refine XC.seq ?_
        refine XC.region ?_
        refine XO.v (V.fieldAddr rfl fo_31_0) rfl ?_
        refine XO.v (V.load rfl (inXM .here) (encAct.ld_Kind _) sc_9) rfl ?_
        refine XO.nil ?_
        refine XE.next ?_
        refine XC.keep [(0, _), (4, _), (5, _), (6, _), (7, _), (45, _)] (Sub.cons rfl (Sub.cons rfl (Sub.cons rfl (Sub.cons rfl (Sub.cons rfl (Sub.cons rfl (Sub.nil _))))))) ?_
        refine XC.block ?_
        refine XC.seq ?_
        refine XC.region ?_
        refine XO.v (V.strCmp rfl rfl rfl) rfl ?_
        refine XO.v (V.assign rfl) rfl ?_
        refine XO.nil ?_
        refine XE.next ?_
        refine XC.keep [(0, _), (4, _), (5, _), (6, _), (7, _), (45, _), (51, _)] (Sub.cons rfl (Sub.cons rfl (Sub.cons rfl (Sub.cons rfl (Sub.cons rfl (Sub.cons rfl (Sub.cons rfl (Sub.nil _)))))))) ?_
        refine XC.condP rfl (fun h3 => ?_) (fun h3 => ?_)
        · skip
          refine XC.regionQ mixed (f := 14) (l := #[false, false, false, false, false, false, false, false, false, false, false, false, false, false]) rfl rfl XM.drawn' ?_
          refine XQ.pv (i := 0) (l' := #[true, false, false, false, false, false, false, false, false, false, false, false, false, false]) rfl (by kernel_rfl) rfl (V.move rfl) rfl rfl ?_
          refine XQ.pv (i := 1) (l' := #[true, true, false, false, false, false, false, false, false, false, false, false, false, false]) rfl (by kernel_rfl) rfl (V.fieldAddr rfl fo_31_1) rfl rfl ?_
          refine XQ.load (i := 2) (l' := #[true, true, true, false, false, false, false, false, false, false, false, false, false, false]) (.cells _ _ _ _) [5, 11, 12] rfl (by kernel_rfl) rfl .here (V.load rfl inEnt (encAct.ld_A _) sc_3) rfl (by kernel_rfl) rfl ?_
          refine XQ.pv (i := 3) (l' := #[true, true, true, true, false, false, false, false, false, false, false, false, false, false]) rfl (by kernel_rfl) rfl (V.fieldAddr rfl fo_31_4) rfl rfl ?_
          refine XQ.load (i := 4) (l' := #[true, true, true, true, true, false, false, false, false, false, false, false, false, false]) (.cells _ _ _ _) [5, 11, 12] rfl (by kernel_rfl) rfl .here (V.load rfl inEnt (encAct.ld_Key _) sc_29) rfl (by kernel_rfl) rfl ?_
          refine XQ.pv (i := 6) (l' := #[true, true, true, true, true, false, true, false, false, false, false, false, false, false]) rfl (by kernel_rfl) rfl (V.move rfl) rfl rfl ?_
          refine XQ.pv (i := 7) (l' := #[true, true, true, true, true, false, true, true, false, false, false, false, false, false]) rfl (by kernel_rfl) rfl (V.fieldAddr rfl fo_31_1) rfl rfl ?_
          refine XQ.load (i := 8) (l' := #[true, true, true, true, true, false, true, true, true, false, false, false, false, false]) (.cells _ _ _ _) [11, 12] rfl (by kernel_rfl) rfl .here (V.load rfl inEnt (encAct.ld_A _) sc_3) rfl (by kernel_rfl) rfl ?_
          refine XQ.pv (i := 9) (l' := #[true, true, true, true, true, false, true, true, true, true, false, false, false, false]) rfl (by kernel_rfl) rfl (V.fieldAddr rfl fo_31_4) rfl rfl ?_
          refine XQ.load (i := 10) (l' := #[true, true, true, true, true, false, true, true, true, true, true, false, false, false]) (.cells _ _ _ _) [11, 12] rfl (by kernel_rfl) rfl .here (V.load rfl inEnt (encAct.ld_Key _) sc_29) rfl (by kernel_rfl) rfl ?_
          refine XQ.call (i := 5) (l' := #[true, true, true, true, true, true, true, true, true, true, true, false, false, false]) rfl (by kernel_rfl) rfl rfl (q_Put _ _ _ _ x.s hx.ok _ _) (.cons (.there .here) (.cons (.there .here) .nil)) cl_49 rfl (by rintro _ _ ⟨p3, c3, rfl, rfl⟩; all_goals (intro _ hw'; exact ⟨fun _ => inXM (.there (.there .here)) _ hw', fun _ => inXM (.there (.there .here)) _ hw', fun hs => (hs 5 (by simp) rfl).elim, fun hs => (hs 5 (by simp) rfl).elim, trivial⟩)) ?_
          rintro _ _ ⟨p3, c3, rfl, rfl⟩
          refine XQ.call (i := 11) (l' := #[true, true, true, true, true, true, true, true, true, true, true, true, false, false]) rfl (by kernel_rfl) rfl rfl (qr_Put _ _ _ _ _) (.cons (.there (.there (.there .here))) .nil) cl_50 rfl (by rintro _ _ ⟨rfl, rfl⟩; all_goals (intro _ hw'; exact ⟨fun hs => (hs 11 (by simp) rfl).elim, fun hs => (hs 11 (by simp) rfl).elim, fun hs => (hs 5 (by simp) rfl).elim, fun hs => (hs 5 (by simp) rfl).elim, trivial⟩)) ?_
          rintro _ _ ⟨rfl, rfl⟩
          refine XQ.call (i := 12) (l' := #[true, true, true, true, true, true, true, true, true, true, true, true, true, false]) rfl (by kernel_rfl) rfl rfl (same_any _ _ (QS.put_nn _ _ _)) .nil cl_15 rfl (by rintro _ _ ⟨rfl, rfl⟩; all_goals (intro _ hw'; exact ⟨fun hs => (hs 11 (by simp) rfl).elim, fun hs => (hs 11 (by simp) rfl).elim, fun hs => (hs 5 (by simp) rfl).elim, fun hs => (hs 5 (by simp) rfl).elim, trivial⟩)) ?_
          rintro _ _ ⟨rfl, rfl⟩
          refine XQ.pv (i := 13) (l' := #[true, true, true, true, true, true, true, true, true, true, true, true, true, true]) rfl (by kernel_rfl) rfl (V.assign rfl) rfl rfl ?_
          refine XQ.done (by kernel_rfl) ?_
          refine XE.blockNormal ?_
          refine XE.meetG (⟨(x.s.put (A x.i).a (A x.i).key).2, p3, c3, (x.r.put (A x.i).a (A x.i).key).2, 0⟩) ?_ (Sub.cons rfl (Sub.cons rfl (Sub.cons rfl (Sub.cons rfl (Sub.cons (okT (hx.put _ _).1) (Sub.nil _)))))) (fun _ hw => XM.pick (.cons (.there .here) (.cons (.there .here) (.cons .here (.cons (.there .here) .nil)))) hw)
          exact (hx.put _ _).2
        · skip
          refine XC.seq ?_
          refine XC.region ?_
          refine XO.v (V.strCmp rfl rfl rfl) rfl ?_
          refine XO.v (V.assign rfl) rfl ?_
          refine XO.nil ?_
          refine XE.next ?_
          refine XC.keep [(0, _), (4, _), (5, _), (6, _), (7, _), (45, _), (66, _)] (Sub.cons rfl (Sub.cons rfl (Sub.cons rfl (Sub.cons rfl (Sub.cons rfl (Sub.cons rfl (Sub.cons rfl (Sub.nil _)))))))) ?_
          refine XC.condP rfl (fun h4 => ?_) (fun h4 => ?_)
          · skip
            refine XC.seq ?_
            refine XC.region ?_
            refine XO.v (V.move rfl) rfl ?_
            refine XO.v (V.fieldAddr rfl fo_31_1) rfl ?_
            refine XO.v (V.load rfl (inXM .here) (encAct.ld_A _) sc_3) rfl ?_
            refine XO.call rfl (q_Cut _ _ _ _ _ hx.ok hx.heap _) (.cons (.there .here) (.cons (.there .here) .nil)) cl_51 rfl ?_
            rintro _ _ ⟨p3, c3, rfl, rfl⟩
            refine XO.v (V.move rfl) rfl ?_
            refine XO.v (V.extract rfl rfl) rfl ?_
            refine XO.v (V.extract rfl rfl) rfl ?_
            refine XO.v (V.assign rfl) rfl ?_
            refine XO.v (V.assign rfl) rfl ?_
            refine XO.nil ?_
            refine XE.next ?_
            refine XC.keep [(0, _), (4, _), (5, _), (6, _), (7, _), (9, _), (10, _)] (Sub.cons rfl (Sub.cons rfl (Sub.cons rfl (Sub.cons rfl (Sub.cons rfl (Sub.cons rfl (Sub.cons rfl (Sub.nil _)))))))) ?_
            refine XC.seq ?_
            refine XC.region ?_
            refine XO.v (V.move rfl) rfl ?_
            refine XO.v (V.fieldAddr rfl fo_31_1) rfl ?_
            refine XO.v (V.load rfl (inXM (.there (.there .here))) (encAct.ld_A _) sc_3) rfl ?_
            refine XO.call rfl (qr_OfT _ _ _ _) (.cons (.there (.there (.there .here))) .nil) cl_52 rfl ?_
            rintro _ _ ⟨rfl, rfl⟩
            refine XO.v (V.move rfl) rfl ?_
            refine XO.v (V.extract rfl rfl) rfl ?_
            refine XO.v (V.extract rfl rfl) rfl ?_
            refine XO.v (V.assign rfl) rfl ?_
            refine XO.v (V.assign rfl) rfl ?_
            refine XO.nil ?_
            refine XE.next ?_
            refine XC.keep [(0, _), (4, _), (5, _), (6, _), (9, _), (10, _), (11, _), (12, _)] (Sub.cons rfl (Sub.cons rfl (Sub.cons rfl (Sub.cons rfl (Sub.cons rfl (Sub.cons rfl (Sub.cons rfl (Sub.cons rfl (Sub.nil _))))))))) ?_
            refine XC.region ?_
            refine XO.v (V.move rfl) rfl ?_
            refine XO.v (V.move rfl) rfl ?_
            refine XO.v (V.cmp rfl rfl rfl) rfl ?_
            refine XO.v (V.move rfl) rfl ?_
            refine XO.splitT (d := 85) rfl ((hx.cut _).1) ?_
            refine XO.guardRun rfl rfl rfl ?_
            refine XO.v (V.move rfl) rfl ?_
            refine XO.guardRun rfl rfl rfl ?_
            refine XO.v (V.move rfl) rfl ?_
            refine XO.guardRun rfl rfl rfl ?_
            refine XO.call rfl (same_any _ _ (QS.cut_nn _ _)) .nil cl_15 rfl ?_
            rintro _ _ ⟨rfl, rfl⟩
            refine XO.v (V.pick rfl rfl rfl rfl) rfl ?_
            refine XO.v (V.assign rfl) rfl ?_
            refine XO.nil ?_
            refine XE.blockNormal ?_
            refine XE.meetG (⟨(x.s.cut (A x.i).a).2.2, p3, c3, (x.r.of_ (A x.i).a true).2.2, 0⟩) ?_ (Sub.cons rfl (Sub.cons rfl (Sub.cons rfl (Sub.cons rfl (Sub.cons (okT (hx.cut _).2.1) (Sub.nil _)))))) (fun _ hw => XM.pick (.cons (.there .here) (.cons (.there .here) (.cons .here (.cons (.there .here) .nil)))) hw)
            exact (hx.cut _).2.2
          · skip
            refine XC.seq ?_
            refine XC.region ?_
            refine XO.v (V.strCmp rfl rfl rfl) rfl ?_
            refine XO.v (V.assign rfl) rfl ?_
            refine XO.nil ?_
            refine XE.next ?_
            refine XC.keep [(0, _), (4, _), (5, _), (6, _), (7, _), (90, _)] (Sub.cons rfl (Sub.cons rfl (Sub.cons rfl (Sub.cons rfl (Sub.cons rfl (Sub.cons rfl (Sub.nil _))))))) ?_
            refine XC.condP rfl (fun h6 => ?_) (fun h6 => ?_)
            · skip
              refine XC.seq ?_
              refine XC.region ?_
              refine XO.v (V.move rfl) rfl ?_
              refine XO.v (V.fieldAddr rfl fo_31_1) rfl ?_
              refine XO.v (V.load rfl (inXM .here) (encAct.ld_A _) sc_3) rfl ?_
              refine XO.call rfl (q_Key _ _ _ _ _ hx.ok _) (.cons (.there .here) (.cons (.there .here) .nil)) cl_53 rfl ?_
              rintro _ _ ⟨rfl, rfl⟩
              refine XO.v (V.move rfl) rfl ?_
              refine XO.v (V.extract rfl rfl) rfl ?_
              refine XO.v (V.extract rfl rfl) rfl ?_
              refine XO.v (V.assign rfl) rfl ?_
              refine XO.v (V.assign rfl) rfl ?_
              refine XO.nil ?_
              refine XE.next ?_
              refine XC.keep [(0, _), (4, _), (5, _), (6, _), (7, _), (13, _), (14, _)] (Sub.cons rfl (Sub.cons rfl (Sub.cons rfl (Sub.cons rfl (Sub.cons rfl (Sub.cons rfl (Sub.cons rfl (Sub.nil _)))))))) ?_
              refine XC.seq ?_
              refine XC.region ?_
              refine XO.v (V.move rfl) rfl ?_
              refine XO.v (V.fieldAddr rfl fo_31_1) rfl ?_
              refine XO.v (V.load rfl (inXM (.there (.there .here))) (encAct.ld_A _) sc_3) rfl ?_
              refine XO.call rfl (qr_OfF _ _ _ _) (.cons (.there (.there (.there .here))) .nil) cl_52 rfl ?_
              rintro _ _ ⟨rfl, rfl⟩
              refine XO.v (V.move rfl) rfl ?_
              refine XO.v (V.extract rfl rfl) rfl ?_
              refine XO.v (V.extract rfl rfl) rfl ?_
              refine XO.v (V.assign rfl) rfl ?_
              refine XO.v (V.assign rfl) rfl ?_
              refine XO.nil ?_
              refine XE.next ?_
              refine XC.keep [(0, _), (4, _), (5, _), (6, _), (13, _), (14, _), (15, _), (16, _)] (Sub.cons rfl (Sub.cons rfl (Sub.cons rfl (Sub.cons rfl (Sub.cons rfl (Sub.cons rfl (Sub.cons rfl (Sub.cons rfl (Sub.nil _))))))))) ?_
              refine XC.region ?_
              refine XO.v (V.move rfl) rfl ?_
              refine XO.v (V.move rfl) rfl ?_
              refine XO.v (V.cmp rfl rfl rfl) rfl ?_
              refine XO.v (V.move rfl) rfl ?_
              refine XO.splitT (d := 109) rfl ((hx.key_eq _).1) ?_
              refine XO.guardRun rfl rfl rfl ?_
              refine XO.v (V.move rfl) rfl ?_
              refine XO.guardRun rfl rfl rfl ?_
              refine XO.v (V.move rfl) rfl ?_
              refine XO.guardRun rfl rfl rfl ?_
              refine XO.call rfl (same_any _ _ (QS.key_nn _ _)) .nil cl_15 rfl ?_
              rintro _ _ ⟨rfl, rfl⟩
              refine XO.v (V.pick rfl rfl rfl rfl) rfl ?_
              refine XO.v (V.assign rfl) rfl ?_
              refine XO.nil ?_
              refine XE.blockNormal ?_
              refine XE.meetG (⟨x.s, x.p, x.c, (x.r.of_ (A x.i).a false).2.2, 0⟩) ?_ (Sub.cons rfl (Sub.cons rfl (Sub.cons rfl (Sub.cons rfl (Sub.cons (okT (hx.key_eq _).2.1) (Sub.nil _)))))) (fun _ hw => XM.pick (.cons (.there .here) (.cons (.there .here) (.cons .here (.cons (.there .here) .nil)))) hw)
              exact hx.key_same _
            · skip
              refine XC.region ?_
              refine XO.v (V.move rfl) rfl ?_
              refine XO.call rfl (q_All _ _ _ _ _ hx.ok) (.cons (.there .here) (.cons (.there .here) .nil)) cl_55 rfl ?_
              rintro _ _ ⟨pa1, ca1, fa1, sa1, rfl, rfl⟩
              refine XO.v (V.move rfl) rfl ?_
              refine XO.call rfl (qr_All _ _ _) (.cons (.there (.there (.there (.there .here)))) .nil) cl_56 rfl ?_
              rintro _ _ ⟨pr1, cr1, nr1, fr1, sr1, lr1, rfl, rfl⟩
              refine XO.call rfl (same_f _ _ _ _ _ _ _ _ (by have := hx.ok.n64; omega) (hx.lists sa1 sr1)) (.cons (.there (.there (.there (.there .here)))) (.cons (.there .here) .nil)) cl_54 rfl ?_
              rintro _ _ ⟨rfl, rfl⟩
              refine XO.v (V.assign rfl) rfl ?_
              refine XO.nil ?_
              refine XE.blockNormal ?_
              refine XE.meetG (x) ?_ (Sub.cons rfl (Sub.cons rfl (Sub.cons rfl (Sub.cons rfl (Sub.cons rfl (Sub.nil _)))))) (fun _ hw => XM.pick (.cons (.there (.there (.there .here))) (.cons (.there (.there (.there .here))) (.cons (.there (.there .here)) (.cons (.there (.there (.there .here))) .nil)))) hw)
              exact hx
      intro y hy
      refine XC.seq ?_
      refine XC.region ?_
      refine XO.v (V.move rfl) rfl ?_
      refine XO.call rfl (q_First01 _ _ _ _ _) (.cons .here (.cons .here .nil)) cl_57 rfl ?_
      rintro _ _ ⟨⟨hn0, rfl⟩ | ⟨hn0, rfl⟩, rfl⟩
      · skip
        refine XO.v (V.move rfl) rfl ?_
        refine XO.v (V.extract rfl rfl) rfl ?_
        refine XO.v (V.extract rfl rfl) rfl ?_
        refine XO.v (V.extract rfl rfl) rfl ?_
        refine XO.v (V.assign rfl) rfl ?_
        refine XO.v (V.assign rfl) rfl ?_
        refine XO.v (V.assign rfl) rfl ?_
        refine XO.nil ?_
        refine XE.next ?_
        refine XC.keep [(0, _), (4, _), (5, _), (6, _), (8, _), (17, _), (18, _), (19, _)] (Sub.cons rfl (Sub.cons rfl (Sub.cons rfl (Sub.cons rfl (Sub.cons rfl (Sub.cons rfl (Sub.cons rfl (Sub.cons rfl (Sub.nil _))))))))) ?_
        refine XC.seq ?_
        refine XC.region ?_
        refine XO.v (V.move rfl) rfl ?_
        refine XO.call rfl (qr_All _ _ _) (.cons (.there (.there .here)) .nil) cl_56 rfl ?_
        rintro _ _ ⟨pr2, cr2, nr2, fr2, sr2, lr2, rfl, rfl⟩
        refine XO.v (V.assign rfl) rfl ?_
        refine XO.nil ?_
        refine XE.next ?_
        refine XC.keep [(0, _), (4, _), (5, _), (6, _), (8, _), (17, _), (18, _), (19, _), (20, _)] (Sub.cons rfl (Sub.cons rfl (Sub.cons rfl (Sub.cons rfl (Sub.cons rfl (Sub.cons rfl (Sub.cons rfl (Sub.cons rfl (Sub.cons rfl (Sub.nil _)))))))))) ?_
        refine XC.seq ?_
        refine XC.seq ?_
        refine XC.region ?_
        refine XO.v (V.move rfl) rfl ?_
        refine XO.v (V.lenSl rfl Try.underlying85) rfl ?_
        refine XO.v (V.cmp rfl rfl rfl) rfl ?_
        refine XO.nil ?_
        refine XE.next ?_
        refine XC.keep [(0, _), (4, _), (5, _), (6, _), (8, _), (17, _), (18, _), (19, _), (20, _), (124, _)] (Sub.cons rfl (Sub.cons rfl (Sub.cons rfl (Sub.cons rfl (Sub.cons rfl (Sub.cons rfl (Sub.cons rfl (Sub.cons rfl (Sub.cons rfl (Sub.cons rfl (Sub.nil _))))))))))) ?_
        refine XC.condTP rfl (by have := (hy.n_of sr2); omega) ?_
        refine XC.region ?_
        refine XO.v (V.move rfl) rfl ?_
        refine XO.v (V.move rfl) rfl ?_
        refine XO.guardRun rfl rfl rfl ?_
        refine XO.v (V.move rfl) rfl ?_
        refine XO.guardRun rfl rfl rfl ?_
        refine XO.v (V.not rfl) rfl ?_
        refine XO.v (V.pick rfl rfl rfl rfl) rfl ?_
        refine XO.v (V.move rfl) rfl ?_
        refine XO.guardRun rfl rfl rfl ?_
        refine XO.v (V.move rfl) rfl ?_
        refine XO.guardRun rfl rfl rfl ?_
        refine XO.v (V.cmp rfl rfl rfl) rfl ?_
        refine XO.v (V.pick rfl rfl rfl rfl) rfl ?_
        refine XO.v (V.move rfl) rfl ?_
        refine XO.splitT (d := 134) rfl (rfl) ?_
        refine XO.guardRun rfl rfl rfl ?_
        refine XO.v (V.move rfl) rfl ?_
        refine XO.guardRun rfl rfl rfl ?_
        refine XO.v (V.cmp rfl rfl rfl) rfl ?_
        refine XO.v (V.pick rfl rfl rfl rfl) rfl ?_
        refine XO.v (V.assign rfl) rfl ?_
        refine XO.nil ?_
        refine XE.next ?_
        refine XC.keep [(0, _), (4, _), (5, _), (6, _), (8, _), (20, _)] (Sub.cons rfl (Sub.cons rfl (Sub.cons rfl (Sub.cons rfl (Sub.cons rfl (Sub.cons rfl (Sub.nil _))))))) ?_
        refine XC.seq ?_
        refine XC.region ?_
        refine XO.v (V.move rfl) rfl ?_
        refine XO.v (V.notP rfl) rfl ?_
        refine XO.v (V.move rfl) rfl ?_
        refine XO.splitF (d := 163) rfl (by simp) ?_
        refine XO.guardRun rfl rfl rfl ?_
        refine XO.v (V.move rfl) rfl ?_
        refine XO.guardRun rfl rfl rfl ?_
        refine XO.call rfl (q_Len _ _ _ _ _) (.cons (.there (.there .here)) (.cons (.there (.there .here)) .nil)) cl_58 rfl ?_
        rintro _ _ ⟨rfl, rfl⟩
        refine XO.guardRun rfl rfl rfl ?_
        refine XO.v (V.move rfl) rfl ?_
        refine XO.guardRun rfl rfl rfl ?_
        refine XO.v (V.lenSl rfl Try.underlying85) rfl ?_
        refine XO.guardRun rfl rfl rfl ?_
        refine XO.v (V.cmp rfl rfl rfl) rfl ?_
        refine XO.v (V.pick rfl rfl rfl rfl) rfl ?_
        refine XO.nil ?_
        refine XE.next ?_
        refine XC.keep [(0, _), (4, _), (5, _), (6, _), (169, _)] (Sub.cons rfl (Sub.cons rfl (Sub.cons rfl (Sub.cons rfl (Sub.cons rfl (Sub.nil _)))))) ?_
        refine XC.condFP rfl (by have := hy.n_of sr2; omega) ?_
        refine XC.skip ?_
        refine XE.blockNormal ?_
        refine XE.next ?_
        refine XC.keep [(0, _), (4, _), (5, _), (6, _)] (Sub.cons rfl (Sub.cons rfl (Sub.cons rfl (Sub.cons rfl (Sub.nil _))))) ?_
        refine XC.region ?_
        refine XO.v (V.move rfl) rfl ?_
        refine XO.v (V.add rfl rfl _ (IntWalk.i64_in _ (by omega))) rfl ?_
        refine XO.v (V.assign rfl) rfl ?_
        refine XO.nil ?_
        refine XE.again (⟨y.s, y.p, y.c, y.r, x.i + 1⟩) ?_ ?_ (Sub.cons rfl (Sub.cons rfl (Sub.cons rfl (Sub.cons rfl (Sub.nil _))))) (fun _ hw => XM.pick (.cons .here (.cons .here (.cons .here (.cons (.there .here) .nil)))) hw)
        · skip
          (simp; omega)
        · skip
          exact ⟨hy, by simp; omega, by simp; omega⟩
      · skip
        refine XO.v (V.move rfl) rfl ?_
        refine XO.v (V.extract rfl rfl) rfl ?_
        refine XO.v (V.extract rfl rfl) rfl ?_
        refine XO.v (V.extract rfl rfl) rfl ?_
        refine XO.v (V.assign rfl) rfl ?_
        refine XO.v (V.assign rfl) rfl ?_
        refine XO.v (V.assign rfl) rfl ?_
        refine XO.nil ?_
        refine XE.next ?_
        refine XC.keep [(0, _), (4, _), (5, _), (6, _), (8, _), (17, _), (18, _), (19, _)] (Sub.cons rfl (Sub.cons rfl (Sub.cons rfl (Sub.cons rfl (Sub.cons rfl (Sub.cons rfl (Sub.cons rfl (Sub.cons rfl (Sub.nil _))))))))) ?_
        refine XC.seq ?_
        refine XC.region ?_
        refine XO.v (V.move rfl) rfl ?_
        refine XO.call rfl (qr_All _ _ _) (.cons (.there (.there .here)) .nil) cl_56 rfl ?_
        rintro _ _ ⟨pr2, cr2, nr2, fr2, sr2, lr2, rfl, rfl⟩
        refine XO.v (V.assign rfl) rfl ?_
        refine XO.nil ?_
        refine XE.next ?_
        refine XC.keep [(0, _), (4, _), (5, _), (6, _), (8, _), (17, _), (18, _), (19, _), (20, _)] (Sub.cons rfl (Sub.cons rfl (Sub.cons rfl (Sub.cons rfl (Sub.cons rfl (Sub.cons rfl (Sub.cons rfl (Sub.cons rfl (Sub.cons rfl (Sub.nil _)))))))))) ?_
        refine XC.seq ?_
        refine XC.seq ?_
        refine XC.region ?_
        refine XO.v (V.move rfl) rfl ?_
        refine XO.v (V.lenSl rfl Try.underlying85) rfl ?_
        refine XO.v (V.cmp rfl rfl rfl) rfl ?_
        refine XO.nil ?_
        refine XE.next ?_
        refine XC.keep [(0, _), (4, _), (5, _), (6, _), (8, _), (17, _), (18, _), (19, _), (20, _), (124, _)] (Sub.cons rfl (Sub.cons rfl (Sub.cons rfl (Sub.cons rfl (Sub.cons rfl (Sub.cons rfl (Sub.cons rfl (Sub.cons rfl (Sub.cons rfl (Sub.cons rfl (Sub.nil _))))))))))) ?_
        refine XC.condFP rfl (by have := (hy.n_of sr2); omega) ?_
        refine XC.openRow (.there .here) (by have := hy.n_of sr2; omega) ?_
        intro g1 h10
        subst h10
        refine XC.regionQ mixed (f := 24) (l := #[false, false, false, false, false, false, false, false, false, false, false, false, false, false, false, false, false, false, false, false, false, false, false, false]) rfl rfl XM.drawn' ?_
        have hnn := hy.n_of sr2
        have hf := hy.first sr2 (by omega) hn0
        obtain ⟨hf1, hf2⟩ := hf.1
        refine XQ.pv (i := 0) (l' := #[true, false, false, false, false, false, false, false, false, false, false, false, false, false, false, false, false, false, false, false, false, false, false, false]) rfl (by kernel_rfl) rfl (V.move rfl) rfl rfl ?_
        refine XQ.pv (i := 1) (l' := #[true, true, false, false, false, false, false, false, false, false, false, false, false, false, false, false, false, false, false, false, false, false, false, false]) rfl (by kernel_rfl) rfl (V.move rfl) rfl rfl ?_
        refine XQ.pvG (i := 2) (l' := #[true, true, true, false, false, false, false, false, false, false, false, false, false, false, false, false, false, false, false, false, false, false, false, false]) rfl rfl rfl (by kernel_rfl) rfl (V.move rfl) rfl rfl ?_
        refine XQ.pv (i := 3) (l' := #[true, true, true, true, false, false, false, false, false, false, false, false, false, false, false, false, false, false, false, false, false, false, false, false]) rfl (by kernel_rfl) rfl (V.pick rfl rfl rfl rfl) rfl rfl ?_
        refine XQ.pv (i := 4) (l' := #[true, true, true, true, true, false, false, false, false, false, false, false, false, false, false, false, false, false, false, false, false, false, false, false]) rfl (by kernel_rfl) rfl (V.move rfl) rfl rfl ?_
        refine XQ.pvG (i := 5) (l' := #[true, true, true, true, true, true, false, false, false, false, false, false, false, false, false, false, false, false, false, false, false, false, false, false]) rfl rfl rfl (by kernel_rfl) rfl (V.move rfl) rfl rfl ?_
        refine XQ.pvG (i := 6) (l' := #[true, true, true, true, true, true, true, false, false, false, false, false, false, false, false, false, false, false, false, false, false, false, false, false]) rfl rfl rfl (by kernel_rfl) rfl (V.move rfl) rfl rfl ?_
        refine XQ.pvG (i := 7) (l' := #[true, true, true, true, true, true, true, true, false, false, false, false, false, false, false, false, false, false, false, false, false, false, false, false]) rfl rfl rfl (by kernel_rfl) rfl (V.indexSl rfl rfl sl_85 (by omega)) rfl rfl ?_
        refine XQ.loadG (i := 8) (l' := #[true, true, true, true, true, true, true, true, true, false, false, false, false, false, false, false, false, false, false, false, false, false, false, false]) (.row _ _ _ _ _) [] rfl rfl rfl (by kernel_rfl) rfl (.there .here) (V.loadF rfl inEnt (encF_ld _ _ _ (by omega)) sc_3) rfl (by kernel_rfl) rfl ?_
        refine XQ.pvG (i := 9) (l' := #[true, true, true, true, true, true, true, true, true, true, false, false, false, false, false, false, false, false, false, false, false, false, false, false]) rfl rfl rfl (by kernel_rfl) rfl (V.cmp rfl rfl rfl) rfl rfl ?_
        refine XQ.pv (i := 10) (l' := #[true, true, true, true, true, true, true, true, true, true, true, false, false, false, false, false, false, false, false, false, false, false, false, false]) rfl (by kernel_rfl) rfl (V.pick rfl rfl rfl rfl) rfl rfl ?_
        refine XQ.pv (i := 11) (l' := #[true, true, true, true, true, true, true, true, true, true, true, true, false, false, false, false, false, false, false, false, false, false, false, false]) rfl (by kernel_rfl) rfl (V.move rfl) rfl rfl ?_
        refine XQ.splitT (d := 149) rfl (hf.2.1) ?_
        refine XQ.pvG (i := 12) (l' := #[true, true, true, true, true, true, true, true, true, true, true, true, true, false, false, false, false, false, false, false, false, false, false, false]) rfl rfl rfl (by kernel_rfl) rfl (V.move rfl) rfl rfl ?_
        refine XQ.pvG (i := 13) (l' := #[true, true, true, true, true, true, true, true, true, true, true, true, true, true, false, false, false, false, false, false, false, false, false, false]) rfl rfl rfl (by kernel_rfl) rfl (V.move rfl) rfl rfl ?_
        refine XQ.pvG (i := 14) (l' := #[true, true, true, true, true, true, true, true, true, true, true, true, true, true, true, false, false, false, false, false, false, false, false, false]) rfl rfl rfl (by kernel_rfl) rfl (V.move rfl) rfl rfl ?_
        refine XQ.pvG (i := 15) (l' := #[true, true, true, true, true, true, true, true, true, true, true, true, true, true, true, true, false, false, false, false, false, false, false, false]) rfl rfl rfl (by kernel_rfl) rfl (V.indexSl rfl rfl sl_85 (by omega)) rfl rfl ?_
        refine XQ.loadG (i := 16) (l' := #[true, true, true, true, true, true, true, true, true, true, true, true, true, true, true, true, true, false, false, false, false, false, false, false]) (.row _ _ _ _ _) [] rfl rfl rfl (by kernel_rfl) rfl (.there .here) (V.loadF rfl inEnt (encF_ld _ _ _ (by omega)) sc_3) rfl (by kernel_rfl) rfl ?_
        refine XQ.pvG (i := 17) (l' := #[true, true, true, true, true, true, true, true, true, true, true, true, true, true, true, true, true, true, false, false, false, false, false, false]) rfl rfl rfl (by kernel_rfl) rfl (V.nilCheckP rfl) rfl rfl ?_
        refine XQ.pvG (i := 18) (l' := #[true, true, true, true, true, true, true, true, true, true, true, true, true, true, true, true, true, true, true, false, false, false, false, false]) rfl rfl rfl (by kernel_rfl) rfl (V.fieldAddr rfl fo_77_1) rfl rfl ?_
        refine XQ.pvG (i := 19) (l' := #[true, true, true, true, true, true, true, true, true, true, true, true, true, true, true, true, true, true, true, true, false, false, false, false]) rfl rfl rfl (by kernel_rfl) rfl (V.indexArr rfl rfl ar_75 (by omega)) rfl rfl ?_
        refine XQ.loadG (i := 20) (l' := #[true, true, true, true, true, true, true, true, true, true, true, true, true, true, true, true, true, true, true, true, true, false, false, false]) (.cells _ _ _ _) [] rfl rfl rfl (by kernel_rfl) rfl .here (V.load rfl inEnt (encRQ.ld_Key_I _ _ (by omega)) sc_29) rfl (by kernel_rfl) rfl ?_
        refine XQ.pvG (i := 21) (l' := #[true, true, true, true, true, true, true, true, true, true, true, true, true, true, true, true, true, true, true, true, true, true, false, false]) rfl rfl rfl (by kernel_rfl) rfl (V.cmp rfl rfl rfl) rfl rfl ?_
        refine XQ.pv (i := 22) (l' := #[true, true, true, true, true, true, true, true, true, true, true, true, true, true, true, true, true, true, true, true, true, true, true, false]) rfl (by kernel_rfl) rfl (V.pick rfl rfl rfl rfl) rfl rfl ?_
        refine XQ.pv (i := 23) (l' := #[true, true, true, true, true, true, true, true, true, true, true, true, true, true, true, true, true, true, true, true, true, true, true, true]) rfl (by kernel_rfl) rfl (V.assign rfl) rfl rfl ?_
        refine XQ.done (by kernel_rfl) ?_
        refine XE.next ?_
        refine XC.keep [(0, _), (4, _), (5, _), (6, _), (8, _), (20, _)] (Sub.cons rfl (Sub.cons rfl (Sub.cons rfl (Sub.cons rfl (Sub.cons rfl (Sub.cons rfl (Sub.nil _))))))) ?_
        refine XC.seq ?_
        refine XC.region ?_
        refine XO.v (V.move rfl) rfl ?_
        refine XO.v (V.notP rfl) rfl ?_
        refine XO.v (V.move rfl) rfl ?_
        refine XO.splitF (d := 163) rfl (by simp [hf.2.2]) ?_
        refine XO.guardRun rfl rfl rfl ?_
        refine XO.v (V.move rfl) rfl ?_
        refine XO.guardRun rfl rfl rfl ?_
        refine XO.call rfl (q_Len _ _ _ _ _) (.cons (.there (.there .here)) (.cons (.there (.there .here)) .nil)) cl_58 rfl ?_
        rintro _ _ ⟨rfl, rfl⟩
        refine XO.guardRun rfl rfl rfl ?_
        refine XO.v (V.move rfl) rfl ?_
        refine XO.guardRun rfl rfl rfl ?_
        refine XO.v (V.lenSl rfl Try.underlying85) rfl ?_
        refine XO.guardRun rfl rfl rfl ?_
        refine XO.v (V.cmp rfl rfl rfl) rfl ?_
        refine XO.v (V.pick rfl rfl rfl rfl) rfl ?_
        refine XO.nil ?_
        refine XE.next ?_
        refine XC.keep [(0, _), (4, _), (5, _), (6, _), (169, _)] (Sub.cons rfl (Sub.cons rfl (Sub.cons rfl (Sub.cons rfl (Sub.cons rfl (Sub.nil _)))))) ?_
        refine XC.condFP rfl (by have := hy.n_of sr2; omega) ?_
        refine XC.skip ?_
        refine XE.blockNormal ?_
        refine XE.next ?_
        refine XC.keep [(0, _), (4, _), (5, _), (6, _)] (Sub.cons rfl (Sub.cons rfl (Sub.cons rfl (Sub.cons rfl (Sub.nil _))))) ?_
        refine XC.region ?_
        refine XO.v (V.move rfl) rfl ?_
        refine XO.v (V.add rfl rfl _ (IntWalk.i64_in _ (by omega))) rfl ?_
        refine XO.v (V.assign rfl) rfl ?_
        refine XO.nil ?_
        refine XE.again (⟨y.s, y.p, y.c, y.r, x.i + 1⟩) ?_ ?_ (Sub.cons rfl (Sub.cons rfl (Sub.cons rfl (Sub.cons rfl (Sub.nil _))))) (fun _ hw => XM.pick (.cons .here (.cons .here (.cons .here (.cons (.there .here) .nil)))) hw)
        · skip
          (simp; omega)
        · skip
          exact ⟨hy, by simp; omega, by simp; omega⟩
    · skip
      refine XC.exit ?_
      refine XE.thenExit ?_
      refine XE.thenExit ?_
      refine XE.blockExit ?_
      refine XE.next ?_
      refine XC.keep [(4, _), (5, _)] (Sub.cons rfl (Sub.cons rfl (Sub.nil _))) ?_
      refine XC.seq ?_
      refine XC.region ?_
      refine XO.v (V.move rfl) rfl ?_
      refine XO.call rfl (q_All _ _ _ _ _ hx.ok) (.cons .here (.cons .here .nil)) cl_55 rfl ?_
      rintro _ _ ⟨pa3, ca3, fa3, sa3, rfl, rfl⟩
      refine XO.v (V.move rfl) rfl ?_
      refine XO.call rfl (qr_All _ _ _) (.cons (.there (.there (.there .here))) .nil) cl_56 rfl ?_
      rintro _ _ ⟨pr3, cr3, nr3, fr3, sr3, lr3, rfl, rfl⟩
      refine XO.call rfl (same_f _ _ _ _ _ _ _ _ (by have := hx.ok.n64; omega) (hx.lists sa3 sr3)) (.cons (.there (.there (.there (.there .here)))) (.cons (.there .here) .nil)) cl_54 rfl ?_
      rintro _ _ ⟨rfl, rfl⟩
      refine XO.v (V.assign rfl) rfl ?_
      refine XO.nil ?_
      refine XE.next ?_
      refine XC.keep [(2, _)] (Sub.cons rfl (Sub.nil _)) ?_
      refine XC.ret ?_
      refine XE.ret1 rfl rfl (post_of .nil rfl ?_)
      exact ⟨rfl, rfl⟩
end Go.X
