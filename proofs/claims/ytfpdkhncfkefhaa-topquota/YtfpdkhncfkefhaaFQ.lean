import Derived.Test.YtfpdkhncfkefhaaFO
import Derived.Test.YtfpdkhncfkefhaaProg
import Derived.KernelRfl
namespace Go.X
open Go Go.Proofs
theorem mixed : Try.prog.follows .mixedOrders = true := by kernel_rfl
theorem ag_86 : aggT Try.prog 86 = true := by kernel_rfl
theorem ar_58 : arrOf Try.prog 58 = some (64, 1) := by kernel_rfl
theorem cl_48 : callable Try.prog 48 = true := by kernel_rfl
theorem cl_49 : callable Try.prog 49 = true := by kernel_rfl
theorem cl_50 : callable Try.prog 50 = true := by kernel_rfl
theorem cl_51 : callable Try.prog 51 = true := by kernel_rfl
theorem fo_60_0 : fieldOff Try.prog 60 0 = some 0 := by kernel_rfl
theorem fo_60_1 : fieldOff Try.prog 60 1 = some 1 := by kernel_rfl
theorem fo_86_0 : fieldOff Try.prog 86 0 = some 0 := by kernel_rfl
theorem fo_86_1 : fieldOff Try.prog 86 1 = some 1 := by kernel_rfl
theorem rt_86_2 : rowT Try.prog 86 2 = true := by kernel_rfl
theorem sc_3 : scal Try.prog 3 = true := by kernel_rfl
theorem sc_30 : scal Try.prog 30 = true := by kernel_rfl
theorem sc_57 : scal Try.prog 57 = true := by kernel_rfl
theorem sl_57 : sliceOf Try.prog 57 = some (86, 2) := by kernel_rfl
theorem sz_3_1 : szOf Try.prog 3 = some 1 := by kernel_rfl
theorem sz_57_1 : szOf Try.prog 57 = some 1 := by kernel_rfl
theorem sz_86_2 : szOf Try.prog 86 = some 2 := by kernel_rfl
set_option maxRecDepth 10000 in
set_option maxHeartbeats 400000 in
theorem q_less (k i k2 i2 : Int) : Spec Try.prog 51 [.agg #[.int .u64 (k), .int .i64 (i)], .agg #[.int .u64 (k2), .int .i64 (i2)]]
    []
    (fun v H1 => v = .bool (decide (lt2 k i k2 i2)) ∧ H1 = []) := by
  refine Spec.intro Try.func51 rfl rfl ?_
  intro W
  refine XC.seq ?_
  refine XC.region ?_
  refine XO.box (m := 2) (C := encIt k i) rfl rfl (encIt_box _ _) rfl ?_
  intro ba
  refine XO.box (m := 2) (C := encIt k2 i2) rfl rfl (encIt_box _ _) rfl ?_
  intro bc
  refine XO.v (V.assign rfl) rfl ?_
  refine XO.nil ?_
  refine XE.next ?_
  refine XC.keep [(2, _), (3, _)] (Sub.cons rfl (Sub.cons rfl (Sub.nil _))) ?_
  refine XC.seq ?_
  refine XC.region ?_
  refine XO.v (V.fieldAddr rfl fo_86_0) rfl ?_
  refine XO.v (V.load rfl (inXM (.there .here)) (encIt_key _ _) sc_30) rfl ?_
  refine XO.v (V.fieldAddr rfl fo_86_0) rfl ?_
  refine XO.v (V.load rfl (inXM .here) (encIt_key _ _) sc_30) rfl ?_
  refine XO.v (V.cmp rfl rfl rfl) rfl ?_
  refine XO.v (V.move rfl) rfl ?_
  refine XO.splitP (d := 10) rfl (fun h1 => ?_) (fun h1 => ?_)
  · skip
    refine XO.guardSkip rfl rfl rfl rfl rfl ?_
    refine XO.guardSkip rfl rfl rfl rfl rfl ?_
    refine XO.guardSkip rfl rfl rfl rfl rfl ?_
    refine XO.guardSkip rfl rfl rfl rfl rfl ?_
    refine XO.guardSkip rfl rfl rfl rfl rfl ?_
    refine XO.guardSkip rfl rfl rfl rfl rfl ?_
    refine XO.guardSkipU rfl rfl rfl rfl rfl ?_
    refine XO.guardSkipU rfl rfl rfl rfl rfl ?_
    refine XO.guardSkipU rfl rfl rfl rfl rfl ?_
    refine XO.guardSkipU rfl rfl rfl rfl rfl ?_
    refine XO.guardSkipU rfl rfl rfl rfl rfl ?_
    refine XO.guardSkip rfl rfl rfl rfl rfl ?_
    refine XO.v (V.pick rfl rfl rfl rfl) rfl ?_
    refine XO.v (V.assign rfl) rfl ?_
    refine XO.nil ?_
    refine XE.next ?_
    refine XC.keep [(4, _)] (Sub.cons rfl (Sub.nil _)) ?_
    refine XC.ret ?_
    refine XE.ret1 rfl rfl (post_of .nil rfl ?_)
    refine ⟨congrArg Value.bool ?_, rfl⟩
    first
    | exact (decide_eq_true (.inl (by assumption))).symm
    | exact (decide_eq_false (by unfold lt2; omega)).symm
    | (have e : lt2 k i k2 i2 ↔ i < i2 := by unfold lt2; omega
       simp only [e])
  · skip
    refine XO.guardRun rfl rfl rfl ?_
    refine XO.v (V.fieldAddr rfl fo_86_0) rfl ?_
    refine XO.guardRun rfl rfl rfl ?_
    refine XO.v (V.load rfl (inXM (.there .here)) (encIt_key _ _) sc_30) rfl ?_
    refine XO.guardRun rfl rfl rfl ?_
    refine XO.v (V.fieldAddr rfl fo_86_0) rfl ?_
    refine XO.guardRun rfl rfl rfl ?_
    refine XO.v (V.load rfl (inXM .here) (encIt_key _ _) sc_30) rfl ?_
    refine XO.guardRun rfl rfl rfl ?_
    refine XO.v (V.cmp rfl rfl rfl) rfl ?_
    refine XO.guardRun rfl rfl rfl ?_
    refine XO.v (V.move rfl) rfl ?_
    refine XO.splitP (d := 16) rfl (fun h2 => ?_) (fun h2 => ?_)
    · skip
      refine XO.guardRun rfl rfl rfl ?_
      refine XO.v (V.fieldAddr rfl fo_86_1) rfl ?_
      refine XO.guardRun rfl rfl rfl ?_
      refine XO.v (V.load rfl (inXM (.there .here)) (encIt_id _ _) sc_3) rfl ?_
      refine XO.guardRun rfl rfl rfl ?_
      refine XO.v (V.fieldAddr rfl fo_86_1) rfl ?_
      refine XO.guardRun rfl rfl rfl ?_
      refine XO.v (V.load rfl (inXM .here) (encIt_id _ _) sc_3) rfl ?_
      refine XO.guardRun rfl rfl rfl ?_
      refine XO.v (V.cmp rfl rfl rfl) rfl ?_
      refine XO.guardRun rfl rfl rfl ?_
      refine XO.v (V.pick rfl rfl rfl rfl) rfl ?_
      refine XO.v (V.pick rfl rfl rfl rfl) rfl ?_
      refine XO.v (V.assign rfl) rfl ?_
      refine XO.nil ?_
      refine XE.next ?_
      refine XC.keep [(4, _)] (Sub.cons rfl (Sub.nil _)) ?_
      refine XC.ret ?_
      refine XE.ret1 rfl rfl (post_of .nil rfl ?_)
      refine ⟨congrArg Value.bool ?_, rfl⟩
      first
      | exact (decide_eq_true (.inl (by assumption))).symm
      | exact (decide_eq_false (by unfold lt2; omega)).symm
      | (have e : lt2 k i k2 i2 ↔ i < i2 := by unfold lt2; omega
         simp only [e])
    · skip
      refine XO.guardSkip rfl rfl rfl rfl rfl ?_
      refine XO.guardSkip rfl rfl rfl rfl rfl ?_
      refine XO.guardSkip rfl rfl rfl rfl rfl ?_
      refine XO.guardSkip rfl rfl rfl rfl rfl ?_
      refine XO.guardSkip rfl rfl rfl rfl rfl ?_
      refine XO.guardRun rfl rfl rfl ?_
      refine XO.v (V.pick rfl rfl rfl rfl) rfl ?_
      refine XO.v (V.pick rfl rfl rfl rfl) rfl ?_
      refine XO.v (V.assign rfl) rfl ?_
      refine XO.nil ?_
      refine XE.next ?_
      refine XC.keep [(4, _)] (Sub.cons rfl (Sub.nil _)) ?_
      refine XC.ret ?_
      refine XE.ret1 rfl rfl (post_of .nil rfl ?_)
      refine ⟨congrArg Value.bool ?_, rfl⟩
      first
      | exact (decide_eq_true (.inl (by assumption))).symm
      | exact (decide_eq_false (by unfold lt2; omega)).symm
      | (have e : lt2 k i k2 i2 ↔ i < i2 := by unfold lt2; omega
         simp only [e])
set_option maxRecDepth 10000 in
set_option maxHeartbeats 400000 in
theorem q_put (b o g cap : Nat) (s : QS) (i k id : Int) (hi : 0 ≤ i ∧ i < s.n) (hd : 0 ≤ id ∧ id < 64) (hn : s.n ≤ 1000) : Spec Try.prog 49 [ptr b o 0, .int .i64 i, .agg #[.int .u64 (k), .int .i64 (id)]]
    [.cells b o 65 (encQ (s) (some ⟨g, 0, none⟩) cap), frow (some ⟨g, 0, none⟩) cap 86 2 (s).n (encH (s))]
    (fun v H1 => v = .tuple #[] ∧ H1 = [.cells b o 65 (encQ (s.set i k id) (some ⟨g, 0, none⟩) cap), frow (some ⟨g, 0, none⟩) cap 86 2 (s.set i k id).n (encH (s.set i k id))]) := by
  refine Spec.intro Try.func49 rfl rfl ?_
  intro W
  refine XC.seq ?_
  refine XC.region ?_
  refine XO.box (m := 2) (C := encIt k id) rfl rfl (encIt_box _ _) rfl ?_
  intro bx
  refine XO.nil ?_
  refine XE.next ?_
  refine XC.keep [(0, _), (1, _), (5, _)] (Sub.cons rfl (Sub.cons rfl (Sub.cons rfl (Sub.nil _)))) ?_
  refine XC.seq ?_
  refine XC.regionQ mixed (f := 8) (l := #[false, false, false, false, false, false, false, false]) rfl rfl XM.drawn' ?_
  refine XQ.pv (i := 0) (l' := #[true, false, false, false, false, false, false, false]) rfl (by kernel_rfl) rfl (V.move rfl) rfl rfl ?_
  refine XQ.pv (i := 1) (l' := #[true, true, false, false, false, false, false, false]) rfl (by kernel_rfl) rfl (V.nilCheckP rfl) rfl rfl ?_
  refine XQ.pv (i := 2) (l' := #[true, true, true, false, false, false, false, false]) rfl (by kernel_rfl) rfl (V.fieldAddr rfl fo_60_0) rfl rfl ?_
  refine XQ.load (i := 3) (l' := #[true, true, true, true, false, false, false, false]) (.cells _ _ _ _) [7] rfl (by kernel_rfl) rfl (.there .here) (V.load rfl inEnt (encQ_h _ _ _) sc_57) rfl (by kernel_rfl) rfl ?_
  refine XQ.pv (i := 4) (l' := #[true, true, true, true, true, false, false, false]) rfl (by kernel_rfl) rfl (V.move rfl) rfl rfl ?_
  refine XQ.load (i := 5) (l' := #[true, true, true, true, true, true, false, false]) (.cells _ _ _ _) [7] rfl (by kernel_rfl) rfl .here (V.loadAgg rfl inEnt (encIt_item _ _) ag_86 sz_86_2) rfl (by kernel_rfl) rfl ?_
  refine XQ.pv (i := 6) (l' := #[true, true, true, true, true, true, true, false]) rfl (by kernel_rfl) rfl (V.indexSl rfl rfl sl_57 (by omega)) rfl rfl ?_
  refine XQ.storeFA (i := 7) (l' := #[true, true, true, true, true, true, true, true]) rfl (by kernel_rfl) rfl rfl rfl (.there (.there .here)) (encH_set _ _ _ _ _ (by omega)) ⟨rfl, rfl⟩ sz_86_2 (fun _ hw' => ⟨fun hs => (hs 7 (by simp) rfl).elim, fun hs => (hs 7 (by simp) rfl).elim, trivial⟩) ?_
  refine XQ.done (by kernel_rfl) ?_
  refine XE.next ?_
  refine XC.keep [(0, _), (1, _), (5, _)] (Sub.cons rfl (Sub.cons rfl (Sub.cons rfl (Sub.nil _)))) ?_
  refine XC.regionQ mixed (f := 9) (l := #[false, false, false, false, false, false, false, false, false]) rfl rfl XM.drawn' ?_
  refine XQ.pv (i := 0) (l' := #[true, false, false, false, false, false, false, false, false]) rfl (by kernel_rfl) rfl (V.move rfl) rfl rfl ?_
  refine XQ.pv (i := 1) (l' := #[true, true, false, false, false, false, false, false, false]) rfl (by kernel_rfl) rfl (V.fieldAddr rfl fo_86_1) rfl rfl ?_
  refine XQ.load (i := 2) (l' := #[true, true, true, false, false, false, false, false, false]) (.cells _ _ _ _) [8] rfl (by kernel_rfl) rfl .here (V.load rfl inEnt (encIt_id _ _) sc_3) rfl (by kernel_rfl) rfl ?_
  refine XQ.pv (i := 3) (l' := #[true, true, true, true, false, false, false, false, false]) rfl (by kernel_rfl) rfl (V.move rfl) rfl rfl ?_
  refine XQ.pv (i := 4) (l' := #[true, true, true, true, true, false, false, false, false]) rfl (by kernel_rfl) rfl (V.add rfl rfl _ (IntWalk.i64_in _ (by omega))) rfl rfl ?_
  refine XQ.pv (i := 5) (l' := #[true, true, true, true, true, true, false, false, false]) rfl (by kernel_rfl) rfl (V.nilCheckP rfl) rfl rfl ?_
  refine XQ.pv (i := 6) (l' := #[true, true, true, true, true, true, true, false, false]) rfl (by kernel_rfl) rfl (V.fieldAddr rfl fo_60_1) rfl rfl ?_
  refine XQ.pv (i := 7) (l' := #[true, true, true, true, true, true, true, true, false]) rfl (by kernel_rfl) rfl (V.indexArr rfl rfl ar_58 (by omega)) rfl rfl ?_
  refine XQ.store (i := 8) (l' := #[true, true, true, true, true, true, true, true, true]) rfl (by kernel_rfl) rfl rfl rfl (.there .here) (encQ_setat _ _ _ _ _ (by omega)) rfl sz_3_1 (fun _ hw' => ⟨fun hs => (hs 8 (by simp) rfl).elim, trivial⟩) ?_
  refine XQ.done (by kernel_rfl) ?_
  refine XE.end0 rfl (post_of (.cons (.there .here) (.cons (.there .here) .nil)) rfl ?_)
  exact ⟨rfl, rfl⟩
set_option maxRecDepth 10000 in
set_option maxHeartbeats 1000000 in
theorem q_up (b o g cap : Nat) (s : QS) (i : Int) (hi : 0 ≤ i ∧ i < s.n) (hR : s.Rng) (hn : s.n ≤ 1000) : Spec Try.prog 48 [ptr b o 0, .int .i64 i]
    [.cells b o 65 (encQ (s) (some ⟨g, 0, none⟩) cap), frow (some ⟨g, 0, none⟩) cap 86 2 (s).n (encH (s))]
    (fun v H1 => v = .tuple #[] ∧ H1 = [.cells b o 65 (encQ (s.up i) (some ⟨g, 0, none⟩) cap), frow (some ⟨g, 0, none⟩) cap 86 2 (s.up i).n (encH (s.up i))]) := by
  obtain ⟨r1, r2⟩ := hR i hi.1 hi.2
  refine Spec.intro Try.func48 rfl rfl ?_
  intro W
  refine XC.seq ?_
  refine XC.region ?_
  refine XO.v (V.move rfl) rfl ?_
  refine XO.v (V.nilCheckP rfl) rfl ?_
  refine XO.v (V.fieldAddr rfl fo_60_0) rfl ?_
  refine XO.v (V.load rfl (inXM .here) (encQ_h _ _ _) sc_57) rfl ?_
  refine XO.v (V.move rfl) rfl ?_
  refine XO.v (V.indexSl rfl rfl sl_57 (by omega)) rfl ?_
  refine XO.v (V.loadFA rfl (inXM (.there .here)) (encH_item _ _ _ (by omega)) ag_86 sz_86_2) rfl ?_
  refine XO.allocZ (z := .agg #[.int .u64 0, .int .i64 0]) (m := 2) (C := cellsOf #[.int .u64 0, .int .i64 0]) (by kernel_rfl) rfl (fun _ _ => rfl) rfl ?_
  intro bx
  refine XO.storeAgg rfl rfl .here (encIt_set _ _) ⟨rfl, rfl⟩ sz_86_2 ?_
  refine XO.nil ?_
  refine XE.next ?_
  refine XC.keep [(0, _), (1, _), (4, _)] (Sub.cons rfl (Sub.cons rfl (Sub.cons rfl (Sub.nil _)))) ?_
  refine XC.seq ?_
  refine XC.block ?_
  refine XC.loop (σ := QS × Int) (fun x => x.2.toNat) (fun x => x.1.n = s.n ∧ (0 ≤ x.2 ∧ x.2 < s.n) ∧ x.1.Rng ∧ QS.upF x.2.toNat x.1 x.2 (s.K i) (s.I i) = s.up i) (fun x => [(1, .int .i64 x.2), (0, ptr b o 0), (4, ptr bx 0 0)]) (fun x => XM W (foot [.cells b o 65 (encQ (s) (some ⟨g, 0, none⟩) cap), frow (some ⟨g, 0, none⟩) cap 86 2 (s).n (encH (s))]) [.cells bx 0 2 (encIt (s.K i) (s.I i)), .cells b o 65 (encQ (x.1) (some ⟨g, 0, none⟩) cap), frow (some ⟨g, 0, none⟩) cap 86 2 (x.1).n (encH (x.1))]) ((s, i)) ?_ (Sub.cons rfl (Sub.cons rfl (Sub.cons rfl (Sub.nil _)))) (fun _ hw => XM.pick (.cons .here (.cons .here (.cons .here .nil))) hw) ?_
  · skip
    exact ⟨rfl, hi, hR, rfl⟩
  intro x hx
  obtain ⟨xn, xi, xR, xu⟩ := hx
  refine XC.seq ?_
  refine XC.seq ?_
  refine XC.regionQ mixed (f := 15) (l := #[false, false, false, false, false, false, false, false, false, false, false, false, false, false, false]) rfl rfl XM.drawn' ?_
  refine XQ.pv (i := 0) (l' := #[true, false, false, false, false, false, false, false, false, false, false, false, false, false, false]) rfl (by kernel_rfl) rfl (V.move rfl) rfl rfl ?_
  refine XQ.pv (i := 1) (l' := #[true, true, false, false, false, false, false, false, false, false, false, false, false, false, false]) rfl (by kernel_rfl) rfl (V.cmp rfl rfl rfl) rfl rfl ?_
  refine XQ.pv (i := 2) (l' := #[true, true, true, false, false, false, false, false, false, false, false, false, false, false, false]) rfl (by kernel_rfl) rfl (V.move rfl) rfl rfl ?_
  refine XQ.splitP (d := 14) rfl (fun h1 => ?_) (fun h1 => ?_)
  · skip
    have hp0 : 0 ≤ ((x.2 - 1) / 2) ∧ ((x.2 - 1) / 2) < x.1.n := by omega
    have hpr := xR ((x.2 - 1) / 2) hp0.1 hp0.2
    refine XQ.loadG (i := 3) (l' := #[true, true, true, true, false, false, false, false, false, false, false, false, false, false, false]) (.cells _ _ _ _) [13] rfl rfl rfl (by kernel_rfl) rfl .here (V.loadAgg rfl inEnt (encIt_item _ _) ag_86 sz_86_2) rfl (by kernel_rfl) rfl ?_
    refine XQ.pvG (i := 4) (l' := #[true, true, true, true, true, false, false, false, false, false, false, false, false, false, false]) rfl rfl rfl (by kernel_rfl) rfl (V.move rfl) rfl rfl ?_
    refine XQ.pvG (i := 5) (l' := #[true, true, true, true, true, true, false, false, false, false, false, false, false, false, false]) rfl rfl rfl (by kernel_rfl) rfl (V.nilCheckP rfl) rfl rfl ?_
    refine XQ.pvG (i := 6) (l' := #[true, true, true, true, true, true, true, false, false, false, false, false, false, false, false]) rfl rfl rfl (by kernel_rfl) rfl (V.fieldAddr rfl fo_60_0) rfl rfl ?_
    refine XQ.loadG (i := 7) (l' := #[true, true, true, true, true, true, true, true, false, false, false, false, false, false, false]) (.cells _ _ _ _) [13] rfl rfl rfl (by kernel_rfl) rfl (.there .here) (V.load rfl inEnt (encQ_h _ _ _) sc_57) rfl (by kernel_rfl) rfl ?_
    refine XQ.pvG (i := 8) (l' := #[true, true, true, true, true, true, true, true, true, false, false, false, false, false, false]) rfl rfl rfl (by kernel_rfl) rfl (V.move rfl) rfl rfl ?_
    refine XQ.pvG (i := 9) (l' := #[true, true, true, true, true, true, true, true, true, true, false, false, false, false, false]) rfl rfl rfl (by kernel_rfl) rfl (V.sub rfl rfl _ (IntWalk.i64_in _ (by omega))) rfl rfl ?_
    refine XQ.pvG (i := 10) (l' := #[true, true, true, true, true, true, true, true, true, true, true, false, false, false, false]) rfl rfl rfl (by kernel_rfl) rfl (V.quo rfl rfl (by first | decide | omega) _ (quo_nn (by omega) (by omega) (by omega))) rfl rfl ?_
    refine XQ.pvG (i := 11) (l' := #[true, true, true, true, true, true, true, true, true, true, true, true, false, false, false]) rfl rfl rfl (by kernel_rfl) rfl (V.indexSl rfl rfl sl_57 (by omega)) rfl rfl ?_
    refine XQ.loadG (i := 12) (l' := #[true, true, true, true, true, true, true, true, true, true, true, true, true, false, false]) (.row _ _ _ _ _) [13] rfl rfl rfl (by kernel_rfl) rfl (.there (.there .here)) (V.loadFA rfl inEnt (encH_item _ _ _ (by omega)) ag_86 sz_86_2) rfl (by kernel_rfl) rfl ?_
    refine XQ.callG (i := 13) (l' := #[true, true, true, true, true, true, true, true, true, true, true, true, true, true, false]) rfl rfl rfl (by kernel_rfl) rfl rfl (q_less _ _ _ _) .nil cl_51 rfl (by rintro _ _ ⟨rfl, rfl⟩; all_goals (intro _ hw'; exact ⟨fun hs => (hs 13 (by simp) rfl).elim, fun hs => (hs 13 (by simp) rfl).elim, fun hs => (hs 13 (by simp) rfl).elim, trivial⟩)) ?_
    rintro _ _ ⟨rfl, rfl⟩
    refine XQ.pv (i := 14) (l' := #[true, true, true, true, true, true, true, true, true, true, true, true, true, true, true]) rfl (by kernel_rfl) rfl (V.pick rfl rfl rfl rfl) rfl rfl ?_
    refine XQ.done (by kernel_rfl) ?_
    refine XE.next ?_
    refine XC.keep [(0, _), (1, _), (4, _), (26, _)] (Sub.cons rfl (Sub.cons rfl (Sub.cons rfl (Sub.cons rfl (Sub.nil _))))) ?_
    refine XC.condP rfl (fun h2 => ?_) (fun h2 => ?_)
    · skip
      have hst : QS.upF x.2.toNat x.1 x.2 (s.K i) (s.I i) = QS.upF (((x.2 - 1) / 2)).toNat (x.1.set x.2 (x.1.K ((x.2 - 1) / 2)) (x.1.I ((x.2 - 1) / 2))) ((x.2 - 1) / 2) (s.K i) (s.I i) := QS.upF_step (by omega) h2
      refine XC.skip ?_
      refine XE.next ?_
      refine XC.keep [(0, _), (1, _), (4, _)] (Sub.cons rfl (Sub.cons rfl (Sub.cons rfl (Sub.nil _)))) ?_
      refine XC.block ?_
      refine XC.seq ?_
      refine XC.region ?_
      refine XO.v (V.move rfl) rfl ?_
      refine XO.v (V.move rfl) rfl ?_
      refine XO.v (V.move rfl) rfl ?_
      refine XO.v (V.nilCheckP rfl) rfl ?_
      refine XO.v (V.fieldAddr rfl fo_60_0) rfl ?_
      refine XO.v (V.load rfl (inXM (.there .here)) (encQ_h _ _ _) sc_57) rfl ?_
      refine XO.v (V.move rfl) rfl ?_
      refine XO.v (V.sub rfl rfl _ (IntWalk.i64_in _ (by omega))) rfl ?_
      refine XO.v (V.quo rfl rfl (by first | decide | omega) _ (quo_nn (by omega) (by omega) (by omega))) rfl ?_
      refine XO.v (V.indexSl rfl rfl sl_57 (by omega)) rfl ?_
      refine XO.v (V.loadFA rfl (inXM (.there (.there .here))) (encH_item _ _ _ (by omega)) ag_86 sz_86_2) rfl ?_
      refine XO.call rfl (q_put _ _ _ _ _ _ _ _ (by omega) (by omega) (by omega)) (.cons (.there .here) (.cons (.there .here) .nil)) cl_49 rfl ?_
      rintro _ _ ⟨rfl, rfl⟩
      refine XO.nil ?_
      refine XE.next ?_
      refine XC.keep [(0, _), (1, _), (4, _)] (Sub.cons rfl (Sub.cons rfl (Sub.cons rfl (Sub.nil _)))) ?_
      refine XC.region ?_
      refine XO.v (V.move rfl) rfl ?_
      refine XO.v (V.sub rfl rfl _ (IntWalk.i64_in _ (by omega))) rfl ?_
      refine XO.v (V.quo rfl rfl (by first | decide | omega) _ (quo_nn (by omega) (by omega) (by omega))) rfl ?_
      refine XO.v (V.assign rfl) rfl ?_
      refine XO.nil ?_
      refine XE.blockNormal ?_
      refine XE.again ((x.1.set x.2 (x.1.K ((x.2 - 1) / 2)) (x.1.I ((x.2 - 1) / 2)), ((x.2 - 1) / 2))) ?_ ?_ (Sub.cons rfl (Sub.cons rfl (Sub.cons rfl (Sub.nil _)))) (fun _ hw => XM.pick (.cons (.there (.there .here)) (.cons .here (.cons .here .nil))) hw)
      · skip
        (show (((x.2 - 1) / 2)).toNat < x.2.toNat; omega)
      · skip
        exact ⟨xn, by simp; omega, xR.set hpr, by rw [← xu, hst]⟩
    · skip
      have hst : QS.upF x.2.toNat x.1 x.2 (s.K i) (s.I i) = x.1.set x.2 (s.K i) (s.I i) := QS.upF_stop (fun q => h2 q.2)
      rw [hst] at xu
      refine XC.exit ?_
      refine XE.thenExit ?_
      refine XE.thenExit ?_
      refine XE.blockExit ?_
      refine XE.next ?_
      refine XC.keep [(0, _), (1, _), (4, _)] (Sub.cons rfl (Sub.cons rfl (Sub.cons rfl (Sub.nil _)))) ?_
      refine XC.region ?_
      refine XO.v (V.move rfl) rfl ?_
      refine XO.v (V.move rfl) rfl ?_
      refine XO.v (V.loadAgg rfl (inXM .here) (encIt_item _ _) ag_86 sz_86_2) rfl ?_
      refine XO.call rfl (q_put _ _ _ _ _ _ _ _ (by omega) (by omega) (by omega)) (.cons (.there .here) (.cons (.there .here) .nil)) cl_49 rfl ?_
      rintro _ _ ⟨rfl, rfl⟩
      refine XO.nil ?_
      refine XE.end0 rfl (post_of (.cons .here (.cons .here .nil)) rfl ?_)
      rw [← xu]; exact ⟨rfl, rfl⟩
  · skip
    have hst : QS.upF x.2.toNat x.1 x.2 (s.K i) (s.I i) = x.1.set x.2 (s.K i) (s.I i) := QS.upF_stop (fun q => by omega)
    rw [hst] at xu
    refine XQ.skip (i := 3) (l' := #[true, true, true, true, false, false, false, false, false, false, false, false, false, false, false]) rfl rfl rfl rfl rfl (by kernel_rfl) rfl rfl rfl ?_
    refine XQ.skip (i := 4) (l' := #[true, true, true, true, true, false, false, false, false, false, false, false, false, false, false]) rfl rfl rfl rfl rfl (by kernel_rfl) rfl rfl rfl ?_
    refine XQ.skip (i := 5) (l' := #[true, true, true, true, true, true, false, false, false, false, false, false, false, false, false]) rfl rfl rfl rfl rfl (by kernel_rfl) rfl rfl rfl ?_
    refine XQ.skip (i := 6) (l' := #[true, true, true, true, true, true, true, false, false, false, false, false, false, false, false]) rfl rfl rfl rfl rfl (by kernel_rfl) rfl rfl rfl ?_
    refine XQ.skip (i := 7) (l' := #[true, true, true, true, true, true, true, true, false, false, false, false, false, false, false]) rfl rfl rfl rfl rfl (by kernel_rfl) rfl rfl rfl ?_
    refine XQ.skip (i := 8) (l' := #[true, true, true, true, true, true, true, true, true, false, false, false, false, false, false]) rfl rfl rfl rfl rfl (by kernel_rfl) rfl rfl rfl ?_
    refine XQ.skip (i := 9) (l' := #[true, true, true, true, true, true, true, true, true, true, false, false, false, false, false]) rfl rfl rfl rfl rfl (by kernel_rfl) rfl rfl rfl ?_
    refine XQ.skip (i := 10) (l' := #[true, true, true, true, true, true, true, true, true, true, true, false, false, false, false]) rfl rfl rfl rfl rfl (by kernel_rfl) rfl rfl rfl ?_
    refine XQ.skip (i := 11) (l' := #[true, true, true, true, true, true, true, true, true, true, true, true, false, false, false]) rfl rfl rfl rfl rfl (by kernel_rfl) rfl rfl rfl ?_
    refine XQ.skip (i := 12) (l' := #[true, true, true, true, true, true, true, true, true, true, true, true, true, false, false]) rfl rfl rfl rfl rfl (by kernel_rfl) rfl rfl rfl ?_
    refine XQ.skip (i := 13) (l' := #[true, true, true, true, true, true, true, true, true, true, true, true, true, true, false]) rfl rfl rfl rfl rfl (by kernel_rfl) rfl rfl rfl ?_
    refine XQ.pv (i := 14) (l' := #[true, true, true, true, true, true, true, true, true, true, true, true, true, true, true]) rfl (by kernel_rfl) rfl (V.pick rfl rfl rfl rfl) rfl rfl ?_
    refine XQ.done (by kernel_rfl) ?_
    refine XE.next ?_
    refine XC.keep [(0, _), (1, _), (4, _), (26, _)] (Sub.cons rfl (Sub.cons rfl (Sub.cons rfl (Sub.cons rfl (Sub.nil _))))) ?_
    refine XC.condF rfl rfl ?_
    refine XC.exit ?_
    refine XE.thenExit ?_
    refine XE.thenExit ?_
    refine XE.blockExit ?_
    refine XE.next ?_
    refine XC.keep [(0, _), (1, _), (4, _)] (Sub.cons rfl (Sub.cons rfl (Sub.cons rfl (Sub.nil _)))) ?_
    refine XC.region ?_
    refine XO.v (V.move rfl) rfl ?_
    refine XO.v (V.move rfl) rfl ?_
    refine XO.v (V.loadAgg rfl (inXM .here) (encIt_item _ _) ag_86 sz_86_2) rfl ?_
    refine XO.call rfl (q_put _ _ _ _ _ _ _ _ (by omega) (by omega) (by omega)) (.cons (.there .here) (.cons (.there .here) .nil)) cl_49 rfl ?_
    rintro _ _ ⟨rfl, rfl⟩
    refine XO.nil ?_
    refine XE.end0 rfl (post_of (.cons .here (.cons .here .nil)) rfl ?_)
    rw [← xu]; exact ⟨rfl, rfl⟩
set_option maxRecDepth 10000 in
set_option maxHeartbeats 1000000 in
theorem q_down (b o g cap : Nat) (s : QS) (i : Int) (hi : 0 ≤ i ∧ i < s.n) (hR : s.Rng) (hn : s.n ≤ 1000) : Spec Try.prog 50 [ptr b o 0, .int .i64 i]
    [.cells b o 65 (encQ (s) (some ⟨g, 0, none⟩) cap), frow (some ⟨g, 0, none⟩) cap 86 2 (s).n (encH (s))]
    (fun v H1 => v = .tuple #[] ∧ H1 = [.cells b o 65 (encQ (s.down i) (some ⟨g, 0, none⟩) cap), frow (some ⟨g, 0, none⟩) cap 86 2 (s.down i).n (encH (s.down i))]) := by
  obtain ⟨r1, r2⟩ := hR i hi.1 hi.2
  refine Spec.intro Try.func50 rfl rfl ?_
  intro W
  refine XC.seq ?_
  refine XC.region ?_
  refine XO.v (V.move rfl) rfl ?_
  refine XO.v (V.nilCheckP rfl) rfl ?_
  refine XO.v (V.fieldAddr rfl fo_60_0) rfl ?_
  refine XO.v (V.load rfl (inXM .here) (encQ_h _ _ _) sc_57) rfl ?_
  refine XO.v (V.move rfl) rfl ?_
  refine XO.v (V.indexSl rfl rfl sl_57 (by omega)) rfl ?_
  refine XO.v (V.loadFA rfl (inXM (.there .here)) (encH_item _ _ _ (by omega)) ag_86 sz_86_2) rfl ?_
  refine XO.allocZ (z := .agg #[.int .u64 0, .int .i64 0]) (m := 2) (C := cellsOf #[.int .u64 0, .int .i64 0]) (by kernel_rfl) rfl (fun _ _ => rfl) rfl ?_
  intro bx
  refine XO.storeAgg rfl rfl .here (encIt_set _ _) ⟨rfl, rfl⟩ sz_86_2 ?_
  refine XO.nil ?_
  refine XE.next ?_
  refine XC.keep [(0, _), (1, _), (4, _)] (Sub.cons rfl (Sub.cons rfl (Sub.cons rfl (Sub.nil _)))) ?_
  refine XC.seq ?_
  refine XC.block ?_
  refine XC.loop (σ := QS × Int) (fun x => s.n - x.2.toNat) (fun x => x.1.n = s.n ∧ (0 ≤ x.2 ∧ x.2 < s.n) ∧ x.1.Rng ∧ QS.downF (x.1.n - x.2.toNat) x.1 x.2 (s.K i) (s.I i) = s.down i) (fun x => [(1, .int .i64 x.2), (0, ptr b o 0), (4, ptr bx 0 0)]) (fun x => XM W (foot [.cells b o 65 (encQ (s) (some ⟨g, 0, none⟩) cap), frow (some ⟨g, 0, none⟩) cap 86 2 (s).n (encH (s))]) [.cells bx 0 2 (encIt (s.K i) (s.I i)), .cells b o 65 (encQ (x.1) (some ⟨g, 0, none⟩) cap), frow (some ⟨g, 0, none⟩) cap 86 2 (x.1).n (encH (x.1))]) ((s, i)) ?_ (Sub.cons rfl (Sub.cons rfl (Sub.cons rfl (Sub.nil _)))) (fun _ hw => XM.pick (.cons .here (.cons .here (.cons .here .nil))) hw) ?_
  · skip
    exact ⟨rfl, hi, hR, rfl⟩
  intro x hx
  obtain ⟨xn, xi, xR, xu⟩ := hx
  refine XC.block ?_
  refine XC.seq ?_
  refine XC.region ?_
  refine XO.v (V.move rfl) rfl ?_
  refine XO.v (V.mul rfl rfl _ (IntWalk.i64_in _ (by omega))) rfl ?_
  refine XO.v (V.add rfl rfl _ (IntWalk.i64_in _ (by omega))) rfl ?_
  refine XO.v (V.assign rfl) rfl ?_
  refine XO.nil ?_
  refine XE.next ?_
  refine XC.keep [(0, _), (1, _), (4, _), (5, _)] (Sub.cons rfl (Sub.cons rfl (Sub.cons rfl (Sub.cons rfl (Sub.nil _))))) ?_
  refine XC.cut [(0, ptr b o 0), (1, .int .i64 x.2), (4, ptr bx 0 0), (5, .int .i64 (x.1.child x.2))] (XM W (foot [.cells b o 65 (encQ (s) (some ⟨g, 0, none⟩) cap), frow (some ⟨g, 0, none⟩) cap 86 2 (s).n (encH (s))]) [.cells bx 0 2 (encIt (s.K i) (s.I i)), .cells b o 65 (encQ (x.1) (some ⟨g, 0, none⟩) cap), frow (some ⟨g, 0, none⟩) cap 86 2 (x.1).n (encH (x.1))]) ?_ ?_
  · skip
    refine XC.seq ?_
    refine XC.regionQ mixed (f := 26) (l := #[false, false, false, false, false, false, false, false, false, false, false, false, false, false, false, false, false, false, false, false, false, false, false, false, false, false]) rfl rfl XM.drawn' ?_
    refine XQ.pv (i := 0) (l' := #[true, false, false, false, false, false, false, false, false, false, false, false, false, false, false, false, false, false, false, false, false, false, false, false, false, false]) rfl (by kernel_rfl) rfl (V.move rfl) rfl rfl ?_
    refine XQ.pv (i := 1) (l' := #[true, true, false, false, false, false, false, false, false, false, false, false, false, false, false, false, false, false, false, false, false, false, false, false, false, false]) rfl (by kernel_rfl) rfl (V.add rfl rfl _ (IntWalk.i64_in _ (by omega))) rfl rfl ?_
    refine XQ.pv (i := 2) (l' := #[true, true, true, false, false, false, false, false, false, false, false, false, false, false, false, false, false, false, false, false, false, false, false, false, false, false]) rfl (by kernel_rfl) rfl (V.move rfl) rfl rfl ?_
    refine XQ.pv (i := 3) (l' := #[true, true, true, true, false, false, false, false, false, false, false, false, false, false, false, false, false, false, false, false, false, false, false, false, false, false]) rfl (by kernel_rfl) rfl (V.nilCheckP rfl) rfl rfl ?_
    refine XQ.pv (i := 4) (l' := #[true, true, true, true, true, false, false, false, false, false, false, false, false, false, false, false, false, false, false, false, false, false, false, false, false, false]) rfl (by kernel_rfl) rfl (V.fieldAddr rfl fo_60_0) rfl rfl ?_
    refine XQ.load (i := 5) (l' := #[true, true, true, true, true, true, false, false, false, false, false, false, false, false, false, false, false, false, false, false, false, false, false, false, false, false]) (.cells _ _ _ _) [24] rfl (by kernel_rfl) rfl (.there .here) (V.load rfl inEnt (encQ_h _ _ _) sc_57) rfl (by kernel_rfl) rfl ?_
    refine XQ.pv (i := 6) (l' := #[true, true, true, true, true, true, true, false, false, false, false, false, false, false, false, false, false, false, false, false, false, false, false, false, false, false]) rfl (by kernel_rfl) rfl (V.lenSl rfl Try.underlying57) rfl rfl ?_
    refine XQ.pv (i := 7) (l' := #[true, true, true, true, true, true, true, true, false, false, false, false, false, false, false, false, false, false, false, false, false, false, false, false, false, false]) rfl (by kernel_rfl) rfl (V.cmp rfl rfl rfl) rfl rfl ?_
    refine XQ.pv (i := 8) (l' := #[true, true, true, true, true, true, true, true, true, false, false, false, false, false, false, false, false, false, false, false, false, false, false, false, false, false]) rfl (by kernel_rfl) rfl (V.move rfl) rfl rfl ?_
    refine XQ.splitP (d := 24) rfl (fun h1 => ?_) (fun h1 => ?_)
    · skip
      refine XQ.pvG (i := 9) (l' := #[true, true, true, true, true, true, true, true, true, true, false, false, false, false, false, false, false, false, false, false, false, false, false, false, false, false]) rfl rfl rfl (by kernel_rfl) rfl (V.move rfl) rfl rfl ?_
      refine XQ.pvG (i := 10) (l' := #[true, true, true, true, true, true, true, true, true, true, true, false, false, false, false, false, false, false, false, false, false, false, false, false, false, false]) rfl rfl rfl (by kernel_rfl) rfl (V.nilCheckP rfl) rfl rfl ?_
      refine XQ.pvG (i := 11) (l' := #[true, true, true, true, true, true, true, true, true, true, true, true, false, false, false, false, false, false, false, false, false, false, false, false, false, false]) rfl rfl rfl (by kernel_rfl) rfl (V.fieldAddr rfl fo_60_0) rfl rfl ?_
      refine XQ.loadG (i := 12) (l' := #[true, true, true, true, true, true, true, true, true, true, true, true, true, false, false, false, false, false, false, false, false, false, false, false, false, false]) (.cells _ _ _ _) [24] rfl rfl rfl (by kernel_rfl) rfl (.there .here) (V.load rfl inEnt (encQ_h _ _ _) sc_57) rfl (by kernel_rfl) rfl ?_
      refine XQ.pvG (i := 13) (l' := #[true, true, true, true, true, true, true, true, true, true, true, true, true, true, false, false, false, false, false, false, false, false, false, false, false, false]) rfl rfl rfl (by kernel_rfl) rfl (V.move rfl) rfl rfl ?_
      refine XQ.pvG (i := 14) (l' := #[true, true, true, true, true, true, true, true, true, true, true, true, true, true, true, false, false, false, false, false, false, false, false, false, false, false]) rfl rfl rfl (by kernel_rfl) rfl (V.add rfl rfl _ (IntWalk.i64_in _ (by omega))) rfl rfl ?_
      refine XQ.pvG (i := 15) (l' := #[true, true, true, true, true, true, true, true, true, true, true, true, true, true, true, true, false, false, false, false, false, false, false, false, false, false]) rfl rfl rfl (by kernel_rfl) rfl (V.indexSl rfl rfl sl_57 (by omega)) rfl rfl ?_
      refine XQ.loadG (i := 16) (l' := #[true, true, true, true, true, true, true, true, true, true, true, true, true, true, true, true, true, false, false, false, false, false, false, false, false, false]) (.row _ _ _ _ _) [24] rfl rfl rfl (by kernel_rfl) rfl (.there (.there .here)) (V.loadFA rfl inEnt (encH_item _ _ _ (by omega)) ag_86 sz_86_2) rfl (by kernel_rfl) rfl ?_
      refine XQ.pvG (i := 17) (l' := #[true, true, true, true, true, true, true, true, true, true, true, true, true, true, true, true, true, true, false, false, false, false, false, false, false, false]) rfl rfl rfl (by kernel_rfl) rfl (V.move rfl) rfl rfl ?_
      refine XQ.pvG (i := 18) (l' := #[true, true, true, true, true, true, true, true, true, true, true, true, true, true, true, true, true, true, true, false, false, false, false, false, false, false]) rfl rfl rfl (by kernel_rfl) rfl (V.nilCheckP rfl) rfl rfl ?_
      refine XQ.pvG (i := 19) (l' := #[true, true, true, true, true, true, true, true, true, true, true, true, true, true, true, true, true, true, true, true, false, false, false, false, false, false]) rfl rfl rfl (by kernel_rfl) rfl (V.fieldAddr rfl fo_60_0) rfl rfl ?_
      refine XQ.loadG (i := 20) (l' := #[true, true, true, true, true, true, true, true, true, true, true, true, true, true, true, true, true, true, true, true, true, false, false, false, false, false]) (.cells _ _ _ _) [24] rfl rfl rfl (by kernel_rfl) rfl (.there .here) (V.load rfl inEnt (encQ_h _ _ _) sc_57) rfl (by kernel_rfl) rfl ?_
      refine XQ.pvG (i := 21) (l' := #[true, true, true, true, true, true, true, true, true, true, true, true, true, true, true, true, true, true, true, true, true, true, false, false, false, false]) rfl rfl rfl (by kernel_rfl) rfl (V.move rfl) rfl rfl ?_
      refine XQ.pvG (i := 22) (l' := #[true, true, true, true, true, true, true, true, true, true, true, true, true, true, true, true, true, true, true, true, true, true, true, false, false, false]) rfl rfl rfl (by kernel_rfl) rfl (V.indexSl rfl rfl sl_57 (by omega)) rfl rfl ?_
      refine XQ.loadG (i := 23) (l' := #[true, true, true, true, true, true, true, true, true, true, true, true, true, true, true, true, true, true, true, true, true, true, true, true, false, false]) (.row _ _ _ _ _) [24] rfl rfl rfl (by kernel_rfl) rfl (.there (.there .here)) (V.loadFA rfl inEnt (encH_item _ _ _ (by omega)) ag_86 sz_86_2) rfl (by kernel_rfl) rfl ?_
      refine XQ.callG (i := 24) (l' := #[true, true, true, true, true, true, true, true, true, true, true, true, true, true, true, true, true, true, true, true, true, true, true, true, true, false]) rfl rfl rfl (by kernel_rfl) rfl rfl (q_less _ _ _ _) .nil cl_51 rfl (by rintro _ _ ⟨rfl, rfl⟩; all_goals (intro _ hw'; exact ⟨fun hs => (hs 24 (by simp) rfl).elim, fun hs => (hs 24 (by simp) rfl).elim, fun hs => (hs 24 (by simp) rfl).elim, fun hs => (hs 24 (by simp) rfl).elim, fun hs => (hs 24 (by simp) rfl).elim, trivial⟩)) ?_
      rintro _ _ ⟨rfl, rfl⟩
      refine XQ.pv (i := 25) (l' := #[true, true, true, true, true, true, true, true, true, true, true, true, true, true, true, true, true, true, true, true, true, true, true, true, true, true]) rfl (by kernel_rfl) rfl (V.pick rfl rfl rfl rfl) rfl rfl ?_
      refine XQ.done (by kernel_rfl) ?_
      refine XE.next ?_
      refine XC.keep [(0, _), (1, _), (4, _), (5, _), (41, _)] (Sub.cons rfl (Sub.cons rfl (Sub.cons rfl (Sub.cons rfl (Sub.cons rfl (Sub.nil _)))))) ?_
      refine XC.condP rfl (fun h2 => ?_) (fun h2 => ?_)
      · skip
        have hc : 2 * x.2 + 1 + 1 = (x.1.child x.2) := by unfold QS.child; rw [if_pos ⟨by omega, h2⟩]
        refine XC.region ?_
        refine XO.v (V.move rfl) rfl ?_
        refine XO.v (V.add rfl rfl _ (IntWalk.i64_in _ (by omega))) rfl ?_
        refine XO.v (V.assign rfl) rfl ?_
        refine XO.nil ?_
        refine XE.meet (Sub.cons rfl (Sub.cons rfl (Sub.cons rfl (Sub.cons (eqi hc) (Sub.nil _))))) (fun _ hw => XM.pick (.cons .here (.cons .here (.cons .here .nil))) hw)
      · skip
        have hc : 2 * x.2 + 1 = (x.1.child x.2) := by unfold QS.child; rw [if_neg (fun q => h2 q.2)]
        refine XC.skip ?_
        refine XE.meet (Sub.cons rfl (Sub.cons rfl (Sub.cons rfl (Sub.cons (eqi hc) (Sub.nil _))))) (fun _ hw => XM.pick (.cons .here (.cons .here (.cons .here .nil))) hw)
    · skip
      have hc : 2 * x.2 + 1 = (x.1.child x.2) := by unfold QS.child; rw [if_neg (fun q => by omega)]
      refine XQ.skip (i := 9) (l' := #[true, true, true, true, true, true, true, true, true, true, false, false, false, false, false, false, false, false, false, false, false, false, false, false, false, false]) rfl rfl rfl rfl rfl (by kernel_rfl) rfl rfl rfl ?_
      refine XQ.skip (i := 10) (l' := #[true, true, true, true, true, true, true, true, true, true, true, false, false, false, false, false, false, false, false, false, false, false, false, false, false, false]) rfl rfl rfl rfl rfl (by kernel_rfl) rfl rfl rfl ?_
      refine XQ.skip (i := 11) (l' := #[true, true, true, true, true, true, true, true, true, true, true, true, false, false, false, false, false, false, false, false, false, false, false, false, false, false]) rfl rfl rfl rfl rfl (by kernel_rfl) rfl rfl rfl ?_
      refine XQ.skip (i := 12) (l' := #[true, true, true, true, true, true, true, true, true, true, true, true, true, false, false, false, false, false, false, false, false, false, false, false, false, false]) rfl rfl rfl rfl rfl (by kernel_rfl) rfl rfl rfl ?_
      refine XQ.skip (i := 13) (l' := #[true, true, true, true, true, true, true, true, true, true, true, true, true, true, false, false, false, false, false, false, false, false, false, false, false, false]) rfl rfl rfl rfl rfl (by kernel_rfl) rfl rfl rfl ?_
      refine XQ.skip (i := 14) (l' := #[true, true, true, true, true, true, true, true, true, true, true, true, true, true, true, false, false, false, false, false, false, false, false, false, false, false]) rfl rfl rfl rfl rfl (by kernel_rfl) rfl rfl rfl ?_
      refine XQ.skip (i := 15) (l' := #[true, true, true, true, true, true, true, true, true, true, true, true, true, true, true, true, false, false, false, false, false, false, false, false, false, false]) rfl rfl rfl rfl rfl (by kernel_rfl) rfl rfl rfl ?_
      refine XQ.skip (i := 16) (l' := #[true, true, true, true, true, true, true, true, true, true, true, true, true, true, true, true, true, false, false, false, false, false, false, false, false, false]) rfl rfl rfl rfl rfl (by kernel_rfl) rfl rfl rfl ?_
      refine XQ.skip (i := 17) (l' := #[true, true, true, true, true, true, true, true, true, true, true, true, true, true, true, true, true, true, false, false, false, false, false, false, false, false]) rfl rfl rfl rfl rfl (by kernel_rfl) rfl rfl rfl ?_
      refine XQ.skip (i := 18) (l' := #[true, true, true, true, true, true, true, true, true, true, true, true, true, true, true, true, true, true, true, false, false, false, false, false, false, false]) rfl rfl rfl rfl rfl (by kernel_rfl) rfl rfl rfl ?_
      refine XQ.skip (i := 19) (l' := #[true, true, true, true, true, true, true, true, true, true, true, true, true, true, true, true, true, true, true, true, false, false, false, false, false, false]) rfl rfl rfl rfl rfl (by kernel_rfl) rfl rfl rfl ?_
      refine XQ.skip (i := 20) (l' := #[true, true, true, true, true, true, true, true, true, true, true, true, true, true, true, true, true, true, true, true, true, false, false, false, false, false]) rfl rfl rfl rfl rfl (by kernel_rfl) rfl rfl rfl ?_
      refine XQ.skip (i := 21) (l' := #[true, true, true, true, true, true, true, true, true, true, true, true, true, true, true, true, true, true, true, true, true, true, false, false, false, false]) rfl rfl rfl rfl rfl (by kernel_rfl) rfl rfl rfl ?_
      refine XQ.skip (i := 22) (l' := #[true, true, true, true, true, true, true, true, true, true, true, true, true, true, true, true, true, true, true, true, true, true, true, false, false, false]) rfl rfl rfl rfl rfl (by kernel_rfl) rfl rfl rfl ?_
      refine XQ.skip (i := 23) (l' := #[true, true, true, true, true, true, true, true, true, true, true, true, true, true, true, true, true, true, true, true, true, true, true, true, false, false]) rfl rfl rfl rfl rfl (by kernel_rfl) rfl rfl rfl ?_
      refine XQ.strip 24 (fun _ hw' => ⟨fun _ => inXM (.there .here) _ hw', trivial⟩) ?_
      refine XQ.skip (i := 24) (l' := #[true, true, true, true, true, true, true, true, true, true, true, true, true, true, true, true, true, true, true, true, true, true, true, true, true, false]) rfl rfl rfl rfl rfl (by kernel_rfl) rfl rfl rfl ?_
      refine XQ.pv (i := 25) (l' := #[true, true, true, true, true, true, true, true, true, true, true, true, true, true, true, true, true, true, true, true, true, true, true, true, true, true]) rfl (by kernel_rfl) rfl (V.pick rfl rfl rfl rfl) rfl rfl ?_
      refine XQ.done (by kernel_rfl) ?_
      refine XE.next ?_
      refine XC.keep [(0, _), (1, _), (4, _), (5, _), (41, _)] (Sub.cons rfl (Sub.cons rfl (Sub.cons rfl (Sub.cons rfl (Sub.cons rfl (Sub.nil _)))))) ?_
      refine XC.condF rfl rfl ?_
      refine XC.skip ?_
      refine XE.meet (Sub.cons rfl (Sub.cons rfl (Sub.cons rfl (Sub.cons (eqi hc) (Sub.nil _))))) (fun _ hw => XM.pick (.cons .here (.cons .here (.cons .here .nil))) hw)
  have hcc : x.2 < (x.1.child x.2) := by rcases x.1.child_cases x.2 with ⟨e, _⟩ | ⟨e, _⟩ <;> omega
  have hpr := xR (x.1.child x.2) (by omega)
  have hcu : (x.1.child x.2) ≤ 2 * x.2 + 2 := by rcases x.1.child_cases x.2 with ⟨e, _⟩ | ⟨e, _⟩ <;> omega
  refine XC.seq ?_
  refine XC.seq ?_
  refine XC.regionQ mixed (f := 19) (l := #[false, false, false, false, false, false, false, false, false, false, false, false, false, false, false, false, false, false, false]) rfl rfl XM.drawn' ?_
  refine XQ.pv (i := 0) (l' := #[true, false, false, false, false, false, false, false, false, false, false, false, false, false, false, false, false, false, false]) rfl (by kernel_rfl) rfl (V.move rfl) rfl rfl ?_
  refine XQ.pv (i := 1) (l' := #[true, true, false, false, false, false, false, false, false, false, false, false, false, false, false, false, false, false, false]) rfl (by kernel_rfl) rfl (V.move rfl) rfl rfl ?_
  refine XQ.pv (i := 2) (l' := #[true, true, true, false, false, false, false, false, false, false, false, false, false, false, false, false, false, false, false]) rfl (by kernel_rfl) rfl (V.nilCheckP rfl) rfl rfl ?_
  refine XQ.pv (i := 3) (l' := #[true, true, true, true, false, false, false, false, false, false, false, false, false, false, false, false, false, false, false]) rfl (by kernel_rfl) rfl (V.fieldAddr rfl fo_60_0) rfl rfl ?_
  refine XQ.load (i := 4) (l' := #[true, true, true, true, true, false, false, false, false, false, false, false, false, false, false, false, false, false, false]) (.cells _ _ _ _) [16] rfl (by kernel_rfl) rfl (.there .here) (V.load rfl inEnt (encQ_h _ _ _) sc_57) rfl (by kernel_rfl) rfl ?_
  refine XQ.pv (i := 5) (l' := #[true, true, true, true, true, true, false, false, false, false, false, false, false, false, false, false, false, false, false]) rfl (by kernel_rfl) rfl (V.lenSl rfl Try.underlying57) rfl rfl ?_
  refine XQ.pv (i := 6) (l' := #[true, true, true, true, true, true, true, false, false, false, false, false, false, false, false, false, false, false, false]) rfl (by kernel_rfl) rfl (V.cmp rfl rfl rfl) rfl rfl ?_
  refine XQ.pv (i := 7) (l' := #[true, true, true, true, true, true, true, true, false, false, false, false, false, false, false, false, false, false, false]) rfl (by kernel_rfl) rfl (V.move rfl) rfl rfl ?_
  refine XQ.splitP (d := 51) rfl (fun h3 => ?_) (fun h3 => ?_)
  · skip
    have hst : QS.downF (x.1.n - x.2.toNat) x.1 x.2 (s.K i) (s.I i) = x.1.set x.2 (s.K i) (s.I i) := QS.downF_stop (fun q => by omega)
    rw [hst] at xu
    refine XQ.skip (i := 8) (l' := #[true, true, true, true, true, true, true, true, true, false, false, false, false, false, false, false, false, false, false]) rfl rfl rfl rfl rfl (by kernel_rfl) rfl rfl rfl ?_
    refine XQ.skip (i := 9) (l' := #[true, true, true, true, true, true, true, true, true, true, false, false, false, false, false, false, false, false, false]) rfl rfl rfl rfl rfl (by kernel_rfl) rfl rfl rfl ?_
    refine XQ.skip (i := 10) (l' := #[true, true, true, true, true, true, true, true, true, true, true, false, false, false, false, false, false, false, false]) rfl rfl rfl rfl rfl (by kernel_rfl) rfl rfl rfl ?_
    refine XQ.skip (i := 11) (l' := #[true, true, true, true, true, true, true, true, true, true, true, true, false, false, false, false, false, false, false]) rfl rfl rfl rfl rfl (by kernel_rfl) rfl rfl rfl ?_
    refine XQ.skip (i := 12) (l' := #[true, true, true, true, true, true, true, true, true, true, true, true, true, false, false, false, false, false, false]) rfl rfl rfl rfl rfl (by kernel_rfl) rfl rfl rfl ?_
    refine XQ.skip (i := 13) (l' := #[true, true, true, true, true, true, true, true, true, true, true, true, true, true, false, false, false, false, false]) rfl rfl rfl rfl rfl (by kernel_rfl) rfl rfl rfl ?_
    refine XQ.skip (i := 14) (l' := #[true, true, true, true, true, true, true, true, true, true, true, true, true, true, true, false, false, false, false]) rfl rfl rfl rfl rfl (by kernel_rfl) rfl rfl rfl ?_
    refine XQ.skip (i := 15) (l' := #[true, true, true, true, true, true, true, true, true, true, true, true, true, true, true, true, false, false, false]) rfl rfl rfl rfl rfl (by kernel_rfl) rfl rfl rfl ?_
    refine XQ.strip 16 (fun _ hw' => ⟨fun _ => inXM (.there .here) _ hw', trivial⟩) ?_
    refine XQ.skip (i := 16) (l' := #[true, true, true, true, true, true, true, true, true, true, true, true, true, true, true, true, true, false, false]) rfl rfl rfl rfl rfl (by kernel_rfl) rfl rfl rfl ?_
    refine XQ.skip (i := 17) (l' := #[true, true, true, true, true, true, true, true, true, true, true, true, true, true, true, true, true, true, false]) rfl rfl rfl rfl rfl (by kernel_rfl) rfl rfl rfl ?_
    refine XQ.pv (i := 18) (l' := #[true, true, true, true, true, true, true, true, true, true, true, true, true, true, true, true, true, true, true]) rfl (by kernel_rfl) rfl (V.pick rfl rfl rfl rfl) rfl rfl ?_
    refine XQ.done (by kernel_rfl) ?_
    refine XE.next ?_
    refine XC.keep [(0, _), (1, _), (4, _), (5, _), (62, _)] (Sub.cons rfl (Sub.cons rfl (Sub.cons rfl (Sub.cons rfl (Sub.cons rfl (Sub.nil _)))))) ?_
    refine XC.condT rfl rfl ?_
    refine XC.exit ?_
    refine XE.thenExit ?_
    refine XE.blockOther rfl ?_
    refine XE.thenExit ?_
    refine XE.blockExit ?_
    refine XE.next ?_
    refine XC.keep [(0, _), (1, _), (4, _)] (Sub.cons rfl (Sub.cons rfl (Sub.cons rfl (Sub.nil _)))) ?_
    refine XC.region ?_
    refine XO.v (V.move rfl) rfl ?_
    refine XO.v (V.move rfl) rfl ?_
    refine XO.v (V.loadAgg rfl (inXM .here) (encIt_item _ _) ag_86 sz_86_2) rfl ?_
    refine XO.call rfl (q_put _ _ _ _ _ _ _ _ (by omega) (by omega) (by omega)) (.cons (.there .here) (.cons (.there .here) .nil)) cl_49 rfl ?_
    rintro _ _ ⟨rfl, rfl⟩
    refine XO.nil ?_
    refine XE.end0 rfl (post_of (.cons .here (.cons .here .nil)) rfl ?_)
    rw [← xu]; exact ⟨rfl, rfl⟩
  · skip
    have hpr := hpr (by omega)
    refine XQ.pvG (i := 8) (l' := #[true, true, true, true, true, true, true, true, true, false, false, false, false, false, false, false, false, false, false]) rfl rfl rfl (by kernel_rfl) rfl (V.move rfl) rfl rfl ?_
    refine XQ.pvG (i := 9) (l' := #[true, true, true, true, true, true, true, true, true, true, false, false, false, false, false, false, false, false, false]) rfl rfl rfl (by kernel_rfl) rfl (V.nilCheckP rfl) rfl rfl ?_
    refine XQ.pvG (i := 10) (l' := #[true, true, true, true, true, true, true, true, true, true, true, false, false, false, false, false, false, false, false]) rfl rfl rfl (by kernel_rfl) rfl (V.fieldAddr rfl fo_60_0) rfl rfl ?_
    refine XQ.loadG (i := 11) (l' := #[true, true, true, true, true, true, true, true, true, true, true, true, false, false, false, false, false, false, false]) (.cells _ _ _ _) [16] rfl rfl rfl (by kernel_rfl) rfl (.there .here) (V.load rfl inEnt (encQ_h _ _ _) sc_57) rfl (by kernel_rfl) rfl ?_
    refine XQ.pvG (i := 12) (l' := #[true, true, true, true, true, true, true, true, true, true, true, true, true, false, false, false, false, false, false]) rfl rfl rfl (by kernel_rfl) rfl (V.move rfl) rfl rfl ?_
    refine XQ.pvG (i := 13) (l' := #[true, true, true, true, true, true, true, true, true, true, true, true, true, true, false, false, false, false, false]) rfl rfl rfl (by kernel_rfl) rfl (V.indexSl rfl rfl sl_57 (by omega)) rfl rfl ?_
    refine XQ.loadG (i := 14) (l' := #[true, true, true, true, true, true, true, true, true, true, true, true, true, true, true, false, false, false, false]) (.row _ _ _ _ _) [16] rfl rfl rfl (by kernel_rfl) rfl (.there (.there .here)) (V.loadFA rfl inEnt (encH_item _ _ _ (by omega)) ag_86 sz_86_2) rfl (by kernel_rfl) rfl ?_
    refine XQ.loadG (i := 15) (l' := #[true, true, true, true, true, true, true, true, true, true, true, true, true, true, true, true, false, false, false]) (.cells _ _ _ _) [16] rfl rfl rfl (by kernel_rfl) rfl .here (V.loadAgg rfl inEnt (encIt_item _ _) ag_86 sz_86_2) rfl (by kernel_rfl) rfl ?_
    refine XQ.callG (i := 16) (l' := #[true, true, true, true, true, true, true, true, true, true, true, true, true, true, true, true, true, false, false]) rfl rfl rfl (by kernel_rfl) rfl rfl (q_less _ _ _ _) .nil cl_51 rfl (by rintro _ _ ⟨rfl, rfl⟩; all_goals (intro _ hw'; exact ⟨fun hs => (hs 16 (by simp) rfl).elim, fun hs => (hs 16 (by simp) rfl).elim, fun hs => (hs 16 (by simp) rfl).elim, fun hs => (hs 16 (by simp) rfl).elim, trivial⟩)) ?_
    rintro _ _ ⟨rfl, rfl⟩
    refine XQ.pvG (i := 17) (l' := #[true, true, true, true, true, true, true, true, true, true, true, true, true, true, true, true, true, true, false]) rfl rfl rfl (by kernel_rfl) rfl (V.notP rfl) rfl rfl ?_
    refine XQ.pv (i := 18) (l' := #[true, true, true, true, true, true, true, true, true, true, true, true, true, true, true, true, true, true, true]) rfl (by kernel_rfl) rfl (V.pick rfl rfl rfl rfl) rfl rfl ?_
    refine XQ.done (by kernel_rfl) ?_
    refine XE.next ?_
    refine XC.keep [(0, _), (1, _), (4, _), (5, _), (62, _)] (Sub.cons rfl (Sub.cons rfl (Sub.cons rfl (Sub.cons rfl (Sub.cons rfl (Sub.nil _)))))) ?_
    refine XC.condP rfl (fun h4 => ?_) (fun h4 => ?_)
    · skip
      have hst : QS.downF (x.1.n - x.2.toNat) x.1 x.2 (s.K i) (s.I i) = x.1.set x.2 (s.K i) (s.I i) := QS.downF_stop (fun q => h4 q.2)
      rw [hst] at xu
      refine XC.exit ?_
      refine XE.thenExit ?_
      refine XE.blockOther rfl ?_
      refine XE.thenExit ?_
      refine XE.blockExit ?_
      refine XE.next ?_
      refine XC.keep [(0, _), (1, _), (4, _)] (Sub.cons rfl (Sub.cons rfl (Sub.cons rfl (Sub.nil _)))) ?_
      refine XC.region ?_
      refine XO.v (V.move rfl) rfl ?_
      refine XO.v (V.move rfl) rfl ?_
      refine XO.v (V.loadAgg rfl (inXM .here) (encIt_item _ _) ag_86 sz_86_2) rfl ?_
      refine XO.call rfl (q_put _ _ _ _ _ _ _ _ (by omega) (by omega) (by omega)) (.cons (.there .here) (.cons (.there .here) .nil)) cl_49 rfl ?_
      rintro _ _ ⟨rfl, rfl⟩
      refine XO.nil ?_
      refine XE.end0 rfl (post_of (.cons .here (.cons .here .nil)) rfl ?_)
      rw [← xu]; exact ⟨rfl, rfl⟩
    · skip
      have hst := QS.downF_step (s := x.1) (k := s.K i) (id := s.I i) xi.1 (by omega) (by omega) (Decidable.not_not.mp h4)
      refine XC.skip ?_
      refine XE.next ?_
      refine XC.keep [(0, _), (1, _), (4, _), (5, _)] (Sub.cons rfl (Sub.cons rfl (Sub.cons rfl (Sub.cons rfl (Sub.nil _))))) ?_
      refine XC.seq ?_
      refine XC.region ?_
      refine XO.v (V.move rfl) rfl ?_
      refine XO.v (V.move rfl) rfl ?_
      refine XO.v (V.move rfl) rfl ?_
      refine XO.v (V.nilCheckP rfl) rfl ?_
      refine XO.v (V.fieldAddr rfl fo_60_0) rfl ?_
      refine XO.v (V.load rfl (inXM (.there .here)) (encQ_h _ _ _) sc_57) rfl ?_
      refine XO.v (V.move rfl) rfl ?_
      refine XO.v (V.indexSl rfl rfl sl_57 (by omega)) rfl ?_
      refine XO.v (V.loadFA rfl (inXM (.there (.there .here))) (encH_item _ _ _ (by omega)) ag_86 sz_86_2) rfl ?_
      refine XO.call rfl (q_put _ _ _ _ _ _ _ _ (by omega) (by omega) (by omega)) (.cons (.there .here) (.cons (.there .here) .nil)) cl_49 rfl ?_
      rintro _ _ ⟨rfl, rfl⟩
      refine XO.nil ?_
      refine XE.next ?_
      refine XC.keep [(0, _), (4, _), (5, _)] (Sub.cons rfl (Sub.cons rfl (Sub.cons rfl (Sub.nil _)))) ?_
      refine XC.region ?_
      refine XO.v (V.move rfl) rfl ?_
      refine XO.v (V.assign rfl) rfl ?_
      refine XO.nil ?_
      refine XE.blockNormal ?_
      refine XE.again ((x.1.set x.2 (x.1.K (x.1.child x.2)) (x.1.I (x.1.child x.2)), (x.1.child x.2))) ?_ ?_ (Sub.cons rfl (Sub.cons rfl (Sub.cons rfl (Sub.nil _)))) (fun _ hw => XM.pick (.cons (.there (.there .here)) (.cons .here (.cons .here .nil))) hw)
      · skip
        (show s.n - (x.1.child x.2).toNat < s.n - x.2.toNat; omega)
      · skip
        exact ⟨xn, by simp; omega, xR.set hpr, by rw [← xu, hst]; rfl⟩
set_option maxRecDepth 10000 in
set_option maxHeartbeats 400000 in
theorem q_Put (b o cap : Nat) (p : Option Addr) (s : QS) (hO : s.Ok) (id key : Int) : Spec Try.prog 45 [ptr b o 0, .int .i64 id, .int .u64 key]
    [.cells b o 65 (encQ (s) p cap), frow p cap 86 2 (s).n (encH (s))]
    (fun v H1 => ∃ p1 c1, v = errv 74 (s.put id key).1 ∧ H1 = [.cells b o 65 (encQ ((s.put id key).2) p1 c1), frow p1 c1 86 2 ((s.put id key).2).n (encH ((s.put id key).2))]) := by
  refine Spec.intro Try.func45 rfl rfl ?_
  intro W
  refine XC.seq ?_
  refine XC.region ?_
  refine XO.v (V.assign rfl) rfl ?_
  refine XO.nil ?_
  refine XE.next ?_
  refine XC.keep [(0, _), (1, _), (2, _)] (Sub.cons rfl (Sub.cons rfl (Sub.cons rfl (Sub.nil _)))) ?_
  refine XC.seq ?_
  refine XC.seq ?_
  refine XC.region ?_
  refine XO.v (V.move rfl) rfl ?_
  refine XO.v (V.cmp rfl rfl rfl) rfl ?_
  refine XO.v (V.move rfl) rfl ?_
  refine XO.splitP (d := 9) rfl (fun h1 => ?_) (fun h1 => ?_)
  · skip
    refine XO.guardSkip rfl rfl rfl rfl rfl ?_
    refine XO.guardSkip rfl rfl rfl rfl rfl ?_
    refine XO.v (V.pick rfl rfl rfl rfl) rfl ?_
    refine XO.nil ?_
    refine XE.next ?_
    refine XC.keep [(0, _), (1, _), (2, _), (12, _)] (Sub.cons rfl (Sub.cons rfl (Sub.cons rfl (Sub.cons rfl (Sub.nil _))))) ?_
    refine XC.condT rfl rfl ?_
    refine XC.seq ?_
    refine XC.region ?_
    refine XO.v (V.makeIface rfl Try.underlying74 (by simp)) rfl ?_
    refine XO.v (V.assign rfl) rfl ?_
    refine XO.nil ?_
    refine XE.next ?_
    refine XC.keep [(6, _)] (Sub.cons rfl (Sub.nil _)) ?_
    refine XC.ret ?_
    refine XE.thenRet ?_
    refine XE.ret1 rfl rfl (post_of (.cons .here (.cons .here .nil)) rfl ?_)
    rw [QS.put_bound (by omega)]; exact ⟨_, _, rfl, rfl⟩
  · skip
    refine XO.guardRun rfl rfl rfl ?_
    refine XO.v (V.move rfl) rfl ?_
    refine XO.guardRun rfl rfl rfl ?_
    refine XO.v (V.cmp rfl rfl rfl) rfl ?_
    refine XO.v (V.pick rfl rfl rfl rfl) rfl ?_
    refine XO.nil ?_
    refine XE.next ?_
    refine XC.keep [(0, _), (1, _), (2, _), (12, _)] (Sub.cons rfl (Sub.cons rfl (Sub.cons rfl (Sub.cons rfl (Sub.nil _))))) ?_
    refine XC.condP rfl (fun h2 => ?_) (fun h2 => ?_)
    · skip
      refine XC.seq ?_
      refine XC.region ?_
      refine XO.v (V.makeIface rfl Try.underlying74 (by simp)) rfl ?_
      refine XO.v (V.assign rfl) rfl ?_
      refine XO.nil ?_
      refine XE.next ?_
      refine XC.keep [(6, _)] (Sub.cons rfl (Sub.nil _)) ?_
      refine XC.ret ?_
      refine XE.thenRet ?_
      refine XE.ret1 rfl rfl (post_of (.cons .here (.cons .here .nil)) rfl ?_)
      rw [QS.put_bound (by omega)]; exact ⟨_, _, rfl, rfl⟩
    · skip
      refine XC.skip ?_
      refine XE.next ?_
      refine XC.keep [(0, _), (1, _), (2, _)] (Sub.cons rfl (Sub.cons rfl (Sub.cons rfl (Sub.nil _)))) ?_
      refine XC.seq ?_
      refine XC.seq ?_
      refine XC.region ?_
      refine XO.v (V.move rfl) rfl ?_
      refine XO.v (V.move rfl) rfl ?_
      refine XO.v (V.nilCheckP rfl) rfl ?_
      refine XO.v (V.fieldAddr rfl fo_60_1) rfl ?_
      refine XO.v (V.indexArr rfl rfl ar_58 (by omega)) rfl ?_
      refine XO.v (V.load rfl (inXM .here) (encQ_at _ _ _ _ (by omega)) sc_3) rfl ?_
      refine XO.v (V.cmp rfl rfl rfl) rfl ?_
      refine XO.nil ?_
      refine XE.next ?_
      refine XC.keep [(0, _), (1, _), (2, _), (20, _)] (Sub.cons rfl (Sub.cons rfl (Sub.cons rfl (Sub.cons rfl (Sub.nil _))))) ?_
      refine XC.condP rfl (fun h3 => ?_) (fun h3 => ?_)
      · skip
        refine XC.seq ?_
        refine XC.region ?_
        refine XO.v (V.makeIface rfl Try.underlying74 (by simp)) rfl ?_
        refine XO.v (V.assign rfl) rfl ?_
        refine XO.nil ?_
        refine XE.next ?_
        refine XC.keep [(6, _)] (Sub.cons rfl (Sub.nil _)) ?_
        refine XC.ret ?_
        refine XE.thenRet ?_
        refine XE.ret1 rfl rfl (post_of (.cons .here (.cons .here .nil)) rfl ?_)
        rw [QS.put_exist (by omega) (by omega)]; exact ⟨_, _, rfl, rfl⟩
      · skip
        have hat := hO.at2 id (by omega) (by omega)
        have hroom := hO.room (id := id) (by omega) (by omega)
        refine XC.skip ?_
        refine XE.next ?_
        refine XC.keep [(0, _), (1, _), (2, _)] (Sub.cons rfl (Sub.cons rfl (Sub.cons rfl (Sub.nil _)))) ?_
        refine XC.seq ?_
        refine XC.region ?_
        refine XO.v (V.move rfl) rfl ?_
        refine XO.v (V.move rfl) rfl ?_
        refine XO.v (V.nilCheckP rfl) rfl ?_
        refine XO.v (V.fieldAddr rfl fo_60_0) rfl ?_
        refine XO.v (V.load rfl (inXM .here) (encQ_h _ _ _) sc_57) rfl ?_
        refine XO.v (V.move rfl) rfl ?_
        refine XO.v (V.move rfl) rfl ?_
        refine XO.v (V.build (vs := #[(0, .int .u64 key), (1, .int .i64 id)]) rfl (v := .agg #[.int .u64 key, .int .i64 id]) (fun _ => by kernel_rfl)) rfl ?_
        refine XO.buildSlice (e := 86) (vs := #[(0, .agg #[.int .u64 key, .int .i64 id])]) (A := #[.int .u64 key, .int .i64 id]) rfl (fun _ => by kernel_rfl) rfl rfl ?_
        intro h4
        refine XO.appendF (e := 86) (C2 := encH (s.more key id)) rfl rfl Try.underlying57 rt_86_2 (.there (.there .here)) .here rfl rfl (by omega) (by omega) (encH_more s key id) rfl ?_
        intro p1 c1
        refine XO.v (V.nilCheckP rfl) rfl ?_
        refine XO.v (V.fieldAddr rfl fo_60_0) rfl ?_
        refine XO.store rfl rfl (.there (.there .here)) (encQ_put s _ _ _ _ key id) rfl sz_57_1 ?_
        refine XO.nil ?_
        refine XE.next ?_
        refine XC.keep [(0, _)] (Sub.cons rfl (Sub.nil _)) ?_
        refine XC.seq ?_
        refine XC.openRow .here (by omega) ?_
        intro g1 h5
        subst h5
        refine XC.region ?_
        have hn1 : (s.more key id).n = s.n + 1 := rfl
        have hR : (s.more key id).Rng := fun j j0 j1 => by
          show 0 ≤ fset s.I s.n id j ∧ fset s.I s.n id j < 64
          unfold fset; split
          · omega
          · exact hO.rng j j0 (by omega)
        refine XO.v (V.move rfl) rfl ?_
        refine XO.v (V.move rfl) rfl ?_
        refine XO.v (V.nilCheckP rfl) rfl ?_
        refine XO.v (V.fieldAddr rfl fo_60_0) rfl ?_
        refine XO.v (V.load rfl (inXM (.there (.there .here))) (show 0 + 0 < 65 ∧ encQ (s.more key id) _ _ (0 + 0) = .slice _ (s.n + 1) _ from ⟨by omega, rfl⟩) sc_57) rfl ?_
        refine XO.v (V.lenSl rfl Try.underlying57) rfl ?_
        refine XO.v (V.sub rfl rfl (s.n : Int) (by rw [show ((s.n + 1 : Nat) : Int) - 1 = s.n from by omega]; exact IntWalk.i64_in _ (by omega))) rfl ?_
        refine XO.call rfl (q_up _ _ _ _ (s.more key id) _ (by omega) hR (by omega)) (.cons (.there (.there .here)) (.cons .here .nil)) cl_48 rfl ?_
        rintro _ _ ⟨rfl, rfl⟩
        refine XO.nil ?_
        refine XE.next ?_
        refine XC.keep [] (Sub.nil _) ?_
        refine XC.seq ?_
        refine XC.region ?_
        refine XO.v (V.assign rfl) rfl ?_
        refine XO.nil ?_
        refine XE.next ?_
        refine XC.keep [(6, _)] (Sub.cons rfl (Sub.nil _)) ?_
        refine XC.ret ?_
        refine XE.ret1 rfl rfl (post_of (.cons .here (.cons .here .nil)) rfl ?_)
        rw [QS.put_done (by omega) (by omega)]; exact ⟨_, _, rfl, rfl⟩
set_option maxRecDepth 10000 in
set_option maxHeartbeats 1000000 in
theorem q_Cut (b o cap : Nat) (p : Option Addr) (s : QS) (hO : s.Ok) (hH : s.Heap) (id : Int) : Spec Try.prog 46 [ptr b o 0, .int .i64 id]
    [.cells b o 65 (encQ (s) p cap), frow p cap 86 2 (s).n (encH (s))]
    (fun v H1 => ∃ p1 c1, v = .tuple #[.int .u64 (s.cut id).1, errv 74 (s.cut id).2.1] ∧ H1 = [.cells b o 65 (encQ ((s.cut id).2.2) p1 c1), frow p1 c1 86 2 ((s.cut id).2.2).n (encH ((s.cut id).2.2))]) := by
  refine Spec.intro Try.func46 rfl rfl ?_
  intro W
  refine XC.seq ?_
  refine XC.region ?_
  refine XO.v (V.assign rfl) rfl ?_
  refine XO.v (V.assign rfl) rfl ?_
  refine XO.nil ?_
  refine XE.next ?_
  refine XC.keep [(0, _), (1, _)] (Sub.cons rfl (Sub.cons rfl (Sub.nil _))) ?_
  refine XC.seq ?_
  refine XC.seq ?_
  refine XC.region ?_
  refine XO.v (V.move rfl) rfl ?_
  refine XO.v (V.cmp rfl rfl rfl) rfl ?_
  refine XO.v (V.move rfl) rfl ?_
  refine XO.splitP (d := 12) rfl (fun h1 => ?_) (fun h1 => ?_)
  · skip
    refine XO.guardSkip rfl rfl rfl rfl rfl ?_
    refine XO.guardSkip rfl rfl rfl rfl rfl ?_
    refine XO.v (V.pick rfl rfl rfl rfl) rfl ?_
    refine XO.nil ?_
    refine XE.next ?_
    refine XC.keep [(0, _), (1, _), (15, _)] (Sub.cons rfl (Sub.cons rfl (Sub.cons rfl (Sub.nil _)))) ?_
    refine XC.condT rfl rfl ?_
    refine XC.seq ?_
    refine XC.region ?_
    refine XO.v (V.makeIface rfl Try.underlying74 (by simp)) rfl ?_
    refine XO.v (V.assign rfl) rfl ?_
    refine XO.v (V.assign rfl) rfl ?_
    refine XO.nil ?_
    refine XE.next ?_
    refine XC.keep [(4, _), (5, _)] (Sub.cons rfl (Sub.cons rfl (Sub.nil _))) ?_
    refine XC.ret ?_
    refine XE.thenRet ?_
    refine XE.ret2 rfl rfl rfl (post_of (.cons .here (.cons .here .nil)) rfl ?_)
    rw [QS.cut_bound (by omega)]; exact ⟨_, _, rfl, rfl⟩
  · skip
    refine XO.guardRun rfl rfl rfl ?_
    refine XO.v (V.move rfl) rfl ?_
    refine XO.guardRun rfl rfl rfl ?_
    refine XO.v (V.cmp rfl rfl rfl) rfl ?_
    refine XO.v (V.pick rfl rfl rfl rfl) rfl ?_
    refine XO.nil ?_
    refine XE.next ?_
    refine XC.keep [(0, _), (1, _), (15, _)] (Sub.cons rfl (Sub.cons rfl (Sub.cons rfl (Sub.nil _)))) ?_
    refine XC.condP rfl (fun h2 => ?_) (fun h2 => ?_)
    · skip
      refine XC.seq ?_
      refine XC.region ?_
      refine XO.v (V.makeIface rfl Try.underlying74 (by simp)) rfl ?_
      refine XO.v (V.assign rfl) rfl ?_
      refine XO.v (V.assign rfl) rfl ?_
      refine XO.nil ?_
      refine XE.next ?_
      refine XC.keep [(4, _), (5, _)] (Sub.cons rfl (Sub.cons rfl (Sub.nil _))) ?_
      refine XC.ret ?_
      refine XE.thenRet ?_
      refine XE.ret2 rfl rfl rfl (post_of (.cons .here (.cons .here .nil)) rfl ?_)
      rw [QS.cut_bound (by omega)]; exact ⟨_, _, rfl, rfl⟩
    · skip
      refine XC.skip ?_
      refine XE.next ?_
      refine XC.keep [(0, _), (1, _)] (Sub.cons rfl (Sub.cons rfl (Sub.nil _))) ?_
      refine XC.seq ?_
      refine XC.region ?_
      have hat := hO.at2 id (by omega) (by omega)
      have hn64 := hO.n64
      refine XO.v (V.move rfl) rfl ?_
      refine XO.v (V.move rfl) rfl ?_
      refine XO.v (V.nilCheckP rfl) rfl ?_
      refine XO.v (V.fieldAddr rfl fo_60_1) rfl ?_
      refine XO.v (V.indexArr rfl rfl ar_58 (by omega)) rfl ?_
      refine XO.v (V.load rfl (inXM .here) (encQ_at _ _ _ _ (by omega)) sc_3) rfl ?_
      refine XO.v (V.sub rfl rfl _ (IntWalk.i64_in _ (by omega))) rfl ?_
      refine XO.v (V.assign rfl) rfl ?_
      refine XO.nil ?_
      refine XE.next ?_
      refine XC.keep [(0, _), (1, _), (6, _)] (Sub.cons rfl (Sub.cons rfl (Sub.cons rfl (Sub.nil _)))) ?_
      refine XC.seq ?_
      refine XC.seq ?_
      refine XC.region ?_
      refine XO.v (V.move rfl) rfl ?_
      refine XO.v (V.cmp rfl rfl rfl) rfl ?_
      refine XO.nil ?_
      refine XE.next ?_
      refine XC.keep [(0, _), (1, _), (6, _), (25, _)] (Sub.cons rfl (Sub.cons rfl (Sub.cons rfl (Sub.cons rfl (Sub.nil _))))) ?_
      refine XC.condP rfl (fun h3 => ?_) (fun h3 => ?_)
      · skip
        refine XC.seq ?_
        refine XC.region ?_
        refine XO.v (V.makeIface rfl Try.underlying74 (by simp)) rfl ?_
        refine XO.v (V.assign rfl) rfl ?_
        refine XO.v (V.assign rfl) rfl ?_
        refine XO.nil ?_
        refine XE.next ?_
        refine XC.keep [(4, _), (5, _)] (Sub.cons rfl (Sub.cons rfl (Sub.nil _))) ?_
        refine XC.ret ?_
        refine XE.thenRet ?_
        refine XE.ret2 rfl rfl rfl (post_of (.cons .here (.cons .here .nil)) rfl ?_)
        rw [QS.cut_none (by omega) (by omega)]; exact ⟨_, _, rfl, rfl⟩
      · skip
        refine XC.skip ?_
        refine XE.next ?_
        refine XC.keep [(0, _), (1, _), (6, _)] (Sub.cons rfl (Sub.cons rfl (Sub.cons rfl (Sub.nil _)))) ?_
        refine XC.seq ?_
        refine XC.openRow (.there .here) (by omega) ?_
        intro g1 h4
        subst h4
        refine XC.region ?_
        refine XO.v (V.move rfl) rfl ?_
        refine XO.v (V.nilCheckP rfl) rfl ?_
        refine XO.v (V.fieldAddr rfl fo_60_0) rfl ?_
        refine XO.v (V.load rfl (inXM .here) (encQ_h _ _ _) sc_57) rfl ?_
        refine XO.v (V.move rfl) rfl ?_
        refine XO.v (V.indexSl rfl rfl sl_57 (by omega)) rfl ?_
        refine XO.v (V.fieldAddr rfl fo_86_0) rfl ?_
        refine XO.v (V.loadF rfl (inXM (.there .here)) (encH_key _ _ _ (by omega)) sc_30) rfl ?_
        refine XO.v (V.assign rfl) rfl ?_
        refine XO.nil ?_
        refine XE.next ?_
        refine XC.keep [(0, _), (1, _), (6, _), (7, _)] (Sub.cons rfl (Sub.cons rfl (Sub.cons rfl (Sub.cons rfl (Sub.nil _))))) ?_
        refine XC.seq ?_
        refine XC.region ?_
        refine XO.v (V.move rfl) rfl ?_
        refine XO.v (V.nilCheckP rfl) rfl ?_
        refine XO.v (V.fieldAddr rfl fo_60_0) rfl ?_
        refine XO.v (V.load rfl (inXM .here) (encQ_h _ _ _) sc_57) rfl ?_
        refine XO.v (V.lenSl rfl Try.underlying57) rfl ?_
        refine XO.v (V.sub rfl rfl _ (IntWalk.i64_in _ (by omega))) rfl ?_
        refine XO.v (V.assign rfl) rfl ?_
        refine XO.nil ?_
        refine XE.next ?_
        refine XC.keep [(0, _), (1, _), (6, _), (7, _), (8, _)] (Sub.cons rfl (Sub.cons rfl (Sub.cons rfl (Sub.cons rfl (Sub.cons rfl (Sub.nil _)))))) ?_
        refine XC.seq ?_
        refine XC.region ?_
        refine XO.v (V.move rfl) rfl ?_
        refine XO.v (V.nilCheckP rfl) rfl ?_
        refine XO.v (V.fieldAddr rfl fo_60_0) rfl ?_
        refine XO.v (V.load rfl (inXM .here) (encQ_h _ _ _) sc_57) rfl ?_
        refine XO.v (V.move rfl) rfl ?_
        refine XO.v (V.indexSl rfl rfl sl_57 (by omega)) rfl ?_
        refine XO.v (V.loadFA rfl (inXM (.there .here)) (encH_item _ _ _ (by omega)) ag_86 sz_86_2) rfl ?_
        refine XO.allocZ (z := .agg #[.int .u64 0, .int .i64 0]) (m := 2) (C := cellsOf #[.int .u64 0, .int .i64 0]) (by kernel_rfl) rfl (fun _ _ => rfl) rfl ?_
        intro bx
        refine XO.storeAgg rfl rfl .here (encIt_set _ _) ⟨rfl, rfl⟩ sz_86_2 ?_
        refine XO.nil ?_
        refine XE.next ?_
        refine XC.keep [(0, _), (1, _), (6, _), (7, _), (8, _), (9, _)] (Sub.cons rfl (Sub.cons rfl (Sub.cons rfl (Sub.cons rfl (Sub.cons rfl (Sub.cons rfl (Sub.nil _))))))) ?_
        refine XC.seq ?_
        refine XC.rowLen (.there (.there .here)) ?_
        intro hcap
        refine XC.region ?_
        refine XO.v (V.move rfl) rfl ?_
        refine XO.v (V.move rfl) rfl ?_
        refine XO.v (V.nilCheckP rfl) rfl ?_
        refine XO.v (V.fieldAddr rfl fo_60_0) rfl ?_
        refine XO.v (V.load rfl (inXM (.there .here)) (encQ_h _ _ _) sc_57) rfl ?_
        refine XO.v (V.move rfl) rfl ?_
        refine XO.cutRow (k2 := s.n - 1) (C' := encH (s.less1 id)) rfl rfl Try.underlying57 sz_86_2 (by omega) (by omega) hcap (fun _ _ => rfl) (.there (.there .here)) rfl ?_
        refine XO.v (V.nilCheckP rfl) rfl ?_
        refine XO.v (V.fieldAddr rfl fo_60_0) rfl ?_
        refine XO.store rfl rfl (.there .here) (encQ_seth _ _ _ _ _ _) rfl sz_57_1 ?_
        refine XO.nil ?_
        refine XE.next ?_
        refine XC.keep [(0, _), (1, _), (6, _), (7, _), (8, _), (9, _)] (Sub.cons rfl (Sub.cons rfl (Sub.cons rfl (Sub.cons rfl (Sub.cons rfl (Sub.cons rfl (Sub.nil _))))))) ?_
        refine XC.seq ?_
        refine XC.region ?_
        refine XO.v (V.move rfl) rfl ?_
        refine XO.v (V.move rfl) rfl ?_
        refine XO.v (V.nilCheckP rfl) rfl ?_
        refine XO.v (V.fieldAddr rfl fo_60_1) rfl ?_
        refine XO.v (V.indexArr rfl rfl ar_58 (by omega)) rfl ?_
        refine XO.store rfl rfl (.there .here) (encQ_cut s _ _ id (by omega)) rfl sz_3_1 ?_
        refine XO.nil ?_
        refine XE.next ?_
        refine XC.keep [(0, _), (6, _), (7, _), (8, _), (9, _)] (Sub.cons rfl (Sub.cons rfl (Sub.cons rfl (Sub.cons rfl (Sub.cons rfl (Sub.nil _)))))) ?_
        refine XC.seq ?_
        refine XC.seq ?_
        refine XC.region ?_
        refine XO.v (V.move rfl) rfl ?_
        refine XO.v (V.move rfl) rfl ?_
        refine XO.v (V.cmp rfl rfl rfl) rfl ?_
        refine XO.nil ?_
        refine XE.next ?_
        refine XC.keep [(0, _), (6, _), (7, _), (9, _), (64, _)] (Sub.cons rfl (Sub.cons rfl (Sub.cons rfl (Sub.cons rfl (Sub.cons rfl (Sub.nil _)))))) ?_
        refine XC.condP rfl (fun h5 => ?_) (fun h5 => ?_)
        · skip
          have hn1 : (s.less1 id).n = s.n - 1 := rfl
          refine XC.seq ?_
          refine XC.region ?_
          obtain ⟨m1, m2, m3, q, m4, _, m5⟩ := hO.mid hH (xk := s.K ((s.n : Int) - 1)) (id := id) (by omega) (by omega) rfl rfl (by omega)
          have hr9 := hO.rng ((s.n : Int) - 1) (by omega) (by omega)
          have m6 : (((s.less1 id).set (s.at_ id - 1) (s.K ((s.n : Int) - 1)) (s.I ((s.n : Int) - 1))).down (s.at_ id - 1)).n = ((s.less1 id).set (s.at_ id - 1) (s.K ((s.n : Int) - 1)) (s.I ((s.n : Int) - 1))).n := QS.down_n _ _
          have m7 : ((s.less1 id).set (s.at_ id - 1) (s.K ((s.n : Int) - 1)) (s.I ((s.n : Int) - 1))).n = s.n - 1 := rfl
          refine XO.v (V.move rfl) rfl ?_
          refine XO.v (V.move rfl) rfl ?_
          refine XO.v (V.loadAgg rfl (inXM .here) (encIt_item _ _) ag_86 sz_86_2) rfl ?_
          refine XO.call rfl (q_put _ _ _ _ (s.less1 id) _ _ _ (by omega) (by omega) (by omega)) (.cons (.there .here) (.cons (.there .here) .nil)) cl_49 rfl ?_
          rintro _ _ ⟨rfl, rfl⟩
          refine XO.nil ?_
          refine XE.next ?_
          refine XC.keep [(0, _), (6, _), (7, _), (9, _)] (Sub.cons rfl (Sub.cons rfl (Sub.cons rfl (Sub.cons rfl (Sub.nil _))))) ?_
          refine XC.seq ?_
          refine XC.region ?_
          refine XO.v (V.move rfl) rfl ?_
          refine XO.v (V.move rfl) rfl ?_
          refine XO.call rfl (q_down _ _ _ _ ((s.less1 id).set (s.at_ id - 1) (s.K ((s.n : Int) - 1)) (s.I ((s.n : Int) - 1))) _ (by omega) (fun j j0 j1 => m1.rng j j0 j1) (by omega)) (.cons .here (.cons .here .nil)) cl_50 rfl ?_
          rintro _ _ ⟨rfl, rfl⟩
          refine XO.nil ?_
          refine XE.next ?_
          refine XC.keep [(0, _), (7, _), (9, _)] (Sub.cons rfl (Sub.cons rfl (Sub.cons rfl (Sub.nil _)))) ?_
          refine XC.regionQ mixed (f := 10) (l := #[false, false, false, false, false, false, false, false, false, false]) rfl rfl XM.drawn' ?_
          refine XQ.pv (i := 0) (l' := #[true, false, false, false, false, false, false, false, false, false]) rfl (by kernel_rfl) rfl (V.move rfl) rfl rfl ?_
          refine XQ.pv (i := 1) (l' := #[true, true, false, false, false, false, false, false, false, false]) rfl (by kernel_rfl) rfl (V.move rfl) rfl rfl ?_
          refine XQ.pv (i := 2) (l' := #[true, true, true, false, false, false, false, false, false, false]) rfl (by kernel_rfl) rfl (V.fieldAddr rfl fo_86_1) rfl rfl ?_
          refine XQ.load (i := 3) (l' := #[true, true, true, true, false, false, false, false, false, false]) (.cells _ _ _ _) [9] rfl (by kernel_rfl) rfl (.there (.there .here)) (V.load rfl inEnt (encIt_id _ _) sc_3) rfl (by kernel_rfl) rfl ?_
          refine XQ.pv (i := 4) (l' := #[true, true, true, true, true, false, false, false, false, false]) rfl (by kernel_rfl) rfl (V.nilCheckP rfl) rfl rfl ?_
          refine XQ.pv (i := 5) (l' := #[true, true, true, true, true, true, false, false, false, false]) rfl (by kernel_rfl) rfl (V.fieldAddr rfl fo_60_1) rfl rfl ?_
          refine XQ.pv (i := 6) (l' := #[true, true, true, true, true, true, true, false, false, false]) rfl (by kernel_rfl) rfl (V.indexArr rfl rfl ar_58 (by omega)) rfl rfl ?_
          refine XQ.load (i := 7) (l' := #[true, true, true, true, true, true, true, true, false, false]) (.cells _ _ _ _) [9] rfl (by kernel_rfl) rfl .here (V.load rfl inEnt (encQ_at _ _ _ _ (by omega)) sc_3) rfl (by kernel_rfl) rfl ?_
          refine XQ.pv (i := 8) (l' := #[true, true, true, true, true, true, true, true, true, false]) rfl (by kernel_rfl) rfl (V.sub rfl rfl _ (IntWalk.i64_in _ (by omega))) rfl rfl ?_
          refine XQ.call (i := 9) (l' := #[true, true, true, true, true, true, true, true, true, true]) rfl (by kernel_rfl) rfl rfl (q_up _ _ _ _ (((s.less1 id).set (s.at_ id - 1) (s.K ((s.n : Int) - 1)) (s.I ((s.n : Int) - 1))).down (s.at_ id - 1)) _ (by omega) (fun j j0 j1 => m2.rng j j0 j1) (by omega)) (.cons .here (.cons .here .nil)) cl_48 rfl (by rintro _ _ ⟨rfl, rfl⟩; all_goals (intro _ hw'; exact ⟨fun hs => (hs 9 (by simp) rfl).elim, fun hs => (hs 9 (by simp) rfl).elim, trivial⟩)) ?_
          rintro _ _ ⟨rfl, rfl⟩
          refine XQ.done (by kernel_rfl) ?_
          refine XE.next ?_
          refine XC.keep [(7, _)] (Sub.cons rfl (Sub.nil _)) ?_
          refine XC.seq ?_
          refine XC.region ?_
          refine XO.v (V.move rfl) rfl ?_
          refine XO.v (V.assign rfl) rfl ?_
          refine XO.v (V.assign rfl) rfl ?_
          refine XO.nil ?_
          refine XE.next ?_
          refine XC.keep [(4, _), (5, _)] (Sub.cons rfl (Sub.cons rfl (Sub.nil _))) ?_
          refine XC.ret ?_
          refine XE.ret2 rfl rfl rfl (post_of (.cons .here (.cons .here .nil)) rfl ?_)
          rw [QS.cut_done (by omega) (by omega)]
          unfold QS.cutOk
          rw [if_pos (by omega)]
          exact ⟨_, _, rfl, rfl⟩
        · skip
          refine XC.skip ?_
          refine XE.next ?_
          refine XC.keep [(7, _)] (Sub.cons rfl (Sub.nil _)) ?_
          refine XC.seq ?_
          refine XC.region ?_
          refine XO.v (V.move rfl) rfl ?_
          refine XO.v (V.assign rfl) rfl ?_
          refine XO.v (V.assign rfl) rfl ?_
          refine XO.nil ?_
          refine XE.next ?_
          refine XC.keep [(4, _), (5, _)] (Sub.cons rfl (Sub.cons rfl (Sub.nil _))) ?_
          refine XC.ret ?_
          refine XE.ret2 rfl rfl rfl (post_of (.cons (.there .here) (.cons (.there .here) .nil)) rfl ?_)
          rw [QS.cut_done (by omega) (by omega)]
          unfold QS.cutOk
          rw [if_neg (by omega)]
          exact ⟨_, _, rfl, rfl⟩
set_option maxRecDepth 10000 in
set_option maxHeartbeats 400000 in
theorem q_Key (b o cap : Nat) (p : Option Addr) (s : QS) (hO : s.Ok) (id : Int) : Spec Try.prog 43 [ptr b o 0, .int .i64 id]
    [.cells b o 65 (encQ (s) p cap), frow p cap 86 2 (s).n (encH (s))]
    (fun v H1 => v = .tuple #[.int .u64 (s.key id).1, errv 74 (s.key id).2] ∧ H1 = [.cells b o 65 (encQ (s) p cap), frow p cap 86 2 (s).n (encH (s))]) := by
  refine Spec.intro Try.func43 rfl rfl ?_
  intro W
  refine XC.seq ?_
  refine XC.region ?_
  refine XO.v (V.assign rfl) rfl ?_
  refine XO.v (V.assign rfl) rfl ?_
  refine XO.nil ?_
  refine XE.next ?_
  refine XC.keep [(0, _), (1, _)] (Sub.cons rfl (Sub.cons rfl (Sub.nil _))) ?_
  refine XC.seq ?_
  refine XC.seq ?_
  refine XC.region ?_
  refine XO.v (V.move rfl) rfl ?_
  refine XO.v (V.cmp rfl rfl rfl) rfl ?_
  refine XO.v (V.move rfl) rfl ?_
  refine XO.splitP (d := 8) rfl (fun h1 => ?_) (fun h1 => ?_)
  · skip
    refine XO.guardSkip rfl rfl rfl rfl rfl ?_
    refine XO.guardSkip rfl rfl rfl rfl rfl ?_
    refine XO.v (V.pick rfl rfl rfl rfl) rfl ?_
    refine XO.nil ?_
    refine XE.next ?_
    refine XC.keep [(0, _), (1, _), (11, _)] (Sub.cons rfl (Sub.cons rfl (Sub.cons rfl (Sub.nil _)))) ?_
    refine XC.condT rfl rfl ?_
    refine XC.seq ?_
    refine XC.region ?_
    refine XO.v (V.makeIface rfl Try.underlying74 (by simp)) rfl ?_
    refine XO.v (V.assign rfl) rfl ?_
    refine XO.v (V.assign rfl) rfl ?_
    refine XO.nil ?_
    refine XE.next ?_
    refine XC.keep [(4, _), (5, _)] (Sub.cons rfl (Sub.cons rfl (Sub.nil _))) ?_
    refine XC.ret ?_
    refine XE.thenRet ?_
    refine XE.ret2 rfl rfl rfl (post_of (.cons .here (.cons .here .nil)) rfl ?_)
    rw [QS.key_bound (by omega)]; exact ⟨rfl, rfl⟩
  · skip
    refine XO.guardRun rfl rfl rfl ?_
    refine XO.v (V.move rfl) rfl ?_
    refine XO.guardRun rfl rfl rfl ?_
    refine XO.v (V.cmp rfl rfl rfl) rfl ?_
    refine XO.v (V.pick rfl rfl rfl rfl) rfl ?_
    refine XO.nil ?_
    refine XE.next ?_
    refine XC.keep [(0, _), (1, _), (11, _)] (Sub.cons rfl (Sub.cons rfl (Sub.cons rfl (Sub.nil _)))) ?_
    refine XC.condP rfl (fun h2 => ?_) (fun h2 => ?_)
    · skip
      refine XC.seq ?_
      refine XC.region ?_
      refine XO.v (V.makeIface rfl Try.underlying74 (by simp)) rfl ?_
      refine XO.v (V.assign rfl) rfl ?_
      refine XO.v (V.assign rfl) rfl ?_
      refine XO.nil ?_
      refine XE.next ?_
      refine XC.keep [(4, _), (5, _)] (Sub.cons rfl (Sub.cons rfl (Sub.nil _))) ?_
      refine XC.ret ?_
      refine XE.thenRet ?_
      refine XE.ret2 rfl rfl rfl (post_of (.cons .here (.cons .here .nil)) rfl ?_)
      rw [QS.key_bound (by omega)]; exact ⟨rfl, rfl⟩
    · skip
      refine XC.skip ?_
      refine XE.next ?_
      refine XC.keep [(0, _), (1, _)] (Sub.cons rfl (Sub.cons rfl (Sub.nil _))) ?_
      refine XC.seq ?_
      refine XC.seq ?_
      refine XC.region ?_
      refine XO.v (V.move rfl) rfl ?_
      refine XO.v (V.move rfl) rfl ?_
      refine XO.v (V.nilCheckP rfl) rfl ?_
      refine XO.v (V.fieldAddr rfl fo_60_1) rfl ?_
      refine XO.v (V.indexArr rfl rfl ar_58 (by omega)) rfl ?_
      refine XO.v (V.load rfl (inXM .here) (encQ_at _ _ _ _ (by omega)) sc_3) rfl ?_
      refine XO.v (V.cmp rfl rfl rfl) rfl ?_
      refine XO.nil ?_
      refine XE.next ?_
      refine XC.keep [(0, _), (1, _), (19, _)] (Sub.cons rfl (Sub.cons rfl (Sub.cons rfl (Sub.nil _)))) ?_
      refine XC.condP rfl (fun h3 => ?_) (fun h3 => ?_)
      · skip
        refine XC.seq ?_
        refine XC.region ?_
        refine XO.v (V.makeIface rfl Try.underlying74 (by simp)) rfl ?_
        refine XO.v (V.assign rfl) rfl ?_
        refine XO.v (V.assign rfl) rfl ?_
        refine XO.nil ?_
        refine XE.next ?_
        refine XC.keep [(4, _), (5, _)] (Sub.cons rfl (Sub.cons rfl (Sub.nil _))) ?_
        refine XC.ret ?_
        refine XE.thenRet ?_
        refine XE.ret2 rfl rfl rfl (post_of (.cons .here (.cons .here .nil)) rfl ?_)
        rw [QS.key_none (by omega) (by omega)]; exact ⟨rfl, rfl⟩
      · skip
        have hat := hO.at2 id (by omega) (by omega)
        have hn64 := hO.n64
        refine XC.skip ?_
        refine XE.next ?_
        refine XC.keep [(0, _), (1, _)] (Sub.cons rfl (Sub.cons rfl (Sub.nil _))) ?_
        refine XC.seq ?_
        refine XC.openRow (.there .here) (by omega) ?_
        intro g1 h4
        subst h4
        refine XC.regionQ mixed (f := 16) (l := #[false, false, false, false, false, false, false, false, false, false, false, false, false, false, false, false]) rfl rfl XM.drawn' ?_
        refine XQ.pv (i := 0) (l' := #[true, false, false, false, false, false, false, false, false, false, false, false, false, false, false, false]) rfl (by kernel_rfl) rfl (V.move rfl) rfl rfl ?_
        refine XQ.pv (i := 1) (l' := #[true, true, false, false, false, false, false, false, false, false, false, false, false, false, false, false]) rfl (by kernel_rfl) rfl (V.nilCheckP rfl) rfl rfl ?_
        refine XQ.pv (i := 2) (l' := #[true, true, true, false, false, false, false, false, false, false, false, false, false, false, false, false]) rfl (by kernel_rfl) rfl (V.fieldAddr rfl fo_60_0) rfl rfl ?_
        refine XQ.load (i := 3) (l' := #[true, true, true, true, false, false, false, false, false, false, false, false, false, false, false, false]) (.cells _ _ _ _) [] rfl (by kernel_rfl) rfl .here (V.load rfl inEnt (encQ_h _ _ _) sc_57) rfl (by kernel_rfl) rfl ?_
        refine XQ.pv (i := 4) (l' := #[true, true, true, true, true, false, false, false, false, false, false, false, false, false, false, false]) rfl (by kernel_rfl) rfl (V.move rfl) rfl rfl ?_
        refine XQ.pv (i := 5) (l' := #[true, true, true, true, true, true, false, false, false, false, false, false, false, false, false, false]) rfl (by kernel_rfl) rfl (V.move rfl) rfl rfl ?_
        refine XQ.pv (i := 6) (l' := #[true, true, true, true, true, true, true, false, false, false, false, false, false, false, false, false]) rfl (by kernel_rfl) rfl (V.nilCheckP rfl) rfl rfl ?_
        refine XQ.pv (i := 7) (l' := #[true, true, true, true, true, true, true, true, false, false, false, false, false, false, false, false]) rfl (by kernel_rfl) rfl (V.fieldAddr rfl fo_60_1) rfl rfl ?_
        refine XQ.pv (i := 8) (l' := #[true, true, true, true, true, true, true, true, true, false, false, false, false, false, false, false]) rfl (by kernel_rfl) rfl (V.indexArr rfl rfl ar_58 (by omega)) rfl rfl ?_
        refine XQ.load (i := 9) (l' := #[true, true, true, true, true, true, true, true, true, true, false, false, false, false, false, false]) (.cells _ _ _ _) [] rfl (by kernel_rfl) rfl .here (V.load rfl inEnt (encQ_at _ _ _ _ (by omega)) sc_3) rfl (by kernel_rfl) rfl ?_
        refine XQ.pv (i := 10) (l' := #[true, true, true, true, true, true, true, true, true, true, true, false, false, false, false, false]) rfl (by kernel_rfl) rfl (V.sub rfl rfl _ (IntWalk.i64_in _ (by omega))) rfl rfl ?_
        refine XQ.pv (i := 11) (l' := #[true, true, true, true, true, true, true, true, true, true, true, true, false, false, false, false]) rfl (by kernel_rfl) rfl (V.indexSl rfl rfl sl_57 (by omega)) rfl rfl ?_
        refine XQ.pv (i := 12) (l' := #[true, true, true, true, true, true, true, true, true, true, true, true, true, false, false, false]) rfl (by kernel_rfl) rfl (V.fieldAddr rfl fo_86_0) rfl rfl ?_
        refine XQ.load (i := 13) (l' := #[true, true, true, true, true, true, true, true, true, true, true, true, true, true, false, false]) (.row _ _ _ _ _) [] rfl (by kernel_rfl) rfl (.there .here) (V.loadF rfl inEnt (encH_key _ _ _ (by omega)) sc_30) rfl (by kernel_rfl) rfl ?_
        refine XQ.pv (i := 14) (l' := #[true, true, true, true, true, true, true, true, true, true, true, true, true, true, true, false]) rfl (by kernel_rfl) rfl (V.assign rfl) rfl rfl ?_
        refine XQ.pv (i := 15) (l' := #[true, true, true, true, true, true, true, true, true, true, true, true, true, true, true, true]) rfl (by kernel_rfl) rfl (V.assign rfl) rfl rfl ?_
        refine XQ.done (by kernel_rfl) ?_
        refine XE.next ?_
        refine XC.keep [(4, _), (5, _)] (Sub.cons rfl (Sub.cons rfl (Sub.nil _))) ?_
        refine XC.ret ?_
        refine XE.ret2 rfl rfl rfl (post_of (.cons .here (.cons .here .nil)) rfl ?_)
        rw [QS.key_done (by omega) (by omega)]; exact ⟨rfl, rfl⟩
set_option maxRecDepth 10000 in
set_option maxHeartbeats 400000 in
theorem q_First (b o cap : Nat) (p : Option Addr) (s : QS) : Spec Try.prog 37 [ptr b o 0]
    [.cells b o 65 (encQ (s) p cap), frow p cap 86 2 (s).n (encH (s))]
    (fun v H1 => v = .tuple #[.int .i64 s.first.1, .int .u64 s.first.2.1, .bool s.first.2.2] ∧ H1 = [.cells b o 65 (encQ (s) p cap), frow p cap 86 2 (s).n (encH (s))]) := by
  refine Spec.intro Try.func37 rfl rfl ?_
  intro W
  refine XC.seq ?_
  refine XC.region ?_
  refine XO.v (V.assign rfl) rfl ?_
  refine XO.v (V.assign rfl) rfl ?_
  refine XO.v (V.assign rfl) rfl ?_
  refine XO.nil ?_
  refine XE.next ?_
  refine XC.keep [(0, _)] (Sub.cons rfl (Sub.nil _)) ?_
  refine XC.seq ?_
  refine XC.seq ?_
  refine XC.region ?_
  refine XO.v (V.move rfl) rfl ?_
  refine XO.v (V.nilCheckP rfl) rfl ?_
  refine XO.v (V.fieldAddr rfl fo_60_0) rfl ?_
  refine XO.v (V.load rfl (inXM .here) (encQ_h _ _ _) sc_57) rfl ?_
  refine XO.v (V.lenSl rfl Try.underlying57) rfl ?_
  refine XO.v (V.cmp rfl rfl rfl) rfl ?_
  refine XO.nil ?_
  refine XE.next ?_
  refine XC.keep [(0, _), (10, _)] (Sub.cons rfl (Sub.cons rfl (Sub.nil _))) ?_
  refine XC.condP rfl (fun h1 => ?_) (fun h1 => ?_)
  · skip
    refine XC.seq ?_
    refine XC.region ?_
    refine XO.v (V.assign rfl) rfl ?_
    refine XO.v (V.assign rfl) rfl ?_
    refine XO.v (V.assign rfl) rfl ?_
    refine XO.nil ?_
    refine XE.next ?_
    refine XC.keep [(2, _), (3, _), (4, _)] (Sub.cons rfl (Sub.cons rfl (Sub.cons rfl (Sub.nil _)))) ?_
    refine XC.ret ?_
    refine XE.thenRet ?_
    refine XE.ret3 rfl rfl rfl rfl (post_of (.cons .here (.cons .here .nil)) rfl ?_)
    have e : s.first = (0, 0, false) := by unfold QS.first; rw [if_pos (by omega)]
    rw [e]; exact ⟨rfl, rfl⟩
  · skip
    refine XC.skip ?_
    refine XE.next ?_
    refine XC.keep [(0, _)] (Sub.cons rfl (Sub.nil _)) ?_
    refine XC.seq ?_
    refine XC.openRow (.there .here) (by omega) ?_
    intro g1 h2
    subst h2
    refine XC.regionQ mixed (f := 17) (l := #[false, false, false, false, false, false, false, false, false, false, false, false, false, false, false, false, false]) rfl rfl XM.drawn' ?_
    refine XQ.pv (i := 0) (l' := #[true, false, false, false, false, false, false, false, false, false, false, false, false, false, false, false, false]) rfl (by kernel_rfl) rfl (V.move rfl) rfl rfl ?_
    refine XQ.pv (i := 1) (l' := #[true, true, false, false, false, false, false, false, false, false, false, false, false, false, false, false, false]) rfl (by kernel_rfl) rfl (V.nilCheckP rfl) rfl rfl ?_
    refine XQ.pv (i := 2) (l' := #[true, true, true, false, false, false, false, false, false, false, false, false, false, false, false, false, false]) rfl (by kernel_rfl) rfl (V.fieldAddr rfl fo_60_0) rfl rfl ?_
    refine XQ.load (i := 3) (l' := #[true, true, true, true, false, false, false, false, false, false, false, false, false, false, false, false, false]) (.cells _ _ _ _) [] rfl (by kernel_rfl) rfl .here (V.load rfl inEnt (encQ_h _ _ _) sc_57) rfl (by kernel_rfl) rfl ?_
    refine XQ.pv (i := 4) (l' := #[true, true, true, true, true, false, false, false, false, false, false, false, false, false, false, false, false]) rfl (by kernel_rfl) rfl (V.indexSl rfl rfl sl_57 (by omega)) rfl rfl ?_
    refine XQ.pv (i := 5) (l' := #[true, true, true, true, true, true, false, false, false, false, false, false, false, false, false, false, false]) rfl (by kernel_rfl) rfl (V.fieldAddr rfl fo_86_1) rfl rfl ?_
    refine XQ.load (i := 6) (l' := #[true, true, true, true, true, true, true, false, false, false, false, false, false, false, false, false, false]) (.row _ _ _ _ _) [] rfl (by kernel_rfl) rfl (.there .here) (V.loadF rfl inEnt (encH_id _ _ _ (by omega)) sc_3) rfl (by kernel_rfl) rfl ?_
    refine XQ.pv (i := 7) (l' := #[true, true, true, true, true, true, true, true, false, false, false, false, false, false, false, false, false]) rfl (by kernel_rfl) rfl (V.move rfl) rfl rfl ?_
    refine XQ.pv (i := 8) (l' := #[true, true, true, true, true, true, true, true, true, false, false, false, false, false, false, false, false]) rfl (by kernel_rfl) rfl (V.nilCheckP rfl) rfl rfl ?_
    refine XQ.pv (i := 9) (l' := #[true, true, true, true, true, true, true, true, true, true, false, false, false, false, false, false, false]) rfl (by kernel_rfl) rfl (V.fieldAddr rfl fo_60_0) rfl rfl ?_
    refine XQ.load (i := 10) (l' := #[true, true, true, true, true, true, true, true, true, true, true, false, false, false, false, false, false]) (.cells _ _ _ _) [] rfl (by kernel_rfl) rfl .here (V.load rfl inEnt (encQ_h _ _ _) sc_57) rfl (by kernel_rfl) rfl ?_
    refine XQ.pv (i := 11) (l' := #[true, true, true, true, true, true, true, true, true, true, true, true, false, false, false, false, false]) rfl (by kernel_rfl) rfl (V.indexSl rfl rfl sl_57 (by omega)) rfl rfl ?_
    refine XQ.pv (i := 12) (l' := #[true, true, true, true, true, true, true, true, true, true, true, true, true, false, false, false, false]) rfl (by kernel_rfl) rfl (V.fieldAddr rfl fo_86_0) rfl rfl ?_
    refine XQ.load (i := 13) (l' := #[true, true, true, true, true, true, true, true, true, true, true, true, true, true, false, false, false]) (.row _ _ _ _ _) [] rfl (by kernel_rfl) rfl (.there .here) (V.loadF rfl inEnt (encH_key _ _ _ (by omega)) sc_30) rfl (by kernel_rfl) rfl ?_
    refine XQ.pv (i := 14) (l' := #[true, true, true, true, true, true, true, true, true, true, true, true, true, true, true, false, false]) rfl (by kernel_rfl) rfl (V.assign rfl) rfl rfl ?_
    refine XQ.pv (i := 15) (l' := #[true, true, true, true, true, true, true, true, true, true, true, true, true, true, true, true, false]) rfl (by kernel_rfl) rfl (V.assign rfl) rfl rfl ?_
    refine XQ.pv (i := 16) (l' := #[true, true, true, true, true, true, true, true, true, true, true, true, true, true, true, true, true]) rfl (by kernel_rfl) rfl (V.assign rfl) rfl rfl ?_
    refine XQ.done (by kernel_rfl) ?_
    refine XE.next ?_
    refine XC.keep [(2, _), (3, _), (4, _)] (Sub.cons rfl (Sub.cons rfl (Sub.cons rfl (Sub.nil _)))) ?_
    refine XC.ret ?_
    refine XE.ret3 rfl rfl rfl rfl (post_of (.cons .here (.cons .here .nil)) rfl ?_)
    have e : s.first = (s.I 0, s.K 0, true) := by unfold QS.first; rw [if_neg (by omega)]
    rw [e]; exact ⟨rfl, rfl⟩
set_option maxRecDepth 10000 in
set_option maxHeartbeats 400000 in
theorem q_Len (b o cap : Nat) (p : Option Addr) (s : QS) : Spec Try.prog 47 [ptr b o 0]
    [.cells b o 65 (encQ (s) p cap), frow p cap 86 2 (s).n (encH (s))]
    (fun v H1 => v = .int .i64 (s.n : Int) ∧ H1 = [.cells b o 65 (encQ (s) p cap), frow p cap 86 2 (s).n (encH (s))]) := by
  refine Spec.intro Try.func47 rfl rfl ?_
  intro W
  refine XC.seq ?_
  refine XC.region ?_
  refine XO.v (V.assign rfl) rfl ?_
  refine XO.nil ?_
  refine XE.next ?_
  refine XC.keep [(0, _)] (Sub.cons rfl (Sub.nil _)) ?_
  refine XC.seq ?_
  refine XC.region ?_
  refine XO.v (V.move rfl) rfl ?_
  refine XO.v (V.nilCheckP rfl) rfl ?_
  refine XO.v (V.fieldAddr rfl fo_60_0) rfl ?_
  refine XO.v (V.load rfl (inXM .here) (encQ_h _ _ _) sc_57) rfl ?_
  refine XO.v (V.lenSl rfl Try.underlying57) rfl ?_
  refine XO.v (V.assign rfl) rfl ?_
  refine XO.nil ?_
  refine XE.next ?_
  refine XC.keep [(2, _)] (Sub.cons rfl (Sub.nil _)) ?_
  refine XC.ret ?_
  refine XE.ret1 rfl rfl (post_of (.cons .here (.cons .here .nil)) rfl ?_)
  exact ⟨rfl, rfl⟩
end Go.X
