import Derived.Test.YtmkfmnhbckbfbaaDoorXRow
import Derived.Test.YtmkfmnhbckbfbaaDoorLM
import Derived.Test.YtmkfmnhbckbfbaaDoorProg
import Derived.KernelRfl
namespace Go.X
open Go Go.Proofs
theorem mixed : Tryd.prog.follows .mixedOrders = true := by kernel_rfl
theorem cl_30 : callable Tryd.prog 30 = true := by kernel_rfl
theorem cl_31 : callable Tryd.prog 31 = true := by kernel_rfl
theorem cl_54 : callable Tryd.prog 54 = true := by kernel_rfl
theorem cl_78 : callable Tryd.prog 78 = true := by kernel_rfl
theorem cl_89 : callable Tryd.prog 89 = true := by kernel_rfl
theorem cl_9 : callable Tryd.prog 9 = true := by kernel_rfl
theorem cl_96 : callable Tryd.prog 96 = true := by kernel_rfl
theorem rt_3_1 : rowT Tryd.prog 3 1 = true := by kernel_rfl
theorem sc_3 : scal Tryd.prog 3 = true := by kernel_rfl
theorem sc_39 : scal Tryd.prog 39 = true := by kernel_rfl
theorem sl_61 : sliceOf Tryd.prog 61 = some (3, 1) := by kernel_rfl
theorem sl_63 : sliceOf Tryd.prog 63 = some (39, 1) := by kernel_rfl
set_option maxRecDepth 10000 in
set_option maxHeartbeats 400000 in
theorem same_nil (f : Int) : Spec Tryd.prog 9 [.nilIface, .int .i64 f]
    []
    (fun v H1 => v = .bool (decide (0 = f)) ∧ H1 = []) := by
  refine Spec.intro Tryd.func9 rfl rfl ?_
  intro W
  refine XC.seq ?_
  refine XC.region ?_
  refine XO.v (V.assign rfl) rfl ?_
  refine XO.nil ?_
  refine XE.next ?_
  refine XC.keep [(0, _), (1, _)] (Sub.cons rfl (Sub.cons rfl (Sub.nil _))) ?_
  refine XC.seq ?_
  refine XC.seq ?_
  refine XC.region ?_
  refine XO.v (V.move rfl) rfl ?_
  refine XO.v (V.nilNil rfl Tryd.underlying39 rfl) rfl ?_
  refine XO.nil ?_
  refine XE.next ?_
  refine XC.keep [(0, _), (1, _), (8, _)] (Sub.cons rfl (Sub.cons rfl (Sub.cons rfl (Sub.nil _)))) ?_
  refine XC.condT rfl rfl ?_
  refine XC.seq ?_
  refine XC.region ?_
  refine XO.v (V.move rfl) rfl ?_
  refine XO.v (V.cmp rfl rfl rfl) rfl ?_
  refine XO.v (V.assign rfl) rfl ?_
  refine XO.nil ?_
  refine XE.next ?_
  refine XC.keep [(4, _)] (Sub.cons rfl (Sub.nil _)) ?_
  refine XC.ret ?_
  refine XE.thenRet ?_
  refine XE.ret1 rfl rfl (post_of .nil rfl ?_)
  exact ⟨congrArg Value.bool (by simp; omega), rfl⟩
set_option maxRecDepth 10000 in
set_option maxHeartbeats 400000 in
theorem same_err (e f : Int) (he : 0 < e) : Spec Tryd.prog 9 [.iface 62 (.int .i64 e), .int .i64 f]
    []
    (fun v H1 => v = .bool (decide (e = f)) ∧ H1 = []) := by
  refine Spec.intro Tryd.func9 rfl rfl ?_
  intro W
  refine XC.seq ?_
  refine XC.region ?_
  refine XO.v (V.assign rfl) rfl ?_
  refine XO.nil ?_
  refine XE.next ?_
  refine XC.keep [(0, _), (1, _)] (Sub.cons rfl (Sub.cons rfl (Sub.nil _))) ?_
  refine XC.seq ?_
  refine XC.seq ?_
  refine XC.region ?_
  refine XO.v (V.move rfl) rfl ?_
  refine XO.v (V.ifaceNil rfl Tryd.underlying39 rfl) rfl ?_
  refine XO.nil ?_
  refine XE.next ?_
  refine XC.keep [(0, _), (1, _), (8, _)] (Sub.cons rfl (Sub.cons rfl (Sub.cons rfl (Sub.nil _)))) ?_
  refine XC.condF rfl rfl ?_
  refine XC.skip ?_
  refine XE.next ?_
  refine XC.keep [(0, _), (1, _)] (Sub.cons rfl (Sub.cons rfl (Sub.nil _))) ?_
  refine XC.seq ?_
  refine XC.region ?_
  refine XO.v (V.move rfl) rfl ?_
  refine XO.v (V.assertOk rfl Tryd.underlying62 (by simp)) rfl ?_
  refine XO.v (V.move rfl) rfl ?_
  refine XO.v (V.extract rfl rfl) rfl ?_
  refine XO.v (V.extract rfl rfl) rfl ?_
  refine XO.v (V.assign rfl) rfl ?_
  refine XO.v (V.assign rfl) rfl ?_
  refine XO.nil ?_
  refine XE.next ?_
  refine XC.keep [(1, _), (5, _), (6, _)] (Sub.cons rfl (Sub.cons rfl (Sub.cons rfl (Sub.nil _)))) ?_
  refine XC.seq ?_
  refine XC.region ?_
  refine XO.v (V.move rfl) rfl ?_
  refine XO.v (V.move rfl) rfl ?_
  refine XO.guardRun rfl rfl rfl ?_
  refine XO.v (V.move rfl) rfl ?_
  refine XO.guardRun rfl rfl rfl ?_
  refine XO.v (V.cmp rfl rfl rfl) rfl ?_
  refine XO.v (V.pick rfl rfl rfl rfl) rfl ?_
  refine XO.v (V.move rfl) rfl ?_
  refine XO.splitP (d := 21) rfl (fun h1 => ?_) (fun h1 => ?_)
  · skip
    refine XO.guardRun rfl rfl rfl ?_
    refine XO.v (V.move rfl) rfl ?_
    refine XO.guardRun rfl rfl rfl ?_
    refine XO.v (V.move rfl) rfl ?_
    refine XO.guardRun rfl rfl rfl ?_
    refine XO.v (V.cmp rfl rfl rfl) rfl ?_
    refine XO.v (V.pick rfl rfl rfl rfl) rfl ?_
    refine XO.v (V.assign rfl) rfl ?_
    refine XO.nil ?_
    refine XE.next ?_
    refine XC.keep [(4, _)] (Sub.cons rfl (Sub.nil _)) ?_
    refine XC.ret ?_
    refine XE.ret1 rfl rfl (post_of .nil rfl ?_)
    first | exact ⟨rfl, rfl⟩ | exact ⟨by rw [show decide (e = f) = false from by simp; omega]; rfl, rfl⟩
  · skip
    refine XO.guardSkip rfl rfl rfl rfl rfl ?_
    refine XO.guardSkip rfl rfl rfl rfl rfl ?_
    refine XO.guardSkip rfl rfl rfl rfl rfl ?_
    refine XO.v (V.pick rfl rfl rfl rfl) rfl ?_
    refine XO.v (V.assign rfl) rfl ?_
    refine XO.nil ?_
    refine XE.next ?_
    refine XC.keep [(4, _)] (Sub.cons rfl (Sub.nil _)) ?_
    refine XC.ret ?_
    refine XE.ret1 rfl rfl (post_of .nil rfl ?_)
    first | exact ⟨rfl, rfl⟩ | exact ⟨by rw [show decide (e = f) = false from by simp; omega]; rfl, rfl⟩
theorem same_any (e f : Int) (he : 0 ≤ e) : Spec Tryd.prog 9 [errv 62 e, .int .i64 f] [] (fun v H1 => v = .bool (decide (e = f)) ∧ H1 = []) := by
  by_cases h : e = 0
  · subst h; exact same_nil f
  · rw [errv_pos _ h]; exact same_err e f (by omega)
set_option maxRecDepth 10000 in
set_option maxHeartbeats 400000 in
theorem same_numbers (p q : Option Addr) (cap cap2 : Nat) (zs ws : List Int) (hz : zs.length ≤ 1000000) : Spec Tryd.prog 30 [.slice p zs.length cap, .slice q ws.length cap2]
    [irow p cap 3 zs, irow q cap2 3 ws]
    (fun v H1 => v = .bool (decide (zs = ws)) ∧ H1 = [irow p cap 3 zs, irow q cap2 3 ws]) := by
  refine Spec.intro Tryd.func30 rfl rfl ?_
  intro W
  refine XC.seq ?_
  refine XC.region ?_
  refine XO.v (V.assign rfl) rfl ?_
  refine XO.nil ?_
  refine XE.next ?_
  refine XC.keep [(0, _), (1, _)] (Sub.cons rfl (Sub.cons rfl (Sub.nil _))) ?_
  refine XC.seq ?_
  refine XC.seq ?_
  refine XC.region ?_
  refine XO.v (V.move rfl) rfl ?_
  refine XO.v (V.lenSl rfl Tryd.underlying61) rfl ?_
  refine XO.v (V.move rfl) rfl ?_
  refine XO.v (V.lenSl rfl Tryd.underlying61) rfl ?_
  refine XO.v (V.cmp rfl rfl rfl) rfl ?_
  refine XO.nil ?_
  refine XE.next ?_
  refine XC.keep [(0, _), (1, _), (10, _)] (Sub.cons rfl (Sub.cons rfl (Sub.cons rfl (Sub.nil _)))) ?_
  refine XC.condP rfl (fun h1 => ?_) (fun h1 => ?_)
  · skip
    refine XC.seq ?_
    refine XC.region ?_
    refine XO.v (V.assign rfl) rfl ?_
    refine XO.nil ?_
    refine XE.next ?_
    refine XC.keep [(4, _)] (Sub.cons rfl (Sub.nil _)) ?_
    refine XC.ret ?_
    refine XE.thenRet ?_
    refine XE.ret1 rfl rfl (post_of (.cons .here (.cons .here .nil)) rfl ?_)
    have hne : ¬ zs = ws := by rintro rfl; omega
    exact ⟨by simp [hne], rfl⟩
  · skip
    refine XC.skip ?_
    refine XE.next ?_
    refine XC.keep [(0, _), (1, _)] (Sub.cons rfl (Sub.cons rfl (Sub.nil _))) ?_
    refine XC.seq ?_
    refine XC.seq ?_
    refine XC.region ?_
    refine XO.v (V.assign rfl) rfl ?_
    refine XO.nil ?_
    refine XE.next ?_
    refine XC.keep [(0, _), (1, _), (5, _)] (Sub.cons rfl (Sub.cons rfl (Sub.cons rfl (Sub.nil _)))) ?_
    refine XC.block ?_
    refine XC.loop (σ := Int) (fun k => (zs.length - k).toNat) (fun k => (0 ≤ k ∧ k ≤ zs.length) ∧ ∀ z : Int, 0 ≤ z → z < k → at0 zs z = at0 ws z) (fun k => [(5, .int .i64 k), (0, .slice p zs.length cap), (1, .slice q ws.length cap2)]) (fun k => XM W (foot [irow p cap 3 zs, irow q cap2 3 ws]) [irow p cap 3 zs, irow q cap2 3 ws]) (0) ?_ (Sub.cons rfl (Sub.cons rfl (Sub.cons rfl (Sub.nil _)))) (fun _ hw => XM.pick (.cons .here (.cons .here .nil)) hw) ?_
    · skip
      exact ⟨by omega, fun z h1 h2 => by omega⟩
    intro k hk
    obtain ⟨hk, hn⟩ := hk
    refine XC.seq ?_
    refine XC.seq ?_
    refine XC.region ?_
    refine XO.v (V.move rfl) rfl ?_
    refine XO.v (V.move rfl) rfl ?_
    refine XO.v (V.lenSl rfl Tryd.underlying61) rfl ?_
    refine XO.v (V.cmp rfl rfl rfl) rfl ?_
    refine XO.nil ?_
    refine XE.next ?_
    refine XC.keep [(0, _), (1, _), (5, _), (14, _)] (Sub.cons rfl (Sub.cons rfl (Sub.cons rfl (Sub.cons rfl (Sub.nil _))))) ?_
    refine XC.condP rfl (fun h2 => ?_) (fun h2 => ?_)
    · skip
      refine XC.skip ?_
      refine XE.next ?_
      refine XC.keep [(0, _), (1, _), (5, _)] (Sub.cons rfl (Sub.cons rfl (Sub.cons rfl (Sub.nil _)))) ?_
      refine XC.seq ?_
      refine XC.block ?_
      refine XC.seq ?_
      refine XC.openRow .here (by omega) ?_
      intro h3 h4
      subst h4
      refine XC.openRow (.there .here) (by omega) ?_
      intro h5 h6
      subst h6
      refine XC.regionQ mixed (f := 9) (l := #[false, false, false, false, false, false, false, false, false]) rfl rfl XM.drawn' ?_
      refine XQ.pv (i := 0) (l' := #[true, false, false, false, false, false, false, false, false]) rfl (by kernel_rfl) rfl (V.move rfl) rfl rfl ?_
      refine XQ.pv (i := 1) (l' := #[true, true, false, false, false, false, false, false, false]) rfl (by kernel_rfl) rfl (V.move rfl) rfl rfl ?_
      refine XQ.pv (i := 2) (l' := #[true, true, true, false, false, false, false, false, false]) rfl (by kernel_rfl) rfl (V.indexSl rfl rfl sl_61 (by omega)) rfl rfl ?_
      refine XQ.load (i := 3) (l' := #[true, true, true, true, false, false, false, false, false]) (.row _ _ _ _ _) [] rfl (by kernel_rfl) rfl .here (V.loadRow rfl inEnt (ints_at (by omega)) sc_3) rfl (by kernel_rfl) rfl ?_
      refine XQ.pv (i := 4) (l' := #[true, true, true, true, true, false, false, false, false]) rfl (by kernel_rfl) rfl (V.move rfl) rfl rfl ?_
      refine XQ.pv (i := 5) (l' := #[true, true, true, true, true, true, false, false, false]) rfl (by kernel_rfl) rfl (V.move rfl) rfl rfl ?_
      refine XQ.pv (i := 6) (l' := #[true, true, true, true, true, true, true, false, false]) rfl (by kernel_rfl) rfl (V.indexSl rfl rfl sl_61 (by omega)) rfl rfl ?_
      refine XQ.load (i := 7) (l' := #[true, true, true, true, true, true, true, true, false]) (.row _ _ _ _ _) [] rfl (by kernel_rfl) rfl (.there .here) (V.loadRow rfl inEnt (ints_at (by omega)) sc_3) rfl (by kernel_rfl) rfl ?_
      refine XQ.pv (i := 8) (l' := #[true, true, true, true, true, true, true, true, true]) rfl (by kernel_rfl) rfl (V.cmp rfl rfl rfl) rfl rfl ?_
      refine XQ.done (by kernel_rfl) ?_
      refine XE.next ?_
      refine XC.keep [(0, _), (1, _), (5, _), (25, _)] (Sub.cons rfl (Sub.cons rfl (Sub.cons rfl (Sub.cons rfl (Sub.nil _))))) ?_
      refine XC.condP rfl (fun h7 => ?_) (fun h7 => ?_)
      · skip
        refine XC.seq ?_
        refine XC.region ?_
        refine XO.v (V.assign rfl) rfl ?_
        refine XO.nil ?_
        refine XE.next ?_
        refine XC.keep [(4, _)] (Sub.cons rfl (Sub.nil _)) ?_
        refine XC.ret ?_
        refine XE.blockRet ?_
        refine XE.thenRet ?_
        refine XE.thenRet ?_
        refine XE.blockRet ?_
        refine XE.thenRet ?_
        refine XE.ret1 rfl rfl (post_of (.cons .here (.cons .here .nil)) rfl ?_)
        have hne : ¬ zs = ws := by rintro rfl; omega
        exact ⟨by simp [hne], rfl⟩
      · skip
        refine XC.skip ?_
        refine XE.blockNormal ?_
        refine XE.next ?_
        refine XC.keep [(0, _), (1, _), (5, _)] (Sub.cons rfl (Sub.cons rfl (Sub.cons rfl (Sub.nil _)))) ?_
        refine XC.region ?_
        refine XO.v (V.move rfl) rfl ?_
        refine XO.v (V.add rfl rfl _ (IntWalk.i64_in _ (by omega))) rfl ?_
        refine XO.v (V.assign rfl) rfl ?_
        refine XO.nil ?_
        refine XE.again (k + 1) ?_ ?_ (Sub.cons rfl (Sub.cons rfl (Sub.cons rfl (Sub.nil _)))) (fun _ hw => XM.pick (.cons .here (.cons .here .nil)) hw)
        · skip
          (first | omega | (simp; done) | (simp; omega))
        · skip
          refine ⟨by omega, fun z h1 h2 => ?_⟩
          by_cases hzk : z = k
          · subst hzk; omega
          · exact hn z h1 (by omega)
    · skip
      refine XC.exit ?_
      refine XE.thenExit ?_
      refine XE.thenExit ?_
      refine XE.blockExit ?_
      refine XE.next ?_
      refine XC.keep [] (Sub.nil _) ?_
      refine XC.seq ?_
      refine XC.region ?_
      refine XO.v (V.assign rfl) rfl ?_
      refine XO.nil ?_
      refine XE.next ?_
      refine XC.keep [(4, _)] (Sub.cons rfl (Sub.nil _)) ?_
      refine XC.ret ?_
      refine XE.ret1 rfl rfl (post_of (.cons .here (.cons .here .nil)) rfl ?_)
      have he : zs = ws := ints_eq (by omega) (fun z h1 h2 => hn z h1 (by omega))
      exact ⟨by simp [he], rfl⟩
set_option maxRecDepth 10000 in
set_option maxHeartbeats 400000 in
theorem n_small  : Spec Tryd.prog 96 [.int .i64 13]
    []
    (fun v H1 => v = .string ⟨#[49, 51]⟩ ∧ H1 = []) := by
  refine Spec.intro Tryd.func96 rfl rfl ?_
  intro W
  refine XC.seq ?_
  refine XC.region ?_
  refine XO.v (V.assign rfl) rfl ?_
  refine XO.nil ?_
  refine XE.next ?_
  refine XC.keep [(0, _)] (Sub.cons rfl (Sub.nil _)) ?_
  refine XC.seq ?_
  refine XC.seq ?_
  refine XC.region ?_
  refine XO.v (V.move rfl) rfl ?_
  refine XO.v (V.cmp rfl rfl rfl) rfl ?_
  refine XO.nil ?_
  refine XE.next ?_
  refine XC.keep [(0, _), (4, _)] (Sub.cons rfl (Sub.cons rfl (Sub.nil _))) ?_
  refine XC.condFP rfl (by decide) ?_
  refine XC.skip ?_
  refine XE.next ?_
  refine XC.keep [(0, _)] (Sub.cons rfl (Sub.nil _)) ?_
  refine XC.seq ?_
  refine XC.region ?_
  refine XO.v (V.move rfl) rfl ?_
  refine XO.v (V.mul rfl rfl _ (IntWalk.i64_in _ (by omega))) rfl ?_
  refine XO.v (V.move rfl) rfl ?_
  refine XO.v (V.mul rfl rfl _ (IntWalk.i64_in _ (by omega))) rfl ?_
  refine XO.v (V.add rfl rfl _ (IntWalk.i64_in _ (by omega))) rfl ?_
  refine XO.v (V.slice2 rfl rfl rfl Tryd.underlying9 (by decide)) rfl ?_
  refine XO.v (V.assign rfl) rfl ?_
  refine XO.nil ?_
  refine XE.next ?_
  refine XC.keep [(2, _)] (Sub.cons rfl (Sub.nil _)) ?_
  refine XC.ret ?_
  refine XE.ret1 rfl rfl (post_of .nil rfl ?_)
  exact ⟨congrArg Value.string (by decide +kernel), rfl⟩
set_option maxRecDepth 10000 in
set_option maxHeartbeats 400000 in
theorem n_format  : Spec Tryd.prog 89 [.int .i64 13, .int .i64 10]
    []
    (fun v H1 => v = .string ⟨#[49, 51]⟩ ∧ H1 = []) := by
  refine Spec.intro Tryd.func89 rfl rfl ?_
  intro W
  refine XC.seq ?_
  refine XC.region ?_
  refine XO.v (V.assign rfl) rfl ?_
  refine XO.nil ?_
  refine XE.next ?_
  refine XC.keep [(0, _), (1, _)] (Sub.cons rfl (Sub.cons rfl (Sub.nil _))) ?_
  refine XC.seq ?_
  refine XC.seq ?_
  refine XC.region ?_
  refine XO.v (V.move rfl) rfl ?_
  refine XO.v (V.cmp rfl rfl rfl) rfl ?_
  refine XO.nil ?_
  refine XE.next ?_
  refine XC.keep [(0, _), (1, _), (11, _)] (Sub.cons rfl (Sub.cons rfl (Sub.cons rfl (Sub.nil _)))) ?_
  refine XC.condTP rfl (by decide) ?_
  refine XC.seq ?_
  refine XC.seq ?_
  refine XC.region ?_
  refine XO.v (V.move rfl) rfl ?_
  refine XO.v (V.cmp rfl rfl rfl) rfl ?_
  refine XO.v (V.move rfl) rfl ?_
  refine XO.splitT (d := 14) rfl (by decide) ?_
  refine XO.guardRun rfl rfl rfl ?_
  refine XO.v (V.move rfl) rfl ?_
  refine XO.guardRun rfl rfl rfl ?_
  refine XO.v (V.cmp rfl rfl rfl) rfl ?_
  refine XO.v (V.pick rfl rfl rfl rfl) rfl ?_
  refine XO.nil ?_
  refine XE.next ?_
  refine XC.keep [(0, _), (17, _)] (Sub.cons rfl (Sub.cons rfl (Sub.nil _))) ?_
  refine XC.condTP rfl (by decide) ?_
  refine XC.seq ?_
  refine XC.region ?_
  refine XO.v (V.move rfl) rfl ?_
  refine XO.call rfl (n_small) .nil cl_96 rfl ?_
  rintro _ _ ⟨rfl, rfl⟩
  refine XO.v (V.assign rfl) rfl ?_
  refine XO.nil ?_
  refine XE.next ?_
  refine XC.keep [(4, _)] (Sub.cons rfl (Sub.nil _)) ?_
  refine XC.ret ?_
  refine XE.thenRet ?_
  refine XE.thenRet ?_
  refine XE.ret1 rfl rfl (post_of .nil rfl ?_)
  exact ⟨rfl, rfl⟩
set_option maxRecDepth 10000 in
set_option maxHeartbeats 400000 in
theorem n_itoa  : Spec Tryd.prog 78 [.int .i64 13]
    []
    (fun v H1 => v = .string ⟨#[49, 51]⟩ ∧ H1 = []) := by
  refine Spec.intro Tryd.func78 rfl rfl ?_
  intro W
  refine XC.seq ?_
  refine XC.region ?_
  refine XO.v (V.assign rfl) rfl ?_
  refine XO.nil ?_
  refine XE.next ?_
  refine XC.keep [(0, _)] (Sub.cons rfl (Sub.nil _)) ?_
  refine XC.seq ?_
  refine XC.region ?_
  refine XO.v (V.move rfl) rfl ?_
  refine XO.call rfl (n_format) .nil cl_89 rfl ?_
  rintro _ _ ⟨rfl, rfl⟩
  refine XO.v (V.assign rfl) rfl ?_
  refine XO.nil ?_
  refine XE.next ?_
  refine XC.keep [(2, _)] (Sub.cons rfl (Sub.nil _)) ?_
  refine XC.ret ?_
  refine XE.ret1 rfl rfl (post_of .nil rfl ?_)
  exact ⟨rfl, rfl⟩
set_option maxRecDepth 10000 in
set_option maxHeartbeats 400000 in
theorem n_itoa2  : Spec Tryd.prog 54 [.int .i64 13]
    []
    (fun v H1 => v = .string ⟨#[49, 51]⟩ ∧ H1 = []) := by
  refine Spec.intro Tryd.func54 rfl rfl ?_
  intro W
  refine XC.seq ?_
  refine XC.region ?_
  refine XO.v (V.assign rfl) rfl ?_
  refine XO.nil ?_
  refine XE.next ?_
  refine XC.keep [(0, _)] (Sub.cons rfl (Sub.nil _)) ?_
  refine XC.seq ?_
  refine XC.region ?_
  refine XO.v (V.move rfl) rfl ?_
  refine XO.call rfl (n_itoa) .nil cl_78 rfl ?_
  rintro _ _ ⟨rfl, rfl⟩
  refine XO.v (V.assign rfl) rfl ?_
  refine XO.nil ?_
  refine XE.next ?_
  refine XC.keep [(2, _)] (Sub.cons rfl (Sub.nil _)) ?_
  refine XC.ret ?_
  refine XE.ret1 rfl rfl (post_of .nil rfl ?_)
  exact ⟨rfl, rfl⟩
set_option maxRecDepth 10000 in
set_option maxHeartbeats 400000 in
theorem n_error  : Spec Tryd.prog 31 [.int .i64 13]
    []
    (fun v H1 => v = .string ⟨#[119, 97, 114, 100, 114, 111, 111, 109, 58, 32, 101, 114, 114, 111, 114, 32, 49, 51]⟩ ∧ H1 = []) := by
  refine Spec.intro Tryd.func31 rfl rfl ?_
  intro W
  refine XC.seq ?_
  refine XC.region ?_
  refine XO.v (V.assign rfl) rfl ?_
  refine XO.nil ?_
  refine XE.next ?_
  refine XC.keep [(0, _)] (Sub.cons rfl (Sub.nil _)) ?_
  refine XC.seq ?_
  refine XC.region ?_
  refine XO.v (V.move rfl) rfl ?_
  refine XO.call rfl (n_itoa2) .nil cl_54 rfl ?_
  rintro _ _ ⟨rfl, rfl⟩
  refine XO.v (V.concat rfl rfl (by decide)) rfl ?_
  refine XO.v (V.assign rfl) rfl ?_
  refine XO.nil ?_
  refine XE.next ?_
  refine XC.keep [(2, _)] (Sub.cons rfl (Sub.nil _)) ?_
  refine XC.ret ?_
  refine XE.ret1 rfl rfl (post_of .nil rfl ?_)
  exact ⟨congrArg Value.string (by decide +kernel), rfl⟩
def errs13 : Nat → Value := cellsOf #[.iface 62 (.int .i64 1), .iface 62 (.int .i64 2), .iface 62 (.int .i64 3), .iface 62 (.int .i64 4), .iface 62 (.int .i64 5), .iface 62 (.int .i64 6), .iface 62 (.int .i64 7), .iface 62 (.int .i64 8), .iface 62 (.int .i64 9), .iface 62 (.int .i64 10), .iface 62 (.int .i64 11), .iface 62 (.int .i64 12), .iface 62 (.int .i64 13)]
theorem errs_at {z : Int} (h : 0 ≤ z ∧ z < 13) : 0 + z.toNat * 1 < 13 ∧ cellsOf #[.iface 62 (.int .i64 1), .iface 62 (.int .i64 2), .iface 62 (.int .i64 3), .iface 62 (.int .i64 4), .iface 62 (.int .i64 5), .iface 62 (.int .i64 6), .iface 62 (.int .i64 7), .iface 62 (.int .i64 8), .iface 62 (.int .i64 9), .iface 62 (.int .i64 10), .iface 62 (.int .i64 11), .iface 62 (.int .i64 12), .iface 62 (.int .i64 13)] (0 + z.toNat * 1) = .iface 62 (.int .i64 (z + 1)) := by
  refine ⟨by omega, ?_⟩
  have : z = 0 ∨ z = 1 ∨ z = 2 ∨ z = 3 ∨ z = 4 ∨ z = 5 ∨ z = 6 ∨ z = 7 ∨ z = 8 ∨ z = 9 ∨ z = 10 ∨ z = 11 ∨ z = 12 := by omega
  rcases this with rfl | rfl | rfl | rfl | rfl | rfl | rfl | rfl | rfl | rfl | rfl | rfl | rfl <;> rfl
set_option maxRecDepth 10000 in
set_option maxHeartbeats 2000000 in
theorem names_any  : Spec Tryd.prog 5 []
    []
    (fun v H1 => v = .bool true ∧ H1 = []) := by
  refine Spec.intro Tryd.func5 rfl rfl ?_
  intro W
  refine XC.seq ?_
  refine XC.region ?_
  refine XO.v (V.assign rfl) rfl ?_
  refine XO.nil ?_
  refine XE.next ?_
  refine XC.keep [] (Sub.nil _) ?_
  refine XC.seq ?_
  refine XC.region ?_
  refine XO.buildRow (e := 3) (vs := #[(0, .int .i64 64), (1, .int .i64 10), (2, .int .i64 6), (3, .int .i64 4), (4, .int .i64 20), (5, .int .i64 1000), (6, .int .i64 100), (7, .int .i64 2000), (8, .int .i64 1048576), (9, .int .i64 7), (10, .int .i64 64), (11, .int .i64 8), (12, .int .i64 16), (13, .int .i64 40), (14, .int .i64 4), (15, .int .i64 8), (16, .int .i64 60), (17, .int .i64 40), (18, .int .i64 8), (19, .int .i64 6), (20, .int .i64 8), (21, .int .i64 12), (22, .int .i64 24), (23, .int .i64 6), (24, .int .i64 8), (25, .int .i64 120), (26, .int .i64 200)]) (A := #[.int .i64 64, .int .i64 10, .int .i64 6, .int .i64 4, .int .i64 20, .int .i64 1000, .int .i64 100, .int .i64 2000, .int .i64 1048576, .int .i64 7, .int .i64 64, .int .i64 8, .int .i64 16, .int .i64 40, .int .i64 4, .int .i64 8, .int .i64 60, .int .i64 40, .int .i64 8, .int .i64 6, .int .i64 8, .int .i64 12, .int .i64 24, .int .i64 6, .int .i64 8, .int .i64 120, .int .i64 200]) (sz := 1) rfl (fun _ => by kernel_rfl) rfl (by omega) rfl ?_
  intro b1
  refine XO.v (V.assign rfl) rfl ?_
  refine XO.nil ?_
  refine XE.next ?_
  refine XC.keep [(1, _)] (Sub.cons rfl (Sub.nil _)) ?_
  refine XC.seq ?_
  refine XC.region ?_
  refine XO.buildRow (e := 3) (vs := #[(0, .int .i64 64), (1, .int .i64 10), (2, .int .i64 6), (3, .int .i64 4), (4, .int .i64 20), (5, .int .i64 1000), (6, .int .i64 100), (7, .int .i64 2000), (8, .int .i64 1048576), (9, .int .i64 7), (10, .int .i64 64), (11, .int .i64 8), (12, .int .i64 16), (13, .int .i64 40), (14, .int .i64 4), (15, .int .i64 8), (16, .int .i64 60), (17, .int .i64 40), (18, .int .i64 8), (19, .int .i64 6), (20, .int .i64 8), (21, .int .i64 12), (22, .int .i64 24), (23, .int .i64 6), (24, .int .i64 8), (25, .int .i64 120), (26, .int .i64 200)]) (A := #[.int .i64 64, .int .i64 10, .int .i64 6, .int .i64 4, .int .i64 20, .int .i64 1000, .int .i64 100, .int .i64 2000, .int .i64 1048576, .int .i64 7, .int .i64 64, .int .i64 8, .int .i64 16, .int .i64 40, .int .i64 4, .int .i64 8, .int .i64 60, .int .i64 40, .int .i64 8, .int .i64 6, .int .i64 8, .int .i64 12, .int .i64 24, .int .i64 6, .int .i64 8, .int .i64 120, .int .i64 200]) (sz := 1) rfl (fun _ => by kernel_rfl) rfl (by omega) rfl ?_
  intro b2
  refine XO.v (V.assign rfl) rfl ?_
  refine XO.nil ?_
  refine XE.next ?_
  refine XC.keep [(1, _), (2, _)] (Sub.cons rfl (Sub.cons rfl (Sub.nil _))) ?_
  refine XC.seq ?_
  refine XC.region ?_
  refine XO.v (V.move rfl) rfl ?_
  refine XO.buildSlice (e := 3) (vs := #[(0, .int .i64 1), (1, .int .i64 2), (2, .int .i64 1), (3, .int .i64 2), (4, .int .i64 3), (5, .int .i64 0), (6, .int .i64 1), (7, .int .i64 2), (8, .int .i64 1), (9, .int .i64 2), (10, .int .i64 3)]) (A := #[.int .i64 1, .int .i64 2, .int .i64 1, .int .i64 2, .int .i64 3, .int .i64 0, .int .i64 1, .int .i64 2, .int .i64 1, .int .i64 2, .int .i64 3]) rfl (fun _ => by kernel_rfl) rfl rfl ?_
  intro b3
  refine XO.append (e := 3) rfl rfl Tryd.underlying61 rt_3_1 (.there (.there .here)) .here rfl rfl (by omega) (by omega) rfl ?_
  intro p1 c1
  refine XO.v (V.assign rfl) rfl ?_
  refine XO.nil ?_
  refine XE.next ?_
  refine XC.keep [(1, _), (2, _)] (Sub.cons rfl (Sub.cons rfl (Sub.nil _))) ?_
  refine XC.seq ?_
  refine XC.region ?_
  refine XO.v (V.move rfl) rfl ?_
  refine XO.buildSlice (e := 3) (vs := #[(0, .int .i64 1), (1, .int .i64 2), (2, .int .i64 1), (3, .int .i64 2), (4, .int .i64 3), (5, .int .i64 0), (6, .int .i64 1), (7, .int .i64 2), (8, .int .i64 1), (9, .int .i64 2), (10, .int .i64 3)]) (A := #[.int .i64 1, .int .i64 2, .int .i64 1, .int .i64 2, .int .i64 3, .int .i64 0, .int .i64 1, .int .i64 2, .int .i64 1, .int .i64 2, .int .i64 3]) rfl (fun _ => by kernel_rfl) rfl rfl ?_
  intro b4
  refine XO.append (e := 3) rfl rfl Tryd.underlying61 rt_3_1 (.there (.there (.there .here))) .here rfl rfl (by omega) (by omega) rfl ?_
  intro p2 c2
  refine XO.v (V.assign rfl) rfl ?_
  refine XO.nil ?_
  refine XE.next ?_
  refine XC.keep [(1, _), (2, _)] (Sub.cons rfl (Sub.cons rfl (Sub.nil _))) ?_
  refine XC.seq ?_
  refine XC.region ?_
  refine XO.v (V.makeIface rfl Tryd.underlying62 (by simp)) rfl ?_
  refine XO.v (V.makeIface rfl Tryd.underlying62 (by simp)) rfl ?_
  refine XO.v (V.makeIface rfl Tryd.underlying62 (by simp)) rfl ?_
  refine XO.v (V.makeIface rfl Tryd.underlying62 (by simp)) rfl ?_
  refine XO.v (V.makeIface rfl Tryd.underlying62 (by simp)) rfl ?_
  refine XO.v (V.makeIface rfl Tryd.underlying62 (by simp)) rfl ?_
  refine XO.v (V.makeIface rfl Tryd.underlying62 (by simp)) rfl ?_
  refine XO.v (V.makeIface rfl Tryd.underlying62 (by simp)) rfl ?_
  refine XO.v (V.makeIface rfl Tryd.underlying62 (by simp)) rfl ?_
  refine XO.v (V.makeIface rfl Tryd.underlying62 (by simp)) rfl ?_
  refine XO.v (V.makeIface rfl Tryd.underlying62 (by simp)) rfl ?_
  refine XO.v (V.makeIface rfl Tryd.underlying62 (by simp)) rfl ?_
  refine XO.v (V.makeIface rfl Tryd.underlying62 (by simp)) rfl ?_
  refine XO.buildSlice (e := 39) (vs := #[(0, .iface 62 (.int .i64 1)), (1, .iface 62 (.int .i64 2)), (2, .iface 62 (.int .i64 3)), (3, .iface 62 (.int .i64 4)), (4, .iface 62 (.int .i64 5)), (5, .iface 62 (.int .i64 6)), (6, .iface 62 (.int .i64 7)), (7, .iface 62 (.int .i64 8)), (8, .iface 62 (.int .i64 9)), (9, .iface 62 (.int .i64 10)), (10, .iface 62 (.int .i64 11)), (11, .iface 62 (.int .i64 12)), (12, .iface 62 (.int .i64 13))]) (A := #[.iface 62 (.int .i64 1), .iface 62 (.int .i64 2), .iface 62 (.int .i64 3), .iface 62 (.int .i64 4), .iface 62 (.int .i64 5), .iface 62 (.int .i64 6), .iface 62 (.int .i64 7), .iface 62 (.int .i64 8), .iface 62 (.int .i64 9), .iface 62 (.int .i64 10), .iface 62 (.int .i64 11), .iface 62 (.int .i64 12), .iface 62 (.int .i64 13)]) rfl (fun _ => by kernel_rfl) rfl rfl ?_
  intro b5
  refine XO.v (V.assign rfl) rfl ?_
  refine XO.nil ?_
  refine XE.next ?_
  refine XC.keep [(1, _), (2, _), (3, _)] (Sub.cons rfl (Sub.cons rfl (Sub.cons rfl (Sub.nil _)))) ?_
  refine XC.seq ?_
  refine XC.seq ?_
  refine XC.region ?_
  refine XO.v (V.assign rfl) rfl ?_
  refine XO.nil ?_
  refine XE.next ?_
  refine XC.keep [(1, _), (2, _), (3, _), (4, _)] (Sub.cons rfl (Sub.cons rfl (Sub.cons rfl (Sub.cons rfl (Sub.nil _))))) ?_
  refine XC.block ?_
  refine XC.loop (σ := Int) (fun k => (13 - k).toNat) (fun k => 0 ≤ k ∧ k ≤ 13) (fun k => [(4, .int .i64 k), (1, .slice p1 (27 + 11) c1), (2, .slice p2 (27 + 11) c2), (3, .slice (some ⟨b5, 0, none⟩) 13 13)]) (fun k => XM W (foot []) [irow p1 c1 3 [64, 10, 6, 4, 20, 1000, 100, 2000, 1048576, 7, 64, 8, 16, 40, 4, 8, 60, 40, 8, 6, 8, 12, 24, 6, 8, 120, 200, 1, 2, 1, 2, 3, 0, 1, 2, 1, 2, 3], irow p2 c2 3 [64, 10, 6, 4, 20, 1000, 100, 2000, 1048576, 7, 64, 8, 16, 40, 4, 8, 60, 40, 8, 6, 8, 12, 24, 6, 8, 120, 200, 1, 2, 1, 2, 3, 0, 1, 2, 1, 2, 3], .cells b5 0 13 (cellsOf #[.iface 62 (.int .i64 1), .iface 62 (.int .i64 2), .iface 62 (.int .i64 3), .iface 62 (.int .i64 4), .iface 62 (.int .i64 5), .iface 62 (.int .i64 6), .iface 62 (.int .i64 7), .iface 62 (.int .i64 8), .iface 62 (.int .i64 9), .iface 62 (.int .i64 10), .iface 62 (.int .i64 11), .iface 62 (.int .i64 12), .iface 62 (.int .i64 13)])]) (0) ?_ (Sub.cons rfl (Sub.cons rfl (Sub.cons rfl (Sub.cons rfl (Sub.nil _))))) (fun _ hw => XM.pick (.cons (.there (.there (.there .here))) (.cons (.there .here) (.cons .here .nil))) hw) ?_
  · skip
    omega
  intro k hk
  refine XC.seq ?_
  refine XC.seq ?_
  refine XC.region ?_
  refine XO.v (V.move rfl) rfl ?_
  refine XO.v (V.move rfl) rfl ?_
  refine XO.v (V.lenSl rfl Tryd.underlying63) rfl ?_
  refine XO.v (V.cmp rfl rfl rfl) rfl ?_
  refine XO.nil ?_
  refine XE.next ?_
  refine XC.keep [(1, _), (2, _), (3, _), (4, _), (30, _)] (Sub.cons rfl (Sub.cons rfl (Sub.cons rfl (Sub.cons rfl (Sub.cons rfl (Sub.nil _)))))) ?_
  refine XC.condP rfl (fun h10 => ?_) (fun h10 => ?_)
  · skip
    refine XC.skip ?_
    refine XE.next ?_
    refine XC.keep [(1, _), (2, _), (3, _), (4, _)] (Sub.cons rfl (Sub.cons rfl (Sub.cons rfl (Sub.cons rfl (Sub.nil _))))) ?_
    refine XC.seq ?_
    refine XC.block ?_
    refine XC.seq ?_
    refine XC.region ?_
    refine XO.v (V.move rfl) rfl ?_
    refine XO.v (V.move rfl) rfl ?_
    refine XO.v (V.indexSl rfl rfl sl_63 (by omega)) rfl ?_
    refine XO.v (V.load rfl (inXM (.there (.there .here))) (errs_at (by omega)) sc_39) rfl ?_
    refine XO.v (V.move rfl) rfl ?_
    refine XO.v (V.add rfl rfl _ (IntWalk.i64_in _ (by omega))) rfl ?_
    refine XO.call rfl (same_err _ _ (by omega)) .nil cl_9 rfl ?_
    rintro _ _ ⟨rfl, rfl⟩
    refine XO.v (V.notP rfl) rfl ?_
    refine XO.nil ?_
    refine XE.next ?_
    refine XC.keep [(1, _), (2, _), (3, _), (4, _), (40, _)] (Sub.cons rfl (Sub.cons rfl (Sub.cons rfl (Sub.cons rfl (Sub.cons rfl (Sub.nil _)))))) ?_
    refine XC.condFP rfl (by simp) ?_
    refine XC.skip ?_
    refine XE.blockNormal ?_
    refine XE.next ?_
    refine XC.keep [(1, _), (2, _), (3, _), (4, _)] (Sub.cons rfl (Sub.cons rfl (Sub.cons rfl (Sub.cons rfl (Sub.nil _))))) ?_
    refine XC.region ?_
    refine XO.v (V.move rfl) rfl ?_
    refine XO.v (V.add rfl rfl _ (IntWalk.i64_in _ (by omega))) rfl ?_
    refine XO.v (V.assign rfl) rfl ?_
    refine XO.nil ?_
    refine XE.again (k + 1) ?_ ?_ (Sub.cons rfl (Sub.cons rfl (Sub.cons rfl (Sub.cons rfl (Sub.nil _))))) (fun _ hw => XM.pick (.cons .here (.cons .here (.cons .here .nil))) hw)
    · skip
      (first | omega | (simp; done) | (simp; omega))
    · skip
      (first | omega | (simp; done) | (simp; omega))
  · skip
    refine XC.exit ?_
    refine XE.thenExit ?_
    refine XE.thenExit ?_
    refine XE.blockExit ?_
    refine XE.next ?_
    refine XC.keep [(1, _), (2, _)] (Sub.cons rfl (Sub.cons rfl (Sub.nil _))) ?_
    refine XC.seq ?_
    refine XC.region ?_
    refine XO.v (V.move rfl) rfl ?_
    refine XO.v (V.move rfl) rfl ?_
    refine XO.call rfl (same_numbers p1 p2 c1 c2 [64, 10, 6, 4, 20, 1000, 100, 2000, 1048576, 7, 64, 8, 16, 40, 4, 8, 60, 40, 8, 6, 8, 12, 24, 6, 8, 120, 200, 1, 2, 1, 2, 3, 0, 1, 2, 1, 2, 3] [64, 10, 6, 4, 20, 1000, 100, 2000, 1048576, 7, 64, 8, 16, 40, 4, 8, 60, 40, 8, 6, 8, 12, 24, 6, 8, 120, 200, 1, 2, 1, 2, 3, 0, 1, 2, 1, 2, 3] (by decide)) (.cons .here (.cons .here .nil)) cl_30 rfl ?_
    rintro _ _ ⟨rfl, rfl⟩
    refine XO.v (V.move rfl) rfl ?_
    refine XO.splitT (d := 44) rfl (by simp) ?_
    refine XO.guardRun rfl rfl rfl ?_
    refine XO.call rfl (n_error) .nil cl_31 rfl ?_
    rintro _ _ ⟨rfl, rfl⟩
    refine XO.guardRun rfl rfl rfl ?_
    refine XO.v (V.strCmp rfl rfl rfl) rfl ?_
    refine XO.v (V.pick rfl rfl rfl rfl) rfl ?_
    refine XO.v (V.assign rfl) rfl ?_
    refine XO.nil ?_
    refine XE.next ?_
    refine XC.keep [(0, _)] (Sub.cons rfl (Sub.nil _)) ?_
    refine XC.ret ?_
    refine XE.ret1 rfl rfl (post_of .nil rfl ?_)
    exact ⟨congrArg Value.bool (by simp), rfl⟩
end Go.X
