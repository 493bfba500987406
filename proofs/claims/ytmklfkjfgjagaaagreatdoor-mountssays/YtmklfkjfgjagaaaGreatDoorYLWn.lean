import Derived.Test.YtmklfkjfgjagaaaGreatDoorXShort
import Derived.Test.YtmklfkjfgjagaaaGreatDoorNTM
import Derived.Test.YtmklfkjfgjagaaaGreatDoorYNR5
namespace Go.X
open Go Go.Proofs
theorem fo_50_6 : fieldOff Tryz.prog 50 6 = some 6 := by kernel_rfl
theorem fo_50_7 : fieldOff Tryz.prog 50 7 = some 7 := by kernel_rfl
theorem sl_22 : sliceOf Tryz.prog 22 = some (50, 8) := by kernel_rfl
set_option maxRecDepth 10000 in
set_option maxHeartbeats 400000 in
theorem light_any (p : Option Addr) (l c : Nat) (m : Int) : Spec Tryz.prog 5 [.slice p l c, .int .i64 m]
    []
    (fun v H1 => v = .bool (decide ((l : Int) ≤ m)) ∧ H1 = []) := by
 refine Spec.intro Tryz.func5 rfl rfl ?_
 intro W
 refine XC.sr ?_
 refine XO.as rfl rfl ?_
 refine XO.nk [(0, _), (1, _)] (S2 rfl rfl) ?_
 refine XC.sr ?_
 refine XO.mv rfl rfl ?_
 refine XO.v (V.lenSl rfl Tryz.underlying22) rfl ?_
 refine XO.mv rfl rfl ?_
 refine XO.v (V.cmp rfl rfl rfl) rfl ?_
 refine XO.as rfl rfl ?_
 refine XO.nk [(4, _)] (S1 rfl) ?_
 refine XC.ret ?_
 refine XE.ret1 rfl rfl (post_of .nil rfl ?_)
 exact ⟨rfl, rfl⟩
set_option maxRecDepth 10000 in
set_option maxHeartbeats 400000 in
theorem same_nil (f : Int) : Spec Tryz.prog 9 [.nilIface, .int .i64 f]
    []
    (fun v H1 => v = .bool (decide (0 = f)) ∧ H1 = []) := by
 refine Spec.intro Tryz.func9 rfl rfl ?_
 intro W
 refine XC.sr ?_
 refine XO.as rfl rfl ?_
 refine XO.nk [(0, _), (1, _)] (S2 rfl rfl) ?_
 refine XC.seq ?_
 refine XC.sr ?_
 refine XO.mv rfl rfl ?_
 refine XO.v (V.nilNil rfl Tryz.underlying37 rfl) rfl ?_
 refine XO.nk [(0, _), (1, _), (8, _)] (S3 rfl rfl rfl) ?_
 refine XC.condT rfl rfl ?_
 refine XC.sr ?_
 refine XO.mv rfl rfl ?_
 refine XO.v (V.cmp rfl rfl rfl) rfl ?_
 refine XO.as rfl rfl ?_
 refine XO.nk [(4, _)] (S1 rfl) ?_
 refine XC.ret ?_
 refine XE.thenRet ?_
 refine XE.ret1 rfl rfl (post_of .nil rfl ?_)
 exact ⟨congrArg Value.bool (by simp; omega), rfl⟩
set_option maxRecDepth 10000 in
set_option maxHeartbeats 400000 in
theorem same_err (e f : Int) (he : 0 < e) : Spec Tryz.prog 9 [.iface 76 (.int .i64 e), .int .i64 f]
    []
    (fun v H1 => v = .bool (decide (e = f)) ∧ H1 = []) := by
 refine Spec.intro Tryz.func9 rfl rfl ?_
 intro W
 refine XC.sr ?_
 refine XO.as rfl rfl ?_
 refine XO.nk [(0, _), (1, _)] (S2 rfl rfl) ?_
 refine XC.seq ?_
 refine XC.sr ?_
 refine XO.mv rfl rfl ?_
 refine XO.v (V.ifaceNil rfl Tryz.underlying37 rfl) rfl ?_
 refine XO.nk [(0, _), (1, _), (8, _)] (S3 rfl rfl rfl) ?_
 refine XC.condF rfl rfl ?_
 refine XC.skip ?_
 refine XE.next ?_
 refine XC.keep [(0, _), (1, _)] (S2 rfl rfl) ?_
 refine XC.sr ?_
 refine XO.mv rfl rfl ?_
 refine XO.v (V.assertOk rfl Tryz.underlying76 (by simp)) rfl ?_
 refine XO.mv rfl rfl ?_
 refine XO.v (V.extract rfl rfl) rfl ?_
 refine XO.v (V.extract rfl rfl) rfl ?_
 refine XO.as rfl rfl ?_
 refine XO.as rfl rfl ?_
 refine XO.nk [(1, _), (5, _), (6, _)] (S3 rfl rfl rfl) ?_
 refine XC.sr ?_
 refine XO.mv rfl rfl ?_
 refine XO.mv rfl rfl ?_
 refine XO.guardRun rfl rfl rfl ?_
 refine XO.mv rfl rfl ?_
 refine XO.guardRun rfl rfl rfl ?_
 refine XO.v (V.cmp rfl rfl rfl) rfl ?_
 refine XO.v (V.pick rfl rfl rfl rfl) rfl ?_
 refine XO.mv rfl rfl ?_
 refine XO.splitP (d := 21) rfl (fun h1 => ?_) (fun h1 => ?_)
 ·
  refine XO.guardRun rfl rfl rfl ?_
  refine XO.mv rfl rfl ?_
  refine XO.guardRun rfl rfl rfl ?_
  refine XO.mv rfl rfl ?_
  refine XO.guardRun rfl rfl rfl ?_
  refine XO.v (V.cmp rfl rfl rfl) rfl ?_
  refine XO.v (V.pick rfl rfl rfl rfl) rfl ?_
  refine XO.as rfl rfl ?_
  refine XO.nk [(4, _)] (S1 rfl) ?_
  refine XC.ret ?_
  refine XE.ret1 rfl rfl (post_of .nil rfl ?_)
  first | exact ⟨rfl, rfl⟩ | exact ⟨by rw [show decide (e = f) = false from by simp; omega]; rfl, rfl⟩
 ·
  refine XO.guardSkip rfl rfl rfl rfl rfl ?_
  refine XO.guardSkip rfl rfl rfl rfl rfl ?_
  refine XO.guardSkip rfl rfl rfl rfl rfl ?_
  refine XO.v (V.pick rfl rfl rfl rfl) rfl ?_
  refine XO.as rfl rfl ?_
  refine XO.nk [(4, _)] (S1 rfl) ?_
  refine XC.ret ?_
  refine XE.ret1 rfl rfl (post_of .nil rfl ?_)
  first | exact ⟨rfl, rfl⟩ | exact ⟨by rw [show decide (e = f) = false from by simp; omega]; rfl, rfl⟩
theorem same_any (e f : Int) (he : 0 ≤ e) : Spec Tryz.prog 9 [errv 76 e, .int .i64 f] [] (fun v H1 => v = .bool (decide (e = f)) ∧ H1 = []) := by
  by_cases h : e = 0
  · subst h; exact same_nil f
  · rw [errv_pos _ h]; exact same_err e f (by omega)
set_option maxRecDepth 10000 in
set_option maxHeartbeats 400000 in
theorem texts_any (bl ol len cap : Nat) (hlen : len ≤ cap) (A : Int → ActV) (hA : ∀ z : Int, 0 ≤ z → z < len → (A z).ok) (hL : len ≤ 1000000) (m : Int) : Spec Tryz.prog 6 [.slice (some ⟨bl, ol, none⟩) len cap, .int .i64 m]
    [.ro bl ol (8 * len) (encActs A)]
    (fun v H1 => (∃ b, v = .bool b ∧ (b = true → ∀ z : Int, 0 ≤ z → z < len → ((A z).s.size : Int) ≤ m ∧ ((A z).t.size : Int) ≤ m)) ∧ H1 = []) := by
  refine Spec.intro Tryz.func6 rfl rfl ?_
  intro W
  refine XC.sr ?_
  refine XO.as rfl rfl ?_
  refine XO.nk [(0, _), (1, _)] (S2 rfl rfl) ?_
  refine XC.seq ?_
  refine XC.sr ?_
  refine XO.as rfl rfl ?_
  refine XO.nk [(0, _), (1, _), (5, _)] (S3 rfl rfl rfl) ?_
  refine XC.block ?_
  refine XC.loop (σ := Int) (fun k => (len - k).toNat) (fun k => 0 ≤ k ∧ k ≤ len ∧ ∀ z : Int, 0 ≤ z → z < k → ((A z).s.size : Int) ≤ m ∧ ((A z).t.size : Int) ≤ m) (fun k => [(5, .int .i64 k), (0, .slice (some ⟨bl, ol, none⟩) len cap), (1, .int .i64 m)]) (fun k => XM W (foot [.ro bl ol (8 * len) (encActs A)]) [.ro bl ol (8 * len) (encActs A)]) (0) ?_ (S3 rfl rfl rfl) (fun _ hw => XM.pick .h1 hw) ?_
  · skip
    exact ⟨by omega, by omega, fun z h1 h2 => by omega⟩
  intro k hk
  obtain ⟨hk0, hk1, hkk⟩ := hk
  refine XC.seq ?_
  refine XC.sr ?_
  refine XO.mv rfl rfl ?_
  refine XO.mv rfl rfl ?_
  refine XO.v (V.lenSl rfl Tryz.underlying22) rfl ?_
  refine XO.v (V.cmp rfl rfl rfl) rfl ?_
  refine XO.nk [(0, _), (1, _), (5, _), (9, _)] (S4 rfl rfl rfl rfl) ?_
  refine XC.condP rfl (fun h1 => ?_) (fun h1 => ?_)
  · skip
    refine XC.skip ?_
    refine XE.next ?_
    refine XC.keep [(0, _), (1, _), (5, _)] (S3 rfl rfl rfl) ?_
    refine XC.seq ?_
    refine XC.block ?_
    refine XC.sr ?_
    refine XO.mv rfl rfl ?_
    refine XO.mv rfl rfl ?_
    refine XO.v (V.indexSl rfl rfl sl_22 (by omega)) rfl ?_
    refine XO.v (V.fieldAddr rfl fo_50_6) rfl ?_
    refine XO.v (V.loadRo rfl (inXM .here) (acts_ld_S A len _ (by omega)) sc_9) rfl ?_
    refine XO.v (V.lenStr rfl Tryz.underlying9) rfl ?_
    refine XO.mv rfl rfl ?_
    refine XO.v (V.cmp rfl rfl rfl) rfl ?_
    refine XO.mv rfl rfl ?_
    refine XO.splitP (d := 20) rfl (fun h2 => ?_) (fun h2 => ?_)
    · skip
      refine XO.guardSkip rfl rfl rfl rfl rfl ?_
      refine XO.guardSkip rfl rfl rfl rfl rfl ?_
      refine XO.guardSkip rfl rfl rfl rfl rfl ?_
      refine XO.guardSkip rfl rfl rfl rfl rfl ?_
      refine XO.guardSkip rfl rfl rfl rfl rfl ?_
      refine XO.guardSkip rfl rfl rfl rfl rfl ?_
      refine XO.guardSkip rfl rfl rfl rfl rfl ?_
      refine XO.guardSkip rfl rfl rfl rfl rfl ?_
      refine XO.v (V.pick rfl rfl rfl rfl) rfl ?_
      refine XO.nk [(0, _), (1, _), (5, _), (29, _)] (S4 rfl rfl rfl rfl) ?_
      refine XC.condT rfl rfl ?_
      refine XC.sr ?_
      refine XO.as rfl rfl ?_
      refine XO.nk [(4, _)] (S1 rfl) ?_
      refine XC.ret ?_
      refine XE.blockRet ?_
      refine XE.thenRet ?_
      refine XE.thenRet ?_
      refine XE.blockRet ?_
      refine XE.thenRet ?_
      refine XE.ret1 rfl rfl (post_of .nil rfl ?_)
      first
      | exact ⟨⟨false, rfl, fun q => by cases q⟩, rfl⟩
      | exact ⟨⟨true, rfl, fun _ z h1 h2 => hkk z h1 (by omega)⟩, rfl⟩
    · skip
      refine XO.guardRun rfl rfl rfl ?_
      refine XO.mv rfl rfl ?_
      refine XO.guardRun rfl rfl rfl ?_
      refine XO.mv rfl rfl ?_
      refine XO.guardRun rfl rfl rfl ?_
      refine XO.v (V.indexSl rfl rfl sl_22 (by omega)) rfl ?_
      refine XO.guardRun rfl rfl rfl ?_
      refine XO.v (V.fieldAddr rfl fo_50_7) rfl ?_
      refine XO.guardRun rfl rfl rfl ?_
      refine XO.v (V.loadRo rfl (inXM .here) (acts_ld_T A len _ (by omega)) sc_9) rfl ?_
      refine XO.guardRun rfl rfl rfl ?_
      refine XO.v (V.lenStr rfl Tryz.underlying9) rfl ?_
      refine XO.guardRun rfl rfl rfl ?_
      refine XO.mv rfl rfl ?_
      refine XO.guardRun rfl rfl rfl ?_
      refine XO.v (V.cmp rfl rfl rfl) rfl ?_
      refine XO.v (V.pick rfl rfl rfl rfl) rfl ?_
      refine XO.nk [(0, _), (1, _), (5, _), (29, _)] (S4 rfl rfl rfl rfl) ?_
      refine XC.condP rfl (fun h3 => ?_) (fun h3 => ?_)
      · skip
        refine XC.sr ?_
        refine XO.as rfl rfl ?_
        refine XO.nk [(4, _)] (S1 rfl) ?_
        refine XC.ret ?_
        refine XE.blockRet ?_
        refine XE.thenRet ?_
        refine XE.thenRet ?_
        refine XE.blockRet ?_
        refine XE.thenRet ?_
        refine XE.ret1 rfl rfl (post_of .nil rfl ?_)
        first
        | exact ⟨⟨false, rfl, fun q => by cases q⟩, rfl⟩
        | exact ⟨⟨true, rfl, fun _ z h1 h2 => hkk z h1 (by omega)⟩, rfl⟩
      · skip
        refine XC.skip ?_
        refine XE.blockNormal ?_
        refine XE.next ?_
        refine XC.keep [(0, _), (1, _), (5, _)] (S3 rfl rfl rfl) ?_
        refine XC.region ?_
        refine XO.mv rfl rfl ?_
        refine XO.v (V.add rfl rfl _ (IntWalk.i64_in _ (by omega))) rfl ?_
        refine XO.as rfl rfl ?_
        refine XO.nil ?_
        refine XE.again (k + 1) ?_ ?_ (S3 rfl rfl rfl) (fun _ hw => XM.pick .h1 hw)
        · skip
          (first | omega | (simp; done) | (simp; omega))
        · skip
          refine ⟨by omega, by omega, fun z h1 h2 => ?_⟩
          by_cases hz : z = k
          · subst hz; exact ⟨by omega, by omega⟩
          · exact hkk z h1 (by omega)
  · skip
    refine XC.exit ?_
    refine XE.thenExit ?_
    refine XE.thenExit ?_
    refine XE.blockExit ?_
    refine XE.next ?_
    refine XC.keep [] (Sub.nil _) ?_
    refine XC.sr ?_
    refine XO.as rfl rfl ?_
    refine XO.nk [(4, _)] (S1 rfl) ?_
    refine XC.ret ?_
    refine XE.ret1 rfl rfl (post_of .nil rfl ?_)
    first
    | exact ⟨⟨false, rfl, fun q => by cases q⟩, rfl⟩
    | exact ⟨⟨true, rfl, fun _ z h1 h2 => hkk z h1 (by omega)⟩, rfl⟩
set_option maxRecDepth 10000 in
set_option maxHeartbeats 400000 in
theorem texts_nil (p : Option Addr) (cap : Nat) (m : Int) : Spec Tryz.prog 6 [.slice p 0 cap, .int .i64 m]
    []
    (fun v H1 => v = .bool true ∧ H1 = []) := by
 refine Spec.intro Tryz.func6 rfl rfl ?_
 intro W
 refine XC.sr ?_
 refine XO.as rfl rfl ?_
 refine XO.nk [(0, _), (1, _)] (S2 rfl rfl) ?_
 refine XC.seq ?_
 refine XC.sr ?_
 refine XO.as rfl rfl ?_
 refine XO.nk [(0, _), (1, _), (5, _)] (S3 rfl rfl rfl) ?_
 refine XC.block ?_
 refine XC.loop (σ := Int) (fun k => 0) (fun k => 0 ≤ k) (fun k => [(5, .int .i64 k), (0, .slice p 0 cap), (1, .int .i64 m)]) (fun k => XM W (foot []) []) (0) ?_ (S3 rfl rfl rfl) (fun _ hw => XM.pick .nil hw) ?_
 ·
  omega
 intro k hk
 refine XC.seq ?_
 refine XC.sr ?_
 refine XO.mv rfl rfl ?_
 refine XO.mv rfl rfl ?_
 refine XO.v (V.lenSl rfl Tryz.underlying22) rfl ?_
 refine XO.v (V.cmp rfl rfl rfl) rfl ?_
 refine XO.nk [(0, _), (1, _), (5, _), (9, _)] (S4 rfl rfl rfl rfl) ?_
 refine XC.condFP rfl (by simp; omega) ?_
 refine XC.exit ?_
 refine XE.thenExit ?_
 refine XE.thenExit ?_
 refine XE.blockExit ?_
 refine XE.next ?_
 refine XC.keep [] (Sub.nil _) ?_
 refine XC.sr ?_
 refine XO.as rfl rfl ?_
 refine XO.nk [(4, _)] (S1 rfl) ?_
 refine XC.ret ?_
 refine XE.ret1 rfl rfl (post_of .nil rfl ?_)
 exact ⟨rfl, rfl⟩
end Go.X
