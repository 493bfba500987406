import Derived.Test.YtpnddggohipdnaaDoorLM
import Derived.Test.YtpnddggohipdnaaDoorVR3
namespace Go.X
open Go Go.Proofs
set_option maxRecDepth 20000
set_option maxHeartbeats 4000000

theorem light_any (p : Option Addr) (l c : Nat) (m : Int) : Spec Tryd.prog 6 [.slice p l c, .int .i64 m]
 []
 (fun v H1 => v = .bool (decide ((l : Int) ≤ m)) ∧ H1 = []) := by
  refine Spec.go 9 [0, 1, 4] [] Tryd.func6 rfl rfl rfl ?_
  intro W
  refine XE.ret1 rfl rfl (post_of .nil rfl ?_)
  exact ⟨rfl, rfl⟩
theorem same_nil (f : Int) : Spec Tryd.prog 17 [.nilIface, .int .i64 f]
 []
 (fun v H1 => v = .bool (decide (0 = f)) ∧ H1 = []) := by
  refine Spec.go 26 [0, 1, 4, 8] [] Tryd.func17 rfl rfl rfl ?_
  intro W
  refine XE.ret1 rfl rfl (post_of .nil rfl ?_)
  exact ⟨congrArg Value.bool (by simp; omega), rfl⟩
theorem same_err (e f : Int) (he : 0 < e) : Spec Tryd.prog 17 [.iface 95 (.int .i64 e), .int .i64 f]
 []
 (fun v H1 => v = .bool (decide (e = f)) ∧ H1 = []) := by
  refine Spec.go 26 [0, 1, 4, 5, 6, 8] [] Tryd.func17 rfl rfl rfl ?_
  intro W
  refine XO.v (V.assertOk rfl Tryd.underlying95 (by simp)) rfl (gO ?_)
  refine sp 21 rfl ?_ ?_ <;> intro h1
  · skip
    refine XE.ret1 rfl rfl (post_of .nil rfl ?_)
    first | exact ⟨rfl, rfl⟩ | exact ⟨by rw [show decide (e = f) = false from by simp; omega]; rfl, rfl⟩
  · skip
    refine XE.ret1 rfl rfl (post_of .nil rfl ?_)
    first | exact ⟨rfl, rfl⟩ | exact ⟨by rw [show decide (e = f) = false from by simp; omega]; rfl, rfl⟩
theorem same_any (e f : Int) (he : 0 ≤ e) : Spec Tryd.prog 17 [errv 95 e, .int .i64 f] [] (fun v H1 => v = .bool (decide (e = f)) ∧ H1 = []) := by
  by_cases h : e = 0
  · subst h; exact same_nil f
  · rw [errv_pos _ h]; exact same_err e f (by omega)
end Go.X
