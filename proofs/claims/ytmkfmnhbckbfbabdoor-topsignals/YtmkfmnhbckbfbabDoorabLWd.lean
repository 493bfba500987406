import Derived.Test.YtmkfmnhbckbfbabDoorLM
import Derived.Test.YtmkfmnhbckbfbabDoorabSW
namespace Go.X
open Go Go.Proofs

set_option maxRecDepth 10000 in
set_option maxHeartbeats 400000 in
theorem light_any (p : Option Addr) (l c : Nat) (m : Int) : Spec Tryd.prog 7 [.slice p l c, .int .i64 m]
    []
    (fun v H1 => v = .bool (decide ((l : Int) ≤ m)) ∧ H1 = []) := by
  refine Spec.intro Tryd.func7 rfl rfl ?_
  intro W
  refine XC.seq ?_
  refine XC.region ?_
  refine XO.v (V.assign rfl) rfl ?_
  refine XO.nil ?_
  refine XE.next ?_
  refine XC.keep [(0, _), (1, _)] (Sub.cons rfl (Sub.cons rfl (Sub.nil _))) ?_
  refine XC.seq ?_
  refine XC.region ?_
  refine XO.v (V.move rfl) rfl ?_
  refine XO.v (V.lenSl rfl Tryd.underlying22) rfl ?_
  refine XO.v (V.move rfl) rfl ?_
  refine XO.v (V.cmp rfl rfl rfl) rfl ?_
  refine XO.v (V.assign rfl) rfl ?_
  refine XO.nil ?_
  refine XE.next ?_
  refine XC.keep [(4, _)] (Sub.cons rfl (Sub.nil _)) ?_
  refine XC.ret ?_
  refine XE.ret1 rfl rfl (post_of .nil rfl ?_)
  exact ⟨rfl, rfl⟩
end Go.X
