import Derived.Test.YtfpdkhncfkefhaaFPL
import Derived.Test.YtfpdkhncfkefhaaLM
namespace Go.X
open Go

theorem act_box (x : ActV) : ∀ i, i < 8 → cellsOf #[.string x.kind, .int .i64 x.a, .int .i64 x.b, .int .i64 x.c, .int .u64 x.key, .bool x.on, .string x.s, .string x.t] i = encAct x i := fun i hi => match i, hi with
  | 0, _ => rfl
  | 1, _ => rfl
  | 2, _ => rfl
  | 3, _ => rfl
  | 4, _ => rfl
  | 5, _ => rfl
  | 6, _ => rfl
  | 7, _ => rfl
  | k + 8, h => absurd h (by omega)
def dR : Int → Nat := fset (fun _ => 0) (10 + 4) (0 + 1)
def R1 : SF := SF.init.addT 4 0 10
def R2 : SF := R1.wake dR 4 true
theorem rA : SF.init.addTE 4 0 10 = 0 := by decide +kernel
theorem rB : R1.tkE 4 = 0 := by decide +kernel
theorem rC : (R2.tick dR).1 = 4 := by decide +kernel
theorem rD : (R2.tick dR).2.ran (10 + 4) = 1 := by decide +kernel
theorem rE : (R2.tick dR).2.tkE 4 = 0 := by decide +kernel
theorem rF : (R2.tick dR).2.now = 1 := by decide +kernel
theorem R1_ok : R1.Ok dR 1 0 := by
  have e : R1 = SF.init.newU (10 + 4) 0 10 true := by unfold R1 SF.addT; rw [rA]; rfl
  rw [e]
  exact SF.init_ok.add (by omega) ⟨by omega, by omega⟩ (by decide +kernel) ⟨by omega, by omega, by decide +kernel⟩ (by omega)
theorem R2_ok : R2.Ok dR 1 0 := R1_ok.wake 4 true

end Go.X
