/- The walk of LevelsAsFrames. Conditions: none. -/
import Derived.Test.YtkmganophcklgaaLf
import Derived.Test.YtkmganophcklgaaFi
namespace Go.Proofs.Ytkmganophcklgaa
open Go.RowKit
open Fl
open BigFrame

def ErrPost (E : Int) (w : World) (e : Ending) (w' : World) : Prop := e = .returned (.tuple #[zeroFrame, .int .i64 E]) ∧ Kept None' w w'

/-! ### none -/
theorem reg_eql0 (w : World) : (binOp .eql 81 (.agg #[.int .i64 0, .int .i64 0, .int .i64 0, .int .i64 0]) (.agg #[.int .i64 0, .int .i64 0, .int .i64 0, .int .i64 0])).run Try.prog w = .ok (.bool true) w := by kernel_rfl
set_option maxHeartbeats 400000 in
theorem none_zero (w : World) : Calls Try.prog 53 #[zeroFrame] w fun e w' => e = .returned (.bool true) ∧ Kept None' w w' := by
  unfold zeroFrame
  have h := reg_eql0
  go_enter Try.func53, Try.ntmps53
  go_wp2
  go_ret
  exact ⟨rfl, (Kept.refl _ _).alloc _ _⟩
end Go.Proofs.Ytkmganophcklgaa
