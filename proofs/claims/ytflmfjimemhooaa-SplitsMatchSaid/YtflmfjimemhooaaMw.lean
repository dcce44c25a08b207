/- Contracts of Limit, Lerp, Smooth, and those of the reference. Conditions: none. -/
import Derived.Test.YtflmfjimemhooaaNw
namespace Go.Proofs.Ytflmfjimemhooaa
open Go.RowKit
open Fl
set_option maxHeartbeats 400000 in
theorem thenan_any (w : World) : Calls Try.prog 67 #[] w fun e w' => e = .returned (.float .f32 (qn .f32)) ∧ w = w' := by
  go_enter Try.func67, Try.ntmps67
  go_wp2
  go_ret
  exact ⟨rfl, rfl⟩
set_option maxHeartbeats 400000 in
theorem fix_any (b : Nat) (w : World) : Calls Try.prog 40 #[.float .f32 b] w fun e w' => e = .returned (.float .f32 (cl .f32 b)) ∧ w = w' := by
  rw [cl_eq]
  go_enter Try.func40, Try.ntmps40
  go_wp2_with (go_at_call 67; refine (thenan_any _).mono ?_; rintro e w' ⟨rfl, rfl⟩)
  all_goals
    go_ret
    exact ⟨by simp [*, qn], rfl⟩

def limP (t a b : Nat) : Nat := if FloatKind.f32.format.order t a == some .lt then cl .f32 a else if FloatKind.f32.format.order t b == some .gt then cl .f32 b else cl .f32 t
def lerpP (a b t : Nat) : Nat := if FloatKind.f32.format.order t 0 == some .eq then cl .f32 a else if FloatKind.f32.format.order t 1065353216 == some .eq then cl .f32 b else fC .add .f32 a (fC .mul .f32 (fC .sub .f32 b a) t)
def smoothP (t : Nat) : Nat :=
  fC .mul .f32 (fC .mul .f32 (limP t 0 1065353216) (limP t 0 1065353216)) (fC .sub .f32 1077936128 (fC .mul .f32 1073741824 (limP t 0 1065353216)))
end Go.Proofs.Ytflmfjimemhooaa
