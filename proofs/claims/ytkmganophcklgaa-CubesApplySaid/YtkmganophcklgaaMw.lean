/- Contracts of Limit, Lerp, Smooth, and those of the reference. Conditions: none. -/
import Derived.Test.YtkmganophcklgaaNw
namespace Go.Proofs.Ytkmganophcklgaa
open Go.RowKit
open Fl
set_option maxHeartbeats 400000 in
theorem thenan_any (w : World) : Calls Try.prog 85 #[] w fun e w' => e = .returned (.float .f32 (qn .f32)) ∧ w = w' := by
  go_enter Try.func85, Try.ntmps85
  go_wp2
  go_ret
  exact ⟨rfl, rfl⟩
set_option maxHeartbeats 400000 in
theorem fix_any (b : Nat) (w : World) : Calls Try.prog 31 #[.float .f32 b] w fun e w' => e = .returned (.float .f32 (cl .f32 b)) ∧ w = w' := by
  rw [cl_eq]
  go_enter Try.func31, Try.ntmps31
  go_wp2_with (go_at_call 85; refine (thenan_any _).mono ?_; rintro e w' ⟨rfl, rfl⟩)
  all_goals
    go_ret
    exact ⟨by simp [*, qn], rfl⟩

def limP (t a b : Nat) : Nat := if FloatKind.f32.format.order t a == some .lt then cl .f32 a else if FloatKind.f32.format.order t b == some .gt then cl .f32 b else cl .f32 t
set_option maxHeartbeats 400000 in
theorem limit_any (t a b : Nat) (w : World) : Calls Try.prog 93 #[.float .f32 t, .float .f32 a, .float .f32 b] w fun e w' => e = .returned (.float .f32 (limP t a b)) ∧ w = w' := by
  unfold limP
  cases h1 : FloatKind.f32.format.order t a == some .lt <;> cases h2 : FloatKind.f32.format.order t b == some .gt
  all_goals
    go_enter Try.func93, Try.ntmps93
    go_wp2_with (go_at_call 109; refine (clean_any _ _).mono ?_; rintro e w' ⟨rfl, rfl⟩)
    go_ret
    exact ⟨by simp, rfl⟩
set_option maxHeartbeats 400000 in
theorem limitof_any (t a b : Nat) (w : World) : Calls Try.prog 95 #[.float .f32 t, .float .f32 a, .float .f32 b] w fun e w' => e = .returned (.float .f32 (limP t a b)) ∧ w = w' := by
  unfold limP
  cases h1 : FloatKind.f32.format.order t a == some .lt <;> cases h2 : FloatKind.f32.format.order t b == some .gt
  all_goals
    go_enter Try.func95, Try.ntmps95
    go_wp2_with (go_at_call 31; refine (fix_any _ _).mono ?_; rintro e w' ⟨rfl, rfl⟩)
    go_ret
    exact ⟨by simp, rfl⟩

def lerpP (a b t : Nat) : Nat := if FloatKind.f32.format.order t 0 == some .eq then cl .f32 a else if FloatKind.f32.format.order t 1065353216 == some .eq then cl .f32 b else fC .add .f32 a (fC .mul .f32 (fC .sub .f32 b a) t)
set_option maxHeartbeats 400000 in
theorem lerp_any (a b t : Nat) (w : World) : Calls Try.prog 107 #[.float .f32 a, .float .f32 b, .float .f32 t] w fun e w' => e = .returned (.float .f32 (lerpP a b t)) ∧ ∃ n, w' = w.drewN n := by
  unfold lerpP
  cases h1 : FloatKind.f32.format.order t 0 == some .eq <;> cases h2 : FloatKind.f32.format.order t 1065353216 == some .eq
  all_goals
    go_enter Try.func107, Try.ntmps107
    go_wp2_with (go_at_call 109; refine (clean_any _ _).mono ?_; rintro e w' ⟨rfl, rfl⟩)
    go_ret
    first
      | exact ⟨by simp, 0, rfl⟩
      | exact ⟨by simp [cl_fV', fC_fV_l, fC_fV_r], _, rfl⟩
set_option maxHeartbeats 400000 in
theorem lerpof_any (a b t : Nat) (w : World) : Calls Try.prog 63 #[.float .f32 a, .float .f32 b, .float .f32 t] w fun e w' => e = .returned (.float .f32 (lerpP a b t)) ∧ ∃ n, w' = w.drewN n := by
  unfold lerpP
  cases h1 : FloatKind.f32.format.order t 0 == some .eq <;> cases h2 : FloatKind.f32.format.order t 1065353216 == some .eq
  all_goals
    go_enter Try.func63, Try.ntmps63
    go_wp2_with (go_at_call 31; refine (fix_any _ _).mono ?_; rintro e w' ⟨rfl, rfl⟩)
    go_ret
    first
      | exact ⟨by simp, 0, rfl⟩
      | exact ⟨by simp [cl_fV', fC_fV_l, fC_fV_r], _, rfl⟩

def smoothP (t : Nat) : Nat :=
  fC .mul .f32 (fC .mul .f32 (limP t 0 1065353216) (limP t 0 1065353216)) (fC .sub .f32 1077936128 (fC .mul .f32 1073741824 (limP t 0 1065353216)))
end Go.Proofs.Ytkmganophcklgaa
