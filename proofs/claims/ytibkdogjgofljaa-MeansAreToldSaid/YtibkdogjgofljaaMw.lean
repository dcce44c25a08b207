/- Contracts of Limit, Lerp, Smooth, and those of the reference. Conditions: none. -/
import Derived.Test.YtibkdogjgofljaaNw
namespace Go.Proofs.Ytibkdogjgofljaa
open Go.RowKit
open Fl
set_option maxHeartbeats 400000 in
theorem thenan_any (w : World) : Calls Try.prog 62 #[] w fun e w' => e = .returned (.float .f32 (qn .f32)) ∧ w = w' := by
  go_enter Try.func62, Try.ntmps62
  go_wp2
  go_ret
  exact ⟨rfl, rfl⟩
set_option maxHeartbeats 400000 in
theorem fix_any (b : Nat) (w : World) : Calls Try.prog 31 #[.float .f32 b] w fun e w' => e = .returned (.float .f32 (cl .f32 b)) ∧ w = w' := by
  rw [cl_eq]
  go_enter Try.func31, Try.ntmps31
  go_wp2_with (go_at_call 62; refine (thenan_any _).mono ?_; rintro e w' ⟨rfl, rfl⟩)
  all_goals
    go_ret
    exact ⟨by simp [*, qn], rfl⟩

def limP (t a b : Nat) : Nat := if FloatKind.f32.format.order t a == some .lt then cl .f32 a else if FloatKind.f32.format.order t b == some .gt then cl .f32 b else cl .f32 t
set_option maxHeartbeats 400000 in
theorem limit_any (t a b : Nat) (w : World) : Calls Try.prog 36 #[.float .f32 t, .float .f32 a, .float .f32 b] w fun e w' => e = .returned (.float .f32 (limP t a b)) ∧ w = w' := by
  unfold limP
  cases h1 : FloatKind.f32.format.order t a == some .lt <;> cases h2 : FloatKind.f32.format.order t b == some .gt
  all_goals
    go_enter Try.func36, Try.ntmps36
    go_wp2_with (go_at_call 30; refine (clean_any _ _).mono ?_; rintro e w' ⟨rfl, rfl⟩)
    go_ret
    exact ⟨by simp, rfl⟩
set_option maxHeartbeats 400000 in
theorem limitof_any (t a b : Nat) (w : World) : Calls Try.prog 37 #[.float .f32 t, .float .f32 a, .float .f32 b] w fun e w' => e = .returned (.float .f32 (limP t a b)) ∧ w = w' := by
  unfold limP
  cases h1 : FloatKind.f32.format.order t a == some .lt <;> cases h2 : FloatKind.f32.format.order t b == some .gt
  all_goals
    go_enter Try.func37, Try.ntmps37
    go_wp2_with (go_at_call 31; refine (fix_any _ _).mono ?_; rintro e w' ⟨rfl, rfl⟩)
    go_ret
    exact ⟨by simp, rfl⟩

def lerpP (a b t : Nat) : Nat := if FloatKind.f32.format.order t 0 == some .eq then cl .f32 a else if FloatKind.f32.format.order t 1065353216 == some .eq then cl .f32 b else fC .add .f32 a (fC .mul .f32 (fC .sub .f32 b a) t)
set_option maxHeartbeats 400000 in
theorem lerp_any (a b t : Nat) (w : World) : Calls Try.prog 38 #[.float .f32 a, .float .f32 b, .float .f32 t] w fun e w' => e = .returned (.float .f32 (lerpP a b t)) ∧ ∃ n, w' = w.drewN n := by
  unfold lerpP
  cases h1 : FloatKind.f32.format.order t 0 == some .eq <;> cases h2 : FloatKind.f32.format.order t 1065353216 == some .eq
  all_goals
    go_enter Try.func38, Try.ntmps38
    go_wp2_with (go_at_call 30; refine (clean_any _ _).mono ?_; rintro e w' ⟨rfl, rfl⟩)
    go_ret
    first
      | exact ⟨by simp, 0, rfl⟩
      | exact ⟨by simp [cl_fV', fC_fV_l, fC_fV_r], _, rfl⟩
set_option maxHeartbeats 400000 in
theorem lerpof_any (a b t : Nat) (w : World) : Calls Try.prog 39 #[.float .f32 a, .float .f32 b, .float .f32 t] w fun e w' => e = .returned (.float .f32 (lerpP a b t)) ∧ ∃ n, w' = w.drewN n := by
  unfold lerpP
  cases h1 : FloatKind.f32.format.order t 0 == some .eq <;> cases h2 : FloatKind.f32.format.order t 1065353216 == some .eq
  all_goals
    go_enter Try.func39, Try.ntmps39
    go_wp2_with (go_at_call 31; refine (fix_any _ _).mono ?_; rintro e w' ⟨rfl, rfl⟩)
    go_ret
    first
      | exact ⟨by simp, 0, rfl⟩
      | exact ⟨by simp [cl_fV', fC_fV_l, fC_fV_r], _, rfl⟩

def smoothP (t : Nat) : Nat :=
  fC .mul .f32 (fC .mul .f32 (limP t 0 1065353216) (limP t 0 1065353216)) (fC .sub .f32 1077936128 (fC .mul .f32 1073741824 (limP t 0 1065353216)))
set_option maxHeartbeats 400000 in
theorem smooth_any (t : Nat) (w : World) : Calls Try.prog 40 #[.float .f32 t] w fun e w' => e = .returned (.float .f32 (smoothP t)) ∧ ∃ n, w' = w.drewN n := by
  unfold smoothP
  go_enter Try.func40, Try.ntmps40
  go_wp2_with (first | (go_at_call 36; refine (limit_any _ _ _ _).mono ?_; rintro e w' ⟨rfl, rfl⟩) | (go_at_call 30; refine (clean_any _ _).mono ?_; rintro e w' ⟨rfl, rfl⟩))
  go_ret
  exact ⟨by simp [cl_fV', fC_fV_l, fC_fV_r], _, rfl⟩
set_option maxHeartbeats 400000 in
theorem smoothof_any (t : Nat) (w : World) : Calls Try.prog 41 #[.float .f32 t] w fun e w' => e = .returned (.float .f32 (smoothP t)) ∧ ∃ n, w' = w.drewN n := by
  unfold smoothP
  go_enter Try.func41, Try.ntmps41
  go_wp2_with (first | (go_at_call 37; refine (limitof_any _ _ _ _).mono ?_; rintro e w' ⟨rfl, rfl⟩) | (go_at_call 31; refine (fix_any _ _).mono ?_; rintro e w' ⟨rfl, rfl⟩))
  go_ret
  exact ⟨by simp [cl_fV', fC_fV_l, fC_fV_r], _, rfl⟩
end Go.Proofs.Ytibkdogjgofljaa
