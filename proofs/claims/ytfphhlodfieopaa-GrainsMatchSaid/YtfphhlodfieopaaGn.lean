/- Contracts for grain: floorDiv, floorOver, placed, CheckGrain, GrainError. Conditions: none. -/
import Derived.Test.YtfphhlodfieopaaVu
import Derived.Test.YtfphhlodfieopaaLu
namespace Go.Proofs.Ytfphhlodfieopaa
open Go.RowKit
open Fl Fr

theorem tdiv_floor {a b : Int} (hb : 1 ≤ b) : a / b = if a.tmod b < 0 then a.tdiv b - 1 else a.tdiv b := by
  rw [Int.tdiv_eq_ediv, Int.tmod_eq_emod]
  have h1 := Int.emod_nonneg a (b := b) (by omega)
  have h2 := Int.emod_lt_of_pos a (b := b) (by omega)
  have h3 : b.sign = 1 := Int.sign_eq_one_of_pos (by omega)
  have h4 : (b.natAbs : Int) = b := by omega
  by_cases h : 0 ≤ a ∨ b ∣ a
  · rw [if_pos h, if_pos h, if_neg (by omega)]; omega
  · have h5 : a % b ≠ 0 := fun e => h (Or.inr (Int.dvd_of_emod_eq_zero e))
    rw [if_neg h, if_neg h, if_pos (by omega), h3]; omega
theorem tdiv_mul {a b : Int} : decide (a < a.tdiv b * b) = decide (a.tmod b < 0) := by
  have h := Int.mul_tdiv_add_tmod a b
  rw [Int.mul_comm] at h
  simp only [decide_eq_decide]
  omega
theorem tdiv_bd {a b : Int} (h1 : -1048576 ≤ a) (h2 : a ≤ 1048576) : -1048576 ≤ a.tdiv b ∧ a.tdiv b ≤ 1048576 := by
  have h := Int.natAbs_tdiv_le_natAbs a b
  omega

set_option maxHeartbeats 400000 in
theorem floordiv_any (a b : Int) (w : World) (hb : 1 ≤ b) (h1 : -1048576 ≤ a) (h2 : a ≤ 1048576) : Calls Try.prog 107 #[.int .i64 a, .int .i64 b] w fun e w' => e = .returned (.int .i64 (a / b)) ∧ w = w' := by
  have hf := tdiv_floor (a := a) hb
  obtain ⟨b1, b2⟩ := tdiv_bd (b := b) h1 h2
  have hz : ¬ b = 0 := by omega
  have hz2 : (b == 0) = false := by simp; omega
  have wq : wrap64 (a.tdiv b) = a.tdiv b := by unfold wrap64; omega
  have wq2 : wrap64 (a.tdiv b - 1) = a.tdiv b - 1 := by unfold wrap64; omega
  cases hm : decide (a.tmod b < 0) with
  | true =>
    rw [if_pos (of_decide_eq_true hm)] at hf
    rw [hf]
    go_enter Try.func107, Try.ntmps107
    go_wp2
    go_ret
    exact ⟨by simp [*], rfl⟩
  | false =>
    rw [if_neg (of_decide_eq_false hm)] at hf
    rw [hf]
    go_enter Try.func107, Try.ntmps107
    go_wp2
    go_ret
    exact ⟨by simp [*], rfl⟩

set_option maxHeartbeats 400000 in
theorem floorover_any (a b : Int) (w : World) (hb : 1 ≤ b) (hb2 : b ≤ 16) (h1 : -1048576 ≤ a) (h2 : a ≤ 1048576) : Calls Try.prog 87 #[.int .i64 a, .int .i64 b] w fun e w' => e = .returned (.int .i64 (a / b)) ∧ w = w' := by
  have hf := tdiv_floor (a := a) hb
  obtain ⟨b1, b2⟩ := tdiv_bd (b := b) h1 h2
  have hz : ¬ b = 0 := by omega
  have hz2 : (b == 0) = false := by simp; omega
  have hc := tdiv_mul (a := a) (b := b)
  have ht := Int.mul_tdiv_add_tmod a b
  have ht1 := Int.tmod_lt_of_pos a (b := b) (by omega)
  have wm : wrap64 (a.tdiv b * b) = a.tdiv b * b := by
    have ht2 := Int.lt_tmod_of_pos a (b := b) (by omega)
    rw [Int.mul_comm] at ht
    unfold wrap64; omega
  have wq : wrap64 (a.tdiv b) = a.tdiv b := by unfold wrap64; omega
  have wq2 : wrap64 (a.tdiv b - 1) = a.tdiv b - 1 := by unfold wrap64; omega
  clear ht ht1
  cases hm : decide (a.tmod b < 0) with
  | true =>
    rw [if_pos (of_decide_eq_true hm)] at hf
    rw [hm] at hc
    rw [hf]
    clear hm hf
    go_enter Try.func87, Try.ntmps87
    go_wp2
    go_ret
    exact ⟨by simp [*], rfl⟩
  | false =>
    rw [if_neg (of_decide_eq_false hm)] at hf
    rw [hm] at hc
    rw [hf]
    go_enter Try.func87, Try.ntmps87
    go_wp2
    go_ret
    exact ⟨by simp [*], rfl⟩

def plE (x y : Int) : Int := if inB x (-1048576) 1048576 && inB y (-1048576) 1048576 then 0 else 5
set_option maxHeartbeats 1000000 in
theorem placed_any (x y : Int) (w : World) : Calls Try.prog 45 #[.int .i64 x, .int .i64 y] w fun e w' => e = .returned (.int .i64 (plE x y)) ∧ w = w' := by
  unfold plE
  cases hx : inB x (-1048576) 1048576 <;> cases hy : inB y (-1048576) 1048576
  all_goals
    go_enter Try.func45, Try.ntmps45
    go_wp2_with (first
      | (go_at_call 15; refine (in_one _ _ _ _).mono ?_; simp only [hx, hy]; rintro e w' ⟨rfl, rfl⟩)
      | (go_at_call 14; refine (when_any _ _ _).mono ?_; rintro e w' ⟨rfl, rfl⟩)
      | fail)
    go_ret
    exact ⟨rfl, rfl⟩

def q4 (v : Nat) : Bool := (FloatKind.f32.format.order v 0 == some .gt || FloatKind.f32.format.order v 0 == some .eq) && (FloatKind.f32.format.order v 1082130432 == some .lt || FloatKind.f32.format.order v 1082130432 == some .eq)
theorem q4_lt {D : Nat} (hD : isN D = true) (h : (FloatKind.f32.format.order D 0 == some .lt) = true) : q4 D = false := by
  unfold q4; rw [ge_lt hD (by decide +kernel), h]; rfl
theorem q4_gt {D : Nat} (hD : isN D = true) (h : (FloatKind.f32.format.order D 1082130432 == some .gt) = true) : q4 D = false := by
  unfold q4; rw [le_gt hD (by decide +kernel), h, Bool.not_true, Bool.and_false]
theorem q4_ok {D : Nat} (hD : isN D = true) (h : (FloatKind.f32.format.order D 0 == some .lt) = false) (h2 : (FloatKind.f32.format.order D 1082130432 == some .gt) = false) : q4 D = true := by
  unfold q4; rw [ge_lt hD (by decide +kernel), le_gt hD (by decide +kernel), h, h2]; rfl
def grE (z : Int) (S F : Nat) : Int := if inB z 1 16 then (if isN S && isN F then (if q4 S && q4 F then 0 else 3) else 2) else 3

set_option linter.unusedSimpArgs false in
set_option maxHeartbeats 2000000 in
set_option maxRecDepth 100000 in
theorem grainerr_any (s z : Int) (S F : Nat) (m : Bool) (w : World) :
    Calls Try.prog 43 #[.agg #[.int .u32 s, .int .i64 z, .float .f32 S, .float .f32 F, .bool m]] w fun e w' => e = .returned (.int .i64 (grE z S F)) ∧ Kept None' w w' := by
  unfold grE
  cases hz : inB z 1 16 with
  | false =>
    go_enter Try.func43, Try.ntmps43
    go_wp2_with (go_at_call 15; refine (in_one _ _ _ _).mono ?_; rw [hz]; rintro e w' ⟨rfl, rfl⟩)
    go_ret
    exact ⟨rfl, (Kept.refl _ _).alloc _ _⟩
  | true =>
    cases h1 : isN S <;> cases h2 : isN F
    case true.true =>
      unfold q4
      cases g1 : (FloatKind.f32.format.order S 0 == some .gt || FloatKind.f32.format.order S 0 == some .eq) <;> cases g2 : (FloatKind.f32.format.order S 1082130432 == some .lt || FloatKind.f32.format.order S 1082130432 == some .eq) <;> cases g3 : (FloatKind.f32.format.order F 0 == some .gt || FloatKind.f32.format.order F 0 == some .eq) <;> cases g4 : (FloatKind.f32.format.order F 1082130432 == some .lt || FloatKind.f32.format.order F 1082130432 == some .eq)
      all_goals
        go_enter Try.func43, Try.ntmps43
        go_wp2_with (first
          | (go_at_call 15; refine (in_one _ _ _ _).mono ?_; rw [hz]; rintro e w' ⟨rfl, rfl⟩)
          | (go_at_call 21; refine (isnumof_any _ _).mono ?_; rintro e w' ⟨rfl, n, rfl⟩)
          | (go_at_call 14; refine (when_any _ _ _).mono ?_; rintro e w' ⟨rfl, rfl⟩)
          | fail)
        go_ret
        exact ⟨rfl, by repeat (first | exact Kept.refl _ _ | refine Kept.drew ?_ _ | refine Kept.alloc ?_ _ _)⟩
    all_goals
      go_enter Try.func43, Try.ntmps43
      go_wp2_with (first
        | (go_at_call 15; refine (in_one _ _ _ _).mono ?_; rw [hz]; rintro e w' ⟨rfl, rfl⟩)
        | (go_at_call 21; refine (isnumof_any _ _).mono ?_; rintro e w' ⟨rfl, n, rfl⟩)
        | fail)
      go_ret
      exact ⟨rfl, by repeat (first | exact Kept.refl _ _ | refine Kept.drew ?_ _ | refine Kept.alloc ?_ _ _)⟩
end Go.Proofs.Ytfphhlodfieopaa
