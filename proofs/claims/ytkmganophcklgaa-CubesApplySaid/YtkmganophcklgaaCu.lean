/- The contracts of cube.Check and CubeError. Conditions: none. -/
import Derived.Test.YtkmganophcklgaaRg
import Derived.Test.YtkmganophcklgaaEx
namespace Go.Proofs.Ytkmganophcklgaa
open Go.RowKit
open Fl Fr

/-- Is one of the ends too great. -/
def cuO (v : Nat) : Bool := FloatKind.f32.format.order v 1233125376 == some .gt || FloatKind.f32.format.order v 3380609024 == some .lt
/-- The error of a cube. -/
def cuE (S : Int) (lo hi n : Nat) : Int :=
  if inB S 2 17 = false then 3 else if ((n : Int) == 3 * S * S * S) = false then 2 else if isN lo = false then 2 else if isN hi = false then 2
  else if (FloatKind.f32.format.order hi lo == some .gt) = false then 8 else if (cuO lo || cuO hi) = true then 3 else 0
theorem cube_bd {S : Int} (h : inB S 2 17 = true) : 2 ≤ S ∧ S ≤ 17 ∧ 0 ≤ 3 * S * S ∧ 3 * S * S ≤ 867 ∧ 0 ≤ 3 * S * S * S ∧ 3 * S * S * S ≤ 14739 := by
  obtain ⟨h1, h2⟩ := inB_iff.1 h
  have a1 : 0 ≤ S * S := Int.mul_nonneg (by omega) (by omega)
  have a2 : S * S ≤ 17 * S := Int.mul_le_mul_of_nonneg_right h2 (by omega)
  have a3 : 3 * S * S = 3 * (S * S) := Int.mul_assoc ..
  have a4 : 0 ≤ 3 * S * S := by omega
  have a5 : 3 * S * S ≤ 867 := by omega
  have a6 : 0 ≤ 3 * S * S * S := Int.mul_nonneg a4 (by omega)
  have a7 : 3 * S * S * S ≤ 867 * S := Int.mul_le_mul_of_nonneg_right a5 (by omega)
  exact ⟨h1, h2, a4, a5, a6, by omega⟩

set_option linter.unusedSimpArgs false in
set_option linter.unusedVariables false in
set_option maxHeartbeats 4000000 in
set_option maxRecDepth 100000 in
theorem checkcube_any (S : Int) (lo hi : Nat) (A : Option Addr) (n cap : Nat) (w : World) (hn : n ≤ 9223372036854775807) :
    Calls Try.prog 37 #[.agg #[.int .i64 S, .float .f32 lo, .float .f32 hi, .slice A n cap]] w fun e w' => e = .returned (.int .i64 (cuE S lo hi n)) ∧ Kept None' w w' := by
  cases hi1 : inB S 2 17 with
  | false =>
    have hS : S < 2 ∨ 17 < S := by
      unfold inB at hi1; simp at hi1; omega
    cases d1 : decide (S < 2) with
    | true =>
      have hE : cuE S lo hi n = 3 := by unfold cuE; rw [if_pos hi1]
      rw [hE]
      clear hE
      go_enter Try.func37, Try.ntmps37
      go_wp2_with (first
        | (go_at_call 78; refine (allnum2_any _ _ lo hi _ (by go_simp) (by go_simp)).mono ?_; rintro e w' ⟨rfl, rfl⟩)
        | fail)
      go_ret
      exact ⟨rfl, by repeat (first | exact Kept.refl _ _ | refine Kept.drew ?_ _ | refine Kept.alloc ?_ _ _)⟩
    | false =>
      have d2 : decide (17 < S) = true := by simp at d1 ⊢; omega
      have hE : cuE S lo hi n = 3 := by unfold cuE; rw [if_pos hi1]
      rw [hE]
      clear hE
      go_enter Try.func37, Try.ntmps37
      go_wp2_with (first
        | (go_at_call 78; refine (allnum2_any _ _ lo hi _ (by go_simp) (by go_simp)).mono ?_; rintro e w' ⟨rfl, rfl⟩)
        | fail)
      go_ret
      exact ⟨rfl, by repeat (first | exact Kept.refl _ _ | refine Kept.drew ?_ _ | refine Kept.alloc ?_ _ _)⟩
  | true =>
    obtain ⟨b1, b2, b3, b4, b5, b6⟩ := cube_bd hi1
    cases hl : ((n : Int) == 3 * S * S * S) with
    | false =>
      have hl2 : ((n : Int) != 3 * S * S * S) = true := by rw [bne, hl]; rfl
      have hE : cuE S lo hi n = 2 := by unfold cuE; rw [if_neg (by rw [hi1]; decide), if_pos hl]
      rw [hE]
      clear hE
      go_enter Try.func37, Try.ntmps37
      go_wp2_with (first
        | (go_at_call 78; refine (allnum2_any _ _ lo hi _ (by go_simp) (by go_simp)).mono ?_; rintro e w' ⟨rfl, rfl⟩)
        | fail)
      go_ret
      exact ⟨rfl, by repeat (first | exact Kept.refl _ _ | refine Kept.drew ?_ _ | refine Kept.alloc ?_ _ _)⟩
    | true =>
      have hl2 : ((n : Int) != 3 * S * S * S) = false := by rw [bne, hl]; rfl
      cases n0 : isN lo with
      | false =>
        have hE : cuE S lo hi n = 2 := by unfold cuE; rw [if_neg (by rw [hi1]; decide), if_neg (by rw [hl]; decide), if_pos n0]
        rw [hE]
        clear hE
        go_enter Try.func37, Try.ntmps37
        go_wp2_with (first
          | (go_at_call 78; refine (allnum2_any _ _ lo hi _ (by go_simp) (by go_simp)).mono ?_; rintro e w' ⟨rfl, rfl⟩)
          | fail)
        go_ret
        exact ⟨rfl, by repeat (first | exact Kept.refl _ _ | refine Kept.drew ?_ _ | refine Kept.alloc ?_ _ _)⟩
      | true =>
        cases n1 : isN hi with
        | false =>
          have hE : cuE S lo hi n = 2 := by unfold cuE; rw [if_neg (by rw [hi1]; decide), if_neg (by rw [hl]; decide), if_neg (by rw [n0]; decide), if_pos n1]
          rw [hE]
          clear hE
          go_enter Try.func37, Try.ntmps37
          go_wp2_with (first
            | (go_at_call 78; refine (allnum2_any _ _ lo hi _ (by go_simp) (by go_simp)).mono ?_; rintro e w' ⟨rfl, rfl⟩)
            | fail)
          go_ret
          exact ⟨rfl, by repeat (first | exact Kept.refl _ _ | refine Kept.drew ?_ _ | refine Kept.alloc ?_ _ _)⟩
        | true =>
          cases hg : (FloatKind.f32.format.order hi lo == some .gt) with
          | false =>
            have hE : cuE S lo hi n = 8 := by unfold cuE; rw [if_neg (by rw [hi1]; decide), if_neg (by rw [hl]; decide), if_neg (by rw [n0]; decide), if_neg (by rw [n1]; decide), if_pos hg]
            rw [hE]
            clear hE
            go_enter Try.func37, Try.ntmps37
            go_wp2_with (first
              | (go_at_call 78; refine (allnum2_any _ _ lo hi _ (by go_simp) (by go_simp)).mono ?_; rintro e w' ⟨rfl, rfl⟩)
              | fail)
            go_ret
            exact ⟨rfl, by repeat (first | exact Kept.refl _ _ | refine Kept.drew ?_ _ | refine Kept.alloc ?_ _ _)⟩
          | true =>
            cases g1 : (FloatKind.f32.format.order lo 1233125376 == some .gt) <;> cases g2 : (FloatKind.f32.format.order lo 3380609024 == some .lt) <;> cases g3 : (FloatKind.f32.format.order hi 1233125376 == some .gt) <;> cases g4 : (FloatKind.f32.format.order hi 3380609024 == some .lt)
            case false.false.false.false =>
              have hE : cuE S lo hi n = 0 := by unfold cuE; rw [if_neg (by rw [hi1]; decide), if_neg (by rw [hl]; decide), if_neg (by rw [n0]; decide), if_neg (by rw [n1]; decide), if_neg (by rw [hg]; decide), if_neg (by unfold cuO; rw [g1, g2, g3, g4]; decide)]
              rw [hE]
              clear hE
              go_enter Try.func37, Try.ntmps37
              go_wp2_with (first
                | (go_at_call 78; refine (allnum2_any _ _ lo hi _ (by go_simp) (by go_simp)).mono ?_; rintro e w' ⟨rfl, rfl⟩)
                | fail)
              go_ret
              exact ⟨rfl, by repeat (first | exact Kept.refl _ _ | refine Kept.drew ?_ _ | refine Kept.alloc ?_ _ _)⟩
            all_goals
              have hE : cuE S lo hi n = 3 := by unfold cuE; rw [if_neg (by rw [hi1]; decide), if_neg (by rw [hl]; decide), if_neg (by rw [n0]; decide), if_neg (by rw [n1]; decide), if_neg (by rw [hg]; decide), if_pos (by unfold cuO; rw [g1, g2, g3, g4]; decide)]
              rw [hE]
              clear hE
              go_enter Try.func37, Try.ntmps37
              go_wp2_with (first
                | (go_at_call 78; refine (allnum2_any _ _ lo hi _ (by go_simp) (by go_simp)).mono ?_; rintro e w' ⟨rfl, rfl⟩)
                | fail)
              go_ret
              exact ⟨rfl, by repeat (first | exact Kept.refl _ _ | refine Kept.drew ?_ _ | refine Kept.alloc ?_ _ _)⟩

set_option linter.unusedSimpArgs false in
set_option linter.unusedVariables false in
set_option maxHeartbeats 4000000 in
set_option maxRecDepth 100000 in
theorem cubeerror_any (S : Int) (lo hi : Nat) (A : Option Addr) (n cap : Nat) (w : World) (hn : n ≤ 9223372036854775807) :
    Calls Try.prog 13 #[.agg #[.int .i64 S, .float .f32 lo, .float .f32 hi, .slice A n cap]] w fun e w' => e = .returned (.int .i64 (cuE S lo hi n)) ∧ Kept None' w w' := by
  cases hi1 : inB S 2 17 with
  | false =>
    have hE : cuE S lo hi n = 3 := by unfold cuE; rw [if_pos hi1]
    rw [hE]
    clear hE
    go_enter Try.func13, Try.ntmps13
    go_wp2_with (first
      | (go_at_call 15; refine (in_one _ _ _ _).mono ?_; rw [hi1]; rintro e w' ⟨rfl, rfl⟩)
      | (go_at_call 27; refine (isnumof_any _ _).mono ?_; rintro e w' ⟨rfl, mi, rfl⟩)
      | fail)
    go_ret
    exact ⟨rfl, by repeat (first | exact Kept.refl _ _ | refine Kept.drew ?_ _ | refine Kept.alloc ?_ _ _)⟩
  | true =>
    obtain ⟨b1, b2, b3, b4, b5, b6⟩ := cube_bd hi1
    cases hl : ((n : Int) == 3 * S * S * S) with
    | false =>
      have hl2 : ((n : Int) != 3 * S * S * S) = true := by rw [bne, hl]; rfl
      have hE : cuE S lo hi n = 2 := by unfold cuE; rw [if_neg (by rw [hi1]; decide), if_pos hl]
      rw [hE]
      clear hE
      go_enter Try.func13, Try.ntmps13
      go_wp2_with (first
        | (go_at_call 15; refine (in_one _ _ _ _).mono ?_; rw [hi1]; rintro e w' ⟨rfl, rfl⟩)
        | (go_at_call 27; refine (isnumof_any _ _).mono ?_; rintro e w' ⟨rfl, mi, rfl⟩)
        | fail)
      go_ret
      exact ⟨rfl, by repeat (first | exact Kept.refl _ _ | refine Kept.drew ?_ _ | refine Kept.alloc ?_ _ _)⟩
    | true =>
      have hl2 : ((n : Int) != 3 * S * S * S) = false := by rw [bne, hl]; rfl
      cases n0 : isN lo with
      | false =>
        have hE : cuE S lo hi n = 2 := by unfold cuE; rw [if_neg (by rw [hi1]; decide), if_neg (by rw [hl]; decide), if_pos n0]
        rw [hE]
        clear hE
        go_enter Try.func13, Try.ntmps13
        go_wp2_with (first
          | (go_at_call 15; refine (in_one _ _ _ _).mono ?_; rw [hi1]; rintro e w' ⟨rfl, rfl⟩)
          | (go_at_call 27; refine (isnumof_any _ _).mono ?_; rintro e w' ⟨rfl, mi, rfl⟩)
          | fail)
        go_ret
        exact ⟨rfl, by repeat (first | exact Kept.refl _ _ | refine Kept.drew ?_ _ | refine Kept.alloc ?_ _ _)⟩
      | true =>
        cases n1 : isN hi with
        | false =>
          have hE : cuE S lo hi n = 2 := by unfold cuE; rw [if_neg (by rw [hi1]; decide), if_neg (by rw [hl]; decide), if_neg (by rw [n0]; decide), if_pos n1]
          rw [hE]
          clear hE
          go_enter Try.func13, Try.ntmps13
          go_wp2_with (first
            | (go_at_call 15; refine (in_one _ _ _ _).mono ?_; rw [hi1]; rintro e w' ⟨rfl, rfl⟩)
            | (go_at_call 27; refine (isnumof_any _ _).mono ?_; rintro e w' ⟨rfl, mi, rfl⟩)
            | fail)
          go_ret
          exact ⟨rfl, by repeat (first | exact Kept.refl _ _ | refine Kept.drew ?_ _ | refine Kept.alloc ?_ _ _)⟩
        | true =>
          cases hg : (FloatKind.f32.format.order hi lo == some .gt) with
          | false =>
            have hE : cuE S lo hi n = 8 := by unfold cuE; rw [if_neg (by rw [hi1]; decide), if_neg (by rw [hl]; decide), if_neg (by rw [n0]; decide), if_neg (by rw [n1]; decide), if_pos hg]
            rw [hE]
            clear hE
            go_enter Try.func13, Try.ntmps13
            go_wp2_with (first
              | (go_at_call 15; refine (in_one _ _ _ _).mono ?_; rw [hi1]; rintro e w' ⟨rfl, rfl⟩)
              | (go_at_call 27; refine (isnumof_any _ _).mono ?_; rintro e w' ⟨rfl, mi, rfl⟩)
              | fail)
            go_ret
            exact ⟨rfl, by repeat (first | exact Kept.refl _ _ | refine Kept.drew ?_ _ | refine Kept.alloc ?_ _ _)⟩
          | true =>
            cases g1 : (FloatKind.f32.format.order lo 1233125376 == some .gt) <;> cases g2 : (FloatKind.f32.format.order lo 3380609024 == some .lt) <;> cases g3 : (FloatKind.f32.format.order hi 1233125376 == some .gt) <;> cases g4 : (FloatKind.f32.format.order hi 3380609024 == some .lt)
            case false.false.false.false =>
              have hE : cuE S lo hi n = 0 := by unfold cuE; rw [if_neg (by rw [hi1]; decide), if_neg (by rw [hl]; decide), if_neg (by rw [n0]; decide), if_neg (by rw [n1]; decide), if_neg (by rw [hg]; decide), if_neg (by unfold cuO; rw [g1, g2, g3, g4]; decide)]
              rw [hE]
              clear hE
              go_enter Try.func13, Try.ntmps13
              go_wp2_with (first
                | (go_at_call 15; refine (in_one _ _ _ _).mono ?_; rw [hi1]; rintro e w' ⟨rfl, rfl⟩)
                | (go_at_call 27; refine (isnumof_any _ _).mono ?_; rintro e w' ⟨rfl, mi, rfl⟩)
                | fail)
              go_ret
              exact ⟨rfl, by repeat (first | exact Kept.refl _ _ | refine Kept.drew ?_ _ | refine Kept.alloc ?_ _ _)⟩
            all_goals
              have hE : cuE S lo hi n = 3 := by unfold cuE; rw [if_neg (by rw [hi1]; decide), if_neg (by rw [hl]; decide), if_neg (by rw [n0]; decide), if_neg (by rw [n1]; decide), if_neg (by rw [hg]; decide), if_pos (by unfold cuO; rw [g1, g2, g3, g4]; decide)]
              rw [hE]
              clear hE
              go_enter Try.func13, Try.ntmps13
              go_wp2_with (first
                | (go_at_call 15; refine (in_one _ _ _ _).mono ?_; rw [hi1]; rintro e w' ⟨rfl, rfl⟩)
                | (go_at_call 27; refine (isnumof_any _ _).mono ?_; rintro e w' ⟨rfl, mi, rfl⟩)
                | fail)
              go_ret
              exact ⟨rfl, by repeat (first | exact Kept.refl _ _ | refine Kept.drew ?_ _ | refine Kept.alloc ?_ _ _)⟩
end Go.Proofs.Ytkmganophcklgaa
