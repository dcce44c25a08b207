/- Contracts of what tells whether regions and frames are right. Conditions: none. -/
import Derived.Test.YtflmfjimemhooaaIs
import Derived.Test.YtflmfjimemhooaaEy
import Derived.Handy
import Derived.IntWalk
namespace Go.Proofs.Ytflmfjimemhooaa
open Go.RowKit
open Fl
open BigFrame

def outB (a s : Int) : Bool := decide (a < -1048576) || decide (1048576 - s < a)
/-- The error of a region. -/
def regE (x y W H : Int) : Int :=
  if W < 1 ∨ 256 < W ∨ H < 1 ∨ 256 < H then 3 else if 16384 < W * H then 4
  else if (outB x W || outB y H) = true then 5 else 0

theorem regE_in {x y W H : Int} (w1 : 1 ≤ W) (w2 : W ≤ 256) (w3 : 1 ≤ H) (w4 : H ≤ 256) (h5 : decide (16384 < W * H) = false) : regE x y W H = if (outB x W || outB y H) = true then 5 else 0 := by
  unfold regE; rw [if_neg (by omega), if_neg (by simpa using h5)]
theorem regE_ok {x y W H : Int} (h : regE x y W H = 0) : 1 ≤ W ∧ W ≤ 256 ∧ 1 ≤ H ∧ H ≤ 256 ∧ W * H ≤ 16384 := by
  unfold regE at h
  split at h
  · cases h
  · split at h
    · cases h
    · omega
theorem mul_bd {W H : Int} (h1 : 1 ≤ W) (h2 : W ≤ 256) (h3 : 1 ≤ H) (h4 : H ≤ 256) : 1 ≤ W * H ∧ W * H ≤ 65536 := by
  refine ⟨?_, ?_⟩
  · have := Int.mul_le_mul h1 h3 (by omega) (by omega); omega
  · have := Int.mul_le_mul h2 h4 (by omega) (by omega); omega

theorem out_any (a s : Int) (w : World) (h1 : 1 ≤ s) (h2 : s ≤ 256) : Calls Try.prog 69 #[.int .i64 a, .int .i64 s] w fun e w' => e = .returned (.bool (outB a s)) ∧ w = w' := by
  unfold outB
  cases b1 : decide (a < -1048576) <;> cases b2 : decide (1048576 - s < a)
  all_goals
    simp only [decide_eq_true_eq, decide_eq_false_iff_not] at b1 b2
    go_enter Try.func69, Try.ntmps69
    go_wp2
    go_ret
    exact ⟨rfl, rfl⟩
/-- n lies from a to b. -/
def inB (n a b : Int) : Bool := decide (a ≤ n) && decide (n ≤ b)
theorem inB_yes {n a b : Int} (h1 : a ≤ n) (h2 : n ≤ b) : inB n a b = true := by simp [inB, h1, h2]
theorem inB_no {n a b : Int} (h : n < a ∨ b < n) : inB n a b = false := by simp [inB]; omega
theorem inB_iff {n a b : Int} : inB n a b = true ↔ a ≤ n ∧ n ≤ b := by simp [inB]
theorem in_one (n a b : Int) (w : World) : Calls Try.prog 18 #[.int .i64 n, .int .i64 a, .int .i64 b] w fun e w' => e = .returned (.bool (inB n a b)) ∧ w = w' := by
  unfold inB
  cases b1 : decide (a ≤ n)
  all_goals
    simp only [decide_eq_true_eq, decide_eq_false_iff_not] at b1
    go_enter Try.func18, Try.ntmps18
    go_wp2
    go_ret
    exact ⟨by simp, rfl⟩
set_option maxHeartbeats 4000000 in
theorem checkregion_any (x y W H : Int) (w : World) :
    Calls Try.prog 44 #[.agg #[.int .i64 x, .int .i64 y, .int .i64 W, .int .i64 H]] w fun e w' => e = .returned (.int .i64 (regE x y W H)) ∧ Kept None' w w' := by
  by_cases hall : 1 ≤ W ∧ W ≤ 256 ∧ 1 ≤ H ∧ H ≤ 256
  · obtain ⟨w1, w2, w3, w4⟩ := hall
    have hb := mul_bd w1 w2 w3 w4
    have hb1 := hb.1
    have hb2 := hb.2
    have h1 : decide (W < 1) = false := by simp; omega
    have h2 : decide (256 < W) = false := by simp; omega
    have h3 : decide (H < 1) = false := by simp; omega
    have h4 : decide (256 < H) = false := by simp; omega
    have i1 := inB_yes w1 w2
    have i2 := inB_yes w3 w4
    have hw : IntKind.i64.wrap (W * H) = W * H := IntWalk.i64_in _ (by omega)
    clear hb
    cases h5 : decide (16384 < W * H) with
    | true =>
      have hE : regE x y W H = 4 := by unfold regE; rw [if_neg (by omega), if_pos (by simpa using h5)]
      rw [hE]
      clear hE
      go_enter Try.func44, Try.ntmps44
      go_wp2_with (first | (go_at_call 69; refine (out_any _ _ _ (by assumption) (by assumption)).mono ?_; rintro e w' ⟨rfl, rfl⟩) | fail)
      go_ret
      exact ⟨rfl, (Kept.refl _ _).alloc _ _⟩
    | false =>
      cases h6 : outB x W <;> cases h7 : outB y H
      all_goals
        rw [regE_in w1 w2 w3 w4 h5, h6, h7]
        go_enter Try.func44, Try.ntmps44
        go_wp2_with (first | (go_at_call 69; refine (out_any _ _ _ (by assumption) (by assumption)).mono ?_; rintro e w' ⟨rfl, rfl⟩) | fail)
        go_ret
        exact ⟨rfl, (Kept.refl _ _).alloc _ _⟩
  · have hE : regE x y W H = 3 := by unfold regE; rw [if_pos (by omega)]
    rw [hE]
    clear hE
    cases h1 : decide (W < 1) with
    | true =>
      have i1 : inB W 1 256 = false := inB_no (Or.inl (by simpa using h1))
      clear hall
      go_enter Try.func44, Try.ntmps44
      go_wp2_with (first | (go_at_call 69; refine (out_any _ _ _ (by assumption) (by assumption)).mono ?_; rintro e w' ⟨rfl, rfl⟩) | fail)
      go_ret
      exact ⟨rfl, (Kept.refl _ _).alloc _ _⟩
    | false =>
      cases h2 : decide (256 < W) with
      | true =>
        have i1 : inB W 1 256 = false := inB_no (Or.inr (by simpa using h2))
        clear hall
        go_enter Try.func44, Try.ntmps44
        go_wp2_with (first | (go_at_call 69; refine (out_any _ _ _ (by assumption) (by assumption)).mono ?_; rintro e w' ⟨rfl, rfl⟩) | fail)
        go_ret
        exact ⟨rfl, (Kept.refl _ _).alloc _ _⟩
      | false =>
        have i1 : inB W 1 256 = true := inB_yes (by simp at h1; omega) (by simp at h2; omega)
        cases h3 : decide (H < 1) with
        | true =>
          have i2 : inB H 1 256 = false := inB_no (Or.inl (by simpa using h3))
          clear hall
          go_enter Try.func44, Try.ntmps44
          go_wp2_with (first | (go_at_call 69; refine (out_any _ _ _ (by assumption) (by assumption)).mono ?_; rintro e w' ⟨rfl, rfl⟩) | fail)
          go_ret
          exact ⟨rfl, (Kept.refl _ _).alloc _ _⟩
        | false =>
          have h4 : decide (256 < H) = true := by simp at *; omega
          have i2 : inB H 1 256 = false := inB_no (Or.inr (by simpa using h4))
          clear hall
          go_enter Try.func44, Try.ntmps44
          go_wp2_with (first | (go_at_call 69; refine (out_any _ _ _ (by assumption) (by assumption)).mono ?_; rintro e w' ⟨rfl, rfl⟩) | fail)
          go_ret
          exact ⟨rfl, (Kept.refl _ _).alloc _ _⟩
set_option maxHeartbeats 4000000 in
theorem regionerror_any (x y W H : Int) (w : World) :
    Calls Try.prog 23 #[.agg #[.int .i64 x, .int .i64 y, .int .i64 W, .int .i64 H]] w fun e w' => e = .returned (.int .i64 (regE x y W H)) ∧ Kept None' w w' := by
  by_cases hall : 1 ≤ W ∧ W ≤ 256 ∧ 1 ≤ H ∧ H ≤ 256
  · obtain ⟨w1, w2, w3, w4⟩ := hall
    have hb := mul_bd w1 w2 w3 w4
    have hb1 := hb.1
    have hb2 := hb.2
    have h1 : decide (W < 1) = false := by simp; omega
    have h2 : decide (256 < W) = false := by simp; omega
    have h3 : decide (H < 1) = false := by simp; omega
    have h4 : decide (256 < H) = false := by simp; omega
    have i1 := inB_yes w1 w2
    have i2 := inB_yes w3 w4
    have hw : IntKind.i64.wrap (W * H) = W * H := IntWalk.i64_in _ (by omega)
    clear hb
    cases h5 : decide (16384 < W * H) with
    | true =>
      have hE : regE x y W H = 4 := by unfold regE; rw [if_neg (by omega), if_pos (by simpa using h5)]
      rw [hE]
      clear hE
      go_enter Try.func23, Try.ntmps23
      go_wp2_with (first | (go_at_call 18; refine (in_one _ _ _ _).mono ?_; rintro e w' ⟨rfl, rfl⟩) | fail)
      go_ret
      exact ⟨rfl, (Kept.refl _ _).alloc _ _⟩
    | false =>
      cases h6 : decide (x < -1048576) <;> cases h7 : decide (1048576 - W < x) <;> cases h8 : decide (y < -1048576) <;> cases h9 : decide (1048576 - H < y)
      all_goals
        rw [regE_in w1 w2 w3 w4 h5]
        unfold outB
        rw [h6, h7, h8, h9]
        go_enter Try.func23, Try.ntmps23
        go_wp2_with (first | (go_at_call 18; refine (in_one _ _ _ _).mono ?_; rintro e w' ⟨rfl, rfl⟩) | fail)
        go_ret
        exact ⟨rfl, (Kept.refl _ _).alloc _ _⟩
  · have hE : regE x y W H = 3 := by unfold regE; rw [if_pos (by omega)]
    rw [hE]
    clear hE
    cases h1 : decide (W < 1) with
    | true =>
      have i1 : inB W 1 256 = false := inB_no (Or.inl (by simpa using h1))
      clear hall
      go_enter Try.func23, Try.ntmps23
      go_wp2_with (first | (go_at_call 18; refine (in_one _ _ _ _).mono ?_; rintro e w' ⟨rfl, rfl⟩) | fail)
      go_ret
      exact ⟨rfl, (Kept.refl _ _).alloc _ _⟩
    | false =>
      cases h2 : decide (256 < W) with
      | true =>
        have i1 : inB W 1 256 = false := inB_no (Or.inr (by simpa using h2))
        clear hall
        go_enter Try.func23, Try.ntmps23
        go_wp2_with (first | (go_at_call 18; refine (in_one _ _ _ _).mono ?_; rintro e w' ⟨rfl, rfl⟩) | fail)
        go_ret
        exact ⟨rfl, (Kept.refl _ _).alloc _ _⟩
      | false =>
        have i1 : inB W 1 256 = true := inB_yes (by simp at h1; omega) (by simp at h2; omega)
        cases h3 : decide (H < 1) with
        | true =>
          have i2 : inB H 1 256 = false := inB_no (Or.inl (by simpa using h3))
          clear hall
          go_enter Try.func23, Try.ntmps23
          go_wp2_with (first | (go_at_call 18; refine (in_one _ _ _ _).mono ?_; rintro e w' ⟨rfl, rfl⟩) | fail)
          go_ret
          exact ⟨rfl, (Kept.refl _ _).alloc _ _⟩
        | false =>
          have h4 : decide (256 < H) = true := by simp at *; omega
          have i2 : inB H 1 256 = false := inB_no (Or.inr (by simpa using h4))
          clear hall
          go_enter Try.func23, Try.ntmps23
          go_wp2_with (first | (go_at_call 18; refine (in_one _ _ _ _).mono ?_; rintro e w' ⟨rfl, rfl⟩) | fail)
          go_ret
          exact ⟨rfl, (Kept.refl _ _).alloc _ _⟩
end Go.Proofs.Ytflmfjimemhooaa
