/- The contracts of CheckGrain and of grained's function. Conditions: none. -/
import Derived.Test.YtfphhlodfieopaaGn
namespace Go.Proofs.Ytfphhlodfieopaa
open Go.RowKit
open Fl Fr

set_option linter.unusedSimpArgs false in
set_option maxHeartbeats 2000000 in
set_option maxRecDepth 100000 in
theorem checkgrain_any (s z : Int) (S F : Nat) (m : Bool) (w : World) :
    Calls Try.prog 44 #[.agg #[.int .u32 s, .int .i64 z, .float .f32 S, .float .f32 F, .bool m]] w fun e w' => e = .returned (.int .i64 (grE z S F)) ∧ Kept None' w w' := by
  cases d1 : decide (z < 1) with
  | true =>
    have hE : grE z S F = 3 := by unfold grE; rw [inB_no (Or.inl (of_decide_eq_true d1))]; rfl
    rw [hE]
    go_enter Try.func44, Try.ntmps44
    go_wp2_with fail
    go_ret
    exact ⟨rfl, (Kept.refl _ _).alloc _ _⟩
  | false =>
    have d1' := of_decide_eq_false d1
    cases d2 : decide (16 < z) with
    | true =>
      have hE : grE z S F = 3 := by unfold grE; rw [inB_no (Or.inr (of_decide_eq_true d2))]; rfl
      rw [hE]
      go_enter Try.func44, Try.ntmps44
      go_wp2_with fail
      go_ret
      exact ⟨rfl, (Kept.refl _ _).alloc _ _⟩
    | false =>
      have d2' := of_decide_eq_false d2
      have hz : inB z 1 16 = true := inB_yes (by omega) (by omega)
      cases hn : (isN S && isN F) with
      | false =>
        have hE : grE z S F = 2 := by unfold grE; rw [hz, hn]; rfl
        rw [hE]
        go_enter Try.func44, Try.ntmps44
        go_wp2_with (first
          | (go_at_call 65; refine (allnum2_any _ _ S F _ (by go_simp) (by go_simp)).mono ?_; rw [hn]; rintro e w' ⟨rfl, rfl⟩)
          | fail)
        go_ret
        exact ⟨rfl, ((Kept.refl _ _).alloc _ _).alloc _ _⟩
      | true =>
        have hn' := hn
        simp only [Bool.and_eq_true] at hn'
        obtain ⟨hS, hF⟩ := hn'
        cases g1 : FloatKind.f32.format.order S 0 == some .lt with
        | true =>
          have hE : grE z S F = 3 := by unfold grE; rw [hz, hn, q4_lt hS g1]; rfl
          rw [hE]
          go_enter Try.func44, Try.ntmps44
          go_wp2_with (first
            | (go_at_call 65; refine (allnum2_any _ _ S F _ (by go_simp) (by go_simp)).mono ?_; rw [hn]; rintro e w' ⟨rfl, rfl⟩)
            | fail)
          go_ret
          exact ⟨rfl, ((Kept.refl _ _).alloc _ _).alloc _ _⟩
        | false =>
          cases g2 : FloatKind.f32.format.order S 1082130432 == some .gt with
          | true =>
            have hE : grE z S F = 3 := by unfold grE; rw [hz, hn, q4_gt hS g2]; rfl
            rw [hE]
            go_enter Try.func44, Try.ntmps44
            go_wp2_with (first
              | (go_at_call 65; refine (allnum2_any _ _ S F _ (by go_simp) (by go_simp)).mono ?_; rw [hn]; rintro e w' ⟨rfl, rfl⟩)
              | fail)
            go_ret
            exact ⟨rfl, ((Kept.refl _ _).alloc _ _).alloc _ _⟩
          | false =>
            cases g3 : FloatKind.f32.format.order F 0 == some .lt with
            | true =>
              have hE : grE z S F = 3 := by unfold grE; rw [hz, hn, q4_ok hS g1 g2, q4_lt hF g3]; rfl
              rw [hE]
              go_enter Try.func44, Try.ntmps44
              go_wp2_with (first
                | (go_at_call 65; refine (allnum2_any _ _ S F _ (by go_simp) (by go_simp)).mono ?_; rw [hn]; rintro e w' ⟨rfl, rfl⟩)
                | fail)
              go_ret
              exact ⟨rfl, ((Kept.refl _ _).alloc _ _).alloc _ _⟩
            | false =>
              cases g4 : FloatKind.f32.format.order F 1082130432 == some .gt with
              | true =>
                have hE : grE z S F = 3 := by unfold grE; rw [hz, hn, q4_ok hS g1 g2, q4_gt hF g4]; rfl
                rw [hE]
                go_enter Try.func44, Try.ntmps44
                go_wp2_with (first
                  | (go_at_call 65; refine (allnum2_any _ _ S F _ (by go_simp) (by go_simp)).mono ?_; rw [hn]; rintro e w' ⟨rfl, rfl⟩)
                  | fail)
                go_ret
                exact ⟨rfl, ((Kept.refl _ _).alloc _ _).alloc _ _⟩
              | false =>
                have hE : grE z S F = 0 := by unfold grE; rw [hz, hn, q4_ok hS g1 g2, q4_ok hF g3 g4]; rfl
                rw [hE]
                go_enter Try.func44, Try.ntmps44
                go_wp2_with (first
                  | (go_at_call 65; refine (allnum2_any _ _ S F _ (by go_simp) (by go_simp)).mono ?_; rw [hn]; rintro e w' ⟨rfl, rfl⟩)
                  | fail)
                go_ret
                exact ⟨rfl, ((Kept.refl _ _).alloc _ _).alloc _ _⟩

end Go.Proofs.Ytfphhlodfieopaa
