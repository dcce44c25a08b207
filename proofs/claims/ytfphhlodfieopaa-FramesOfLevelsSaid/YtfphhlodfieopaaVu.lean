/- Contracts of VignetteError, Vignette and its function. Conditions: none. -/
import Derived.Test.YtfphhlodfieopaaVg
import Derived.Test.YtfphhlodfieopaaMp
import Derived.Test.YtfphhlodfieopaaMd
import Derived.Test.YtfphhlodfieopaaFe
import Derived.Test.YtfphhlodfieopaaG2
import Derived.Test.YtfphhlodfieopaaLg
namespace Go.Proofs.Ytfphhlodfieopaa
open Go.RowKit
open Fl Fr
open BigFrame

set_option maxHeartbeats 1000000 in
set_option maxRecDepth 100000 in
theorem allnum5_any (B cap : Nat) (b0 b1 b2 b3 b4 : Nat) (w : World) (h0 : w.cell? ⟨B, 0, none⟩ = some (.float .f32 b0)) (h1 : w.cell? ⟨B, 1, none⟩ = some (.float .f32 b1)) (h2 : w.cell? ⟨B, 2, none⟩ = some (.float .f32 b2)) (h3 : w.cell? ⟨B, 3, none⟩ = some (.float .f32 b3)) (h4 : w.cell? ⟨B, 4, none⟩ = some (.float .f32 b4)) :
    Calls Try.prog 65 #[.slice (some ⟨B, 0, none⟩) 5 cap] w fun e w' => e = .returned (.bool (isN b0 && (isN b1 && (isN b2 && (isN b3 && isN b4))))) ∧ w = w' := by
  cases i0 : isN b0 with
  | false =>
    go_enter Try.func65, Try.ntmps65
    go_wp2_with fail
    refine wp_loop_rounds 6 ?_
    repeat
      rw [rounds_succ]
      go_wp2_with (first | (go_at_call 64; refine (isnum_any _ _).mono ?_; rintro e w' ⟨rfl, rfl⟩) | fail)
    go_ret
    exact ⟨by simp, rfl⟩
  | true =>
    cases i1 : isN b1 with
    | false =>
      go_enter Try.func65, Try.ntmps65
      go_wp2_with fail
      refine wp_loop_rounds 6 ?_
      repeat
        rw [rounds_succ]
        go_wp2_with (first | (go_at_call 64; refine (isnum_any _ _).mono ?_; rintro e w' ⟨rfl, rfl⟩) | fail)
      go_ret
      exact ⟨by simp, rfl⟩
    | true =>
      cases i2 : isN b2 with
      | false =>
        go_enter Try.func65, Try.ntmps65
        go_wp2_with fail
        refine wp_loop_rounds 6 ?_
        repeat
          rw [rounds_succ]
          go_wp2_with (first | (go_at_call 64; refine (isnum_any _ _).mono ?_; rintro e w' ⟨rfl, rfl⟩) | fail)
        go_ret
        exact ⟨by simp, rfl⟩
      | true =>
        cases i3 : isN b3 with
        | false =>
          go_enter Try.func65, Try.ntmps65
          go_wp2_with fail
          refine wp_loop_rounds 6 ?_
          repeat
            rw [rounds_succ]
            go_wp2_with (first | (go_at_call 64; refine (isnum_any _ _).mono ?_; rintro e w' ⟨rfl, rfl⟩) | fail)
          go_ret
          exact ⟨by simp, rfl⟩
        | true =>
          cases i4 : isN b4 with
          | false =>
            go_enter Try.func65, Try.ntmps65
            go_wp2_with fail
            refine wp_loop_rounds 6 ?_
            repeat
              rw [rounds_succ]
              go_wp2_with (first | (go_at_call 64; refine (isnum_any _ _).mono ?_; rintro e w' ⟨rfl, rfl⟩) | fail)
            go_ret
            exact ⟨by simp, rfl⟩
          | true =>
            go_enter Try.func65, Try.ntmps65
            go_wp2_with fail
            refine wp_loop_rounds 6 ?_
            repeat
              rw [rounds_succ]
              go_wp2_with (first | (go_at_call 64; refine (isnum_any _ _).mono ?_; rintro e w' ⟨rfl, rfl⟩) | fail)
            go_ret
            exact ⟨by simp, rfl⟩

def dkOk (D : Nat) : Bool := (FloatKind.f32.format.order D 0 == some .gt || FloatKind.f32.format.order D 0 == some .eq) && (FloatKind.f32.format.order D 1065353216 == some .lt || FloatKind.f32.format.order D 1065353216 == some .eq)
def vgE (X Y I O D : Nat) : Int := if isN X && (isN Y && (isN I && (isN O && isN D))) then (if FloatKind.f32.format.order O I == some .gt then (if dkOk D then 0 else 3) else 8) else 2

theorem le_gt {b c : Nat} (hb : isN b = true) (hc : isN c = true) : (FloatKind.f32.format.order b c == some .lt || FloatKind.f32.format.order b c == some .eq) = !(FloatKind.f32.format.order b c == some .gt) := by
  obtain ⟨s, m, i, h1⟩ := isN_spec hb
  obtain ⟨t, n, j, h2⟩ := isN_spec hc
  have h1 : FloatKind.f32.format.read b = _ := h1
  have h2 : FloatKind.f32.format.read c = _ := h2
  unfold Ieee.Format.order
  rw [h1, h2]
  obtain ⟨x, y, h3, -⟩ := order_num s t m n i j
  rw [h3]
  cases compare x y <;> rfl
theorem dkOk_lt {D : Nat} (hD : isN D = true) (h : (FloatKind.f32.format.order D 0 == some .lt) = true) : dkOk D = false := by
  unfold dkOk; rw [ge_lt hD (by decide +kernel), h]; rfl
theorem dkOk_gt {D : Nat} (hD : isN D = true) (h : (FloatKind.f32.format.order D 1065353216 == some .gt) = true) : dkOk D = false := by
  unfold dkOk; rw [le_gt hD (by decide +kernel), h, Bool.not_true, Bool.and_false]
theorem dkOk_ok {D : Nat} (hD : isN D = true) (h : (FloatKind.f32.format.order D 0 == some .lt) = false) (h2 : (FloatKind.f32.format.order D 1065353216 == some .gt) = false) : dkOk D = true := by
  unfold dkOk; rw [ge_lt hD (by decide +kernel), le_gt hD (by decide +kernel), h, h2]; rfl

set_option linter.unusedSimpArgs false in
set_option maxHeartbeats 4000000 in
set_option maxRecDepth 100000 in
theorem vigerr_any (X Y I O D : Nat) (w : World) :
    Calls Try.prog 53 #[.agg #[.float .f32 X, .float .f32 Y, .float .f32 I, .float .f32 O, .float .f32 D]] w fun e w' => e = .returned (.int .i64 (vgE X Y I O D)) ∧ Kept None' w w' := by
  unfold vgE
  cases i0 : isN X with
  | false =>
    go_enter Try.func53, Try.ntmps53
    go_wp2_with fail
    refine wp_loop_rounds 6 ?_
    repeat
      rw [rounds_succ]
      go_wp2_with (first | (go_at_call 21; refine (isnumof_any _ _).mono ?_; rintro e w' ⟨rfl, n, rfl⟩) | (go_at_call 14; refine (when_any _ _ _).mono ?_; rintro e w' ⟨rfl, rfl⟩) | fail)
    go_ret
    exact ⟨by simp [*], grown_kept (by repeat' (first | (with_reducible refine grown_drewN ?_ _) | go_grown))⟩
  | true =>
    cases i1 : isN Y with
    | false =>
      go_enter Try.func53, Try.ntmps53
      go_wp2_with fail
      refine wp_loop_rounds 6 ?_
      repeat
        rw [rounds_succ]
        go_wp2_with (first | (go_at_call 21; refine (isnumof_any _ _).mono ?_; rintro e w' ⟨rfl, n, rfl⟩) | (go_at_call 14; refine (when_any _ _ _).mono ?_; rintro e w' ⟨rfl, rfl⟩) | fail)
      go_ret
      exact ⟨by simp [*], grown_kept (by repeat' (first | (with_reducible refine grown_drewN ?_ _) | go_grown))⟩
    | true =>
      cases i2 : isN I with
      | false =>
        go_enter Try.func53, Try.ntmps53
        go_wp2_with fail
        refine wp_loop_rounds 6 ?_
        repeat
          rw [rounds_succ]
          go_wp2_with (first | (go_at_call 21; refine (isnumof_any _ _).mono ?_; rintro e w' ⟨rfl, n, rfl⟩) | (go_at_call 14; refine (when_any _ _ _).mono ?_; rintro e w' ⟨rfl, rfl⟩) | fail)
        go_ret
        exact ⟨by simp [*], grown_kept (by repeat' (first | (with_reducible refine grown_drewN ?_ _) | go_grown))⟩
      | true =>
        cases i3 : isN O with
        | false =>
          go_enter Try.func53, Try.ntmps53
          go_wp2_with fail
          refine wp_loop_rounds 6 ?_
          repeat
            rw [rounds_succ]
            go_wp2_with (first | (go_at_call 21; refine (isnumof_any _ _).mono ?_; rintro e w' ⟨rfl, n, rfl⟩) | (go_at_call 14; refine (when_any _ _ _).mono ?_; rintro e w' ⟨rfl, rfl⟩) | fail)
          go_ret
          exact ⟨by simp [*], grown_kept (by repeat' (first | (with_reducible refine grown_drewN ?_ _) | go_grown))⟩
        | true =>
          cases i4 : isN D with
          | false =>
            go_enter Try.func53, Try.ntmps53
            go_wp2_with fail
            refine wp_loop_rounds 6 ?_
            repeat
              rw [rounds_succ]
              go_wp2_with (first | (go_at_call 21; refine (isnumof_any _ _).mono ?_; rintro e w' ⟨rfl, n, rfl⟩) | (go_at_call 14; refine (when_any _ _ _).mono ?_; rintro e w' ⟨rfl, rfl⟩) | fail)
            go_ret
            exact ⟨by simp [*], grown_kept (by repeat' (first | (with_reducible refine grown_drewN ?_ _) | go_grown))⟩
          | true =>
            cases g0 : FloatKind.f32.format.order O I == some .gt with
            | false =>
              go_enter Try.func53, Try.ntmps53
              go_wp2_with fail
              refine wp_loop_rounds 6 ?_
              repeat
                rw [rounds_succ]
                go_wp2_with (first | (go_at_call 21; refine (isnumof_any _ _).mono ?_; rintro e w' ⟨rfl, n, rfl⟩) | (go_at_call 14; refine (when_any _ _ _).mono ?_; rintro e w' ⟨rfl, rfl⟩) | fail)
              go_ret
              exact ⟨by simp [*], grown_kept (by repeat' (first | (with_reducible refine grown_drewN ?_ _) | go_grown))⟩
            | true =>
              unfold dkOk
              cases g1 : (FloatKind.f32.format.order D 0 == some .gt || FloatKind.f32.format.order D 0 == some .eq) <;> cases g2 : (FloatKind.f32.format.order D 1065353216 == some .lt || FloatKind.f32.format.order D 1065353216 == some .eq)
              all_goals
                go_enter Try.func53, Try.ntmps53
                go_wp2_with fail
                refine wp_loop_rounds 6 ?_
                repeat
                  rw [rounds_succ]
                  go_wp2_with (first | (go_at_call 21; refine (isnumof_any _ _).mono ?_; rintro e w' ⟨rfl, n, rfl⟩) | (go_at_call 14; refine (when_any _ _ _).mono ?_; rintro e w' ⟨rfl, rfl⟩) | fail)
                go_ret
                exact ⟨by simp [*], grown_kept (by repeat' (first | (with_reducible refine grown_drewN ?_ _) | go_grown))⟩
end Go.Proofs.Ytfphhlodfieopaa
