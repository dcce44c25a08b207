/- The contract of finishes. Conditions: none. -/
import Derived.Test.YtfphhlodfieopaaMw
namespace Go.Proofs.Ytfphhlodfieopaa
open Go.RowKit
open Fl
set_option maxHeartbeats 400000 in
theorem level_one (v o : Nat) (d M : Int) (w : World) (h1 : 1 ≤ d) (h2 : d ≤ 16) (hM : wrap64 (wrap64 (2 ^ d.toNat) - 1) = M) (h3 : 1 ≤ M) (h4 : M ≤ 65535) :
    Calls Try.prog 62 #[.float .f32 v, .float .f32 o, .int .i64 d] w fun e w' => e = .returned (.tuple #[.int .i64 (levelP v o M), .int .i64 0]) ∧ ∃ n, w' = w.drewN n := by
  have b1 : (decide (1 ≤ d) && decide (d ≤ 16)) = true := by simp; omega
  have HM := Lib.hid hM
  clear hM
  go_enter Try.func62, Try.ntmps62
  go_wp2_with (first | (go_at_call 60; refine (deep_any _ _).mono ?_; rintro e w' ⟨rfl, rfl⟩) | (go_at_call 89; refine (level_any _ _ _ M _ h1 h2 HM.out h3 h4).mono ?_; rintro e w' ⟨rfl, n, rfl⟩))
  go_ret2
  exact ⟨rfl, _, rfl⟩
set_option maxHeartbeats 400000 in
theorem fin_one : levelP 1056964608 0 255 = 128 := by decide +kernel
set_option maxHeartbeats 400000 in
theorem finishes_one (w : World) : Calls Try.prog 16 #[] w fun e w' => e = .returned (.bool true) ∧ ∃ n, w' = w.drewN n := by
  have hl := fin_one
  go_enter Try.func16, Try.ntmps16
  go_wp2_with (go_at_call 62; refine (level_one _ _ _ 255 _ (by omega) (by omega) (by decide +kernel) (by omega) (by omega)).mono ?_; rintro e w' ⟨rfl, n, rfl⟩)
  go_ret
  exact ⟨rfl, _, rfl⟩
end Go.Proofs.Ytfphhlodfieopaa
