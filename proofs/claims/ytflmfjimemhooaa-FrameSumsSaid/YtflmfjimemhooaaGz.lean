/- Contracts of Clip and of Bit. Conditions: none. -/
import Derived.Test.YtflmfjimemhooaaGx
namespace Go.Proofs.Ytflmfjimemhooaa
open Go.RowKit
open Fl Fr

set_option maxHeartbeats 400000 in
theorem bits_one (b : Nat) (w : World) : Calls Try.prog 38 #[.float .f32 b] w fun e w' => e = .returned (.int .u32 (cl .f32 b)) ∧ w = w' := by
  go_enter Try.func38, Try.ntmps38
  go_wp2_with (go_at_call 66; refine (clean_any _ _).mono ?_; rintro e w' ⟨rfl, rfl⟩)
  go_ret
  exact ⟨rfl, rfl⟩
set_option maxHeartbeats 400000 in
theorem bitsof_one (b : Nat) (w : World) : Calls Try.prog 12 #[.float .f32 b] w fun e w' => e = .returned (.int .u32 (cl .f32 b)) ∧ w = w' := by
  go_enter Try.func12, Try.ntmps12
  go_wp2_with (go_at_call 40; refine (fix_any _ _).mono ?_; rintro e w' ⟨rfl, rfl⟩)
  go_ret
  exact ⟨rfl, rfl⟩
theorem castBeq (a b : Nat) : ((a : Int) == (b : Int)) = (a == b) := by
  rw [Bool.eq_iff_iff, beq_iff_eq, beq_iff_eq]; omega
theorem cl_limP (t a b : Nat) : cl .f32 (limP t a b) = limP t a b := by
  unfold limP
  repeat' split
  all_goals exact cl_cl _ _

def clipN (v lo hi : Nat) : Int := if limP v lo hi == cl .f32 v then 0 else 1

end Go.Proofs.Ytflmfjimemhooaa
