/- The walk of HashesMatch: it answers true. Conditions: none. -/
import Derived.Test.YtibkdogjgofljaaLw
import Derived.Test.YtibkdogjgofljaaCn
namespace Go.Proofs.Ytibkdogjgofljaa
open Go.RowKit
open Fl
set_option maxHeartbeats 1000000 in
set_option maxRecDepth 100000 in
theorem walk_hashesMatch (s x y n : Int) (_ : (Lit.int .u32 s).wf = true) (_ : (Lit.int .i64 x).wf = true) (_ : (Lit.int .i64 y).wf = true) (_ : (Lit.int .i64 n).wf = true) (w : World) :
    Calls Try.prog 5 #[.int .u32 s, .int .i64 x, .int .i64 y, .int .i64 n] w fun e w' => e = .returned (.bool true) ∧ Grown w w' := by
  have hr := hIt_range s x y n 3
  have ho : FloatKind.f32.format.order (unitP (hIt s x y n 3)) (unitP (hIt s x y n 3)) = some .eq := by rw [order_self, unit_nan _ hr.1 hr.2]; rfl
  go_enter Try.func5, Try.ntmps5
  go_wp2_with (first
    | (go_at_call 24; refine (hash_any _ _ _ _ _).mono ?_; rintro e w' ⟨rfl, rfl⟩)
    | (go_at_call 25; refine (counts_any _).mono ?_; rintro e w' ⟨rfl, rfl⟩)
    | (go_at_call 26; refine (hashof_any _ _ _ _ _).mono ?_; rintro e w' ⟨rfl, hg⟩)
    | (go_at_call 27; refine (unit_any _ _ hr.1 hr.2).mono ?_; rintro e w' ⟨rfl, rfl⟩)
    | (go_at_call 28; refine (unitof_any _ _ hr.1 hr.2).mono ?_; rintro e w' ⟨rfl, rfl⟩))
  go_ret
  exact ⟨rfl, hg⟩
end Go.Proofs.Ytibkdogjgofljaa
