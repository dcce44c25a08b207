/- The walk of MixesMatch: it answers true. Conditions: none. -/
import Derived.Test.YtibkdogjgofljaaMw
import Derived.Test.YtibkdogjgofljaaCn
namespace Go.Proofs.Ytibkdogjgofljaa
open Go.RowKit
open Fl
set_option maxHeartbeats 1000000 in
set_option maxRecDepth 100000 in
theorem walk_mixesMatch (a b t : Nat) (_ : (Lit.float .f32 a).wf = true) (_ : (Lit.float .f32 b).wf = true) (_ : (Lit.float .f32 t).wf = true) (w : World) :
    Calls Try.prog 7 #[.float .f32 a, .float .f32 b, .float .f32 t] w fun e w' => e = .returned (.bool true) ∧ Grown w w' := by
  go_enter Try.func7, Try.ntmps7
  go_wp2_with (first
    | (go_at_call 25; refine (counts_any _).mono ?_; rintro e w' ⟨rfl, rfl⟩)
    | (go_at_call 36; refine (limit_any _ _ _ _).mono ?_; rintro e w' ⟨rfl, rfl⟩)
    | (go_at_call 37; refine (limitof_any _ _ _ _).mono ?_; rintro e w' ⟨rfl, rfl⟩)
    | (go_at_call 38; refine (lerp_any _ _ _ _).mono ?_; rintro e w' ⟨rfl, n, rfl⟩)
    | (go_at_call 39; refine (lerpof_any _ _ _ _).mono ?_; rintro e w' ⟨rfl, n, rfl⟩)
    | (go_at_call 40; refine (smooth_any _ _).mono ?_; rintro e w' ⟨rfl, n, rfl⟩)
    | (go_at_call 41; refine (smoothof_any _ _).mono ?_; rintro e w' ⟨rfl, n, rfl⟩)
    | (go_at_call 18; refine (same_any _ _ _).mono ?_; rintro e w' ⟨rfl, rfl⟩))
  go_ret
  exact ⟨rfl, Grown.refl _⟩
end Go.Proofs.Ytibkdogjgofljaa
