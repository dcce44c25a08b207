/- The walk of OrdersMatch: it answers true. Conditions: none. -/
import Derived.Test.YtibkdogjgofljaaOw
import Derived.Test.YtibkdogjgofljaaCn
namespace Go.Proofs.Ytibkdogjgofljaa
open Go.RowKit
open Fl
set_option maxHeartbeats 1000000 in
set_option maxRecDepth 100000 in
theorem walk_ordersMatch (a b : Nat) (wa : (Lit.float .f32 a).wf = true) (wb : (Lit.float .f32 b).wf = true) (w : World) :
    Calls Try.prog 8 #[.float .f32 a, .float .f32 b] w fun e w' => e = .returned (.bool true) ∧ Grown w w' := by
  have ha : a < 4294967296 := by simpa [Lit.wf] using wa
  have hb : b < 4294967296 := by simpa [Lit.wf] using wb
  have Ha := Lib.hid ha
  have Hb := Lib.hid hb
  clear ha hb wa wb
  go_enter Try.func8, Try.ntmps8
  go_wp2_with (first
    | (go_at_call 25; refine (counts_any _).mono ?_; rintro e w' ⟨rfl, rfl⟩)
    | (go_at_call 42; refine (apart_any _ _ _ Ha.out Hb.out).mono ?_; rintro e w' ⟨rfl, rfl⟩)
    | (go_at_call 43; refine (apartof_any _ _ _ Ha.out Hb.out).mono ?_; rintro e w' ⟨rfl, rfl⟩)
    | (go_at_call_of 44 (Value.float .f32 a); refine (next_any _ _ _ Ha.out).mono ?_; rintro e w' ⟨rfl, rfl⟩)
    | (go_at_call_of 44 (Value.float .f32 b); refine (next_any _ _ _ Hb.out).mono ?_; rintro e w' ⟨rfl, rfl⟩)
    | (go_at_call_of 45 (Value.float .f32 a); refine (nextof_any _ _ _ Ha.out).mono ?_; rintro e w' ⟨rfl, rfl⟩)
    | (go_at_call_of 45 (Value.float .f32 b); refine (nextof_any _ _ _ Hb.out).mono ?_; rintro e w' ⟨rfl, rfl⟩)
    | (go_at_call 18; refine (same_any _ _ _).mono ?_; rintro e w' ⟨rfl, rfl⟩))
  go_ret
  exact ⟨rfl, Grown.refl _⟩
end Go.Proofs.Ytibkdogjgofljaa
