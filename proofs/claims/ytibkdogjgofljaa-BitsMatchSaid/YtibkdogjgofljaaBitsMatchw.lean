/- The walk of BitsMatch: it answers true. Conditions: none. -/
import Derived.Test.YtibkdogjgofljaaBw
import Derived.Test.YtibkdogjgofljaaLx
namespace Go.Proofs.Ytibkdogjgofljaa
open Go.RowKit
open Fl
set_option maxHeartbeats 1000000 in
set_option maxRecDepth 100000 in
theorem walk_bitsMatch (v : Nat) (b : Int) (wv : (Lit.float .f32 v).wf = true) (_ : (Lit.int .u32 b).wf = true) (w : World) :
    Calls Try.prog 6 #[.float .f32 v, .int .u32 b] w fun e w' => e = .returned (.bool true) ∧ Grown w w' := by
  have hv : v < 4294967296 := by simpa [Lit.wf] using wv
  have ho := order_self .f32 v
  rcases kind_of v hv with ⟨hn, hk⟩ | ⟨hn, hk, -, t1⟩ | ⟨hn, hk, -, t1, -, t2, t3⟩ | ⟨hn, hk, -, t1, -, t2, -⟩ | ⟨hn, hk, -, t1, -, t2, t3, -⟩
  all_goals
    rw [hn] at ho
    try have t4 : ∀ w, toD v w = dC v := toD_not hn
    simp only [Bool.false_eq_true, if_false, if_true] at ho
    have Hv := Lib.hid hv
    clear hv hn wv
    go_enter Try.func6, Try.ntmps6
    go_wp2_with (first
      | (go_at_call 25; refine (counts_any _).mono ?_; rintro e w' ⟨rfl, rfl⟩)
      | (go_at_call 22; refine (abs_any _ _).mono ?_; rintro e w' ⟨rfl, rfl⟩)
      | (go_at_call 23; refine (ldexp_m126 _).mono ?_; rintro e w' ⟨rfl, rfl⟩)
      | (go_at_call 30; refine (clean_any _ _).mono ?_; rintro e w' ⟨rfl, rfl⟩)
      | (go_at_call 31; refine (fix_any _ _).mono ?_; rintro e w' ⟨rfl, rfl⟩)
      | (go_at_call 32; refine (bits_any _ _).mono ?_; rintro e w' ⟨rfl, rfl⟩)
      | (go_at_call 33; refine (bitsof_any _ _).mono ?_; rintro e w' ⟨rfl, rfl⟩)
      | (go_at_call 34; refine (frombits_any _ _).mono ?_; rintro e w' ⟨rfl, rfl⟩)
      | (go_at_call 35; refine (kind_any _ _ Hv.out).mono ?_; rintro e w' ⟨rfl, rfl⟩)
      | (go_at_call 18; refine (same_any _ _ _).mono ?_; rintro e w' ⟨rfl, rfl⟩))
    go_ret
    exact ⟨rfl, Grown.refl _⟩
end Go.Proofs.Ytibkdogjgofljaa
