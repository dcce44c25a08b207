/- The walk of NearMatches: it answers true. Conditions: none. -/
import Derived.Test.YtibkdogjgofljaaNw
import Derived.Test.YtibkdogjgofljaaCn
namespace Go.Proofs.Ytibkdogjgofljaa
open Go.RowKit
open Fl
set_option maxHeartbeats 1000000 in
set_option maxRecDepth 100000 in
theorem near_err (b : Nat) (lo hi : Int) (w : World) (h : (decide (hi < lo) || decide (lo < -16777216) || decide (16777216 < lo) || decide (hi < -16777216) || decide (16777216 < hi)) = true) :
    Calls Try.prog 46 #[.float .f32 b, .int .i64 lo, .int .i64 hi] w fun e w' => e = .returned (.tuple #[.int .i64 0, .bool false, .int .i64 8]) ∧ w = w' := by
  by_cases h1 : hi < lo
  · clear h
    go_enter Try.func46, Try.ntmps46
    go_wp2
    go_ret3
    exact ⟨rfl, rfl⟩
  · by_cases h2 : lo < -16777216
    · clear h
      go_enter Try.func46, Try.ntmps46
      go_wp2
      go_ret3
      exact ⟨rfl, rfl⟩
    · have h3 : 16777216 < hi := by simp at h; omega
      clear h
      by_cases h4 : 16777216 < lo
      · go_enter Try.func46, Try.ntmps46
        go_wp2
        go_ret3
        exact ⟨rfl, rfl⟩
      · go_enter Try.func46, Try.ntmps46
        go_wp2
        go_ret3
        exact ⟨rfl, rfl⟩
def NmPost (w : World) (e : Ending) (w' : World) : Prop := e = .returned (.bool true) ∧ Grown w w'
set_option maxHeartbeats 1000000 in
set_option maxRecDepth 100000 in
theorem nm_ok (b : Nat) (lo hi : Int) (w : World) (h1 : lo ≤ hi) (h2 : -16777216 ≤ lo) (h3 : hi ≤ 16777216) :
    Calls Try.prog 9 #[.float .f32 b, .int .i64 lo, .int .i64 hi] w (NmPost w) := by
  have h4 : -16777216 ≤ hi := by omega
  have h5 : lo ≤ 16777216 := by omega
  go_enter Try.func9, Try.ntmps9
  go_wp2_with (first
    | (go_at_call 46; refine (near_any _ _ _ _ h1 h2 h3).mono ?_; rintro e w' ⟨rfl, rfl⟩)
    | (go_at_call 47; refine (nearof_any _ _ _ _ h1 h2 h3).mono ?_; rintro e w' ⟨rfl, rfl⟩)
    | (go_at_call 25; refine (counts_any _).mono ?_; rintro e w' ⟨rfl, rfl⟩)
    | (go_at_call 17; refine (in_any _ _ _ _).mono ?_; rintro e w' ⟨rfl, rfl⟩))
  go_ret
  exact ⟨rfl, Grown.refl _⟩
set_option maxHeartbeats 1000000 in
set_option maxRecDepth 100000 in
theorem nm_err (b : Nat) (lo hi : Int) (w : World) (h : (decide (hi < lo) || decide (lo < -16777216) || decide (16777216 < lo) || decide (hi < -16777216) || decide (16777216 < hi)) = true) :
    Calls Try.prog 9 #[.float .f32 b, .int .i64 lo, .int .i64 hi] w (NmPost w) := by
  have H := Lib.hid h
  by_cases h1 : hi < lo
  · clear h
    go_enter Try.func9, Try.ntmps9
    go_wp2_with (first
      | (go_at_call 46; refine (near_err _ _ _ _ H.out).mono ?_; rintro e w' ⟨rfl, rfl⟩)
      | (go_at_call 25; refine (counts_any _).mono ?_; rintro e w' ⟨rfl, rfl⟩)
      | (go_at_call 17; refine (in_any _ _ _ _).mono ?_; rintro e w' ⟨rfl, rfl⟩))
    go_ret
    exact ⟨rfl, Grown.refl _⟩
  · cases i1 : (decide (-16777216 ≤ lo) && decide (lo ≤ 16777216)) with
    | false =>
      clear h
      go_enter Try.func9, Try.ntmps9
      go_wp2_with (first
        | (go_at_call 46; refine (near_err _ _ _ _ H.out).mono ?_; rintro e w' ⟨rfl, rfl⟩)
        | (go_at_call 25; refine (counts_any _).mono ?_; rintro e w' ⟨rfl, rfl⟩)
        | (go_at_call 17; refine (in_any _ _ _ _).mono ?_; rintro e w' ⟨rfl, rfl⟩))
      go_ret
      exact ⟨rfl, Grown.refl _⟩
    | true =>
      have i2 : (decide (-16777216 ≤ hi) && decide (hi ≤ 16777216)) = false := by simp at h i1 ⊢; omega
      clear h
      go_enter Try.func9, Try.ntmps9
      go_wp2_with (first
        | (go_at_call 46; refine (near_err _ _ _ _ H.out).mono ?_; rintro e w' ⟨rfl, rfl⟩)
        | (go_at_call 25; refine (counts_any _).mono ?_; rintro e w' ⟨rfl, rfl⟩)
        | (go_at_call 17; refine (in_any _ _ _ _).mono ?_; rintro e w' ⟨rfl, rfl⟩))
      go_ret
      exact ⟨rfl, Grown.refl _⟩
theorem walk_nearMatches (b : Nat) (lo hi : Int) (_ : (Lit.float .f32 b).wf = true) (_ : (Lit.int .i64 lo).wf = true) (_ : (Lit.int .i64 hi).wf = true) (w : World) :
    Calls Try.prog 9 #[.float .f32 b, .int .i64 lo, .int .i64 hi] w fun e w' => e = .returned (.bool true) ∧ Grown w w' := by
  by_cases h : lo ≤ hi ∧ -16777216 ≤ lo ∧ hi ≤ 16777216
  · exact nm_ok b lo hi w h.1 h.2.1 h.2.2
  · exact nm_err b lo hi w (by simp; omega)
end Go.Proofs.Ytibkdogjgofljaa
