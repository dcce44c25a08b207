/- Contracts of the value of a level. Conditions: none. -/
import Derived.Test.YtfphhlodfieopaaPm
import Derived.Test.YtfphhlodfieopaaNw
namespace Go.Proofs.Ytfphhlodfieopaa
open Go.RowKit
open Fl

/-! ### Value, Level -/
def valP (n M : Int) : Nat := fC .quo .f32 (floatOfInt .f32 n) (floatOfInt .f32 M)
theorem val_nan (n M : Int) (h0 : 0 ≤ n) (h1 : n ≤ M) (h2 : 1 ≤ M) (h3 : M ≤ 65535) : nan .f32 (valP n M) = false := by
  obtain ⟨nm, ni, a1, -⟩ := ofInt_val .f32 n (by omega)
  obtain ⟨Mm, Mi, b1, b2⟩ := ofInt_val .f32 M (by omega)
  have hMm : Mm ≠ 0 := by
    intro h; rw [h] at b2
    have e : Fr.mv 0 Mi = 0 := by unfold Fr.mv; simp
    rw [e, natCast_cases _ (by omega)] at b2
    have := Rat.intCast_le_intCast.2 h2
    rw [← b2] at this
    exact absurd this (by decide)
  obtain ⟨_, _, -, -, h⟩ := quo_num a1 b1 hMm
  exact h

set_option maxHeartbeats 400000 in
theorem value_any (n d M : Int) (w : World) (h1 : 1 ≤ d) (h2 : d ≤ 16) (hM : wrap64 (wrap64 (2 ^ d.toNat) - 1) = M) (h3 : 1 ≤ M) (h4 : M ≤ 65535) (h5 : 0 ≤ n) (h6 : n ≤ M) :
    Calls Try.prog 61 #[.int .i64 n, .int .i64 d] w fun e w' => e = .returned (.float .f32 (valP n M)) ∧ w = w' := by
  obtain ⟨t1, t2⟩ := det (val_nan n M h5 h6 h3 h4)
  go_enter Try.func61, Try.ntmps61
  go_wp2
  go_ret
  exact ⟨rfl, rfl⟩
set_option maxHeartbeats 400000 in
theorem valueof_any (n d M : Int) (w : World) (h1 : 1 ≤ d) (h2 : d ≤ 16) (hM : wrap64 (wrap64 (2 ^ d.toNat) - 1) = M) (h3 : 1 ≤ M) (h4 : M ≤ 65535) (h5 : 0 ≤ n) (h6 : n ≤ M) :
    Calls Try.prog 19 #[.int .i64 n, .int .i64 d] w fun e w' => e = .returned (.float .f32 (valP n M)) ∧ w = w' := by
  obtain ⟨t1, t2⟩ := det (val_nan n M h5 h6 h3 h4)
  go_enter Try.func19, Try.ntmps19
  go_wp2
  go_ret
  exact ⟨rfl, rfl⟩

end Go.Proofs.Ytfphhlodfieopaa
