/- Contracts of the value of a level. Conditions: none. -/
import Derived.Test.YtflmfjimemhooaaPm
import Derived.Test.YtflmfjimemhooaaNw
namespace Go.Proofs.Ytflmfjimemhooaa
open Go.RowKit
open Fl

/-! ### Value, Level -/
def valP (n M : Int) : Nat := fC .quo .f32 (floatOfInt .f32 n) (floatOfInt .f32 M)
theorem val_nan (n M : Int) (h0 : 0 ≤ n) (h1 : n ≤ M) (h2 : 1 ≤ M) (h3 : M ≤ 65535) : nan .f32 (valP n M) = false := by
  obtain ⟨nm, ni, a1, -⟩ := ofInt_val .f32 n (by omega)
  obtain ⟨Mm, Mi, b1, b2⟩ := ofInt_val .f32 M (by omega)
  have hMm : Mm ≠ 0 := by
    intro h; rw [h] at b2
    have e : Fr.mv 0 Mi = 0 := by unfold Fr.mv; simp
    rw [e, natCast_cases _ (by omega)] at b2
    have := Rat.intCast_le_intCast.2 h2
    rw [← b2] at this
    exact absurd this (by decide)
  obtain ⟨_, _, -, -, h⟩ := quo_num a1 b1 hMm
  exact h

end Go.Proofs.Ytflmfjimemhooaa
