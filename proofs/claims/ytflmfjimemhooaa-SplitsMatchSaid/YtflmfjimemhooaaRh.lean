/- A right region lies within the places. Conditions: none. -/
import Derived.Test.YtflmfjimemhooaaRg
namespace Go.Proofs.Ytflmfjimemhooaa
open Go.RowKit
open Fl

theorem regE_place {x y W H : Int} (h : regE x y W H = 0) : -1048576 ≤ x ∧ x ≤ 1048576 - W ∧ -1048576 ≤ y ∧ y ≤ 1048576 - H := by
  unfold regE outB at h
  split at h
  · cases h
  · split at h
    · cases h
    · split at h
      · cases h
      · rename_i h3
        simp only [Bool.or_eq_true, decide_eq_true_eq] at h3
        omega
end Go.Proofs.Ytflmfjimemhooaa
