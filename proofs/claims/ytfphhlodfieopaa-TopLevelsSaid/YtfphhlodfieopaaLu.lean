/- Contracts of Unit and UnitOf. Conditions: none. -/
import Derived.Test.YtfphhlodfieopaaNw
import Derived.Test.YtfphhlodfieopaaPm
namespace Go.Proofs.Ytfphhlodfieopaa
open Go.RowKit
open Fl

/-! ### Unit -/
def unitP (h : Int) : Nat := fC .mul .f32 (floatOfInt .f32 (h / 256)) 864026624
theorem unit_num (h : Int) (h0 : 0 ≤ h) (h1 : h < 4294967296) : ∃ m i, FloatKind.f32.decode (unitP h) = .number false m i := by
  obtain ⟨m, i, a1, a2⟩ := ofInt_val .f32 (h / 256) (by omega)
  have sn : decide (h / 256 < 0) = false := by simp; omega
  rw [sn] at a1
  have hz : FloatKind.f32.decode 864026624 = .number false 8388608 (-47) := by decide +kernel
  obtain ⟨b1, b2, -⟩ := mul_num a1 hz
  have e1 : FloatKind.f32.format.leastPlace = -149 := by decide
  have e2 : FloatKind.f32.format.fractionBits = 23 := by decide
  have e3 : ((2 ^ FloatKind.f32.format.exponentBits : Nat) : Int) = 256 := by decide
  have hb : Fr.mv (m * 8388608) (i + -47) ≤ Fr.p2 1 := by
    rw [b2, a2, natCast_cases _ (by omega)]
    have q : Fr.mv 8388608 (-47) = 1 / 16777216 := by decide +kernel
    have q1 : Fr.p2 1 = 2 := by decide +kernel
    have hq : ((h / 256 : Int) : Rat) ≤ ((16777216 : Int) : Rat) := Rat.intCast_le_intCast.2 (by omega)
    have : ((16777216 : Int) : Rat) = 16777216 := rfl
    rw [q, q1]; grind
  obtain ⟨M, P, c1, -⟩ := near_rv (k := .f32) 1 b1 hb (by rw [e1]; decide) (by rw [e1, e2, e3]; decide)
  exact ⟨M, P, c1⟩
theorem unit_nan (h : Int) (h0 : 0 ≤ h) (h1 : h < 4294967296) : nan .f32 (unitP h) = false := by
  obtain ⟨m, i, h⟩ := unit_num h h0 h1
  exact nan_of_num h

set_option maxHeartbeats 400000 in
theorem unit_any (h : Int) (w : World) (h0 : 0 ≤ h) (h1 : h < 4294967296) :
    Calls Try.prog 109 #[.int .u32 h] w fun e w' => e = .returned (.float .f32 (unitP h)) ∧ w = w' := by
  obtain ⟨t1, t2⟩ := det (unit_nan h h0 h1)
  go_enter Try.func109, Try.ntmps109
  go_wp2
  go_ret
  exact ⟨rfl, rfl⟩
set_option maxHeartbeats 400000 in
theorem unitof_any (h : Int) (w : World) (h0 : 0 ≤ h) (h1 : h < 4294967296) :
    Calls Try.prog 85 #[.int .u32 h] w fun e w' => e = .returned (.float .f32 (unitP h)) ∧ w = w' := by
  obtain ⟨m, i, a1, -⟩ := ofInt_val .f32 (h / 256) (by omega)
  have hq : fC .quo .f32 (floatOfInt .f32 (h / 256)) 1266679808 = unitP h := quo_unit a1
  obtain ⟨t1, t2⟩ := det (show nan .f32 (fC .quo .f32 (floatOfInt .f32 (h / 256)) 1266679808) = false by rw [hq]; exact unit_nan h h0 h1)
  rw [hq] at t1
  clear hq a1
  go_enter Try.func85, Try.ntmps85
  go_wp2
  go_ret
  exact ⟨rfl, rfl⟩

end Go.Proofs.Ytfphhlodfieopaa
