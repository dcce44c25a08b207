/- Plain facts on the noise of grain: no NaN. Conditions: none. -/
import Derived.Test.YtfphhlodfieopaaGu
namespace Go.Proofs.Ytfphhlodfieopaa
open Go.RowKit
open Fl Fr

theorem unit_pos (h : Int) (h0 : 0 ≤ h) (h1 : h < 4294967296) : posR (unitP h) := by
  obtain ⟨m, i, h⟩ := unit_num h h0 h1
  exact Or.inl ⟨m, i, h⟩
theorem half_pos {a : Nat} (ha : posR a) : posR (fC .mul .f32 a 1056964608) := by
  have hz : FloatKind.f32.decode 1056964608 = .number false 8388608 (-24) := by decide +kernel
  rcases ha with ⟨m, e, he⟩ | he
  · obtain ⟨h1, -, -⟩ := mul_num he hz
    rw [h1]
    exact posR_near _ _
  · have hr : FloatKind.f32.format.read a = _ := he
    have hr2 : FloatKind.f32.format.read 1056964608 = _ := hz
    have hb : floatBits .mul .f32 a 1056964608 = some (FloatKind.f32.encode (.infinity false)) := by
      unfold floatBits Ieee.Format.mul; rw [hr, hr2]; rfl
    rw [fC_some hb (nan_of_inf (decode_inf _ _))]
    exact posR_inf
theorem pos_sub_nan {b I : Nat} (h : posR b) (hI : isN I = true) : nan .f32 (fC .sub .f32 b I) = false := by
  obtain ⟨s, m, e, hi⟩ := isN_spec hI
  rcases h with ⟨m, e, h⟩ | h
  · obtain ⟨_, _, _, -, -, hn⟩ := sub_num h hi
    exact hn
  · exact nan_of_inf (sub_inf h hi)
/-- The noise of four singles. -/
def nzP (u0 u1 u2 u3 : Nat) : Nat := fC .sub .f32 (fC .mul .f32 (fC .add .f32 (fC .add .f32 u0 u1) (fC .add .f32 u2 u3)) 1056964608) 1065353216
theorem nz_det {u0 u1 u2 u3 : Nat} (h0 : posR u0) (h1 : posR u1) (h2 : posR u2) (h3 : posR u3) :
    (∀ w, fV .add .f32 u0 u1 w = fC .add .f32 u0 u1) ∧ fN .add .f32 u0 u1 = 0 ∧ (∀ w, fV .add .f32 u2 u3 w = fC .add .f32 u2 u3) ∧ fN .add .f32 u2 u3 = 0 ∧
    (∀ w, fV .add .f32 (fC .add .f32 u0 u1) (fC .add .f32 u2 u3) w = fC .add .f32 (fC .add .f32 u0 u1) (fC .add .f32 u2 u3)) ∧ fN .add .f32 (fC .add .f32 u0 u1) (fC .add .f32 u2 u3) = 0 ∧
    (∀ w, fV .mul .f32 (fC .add .f32 (fC .add .f32 u0 u1) (fC .add .f32 u2 u3)) 1056964608 w = fC .mul .f32 (fC .add .f32 (fC .add .f32 u0 u1) (fC .add .f32 u2 u3)) 1056964608) ∧ fN .mul .f32 (fC .add .f32 (fC .add .f32 u0 u1) (fC .add .f32 u2 u3)) 1056964608 = 0 ∧
    (∀ w, fV .sub .f32 (fC .mul .f32 (fC .add .f32 (fC .add .f32 u0 u1) (fC .add .f32 u2 u3)) 1056964608) 1065353216 w = nzP u0 u1 u2 u3) ∧ fN .sub .f32 (fC .mul .f32 (fC .add .f32 (fC .add .f32 u0 u1) (fC .add .f32 u2 u3)) 1056964608) 1065353216 = 0 := by
  have a := add_pos h0 h1
  have b := add_pos h2 h3
  have c := add_pos a b
  have d := half_pos c
  have e := pos_sub_nan (I := 1065353216) d (by decide +kernel)
  exact ⟨(det (posR_nan a)).1, (det (posR_nan a)).2, (det (posR_nan b)).1, (det (posR_nan b)).2, (det (posR_nan c)).1, (det (posR_nan c)).2, (det (posR_nan d)).1, (det (posR_nan d)).2, (det e).1, (det e).2⟩
theorem gN_nz (s number a b ch : Int) : gN s number a b ch = nzP (gU s number a b (4 * ch)) (gU s number a b (4 * ch + 1)) (gU s number a b (4 * ch + 2)) (gU s number a b (4 * ch + 3)) := by unfold gN nzP; with_reducible rfl
theorem gU_pos (s number a b q : Int) : posR (gU s number a b q) := by
  have h := hIt_range (gSd s number) a b q 3
  unfold gU
  exact unit_pos _ h.1 h.2
end Go.Proofs.Ytfphhlodfieopaa
