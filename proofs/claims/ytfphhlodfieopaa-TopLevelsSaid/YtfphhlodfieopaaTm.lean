/- A level's value is near to what it was made of, in doubles: plain law of TopLevels. Conditions: none. -/
import Derived.Test.YtfphhlodfieopaaTl
namespace Go.Proofs.Ytfphhlodfieopaa
open Go
open Fl Fr

theorem val_one : (match FloatKind.f32.decode (valP 0 1) with | .number false m e => decide (mv m e = 0) | _ => false) = true ∧ (match FloatKind.f32.decode (valP 1 1) with | .number false m e => decide (mv m e = 1) | _ => false) = true := by decide +kernel
theorem val_near1 (l : Nat) (h : l ≤ 1) : ∃ gm ge, FloatKind.f32.decode (valP (l : Int) ((1 : Nat) : Int)) = .number false gm ge ∧ mv gm ge = (l : Rat) := by
  have h2 := val_one
  obtain rfl | rfl : l = 0 ∨ l = 1 := by omega
  · have h3 := h2.1
    show ∃ gm ge, FloatKind.f32.decode (valP 0 1) = .number false gm ge ∧ mv gm ge = 0
    cases hd : FloatKind.f32.decode (valP 0 1) with
    | number s m e => rw [hd] at h3; cases s with
      | true => cases h3
      | false => exact ⟨m, e, rfl, of_decide_eq_true h3⟩
    | infinity s => rw [hd] at h3; cases h3
    | nan s f => rw [hd] at h3; cases h3
  · have h3 := h2.2
    show ∃ gm ge, FloatKind.f32.decode (valP 1 1) = .number false gm ge ∧ mv gm ge = 1
    cases hd : FloatKind.f32.decode (valP 1 1) with
    | number s m e => rw [hd] at h3; cases s with
      | true => cases h3
      | false => exact ⟨m, e, rfl, of_decide_eq_true h3⟩
    | infinity s => rw [hd] at h3; cases h3
    | nan s f => rw [hd] at h3; cases h3

theorem val_near (l M : Nat) (h : l ≤ M) (M1 : 1 ≤ M) (M2 : M ≤ 65535) : ∃ gm ge, FloatKind.f32.decode (valP (l : Int) (M : Int)) = .number false gm ge ∧
    mv gm ge * (M : Rat) - l ≤ (M : Rat) * (16 / 10 * (1 / 16777216)) ∧ -((M : Rat) * (16 / 10 * (1 / 16777216))) ≤ mv gm ge * (M : Rat) - l := by
  have q17 : p2 17 = 131072 := by decide +kernel
  have q25 : p2 (-25) = 1 / 33554432 := by decide +kernel
  have e2 : (-(FloatKind.f32.format.fractionBits : Int) - 2) = -25 := by decide
  have hMr : (1 : Rat) ≤ (M : Rat) := by have := Rat.natCast_le_natCast.2 M1; simpa using this
  have hlM : (l : Rat) ≤ (M : Rat) := Rat.natCast_le_natCast.2 h
  have hl0 : (0 : Rat) ≤ (l : Rat) := Rat.natCast_nonneg
  obtain ⟨Lm, Li, a1, a2⟩ := ofInt_val .f32 (l : Int) (by omega)
  obtain ⟨Mm, Mi, b1, b2⟩ := ofInt_val .f32 (M : Int) (by omega)
  have sL : decide ((l : Int) < 0) = false := by simp
  have sM : decide ((M : Int) < 0) = false := by simp
  rw [sL] at a1
  rw [sM] at b1
  have a2 : mv Lm Li = (l : Rat) := by rw [a2]; rfl
  have b2 : mv Mm Mi = (M : Rat) := by rw [b2]; rfl
  have hMm : Mm ≠ 0 := by
    intro h0; rw [h0] at b2
    have e0 : mv 0 Mi = 0 := by unfold mv; simp
    rw [e0] at b2; grind
  obtain ⟨c, ce, c1, c2, -⟩ := quo_num a1 b1 hMm
  have hs : (false ^^ false) = false := rfl
  rw [hs] at c1
  rw [e2, q25, a2, b2, abs_le_iff] at c2
  have hc0 := mv_nonneg c ce
  have hc2 : mv c ce ≤ 2 := by
    have h1 : mv c ce * (M : Rat) ≤ 2 * (M : Rat) := by grind
    exact Rat.le_of_mul_le_mul_right h1 (by grind)
  obtain ⟨gm, ge, d1, d2, d3⟩ := near_rel c1 (by grind)
  have r1 : rv (.number false gm ge) = mv gm ge := by unfold rv; simp
  have r2 : rv (.number false c ce) = mv c ce := by unfold rv; simp
  rw [r1, r2] at d2 d3
  have hM0 : (0 : Rat) ≤ (M : Rat) := by grind
  have m1 := Rat.mul_le_mul_of_nonneg_right d2 hM0
  have m2 := Rat.mul_le_mul_of_nonneg_right d3 hM0
  refine ⟨gm, ge, d1, ?_, ?_⟩ <;> grind

/-- Near, as numbers. -/
theorem top_rat (G V b : Rat) (l M : Nat) (M1 : 1 ≤ M)
    (hL : (l : Rat) - V * (M : Rat) ≤ b + 1 / 2 + (2 * (M : Rat) + 101 / 200) * (1 / 16777216) + 2 * (1 / 1152921504606846976) ∧ -(b + 1 / 2 + (2 * (M : Rat) + 101 / 200) * (1 / 16777216) + 2 * (1 / 1152921504606846976)) ≤ (l : Rat) - V * (M : Rat))
    (hG : (M = 1 ∧ G = l) ∨ (3 ≤ M ∧ G * (M : Rat) - l ≤ (M : Rat) * (16 / 10 * (1 / 16777216)) ∧ -((M : Rat) * (16 / 10 * (1 / 16777216))) ≤ G * (M : Rat) - l)) :
    (G - V) * (M : Rat) ≤ b + 1 / 2 + (M : Rat) * (31 / 8 * (1 / 16777216)) ∧ -(b + 1 / 2 + (M : Rat) * (31 / 8 * (1 / 16777216))) ≤ (G - V) * (M : Rat) := by
  rcases hG with ⟨rfl, rfl⟩ | ⟨h3, h1, h2⟩
  · have : ((1 : Nat) : Rat) = 1 := rfl
    constructor <;> grind
  · have h4 : (3 : Rat) ≤ (M : Rat) := by have := Rat.natCast_le_natCast.2 h3; simpa using this
    constructor <;> grind
/-! ### In doubles -/
theorem aD_nearest (s : Bool) (m : Nat) (e : Int) : aD (FloatKind.f64.format.nearest s m e) = FloatKind.f64.format.nearest false m e := by
  have hl := rung_lt FloatKind.f64.format m e
  have hsw : FloatKind.f64.format.signWeight = 9223372036854775808 := by decide
  rw [nearest_sign, aD_lt]
  · unfold Ieee.Format.word; rw [hsw] at hl ⊢; cases s <;> simp <;> omega
  · unfold Ieee.Format.word; rw [hsw] at hl ⊢; cases s <;> simp <;> omega
theorem near64 {b : Nat} {s : Bool} {m : Nat} {e : Int} (K : Int) (hb : b = FloatKind.f64.format.nearest s m e) (h : mv m e ≤ p2 K) (h1 : -1000 ≤ K) (h2 : K ≤ 20) :
    ∃ M P, FloatKind.f64.decode b = .number s M P ∧ (rv (.number s M P) - rv (.number s m e)).abs ≤ p2 (-30) := by
  have e4 : FloatKind.f64.format.leastPlace = -1074 := by decide
  have e5 : ((2 ^ FloatKind.f64.format.exponentBits : Nat) : Int) = 2048 := by decide
  have e6 : FloatKind.f64.format.fractionBits = 52 := by decide
  obtain ⟨M, P, c1, -, c3⟩ := near_rv (k := .f64) K hb h (by rw [e4]; omega) (by rw [e4, e5, e6]; omega)
  refine ⟨M, P, c1, ?_⟩
  have := p2_le (show max (K - (FloatKind.f64.format.fractionBits : Int)) FloatKind.f64.format.leastPlace - 1 ≤ -30 by rw [e4, e6]; omega)
  grind
/-- The step (or its half). -/
def stepP (z : Bool) (M : Int) : Nat := if z then fC .quo .f64 (fC .quo .f64 4607182418800017408 (floatOfInt .f64 M)) 4611686018427387904 else fC .quo .f64 4607182418800017408 (floatOfInt .f64 M)
theorem step_one (M : Nat) (M1 : 1 ≤ M) (M2 : M ≤ 65535) : ∃ A Ap, FloatKind.f64.decode (fC .quo .f64 4607182418800017408 (floatOfInt .f64 (M : Int))) = .number false A Ap ∧ nan .f64 (fC .quo .f64 4607182418800017408 (floatOfInt .f64 (M : Int))) = false ∧ mv A Ap ≤ 3 / 2 ∧ 1 ≤ mv A Ap * (M : Rat) + (M : Rat) * (1 / 1073741824) + 1 / 18014398509481984 := by
  have q30 : p2 (-30) = 1 / 1073741824 := by decide +kernel
  have q1 : p2 1 = 2 := by decide +kernel
  have q54 : p2 (-54) = 1 / 18014398509481984 := by decide +kernel
  have e6 : (-(FloatKind.f64.format.fractionBits : Int) - 2) = -54 := by decide
  have hMr : (1 : Rat) ≤ (M : Rat) := by have := Rat.natCast_le_natCast.2 M1; simpa using this
  obtain ⟨Mm, Mi, b1, b2⟩ := ofInt_val .f64 (M : Int) (by omega)
  have sM : decide ((M : Int) < 0) = false := by simp
  rw [sM] at b1
  have b2 : mv Mm Mi = (M : Rat) := by rw [b2]; rfl
  have hMm : Mm ≠ 0 := by
    intro h0; rw [h0] at b2
    have e0 : mv 0 Mi = 0 := by unfold mv; simp
    rw [e0] at b2; grind
  have c1 : FloatKind.f64.decode 4607182418800017408 = .number false 4503599627370496 (-52) := by decide +kernel
  have v1 : mv 4503599627370496 (-52) = 1 := by decide +kernel
  obtain ⟨c, ce, d1, d2, d3⟩ := quo_num c1 b1 hMm
  have hs : (false ^^ false) = false := rfl
  rw [hs] at d1
  rw [e6, q54, v1, b2, abs_le_iff] at d2
  have hc2 : mv c ce ≤ 5 / 4 := by
    have h1 : mv c ce * (M : Rat) ≤ 5 / 4 * (M : Rat) := by grind
    exact Rat.le_of_mul_le_mul_right h1 (by grind)
  obtain ⟨A, Ap, A1, A2⟩ := near64 1 d1 (by rw [q1]; grind) (by omega) (by omega)
  have r1 : rv (.number false A Ap) = mv A Ap := by unfold rv; simp
  have r2 : rv (.number false c ce) = mv c ce := by unfold rv; simp
  rw [r1, r2, q30, abs_le_iff] at A2
  have hM0 : (0 : Rat) ≤ (M : Rat) := by grind
  have m2 := Rat.mul_le_mul_of_nonneg_right A2.2 hM0
  exact ⟨A, Ap, A1, d3, by grind, by grind⟩
theorem step_all (z : Bool) (M : Nat) (M1 : 1 ≤ M) (M2 : M ≤ 65535) : ∃ A Ap, FloatKind.f64.decode (stepP z (M : Int)) = .number false A Ap ∧ nan .f64 (stepP z (M : Int)) = false ∧ mv A Ap ≤ 3 / 2 ∧ (if z then 1 / 2 else 1) ≤ mv A Ap * (M : Rat) + (M : Rat) * (2 * (1 / 1073741824)) + 2 * (1 / 18014398509481984) := by
  obtain ⟨A, Ap, A1, A2, A3, A4⟩ := step_one M M1 M2
  have hMr : (1 : Rat) ≤ (M : Rat) := by have := Rat.natCast_le_natCast.2 M1; simpa using this
  have hM0 : (0 : Rat) ≤ (M : Rat) := by grind
  cases z with
  | false =>
    have e : stepP false (M : Int) = fC .quo .f64 4607182418800017408 (floatOfInt .f64 (M : Int)) := by unfold stepP; rw [if_neg Bool.false_ne_true]
    rw [e]
    refine ⟨A, Ap, A1, A2, A3, ?_⟩
    rw [if_neg Bool.false_ne_true]
    grind
  | true =>
    have e : stepP true (M : Int) = fC .quo .f64 (fC .quo .f64 4607182418800017408 (floatOfInt .f64 (M : Int))) 4611686018427387904 := by unfold stepP; rw [if_pos rfl]
    rw [e]
    have q30 : p2 (-30) = 1 / 1073741824 := by decide +kernel
    have q1 : p2 1 = 2 := by decide +kernel
    have q54 : p2 (-54) = 1 / 18014398509481984 := by decide +kernel
    have e6 : (-(FloatKind.f64.format.fractionBits : Int) - 2) = -54 := by decide
    have c1 : FloatKind.f64.decode 4611686018427387904 = .number false 4503599627370496 (-51) := by decide +kernel
    have v1 : mv 4503599627370496 (-51) = 2 := by decide +kernel
    obtain ⟨c, ce, d1, d2, d3⟩ := quo_num A1 c1 (by decide)
    have hs : (false ^^ false) = false := rfl
    rw [hs] at d1
    rw [e6, q54, v1, abs_le_iff] at d2
    have hc0 := mv_nonneg A Ap
    obtain ⟨C, Cp, C1, C2⟩ := near64 1 d1 (by rw [q1]; grind) (by omega) (by omega)
    have r1 : rv (.number false C Cp) = mv C Cp := by unfold rv; simp
    have r2 : rv (.number false c ce) = mv c ce := by unfold rv; simp
    rw [r1, r2, q30, abs_le_iff] at C2
    have m2 := Rat.mul_le_mul_of_nonneg_right C2.2 hM0
    have m3 := Rat.mul_le_mul_of_nonneg_right d2.2 hM0
    have m4 := Rat.mul_le_mul_of_nonneg_right A3 hM0
    refine ⟨C, Cp, C1, d3, by grind, ?_⟩
    rw [if_pos rfl]
    grind
theorem top_test (g v : Nat) (z : Bool) (M : Nat) (M1 : 1 ≤ M) (M2 : M ≤ 65535) {sg : Bool} {gm : Nat} {ge : Int} (hg : FloatKind.f32.decode g = .number sg gm ge) {s : Bool} {m : Nat} {e : Int} (hv : FloatKind.f32.decode v = .number s m e)
    (hd : (rv (.number sg gm ge) - rv (.number s m e)) * (M : Rat) ≤ (if z then 1 / 2 else 1) + (M : Rat) * (31 / 8 * (1 / 16777216)) ∧ -((if z then 1 / 2 else 1) + (M : Rat) * (31 / 8 * (1 / 16777216))) ≤ (rv (.number sg gm ge) - rv (.number s m e)) * (M : Rat)) :
    nan .f64 (fC .sub .f64 (dC g) (dC v)) = false ∧ nan .f64 (fC .add .f64 (stepP z (M : Int)) 4508103226997866496) = false ∧
    (FloatKind.f64.format.order (aD (fC .sub .f64 (dC g) (dC v))) (fC .add .f64 (stepP z (M : Int)) 4508103226997866496) == some .gt) = false := by
  have q30 : p2 (-30) = 1 / 1073741824 := by decide +kernel
  have q1 : p2 1 = 2 := by decide +kernel
  have hMr : (1 : Rat) ≤ (M : Rat) := by have := Rat.natCast_le_natCast.2 M1; simpa using this
  have hM0 : (0 : Rat) ≤ (M : Rat) := by grind
  obtain ⟨A, Ap, A1, A2, A3, A4⟩ := step_all z M M1 M2
  have hz : (if z then (1 : Rat) / 2 else 1) ≤ 1 := by cases z <;> simp <;> grind
  generalize (if z then (1 : Rat) / 2 else 1) = b at *
  generalize stepP z (M : Int) = S at *
  obtain ⟨Gm, Gi, g1, g2⟩ := dC_num hg
  obtain ⟨Vm, Vi, p1, p2'⟩ := dC_num hv
  have hG : rv (.number sg Gm Gi) = rv (.number sg gm ge) := by unfold rv; dsimp only; rw [g2]
  have hV : rv (.number s Vm Vi) = rv (.number s m e) := by unfold rv; dsimp only; rw [p2']
  obtain ⟨u, x, xe, x1, x2, xn⟩ := sub_num g1 p1
  rw [hG, hV] at x2
  rw [← x2] at hd
  have hx1 : rv (.number u x xe) ≤ 9 / 8 := by
    refine Rat.le_of_mul_le_mul_right (c := (M : Rat)) ?_ (by grind)
    grind
  have hx2 : -(9 / 8) ≤ rv (.number u x xe) := by
    refine Rat.le_of_mul_le_mul_right (c := (M : Rat)) ?_ (by grind)
    grind
  have hxb : mv x xe ≤ 9 / 8 := rv_le' hx1 hx2
  have hax := aD_nearest u x xe
  obtain ⟨C, Cp, C1, C2⟩ := near64 (b := aD (fC .sub .f64 (dC g) (dC v))) 1 (by rw [x1]; exact hax) (by rw [q1]; grind) (by omega) (by omega)
  have r1 : rv (.number false C Cp) = mv C Cp := by unfold rv; simp
  have hx0 : rv (.number false x xe) = mv x xe := by unfold rv; simp
  rw [r1, hx0, q30, abs_le_iff] at C2
  have hxM : mv x xe * (M : Rat) ≤ b + (M : Rat) * (31 / 8 * (1 / 16777216)) := by
    have hh := mv_nonneg x xe
    unfold rv at hd
    cases u <;> simp at hd <;> grind
  have c64 : FloatKind.f64.decode 4508103226997866496 = .number false 4503599627370496 (-74) := by decide +kernel
  have v64 : mv 4503599627370496 (-74) = 1 / 4194304 := by decide +kernel
  obtain ⟨w, y, ye, y1, y2, yn⟩ := add_num A1 c64
  have hy2 : rv (.number w y ye) = mv A Ap + 1 / 4194304 := by
    rw [y2]; unfold rv; simp only [Bool.false_eq_true, if_false]; rw [v64]
  have hA0 := mv_nonneg A Ap
  have hyb : mv y ye ≤ p2 1 := rv_le' (s := w) (by rw [hy2, q1]; grind) (by rw [hy2, q1]; grind)
  obtain ⟨Y, Yp, Y1, Y2⟩ := near64 1 y1 hyb (by omega) (by omega)
  rw [hy2, q30, abs_le_iff] at Y2
  refine ⟨xn, yn, ?_⟩
  have C1 : FloatKind.f64.format.read (aD _) = _ := C1
  have Y1 : FloatKind.f64.format.read _ = _ := Y1
  unfold Ieee.Format.order
  rw [C1, Y1, beq_eq_false_iff_ne]
  intro hgt
  rw [order_gt, r1] at hgt
  have m1 := Rat.mul_le_mul_of_nonneg_right C2.1 hM0
  have m2 := Rat.mul_le_mul_of_nonneg_right Y2.2 hM0
  have hle : mv C Cp ≤ rv (.number w Y Yp) := by
    refine Rat.le_of_mul_le_mul_right (c := (M : Rat)) ?_ (by grind)
    grind
  grind
end Go.Proofs.Ytfphhlodfieopaa
