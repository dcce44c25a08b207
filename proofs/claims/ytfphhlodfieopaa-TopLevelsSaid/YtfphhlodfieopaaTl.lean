/- A level's value is near to what it was made of: plain law of TopLevels. Conditions: none. -/
import Derived.Test.YtfphhlodfieopaaNb
import Derived.Test.YtfphhlodfieopaaAb
namespace Go.Proofs.Ytfphhlodfieopaa
open Go
open Fl Fr

theorem rv_le' {s : Bool} {m : Nat} {e : Int} {b : Rat} (h1 : rv (.number s m e) ≤ b) (h2 : -b ≤ rv (.number s m e)) : mv m e ≤ b := by
  unfold rv at h1 h2
  cases s <;> simp at h1 h2 <;> grind
theorem rv_neg {s : Bool} {m : Nat} {e : Int} : rv (.number s m e) ≤ mv m e ∧ -(mv m e) ≤ rv (.number s m e) := by
  have := mv_nonneg m e
  unfold rv
  cases s <;> simp <;> grind
theorem eps_eta : p2 (-24) = 1 / 16777216 ∧ p2 (-150) ≤ 1 / 1152921504606846976 := by decide +kernel
/-- A single's rounding, by its share. -/
theorem near_rel {b : Nat} {s : Bool} {m : Nat} {e : Int} (hb : b = FloatKind.f32.format.nearest s m e) (h : mv m e ≤ p2 17) :
    ∃ M P, FloatKind.f32.decode b = .number s M P ∧ rv (.number s M P) - rv (.number s m e) ≤ mv m e * (1 / 16777216) + 1 / 1152921504606846976 ∧ -(mv m e * (1 / 16777216) + 1 / 1152921504606846976) ≤ rv (.number s M P) - rv (.number s m e) := by
  have e1 : FloatKind.f32.format.leastPlace = -149 := by decide
  have e2 : FloatKind.f32.format.fractionBits = 23 := by decide
  have e3 : ((2 ^ FloatKind.f32.format.exponentBits : Nat) : Int) = 256 := by decide
  obtain ⟨M, P, r1, -, -, -, r5⟩ := near_err FloatKind.f32.format s m e 17 h (by rw [e1]; decide) (by rw [e1, e2, e3]; decide) (by decide)
  have q1 : (-(FloatKind.f32.format.fractionBits : Int) - 1) = -24 := by rw [e2]; rfl
  have q2 : FloatKind.f32.format.leastPlace - 1 = -150 := by rw [e1]; rfl
  rw [q1, q2, eps_eta.1] at r5
  have h2 := eps_eta.2
  have h0 := mv_nonneg m e
  have r : (mv M P - mv m e).abs ≤ mv m e * (1 / 16777216) + 1 / 1152921504606846976 := by
    rcases r5 with r | r
    · grind
    · grind
  rw [abs_le_iff] at r
  refine ⟨M, P, by rw [hb]; exact r1, ?_⟩
  unfold rv
  cases s <;> simp <;> constructor <;> grind

/-- The level lies near. -/
theorem level_off (v o M : Nat) (b : Rat) {s : Bool} {m : Nat} {e : Int} (hv : FloatKind.f32.decode v = .number s m e) (v0 : 0 ≤ rv (.number s m e)) (v1 : rv (.number s m e) ≤ 1)
    {so : Bool} {mo : Nat} {eo : Int} (ho : FloatKind.f32.decode o = .number so mo eo) (o1 : rv (.number so mo eo) ≤ b) (o2 : -b ≤ rv (.number so mo eo)) (hb : b ≤ 1 / 2) (M1 : 1 ≤ M) (M2 : M ≤ 65535) :
    (levelP v o (M : Int) : Rat) - rv (.number s m e) * (M : Rat) ≤ b + 1 / 2 + (2 * (M : Rat) + 101 / 200) * (1 / 16777216) + 2 * (1 / 1152921504606846976) ∧
    -(b + 1 / 2 + (2 * (M : Rat) + 101 / 200) * (1 / 16777216) + 2 * (1 / 1152921504606846976)) ≤ (levelP v o (M : Int) : Rat) - rv (.number s m e) * (M : Rat) := by
  have q17 : p2 17 = 131072 := by decide +kernel
  have hMr : (1 : Rat) ≤ (M : Rat) := by have := Rat.natCast_le_natCast.2 M1; simpa using this
  have hMr2 : (M : Rat) ≤ 65535 := by have := Rat.natCast_le_natCast.2 M2; simpa using this
  have hb0 : 0 ≤ b := by grind
  obtain ⟨Mm, Mi, b1, b2⟩ := ofInt_val .f32 (M : Int) (by omega)
  have sM : decide ((M : Int) < 0) = false := by simp
  rw [sM] at b1
  have b2 : mv Mm Mi = (M : Rat) := by rw [b2]; rfl
  obtain ⟨c1, c2, -⟩ := mul_num hv b1
  have hs : (s ^^ false) = s := by cases s <;> rfl
  rw [hs] at c1
  have hrv : rv (.number s (m * Mm) (e + Mi)) = rv (.number s m e) * (M : Rat) := by
    unfold rv; dsimp only; rw [c2, b2]; cases s <;> simp <;> grind
  have hVM0 : 0 ≤ rv (.number s m e) * (M : Rat) := Rat.mul_nonneg v0 (by grind)
  have hVM1 : rv (.number s m e) * (M : Rat) ≤ M := by
    have := Rat.mul_le_mul_of_nonneg_right v1 (show (0 : Rat) ≤ (M : Rat) by grind)
    grind
  have hbb : mv (m * Mm) (e + Mi) ≤ (M : Rat) := rv_le' (by rw [hrv]; exact hVM1) (by rw [hrv]; grind)
  obtain ⟨T, Tp, t1, t2, t3⟩ := near_rel c1 (by grind)
  rw [hrv] at t2 t3
  generalize rv (.number s m e) * (M : Rat) = VM at *
  obtain ⟨u, z, ze, z1, z2, -⟩ := add_num t1 ho
  have hzb : mv z ze ≤ (M : Rat) + b + 1 / 200 := by
    refine rv_le' (s := u) ?_ ?_ <;> rw [z2] <;> grind
  obtain ⟨Z, Zp, w1, w2, w3⟩ := near_rel z1 (by grind)
  rw [z2] at w2 w3
  have hzz : rv (.number u Z Zp) ≤ 65540 ∧ -65540 ≤ rv (.number u Z Zp) := by constructor <;> grind
  obtain ⟨cc, x1, x2, x3⟩ := nearP_num (lo := 0) (hi := (M : Int)) w1 (by
    have : ((16777215 : Nat) : Rat) = 16777215 := rfl
    have := rv_le' (b := 65540) hzz.1 hzz.2
    grind) (by omega) (by omega) (by omega)
  have hL : levelP v o (M : Int) = (if (if u then -(cc : Int) else cc) < 0 then ((0 : Int), false) else if (M : Int) < (if u then -(cc : Int) else cc) then ((M : Int), false) else ((if u then -(cc : Int) else cc), true)).1 := by
    unfold levelP; rw [x3]
  have hz : ((if u then -(cc : Int) else cc : Int) : Rat) - rv (.number u Z Zp) ≤ 1 / 2 ∧ -(1 / 2) ≤ ((if u then -(cc : Int) else cc : Int) : Rat) - rv (.number u Z Zp) := by
    unfold rv
    cases u <;> simp [Rat.intCast_natCast] <;> constructor <;> grind
  generalize (if u then -(cc : Int) else cc : Int) = zz at *
  have hmain : (zz : Rat) - VM ≤ b + 1 / 2 + (2 * (M : Rat) + 101 / 200) * (1 / 16777216) + 2 * (1 / 1152921504606846976) ∧ -(b + 1 / 2 + (2 * (M : Rat) + 101 / 200) * (1 / 16777216) + 2 * (1 / 1152921504606846976)) ≤ (zz : Rat) - VM := by
    constructor <;> grind
  rw [hL]
  by_cases q1 : zz < 0
  · rw [if_pos q1]
    have q2 : (zz : Rat) ≤ ((0 : Int) : Rat) := Rat.intCast_le_intCast.2 (by omega)
    have q3 : ((0 : Int) : Rat) = 0 := rfl
    refine ⟨?_, ?_⟩ <;> simp only [q3] <;> grind
  · rw [if_neg q1]
    by_cases q2 : (M : Int) < zz
    · rw [if_pos q2]
      have q3 : ((M : Int) : Rat) ≤ (zz : Rat) := Rat.intCast_le_intCast.2 (by omega)
      rw [Rat.intCast_natCast] at q3
      refine ⟨?_, ?_⟩ <;> simp only [Rat.intCast_natCast] <;> grind
    · rw [if_neg q2]
      exact hmain
end Go.Proofs.Ytfphhlodfieopaa
