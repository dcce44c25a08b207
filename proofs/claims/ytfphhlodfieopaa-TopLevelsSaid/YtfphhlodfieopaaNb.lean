/- Levels are levels: the nearest integer lies between the bounds. Conditions: none. -/
import Derived.Test.YtfphhlodfieopaaLs
namespace Go.Proofs.Ytfphhlodfieopaa.Fl
open Go
open Fr

theorem cut_zero_le (s : Bool) (n d : Nat) : Ieee.Toward.zero.cut s n d * 2 ^ d ≤ n := by
  unfold Ieee.Toward.cut
  dsimp only
  simp only [Bool.toNat_false, Nat.add_zero, Nat.one_shiftLeft]
  by_cases h : d ≤ n.log2 + 2
  · rw [Nat.min_eq_left h]; exact Nat.div_mul_le_self _ _
  · rw [Nat.min_eq_right (by omega)]
    have h1 : n < 2 ^ (n.log2 + 1) := Nat.lt_log2_self
    have h2 : 2 ^ (n.log2 + 1) ≤ 2 ^ (n.log2 + 2) := Nat.pow_le_pow_right (by decide) (by omega)
    rw [Nat.div_eq_of_lt (by omega), Nat.zero_mul]; exact Nat.zero_le _

theorem toInt_bd {x : Nat} {s : Bool} {m : Nat} {e : Int} {M : Int} (hx : FloatKind.f64.decode x = .number s m e) (h0 : 0 ≤ M) (l1 : ¬ rv (.number s m e) < 0) (l2 : ¬ (M : Rat) < rv (.number s m e)) :
    0 ≤ (floatToIntVal .f64 x .i64).getD 0 ∧ (floatToIntVal .f64 x .i64).getD 0 ≤ M := by
  have hc := cut_zero_le s (m <<< e.toNat) (-e).toNat
  unfold floatToIntVal
  rw [hx]
  have h3 : (Ieee.Datum.number s m e).toInt .zero = some (Ieee.signed s (Ieee.Toward.zero.cut s (m <<< e.toNat) (-e).toNat) 0) := by unfold Ieee.Datum.toInt Ieee.Datum.integral; rfl
  rw [h3]
  rw [Nat.shiftLeft_eq] at hc ⊢
  generalize Ieee.Toward.zero.cut s (m * 2 ^ e.toNat) (-e).toNat = c at *
  have e5 : Ieee.signed s c 0 = if s then -(c : Int) else c := by unfold Ieee.signed; simp
  rw [e5]
  have e1 : mv (m * 2 ^ e.toNat) (-((-e).toNat : Int)) = mv m e := by rw [mv_shift]; congr 1; omega
  have e2 : mv (c * 2 ^ (-e).toNat) (-((-e).toNat : Int)) = (c : Rat) := by
    rw [mv_shift]
    have : -((-e).toNat : Int) + ((-e).toNat : Int) = 0 := by omega
    rw [this]; unfold mv; rw [p2_zero]; grind
  have e3 : (c : Rat) ≤ mv m e := by rw [← e1, ← e2]; exact mv_le hc _
  have hb : 0 ≤ (if s then -(c : Int) else (c : Int)) ∧ (if s then -(c : Int) else (c : Int)) ≤ M := by
    cases s with
    | true =>
      have f1 : rv (.number true m e) = -(mv m e) := rfl
      rw [f1] at l1
      have f2 : (c : Rat) ≤ ((0 : Nat) : Rat) := by
        have : ((0 : Nat) : Rat) = 0 := rfl
        rw [this]; grind
      have f3 := Rat.natCast_le_natCast.1 f2
      simp; omega
    | false =>
      have f1 : rv (.number false m e) = mv m e := rfl
      rw [f1] at l2
      have f2 : ((c : Int) : Rat) ≤ (M : Rat) := by rw [Rat.intCast_natCast]; grind
      have f3 := Rat.intCast_le_intCast.1 f2
      simp; omega
  generalize (if s then -(c : Int) else (c : Int)) = z at *
  dsimp only
  split
  · exact hb
  · exact ⟨Int.le_refl _, h0⟩

theorem nearP_bd (b : Nat) (M : Int) (h0 : 0 ≤ M) (h2 : M ≤ 16777216) : 0 ≤ (nearP b 0 M).1 ∧ (nearP b 0 M).1 ≤ M := by
  unfold nearP
  split
  · exact ⟨Int.le_refl _, h0⟩
  split
  · exact ⟨Int.le_refl _, h0⟩
  split
  · exact ⟨h0, Int.le_refl _⟩
  rename_i g1 g2 g3
  generalize rC (dC b) = x at *
  cases hx : FloatKind.f64.decode x with
  | number s m e =>
    obtain ⟨s1, M1, P1, b1, b2⟩ := ofInt_rv .f64 0 (by omega)
    obtain ⟨s2, M2, P2, b3, b4⟩ := ofInt_rv .f64 M (by omega)
    have x1 : FloatKind.f64.format.read x = _ := hx
    have x2 : FloatKind.f64.format.read (floatOfInt .f64 0) = _ := b1
    have x3 : FloatKind.f64.format.read (floatOfInt .f64 M) = _ := b3
    refine toInt_bd hx h0 ?_ ?_
    · intro h
      refine g2 ?_
      unfold Ieee.Format.order; rw [x1, x2, beq_iff_eq, order_lt, b2]
      exact h
    · intro h
      refine g3 ?_
      unfold Ieee.Format.order; rw [x1, x3, beq_iff_eq, order_gt, b4]
      exact h
  | infinity s =>
    have : (floatToIntVal .f64 x .i64) = none := by unfold floatToIntVal; rw [hx]; rfl
    rw [this]; exact ⟨Int.le_refl _, h0⟩
  | nan s f =>
    have : (floatToIntVal .f64 x .i64) = none := by unfold floatToIntVal; rw [hx]; rfl
    rw [this]; exact ⟨Int.le_refl _, h0⟩
end Go.Proofs.Ytfphhlodfieopaa.Fl
namespace Go.Proofs.Ytfphhlodfieopaa
open Fl
theorem level_bd (v o : Nat) (M : Int) (h0 : 0 ≤ M) (h2 : M ≤ 16777216) : 0 ≤ levelP v o M ∧ levelP v o M ≤ M := nearP_bd _ M h0 h2
theorem levelP_l {v c : Nat} (o : Nat) (M : Int) (h : cl .f32 v = c) : levelP v o M = levelP c o M := by
  unfold levelP; rw [← h, fC_cl_l]
end Go.Proofs.Ytfphhlodfieopaa
