/- The share and the offset as numbers; the test of one value. Conditions: none. -/
import Derived.Test.YtfphhlodfieopaaTm
namespace Go.Proofs.Ytfphhlodfieopaa
open Go
open Go.RowKit
open Fl Fr
theorem share_num (v : Nat) (c1 : (FloatKind.f32.format.order v 0 == some .gt || FloatKind.f32.format.order v 0 == some .eq) = true)
    (c2 : (FloatKind.f32.format.order v 1065353216 == some .lt || FloatKind.f32.format.order v 1065353216 == some .eq) = true) :
    ∃ s m e, FloatKind.f32.decode v = .number s m e ∧ 0 ≤ rv (.number s m e) ∧ rv (.number s m e) ≤ 1 := by
  have k0 : FloatKind.f32.format.read 0 = .number false 0 (-149) := by decide +kernel
  have k1 : FloatKind.f32.format.read 1065353216 = .number false 8388608 (-23) := by decide +kernel
  have z0 : rv (.number false 0 (-149)) = 0 := by unfold rv mv; simp
  have z1 : rv (.number false 8388608 (-23)) = 1 := by decide +kernel
  unfold Ieee.Format.order at c1 c2
  rw [k0] at c1
  rw [k1] at c2
  cases hd : FloatKind.f32.format.read v with
  | number s m e =>
    refine ⟨s, m, e, hd, ?_, ?_⟩
    · rw [hd, Bool.or_eq_true, beq_iff_eq, beq_iff_eq, order_gt, order_eq, z0] at c1
      grind
    · rw [hd, Bool.or_eq_true, beq_iff_eq, beq_iff_eq, order_lt, order_eq, z1] at c2
      grind
  | infinity s =>
    rw [hd] at c1 c2
    cases s
    · exact absurd c2 (by decide)
    · exact absurd c1 (by decide)
  | nan s f =>
    rw [hd] at c1
    exact absurd c1 (by simp [Ieee.Datum.order])


theorem off_num : ∀ n : Nat, n < 64 → (match FloatKind.f32.decode (offO n) with | .number s m e => decide (rv (.number s m e) ≤ 1 / 2) && decide (-(1 / 2) ≤ rv (.number s m e)) | _ => false) = true := by decide +kernel
theorem offO_bd (n : Nat) (h : n < 64) : ∃ s m e, FloatKind.f32.decode (offO n) = .number s m e ∧ rv (.number s m e) ≤ 1 / 2 ∧ -(1 / 2) ≤ rv (.number s m e) := by
  have h1 := off_num n h
  cases hd : FloatKind.f32.decode (offO n) with
  | number s m e =>
    rw [hd] at h1
    simp only [Bool.and_eq_true] at h1
    exact ⟨s, m, e, rfl, of_decide_eq_true h1.1, of_decide_eq_true h1.2⟩
  | infinity s => rw [hd] at h1; cases h1
  | nan s f => rw [hd] at h1; cases h1
theorem offH_bd (h : Int) (h0 : 0 ≤ h) (h1 : h < 4294967296) : ∃ s m e, FloatKind.f32.decode (offH h) = .number s m e ∧ rv (.number s m e) ≤ 1 / 2 ∧ -(1 / 2) ≤ rv (.number s m e) := by
  obtain ⟨m, i, a1, a2⟩ := ofInt_val .f32 (h / 256) (by omega)
  have sn : decide (h / 256 < 0) = false := by simp; omega
  rw [sn] at a1
  have hz : FloatKind.f32.decode 864026624 = .number false 8388608 (-47) := by decide +kernel
  obtain ⟨b1, b2, -⟩ := mul_num a1 hz
  have hs : (false ^^ false) = false := rfl
  rw [hs] at b1
  have e1 : FloatKind.f32.format.leastPlace = -149 := by decide
  have e2 : FloatKind.f32.format.fractionBits = 23 := by decide
  have e3 : ((2 ^ FloatKind.f32.format.exponentBits : Nat) : Int) = 256 := by decide
  have q : mv 8388608 (-47) = 1 / 16777216 := by decide +kernel
  have hb : mv (m * 8388608) (i + -47) ≤ p2 0 := by
    rw [b2, a2, natCast_cases _ (by omega), p2_zero, q]
    have hq : ((h / 256 : Int) : Rat) ≤ ((16777216 : Int) : Rat) := Rat.intCast_le_intCast.2 (by omega)
    have : ((16777216 : Int) : Rat) = 16777216 := rfl
    grind
  obtain ⟨M, P, c1, c2, -⟩ := near_rv (k := .f32) 0 b1 hb (by rw [e1]; decide) (by rw [e1, e2, e3]; decide)
  rw [p2_zero] at c2
  have hh : FloatKind.f32.decode 1056964608 = .number false 8388608 (-24) := by decide +kernel
  have vh : mv 8388608 (-24) = 1 / 2 := by decide +kernel
  obtain ⟨u, z, ze, z1, z2, -⟩ := sub_num c1 hh
  have r1 : rv (.number false M P) = mv M P := by unfold rv; simp
  have r2 : rv (.number false 8388608 (-24)) = 1 / 2 := by unfold rv; simp only [Bool.false_eq_true, if_false]; exact vh
  rw [r1, r2] at z2
  have m0 := mv_nonneg M P
  have qm : p2 (-1) = 1 / 2 := by decide +kernel
  obtain ⟨Z, Zp, w1, w2, -⟩ := near_rv (k := .f32) (-1) z1 (by rw [qm]; exact rv_le' (s := u) (by rw [z2]; grind) (by rw [z2]; grind)) (by rw [e1]; decide) (by rw [e1, e2, e3]; decide)
  rw [qm] at w2
  have hr := rv_neg (s := u) (m := Z) (e := Zp)
  exact ⟨u, Z, Zp, w1, by grind, by grind⟩
theorem off_zero : ∃ s m e, FloatKind.f32.decode 0 = .number s m e ∧ rv (.number s m e) = 0 := ⟨false, 0, -149, by decide +kernel, by decide +kernel⟩
theorem offK_bd (how s x y W : Int) (k : Nat) (h0 : 0 ≤ how) (h2 : how ≤ 2) : ∃ so m e, FloatKind.f32.decode (offK how s x y W k) = .number so m e ∧ rv (.number so m e) ≤ (if (how == 0) then 0 else 1 / 2) ∧ -(if (how == 0) then (0 : Rat) else 1 / 2) ≤ rv (.number so m e) := by
  obtain ⟨s0, m0, e0, z1, z2⟩ := off_zero
  unfold offK
  split
  · obtain rfl | rfl | rfl : how = 0 ∨ how = 1 ∨ how = 2 := by omega
    · rw [offP_0]; exact ⟨s0, m0, e0, z1, by rw [z2]; decide +kernel, by rw [z2]; decide +kernel⟩
    · rw [offP_1]
      obtain ⟨a, b, c, d1, d2, d3⟩ := offO_bd (ordP ((x + (k : Int) / 4 % W) % 8).toNat ((y + (k : Int) / 4 / W) % 8).toNat) (ordP_lt _ (by omega) _ (by omega))
      exact ⟨a, b, c, d1, d2, d3⟩
    · rw [offP_2]
      have hr := hIt_range s (x + (k : Int) / 4 % W) (y + (k : Int) / 4 / W) ((k : Int) % 4) 3
      obtain ⟨a, b, c, d1, d2, d3⟩ := offH_bd _ hr.1 hr.2
      exact ⟨a, b, c, d1, d2, d3⟩
  · refine ⟨s0, m0, e0, z1, ?_, ?_⟩
    · rw [z2]; split <;> decide +kernel
    · rw [z2]; split <;> decide +kernel
theorem most_three {d M : Int} (h1 : 1 ≤ d) (h2 : d ≤ 16) (hM : wrap64 (wrap64 (2 ^ d.toNat) - 1) = M) : M = 1 ∨ 3 ≤ M := by
  have key : ∀ k : Nat, k < 17 → 1 ≤ k → (wrap64 (wrap64 (2 ^ k) - 1) = 1 ∨ 3 ≤ wrap64 (wrap64 (2 ^ k) - 1)) := by decide +kernel
  have := key d.toNat (by omega) (by omega)
  rw [hM] at this
  exact this
/-- The test of one value. -/
theorem top_px (how s x y W : Int) (z : Nat → Nat) (k : Nat) (M : Int) (h0 : 0 ≤ how) (h2 : how ≤ 2) (m1 : 1 ≤ M) (m2 : M ≤ 65535) (m3 : M = 1 ∨ 3 ≤ M)
    (c1 : (FloatKind.f32.format.order (z k) 0 == some .gt || FloatKind.f32.format.order (z k) 0 == some .eq) = true) (c2 : (FloatKind.f32.format.order (z k) 1065353216 == some .lt || FloatKind.f32.format.order (z k) 1065353216 == some .eq) = true) :
    nan .f32 (z k) = false ∧ nan .f32 (valP (lvK how s x y W M z k) M) = false ∧ nan .f64 (fC .sub .f64 (dC (valP (lvK how s x y W M z k) M)) (dC (z k))) = false ∧ nan .f64 (fC .add .f64 (stepP (how == 0) M) 4508103226997866496) = false ∧
    (FloatKind.f64.format.order (aD (fC .sub .f64 (dC (valP (lvK how s x y W M z k) M)) (dC (z k)))) (fC .add .f64 (stepP (how == 0) M) 4508103226997866496) == some .gt) = false := by
  obtain ⟨sv, mvv, ev, hv, v0, v1⟩ := share_num _ c1 c2
  obtain ⟨so, mo, eo, ho, o1, o2⟩ := offK_bd how s x y W k h0 h2
  have hbd := level_bd (z k) (offK how s x y W k) M (by omega) (by omega)
  obtain ⟨Mn, rfl⟩ := Int.eq_ofNat_of_zero_le (show 0 ≤ M by omega)
  have hlev := level_off (z k) (offK how s x y W k) Mn (if (how == 0) then 0 else 1 / 2) hv v0 v1 ho o1 o2 (by split <;> decide +kernel) (by omega) (by omega)
  unfold lvK
  obtain ⟨l, hl⟩ := Int.eq_ofNat_of_zero_le hbd.1
  rw [hl] at hlev hbd ⊢
  rw [Rat.intCast_natCast] at hlev
  have hG : ∃ gm ge, FloatKind.f32.decode (valP (l : Int) (Mn : Int)) = .number false gm ge ∧ ((Mn = 1 ∧ mv gm ge = l) ∨ (3 ≤ Mn ∧ mv gm ge * (Mn : Rat) - l ≤ (Mn : Rat) * (16 / 10 * (1 / 16777216)) ∧ -((Mn : Rat) * (16 / 10 * (1 / 16777216))) ≤ mv gm ge * (Mn : Rat) - l)) := by
    by_cases h1 : Mn = 1
    · subst h1
      obtain ⟨gm, ge, a, b⟩ := val_near1 l (by omega)
      exact ⟨gm, ge, a, Or.inl ⟨rfl, b⟩⟩
    · obtain ⟨gm, ge, a, b⟩ := val_near l Mn (by omega) (by omega) (by omega)
      exact ⟨gm, ge, a, Or.inr ⟨by omega, b⟩⟩
  obtain ⟨gm, ge, hg, hGG⟩ := hG
  have hrat := top_rat (mv gm ge) (rv (.number sv mvv ev)) _ l Mn (by omega) hlev hGG
  have r1 : rv (.number false gm ge) = mv gm ge := by unfold rv; simp
  have hb : (if (how == 0) then (0 : Rat) else 1 / 2) + 1 / 2 = if (how == 0) then 1 / 2 else 1 := by split <;> decide +kernel
  rw [hb, ← r1] at hrat
  obtain ⟨t1, t2, t3⟩ := top_test (valP (l : Int) (Mn : Int)) (z k) (how == 0) Mn (by omega) (by omega) hg hv hrat
  exact ⟨nan_of_num hv, nan_of_num hg, t1, t2, t3⟩
end Go.Proofs.Ytfphhlodfieopaa
