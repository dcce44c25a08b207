/- Plain facts on the mean over the ordered matrix: the sum of 64 levels lies near 64 times the value. Conditions: none. -/
import Derived.Test.YtibkdogjgofljaaLw
import Derived.Test.YtibkdogjgofljaaBw
namespace Go.Proofs.Ytibkdogjgofljaa
open Fl Fr

/-- A sum of the first values of a function. -/
def sumF (f : Nat → Int) : Nat → Int
  | 0 => 0
  | k + 1 => sumF f k + f k
theorem sumF_le {f g : Nat → Int} (n : Nat) (h : ∀ k, k < n → f k ≤ g k) : sumF f n ≤ sumF g n := by
  induction n with
  | zero => exact Int.le_refl _
  | succ n ih =>
    have h1 := ih (fun k hk => h k (by omega))
    have h2 := h n (by omega)
    show sumF f n + f n ≤ sumF g n + g n
    omega
theorem sumF_congr {f g : Nat → Int} (n : Nat) (h : ∀ k, k < n → f k = g k) : sumF f n = sumF g n := by
  induction n with
  | zero => rfl
  | succ n ih =>
    show sumF f n + f n = sumF g n + g n
    rw [ih (fun k hk => h k (by omega)), h n (by omega)]
theorem sumF_add (f g : Nat → Int) (n : Nat) : sumF (fun k => f k + g k) n = sumF f n + sumF g n := by
  induction n with
  | zero => rfl
  | succ n ih =>
    show sumF (fun k => f k + g k) n + (f n + g n) = sumF f n + f n + (sumF g n + g n)
    rw [ih]; omega
theorem sumF_const (c : Int) (n : Nat) : sumF (fun _ => c) n = n * c := by
  induction n with
  | zero => simp [sumF]
  | succ n ih =>
    show sumF (fun _ => c) n + c = _
    rw [ih]; grind

/-- The rank at step k, from a place with these remainders. -/
def nu (X Y k : Nat) : Nat := ordP ((X + k % 8) % 8) ((Y + k / 8) % 8)
theorem nu_lt (X Y k : Nat) : nu X Y k < 64 := ordP_lt _ (Nat.mod_lt _ (by decide)) _ (Nat.mod_lt _ (by decide))

theorem shift8 (g : Nat → Int) (X : Nat) (h : X < 8) : sumF (fun i => g ((X + i) % 8)) 8 = sumF g 8 := by
  have : X = 0 ∨ X = 1 ∨ X = 2 ∨ X = 3 ∨ X = 4 ∨ X = 5 ∨ X = 6 ∨ X = 7 := by omega
  rcases this with rfl | rfl | rfl | rfl | rfl | rfl | rfl | rfl <;> simp [sumF] <;> omega
/-- The first 8 j values, row by row. -/
theorem rows8 (F : Nat → Nat → Int) (j : Nat) : sumF (fun k => F (k % 8) (k / 8)) (8 * j) = sumF (fun j => sumF (fun i => F i j) 8) j := by
  induction j with
  | zero => rfl
  | succ j ih =>
    show _ = sumF (fun j => sumF (fun i => F i j) 8) j + sumF (fun i => F i j) 8
    rw [← ih]
    have e : 8 * (j + 1) = 8 * j + 1 + 1 + 1 + 1 + 1 + 1 + 1 + 1 := by omega
    rw [e]
    simp only [sumF]
    have m : ∀ i, i < 8 → (8 * j + i) % 8 = i ∧ (8 * j + i) / 8 = j := fun i hi => by omega
    have m0 := m 0 (by omega)
    have m1 := m 1 (by omega)
    have m2 := m 2 (by omega)
    have m3 := m 3 (by omega)
    have m4 := m 4 (by omega)
    have m5 := m 5 (by omega)
    have m6 := m 6 (by omega)
    have m7 := m 7 (by omega)
    simp only [Nat.add_zero] at m0
    rw [m0.1, m0.2, m1.1, m1.2, m2.1, m2.2, m3.1, m3.2, m4.1, m4.2, m5.1, m5.2, m6.1, m6.2, m7.1, m7.2]
    omega
theorem nu_sum (h : Nat → Int) (X Y : Nat) (hX : X < 8) (hY : Y < 8) : sumF (fun k => h (nu X Y k)) 64 = sumF (fun k => h (nu 0 0 k)) 64 := by
  have key : ∀ X Y, X < 8 → Y < 8 → sumF (fun k => h (nu X Y k)) 64 = sumF (fun j => sumF (fun i => h (ordP i j)) 8) 8 := by
    intro X Y hX hY
    have := rows8 (fun i j => h (ordP ((X + i) % 8) ((Y + j) % 8))) 8
    rw [show (64 : Nat) = 8 * 8 from rfl]
    refine Eq.trans this ?_
    have h1 : ∀ j, sumF (fun i => h (ordP ((X + i) % 8) ((Y + j) % 8))) 8 = (fun j => sumF (fun i => h (ordP i j)) 8) ((Y + j) % 8) := fun j => shift8 (fun a => h (ordP a ((Y + j) % 8))) X hX
    rw [sumF_congr 8 (fun j _ => h1 j)]
    exact shift8 (fun j => sumF (fun i => h (ordP i j)) 8) Y hY
  rw [key X Y hX hY, key 0 0 (by omega) (by omega)]
theorem base_sum : ∀ r : Nat, r < 64 → sumF (fun k => ((r : Int) + (nu 0 0 k : Nat)) / 64) 64 = r := by decide +kernel
/-- Hermite's identity at 64. -/
theorem hermite (q : Int) (X Y : Nat) (hX : X < 8) (hY : Y < 8) : sumF (fun k => (q + (nu X Y k : Nat)) / 64) 64 = q := by
  rw [nu_sum (fun n => (q + (n : Nat)) / 64) X Y hX hY]
  obtain ⟨r, hr⟩ : ∃ r : Nat, q % 64 = r := ⟨(q % 64).toNat, by omega⟩
  have hb := base_sum r (by omega)
  have e : sumF (fun k => (q + (nu 0 0 k : Nat)) / 64) 64 = sumF (fun k => q / 64 + ((r : Int) + (nu 0 0 k : Nat)) / 64) 64 := sumF_congr 64 fun k _ => by omega
  rw [e, sumF_add, sumF_const, hb]; omega

/-- A sum of levels that lie near t, each moved by its rank. -/
theorem sum_near (L : Nat → Int) (t δ : Rat) (X Y : Nat) (hX : X < 8) (hY : Y < 8)
    (h1 : ∀ n : Nat, n < 64 → 64 * (L n : Rat) - n ≤ 64 * (t + δ) + 1 / 2) (h2 : ∀ n : Nat, n < 64 → 64 * (t - δ) - 127 / 2 ≤ 64 * (L n : Rat) - n) :
    (sumF (fun k => L (nu X Y k)) 64 : Rat) ≤ 64 * (t + δ) + 1 / 2 ∧ 64 * (t - δ) - 1 / 2 ≤ (sumF (fun k => L (nu X Y k)) 64 : Rat) := by
  have c1 : ∀ n : Nat, ((64 * L n - n : Int) : Rat) = 64 * (L n : Rat) - n := fun n => by
    rw [Rat.intCast_sub, Rat.intCast_mul, Rat.intCast_natCast]; rfl
  constructor
  · -- above
    have hq : ∀ n : Nat, n < 64 → 64 * L n - n ≤ (64 * (t + δ) + 1 / 2 : Rat).floor := fun n hn => Rat.le_floor_iff.2 (by rw [c1]; exact h1 n hn)
    have hle : sumF (fun k => L (nu X Y k)) 64 ≤ (64 * (t + δ) + 1 / 2 : Rat).floor := by
      have := hermite (64 * (t + δ) + 1 / 2 : Rat).floor X Y hX hY
      rw [← this]
      refine sumF_le 64 fun k _ => ?_
      have := hq (nu X Y k) (nu_lt X Y k)
      omega
    have := Rat.floor_le (64 * (t + δ) + 1 / 2)
    have h3 := Rat.intCast_le_intCast.2 hle
    grind
  · have hq : ∀ n : Nat, n < 64 → (64 * (t - δ) - 127 / 2 : Rat).ceil ≤ 64 * L n - n := fun n hn => Rat.ceil_le_iff.2 (by rw [c1]; exact h2 n hn)
    have hle : (64 * (t - δ) - 127 / 2 : Rat).ceil + 63 ≤ sumF (fun k => L (nu X Y k)) 64 := by
      have := hermite ((64 * (t - δ) - 127 / 2 : Rat).ceil + 63) X Y hX hY
      rw [← this]
      refine sumF_le 64 fun k _ => ?_
      have := hq (nu X Y k) (nu_lt X Y k)
      omega
    have := Rat.le_ceil (x := 64 * (t - δ) - 127 / 2)
    have h3 := Rat.intCast_le_intCast.2 hle
    rw [Rat.intCast_add] at h3
    have h63 : ((63 : Int) : Rat) = 63 := rfl
    grind

/-! ### One level -/
theorem off_num : ∀ n : Nat, n < 64 → ((match FloatKind.f32.decode (offO n) with | .number .. => true | _ => false) = true ∧ rv (FloatKind.f32.decode (offO n)) = (2 * (n : Rat) - 63) / 128) := by decide +kernel
theorem off_dec (n : Nat) (h : n < 64) : ∃ s m e, FloatKind.f32.decode (offO n) = .number s m e ∧ rv (.number s m e) = (2 * (n : Rat) - 63) / 128 := by
  obtain ⟨h1, h2⟩ := off_num n h
  cases hd : FloatKind.f32.decode (offO n) with
  | number s m e => rw [hd] at h2; exact ⟨s, m, e, rfl, h2⟩
  | infinity s => rw [hd] at h1; cases h1
  | nan s f => rw [hd] at h1; cases h1

theorem depth_facts : ∀ d : Nat, d < 17 → 1 ≤ d → ((2 ^ d - 1 : Nat) : Rat) + 1 ≤ p2 d ∧ p2 ((d : Int) - 24) ≤ 1 / 256 ∧ p2 ((d : Int) - 24) * 2 ≤ ((2 ^ d - 1 : Nat) : Rat) * p2 (-22) ∧ p2 (d : Int) ≤ 65536 := by decide +kernel

theorem rv_le {s : Bool} {m : Nat} {e : Int} {b : Rat} (h1 : rv (.number s m e) ≤ b) (h2 : -b ≤ rv (.number s m e)) : mv m e ≤ b := by
  unfold rv at h1 h2
  cases s <;> simp at h1 h2 <;> grind

/-- The levels of a share: all lie near one number. -/
theorem level_near (v d : Nat) {s : Bool} {m : Nat} {e : Int} (hv : FloatKind.f32.decode v = .number s m e) (v0 : 0 ≤ rv (.number s m e)) (v1 : rv (.number s m e) ≤ 1) (d1 : 1 ≤ d) (d2 : d < 17) :
    ∃ t : Rat, (t - rv (.number s m e) * ((2 ^ d - 1 : Nat) : Rat)).abs ≤ p2 ((d : Int) - 24) ∧ ∀ n : Nat, n < 64 →
      0 ≤ levelP v (offO n) ((2 ^ d - 1 : Nat) : Int) ∧ levelP v (offO n) ((2 ^ d - 1 : Nat) : Int) ≤ ((2 ^ d - 1 : Nat) : Int) ∧
      64 * (levelP v (offO n) ((2 ^ d - 1 : Nat) : Int) : Rat) - n ≤ 64 * (t + p2 ((d : Int) - 24)) + 1 / 2 ∧ 64 * (t - p2 ((d : Int) - 24)) - 127 / 2 ≤ 64 * (levelP v (offO n) ((2 ^ d - 1 : Nat) : Int) : Rat) - n := by
  obtain ⟨g1, g2, -, g4⟩ := depth_facts d d2 d1
  have hM1 : 1 ≤ 2 ^ d - 1 := by have := Nat.pow_le_pow_right (show 0 < 2 by decide) d1; omega
  have hM2 : 2 ^ d - 1 ≤ 65535 := by have := Nat.pow_le_pow_right (show 0 < 2 by decide) (show d ≤ 16 by omega); omega
  generalize hMM : 2 ^ d - 1 = M at *
  have e1 : FloatKind.f32.format.leastPlace = -149 := by decide
  have e2 : FloatKind.f32.format.fractionBits = 23 := by decide
  have e3 : ((2 ^ FloatKind.f32.format.exponentBits : Nat) : Int) = 256 := by decide
  have eK : (max ((d : Int) - (FloatKind.f32.format.fractionBits : Int)) FloatKind.f32.format.leastPlace - 1) = (d : Int) - 24 := by rw [e1, e2]; omega
  have hMr : (1 : Rat) ≤ (M : Rat) := by have := Rat.natCast_le_natCast.2 hM1; simpa using this
  obtain ⟨Mm, Mi, b1, b2⟩ := ofInt_val .f32 (M : Int) (by omega)
  have sM : decide ((M : Int) < 0) = false := by simp
  rw [sM] at b1
  have b2 : mv Mm Mi = (M : Rat) := by rw [b2]; rfl
  -- v * M
  obtain ⟨c1, c2, -⟩ := mul_num hv b1
  have hs : (s ^^ false) = s := by cases s <;> rfl
  rw [hs] at c1
  have hrv : rv (.number s (m * Mm) (e + Mi)) = rv (.number s m e) * (M : Rat) := by
    unfold rv; dsimp only; rw [c2, b2]; cases s <;> simp <;> grind
  have hVM0 : 0 ≤ rv (.number s m e) * (M : Rat) := Rat.mul_nonneg v0 (by grind)
  have hVM1 : rv (.number s m e) * (M : Rat) ≤ M := by
    have := Rat.mul_le_mul_of_nonneg_right v1 (show (0 : Rat) ≤ (M : Rat) by grind)
    grind
  have hb : mv (m * Mm) (e + Mi) ≤ (M : Rat) := rv_le (by rw [hrv]; exact hVM1) (by rw [hrv]; grind)
  obtain ⟨T, Tp, t1, -, t3⟩ := near_rv (k := .f32) (d : Int) c1 (by grind) (by rw [e1]; omega) (by rw [e1, e2, e3]; omega)
  rw [eK, hrv] at t3
  generalize hV : rv (.number s m e) * (M : Rat) = VM at *
  generalize hδ : p2 ((d : Int) - 24) = δ at *
  have hδ0 : 0 ≤ δ := by rw [← hδ]; exact Rat.le_of_lt (p2_pos _)
  refine ⟨rv (.number s T Tp), t3, fun n hn => ?_⟩
  rw [abs_le_iff] at t3
  obtain ⟨so, mo, eo, o1, o2⟩ := off_dec n hn
  have hn1 : (n : Rat) ≤ 63 := by have := Rat.natCast_le_natCast.2 (show n ≤ 63 by omega); simpa using this
  have hn0 : (0 : Rat) ≤ (n : Rat) := Rat.natCast_nonneg
  obtain ⟨u, z, ze, z1, z2, -⟩ := add_num t1 o1
  rw [o2] at z2
  have hzb : mv z ze ≤ p2 d := by
    refine rv_le (s := u) ?_ ?_ <;> rw [z2]
    · grind
    · grind
  obtain ⟨Z, Zp, w1, w2, w3⟩ := near_rv (k := .f32) (d : Int) z1 hzb (by rw [e1]; omega) (by rw [e1, e2, e3]; omega)
  rw [eK, z2, hδ, abs_le_iff] at w3
  obtain ⟨cc, x1, x2, x3⟩ := nearP_num (lo := 0) (hi := (M : Int)) w1 (by have : ((16777215 : Nat) : Rat) = 16777215 := rfl; grind) (by omega) (by omega) (by omega)
  have hL : levelP v (offO n) (M : Int) = (if (if u then -(cc : Int) else cc) < 0 then ((0 : Int), false) else if (M : Int) < (if u then -(cc : Int) else cc) then ((M : Int), false) else ((if u then -(cc : Int) else cc), true)).1 := by
    unfold levelP; rw [x3]
  have hz : ((if u then -(cc : Int) else cc : Int) : Rat) - rv (.number u Z Zp) ≤ 1 / 2 ∧ -(1 / 2) ≤ ((if u then -(cc : Int) else cc : Int) : Rat) - rv (.number u Z Zp) := by
    unfold rv
    cases u <;> simp [Rat.intCast_natCast] <;> constructor <;> grind
  generalize (if u then -(cc : Int) else cc : Int) = zz at *
  rw [hL]
  by_cases q1 : zz < 0
  · rw [if_pos q1]
    have q2 : (zz : Rat) ≤ ((0 : Int) : Rat) := Rat.intCast_le_intCast.2 (by omega)
    have q3 : ((0 : Int) : Rat) = 0 := rfl
    exact ⟨by simp, by simp, by simp only [q3]; grind, by simp only [q3]; grind⟩
  · rw [if_neg q1]
    by_cases q2 : (M : Int) < zz
    · rw [if_pos q2]
      have q3 : ((M : Int) : Rat) ≤ (zz : Rat) := Rat.intCast_le_intCast.2 (by omega)
      rw [Rat.intCast_natCast] at q3
      refine ⟨by simp, by simp, ?_, ?_⟩ <;> simp only [Rat.intCast_natCast] <;> grind
    · rw [if_neg q2]
      refine ⟨by simp; omega, by simp; omega, ?_, ?_⟩ <;> simp only [] <;> grind

/-! ### The test at the end, in doubles -/
theorem aD_nearest (s : Bool) (m : Nat) (e : Int) : aD (FloatKind.f64.format.nearest s m e) = FloatKind.f64.format.nearest false m e := by
  have hl := rung_lt FloatKind.f64.format m e
  have hsw : FloatKind.f64.format.signWeight = 9223372036854775808 := by decide
  rw [nearest_sign, aD_lt]
  · unfold Ieee.Format.word; rw [hsw] at hl ⊢; cases s <;> simp <;> omega
  · unfold Ieee.Format.word; rw [hsw] at hl ⊢; cases s <;> simp <;> omega
theorem rv_mv {s : Bool} {m : Nat} {e : Int} : mv m e = (rv (.number s m e)).abs := by
  have := mv_nonneg m e
  unfold rv
  cases s
  · simp [Rat.abs_of_nonneg this]
  · simp [Rat.abs_neg, Rat.abs_of_nonneg this]
theorem near64 {b : Nat} {s : Bool} {m : Nat} {e : Int} (K : Int) (hb : b = FloatKind.f64.format.nearest s m e) (h : mv m e ≤ p2 K) (h1 : -1000 ≤ K) (h2 : K ≤ 20) :
    ∃ M P, FloatKind.f64.decode b = .number s M P ∧ (rv (.number s M P) - rv (.number s m e)).abs ≤ p2 (-30) := by
  have e4 : FloatKind.f64.format.leastPlace = -1074 := by decide
  have e5 : ((2 ^ FloatKind.f64.format.exponentBits : Nat) : Int) = 2048 := by decide
  have e6 : FloatKind.f64.format.fractionBits = 52 := by decide
  obtain ⟨M, P, c1, -, c3⟩ := near_rv (k := .f64) K hb h (by rw [e4]; omega) (by rw [e4, e5, e6]; omega)
  refine ⟨M, P, c1, ?_⟩
  have := p2_le (show max (K - (FloatKind.f64.format.fractionBits : Int)) FloatKind.f64.format.leastPlace - 1 ≤ -30 by rw [e4, e6]; omega)
  grind

theorem mean_test (v S r : Nat) (d : Nat) {s : Bool} {m : Nat} {e : Int} (hv : FloatKind.f32.decode v = .number s m e) (v0 : 0 ≤ rv (.number s m e)) (v1 : rv (.number s m e) ≤ 1) (d1 : 1 ≤ d) (d2 : d < 17)
    (hS : S ≤ 64 * 65535) (hm : ((S : Rat) / 64 - rv (.number s m e) * ((2 ^ d - 1 : Nat) : Rat)).abs ≤ 1 / 128 + 2 * p2 ((d : Int) - 24))
    {rm : Nat} {re : Int} (hr : FloatKind.f64.decode r = .number false rm re) (hr2 : mv rm re = ((2 ^ d - 1 : Nat) : Rat) * p2 (-22)) :
    nan .f64 (fC .quo .f64 (floatOfInt .f64 S) 4634204016564240384) = false ∧ nan .f64 (fC .mul .f64 (dC v) (floatOfInt .f64 (2 ^ d - 1 : Nat))) = false ∧
    nan .f64 (fC .sub .f64 (fC .quo .f64 (floatOfInt .f64 S) 4634204016564240384) (fC .mul .f64 (dC v) (floatOfInt .f64 (2 ^ d - 1 : Nat)))) = false ∧
    nan .f64 (fC .add .f64 4580160821035794432 r) = false ∧
    (FloatKind.f64.format.order (aD (fC .sub .f64 (fC .quo .f64 (floatOfInt .f64 S) 4634204016564240384) (fC .mul .f64 (dC v) (floatOfInt .f64 (2 ^ d - 1 : Nat))))) (fC .add .f64 4580160821035794432 r) == some .lt ||
     FloatKind.f64.format.order (aD (fC .sub .f64 (fC .quo .f64 (floatOfInt .f64 S) 4634204016564240384) (fC .mul .f64 (dC v) (floatOfInt .f64 (2 ^ d - 1 : Nat))))) (fC .add .f64 4580160821035794432 r) == some .eq) = true := by
  obtain ⟨-, g2, g3, -⟩ := depth_facts d d2 d1
  have hM2 : 2 ^ d - 1 ≤ 65535 := by have := Nat.pow_le_pow_right (show 0 < 2 by decide) (show d ≤ 16 by omega); omega
  generalize hMM : 2 ^ d - 1 = M at *
  have hMr : (M : Rat) ≤ 65535 := by have := Rat.natCast_le_natCast.2 hM2; simpa using this
  have hM0 : (0 : Rat) ≤ (M : Rat) := Rat.natCast_nonneg
  have hSr : (S : Rat) ≤ 64 * 65535 := by have := Rat.natCast_le_natCast.2 hS; rw [Rat.natCast_mul] at this; simpa using this
  have hS0 : (0 : Rat) ≤ (S : Rat) := Rat.natCast_nonneg
  have q30 : p2 (-30) = 1 / 1073741824 := by decide +kernel
  have q22 : p2 (-22) = 1 / 4194304 := by decide +kernel
  have q17 : p2 17 = 131072 := by decide +kernel
  have q1 : p2 1 = 2 := by decide +kernel
  generalize hV : rv (.number s m e) = V at *
  have hVM0 : 0 ≤ V * (M : Rat) := Rat.mul_nonneg v0 hM0
  have hVM1 : V * (M : Rat) ≤ M := by
    have := Rat.mul_le_mul_of_nonneg_right v1 hM0
    grind
  -- the sum over 64
  obtain ⟨Sm, Si, a1, a2⟩ := ofInt_val .f64 (S : Int) (by omega)
  have sS : decide ((S : Int) < 0) = false := by simp
  rw [sS] at a1
  have a2 : mv Sm Si = (S : Rat) := by rw [a2]; rfl
  have c64 : FloatKind.f64.decode 4634204016564240384 = .number false 4503599627370496 (-46) := by decide +kernel
  have v64 : mv 4503599627370496 (-46) = 64 := by decide +kernel
  obtain ⟨c, ce, b1, b2, bn⟩ := quo_num a1 c64 (by decide)
  have e6 : (-(FloatKind.f64.format.fractionBits : Int) - 2) = -54 := by decide
  have q54 : p2 (-54) ≤ 1 / 18014398509481984 := by decide +kernel
  rw [e6, a2, v64] at b2
  have b3 : (S : Rat) * p2 (-54) ≤ 64 * 65535 * (1 / 18014398509481984) := by
    have h1 := Rat.mul_le_mul_of_nonneg_left q54 hS0
    have h2 := Rat.mul_le_mul_of_nonneg_right hSr (show (0 : Rat) ≤ 1 / 18014398509481984 by decide +kernel)
    grind
  rw [abs_le_iff] at b2
  have hcb : mv c ce ≤ p2 17 := by rw [q17]; grind
  obtain ⟨A, Ap, A1, A2⟩ := near64 17 b1 hcb (by omega) (by omega)
  have hs0 : (false ^^ false) = false := rfl
  rw [hs0] at A1 A2
  have hc0 : rv (.number false c ce) = mv c ce := by unfold rv; simp
  rw [hc0, q30, abs_le_iff] at A2
  -- the product
  obtain ⟨Vm, Vi, p1, p2'⟩ := dC_num hv
  obtain ⟨Mm, Mi, m1, m2⟩ := ofInt_val .f64 (M : Int) (by omega)
  have sM : decide ((M : Int) < 0) = false := by simp
  rw [sM] at m1
  have m2 : mv Mm Mi = (M : Rat) := by rw [m2]; rfl
  obtain ⟨f1, f2, fn⟩ := mul_num p1 m1
  have hs : (s ^^ false) = s := by cases s <;> rfl
  rw [hs] at f1
  have hfv : rv (.number s (Vm * Mm) (Vi + Mi)) = V * (M : Rat) := by
    rw [← hV]; unfold rv; dsimp only; rw [f2, m2, p2']; cases s <;> simp <;> grind
  have hfb : mv (Vm * Mm) (Vi + Mi) ≤ p2 17 := rv_le (s := s) (by rw [hfv, q17]; grind) (by rw [hfv, q17]; grind)
  obtain ⟨B, Bp, B1, B2⟩ := near64 17 f1 hfb (by omega) (by omega)
  rw [hfv, q30, abs_le_iff] at B2
  -- the difference
  obtain ⟨u, x, xe, x1, x2, xn⟩ := sub_num A1 B1
  have hδ : 0 ≤ p2 ((d : Int) - 24) := Rat.le_of_lt (p2_pos _)
  rw [abs_le_iff] at hm
  have hxb : mv x xe ≤ p2 1 := rv_le (s := u) (by rw [x2, q1]; grind) (by rw [x2, q1]; grind)
  have hax := aD_nearest u x xe
  obtain ⟨C, Cp, C1, C2⟩ := near64 (b := aD (fC .sub .f64 (fC .quo .f64 (floatOfInt .f64 S) 4634204016564240384) (fC .mul .f64 (dC v) (floatOfInt .f64 (M : Nat))))) 1 (by rw [x1]; exact hax) hxb (by omega) (by omega)
  have hx0 : rv (.number false x xe) = mv x xe := by unfold rv; simp
  rw [hx0, q30, abs_le_iff] at C2
  have hxm : mv x xe ≤ 1 / 128 + 2 * p2 ((d : Int) - 24) + 1 / 100000000 := rv_le (s := u) (by rw [x2]; grind) (by rw [x2]; grind)
  -- the bound
  have c64' : FloatKind.f64.decode 4580160821035794432 = .number false 4503599627370496 (-58) := by decide +kernel
  have v64' : mv 4503599627370496 (-58) = 1 / 64 := by decide +kernel
  obtain ⟨w, y, ye, y1, y2, yn⟩ := add_num c64' hr
  have hy2 : rv (.number w y ye) = 1 / 64 + (M : Rat) * p2 (-22) := by
    rw [y2]; unfold rv; simp only [Bool.false_eq_true, if_false]; rw [v64', hr2]
  have hMq : 0 ≤ (M : Rat) * p2 (-22) := Rat.mul_nonneg hM0 (Rat.le_of_lt (p2_pos _))
  have hMq2 : (M : Rat) * p2 (-22) ≤ 1 := by
    have := Rat.mul_le_mul_of_nonneg_right hMr (Rat.le_of_lt (p2_pos (-22)))
    rw [q22] at this ⊢; grind
  have hyb : mv y ye ≤ p2 1 := rv_le (s := w) (by rw [hy2, q1]; grind) (by rw [hy2, q1]; grind)
  obtain ⟨Y, Yp, Y1, Y2⟩ := near64 1 y1 hyb (by omega) (by omega)
  rw [hy2, q30, abs_le_iff] at Y2
  refine ⟨bn, fn, xn, yn, ?_⟩
  have C1 : FloatKind.f64.format.read (aD _) = _ := C1
  have Y1 : FloatKind.f64.format.read _ = _ := Y1
  unfold Ieee.Format.order
  rw [C1, Y1, Bool.or_eq_true, beq_iff_eq, beq_iff_eq, order_lt]
  left
  grind
end Go.Proofs.Ytibkdogjgofljaa
