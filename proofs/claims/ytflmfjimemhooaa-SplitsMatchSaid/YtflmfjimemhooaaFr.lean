/- What the words of a float format stand for, as rational numbers, and how near the nearest word is. Conditions: none. -/
import Derived.Laws.FloatArith
namespace Go.Proofs.Ytflmfjimemhooaa.Fr
open Ieee

/-- 2 to a power. -/
def p2 (e : Int) : Rat := (2 : Rat) ^ e
theorem p2_pos (e : Int) : 0 < p2 e := Rat.zpow_pos (by decide)
theorem p2_add (a b : Int) : p2 (a + b) = p2 a * p2 b := Rat.zpow_add (by decide) a b
theorem p2_zero : p2 0 = 1 := Rat.zpow_zero 2
theorem p2_nat (n : Nat) : p2 n = ((2 ^ n : Nat) : Rat) := by
  unfold p2; rw [Rat.zpow_natCast, Rat.natCast_pow]; rfl
theorem p2_one : p2 1 = 2 := Rat.zpow_one 2
theorem p2_succ (e : Int) : p2 (e + 1) = 2 * p2 e := by rw [p2_add, p2_one]; grind
theorem p2_le {a b : Int} (h : a ≤ b) : p2 a ≤ p2 b := by
  obtain ⟨n, rfl⟩ : ∃ n : Nat, b = a + n := ⟨(b - a).toNat, by omega⟩
  rw [p2_add, p2_nat]
  have h1 : (1 : Rat) ≤ ((2 ^ n : Nat) : Rat) := by
    have := Rat.natCast_le_natCast.2 (Nat.one_le_two_pow (n := n)); simpa using this
  have := Rat.mul_le_mul_of_nonneg_left h1 (Rat.le_of_lt (p2_pos a))
  grind

/-- What a magnitude at a place is. -/
def mv (m : Nat) (e : Int) : Rat := (m : Rat) * p2 e
theorem mv_nonneg (m : Nat) (e : Int) : 0 ≤ mv m e := Rat.mul_nonneg Rat.natCast_nonneg (Rat.le_of_lt (p2_pos e))
theorem mv_shift (m : Nat) (e : Int) (n : Nat) : mv (m * 2 ^ n) e = mv m (e + n) := by
  unfold mv; rw [p2_add, p2_nat, Rat.natCast_mul]; grind
theorem mv_le {m n : Nat} (h : m ≤ n) (e : Int) : mv m e ≤ mv n e := Rat.mul_le_mul_of_nonneg_right (Rat.natCast_le_natCast.2 h) (Rat.le_of_lt (p2_pos e))
theorem mv_lt {m n : Nat} (h : m < n) (e : Int) : mv m e < mv n e := Rat.mul_lt_mul_of_pos_right (Rat.natCast_lt_natCast.2 h) (p2_pos e)
theorem mv_lt_iff {m n : Nat} {e : Int} : mv m e < mv n e ↔ m < n := ⟨fun h => Nat.lt_of_not_le fun h2 => by have := mv_le h2 e; grind, fun h => mv_lt h e⟩
theorem mv_le_iff {m n : Nat} {e : Int} : mv m e ≤ mv n e ↔ m ≤ n := ⟨fun h => Nat.le_of_not_lt fun h2 => by have := mv_lt h2 e; grind, fun h => mv_le h e⟩
theorem mv_inj {m n : Nat} {e : Int} (h : mv m e = mv n e) : m = n := by
  have h1 := mv_le_iff.1 (show mv m e ≤ mv n e by rw [h]; exact Rat.le_refl)
  have h2 := mv_le_iff.1 (show mv n e ≤ mv m e by rw [h]; exact Rat.le_refl)
  omega
theorem mv_add (m n : Nat) (e : Int) : mv (m + n) e = mv m e + mv n e := by unfold mv; rw [Rat.natCast_add]; grind
theorem mv_two (m : Nat) (e : Int) : mv (2 * m) e = 2 * mv m e := by unfold mv; rw [Rat.natCast_mul]; grind

/-- What a datum is; 0 of infinities and NaNs. -/
def rv : Datum → Rat
  | .number s m e => if s then -(mv m e) else mv m e
  | _ => 0

theorem cut_even (neg : Bool) (n d : Nat) : 2 * n ≤ (2 * Toward.even.cut neg n d + 1) * 2 ^ d ∧ 2 * Toward.even.cut neg n d * 2 ^ d ≤ 2 * n + 2 ^ d ∧
    (2 * n = (2 * Toward.even.cut neg n d + 1) * 2 ^ d → Toward.even.cut neg n d % 2 = 0) ∧ (2 * Toward.even.cut neg n d * 2 ^ d = 2 * n + 2 ^ d → Toward.even.cut neg n d % 2 = 0) := by
  unfold Toward.cut
  dsimp only
  by_cases hd : d ≤ n.log2 + 2
  · rw [Nat.min_eq_left hd, Nat.one_shiftLeft]
    have hG : 0 < 2 ^ d := Nat.two_pow_pos d
    generalize 2 ^ d = G at *
    have e := Nat.div_add_mod n G
    have hr := Nat.mod_lt n hG
    generalize n / G = q at *
    generalize n % G = r at *
    have e1 : (2 * (q + 1) + 1) * G = 2 * (G * q) + 3 * G := by grind
    have e2 : (2 * q + 1) * G = 2 * (G * q) + G := by grind
    have e3 : 2 * (q + 1) * G = 2 * (G * q) + 2 * G := by grind
    have e4 : 2 * q * G = 2 * (G * q) := by grind
    generalize G * q = Gq at *
    by_cases h1 : G < 2 * r
    · simp only [decide_eq_true h1, Bool.true_or, Bool.toNat_true, e1, e3]; omega
    · simp only [decide_eq_false h1, Bool.false_or]
      by_cases h2 : G = 2 * r
      · rcases Nat.mod_two_eq_zero_or_one q with h3 | h3
        · simp [h3, e2, e4]; omega
        · have hb : (G == 2 * r && q % 2 == 1) = true := by simp [h2, h3]
          rw [hb]; simp only [Bool.toNat_true, e1, e3]; omega
      · have hb : (G == 2 * r && q % 2 == 1) = false := by simp [h2]
        rw [hb]; simp only [Bool.toNat_false, Nat.add_zero, e2, e4]; omega
  · rw [Nat.min_eq_right (by omega), Nat.one_shiftLeft]
    have hlt : n < 2 ^ (n.log2 + 1) := Nat.lt_log2_self
    have hp : 2 ^ (n.log2 + 2) = 2 * 2 ^ (n.log2 + 1) := by rw [Nat.pow_succ 2 (n.log2 + 1)]; omega
    have hle : 2 ^ (n.log2 + 2) ≤ 2 ^ d := Nat.pow_le_pow_right (by decide) (by omega)
    have h0 : n / 2 ^ (n.log2 + 2) = 0 := Nat.div_eq_of_lt (by omega)
    have h1 : n % 2 ^ (n.log2 + 2) = n := Nat.mod_eq_of_lt (by omega)
    rw [h0, h1]
    have hb : (decide (2 ^ (n.log2 + 2) < 2 * n) || (2 ^ (n.log2 + 2) == 2 * n && 0 % 2 == 1)) = false := by
      simp; omega
    rw [hb]; simp; omega

theorem half_ratio {a b G : Nat} (hG : 0 < G) (h : a * G ≤ b * G) : a ≤ b := Nat.le_of_mul_le_mul_right h hG

/-- The word nearest to a number: its rung's two parts, and how near it is. -/
theorem nearest_spec (f : Format) (neg : Bool) (m : Nat) (e : Int) (hm : m ≠ 0) : ∃ q kept : Nat, f.leastPlace + q = max (e + (m.log2 : Int) - (f.fractionBits : Int)) f.leastPlace ∧ f.nearest neg m e = f.word neg (min (q * f.binade + kept) f.infRung) ∧ kept ≤ 2 * f.binade ∧
    (q = 0 ∨ f.binade ≤ kept) ∧ 2 * mv m e ≤ mv (2 * kept + 1) (f.leastPlace + q) ∧ mv (2 * kept) (f.leastPlace + q) ≤ 2 * mv m e + p2 (f.leastPlace + q) ∧ (q = 0 ∨ mv f.binade (f.leastPlace + q) ≤ mv m e) ∧ mv m e < mv (2 * f.binade) (f.leastPlace + q) ∧
    (2 * mv m e = mv (2 * kept + 1) (f.leastPlace + q) → kept % 2 = 0) ∧ (mv (2 * kept) (f.leastPlace + q) = 2 * mv m e + p2 (f.leastPlace + q) → kept % 2 = 0) := by
  have hL : 2 ^ m.log2 ≤ m := Nat.log2_self_le hm
  have hU : m < 2 ^ (m.log2 + 1) := Nat.lt_log2_self
  unfold Format.nearest
  rw [if_neg hm]
  dsimp only
  generalize hlast : max (e + (m.log2 : Int) - (f.fractionBits : Int)) f.leastPlace = last
  have hl0 : f.leastPlace ≤ last := by omega
  obtain ⟨q, hq⟩ : ∃ q : Nat, last = f.leastPlace + q := ⟨(last - f.leastPlace).toNat, by omega⟩
  have hq2 : (last - f.leastPlace).toNat = q := by omega
  rw [hq2, Nat.shiftLeft_eq]
  generalize ha : (e - last).toNat = a
  generalize hd : (last - e).toNat = d
  have hlast2 : q = 0 ∨ last = e + (m.log2 : Int) - (f.fractionBits : Int) := by omega
  have had : e + d = last + a := by omega
  -- the exact number over 2 ^ d
  have hexact : mv (m * 2 ^ a) (last - d) = mv m e := by rw [mv_shift]; congr 1; omega
  have hN : m * 2 ^ a < 2 * f.binade * 2 ^ d := by
    have h1 : m * 2 ^ a < 2 ^ (m.log2 + 1) * 2 ^ a := (Nat.mul_lt_mul_right (Nat.two_pow_pos a)).2 hU
    have h2 : 2 ^ (m.log2 + 1) * 2 ^ a ≤ 2 * f.binade * 2 ^ d := by
      unfold Format.binade
      rw [← Nat.pow_succ', ← Nat.pow_add, ← Nat.pow_add]
      exact Nat.pow_le_pow_right (by decide) (by omega)
    omega
  have hB : q = 0 ∨ f.binade * 2 ^ d ≤ m * 2 ^ a := by
    rcases hlast2 with h | h
    · exact .inl h
    · refine .inr ?_
      have h2 : f.binade * 2 ^ d ≤ 2 ^ m.log2 * 2 ^ a := by
        unfold Format.binade
        rw [← Nat.pow_add, ← Nat.pow_add]
        exact Nat.pow_le_pow_right (by decide) (by omega)
      exact Nat.le_trans h2 (Nat.mul_le_mul_right _ hL)
  obtain ⟨c1, c2, c3, c4⟩ := cut_even neg (m * 2 ^ a) d
  generalize Toward.even.cut neg (m * 2 ^ a) d = kept at *
  generalize hNN : m * 2 ^ a = N at *
  have hG : 0 < 2 ^ d := Nat.two_pow_pos d
  have sh (x : Nat) : mv (x * 2 ^ d) (last - d) = mv x last := by rw [mv_shift]; congr 1; omega
  have shp : mv (2 ^ d) (last - d) = p2 last := by
    have := sh 1; rw [Nat.one_mul] at this; rw [this]; unfold mv; grind
  refine ⟨q, kept, by omega, rfl, ?_, ?_, ?_, ?_, ?_, ?_, ?_, ?_⟩
  · have h : (2 * kept) * 2 ^ d < (4 * f.binade + 1) * 2 ^ d := by grind
    have := Nat.lt_of_mul_lt_mul_right h
    omega
  · rcases hB with h | h
    · exact .inl h
    · refine .inr ?_
      have h : (2 * f.binade) * 2 ^ d ≤ (2 * kept + 1) * 2 ^ d := by grind
      have := half_ratio hG h
      omega
  · rw [← hq, ← hexact, ← sh, ← mv_two]; exact mv_le c1 _
  · rw [← hq, ← hexact, ← sh, ← shp, ← mv_two, ← mv_add]; exact mv_le c2 _
  · rcases hB with h | h
    · exact .inl h
    · refine .inr ?_
      rw [← hq, ← hexact, ← sh]; exact mv_le h _
  · rw [← hq, ← hexact, ← sh]; exact mv_lt hN _
  · intro h
    rw [← hq, ← hexact, ← sh, ← mv_two] at h
    exact c3 (mv_inj h)
  · intro h
    rw [← hq, ← hexact, ← sh, ← shp, ← mv_two, ← mv_add] at h
    exact c4 (mv_inj h)

/-- A rung's two parts, read. -/
theorem read_rung (f : Format) (s : Bool) (q kept : Nat) (h1 : kept ≤ 2 * f.binade) (h2 : q = 0 ∨ f.binade ≤ kept) (h3 : q * f.binade + kept < f.infRung) :
    ∃ M P, f.read (f.word s (q * f.binade + kept)) = .number s M P ∧ mv M P = mv kept (f.leastPlace + q) := by
  have hi := f.infRung_lt
  have hB : 0 < f.binade := Nat.two_pow_pos _
  have hsw : 0 < f.signWeight := Nat.two_pow_pos _
  generalize hr : q * f.binade + kept = r at *
  have hneg : (f.word s r / f.signWeight % 2 == 1) = s := by
    unfold Format.word
    cases s
    · simp [Nat.div_eq_of_lt (show r < f.signWeight by omega)]
    · simp [Nat.add_div_left _ hsw, Nat.div_eq_of_lt (show r < f.signWeight by omega)]
  have hrung : f.word s r % f.signWeight = r := by
    unfold Format.word
    cases s
    · simp [Nat.mod_eq_of_lt (show r < f.signWeight by omega)]
    · simp [Nat.mod_eq_of_lt (show r < f.signWeight by omega)]
  unfold Format.read
  simp only [hneg, hrung]
  by_cases c1 : r < f.binade
  · have hq0 : q = 0 := by
      rcases h2 with h | h
      · exact h
      · omega
    subst hq0
    rw [if_pos c1]
    refine ⟨r, f.leastPlace, rfl, ?_⟩
    have : r = kept := by omega
    rw [this]; congr 1; simp
  · rw [if_neg c1, if_pos h3]
    refine ⟨_, _, rfl, ?_⟩
    by_cases c2 : kept = 2 * f.binade
    · have e : r = (q + 2) * f.binade := by rw [← hr, c2]; grind
      have e1 : r / f.binade = q + 2 := by rw [e]; exact Nat.mul_div_cancel _ hB
      have e2 : r % f.binade = 0 := by rw [e]; exact Nat.mul_mod_left _ _
      rw [e1, e2, c2, Nat.mul_comm 2]
      have := mv_shift f.binade (f.leastPlace + q) 1
      rw [Nat.pow_one] at this
      rw [this]; simp only [Nat.add_zero]; congr 1; omega
    · have hk : f.binade ≤ kept := by
        rcases h2 with h | h
        · subst h; simp at hr; omega
        · exact h
      have e : r = (kept - f.binade) + (q + 1) * f.binade := by
        have e5 : (q + 1) * f.binade = q * f.binade + f.binade := by grind
        omega
      have e1 : r / f.binade = q + 1 := by rw [e, Nat.add_mul_div_right _ _ hB, Nat.div_eq_of_lt (by omega)]; omega
      have e2 : r % f.binade = kept - f.binade := by rw [e, Nat.add_mul_mod_self_right, Nat.mod_eq_of_lt (by omega)]
      rw [e1, e2]
      congr 1 <;> omega

/-- The nearest word of a number that the format has. -/
theorem nearest_exact (f : Format) (s : Bool) (m : Nat) (e : Int) (h1 : m ≠ 0) (h2 : m.log2 ≤ f.fractionBits) (h3 : f.leastPlace ≤ e) (h4 : e + (m.log2 : Int) - (f.fractionBits : Int) - f.leastPlace + 3 ≤ ((2 ^ f.exponentBits : Nat) : Int)) (h5 : 2 ≤ f.exponentBits) :
    ∃ M P, f.read (f.nearest s m e) = .number s M P ∧ mv M P = mv m e := by
  obtain ⟨q, kept, hq, hn, k1, k2, k3, k4, -, k6, -, -⟩ := nearest_spec f s m e h1
  obtain ⟨a, ha⟩ : ∃ a : Nat, e = f.leastPlace + q + a := ⟨(e - (f.leastPlace + q)).toNat, by omega⟩
  have hx : mv m e = mv (m * 2 ^ a) (f.leastPlace + q) := by rw [mv_shift, ha]
  have hk : kept = m * 2 ^ a := by
    rw [hx, ← mv_two] at k3 k4
    have e1 : p2 (f.leastPlace + q) = mv 1 (f.leastPlace + q) := by unfold mv; grind
    rw [e1, ← mv_add] at k4
    have := mv_le_iff.1 k3
    have := mv_le_iff.1 k4
    omega
  have hlt : kept < 2 * f.binade := by rw [hx, ← hk] at k6; exact mv_lt_iff.1 k6
  have hB : 0 < f.binade := Nat.two_pow_pos _
  have he : 2 ^ 2 ≤ 2 ^ f.exponentBits := Nat.pow_le_pow_right (by decide) h5
  have hinf : q * f.binade + kept < f.infRung := by
    have hq3 : q + 2 ≤ 2 ^ f.exponentBits - 1 := by omega
    have : (q + 2) * f.binade ≤ f.infRung := Nat.mul_le_mul_right _ hq3
    have e5 : (q + 2) * f.binade = q * f.binade + 2 * f.binade := by grind
    omega
  rw [Nat.min_eq_left (Nat.le_of_lt hinf)] at hn
  obtain ⟨M, P, r1, r2⟩ := read_rung f s q kept k1 k2 hinf
  exact ⟨M, P, by rw [hn]; exact r1, by rw [r2, hx, hk]⟩

theorem read_zero (f : Format) (s : Bool) : f.read (f.word s 0) = .number s 0 f.leastPlace := by
  have hB : 0 < f.binade := Nat.two_pow_pos _
  have hsw : 0 < f.signWeight := Nat.two_pow_pos _
  unfold Format.read Format.word
  cases s
  · simp [hB]
  · simp [hB, Nat.div_self hsw]

theorem nearest_zero (f : Format) (s : Bool) (e : Int) : f.nearest s 0 e = f.word s 0 := by unfold Format.nearest; rw [if_pos rfl]

/-- What a word's number is made of. -/
theorem read_number (f : Format) {b : Nat} {s : Bool} {m : Nat} {e : Int} (h : f.read b = .number s m e) : m < 2 * f.binade ∧ f.leastPlace ≤ e ∧ (e = f.leastPlace ∨ e + 3 ≤ f.leastPlace + ((2 ^ f.exponentBits : Nat) : Int)) ∧ (e = f.leastPlace ∨ f.binade ≤ m) := by
  have hB : 0 < f.binade := Nat.two_pow_pos _
  have hE : 0 < 2 ^ f.exponentBits := Nat.two_pow_pos _
  unfold Format.read at h
  simp only at h
  generalize b % f.signWeight = r at h
  split at h
  · cases h; exact ⟨by omega, by omega, .inl rfl, .inl rfl⟩
  · split at h
    · rename_i c1 c2
      cases h
      have hlt := Nat.mod_lt r hB
      have hd : r / f.binade < 2 ^ f.exponentBits - 1 := by
        rw [Nat.div_lt_iff_lt_mul hB]; exact c2
      have hq1 : 1 ≤ r / f.binade := (Nat.le_div_iff_mul_le hB).2 (by omega)
      generalize hE2 : 2 ^ f.exponentBits = E at *
      generalize r / f.binade = rq at *
      exact ⟨by omega, by omega, .inr (by omega), .inr (by omega)⟩
    · split at h <;> cases h

theorem log2_lt_of {m n : Nat} (hm : m ≠ 0) (h : m < 2 ^ n) : m.log2 < n := (Nat.log2_lt hm).2 h

theorem read_inf (f : Format) (s : Bool) (h : f.binade ≤ f.infRung) : f.read (f.word s f.infRung) = .infinity s := by
  have hi := f.infRung_lt
  have hB : 0 < f.binade := Nat.two_pow_pos _
  have hsw : 0 < f.signWeight := Nat.two_pow_pos _
  have hneg : (f.word s f.infRung / f.signWeight % 2 == 1) = s := by
    unfold Format.word
    cases s
    · simp [Nat.div_eq_of_lt hi]
    · simp [Nat.add_div_left _ hsw, Nat.div_eq_of_lt hi]
  have hrung : f.word s f.infRung % f.signWeight = f.infRung := by
    unfold Format.word
    cases s
    · simp [Nat.mod_eq_of_lt hi]
    · simp [Nat.mod_eq_of_lt hi]
  unfold Format.read
  simp only [hneg, hrung]
  simp [Nat.not_lt.2 h]

/-! ### Order -/
theorem signed_val (s : Bool) (m : Nat) (e base : Int) (h : base ≤ e) : rv (.number s m e) = ((signed s m (e - base).toNat : Int) : Rat) * p2 base := by
  have e1 : mv m e = mv (m * 2 ^ (e - base).toNat) base := by rw [mv_shift]; congr 1; omega
  unfold rv signed
  cases s
  · simp only [Bool.false_eq_true, if_false, e1, Nat.shiftLeft_eq]; unfold mv; rw [Rat.intCast_natCast]
  · simp only [if_true, e1, Nat.shiftLeft_eq]; unfold mv; rw [Rat.intCast_neg, Rat.intCast_natCast]; grind

theorem mul_p2_lt {a b : Int} {e : Int} : (a : Rat) * p2 e < (b : Rat) * p2 e ↔ a < b := by
  rw [Rat.mul_lt_mul_right (p2_pos e), Rat.intCast_lt_intCast]

theorem order_num (s t : Bool) (m n : Nat) (i j : Int) : ∃ a b : Int, (Datum.number s m i).order (.number t n j) = some (compare a b) ∧
    (rv (.number s m i) < rv (.number t n j) ↔ a < b) ∧ (rv (.number t n j) < rv (.number s m i) ↔ b < a) := by
  refine ⟨_, _, rfl, ?_, ?_⟩
  · rw [signed_val s m i (min i j) (by omega), signed_val t n j (min i j) (by omega)]; exact mul_p2_lt
  · rw [signed_val s m i (min i j) (by omega), signed_val t n j (min i j) (by omega)]; exact mul_p2_lt

theorem order_lt (s t : Bool) (m n : Nat) (i j : Int) : (Datum.number s m i).order (.number t n j) = some .lt ↔ rv (.number s m i) < rv (.number t n j) := by
  obtain ⟨a, b, h, h1, h2⟩ := order_num s t m n i j
  rw [h, h1]; simp [Int.compare_eq_lt]
theorem order_gt (s t : Bool) (m n : Nat) (i j : Int) : (Datum.number s m i).order (.number t n j) = some .gt ↔ rv (.number t n j) < rv (.number s m i) := by
  obtain ⟨a, b, h, h1, h2⟩ := order_num s t m n i j
  rw [h, h2]; simp [Int.compare_eq_gt]
theorem order_eq (s t : Bool) (m n : Nat) (i j : Int) : (Datum.number s m i).order (.number t n j) = some .eq ↔ rv (.number s m i) = rv (.number t n j) := by
  obtain ⟨a, b, h, h1, h2⟩ := order_num s t m n i j
  rw [h]; simp only [Option.some.injEq, Int.compare_eq_eq]
  constructor
  · intro e
    have n1 : ¬ rv (.number s m i) < rv (.number t n j) := by rw [h1]; omega
    have n2 : ¬ rv (.number t n j) < rv (.number s m i) := by rw [h2]; omega
    grind
  · intro e
    have n1 : ¬ a < b := by rw [← h1]; grind
    have n2 : ¬ b < a := by rw [← h2]; grind
    omega

end Go.Proofs.Ytflmfjimemhooaa.Fr
