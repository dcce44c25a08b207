/- Plain facts on single numbers: how near sums, products and quotients are, and what rounding to whole numbers gives. Conditions: none. -/
import Derived.Test.YtflmfjimemhooaaFl
namespace Go.Proofs.Ytflmfjimemhooaa.Fl
open Go
open Fr

theorem abs_le_iff {a b : Rat} : a.abs ≤ b ↔ a ≤ b ∧ -b ≤ a := by
  by_cases h : 0 ≤ a
  · rw [Rat.abs_of_nonneg h]; grind
  · rw [Rat.abs_of_nonpos (by grind)]; grind

/-- The nearest word of a number that is at most a power of two. -/
theorem near_err (f : Ieee.Format) (s : Bool) (m : Nat) (e K : Int) (h : mv m e ≤ p2 K) (h1 : f.leastPlace ≤ K) (h2 : K - (f.fractionBits : Int) - f.leastPlace + 4 ≤ ((2 ^ f.exponentBits : Nat) : Int)) (h3 : 2 ≤ f.exponentBits) :
    ∃ M P, f.read (f.nearest s m e) = .number s M P ∧ mv M P ≤ p2 K ∧ 2 * mv M P ≤ 2 * mv m e + p2 (max (K - f.fractionBits) f.leastPlace) ∧ 2 * mv m e ≤ 2 * mv M P + p2 (max (K - f.fractionBits) f.leastPlace) ∧
      ((mv M P - mv m e).abs ≤ mv m e * p2 (-(f.fractionBits : Int) - 1) ∨ (mv M P - mv m e).abs ≤ p2 (f.leastPlace - 1)) := by
  by_cases hm : m = 0
  · subst hm
    rw [nearest_zero, read_zero]
    have e0 : ∀ x, mv 0 x = 0 := fun x => by unfold mv; simp
    refine ⟨0, _, rfl, ?_, ?_, ?_, .inl ?_⟩
    · rw [e0]; exact Rat.le_of_lt (p2_pos _)
    · rw [e0, e0]; have := p2_pos (max (K - (f.fractionBits : Int)) f.leastPlace); grind
    · rw [e0, e0]; have := p2_pos (max (K - (f.fractionBits : Int)) f.leastPlace); grind
    · rw [e0, e0, abs_le_iff]; constructor <;> grind
  · obtain ⟨q, kept, hq, hn, k1, k2, k3, k4, k5, k6, -, -⟩ := nearest_spec f s m e hm
    have hB : 0 < f.binade := Nat.two_pow_pos _
    have hBp : mv f.binade (f.leastPlace + q) = p2 (f.leastPlace + q + f.fractionBits) := by
      unfold Ieee.Format.binade
      have := mv_shift 1 (f.leastPlace + q) f.fractionBits
      rw [Nat.one_mul] at this
      rw [this]; unfold mv; grind
    -- how great the unit is
    have hqK : q = 0 ∨ f.leastPlace + q + f.fractionBits ≤ K := by
      rcases k5 with h0 | h0
      · exact .inl h0
      · refine .inr ?_
        rw [hBp] at h0
        have h3 : p2 (f.leastPlace + q + f.fractionBits) ≤ p2 K := by grind
        rcases Int.lt_or_le K (f.leastPlace + q + f.fractionBits) with h4 | h4
        · exfalso
          have h5 := p2_le (show K + 1 ≤ f.leastPlace + q + f.fractionBits by omega)
          rw [p2_succ] at h5
          have := p2_pos K
          grind
        · exact h4
    have hu : p2 (f.leastPlace + q) ≤ p2 (max (K - f.fractionBits) f.leastPlace) := p2_le (by omega)
    obtain ⟨X, hX⟩ : ∃ X : Nat, K = f.leastPlace + q + X := ⟨(K - (f.leastPlace + q)).toNat, by omega⟩
    have hKX : p2 K = mv (2 ^ X) (f.leastPlace + q) := by
      have := mv_shift 1 (f.leastPlace + q) X
      rw [Nat.one_mul] at this
      rw [this, ← hX]; unfold mv; grind
    have e1 : p2 (f.leastPlace + q) = mv 1 (f.leastPlace + q) := by unfold mv; grind
    have hkX : kept ≤ 2 ^ X := by
      rw [hKX] at h
      have h6 : mv (2 * kept) (f.leastPlace + q) ≤ mv (2 * 2 ^ X + 1) (f.leastPlace + q) := by rw [mv_add, mv_two (2 ^ X)]; grind
      have := mv_le_iff.1 h6
      omega
    have hinf : q * f.binade + kept < f.infRung := by
      have hE : 1 ≤ 2 ^ f.exponentBits := Nat.one_le_two_pow
      have hq3 : q + 3 ≤ 2 ^ f.exponentBits - 1 ∨ q = 0 := by omega
      rcases hq3 with hq3 | hq3
      · have : (q + 3) * f.binade ≤ f.infRung := Nat.mul_le_mul_right _ hq3
        have e5 : (q + 3) * f.binade = q * f.binade + 3 * f.binade := by grind
        omega
      · have h7 : 2 ^ 2 ≤ 2 ^ f.exponentBits := Nat.pow_le_pow_right (by decide) h3
        have : 3 * f.binade ≤ f.infRung := Nat.mul_le_mul_right _ (by omega)
        subst hq3; omega
    rw [Nat.min_eq_left (Nat.le_of_lt hinf)] at hn
    obtain ⟨M, P, r1, r2⟩ := read_rung f s q kept k1 k2 hinf
    have t1 : 2 * mv M P ≤ 2 * mv m e + p2 (f.leastPlace + q) := by rw [r2, ← mv_two]; exact k4
    have t2 : 2 * mv m e ≤ 2 * mv M P + p2 (f.leastPlace + q) := by rw [r2, e1, ← mv_two kept, ← mv_add]; exact k3
    refine ⟨M, P, by rw [hn]; exact r1, ?_, ?_, ?_, ?_⟩
    · rw [r2, hKX]; exact mv_le hkX _
    · grind
    · grind
    · rcases k5 with h0 | h0
      · right
        subst h0
        have e6 : 2 * p2 (f.leastPlace - 1) = p2 (f.leastPlace + (0 : Nat)) := by rw [← p2_succ]; congr 1; omega
        rw [abs_le_iff]
        constructor <;> grind
      · left
        have e7 : 2 * (mv f.binade (f.leastPlace + q) * p2 (-(f.fractionBits : Int) - 1)) = p2 (f.leastPlace + q) := by
          rw [hBp, ← p2_add, ← p2_succ]; congr 1; omega
        have e8 := Rat.mul_le_mul_of_nonneg_right h0 (Rat.le_of_lt (p2_pos (-(f.fractionBits : Int) - 1)))
        rw [abs_le_iff]
        constructor <;> grind

/-! ### Operations that are not invalid -/
theorem det {op : BinOp} {k : FloatKind} {x y : Nat} (h : nan k (fC op k x y) = false) : (∀ w, fV op k x y w = fC op k x y) ∧ fN op k x y = 0 := by
  unfold fC at h
  unfold fV fN fC
  cases e : floatBits op k x y with
  | some r =>
    rw [e] at h
    simp only [Option.getD_some, nan_cl] at h ⊢
    rw [cl_not h]; simp
  | none => rw [e] at h; simp only [Option.getD_none, nan_cl, nan_qn] at h; cases h

theorem fC_some {op : BinOp} {k : FloatKind} {x y r : Nat} (h : floatBits op k x y = some r) (hn : nan k r = false) : fC op k x y = r := by
  unfold fC; rw [h, Option.getD_some, cl_not hn]

theorem add_num {k : FloatKind} {x y : Nat} {s t : Bool} {m n : Nat} {i j : Int} (hx : k.decode x = .number s m i) (hy : k.decode y = .number t n j) :
    ∃ (u : Bool) (c : Nat) (e : Int), fC .add k x y = k.format.nearest u c e ∧ rv (.number u c e) = rv (.number s m i) + rv (.number t n j) ∧ nan k (fC .add k x y) = false := by
  have hx : k.format.read x = _ := hx
  have hy : k.format.read y = _ := hy
  have hb : floatBits .add k x y = some (k.format.write (.number (if Ieee.signed s m (i - min i j).toNat + Ieee.signed t n (j - min i j).toNat = 0 then s && t else Ieee.signed s m (i - min i j).toNat + Ieee.signed t n (j - min i j).toNat < 0) (Ieee.signed s m (i - min i j).toNat + Ieee.signed t n (j - min i j).toNat).natAbs (min i j))) := by
    unfold floatBits Ieee.Format.add; rw [hx, hy]; rfl
  have hr := signed_val s m i (min i j) (by omega)
  have hr2 := signed_val t n j (min i j) (by omega)
  generalize Ieee.signed s m (i - min i j).toNat = A at *
  generalize Ieee.signed t n (j - min i j).toNat = B at *
  have hnn := write_not_nan k (if A + B = 0 then s && t else A + B < 0) (A + B).natAbs (min i j)
  have hc := fC_some hb hnn
  refine ⟨_, _, _, hc, ?_, by rw [hc]; exact hnn⟩
  rw [hr, hr2]
  unfold rv mv
  by_cases h0 : A + B = 0
  · rw [if_pos h0]
    have e0 : ((A + B : Int) : Rat) = 0 := by rw [h0]; rfl
    rw [Rat.intCast_add] at e0
    rw [h0]
    have e1 : (((0 : Int).natAbs : Nat) : Rat) = 0 := rfl
    simp only [e1]
    have : (A : Rat) * p2 (min i j) + (B : Rat) * p2 (min i j) = 0 := by
      have : (A : Rat) * p2 (min i j) + (B : Rat) * p2 (min i j) = ((A : Rat) + B) * p2 (min i j) := by grind
      rw [this, e0]; grind
    rw [this]; cases (s && t) <;> simp
  · rw [if_neg h0]
    by_cases h1 : A + B < 0
    · simp only [h1, decide_true, if_true]
      have e1 : (((A + B).natAbs : Nat) : Rat) = -((A : Rat) + B) := by
        rw [← Rat.intCast_natCast, ← Rat.intCast_add, ← Rat.intCast_neg]; congr 1; omega
      rw [e1]; grind
    · simp only [h1, decide_false, Bool.false_eq_true, if_false]
      have e1 : (((A + B).natAbs : Nat) : Rat) = (A : Rat) + B := by
        rw [← Rat.intCast_natCast, ← Rat.intCast_add]; congr 1; omega
      rw [e1]; grind

theorem rv_opp {s : Bool} {m : Nat} {e : Int} : rv (.number (!s) m e) = - rv (.number s m e) := by
  unfold rv; cases s <;> simp
/-- A difference. -/
theorem sub_num {k : FloatKind} {x y : Nat} {s t : Bool} {m n : Nat} {i j : Int} (hx : k.decode x = .number s m i) (hy : k.decode y = .number t n j) :
    ∃ (u : Bool) (c : Nat) (e : Int), fC .sub k x y = k.format.nearest u c e ∧ rv (.number u c e) = rv (.number s m i) - rv (.number t n j) ∧ nan k (fC .sub k x y) = false := by
  have hx : k.format.read x = _ := hx
  have hy : k.format.read y = _ := hy
  have hb : floatBits .sub k x y = some (k.format.write (.number (if Ieee.signed s m (i - min i j).toNat + Ieee.signed (!t) n (j - min i j).toNat = 0 then s && !t else Ieee.signed s m (i - min i j).toNat + Ieee.signed (!t) n (j - min i j).toNat < 0) (Ieee.signed s m (i - min i j).toNat + Ieee.signed (!t) n (j - min i j).toNat).natAbs (min i j))) := by
    unfold floatBits Ieee.Format.sub; rw [hx, hy]; rfl
  have hr := signed_val s m i (min i j) (by omega)
  have hr2 := signed_val (!t) n j (min i j) (by omega)
  rw [rv_opp] at hr2
  generalize Ieee.signed s m (i - min i j).toNat = A at *
  generalize Ieee.signed (!t) n (j - min i j).toNat = B at *
  have hnn := write_not_nan k (if A + B = 0 then s && !t else A + B < 0) (A + B).natAbs (min i j)
  have hc := fC_some hb hnn
  refine ⟨_, _, _, hc, ?_, by rw [hc]; exact hnn⟩
  have hr3 : rv (.number s m i) - rv (.number t n j) = (A : Rat) * p2 (min i j) + (B : Rat) * p2 (min i j) := by rw [← hr2, hr]; grind
  rw [hr3]
  unfold rv mv
  by_cases h0 : A + B = 0
  · rw [if_pos h0]
    have e0 : ((A + B : Int) : Rat) = 0 := by rw [h0]; rfl
    rw [Rat.intCast_add] at e0
    rw [h0]
    have e1 : (((0 : Int).natAbs : Nat) : Rat) = 0 := rfl
    simp only [e1]
    have : (A : Rat) * p2 (min i j) + (B : Rat) * p2 (min i j) = 0 := by
      have : (A : Rat) * p2 (min i j) + (B : Rat) * p2 (min i j) = ((A : Rat) + B) * p2 (min i j) := by grind
      rw [this, e0]; grind
    rw [this]; cases (s && !t) <;> simp
  · rw [if_neg h0]
    by_cases h1 : A + B < 0
    · simp only [h1, decide_true, if_true]
      have e1 : (((A + B).natAbs : Nat) : Rat) = -((A : Rat) + B) := by
        rw [← Rat.intCast_natCast, ← Rat.intCast_add, ← Rat.intCast_neg]; congr 1; omega
      rw [e1]; grind
    · simp only [h1, decide_false, Bool.false_eq_true, if_false]
      have e1 : (((A + B).natAbs : Nat) : Rat) = (A : Rat) + B := by
        rw [← Rat.intCast_natCast, ← Rat.intCast_add]; congr 1; omega
      rw [e1]; grind

/-- A product. -/
theorem mul_num {k : FloatKind} {x y : Nat} {s t : Bool} {m n : Nat} {i j : Int} (hx : k.decode x = .number s m i) (hy : k.decode y = .number t n j) :
    fC .mul k x y = k.format.nearest (s ^^ t) (m * n) (i + j) ∧ mv (m * n) (i + j) = mv m i * mv n j ∧ nan k (fC .mul k x y) = false := by
  have hx : k.format.read x = _ := hx
  have hy : k.format.read y = _ := hy
  have hb : floatBits .mul k x y = some (k.format.write (.number (s ^^ t) (m * n) (i + j))) := by
    unfold floatBits Ieee.Format.mul; rw [hx, hy]; rfl
  have hnn := write_not_nan k (s ^^ t) (m * n) (i + j)
  have hc := fC_some hb hnn
  refine ⟨hc, ?_, by rw [hc]; exact hnn⟩
  unfold mv; rw [p2_add, Rat.natCast_mul]; grind


theorem p2_half (e : Int) : 2 * p2 (e - 1) = p2 e := by rw [← p2_succ]; congr 1; omega
theorem p2_neg (n : Nat) : p2 (-(n : Int)) * ((2 ^ n : Nat) : Rat) = 1 := by
  rw [← p2_nat, ← p2_add]
  have : -(n : Int) + n = 0 := by omega
  rw [this, p2_zero]

/-- Only the number counts. -/
theorem nearest_congr (f : Ieee.Format) (s : Bool) {m n : Nat} {e i : Int} (h : mv m e = mv n i) : f.nearest s m e = f.nearest s n i := by
  by_cases hm : m = 0
  · subst hm
    have e0 : ∀ x, mv 0 x = 0 := fun x => by unfold mv; simp
    rw [e0] at h
    have hn : n = 0 := by
      rcases Nat.eq_zero_or_pos n with h1 | h1
      · exact h1
      · have := mv_lt h1 i; rw [e0, ← h] at this; grind
    rw [hn, nearest_zero, nearest_zero]
  · have hn : n ≠ 0 := by
      intro h1; subst h1
      have := mv_lt (Nat.pos_of_ne_zero hm) e
      have e0 : ∀ x, mv 0 x = 0 := fun x => by unfold mv; simp
      rw [h, e0, e0] at this
      grind
    -- bring both to one place
    have key : ∀ (m : Nat) (e : Int) (a : Nat), m ≠ 0 → f.nearest s (m * 2 ^ a) (e - a) = f.nearest s m e := by
      intro m e a hm
      obtain ⟨q, kept, hq, hn, k1, k2, k3, k4, k5, k6, k7, k8⟩ := nearest_spec f s m e hm
      have hma : m * 2 ^ a ≠ 0 := by have := Nat.two_pow_pos a; exact Nat.mul_ne_zero hm (by omega)
      obtain ⟨q', kept', hq', hn', k1', k2', k3', k4', k5', k6', k7', k8'⟩ := nearest_spec f s (m * 2 ^ a) (e - a) hma
      have hl : (m * 2 ^ a).log2 = m.log2 + a := by
        have h1 := Nat.log2_self_le hm
        have h2 : m < 2 ^ (m.log2 + 1) := Nat.lt_log2_self
        have h3 : 2 ^ (m.log2 + a) ≤ m * 2 ^ a := by rw [Nat.pow_add]; exact Nat.mul_le_mul_right _ h1
        have h4 : m * 2 ^ a < 2 ^ (m.log2 + a + 1) := by
          have : 2 ^ (m.log2 + a + 1) = 2 ^ (m.log2 + 1) * 2 ^ a := by rw [← Nat.pow_add]; congr 1; omega
          rw [this]; exact (Nat.mul_lt_mul_right (Nat.two_pow_pos a)).2 h2
        have h5 := (Nat.le_log2 hma).2 h3
        have h6 := (Nat.log2_lt hma).2 h4
        omega
      have hqq : q' = q := by rw [hl] at hq'; omega
      subst hqq
      have hv : mv (m * 2 ^ a) (e - a) = mv m e := by rw [mv_shift]; congr 1; omega
      rw [hv] at k3' k4' k7' k8'
      have e1 : p2 (f.leastPlace + q') = mv 1 (f.leastPlace + q') := by unfold mv; grind
      have ek : kept' = kept := by
        rw [e1] at k4 k4' k8 k8'
        have a1 : mv (2 * kept) (f.leastPlace + q') ≤ mv (2 * kept' + 1 + 1) (f.leastPlace + q') := by rw [mv_add (2 * kept' + 1) 1]; grind
        have a2 : mv (2 * kept') (f.leastPlace + q') ≤ mv (2 * kept + 1 + 1) (f.leastPlace + q') := by rw [mv_add (2 * kept + 1) 1]; grind
        have b1 := mv_le_iff.1 a1
        have b2 := mv_le_iff.1 a2
        rcases Nat.lt_trichotomy kept kept' with h | h | h
        · exfalso
          have : kept' = kept + 1 := by omega
          subst this
          have x1 : mv (2 * (kept + 1)) (f.leastPlace + q') = mv (2 * kept + 1) (f.leastPlace + q') + mv 1 (f.leastPlace + q') := by rw [← mv_add]; congr 1
          have c1 := k7 (by grind)
          have c2 := k8' (by grind)
          omega
        · exact h.symm
        · exfalso
          have : kept = kept' + 1 := by omega
          subst this
          have x1 : mv (2 * (kept' + 1)) (f.leastPlace + q') = mv (2 * kept' + 1) (f.leastPlace + q') + mv 1 (f.leastPlace + q') := by rw [← mv_add]; congr 1
          have c1 := k7' (by grind)
          have c2 := k8 (by grind)
          omega
      rw [hn, hn', ek]
    rcases Int.le_total e i with h1 | h1
    · obtain ⟨a, ha⟩ : ∃ a : Nat, i = e + a := ⟨(i - e).toNat, by omega⟩
      have := key n i a hn
      rw [← this]
      have h2 : mv (n * 2 ^ a) (i - a) = mv m e := by rw [mv_shift, h]; congr 1; omega
      have e2 : i - a = e := by omega
      rw [e2] at h2 ⊢
      rw [mv_inj h2]
    · obtain ⟨a, ha⟩ : ∃ a : Nat, e = i + a := ⟨(e - i).toNat, by omega⟩
      have := key m e a hm
      rw [← this]
      have h2 : mv (m * 2 ^ a) (e - a) = mv n i := by rw [mv_shift, ← h]; congr 1; omega
      have e2 : e - a = i := by omega
      rw [e2] at h2 ⊢
      rw [mv_inj h2]

/-- A quotient. -/
theorem quo_num {k : FloatKind} {x y : Nat} {s t : Bool} {m n : Nat} {i j : Int} (hx : k.decode x = .number s m i) (hy : k.decode y = .number t n j) (hn : n ≠ 0) :
    ∃ (c : Nat) (e : Int), fC .quo k x y = k.format.nearest (s ^^ t) c e ∧ (mv c e * mv n j - mv m i).abs ≤ mv m i * p2 (-(k.format.fractionBits : Int) - 2) ∧ nan k (fC .quo k x y) = false := by
  have hx : k.format.read x = _ := hx
  have hy : k.format.read y = _ := hy
  have hb : floatBits .quo k x y = some (k.format.write (.number (s ^^ t) (2 * (m <<< (k.format.fractionBits + 2 + n.log2 - m.log2) / n) + (m <<< (k.format.fractionBits + 2 + n.log2 - m.log2) % n != 0).toNat) (i - j - (k.format.fractionBits + 2 + n.log2 - m.log2 : Nat) - 1))) := by
    unfold floatBits Ieee.Format.div; rw [hx, hy]; unfold Ieee.Datum.quotient; simp only [if_neg hn]; rfl
  have hm24 : m = 0 ∨ m.log2 < k.format.fractionBits + 2 := by
    by_cases h0 : m = 0
    · exact .inl h0
    · refine .inr (log2_lt_of h0 ?_)
      have := (read_number _ hx).1
      unfold Ieee.Format.binade at this
      have : 2 ^ (k.format.fractionBits + 2) = 4 * 2 ^ k.format.fractionBits := by rw [Nat.pow_add]; omega
      have := Nat.two_pow_pos k.format.fractionBits
      omega
  generalize hmore : k.format.fractionBits + 2 + n.log2 - m.log2 = more at *
  rw [Nat.shiftLeft_eq] at hb
  have e := Nat.div_add_mod (m * 2 ^ more) n
  have hr := Nat.mod_lt (m * 2 ^ more) (Nat.pos_of_ne_zero hn)
  have hnU : n < 2 ^ (n.log2 + 1) := Nat.lt_log2_self
  generalize hD : m * 2 ^ more = D at *
  generalize D / n = q0 at *
  generalize D % n = r at *
  have hnn := write_not_nan k (s ^^ t) (2 * q0 + (r != 0).toNat) (i - j - (more : Nat) - 1)
  have hc := fC_some hb hnn
  refine ⟨_, _, hc, ?_, by rw [hc]; exact hnn⟩
  -- all over p2 (i - more - 1)
  have h1 : mv (2 * q0 + (r != 0).toNat) (i - j - (more : Nat) - 1) * mv n j = mv ((2 * q0 + (r != 0).toNat) * n) (i - more - 1) := by
    unfold mv; rw [Rat.natCast_mul]
    have : p2 (i - more - 1) = p2 (i - j - (more : Nat) - 1) * p2 j := by rw [← p2_add]; congr 1; omega
    rw [this]; grind
  have h2 : mv m i = mv (2 * D) (i - more - 1) := by
    rw [← hD]
    have : 2 * (m * 2 ^ more) = m * 2 ^ (more + 1) := by rw [Nat.pow_succ]; grind
    rw [this, mv_shift]; congr 1; omega
  have hq : (2 * q0 + (r != 0).toNat) * n ≤ 2 * D + n ∧ 2 * D ≤ (2 * q0 + (r != 0).toNat) * n + n := by
    by_cases h0 : r = 0
    · subst h0; simp; grind
    · have : (r != 0).toNat = 1 := by simp [h0]
      rw [this]
      constructor <;> grind
  have hbig : D = 0 ∨ n * 2 ^ (k.format.fractionBits + 1) ≤ D := by
    rcases hm24 with h0 | h0
    · left; rw [← hD, h0]; simp
    · by_cases hm0 : m = 0
      · left; rw [← hD, hm0]; simp
      · right
        have h3 := Nat.log2_self_le hm0
        have h4 : 2 ^ (m.log2 + more) ≤ D := by rw [← hD, Nat.pow_add]; exact Nat.mul_le_mul_right _ h3
        have h5 : n * 2 ^ (k.format.fractionBits + 1) ≤ 2 ^ (n.log2 + 1) * 2 ^ (k.format.fractionBits + 1) := Nat.mul_le_mul_right _ (Nat.le_of_lt hnU)
        have h6 : 2 ^ (n.log2 + 1) * 2 ^ (k.format.fractionBits + 1) = 2 ^ (m.log2 + more) := by rw [← Nat.pow_add]; congr 1; omega
        omega
  rw [h1, h2]
  rcases hbig with h0 | h0
  · have hz : (2 * q0 + (r != 0).toNat) * n = 0 := by
      have hr0 : n * q0 = 0 ∧ r = 0 := by omega
      have hq0 : q0 = 0 := by
        rcases Nat.mul_eq_zero.1 hr0.1 with h | h
        · exact absurd h hn
        · exact h
      rw [hr0.2, hq0]; simp
    rw [hz, h0]
    have e0 : ∀ x, mv 0 x = 0 := fun x => by unfold mv; simp
    rw [e0, abs_le_iff]; constructor <;> grind
  · have h7 : mv n (i - more - 1) ≤ mv (2 * D) (i - more - 1) * p2 (-(k.format.fractionBits : Int) - 2) := by
      have h8 : mv (n * 2 ^ (k.format.fractionBits + 1)) (i - more - 1) ≤ mv D (i - more - 1) := mv_le h0 _
      rw [mv_shift] at h8
      have h9 := Rat.mul_le_mul_of_nonneg_right h8 (Rat.le_of_lt (p2_pos (-(k.format.fractionBits : Int) - 1)))
      have e1 : mv n (i - more - 1 + (k.format.fractionBits + 1 : Nat)) * p2 (-(k.format.fractionBits : Int) - 1) = mv n (i - more - 1) := by
        unfold mv
        have : p2 (i - more - 1) = p2 (i - more - 1 + (k.format.fractionBits + 1 : Nat)) * p2 (-(k.format.fractionBits : Int) - 1) := by rw [← p2_add]; congr 1; omega
        rw [this]; grind
      have e2 : mv (2 * D) (i - more - 1) * p2 (-(k.format.fractionBits : Int) - 2) = mv D (i - more - 1) * p2 (-(k.format.fractionBits : Int) - 1) := by
        rw [mv_two]
        have : p2 (-(k.format.fractionBits : Int) - 1) = 2 * p2 (-(k.format.fractionBits : Int) - 2) := by rw [← p2_succ]; congr 1; omega
        rw [this]; grind
      rw [e2, ← e1]; exact h9
    have t1 := mv_le hq.1 (i - more - 1)
    have t2 := mv_le hq.2 (i - more - 1)
    rw [mv_add] at t1
    rw [mv_add ((2 * q0 + (r != 0).toNat) * n)] at t2
    rw [abs_le_iff]
    constructor <;> grind

/-- 2 ^ -24 times, or over 2 ^ 24: the same. -/
theorem quo_unit {x : Nat} {s : Bool} {m : Nat} {i : Int} (hx : FloatKind.f32.decode x = .number s m i) : fC .quo .f32 x 1266679808 = fC .mul .f32 x 864026624 := by
  have hy : FloatKind.f32.decode 864026624 = .number false 8388608 (-47) := by decide +kernel
  have hz : FloatKind.f32.decode 1266679808 = .number false 8388608 1 := by decide +kernel
  obtain ⟨h1, h2, -⟩ := mul_num hx hy
  rw [h1]
  have hm := (read_number _ (show FloatKind.f32.format.read x = _ from hx)).1
  have e2 : FloatKind.f32.format.binade = 8388608 := by decide
  rw [e2] at hm
  have hx : FloatKind.f32.format.read x = _ := hx
  have hz : FloatKind.f32.format.read 1266679808 = _ := hz
  have hl : m.log2 < 24 := by
    by_cases h0 : m = 0
    · subst h0; decide
    · exact log2_lt_of h0 (by omega)
  obtain ⟨a, ha⟩ : ∃ a, FloatKind.f32.format.fractionBits + 2 + Nat.log2 8388608 - m.log2 = a + 23 := by
    have e3 : FloatKind.f32.format.fractionBits = 23 := by decide
    have e4 : Nat.log2 8388608 = 23 := by decide +kernel
    rw [e3, e4]; exact ⟨48 - m.log2 - 23, by omega⟩
  have hb : floatBits .quo .f32 x 1266679808 = some (FloatKind.f32.format.write (.number (s ^^ false) (2 * (m * 2 ^ a)) (i - 1 - (a + 23 : Nat) - 1))) := by
    unfold floatBits Ieee.Format.div; rw [hx, hz]; unfold Ieee.Datum.quotient
    have h8 : m <<< (a + 23) = m * 2 ^ a * 8388608 := by rw [Nat.shiftLeft_eq, Nat.pow_add]; grind
    simp only [ha, h8, Nat.mul_mod_left, Nat.mul_div_cancel _ (show 0 < 8388608 by decide)]
    rfl
  have hnn := write_not_nan .f32 (s ^^ false) (2 * (m * 2 ^ a)) (i - 1 - (a + 23 : Nat) - 1)
  rw [fC_some hb hnn]
  refine nearest_congr _ _ ?_
  have h5 : 2 * (m * 2 ^ a) = m * 2 ^ (a + 1) := by rw [Nat.pow_succ]; grind
  have h6 : m * 8388608 = m * 2 ^ 23 := by congr 1
  rw [h5, h6, mv_shift, mv_shift]; congr 1; omega

/-- What rounding to a whole number gives. -/
theorem rC_num {b : Nat} {s : Bool} {m : Nat} {e : Int} (h : FloatKind.f32.decode b = .number s m e) (hK : mv m e ≤ (16777215 : Nat)) :
    ∃ c : Nat, 2 * (c : Rat) ≤ 2 * mv m e + 1 ∧ 2 * mv m e ≤ 2 * (c : Rat) + 1 ∧ c ≤ 16777215 ∧ FloatKind.f64.decode (rC (dC b)) = FloatKind.f64.decode (FloatKind.f64.encode (.number s c 0)) ∧
      ∃ M P, FloatKind.f64.decode (rC (dC b)) = .number s M P ∧ mv M P = (c : Rat) := by
  obtain ⟨M, P, h1, h2⟩ := dC_num h
  rw [← h2] at hK ⊢
  obtain ⟨c1, c2, -, -⟩ := cut_even s (M <<< P.toNat) (-P).toNat
  have hr : rC (dC b) = FloatKind.f64.encode (.number s (Ieee.Toward.even.cut s (M <<< P.toNat) (-P).toNat) 0) := by
    unfold rC; rw [h1]; rfl
  rw [hr]
  rw [Nat.shiftLeft_eq] at c1 c2 ⊢
  have e1 : mv (M * 2 ^ P.toNat) (-((-P).toNat : Int)) = mv M P := by rw [mv_shift]; congr 1; omega
  have e2 : ∀ X : Nat, mv (X * 2 ^ (-P).toNat) (-((-P).toNat : Int)) = (X : Rat) := by
    intro X; rw [mv_shift]
    have : -((-P).toNat : Int) + ((-P).toNat : Int) = 0 := by omega
    rw [this]; unfold mv; rw [p2_zero]; grind
  generalize Ieee.Toward.even.cut s (M * 2 ^ P.toNat) (-P).toNat = c at *
  have d1 : 2 * mv M P ≤ ((2 * c + 1 : Nat) : Rat) := by rw [← e1, ← e2, ← mv_two]; exact mv_le c1 _
  have d2 : ((2 * c : Nat) : Rat) ≤ 2 * mv M P + 1 := by
    have e3 := e2 1
    rw [Nat.one_mul] at e3
    have e4 : (1 : Rat) = ((1 : Nat) : Rat) := rfl
    rw [e4, ← e3, ← e1, ← e2, ← mv_two, ← mv_add]; exact mv_le c2 _
  rw [Rat.natCast_add, Rat.natCast_mul] at d1
  rw [Rat.natCast_mul] at d2
  have hc : c ≤ 16777215 := by
    have : ((2 * c : Nat) : Rat) ≤ ((2 * 16777215 + 1 : Nat) : Rat) := by rw [Rat.natCast_mul, Rat.natCast_add, Rat.natCast_mul]; grind
    have := Rat.natCast_le_natCast.1 this
    omega
  refine ⟨c, by grind, by grind, hc, rfl, ?_⟩
  have hv : mv c 0 = (c : Rat) := by unfold mv; rw [p2_zero]; grind
  by_cases h0 : c = 0
  · subst h0
    unfold FloatKind.decode FloatKind.encode Ieee.Format.write
    dsimp only
    rw [nearest_zero, read_zero]
    exact ⟨_, _, rfl, by unfold mv; simp⟩
  · have hl : c.log2 < 24 := log2_lt_of h0 (by omega)
    have := nearest_exact FloatKind.f64.format s c 0 h0 (by simp [FloatKind.format, Ieee.double]; omega) (by decide) (by simp [FloatKind.format, Ieee.double, Ieee.Format.leastPlace]; omega) (by decide)
    obtain ⟨M', P', h3, h4⟩ := this
    exact ⟨M', P', h3, by rw [h4, hv]⟩

/-- A whole number's integer. -/
theorem toInt_whole {b : Nat} {s : Bool} {M c : Nat} {P : Int} (h : FloatKind.f64.decode b = .number s M P) (hv : mv M P = (c : Rat)) (hc : c ≤ 16777216) : floatToIntVal .f64 b .i64 = some (if s then -(c : Int) else c) := by
  have hcut : Ieee.Toward.zero.cut s (M <<< P.toNat) (-P).toNat = c := by
    rw [Nat.shiftLeft_eq]
    have e1 : mv (M * 2 ^ P.toNat) (-((-P).toNat : Int)) = mv M P := by rw [mv_shift]; congr 1; omega
    have e2 : mv (c * 2 ^ (-P).toNat) (-((-P).toNat : Int)) = (c : Rat) := by
      rw [mv_shift]
      have : -((-P).toNat : Int) + ((-P).toNat : Int) = 0 := by omega
      rw [this]; unfold mv; rw [p2_zero]; grind
    have e3 : M * 2 ^ P.toNat = c * 2 ^ (-P).toNat := by rw [← e2, ← e1] at hv; exact mv_inj hv
    rw [e3]
    unfold Ieee.Toward.cut
    dsimp only
    simp only [Bool.toNat_false, Nat.add_zero, Nat.one_shiftLeft]
    by_cases hc0 : c = 0
    · subst hc0; simp
    · have : (-P).toNat ≤ (c * 2 ^ (-P).toNat).log2 := by
        have h1 : c * 2 ^ (-P).toNat ≠ 0 := by have := Nat.two_pow_pos (-P).toNat; exact Nat.mul_ne_zero hc0 (by omega)
        refine (Nat.le_log2 h1).2 ?_
        have := Nat.mul_le_mul_right (2 ^ (-P).toNat) (show 1 ≤ c by omega)
        omega
      rw [Nat.min_eq_left (by omega)]
      exact Nat.mul_div_cancel _ (Nat.two_pow_pos _)
  unfold floatToIntVal
  rw [h]
  have : (Ieee.Datum.number s M P).toInt .zero = some (Ieee.signed s c 0) := by unfold Ieee.Datum.toInt Ieee.Datum.integral; dsimp only; rw [hcut]
  rw [this]
  have e5 : Ieee.signed s c 0 = if s then -(c : Int) else c := by unfold Ieee.signed; simp
  rw [e5]
  dsimp only
  rw [if_pos ⟨show (-9223372036854775808 : Int) ≤ _ by cases s <;> simp <;> omega, show _ ≤ (9223372036854775807 : Int) by cases s <;> simp <;> omega⟩]

/-- The nearest integer of a number. -/
theorem nearP_num {b : Nat} {s : Bool} {m : Nat} {e : Int} {lo hi : Int} (h : FloatKind.f32.decode b = .number s m e) (hK : mv m e ≤ (16777215 : Nat)) (h1 : -16777216 ≤ lo) (h2 : hi ≤ 16777216) (h3 : lo ≤ hi) :
    ∃ c : Nat, 2 * (c : Rat) ≤ 2 * mv m e + 1 ∧ 2 * mv m e ≤ 2 * (c : Rat) + 1 ∧
      nearP b lo hi = if (if s then -(c : Int) else c) < lo then (lo, false) else if hi < (if s then -(c : Int) else c) then (hi, false) else (if s then -(c : Int) else c, true) := by
  obtain ⟨c, a1, a2, a3, -, M, P, a5, a6⟩ := rC_num h hK
  refine ⟨c, a1, a2, ?_⟩
  have hz := toInt_whole a5 a6 (by omega)
  obtain ⟨s1, M1, P1, b1, b2⟩ := ofInt_rv .f64 lo (by omega)
  obtain ⟨s2, M2, P2, b3, b4⟩ := ofInt_rv .f64 hi (by omega)
  have hrv : rv (.number s M P) = ((if s then -(c : Int) else c : Int) : Rat) := by
    unfold rv; dsimp only; rw [a6]; cases s <;> simp [Rat.intCast_natCast]
  generalize (if s then -(c : Int) else c : Int) = z at *
  have o1 : (FloatKind.f64.format.order (rC (dC b)) (floatOfInt .f64 lo) == some .lt) = decide (z < lo) := by
    have x1 : FloatKind.f64.format.read (rC (dC b)) = _ := a5
    have x2 : FloatKind.f64.format.read (floatOfInt .f64 lo) = _ := b1
    unfold Ieee.Format.order; rw [x1, x2, Bool.eq_iff_iff, beq_iff_eq, order_lt, hrv, b2, Rat.intCast_lt_intCast]; simp
  have o2 : (FloatKind.f64.format.order (rC (dC b)) (floatOfInt .f64 hi) == some .gt) = decide (hi < z) := by
    have x1 : FloatKind.f64.format.read (rC (dC b)) = _ := a5
    have x2 : FloatKind.f64.format.read (floatOfInt .f64 hi) = _ := b3
    unfold Ieee.Format.order; rw [x1, x2, Bool.eq_iff_iff, beq_iff_eq, order_gt, hrv, b4, Rat.intCast_lt_intCast]; simp
  unfold nearP
  rw [nan_of_num h, o1, o2, hz]
  simp

/-- The word nearest to a number of at most a power of two: as near as half a unit. -/
theorem near_rv {k : FloatKind} {b : Nat} {s : Bool} {m : Nat} {e : Int} (K : Int) (hb : b = k.format.nearest s m e) (h : mv m e ≤ p2 K) (h1 : k.format.leastPlace ≤ K) (h2 : K - (k.format.fractionBits : Int) - k.format.leastPlace + 4 ≤ ((2 ^ k.format.exponentBits : Nat) : Int)) :
    ∃ M P, k.decode b = .number s M P ∧ mv M P ≤ p2 K ∧ (rv (.number s M P) - rv (.number s m e)).abs ≤ p2 (max (K - k.format.fractionBits) k.format.leastPlace - 1) := by
  obtain ⟨M, P, r1, r2, r3, r4, -⟩ := near_err k.format s m e K h h1 h2 (by cases k <;> decide)
  refine ⟨M, P, by rw [hb]; exact r1, r2, ?_⟩
  rw [← p2_half] at r3 r4
  unfold rv
  rw [abs_le_iff]
  cases s <;> simp <;> constructor <;> grind

def levelP' (v o : Nat) (M : Int) : Int := (nearP (fC .add .f32 (fC .mul .f32 v (floatOfInt .f32 M)) o) 0 M).1
theorem natCast_cases (n : Int) (h : 0 ≤ n) : ((n.natAbs : Nat) : Rat) = (n : Rat) := by rw [← Rat.intCast_natCast]; congr 1; omega

/-- A level's value is of that level. -/
theorem level_value (n M : Int) (h0 : 0 ≤ n) (h1 : n ≤ M) (h2 : 1 ≤ M) (h3 : M ≤ 65535) : levelP' (fC .quo .f32 (floatOfInt .f32 n) (floatOfInt .f32 M)) 0 M = n := by
  have e1 : FloatKind.f32.format.leastPlace = -149 := by decide
  have e2 : FloatKind.f32.format.fractionBits = 23 := by decide
  have e3 : ((2 ^ FloatKind.f32.format.exponentBits : Nat) : Int) = 256 := by decide
  have hn' : (0 : Rat) ≤ (n : Rat) := by have := Rat.intCast_le_intCast.2 h0; simpa using this
  have hnM : (n : Rat) ≤ (M : Rat) := Rat.intCast_le_intCast.2 h1
  have hM1 : (1 : Rat) ≤ (M : Rat) := by have := Rat.intCast_le_intCast.2 h2; simpa using this
  have hM2 : (M : Rat) ≤ 65535 := by have := Rat.intCast_le_intCast.2 h3; simpa using this
  have q25 : p2 (-25) = 1 / 33554432 := by decide +kernel
  have q23 : p2 (-23) = 1 / 8388608 := by decide +kernel
  have q7 : p2 (-7) = 1 / 128 := by decide +kernel
  have q1 : p2 1 = 2 := by decide +kernel
  have q17 : p2 17 = 131072 := by decide +kernel
  obtain ⟨nm, ni, a1, a2⟩ := ofInt_val .f32 n (by omega)
  obtain ⟨Mm, Mi, b1, b2⟩ := ofInt_val .f32 M (by omega)
  rw [natCast_cases n h0] at a2
  rw [natCast_cases M (by omega)] at b2
  have sn : decide (n < 0) = false := by simp; omega
  have sM : decide (M < 0) = false := by simp; omega
  rw [sn] at a1
  rw [sM] at b1
  have hMm : Mm ≠ 0 := by
    intro h; rw [h] at b2
    have : mv 0 Mi = 0 := by unfold mv; simp
    grind
  -- the quotient
  obtain ⟨c, e, c1, c2, -⟩ := quo_num a1 b1 hMm
  have e5 : (-(FloatKind.f32.format.fractionBits : Int) - 2) = -25 := by rw [e2]; decide
  rw [e5, q25, a2, b2, abs_le_iff] at c2
  have hc2 : mv c e ≤ p2 1 := by
    rw [q1]
    rcases Rat.le_total (a := mv c e) (b := 2) with h | h
    · exact h
    · have := Rat.mul_le_mul_of_nonneg_right h (show (0 : Rat) ≤ (M : Rat) by grind)
      grind
  obtain ⟨X, Xp, d1, d2, d3⟩ := near_rv (k := .f32) 1 c1 hc2 (by rw [e1]; decide) (by rw [e1, e2, e3]; decide)
  have e6 : (max ((1 : Int) - (FloatKind.f32.format.fractionBits : Int)) FloatKind.f32.format.leastPlace - 1) = -23 := by rw [e1, e2]; decide
  rw [e6, q23, abs_le_iff] at d3
  simp only [Bool.bne_false, rv, Bool.false_eq_true, if_false] at d1 d3
  -- times M
  obtain ⟨f1, f2, -⟩ := mul_num d1 b1
  rw [b2] at f2
  have g1 := Rat.mul_le_mul_of_nonneg_right d3.1 (show (0 : Rat) ≤ (M : Rat) by grind)
  have g2 := Rat.mul_le_mul_of_nonneg_right d3.2 (show (0 : Rat) ≤ (M : Rat) by grind)
  have hf : mv (X * Mm) (Xp + Mi) ≤ p2 17 := by rw [f2, q17]; grind
  obtain ⟨Y, Yp, y1, y2, y3⟩ := near_rv (k := .f32) 17 f1 hf (by rw [e1]; decide) (by rw [e1, e2, e3]; decide)
  have e7 : (max ((17 : Int) - (FloatKind.f32.format.fractionBits : Int)) FloatKind.f32.format.leastPlace - 1) = -7 := by rw [e1, e2]; decide
  rw [e7, q7, abs_le_iff] at y3
  simp only [Bool.bne_false, rv, Bool.false_eq_true, if_false] at y1 y3
  -- and 0
  have hz : FloatKind.f32.decode 0 = .number false 0 (-149) := by decide +kernel
  obtain ⟨u, z, ze, z1, z2, -⟩ := add_num y1 hz
  have hz0 : rv (.number false 0 (-149)) = 0 := by unfold rv mv; simp
  rw [hz0] at z2
  have hy0 : rv (.number false Y Yp) = mv Y Yp := by unfold rv; simp
  rw [hy0] at z2
  have hYn := mv_nonneg Y Yp
  have hzb : mv z ze ≤ p2 17 := by
    rw [q17] at y2 ⊢
    unfold rv at z2
    cases u <;> simp at z2
    · grind
    · have := mv_nonneg z ze; grind
  obtain ⟨Z, Zp, w1, w2, w3⟩ := near_rv (k := .f32) 17 z1 hzb (by rw [e1]; decide) (by rw [e1, e2, e3]; decide)
  rw [e7, q7, abs_le_iff, z2] at w3
  rw [q17] at w2
  obtain ⟨cc, v1, v2, v3⟩ := nearP_num (lo := 0) (hi := M) w1 (by have : ((16777215 : Nat) : Rat) = 16777215 := rfl; grind) (by omega) (by omega) (by omega)
  unfold levelP'
  rw [v3]
  have key : (if u then -(cc : Int) else cc) = n := by
    have hcc : (((if u then -(cc : Int) else cc : Int)) : Rat) - n < 1 ∧ (n : Rat) - ((if u then -(cc : Int) else cc : Int) : Rat) < 1 := by
      have hZ := mv_nonneg Z Zp
      unfold rv at w3
      cases u <;> simp [Rat.intCast_natCast] at w3 ⊢ <;> constructor <;> grind
    generalize (if u then -(cc : Int) else cc : Int) = z at *
    have h5 : ((z - n : Int) : Rat) < ((1 : Int) : Rat) := by rw [Rat.intCast_sub]; exact hcc.1
    have h6 : ((n - z : Int) : Rat) < ((1 : Int) : Rat) := by rw [Rat.intCast_sub]; exact hcc.2
    have := Rat.intCast_lt_intCast.1 h5
    have := Rat.intCast_lt_intCast.1 h6
    omega
  rw [key, if_neg (by omega), if_neg (by omega)]

end Go.Proofs.Ytflmfjimemhooaa.Fl
