/- Plain facts on kinds of singles, and contracts of Bits, FromBits, Kind, Abs. Conditions: none. -/
import Derived.Test.YtibkdogjgofljaaOw
import Derived.Test.YtibkdogjgofljaaPm
namespace Go.Proofs.Ytibkdogjgofljaa
open Go.RowKit
open Fl Fr

theorem run_call_bits64 (b : Nat) (w : World) :
    (callFunc 57 #[.float .f64 b]).run Try.prog w = .ok (.value (.int .u64 b)) w := by
  have h := run_callFunc_extern (e := Extern.MathFloatBits.float64bits) Try.func57 (by kernel_rfl) (by kernel_rfl) (by kernel_rfl) (by kernel_rfl) #[.float .f64 b] w
  rw [h]; rfl
theorem run_call_from64 (n : Int) (w : World) : (callFunc 56 #[.int .u64 n]).run Try.prog w = .ok (.value (.float .f64 n.toNat)) w := by
  have h := run_callFunc_extern (e := Extern.MathFloatBits.float64frombits) Try.func56 (by kernel_rfl) (by kernel_rfl) (by kernel_rfl) (by kernel_rfl) #[.int .u64 n] w
  rw [h]; rfl
attribute [go_sem] run_call_bits64 run_call_from64

/-- The magnitude of a double. -/
def aD (b : Nat) : Nat := (bits .andNot .u64 (b : Int) 9223372036854775808).toNat
set_option maxHeartbeats 400000 in
theorem abs_any (b : Nat) (w : World) : Calls Try.prog 22 #[.float .f64 b] w fun e w' => e = .returned (.float .f64 (aD b)) ∧ w = w' := by
  unfold aD
  go_enter Try.func22, Try.ntmps22
  go_wp2
  go_ret
  exact ⟨rfl, rfl⟩
theorem aD_lt (b : Nat) (h : b < 2 ^ 64) : aD b = b % 9223372036854775808 := by
  unfold aD
  have h1 : (BitVec.ofInt 64 (b : Int)).toNat = b := by rw [BitVec.ofInt_natCast, BitVec.toNat_ofNat]; omega
  have h2 : (~~~(BitVec.ofInt 64 9223372036854775808)).toNat = 2 ^ 63 - 1 := by decide
  have h3 : bits .andNot .u64 (b : Int) 9223372036854775808 = IntKind.u64.wrap ((BitVec.ofInt 64 (b : Int) &&& ~~~(BitVec.ofInt 64 9223372036854775808)).toNat : Nat) := rfl
  have h4 : ∀ n : Int, IntKind.u64.wrap n = n % 18446744073709551616 := fun n => by simp [IntKind.wrap, IntKind.bits, IntKind.signed]
  rw [h3, BitVec.toNat_and, h1, h2, h4, Nat.and_two_pow_sub_one_eq_mod]
  omega

theorem nearest_sign (f : Ieee.Format) (s : Bool) (m : Nat) (e : Int) : f.nearest s m e = f.word s (f.nearest false m e) := by
  unfold Ieee.Format.nearest Ieee.Format.word
  by_cases hm : m = 0
  · simp [hm]
  · rw [if_neg hm, if_neg hm]; cases s <;> rfl
theorem rung_lt (f : Ieee.Format) (m : Nat) (e : Int) : f.nearest false m e < f.signWeight := by
  have h := f.infRung_lt
  unfold Ieee.Format.nearest Ieee.Format.word
  by_cases hm : m = 0
  · simp [hm]; exact Nat.two_pow_pos _
  · rw [if_neg hm]; simp only [Bool.false_eq_true, if_false]; omega
/-- A number's magnitude, read. -/
theorem aD_dC {b : Nat} {s : Bool} {m : Nat} {e : Int} (h : FloatKind.f32.decode b = .number s m e) : ∃ M P, FloatKind.f64.decode (aD (dC b)) = .number false M P ∧ mv M P = mv m e := by
  have hd : dC b = FloatKind.f64.format.nearest s m e := by
    unfold dC; rw [nan_of_num h, if_neg Bool.false_ne_true, h]; rfl
  have hl := rung_lt FloatKind.f64.format m e
  have hsw : FloatKind.f64.format.signWeight = 9223372036854775808 := by decide
  have ha : aD (dC b) = FloatKind.f64.format.nearest false m e := by
    rw [hd, nearest_sign, aD_lt]
    · unfold Ieee.Format.word; rw [hsw] at hl ⊢; cases s <;> simp <;> omega
    · unfold Ieee.Format.word; rw [hsw] at hl ⊢; cases s <;> simp <;> omega
  rw [ha]
  have h2 := read_number _ (show FloatKind.f32.format.read b = _ from h)
  have e1 : FloatKind.f32.format.leastPlace = -149 := by decide
  have e2 : FloatKind.f32.format.binade = 8388608 := by decide
  have e3 : ((2 ^ FloatKind.f32.format.exponentBits : Nat) : Int) = 256 := by decide
  have e4 : FloatKind.f64.format.leastPlace = -1074 := by decide
  have e5 : ((2 ^ FloatKind.f64.format.exponentBits : Nat) : Int) = 2048 := by decide
  have e6 : FloatKind.f64.format.fractionBits = 52 := by decide
  have e7 : FloatKind.f64.format.exponentBits = 11 := by decide
  rw [e1, e2, e3] at h2
  by_cases hm : m = 0
  · subst hm
    unfold FloatKind.decode
    rw [nearest_zero, read_zero]
    exact ⟨0, _, rfl, by unfold mv; simp⟩
  · have hl : m.log2 < 24 := log2_lt_of hm (by omega)
    refine nearest_exact _ false m e hm ?_ ?_ ?_ ?_ <;> omega
theorem aD_inf {b : Nat} {s : Bool} (h : FloatKind.f32.decode b = .infinity s) : FloatKind.f64.decode (aD (dC b)) = .infinity false := by
  have hd : dC b = FloatKind.f64.encode (.infinity s) := by
    unfold dC; rw [nan_of_inf h, if_neg Bool.false_ne_true, h]
  rw [hd]
  cases s <;> decide +kernel

/-- What a single is read as. -/
theorem read32 (b : Nat) : FloatKind.f32.decode b = if b % 2147483648 < 8388608 then .number (b / 2147483648 % 2 == 1) (b % 2147483648) (-149)
    else if b % 2147483648 < 2139095040 then .number (b / 2147483648 % 2 == 1) (8388608 + b % 2147483648 % 8388608) (-149 + (b % 2147483648 / 8388608 - 1 : Nat))
    else if b % 2147483648 = 2139095040 then .infinity (b / 2147483648 % 2 == 1) else .nan (b / 2147483648 % 2 == 1) (b % 2147483648 - 2139095040) := by
  unfold FloatKind.decode Ieee.Format.read
  have e1 : FloatKind.f32.format.signWeight = 0x80000000 := by decide
  have e2 : FloatKind.f32.format.binade = 0x800000 := by decide
  have e3 : FloatKind.f32.format.infRung = 0x7f800000 := by decide
  have e4 : FloatKind.f32.format.leastPlace = -149 := by decide
  simp only [e1, e2, e3, e4]

theorem mv_zero_iff {m : Nat} {e : Int} : mv m e = 0 ↔ m = 0 := by
  constructor
  · intro h
    rcases Nat.eq_zero_or_pos m with h1 | h1
    · exact h1
    · have := mv_lt h1 e
      have e0 : mv 0 e = 0 := by unfold mv; simp
      rw [e0, h] at this; grind
  · intro h; subst h; unfold mv; simp
theorem mv_up {m : Nat} {e : Int} (h : 8388608 ≤ m) (he : -149 ≤ e) : mv 8388608 (-149) ≤ mv m e := by
  have h1 : mv 8388608 e ≤ mv m e := mv_le h e
  have h2 : mv 8388608 (-149) ≤ mv 8388608 e := by
    unfold mv
    exact Rat.mul_le_mul_of_nonneg_left (p2_le he) Rat.natCast_nonneg
  grind

/-- The kind of a single. -/
def kindP (b : Nat) : Int :=
  if nan .f32 b then 4 else if b % 2147483648 = 0 then 0 else if b % 2147483648 = 2139095040 then 3 else if b % 2147483648 < 8388608 then 1 else 2

theorem kind_facts (b : Nat) (hn : nan .f32 b = false) :
    (FloatKind.f32.format.order b 0 == some .eq) = decide (b % 2147483648 = 0) ∧
    (FloatKind.f32.format.order b 2139095039 == some .gt || FloatKind.f32.format.order b 4286578687 == some .lt) = decide (b % 2147483648 = 2139095040) ∧
    (FloatKind.f64.format.order (aD (dC b)) 0 == some .eq) = decide (b % 2147483648 = 0) ∧
    (FloatKind.f64.format.order (aD (dC b)) 4039728865751334912 == some .lt) = decide (b % 2147483648 < 8388608) ∧
    (FloatKind.f64.format.order (aD (dC b)) 5183643170566569984 == some .gt) = decide (b % 2147483648 = 2139095040) := by
  have hr := read32 b
  rw [nan32_iff] at hn
  have hn : ¬ 2139095040 < b % 2147483648 := by simpa using hn
  generalize (b / 2147483648 % 2 == 1) = s at hr
  have c0 : FloatKind.f32.format.read 0 = .number false 0 (-149) := by decide +kernel
  have c1 : FloatKind.f32.format.read 2139095039 = .number false 16777215 104 := by decide +kernel
  have c2 : FloatKind.f32.format.read 4286578687 = .number true 16777215 104 := by decide +kernel
  have c3 : FloatKind.f64.format.read 0 = .number false 0 (-1074) := by decide +kernel
  have c4 : FloatKind.f64.format.read 4039728865751334912 = .number false 4503599627370496 (-178) := by decide +kernel
  have c5 : FloatKind.f64.format.read 5183643170566569984 = .number false 9007198717870080 75 := by decide +kernel
  by_cases hi : b % 2147483648 = 2139095040
  · have hd : FloatKind.f32.decode b = .infinity s := by rw [hr, if_neg (by omega), if_neg (by omega), if_pos hi]
    have ha := aD_inf hd
    have hd : FloatKind.f32.format.read b = _ := hd
    have ha : FloatKind.f64.format.read (aD (dC b)) = _ := ha
    unfold Ieee.Format.order
    rw [hd, ha, c0, c1, c2, c3, c4, c5, hi]
    cases s <;> decide
  · -- a number
    obtain ⟨m, e, hd, hm1, hm2, hm3, hm4, hm5⟩ : ∃ m e, FloatKind.f32.decode b = .number s m e ∧ m ≤ 16777215 ∧ e ≤ 104 ∧ (b % 2147483648 = 0 ↔ m = 0) ∧ (b % 2147483648 < 8388608 → m < 8388608 ∧ e = -149) ∧ (¬ b % 2147483648 < 8388608 → 8388608 ≤ m ∧ -149 ≤ e) := by
      by_cases h1 : b % 2147483648 < 8388608
      · rw [if_pos h1] at hr
        exact ⟨_, _, hr, by omega, by omega, Iff.rfl, fun _ => ⟨h1, rfl⟩, fun h => absurd h1 h⟩
      · rw [if_neg h1, if_pos (by omega)] at hr
        exact ⟨_, _, hr, by omega, by omega, by omega, fun h => absurd h h1, fun _ => ⟨by omega, by omega⟩⟩
    obtain ⟨M, P, ha, hv⟩ := aD_dC hd
    have hd : FloatKind.f32.format.read b = _ := hd
    have ha : FloatKind.f64.format.read (aD (dC b)) = _ := ha
    have z0 : rv (.number false 0 (-149)) = 0 := by unfold rv mv; simp
    have z3 : rv (.number false 0 (-1074)) = 0 := by unfold rv mv; simp
    have hmax : mv m e ≤ mv 16777215 104 := by
      have h1 := mv_le hm1 e
      have h2 : mv 16777215 e ≤ mv 16777215 104 := by unfold mv; exact Rat.mul_le_mul_of_nonneg_left (p2_le hm2) Rat.natCast_nonneg
      grind
    have hm0 := mv_nonneg m e
    have hx0 := mv_nonneg 16777215 104
    have z4 : mv 4503599627370496 (-178) = mv 8388608 (-149) := by
      have := mv_shift 8388608 (-178) 29
      exact this
    have z5 : mv 9007198717870080 75 = mv 16777215 104 := by
      have := mv_shift 16777215 75 29
      exact this
    unfold Ieee.Format.order
    rw [hd, ha, c0, c1, c2, c3, c4, c5]
    refine ⟨?_, ?_, ?_, ?_, ?_⟩
    · rw [Bool.eq_iff_iff, beq_iff_eq, order_eq, z0, decide_eq_true_iff, hm3]
      unfold rv
      cases s
      · simp [mv_zero_iff]
      · simp only [if_true]
        constructor
        · intro h; exact (mv_zero_iff (e := e)).1 (by grind)
        · intro h; rw [mv_zero_iff.2 h]; rfl
    · simp only [hi, decide_false, Bool.or_eq_false_iff, beq_eq_false_iff_ne, ne_eq]
      refine ⟨fun h => ?_, fun h => ?_⟩
      · have := (order_gt _ _ _ _ _ _).1 h
        unfold rv at this
        cases s <;> simp at this <;> grind
      · have := (order_lt _ _ _ _ _ _).1 h
        unfold rv at this
        cases s <;> simp at this <;> grind
    · rw [Bool.eq_iff_iff, beq_iff_eq, order_eq, z3, decide_eq_true_iff, hm3]
      unfold rv
      simp [hv, mv_zero_iff]
    · rw [Bool.eq_iff_iff, beq_iff_eq, order_lt, decide_eq_true_iff]
      unfold rv
      simp only [Bool.false_eq_true, if_false, hv, z4]
      constructor
      · intro h
        rcases Nat.lt_or_ge (b % 2147483648) 8388608 with h1 | h1
        · exact h1
        · obtain ⟨a1, a2⟩ := hm5 (by omega)
          have := mv_up a1 a2
          grind
      · intro h
        obtain ⟨a1, a2⟩ := hm4 h
        rw [a2]; exact mv_lt a1 _
    · simp only [hi, decide_false, beq_eq_false_iff_ne, ne_eq]
      intro h
      have := (order_gt _ _ _ _ _ _).1 h
      unfold rv at this
      simp only [Bool.false_eq_true, if_false, hv, z5] at this
      grind

theorem and_exp (b : Nat) (h : b < 4294967296) : (bits .and .u32 (b : Int) 2139095040 == 0) = decide (b % 2147483648 < 8388608) := by
  have h1 : (BitVec.ofInt 32 (b : Int)).toNat = b := by rw [BitVec.ofInt_natCast, BitVec.toNat_ofNat]; omega
  have h2 : (BitVec.ofInt 32 2139095040).toNat = 2139095040 := by decide
  have h3 : bits .and .u32 (b : Int) 2139095040 = IntKind.u32.wrap ((BitVec.ofInt 32 (b : Int) &&& BitVec.ofInt 32 2139095040).toNat : Nat) := rfl
  have h4 : b &&& 2139095040 = b / 8388608 % 256 * 8388608 := by
    have e1 : (2139095040 : Nat) = 255 <<< 23 := by decide
    have e2 : b / 8388608 % 256 = (b >>> 23) &&& 255 := by
      rw [Nat.shiftRight_eq_div_pow]
      have := Nat.and_two_pow_sub_one_eq_mod (b / 2 ^ 23) 8
      exact this.symm
    rw [e2, e1]
    refine Nat.eq_of_testBit_eq fun i => ?_
    have e3 : (8388608 : Nat) = 2 ^ 23 := rfl
    rw [e3, ← Nat.shiftLeft_eq, Nat.testBit_and, Nat.testBit_shiftLeft, Nat.testBit_shiftLeft, Nat.testBit_and, Nat.testBit_shiftRight]
    by_cases hi : 23 ≤ i
    · have : 23 + (i - 23) = i := by omega
      rw [this]; simp [hi]
    · simp [hi]
  have h5 : ∀ n : Int, IntKind.u32.wrap n = n % 4294967296 := IntKind.wrap_u32
  rw [h3, BitVec.toNat_and, h1, h2, h4, h5, Bool.eq_iff_iff, beq_iff_eq, decide_eq_true_iff]
  have hx : ((b / 8388608 % 256 * 8388608 : Nat) : Int) % 4294967296 = ((b / 8388608 % 256 * 8388608 : Nat) : Int) := by omega
  rw [hx]
  constructor
  · intro h0
    have : b / 8388608 % 256 * 8388608 = 0 := by exact_mod_cast h0
    omega
  · intro h0
    have : b / 8388608 % 256 = 0 := by omega
    rw [this]; rfl

set_option maxHeartbeats 400000 in
theorem bits_any (b : Nat) (w : World) : Calls Try.prog 32 #[.float .f32 b] w fun e w' => e = .returned (.int .u32 (cl .f32 b)) ∧ w = w' := by
  go_enter Try.func32, Try.ntmps32
  go_wp2_with (go_at_call 30; refine (clean_any _ _).mono ?_; rintro e w' ⟨rfl, rfl⟩)
  go_ret
  exact ⟨rfl, rfl⟩
set_option maxHeartbeats 400000 in
theorem bitsof_any (b : Nat) (w : World) : Calls Try.prog 33 #[.float .f32 b] w fun e w' => e = .returned (.int .u32 (cl .f32 b)) ∧ w = w' := by
  go_enter Try.func33, Try.ntmps33
  go_wp2_with (go_at_call 31; refine (fix_any _ _).mono ?_; rintro e w' ⟨rfl, rfl⟩)
  go_ret
  exact ⟨rfl, rfl⟩
set_option maxHeartbeats 400000 in
theorem frombits_any (n : Int) (w : World) : Calls Try.prog 34 #[.int .u32 n] w fun e w' => e = .returned (.float .f32 (cl .f32 n.toNat)) ∧ w = w' := by
  go_enter Try.func34, Try.ntmps34
  go_wp2_with (go_at_call 30; refine (clean_any _ _).mono ?_; rintro e w' ⟨rfl, rfl⟩)
  go_ret
  exact ⟨rfl, rfl⟩
/-- Is it an infinity? -/
def infP (b : Nat) : Bool := FloatKind.f32.format.order b 2139095039 == some .gt || FloatKind.f32.format.order b 4286578687 == some .lt
set_option maxHeartbeats 400000 in
theorem infinite_any (b : Nat) (w : World) : Calls Try.prog 63 #[.float .f32 b] w fun e w' => e = .returned (.bool (infP b)) ∧ w = w' := by
  unfold infP
  cases h : FloatKind.f32.format.order b 2139095039 == some .gt
  all_goals
    go_enter Try.func63, Try.ntmps63
    go_wp2
    go_ret
    exact ⟨by simp, rfl⟩

/-- The tests on a single, by its kind. -/
theorem kind_of (b : Nat) (h : b < 4294967296) : (nan .f32 b = true ∧ kindP b = 4) ∨
    (nan .f32 b = false ∧ kindP b = 0 ∧ (FloatKind.f32.format.order b 0 == some .eq) = true ∧ (FloatKind.f64.format.order (aD (dC b)) 0 == some .eq) = true) ∨
    (nan .f32 b = false ∧ kindP b = 3 ∧ (FloatKind.f32.format.order b 0 == some .eq) = false ∧ (FloatKind.f64.format.order (aD (dC b)) 0 == some .eq) = false ∧ infP b = true ∧ (FloatKind.f64.format.order (aD (dC b)) 4039728865751334912 == some .lt) = false ∧ (FloatKind.f64.format.order (aD (dC b)) 5183643170566569984 == some .gt) = true) ∨
    (nan .f32 b = false ∧ kindP b = 1 ∧ (FloatKind.f32.format.order b 0 == some .eq) = false ∧ (FloatKind.f64.format.order (aD (dC b)) 0 == some .eq) = false ∧ infP b = false ∧ (FloatKind.f64.format.order (aD (dC b)) 4039728865751334912 == some .lt) = true ∧ (bits .and .u32 (b : Int) 2139095040 == 0) = true) ∨
    (nan .f32 b = false ∧ kindP b = 2 ∧ (FloatKind.f32.format.order b 0 == some .eq) = false ∧ (FloatKind.f64.format.order (aD (dC b)) 0 == some .eq) = false ∧ infP b = false ∧ (FloatKind.f64.format.order (aD (dC b)) 4039728865751334912 == some .lt) = false ∧ (FloatKind.f64.format.order (aD (dC b)) 5183643170566569984 == some .gt) = false ∧ (bits .and .u32 (b : Int) 2139095040 == 0) = false) := by
  cases hn : nan .f32 b with
  | true => left; exact ⟨rfl, by unfold kindP; rw [hn]; rfl⟩
  | false =>
    right
    obtain ⟨f1, f2, f3, f4, f5⟩ := kind_facts b hn
    have f6 := and_exp b h
    have f2 : infP b = _ := f2
    rw [f1, f2, f3, f4, f5, f6]
    unfold kindP
    rw [hn]
    simp only [Bool.false_eq_true, if_false]
    by_cases c1 : b % 2147483648 = 0
    · left; simp [c1]
    · by_cases c2 : b % 2147483648 = 2139095040
      · right; left; simp [c2]
      · by_cases c3 : b % 2147483648 < 8388608
        · right; right; left; simp [c1, c2, c3]
        · right; right; right; simp [c1, c2, c3]

set_option maxHeartbeats 400000 in
set_option maxRecDepth 100000 in
theorem kind_any (b : Nat) (w : World) (h : b < 4294967296) : Calls Try.prog 35 #[.float .f32 b] w fun e w' => e = .returned (.int .i64 (kindP b)) ∧ w = w' := by
  have ho := order_self .f32 b
  rcases kind_of b h with ⟨hn, hk⟩ | ⟨hn, hk, t1, -⟩ | ⟨hn, hk, t1, -, t2, -⟩ | ⟨hn, hk, t1, -, t2, -, t3⟩ | ⟨hn, hk, t1, -, t2, -, -, t3⟩
  all_goals
    rw [hn] at ho
    try rw [← cl_not hn] at t3
    simp only [Bool.false_eq_true, if_false, if_true] at ho
    rw [hk]
    clear h hk hn
    go_enter Try.func35, Try.ntmps35
    go_wp2_with (first
      | (go_at_call 63; refine (infinite_any _ _).mono ?_; rintro e w' ⟨rfl, rfl⟩)
      | (go_at_call 32; refine (bits_any _ _).mono ?_; rintro e w' ⟨rfl, rfl⟩))
    go_ret
    exact ⟨rfl, rfl⟩
end Go.Proofs.Ytibkdogjgofljaa
