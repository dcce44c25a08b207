/- Contracts of the order of singles: place, at, Next, Apart, and those of the reference. Conditions: none. -/
import Derived.Test.YtibkdogjgofljaaMw
import Derived.Deep.RegionWith
namespace Go.Proofs.Ytibkdogjgofljaa
open Go.RowKit
open Fl

theorem nan32_iff (b : Nat) : nan .f32 b = decide (0x7f800000 < b % 0x80000000) := by
  by_cases h : 0x7f800000 < b % 0x80000000
  · rw [nan32 h]; simp [h]
  · simp only [h, decide_false]
    unfold nan Ieee.Format.read Ieee.Datum.isNaN
    have e1 : FloatKind.f32.format.signWeight = 0x80000000 := by decide
    have e2 : FloatKind.f32.format.binade = 0x800000 := by decide
    have e3 : FloatKind.f32.format.infRung = 0x7f800000 := by decide
    simp only [e1, e2, e3]
    by_cases h1 : b % 0x80000000 < 0x800000
    · rw [if_pos h1]
    · rw [if_neg h1]
      by_cases h2 : b % 0x80000000 < 0x7f800000
      · rw [if_pos h2]
      · rw [if_neg h2, if_pos (by omega)]

/-- Where a single stands in the order. -/
def placeP (b : Nat) : Int := if b < 2147483648 then b else 2147483647 - (b : Int)
def atP (n : Int) : Nat := if n < 0 then (2147483647 - n).toNat else n.toNat

theorem and_top (b : Nat) (h : b < 4294967296) : bits .and .i64 (b : Int) 2147483648 = if b < 2147483648 then 0 else 2147483648 := by
  have h1 : (BitVec.ofInt 64 (b : Int)).toNat = b := by rw [BitVec.ofInt_natCast, BitVec.toNat_ofNat]; omega
  have h2 : (BitVec.ofInt 64 2147483648).toNat = 2 ^ 31 := by decide
  show IntKind.i64.wrap ((BitVec.ofInt 64 b &&& BitVec.ofInt 64 2147483648).toNat : Nat) = _
  rw [BitVec.toNat_and, h1, h2, IntKind.wrap_i64]
  have h3 : b &&& 2 ^ 31 = if b < 2147483648 then 0 else 2147483648 := by
    refine Nat.eq_of_testBit_eq fun i => ?_
    rw [Nat.testBit_and, Nat.testBit_two_pow]
    by_cases c : b < 2147483648
    · rw [if_pos c]
      by_cases hi : 31 = i
      · subst hi; rw [Nat.testBit_lt_two_pow (by omega)]; simp
      · simp [hi]
    · rw [if_neg c]
      have e : (2147483648 : Nat) = 2 ^ 31 := rfl
      rw [e, Nat.testBit_two_pow]
      by_cases hi : 31 = i
      · subst hi
        have : b.testBit 31 = true := by
          rw [Nat.testBit_eq_decide_div_mod_eq]
          have : b / 2 ^ 31 = 1 := by omega
          simp [this]
        rw [this]; simp
      · simp [hi]
  rw [h3]
  by_cases c : b < 2147483648
  · rw [if_pos c, if_pos c]; decide
  · rw [if_neg c, if_neg c]; decide
theorem and_low (b : Nat) (h : b < 4294967296) : bits .and .i64 (b : Int) 2147483647 = ((b % 2147483648 : Nat) : Int) := by
  have h1 : (BitVec.ofInt 64 (b : Int)).toNat = b := by rw [BitVec.ofInt_natCast, BitVec.toNat_ofNat]; omega
  have h2 : (BitVec.ofInt 64 2147483647).toNat = 2 ^ 31 - 1 := by decide
  show IntKind.i64.wrap ((BitVec.ofInt 64 b &&& BitVec.ofInt 64 2147483647).toNat : Nat) = _
  rw [BitVec.toNat_and, h1, h2, IntKind.wrap_i64, Nat.and_two_pow_sub_one_eq_mod]
  omega
theorem or_top (n : Nat) (h : n < 2147483648) : bits .or .u32 (n : Int) 2147483648 = ((n + 2147483648 : Nat) : Int) := by
  have h1 : (BitVec.ofInt 32 (n : Int)).toNat = n := by rw [BitVec.ofInt_natCast, BitVec.toNat_ofNat]; omega
  have h2 : (BitVec.ofInt 32 2147483648).toNat = 2 ^ 31 := by decide
  show IntKind.u32.wrap ((BitVec.ofInt 32 n ||| BitVec.ofInt 32 2147483648).toNat : Nat) = _
  rw [BitVec.toNat_or, h1, h2, IntKind.wrap_u32]
  have h3 : n ||| 2 ^ 31 = n + 2147483648 := by
    rw [Nat.or_comm]
    have := Nat.two_pow_add_eq_or_of_lt (i := 31) (b := n) (by omega) 1
    simp at this ⊢; omega
  rw [h3]; omega

set_option maxHeartbeats 400000 in
set_option maxRecDepth 100000 in
theorem place_any (b : Nat) (w : World) (h : b < 4294967296) : Calls Try.prog 64 #[.float .f32 b] w fun e w' => e = .returned (.int .i64 (placeP b)) ∧ w = w' := by
  by_cases c : b < 2147483648
  · have h1 : bits .and .i64 (b : Int) 2147483648 = 0 := by rw [and_top b h, if_pos c]
    have h2 : placeP b = b := by unfold placeP; rw [if_pos c]
    rw [h2]
    clear h2
    go_enter Try.func64, Try.ntmps64
    go_wp2
    go_ret
    exact ⟨rfl, rfl⟩
  · have h1 : bits .and .i64 (b : Int) 2147483648 = 2147483648 := by rw [and_top b h, if_neg c]
    have h3 := and_low b h
    obtain ⟨m, hm⟩ : ∃ m : Nat, b % 2147483648 = m := ⟨_, rfl⟩
    have hml : m < 2147483648 := by omega
    have h2 : placeP b = -(m : Int) - 1 := by unfold placeP; rw [if_neg c]; omega
    rw [h2]
    rw [hm] at h3
    clear h2 hm
    go_enter Try.func64, Try.ntmps64
    go_wp2
    go_ret
    exact ⟨rfl, rfl⟩
set_option maxHeartbeats 400000 in
set_option maxRecDepth 100000 in
theorem placeof_any (b : Nat) (w : World) (h : b < 4294967296) : Calls Try.prog 65 #[.float .f32 b] w fun e w' => e = .returned (.int .i64 (placeP b)) ∧ w = w' := by
  obtain ⟨z, hz⟩ : ∃ z : Int, (b : Int) = z := ⟨_, rfl⟩
  have z0 : 0 ≤ z := by omega
  have z1 : z < 4294967296 := by omega
  have hp : placeP b = if z < 2147483648 then z else 2147483647 - z := by
    unfold placeP
    by_cases c : b < 2147483648
    · rw [if_pos c, if_pos (by omega), hz]
    · rw [if_neg c, if_neg (by omega), hz]
  rw [hp]
  clear hp h
  by_cases c : z < 2147483648
  · rw [if_pos c]
    go_enter Try.func65, Try.ntmps65
    go_wp2
    go_ret
    exact ⟨rfl, rfl⟩
  · rw [if_neg c]
    go_enter Try.func65, Try.ntmps65
    go_wp2
    go_ret
    exact ⟨rfl, rfl⟩
set_option maxHeartbeats 400000 in
set_option maxRecDepth 100000 in
theorem at_any (n : Int) (w : World) (h1 : -2147483648 ≤ n) (h2 : n < 2147483648) : Calls Try.prog 66 #[.int .i64 n] w fun e w' => e = .returned (.float .f32 (atP n)) ∧ w = w' := by
  by_cases c : n < 0
  · obtain ⟨m, hm⟩ : ∃ m : Nat, n = -(m : Int) - 1 := ⟨(-n - 1).toNat, by omega⟩
    subst hm
    have ho := or_top m (by omega)
    have hs : atP (-(m : Int) - 1) = ((m + 2147483648 : Nat) : Int).toNat := by unfold atP; rw [if_pos c]; omega
    rw [hs]
    go_enter Try.func66, Try.ntmps66
    go_wp2
    go_ret
    refine ⟨ret_eq (congrArg (Value.float .f32) ?_), rfl⟩
    rw [show (-(-(m : Int) - 1) - 1) = (m : Int) by omega, ho]
  · have hs : atP n = n.toNat := by unfold atP; rw [if_neg c]
    rw [hs]
    have hw : n % 4294967296 = n := by omega
    go_enter Try.func66, Try.ntmps66
    go_wp2
    go_ret
    exact ⟨rfl, rfl⟩

/-- The neighbour. -/
def nextP (b : Nat) (up : Bool) : Nat :=
  if nan .f32 b then qn .f32
  else if 2139095040 < (if up then placeP b + 1 else placeP b - 1) ∨ (if up then placeP b + 1 else placeP b - 1) < -2139095041 then b
  else atP (if up then placeP b + 1 else placeP b - 1)
theorem place_range (b : Nat) (h : b < 4294967296) (hn : nan .f32 b = false) : -2139095041 ≤ placeP b ∧ placeP b ≤ 2139095040 ∧ atP (placeP b) = b := by
  rw [nan32_iff] at hn
  have hn : ¬ 2139095040 < b % 2147483648 := by simpa using hn
  unfold atP placeP
  by_cases c : b < 2147483648
  · simp only [c, if_true]
    exact ⟨by omega, by omega, by rw [if_neg (by omega)]; omega⟩
  · simp only [c, if_false]
    exact ⟨by omega, by omega, by rw [if_pos (by omega)]; omega⟩
set_option maxHeartbeats 400000 in
set_option maxRecDepth 100000 in
theorem next_any (b : Nat) (up : Bool) (w : World) (h : b < 4294967296) : Calls Try.prog 44 #[.float .f32 b, .bool up] w fun e w' => e = .returned (.float .f32 (nextP b up)) ∧ w = w' := by
  cases hn : nan .f32 b with
  | true =>
    have ho : FloatKind.f32.format.order b b = none := by rw [order_self, hn]; rfl
    have hc : cl .f32 b = nextP b up := by rw [cl_nan hn]; unfold nextP; rw [hn]; rfl
    rw [← hc]
    clear hc
    go_enter Try.func44, Try.ntmps44
    go_wp2_with (go_at_call 30; refine (clean_any _ _).mono ?_; rintro e w' ⟨rfl, rfl⟩)
    go_ret
    exact ⟨rfl, rfl⟩
  | false =>
    have ho : FloatKind.f32.format.order b b = some .eq := by rw [order_self, hn]; rfl
    obtain ⟨r1, r2, r3⟩ := place_range b h hn
    have hx : nextP b up = atP (if up then (if placeP b < 2139095040 then placeP b + 1 else placeP b) else (if -2139095041 < placeP b then placeP b - 1 else placeP b)) := by
      unfold nextP
      rw [hn, if_neg (by decide)]
      cases up
      · simp only [Bool.false_eq_true, if_false]
        by_cases c : -2139095041 < placeP b
        · rw [if_neg (by omega), if_pos c]
        · rw [if_pos (by omega), if_neg c, r3]
      · simp only [if_true]
        by_cases c : placeP b < 2139095040
        · rw [if_neg (by omega), if_pos c]
        · rw [if_pos (by omega), if_neg c, r3]
    rw [hx]
    clear hx r3
    generalize hp : placeP b = p at *
    have Hp := Lib.hid hp
    clear hp hn
    cases up
    · by_cases c : -2139095041 < p
      all_goals
        simp only [c, if_true, if_false, Bool.false_eq_true]
        go_enter Try.func44, Try.ntmps44
        go_wp2_with (first
          | (go_at_call 64; refine (place_any _ _ h).mono ?_; rw [Hp.out]; rintro e w' ⟨rfl, rfl⟩)
          | (go_at_call 66; refine (at_any _ _ (by omega) (by omega)).mono ?_; rintro e w' ⟨rfl, rfl⟩))
        go_ret
        exact ⟨rfl, rfl⟩
    · by_cases c : p < 2139095040
      all_goals
        simp only [c, if_true, if_false]
        go_enter Try.func44, Try.ntmps44
        go_wp2_with (first
          | (go_at_call 64; refine (place_any _ _ h).mono ?_; rw [Hp.out]; rintro e w' ⟨rfl, rfl⟩)
          | (go_at_call 66; refine (at_any _ _ (by omega) (by omega)).mono ?_; rintro e w' ⟨rfl, rfl⟩))
        go_ret
        exact ⟨rfl, rfl⟩
set_option maxHeartbeats 400000 in
set_option maxRecDepth 100000 in
theorem nextof_any (b : Nat) (up : Bool) (w : World) (h : b < 4294967296) : Calls Try.prog 45 #[.float .f32 b, .bool up] w fun e w' => e = .returned (.float .f32 (nextP b up)) ∧ w = w' := by
  cases hn : nan .f32 b with
  | true =>
    have ho : FloatKind.f32.format.order b b = none := by rw [order_self, hn]; rfl
    have hc : qn .f32 = nextP b up := by unfold nextP; rw [hn]; rfl
    rw [← hc]
    clear hc
    go_enter Try.func45, Try.ntmps45
    go_wp2_with (go_at_call 62; refine (thenan_any _).mono ?_; rintro e w' ⟨rfl, rfl⟩)
    go_ret
    exact ⟨rfl, rfl⟩
  | false =>
    have ho : FloatKind.f32.format.order b b = some .eq := by rw [order_self, hn]; rfl
    obtain ⟨r1, r2, -⟩ := place_range b h hn
    unfold nextP
    rw [hn, if_neg (by decide)]
    generalize hp : placeP b = p at *
    have Hp := Lib.hid hp
    clear hp hn
    cases up
    · simp only [Bool.false_eq_true, if_false]
      by_cases c : p - 1 < -2139095041
      · rw [if_pos (.inr c)]
        go_enter Try.func45, Try.ntmps45
        go_wp2_with (go_at_call 65; refine (placeof_any _ _ h).mono ?_; rw [Hp.out]; rintro e w' ⟨rfl, rfl⟩)
        go_ret
        exact ⟨rfl, rfl⟩
      · rw [if_neg (by omega)]
        unfold atP
        by_cases c2 : p - 1 < 0
        · rw [if_pos c2]
          have hm : (2147483647 - (p - 1)) % 4294967296 = 2147483647 - (p - 1) := by omega
          go_enter Try.func45, Try.ntmps45
          go_wp2_with (go_at_call 65; refine (placeof_any _ _ h).mono ?_; rw [Hp.out]; rintro e w' ⟨rfl, rfl⟩)
          go_ret
          exact ⟨ret_eq (congrArg (Value.float .f32) (by omega)), rfl⟩
        · rw [if_neg c2]
          have hm : (p - 1) % 4294967296 = p - 1 := by omega
          go_enter Try.func45, Try.ntmps45
          go_wp2_with (go_at_call 65; refine (placeof_any _ _ h).mono ?_; rw [Hp.out]; rintro e w' ⟨rfl, rfl⟩)
          go_ret
          exact ⟨ret_eq (congrArg (Value.float .f32) (by omega)), rfl⟩
    · simp only [if_true]
      by_cases c : 2139095040 < p + 1
      · rw [if_pos (.inl c)]
        go_enter Try.func45, Try.ntmps45
        go_wp2_with (go_at_call 65; refine (placeof_any _ _ h).mono ?_; rw [Hp.out]; rintro e w' ⟨rfl, rfl⟩)
        go_ret
        exact ⟨rfl, rfl⟩
      · rw [if_neg (by omega)]
        unfold atP
        by_cases c2 : p + 1 < 0
        · rw [if_pos c2]
          have hm : (2147483647 - (p + 1)) % 4294967296 = 2147483647 - (p + 1) := by omega
          go_enter Try.func45, Try.ntmps45
          go_wp2_with (go_at_call 65; refine (placeof_any _ _ h).mono ?_; rw [Hp.out]; rintro e w' ⟨rfl, rfl⟩)
          go_ret
          exact ⟨ret_eq (congrArg (Value.float .f32) (by omega)), rfl⟩
        · rw [if_neg c2]
          have hm : (p + 1) % 4294967296 = p + 1 := by omega
          go_enter Try.func45, Try.ntmps45
          go_wp2_with (go_at_call 65; refine (placeof_any _ _ h).mono ?_; rw [Hp.out]; rintro e w' ⟨rfl, rfl⟩)
          go_ret
          exact ⟨ret_eq (congrArg (Value.float .f32) (by omega)), rfl⟩

def apartP (a b : Nat) : Int × Bool := if nan .f32 a || nan .f32 b then (0, false) else (placeP b - placeP a, true)
set_option maxHeartbeats 400000 in
set_option maxRecDepth 100000 in
theorem apart_any (a b : Nat) (w : World) (ha : a < 4294967296) (hb : b < 4294967296) : Calls Try.prog 42 #[.float .f32 a, .float .f32 b] w fun e w' => e = .returned (.tuple #[.int .i64 (apartP a b).1, .bool (apartP a b).2]) ∧ w = w' := by
  have hw : wrap64 (placeP b - placeP a) = placeP b - placeP a := by unfold wrap64 placeP; split <;> split <;> omega
  have Hw := Lib.hid hw
  clear hw
  have oa := order_self .f32 a
  have ob := order_self .f32 b
  unfold apartP
  cases na : nan .f32 a <;> cases nb : nan .f32 b <;> rw [na] at oa <;> rw [nb] at ob <;> simp only [Bool.false_eq_true, if_false, if_true] at oa ob
  all_goals
    go_enter Try.func42, Try.ntmps42
    go_wp2_with (first
      | (go_at_call_of 64 (Value.float .f32 b); refine (place_any _ _ hb).mono ?_; rintro e w' ⟨rfl, rfl⟩)
      | (go_at_call_of 64 (Value.float .f32 a); refine (place_any _ _ ha).mono ?_; rintro e w' ⟨rfl, rfl⟩))
    go_ret2
    exact ⟨by simp <;> exact Hw.out, rfl⟩
set_option maxHeartbeats 400000 in
set_option maxRecDepth 100000 in
theorem apartof_any (a b : Nat) (w : World) (ha : a < 4294967296) (hb : b < 4294967296) : Calls Try.prog 43 #[.float .f32 a, .float .f32 b] w fun e w' => e = .returned (.tuple #[.int .i64 (apartP a b).1, .bool (apartP a b).2]) ∧ w = w' := by
  have hw : wrap64 (placeP b - placeP a) = placeP b - placeP a := by unfold wrap64 placeP; split <;> split <;> omega
  have Hw := Lib.hid hw
  clear hw
  have oa := order_self .f32 a
  have ob := order_self .f32 b
  unfold apartP
  cases na : nan .f32 a <;> cases nb : nan .f32 b <;> rw [na] at oa <;> rw [nb] at ob <;> simp only [Bool.false_eq_true, if_false, if_true] at oa ob
  all_goals
    go_enter Try.func43, Try.ntmps43
    go_wp2_with (first
      | (go_at_call_of 65 (Value.float .f32 b); refine (placeof_any _ _ hb).mono ?_; rintro e w' ⟨rfl, rfl⟩)
      | (go_at_call_of 65 (Value.float .f32 a); refine (placeof_any _ _ ha).mono ?_; rintro e w' ⟨rfl, rfl⟩))
    go_ret2
    exact ⟨by simp <;> exact Hw.out, rfl⟩
end Go.Proofs.Ytibkdogjgofljaa
