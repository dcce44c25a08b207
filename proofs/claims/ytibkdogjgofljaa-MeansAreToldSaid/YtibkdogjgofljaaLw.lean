/- Contracts of the functions on levels: Ordered, Offset, Value, Level, and those of the reference. Conditions: none. -/
import Derived.Test.YtibkdogjgofljaaNw
import Derived.Test.YtibkdogjgofljaaPm
import Derived.Deep.Light
namespace Go.Proofs.Ytibkdogjgofljaa
open Go.RowKit
open Fl

theorem and7 (n : Int) : bits .and .i64 n 7 = n % 8 := by
  have h7 : (BitVec.ofInt 64 7).toNat = 2 ^ 3 - 1 := by decide
  have key : (BitVec.ofInt 64 n &&& BitVec.ofInt 64 7).toNat = (n % ((2 ^ 64 : Nat) : Int)).toNat % 2 ^ 3 := by
    rw [BitVec.toNat_and, BitVec.toNat_ofInt, h7, Nat.and_two_pow_sub_one_eq_mod]
  show IntKind.i64.wrap ((BitVec.ofInt 64 n &&& BitVec.ofInt 64 7).toNat : Nat) = n % 8
  rw [key, IntKind.wrap_i64]
  omega
theorem mod8 (n : Int) : (wrap64 (n.tmod 8 + 8)).tmod 8 = n % 8 := by
  have h1 : (n.tmod 8 = n % 8 ∨ n.tmod 8 = n % 8 - 8) := by
    rw [Int.tmod_eq_emod]
    split
    · left; omega
    · right; have : ((8 : Int).natAbs : Int) = 8 := rfl; omega
  have h2 : wrap64 (n.tmod 8 + 8) = n.tmod 8 + 8 := by unfold wrap64; omega
  rw [h2, Int.tmod_eq_emod, if_pos (by omega)]
  omega

/-- The rank of a place by its two remainders. -/
def ordP (a b : Nat) : Nat :=
  let p := a ^^^ b
  p % 2 * 32 + b % 2 * 16 + p / 2 % 2 * 8 + b / 2 % 2 * 4 + p / 4 % 2 * 2 + b / 4 % 2
theorem ordP_lt : ∀ a : Nat, a < 8 → ∀ b, b < 8 → ordP a b < 64 := by decide +kernel

set_option maxHeartbeats 400000 in
set_option maxRecDepth 100000 in
theorem ordered_any (x y : Int) (a b : Nat) (w : World) (ha : x % 8 = a) (hb : y % 8 = b) :
    Calls Try.prog 15 #[.int .i64 x, .int .i64 y] w fun e w' => e = .returned (.int .i64 (ordP a b)) ∧ w = w' := by
  have h1 : bits .and .i64 x 7 = a := by rw [and7, ha]
  have h2 : bits .and .i64 y 7 = b := by rw [and7, hb]
  have la : a < 8 := by omega
  have lb : b < 8 := by omega
  clear ha hb
  go_enter Try.func15, Try.ntmps15
  go_wp2
  go_ret
  refine ⟨ret_eq (congrArg (Value.int .i64) ?_), rfl⟩
  clear h1 h2
  go_light
  revert b
  revert a
  decide +kernel

set_option maxHeartbeats 400000 in
set_option maxRecDepth 100000 in
theorem orderedof_any (x y : Int) (a b : Nat) (w : World) (ha : x % 8 = a) (hb : y % 8 = b) :
    Calls Try.prog 16 #[.int .i64 x, .int .i64 y] w fun e w' => e = .returned (.int .i64 (ordP a b)) ∧ ∃ n, w' = w.drewN n := by
  have h1 : (wrap64 (x.tmod 8 + 8)).tmod 8 = a := by rw [mod8, ha]
  have h2 : (wrap64 (y.tmod 8 + 8)).tmod 8 = b := by rw [mod8, hb]
  have la : a < 8 := by omega
  have lb : b < 8 := by omega
  clear ha hb
  go_enter Try.func16, Try.ntmps16
  go_wp2
  refine wp_loop_rounds 4 ?_
  rw [rounds_succ]
  go_wp2
  go_quiet (fail)
  go_wp2
  rw [rounds_succ]
  go_wp2
  go_quiet (fail)
  go_wp2
  rw [rounds_succ]
  go_wp2
  go_quiet (fail)
  go_wp2
  rw [rounds_succ]
  go_wp2
  go_ret
  refine ⟨ret_eq (congrArg (Value.int .i64) ?_), _, rfl⟩
  clear h1 h2
  go_light
  revert b
  revert a
  decide +kernel

/-! ### Unit -/
def unitP (h : Int) : Nat := fC .mul .f32 (floatOfInt .f32 (h / 256)) 864026624
theorem unit_num (h : Int) (h0 : 0 ≤ h) (h1 : h < 4294967296) : ∃ m i, FloatKind.f32.decode (unitP h) = .number false m i := by
  obtain ⟨m, i, a1, a2⟩ := ofInt_val .f32 (h / 256) (by omega)
  have sn : decide (h / 256 < 0) = false := by simp; omega
  rw [sn] at a1
  have hz : FloatKind.f32.decode 864026624 = .number false 8388608 (-47) := by decide +kernel
  obtain ⟨b1, b2, -⟩ := mul_num a1 hz
  have e1 : FloatKind.f32.format.leastPlace = -149 := by decide
  have e2 : FloatKind.f32.format.fractionBits = 23 := by decide
  have e3 : ((2 ^ FloatKind.f32.format.exponentBits : Nat) : Int) = 256 := by decide
  have hb : Fr.mv (m * 8388608) (i + -47) ≤ Fr.p2 1 := by
    rw [b2, a2, natCast_cases _ (by omega)]
    have q : Fr.mv 8388608 (-47) = 1 / 16777216 := by decide +kernel
    have q1 : Fr.p2 1 = 2 := by decide +kernel
    have hq : ((h / 256 : Int) : Rat) ≤ ((16777216 : Int) : Rat) := Rat.intCast_le_intCast.2 (by omega)
    have : ((16777216 : Int) : Rat) = 16777216 := rfl
    rw [q, q1]; grind
  obtain ⟨M, P, c1, -⟩ := near_rv (k := .f32) 1 b1 hb (by rw [e1]; decide) (by rw [e1, e2, e3]; decide)
  exact ⟨M, P, c1⟩
theorem unit_nan (h : Int) (h0 : 0 ≤ h) (h1 : h < 4294967296) : nan .f32 (unitP h) = false := by
  obtain ⟨m, i, h⟩ := unit_num h h0 h1
  exact nan_of_num h

set_option maxHeartbeats 400000 in
theorem unit_any (h : Int) (w : World) (h0 : 0 ≤ h) (h1 : h < 4294967296) :
    Calls Try.prog 27 #[.int .u32 h] w fun e w' => e = .returned (.float .f32 (unitP h)) ∧ w = w' := by
  obtain ⟨t1, t2⟩ := det (unit_nan h h0 h1)
  go_enter Try.func27, Try.ntmps27
  go_wp2
  go_ret
  exact ⟨rfl, rfl⟩
set_option maxHeartbeats 400000 in
theorem unitof_any (h : Int) (w : World) (h0 : 0 ≤ h) (h1 : h < 4294967296) :
    Calls Try.prog 28 #[.int .u32 h] w fun e w' => e = .returned (.float .f32 (unitP h)) ∧ w = w' := by
  obtain ⟨m, i, a1, -⟩ := ofInt_val .f32 (h / 256) (by omega)
  have hq : fC .quo .f32 (floatOfInt .f32 (h / 256)) 1266679808 = unitP h := quo_unit a1
  obtain ⟨t1, t2⟩ := det (show nan .f32 (fC .quo .f32 (floatOfInt .f32 (h / 256)) 1266679808) = false by rw [hq]; exact unit_nan h h0 h1)
  rw [hq] at t1
  clear hq a1
  go_enter Try.func28, Try.ntmps28
  go_wp2
  go_ret
  exact ⟨rfl, rfl⟩

/-! ### Offset -/
def offO (n : Nat) : Nat := fC .sub .f32 (fC .quo .f32 (fC .add .f32 (floatOfInt .f32 n) 1056964608) 1115684864) 1056964608
theorem offO_det (n : Nat) (h : n < 64) : (∀ w, fV .add .f32 (floatOfInt .f32 n) 1056964608 w = fC .add .f32 (floatOfInt .f32 n) 1056964608) ∧ fN .add .f32 (floatOfInt .f32 n) 1056964608 = 0 ∧
    (∀ w, fV .quo .f32 (fC .add .f32 (floatOfInt .f32 n) 1056964608) 1115684864 w = fC .quo .f32 (fC .add .f32 (floatOfInt .f32 n) 1056964608) 1115684864) ∧ fN .quo .f32 (fC .add .f32 (floatOfInt .f32 n) 1056964608) 1115684864 = 0 ∧
    (∀ w, fV .sub .f32 (fC .quo .f32 (fC .add .f32 (floatOfInt .f32 n) 1056964608) 1115684864) 1056964608 w = offO n) ∧ fN .sub .f32 (fC .quo .f32 (fC .add .f32 (floatOfInt .f32 n) 1056964608) 1115684864) 1056964608 = 0 := by
  have key : ∀ n : Nat, n < 64 → nan .f32 (fC .add .f32 (floatOfInt .f32 n) 1056964608) = false ∧ nan .f32 (fC .quo .f32 (fC .add .f32 (floatOfInt .f32 n) 1056964608) 1115684864) = false ∧ nan .f32 (offO n) = false := by decide +kernel
  obtain ⟨k1, k2, k3⟩ := key n h
  exact ⟨(det k1).1, (det k1).2, (det k2).1, (det k2).2, (det k3).1, (det k3).2⟩
def offH (h : Int) : Nat := fC .sub .f32 (unitP h) 1056964608
theorem offH_det (h : Int) (h0 : 0 ≤ h) (h1 : h < 4294967296) : (∀ w, fV .sub .f32 (unitP h) 1056964608 w = offH h) ∧ fN .sub .f32 (unitP h) 1056964608 = 0 := by
  obtain ⟨m, i, a⟩ := unit_num h h0 h1
  have hz : FloatKind.f32.decode 1056964608 = .number false 8388608 (-24) := by decide +kernel
  obtain ⟨_, _, _, -, -, hn⟩ := sub_num a hz
  exact det hn
def offP (how s x y c : Int) (a b : Nat) : Nat := if how = 1 then offO (ordP a b) else if how = 2 then offH (hIt s x y c 3) else 0
theorem offP_0 (s x y c : Int) (a b : Nat) : offP 0 s x y c a b = 0 := by unfold offP; rw [if_neg (by decide), if_neg (by decide)]
theorem offP_1 (s x y c : Int) (a b : Nat) : offP 1 s x y c a b = offO (ordP a b) := by unfold offP; rw [if_pos rfl]
theorem offP_2 (s x y c : Int) (a b : Nat) : offP 2 s x y c a b = offH (hIt s x y c 3) := by unfold offP; rw [if_neg (by decide), if_pos rfl]

set_option maxHeartbeats 400000 in
set_option maxRecDepth 100000 in
theorem offset_any (how s x y c : Int) (a b : Nat) (w : World) (hh : 0 ≤ how) (hh2 : how ≤ 2) (ha : x % 8 = a) (hb : y % 8 = b) :
    Calls Try.prog 13 #[.int .i64 how, .int .u32 s, .int .i64 x, .int .i64 y, .int .i64 c] w fun e w' => e = .returned (.tuple #[.float .f32 (offP how s x y c a b), .int .i64 0]) ∧ w = w' := by
  have : how = 0 ∨ how = 1 ∨ how = 2 := by omega
  rcases this with rfl | rfl | rfl
  · have hp : offP 0 s x y c a b = 0 := offP_0 ..
    go_enter Try.func13, Try.ntmps13
    go_wp2
    go_ret2
    exact ⟨by rw [hp]; rfl, rfl⟩
  · have hp : offP 1 s x y c a b = offO (ordP a b) := offP_1 ..
    obtain ⟨t1, t2, t3, t4, t5, t6⟩ := offO_det (ordP a b) (ordP_lt a (by omega) b (by omega))
    have Ha := Lib.hid ha
    have Hb := Lib.hid hb
    clear ha hb
    go_enter Try.func13, Try.ntmps13
    go_wp2_with (go_at_call 15; refine (ordered_any _ _ a b _ Ha.out Hb.out).mono ?_; rintro e w' ⟨rfl, rfl⟩)
    go_ret2
    exact ⟨by rw [hp]; rfl, rfl⟩
  · have hp : offP 2 s x y c a b = offH (hIt s x y c 3) := offP_2 ..
    have hr := hIt_range s x y c 3
    obtain ⟨t1, t2⟩ := offH_det _ hr.1 hr.2
    clear ha hb
    go_enter Try.func13, Try.ntmps13
    go_wp2_with (first | (go_at_call 24; refine (hash_any _ _ _ _ _).mono ?_; rintro e w' ⟨rfl, rfl⟩) | (go_at_call 27; refine (unit_any _ _ hr.1 hr.2).mono ?_; rintro e w' ⟨rfl, rfl⟩))
    go_ret2
    exact ⟨by rw [hp]; rfl, rfl⟩
set_option maxHeartbeats 400000 in
theorem offset_err (how s x y c : Int) (w : World) (hh : how < 0 ∨ 2 < how) :
    Calls Try.prog 13 #[.int .i64 how, .int .u32 s, .int .i64 x, .int .i64 y, .int .i64 c] w fun e w' => e = .returned (.tuple #[.float .f32 0, .int .i64 1]) ∧ w = w' := by
  have e0 : (how == 0) = false := by simp; omega
  have e1 : (how == 1) = false := by simp; omega
  have e2 : (how == 2) = false := by simp; omega
  clear hh
  go_enter Try.func13, Try.ntmps13
  go_wp2
  go_ret2
  exact ⟨rfl, rfl⟩
set_option maxHeartbeats 400000 in
set_option maxRecDepth 100000 in
theorem offsetof_any (how s x y c : Int) (a b : Nat) (w : World) (hh : 0 ≤ how) (hh2 : how ≤ 2) (ha : x % 8 = a) (hb : y % 8 = b) :
    Calls Try.prog 19 #[.int .i64 how, .int .u32 s, .int .i64 x, .int .i64 y, .int .i64 c] w fun e w' => e = .returned (.float .f32 (offP how s x y c a b)) ∧ Grown w w' := by
  have : how = 0 ∨ how = 1 ∨ how = 2 := by omega
  rcases this with rfl | rfl | rfl
  · have hp : offP 0 s x y c a b = 0 := offP_0 ..
    go_enter Try.func19, Try.ntmps19
    go_wp2
    go_ret
    exact ⟨by rw [hp]; rfl, Grown.refl _⟩
  · have hp : offP 1 s x y c a b = offO (ordP a b) := offP_1 ..
    obtain ⟨t1, t2, t3, t4, t5, t6⟩ := offO_det (ordP a b) (ordP_lt a (by omega) b (by omega))
    have Ha := Lib.hid ha
    have Hb := Lib.hid hb
    clear ha hb
    go_enter Try.func19, Try.ntmps19
    go_wp2_with (go_at_call 16; refine (orderedof_any _ _ a b _ Ha.out Hb.out).mono ?_; rintro e w' ⟨rfl, n, rfl⟩)
    go_ret
    exact ⟨by rw [hp]; rfl, Grown.refl _⟩
  · have hp : offP 2 s x y c a b = offH (hIt s x y c 3) := offP_2 ..
    have hr := hIt_range s x y c 3
    obtain ⟨t1, t2⟩ := offH_det _ hr.1 hr.2
    clear ha hb
    go_enter Try.func19, Try.ntmps19
    go_wp2_with (first | (go_at_call 26; refine (hashof_any _ _ _ _ _).mono ?_; rintro e w' ⟨rfl, hg⟩) | (go_at_call 28; refine (unitof_any _ _ hr.1 hr.2).mono ?_; rintro e w' ⟨rfl, rfl⟩))
    go_ret
    exact ⟨by rw [hp]; rfl, hg⟩

/-! ### Value, Level -/
def valP (n M : Int) : Nat := fC .quo .f32 (floatOfInt .f32 n) (floatOfInt .f32 M)
theorem val_nan (n M : Int) (h0 : 0 ≤ n) (h1 : n ≤ M) (h2 : 1 ≤ M) (h3 : M ≤ 65535) : nan .f32 (valP n M) = false := by
  obtain ⟨nm, ni, a1, -⟩ := ofInt_val .f32 n (by omega)
  obtain ⟨Mm, Mi, b1, b2⟩ := ofInt_val .f32 M (by omega)
  have hMm : Mm ≠ 0 := by
    intro h; rw [h] at b2
    have e : Fr.mv 0 Mi = 0 := by unfold Fr.mv; simp
    rw [e, natCast_cases _ (by omega)] at b2
    have := Rat.intCast_le_intCast.2 h2
    rw [← b2] at this
    exact absurd this (by decide)
  obtain ⟨_, _, -, -, h⟩ := quo_num a1 b1 hMm
  exact h

set_option maxHeartbeats 400000 in
theorem value_any (n d M : Int) (w : World) (h1 : 1 ≤ d) (h2 : d ≤ 16) (hM : wrap64 (wrap64 (2 ^ d.toNat) - 1) = M) (h3 : 1 ≤ M) (h4 : M ≤ 65535) (h5 : 0 ≤ n) (h6 : n ≤ M) :
    Calls Try.prog 54 #[.int .i64 n, .int .i64 d] w fun e w' => e = .returned (.float .f32 (valP n M)) ∧ w = w' := by
  obtain ⟨t1, t2⟩ := det (val_nan n M h5 h6 h3 h4)
  go_enter Try.func54, Try.ntmps54
  go_wp2
  go_ret
  exact ⟨rfl, rfl⟩
set_option maxHeartbeats 400000 in
theorem valueof_any (n d M : Int) (w : World) (h1 : 1 ≤ d) (h2 : d ≤ 16) (hM : wrap64 (wrap64 (2 ^ d.toNat) - 1) = M) (h3 : 1 ≤ M) (h4 : M ≤ 65535) (h5 : 0 ≤ n) (h6 : n ≤ M) :
    Calls Try.prog 21 #[.int .i64 n, .int .i64 d] w fun e w' => e = .returned (.float .f32 (valP n M)) ∧ w = w' := by
  obtain ⟨t1, t2⟩ := det (val_nan n M h5 h6 h3 h4)
  go_enter Try.func21, Try.ntmps21
  go_wp2
  go_ret
  exact ⟨rfl, rfl⟩

set_option maxHeartbeats 400000 in
theorem Level_ok (v o : Nat) (d M : Int) (w : World) (h1 : 1 ≤ d) (h2 : d ≤ 16) (hM : wrap64 (wrap64 (2 ^ d.toNat) - 1) = M) (h3 : 1 ≤ M) (h4 : M ≤ 65535) :
    Calls Try.prog 11 #[.float .f32 v, .float .f32 o, .int .i64 d] w fun e w' => e = .returned (.tuple #[.int .i64 (levelP v o M), .int .i64 0]) ∧ ∃ n, w' = w.drewN n := by
  have b1 : (decide (1 ≤ d) && decide (d ≤ 16)) = true := by simp; omega
  have HM := Lib.hid hM
  clear hM
  go_enter Try.func11, Try.ntmps11
  go_wp2_with (first | (go_at_call 52; refine (deep_any _ _).mono ?_; rintro e w' ⟨rfl, rfl⟩) | (go_at_call 53; refine (level_any _ _ _ M _ h1 h2 HM.out h3 h4).mono ?_; rintro e w' ⟨rfl, n, rfl⟩))
  go_ret2
  exact ⟨rfl, _, rfl⟩
set_option maxHeartbeats 400000 in
theorem Level_err (v o : Nat) (d : Int) (w : World) (h : d < 1 ∨ 16 < d) :
    Calls Try.prog 11 #[.float .f32 v, .float .f32 o, .int .i64 d] w fun e w' => e = .returned (.tuple #[.int .i64 0, .int .i64 3]) ∧ ∃ n, w' = w.drewN n := by
  have b1 : (decide (1 ≤ d) && decide (d ≤ 16)) = false := by simp; omega
  clear h
  go_enter Try.func11, Try.ntmps11
  go_wp2_with (go_at_call 52; refine (deep_any _ _).mono ?_; rintro e w' ⟨rfl, rfl⟩)
  go_ret2
  exact ⟨rfl, 0, rfl⟩
set_option maxHeartbeats 400000 in
theorem Value_ok (n d M : Int) (w : World) (h1 : 1 ≤ d) (h2 : d ≤ 16) (hM : wrap64 (wrap64 (2 ^ d.toNat) - 1) = M) (h3 : 1 ≤ M) (h4 : M ≤ 65535) (h5 : 0 ≤ n) (h6 : n ≤ M) :
    Calls Try.prog 12 #[.int .i64 n, .int .i64 d] w fun e w' => e = .returned (.tuple #[.float .f32 (valP n M), .int .i64 0]) ∧ w = w' := by
  have b1 : (decide (1 ≤ d) && decide (d ≤ 16)) = true := by simp; omega
  have HM := Lib.hid hM
  go_enter Try.func12, Try.ntmps12
  go_wp2_with (first | (go_at_call 52; refine (deep_any _ _).mono ?_; rintro e w' ⟨rfl, rfl⟩) | (go_at_call 54; refine (value_any _ _ M _ h1 h2 HM.out h3 h4 h5 h6).mono ?_; rintro e w' ⟨rfl, rfl⟩))
  go_ret2
  exact ⟨rfl, rfl⟩
set_option maxHeartbeats 400000 in
theorem Value_deep (n d : Int) (w : World) (h : d < 1 ∨ 16 < d) :
    Calls Try.prog 12 #[.int .i64 n, .int .i64 d] w fun e w' => e = .returned (.tuple #[.float .f32 0, .int .i64 3]) ∧ w = w' := by
  have b1 : (decide (1 ≤ d) && decide (d ≤ 16)) = false := by simp; omega
  clear h
  go_enter Try.func12, Try.ntmps12
  go_wp2_with (go_at_call 52; refine (deep_any _ _).mono ?_; rintro e w' ⟨rfl, rfl⟩)
  go_ret2
  exact ⟨rfl, rfl⟩
set_option maxHeartbeats 400000 in
theorem Value_err (n d M : Int) (w : World) (h1 : 1 ≤ d) (h2 : d ≤ 16) (hM : wrap64 (wrap64 (2 ^ d.toNat) - 1) = M) (h5 : n < 0 ∨ M < n) :
    Calls Try.prog 12 #[.int .i64 n, .int .i64 d] w fun e w' => e = .returned (.tuple #[.float .f32 0, .int .i64 3]) ∧ w = w' := by
  have b1 : (decide (1 ≤ d) && decide (d ≤ 16)) = true := by simp; omega
  by_cases hn : n < 0
  · clear h5
    go_enter Try.func12, Try.ntmps12
    go_wp2_with (go_at_call 52; refine (deep_any _ _).mono ?_; rintro e w' ⟨rfl, rfl⟩)
    go_ret2
    exact ⟨rfl, rfl⟩
  · have hn2 : M < n := by omega
    clear h5
    go_enter Try.func12, Try.ntmps12
    go_wp2_with (go_at_call 52; refine (deep_any _ _).mono ?_; rintro e w' ⟨rfl, rfl⟩)
    go_ret2
    exact ⟨rfl, rfl⟩

theorem fin_level : levelP 1056964608 0 255 = 128 := by decide +kernel
set_option maxHeartbeats 400000 in
theorem finishes_any (w : World) : Calls Try.prog 14 #[] w fun e w' => e = .returned (.bool true) ∧ ∃ n, w' = w.drewN n := by
  have hl := fin_level
  go_enter Try.func14, Try.ntmps14
  go_wp2_with (go_at_call 11; refine (Level_ok _ _ _ 255 _ (by omega) (by omega) (by decide +kernel) (by omega) (by omega)).mono ?_; rintro e w' ⟨rfl, n, rfl⟩)
  go_ret
  exact ⟨rfl, _, rfl⟩
end Go.Proofs.Ytibkdogjgofljaa
