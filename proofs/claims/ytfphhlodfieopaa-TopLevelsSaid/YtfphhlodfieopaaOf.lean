/- Contracts of Ordered and Offset, and of the reference's. Conditions: none. -/
import Derived.Test.YtfphhlodfieopaaLu
import Derived.Deep.Light
namespace Go.Proofs.Ytfphhlodfieopaa
open Go.RowKit
open Fl

theorem and7 (n : Int) : bits .and .i64 n 7 = n % 8 := by
  have h7 : (BitVec.ofInt 64 7).toNat = 2 ^ 3 - 1 := by decide
  have key : (BitVec.ofInt 64 n &&& BitVec.ofInt 64 7).toNat = (n % ((2 ^ 64 : Nat) : Int)).toNat % 2 ^ 3 := by
    rw [BitVec.toNat_and, BitVec.toNat_ofInt, h7, Nat.and_two_pow_sub_one_eq_mod]
  show IntKind.i64.wrap ((BitVec.ofInt 64 n &&& BitVec.ofInt 64 7).toNat : Nat) = n % 8
  rw [key, IntKind.wrap_i64]
  omega
theorem mod8 (n : Int) : (wrap64 (n.tmod 8 + 8)).tmod 8 = n % 8 := by
  have h1 : (n.tmod 8 = n % 8 ∨ n.tmod 8 = n % 8 - 8) := by
    rw [Int.tmod_eq_emod]
    split
    · left; omega
    · right; have : ((8 : Int).natAbs : Int) = 8 := rfl; omega
  have h2 : wrap64 (n.tmod 8 + 8) = n.tmod 8 + 8 := by unfold wrap64; omega
  rw [h2, Int.tmod_eq_emod, if_pos (by omega)]
  omega

/-- The rank of a place by its two remainders. -/
def ordP (a b : Nat) : Nat :=
  let p := a ^^^ b
  p % 2 * 32 + b % 2 * 16 + p / 2 % 2 * 8 + b / 2 % 2 * 4 + p / 4 % 2 * 2 + b / 4 % 2
theorem ordP_lt : ∀ a : Nat, a < 8 → ∀ b, b < 8 → ordP a b < 64 := by decide +kernel

set_option maxHeartbeats 400000 in
set_option maxRecDepth 100000 in
theorem ordered_any (x y : Int) (a b : Nat) (w : World) (ha : x % 8 = a) (hb : y % 8 = b) :
    Calls Try.prog 111 #[.int .i64 x, .int .i64 y] w fun e w' => e = .returned (.int .i64 (ordP a b)) ∧ w = w' := by
  have h1 : bits .and .i64 x 7 = a := by rw [and7, ha]
  have h2 : bits .and .i64 y 7 = b := by rw [and7, hb]
  have la : a < 8 := by omega
  have lb : b < 8 := by omega
  clear ha hb
  go_enter Try.func111, Try.ntmps111
  go_wp2
  go_ret
  refine ⟨ret_eq (congrArg (Value.int .i64) ?_), rfl⟩
  clear h1 h2
  go_light
  revert b
  revert a
  decide +kernel

set_option maxHeartbeats 400000 in
set_option maxRecDepth 100000 in
theorem orderedof_any (x y : Int) (a b : Nat) (w : World) (ha : x % 8 = a) (hb : y % 8 = b) :
    Calls Try.prog 114 #[.int .i64 x, .int .i64 y] w fun e w' => e = .returned (.int .i64 (ordP a b)) ∧ ∃ n, w' = w.drewN n := by
  have h1 : (wrap64 (x.tmod 8 + 8)).tmod 8 = a := by rw [mod8, ha]
  have h2 : (wrap64 (y.tmod 8 + 8)).tmod 8 = b := by rw [mod8, hb]
  have la : a < 8 := by omega
  have lb : b < 8 := by omega
  clear ha hb
  go_enter Try.func114, Try.ntmps114
  go_wp2
  refine wp_loop_rounds 4 ?_
  rw [rounds_succ]
  go_wp2
  go_quiet (fail)
  go_wp2
  rw [rounds_succ]
  go_wp2
  go_quiet (fail)
  go_wp2
  rw [rounds_succ]
  go_wp2
  go_quiet (fail)
  go_wp2
  rw [rounds_succ]
  go_wp2
  go_ret
  refine ⟨ret_eq (congrArg (Value.int .i64) ?_), _, rfl⟩
  clear h1 h2
  go_light
  revert b
  revert a
  decide +kernel

/-! ### Offset -/
def offO (n : Nat) : Nat := fC .sub .f32 (fC .quo .f32 (fC .add .f32 (floatOfInt .f32 n) 1056964608) 1115684864) 1056964608
theorem offO_det (n : Nat) (h : n < 64) : (∀ w, fV .add .f32 (floatOfInt .f32 n) 1056964608 w = fC .add .f32 (floatOfInt .f32 n) 1056964608) ∧ fN .add .f32 (floatOfInt .f32 n) 1056964608 = 0 ∧
    (∀ w, fV .quo .f32 (fC .add .f32 (floatOfInt .f32 n) 1056964608) 1115684864 w = fC .quo .f32 (fC .add .f32 (floatOfInt .f32 n) 1056964608) 1115684864) ∧ fN .quo .f32 (fC .add .f32 (floatOfInt .f32 n) 1056964608) 1115684864 = 0 ∧
    (∀ w, fV .sub .f32 (fC .quo .f32 (fC .add .f32 (floatOfInt .f32 n) 1056964608) 1115684864) 1056964608 w = offO n) ∧ fN .sub .f32 (fC .quo .f32 (fC .add .f32 (floatOfInt .f32 n) 1056964608) 1115684864) 1056964608 = 0 := by
  have key : ∀ n : Nat, n < 64 → nan .f32 (fC .add .f32 (floatOfInt .f32 n) 1056964608) = false ∧ nan .f32 (fC .quo .f32 (fC .add .f32 (floatOfInt .f32 n) 1056964608) 1115684864) = false ∧ nan .f32 (offO n) = false := by decide +kernel
  obtain ⟨k1, k2, k3⟩ := key n h
  exact ⟨(det k1).1, (det k1).2, (det k2).1, (det k2).2, (det k3).1, (det k3).2⟩
def offH (h : Int) : Nat := fC .sub .f32 (unitP h) 1056964608
theorem offH_det (h : Int) (h0 : 0 ≤ h) (h1 : h < 4294967296) : (∀ w, fV .sub .f32 (unitP h) 1056964608 w = offH h) ∧ fN .sub .f32 (unitP h) 1056964608 = 0 := by
  obtain ⟨m, i, a⟩ := unit_num h h0 h1
  have hz : FloatKind.f32.decode 1056964608 = .number false 8388608 (-24) := by decide +kernel
  obtain ⟨_, _, _, -, -, hn⟩ := sub_num a hz
  exact det hn
def offP (how s x y c : Int) (a b : Nat) : Nat := if how = 1 then offO (ordP a b) else if how = 2 then offH (hIt s x y c 3) else 0
theorem offP_0 (s x y c : Int) (a b : Nat) : offP 0 s x y c a b = 0 := by unfold offP; rw [if_neg (by decide), if_neg (by decide)]
theorem offP_1 (s x y c : Int) (a b : Nat) : offP 1 s x y c a b = offO (ordP a b) := by unfold offP; rw [if_pos rfl]
theorem offP_2 (s x y c : Int) (a b : Nat) : offP 2 s x y c a b = offH (hIt s x y c 3) := by unfold offP; rw [if_neg (by decide), if_pos rfl]

set_option maxHeartbeats 400000 in
set_option maxRecDepth 100000 in
theorem offset_any (how s x y c : Int) (a b : Nat) (w : World) (hh : 0 ≤ how) (hh2 : how ≤ 2) (ha : x % 8 = a) (hb : y % 8 = b) :
    Calls Try.prog 88 #[.int .i64 how, .int .u32 s, .int .i64 x, .int .i64 y, .int .i64 c] w fun e w' => e = .returned (.tuple #[.float .f32 (offP how s x y c a b), .int .i64 0]) ∧ w = w' := by
  have : how = 0 ∨ how = 1 ∨ how = 2 := by omega
  rcases this with rfl | rfl | rfl
  · have hp : offP 0 s x y c a b = 0 := offP_0 ..
    go_enter Try.func88, Try.ntmps88
    go_wp2
    go_ret2
    exact ⟨by rw [hp]; rfl, rfl⟩
  · have hp : offP 1 s x y c a b = offO (ordP a b) := offP_1 ..
    obtain ⟨t1, t2, t3, t4, t5, t6⟩ := offO_det (ordP a b) (ordP_lt a (by omega) b (by omega))
    have Ha := Lib.hid ha
    have Hb := Lib.hid hb
    clear ha hb
    go_enter Try.func88, Try.ntmps88
    go_wp2_with (go_at_call 111; refine (ordered_any _ _ a b _ Ha.out Hb.out).mono ?_; rintro e w' ⟨rfl, rfl⟩)
    go_ret2
    exact ⟨by rw [hp]; rfl, rfl⟩
  · have hp : offP 2 s x y c a b = offH (hIt s x y c 3) := offP_2 ..
    have hr := hIt_range s x y c 3
    obtain ⟨t1, t2⟩ := offH_det _ hr.1 hr.2
    clear ha hb
    go_enter Try.func88, Try.ntmps88
    go_wp2_with (first | (go_at_call 110; refine (hash_any _ _ _ _ _).mono ?_; rintro e w' ⟨rfl, rfl⟩) | (go_at_call 109; refine (unit_any _ _ hr.1 hr.2).mono ?_; rintro e w' ⟨rfl, rfl⟩))
    go_ret2
    exact ⟨by rw [hp]; rfl, rfl⟩
set_option maxHeartbeats 400000 in
theorem offset_err (how s x y c : Int) (w : World) (hh : how < 0 ∨ 2 < how) :
    Calls Try.prog 88 #[.int .i64 how, .int .u32 s, .int .i64 x, .int .i64 y, .int .i64 c] w fun e w' => e = .returned (.tuple #[.float .f32 0, .int .i64 1]) ∧ w = w' := by
  have e0 : (how == 0) = false := by simp; omega
  have e1 : (how == 1) = false := by simp; omega
  have e2 : (how == 2) = false := by simp; omega
  clear hh
  go_enter Try.func88, Try.ntmps88
  go_wp2
  go_ret2
  exact ⟨rfl, rfl⟩
set_option maxHeartbeats 400000 in
set_option maxRecDepth 100000 in
theorem offsetof_any (how s x y c : Int) (a b : Nat) (w : World) (hh : 0 ≤ how) (hh2 : how ≤ 2) (ha : x % 8 = a) (hb : y % 8 = b) :
    Calls Try.prog 92 #[.int .i64 how, .int .u32 s, .int .i64 x, .int .i64 y, .int .i64 c] w fun e w' => e = .returned (.float .f32 (offP how s x y c a b)) ∧ Grown w w' := by
  have : how = 0 ∨ how = 1 ∨ how = 2 := by omega
  rcases this with rfl | rfl | rfl
  · have hp : offP 0 s x y c a b = 0 := offP_0 ..
    go_enter Try.func92, Try.ntmps92
    go_wp2
    go_ret
    exact ⟨by rw [hp]; rfl, Grown.refl _⟩
  · have hp : offP 1 s x y c a b = offO (ordP a b) := offP_1 ..
    obtain ⟨t1, t2, t3, t4, t5, t6⟩ := offO_det (ordP a b) (ordP_lt a (by omega) b (by omega))
    have Ha := Lib.hid ha
    have Hb := Lib.hid hb
    clear ha hb
    go_enter Try.func92, Try.ntmps92
    go_wp2_with (go_at_call 114; refine (orderedof_any _ _ a b _ Ha.out Hb.out).mono ?_; rintro e w' ⟨rfl, n, rfl⟩)
    go_ret
    exact ⟨by rw [hp]; rfl, Grown.refl _⟩
  · have hp : offP 2 s x y c a b = offH (hIt s x y c 3) := offP_2 ..
    have hr := hIt_range s x y c 3
    obtain ⟨t1, t2⟩ := offH_det _ hr.1 hr.2
    clear ha hb
    go_enter Try.func92, Try.ntmps92
    go_wp2_with (first | (go_at_call 86; refine (hashof_any _ _ _ _ _).mono ?_; rintro e w' ⟨rfl, hg⟩) | (go_at_call 85; refine (unitof_any _ _ hr.1 hr.2).mono ?_; rintro e w' ⟨rfl, rfl⟩))
    go_ret
    exact ⟨by rw [hp]; rfl, hg⟩
end Go.Proofs.Ytfphhlodfieopaa
