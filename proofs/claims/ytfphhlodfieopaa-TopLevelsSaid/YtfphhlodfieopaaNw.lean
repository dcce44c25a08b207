/- Contracts of the functions on single numbers. Conditions: none. -/
import Derived.Test.YtfphhlodfieopaaRows
import Derived.Test.YtfphhlodfieopaaFl
import Derived.ProofKit
namespace Go.Proofs.Ytfphhlodfieopaa
open Go.RowKit
open Fl

theorem grown_trans {a b c : World} (h : Grown a b) (k : Grown b c) : Grown a c :=
  ⟨World.keptBut_trans h.1 k.1, fun a => (k.2.1 a).trans (h.2.1 a), Nat.le_trans h.2.2 k.2.2⟩
theorem grown_drewN {a b : World} (h : Grown a b) (n : Nat) : Grown a (b.drewN n) := h
attribute [go_sem] run_add run_sub run_mul run_quo run_toD run_toI drewN_zero

theorem rne_fn : Try.prog.funcs[125]? = some Try.f125 := Try.func125
theorem run_call_rne (b : Nat) (w : World) :
    (callFunc 125 #[.float .f64 b]).run Try.prog w = .ok (.value (.float .f64 (rneV b w))) (w.drewN (rneN b)) := by
  have h := run_callFunc_extern (e := Extern.MathFloor.toIntegral "math.RoundToEven" .even) Try.func125 (by kernel_rfl) (by kernel_rfl) (by kernel_rfl) (by kernel_rfl) #[.float .f64 b] w
  rw [h, run_rne]; rfl
theorem run_call_bits32 (b : Nat) (w : World) :
    (callFunc 63 #[.float .f32 b]).run Try.prog w = .ok (.value (.int .u32 b)) w := by
  have h := run_callFunc_extern (e := Extern.MathFloatBits.float32bits) Try.func63 (by kernel_rfl) (by kernel_rfl) (by kernel_rfl) (by kernel_rfl) #[.float .f32 b] w
  rw [h]; rfl
theorem run_call_from32 (n : Int) (w : World) : (callFunc 106 #[.int .u32 n]).run Try.prog w = .ok (.value (.float .f32 n.toNat)) w := by
  have h := run_callFunc_extern (e := Extern.MathFloatBits.float32frombits) Try.func106 (by kernel_rfl) (by kernel_rfl) (by kernel_rfl) (by kernel_rfl) #[.int .u32 n] w
  rw [h]; rfl
attribute [go_sem] run_call_from32
attribute [go_sem] run_call_rne run_call_bits32



set_option maxHeartbeats 400000 in
set_option maxRecDepth 100000 in
theorem near_any (b : Nat) (lo hi : Int) (w : World) (h1 : lo ≤ hi) (h2 : -16777216 ≤ lo) (h3 : hi ≤ 16777216) :
    Calls Try.prog 112 #[.float .f32 b, .int .i64 lo, .int .i64 hi] w fun e w' => e = .returned (.tuple #[.int .i64 (nearP b lo hi).1, .bool (nearP b lo hi).2, .int .i64 0]) ∧ w = w' := by
  cases hn : nan .f32 b with
  | true =>
    have ho : FloatKind.f32.format.order b b = none := by rw [order_self, hn]; rfl
    have hp : nearP b lo hi = (lo, false) := by unfold nearP; rw [hn]; rfl
    go_enter Try.func112, Try.ntmps112
    go_wp2
    go_ret3
    exact ⟨by rw [hp]; rfl, rfl⟩
  | false =>
    have ho : FloatKind.f32.format.order b b = some .eq := by rw [order_self, hn]; rfl
    have t1 : ∀ w, toD b w = dC b := toD_not hn
    have t2 : toDN b = 0 := toDN_not hn
    have t3 : ∀ w, rneV (dC b) w = rC (dC b) := rneV_not (nan_dC hn)
    have t4 : rneN (dC b) = 0 := rneN_not (nan_dC hn)
    have hd := nan_rC (nan_dC hn)
    cases c1 : FloatKind.f64.format.order (rC (dC b)) (floatOfInt .f64 lo) == some .lt with
    | true =>
      have hp : nearP b lo hi = (lo, false) := by unfold nearP; rw [hn, c1]; rfl
      go_enter Try.func112, Try.ntmps112
      go_wp2
      go_ret3
      exact ⟨by rw [hp]; rfl, rfl⟩
    | false =>
      cases c2 : FloatKind.f64.format.order (rC (dC b)) (floatOfInt .f64 hi) == some .gt with
      | true =>
        have hp : nearP b lo hi = (hi, false) := by unfold nearP; rw [hn, c1, c2]; rfl
        go_enter Try.func112, Try.ntmps112
        go_wp2
        go_ret3
        exact ⟨by rw [hp]; rfl, rfl⟩
      | false =>
        obtain ⟨z, hz, -⟩ := toInt_between (by omega) (by omega) hd c1 c2
        have t5 : ∀ w, toI .f64 (rC (dC b)) .i64 w = z := toI_some hz
        have t6 : toIN .f64 (rC (dC b)) .i64 = 0 := toIN_some hz
        have hp : nearP b lo hi = (z, true) := by unfold nearP; rw [hn, c1, c2, hz]; rfl
        clear hz
        go_enter Try.func112, Try.ntmps112
        go_wp2
        go_ret3
        exact ⟨by rw [hp]; rfl, rfl⟩

set_option maxHeartbeats 400000 in
set_option maxRecDepth 100000 in
theorem nearof_any (b : Nat) (lo hi : Int) (w : World) (h1 : lo ≤ hi) (h2 : -16777216 ≤ lo) (h3 : hi ≤ 16777216) :
    Calls Try.prog 113 #[.float .f32 b, .int .i64 lo, .int .i64 hi] w fun e w' => e = .returned (.tuple #[.int .i64 (nearP b lo hi).1, .bool (nearP b lo hi).2]) ∧ w = w' := by
  cases hn : nan .f32 b with
  | true =>
    have ho : FloatKind.f32.format.order b b = none := by rw [order_self, hn]; rfl
    have hp : nearP b lo hi = (lo, false) := by unfold nearP; rw [hn]; rfl
    go_enter Try.func113, Try.ntmps113
    go_wp2
    go_ret2
    exact ⟨by rw [hp]; rfl, rfl⟩
  | false =>
    have ho : FloatKind.f32.format.order b b = some .eq := by rw [order_self, hn]; rfl
    have t1 : ∀ w, toD b w = dC b := toD_not hn
    have t2 : toDN b = 0 := toDN_not hn
    have t3 : ∀ w, rneV (dC b) w = rC (dC b) := rneV_not (nan_dC hn)
    have t4 : rneN (dC b) = 0 := rneN_not (nan_dC hn)
    have hd := nan_rC (nan_dC hn)
    cases c1 : FloatKind.f64.format.order (rC (dC b)) (floatOfInt .f64 lo) == some .lt with
    | true =>
      have hp : nearP b lo hi = (lo, false) := by unfold nearP; rw [hn, c1]; rfl
      go_enter Try.func113, Try.ntmps113
      go_wp2
      go_ret2
      exact ⟨by rw [hp]; rfl, rfl⟩
    | false =>
      cases c2 : FloatKind.f64.format.order (rC (dC b)) (floatOfInt .f64 hi) == some .gt with
      | true =>
        have hp : nearP b lo hi = (hi, false) := by unfold nearP; rw [hn, c1, c2]; rfl
        go_enter Try.func113, Try.ntmps113
        go_wp2
        go_ret2
        exact ⟨by rw [hp]; rfl, rfl⟩
      | false =>
        obtain ⟨z, hz, -⟩ := toInt_between (by omega) (by omega) hd c1 c2
        have t5 : ∀ w, toI .f64 (rC (dC b)) .i64 w = z := toI_some hz
        have t6 : toIN .f64 (rC (dC b)) .i64 = 0 := toIN_some hz
        have hp : nearP b lo hi = (z, true) := by unfold nearP; rw [hn, c1, c2, hz]; rfl
        clear hz
        go_enter Try.func113, Try.ntmps113
        go_wp2
        go_ret2
        exact ⟨by rw [hp]; rfl, rfl⟩

/-! ### levels -/
def levelP (v o : Nat) (M : Int) : Int := (nearP (fC .add .f32 (fC .mul .f32 v (floatOfInt .f32 M)) o) 0 M).1
theorem nearP_fV (op : BinOp) (x y : Nat) (w : World) (lo hi : Int) : nearP (fV op .f32 x y w) lo hi = nearP (fC op .f32 x y) lo hi := by
  have h : cl .f32 (fV op .f32 x y w) = fC op .f32 x y := cl_fV' ..
  cases hn : nan .f32 (fV op .f32 x y w) with
  | true =>
    rw [← h]; unfold nearP; rw [nan_cl, hn]; rfl
  | false => rw [← h, cl_not hn]

theorem most_of (d : Int) (h1 : 1 ≤ d) (h2 : d ≤ 16) : ∃ M : Int, wrap64 (wrap64 (2 ^ d.toNat) - 1) = M ∧ 1 ≤ M ∧ M ≤ 65535 := by
  obtain ⟨n, rfl⟩ := Int.eq_ofNat_of_zero_le (show 0 ≤ d by omega)
  have h : ∀ n : Nat, n < 17 → 1 ≤ n → 1 ≤ wrap64 (wrap64 (2 ^ n) - 1) ∧ wrap64 (wrap64 (2 ^ n) - 1) ≤ 65535 := by decide +kernel
  exact ⟨_, rfl, by simpa using h n (by omega) (by omega)⟩

set_option maxHeartbeats 400000 in
set_option maxRecDepth 100000 in
theorem level_any (v o : Nat) (d M : Int) (w : World) (h1 : 1 ≤ d) (h2 : d ≤ 16) (hM : wrap64 (wrap64 (2 ^ d.toNat) - 1) = M) (h3 : 1 ≤ M) (h4 : M ≤ 65535) :
    Calls Try.prog 89 #[.float .f32 v, .float .f32 o, .int .i64 d] w fun e w' => e = .returned (.int .i64 (levelP v o M)) ∧ ∃ n, w' = w.drewN n := by
  go_enter Try.func89, Try.ntmps89
  go_wp2_with (go_at_call 112; refine (near_any _ _ _ _ (by omega) (by omega) (by omega)).mono ?_; rintro e w' ⟨rfl, rfl⟩)
  go_ret
  refine ⟨?_, _, rfl⟩
  simp only [Array.getD_eq_getD_getElem?, List.getElem?_toArray]
  simp [levelP, nearP_fV, fC_fV_l]

set_option maxHeartbeats 400000 in
set_option maxRecDepth 100000 in
theorem levelof_any (v o : Nat) (d M : Int) (w : World) (h1 : 1 ≤ d) (h2 : d ≤ 16) (hM : wrap64 (wrap64 (2 ^ d.toNat) - 1) = M) (h3 : 1 ≤ M) (h4 : M ≤ 65535) :
    Calls Try.prog 91 #[.float .f32 v, .float .f32 o, .int .i64 d] w fun e w' => e = .returned (.int .i64 (levelP v o M)) ∧ ∃ n, w' = w.drewN n := by
  go_enter Try.func91, Try.ntmps91
  go_wp2_with (go_at_call 113; refine (nearof_any _ _ _ _ (by omega) (by omega) (by omega)).mono ?_; rintro e w' ⟨rfl, rfl⟩)
  go_ret
  refine ⟨?_, _, rfl⟩
  simp only [Array.getD_eq_getD_getElem?, List.getElem?_toArray]
  simp [levelP, nearP_fV, fC_fV_l]

set_option maxHeartbeats 400000 in
theorem deep_any (d : Int) (w : World) : Calls Try.prog 60 #[.int .i64 d] w fun e w' => e = .returned (.bool (decide (1 ≤ d) && decide (d ≤ 16))) ∧ w = w' := by
  by_cases h1 : 1 ≤ d
  · by_cases h2 : d ≤ 16
    · go_enter Try.func60, Try.ntmps60
      go_wp2
      go_ret
      exact ⟨by simp [h1, h2], rfl⟩
    · go_enter Try.func60, Try.ntmps60
      go_wp2
      go_ret
      exact ⟨by simp [h2], rfl⟩
  · go_enter Try.func60, Try.ntmps60
    go_wp2
    go_ret
    exact ⟨by simp; omega, rfl⟩

set_option maxHeartbeats 400000 in
theorem in_any (n lo hi : Int) (w : World) : Calls Try.prog 15 #[.int .i64 n, .int .i64 lo, .int .i64 hi] w fun e w' => e = .returned (.bool (decide (lo ≤ n) && decide (n ≤ hi))) ∧ w = w' := by
  by_cases h1 : lo ≤ n
  · by_cases h2 : n ≤ hi
    · go_enter Try.func15, Try.ntmps15
      go_wp2
      go_ret
      exact ⟨by simp [h1, h2], rfl⟩
    · go_enter Try.func15, Try.ntmps15
      go_wp2
      go_ret
      exact ⟨by simp [h2], rfl⟩
  · go_enter Try.func15, Try.ntmps15
    go_wp2
    go_ret
    exact ⟨by simp; omega, rfl⟩

theorem ret_eq {a b : Value} (h : a = b) : Ending.returned a = .returned b := by rw [h]
theorem natBeq (a b : Nat) : ((a : Int) == (b : Int)) = (a == b) := by rw [Bool.eq_iff_iff]; simp; omega
set_option maxHeartbeats 400000 in
theorem same_any (a b : Nat) (w : World) : Calls Try.prog 18 #[.float .f32 a, .float .f32 b] w fun e w' => e = .returned (.bool (a == b)) ∧ w = w' := by
  go_enter Try.func18, Try.ntmps18
  go_wp2
  go_ret
  exact ⟨ret_eq (congrArg Value.bool (natBeq a b)), rfl⟩

theorem cl_eq (k : FloatKind) (b : Nat) : cl k b = if k.format.order b b != some .eq then qn k else b := by
  rw [order_self]; unfold cl; cases nan k b <;> rfl
set_option maxHeartbeats 400000 in
theorem clean_any (b : Nat) (w : World) : Calls Try.prog 105 #[.float .f32 b] w fun e w' => e = .returned (.float .f32 (cl .f32 b)) ∧ w = w' := by
  rw [cl_eq]
  go_enter Try.func105, Try.ntmps105
  go_wp2
  all_goals
    go_ret
    exact ⟨by simp [*, qn], rfl⟩

def hArr (x y n : Int) (k : Nat) : Int := if k = 0 then x else if k = 1 then y else n
def hStep (h i : Int) : Int := 
              (bits BinOp.xor IntKind.u32
                (bits BinOp.xor IntKind.u32 ((h + i) % 4294967296 * 2246822507 % 4294967296)
                      ((h + i) % 4294967296 * 2246822507 % 4294967296 / 8192) *
                    3266489909 %
                  4294967296)
                (bits BinOp.xor IntKind.u32 ((h + i) % 4294967296 * 2246822507 % 4294967296)
                        ((h + i) % 4294967296 * 2246822507 % 4294967296 / 8192) *
                      3266489909 %
                    4294967296 /
                  65536))
def hIt (s x y n : Int) : Nat → Int
  | 0 => bits BinOp.xor IntKind.u32 s 2654435769
  | k + 1 => hStep (hIt s x y n k) (hArr x y n k)
theorem ix3 (x y n : Int) (k : Nat) (hk : k < 3) (w : World) : (Instr.index 114 (.agg #[.int .i64 x, .int .i64 y, .int .i64 n]) (.int .i64 k)).run Try.prog w = .ok (.int .i64 (hArr x y n k)) w := by
  have i0 : (Instr.index 114 (.agg #[.int .i64 x, .int .i64 y, .int .i64 n]) (.int .i64 0)).run Try.prog w = .ok (.int .i64 x) w := by kernel_rfl
  have i1 : (Instr.index 114 (.agg #[.int .i64 x, .int .i64 y, .int .i64 n]) (.int .i64 1)).run Try.prog w = .ok (.int .i64 y) w := by kernel_rfl
  have i2 : (Instr.index 114 (.agg #[.int .i64 x, .int .i64 y, .int .i64 n]) (.int .i64 2)).run Try.prog w = .ok (.int .i64 n) w := by kernel_rfl
  have : k = 0 ∨ k = 1 ∨ k = 2 := by omega
  rcases this with h | h | h <;> subst h
  · exact i0
  · exact i1
  · exact i2
theorem il3 (x y n : Int) (k : Nat) (hk : k < 3) : ∀ h, [Value.int .i64 x, Value.int .i64 y, Value.int .i64 n][k]'h = .int .i64 (hArr x y n k) := by
  intro h
  have : k = 0 ∨ k = 1 ∨ k = 2 := by omega
  rcases this with h | h | h <;> subst h <;> rfl
set_option maxHeartbeats 400000 in
set_option maxRecDepth 100000 in
theorem hash_any (s x y n : Int) (w : World) : Calls Try.prog 110 #[.int .u32 s, .int .i64 x, .int .i64 y, .int .i64 n] w fun e w' => e = .returned (.int .u32 (hIt s x y n 3)) ∧ w = w' := by
  go_enter Try.func110, Try.ntmps110
  go_wp2
  go_loop [9, 11, 18] (fun h _ c => ∃ k : Nat, k ≤ 3 ∧ c = .int .i64 k ∧ h = .int .u32 (hIt s x y n k)) (fun _ _ c => 3 - (intOf c).toNat)
  case atStart => exact ⟨0, by omega, rfl, rfl⟩
  case round =>
    obtain ⟨k, hk, rfl, rfl⟩ := hrel
    by_cases hlt : k < 3
    · have ik := ix3 x y n k hlt
      go_wp2
      go_round
      case rel => exact ⟨k + 1, by omega, by go_num, rfl⟩
      case measure => simp [intOf]; omega
    · go_wp2
      go_ret
      have : k = 3 := by omega
      subst this
      exact ⟨rfl, rfl⟩
set_option maxHeartbeats 400000 in
set_option maxRecDepth 100000 in
theorem hashof_any (s x y n : Int) (w : World) : Calls Try.prog 86 #[.int .u32 s, .int .i64 x, .int .i64 y, .int .i64 n] w fun e w' => e = .returned (.int .u32 (hIt s x y n 3)) ∧ Grown w w' := by
  go_enter Try.func86, Try.ntmps86
  go_wp2
  go_loop [9, 11, 19] (fun h _ c => ∃ k : Nat, k ≤ 3 ∧ c = .int .i64 k ∧ h = .int .u32 (hIt s x y n k)) (fun _ _ c => 3 - (intOf c).toNat)
  case atStart => exact ⟨0, by omega, rfl, rfl⟩
  case round =>
    obtain ⟨k, hk, rfl, rfl⟩ := hrel
    by_cases hlt : k < 3
    · have hl := il3 x y n k hlt
      go_wp2
      go_round
      case rel => exact ⟨k + 1, by omega, by go_num, rfl⟩
      case measure => simp [intOf]; omega
    · go_wp2
      go_ret
      have : k = 3 := by omega
      subst this
      exact ⟨rfl, (Grown.refl _).alloc _ _⟩
theorem u32_range (op : BinOp) (x y : Int) : 0 ≤ bits op .u32 x y ∧ bits op .u32 x y < 4294967296 := by
  unfold bits
  dsimp only
  rw [IntKind.wrap_u32]
  omega
theorem hIt_range (s x y n : Int) (k : Nat) : 0 ≤ hIt s x y n k ∧ hIt s x y n k < 4294967296 := by
  cases k with
  | zero => rw [hIt]; exact u32_range _ _ _
  | succ k => rw [hIt]; unfold hStep; exact u32_range _ _ _
end Go.Proofs.Ytfphhlodfieopaa
