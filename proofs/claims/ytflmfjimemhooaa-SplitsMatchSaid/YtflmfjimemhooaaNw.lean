/- Contracts of the functions on single numbers. Conditions: none. -/
import Derived.Test.YtflmfjimemhooaaRows
import Derived.Test.YtflmfjimemhooaaFl
import Derived.ProofKit
namespace Go.Proofs.Ytflmfjimemhooaa
open Go.RowKit
open Fl

theorem grown_trans {a b c : World} (h : Grown a b) (k : Grown b c) : Grown a c :=
  ⟨World.keptBut_trans h.1 k.1, fun a => (k.2.1 a).trans (h.2.1 a), Nat.le_trans h.2.2 k.2.2⟩
theorem grown_drewN {a b : World} (h : Grown a b) (n : Nat) : Grown a (b.drewN n) := h
attribute [go_sem] run_add run_sub run_mul run_quo run_toD run_toI drewN_zero

theorem run_call_bits32 (b : Nat) (w : World) :
    (callFunc 39 #[.float .f32 b]).run Try.prog w = .ok (.value (.int .u32 b)) w := by
  have h := run_callFunc_extern (e := Extern.MathFloatBits.float32bits) Try.func39 (by kernel_rfl) (by kernel_rfl) (by kernel_rfl) (by kernel_rfl) #[.float .f32 b] w
  rw [h]; rfl
theorem run_call_from32 (n : Int) (w : World) : (callFunc 77 #[.int .u32 n]).run Try.prog w = .ok (.value (.float .f32 n.toNat)) w := by
  have h := run_callFunc_extern (e := Extern.MathFloatBits.float32frombits) Try.func77 (by kernel_rfl) (by kernel_rfl) (by kernel_rfl) (by kernel_rfl) #[.int .u32 n] w
  rw [h]; rfl
attribute [go_sem] run_call_from32
attribute [go_sem] run_call_bits32



/-! ### levels -/
def levelP (v o : Nat) (M : Int) : Int := (nearP (fC .add .f32 (fC .mul .f32 v (floatOfInt .f32 M)) o) 0 M).1
theorem nearP_fV (op : BinOp) (x y : Nat) (w : World) (lo hi : Int) : nearP (fV op .f32 x y w) lo hi = nearP (fC op .f32 x y) lo hi := by
  have h : cl .f32 (fV op .f32 x y w) = fC op .f32 x y := cl_fV' ..
  cases hn : nan .f32 (fV op .f32 x y w) with
  | true =>
    rw [← h]; unfold nearP; rw [nan_cl, hn]; rfl
  | false => rw [← h, cl_not hn]

theorem most_of (d : Int) (h1 : 1 ≤ d) (h2 : d ≤ 16) : ∃ M : Int, wrap64 (wrap64 (2 ^ d.toNat) - 1) = M ∧ 1 ≤ M ∧ M ≤ 65535 := by
  obtain ⟨n, rfl⟩ := Int.eq_ofNat_of_zero_le (show 0 ≤ d by omega)
  have h : ∀ n : Nat, n < 17 → 1 ≤ n → 1 ≤ wrap64 (wrap64 (2 ^ n) - 1) ∧ wrap64 (wrap64 (2 ^ n) - 1) ≤ 65535 := by decide +kernel
  exact ⟨_, rfl, by simpa using h n (by omega) (by omega)⟩

set_option maxHeartbeats 400000 in
theorem in_any (n lo hi : Int) (w : World) : Calls Try.prog 18 #[.int .i64 n, .int .i64 lo, .int .i64 hi] w fun e w' => e = .returned (.bool (decide (lo ≤ n) && decide (n ≤ hi))) ∧ w = w' := by
  by_cases h1 : lo ≤ n
  · by_cases h2 : n ≤ hi
    · go_enter Try.func18, Try.ntmps18
      go_wp2
      go_ret
      exact ⟨by simp [h1, h2], rfl⟩
    · go_enter Try.func18, Try.ntmps18
      go_wp2
      go_ret
      exact ⟨by simp [h2], rfl⟩
  · go_enter Try.func18, Try.ntmps18
    go_wp2
    go_ret
    exact ⟨by simp; omega, rfl⟩

theorem ret_eq {a b : Value} (h : a = b) : Ending.returned a = .returned b := by rw [h]
theorem natBeq (a b : Nat) : ((a : Int) == (b : Int)) = (a == b) := by rw [Bool.eq_iff_iff]; simp; omega
theorem cl_eq (k : FloatKind) (b : Nat) : cl k b = if k.format.order b b != some .eq then qn k else b := by
  rw [order_self]; unfold cl; cases nan k b <;> rfl
set_option maxHeartbeats 400000 in
theorem clean_any (b : Nat) (w : World) : Calls Try.prog 66 #[.float .f32 b] w fun e w' => e = .returned (.float .f32 (cl .f32 b)) ∧ w = w' := by
  rw [cl_eq]
  go_enter Try.func66, Try.ntmps66
  go_wp2
  all_goals
    go_ret
    exact ⟨by simp [*, qn], rfl⟩

def hArr (x y n : Int) (k : Nat) : Int := if k = 0 then x else if k = 1 then y else n
def hStep (h i : Int) : Int := 
              (bits BinOp.xor IntKind.u32
                (bits BinOp.xor IntKind.u32 ((h + i) % 4294967296 * 2246822507 % 4294967296)
                      ((h + i) % 4294967296 * 2246822507 % 4294967296 / 8192) *
                    3266489909 %
                  4294967296)
                (bits BinOp.xor IntKind.u32 ((h + i) % 4294967296 * 2246822507 % 4294967296)
                        ((h + i) % 4294967296 * 2246822507 % 4294967296 / 8192) *
                      3266489909 %
                    4294967296 /
                  65536))
def hIt (s x y n : Int) : Nat → Int
  | 0 => bits BinOp.xor IntKind.u32 s 2654435769
  | k + 1 => hStep (hIt s x y n k) (hArr x y n k)
theorem il3 (x y n : Int) (k : Nat) (hk : k < 3) : ∀ h, [Value.int .i64 x, Value.int .i64 y, Value.int .i64 n][k]'h = .int .i64 (hArr x y n k) := by
  intro h
  have : k = 0 ∨ k = 1 ∨ k = 2 := by omega
  rcases this with h | h | h <;> subst h <;> rfl
theorem u32_range (op : BinOp) (x y : Int) : 0 ≤ bits op .u32 x y ∧ bits op .u32 x y < 4294967296 := by
  unfold bits
  dsimp only
  rw [IntKind.wrap_u32]
  omega
theorem hIt_range (s x y n : Int) (k : Nat) : 0 ≤ hIt s x y n k ∧ hIt s x y n k < 4294967296 := by
  cases k with
  | zero => rw [hIt]; exact u32_range _ _ _
  | succ k => rw [hIt]; unfold hStep; exact u32_range _ _ _
end Go.Proofs.Ytflmfjimemhooaa
