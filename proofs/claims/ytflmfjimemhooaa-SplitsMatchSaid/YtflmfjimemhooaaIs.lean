/- Numbers among the singles; contracts of IsNumber, AllNumbers, When, First, samePixel. Conditions: none. -/
import Derived.Test.YtflmfjimemhooaaPm
import Derived.Test.YtflmfjimemhooaaMw
import Derived.Test.YtflmfjimemhooaaKp
import Derived.Deep.RegionWith
import Derived.Handy
namespace Go.Proofs.Ytflmfjimemhooaa
open Go.RowKit
open Fl Fr

/-- Neither a NaN nor an infinity. -/
def isN (b : Nat) : Bool := match FloatKind.f32.decode b with | .number .. => true | _ => false
theorem isN_num {b : Nat} {s : Bool} {m : Nat} {e : Int} (h : FloatKind.f32.decode b = .number s m e) : isN b = true := by unfold isN; rw [h]
theorem isN_inf {b : Nat} {s : Bool} (h : FloatKind.f32.decode b = .infinity s) : isN b = false := by unfold isN; rw [h]
theorem isN_nan {b : Nat} (h : nan .f32 b = true) : isN b = false := by
  obtain ⟨s, f, h⟩ := read_nan h
  have h : FloatKind.f32.decode b = _ := h
  unfold isN; rw [h]
theorem isN_spec {b : Nat} (h : isN b = true) : ∃ s m e, FloatKind.f32.decode b = .number s m e := by
  unfold isN at h
  split at h
  · rename_i s m e he; exact ⟨s, m, e, he⟩
  · cases h
theorem isN_not {b : Nat} (h : isN b = true) : nan .f32 b = false := by
  obtain ⟨s, m, e, h⟩ := isN_spec h
  exact nan_of_num h
theorem dec_max : FloatKind.f32.format.read 2139095039 = .number false 16777215 104 := by decide +kernel
theorem dec_nmax : FloatKind.f32.format.read 4286578687 = .number true 16777215 104 := by decide +kernel
theorem dec_zero : FloatKind.f32.format.read 0 = .number false 0 (-149) := by decide +kernel
theorem dec_one : FloatKind.f32.format.read 1065353216 = .number false 8388608 (-23) := by decide +kernel
theorem rv_zero (s : Bool) (e : Int) : rv (.number s 0 e) = 0 := by unfold rv mv; cases s <;> simp
theorem num_max {b : Nat} {s : Bool} {m : Nat} {e : Int} (h : FloatKind.f32.decode b = .number s m e) : mv m e ≤ mv 16777215 104 := by
  have h : FloatKind.f32.format.read b = _ := h
  obtain ⟨h1, h2, h3, h4⟩ := read_number FloatKind.f32.format h
  have k1 : 2 * FloatKind.f32.format.binade = 16777216 := by decide
  have k2 : FloatKind.f32.format.leastPlace = -149 := by decide
  have k3 : ((2 ^ FloatKind.f32.format.exponentBits : Nat) : Int) = 256 := by decide
  rw [k1] at h1; rw [k2, k3] at h3
  have g1 := mv_le (show m ≤ 16777215 by omega) e
  have g2 : mv 16777215 e ≤ mv 16777215 104 := by unfold mv; exact Rat.mul_le_mul_of_nonneg_left (p2_le (by omega)) Rat.natCast_nonneg
  grind
theorem isN_prog (b : Nat) : (nan .f32 b = false ∧ !(FloatKind.f32.format.order b 2139095039 == some .gt || FloatKind.f32.format.order b 4286578687 == some .lt)) = (isN b = true) := by
  cases hn : nan .f32 b with
  | true => rw [isN_nan hn]; simp
  | false =>
    rcases read_cases .f32 b hn with ⟨s, m, e, h⟩ | ⟨s, h⟩
    · rw [isN_num h]
      have hm := num_max h
      have h0 := mv_nonneg m e
      have h1 := mv_nonneg 16777215 104
      have h : FloatKind.f32.format.read b = _ := h
      have e1 : (FloatKind.f32.format.order b 2139095039 == some .gt) = false := by
        rw [beq_eq_false_iff_ne]; intro hh
        unfold Ieee.Format.order at hh
        rw [h, dec_max, order_gt] at hh
        unfold rv at hh; cases s <;> simp at hh <;> grind
      have e2 : (FloatKind.f32.format.order b 4286578687 == some .lt) = false := by
        rw [beq_eq_false_iff_ne]; intro hh
        unfold Ieee.Format.order at hh
        rw [h, dec_nmax, order_lt] at hh
        unfold rv at hh; cases s <;> simp at hh <;> grind
      rw [e1, e2]; simp
    · rw [isN_inf h]
      have h : FloatKind.f32.format.read b = _ := h
      unfold Ieee.Format.order
      rw [h, dec_max, dec_nmax]
      cases s <;> simp <;> decide
theorem isN_ref (b : Nat) : (FloatKind.f32.format.order (fC .sub .f32 b b) 0 == some .eq) = isN b := by
  cases hn : nan .f32 b with
  | true =>
    rw [isN_nan hn]
    have : nan .f32 (fC .sub .f32 b b) = true := by unfold fC; rw [bits_nan_l hn]; exact (nan_cl _ _).trans (nan_qn _)
    unfold Ieee.Format.order; rw [order_nan_l (read_nan this)]; rfl
  | false =>
    rcases read_cases .f32 b hn with ⟨s, m, e, h⟩ | ⟨s, h⟩
    · rw [isN_num h, beq_iff_eq]
      obtain ⟨u, c, e', h1, h2, h3⟩ := sub_num h h
      have h4 : rv (.number u c e') = 0 := by rw [h2]; grind
      have hc : c = 0 := by
        by_cases hc : c = 0
        · exact hc
        · exfalso
          have : 0 < mv c e' := by unfold mv; exact Rat.mul_pos (by exact_mod_cast Nat.pos_of_ne_zero hc) (p2_pos _)
          unfold rv at h4; cases u <;> simp at h4 <;> grind
      subst hc
      rw [h1, nearest_zero]
      unfold Ieee.Format.order
      rw [read_zero, dec_zero, order_eq, rv_zero, rv_zero]
    · rw [isN_inf h]
      have h : FloatKind.f32.format.read b = _ := h
      have : nan .f32 (fC .sub .f32 b b) = true := by
        have : floatBits .sub .f32 b b = none := by
          unfold floatBits Ieee.Format.sub; rw [h]; cases s <;> rfl
        unfold fC; rw [this]; exact (nan_cl _ _).trans (nan_qn _)
      unfold Ieee.Format.order; rw [order_nan_l (read_nan this)]; rfl

def infI (b : Nat) : Bool := FloatKind.f32.format.order b 2139095039 == some .gt || FloatKind.f32.format.order b 4286578687 == some .lt
set_option maxHeartbeats 400000 in
theorem when_any (c : Bool) (n : Int) (w : World) : Calls Try.prog 17 #[.bool c, .int .i64 n] w fun e w' => e = .returned (.int .i64 (if c then n else 0)) ∧ w = w' := by
  cases c
  all_goals
    go_enter Try.func17, Try.ntmps17
    go_wp2
    go_ret
    exact ⟨by simp, rfl⟩
set_option maxHeartbeats 1000000 in
set_option maxRecDepth 100000 in
theorem first2_any (B cap : Nat) (b0 b1 : Int) (w : World) (h0 : w.cell? ⟨B, 0, none⟩ = some (.int .i64 b0)) (h1 : w.cell? ⟨B, 1, none⟩ = some (.int .i64 b1)) :
    Calls Try.prog 16 #[.slice (some ⟨B, 0, none⟩) 2 cap] w fun e w' => e = .returned (.int .i64 (if b0 ≠ 0 then b0 else b1)) ∧ w = w' := by
  by_cases i0 : b0 = 0 <;> by_cases i1 : b1 = 0
  all_goals
    go_enter Try.func16, Try.ntmps16
    go_wp2_with fail
    refine wp_loop_rounds 3 ?_
    repeat
      rw [rounds_succ]
      go_wp2_with fail
    go_ret
    exact ⟨by simp [*], rfl⟩
set_option maxHeartbeats 1000000 in
set_option maxRecDepth 100000 in
theorem first3_any (B cap : Nat) (b0 b1 b2 : Int) (w : World) (h0 : w.cell? ⟨B, 0, none⟩ = some (.int .i64 b0)) (h1 : w.cell? ⟨B, 1, none⟩ = some (.int .i64 b1)) (h2 : w.cell? ⟨B, 2, none⟩ = some (.int .i64 b2)) :
    Calls Try.prog 16 #[.slice (some ⟨B, 0, none⟩) 3 cap] w fun e w' => e = .returned (.int .i64 (if b0 ≠ 0 then b0 else if b1 ≠ 0 then b1 else b2)) ∧ w = w' := by
  by_cases i0 : b0 = 0 <;> by_cases i1 : b1 = 0 <;> by_cases i2 : b2 = 0
  all_goals
    go_enter Try.func16, Try.ntmps16
    go_wp2_with fail
    refine wp_loop_rounds 4 ?_
    repeat
      rw [rounds_succ]
      go_wp2_with fail
    go_ret
    exact ⟨by simp [*], rfl⟩
end Go.Proofs.Ytflmfjimemhooaa
