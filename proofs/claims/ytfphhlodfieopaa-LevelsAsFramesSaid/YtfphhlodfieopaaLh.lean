/- The walk of LevelsAsFrames: wrong inputs. Conditions: none. -/
import Derived.Test.YtfphhlodfieopaaLg
import Derived.Outline
namespace Go.Proofs.Ytfphhlodfieopaa
open Go.RowKit
open Fl
open BigFrame

set_option linter.unusedSimpArgs false in
set_option linter.unusedVariables false in
set_option maxHeartbeats 2000000 in
theorem laf_err_t_t (x y W H d E1 W1 E : Int) (A : Option Addr) (n cap : Nat) (w : World) (Q : Int) (hQ : wrap64 (wrap64 (4 * W) * H) = Q) (hE1 : regE x y W H = E1) (hd : inB d 1 16 = true) (hl : ((n : Int) != Q) = true)
    (hW1 : (if E1 ≠ 0 then E1 else 0) = W1) (hE : (if W1 ≠ 0 then W1 else 2) = E) (h0 : ¬ E = 0)
    (HF : ∀ w, Calls Try.prog 11 #[.agg #[.int .i64 x, .int .i64 y, .int .i64 W, .int .i64 H], .slice A n cap, .int .i64 d] w (ErrPost E w)) :
    Calls Try.prog 3 #[.agg #[.int .i64 x, .int .i64 y, .int .i64 W, .int .i64 H], .slice A n cap, .int .i64 d] w fun e w' => e = .returned (.bool true) ∧ Kept None' w w' := by
  have hb : (E != 0) = true := by simp [h0]
  have hb2 : (E == 0) = false := by simp [h0]
  have HF := Lib.hid HF
  have HE1 := Lib.hid hE1
  clear hE1
  have HW1 := Lib.hid hW1
  have HE := Lib.hid hE
  clear hW1 hE
  go_enter Try.func3, Try.ntmps3
  go_wp2_with (first
    | (go_at_call 11; refine (HF.out _).mono ?_; rintro e w1 ⟨rfl, hk1⟩
       have r0 := hk1.some (cell_alloc_one w _ _ 0) id
       have r1 := hk1.some (cell_alloc_one w _ _ 1) id
       have r2 := hk1.some (cell_alloc_one w _ _ 2) id
       have r3 := hk1.some (cell_alloc_one w _ _ 3) id
       have l0 := cell_lt r0
       have KF := Lib.hid (((Kept.refl None' w).alloc _ _).trans hk1)
       clear hk1
       unfold zeroFrame)
    | fail)
  have l1 : w.heap.size < w1.heap.size + 1 := Nat.lt_succ_of_lt l0
  go_wp2_with (first
    | (go_at_call 13; refine (regionerror_any _ _ _ _ _).mono ?_; rw [HE1.out]; rintro e w2 ⟨rfl, hk2⟩
       have hkx := Kept.trans ((Kept.refl None' w1).alloc _ _) hk2
       have q0 := hkx.some r0 id
       have q1 := hkx.some r1 id
       have q2 := hkx.some r2 id
       have q3 := hkx.some r3 id
       have l3 := cell_lt q0
       have p0 := hk2.some (cell_alloc_one w1 _ _ 0) id
       have p1 := hk2.some (cell_alloc_one w1 _ _ 1) id
       have p2 := hk2.some (cell_alloc_one w1 _ _ 2) id
       have p3 := hk2.some (cell_alloc_one w1 _ _ 3) id
       have p4 := hk2.some (cell_alloc_one w1 _ _ 4) id
       have l4 := cell_lt p0
       have KR := Lib.hid (KF.out.trans hkx)
       clear hk2 hkx r0 r1 r2 r3 l0 l1)
    | (go_at_call 15; refine (in_one _ _ _ _).mono ?_; rintro e w' ⟨rfl, rfl⟩)
    | (go_at_call 14; refine (when_any _ _ _).mono ?_; rintro e w' ⟨rfl, rfl⟩)
    | fail)
  refine (first2_any _ _ E1 0 _ (by go_simp) (by go_simp)).mono ?_
  rw [HW1.out]
  rintro e w' ⟨rfl, rfl⟩
  have l5 : w.heap.size < w2.heap.size + 1 := Nat.lt_succ_of_lt l3
  have l6 : w1.heap.size < w2.heap.size + 1 := Nat.lt_succ_of_lt l4
  go_wp2_with (first
    | (go_at_call 14; refine (when_any _ _ _).mono ?_; rintro e w' ⟨rfl, rfl⟩)
    | fail)
  refine (first2_any _ _ W1 2 _ (by go_simp) (by go_simp)).mono ?_
  rw [HE.out]
  rintro e w' ⟨rfl, rfl⟩
  have l7 : w1.heap.size < w2.heap.size + 1 + 1 := Nat.lt_succ_of_lt l6
  go_wp2_with (first
    | (go_at_call 16; refine (finishes_one _).mono ?_; rintro e w' ⟨rfl, n, rfl⟩)
    | (go_at_call 17; refine (none_zero _).mono ?_; rintro e w5 ⟨rfl, hk5⟩)
    | fail)
  go_ret
  refine ⟨rfl, (KR.out.trans ?_).trans hk5⟩
  repeat (first | exact Kept.refl _ _ | refine Kept.drew ?_ _ | refine Kept.alloc ?_ _ _)
set_option linter.unusedSimpArgs false in
set_option linter.unusedVariables false in
set_option maxHeartbeats 2000000 in
theorem laf_err_t_f (x y W H d E1 W1 E : Int) (A : Option Addr) (n cap : Nat) (w : World) (Q : Int) (hQ : wrap64 (wrap64 (4 * W) * H) = Q) (hE1 : regE x y W H = E1) (hd : inB d 1 16 = true) (hl : ((n : Int) != Q) = false)
    (hW1 : (if E1 ≠ 0 then E1 else 0) = W1) (hE : (if W1 ≠ 0 then W1 else 0) = E) (h0 : ¬ E = 0)
    (HF : ∀ w, Calls Try.prog 11 #[.agg #[.int .i64 x, .int .i64 y, .int .i64 W, .int .i64 H], .slice A n cap, .int .i64 d] w (ErrPost E w)) :
    Calls Try.prog 3 #[.agg #[.int .i64 x, .int .i64 y, .int .i64 W, .int .i64 H], .slice A n cap, .int .i64 d] w fun e w' => e = .returned (.bool true) ∧ Kept None' w w' := by
  have hb : (E != 0) = true := by simp [h0]
  have hb2 : (E == 0) = false := by simp [h0]
  have HF := Lib.hid HF
  have HE1 := Lib.hid hE1
  clear hE1
  have HW1 := Lib.hid hW1
  have HE := Lib.hid hE
  clear hW1 hE
  go_enter Try.func3, Try.ntmps3
  go_wp2_with (first
    | (go_at_call 11; refine (HF.out _).mono ?_; rintro e w1 ⟨rfl, hk1⟩
       have r0 := hk1.some (cell_alloc_one w _ _ 0) id
       have r1 := hk1.some (cell_alloc_one w _ _ 1) id
       have r2 := hk1.some (cell_alloc_one w _ _ 2) id
       have r3 := hk1.some (cell_alloc_one w _ _ 3) id
       have l0 := cell_lt r0
       have KF := Lib.hid (((Kept.refl None' w).alloc _ _).trans hk1)
       clear hk1
       unfold zeroFrame)
    | fail)
  have l1 : w.heap.size < w1.heap.size + 1 := Nat.lt_succ_of_lt l0
  go_wp2_with (first
    | (go_at_call 13; refine (regionerror_any _ _ _ _ _).mono ?_; rw [HE1.out]; rintro e w2 ⟨rfl, hk2⟩
       have hkx := Kept.trans ((Kept.refl None' w1).alloc _ _) hk2
       have q0 := hkx.some r0 id
       have q1 := hkx.some r1 id
       have q2 := hkx.some r2 id
       have q3 := hkx.some r3 id
       have l3 := cell_lt q0
       have p0 := hk2.some (cell_alloc_one w1 _ _ 0) id
       have p1 := hk2.some (cell_alloc_one w1 _ _ 1) id
       have p2 := hk2.some (cell_alloc_one w1 _ _ 2) id
       have p3 := hk2.some (cell_alloc_one w1 _ _ 3) id
       have p4 := hk2.some (cell_alloc_one w1 _ _ 4) id
       have l4 := cell_lt p0
       have KR := Lib.hid (KF.out.trans hkx)
       clear hk2 hkx r0 r1 r2 r3 l0 l1)
    | (go_at_call 15; refine (in_one _ _ _ _).mono ?_; rintro e w' ⟨rfl, rfl⟩)
    | (go_at_call 14; refine (when_any _ _ _).mono ?_; rintro e w' ⟨rfl, rfl⟩)
    | fail)
  refine (first2_any _ _ E1 0 _ (by go_simp) (by go_simp)).mono ?_
  rw [HW1.out]
  rintro e w' ⟨rfl, rfl⟩
  have l5 : w.heap.size < w2.heap.size + 1 := Nat.lt_succ_of_lt l3
  have l6 : w1.heap.size < w2.heap.size + 1 := Nat.lt_succ_of_lt l4
  go_wp2_with (first
    | (go_at_call 14; refine (when_any _ _ _).mono ?_; rintro e w' ⟨rfl, rfl⟩)
    | fail)
  refine (first2_any _ _ W1 0 _ (by go_simp) (by go_simp)).mono ?_
  rw [HE.out]
  rintro e w' ⟨rfl, rfl⟩
  have l7 : w1.heap.size < w2.heap.size + 1 + 1 := Nat.lt_succ_of_lt l6
  go_wp2_with (first
    | (go_at_call 16; refine (finishes_one _).mono ?_; rintro e w' ⟨rfl, n, rfl⟩)
    | (go_at_call 17; refine (none_zero _).mono ?_; rintro e w5 ⟨rfl, hk5⟩)
    | fail)
  go_ret
  refine ⟨rfl, (KR.out.trans ?_).trans hk5⟩
  repeat (first | exact Kept.refl _ _ | refine Kept.drew ?_ _ | refine Kept.alloc ?_ _ _)
set_option linter.unusedSimpArgs false in
set_option linter.unusedVariables false in
set_option maxHeartbeats 2000000 in
theorem laf_err_f_t (x y W H d E1 W1 E : Int) (A : Option Addr) (n cap : Nat) (w : World) (Q : Int) (hQ : wrap64 (wrap64 (4 * W) * H) = Q) (hE1 : regE x y W H = E1) (hd : inB d 1 16 = false) (hl : ((n : Int) != Q) = true)
    (hW1 : (if E1 ≠ 0 then E1 else 3) = W1) (hE : (if W1 ≠ 0 then W1 else 2) = E) (h0 : ¬ E = 0)
    (HF : ∀ w, Calls Try.prog 11 #[.agg #[.int .i64 x, .int .i64 y, .int .i64 W, .int .i64 H], .slice A n cap, .int .i64 d] w (ErrPost E w)) :
    Calls Try.prog 3 #[.agg #[.int .i64 x, .int .i64 y, .int .i64 W, .int .i64 H], .slice A n cap, .int .i64 d] w fun e w' => e = .returned (.bool true) ∧ Kept None' w w' := by
  have hb : (E != 0) = true := by simp [h0]
  have hb2 : (E == 0) = false := by simp [h0]
  have HF := Lib.hid HF
  have HE1 := Lib.hid hE1
  clear hE1
  have HW1 := Lib.hid hW1
  have HE := Lib.hid hE
  clear hW1 hE
  go_enter Try.func3, Try.ntmps3
  go_wp2_with (first
    | (go_at_call 11; refine (HF.out _).mono ?_; rintro e w1 ⟨rfl, hk1⟩
       have r0 := hk1.some (cell_alloc_one w _ _ 0) id
       have r1 := hk1.some (cell_alloc_one w _ _ 1) id
       have r2 := hk1.some (cell_alloc_one w _ _ 2) id
       have r3 := hk1.some (cell_alloc_one w _ _ 3) id
       have l0 := cell_lt r0
       have KF := Lib.hid (((Kept.refl None' w).alloc _ _).trans hk1)
       clear hk1
       unfold zeroFrame)
    | fail)
  have l1 : w.heap.size < w1.heap.size + 1 := Nat.lt_succ_of_lt l0
  go_wp2_with (first
    | (go_at_call 13; refine (regionerror_any _ _ _ _ _).mono ?_; rw [HE1.out]; rintro e w2 ⟨rfl, hk2⟩
       have hkx := Kept.trans ((Kept.refl None' w1).alloc _ _) hk2
       have q0 := hkx.some r0 id
       have q1 := hkx.some r1 id
       have q2 := hkx.some r2 id
       have q3 := hkx.some r3 id
       have l3 := cell_lt q0
       have p0 := hk2.some (cell_alloc_one w1 _ _ 0) id
       have p1 := hk2.some (cell_alloc_one w1 _ _ 1) id
       have p2 := hk2.some (cell_alloc_one w1 _ _ 2) id
       have p3 := hk2.some (cell_alloc_one w1 _ _ 3) id
       have p4 := hk2.some (cell_alloc_one w1 _ _ 4) id
       have l4 := cell_lt p0
       have KR := Lib.hid (KF.out.trans hkx)
       clear hk2 hkx r0 r1 r2 r3 l0 l1)
    | (go_at_call 15; refine (in_one _ _ _ _).mono ?_; rintro e w' ⟨rfl, rfl⟩)
    | (go_at_call 14; refine (when_any _ _ _).mono ?_; rintro e w' ⟨rfl, rfl⟩)
    | fail)
  refine (first2_any _ _ E1 3 _ (by go_simp) (by go_simp)).mono ?_
  rw [HW1.out]
  rintro e w' ⟨rfl, rfl⟩
  have l5 : w.heap.size < w2.heap.size + 1 := Nat.lt_succ_of_lt l3
  have l6 : w1.heap.size < w2.heap.size + 1 := Nat.lt_succ_of_lt l4
  go_wp2_with (first
    | (go_at_call 14; refine (when_any _ _ _).mono ?_; rintro e w' ⟨rfl, rfl⟩)
    | fail)
  refine (first2_any _ _ W1 2 _ (by go_simp) (by go_simp)).mono ?_
  rw [HE.out]
  rintro e w' ⟨rfl, rfl⟩
  have l7 : w1.heap.size < w2.heap.size + 1 + 1 := Nat.lt_succ_of_lt l6
  go_wp2_with (first
    | (go_at_call 16; refine (finishes_one _).mono ?_; rintro e w' ⟨rfl, n, rfl⟩)
    | (go_at_call 17; refine (none_zero _).mono ?_; rintro e w5 ⟨rfl, hk5⟩)
    | fail)
  go_ret
  refine ⟨rfl, (KR.out.trans ?_).trans hk5⟩
  repeat (first | exact Kept.refl _ _ | refine Kept.drew ?_ _ | refine Kept.alloc ?_ _ _)
set_option linter.unusedSimpArgs false in
set_option linter.unusedVariables false in
set_option maxHeartbeats 2000000 in
theorem laf_err_f_f (x y W H d E1 W1 E : Int) (A : Option Addr) (n cap : Nat) (w : World) (Q : Int) (hQ : wrap64 (wrap64 (4 * W) * H) = Q) (hE1 : regE x y W H = E1) (hd : inB d 1 16 = false) (hl : ((n : Int) != Q) = false)
    (hW1 : (if E1 ≠ 0 then E1 else 3) = W1) (hE : (if W1 ≠ 0 then W1 else 0) = E) (h0 : ¬ E = 0)
    (HF : ∀ w, Calls Try.prog 11 #[.agg #[.int .i64 x, .int .i64 y, .int .i64 W, .int .i64 H], .slice A n cap, .int .i64 d] w (ErrPost E w)) :
    Calls Try.prog 3 #[.agg #[.int .i64 x, .int .i64 y, .int .i64 W, .int .i64 H], .slice A n cap, .int .i64 d] w fun e w' => e = .returned (.bool true) ∧ Kept None' w w' := by
  have hb : (E != 0) = true := by simp [h0]
  have hb2 : (E == 0) = false := by simp [h0]
  have HF := Lib.hid HF
  have HE1 := Lib.hid hE1
  clear hE1
  have HW1 := Lib.hid hW1
  have HE := Lib.hid hE
  clear hW1 hE
  go_enter Try.func3, Try.ntmps3
  go_wp2_with (first
    | (go_at_call 11; refine (HF.out _).mono ?_; rintro e w1 ⟨rfl, hk1⟩
       have r0 := hk1.some (cell_alloc_one w _ _ 0) id
       have r1 := hk1.some (cell_alloc_one w _ _ 1) id
       have r2 := hk1.some (cell_alloc_one w _ _ 2) id
       have r3 := hk1.some (cell_alloc_one w _ _ 3) id
       have l0 := cell_lt r0
       have KF := Lib.hid (((Kept.refl None' w).alloc _ _).trans hk1)
       clear hk1
       unfold zeroFrame)
    | fail)
  have l1 : w.heap.size < w1.heap.size + 1 := Nat.lt_succ_of_lt l0
  go_wp2_with (first
    | (go_at_call 13; refine (regionerror_any _ _ _ _ _).mono ?_; rw [HE1.out]; rintro e w2 ⟨rfl, hk2⟩
       have hkx := Kept.trans ((Kept.refl None' w1).alloc _ _) hk2
       have q0 := hkx.some r0 id
       have q1 := hkx.some r1 id
       have q2 := hkx.some r2 id
       have q3 := hkx.some r3 id
       have l3 := cell_lt q0
       have p0 := hk2.some (cell_alloc_one w1 _ _ 0) id
       have p1 := hk2.some (cell_alloc_one w1 _ _ 1) id
       have p2 := hk2.some (cell_alloc_one w1 _ _ 2) id
       have p3 := hk2.some (cell_alloc_one w1 _ _ 3) id
       have p4 := hk2.some (cell_alloc_one w1 _ _ 4) id
       have l4 := cell_lt p0
       have KR := Lib.hid (KF.out.trans hkx)
       clear hk2 hkx r0 r1 r2 r3 l0 l1)
    | (go_at_call 15; refine (in_one _ _ _ _).mono ?_; rintro e w' ⟨rfl, rfl⟩)
    | (go_at_call 14; refine (when_any _ _ _).mono ?_; rintro e w' ⟨rfl, rfl⟩)
    | fail)
  refine (first2_any _ _ E1 3 _ (by go_simp) (by go_simp)).mono ?_
  rw [HW1.out]
  rintro e w' ⟨rfl, rfl⟩
  have l5 : w.heap.size < w2.heap.size + 1 := Nat.lt_succ_of_lt l3
  have l6 : w1.heap.size < w2.heap.size + 1 := Nat.lt_succ_of_lt l4
  go_wp2_with (first
    | (go_at_call 14; refine (when_any _ _ _).mono ?_; rintro e w' ⟨rfl, rfl⟩)
    | fail)
  refine (first2_any _ _ W1 0 _ (by go_simp) (by go_simp)).mono ?_
  rw [HE.out]
  rintro e w' ⟨rfl, rfl⟩
  have l7 : w1.heap.size < w2.heap.size + 1 + 1 := Nat.lt_succ_of_lt l6
  go_wp2_with (first
    | (go_at_call 16; refine (finishes_one _).mono ?_; rintro e w' ⟨rfl, n, rfl⟩)
    | (go_at_call 17; refine (none_zero _).mono ?_; rintro e w5 ⟨rfl, hk5⟩)
    | fail)
  go_ret
  refine ⟨rfl, (KR.out.trans ?_).trans hk5⟩
  repeat (first | exact Kept.refl _ _ | refine Kept.drew ?_ _ | refine Kept.alloc ?_ _ _)
end Go.Proofs.Ytfphhlodfieopaa
