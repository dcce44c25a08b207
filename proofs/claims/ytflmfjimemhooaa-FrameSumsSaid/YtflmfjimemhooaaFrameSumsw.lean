/- The walk of FrameSums. Conditions: none. -/
import Derived.Test.YtflmfjimemhooaaWe
import Derived.Test.YtflmfjimemhooaaGz
import Derived.Test.YtflmfjimemhooaaFe
namespace Go.Proofs.Ytflmfjimemhooaa
open Go.RowKit
open Fl
open BigFrame

/-- One byte more in the two sums. -/
def adA (a m : Int) : Int := (wrap64 (a + wrap64 (bits BinOp.and IntKind.u32 m 255))).tmod 65521
def adC (c a : Int) : Int := (wrap64 (c + a)).tmod 65521
def ad1 (p : Int × Int) (m : Int) : Int × Int := (adA p.1 m, adC p.2 (adA p.1 m))
/-- The four bytes of a single. -/
def ad4 (p : Int × Int) (q : Nat) : Int × Int := ad1 (ad1 (ad1 (ad1 p ((q : Int) / 16777216)) ((q : Int) / 65536)) ((q : Int) / 256)) (q : Int)
def adN (z : Nat → Nat) : Nat → Int × Int
  | 0 => (1, 0)
  | k + 1 => ad4 (adN z k) (cl .f32 (z k))
def adR (p : Int × Int) : Int := wrap64 (wrap64 (p.2 * 65536) + p.1)
theorem frE_ok' {x y W H : Int} {n : Nat} (h : frE x y W H n = 0) : regE x y W H = 0 ∧ (n : Int) = 4 * W * H := by
  unfold frE at h
  by_cases h1 : regE x y W H = 0
  · rw [if_neg (by simp [h1])] at h
    by_cases h2 : (n : Int) = 4 * W * H
    · exact ⟨h1, h2⟩
    · rw [if_pos h2] at h; exact absurd h (by decide)
  · rw [if_pos h1] at h; exact absurd h h1

set_option linter.unusedSimpArgs false in
set_option linter.unusedVariables false in
set_option maxHeartbeats 4000000 in
set_option maxRecDepth 100000 in
theorem sum_err (x y W H : Int) (A : Option Addr) (n cap : Nat) (w : World) (E : Int) (hF : frE x y W H n = E) (h0 : ¬ E = 0) :
    Calls Try.prog 9 #[.agg #[.int .i64 x, .int .i64 y, .int .i64 W, .int .i64 H, .slice A n cap]] w fun e w' => e = .returned (.tuple #[.int .i64 0, .int .i64 E]) ∧ Kept None' w w' := by
  have HF := Lib.hid hF
  have g0 : (E != 0) = true := by simp [h0]
  clear hF
  go_enter Try.func9, Try.ntmps9
  go_wp2_with (go_at_call 37; refine (check_any _ _ _ _ _ _ _ _).mono ?_; rw [HF.out]; rintro e w1 ⟨rfl, hk⟩)
  go_ret2
  exact ⟨rfl, ((Kept.refl _ _).alloc _ _).trans hk⟩
set_option linter.unusedSimpArgs false in
set_option linter.unusedVariables false in
set_option maxHeartbeats 4000000 in
set_option maxRecDepth 100000 in
theorem sum_ok (x y W H : Int) (b o n cap : Nat) (z : Nat → Nat) (w : World) (hF : frE x y W H n = 0) (hn6 : n ≤ 65536) (hc : ∀ i, i < n → w.cell? ⟨b, o + i, none⟩ = some (.float .f32 (z i))) :
    Calls Try.prog 9 #[.agg #[.int .i64 x, .int .i64 y, .int .i64 W, .int .i64 H, .slice (some ⟨b, o, none⟩) n cap]] w fun e w' => e = .returned (.tuple #[.int .i64 (adR (adN z n)), .int .i64 0]) ∧ Kept None' w w' := by
  have HF := Lib.hid hF
  have HC := Lib.hid hc
  clear hF hc
  obtain ⟨R, hR⟩ : ∃ R, adR (adN z n) = R := ⟨_, rfl⟩
  rw [hR]
  have HR := Lib.hid hR
  clear hR
  go_enter Try.func9, Try.ntmps9
  go_upto_region 1 with fail
  refine of_world (fun W0 hW => ?_)
  have k0 : Kept None' w W0 := by rw [hW]; exact (Kept.refl _ _).alloc _ _
  have t0 : W0.cell? ⟨w.heap.size, 0, none⟩ = some (.int .i64 x) := by rw [hW]; exact cell_alloc_one w _ _ 0
  have t1 : W0.cell? ⟨w.heap.size, 1, none⟩ = some (.int .i64 y) := by rw [hW]; exact cell_alloc_one w _ _ 1
  have t2 : W0.cell? ⟨w.heap.size, 2, none⟩ = some (.int .i64 W) := by rw [hW]; exact cell_alloc_one w _ _ 2
  have t3 : W0.cell? ⟨w.heap.size, 3, none⟩ = some (.int .i64 H) := by rw [hW]; exact cell_alloc_one w _ _ 3
  have t4 : W0.cell? ⟨w.heap.size, 4, none⟩ = some (.slice (some ⟨b, o, none⟩) n cap) := by rw [hW]; exact cell_alloc_one w _ _ 4
  have K0 := Lib.hid k0
  clear hW k0
  go_upto_region 4 with (go_at_call 37; refine (check_any _ _ _ _ _ _ _ _).mono ?_; rw [HF.out]; rintro e w1 ⟨rfl, hk⟩)
  have K1 := Lib.hid (K0.out.trans hk)
  have t4' := hk.some t4 id
  have KC := Lib.hid (fun i hi => K1.out.some (HC.out i hi) id)
  clear t0 t1 t2 t3 t4 hk
  go_wp2_with fail
  go_loop [5, 6, 19] (fun sa sc si => ∃ (k : Nat) (a c : Int), k ≤ n ∧ si = .int .i64 (k : Int) ∧ sa = .int .i64 a ∧ sc = .int .i64 c ∧ Hid (adN z k = (a, c))) (fun _ _ si => (n - intOf si).toNat)
  case atStart => exact ⟨0, 1, 0, Nat.zero_le _, rfl, rfl, rfl, Lib.hid rfl⟩
  case round =>
    obtain ⟨k, a, c, hk, rfl, rfl, rfl, HA⟩ := hrel
    by_cases hlt : k < n
    · have d1 : decide ((k : Int) < (n : Int)) = true := decide_eq_true (by omega)
      have e0 := KC.out k hlt
      have HQ := Lib.hid (show adN z (k + 1) = ad4 (adN z k) (cl .f32 (z k)) from rfl)
      go_wp2_with (go_at_call 38; refine (bits_one _ _).mono ?_; rintro e w' ⟨rfl, rfl⟩)
      generalize cl .f32 (z k) = q at *
      refine wp_loop_rounds 5 ?_
      rw [rounds_succ]
      go_wp2_with fail
      rw [rounds_succ]
      go_wp2_with fail
      rw [rounds_succ]
      go_wp2_with fail
      rw [rounds_succ]
      go_wp2_with fail
      rw [rounds_succ]
      go_wp2_with fail
      go_round
      case rel => exact ⟨k + 1, _, _, by omega, by go_num, rfl, rfl, Lib.hid (by rw [HQ.out, HA.out]; rfl)⟩
      case measure => simp [intOf]; omega
    · obtain rfl : k = n := by omega
      have d1 : decide ((k : Int) < (k : Int)) = false := by simp
      clear hk
      have HX := Lib.hid (show wrap64 (wrap64 (c * 65536) + a) = R by rw [← HR.out, HA.out]; rfl)
      go_wp2_with fail
      go_ret2
      exact ⟨by rw [← HX.out]; rfl, K1.out⟩

set_option linter.unusedSimpArgs false in
set_option linter.unusedVariables false in
set_option maxHeartbeats 4000000 in
set_option maxRecDepth 100000 in
theorem fs_err (x y W H : Int) (A : Option Addr) (n cap : Nat) (w : World) (E : Int) (hF : frE x y W H n = E) (h0 : ¬ E = 0) :
    Calls Try.prog 3 #[.agg #[.int .i64 x, .int .i64 y, .int .i64 W, .int .i64 H, .slice A n cap]] w fun e w' => e = .returned (.bool true) ∧ Kept None' w w' := by
  have HF := Lib.hid hF
  have H0 := Lib.hid h0
  have g0 : (E != 0) = true := by simp [h0]
  clear hF h0
  go_enter Try.func3, Try.ntmps3
  go_upto_region 1 with fail
  refine of_world (fun W0 hW => ?_)
  have k0 : Kept None' w W0 := by rw [hW]; exact (Kept.refl _ _).alloc _ _
  have t0 : W0.cell? ⟨w.heap.size, 0, none⟩ = some (.int .i64 x) := by rw [hW]; exact cell_alloc_one w _ _ 0
  have t1 : W0.cell? ⟨w.heap.size, 1, none⟩ = some (.int .i64 y) := by rw [hW]; exact cell_alloc_one w _ _ 1
  have t2 : W0.cell? ⟨w.heap.size, 2, none⟩ = some (.int .i64 W) := by rw [hW]; exact cell_alloc_one w _ _ 2
  have t3 : W0.cell? ⟨w.heap.size, 3, none⟩ = some (.int .i64 H) := by rw [hW]; exact cell_alloc_one w _ _ 3
  have t4 : W0.cell? ⟨w.heap.size, 4, none⟩ = some (.slice A n cap) := by rw [hW]; exact cell_alloc_one w _ _ 4
  have K0 := Lib.hid k0
  clear hW k0
  go_wp2_with (first
    | (go_at_call 9; refine (sum_err x y W H A n cap _ E HF.out H0.out).mono ?_; rintro e w1 ⟨rfl, hk⟩
       have s0 := hk.some t0 id; have s1 := hk.some t1 id; have s2 := hk.some t2 id; have s3 := hk.some t3 id; have s4 := hk.some t4 id; have K1 := Lib.hid (K0.out.trans hk); clear hk t0 t1 t2 t3 t4)
    | (go_at_call 10; refine (frameerror_any _ _ _ _ _ _ _ _).mono ?_; rw [HF.out]; rintro e w2 ⟨rfl, hk⟩; have K2 := Lib.hid (K1.out.trans hk); clear hk)
    | (go_at_call 11; refine (farms_any _).mono ?_; rintro e w3 ⟨rfl, hk3⟩))
  go_ret
  exact ⟨rfl, K2.out.trans (by first | exact hk3 | exact Kept.trans (by assumption) hk3)⟩
set_option linter.unusedSimpArgs false in
set_option linter.unusedVariables false in
set_option maxHeartbeats 4000000 in
set_option maxRecDepth 100000 in
theorem fs_ok (x y W H : Int) (b o n cap : Nat) (z : Nat → Nat) (w : World) (hF : frE x y W H n = 0) (hn6 : n ≤ 65536) (hc : ∀ i, i < n → w.cell? ⟨b, o + i, none⟩ = some (.float .f32 (z i))) :
    Calls Try.prog 3 #[.agg #[.int .i64 x, .int .i64 y, .int .i64 W, .int .i64 H, .slice (some ⟨b, o, none⟩) n cap]] w fun e w' => e = .returned (.bool true) ∧ Kept None' w w' := by
  have HF := Lib.hid hF
  have HC := Lib.hid hc
  clear hF hc
  obtain ⟨R, hR⟩ : ∃ R, adR (adN z n) = R := ⟨_, rfl⟩
  have HR := Lib.hid hR
  clear hR
  go_enter Try.func3, Try.ntmps3
  go_upto_region 1 with fail
  refine of_world (fun W0 hW => ?_)
  have k0 : Kept None' w W0 := by rw [hW]; exact (Kept.refl _ _).alloc _ _
  have t0 : W0.cell? ⟨w.heap.size, 0, none⟩ = some (.int .i64 x) := by rw [hW]; exact cell_alloc_one w _ _ 0
  have t1 : W0.cell? ⟨w.heap.size, 1, none⟩ = some (.int .i64 y) := by rw [hW]; exact cell_alloc_one w _ _ 1
  have t2 : W0.cell? ⟨w.heap.size, 2, none⟩ = some (.int .i64 W) := by rw [hW]; exact cell_alloc_one w _ _ 2
  have t3 : W0.cell? ⟨w.heap.size, 3, none⟩ = some (.int .i64 H) := by rw [hW]; exact cell_alloc_one w _ _ 3
  have t4 : W0.cell? ⟨w.heap.size, 4, none⟩ = some (.slice (some ⟨b, o, none⟩) n cap) := by rw [hW]; exact cell_alloc_one w _ _ 4
  have K0 := Lib.hid k0
  clear hW k0
  go_upto_region 5 with (first
    | (go_at_call 9; refine (sum_ok x y W H b o n cap z _ HF.out hn6 (fun i hi => K0.out.some (HC.out i hi) id)).mono ?_; rw [HR.out]; rintro e w1 ⟨rfl, hk⟩
       have s0 := hk.some t0 id; have s1 := hk.some t1 id; have s2 := hk.some t2 id; have s3 := hk.some t3 id; have s4 := hk.some t4 id; have K1 := Lib.hid (K0.out.trans hk); clear hk t0 t1 t2 t3 t4)
    | (go_at_call 10; refine (frameerror_any _ _ _ _ _ _ _ _).mono ?_; rw [HF.out]; rintro e w2 ⟨rfl, hk⟩; have r4 := hk.some s4 id; have K2 := Lib.hid (K1.out.trans hk); clear hk s0 s1 s2 s3 s4)
    | (go_at_call 11; refine (farms_any _).mono ?_; rintro e w3 ⟨rfl, hk3⟩; have q4 := hk3.some r4 id; have K3 := Lib.hid (K2.out.trans hk3); clear hk3 r4))
  have KC := Lib.hid (fun i hi => K3.out.some (HC.out i hi) id)
  go_wp2_with fail
  go_loop [6, 7, 38] (fun sa sc si => ∃ (k : Nat) (a c : Int), k ≤ n ∧ si = .int .i64 (k : Int) ∧ sa = .int .i64 a ∧ sc = .int .i64 c ∧ Hid (adN z k = (a, c))) (fun _ _ si => (n - intOf si).toNat)
  case atStart => exact ⟨0, 1, 0, Nat.zero_le _, rfl, rfl, rfl, Lib.hid rfl⟩
  case round =>
    obtain ⟨k, a, c, hk, rfl, rfl, rfl, HA⟩ := hrel
    by_cases hlt : k < n
    · have d1 : decide ((k : Int) < (n : Int)) = true := decide_eq_true (by omega)
      have e0 := KC.out k hlt
      have HQ := Lib.hid (show adN z (k + 1) = ad4 (adN z k) (cl .f32 (z k)) from rfl)
      go_wp2_with (go_at_call 12; refine (bitsof_one _ _).mono ?_; rintro e w' ⟨rfl, rfl⟩)
      generalize cl .f32 (z k) = q at *
      refine wp_loop_rounds 5 ?_
      rw [rounds_succ]
      go_wp2_with fail
      rw [rounds_succ]
      go_wp2_with fail
      rw [rounds_succ]
      go_wp2_with fail
      rw [rounds_succ]
      go_wp2_with fail
      rw [rounds_succ]
      go_wp2_with fail
      go_round
      case rel => exact ⟨k + 1, _, _, by omega, by go_num, rfl, rfl, Lib.hid (by rw [HQ.out, HA.out]; rfl)⟩
      case measure => simp [intOf]; omega
    · obtain rfl : k = n := by omega
      have d1 : decide ((k : Int) < (k : Int)) = false := by simp
      clear hk
      have HX : wrap64 (wrap64 (c * 65536) + a) = R := by rw [← HR.out, HA.out]; rfl
      have g1 : (R == wrap64 (wrap64 (c * 65536) + a)) = true := by rw [HX]; simp
      clear HX
      go_wp2_with fail
      go_ret
      exact ⟨rfl, K3.out⟩

set_option linter.unusedSimpArgs false in
set_option linter.unusedVariables false in
set_option maxHeartbeats 4000000 in
set_option maxRecDepth 100000 in
theorem walk_frameSums (x y W H : Int) (A : Option Addr) (n cap : Nat) (z : Nat → Nat) (w : World) (_ : (Lit.int .i64 x).wf = true) (_ : (Lit.int .i64 y).wf = true) (_ : (Lit.int .i64 W).wf = true) (_ : (Lit.int .i64 H).wf = true)
    (hcap : n ≤ cap) (hcap2 : cap ≤ maxLen) (hr : Rd w A n (fun i => .float .f32 (z i))) (_ : ∀ i, (Lit.float .f32 (z i)).wf = true) :
    Calls Try.prog 3 #[.agg #[.int .i64 x, .int .i64 y, .int .i64 W, .int .i64 H, .slice A n cap]] w fun e w' => e = .returned (.bool true) ∧ Kept None' w w' := by
  by_cases hF : frE x y W H n = 0
  · obtain ⟨hE, hn⟩ := frE_ok' hF
    obtain ⟨w1', w2', w3', w4', w5'⟩ := regE_ok hE
    have w6 := (mul_bd w1' w2' w3' w4').1
    have w7 : 4 * W * H = 4 * (W * H) := Int.mul_assoc ..
    obtain ⟨b, o, rfl, hc⟩ := hr (by omega)
    exact fs_ok x y W H b o n cap z w hF (by omega) hc
  · exact fs_err x y W H A n cap w _ rfl hF
end Go.Proofs.Ytflmfjimemhooaa
