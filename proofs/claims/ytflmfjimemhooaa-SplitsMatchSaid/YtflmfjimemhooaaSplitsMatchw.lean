/- The walk of SplitsMatch. Conditions: none. -/
import Derived.Test.YtflmfjimemhooaaWk
namespace Go.Proofs.Ytflmfjimemhooaa
set_option linter.unusedVariables false
set_option linter.unusedSimpArgs false
open Go.RowKit
open Fl
open BigFrame

set_option linter.unusedSimpArgs false in
set_option linter.unusedVariables false in
set_option maxHeartbeats 4000000 in
set_option maxRecDepth 100000 in
theorem sm_err (x y W H s f l : Int) (w : World) (E : Int) (hE : spW x y W H s f l = E) (h0 : ¬ E = 0) :
    Calls Try.prog 5 #[.agg #[.int .i64 x, .int .i64 y, .int .i64 W, .int .i64 H], .int .i64 s, .int .i64 f, .int .i64 l] w fun e w' => e = .returned (.bool true) ∧ Kept None' w w' := by
  have HEE := Lib.hid hE
  have H0 := Lib.hid h0
  have g0 : (E != 0) = true := by simp [h0]
  clear hE h0
  go_enter Try.func5, Try.ntmps5
  go_upto_region 1 with fail
  refine of_world (fun W0 hW => ?_)
  have k0 : Kept None' w W0 := by rw [hW]; exact (Kept.refl _ _).alloc _ _
  have t0 : W0.cell? ⟨w.heap.size, 0, none⟩ = some (.int .i64 x) := by rw [hW]; exact cell_alloc_one w _ _ 0
  have t1 : W0.cell? ⟨w.heap.size, 1, none⟩ = some (.int .i64 y) := by rw [hW]; exact cell_alloc_one w _ _ 1
  have t2 : W0.cell? ⟨w.heap.size, 2, none⟩ = some (.int .i64 W) := by rw [hW]; exact cell_alloc_one w _ _ 2
  have t3 : W0.cell? ⟨w.heap.size, 3, none⟩ = some (.int .i64 H) := by rw [hW]; exact cell_alloc_one w _ _ 3
  have HB := Lib.hid (show ∀ W', Kept None' W0 W' → W'.cell? ⟨w.heap.size, 0, none⟩ = some (.int .i64 x) ∧ W'.cell? ⟨w.heap.size, 1, none⟩ = some (.int .i64 y) ∧ W'.cell? ⟨w.heap.size, 2, none⟩ = some (.int .i64 W) ∧ W'.cell? ⟨w.heap.size, 3, none⟩ = some (.int .i64 H) from fun W' k => ⟨k.some t0 id, k.some t1 id, k.some t2 id, k.some t3 id⟩)
  have K0 := Lib.hid k0
  clear hW k0
  generalize w.heap.size = Q at *
  go_upto_region 2 with (go_at_call 22; refine (split_err x y W H s f l _ E HEE.out H0.out).mono ?_; rintro e w1 ⟨rfl, hk⟩)
  have K1 := Lib.hid hk
  clear hk t0 t1 t2 t3
  obtain ⟨t0, t1, t2, t3⟩ := HB.out _ K1.out
  have HV1 := Lib.hid (show (if (!inB s 1 256) = true then (3 : Int) else 0) = spB s from rfl)
  have HV3 := Lib.hid (show (if decide (l < f) = true then (8 : Int) else 0) = spO f l from rfl)
  have HF4 := Lib.hid (show (if regE x y W H ≠ 0 then regE x y W H else if spB s ≠ 0 then spB s else if spR f l ≠ 0 then spR f l else spO f l) = E by rw [← HEE.out]; rfl)
  obtain ⟨bf, hbf⟩ : ∃ b, inB f 0 16777216 = b := ⟨_, rfl⟩
  have HBF := Lib.hid hbf
  have HV2 := Lib.hid (show (bf = false → (if true = true then (3 : Int) else 0) = spR f l) ∧ (bf = true → (if (!inB l 0 16777216) = true then (3 : Int) else 0) = spR f l) from ⟨fun h => by unfold spR; rw [hbf, h]; rfl, fun h => by unfold spR; rw [hbf, h]; rfl⟩)
  clear hbf
  go_upto_region 2 with fail
  cases bf with
  | false =>
    have HVB := Lib.hid (show (3 : Int) = spR f l from HV2.out.1 rfl)
    clear HV2
    go_upto_region 3 with (first
        | (go_at_call 23; refine (regionerror_any _ _ _ _ _).mono ?_; rintro e w2 ⟨rfl, hk⟩; have K2 := Lib.hid (K1.out.trans hk); clear hk)
        | (go_at_call 18; refine (in_one _ _ _ _).mono ?_; first | rw [HBF.out] | skip
           rintro e w' ⟨rfl, rfl⟩)
        | (go_at_call 17; refine (when_any _ _ _).mono ?_; first | rw [HV1.out] | rw [HV3.out] | rw [HVB.out] | (simp only [if_true]; rw [HVB.out])
           rintro e w' ⟨rfl, rfl⟩)
        | (go_at_call 16; refine (first4_any _ _ (regE x y W H) (spB s) (spR f l) (spO f l) _ (by go_simp) (by go_simp) (by go_simp) (by go_simp)).mono ?_; rw [HF4.out]; rintro e w' ⟨rfl, rfl⟩))
    refine of_world (fun W3 hW => ?_)
    have K3 := Lib.hid (show Kept None' W0 W3 by rw [hW]; exact K2.out.alloc _ _)
    clear hW t0 t1 t2 t3
    go_wp2_with (go_at_call 11; refine (farms_any _).mono ?_; rintro e w3 ⟨rfl, hk3⟩)
    go_ret
    exact ⟨rfl, (K0.out.trans K3.out).trans (by first | exact hk3 | exact Kept.trans (by assumption) hk3)⟩
  | true =>
    have HVB := Lib.hid (HV2.out.2 rfl)
    clear HV2
    go_upto_region 3 with (first
        | (go_at_call 23; refine (regionerror_any _ _ _ _ _).mono ?_; rintro e w2 ⟨rfl, hk⟩; have K2 := Lib.hid (K1.out.trans hk); clear hk)
        | (go_at_call 18; refine (in_one _ _ _ _).mono ?_; first | rw [HBF.out] | skip
           rintro e w' ⟨rfl, rfl⟩)
        | (go_at_call 17; refine (when_any _ _ _).mono ?_; first | rw [HV1.out] | rw [HV3.out] | rw [HVB.out] | (simp only [if_true]; rw [HVB.out])
           rintro e w' ⟨rfl, rfl⟩)
        | (go_at_call 16; refine (first4_any _ _ (regE x y W H) (spB s) (spR f l) (spO f l) _ (by go_simp) (by go_simp) (by go_simp) (by go_simp)).mono ?_; rw [HF4.out]; rintro e w' ⟨rfl, rfl⟩))
    refine of_world (fun W3 hW => ?_)
    have K3 := Lib.hid (show Kept None' W0 W3 by rw [hW]; exact K2.out.alloc _ _)
    clear hW t0 t1 t2 t3
    go_wp2_with (go_at_call 11; refine (farms_any _).mono ?_; rintro e w3 ⟨rfl, hk3⟩)
    go_ret
    exact ⟨rfl, (K0.out.trans K3.out).trans (by first | exact hk3 | exact Kept.trans (by assumption) hk3)⟩
set_option linter.unusedSimpArgs false in
set_option linter.unusedVariables false in
set_option maxHeartbeats 8000000 in
set_option maxRecDepth 100000 in
theorem sm_large (x y W H s f l : Int) (w : World) (hE : regE x y W H = 0) (s0 : 1 ≤ s) (s1 : s ≤ 256) (f0 : 0 ≤ f) (f1 : f ≤ 16777216) (l0 : 0 ≤ l) (l1 : l ≤ 16777216) (hfl : f ≤ l) (hbig : 2000 < ((tiles x y W H s).length : Int) * (l - f + 1)) :
    Calls Try.prog 5 #[.agg #[.int .i64 x, .int .i64 y, .int .i64 W, .int .i64 H], .int .i64 s, .int .i64 f, .int .i64 l] w fun e w' => e = .returned (.bool true) ∧ Kept None' w w' := by
  have hE2 := Lib.hid hE
  have HBig := Lib.hid hbig
  have hzz : spW x y W H s f l = 0 := by
    have i1 : inB s 1 256 = true := by unfold inB; simp; omega
    have i2 : inB f 0 16777216 = true := by unfold inB; simp; omega
    have i3 : inB l 0 16777216 = true := by unfold inB; simp; omega
    unfold spW spB spR spO
    rw [hE, i1, i2, i3]
    simp
    omega
  obtain ⟨E, hEE⟩ : ∃ E : Int, E = 0 := ⟨0, rfl⟩
  have HEE := Lib.hid (show spW x y W H s f l = E by rw [hEE]; exact hzz)
  have HE0 := Lib.hid hEE
  clear hzz hEE
  have HRE := Lib.hid hE
  obtain ⟨T, hT⟩ : ∃ T, tiles x y W H s = T := ⟨_, rfl⟩
  have HT := Lib.hid hT
  obtain ⟨p0, p1, q0, q1, -⟩ := regE_ok hE
  have hml := tiles_len (x := x) (y := y) p0 p1 q0 q1 s0 s1
  rw [hT] at hml
  clear p0 p1 q0 q1 hE hT
  obtain ⟨m, hm⟩ : ∃ m, T.length = m := ⟨_, rfl⟩
  rw [hm] at hml
  have HM := Lib.hid hm
  clear hm
  obtain ⟨D, hD⟩ : ∃ D : Nat, (D : Int) = l - f + 1 := ⟨(l - f + 1).toNat, by omega⟩
  obtain ⟨P, hP⟩ : ∃ P : Nat, D * m = P := ⟨_, rfl⟩
  have hPi : (m : Int) * (l - f + 1) = (P : Int) := by rw [← hD, ← hP, Int.natCast_mul, Int.mul_comm]
  have hPb : P ≤ 16777217 * 1048576 := by rw [← hP]; exact Nat.mul_le_mul (by omega) hml
  have hPw : wrap64 (P : Int) = (P : Int) := by unfold wrap64; omega
  have HPP := Lib.hid hP
  have HDD := Lib.hid hD
  rw [HT.out, HM.out, hPi] at hbig
  clear hP hD
  have d1 : decide (2000 < P) = true := decide_eq_true (by omega)
  have d1i : decide (2000 < (P : Int)) = true := decide_eq_true (by omega)
  have HPI := Lib.hid (And.intro hPi (And.intro hPb (And.intro hPw (And.intro d1 d1i))))
  clear hPi hPb hPw d1 d1i hbig
  go_enter Try.func5, Try.ntmps5
  go_upto_region 1 with fail
  refine of_world (fun W0 hW => ?_)
  have k0 : Kept None' w W0 := by rw [hW]; exact (Kept.refl _ _).alloc _ _
  have t0 : W0.cell? ⟨w.heap.size, 0, none⟩ = some (.int .i64 x) := by rw [hW]; exact cell_alloc_one w _ _ 0
  have t1 : W0.cell? ⟨w.heap.size, 1, none⟩ = some (.int .i64 y) := by rw [hW]; exact cell_alloc_one w _ _ 1
  have t2 : W0.cell? ⟨w.heap.size, 2, none⟩ = some (.int .i64 W) := by rw [hW]; exact cell_alloc_one w _ _ 2
  have t3 : W0.cell? ⟨w.heap.size, 3, none⟩ = some (.int .i64 H) := by rw [hW]; exact cell_alloc_one w _ _ 3
  have HB := Lib.hid (show ∀ W', Kept None' W0 W' → W'.cell? ⟨w.heap.size, 0, none⟩ = some (.int .i64 x) ∧ W'.cell? ⟨w.heap.size, 1, none⟩ = some (.int .i64 y) ∧ W'.cell? ⟨w.heap.size, 2, none⟩ = some (.int .i64 W) ∧ W'.cell? ⟨w.heap.size, 3, none⟩ = some (.int .i64 H) from fun W' k => ⟨k.some t0 id, k.some t1 id, k.some t2 id, k.some t3 id⟩)
  have K0 := Lib.hid k0
  clear hW k0
  generalize w.heap.size = Q at *
  go_upto_region 2 with (go_at_call 22; refine (split_large x y W H s f l _ hE2.out s0 s1 f0 f1 l0 l1 hfl HBig.out).mono ?_; rintro e w1 ⟨rfl, hk⟩)
  have K1 := Lib.hid hk
  clear hk t0 t1 t2 t3
  obtain ⟨t0, t1, t2, t3⟩ := HB.out _ K1.out
  have HV1 := Lib.hid (show (if (!inB s 1 256) = true then (3 : Int) else 0) = spB s from rfl)
  have HV3 := Lib.hid (show (if decide (l < f) = true then (8 : Int) else 0) = spO f l from rfl)
  have HF4 := Lib.hid (show (if regE x y W H ≠ 0 then regE x y W H else if spB s ≠ 0 then spB s else if spR f l ≠ 0 then spR f l else spO f l) = E by rw [← HEE.out]; rfl)
  obtain ⟨bf, hbf⟩ : ∃ b, inB f 0 16777216 = b := ⟨_, rfl⟩
  have HBF := Lib.hid hbf
  have HV2 := Lib.hid (show (bf = false → (if true = true then (3 : Int) else 0) = spR f l) ∧ (bf = true → (if (!inB l 0 16777216) = true then (3 : Int) else 0) = spR f l) from ⟨fun h => by unfold spR; rw [hbf, h]; rfl, fun h => by unfold spR; rw [hbf, h]; rfl⟩)
  clear hbf
  go_upto_region 2 with fail
  cases bf with
  | false => exact absurd HBF.out (by unfold inB; simp; omega)
  | true =>
    have HVB := Lib.hid (HV2.out.2 rfl)
    clear HV2
    go_upto_region 3 with (first
        | (go_at_call 23; refine (regionerror_any _ _ _ _ _).mono ?_; rintro e w2 ⟨rfl, hk⟩; have K2 := Lib.hid (K1.out.trans hk); clear hk)
        | (go_at_call 18; refine (in_one _ _ _ _).mono ?_; first | rw [HBF.out] | skip
           rintro e w' ⟨rfl, rfl⟩)
        | (go_at_call 17; refine (when_any _ _ _).mono ?_; first | rw [HV1.out] | rw [HV3.out] | rw [HVB.out] | (simp only [if_true]; rw [HVB.out])
           rintro e w' ⟨rfl, rfl⟩)
        | (go_at_call 16; refine (first4_any _ _ (regE x y W H) (spB s) (spR f l) (spO f l) _ (by go_simp) (by go_simp) (by go_simp) (by go_simp)).mono ?_; rw [HF4.out]; rintro e w' ⟨rfl, rfl⟩))
    refine of_world (fun W3 hW => ?_)
    have K3 := Lib.hid (show Kept None' W0 W3 by rw [hW]; exact K2.out.alloc _ _)
    clear hW t0 t1 t2 t3
    have g0 : (E != 0) = false := by rw [HE0.out]; rfl
    go_upto_region 5 with (go_at_call 11; refine (farms_any _).mono ?_; rintro e w4 ⟨rfl, hk⟩)
    have K4 := Lib.hid (K3.out.trans hk)
    clear hk g0
    obtain ⟨t0, t1, t2, t3⟩ := HB.out _ K4.out
    go_upto_region 6 with (go_at_call 24; refine (tiles_ok x y W H s _ hE2.out s0 s1).mono ?_; rw [HT.out]; rintro e w5 ⟨vb, rfl, hL⟩; obtain ⟨TAb, tcb, rfl, t1, t2, hTc⟩ := hL.slice; have HTlb := Lib.hid (show Rd4 w5 TAb T from hTc); have KTb := Lib.hid hL.1; rw [HM.out]; clear hL hTc t1 t2)
    have HTl := HTlb
    have K5 := Lib.hid (K4.out.trans KTb.out)
    clear t0 t1 t2 t3
    obtain ⟨hPi, hPb, hPw, d1, d1i⟩ := HPI.out
    go_wp2_with fail
    go_ret
    exact ⟨rfl, K0.out.trans K5.out⟩
set_option linter.unusedSimpArgs false in
set_option linter.unusedVariables false in
set_option maxHeartbeats 8000000 in
set_option maxRecDepth 100000 in
theorem sm_ok (x y W H s f l : Int) (w : World) (hE : regE x y W H = 0) (s0 : 1 ≤ s) (s1 : s ≤ 256) (f0 : 0 ≤ f) (f1 : f ≤ 16777216) (l0 : 0 ≤ l) (l1 : l ≤ 16777216) (hfl : f ≤ l) (D : Nat) (hD : (D : Int) = l - f + 1) (hbig : ¬ 2000 < ((tiles x y W H s).length : Int) * (l - f + 1)) :
    Calls Try.prog 5 #[.agg #[.int .i64 x, .int .i64 y, .int .i64 W, .int .i64 H], .int .i64 s, .int .i64 f, .int .i64 l] w fun e w' => e = .returned (.bool true) ∧ Kept None' w w' := by
  have hE2 := Lib.hid hE
  have HBig := Lib.hid hbig
  have hzz : spW x y W H s f l = 0 := by
    have i1 : inB s 1 256 = true := by unfold inB; simp; omega
    have i2 : inB f 0 16777216 = true := by unfold inB; simp; omega
    have i3 : inB l 0 16777216 = true := by unfold inB; simp; omega
    unfold spW spB spR spO
    rw [hE, i1, i2, i3]
    simp
    omega
  obtain ⟨E, hEE⟩ : ∃ E : Int, E = 0 := ⟨0, rfl⟩
  have HEE := Lib.hid (show spW x y W H s f l = E by rw [hEE]; exact hzz)
  have HE0 := Lib.hid hEE
  clear hzz hEE
  have HRE := Lib.hid hE
  obtain ⟨T, hT⟩ : ∃ T, tiles x y W H s = T := ⟨_, rfl⟩
  have HT := Lib.hid hT
  obtain ⟨p0, p1, q0, q1, -⟩ := regE_ok hE
  have hml := tiles_len (x := x) (y := y) p0 p1 q0 q1 s0 s1
  rw [hT] at hml
  clear p0 p1 q0 q1 hE hT
  obtain ⟨m, hm⟩ : ∃ m, T.length = m := ⟨_, rfl⟩
  rw [hm] at hml
  have HM := Lib.hid hm
  clear hm
  obtain ⟨P, hP⟩ : ∃ P : Nat, D * m = P := ⟨_, rfl⟩
  have hPi : (m : Int) * (l - f + 1) = (P : Int) := by rw [← hD, ← hP, Int.natCast_mul, Int.mul_comm]
  have hPb : P ≤ 16777217 * 1048576 := by rw [← hP]; exact Nat.mul_le_mul (by omega) hml
  have hPw : wrap64 (P : Int) = (P : Int) := by unfold wrap64; omega
  have HPP := Lib.hid hP
  have HDD := Lib.hid hD
  rw [HT.out, HM.out, hPi] at hbig
  clear hP hD
  have d1 : decide (2000 < P) = false := decide_eq_false (by omega)
  have HP := Lib.hid (show D * m ≤ 2000 by have := HPP.out; omega)
  obtain ⟨i0, hi0, hz0, hz1, hz2⟩ := info_parts' task_info
  have HI := Lib.hid (And.intro hi0 (And.intro hz0 (And.intro hz1 hz2)))
  clear hi0 hz0 hz1 hz2
  have d1i : decide (2000 < (P : Int)) = false := decide_eq_false (by omega)
  have HPI := Lib.hid (And.intro hPi (And.intro hPb (And.intro hPw (And.intro d1 d1i))))
  clear hPi hPb hPw d1 d1i hbig
  go_enter Try.func5, Try.ntmps5
  go_upto_region 1 with fail
  refine of_world (fun W0 hW => ?_)
  have k0 : Kept None' w W0 := by rw [hW]; exact (Kept.refl _ _).alloc _ _
  have t0 : W0.cell? ⟨w.heap.size, 0, none⟩ = some (.int .i64 x) := by rw [hW]; exact cell_alloc_one w _ _ 0
  have t1 : W0.cell? ⟨w.heap.size, 1, none⟩ = some (.int .i64 y) := by rw [hW]; exact cell_alloc_one w _ _ 1
  have t2 : W0.cell? ⟨w.heap.size, 2, none⟩ = some (.int .i64 W) := by rw [hW]; exact cell_alloc_one w _ _ 2
  have t3 : W0.cell? ⟨w.heap.size, 3, none⟩ = some (.int .i64 H) := by rw [hW]; exact cell_alloc_one w _ _ 3
  have HB := Lib.hid (show ∀ W', Kept None' W0 W' → W'.cell? ⟨w.heap.size, 0, none⟩ = some (.int .i64 x) ∧ W'.cell? ⟨w.heap.size, 1, none⟩ = some (.int .i64 y) ∧ W'.cell? ⟨w.heap.size, 2, none⟩ = some (.int .i64 W) ∧ W'.cell? ⟨w.heap.size, 3, none⟩ = some (.int .i64 H) from fun W' k => ⟨k.some t0 id, k.some t1 id, k.some t2 id, k.some t3 id⟩)
  have K0 := Lib.hid k0
  clear hW k0
  generalize w.heap.size = Q at *
  go_upto_region 2 with (go_at_call 22; refine (split_ok x y W H s f l _ hE2.out s0 s1 f0 f1 l0 l1 hfl D HDD.out HBig.out).mono ?_; rw [HT.out]; rintro e w1 ⟨v0, rfl, hL⟩; obtain ⟨A1, c1, rfl, q1, q2, hrd⟩ := hL.slice; have HRD := Lib.hid (show Rd5 w1 A1 (tkAll T f D) from hrd); have hk := hL.1; clear hL hrd q1 q2)
  have K1 := Lib.hid hk
  have KA := Lib.hid (Kept.refl None' w1)
  clear hk t0 t1 t2 t3
  obtain ⟨t0, t1, t2, t3⟩ := HB.out _ K1.out
  have HV1 := Lib.hid (show (if (!inB s 1 256) = true then (3 : Int) else 0) = spB s from rfl)
  have HV3 := Lib.hid (show (if decide (l < f) = true then (8 : Int) else 0) = spO f l from rfl)
  have HF4 := Lib.hid (show (if regE x y W H ≠ 0 then regE x y W H else if spB s ≠ 0 then spB s else if spR f l ≠ 0 then spR f l else spO f l) = E by rw [← HEE.out]; rfl)
  obtain ⟨bf, hbf⟩ : ∃ b, inB f 0 16777216 = b := ⟨_, rfl⟩
  have HBF := Lib.hid hbf
  have HV2 := Lib.hid (show (bf = false → (if true = true then (3 : Int) else 0) = spR f l) ∧ (bf = true → (if (!inB l 0 16777216) = true then (3 : Int) else 0) = spR f l) from ⟨fun h => by unfold spR; rw [hbf, h]; rfl, fun h => by unfold spR; rw [hbf, h]; rfl⟩)
  clear hbf
  go_upto_region 2 with fail
  cases bf with
  | false => exact absurd HBF.out (by unfold inB; simp; omega)
  | true =>
    have HVB := Lib.hid (HV2.out.2 rfl)
    clear HV2
    go_upto_region 3 with (first
        | (go_at_call 23; refine (regionerror_any _ _ _ _ _).mono ?_; rintro e w2 ⟨rfl, hk⟩; have K2 := Lib.hid (K1.out.trans hk); have K12 := Lib.hid hk; clear hk)
        | (go_at_call 18; refine (in_one _ _ _ _).mono ?_; first | rw [HBF.out] | skip
           rintro e w' ⟨rfl, rfl⟩)
        | (go_at_call 17; refine (when_any _ _ _).mono ?_; first | rw [HV1.out] | rw [HV3.out] | rw [HVB.out] | (simp only [if_true]; rw [HVB.out])
           rintro e w' ⟨rfl, rfl⟩)
        | (go_at_call 16; refine (first4_any _ _ (regE x y W H) (spB s) (spR f l) (spO f l) _ (by go_simp) (by go_simp) (by go_simp) (by go_simp)).mono ?_; rw [HF4.out]; rintro e w' ⟨rfl, rfl⟩))
    refine of_world (fun W3 hW => ?_)
    have K3 := Lib.hid (show Kept None' W0 W3 by rw [hW]; exact K2.out.alloc _ _)
    have K13 := Lib.hid (show Kept None' w1 W3 by rw [hW]; exact K12.out.alloc _ _)
    clear hW t0 t1 t2 t3
    have g0 : (E != 0) = false := by rw [HE0.out]; rfl
    go_upto_region 5 with (go_at_call 11; refine (farms_any _).mono ?_; rintro e w4 ⟨rfl, hk⟩)
    have K4 := Lib.hid (K3.out.trans hk)
    have K14 := Lib.hid (K13.out.trans hk)
    clear hk g0
    obtain ⟨t0, t1, t2, t3⟩ := HB.out _ K4.out
    go_upto_region 6 with (go_at_call 24; refine (tiles_ok x y W H s _ hE2.out s0 s1).mono ?_; rw [HT.out]; rintro e w5 ⟨vb, rfl, hL⟩; obtain ⟨TAb, tcb, rfl, t1, t2, hTc⟩ := hL.slice; have HTlb := Lib.hid (show Rd4 w5 TAb T from hTc); have KTb := Lib.hid hL.1; rw [HM.out]; clear hL hTc t1 t2)
    have HTl := HTlb
    have K5 := Lib.hid (K4.out.trans KTb.out)
    have K15 := Lib.hid (K14.out.trans KTb.out)
    clear t0 t1 t2 t3
    obtain ⟨hPi, hPb, hPw, d1, d1i⟩ := HPI.out
    have KL := Lib.hid (Kept.refl None' w5)
    go_wp2_with fail
    clear d1 d1i hPi hPb hPw
    go_loopw [14, 15] (fun so sn wr => ∃ (d : Nat) (n : Int) (v : Value), d ≤ D ∧ n = f + (d : Int) ∧ sn = .int .i64 n ∧ v = so ∧ LT w5 62 5 v (tkAll T f d).length (flat5 (tkAll T f d)) wr) (fun _ sn _ => (l + 1 - intOf sn).toNat)
    case atStart => exact ⟨0, f, _, Nat.zero_le _, by simp, rfl, rfl, LT.nil w5 _ _ KL.out⟩
    case round =>
      obtain ⟨d, n, v, hd, hn, rfl, rfl, hS⟩ := hrel
      have HS := Lib.hid hS
      clear hS
      have HNF := Lib.hid hn
      have nb0 : 0 ≤ n := by omega
      have nb1 : n ≤ 16777217 := by have := HDD.out; omega
      have hnD : n ≤ l ↔ d < D := by have := HDD.out; omega
      have HND := Lib.hid hnD
      clear hn hnD
      by_cases hlt : n ≤ l
      · have e1 : decide (n ≤ l) = true := decide_eq_true hlt
        have hdD : d + 1 ≤ D := HND.out.1 hlt
        have HSU := Lib.hid (show tkAll T f (d + 1) = tkAll T f d ++ T.map (mkT n) by rw [HNF.out]; rfl)
        have hmul : (d + 1) * m ≤ D * m := Nat.mul_le_mul_right _ hdD
        have hlen : (tkAll T f d).length + m ≤ 2000 := by rw [tkAll_len, HM.out]; rw [Nat.add_mul] at hmul; have := HP.out; omega
        have HLen := Lib.hid hlen
        clear hmul hlen
        generalize tkAll T f d = K0 at *
        go_wp2_with fail
        go_loopw [14, 95] (fun so si wq => ∃ (i : Nat) (v : Value), i ≤ m ∧ si = .int .i64 (i : Int) ∧ v = so ∧ LT w5 62 5 v (K0 ++ (T.take i).map (mkT n)).length (flat5 (K0 ++ (T.take i).map (mkT n))) wq) (fun _ si _ => (m - intOf si).toNat)
        case atStart => exact ⟨0, _, Nat.zero_le _, rfl, rfl, by have := HS.out; simpa using this⟩
        case round =>
          obtain ⟨i, v2, hi, rfl, rfl, hS⟩ := hrel
          have HS2 := Lib.hid hS
          clear hS
          by_cases hlt2 : i < m
          · have e2 : decide ((i : Int) < (m : Int)) = true := decide_eq_true (by omega)
            have hml := HM.out
            obtain ⟨B, hB, hcB⟩ := (HTl.out.kept HS2.out.1) (by omega)
            obtain ⟨e, he⟩ : ∃ e, T[i]? = some e := ⟨T[i]'(by omega), List.getElem?_eq_getElem (by omega)⟩
            subst hB
            have a0 := hcB _ _ (flat4_at T i e 0 he (by omega))
            have a1 := hcB _ _ (flat4_at T i e 1 he (by omega))
            have a2 := hcB _ _ (flat4_at T i e 2 he (by omega))
            have a3 := hcB _ _ (flat4_at T i e 3 he (by omega))
            simp only [Nat.add_zero] at a0
            have HRW := Lib.hid (show K0 ++ (T.take (i + 1)).map (mkT n) = (K0 ++ (T.take i).map (mkT n)) ++ [mkT n e] by rw [map_take_snoc he, List.append_assoc])
            have HRM := Lib.hid (row5_mk n e)
            have hkl : (K0 ++ (T.take i).map (mkT n)).length ≤ 2000 := by rw [List.length_append, List.length_map, List.length_take]; have := HLen.out; omega
            have HKL := Lib.hid hkl
            clear hcB he hml hkl
            generalize K0 ++ (T.take i).map (mkT n) = K at *
            generalize mkT n e = me at *
            generalize e 0 = v0 at *
            generalize e 1 = v1 at *
            generalize e 2 = v2' at *
            generalize e 3 = v3 at *
            go_upto_region 17 with fail
            refine of_world (fun W6 hW => ?_)
            have k6 : Kept None' wr W6 := by rw [hW]; exact (Kept.refl _ _).alloc _ _
            have c0 : W6.cell? ⟨wr.heap.size, 0, none⟩ = some (.int .i64 v0) := by rw [hW]; exact cell_alloc_one wr _ _ 0
            have c1 : W6.cell? ⟨wr.heap.size, 1, none⟩ = some (.int .i64 v1) := by rw [hW]; exact cell_alloc_one wr _ _ 1
            have c2 : W6.cell? ⟨wr.heap.size, 2, none⟩ = some (.int .i64 v2') := by rw [hW]; exact cell_alloc_one wr _ _ 2
            have c3 : W6.cell? ⟨wr.heap.size, 3, none⟩ = some (.int .i64 v3) := by rw [hW]; exact cell_alloc_one wr _ _ 3
            have HS6 := Lib.hid (HS2.out.step k6)
            clear hW k6 a0 a1 a2 a3
            generalize wr.heap.size = Z at *
            obtain ⟨hi0, hz0, hz1, hz2⟩ := HI.out
            have hlen := HKL.out
            go_wp2_with (first
              | (at_builtin; refine wpList_append_kept _ (by rfl) _ _ _ (by rfl) w5.heap.size 62 i0 _ 5 40 Try.underlying54 hi0 hz0 hz1 hz2 rfl (by omega) v2 K.length (flat5 K) (by rfl)
                  (own_kept HS6.out.2 ((Kept.refl _ _).alloc _ _)) ⟨W6.heap.size, 0, none⟩ 1 1 [.int .i64 n, .int .i64 v0, .int .i64 v1, .int .i64 v2', .int .i64 v3] (by rfl) rfl (news_five (cell_alloc_one W6 _ _ 0) (cell_alloc_one W6 _ _ 1) (cell_alloc_one W6 _ _ 2) (cell_alloc_one W6 _ _ 3) (cell_alloc_one W6 _ _ 4)) (by simp [Value.oneCell']) (by omega) (by unfold maxLen; omega) (by omega) (by have := HS6.out.1.size; simp; omega) ?_
                 intro g4 cap4 w7 hown4 hk4 hat4
                 have HO := Lib.hid (And.intro hown4 hk4)
                 clear hown4 hk4 hat4)
              | fail)
            go_roundw
            case rel => exact ⟨i + 1, _, by omega, by go_num, rfl, by rw [HRW.out, List.length_append, flat5_snoc, HRM.out]; exact HS6.out.app ((Kept.refl _ _).alloc _ _) HO.out.2 HO.out.1⟩
            case measure => simp [intOf]; omega
          · obtain rfl : i = m := by omega
            have e2 : decide ((i : Int) < (i : Int)) = false := by simp
            have HEnd := Lib.hid (show K0 ++ (T.take i).map (mkT n) = tkAll T f (d + 1) by rw [HSU.out, List.take_of_length_le (by rw [HM.out]; omega)])
            go_wp2_with fail
            go_roundw
            case rel => exact ⟨d + 1, n + 1, _, hdD, by rw [HNF.out]; simp; omega, rfl, rfl, by rw [← HEnd.out]; exact HS2.out⟩
            case measure => simp [intOf]; omega
      · have e1 : decide (n ≤ l) = false := decide_eq_false hlt
        have hdD : d = D := by have := HND.out; omega
        subst hdD
        obtain ⟨A2, c2, rfl, r1, r2, hrd2⟩ := HS.out.slice
        have HQ1 := Lib.hid (((HRD.out.kept K15.out).kept HS.out.1))
        have HQ2 := Lib.hid (show Rd5 wr A2 (tkAll T f d) from hrd2)
        have hlen : (tkAll T f d).length ≤ 2000 := by rw [tkAll_len, HM.out]; exact HP.out
        clear hrd2
        go_wp2_with (go_at_call 25; refine (equal_tasks A1 A2 c1 c2 (tkAll T f d) _ (by omega) HQ1.out HQ2.out).mono ?_; rintro e w9 ⟨rfl, hk9⟩)
        go_ret
        exact ⟨rfl, (K0.out.trans K5.out).trans (HS.out.1.trans hk9)⟩

theorem walk_splitsMatch (x y W H s f l : Int) (w : World) (_ : (Lit.int .i64 x).wf = true) (_ : (Lit.int .i64 y).wf = true) (_ : (Lit.int .i64 W).wf = true) (_ : (Lit.int .i64 H).wf = true) (_ : (Lit.int .i64 s).wf = true) (_ : (Lit.int .i64 f).wf = true) (_ : (Lit.int .i64 l).wf = true) :
    Calls Try.prog 5 #[.agg #[.int .i64 x, .int .i64 y, .int .i64 W, .int .i64 H], .int .i64 s, .int .i64 f, .int .i64 l] w fun e w' => e = .returned (.bool true) ∧ Kept None' w w' := by
  by_cases h0 : spW x y W H s f l = 0
  · have hE : regE x y W H = 0 := Decidable.byContradiction fun h => h (by unfold spW at h0; rw [if_pos h] at h0; exact h0)
    have hz := h0
    unfold spW at hz
    rw [if_neg (by simp [hE])] at hz
    have h1 : spB s = 0 := Decidable.byContradiction fun h => h (by rw [if_pos h] at hz; exact hz)
    rw [if_neg (by simp [h1])] at hz
    have h2 : spR f l = 0 := Decidable.byContradiction fun h => h (by rw [if_pos h] at hz; exact hz)
    rw [if_neg (by simp [h2])] at hz
    have a1 : 1 ≤ s ∧ s ≤ 256 := by
      unfold spB at h1
      cases hb : inB s 1 256 with
      | false => rw [hb] at h1; exact absurd h1 (by decide)
      | true => unfold inB at hb; simp at hb; omega
    have a2 : 0 ≤ f ∧ f ≤ 16777216 ∧ 0 ≤ l ∧ l ≤ 16777216 := by
      unfold spR at h2
      cases hb : (!inB f 0 16777216 || !inB l 0 16777216) with
      | true => rw [hb] at h2; exact absurd h2 (by decide)
      | false => unfold inB at hb; simp at hb; omega
    have a3 : f ≤ l := by
      unfold spO at hz
      by_cases h : l < f
      · rw [if_pos (by simpa using h)] at hz; exact absurd hz (by decide)
      · omega
    by_cases hbig : 2000 < ((tiles x y W H s).length : Int) * (l - f + 1)
    · exact sm_large x y W H s f l w hE a1.1 a1.2 a2.1 a2.2.1 a2.2.2.1 a2.2.2.2 a3 hbig
    · exact sm_ok x y W H s f l w hE a1.1 a1.2 a2.1 a2.2.1 a2.2.2.1 a2.2.2.2 a3 (l - f + 1).toNat (by omega) hbig
  · exact sm_err x y W H s f l w _ rfl h0
end Go.Proofs.Ytflmfjimemhooaa
