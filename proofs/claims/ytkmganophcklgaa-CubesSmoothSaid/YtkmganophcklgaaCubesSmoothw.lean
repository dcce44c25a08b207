/- The walk of CubesSmooth. Conditions: none. -/
import Derived.Test.YtkmganophcklgaaC7
import Derived.Test.YtkmganophcklgaaRo
namespace Go.Proofs.Ytkmganophcklgaa
open Go.RowKit
open Fl Fr
open BigFrame

set_option linter.unusedSimpArgs false in
set_option linter.unusedVariables false in
set_option maxHeartbeats 4000000 in
set_option maxRecDepth 100000 in
theorem cs_err (S : Int) (lo hi : Nat) (A : Option Addr) (n cap : Nat) (times : Int) (w : World) (E1 E : Int) (hn : n ≤ 9223372036854775807) (hE1 : cuE S lo hi n = E1) (hE : (if E1 ≠ 0 then E1 else (if (!inB times 0 8) = true then 3 else 0)) = E) (h0 : ¬ E = 0)
    (hSm : ∀ w, Calls Try.prog 11 #[.agg #[.int .i64 S, .float .f32 lo, .float .f32 hi, .slice A n cap], .int .i64 times] w (CuErr E w)) :
    Calls Try.prog 3 #[.agg #[.int .i64 S, .float .f32 lo, .float .f32 hi, .slice A n cap], .int .i64 times] w fun e w' => e = .returned (.bool true) ∧ Kept None' w w' := by
  have hb : (E != 0) = true := by simp [h0]
  have HS := Lib.hid hSm
  have HE1 := Lib.hid hE1
  have HE := Lib.hid hE
  clear hE1 hE hSm
  go_enter Try.func3, Try.ntmps3
  go_upto_region 2 with (first
    | (go_at_call 11; refine (HS.out _).mono ?_; rintro e w1 ⟨rfl, hk⟩; unfold zeroCube))
  refine of_world (fun W2 hW => ?_)
  have k1 := ((Kept.refl None' w).alloc _ _).trans hk
  have k2 : Kept None' w1 W2 := by rw [hW]; exact (Kept.refl _ _).alloc _ _
  have t0 : W2.cell? ⟨w.heap.size, 0, none⟩ = some (.int .i64 S) := k2.some (hk.some (by go_simp) id) id
  have t1 : W2.cell? ⟨w.heap.size, 1, none⟩ = some (.float .f32 lo) := k2.some (hk.some (by go_simp) id) id
  have t2 : W2.cell? ⟨w.heap.size, 2, none⟩ = some (.float .f32 hi) := k2.some (hk.some (by go_simp) id) id
  have t3 : W2.cell? ⟨w.heap.size, 3, none⟩ = some (.slice A n cap) := k2.some (hk.some (by go_simp) id) id
  have d0 : W2.cell? ⟨w1.heap.size, 0, none⟩ = some (.int .i64 0) := by rw [hW]; go_simp
  have d1 : W2.cell? ⟨w1.heap.size, 1, none⟩ = some (.float .f32 0) := by rw [hW]; go_simp
  have d2 : W2.cell? ⟨w1.heap.size, 2, none⟩ = some (.float .f32 0) := by rw [hW]; go_simp
  have d3 : W2.cell? ⟨w1.heap.size, 3, none⟩ = some (.slice none 0 0) := by rw [hW]; go_simp
  have K2 := Lib.hid (k1.trans k2)
  have HD := Lib.hid (And.intro d0 (And.intro d1 (And.intro d2 d3)))
  clear hW hk k1 k2 d0 d1 d2 d3
  go_upto_region 3 with (first
    | (go_at_call 13; refine (cubeerror_any _ _ _ _ _ _ _ hn).mono ?_; rw [HE1.out]; rintro e w3 ⟨rfl, hk⟩; have K3 := Lib.hid (K2.out.trans hk); have HD3 := Lib.hid hk; clear hk)
    | (go_at_call 15; refine (in_one _ _ _ _).mono ?_; rintro e w' ⟨rfl, rfl⟩)
    | (go_at_call 14; refine (when_any _ _ _).mono ?_; rintro e w' ⟨rfl, rfl⟩)
    | (go_at_call 12; refine (first2_any _ _ E1 (if (!inB times 0 8) = true then 3 else 0) _ (by go_simp) (by go_simp)).mono ?_; rw [HE.out]; rintro e w' ⟨rfl, rfl⟩))
  refine of_world (fun W4 hW => ?_)
  have k4 : Kept None' w3 W4 := by rw [hW]; exact (Kept.refl _ _).alloc _ _
  have kk := HD3.out.trans k4
  have K4 := Lib.hid (K3.out.trans k4)
  have KK := Lib.hid kk
  clear hW k4 kk t0 t1 t2 t3
  go_upto_region 4 with (first
    | (go_at_call 16; refine (cubes_any _).mono ?_; rintro e w5 ⟨rfl, hk⟩; have K5 := Lib.hid hk; clear hk))
  go_wp2_with (first
    | (go_at_call 16; refine (cubes_any _).mono ?_; rintro e w6 ⟨rfl, hk⟩; have kd := (KK.out.trans K5.out).trans hk; have d0 := kd.some HD.out.1 id; have d1 := kd.some HD.out.2.1 id; have d2 := kd.some HD.out.2.2.1 id; have d3 := kd.some HD.out.2.2.2 id; have K6 := Lib.hid hk; clear hk kd)
    | (go_at_call 17; refine (nocube_zero _).mono ?_; rintro e w7 ⟨rfl, hk⟩; have K7 := Lib.hid hk; clear hk))
  all_goals
    go_ret
    exact ⟨rfl, ((K4.out.trans K5.out).trans K6.out).trans K7.out⟩

set_option linter.unusedSimpArgs false in
set_option linter.unusedVariables false in
set_option maxHeartbeats 8000000 in
set_option maxRecDepth 100000 in
theorem cs_ok (S : Nat) (lo hi b o n cap : Nat) (z : Nat → Nat) (times : Nat) (w : World) (hE : cuE S lo hi n = 0) (t8 : times ≤ 8) (hc : ∀ q, q < n → w.cell? ⟨b, o + q, none⟩ = some (.float .f32 (z q))) (hcap : n ≤ cap) :
    Calls Try.prog 3 #[.agg #[.int .i64 (S : Int), .float .f32 lo, .float .f32 hi, .slice (some ⟨b, o, none⟩) n cap], .int .i64 (times : Int)] w fun e w' => e = .returned (.bool true) ∧ Kept None' w w' := by
  obtain ⟨s, hs, s1, s2, hn, hn3, hn4⟩ := cuE_nat hE
  obtain rfl : S = s := by omega
  have hIn : inB (times : Int) 0 8 = true := inB_iff.2 (by omega)
  have HN3 := Lib.hid hn3
  have HE := Lib.hid hE
  have HC := Lib.hid hc
  have HN := Lib.hid hn
  have HS := Lib.hid (fun w (hc : ∀ q, q < n → w.cell? ⟨b, o + q, none⟩ = some (.float .f32 (z q))) => smoothed_ok S lo hi b o n cap z times w hE (by omega) (by omega) hc hcap)
  clear hE hc hn hn3 hs
  go_enter Try.func3, Try.ntmps3
  go_upto_region 2 with (first
    | (go_at_call 11; refine (HS.out _ (fun q hq => ((Kept.refl None' w).alloc _ _).some (HC.out q hq) id)).mono ?_; rw [Int.toNat_natCast, ← HN3.out]; rintro e w1 ⟨B, cap1, hB, rfl, hcp, hcp2, hk, hc⟩; have HX := Lib.hid (And.intro hB (And.intro hcp (And.intro hcp2 hc))); clear hB hcp hcp2 hc))
  refine of_world (fun W2 hW => ?_)
  have k1 := ((Kept.refl None' w).alloc _ _).trans hk
  have k2 : Kept None' w1 W2 := by rw [hW]; exact (Kept.refl _ _).alloc _ _
  have hB : CubB w.heap.size S lo hi b o n cap W2 := ⟨k2.some (hk.some (by go_simp) id) id, k2.some (hk.some (by go_simp) id) id, k2.some (hk.some (by go_simp) id) id, k2.some (hk.some (by go_simp) id) id⟩
  have hD : CubB w1.heap.size S lo hi B 0 n cap1 W2 := by rw [hW]; exact ⟨by go_simp, by go_simp, by go_simp, by go_simp⟩
  have hDc : ∀ q, q < n → W2.cell? ⟨B, 0 + q, none⟩ = some (.float .f32 (smG z S times q)) := fun q hq => by rw [Nat.zero_add]; exact k2.some (HX.out.2.2.2 q hq) id
  have hl : w.heap.size < w1.heap.size := by have := hk.size; simp at this; omega
  have K2 := Lib.hid (k1.trans k2)
  obtain ⟨t0, t1, t2, t3⟩ := hB
  have HB := Lib.hid (show CubB w.heap.size S lo hi b o n cap W2 from ⟨t0, t1, t2, t3⟩)
  have HD := Lib.hid (And.intro hD hDc)
  generalize w1.heap.size = D at *
  clear hW hk k1 k2 hD hDc
  go_upto_region 3 with (first
    | (go_at_call 13; refine (cubeerror_any _ _ _ _ _ _ _ (by omega)).mono ?_; rw [HE.out]; rintro e w3 ⟨rfl, hk⟩; have HD3 := Lib.hid hk; clear hk)
    | (go_at_call 15; refine (in_one _ _ _ _).mono ?_; rw [hIn]; rintro e w' ⟨rfl, rfl⟩)
    | (go_at_call 14; refine (when_any _ _ _).mono ?_; rintro e w' ⟨rfl, rfl⟩)
    | (go_at_call 12; refine (first2_any _ _ 0 0 _ (by go_simp) (by go_simp)).mono ?_; rintro e w' ⟨rfl, rfl⟩))
  refine of_world (fun W4 hW => ?_)
  have k4 : Kept None' w3 W4 := by rw [hW]; exact (Kept.refl _ _).alloc _ _
  have K4 := Lib.hid (HD3.out.trans k4)
  clear hW k4 t0 t1 t2 t3
  go_upto_region 5 with (first
    | (go_at_call 16; refine (cubes_any _).mono ?_; rintro e w5 ⟨rfl, hk⟩; have K5 := Lib.hid (K4.out.trans hk); clear hk))
  have hB := HB.out.step K5.out id
  have hg := csmooth1_gives S lo hi b o n cap w.heap.size z w5 HN.out s1 s2 hB (fun q hq => (K2.out.trans K5.out).some (HC.out q hq) id) hcap
  have HG := Lib.hid hg
  obtain ⟨t0, t1, t2, t3⟩ := hB
  clear hg
  go_upto_region 6 with (first
    | (go_at_call 18; refine (madeof_gen S lo hi 19 #[.pointer (some ⟨w.heap.size, 0, none⟩)] _ w5 s1 s2 Try.call19 HG.out).mono ?_; rw [← HN3.out]; rintro e w6 ⟨B2, cap2, hB2, rfl, hcp, hcp2, hk, hc⟩; have HX2 := Lib.hid (And.intro hB2 (And.intro hcp (And.intro hcp2 hc))); have K6 := Lib.hid hk; clear hB2 hcp hcp2 hk hc))
  refine of_world (fun W1 hW => ?_)
  obtain ⟨x1, x2, x3, x4⟩ := HX2.out
  have k3 : Kept None' w6 W1 := by rw [hW]; exact (Kept.refl _ _).alloc _ _
  have hS0 : SmS 0 W1 w6.heap.size S lo hi n (smG z S 0) W1 := by
    refine ⟨Kept.refl _ _, B2, cap2, ⟨by rw [hW]; go_simp, by rw [hW]; go_simp, by rw [hW]; go_simp, by rw [hW]; go_simp⟩, x2, x3, ⟨?_, by omega⟩, fun q hq => ?_⟩
    · have := cell_lt (x4 0 (by rw [HN3.out]; exact Nat.mul_pos (by omega) (Nat.mul_pos (by omega) (Nat.mul_pos (by omega) (by omega)))))
      intro e; rw [e] at this; exact Nat.lt_irrefl _ this
    · rw [Nat.zero_add]; exact k3.some (x4 q hq) id
  have zO : ∀ c, W1.frozen? ⟨w6.heap.size, c, none⟩ = false := fun c => by rw [hW]; exact (frozen?_alloc_cells _ _ _ _).trans (frozen_new _ _ (Nat.le_refl _))
  have hDO : ¬ D = w6.heap.size := by have := cell_lt (((HD.out.1.step K5.out id).step K6.out id).c0); intro e; simp only [e] at this; exact Nat.lt_irrefl _ this
  have hBO : ¬ B = w6.heap.size := by
    have := cell_lt (K6.out.some (K5.out.some (HD.out.2 0 (by rw [HN3.out]; exact Nat.mul_pos (by omega) (Nat.mul_pos (by omega) (Nat.mul_pos (by omega) (by omega))))) id) id)
    intro e; simp only [e] at this; exact Nat.lt_irrefl _ this
  have hwO : w.heap.size ≤ w6.heap.size := Nat.le_trans K2.out.size (Nat.le_trans K5.out.size K6.out.size)
  have hk1 := (K5.out.trans K6.out).trans k3
  have HD1 := Lib.hid (And.intro (HD.out.1.step hk1 id) (fun q hq => hk1.some (HD.out.2 q hq) id))
  have KW1 := Lib.hid (K2.out.trans hk1)
  generalize w6.heap.size = O at *
  have HS0 := Lib.hid hS0
  have HO := Lib.hid (And.intro zO (And.intro hDO (And.intro hBO hwO)))
  clear hW x1 x2 x3 x4 k3 hS0 zO hDO hBO hwO t0 t1 t2 t3 HX2 HG hk1 K6
  go_wp2_with fail
  go_loopw [48] (fun s48 wr => ∃ t : Nat, t ≤ times ∧ s48 = .int .i64 (t : Int) ∧ SmS 0 W1 O S lo hi n (smG z S t) wr) (fun s48 _ => (times - intOf s48).toNat)
  case atStart => exact ⟨0, by omega, rfl, HS0.out⟩
  case round =>
    obtain ⟨t, ht, rfl, hS⟩ := hrel
    obtain ⟨hk, B3, cap3, hB3, hcp, hcp2, hBO, hc⟩ := hS
    have HK := Lib.hid hk
    obtain ⟨o0, o1, o2, o3⟩ := hB3
    have HC2 := Lib.hid (And.intro hcp (And.intro hcp2 (And.intro hBO hc)))
    clear hk hcp hcp2 hBO hc
    by_cases hlt : t < times
    · have d3 : decide ((t : Int) < (times : Int)) = true := decide_eq_true (by omega)
      have lO : O < wr.heap.size := cell_lt o0
      have LO := Lib.hid lO
      have HCC := Lib.hid (And.intro o0 (And.intro o1 (And.intro o2 o3)))
      clear lO
      go_wp2_with (first
        | (go_at_call 21; refine (smoothedof_any S lo hi B3 0 n cap3 (smG z S t) wr HN.out s1 s2 HC2.out.2.2.2 HC2.out.1).mono ?_; rintro e w5 ⟨B', cap', hB', rfl, hcp, hcp2, hk, hc⟩; have c0 := hk.some HCC.out.1 id; have c1 := hk.some HCC.out.2.1 id; have c2 := hk.some HCC.out.2.2.1 id; have c3 := hk.some HCC.out.2.2.2 id; have kk := HK.out.trans (hk.mono (fun _ _ x => x.elim) : Kept (fun k => k = O) wr w5); have z0 := (kk.frozen ⟨O, 0, none⟩).trans (HO.out.1 0); have z1 := (kk.frozen ⟨O, 1, none⟩).trans (HO.out.1 1); have z2 := (kk.frozen ⟨O, 2, none⟩).trans (HO.out.1 2); have z3 := (kk.frozen ⟨O, 3, none⟩).trans (HO.out.1 3); have HX := Lib.hid (And.intro hB' (And.intro hcp (And.intro hcp2 (And.intro hc kk)))); clear hB' hcp hcp2 hk hc kk))
      go_roundw
      case rel =>
        obtain ⟨x1, x2, x3, x4, kk⟩ := HX.out
        have lO := LO.out
        have nB : ¬ O = B' := by omega
        refine ⟨t + 1, by omega, by go_num, Kept.setCell (Kept.setCell (Kept.setCell (Kept.setCell kk (Or.inr rfl) _) (Or.inr rfl) _) (Or.inr rfl) _) (Or.inr rfl) _, B', cap', ?_, by rw [HN3.out]; exact x2, x3, ⟨fun e => nB e.symm, Nat.zero_le _⟩, fun q hq => ?_⟩
        · rw [HN3.out]; exact cubB_set c0 c1 c2 c3
        · rw [Nat.zero_add]
          exact cell_set_ne (cell_set_ne (cell_set_ne (cell_set_ne (x4 q (by rw [← HN3.out]; exact hq)) (Or.inl nB)) (Or.inl nB)) (Or.inl nB)) (Or.inl nB)
      case measure => simp [intOf]; omega
    · obtain rfl : t = times := by omega
      have d3 : decide ((t : Int) < (t : Int)) = false := by simp
      obtain ⟨e0, e1, e2, e3⟩ := HD1.out.1.step HK.out HO.out.2.1
      have KE := Lib.hid (kept_over KW1.out HK.out (fun i hi e => by have := HO.out.2.2.2; omega))
      go_wp2_with (first
        | (go_at_call 22; refine (samecube_same S lo hi B 0 B3 0 n _ _ (smG z S t) wr (by omega) (fun q hq => HK.out.some (HD1.out.2 q hq) HO.out.2.2.1) HC2.out.2.2.2).mono ?_; rintro e w7 ⟨rfl, hk7⟩))
      go_ret
      exact ⟨rfl, KE.out.trans hk7⟩

theorem walk_cubesSmooth (S : Int) (lo hi : Nat) (A : Option Addr) (n cap : Nat) (z : Nat → Nat) (times : Int) (w : World) (_ : (Lit.int .i64 S).wf = true) (hcap : n ≤ cap) (hcap2 : cap ≤ maxLen) (hr : Rd w A n (fun i => .float .f32 (z i))) (_ : ∀ i, (Lit.float .f32 (z i)).wf = true) (_ : (Lit.int .i64 times).wf = true) :
    Calls Try.prog 3 #[.agg #[.int .i64 S, .float .f32 lo, .float .f32 hi, .slice A n cap], .int .i64 times] w fun e w' => e = .returned (.bool true) ∧ Kept None' w w' := by
  have hn : n ≤ 9223372036854775807 := by unfold maxLen at hcap2; omega
  by_cases h1 : cuE S lo hi n = 0
  · cases hI : inB times 0 8 with
    | false =>
      exact cs_err S lo hi A n cap times w 0 3 hn h1 (by rw [hI]; rfl) (by omega) (fun w => smoothed_e2 S lo hi A n cap times w hn h1 hI)
    | true =>
      obtain ⟨t0, t8⟩ := inB_iff.1 hI
      obtain ⟨s, rfl, s1, s2, -, hn3, -⟩ := cuE_nat h1
      obtain ⟨t, rfl⟩ : ∃ t : Nat, times = t := ⟨times.toNat, by omega⟩
      obtain ⟨b, o, rfl, hc⟩ := hr (by rw [hn3]; exact Nat.mul_pos (by omega) (Nat.mul_pos (by omega) (Nat.mul_pos (by omega) (by omega))))
      exact cs_ok s lo hi b o n cap z t w h1 (by omega) hc hcap
  · exact cs_err S lo hi A n cap times w _ _ hn rfl (by rw [if_pos h1]) h1 (fun w => smoothed_e1 S lo hi A n cap times w _ hn rfl h1)
end Go.Proofs.Ytkmganophcklgaa
