/- The contract of cube.Smoothed. Conditions: none. -/
import Derived.Test.YtkmganophcklgaaC6
namespace Go.Proofs.Ytkmganophcklgaa
open Go.RowKit
open Fl Fr
open BigFrame

theorem cuE_ok {S : Int} {lo hi n : Nat} (h : cuE S lo hi n = 0) : 2 ≤ S ∧ S ≤ 17 ∧ (n : Int) = 3 * S * S * S := by
  unfold cuE at h
  cases h1 : inB S 2 17
  · rw [if_pos h1] at h; omega
  · rw [if_neg (by rw [h1]; decide)] at h
    cases h2 : ((n : Int) == 3 * S * S * S)
    · rw [if_pos h2] at h; omega
    · obtain ⟨a, b⟩ := inB_iff.1 h1
      exact ⟨a, b, by simpa using h2⟩
theorem cuE_nat {S : Int} {lo hi n : Nat} (h : cuE S lo hi n = 0) : ∃ s : Nat, S = s ∧ 2 ≤ s ∧ s ≤ 17 ∧ (n : Int) = 3 * (s : Int) * s * s ∧ n = 3 * (s * (s * s)) ∧ n ≤ 14739 := by
  obtain ⟨a, b, c⟩ := cuE_ok h
  obtain ⟨s, rfl⟩ : ∃ s : Nat, S = s := ⟨S.toNat, by omega⟩
  have e : n = 3 * (s * (s * s)) := by have := cub_n (S := s); omega
  have := (cube_nat (S := s) (by omega)).2
  exact ⟨s, rfl, by omega, by omega, c, e, by omega⟩

set_option linter.unusedSimpArgs false in
set_option linter.unusedVariables false in
set_option maxHeartbeats 4000000 in
set_option maxRecDepth 100000 in
theorem smoothed_e1 (S : Int) (lo hi : Nat) (A : Option Addr) (n cap : Nat) (times : Int) (w : World) (E : Int) (hn : n ≤ 9223372036854775807) (hE : cuE S lo hi n = E) (h0 : ¬ E = 0) :
    Calls Try.prog 11 #[.agg #[.int .i64 S, .float .f32 lo, .float .f32 hi, .slice A n cap], .int .i64 times] w (CuErr E w) := by
  have hb : (E != 0) = true := by simp [h0]
  have HE := Lib.hid hE
  clear hE
  go_enter Try.func11, Try.ntmps11
  go_wp2_with (first
    | (go_at_call 37; refine (checkcube_any _ _ _ _ _ _ _ hn).mono ?_; rw [HE.out]; rintro e w1 ⟨rfl, hk⟩; have r0 := hk.some (p := ⟨w.heap.size + 1, 0, none⟩) (v := .int .i64 0) (by go_simp) id; have r1 := hk.some (p := ⟨w.heap.size + 1, 1, none⟩) (v := .float .f32 0) (by go_simp) id; have r2 := hk.some (p := ⟨w.heap.size + 1, 2, none⟩) (v := .float .f32 0) (by go_simp) id; have r3 := hk.some (p := ⟨w.heap.size + 1, 3, none⟩) (v := .slice none 0 0) (by go_simp) id; have z : ∀ c, w1.frozen? ⟨w.heap.size + 1, c, none⟩ = false := fun c => (hk.frozen _).trans ((frozen?_alloc_cells _ _ _ _).trans ((frozen?_alloc_cells _ _ _ _).trans (frozen_new _ _ (by simp)))); have z0 := z 0; have z1 := z 1; have z2 := z 2; have z3 := z 3; have K1 := Lib.hid ((((Kept.refl None' w).alloc _ _).alloc _ _).trans hk); clear hk z))
  have cs := cells_set4 (v0 := .int .i64 0) (v1 := .float .f32 0) (v2 := .float .f32 0) (v3 := .slice none 0 0) r0 r1 r2 r3
  refine bodyPost_ret (cu_ret2 Try.results11 _ _ (w.heap.size + 1) _ _ _ _ cs rfl) rfl ?_
  exact ⟨rfl, kept_set4' K1.out (by omega)⟩

set_option linter.unusedSimpArgs false in
set_option linter.unusedVariables false in
set_option maxHeartbeats 4000000 in
set_option maxRecDepth 100000 in
theorem smoothed_e2 (S : Int) (lo hi : Nat) (A : Option Addr) (n cap : Nat) (times : Int) (w : World) (hn : n ≤ 9223372036854775807) (hE : cuE S lo hi n = 0) (h : inB times 0 8 = false) :
    Calls Try.prog 11 #[.agg #[.int .i64 S, .float .f32 lo, .float .f32 hi, .slice A n cap], .int .i64 times] w (CuErr 3 w) := by
  have hS : times < 0 ∨ 8 < times := by unfold inB at h; simp at h; omega
  have HE := Lib.hid hE
  clear hE h
  cases d1 : decide (times < 0) with
  | _ =>
    have d2 : decide (times < 0) = false → decide (8 < times) = true := fun h => by simp at h ⊢; omega
    try have d3 := d2 d1
    clear d2 hS
    go_enter Try.func11, Try.ntmps11
    go_wp2_with (first
      | (go_at_call 37; refine (checkcube_any _ _ _ _ _ _ _ hn).mono ?_; rw [HE.out]; rintro e w1 ⟨rfl, hk⟩; have r0 := hk.some (p := ⟨w.heap.size + 1, 0, none⟩) (v := .int .i64 0) (by go_simp) id; have r1 := hk.some (p := ⟨w.heap.size + 1, 1, none⟩) (v := .float .f32 0) (by go_simp) id; have r2 := hk.some (p := ⟨w.heap.size + 1, 2, none⟩) (v := .float .f32 0) (by go_simp) id; have r3 := hk.some (p := ⟨w.heap.size + 1, 3, none⟩) (v := .slice none 0 0) (by go_simp) id; have z : ∀ c, w1.frozen? ⟨w.heap.size + 1, c, none⟩ = false := fun c => (hk.frozen _).trans ((frozen?_alloc_cells _ _ _ _).trans ((frozen?_alloc_cells _ _ _ _).trans (frozen_new _ _ (by simp)))); have z0 := z 0; have z1 := z 1; have z2 := z 2; have z3 := z 3; have K1 := Lib.hid ((((Kept.refl None' w).alloc _ _).alloc _ _).trans hk); clear hk z))
    have cs := cells_set4 (v0 := .int .i64 0) (v1 := .float .f32 0) (v2 := .float .f32 0) (v3 := .slice none 0 0) r0 r1 r2 r3
    refine bodyPost_ret (cu_ret2 Try.results11 _ _ (w.heap.size + 1) _ _ _ _ cs rfl) rfl ?_
    exact ⟨rfl, kept_set4' K1.out (by omega)⟩

/-- The cube in the box O: smoothed t times. -/
structure SmS (L : Nat) (W1 : World) (O : Nat) (S : Int) (lo hi n : Nat) (G : Nat → Nat) (wr : World) : Prop where
  kept : Kept (fun k => k = O) W1 wr
  box : ∃ B cap, CubB O S lo hi B 0 n cap wr ∧ n ≤ cap ∧ cap ≤ maxLen ∧ (¬ B = O ∧ L ≤ B) ∧ ∀ q, q < n → wr.cell? ⟨B, 0 + q, none⟩ = some (.float .f32 (G q))
theorem cubB_set {O : Nat} {S : Int} {lo hi b o n cap : Nat} {W : World} {u0 u1 u2 u3 : Value} (r0 : W.cell? ⟨O, 0, none⟩ = some u0) (r1 : W.cell? ⟨O, 1, none⟩ = some u1) (r2 : W.cell? ⟨O, 2, none⟩ = some u2) (r3 : W.cell? ⟨O, 3, none⟩ = some u3) :
    CubB O S lo hi b o n cap ((((W.setCell ⟨O, 0, none⟩ (.int .i64 S)).setCell ⟨O, 1, none⟩ (.float .f32 lo)).setCell ⟨O, 2, none⟩ (.float .f32 hi)).setCell ⟨O, 3, none⟩ (.slice (some ⟨b, o, none⟩) n cap)) := by
  have cs := cells_set4 (v0 := .int .i64 S) (v1 := .float .f32 lo) (v2 := .float .f32 hi) (v3 := .slice (some ⟨b, o, none⟩) n cap) r0 r1 r2 r3
  exact ⟨cs.1, cs.2.1, cs.2.2.1, cs.2.2.2⟩

set_option linter.unusedSimpArgs false in
set_option linter.unusedVariables false in
set_option maxHeartbeats 8000000 in
set_option maxRecDepth 100000 in
theorem smoothed_ok (S : Nat) (lo hi b o n cap : Nat) (z : Nat → Nat) (times : Int) (w : World) (hE : cuE S lo hi n = 0) (t0 : 0 ≤ times) (t8 : times ≤ 8) (hc : ∀ q, q < n → w.cell? ⟨b, o + q, none⟩ = some (.float .f32 (z q))) (hcap : n ≤ cap) :
    Calls Try.prog 11 #[.agg #[.int .i64 S, .float .f32 lo, .float .f32 hi, .slice (some ⟨b, o, none⟩) n cap], .int .i64 times] w (CuPost S lo hi (3 * (S * (S * S))) (smG z S times.toNat) w) := by
  obtain ⟨s, hs, s1, s2, hn, hn3, hn4⟩ := cuE_nat hE
  obtain rfl : S = s := by omega
  obtain ⟨times, rfl⟩ : ∃ t : Nat, times = t := ⟨times.toNat, by omega⟩
  rw [Int.toNat_natCast]
  rw [← hn3]
  have HN3 := Lib.hid hn3
  clear hs hn3
  have d1 : decide ((times : Int) < 0) = false := decide_eq_false (by omega)
  have d2 : decide (8 < (times : Int)) = false := decide_eq_false (by omega)
  have HE := Lib.hid hE
  have HC := Lib.hid hc
  have HN := Lib.hid hn
  clear hE hc hn
  go_enter Try.func11, Try.ntmps11
  go_upto_region 6 with (first
    | (go_at_call 37; refine (checkcube_any _ _ _ _ _ _ _ (by omega)).mono ?_; rw [HE.out]; rintro e w1 ⟨rfl, hk⟩))
  have k1 := ((((Kept.refl None' w).alloc _ _).alloc _ _).trans hk)
  have hB : CubB w.heap.size S lo hi b o n cap w1 := ⟨hk.some (by go_simp) id, hk.some (by go_simp) id, hk.some (by go_simp) id, hk.some (by go_simp) id⟩
  have r0 := hk.some (p := ⟨w.heap.size + 1, 0, none⟩) (v := .int .i64 0) (by go_simp) id
  have r1 := hk.some (p := ⟨w.heap.size + 1, 1, none⟩) (v := .float .f32 0) (by go_simp) id
  have r2 := hk.some (p := ⟨w.heap.size + 1, 2, none⟩) (v := .float .f32 0) (by go_simp) id
  have r3 := hk.some (p := ⟨w.heap.size + 1, 3, none⟩) (v := .slice none 0 0) (by go_simp) id
  have zz : ∀ a : Addr, w.heap.size ≤ a.block → w1.frozen? a = false := fun a ha => (hk.frozen _).trans ((frozen?_alloc_cells _ _ _ _).trans ((frozen?_alloc_cells _ _ _ _).trans (frozen_new _ _ ha)))
  have hsz : w.heap.size + 2 ≤ w1.heap.size := by have := hk.size; simpa using this
  clear hk
  have hg := smoothed1_gives S lo hi b o n cap w.heap.size z w1 HN.out s1 s2 hB (fun q hq => k1.some (HC.out q hq) id) hcap
  have HG := Lib.hid hg
  have HB := Lib.hid hB
  have HR := Lib.hid (And.intro r0 (And.intro r1 (And.intro r2 r3)))
  have Z0 := Lib.hid zz
  have K0 := Lib.hid k1
  have HZ := Lib.hid hsz
  obtain ⟨t0, t1, t2, t3⟩ := hB
  clear hg r0 r1 r2 r3 zz k1 hsz
  generalize hT : w.heap.size = T at *
  have HT := Lib.hid hT
  clear hT
  go_upto_region 7 with (first
    | (go_at_call 69; refine (cmade_gen S lo hi 70 #[.pointer (some ⟨T, 0, none⟩)] _ w1 s1 s2 Try.call70 HG.out).mono ?_; rintro e w2 ⟨B, cap', hB', rfl, hcp, hcp2, hk, hc⟩; have HX := Lib.hid (And.intro hB' (And.intro hcp (And.intro hcp2 hc))); have K2 := Lib.hid hk; clear hB' hcp hcp2 hk hc))
  refine of_world (fun W1 hW => ?_)
  have HN3' := HN3.out
  rw [← HN3'] at hW
  obtain ⟨x1, x2, x3, x4⟩ := HX.out
  have k3 : Kept None' w2 W1 := by rw [hW]; exact (Kept.refl _ _).alloc _ _
  have hS0 : SmS (T + 2) W1 w2.heap.size S lo hi n (smG z S 0) W1 := by
    refine ⟨Kept.refl _ _, B, cap', ⟨by rw [hW]; go_simp, by rw [hW]; go_simp, by rw [hW]; go_simp, by rw [hW]; go_simp⟩, by omega, x3, ⟨?_, by have := HZ.out; omega⟩, fun q hq => ?_⟩
    · have := cell_lt (x4 0 (by rw [← HN3']; have : 0 < 3 * (S * (S * S)) := Nat.mul_pos (by omega) (Nat.mul_pos (by omega) (Nat.mul_pos (by omega) (by omega))); omega))
      intro e; rw [e] at this; exact Nat.lt_irrefl _ this
    · rw [Nat.zero_add]; exact k3.some (x4 q (by omega)) id
  have zO : ∀ c, W1.frozen? ⟨w2.heap.size, c, none⟩ = false := fun c => by rw [hW]; exact (frozen?_alloc_cells _ _ _ _).trans (frozen_new _ _ (Nat.le_refl _))
  have hTO : T + 1 < w2.heap.size := by have := HZ.out; have := K2.out.size; omega
  have HK1 := Lib.hid (K2.out.trans k3)
  generalize w2.heap.size = O at *
  have HS0 := Lib.hid hS0
  have HO := Lib.hid (And.intro zO hTO)
  clear hW HN3' x1 x2 x3 x4 k3 hS0 zO hTO t0 t1 t2 t3 HX HG
  clear K2
  go_wp2_with fail
  go_loopw [31] (fun s31 wr => ∃ t : Nat, t ≤ times ∧ s31 = .int .i64 (t : Int) ∧ SmS (T + 2) W1 O S lo hi n (smG z S t) wr) (fun s31 _ => (times - intOf s31).toNat)
  case atStart => exact ⟨0, by omega, rfl, HS0.out⟩
  case round =>
    obtain ⟨t, ht, rfl, hS⟩ := hrel
    obtain ⟨hk, B, cap, hB, hcp, hcp2, hBO, hc⟩ := hS
    have HK := Lib.hid hk
    obtain ⟨o0, o1, o2, o3⟩ := hB
    have HC2 := Lib.hid (And.intro hcp (And.intro hcp2 (And.intro hBO hc)))
    clear hk hcp hcp2 hBO hc
    by_cases hlt : t < times
    · have d3 : decide ((t : Int) < (times : Int)) = true := decide_eq_true (by omega)
      go_upto_region 10 with (fail)
      refine of_world (fun W3 hW => ?_)
      have k3 : Kept None' wr W3 := by rw [hW]; exact (Kept.refl _ _).alloc _ _
      have hQ : CubB wr.heap.size S lo hi B 0 n cap W3 := by rw [hW]; exact ⟨by go_simp, by go_simp, by go_simp, by go_simp⟩
      have hg := smoothed2_gives S lo hi B 0 n cap wr.heap.size (smG z S t) W3 HN.out s1 s2 hQ (fun q hq => k3.some (HC2.out.2.2.2 q hq) id) HC2.out.1
      have lO : O < W3.heap.size := Nat.lt_of_lt_of_le (cell_lt o0) k3.size
      have c0 := k3.some o0 id
      have c1 := k3.some o1 id
      have c2 := k3.some o2 id
      have c3 := k3.some o3 id
      obtain ⟨t0, t1, t2, t3⟩ := ((HB.out.step HK1.out id).step HK.out (by have := HO.out.2; omega)).step k3 id
      have K3 := Lib.hid (And.intro k3 lO)
      generalize wr.heap.size = Q at *
      have HG := Lib.hid hg
      have HCC := Lib.hid (And.intro c0 (And.intro c1 (And.intro c2 c3)))
      clear hW k3 hQ hg lO o0 o1 o2 o3 c0 c1 c2 c3
      go_wp2_with (first
        | (go_at_call 69; refine (cmade_gen S lo hi 72 #[.pointer (some ⟨Q, 0, none⟩)] _ W3 s1 s2 Try.call72 HG.out).mono ?_; rintro e w5 ⟨B', cap', hB', rfl, hcp, hcp2, hk, hc⟩; have c0 := hk.some HCC.out.1 id; have c1 := hk.some HCC.out.2.1 id; have c2 := hk.some HCC.out.2.2.1 id; have c3 := hk.some HCC.out.2.2.2 id; have kk := HK.out.trans ((K3.out.1.trans hk).mono (fun _ _ x => x.elim) : Kept (fun k => k = O) wr w5); have z0 := (kk.frozen ⟨O, 0, none⟩).trans (HO.out.1 0); have z1 := (kk.frozen ⟨O, 1, none⟩).trans (HO.out.1 1); have z2 := (kk.frozen ⟨O, 2, none⟩).trans (HO.out.1 2); have z3 := (kk.frozen ⟨O, 3, none⟩).trans (HO.out.1 3); have HX := Lib.hid (And.intro hB' (And.intro hcp (And.intro hcp2 (And.intro hc kk)))); clear hB' hcp hcp2 hk hc kk))
      go_roundw
      case rel =>
        obtain ⟨x1, x2, x3, x4, kk⟩ := HX.out
        have lO := K3.out.2
        have nB : ¬ O = B' := by omega
        refine ⟨t + 1, by omega, by go_num, Kept.setCell (Kept.setCell (Kept.setCell (Kept.setCell kk (Or.inr rfl) _) (Or.inr rfl) _) (Or.inr rfl) _) (Or.inr rfl) _, B', cap', ?_, by rw [HN3.out]; exact x2, x3, ⟨fun e => nB e.symm, by have := HO.out.2; omega⟩, fun q hq => ?_⟩
        · rw [HN3.out]; exact cubB_set c0 c1 c2 c3
        · rw [Nat.zero_add]
          exact cell_set_ne (cell_set_ne (cell_set_ne (cell_set_ne (x4 q (by rw [← HN3.out]; exact hq)) (Or.inl nB)) (Or.inl nB)) (Or.inl nB)) (Or.inl nB)
      case measure => simp [intOf]; omega
    · obtain rfl : t = times := by omega
      have d3 : decide ((t : Int) < (t : Int)) = false := by simp
      have r0 := HK.out.some (HK1.out.some HR.out.1 id) (by have := HO.out.2; show ¬ T + 1 = O; omega)
      have r1 := HK.out.some (HK1.out.some HR.out.2.1 id) (by have := HO.out.2; show ¬ T + 1 = O; omega)
      have r2 := HK.out.some (HK1.out.some HR.out.2.2.1 id) (by have := HO.out.2; show ¬ T + 1 = O; omega)
      have r3 := HK.out.some (HK1.out.some HR.out.2.2.2 id) (by have := HO.out.2; show ¬ T + 1 = O; omega)
      have zz : ∀ c, wr.frozen? ⟨T + 1, c, none⟩ = false := fun c => (HK.out.frozen _).trans ((HK1.out.frozen _).trans (Z0.out _ (by show T ≤ T + 1; omega)))
      have z0 := zz 0
      have z1 := zz 1
      have z2 := zz 2
      have z3 := zz 3
      clear zz
      go_wp2_with fail
      have cs := cells_set4 (v0 := .int .i64 S) (v1 := .float .f32 lo) (v2 := .float .f32 hi) (v3 := .slice (some ⟨B, 0, none⟩) n cap) r0 r1 r2 r3
      refine bodyPost_ret (cu_ret2 Try.results11 _ _ (T + 1) _ _ _ _ cs rfl) rfl ?_
      obtain ⟨hcp, hcp2, ⟨hBO, hTB⟩, hc⟩ := HC2.out
      have KE := kept_over (K0.out.trans HK1.out) HK.out (fun i hi e => by have := HO.out.2; have := HT.out; omega)
      refine ⟨B, cap, by rw [HT.out]; omega, rfl, hcp, hcp2, kept_set4' KE (by rw [HT.out]; omega), fun j hj => ?_⟩
      have nB : ¬ T + 1 = B := by omega
      have := hc j hj
      rw [Nat.zero_add] at this
      exact cell_set_ne (cell_set_ne (cell_set_ne (cell_set_ne this (Or.inl nB)) (Or.inl nB)) (Or.inl nB)) (Or.inl nB)
end Go.Proofs.Ytkmganophcklgaa
