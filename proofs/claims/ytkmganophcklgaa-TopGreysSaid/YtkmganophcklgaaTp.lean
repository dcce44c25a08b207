/- Contracts of cube.Entry. Conditions: none. -/
import Derived.Test.YtkmganophcklgaaTo
namespace Go.Proofs.Ytkmganophcklgaa
open Go.RowKit
open Fl Fr
open BigFrame

set_option linter.unusedSimpArgs false in
set_option linter.unusedVariables false in
set_option maxHeartbeats 4000000 in
set_option maxRecDepth 100000 in
theorem Entry_err (S : Int) (lo hi : Nat) (A : Option Addr) (n cap : Nat) (i j k : Int) (w : World) (E : Int) (hn : n ≤ 9223372036854775807) (hE : cuE S lo hi n = E) (h0 : ¬ E = 0) :
    Calls Try.prog 33 #[.agg #[.int .i64 S, .float .f32 lo, .float .f32 hi, .slice A n cap], .int .i64 i, .int .i64 j, .int .i64 k] w (ThE 0 0 0 E w) := by
  have hb : (E != 0) = true := by simp [h0]
  have HE := Lib.hid hE
  clear hE
  go_enter Try.func33, Try.ntmps33
  go_upto_region 3 with (first | (go_at_call 37; refine (checkcube_any _ _ _ _ _ _ _ hn).mono ?_; rw [HE.out]; rintro e w1 ⟨rfl, hk⟩))
  have r0 := hk.some (p := ⟨w.heap.size + 1, 0, none⟩) (v := .float .f32 0) (by go_simp) id
  have r1 := hk.some (p := ⟨w.heap.size + 1, 1, none⟩) (v := .float .f32 0) (by go_simp) id
  have r2 := hk.some (p := ⟨w.heap.size + 1, 2, none⟩) (v := .float .f32 0) (by go_simp) id
  have zz : ∀ c, w1.frozen? ⟨w.heap.size + 1, c, none⟩ = false := fun c => (hk.frozen _).trans ((frozen?_alloc_cells _ _ _ _).trans ((frozen?_alloc_cells _ _ _ _).trans (frozen_new _ _ (by simp))))
  have z0 := zz 0
  have z1 := zz 1
  have z2 := zz 2
  have K1 := Lib.hid ((((Kept.refl None' w).alloc _ _).alloc _ _).trans hk)
  clear hk zz
  go_wp2_with fail
  have cs := cells_set3 (v0 := .float .f32 0) (v1 := .float .f32 0) (v2 := .float .f32 0) r0 r1 r2
  refine bodyPost_ret (ar3_ret2 Try.results33 _ _ (w.heap.size + 1) _ _ _ cs rfl) rfl ?_
  exact ⟨rfl, kept_set3 K1.out (by omega)⟩

/-- The entry of a place, or the error of one that is out of the cube. -/
def EnPost (z : Nat → Nat) (S : Nat) (f : Nat → Int) (w : World) (e : Ending) (w' : World) : Prop :=
  ((∀ c, c < 3 → 0 ≤ f c ∧ f c < S) → ThE (entF z S (f 0) (f 1) (f 2) 0) (entF z S (f 0) (f 1) (f 2) 1) (entF z S (f 0) (f 1) (f 2) 2) 0 w e w') ∧ ((¬ ∀ c, c < 3 → 0 ≤ f c ∧ f c < S) → ThE 0 0 0 5 w e w')

set_option linter.unusedSimpArgs false in
set_option linter.unusedVariables false in
set_option maxHeartbeats 8000000 in
set_option maxRecDepth 100000 in
theorem Entry_in (S : Nat) (lo hi b o n cap : Nat) (z : Nat → Nat) (f : Nat → Int) (w : World) (hE : cuE S lo hi n = 0) (hc : ∀ q, q < n → w.cell? ⟨b, o + q, none⟩ = some (.float .f32 (z q))) (hcap : n ≤ cap) :
    Calls Try.prog 33 #[.agg #[.int .i64 (S : Int), .float .f32 lo, .float .f32 hi, .slice (some ⟨b, o, none⟩) n cap], .int .i64 (f 0), .int .i64 (f 1), .int .i64 (f 2)] w (EnPost z S f w) := by
  obtain ⟨s, hs, s1, s2, hn', hn3, hn4⟩ := cuE_nat hE
  obtain rfl : S = s := by omega
  have hn : n ≤ 9223372036854775807 := by omega
  have HI := Lib.hid (entry_E S lo hi b o n cap z w hn' (by omega) (by omega) hc hcap)
  have HE := Lib.hid hE
  clear hE hc hn' hn3 hs
  go_enter Try.func33, Try.ntmps33
  go_upto_region 4 with (first | (go_at_call 37; refine (checkcube_any _ _ _ _ _ _ _ hn).mono ?_; rw [HE.out]; rintro e w1 ⟨rfl, hk⟩))
  have k1 := (((Kept.refl None' w).alloc _ _).alloc _ _).trans hk
  have hB : CubB w.heap.size S lo hi b o n cap w1 := ⟨hk.some (by go_simp) id, hk.some (by go_simp) id, hk.some (by go_simp) id, hk.some (by go_simp) id⟩
  have r0 := hk.some (p := ⟨w.heap.size + 1, 0, none⟩) (v := .float .f32 0) (by go_simp) id
  have r1 := hk.some (p := ⟨w.heap.size + 1, 1, none⟩) (v := .float .f32 0) (by go_simp) id
  have r2 := hk.some (p := ⟨w.heap.size + 1, 2, none⟩) (v := .float .f32 0) (by go_simp) id
  have zz : ∀ c, w1.frozen? ⟨w.heap.size + 1, c, none⟩ = false := fun c => (hk.frozen _).trans ((frozen?_alloc_cells _ _ _ _).trans ((frozen?_alloc_cells _ _ _ _).trans (frozen_new _ _ (by simp))))
  have HR := Lib.hid (And.intro r0 (And.intro r1 (And.intro r2 zz)))
  have K1 := Lib.hid k1
  obtain ⟨t0, t1, t2, t3⟩ := hB
  clear hk zz r0 r1 r2 k1
  go_wp2_with fail
  go_loop [23] (fun s23 => ∃ k : Nat, k ≤ 3 ∧ s23 = .int .i64 (k : Int) ∧ ∀ c, c < k → 0 ≤ f c ∧ f c < S) (fun s23 => (3 - intOf s23).toNat)
  case atStart => exact ⟨0, by omega, rfl, fun c hc => by omega⟩
  case round =>
    obtain ⟨k, hk, rfl, hall⟩ := hrel
    have HA := Lib.hid hall
    clear hall
    by_cases hlt : k < 3
    · have d1 : decide ((k : Int) < 3) = true := decide_eq_true (by omega)
      have ix := int3_idx f k hlt
      obtain ⟨v, hv⟩ : ∃ v, f k = v := ⟨_, rfl⟩
      rw [hv] at ix
      have HV := Lib.hid hv
      clear hv
      cases q1 : decide (v < 0) with
      | true =>
        obtain ⟨r0, r1, r2, zz⟩ := HR.out
        have z0 := zz 0
        have z1 := zz 1
        have z2 := zz 2
        clear zz
        go_wp2_with fail
        have cs := cells_set3 (v0 := .float .f32 0) (v1 := .float .f32 0) (v2 := .float .f32 0) r0 r1 r2
        refine bodyPost_ret (ar3_ret2 Try.results33 _ _ (w.heap.size + 1) _ _ _ cs rfl) rfl ?_
        refine ⟨fun h => ?_, fun _ => ⟨rfl, kept_set3 K1.out (by omega)⟩⟩
        have := h k hlt
        rw [HV.out] at this
        have := of_decide_eq_true q1
        omega
      | false =>
        cases q2 : decide ((S : Int) ≤ v) with
        | true =>
          obtain ⟨r0, r1, r2, zz⟩ := HR.out
          have z0 := zz 0
          have z1 := zz 1
          have z2 := zz 2
          clear zz
          go_wp2_with fail
          have cs := cells_set3 (v0 := .float .f32 0) (v1 := .float .f32 0) (v2 := .float .f32 0) r0 r1 r2
          refine bodyPost_ret (ar3_ret2 Try.results33 _ _ (w.heap.size + 1) _ _ _ cs rfl) rfl ?_
          refine ⟨fun h => ?_, fun _ => ⟨rfl, kept_set3 K1.out (by omega)⟩⟩
          have := h k hlt
          rw [HV.out] at this
          have := of_decide_eq_true q2
          omega
        | false =>
          go_wp2_with fail
          go_round
          case rel =>
            refine ⟨k + 1, by omega, by go_num, fun c hc => ?_⟩
            by_cases e : c = k
            · have := of_decide_eq_false q1
              have := of_decide_eq_false q2
              rw [e, HV.out]; omega
            · exact HA.out c (by omega)
          case measure => simp [intOf]; omega
    · obtain rfl : k = 3 := by omega
      have d1 : decide (((3 : Nat) : Int) < 3) = false := by decide
      have i0 := HA.out 0 (by omega)
      have i1 := HA.out 1 (by omega)
      have i2 := HA.out 2 (by omega)
      have hC := HI.out (f 0) (f 1) (f 2) w1 K1.out i0.1 i0.2 i1.1 i1.2 i2.1 i2.2
      have HC := Lib.hid hC
      clear hC i0 i1 i2
      go_wp2_with (first
        | (go_at_call 71; refine HC.out.mono ?_; rintro e w2 ⟨rfl, hk2⟩; have K2 := Lib.hid hk2; clear hk2)
        | (go_at_call 81; refine (cleaned_any _ _ _ _).mono ?_; rintro e w3 ⟨rfl, hk3⟩; have kk := K2.out.trans hk3; have r0 := kk.some HR.out.1 id; have r1 := kk.some HR.out.2.1 id; have r2 := kk.some HR.out.2.2.1 id; have z0 := (kk.frozen ⟨w.heap.size + 1, 0, none⟩).trans (HR.out.2.2.2 0); have z1 := (kk.frozen ⟨w.heap.size + 1, 1, none⟩).trans (HR.out.2.2.2 1); have z2 := (kk.frozen ⟨w.heap.size + 1, 2, none⟩).trans (HR.out.2.2.2 2); have K3 := Lib.hid kk; clear hk3 kk))
      have cs := cells_set3 (v0 := .float .f32 (cl .f32 (entE z S (f 0) (f 1) (f 2) 0))) (v1 := .float .f32 (cl .f32 (entE z S (f 0) (f 1) (f 2) 1))) (v2 := .float .f32 (cl .f32 (entE z S (f 0) (f 1) (f 2) 2))) r0 r1 r2
      refine bodyPost_ret (ar3_ret2 Try.results33 _ _ (w.heap.size + 1) _ _ _ cs rfl) rfl ?_
      exact ⟨fun _ => ⟨rfl, kept_set3 (K1.out.trans K3.out) (by omega)⟩, fun h => absurd HA.out h⟩
end Go.Proofs.Ytkmganophcklgaa
