/- Contracts of cube.Entry, Tetra, Linear, Place and of sameThree. Conditions: none. -/
import Derived.Test.YtkmganophcklgaaTk
import Derived.Test.YtkmganophcklgaaC7
namespace Go.Proofs.Ytkmganophcklgaa
open Go.RowKit
open Fl Fr
open BigFrame

theorem ar3_ret2 {fn : Func} {t u : Tmp} (hr : fn.results = #[.cell t 36, .tmp u]) (W : World) (tmps : Array Value) (B : Nat) (v0 v1 v2 : Value) (h : W.cell? ⟨B, 0, none⟩ = some v0 ∧ W.cell? ⟨B, 1, none⟩ = some v1 ∧ W.cell? ⟨B, 2, none⟩ = some v2)
    (ht : tmps[t]?.getD undef = .pointer (some ⟨B, 0, none⟩)) : (results fn tmps).run Try.prog W = .ok (.tuple #[.agg #[v0, v1, v2], tmps[u]?.getD undef]) W := by
  obtain ⟨e0, e1, e2⟩ := h
  simp [results, hr, go_sem, ht, e0, e1, e2]
  try rfl
theorem px_ret2 {fn : Func} {t u : Tmp} (hr : fn.results = #[.cell t 56, .tmp u]) (W : World) (tmps : Array Value) (B : Nat) (v0 v1 v2 v3 : Value) (h : W.cell? ⟨B, 0, none⟩ = some v0 ∧ W.cell? ⟨B, 1, none⟩ = some v1 ∧ W.cell? ⟨B, 2, none⟩ = some v2 ∧ W.cell? ⟨B, 3, none⟩ = some v3)
    (ht : tmps[t]?.getD undef = .pointer (some ⟨B, 0, none⟩)) : (results fn tmps).run Try.prog W = .ok (.tuple #[.agg #[v0, v1, v2, v3], tmps[u]?.getD undef]) W := by
  obtain ⟨e0, e1, e2, e3⟩ := h
  simp [results, hr, go_sem, ht, e0, e1, e2, e3]
  try rfl
/-- Three singles and an error. -/
def ThE (v0 v1 v2 : Nat) (E : Int) (w : World) (e : Ending) (w' : World) : Prop := e = .returned (.tuple #[.agg #[.float .f32 v0, .float .f32 v1, .float .f32 v2], .int .i64 E]) ∧ Kept None' w w'
/-- A pixel and an error. -/
def PxE (r : Nat → Nat) (E : Int) (w : World) (e : Ending) (w' : World) : Prop := e = .returned (.tuple #[.agg #[.float .f32 (r 0), .float .f32 (r 1), .float .f32 (r 2), .float .f32 (r 3)], .int .i64 E]) ∧ Kept None' w w'

set_option linter.unusedSimpArgs false in
set_option linter.unusedVariables false in
set_option maxHeartbeats 4000000 in
set_option maxRecDepth 100000 in
theorem Tetra_err (S : Int) (lo hi : Nat) (A : Option Addr) (n cap : Nat) (p : Nat → Nat) (w : World) (E : Int) (hn : n ≤ 9223372036854775807) (hE : cuE S lo hi n = E) (h0 : ¬ E = 0) :
    Calls Try.prog 34 #[.agg #[.int .i64 S, .float .f32 lo, .float .f32 hi, .slice A n cap], .agg #[.float .f32 (p 0), .float .f32 (p 1), .float .f32 (p 2), .float .f32 (p 3)]] w (PxE (fun _ => 0) E w) := by
  have hb : (E != 0) = true := by simp [h0]
  have HE := Lib.hid hE
  clear hE
  go_enter Try.func34, Try.ntmps34
  go_upto_region 3 with (first | (go_at_call 37; refine (checkcube_any _ _ _ _ _ _ _ hn).mono ?_; rw [HE.out]; rintro e w1 ⟨rfl, hk⟩))
  have r0 := hk.some (p := ⟨w.heap.size + 1 + 1, 0, none⟩) (v := .float .f32 0) (by go_simp) id
  have r1 := hk.some (p := ⟨w.heap.size + 1 + 1, 1, none⟩) (v := .float .f32 0) (by go_simp) id
  have r2 := hk.some (p := ⟨w.heap.size + 1 + 1, 2, none⟩) (v := .float .f32 0) (by go_simp) id
  have r3 := hk.some (p := ⟨w.heap.size + 1 + 1, 3, none⟩) (v := .float .f32 0) (by go_simp) id
  have z : ∀ c, w1.frozen? ⟨w.heap.size + 1 + 1, c, none⟩ = false := fun c => (hk.frozen _).trans ((frozen?_alloc_cells _ _ _ _).trans ((frozen?_alloc_cells _ _ _ _).trans ((frozen?_alloc_cells _ _ _ _).trans (frozen_new _ _ (by simp; omega)))))
  have z0 := z 0
  have z1 := z 1
  have z2 := z 2
  have z3 := z 3
  have K1 := Lib.hid (((((Kept.refl None' w).alloc _ _).alloc _ _).alloc _ _).trans hk)
  clear hk z
  go_wp2_with fail
  have cs := cells_set4 (v0 := .float .f32 0) (v1 := .float .f32 0) (v2 := .float .f32 0) (v3 := .float .f32 0) r0 r1 r2 r3
  refine bodyPost_ret (px_ret2 Try.results34 _ _ (w.heap.size + 1 + 1) _ _ _ _ cs rfl) rfl ?_
  exact ⟨rfl, kept_set4' K1.out (by omega)⟩

set_option linter.unusedSimpArgs false in
set_option linter.unusedVariables false in
set_option maxHeartbeats 4000000 in
set_option maxRecDepth 100000 in
theorem Tetra_ok (S : Nat) (lo hi b o n cap : Nat) (z : Nat → Nat) (p : Nat → Nat) (w : World) (hE : cuE S lo hi n = 0) (hc : ∀ q, q < n → w.cell? ⟨b, o + q, none⟩ = some (.float .f32 (z q))) (hcap : n ≤ cap) :
    Calls Try.prog 34 #[.agg #[.int .i64 (S : Int), .float .f32 lo, .float .f32 hi, .slice (some ⟨b, o, none⟩) n cap], .agg #[.float .f32 (p 0), .float .f32 (p 1), .float .f32 (p 2), .float .f32 (p 3)]] w (PxE (teP (entE z S) S lo hi p) 0 w) := by
  obtain ⟨s, hs, s1, s2, hn', hn3, hn4⟩ := cuE_nat hE
  obtain rfl : S = s := by omega
  have hn : n ≤ 9223372036854775807 := by omega
  have HI := Lib.hid (fun (w' : World) (hk : Kept None' w w') => tetra_any S lo hi b o n cap (entE z S) p w' (by omega) (by omega) (fun x y u wr hk2 => entry_E S lo hi b o n cap z w hn' (by omega) (by omega) hc hcap x y u wr (hk.trans hk2)))
  have HE := Lib.hid hE
  clear hE hc hn' hn3 hs
  go_enter Try.func34, Try.ntmps34
  go_upto_region 4 with (first | (go_at_call 37; refine (checkcube_any _ _ _ _ _ _ _ hn).mono ?_; rw [HE.out]; rintro e w1 ⟨rfl, hk⟩))
  have k1 := ((((Kept.refl None' w).alloc _ _).alloc _ _).alloc _ _).trans hk
  obtain ⟨t0, t1, t2, t3⟩ : CubB w.heap.size S lo hi b o n cap w1 := ⟨hk.some (by go_simp) id, hk.some (by go_simp) id, hk.some (by go_simp) id, hk.some (by go_simp) id⟩
  have x0 := hk.some (p := ⟨w.heap.size + 1, 0, none⟩) (v := .float .f32 (p 0)) (by go_simp) id
  have x1 := hk.some (p := ⟨w.heap.size + 1, 1, none⟩) (v := .float .f32 (p 1)) (by go_simp) id
  have x2 := hk.some (p := ⟨w.heap.size + 1, 2, none⟩) (v := .float .f32 (p 2)) (by go_simp) id
  have x3 := hk.some (p := ⟨w.heap.size + 1, 3, none⟩) (v := .float .f32 (p 3)) (by go_simp) id
  have r0 := hk.some (p := ⟨w.heap.size + 1 + 1, 0, none⟩) (v := .float .f32 0) (by go_simp) id
  have r1 := hk.some (p := ⟨w.heap.size + 1 + 1, 1, none⟩) (v := .float .f32 0) (by go_simp) id
  have r2 := hk.some (p := ⟨w.heap.size + 1 + 1, 2, none⟩) (v := .float .f32 0) (by go_simp) id
  have r3 := hk.some (p := ⟨w.heap.size + 1 + 1, 3, none⟩) (v := .float .f32 0) (by go_simp) id
  have zz : ∀ c, w1.frozen? ⟨w.heap.size + 1 + 1, c, none⟩ = false := fun c => (hk.frozen _).trans ((frozen?_alloc_cells _ _ _ _).trans ((frozen?_alloc_cells _ _ _ _).trans ((frozen?_alloc_cells _ _ _ _).trans (frozen_new _ _ (by simp; omega)))))
  have HR := Lib.hid (And.intro r0 (And.intro r1 (And.intro r2 (And.intro r3 zz))))
  have K1 := Lib.hid k1
  clear hk zz r0 r1 r2 r3 k1
  go_wp2_with (first
    | (go_at_call 86; refine (HI.out _ K1.out).mono ?_; rintro e w2 ⟨rfl, hk⟩; have r0 := hk.some HR.out.1 id; have r1 := hk.some HR.out.2.1 id; have r2 := hk.some HR.out.2.2.1 id; have r3 := hk.some HR.out.2.2.2.1 id; have z0 := (hk.frozen ⟨w.heap.size + 1 + 1, 0, none⟩).trans (HR.out.2.2.2.2 0); have z1 := (hk.frozen ⟨w.heap.size + 1 + 1, 1, none⟩).trans (HR.out.2.2.2.2 1); have z2 := (hk.frozen ⟨w.heap.size + 1 + 1, 2, none⟩).trans (HR.out.2.2.2.2 2); have z3 := (hk.frozen ⟨w.heap.size + 1 + 1, 3, none⟩).trans (HR.out.2.2.2.2 3); have K2 := Lib.hid hk; clear hk))
  have cs := cells_set4 (v0 := .float .f32 (teP (entE z S) S lo hi p 0)) (v1 := .float .f32 (teP (entE z S) S lo hi p 1)) (v2 := .float .f32 (teP (entE z S) S lo hi p 2)) (v3 := .float .f32 (teP (entE z S) S lo hi p 3)) r0 r1 r2 r3
  refine bodyPost_ret (px_ret2 Try.results34 _ _ (w.heap.size + 1 + 1) _ _ _ _ cs rfl) rfl ?_
  exact ⟨rfl, kept_set4' (K1.out.trans K2.out) (by omega)⟩

set_option linter.unusedSimpArgs false in
set_option linter.unusedVariables false in
set_option maxHeartbeats 4000000 in
set_option maxRecDepth 100000 in
theorem Linear_err (S : Int) (lo hi : Nat) (A : Option Addr) (n cap : Nat) (p : Nat → Nat) (w : World) (E : Int) (hn : n ≤ 9223372036854775807) (hE : cuE S lo hi n = E) (h0 : ¬ E = 0) :
    Calls Try.prog 35 #[.agg #[.int .i64 S, .float .f32 lo, .float .f32 hi, .slice A n cap], .agg #[.float .f32 (p 0), .float .f32 (p 1), .float .f32 (p 2), .float .f32 (p 3)]] w (PxE (fun _ => 0) E w) := by
  have hb : (E != 0) = true := by simp [h0]
  have HE := Lib.hid hE
  clear hE
  go_enter Try.func35, Try.ntmps35
  go_upto_region 3 with (first | (go_at_call 37; refine (checkcube_any _ _ _ _ _ _ _ hn).mono ?_; rw [HE.out]; rintro e w1 ⟨rfl, hk⟩))
  have r0 := hk.some (p := ⟨w.heap.size + 1 + 1, 0, none⟩) (v := .float .f32 0) (by go_simp) id
  have r1 := hk.some (p := ⟨w.heap.size + 1 + 1, 1, none⟩) (v := .float .f32 0) (by go_simp) id
  have r2 := hk.some (p := ⟨w.heap.size + 1 + 1, 2, none⟩) (v := .float .f32 0) (by go_simp) id
  have r3 := hk.some (p := ⟨w.heap.size + 1 + 1, 3, none⟩) (v := .float .f32 0) (by go_simp) id
  have z : ∀ c, w1.frozen? ⟨w.heap.size + 1 + 1, c, none⟩ = false := fun c => (hk.frozen _).trans ((frozen?_alloc_cells _ _ _ _).trans ((frozen?_alloc_cells _ _ _ _).trans ((frozen?_alloc_cells _ _ _ _).trans (frozen_new _ _ (by simp; omega)))))
  have z0 := z 0
  have z1 := z 1
  have z2 := z 2
  have z3 := z 3
  have K1 := Lib.hid (((((Kept.refl None' w).alloc _ _).alloc _ _).alloc _ _).trans hk)
  clear hk z
  go_wp2_with fail
  have cs := cells_set4 (v0 := .float .f32 0) (v1 := .float .f32 0) (v2 := .float .f32 0) (v3 := .float .f32 0) r0 r1 r2 r3
  refine bodyPost_ret (px_ret2 Try.results35 _ _ (w.heap.size + 1 + 1) _ _ _ _ cs rfl) rfl ?_
  exact ⟨rfl, kept_set4' K1.out (by omega)⟩

set_option linter.unusedSimpArgs false in
set_option linter.unusedVariables false in
set_option maxHeartbeats 4000000 in
set_option maxRecDepth 100000 in
theorem Linear_ok (S : Nat) (lo hi b o n cap : Nat) (z : Nat → Nat) (p : Nat → Nat) (w : World) (hE : cuE S lo hi n = 0) (hc : ∀ q, q < n → w.cell? ⟨b, o + q, none⟩ = some (.float .f32 (z q))) (hcap : n ≤ cap) :
    Calls Try.prog 35 #[.agg #[.int .i64 (S : Int), .float .f32 lo, .float .f32 hi, .slice (some ⟨b, o, none⟩) n cap], .agg #[.float .f32 (p 0), .float .f32 (p 1), .float .f32 (p 2), .float .f32 (p 3)]] w (PxE (liP (entE z S) S lo hi p) 0 w) := by
  obtain ⟨s, hs, s1, s2, hn', hn3, hn4⟩ := cuE_nat hE
  obtain rfl : S = s := by omega
  have hn : n ≤ 9223372036854775807 := by omega
  have HI := Lib.hid (fun (w' : World) (hk : Kept None' w w') => linear_any S lo hi b o n cap (entE z S) p w' (by omega) (by omega) (fun x y u wr hk2 => entry_E S lo hi b o n cap z w hn' (by omega) (by omega) hc hcap x y u wr (hk.trans hk2)))
  have HE := Lib.hid hE
  clear hE hc hn' hn3 hs
  go_enter Try.func35, Try.ntmps35
  go_upto_region 4 with (first | (go_at_call 37; refine (checkcube_any _ _ _ _ _ _ _ hn).mono ?_; rw [HE.out]; rintro e w1 ⟨rfl, hk⟩))
  have k1 := ((((Kept.refl None' w).alloc _ _).alloc _ _).alloc _ _).trans hk
  obtain ⟨t0, t1, t2, t3⟩ : CubB w.heap.size S lo hi b o n cap w1 := ⟨hk.some (by go_simp) id, hk.some (by go_simp) id, hk.some (by go_simp) id, hk.some (by go_simp) id⟩
  have x0 := hk.some (p := ⟨w.heap.size + 1, 0, none⟩) (v := .float .f32 (p 0)) (by go_simp) id
  have x1 := hk.some (p := ⟨w.heap.size + 1, 1, none⟩) (v := .float .f32 (p 1)) (by go_simp) id
  have x2 := hk.some (p := ⟨w.heap.size + 1, 2, none⟩) (v := .float .f32 (p 2)) (by go_simp) id
  have x3 := hk.some (p := ⟨w.heap.size + 1, 3, none⟩) (v := .float .f32 (p 3)) (by go_simp) id
  have r0 := hk.some (p := ⟨w.heap.size + 1 + 1, 0, none⟩) (v := .float .f32 0) (by go_simp) id
  have r1 := hk.some (p := ⟨w.heap.size + 1 + 1, 1, none⟩) (v := .float .f32 0) (by go_simp) id
  have r2 := hk.some (p := ⟨w.heap.size + 1 + 1, 2, none⟩) (v := .float .f32 0) (by go_simp) id
  have r3 := hk.some (p := ⟨w.heap.size + 1 + 1, 3, none⟩) (v := .float .f32 0) (by go_simp) id
  have zz : ∀ c, w1.frozen? ⟨w.heap.size + 1 + 1, c, none⟩ = false := fun c => (hk.frozen _).trans ((frozen?_alloc_cells _ _ _ _).trans ((frozen?_alloc_cells _ _ _ _).trans ((frozen?_alloc_cells _ _ _ _).trans (frozen_new _ _ (by simp; omega)))))
  have HR := Lib.hid (And.intro r0 (And.intro r1 (And.intro r2 (And.intro r3 zz))))
  have K1 := Lib.hid k1
  clear hk zz r0 r1 r2 r3 k1
  go_wp2_with (first
    | (go_at_call 87; refine (HI.out _ K1.out).mono ?_; rintro e w2 ⟨rfl, hk⟩; have r0 := hk.some HR.out.1 id; have r1 := hk.some HR.out.2.1 id; have r2 := hk.some HR.out.2.2.1 id; have r3 := hk.some HR.out.2.2.2.1 id; have z0 := (hk.frozen ⟨w.heap.size + 1 + 1, 0, none⟩).trans (HR.out.2.2.2.2 0); have z1 := (hk.frozen ⟨w.heap.size + 1 + 1, 1, none⟩).trans (HR.out.2.2.2.2 1); have z2 := (hk.frozen ⟨w.heap.size + 1 + 1, 2, none⟩).trans (HR.out.2.2.2.2 2); have z3 := (hk.frozen ⟨w.heap.size + 1 + 1, 3, none⟩).trans (HR.out.2.2.2.2 3); have K2 := Lib.hid hk; clear hk))
  have cs := cells_set4 (v0 := .float .f32 (liP (entE z S) S lo hi p 0)) (v1 := .float .f32 (liP (entE z S) S lo hi p 1)) (v2 := .float .f32 (liP (entE z S) S lo hi p 2)) (v3 := .float .f32 (liP (entE z S) S lo hi p 3)) r0 r1 r2 r3
  refine bodyPost_ret (px_ret2 Try.results35 _ _ (w.heap.size + 1 + 1) _ _ _ _ cs rfl) rfl ?_
  exact ⟨rfl, kept_set4' (K1.out.trans K2.out) (by omega)⟩

set_option linter.unusedSimpArgs false in
set_option linter.unusedVariables false in
set_option maxHeartbeats 4000000 in
set_option maxRecDepth 100000 in
theorem Place_err (S : Int) (lo hi : Nat) (A : Option Addr) (n cap v : Nat) (w : World) (E : Int) (hn : n ≤ 9223372036854775807) (hE : cuE S lo hi n = E) (h0 : ¬ E = 0) :
    Calls Try.prog 36 #[.agg #[.int .i64 S, .float .f32 lo, .float .f32 hi, .slice A n cap], .float .f32 v] w fun e w' => e = .returned (.tuple #[.int .i64 0, .float .f32 0]) ∧ Kept None' w w' := by
  have hb : (E != 0) = true := by simp [h0]
  have HE := Lib.hid hE
  clear hE
  go_enter Try.func36, Try.ntmps36
  go_wp2_with (first | (go_at_call 37; refine (checkcube_any _ _ _ _ _ _ _ hn).mono ?_; rw [HE.out]; rintro e w1 ⟨rfl, hk⟩))
  go_ret2
  exact ⟨rfl, ((Kept.refl None' w).alloc _ _).trans hk⟩

set_option linter.unusedSimpArgs false in
set_option linter.unusedVariables false in
set_option maxHeartbeats 4000000 in
set_option maxRecDepth 100000 in
theorem Place_ok (S : Int) (lo hi : Nat) (A : Option Addr) (n cap v : Nat) (w : World) (hn : n ≤ 9223372036854775807) (hE : cuE S lo hi n = 0) :
    Calls Try.prog 36 #[.agg #[.int .i64 S, .float .f32 lo, .float .f32 hi, .slice A n cap], .float .f32 v] w fun e w' => e = .returned (.tuple #[.int .i64 (axI S lo hi v), .float .f32 (axS S lo hi v)]) ∧ Kept None' w w' := by
  obtain ⟨s1, s2, -⟩ := cuE_ok hE
  have HE := Lib.hid hE
  clear hE
  go_enter Try.func36, Try.ntmps36
  go_upto_region 3 with (first | (go_at_call 37; refine (checkcube_any _ _ _ _ _ _ _ hn).mono ?_; rw [HE.out]; rintro e w1 ⟨rfl, hk⟩))
  have k1 := ((Kept.refl None' w).alloc _ _).trans hk
  have t0 := hk.some (p := ⟨w.heap.size, 0, none⟩) (v := .int .i64 S) (by go_simp) id
  have t1 := hk.some (p := ⟨w.heap.size, 1, none⟩) (v := .float .f32 lo) (by go_simp) id
  have t2 := hk.some (p := ⟨w.heap.size, 2, none⟩) (v := .float .f32 hi) (by go_simp) id
  have t3 := hk.some (p := ⟨w.heap.size, 3, none⟩) (v := .slice A n cap) (by go_simp) id
  have K1 := Lib.hid k1
  clear hk k1
  go_wp2_with (first | (go_at_call 88; refine (place_any _ _ _ _ _ _ _ _ s1 s2).mono ?_; rintro e w2 ⟨rfl, hk⟩; have K2 := Lib.hid hk; clear hk))
  go_ret2
  exact ⟨rfl, K1.out.trans K2.out⟩

set_option linter.unusedSimpArgs false in
set_option linter.unusedVariables false in
set_option maxHeartbeats 4000000 in
set_option maxRecDepth 100000 in
theorem samethree_same (a b c : Nat) (w : World) : Calls Try.prog 32 #[.agg #[.float .f32 a, .float .f32 b, .float .f32 c], .agg #[.float .f32 a, .float .f32 b, .float .f32 c]] w fun e w' => e = .returned (.bool true) ∧ Kept None' w w' := by
  go_enter Try.func32, Try.ntmps32
  go_wp2_with (first | (go_at_call 28; refine (same_any _ _ _).mono ?_; rintro e w' ⟨rfl, rfl⟩))
  go_ret
  exact ⟨by simp, ((Kept.refl None' w).alloc _ _).alloc _ _⟩
end Go.Proofs.Ytkmganophcklgaa
