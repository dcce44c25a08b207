/- The contract of Grained. Conditions: none. -/
import Derived.Test.YtfphhlodfieopaaGs
namespace Go.Proofs.Ytfphhlodfieopaa
open Go.RowKit
open Fl Fr
open BigFrame

def zeroPx : Value := .agg #[.float .f32 0, .float .f32 0, .float .f32 0, .float .f32 0]
def PxErr (E : Int) (w : World) (e : Ending) (w' : World) : Prop := e = .returned (.tuple #[.agg #[.float .f32 0, .float .f32 0, .float .f32 0, .float .f32 0], .int .i64 E]) ∧ Kept None' w w'

set_option linter.unusedSimpArgs false in
set_option linter.unusedVariables false in
set_option maxHeartbeats 2000000 in
set_option maxRecDepth 100000 in
theorem grained_e1 (s z : Int) (S F : Nat) (m : Bool) (number x y : Int) (p0 p1 p2 p3 : Nat) (E : Int) (w : World) (hE : grE z S F = E) (h0 : ¬ E = 0) :
    Calls Try.prog 41 #[.agg #[.int .u32 s, .int .i64 z, .float .f32 S, .float .f32 F, .bool m], .int .i64 number, .int .i64 x, .int .i64 y, .agg #[.float .f32 p0, .float .f32 p1, .float .f32 p2, .float .f32 p3]] w (PxErr E w) := by
  have hb : (E != 0) = true := by simp [h0]
  go_enter Try.func41, Try.ntmps41
  go_wp2_with (first
    | (go_at_call 44; refine (checkgrain_any _ _ _ _ _ _).mono ?_; rw [hE]; rintro e w1 ⟨rfl, hk1⟩
       have s0 : w1.cell? ⟨w.heap.size + 1 + 1, 0, none⟩ = some (.float .f32 0) := hk1.some (by go_simp) id
       have s1 : w1.cell? ⟨w.heap.size + 1 + 1, 1, none⟩ = some (.float .f32 0) := hk1.some (by go_simp) id
       have s2 : w1.cell? ⟨w.heap.size + 1 + 1, 2, none⟩ = some (.float .f32 0) := hk1.some (by go_simp) id
       have s3 : w1.cell? ⟨w.heap.size + 1 + 1, 3, none⟩ = some (.float .f32 0) := hk1.some (by go_simp) id
       have z1 : ∀ a : Addr, w.heap.size ≤ a.block → w1.frozen? a = false := fun a ha => (hk1.frozen a).trans ((frozen?_alloc_cells _ _ _ _).trans ((frozen?_alloc_cells _ _ _ _).trans ((frozen?_alloc_cells _ _ _ _).trans (frozen_new _ _ ha))))
       have f0 := z1 ⟨w.heap.size + 1 + 1, 0, none⟩ (by simp; omega)
       have f1 := z1 ⟨w.heap.size + 1 + 1, 1, none⟩ (by simp; omega)
       have f2 := z1 ⟨w.heap.size + 1 + 1, 2, none⟩ (by simp; omega)
       have f3 := z1 ⟨w.heap.size + 1 + 1, 3, none⟩ (by simp; omega)
       have K1 := Lib.hid (((((Kept.refl None' w).alloc _ _).alloc _ _).alloc _ _).trans hk1)
       clear hk1 z1)
    | fail)
  have cs := cells_set4 (v0 := .float .f32 0) (v1 := .float .f32 0) (v2 := .float .f32 0) (v3 := .float .f32 0) s0 s1 s2 s3
  refine bodyPost_ret (px_ret2 Try.results41 _ _ (w.heap.size + 1 + 1) _ _ _ _ cs.1 cs.2.1 cs.2.2.1 cs.2.2.2 rfl) rfl ?_
  have kk := K1.out
  exact ⟨rfl, (((kk.setCell (Or.inl (by simp; omega)) _).setCell (Or.inl (by simp; omega)) _).setCell (Or.inl (by simp; omega)) _).setCell (Or.inl (by simp; omega)) _⟩

set_option linter.unusedSimpArgs false in
set_option linter.unusedVariables false in
set_option maxHeartbeats 4000000 in
set_option maxRecDepth 100000 in
theorem grained_e2 (s z : Int) (S F : Nat) (m : Bool) (number x y : Int) (p0 p1 p2 p3 : Nat) (w : World) (hE : grE z S F = 0) (hp : plE x y = 5) :
    Calls Try.prog 41 #[.agg #[.int .u32 s, .int .i64 z, .float .f32 S, .float .f32 F, .bool m], .int .i64 number, .int .i64 x, .int .i64 y, .agg #[.float .f32 p0, .float .f32 p1, .float .f32 p2, .float .f32 p3]] w (PxErr 5 w) := by
  have hx : decide (x < -1048576) = true ∨ (decide (x < -1048576) = false ∧ decide (1048576 < x) = true) ∨ (decide (x < -1048576) = false ∧ decide (1048576 < x) = false ∧ decide (y < -1048576) = true) ∨
      (decide (x < -1048576) = false ∧ decide (1048576 < x) = false ∧ decide (y < -1048576) = false ∧ decide (1048576 < y) = true) := by
    unfold plE at hp
    by_cases h : (inB x (-1048576) 1048576 && inB y (-1048576) 1048576) = true
    · rw [if_pos h] at hp; exact absurd hp (by decide)
    · simp only [inB, Bool.and_eq_true, decide_eq_true_eq] at h
      simp only [decide_eq_true_eq, decide_eq_false_iff_not]
      omega
  clear hp
  rcases hx with hx | ⟨hx, hy⟩ | ⟨hx, hy, hz⟩ | ⟨hx, hy, hz, hu⟩
  all_goals
    go_enter Try.func41, Try.ntmps41
    go_wp2_with (first
      | (go_at_call 44; refine (checkgrain_any _ _ _ _ _ _).mono ?_; rw [hE]; rintro e w1 ⟨rfl, hk1⟩
         have s0 : w1.cell? ⟨w.heap.size + 1 + 1, 0, none⟩ = some (.float .f32 0) := hk1.some (by go_simp) id
         have s1 : w1.cell? ⟨w.heap.size + 1 + 1, 1, none⟩ = some (.float .f32 0) := hk1.some (by go_simp) id
         have s2 : w1.cell? ⟨w.heap.size + 1 + 1, 2, none⟩ = some (.float .f32 0) := hk1.some (by go_simp) id
         have s3 : w1.cell? ⟨w.heap.size + 1 + 1, 3, none⟩ = some (.float .f32 0) := hk1.some (by go_simp) id
         have z1 : ∀ a : Addr, w.heap.size ≤ a.block → w1.frozen? a = false := fun a ha => (hk1.frozen a).trans ((frozen?_alloc_cells _ _ _ _).trans ((frozen?_alloc_cells _ _ _ _).trans ((frozen?_alloc_cells _ _ _ _).trans (frozen_new _ _ ha))))
         have f0 := z1 ⟨w.heap.size + 1 + 1, 0, none⟩ (by simp; omega)
         have f1 := z1 ⟨w.heap.size + 1 + 1, 1, none⟩ (by simp; omega)
         have f2 := z1 ⟨w.heap.size + 1 + 1, 2, none⟩ (by simp; omega)
         have f3 := z1 ⟨w.heap.size + 1 + 1, 3, none⟩ (by simp; omega)
         have K1 := Lib.hid (((((Kept.refl None' w).alloc _ _).alloc _ _).alloc _ _).trans hk1)
         clear hk1 z1)
      | fail)
    have cs := cells_set4 (v0 := .float .f32 0) (v1 := .float .f32 0) (v2 := .float .f32 0) (v3 := .float .f32 0) s0 s1 s2 s3
    refine bodyPost_ret (px_ret2 Try.results41 _ _ (w.heap.size + 1 + 1) _ _ _ _ cs.1 cs.2.1 cs.2.2.1 cs.2.2.2 rfl) rfl ?_
    have kk := K1.out
    exact ⟨rfl, (((kk.setCell (Or.inl (by simp; omega)) _).setCell (Or.inl (by simp; omega)) _).setCell (Or.inl (by simp; omega)) _).setCell (Or.inl (by simp; omega)) _⟩

set_option linter.unusedSimpArgs false in
set_option linter.unusedVariables false in
set_option maxHeartbeats 4000000 in
set_option maxRecDepth 100000 in
theorem grained_ok (s z : Int) (S F : Nat) (m : Bool) (number x y : Int) (p0 p1 p2 p3 : Nat) (w : World) (hE : grE z S F = 0) (z1 : 1 ≤ z) (hx : decide (x < -1048576) = false) (hy : decide (1048576 < x) = false) (hz : decide (y < -1048576) = false) (hu : decide (1048576 < y) = false) :
    Calls Try.prog 41 #[.agg #[.int .u32 s, .int .i64 z, .float .f32 S, .float .f32 F, .bool m], .int .i64 number, .int .i64 x, .int .i64 y, .agg #[.float .f32 p0, .float .f32 p1, .float .f32 p2, .float .f32 p3]] w fun e w' =>
      e = .returned (.tuple #[.agg #[.float .f32 (gP s number (x / z) (y / z) (gC m 0) S F p0), .float .f32 (gP s number (x / z) (y / z) (gC m 1) S F p1), .float .f32 (gP s number (x / z) (y / z) (gC m 2) S F p2), .float .f32 (cl .f32 p3)], .int .i64 0]) ∧ Kept None' w w' := by
  have x1 := of_decide_eq_false hx
  have x2 := of_decide_eq_false hy
  have y1 := of_decide_eq_false hz
  have y2 := of_decide_eq_false hu
  have HG := fun w => grained_any s z S F m number x y p0 p1 p2 p3 w z1 (by omega) (by omega) (by omega) (by omega)
  obtain ⟨g0, e0⟩ : ∃ q, gP s number (x / z) (y / z) (gC m 0) S F p0 = q := ⟨_, rfl⟩
  obtain ⟨g1, e1⟩ : ∃ q, gP s number (x / z) (y / z) (gC m 1) S F p1 = q := ⟨_, rfl⟩
  obtain ⟨g2, e2⟩ : ∃ q, gP s number (x / z) (y / z) (gC m 2) S F p2 = q := ⟨_, rfl⟩
  rw [e0, e1, e2] at HG
  rw [e0, e1, e2]
  clear e0 e1 e2 x1 x2 y1 y2
  have HG := Lib.hid HG
  go_enter Try.func41, Try.ntmps41
  go_wp2_with (first
    | (go_at_call 44; refine (checkgrain_any _ _ _ _ _ _).mono ?_; rw [hE]; rintro e w1 ⟨rfl, hk1⟩
       have s0 : w1.cell? ⟨w.heap.size + 1 + 1, 0, none⟩ = some (.float .f32 0) := hk1.some (by go_simp) id
       have s1 : w1.cell? ⟨w.heap.size + 1 + 1, 1, none⟩ = some (.float .f32 0) := hk1.some (by go_simp) id
       have s2 : w1.cell? ⟨w.heap.size + 1 + 1, 2, none⟩ = some (.float .f32 0) := hk1.some (by go_simp) id
       have s3 : w1.cell? ⟨w.heap.size + 1 + 1, 3, none⟩ = some (.float .f32 0) := hk1.some (by go_simp) id
       have a0 : w1.cell? ⟨w.heap.size, 0, none⟩ = some (.int .u32 s) := hk1.some (by go_simp) id
       have a1 : w1.cell? ⟨w.heap.size, 1, none⟩ = some (.int .i64 z) := hk1.some (by go_simp) id
       have a2 : w1.cell? ⟨w.heap.size, 2, none⟩ = some (.float .f32 S) := hk1.some (by go_simp) id
       have a3 : w1.cell? ⟨w.heap.size, 3, none⟩ = some (.float .f32 F) := hk1.some (by go_simp) id
       have a4 : w1.cell? ⟨w.heap.size, 4, none⟩ = some (.bool m) := hk1.some (by go_simp) id
       have b0 : w1.cell? ⟨w.heap.size + 1, 0, none⟩ = some (.float .f32 p0) := hk1.some (by go_simp) id
       have b1 : w1.cell? ⟨w.heap.size + 1, 1, none⟩ = some (.float .f32 p1) := hk1.some (by go_simp) id
       have b2 : w1.cell? ⟨w.heap.size + 1, 2, none⟩ = some (.float .f32 p2) := hk1.some (by go_simp) id
       have b3 : w1.cell? ⟨w.heap.size + 1, 3, none⟩ = some (.float .f32 p3) := hk1.some (by go_simp) id
       have zz : ∀ a : Addr, w.heap.size ≤ a.block → w1.frozen? a = false := fun a ha => (hk1.frozen a).trans ((frozen?_alloc_cells _ _ _ _).trans ((frozen?_alloc_cells _ _ _ _).trans ((frozen?_alloc_cells _ _ _ _).trans (frozen_new _ _ ha))))
       have f0 := zz ⟨w.heap.size + 1 + 1, 0, none⟩ (by simp; omega)
       have f1 := zz ⟨w.heap.size + 1 + 1, 1, none⟩ (by simp; omega)
       have f2 := zz ⟨w.heap.size + 1 + 1, 2, none⟩ (by simp; omega)
       have f3 := zz ⟨w.heap.size + 1 + 1, 3, none⟩ (by simp; omega)
       have K1 := Lib.hid (((((Kept.refl None' w).alloc _ _).alloc _ _).alloc _ _).trans hk1)
       clear hk1 zz)
    | (go_at_call 83; refine (HG.out _).mono ?_; rintro e w2 ⟨rfl, hk2⟩
       have s0 := hk2.some s0 id
       have s1 := hk2.some s1 id
       have s2 := hk2.some s2 id
       have s3 := hk2.some s3 id
       have f0 := (hk2.frozen _).trans f0
       have f1 := (hk2.frozen _).trans f1
       have f2 := (hk2.frozen _).trans f2
       have f3 := (hk2.frozen _).trans f3
       have K2 := Lib.hid (K1.out.trans hk2)
       clear hk2)
    | fail)
  have cs := cells_set4 (v0 := .float .f32 g0) (v1 := .float .f32 g1) (v2 := .float .f32 g2) (v3 := .float .f32 (cl .f32 p3)) s0 s1 s2 s3
  refine bodyPost_ret (px_ret2 Try.results41 _ _ (w.heap.size + 1 + 1) _ _ _ _ cs.1 cs.2.1 cs.2.2.1 cs.2.2.2 rfl) rfl ?_
  have kk := K2.out
  exact ⟨rfl, (((kk.setCell (Or.inl (by simp; omega)) _).setCell (Or.inl (by simp; omega)) _).setCell (Or.inl (by simp; omega)) _).setCell (Or.inl (by simp; omega)) _⟩
end Go.Proofs.Ytfphhlodfieopaa
