/- The contract of grained. Conditions: none. -/
import Derived.Test.YtfphhlodfieopaaGp
import Derived.Deep.RegionHeld3
import Derived.Deep.DeepCutAuto
import Derived.Outline
namespace Go.Proofs.Ytfphhlodfieopaa
open Go.RowKit
open Fl Fr
open BigFrame

abbrev gdS (W0 : World) (G : Nat) (z : Int) (w' : World) : Prop := Kept None' W0 w' ∧ w'.cell? ⟨G, 1, none⟩ = some (.int .i64 z)
theorem gdS_of {W0 : World} {G : Nat} {z : Int} {w' : World} (h : gdS W0 G z W0) (k : Kept None' W0 w') : gdS W0 G z w' := ⟨k, k.some h.2 id⟩

set_option linter.unusedSimpArgs false in
set_option linter.unusedVariables false in
set_option maxHeartbeats 4000000 in
set_option maxRecDepth 100000 in
theorem grained_any (s z : Int) (S F : Nat) (m : Bool) (number x y : Int) (p0 p1 p2 p3 : Nat) (w : World) (z1 : 1 ≤ z) (x1 : -1048576 ≤ x) (x2 : x ≤ 1048576) (y1 : -1048576 ≤ y) (y2 : y ≤ 1048576) :
    Calls Try.prog 83 #[.agg #[.int .u32 s, .int .i64 z, .float .f32 S, .float .f32 F, .bool m], .int .i64 number, .int .i64 x, .int .i64 y, .agg #[.float .f32 p0, .float .f32 p1, .float .f32 p2, .float .f32 p3]] w fun e w' =>
      e = .returned (.agg #[.float .f32 (gP s number (x / z) (y / z) (gC m 0) S F p0), .float .f32 (gP s number (x / z) (y / z) (gC m 1) S F p1), .float .f32 (gP s number (x / z) (y / z) (gC m 2) S F p2), .float .f32 (cl .f32 p3)]) ∧ Kept None' w w' := by
  obtain ⟨qx, hqx⟩ : ∃ q, x / z = q := ⟨_, rfl⟩
  obtain ⟨qy, hqy⟩ : ∃ q, y / z = q := ⟨_, rfl⟩
  have HX := Lib.hid hqx
  have HY := Lib.hid hqy
  rw [hqx, hqy]
  clear hqx hqy
  go_enter Try.func83, Try.ntmps83
  go_wp2_with fail
  refine of_world (fun W0 hW => ?_)
  have k0 : Kept None' w W0 := by rw [hW]; exact ((((Kept.refl None' w).alloc _ _).alloc _ _).alloc _ _).alloc _ _
  have a0 : W0.cell? ⟨w.heap.size, 0, none⟩ = some (.int .u32 s) := by rw [hW]; go_simp
  have a1 : W0.cell? ⟨w.heap.size, 1, none⟩ = some (.int .i64 z) := by rw [hW]; go_simp
  have a2 : W0.cell? ⟨w.heap.size, 2, none⟩ = some (.float .f32 S) := by rw [hW]; go_simp
  have a3 : W0.cell? ⟨w.heap.size, 3, none⟩ = some (.float .f32 F) := by rw [hW]; go_simp
  have a4 : W0.cell? ⟨w.heap.size, 4, none⟩ = some (.bool m) := by rw [hW]; go_simp
  have n0 : W0.cell? ⟨w.heap.size + 1, 0, none⟩ = some (.int .i64 number) := by rw [hW]; go_simp
  have b0 : W0.cell? ⟨w.heap.size + 1 + 1, 0, none⟩ = some (.float .f32 p0) := by rw [hW]; go_simp
  have b1 : W0.cell? ⟨w.heap.size + 1 + 1, 1, none⟩ = some (.float .f32 p1) := by rw [hW]; go_simp
  have b2 : W0.cell? ⟨w.heap.size + 1 + 1, 2, none⟩ = some (.float .f32 p2) := by rw [hW]; go_simp
  have b3 : W0.cell? ⟨w.heap.size + 1 + 1, 3, none⟩ = some (.float .f32 p3) := by rw [hW]; go_simp
  have s0 : W0.cell? ⟨w.heap.size + 1 + 1 + 1, 0, none⟩ = some (.float .f32 0) := by rw [hW]; go_simp
  have s1 : W0.cell? ⟨w.heap.size + 1 + 1 + 1, 1, none⟩ = some (.float .f32 0) := by rw [hW]; go_simp
  have s2 : W0.cell? ⟨w.heap.size + 1 + 1 + 1, 2, none⟩ = some (.float .f32 0) := by rw [hW]; go_simp
  have s3 : W0.cell? ⟨w.heap.size + 1 + 1 + 1, 3, none⟩ = some (.float .f32 0) := by rw [hW]; go_simp
  have zz : ∀ a : Addr, w.heap.size ≤ a.block → W0.frozen? a = false := fun a ha => by rw [hW]; exact (frozen?_alloc_cells _ _ _ _).trans ((frozen?_alloc_cells _ _ _ _).trans ((frozen?_alloc_cells _ _ _ _).trans ((frozen?_alloc_cells _ _ _ _).trans (frozen_new _ _ ha))))
  have Z0 := Lib.hid zz
  have K0 := Lib.hid k0
  clear hW zz k0
  go_cut [11, 12] (fun s11 s12 wx => ∃ P Q : Nat, s11 = .pointer (some ⟨P, 0, none⟩) ∧ s12 = .pointer (some ⟨Q, 0, none⟩) ∧ wx.cell? ⟨P, 0, none⟩ = some (.int .i64 qx) ∧ wx.cell? ⟨Q, 0, none⟩ = some (.int .i64 qy) ∧ Kept None' W0 wx)
  case first =>
    have hM : gdS W0 w.heap.size z W0 := ⟨Kept.refl _ _, a1⟩
    have HM := Lib.hid hM
    clear hM
    have hcn : ∀ n v, ((W0.drewN n).alloc (.cells #[v] 3)).cell? ⟨W0.heap.size, 0, none⟩ = some v := fun n v => cell_alloc_one (W0.drewN n) _ _ 0
    have hfn : ∀ n v, ((W0.drewN n).alloc (.cells #[v] 3)).frozen? ⟨W0.heap.size, 0, none⟩ = false := fun n v => (frozen?_alloc_cells _ _ _ _).trans (frozen_new _ _ (Nat.le_refl _))
    have hcn2 : ∀ n v u, (((W0.drewN n).alloc (.cells #[v] 3)).alloc (.cells #[u] 3)).cell? ⟨W0.heap.size, 0, none⟩ = some v := fun n v u => cell_alloc_two (W0.drewN n) _ _ _ _ 0
    have hcn3 : ∀ n v u, (((W0.drewN n).alloc (.cells #[v] 3)).alloc (.cells #[u] 3)).cell? ⟨W0.heap.size + 1, 0, none⟩ = some u := fun n v u => cell_alloc_snd (W0.drewN n) _ _ _ 0
    have hfn2 : ∀ n v u a, W0.heap.size ≤ a.block → (((W0.drewN n).alloc (.cells #[v] 3)).alloc (.cells #[u] 3)).frozen? a = false := fun n v u a ha => (frozen?_alloc_cells _ _ _ _).trans ((frozen?_alloc_cells _ _ _ _).trans (frozen_new _ _ ha))
    go_region_held3 (fun w' => Kept None' W0 w' ∧ w'.cell? ⟨w.heap.size, 1, none⟩ = some (.int .i64 z))
      ((refine gdS_of HM.out ?_; repeat (first | exact Kept.refl _ _ | with_reducible refine Kept.drew ?_ _ | with_reducible refine Kept.alloc ?_ _ _ | with_reducible refine Kept.setCell ?_ (Or.inl (Nat.le_refl _)) _ | with_reducible refine Kept.setCell ?_ (Or.inl (Nat.le_succ _)) _ | with_reducible refine Kept.trans ?_ (Kept.drew1' _))))
      ((go_simp; go_at_call 107; refine (floordiv_any _ _ _ z1 (by assumption) (by assumption)).mono ?_; (first | rw [HX.out] | rw [HY.out]); rintro e w' ⟨rfl, rfl⟩))
    all_goals
      go_wp2_with fail
      go_meet
      refine ⟨_, _, rfl, rfl, ?_, ?_, ?_⟩
      · first | exact drew_cell (cell_alloc_two W0 _ _ _ _ 0) | exact drew_cell (cell_alloc_snd W0 _ _ _ 0) | exact cell_alloc_two W0 _ _ _ _ 0 | exact cell_alloc_snd W0 _ _ _ 0
      · first | exact drew_cell (cell_alloc_two W0 _ _ _ _ 0) | exact drew_cell (cell_alloc_snd W0 _ _ _ 0) | exact cell_alloc_two W0 _ _ _ _ 0 | exact cell_alloc_snd W0 _ _ _ 0
      · repeat (first | exact Kept.refl _ _ | with_reducible refine Kept.drew ?_ _ | with_reducible refine Kept.alloc ?_ _ _ | with_reducible refine Kept.trans ?_ (Kept.drew1' _))
  case rest =>
    obtain ⟨P, Q, rfl, rfl, hp, hq, hk⟩ := hcut
    have hB : GrB s z S F m number qx qy w.heap.size (w.heap.size + 1) P Q _ := ⟨hk.some a0 id, hk.some a1 id, hk.some a2 id, hk.some a3 id, hk.some a4 id, hk.some n0 id, hp, hq⟩
    have q0 := hk.some b0 id
    have q1 := hk.some b1 id
    have q2 := hk.some b2 id
    have q3 := hk.some b3 id
    have K2 := Lib.hid hk
    have HB := Lib.hid hB
    clear hk hp hq a0 a1 a2 a3 a4 n0 hB
    go_wp2_with (first
      | (go_at_call 66; refine (three_grain _ _ _ _ s z S F m number qx qy _ _ _ _ _ HB.out).mono ?_; rintro e w4 ⟨rfl, hk4⟩
         have k4 := K2.out.trans hk4
         have r0 := k4.some s0 id
         have r1 := k4.some s1 id
         have r2 := k4.some s2 id
         have r3 := k4.some s3 id
         have z0 := (k4.frozen ⟨w.heap.size + 1 + 1 + 1, 0, none⟩).trans (Z0.out ⟨w.heap.size + 1 + 1 + 1, 0, none⟩ (by simp; omega))
         have z1 := (k4.frozen ⟨w.heap.size + 1 + 1 + 1, 1, none⟩).trans (Z0.out ⟨w.heap.size + 1 + 1 + 1, 1, none⟩ (by simp; omega))
         have z2 := (k4.frozen ⟨w.heap.size + 1 + 1 + 1, 2, none⟩).trans (Z0.out ⟨w.heap.size + 1 + 1 + 1, 2, none⟩ (by simp; omega))
         have z3 := (k4.frozen ⟨w.heap.size + 1 + 1 + 1, 3, none⟩).trans (Z0.out ⟨w.heap.size + 1 + 1 + 1, 3, none⟩ (by simp; omega))
         have K4 := Lib.hid k4
         clear k4 hk4)
      | fail)
    have cs := cells_set4 (v0 := .float .f32 (gP s number qx qy (gC m 0) S F p0)) (v1 := .float .f32 (gP s number qx qy (gC m 1) S F p1)) (v2 := .float .f32 (gP s number qx qy (gC m 2) S F p2)) (v3 := .float .f32 (cl .f32 p3)) r0 r1 r2 r3
    refine bodyPost_ret (px_ret Try.results83 _ _ (w.heap.size + 1 + 1 + 1) _ _ _ _ cs.1 cs.2.1 cs.2.2.1 cs.2.2.2 rfl) rfl ?_
    refine ⟨rfl, ?_⟩
    have kk := K0.out.trans K4.out
    exact (((kk.setCell (Or.inl (by simp; omega)) _).setCell (Or.inl (by simp; omega)) _).setCell (Or.inl (by simp; omega)) _).setCell (Or.inl (by simp; omega)) _
end Go.Proofs.Ytfphhlodfieopaa
