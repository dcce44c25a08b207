/- Contracts of Grain and its function. Conditions: none. -/
import Derived.Test.YtfphhlodfieopaaGt
import Derived.Test.YtfphhlodfieopaaVw
namespace Go.Proofs.Ytfphhlodfieopaa
open Go.RowKit
open Fl Fr
open BigFrame

def gF (s z : Int) (S F : Nat) (m : Bool) (number px py : Int) (p : Nat → Nat) (c : Nat) : Nat := if c = 3 then cl .f32 (p 3) else gP s number (px / z) (py / z) (gC m c) S F (p c)
theorem cl_gF (s z : Int) (S F : Nat) (m : Bool) (number px py : Int) (p : Nat → Nat) (c : Nat) : cl .f32 (gF s z S F m number px py p c) = gF s z S F m number px py p c := by
  unfold gF
  split
  · exact cl_cl _ _
  · unfold gP; exact cl_fC _ _ _ _
/-- The boxes of a grain and a number. -/
def GnB (s z : Int) (S F : Nat) (m : Bool) (number : Int) (G N : Nat) (w : World) : Prop :=
  w.cell? ⟨G, 0, none⟩ = some (.int .u32 s) ∧ w.cell? ⟨G, 1, none⟩ = some (.int .i64 z) ∧ w.cell? ⟨G, 2, none⟩ = some (.float .f32 S) ∧ w.cell? ⟨G, 3, none⟩ = some (.float .f32 F) ∧ w.cell? ⟨G, 4, none⟩ = some (.bool m) ∧ w.cell? ⟨N, 0, none⟩ = some (.int .i64 number)
theorem GnB.kept {s z : Int} {S F : Nat} {m : Bool} {number : Int} {G N : Nat} {w w' : World} (h : GnB s z S F m number G N w) (k : Kept None' w w') : GnB s z S F m number G N w' :=
  ⟨k.some h.1 id, k.some h.2.1 id, k.some h.2.2.1 id, k.some h.2.2.2.1 id, k.some h.2.2.2.2.1 id, k.some h.2.2.2.2.2 id⟩

set_option linter.unusedVariables false in
set_option maxHeartbeats 1000000 in
theorem grf_any (s z : Int) (S F : Nat) (m : Bool) (number : Int) (G N : Nat) (px py : Int) (p : Nat → Nat) (w : World) (hz : 1 ≤ z) (hG : GnB s z S F m number G N w) (x1 : -1048576 ≤ px) (x2 : px ≤ 1048576) (y1 : -1048576 ≤ py) (y2 : py ≤ 1048576) :
    Calls Try.prog 84 #[.int .i64 px, .int .i64 py, .agg #[.float .f32 (p 0), .float .f32 (p 1), .float .f32 (p 2), .float .f32 (p 3)], .pointer (some ⟨G, 0, none⟩), .pointer (some ⟨N, 0, none⟩)] w fun e w' =>
      e = .returned (.agg #[.float .f32 (gF s z S F m number px py p 0), .float .f32 (gF s z S F m number px py p 1), .float .f32 (gF s z S F m number px py p 2), .float .f32 (gF s z S F m number px py p 3)]) ∧ Kept None' w w' := by
  have HG := fun w => grained_any s z S F m number px py (p 0) (p 1) (p 2) (p 3) w hz x1 x2 y1 y2
  have f0 : gF s z S F m number px py p 0 = gP s number (px / z) (py / z) (gC m 0) S F (p 0) := if_neg (by decide)
  have f1 : gF s z S F m number px py p 1 = gP s number (px / z) (py / z) (gC m 1) S F (p 1) := if_neg (by decide)
  have f2 : gF s z S F m number px py p 2 = gP s number (px / z) (py / z) (gC m 2) S F (p 2) := if_neg (by decide)
  have f3 : gF s z S F m number px py p 3 = cl .f32 (p 3) := if_pos rfl
  rw [f0, f1, f2, f3]
  generalize gP s number (px / z) (py / z) (gC m 0) S F (p 0) = g0 at *
  generalize gP s number (px / z) (py / z) (gC m 1) S F (p 1) = g1 at *
  generalize gP s number (px / z) (py / z) (gC m 2) S F (p 2) = g2 at *
  clear f0 f1 f2 f3
  have HG := Lib.hid HG
  obtain ⟨v0, v1, v2, v3, v4, n0⟩ := hG
  have k2 : ∀ c1 t1 c2 t2, Kept None' w ((w.alloc (.cells c1 t1)).alloc (.cells c2 t2)) := fun _ _ _ _ => ((Kept.refl None' w).alloc _ _).alloc _ _
  have a0 : ∀ c1 t1 c2 t2, ((w.alloc (.cells c1 t1)).alloc (.cells c2 t2)).cell? ⟨G, 0, none⟩ = some (.int .u32 s) := fun _ _ _ _ => (k2 _ _ _ _).some v0 id
  have a1 : ∀ c1 t1 c2 t2, ((w.alloc (.cells c1 t1)).alloc (.cells c2 t2)).cell? ⟨G, 1, none⟩ = some (.int .i64 z) := fun _ _ _ _ => (k2 _ _ _ _).some v1 id
  have a2 : ∀ c1 t1 c2 t2, ((w.alloc (.cells c1 t1)).alloc (.cells c2 t2)).cell? ⟨G, 2, none⟩ = some (.float .f32 S) := fun _ _ _ _ => (k2 _ _ _ _).some v2 id
  have a3 : ∀ c1 t1 c2 t2, ((w.alloc (.cells c1 t1)).alloc (.cells c2 t2)).cell? ⟨G, 3, none⟩ = some (.float .f32 F) := fun _ _ _ _ => (k2 _ _ _ _).some v3 id
  have a4 : ∀ c1 t1 c2 t2, ((w.alloc (.cells c1 t1)).alloc (.cells c2 t2)).cell? ⟨G, 4, none⟩ = some (.bool m) := fun _ _ _ _ => (k2 _ _ _ _).some v4 id
  have a5 : ∀ c1 t1 c2 t2, ((w.alloc (.cells c1 t1)).alloc (.cells c2 t2)).cell? ⟨N, 0, none⟩ = some (.int .i64 number) := fun _ _ _ _ => (k2 _ _ _ _).some n0 id
  clear k2
  go_enter Try.func84, Try.ntmps84
  go_wp2_with (first
    | (go_at_call 83; refine (HG.out _).mono ?_
       rintro e w1 ⟨rfl, hk1⟩
       have s0 : w1.cell? ⟨w.heap.size + 1, 0, none⟩ = some (.float .f32 0) := hk1.some (by go_simp) id
       have s1 : w1.cell? ⟨w.heap.size + 1, 1, none⟩ = some (.float .f32 0) := hk1.some (by go_simp) id
       have s2 : w1.cell? ⟨w.heap.size + 1, 2, none⟩ = some (.float .f32 0) := hk1.some (by go_simp) id
       have s3 : w1.cell? ⟨w.heap.size + 1, 3, none⟩ = some (.float .f32 0) := hk1.some (by go_simp) id
       have z1 : ∀ a : Addr, w.heap.size ≤ a.block → w1.frozen? a = false := fun a ha => (hk1.frozen a).trans ((frozen?_alloc_cells _ _ _ _).trans ((frozen?_alloc_cells _ _ _ _).trans (frozen_new _ _ ha)))
       have f0 := z1 ⟨w.heap.size + 1, 0, none⟩ (by simp)
       have f1 := z1 ⟨w.heap.size + 1, 1, none⟩ (by simp)
       have f2 := z1 ⟨w.heap.size + 1, 2, none⟩ (by simp)
       have f3 := z1 ⟨w.heap.size + 1, 3, none⟩ (by simp)
       have K1 := Lib.hid ((((Kept.refl None' w).alloc _ _).alloc _ _).trans hk1)
       clear hk1 z1)
    | fail)
  have cs := cells_set4 (v0 := .float .f32 g0) (v1 := .float .f32 g1) (v2 := .float .f32 g2) (v3 := .float .f32 (cl .f32 (p 3))) s0 s1 s2 s3
  refine bodyPost_ret (px_ret Try.results84 _ _ (w.heap.size + 1) _ _ _ _ cs.1 cs.2.1 cs.2.2.1 cs.2.2.2 rfl) rfl ?_
  refine ⟨rfl, ?_⟩
  have kk := K1.out
  exact (((kk.setCell (Or.inl (by simp)) _).setCell (Or.inl (by simp)) _).setCell (Or.inl (by simp)) _).setCell (Or.inl (by simp)) _
theorem gr_maps (s z : Int) (S F : Nat) (m : Bool) (number : Int) (G N : Nat) (w : World) (hz : 1 ≤ z) (hG : GnB s z S F m number G N w) :
    Maps 84 #[.pointer (some ⟨G, 0, none⟩), .pointer (some ⟨N, 0, none⟩)] (gF s z S F m number) w := fun px py p wr hk x1 x2 y1 y2 =>
  (grf_any s z S F m number G N px py p wr hz (hG.kept hk) x1 x2 y1 y2).mono fun _ _ ⟨a, b⟩ => ⟨gF s z S F m number px py p, a, fun c _ => cl_gF s z S F m number px py p c, b⟩
theorem grE_z {z : Int} {S F : Nat} (h : grE z S F = 0) : 1 ≤ z ∧ z ≤ 16 := by
  unfold grE at h
  by_cases hz : inB z 1 16 = true
  · exact inB_iff.1 hz
  · rw [if_neg hz] at h; exact absurd h (by decide)
set_option linter.unusedSimpArgs false in
set_option linter.unusedVariables false in
set_option maxHeartbeats 4000000 in
set_option maxRecDepth 100000 in
theorem grain_e1 (x y W H : Int) (A : Option Addr) (n cap : Nat) (s z : Int) (S F : Nat) (m : Bool) (number : Int) (w : World) (E : Int) (hE : frE x y W H n = E) (h0 : ¬ E = 0) :
    Calls Try.prog 42 #[.agg #[.int .i64 x, .int .i64 y, .int .i64 W, .int .i64 H, .slice A n cap], .agg #[.int .u32 s, .int .i64 z, .float .f32 S, .float .f32 F, .bool m], .int .i64 number] w (ErrPost E w) := by
  have hb : (E != 0) = true := by simp [h0]
  go_enter Try.func42, Try.ntmps42
  go_wp2_with (first
    | (go_at_call 76; refine (check_any _ _ _ _ _ _ _ _).mono ?_; rw [hE]; rintro e w1 ⟨rfl, hk1⟩
       have s0 : w1.cell? ⟨w.heap.size + 1 + 1 + 1, 0, none⟩ = some (.int .i64 0) := hk1.some (by go_simp) id
       have s1 : w1.cell? ⟨w.heap.size + 1 + 1 + 1, 1, none⟩ = some (.int .i64 0) := hk1.some (by go_simp) id
       have s2 : w1.cell? ⟨w.heap.size + 1 + 1 + 1, 2, none⟩ = some (.int .i64 0) := hk1.some (by go_simp) id
       have s3 : w1.cell? ⟨w.heap.size + 1 + 1 + 1, 3, none⟩ = some (.int .i64 0) := hk1.some (by go_simp) id
       have s4 : w1.cell? ⟨w.heap.size + 1 + 1 + 1, 4, none⟩ = some (.slice none 0 0) := hk1.some (by go_simp) id
       have v0 : w1.cell? ⟨w.heap.size + 1, 0, none⟩ = some (.int .u32 s) := hk1.some (by go_simp) id
       have v1 : w1.cell? ⟨w.heap.size + 1, 1, none⟩ = some (.int .i64 z) := hk1.some (by go_simp) id
       have v2 : w1.cell? ⟨w.heap.size + 1, 2, none⟩ = some (.float .f32 S) := hk1.some (by go_simp) id
       have v3 : w1.cell? ⟨w.heap.size + 1, 3, none⟩ = some (.float .f32 F) := hk1.some (by go_simp) id
       have v4 : w1.cell? ⟨w.heap.size + 1, 4, none⟩ = some (.bool m) := hk1.some (by go_simp) id
       have n0 : w1.cell? ⟨w.heap.size + 1 + 1, 0, none⟩ = some (.int .i64 number) := hk1.some (by go_simp) id
       have r0 : w1.cell? ⟨w.heap.size, 0, none⟩ = some (.int .i64 x) := hk1.some (by go_simp) id
       have r1 : w1.cell? ⟨w.heap.size, 1, none⟩ = some (.int .i64 y) := hk1.some (by go_simp) id
       have r2 : w1.cell? ⟨w.heap.size, 2, none⟩ = some (.int .i64 W) := hk1.some (by go_simp) id
       have r3 : w1.cell? ⟨w.heap.size, 3, none⟩ = some (.int .i64 H) := hk1.some (by go_simp) id
       have r4 : w1.cell? ⟨w.heap.size, 4, none⟩ = some (.slice A n cap) := hk1.some (by go_simp) id
       have zz : ∀ a : Addr, w.heap.size ≤ a.block → w1.frozen? a = false := fun a ha => (hk1.frozen a).trans ((frozen?_alloc_cells _ _ _ _).trans ((frozen?_alloc_cells _ _ _ _).trans ((frozen?_alloc_cells _ _ _ _).trans ((frozen?_alloc_cells _ _ _ _).trans (frozen_new _ _ ha)))))
       have f0 := zz ⟨w.heap.size + 1 + 1 + 1, 0, none⟩ (by simp; omega)
       have f1 := zz ⟨w.heap.size + 1 + 1 + 1, 1, none⟩ (by simp; omega)
       have f2 := zz ⟨w.heap.size + 1 + 1 + 1, 2, none⟩ (by simp; omega)
       have f3 := zz ⟨w.heap.size + 1 + 1 + 1, 3, none⟩ (by simp; omega)
       have f4 := zz ⟨w.heap.size + 1 + 1 + 1, 4, none⟩ (by simp; omega)
       have K1 := Lib.hid ((((((Kept.refl None' w).alloc _ _).alloc _ _).alloc _ _).alloc _ _).trans hk1)
       clear hk1 zz)
    | fail
    | fail)
  refine bodyPost_ret (fr_ret2 Try.results42 _ _ (w.heap.size + 1 + 1 + 1) _ _ _ _ _ (cells_set5 s0 s1 s2 s3 s4) rfl) rfl ?_
  exact ⟨rfl, kept_set5 K1.out (by omega)⟩
set_option linter.unusedSimpArgs false in
set_option linter.unusedVariables false in
set_option maxHeartbeats 4000000 in
set_option maxRecDepth 100000 in
theorem grain_e2 (x y W H : Int) (A : Option Addr) (n cap : Nat) (s z : Int) (S F : Nat) (m : Bool) (number : Int) (w : World) (E : Int) (hE : frE x y W H n = 0) (hG : grE z S F = E) (h0 : ¬ E = 0) :
    Calls Try.prog 42 #[.agg #[.int .i64 x, .int .i64 y, .int .i64 W, .int .i64 H, .slice A n cap], .agg #[.int .u32 s, .int .i64 z, .float .f32 S, .float .f32 F, .bool m], .int .i64 number] w (ErrPost E w) := by
  have hb : (E != 0) = true := by simp [h0]
  go_enter Try.func42, Try.ntmps42
  go_wp2_with (first
    | (go_at_call 76; refine (check_any _ _ _ _ _ _ _ _).mono ?_; rw [hE]; rintro e w1 ⟨rfl, hk1⟩
       have s0 : w1.cell? ⟨w.heap.size + 1 + 1 + 1, 0, none⟩ = some (.int .i64 0) := hk1.some (by go_simp) id
       have s1 : w1.cell? ⟨w.heap.size + 1 + 1 + 1, 1, none⟩ = some (.int .i64 0) := hk1.some (by go_simp) id
       have s2 : w1.cell? ⟨w.heap.size + 1 + 1 + 1, 2, none⟩ = some (.int .i64 0) := hk1.some (by go_simp) id
       have s3 : w1.cell? ⟨w.heap.size + 1 + 1 + 1, 3, none⟩ = some (.int .i64 0) := hk1.some (by go_simp) id
       have s4 : w1.cell? ⟨w.heap.size + 1 + 1 + 1, 4, none⟩ = some (.slice none 0 0) := hk1.some (by go_simp) id
       have v0 : w1.cell? ⟨w.heap.size + 1, 0, none⟩ = some (.int .u32 s) := hk1.some (by go_simp) id
       have v1 : w1.cell? ⟨w.heap.size + 1, 1, none⟩ = some (.int .i64 z) := hk1.some (by go_simp) id
       have v2 : w1.cell? ⟨w.heap.size + 1, 2, none⟩ = some (.float .f32 S) := hk1.some (by go_simp) id
       have v3 : w1.cell? ⟨w.heap.size + 1, 3, none⟩ = some (.float .f32 F) := hk1.some (by go_simp) id
       have v4 : w1.cell? ⟨w.heap.size + 1, 4, none⟩ = some (.bool m) := hk1.some (by go_simp) id
       have n0 : w1.cell? ⟨w.heap.size + 1 + 1, 0, none⟩ = some (.int .i64 number) := hk1.some (by go_simp) id
       have r0 : w1.cell? ⟨w.heap.size, 0, none⟩ = some (.int .i64 x) := hk1.some (by go_simp) id
       have r1 : w1.cell? ⟨w.heap.size, 1, none⟩ = some (.int .i64 y) := hk1.some (by go_simp) id
       have r2 : w1.cell? ⟨w.heap.size, 2, none⟩ = some (.int .i64 W) := hk1.some (by go_simp) id
       have r3 : w1.cell? ⟨w.heap.size, 3, none⟩ = some (.int .i64 H) := hk1.some (by go_simp) id
       have r4 : w1.cell? ⟨w.heap.size, 4, none⟩ = some (.slice A n cap) := hk1.some (by go_simp) id
       have zz : ∀ a : Addr, w.heap.size ≤ a.block → w1.frozen? a = false := fun a ha => (hk1.frozen a).trans ((frozen?_alloc_cells _ _ _ _).trans ((frozen?_alloc_cells _ _ _ _).trans ((frozen?_alloc_cells _ _ _ _).trans ((frozen?_alloc_cells _ _ _ _).trans (frozen_new _ _ ha)))))
       have f0 := zz ⟨w.heap.size + 1 + 1 + 1, 0, none⟩ (by simp; omega)
       have f1 := zz ⟨w.heap.size + 1 + 1 + 1, 1, none⟩ (by simp; omega)
       have f2 := zz ⟨w.heap.size + 1 + 1 + 1, 2, none⟩ (by simp; omega)
       have f3 := zz ⟨w.heap.size + 1 + 1 + 1, 3, none⟩ (by simp; omega)
       have f4 := zz ⟨w.heap.size + 1 + 1 + 1, 4, none⟩ (by simp; omega)
       have K1 := Lib.hid ((((((Kept.refl None' w).alloc _ _).alloc _ _).alloc _ _).alloc _ _).trans hk1)
       clear hk1 zz)
    | (go_at_call 44; refine (checkgrain_any _ _ _ _ _ _).mono ?_; rw [hG]; rintro e w2 ⟨rfl, k2⟩
       have s0 := k2.some s0 id
       have s1 := k2.some s1 id
       have s2 := k2.some s2 id
       have s3 := k2.some s3 id
       have s4 := k2.some s4 id
       have v0 := k2.some v0 id
       have v1 := k2.some v1 id
       have v2 := k2.some v2 id
       have v3 := k2.some v3 id
       have v4 := k2.some v4 id
       have n0 := k2.some n0 id
       have r0 := k2.some r0 id
       have r1 := k2.some r1 id
       have r2 := k2.some r2 id
       have r3 := k2.some r3 id
       have r4 := k2.some r4 id
       have f0 := (k2.frozen _).trans f0
       have f1 := (k2.frozen _).trans f1
       have f2 := (k2.frozen _).trans f2
       have f3 := (k2.frozen _).trans f3
       have f4 := (k2.frozen _).trans f4
       have K2 := Lib.hid (K1.out.trans k2)
       clear k2)
    | fail)
  refine bodyPost_ret (fr_ret2 Try.results42 _ _ (w.heap.size + 1 + 1 + 1) _ _ _ _ _ (cells_set5 s0 s1 s2 s3 s4) rfl) rfl ?_
  exact ⟨rfl, kept_set5 K2.out (by omega)⟩
set_option linter.unusedSimpArgs false in
set_option linter.unusedVariables false in
set_option maxHeartbeats 4000000 in
set_option maxRecDepth 100000 in
theorem grain_ok (x y W H : Int) (b o n cap : Nat) (q : Nat → Nat) (s z : Int) (S F : Nat) (m : Bool) (number : Int) (w : World) (hE : frE x y W H n = 0) (hG : grE z S F = 0) (hc : ∀ i, i < n → w.cell? ⟨b, o + i, none⟩ = some (.float .f32 (q i))) (hcap : n ≤ cap) (hcap2 : cap ≤ maxLen) :
    Calls Try.prog 42 #[.agg #[.int .i64 x, .int .i64 y, .int .i64 W, .int .i64 H, .slice (some ⟨b, o, none⟩) n cap], .agg #[.int .u32 s, .int .i64 z, .float .f32 S, .float .f32 F, .bool m], .int .i64 number] w (FrGot x y W H n (mapG (gF s z S F m number) x y W q) w) := by
  obtain ⟨hR, hn⟩ := frE_ok hE
  obtain ⟨hz, -⟩ := grE_z hG
  have HC := Lib.hid hc
  clear hc
  go_enter Try.func42, Try.ntmps42
  go_wp2_with (first
    | (go_at_call 76; refine (check_any _ _ _ _ _ _ _ _).mono ?_; rw [hE]; rintro e w1 ⟨rfl, hk1⟩
       have s0 : w1.cell? ⟨w.heap.size + 1 + 1 + 1, 0, none⟩ = some (.int .i64 0) := hk1.some (by go_simp) id
       have s1 : w1.cell? ⟨w.heap.size + 1 + 1 + 1, 1, none⟩ = some (.int .i64 0) := hk1.some (by go_simp) id
       have s2 : w1.cell? ⟨w.heap.size + 1 + 1 + 1, 2, none⟩ = some (.int .i64 0) := hk1.some (by go_simp) id
       have s3 : w1.cell? ⟨w.heap.size + 1 + 1 + 1, 3, none⟩ = some (.int .i64 0) := hk1.some (by go_simp) id
       have s4 : w1.cell? ⟨w.heap.size + 1 + 1 + 1, 4, none⟩ = some (.slice none 0 0) := hk1.some (by go_simp) id
       have v0 : w1.cell? ⟨w.heap.size + 1, 0, none⟩ = some (.int .u32 s) := hk1.some (by go_simp) id
       have v1 : w1.cell? ⟨w.heap.size + 1, 1, none⟩ = some (.int .i64 z) := hk1.some (by go_simp) id
       have v2 : w1.cell? ⟨w.heap.size + 1, 2, none⟩ = some (.float .f32 S) := hk1.some (by go_simp) id
       have v3 : w1.cell? ⟨w.heap.size + 1, 3, none⟩ = some (.float .f32 F) := hk1.some (by go_simp) id
       have v4 : w1.cell? ⟨w.heap.size + 1, 4, none⟩ = some (.bool m) := hk1.some (by go_simp) id
       have n0 : w1.cell? ⟨w.heap.size + 1 + 1, 0, none⟩ = some (.int .i64 number) := hk1.some (by go_simp) id
       have r0 : w1.cell? ⟨w.heap.size, 0, none⟩ = some (.int .i64 x) := hk1.some (by go_simp) id
       have r1 : w1.cell? ⟨w.heap.size, 1, none⟩ = some (.int .i64 y) := hk1.some (by go_simp) id
       have r2 : w1.cell? ⟨w.heap.size, 2, none⟩ = some (.int .i64 W) := hk1.some (by go_simp) id
       have r3 : w1.cell? ⟨w.heap.size, 3, none⟩ = some (.int .i64 H) := hk1.some (by go_simp) id
       have r4 : w1.cell? ⟨w.heap.size, 4, none⟩ = some (.slice (some ⟨b, o, none⟩) n cap) := hk1.some (by go_simp) id
       have zz : ∀ a : Addr, w.heap.size ≤ a.block → w1.frozen? a = false := fun a ha => (hk1.frozen a).trans ((frozen?_alloc_cells _ _ _ _).trans ((frozen?_alloc_cells _ _ _ _).trans ((frozen?_alloc_cells _ _ _ _).trans ((frozen?_alloc_cells _ _ _ _).trans (frozen_new _ _ ha)))))
       have f0 := zz ⟨w.heap.size + 1 + 1 + 1, 0, none⟩ (by simp; omega)
       have f1 := zz ⟨w.heap.size + 1 + 1 + 1, 1, none⟩ (by simp; omega)
       have f2 := zz ⟨w.heap.size + 1 + 1 + 1, 2, none⟩ (by simp; omega)
       have f3 := zz ⟨w.heap.size + 1 + 1 + 1, 3, none⟩ (by simp; omega)
       have f4 := zz ⟨w.heap.size + 1 + 1 + 1, 4, none⟩ (by simp; omega)
       have K1 := Lib.hid ((((((Kept.refl None' w).alloc _ _).alloc _ _).alloc _ _).alloc _ _).trans hk1)
       clear hk1 zz)
    | (go_at_call 44; refine (checkgrain_any _ _ _ _ _ _).mono ?_; rw [hG]; rintro e w2 ⟨rfl, k2⟩
       have s0 := k2.some s0 id
       have s1 := k2.some s1 id
       have s2 := k2.some s2 id
       have s3 := k2.some s3 id
       have s4 := k2.some s4 id
       have v0 := k2.some v0 id
       have v1 := k2.some v1 id
       have v2 := k2.some v2 id
       have v3 := k2.some v3 id
       have v4 := k2.some v4 id
       have n0 := k2.some n0 id
       have r0 := k2.some r0 id
       have r1 := k2.some r1 id
       have r2 := k2.some r2 id
       have r3 := k2.some r3 id
       have r4 := k2.some r4 id
       have f0 := (k2.frozen _).trans f0
       have f1 := (k2.frozen _).trans f1
       have f2 := (k2.frozen _).trans f2
       have f3 := (k2.frozen _).trans f3
       have f4 := (k2.frozen _).trans f4
       have K2 := Lib.hid (K1.out.trans k2)
       clear k2)
    | (go_at_call 78
       refine (mapped_gen x y W H b o n cap q 84 #[.pointer (some ⟨w.heap.size + 1, 0, none⟩), .pointer (some ⟨w.heap.size + 1 + 1, 0, none⟩)] (gF s z S F m number) _ hR hn (fun i hi => K2.out.some (HC.out i hi) id) hcap hcap2 Try.call84 (gr_maps s z S F m number _ _ _ hz ⟨v0, v1, v2, v3, v4, n0⟩)).mono ?_
       rintro e w4 ⟨B, hB, rfl, hk4, hz4⟩
       have L2 := cell_lt s0
       have s0 := hk4.some s0 id
       have s1 := hk4.some s1 id
       have s2 := hk4.some s2 id
       have s3 := hk4.some s3 id
       have s4 := hk4.some s4 id
       have f0 := (hk4.frozen _).trans f0
       have f1 := (hk4.frozen _).trans f1
       have f2 := (hk4.frozen _).trans f2
       have f3 := (hk4.frozen _).trans f3
       have f4 := (hk4.frozen _).trans f4
       have HB : w.heap.size + 1 + 1 + 1 < B := Nat.lt_of_lt_of_le L2 hB
       have K4 := Lib.hid (K2.out.trans hk4)
       have HZ := Lib.hid hz4
       clear hk4 hz4 hB)
    | fail)
  refine bodyPost_ret (fr_ret2 Try.results42 _ _ (w.heap.size + 1 + 1 + 1) _ _ _ _ _ (cells_set5 s0 s1 s2 s3 s4) rfl) rfl ?_
  refine ⟨B, by omega, rfl, kept_set5 K4.out (by omega), fun j hj => ?_⟩
  exact cell_set_ne (cell_set_ne (cell_set_ne (cell_set_ne (cell_set_ne (HZ.out j hj) (Or.inl (by omega))) (Or.inl (by omega))) (Or.inl (by omega))) (Or.inl (by omega))) (Or.inl (by omega))
end Go.Proofs.Ytfphhlodfieopaa
