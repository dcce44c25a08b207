/- The contract of Clip. Conditions: none. -/
import Derived.Test.YtfphhlodfieopaaGz
namespace Go.Proofs.Ytfphhlodfieopaa
open Go.RowKit
open Fl Fr

theorem px_ret3 {fn : Func} {t u x : Tmp} (hr : fn.results = #[.cell t 42, .tmp u, .tmp x]) (W : World) (tmps : Array Value) (B : Nat) (v0 v1 v2 v3 : Value) (e0 : W.cell? ⟨B, 0, none⟩ = some v0) (e1 : W.cell? ⟨B, 1, none⟩ = some v1) (e2 : W.cell? ⟨B, 2, none⟩ = some v2) (e3 : W.cell? ⟨B, 3, none⟩ = some v3)
    (ht : tmps[t]?.getD undef = .pointer (some ⟨B, 0, none⟩)) : (results fn tmps).run Try.prog W = .ok (.tuple #[.agg #[v0, v1, v2, v3], tmps.getD u undef, tmps.getD x undef]) W := by
  simp [results, hr, go_sem, ht, e0, e1, e2, e3]
  try rfl

set_option linter.unusedSimpArgs false in
set_option maxHeartbeats 8000000 in
set_option maxRecDepth 100000 in
theorem clip_any (p0 p1 p2 p3 lo hi : Nat) (w : World) :
    Calls Try.prog 24 #[.agg #[.float .f32 p0, .float .f32 p1, .float .f32 p2, .float .f32 p3], .float .f32 lo, .float .f32 hi] w fun e w' =>
      e = .returned (if isN lo && isN hi then if FloatKind.f32.format.order hi lo == some .lt then .tuple #[.agg #[.float .f32 0, .float .f32 0, .float .f32 0, .float .f32 0], .int .i64 0, .int .i64 8]
          else .tuple #[.agg #[.float .f32 (limP p0 lo hi), .float .f32 (limP p1 lo hi), .float .f32 (limP p2 lo hi), .float .f32 (cl .f32 p3)], .int .i64 (clipN p0 lo hi + clipN p1 lo hi + clipN p2 lo hi), .int .i64 0]
        else .tuple #[.agg #[.float .f32 0, .float .f32 0, .float .f32 0, .float .f32 0], .int .i64 0, .int .i64 2]) ∧ Grown w w' := by
  cases hn : isN lo && isN hi with
  | false =>
    simp only [Bool.false_eq_true, if_false]
    go_enter Try.func24, Try.ntmps24
    go_wp2_with (first
      | (go_at_call 65; refine (allnum2_any _ _ lo hi _ (by go_simp) (by go_simp)).mono ?_; rw [hn]; rintro e w' ⟨rfl, rfl⟩)
      | fail)
    go_returns
    exact ⟨rfl, by go_grown⟩
  | true =>
    cases hl : FloatKind.f32.format.order hi lo == some .lt with
    | true =>
      go_enter Try.func24, Try.ntmps24
      go_wp2_with (first
        | (go_at_call 65; refine (allnum2_any _ _ lo hi _ (by go_simp) (by go_simp)).mono ?_; rw [hn]; rintro e w' ⟨rfl, rfl⟩)
        | fail)
      go_returns
      exact ⟨rfl, by go_grown⟩
    | false =>
      simp only [Bool.false_eq_true, if_false, if_true]
      go_enter Try.func24, Try.ntmps24
      go_wp2_with (first
        | (go_at_call 65; refine (allnum2_any _ _ lo hi _ (by go_simp) (by go_simp)).mono ?_; rw [hn]; rintro e w' ⟨rfl, rfl⟩)
        | fail)
      refine (three_clip p0 p1 p2 p3 lo hi _ _ _ _ (by go_simp) (by go_simp) (by go_simp) (by go_simp) (by omega) (by omega)).mono ?_
      rintro e w4 ⟨rfl, hK, hM⟩
      have r0 : w4.cell? ⟨w.heap.size + 1 + 1 + 1, 0, none⟩ = some (.float .f32 0) := hK.some (by go_simp) (by simp)
      have r1 : w4.cell? ⟨w.heap.size + 1 + 1 + 1, 1, none⟩ = some (.float .f32 0) := hK.some (by go_simp) (by simp)
      have r2 : w4.cell? ⟨w.heap.size + 1 + 1 + 1, 2, none⟩ = some (.float .f32 0) := hK.some (by go_simp) (by simp)
      have r3 : w4.cell? ⟨w.heap.size + 1 + 1 + 1, 3, none⟩ = some (.float .f32 0) := hK.some (by go_simp) (by simp)
      have z : ∀ j, w4.frozen? ⟨w.heap.size + 1 + 1 + 1, j, none⟩ = false := fun j => (hK.frozen _).trans (by simp only [frozen?_alloc_cells, World.frozen?_setCell]; exact frozen_new _ _ (by simp; omega))
      have z0 := z 0
      have z1 := z 1
      have z2 := z 2
      have z3 := z 3
      have hs := hK.size
      simp only [World.size_alloc] at hs
      have ne1 : ¬ w.heap.size + 1 + 1 + 1 = w4.heap.size := by omega
      have ne2 : ¬ w4.heap.size = w.heap.size + 1 + 1 + 1 := by omega
      have ne3 : ¬ w.heap.size + 1 + 1 + 1 + 1 + 1 = w4.heap.size := by omega
      have ne4 : ¬ w4.heap.size = w.heap.size + 1 + 1 + 1 + 1 + 1 := by omega
      have HK := Lib.hid hK
      have HS := Lib.hid hs
      clear hK z hs
      go_wp2_with fail
      have q0 : (w4.alloc (.cells #[.float .f32 (limP p0 lo hi), .float .f32 (limP p1 lo hi), .float .f32 (limP p2 lo hi), .float .f32 (cl .f32 p3)] 42)).cell? ⟨w.heap.size + 1 + 1 + 1, 0, none⟩ = some (.float .f32 0) := (World.cell?_alloc_old _ _ _ ne1).trans r0
      have y0 : (w4.alloc (.cells #[.float .f32 (limP p0 lo hi), .float .f32 (limP p1 lo hi), .float .f32 (limP p2 lo hi), .float .f32 (cl .f32 p3)] 42)).frozen? ⟨w.heap.size + 1 + 1 + 1, 0, none⟩ = false := (frozen?_alloc_cells _ _ _ _).trans z0
      have q1 : (w4.alloc (.cells #[.float .f32 (limP p0 lo hi), .float .f32 (limP p1 lo hi), .float .f32 (limP p2 lo hi), .float .f32 (cl .f32 p3)] 42)).cell? ⟨w.heap.size + 1 + 1 + 1, 1, none⟩ = some (.float .f32 0) := (World.cell?_alloc_old _ _ _ ne1).trans r1
      have y1 : (w4.alloc (.cells #[.float .f32 (limP p0 lo hi), .float .f32 (limP p1 lo hi), .float .f32 (limP p2 lo hi), .float .f32 (cl .f32 p3)] 42)).frozen? ⟨w.heap.size + 1 + 1 + 1, 1, none⟩ = false := (frozen?_alloc_cells _ _ _ _).trans z1
      have q2 : (w4.alloc (.cells #[.float .f32 (limP p0 lo hi), .float .f32 (limP p1 lo hi), .float .f32 (limP p2 lo hi), .float .f32 (cl .f32 p3)] 42)).cell? ⟨w.heap.size + 1 + 1 + 1, 2, none⟩ = some (.float .f32 0) := (World.cell?_alloc_old _ _ _ ne1).trans r2
      have y2 : (w4.alloc (.cells #[.float .f32 (limP p0 lo hi), .float .f32 (limP p1 lo hi), .float .f32 (limP p2 lo hi), .float .f32 (cl .f32 p3)] 42)).frozen? ⟨w.heap.size + 1 + 1 + 1, 2, none⟩ = false := (frozen?_alloc_cells _ _ _ _).trans z2
      have q3 : (w4.alloc (.cells #[.float .f32 (limP p0 lo hi), .float .f32 (limP p1 lo hi), .float .f32 (limP p2 lo hi), .float .f32 (cl .f32 p3)] 42)).cell? ⟨w.heap.size + 1 + 1 + 1, 3, none⟩ = some (.float .f32 0) := (World.cell?_alloc_old _ _ _ ne1).trans r3
      have y3 : (w4.alloc (.cells #[.float .f32 (limP p0 lo hi), .float .f32 (limP p1 lo hi), .float .f32 (limP p2 lo hi), .float .f32 (cl .f32 p3)] 42)).frozen? ⟨w.heap.size + 1 + 1 + 1, 3, none⟩ = false := (frozen?_alloc_cells _ _ _ _).trans z3
      have qM : (w4.alloc (.cells #[.float .f32 (limP p0 lo hi), .float .f32 (limP p1 lo hi), .float .f32 (limP p2 lo hi), .float .f32 (cl .f32 p3)] 42)).cell? ⟨w.heap.size + 1 + 1 + 1 + 1 + 1, 0, none⟩ = some (.int .i64 (clipN p0 lo hi + clipN p1 lo hi + clipN p2 lo hi)) := (World.cell?_alloc_old _ _ _ ne3).trans hM
      go_region
      go_wp2_with fail
      (try simp only [Exit.inBlock, Exit.then])
      have hw : Grown w w4 := Kept.grown (A := fun i => i = w.heap.size + 1 + 1 + 1 + 1 + 1) (((((((Kept.refl _ w).alloc _ _).alloc _ _).alloc _ _).alloc _ _).alloc _ _).alloc _ _ |>.trans HK.out) (fun i hi x => by omega)
      have cs := cells_set4 (v0 := .float .f32 (limP p0 lo hi)) (v1 := .float .f32 (limP p1 lo hi)) (v2 := .float .f32 (limP p2 lo hi)) (v3 := .float .f32 (cl .f32 p3)) q0 q1 q2 q3
      refine bodyPost_ret (px_ret3 Try.results24 _ _ (w.heap.size + 1 + 1 + 1) _ _ _ _ cs.1 cs.2.1 cs.2.2.1 cs.2.2.2 rfl) rfl ?_
      exact ⟨rfl, by go_grown⟩
end Go.Proofs.Ytfphhlodfieopaa
