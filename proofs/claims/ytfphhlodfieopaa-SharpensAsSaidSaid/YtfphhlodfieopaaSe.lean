/- Sharpen: its errors, and its right way. Conditions: none. -/
import Derived.Test.YtfphhlodfieopaaSk
import Derived.Test.YtfphhlodfieopaaVw
import Derived.Laws.EntriesVeiled
namespace Go.Proofs.Ytfphhlodfieopaa
open Go.RowKit
open Fl Fr
open BigFrame

set_option linter.unusedSimpArgs false in
set_option linter.unusedVariables false in
set_option maxHeartbeats 4000000 in
set_option maxRecDepth 100000 in
theorem sharp_e1 (x y W H : Int) (A : Option Addr) (n cap : Nat) (am le : Nat) (w : World) (E : Int) (hF : frE x y W H n = E) (h0 : ¬ E = 0) :
    Calls Try.prog 32 #[.agg #[.int .i64 x, .int .i64 y, .int .i64 W, .int .i64 H, .slice A n cap], .float .f32 am, .float .f32 le] w (ErrPost E w) := by
  have hb : (E != 0) = true := by simp [h0]
  have HF := Lib.hid hF
  clear hF
  go_enter Try.func32, Try.ntmps32
  go_upto_region 1 with (fail)
  refine of_world (fun W0 hW => ?_)
  have k0 : Kept None' w W0 := by rw [hW]; exact ((((Kept.refl None' w).alloc _ _).alloc _ _).alloc _ _).alloc _ _
  have f0 : W0.cell? ⟨w.heap.size, 0, none⟩ = some (.int .i64 x) := by rw [hW]; go_simp
  have f1 : W0.cell? ⟨w.heap.size, 1, none⟩ = some (.int .i64 y) := by rw [hW]; go_simp
  have f2 : W0.cell? ⟨w.heap.size, 2, none⟩ = some (.int .i64 W) := by rw [hW]; go_simp
  have f3 : W0.cell? ⟨w.heap.size, 3, none⟩ = some (.int .i64 H) := by rw [hW]; go_simp
  have f4 : W0.cell? ⟨w.heap.size, 4, none⟩ = some (.slice A n cap) := by rw [hW]; go_simp
  have a0 : W0.cell? ⟨w.heap.size + 1, 0, none⟩ = some (.float .f32 am) := by rw [hW]; go_simp
  have l0 : W0.cell? ⟨w.heap.size + 1 + 1, 0, none⟩ = some (.float .f32 le) := by rw [hW]; go_simp
  have s0 : W0.cell? ⟨w.heap.size + 1 + 1 + 1, 0, none⟩ = some (.int .i64 0) := by rw [hW]; go_simp
  have s1 : W0.cell? ⟨w.heap.size + 1 + 1 + 1, 1, none⟩ = some (.int .i64 0) := by rw [hW]; go_simp
  have s2 : W0.cell? ⟨w.heap.size + 1 + 1 + 1, 2, none⟩ = some (.int .i64 0) := by rw [hW]; go_simp
  have s3 : W0.cell? ⟨w.heap.size + 1 + 1 + 1, 3, none⟩ = some (.int .i64 0) := by rw [hW]; go_simp
  have s4 : W0.cell? ⟨w.heap.size + 1 + 1 + 1, 4, none⟩ = some (.slice none 0 0) := by rw [hW]; go_simp
  have zz : ∀ a : Addr, w.heap.size ≤ a.block → W0.frozen? a = false := fun a ha => by rw [hW]; exact (frozen?_alloc_cells _ _ _ _).trans ((frozen?_alloc_cells _ _ _ _).trans ((frozen?_alloc_cells _ _ _ _).trans ((frozen?_alloc_cells _ _ _ _).trans (frozen_new _ _ ha))))
  have Z0 := Lib.hid zz
  have K0 := Lib.hid k0
  clear hW zz k0
  go_upto_region 2 with (first
    | (go_at_call 76; refine (check_any _ _ _ _ _ _ _ _).mono ?_; rw [HF.out]; rintro e w1 ⟨rfl, hk1⟩)
    | fail)
  have f0 := hk1.some f0 id
  have f1 := hk1.some f1 id
  have f2 := hk1.some f2 id
  have f3 := hk1.some f3 id
  have f4 := hk1.some f4 id
  have a0 := hk1.some a0 id
  have l0 := hk1.some l0 id
  have s0 := hk1.some s0 id
  have s1 := hk1.some s1 id
  have s2 := hk1.some s2 id
  have s3 := hk1.some s3 id
  have s4 := hk1.some s4 id
  have z0 := (hk1.frozen ⟨w.heap.size + 1 + 1 + 1, 0, none⟩).trans (Z0.out ⟨w.heap.size + 1 + 1 + 1, 0, none⟩ (by simp; omega))
  have z1 := (hk1.frozen ⟨w.heap.size + 1 + 1 + 1, 1, none⟩).trans (Z0.out ⟨w.heap.size + 1 + 1 + 1, 1, none⟩ (by simp; omega))
  have z2 := (hk1.frozen ⟨w.heap.size + 1 + 1 + 1, 2, none⟩).trans (Z0.out ⟨w.heap.size + 1 + 1 + 1, 2, none⟩ (by simp; omega))
  have z3 := (hk1.frozen ⟨w.heap.size + 1 + 1 + 1, 3, none⟩).trans (Z0.out ⟨w.heap.size + 1 + 1 + 1, 3, none⟩ (by simp; omega))
  have z4 := (hk1.frozen ⟨w.heap.size + 1 + 1 + 1, 4, none⟩).trans (Z0.out ⟨w.heap.size + 1 + 1 + 1, 4, none⟩ (by simp; omega))
  have K1 := Lib.hid (K0.out.trans hk1)
  clear hk1
  go_wp2_with fail
  refine bodyPost_ret (fr_ret2 Try.results32 _ _ (w.heap.size + 1 + 1 + 1) _ _ _ _ _ (cells_set5 s0 s1 s2 s3 s4) rfl) rfl ?_
  exact ⟨rfl, kept_set5 K1.out (by omega)⟩
set_option linter.unusedSimpArgs false in
set_option linter.unusedVariables false in
set_option maxHeartbeats 4000000 in
set_option maxRecDepth 100000 in
theorem sharp_e2 (x y W H : Int) (A : Option Addr) (n cap : Nat) (am le : Nat) (w : World) (hF : frE x y W H n = 0) (hN : (isN am && isN le) = false) :
    Calls Try.prog 32 #[.agg #[.int .i64 x, .int .i64 y, .int .i64 W, .int .i64 H, .slice A n cap], .float .f32 am, .float .f32 le] w (ErrPost 2 w) := by
  have HF := Lib.hid hF
  clear hF
  go_enter Try.func32, Try.ntmps32
  go_upto_region 1 with (fail)
  refine of_world (fun W0 hW => ?_)
  have k0 : Kept None' w W0 := by rw [hW]; exact ((((Kept.refl None' w).alloc _ _).alloc _ _).alloc _ _).alloc _ _
  have f0 : W0.cell? ⟨w.heap.size, 0, none⟩ = some (.int .i64 x) := by rw [hW]; go_simp
  have f1 : W0.cell? ⟨w.heap.size, 1, none⟩ = some (.int .i64 y) := by rw [hW]; go_simp
  have f2 : W0.cell? ⟨w.heap.size, 2, none⟩ = some (.int .i64 W) := by rw [hW]; go_simp
  have f3 : W0.cell? ⟨w.heap.size, 3, none⟩ = some (.int .i64 H) := by rw [hW]; go_simp
  have f4 : W0.cell? ⟨w.heap.size, 4, none⟩ = some (.slice A n cap) := by rw [hW]; go_simp
  have a0 : W0.cell? ⟨w.heap.size + 1, 0, none⟩ = some (.float .f32 am) := by rw [hW]; go_simp
  have l0 : W0.cell? ⟨w.heap.size + 1 + 1, 0, none⟩ = some (.float .f32 le) := by rw [hW]; go_simp
  have s0 : W0.cell? ⟨w.heap.size + 1 + 1 + 1, 0, none⟩ = some (.int .i64 0) := by rw [hW]; go_simp
  have s1 : W0.cell? ⟨w.heap.size + 1 + 1 + 1, 1, none⟩ = some (.int .i64 0) := by rw [hW]; go_simp
  have s2 : W0.cell? ⟨w.heap.size + 1 + 1 + 1, 2, none⟩ = some (.int .i64 0) := by rw [hW]; go_simp
  have s3 : W0.cell? ⟨w.heap.size + 1 + 1 + 1, 3, none⟩ = some (.int .i64 0) := by rw [hW]; go_simp
  have s4 : W0.cell? ⟨w.heap.size + 1 + 1 + 1, 4, none⟩ = some (.slice none 0 0) := by rw [hW]; go_simp
  have zz : ∀ a : Addr, w.heap.size ≤ a.block → W0.frozen? a = false := fun a ha => by rw [hW]; exact (frozen?_alloc_cells _ _ _ _).trans ((frozen?_alloc_cells _ _ _ _).trans ((frozen?_alloc_cells _ _ _ _).trans ((frozen?_alloc_cells _ _ _ _).trans (frozen_new _ _ ha))))
  have Z0 := Lib.hid zz
  have K0 := Lib.hid k0
  clear hW zz k0
  go_upto_region 2 with (first
    | (go_at_call 76; refine (check_any _ _ _ _ _ _ _ _).mono ?_; rw [HF.out]; rintro e w1 ⟨rfl, hk1⟩)
    | fail)
  have f0 := hk1.some f0 id
  have f1 := hk1.some f1 id
  have f2 := hk1.some f2 id
  have f3 := hk1.some f3 id
  have f4 := hk1.some f4 id
  have a0 := hk1.some a0 id
  have l0 := hk1.some l0 id
  have s0 := hk1.some s0 id
  have s1 := hk1.some s1 id
  have s2 := hk1.some s2 id
  have s3 := hk1.some s3 id
  have s4 := hk1.some s4 id
  have z0 := (hk1.frozen ⟨w.heap.size + 1 + 1 + 1, 0, none⟩).trans (Z0.out ⟨w.heap.size + 1 + 1 + 1, 0, none⟩ (by simp; omega))
  have z1 := (hk1.frozen ⟨w.heap.size + 1 + 1 + 1, 1, none⟩).trans (Z0.out ⟨w.heap.size + 1 + 1 + 1, 1, none⟩ (by simp; omega))
  have z2 := (hk1.frozen ⟨w.heap.size + 1 + 1 + 1, 2, none⟩).trans (Z0.out ⟨w.heap.size + 1 + 1 + 1, 2, none⟩ (by simp; omega))
  have z3 := (hk1.frozen ⟨w.heap.size + 1 + 1 + 1, 3, none⟩).trans (Z0.out ⟨w.heap.size + 1 + 1 + 1, 3, none⟩ (by simp; omega))
  have z4 := (hk1.frozen ⟨w.heap.size + 1 + 1 + 1, 4, none⟩).trans (Z0.out ⟨w.heap.size + 1 + 1 + 1, 4, none⟩ (by simp; omega))
  have K1 := Lib.hid (K0.out.trans hk1)
  clear hk1
  go_upto_region 5 with (first
    | (go_at_call 65; refine (allnum2_any _ _ am le _ (by go_simp) (by go_simp)).mono ?_; rw [hN]; rintro e w' ⟨rfl, rfl⟩)
    | fail)
  refine of_world (fun W2 hW => ?_)
  have k2 : Kept None' w1 W2 := by rw [hW]; exact (Kept.refl None' w1).alloc _ _
  have f0 := k2.some f0 id
  have f1 := k2.some f1 id
  have f2 := k2.some f2 id
  have f3 := k2.some f3 id
  have f4 := k2.some f4 id
  have a0 := k2.some a0 id
  have l0 := k2.some l0 id
  have s0 := k2.some s0 id
  have s1 := k2.some s1 id
  have s2 := k2.some s2 id
  have s3 := k2.some s3 id
  have s4 := k2.some s4 id
  have z0 := (k2.frozen _).trans z0
  have z1 := (k2.frozen _).trans z1
  have z2 := (k2.frozen _).trans z2
  have z3 := (k2.frozen _).trans z3
  have z4 := (k2.frozen _).trans z4
  have K1 := Lib.hid (K1.out.trans k2)
  clear hW k2
  go_wp2_with fail
  refine bodyPost_ret (fr_ret2 Try.results32 _ _ (w.heap.size + 1 + 1 + 1) _ _ _ _ _ (cells_set5 s0 s1 s2 s3 s4) rfl) rfl ?_
  exact ⟨rfl, kept_set5 K1.out (by omega)⟩
set_option linter.unusedSimpArgs false in
set_option linter.unusedVariables false in
set_option maxHeartbeats 4000000 in
set_option maxRecDepth 100000 in
theorem sharp_e3 (x y W H : Int) (A : Option Addr) (n cap : Nat) (am le : Nat) (w : World) (hF : frE x y W H n = 0) (hN : (isN am && isN le) = true) (h1 : (FloatKind.f32.format.order am 0 == some .lt) = true) :
    Calls Try.prog 32 #[.agg #[.int .i64 x, .int .i64 y, .int .i64 W, .int .i64 H, .slice A n cap], .float .f32 am, .float .f32 le] w (ErrPost 3 w) := by
  have HF := Lib.hid hF
  clear hF
  go_enter Try.func32, Try.ntmps32
  go_upto_region 1 with (fail)
  refine of_world (fun W0 hW => ?_)
  have k0 : Kept None' w W0 := by rw [hW]; exact ((((Kept.refl None' w).alloc _ _).alloc _ _).alloc _ _).alloc _ _
  have f0 : W0.cell? ⟨w.heap.size, 0, none⟩ = some (.int .i64 x) := by rw [hW]; go_simp
  have f1 : W0.cell? ⟨w.heap.size, 1, none⟩ = some (.int .i64 y) := by rw [hW]; go_simp
  have f2 : W0.cell? ⟨w.heap.size, 2, none⟩ = some (.int .i64 W) := by rw [hW]; go_simp
  have f3 : W0.cell? ⟨w.heap.size, 3, none⟩ = some (.int .i64 H) := by rw [hW]; go_simp
  have f4 : W0.cell? ⟨w.heap.size, 4, none⟩ = some (.slice A n cap) := by rw [hW]; go_simp
  have a0 : W0.cell? ⟨w.heap.size + 1, 0, none⟩ = some (.float .f32 am) := by rw [hW]; go_simp
  have l0 : W0.cell? ⟨w.heap.size + 1 + 1, 0, none⟩ = some (.float .f32 le) := by rw [hW]; go_simp
  have s0 : W0.cell? ⟨w.heap.size + 1 + 1 + 1, 0, none⟩ = some (.int .i64 0) := by rw [hW]; go_simp
  have s1 : W0.cell? ⟨w.heap.size + 1 + 1 + 1, 1, none⟩ = some (.int .i64 0) := by rw [hW]; go_simp
  have s2 : W0.cell? ⟨w.heap.size + 1 + 1 + 1, 2, none⟩ = some (.int .i64 0) := by rw [hW]; go_simp
  have s3 : W0.cell? ⟨w.heap.size + 1 + 1 + 1, 3, none⟩ = some (.int .i64 0) := by rw [hW]; go_simp
  have s4 : W0.cell? ⟨w.heap.size + 1 + 1 + 1, 4, none⟩ = some (.slice none 0 0) := by rw [hW]; go_simp
  have zz : ∀ a : Addr, w.heap.size ≤ a.block → W0.frozen? a = false := fun a ha => by rw [hW]; exact (frozen?_alloc_cells _ _ _ _).trans ((frozen?_alloc_cells _ _ _ _).trans ((frozen?_alloc_cells _ _ _ _).trans ((frozen?_alloc_cells _ _ _ _).trans (frozen_new _ _ ha))))
  have Z0 := Lib.hid zz
  have K0 := Lib.hid k0
  clear hW zz k0
  go_upto_region 2 with (first
    | (go_at_call 76; refine (check_any _ _ _ _ _ _ _ _).mono ?_; rw [HF.out]; rintro e w1 ⟨rfl, hk1⟩)
    | fail)
  have f0 := hk1.some f0 id
  have f1 := hk1.some f1 id
  have f2 := hk1.some f2 id
  have f3 := hk1.some f3 id
  have f4 := hk1.some f4 id
  have a0 := hk1.some a0 id
  have l0 := hk1.some l0 id
  have s0 := hk1.some s0 id
  have s1 := hk1.some s1 id
  have s2 := hk1.some s2 id
  have s3 := hk1.some s3 id
  have s4 := hk1.some s4 id
  have z0 := (hk1.frozen ⟨w.heap.size + 1 + 1 + 1, 0, none⟩).trans (Z0.out ⟨w.heap.size + 1 + 1 + 1, 0, none⟩ (by simp; omega))
  have z1 := (hk1.frozen ⟨w.heap.size + 1 + 1 + 1, 1, none⟩).trans (Z0.out ⟨w.heap.size + 1 + 1 + 1, 1, none⟩ (by simp; omega))
  have z2 := (hk1.frozen ⟨w.heap.size + 1 + 1 + 1, 2, none⟩).trans (Z0.out ⟨w.heap.size + 1 + 1 + 1, 2, none⟩ (by simp; omega))
  have z3 := (hk1.frozen ⟨w.heap.size + 1 + 1 + 1, 3, none⟩).trans (Z0.out ⟨w.heap.size + 1 + 1 + 1, 3, none⟩ (by simp; omega))
  have z4 := (hk1.frozen ⟨w.heap.size + 1 + 1 + 1, 4, none⟩).trans (Z0.out ⟨w.heap.size + 1 + 1 + 1, 4, none⟩ (by simp; omega))
  have K1 := Lib.hid (K0.out.trans hk1)
  clear hk1
  go_upto_region 6 with (first
    | (go_at_call 65; refine (allnum2_any _ _ am le _ (by go_simp) (by go_simp)).mono ?_; rw [hN]; rintro e w' ⟨rfl, rfl⟩)
    | fail)
  refine of_world (fun W2 hW => ?_)
  have k2 : Kept None' w1 W2 := by rw [hW]; exact (Kept.refl None' w1).alloc _ _
  have f0 := k2.some f0 id
  have f1 := k2.some f1 id
  have f2 := k2.some f2 id
  have f3 := k2.some f3 id
  have f4 := k2.some f4 id
  have a0 := k2.some a0 id
  have l0 := k2.some l0 id
  have s0 := k2.some s0 id
  have s1 := k2.some s1 id
  have s2 := k2.some s2 id
  have s3 := k2.some s3 id
  have s4 := k2.some s4 id
  have z0 := (k2.frozen _).trans z0
  have z1 := (k2.frozen _).trans z1
  have z2 := (k2.frozen _).trans z2
  have z3 := (k2.frozen _).trans z3
  have z4 := (k2.frozen _).trans z4
  have K1 := Lib.hid (K1.out.trans k2)
  clear hW k2
  go_wp2_with fail
  refine bodyPost_ret (fr_ret2 Try.results32 _ _ (w.heap.size + 1 + 1 + 1) _ _ _ _ _ (cells_set5 s0 s1 s2 s3 s4) rfl) rfl ?_
  exact ⟨rfl, kept_set5 K1.out (by omega)⟩
set_option linter.unusedSimpArgs false in
set_option linter.unusedVariables false in
set_option maxHeartbeats 4000000 in
set_option maxRecDepth 100000 in
theorem sharp_e4 (x y W H : Int) (A : Option Addr) (n cap : Nat) (am le : Nat) (w : World) (hF : frE x y W H n = 0) (hN : (isN am && isN le) = true) (h1 : (FloatKind.f32.format.order am 0 == some .lt) = false) (h2 : (FloatKind.f32.format.order am 1098907648 == some .gt) = true) :
    Calls Try.prog 32 #[.agg #[.int .i64 x, .int .i64 y, .int .i64 W, .int .i64 H, .slice A n cap], .float .f32 am, .float .f32 le] w (ErrPost 3 w) := by
  have HF := Lib.hid hF
  clear hF
  go_enter Try.func32, Try.ntmps32
  go_upto_region 1 with (fail)
  refine of_world (fun W0 hW => ?_)
  have k0 : Kept None' w W0 := by rw [hW]; exact ((((Kept.refl None' w).alloc _ _).alloc _ _).alloc _ _).alloc _ _
  have f0 : W0.cell? ⟨w.heap.size, 0, none⟩ = some (.int .i64 x) := by rw [hW]; go_simp
  have f1 : W0.cell? ⟨w.heap.size, 1, none⟩ = some (.int .i64 y) := by rw [hW]; go_simp
  have f2 : W0.cell? ⟨w.heap.size, 2, none⟩ = some (.int .i64 W) := by rw [hW]; go_simp
  have f3 : W0.cell? ⟨w.heap.size, 3, none⟩ = some (.int .i64 H) := by rw [hW]; go_simp
  have f4 : W0.cell? ⟨w.heap.size, 4, none⟩ = some (.slice A n cap) := by rw [hW]; go_simp
  have a0 : W0.cell? ⟨w.heap.size + 1, 0, none⟩ = some (.float .f32 am) := by rw [hW]; go_simp
  have l0 : W0.cell? ⟨w.heap.size + 1 + 1, 0, none⟩ = some (.float .f32 le) := by rw [hW]; go_simp
  have s0 : W0.cell? ⟨w.heap.size + 1 + 1 + 1, 0, none⟩ = some (.int .i64 0) := by rw [hW]; go_simp
  have s1 : W0.cell? ⟨w.heap.size + 1 + 1 + 1, 1, none⟩ = some (.int .i64 0) := by rw [hW]; go_simp
  have s2 : W0.cell? ⟨w.heap.size + 1 + 1 + 1, 2, none⟩ = some (.int .i64 0) := by rw [hW]; go_simp
  have s3 : W0.cell? ⟨w.heap.size + 1 + 1 + 1, 3, none⟩ = some (.int .i64 0) := by rw [hW]; go_simp
  have s4 : W0.cell? ⟨w.heap.size + 1 + 1 + 1, 4, none⟩ = some (.slice none 0 0) := by rw [hW]; go_simp
  have zz : ∀ a : Addr, w.heap.size ≤ a.block → W0.frozen? a = false := fun a ha => by rw [hW]; exact (frozen?_alloc_cells _ _ _ _).trans ((frozen?_alloc_cells _ _ _ _).trans ((frozen?_alloc_cells _ _ _ _).trans ((frozen?_alloc_cells _ _ _ _).trans (frozen_new _ _ ha))))
  have Z0 := Lib.hid zz
  have K0 := Lib.hid k0
  clear hW zz k0
  go_upto_region 2 with (first
    | (go_at_call 76; refine (check_any _ _ _ _ _ _ _ _).mono ?_; rw [HF.out]; rintro e w1 ⟨rfl, hk1⟩)
    | fail)
  have f0 := hk1.some f0 id
  have f1 := hk1.some f1 id
  have f2 := hk1.some f2 id
  have f3 := hk1.some f3 id
  have f4 := hk1.some f4 id
  have a0 := hk1.some a0 id
  have l0 := hk1.some l0 id
  have s0 := hk1.some s0 id
  have s1 := hk1.some s1 id
  have s2 := hk1.some s2 id
  have s3 := hk1.some s3 id
  have s4 := hk1.some s4 id
  have z0 := (hk1.frozen ⟨w.heap.size + 1 + 1 + 1, 0, none⟩).trans (Z0.out ⟨w.heap.size + 1 + 1 + 1, 0, none⟩ (by simp; omega))
  have z1 := (hk1.frozen ⟨w.heap.size + 1 + 1 + 1, 1, none⟩).trans (Z0.out ⟨w.heap.size + 1 + 1 + 1, 1, none⟩ (by simp; omega))
  have z2 := (hk1.frozen ⟨w.heap.size + 1 + 1 + 1, 2, none⟩).trans (Z0.out ⟨w.heap.size + 1 + 1 + 1, 2, none⟩ (by simp; omega))
  have z3 := (hk1.frozen ⟨w.heap.size + 1 + 1 + 1, 3, none⟩).trans (Z0.out ⟨w.heap.size + 1 + 1 + 1, 3, none⟩ (by simp; omega))
  have z4 := (hk1.frozen ⟨w.heap.size + 1 + 1 + 1, 4, none⟩).trans (Z0.out ⟨w.heap.size + 1 + 1 + 1, 4, none⟩ (by simp; omega))
  have K1 := Lib.hid (K0.out.trans hk1)
  clear hk1
  go_upto_region 6 with (first
    | (go_at_call 65; refine (allnum2_any _ _ am le _ (by go_simp) (by go_simp)).mono ?_; rw [hN]; rintro e w' ⟨rfl, rfl⟩)
    | fail)
  refine of_world (fun W2 hW => ?_)
  have k2 : Kept None' w1 W2 := by rw [hW]; exact (Kept.refl None' w1).alloc _ _
  have f0 := k2.some f0 id
  have f1 := k2.some f1 id
  have f2 := k2.some f2 id
  have f3 := k2.some f3 id
  have f4 := k2.some f4 id
  have a0 := k2.some a0 id
  have l0 := k2.some l0 id
  have s0 := k2.some s0 id
  have s1 := k2.some s1 id
  have s2 := k2.some s2 id
  have s3 := k2.some s3 id
  have s4 := k2.some s4 id
  have z0 := (k2.frozen _).trans z0
  have z1 := (k2.frozen _).trans z1
  have z2 := (k2.frozen _).trans z2
  have z3 := (k2.frozen _).trans z3
  have z4 := (k2.frozen _).trans z4
  have K1 := Lib.hid (K1.out.trans k2)
  clear hW k2
  go_wp2_with fail
  refine bodyPost_ret (fr_ret2 Try.results32 _ _ (w.heap.size + 1 + 1 + 1) _ _ _ _ _ (cells_set5 s0 s1 s2 s3 s4) rfl) rfl ?_
  exact ⟨rfl, kept_set5 K1.out (by omega)⟩
set_option linter.unusedSimpArgs false in
set_option linter.unusedVariables false in
set_option maxHeartbeats 4000000 in
set_option maxRecDepth 100000 in
theorem sharp_e5 (x y W H : Int) (A : Option Addr) (n cap : Nat) (am le : Nat) (w : World) (hF : frE x y W H n = 0) (hN : (isN am && isN le) = true) (h1 : (FloatKind.f32.format.order am 0 == some .lt) = false) (h2 : (FloatKind.f32.format.order am 1098907648 == some .gt) = false) (h3 : (FloatKind.f32.format.order le 0 == some .lt) = true) :
    Calls Try.prog 32 #[.agg #[.int .i64 x, .int .i64 y, .int .i64 W, .int .i64 H, .slice A n cap], .float .f32 am, .float .f32 le] w (ErrPost 3 w) := by
  have HF := Lib.hid hF
  clear hF
  go_enter Try.func32, Try.ntmps32
  go_upto_region 1 with (fail)
  refine of_world (fun W0 hW => ?_)
  have k0 : Kept None' w W0 := by rw [hW]; exact ((((Kept.refl None' w).alloc _ _).alloc _ _).alloc _ _).alloc _ _
  have f0 : W0.cell? ⟨w.heap.size, 0, none⟩ = some (.int .i64 x) := by rw [hW]; go_simp
  have f1 : W0.cell? ⟨w.heap.size, 1, none⟩ = some (.int .i64 y) := by rw [hW]; go_simp
  have f2 : W0.cell? ⟨w.heap.size, 2, none⟩ = some (.int .i64 W) := by rw [hW]; go_simp
  have f3 : W0.cell? ⟨w.heap.size, 3, none⟩ = some (.int .i64 H) := by rw [hW]; go_simp
  have f4 : W0.cell? ⟨w.heap.size, 4, none⟩ = some (.slice A n cap) := by rw [hW]; go_simp
  have a0 : W0.cell? ⟨w.heap.size + 1, 0, none⟩ = some (.float .f32 am) := by rw [hW]; go_simp
  have l0 : W0.cell? ⟨w.heap.size + 1 + 1, 0, none⟩ = some (.float .f32 le) := by rw [hW]; go_simp
  have s0 : W0.cell? ⟨w.heap.size + 1 + 1 + 1, 0, none⟩ = some (.int .i64 0) := by rw [hW]; go_simp
  have s1 : W0.cell? ⟨w.heap.size + 1 + 1 + 1, 1, none⟩ = some (.int .i64 0) := by rw [hW]; go_simp
  have s2 : W0.cell? ⟨w.heap.size + 1 + 1 + 1, 2, none⟩ = some (.int .i64 0) := by rw [hW]; go_simp
  have s3 : W0.cell? ⟨w.heap.size + 1 + 1 + 1, 3, none⟩ = some (.int .i64 0) := by rw [hW]; go_simp
  have s4 : W0.cell? ⟨w.heap.size + 1 + 1 + 1, 4, none⟩ = some (.slice none 0 0) := by rw [hW]; go_simp
  have zz : ∀ a : Addr, w.heap.size ≤ a.block → W0.frozen? a = false := fun a ha => by rw [hW]; exact (frozen?_alloc_cells _ _ _ _).trans ((frozen?_alloc_cells _ _ _ _).trans ((frozen?_alloc_cells _ _ _ _).trans ((frozen?_alloc_cells _ _ _ _).trans (frozen_new _ _ ha))))
  have Z0 := Lib.hid zz
  have K0 := Lib.hid k0
  clear hW zz k0
  go_upto_region 2 with (first
    | (go_at_call 76; refine (check_any _ _ _ _ _ _ _ _).mono ?_; rw [HF.out]; rintro e w1 ⟨rfl, hk1⟩)
    | fail)
  have f0 := hk1.some f0 id
  have f1 := hk1.some f1 id
  have f2 := hk1.some f2 id
  have f3 := hk1.some f3 id
  have f4 := hk1.some f4 id
  have a0 := hk1.some a0 id
  have l0 := hk1.some l0 id
  have s0 := hk1.some s0 id
  have s1 := hk1.some s1 id
  have s2 := hk1.some s2 id
  have s3 := hk1.some s3 id
  have s4 := hk1.some s4 id
  have z0 := (hk1.frozen ⟨w.heap.size + 1 + 1 + 1, 0, none⟩).trans (Z0.out ⟨w.heap.size + 1 + 1 + 1, 0, none⟩ (by simp; omega))
  have z1 := (hk1.frozen ⟨w.heap.size + 1 + 1 + 1, 1, none⟩).trans (Z0.out ⟨w.heap.size + 1 + 1 + 1, 1, none⟩ (by simp; omega))
  have z2 := (hk1.frozen ⟨w.heap.size + 1 + 1 + 1, 2, none⟩).trans (Z0.out ⟨w.heap.size + 1 + 1 + 1, 2, none⟩ (by simp; omega))
  have z3 := (hk1.frozen ⟨w.heap.size + 1 + 1 + 1, 3, none⟩).trans (Z0.out ⟨w.heap.size + 1 + 1 + 1, 3, none⟩ (by simp; omega))
  have z4 := (hk1.frozen ⟨w.heap.size + 1 + 1 + 1, 4, none⟩).trans (Z0.out ⟨w.heap.size + 1 + 1 + 1, 4, none⟩ (by simp; omega))
  have K1 := Lib.hid (K0.out.trans hk1)
  clear hk1
  go_upto_region 6 with (first
    | (go_at_call 65; refine (allnum2_any _ _ am le _ (by go_simp) (by go_simp)).mono ?_; rw [hN]; rintro e w' ⟨rfl, rfl⟩)
    | fail)
  refine of_world (fun W2 hW => ?_)
  have k2 : Kept None' w1 W2 := by rw [hW]; exact (Kept.refl None' w1).alloc _ _
  have f0 := k2.some f0 id
  have f1 := k2.some f1 id
  have f2 := k2.some f2 id
  have f3 := k2.some f3 id
  have f4 := k2.some f4 id
  have a0 := k2.some a0 id
  have l0 := k2.some l0 id
  have s0 := k2.some s0 id
  have s1 := k2.some s1 id
  have s2 := k2.some s2 id
  have s3 := k2.some s3 id
  have s4 := k2.some s4 id
  have z0 := (k2.frozen _).trans z0
  have z1 := (k2.frozen _).trans z1
  have z2 := (k2.frozen _).trans z2
  have z3 := (k2.frozen _).trans z3
  have z4 := (k2.frozen _).trans z4
  have K1 := Lib.hid (K1.out.trans k2)
  clear hW k2
  go_wp2_with fail
  refine bodyPost_ret (fr_ret2 Try.results32 _ _ (w.heap.size + 1 + 1 + 1) _ _ _ _ _ (cells_set5 s0 s1 s2 s3 s4) rfl) rfl ?_
  exact ⟨rfl, kept_set5 K1.out (by omega)⟩
set_option linter.unusedSimpArgs false in
set_option linter.unusedVariables false in
set_option maxHeartbeats 4000000 in
set_option maxRecDepth 100000 in
theorem sharp_ok (x y W H : Int) (b o n cap : Nat) (z : Nat → Nat) (am le : Nat) (w : World) (hF : frE x y W H n = 0) (hN : (isN am && isN le) = true) (h1 : (FloatKind.f32.format.order am 0 == some .lt) = false) (h2 : (FloatKind.f32.format.order am 1098907648 == some .gt) = false) (h3 : (FloatKind.f32.format.order le 0 == some .lt) = false) (hc : ∀ i, i < n → w.cell? ⟨b, o + i, none⟩ = some (.float .f32 (z i))) (hcap : n ≤ cap) (hcap2 : cap ≤ maxLen) :
    Calls Try.prog 32 #[.agg #[.int .i64 x, .int .i64 y, .int .i64 W, .int .i64 H, .slice (some ⟨b, o, none⟩) n cap], .float .f32 am, .float .f32 le] w (FrGot x y W H n (mapG (shF x y W H z am le) x y W z) w) := by
  obtain ⟨hR, hn⟩ := frE_ok hF
  have hn6 : n ≤ 65536 := by
    obtain ⟨w1', w2', w3', w4', w5'⟩ := regE_ok hR
    have w6 := (mul_bd w1' w2' w3' w4').1
    have w7 : 4 * W * H = 4 * (W * H) := Int.mul_assoc ..
    omega
  have HC := Lib.hid hc
  clear hc
  have HF := Lib.hid hF
  clear hF
  go_enter Try.func32, Try.ntmps32
  go_upto_region 1 with (fail)
  refine of_world (fun W0 hW => ?_)
  have k0 : Kept None' w W0 := by rw [hW]; exact ((((Kept.refl None' w).alloc _ _).alloc _ _).alloc _ _).alloc _ _
  have f0 : W0.cell? ⟨w.heap.size, 0, none⟩ = some (.int .i64 x) := by rw [hW]; go_simp
  have f1 : W0.cell? ⟨w.heap.size, 1, none⟩ = some (.int .i64 y) := by rw [hW]; go_simp
  have f2 : W0.cell? ⟨w.heap.size, 2, none⟩ = some (.int .i64 W) := by rw [hW]; go_simp
  have f3 : W0.cell? ⟨w.heap.size, 3, none⟩ = some (.int .i64 H) := by rw [hW]; go_simp
  have f4 : W0.cell? ⟨w.heap.size, 4, none⟩ = some (.slice (some ⟨b, o, none⟩) n cap) := by rw [hW]; go_simp
  have a0 : W0.cell? ⟨w.heap.size + 1, 0, none⟩ = some (.float .f32 am) := by rw [hW]; go_simp
  have l0 : W0.cell? ⟨w.heap.size + 1 + 1, 0, none⟩ = some (.float .f32 le) := by rw [hW]; go_simp
  have s0 : W0.cell? ⟨w.heap.size + 1 + 1 + 1, 0, none⟩ = some (.int .i64 0) := by rw [hW]; go_simp
  have s1 : W0.cell? ⟨w.heap.size + 1 + 1 + 1, 1, none⟩ = some (.int .i64 0) := by rw [hW]; go_simp
  have s2 : W0.cell? ⟨w.heap.size + 1 + 1 + 1, 2, none⟩ = some (.int .i64 0) := by rw [hW]; go_simp
  have s3 : W0.cell? ⟨w.heap.size + 1 + 1 + 1, 3, none⟩ = some (.int .i64 0) := by rw [hW]; go_simp
  have s4 : W0.cell? ⟨w.heap.size + 1 + 1 + 1, 4, none⟩ = some (.slice none 0 0) := by rw [hW]; go_simp
  have zz : ∀ a : Addr, w.heap.size ≤ a.block → W0.frozen? a = false := fun a ha => by rw [hW]; exact (frozen?_alloc_cells _ _ _ _).trans ((frozen?_alloc_cells _ _ _ _).trans ((frozen?_alloc_cells _ _ _ _).trans ((frozen?_alloc_cells _ _ _ _).trans (frozen_new _ _ ha))))
  have Z0 := Lib.hid zz
  have K0 := Lib.hid k0
  clear hW zz k0
  go_upto_region 2 with (first
    | (go_at_call 76; refine (check_any _ _ _ _ _ _ _ _).mono ?_; rw [HF.out]; rintro e w1 ⟨rfl, hk1⟩)
    | fail)
  have f0 := hk1.some f0 id
  have f1 := hk1.some f1 id
  have f2 := hk1.some f2 id
  have f3 := hk1.some f3 id
  have f4 := hk1.some f4 id
  have a0 := hk1.some a0 id
  have l0 := hk1.some l0 id
  have s0 := hk1.some s0 id
  have s1 := hk1.some s1 id
  have s2 := hk1.some s2 id
  have s3 := hk1.some s3 id
  have s4 := hk1.some s4 id
  have z0 := (hk1.frozen ⟨w.heap.size + 1 + 1 + 1, 0, none⟩).trans (Z0.out ⟨w.heap.size + 1 + 1 + 1, 0, none⟩ (by simp; omega))
  have z1 := (hk1.frozen ⟨w.heap.size + 1 + 1 + 1, 1, none⟩).trans (Z0.out ⟨w.heap.size + 1 + 1 + 1, 1, none⟩ (by simp; omega))
  have z2 := (hk1.frozen ⟨w.heap.size + 1 + 1 + 1, 2, none⟩).trans (Z0.out ⟨w.heap.size + 1 + 1 + 1, 2, none⟩ (by simp; omega))
  have z3 := (hk1.frozen ⟨w.heap.size + 1 + 1 + 1, 3, none⟩).trans (Z0.out ⟨w.heap.size + 1 + 1 + 1, 3, none⟩ (by simp; omega))
  have z4 := (hk1.frozen ⟨w.heap.size + 1 + 1 + 1, 4, none⟩).trans (Z0.out ⟨w.heap.size + 1 + 1 + 1, 4, none⟩ (by simp; omega))
  have K1 := Lib.hid (K0.out.trans hk1)
  clear hk1
  go_upto_region 6 with (first
    | (go_at_call 65; refine (allnum2_any _ _ am le _ (by go_simp) (by go_simp)).mono ?_; rw [hN]; rintro e w' ⟨rfl, rfl⟩)
    | fail)
  refine of_world (fun W1 hW => ?_)
  have k1 : Kept None' w1 W1 := by rw [hW]; exact (Kept.refl None' w1).alloc _ _
  have f0 := k1.some f0 id
  have f1 := k1.some f1 id
  have f2 := k1.some f2 id
  have f3 := k1.some f3 id
  have f4 := k1.some f4 id
  have a0 := k1.some a0 id
  have l0 := k1.some l0 id
  have s0 := k1.some s0 id
  have s1 := k1.some s1 id
  have s2 := k1.some s2 id
  have s3 := k1.some s3 id
  have s4 := k1.some s4 id
  have z0 := (k1.frozen _).trans z0
  have z1 := (k1.frozen _).trans z1
  have z2 := (k1.frozen _).trans z2
  have z3 := (k1.frozen _).trans z3
  have z4 := (k1.frozen _).trans z4
  have K1 := Lib.hid (K1.out.trans k1)
  clear hW k1
  go_upto_region 9 with (fail)
  refine of_world (fun W2 hW => ?_)
  have k2 : Kept None' W1 W2 := by rw [hW]; exact (Kept.refl None' W1).alloc _ _
  have t0 : W2.cell? ⟨W1.heap.size, 0, none⟩ = some (.func (.func 77) #[] #[.pointer (some ⟨w.heap.size, 0, none⟩)]) := by rw [hW]; go_simp
  have f0 := k2.some f0 id
  have f1 := k2.some f1 id
  have f2 := k2.some f2 id
  have f3 := k2.some f3 id
  have f4 := k2.some f4 id
  have a0 := k2.some a0 id
  have l0 := k2.some l0 id
  have s0 := k2.some s0 id
  have s1 := k2.some s1 id
  have s2 := k2.some s2 id
  have s3 := k2.some s3 id
  have s4 := k2.some s4 id
  have z0 := (k2.frozen _).trans z0
  have z1 := (k2.frozen _).trans z1
  have z2 := (k2.frozen _).trans z2
  have z3 := (k2.frozen _).trans z3
  have z4 := (k2.frozen _).trans z4
  have K2 := Lib.hid (K1.out.trans k2)
  have hQ : FrC x y W H (some ⟨b, o, none⟩) n cap w.heap.size W2 := ⟨f0, f1, f2, f3, f4⟩
  have HQ := Lib.hid (And.intro hQ (And.intro t0 (And.intro l0 a0)))
  clear hW k2 hQ
  go_wp2_with (first
    | (go_at_call 78
       refine (mapped_gen x y W H b o n cap z 79 #[.pointer (some ⟨W1.heap.size, 0, none⟩), .pointer (some ⟨w.heap.size + 1 + 1, 0, none⟩), .pointer (some ⟨w.heap.size + 1, 0, none⟩)] (shF x y W H z am le) _ hR hn (fun i hi => K2.out.some (HC.out i hi) id) hcap hcap2 Try.call79
         (sh_maps x y W H _ _ _ _ b o n cap z am le _ hR hn hcap hn6 (fun i hi => K2.out.some (HC.out i hi) id) HQ.out.1 HQ.out.2.1 HQ.out.2.2.1 HQ.out.2.2.2)).mono ?_
       rintro e w4 ⟨B, hB, rfl, hk4, hz4⟩
       have L2 := cell_lt s0
       have s0 := hk4.some s0 id
       have s1 := hk4.some s1 id
       have s2 := hk4.some s2 id
       have s3 := hk4.some s3 id
       have s4 := hk4.some s4 id
       have z0 := (hk4.frozen _).trans z0
       have z1 := (hk4.frozen _).trans z1
       have z2 := (hk4.frozen _).trans z2
       have z3 := (hk4.frozen _).trans z3
       have z4 := (hk4.frozen _).trans z4
       have HB : w.heap.size + 1 + 1 + 1 < B := Nat.lt_of_lt_of_le L2 hB
       have K4 := Lib.hid (K2.out.trans hk4)
       have HZ := Lib.hid hz4
       clear hk4 hz4 hB)
    | fail)
  refine bodyPost_ret (fr_ret2 Try.results32 _ _ (w.heap.size + 1 + 1 + 1) _ _ _ _ _ (cells_set5 s0 s1 s2 s3 s4) rfl) rfl ?_
  refine ⟨B, by omega, rfl, kept_set5 K4.out (by omega), fun j hj => ?_⟩
  exact cell_set_ne (cell_set_ne (cell_set_ne (cell_set_ne (cell_set_ne (HZ.out j hj) (Or.inl (by omega))) (Or.inl (by omega))) (Or.inl (by omega))) (Or.inl (by omega))) (Or.inl (by omega))
end Go.Proofs.Ytfphhlodfieopaa
