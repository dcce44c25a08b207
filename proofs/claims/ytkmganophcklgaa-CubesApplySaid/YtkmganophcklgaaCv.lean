/- Contracts of cube.part and cube.cleaned; what returns three singles. Conditions: none. -/
import Derived.Test.YtkmganophcklgaaCu
import Derived.Test.YtkmganophcklgaaVa
import Derived.Test.YtkmganophcklgaaQw
import Derived.Test.YtkmganophcklgaaTw
import Derived.Deep.DeepCutAuto
namespace Go.Proofs.Ytkmganophcklgaa
open Go.RowKit
open Fl Fr
open BigFrame

theorem ar3_ret {fn : Func} {t : Tmp} (hr : fn.results = #[.cell t 36]) (W : World) (tmps : Array Value) (B : Nat) (v0 v1 v2 : Value) (e0 : W.cell? ⟨B, 0, none⟩ = some v0) (e1 : W.cell? ⟨B, 1, none⟩ = some v1) (e2 : W.cell? ⟨B, 2, none⟩ = some v2)
    (ht : tmps[t]?.getD undef = .pointer (some ⟨B, 0, none⟩)) : (results fn tmps).run Try.prog W = .ok (.agg #[v0, v1, v2]) W := by
  simp [results, hr, go_sem, ht, e0, e1, e2]
  try rfl
theorem cells_set3 {W : World} {B : Nat} {v0 v1 v2 u0 u1 u2 : Value} (r0 : W.cell? ⟨B, 0, none⟩ = some u0) (r1 : W.cell? ⟨B, 1, none⟩ = some u1) (r2 : W.cell? ⟨B, 2, none⟩ = some u2) :
    (((W.setCell ⟨B, 0, none⟩ v0).setCell ⟨B, 1, none⟩ v1).setCell ⟨B, 2, none⟩ v2).cell? ⟨B, 0, none⟩ = some v0 ∧
    (((W.setCell ⟨B, 0, none⟩ v0).setCell ⟨B, 1, none⟩ v1).setCell ⟨B, 2, none⟩ v2).cell? ⟨B, 1, none⟩ = some v1 ∧
    (((W.setCell ⟨B, 0, none⟩ v0).setCell ⟨B, 1, none⟩ v1).setCell ⟨B, 2, none⟩ v2).cell? ⟨B, 2, none⟩ = some v2 := by
  have a0 := cell_set_eq (v := v0) r0
  have a1 : (W.setCell ⟨B, 0, none⟩ v0).cell? ⟨B, 1, none⟩ = some u1 := cell_set_ne r1 (Or.inr (by simp))
  have a2 : (W.setCell ⟨B, 0, none⟩ v0).cell? ⟨B, 2, none⟩ = some u2 := cell_set_ne r2 (Or.inr (by simp))
  have b0 : ((W.setCell ⟨B, 0, none⟩ v0).setCell ⟨B, 1, none⟩ v1).cell? ⟨B, 0, none⟩ = some v0 := cell_set_ne a0 (Or.inr (by simp))
  have b1 := cell_set_eq (v := v1) a1
  have b2 : ((W.setCell ⟨B, 0, none⟩ v0).setCell ⟨B, 1, none⟩ v1).cell? ⟨B, 2, none⟩ = some u2 := cell_set_ne a2 (Or.inr (by simp))
  exact ⟨cell_set_ne b0 (Or.inr (by simp)), cell_set_ne b1 (Or.inr (by simp)), cell_set_eq b2⟩
theorem kept_set3 {w W : World} {B : Nat} {v0 v1 v2 : Value} (h : Kept None' w W) (hB : w.heap.size ≤ B) : Kept None' w (((W.setCell ⟨B, 0, none⟩ v0).setCell ⟨B, 1, none⟩ v1).setCell ⟨B, 2, none⟩ v2) :=
  ((h.setCell (p := ⟨B, 0, none⟩) (Or.inl hB) _).setCell (p := ⟨B, 1, none⟩) (Or.inl hB) _).setCell (p := ⟨B, 2, none⟩) (Or.inl hB) _

theorem part_any (i S : Int) (w : World) (h0 : 0 ≤ i) (h1 : i ≤ S - 1) (h2 : 2 ≤ S) (h3 : S ≤ 65536) :
    Calls Try.prog 92 #[.int .i64 i, .int .i64 S] w fun e w' => e = .returned (.float .f32 (valP i (S - 1))) ∧ w = w' := by
  obtain ⟨t1, t2⟩ := det (val_nan i (S - 1) h0 h1 (by omega) (by omega))
  have hv : fC .quo .f32 (floatOfInt .f32 i) (floatOfInt .f32 (S - 1)) = valP i (S - 1) := by unfold valP; rfl
  rw [hv] at t1
  clear hv
  go_enter Try.func92, Try.ntmps92
  go_wp2_with fail
  go_ret
  exact ⟨rfl, rfl⟩

set_option linter.unusedSimpArgs false in
set_option linter.unusedVariables false in
set_option maxHeartbeats 2000000 in
set_option maxRecDepth 100000 in
theorem cleaned_any (a b c : Nat) (w : World) :
    Calls Try.prog 81 #[.agg #[.float .f32 a, .float .f32 b, .float .f32 c]] w fun e w' => e = .returned (.agg #[.float .f32 (cl .f32 a), .float .f32 (cl .f32 b), .float .f32 (cl .f32 c)]) ∧ Kept None' w w' := by
  go_enter Try.func81, Try.ntmps81
  go_upto_region 1 with (fail)
  refine of_world (fun W0 hW => ?_)
  have k0 : Kept None' w W0 := by rw [hW]; exact ((Kept.refl None' w).alloc _ _).alloc _ _
  have u0 : W0.cell? ⟨w.heap.size, 0, none⟩ = some (.float .f32 a) := by rw [hW]; go_simp
  have u1 : W0.cell? ⟨w.heap.size, 1, none⟩ = some (.float .f32 b) := by rw [hW]; go_simp
  have u2 : W0.cell? ⟨w.heap.size, 2, none⟩ = some (.float .f32 c) := by rw [hW]; go_simp
  have s0 : W0.cell? ⟨w.heap.size + 1, 0, none⟩ = some (.float .f32 0) := by rw [hW]; go_simp
  have s1 : W0.cell? ⟨w.heap.size + 1, 1, none⟩ = some (.float .f32 0) := by rw [hW]; go_simp
  have s2 : W0.cell? ⟨w.heap.size + 1, 2, none⟩ = some (.float .f32 0) := by rw [hW]; go_simp
  have zz : ∀ a : Addr, w.heap.size ≤ a.block → W0.frozen? a = false := fun a ha => by rw [hW]; exact (frozen?_alloc_cells _ _ _ _).trans ((frozen?_alloc_cells _ _ _ _).trans (frozen_new _ _ ha))
  have HS := Lib.hid (And.intro s0 (And.intro s1 s2))
  have Z0 := Lib.hid zz
  have K0 := Lib.hid k0
  clear hW zz k0 s0 s1 s2
  have A0 := ext_cell u0
  have A1 := ext_cell u1
  have A2 := ext_cell u2
  refine region_ext_tail 10 (by kernel_rfl) (by kernel_rfl) ?_
  simp only [List.take_succ_cons, List.take_zero, List.drop_succ_cons, List.drop_zero]
  repeat (first
    | go_big_quiet_skip
    | (go_big_quiet_want; go_big_quiet_op; first | go_big_quiet_on | go_big_quiet_call (first
      | (go_at_call 109; exact calls_ext_same (clean_any _ _)))))
  refine wpQuiet_nil ?_
  rintro _ ⟨xq, rfl⟩
  have kx := ext_kept W0 xq
  have s0 := kx.some HS.out.1 id
  have s1 := kx.some HS.out.2.1 id
  have s2 := kx.some HS.out.2.2 id
  have z0 := (kx.frozen ⟨w.heap.size + 1, 0, none⟩).trans (Z0.out ⟨w.heap.size + 1, 0, none⟩ (by simp))
  have z1 := (kx.frozen ⟨w.heap.size + 1, 1, none⟩).trans (Z0.out ⟨w.heap.size + 1, 1, none⟩ (by simp))
  have z2 := (kx.frozen ⟨w.heap.size + 1, 2, none⟩).trans (Z0.out ⟨w.heap.size + 1, 2, none⟩ (by simp))
  have K1 := Lib.hid (K0.out.trans kx)
  clear A0 A1 A2 u0 u1 u2 kx
  generalize ext W0 xq = W1 at *
  generalize hca : cl .f32 a = ca at *
  generalize hcb : cl .f32 b = cb at *
  generalize hcc : cl .f32 c = cc at *
  go_wp2_with fail
  have cs := cells_set3 (v0 := .float .f32 ca) (v1 := .float .f32 cb) (v2 := .float .f32 cc) s0 s1 s2
  refine bodyPost_ret (ar3_ret Try.results81 _ _ (w.heap.size + 1) _ _ _ cs.1 cs.2.1 cs.2.2 rfl) rfl ?_
  exact ⟨by rw [hca, hcb, hcc], kept_set3 K1.out (by omega)⟩
end Go.Proofs.Ytkmganophcklgaa
