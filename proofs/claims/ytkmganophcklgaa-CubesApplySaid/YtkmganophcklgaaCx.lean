/- The contract of Identity's function. Conditions: none. -/
import Derived.Test.YtkmganophcklgaaCw
namespace Go.Proofs.Ytkmganophcklgaa
open Go.RowKit
open Fl Fr
open BigFrame

set_option linter.unusedSimpArgs false in
set_option linter.unusedVariables false in
set_option maxHeartbeats 2000000 in
set_option maxRecDepth 100000 in
theorem identity1_any (i j k S : Int) (T : Nat) (w : World) (hT : w.cell? ⟨T, 0, none⟩ = some (.int .i64 S)) (s1 : 2 ≤ S) (s2 : S ≤ 17) (i0 : 0 ≤ i) (i1 : i < S) (j0 : 0 ≤ j) (j1 : j < S) (k0 : 0 ≤ k) (k1 : k < S) :
    Calls Try.prog 101 #[.int .i64 i, .int .i64 j, .int .i64 k, .pointer (some ⟨T, 0, none⟩)] w fun e w' =>
      e = .returned (.agg #[.float .f32 (valP i (S - 1)), .float .f32 (valP j (S - 1)), .float .f32 (valP k (S - 1))]) ∧ Kept None' w w' := by
  have HT := Lib.hid hT
  obtain ⟨p, hp⟩ : ∃ p : Int → Nat, ∀ i, valP i (S - 1) = p i := ⟨fun i => valP i (S - 1), fun _ => rfl⟩
  rw [hp, hp, hp]
  have hPA : ∀ i : Int, 0 ≤ i → i < S → ∀ w : World, Calls Try.prog 92 #[.int .i64 i, .int .i64 S] w fun e w' => e = .returned (.float .f32 (p i)) ∧ w = w' := by
    intro i h0 h1 w
    rw [← hp]
    exact part_any i S w h0 (by omega) s1 (by omega)
  have PA := Lib.hid hPA
  clear hPA
  clear hT hp
  go_enter Try.func101, Try.ntmps101
  go_upto_region 1 with (fail)
  refine of_world (fun W0 hW => ?_)
  have k0 : Kept None' w W0 := by rw [hW]; exact (Kept.refl None' w).alloc _ _
  have u0 := k0.some HT.out id
  have s0 : W0.cell? ⟨w.heap.size, 0, none⟩ = some (.float .f32 0) := by rw [hW]; go_simp
  have s1 : W0.cell? ⟨w.heap.size, 1, none⟩ = some (.float .f32 0) := by rw [hW]; go_simp
  have s2 : W0.cell? ⟨w.heap.size, 2, none⟩ = some (.float .f32 0) := by rw [hW]; go_simp
  have zz : ∀ a : Addr, w.heap.size ≤ a.block → W0.frozen? a = false := fun a ha => by rw [hW]; exact (frozen?_alloc_cells _ _ _ _).trans (frozen_new _ _ ha)
  have HS := Lib.hid (And.intro s0 (And.intro s1 s2))
  have Z0 := Lib.hid zz
  have K0 := Lib.hid k0
  clear hW zz k0 s0 s1 s2
  have A0 := ext_cell u0
  refine region_ext_tail 10 (by kernel_rfl) (by kernel_rfl) ?_
  simp only [List.take_succ_cons, List.take_zero, List.drop_succ_cons, List.drop_zero]
  repeat (first
    | go_big_quiet_skip
    | (go_big_quiet_want; go_big_quiet_op; first | go_big_quiet_on | go_big_quiet_call (first
      | (go_at_call 92; exact calls_ext_same (PA.out _ (by assumption) (by assumption) _)))))
  refine wpQuiet_nil ?_
  rintro _ ⟨xq, rfl⟩
  have kx := ext_kept W0 xq
  have s0 := kx.some HS.out.1 id
  have s1 := kx.some HS.out.2.1 id
  have s2 := kx.some HS.out.2.2 id
  have z0 := (kx.frozen ⟨w.heap.size, 0, none⟩).trans (Z0.out ⟨w.heap.size, 0, none⟩ (by simp))
  have z1 := (kx.frozen ⟨w.heap.size, 1, none⟩).trans (Z0.out ⟨w.heap.size, 1, none⟩ (by simp))
  have z2 := (kx.frozen ⟨w.heap.size, 2, none⟩).trans (Z0.out ⟨w.heap.size, 2, none⟩ (by simp))
  have K1 := Lib.hid (K0.out.trans kx)
  clear A0 u0 kx
  generalize ext W0 xq = W1 at *
  go_wp2_with fail
  have cs := cells_set3 (v0 := .float .f32 (p i)) (v1 := .float .f32 (p j)) (v2 := .float .f32 (p k)) s0 s1 s2
  refine bodyPost_ret (ar3_ret Try.results101 _ _ w.heap.size _ _ _ cs.1 cs.2.1 cs.2.2 rfl) rfl ?_
  exact ⟨rfl, kept_set3 K1.out (Nat.le_refl _)⟩
end Go.Proofs.Ytkmganophcklgaa
