/- Contracts of cube.entry and EntryOf. Conditions: none. -/
import Derived.Test.YtkmganophcklgaaCv
namespace Go.Proofs.Ytkmganophcklgaa
open Go.RowKit
open Fl Fr
open BigFrame

/-- The number of the first single of an entry. -/
def cuK (S i j k : Int) : Nat := (3 * (i + S * (j + S * k))).toNat
theorem cuK_ok {S i j k : Int} {n : Nat} (hn : (n : Int) = 3 * S * S * S) (s1 : 2 ≤ S) (s2 : S ≤ 17) (i0 : 0 ≤ i) (i1 : i < S) (j0 : 0 ≤ j) (j1 : j < S) (k0 : 0 ≤ k) (k1 : k < S) :
    3 * (i + S * (j + S * k)) = (cuK S i j k : Int) ∧ cuK S i j k + 3 ≤ n ∧ 0 ≤ S * k ∧ S * k ≤ 289 ∧ 0 ≤ S * (j + S * k) ∧ S * (j + S * k) ≤ 5220 ∧ n ≤ 14739 := by
  have a1 : 0 ≤ S * k := Int.mul_nonneg (by omega) k0
  have a2 : S * k ≤ S * (S - 1) := Int.mul_le_mul_of_nonneg_left (by omega) (by omega)
  have a3 : S * (S - 1) = S * S - S := by rw [Int.mul_sub, Int.mul_one]
  have a4 : S * S ≤ 17 * S := Int.mul_le_mul_of_nonneg_right s2 (by omega)
  have a5 : 0 ≤ S * (j + S * k) := Int.mul_nonneg (by omega) (by omega)
  have a6 : S * (j + S * k) ≤ S * (S * S - 1) := Int.mul_le_mul_of_nonneg_left (by omega) (by omega)
  have a7 : S * (S * S - 1) = S * (S * S) - S := by rw [Int.mul_sub, Int.mul_one]
  have a8 : 3 * S * S * S = 3 * (S * (S * S)) := by rw [Int.mul_assoc, Int.mul_assoc, ]
  have a9 : S * (S * S) ≤ S * 289 := Int.mul_le_mul_of_nonneg_left (by omega) (by omega)
  unfold cuK
  generalize S * (j + S * k) = t1 at *
  generalize S * (S * S) = t2 at *
  generalize S * (S * S - 1) = t3 at *
  generalize S * S = t4 at *
  omega
theorem ar3_ptr (a : Addr) (c : Nat) (w : World) : (Instr.arrayAt 36 (.slice (some a) 3 c)).run Try.prog w = .ok (.pointer (some a)) w := by
  kernel_rfl
/-- A cube's box: the size and the singles. -/
theorem cube_cells {S : Int} {lo hi : Nat} {A : Option Addr} {n cap : Nat} {w W0 : World} {t : TypeId} (hW : W0 = w.alloc (.cells #[.int .i64 S, .float .f32 lo, .float .f32 hi, .slice A n cap] t)) :
    W0.cell? ⟨w.heap.size, 0, none⟩ = some (.int .i64 S) ∧ W0.cell? ⟨w.heap.size, 3, none⟩ = some (.slice A n cap) := by
  rw [hW]; exact ⟨by go_simp, by go_simp⟩

set_option linter.unusedSimpArgs false in
set_option linter.unusedVariables false in
set_option maxHeartbeats 2000000 in
set_option maxRecDepth 100000 in
theorem entry_any (S : Int) (lo hi : Nat) (b o n cap : Nat) (z : Nat → Nat) (i j k : Int) (w : World) (hn : (n : Int) = 3 * S * S * S) (s1 : 2 ≤ S) (s2 : S ≤ 17) (i0 : 0 ≤ i) (i1 : i < S) (j0 : 0 ≤ j) (j1 : j < S) (k0 : 0 ≤ k) (k1 : k < S)
    (hc : ∀ q, q < n → w.cell? ⟨b, o + q, none⟩ = some (.float .f32 (z q))) (hcap : n ≤ cap) :
    Calls Try.prog 71 #[.agg #[.int .i64 S, .float .f32 lo, .float .f32 hi, .slice (some ⟨b, o, none⟩) n cap], .int .i64 i, .int .i64 j, .int .i64 k] w fun e w' =>
      e = .returned (.agg #[.float .f32 (z (cuK S i j k)), .float .f32 (z (cuK S i j k + 1)), .float .f32 (z (cuK S i j k + 2))]) ∧ Kept None' w w' := by
  obtain ⟨hK, hKn, m1, m2, m3, m4, m5⟩ := cuK_ok hn s1 s2 i0 i1 j0 j1 k0 k1
  generalize cuK S i j k = K at *
  have HC := Lib.hid hc
  clear hc hn
  go_enter Try.func71, Try.ntmps71
  go_upto_region 1 with (fail)
  refine of_world (fun W0 hW => ?_)
  have k0 : Kept None' w W0 := by rw [hW]; exact ((Kept.refl None' w).alloc _ _).alloc _ _
  have u0 : W0.cell? ⟨w.heap.size, 0, none⟩ = some (.int .i64 S) := by rw [hW]; go_simp
  have u3 : W0.cell? ⟨w.heap.size, 3, none⟩ = some (.slice (some ⟨b, o, none⟩) n cap) := by rw [hW]; go_simp
  have r0 : W0.cell? ⟨w.heap.size + 1, 0, none⟩ = some (.float .f32 0) := by rw [hW]; go_simp
  have r1 : W0.cell? ⟨w.heap.size + 1, 1, none⟩ = some (.float .f32 0) := by rw [hW]; go_simp
  have r2 : W0.cell? ⟨w.heap.size + 1, 2, none⟩ = some (.float .f32 0) := by rw [hW]; go_simp
  have zz : ∀ a : Addr, w.heap.size ≤ a.block → W0.frozen? a = false := fun a ha => by rw [hW]; exact (frozen?_alloc_cells _ _ _ _).trans ((frozen?_alloc_cells _ _ _ _).trans (frozen_new _ _ ha))
  have z0 := zz ⟨w.heap.size + 1, 0, none⟩ (by simp)
  have z1 := zz ⟨w.heap.size + 1, 1, none⟩ (by simp)
  have z2 := zz ⟨w.heap.size + 1, 2, none⟩ (by simp)
  have c0 := k0.some (HC.out K (by omega)) id
  have c1 : W0.cell? ⟨b, o + K + 1, none⟩ = some (.float .f32 (z (K + 1))) := k0.some (HC.out (K + 1) (by omega)) id
  have c2 : W0.cell? ⟨b, o + K + 2, none⟩ = some (.float .f32 (z (K + 2))) := k0.some (HC.out (K + 2) (by omega)) id
  have K0 := Lib.hid k0
  clear hW zz k0
  have hp := ar3_ptr ⟨b, o + K, none⟩ (cap - K) W0
  go_wp2_with fail
  have cs := cells_set3 (v0 := .float .f32 (z K)) (v1 := .float .f32 (z (K + 1))) (v2 := .float .f32 (z (K + 2))) r0 r1 r2
  refine bodyPost_ret (ar3_ret Try.results71 _ _ (w.heap.size + 1) _ _ _ cs.1 cs.2.1 cs.2.2 rfl) rfl ?_
  exact ⟨rfl, kept_set3 K0.out (by omega)⟩

set_option linter.unusedSimpArgs false in
set_option linter.unusedVariables false in
set_option maxHeartbeats 2000000 in
set_option maxRecDepth 100000 in
theorem entryof_any (S : Int) (lo hi : Nat) (b o n cap : Nat) (z : Nat → Nat) (i j k : Int) (w : World) (hn : (n : Int) = 3 * S * S * S) (s1 : 2 ≤ S) (s2 : S ≤ 17) (i0 : 0 ≤ i) (i1 : i < S) (j0 : 0 ≤ j) (j1 : j < S) (k0 : 0 ≤ k) (k1 : k < S)
    (hc : ∀ q, q < n → w.cell? ⟨b, o + q, none⟩ = some (.float .f32 (z q))) (hcap : n ≤ cap) :
    Calls Try.prog 20 #[.agg #[.int .i64 S, .float .f32 lo, .float .f32 hi, .slice (some ⟨b, o, none⟩) n cap], .int .i64 i, .int .i64 j, .int .i64 k] w fun e w' =>
      e = .returned (.agg #[.float .f32 (cl .f32 (z (cuK S i j k))), .float .f32 (cl .f32 (z (cuK S i j k + 1))), .float .f32 (cl .f32 (z (cuK S i j k + 2)))]) ∧ Kept None' w w' := by
  obtain ⟨hK, hKn, m1, m2, m3, m4, m5⟩ := cuK_ok hn s1 s2 i0 i1 j0 j1 k0 k1
  generalize cuK S i j k = K at *
  obtain ⟨K1, e1⟩ : ∃ K1, K + 1 = K1 := ⟨_, rfl⟩
  obtain ⟨K2, e2⟩ : ∃ K2, K + 2 = K2 := ⟨_, rfl⟩
  have hK1 : (K : Int) + 1 = (K1 : Int) := by omega
  have hK2 : (K : Int) + 2 = (K2 : Int) := by omega
  have l0 : K < n := by omega
  have l1 : K1 < n := by omega
  have l2 : K2 < n := by omega
  rw [e1, e2]
  have HC := Lib.hid hc
  clear hc hn e1 e2
  go_enter Try.func20, Try.ntmps20
  go_upto_region 1 with (fail)
  refine of_world (fun W0 hW => ?_)
  have k0 : Kept None' w W0 := by rw [hW]; exact ((Kept.refl None' w).alloc _ _).alloc _ _
  have u0 : W0.cell? ⟨w.heap.size, 0, none⟩ = some (.int .i64 S) := by rw [hW]; go_simp
  have u3 : W0.cell? ⟨w.heap.size, 3, none⟩ = some (.slice (some ⟨b, o, none⟩) n cap) := by rw [hW]; go_simp
  have r0 : W0.cell? ⟨w.heap.size + 1, 0, none⟩ = some (.float .f32 0) := by rw [hW]; go_simp
  have r1 : W0.cell? ⟨w.heap.size + 1, 1, none⟩ = some (.float .f32 0) := by rw [hW]; go_simp
  have r2 : W0.cell? ⟨w.heap.size + 1, 2, none⟩ = some (.float .f32 0) := by rw [hW]; go_simp
  have zz : ∀ a : Addr, w.heap.size ≤ a.block → W0.frozen? a = false := fun a ha => by rw [hW]; exact (frozen?_alloc_cells _ _ _ _).trans ((frozen?_alloc_cells _ _ _ _).trans (frozen_new _ _ ha))
  have c0 := k0.some (HC.out K l0) id
  have c1 := k0.some (HC.out K1 l1) id
  have c2 := k0.some (HC.out K2 l2) id
  have HS := Lib.hid (And.intro r0 (And.intro r1 r2))
  have Z0 := Lib.hid zz
  have K0 := Lib.hid k0
  clear hW zz k0 r0 r1 r2
  go_upto_region 2 with (fail)
  have A0 := ext_cell u3
  have A1 := ext_cell c0
  have A2 := ext_cell c1
  have A3 := ext_cell c2
  refine region_ext_tail 21 (by kernel_rfl) (by kernel_rfl) ?_
  simp only [List.take_succ_cons, List.take_zero, List.drop_succ_cons, List.drop_zero]
  repeat (first
    | go_big_quiet_skip
    | (go_big_quiet_want; go_big_quiet_op; first | go_big_quiet_on | go_big_quiet_call (first
      | (go_at_call 31; exact calls_ext_same (fix_any _ _)))))
  refine wpQuiet_nil ?_
  rintro _ ⟨xq, rfl⟩
  have kx := ext_kept W0 xq
  have s0 := kx.some HS.out.1 id
  have s1 := kx.some HS.out.2.1 id
  have s2 := kx.some HS.out.2.2 id
  have z0 := (kx.frozen ⟨w.heap.size + 1, 0, none⟩).trans (Z0.out ⟨w.heap.size + 1, 0, none⟩ (by simp))
  have z1 := (kx.frozen ⟨w.heap.size + 1, 1, none⟩).trans (Z0.out ⟨w.heap.size + 1, 1, none⟩ (by simp))
  have z2 := (kx.frozen ⟨w.heap.size + 1, 2, none⟩).trans (Z0.out ⟨w.heap.size + 1, 2, none⟩ (by simp))
  have HK1 := Lib.hid (K0.out.trans kx)
  clear A0 A1 A2 A3 u0 u3 c0 c1 c2 kx
  generalize ext W0 xq = W1 at *
  generalize hca : cl .f32 (z K) = ca at *
  generalize hcb : cl .f32 (z K1) = cb at *
  generalize hcc : cl .f32 (z K2) = cc at *
  go_wp2_with fail
  have cs := cells_set3 (v0 := .float .f32 ca) (v1 := .float .f32 cb) (v2 := .float .f32 cc) s0 s1 s2
  refine bodyPost_ret (ar3_ret Try.results20 _ _ (w.heap.size + 1) _ _ _ cs.1 cs.2.1 cs.2.2 rfl) rfl ?_
  exact ⟨by rw [hca, hcb, hcc], kept_set3 HK1.out (by omega)⟩
end Go.Proofs.Ytkmganophcklgaa
