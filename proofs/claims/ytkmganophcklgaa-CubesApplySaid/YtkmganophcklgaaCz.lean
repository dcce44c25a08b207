/- Contracts of cube.Identity, cubes, noCube, EqualFunc and sameCube. Conditions: none. -/
import Derived.Test.YtkmganophcklgaaCy
namespace Go.Proofs.Ytkmganophcklgaa
open Go.RowKit
open Fl Fr
open BigFrame

theorem cu_ret2 {fn : Func} {t u : Tmp} (hr : fn.results = #[.cell t 25, .tmp u]) (W : World) (tmps : Array Value) (B : Nat) (v0 v1 v2 v3 : Value) (h : W.cell? ⟨B, 0, none⟩ = some v0 ∧ W.cell? ⟨B, 1, none⟩ = some v1 ∧ W.cell? ⟨B, 2, none⟩ = some v2 ∧ W.cell? ⟨B, 3, none⟩ = some v3)
    (ht : tmps[t]?.getD undef = .pointer (some ⟨B, 0, none⟩)) : (results fn tmps).run Try.prog W = .ok (.tuple #[.agg #[v0, v1, v2, v3], tmps[u]?.getD undef]) W := by
  obtain ⟨e0, e1, e2, e3⟩ := h
  simp [results, hr, go_sem, ht, e0, e1, e2, e3]
  try rfl
def zeroCube : Value := .agg #[.int .i64 0, .float .f32 0, .float .f32 0, .slice none 0 0]
/-- A cube and no error. -/
def CuPost (S : Int) (lo hi n : Nat) (G : Nat → Nat) (w : World) (e : Ending) (w' : World) : Prop :=
  ∃ B cap, w.heap.size ≤ B ∧ e = .returned (.tuple #[.agg #[.int .i64 S, .float .f32 lo, .float .f32 hi, .slice (some ⟨B, 0, none⟩) n cap], .int .i64 0]) ∧ n ≤ cap ∧ cap ≤ maxLen ∧ Kept None' w w' ∧ ∀ j, j < n → w'.cell? ⟨B, j, none⟩ = some (.float .f32 (G j))
/-- The empty cube and an error. -/
def CuErr (E : Int) (w : World) (e : Ending) (w' : World) : Prop := e = .returned (.tuple #[zeroCube, .int .i64 E]) ∧ Kept None' w w'
def idF (S : Int) (i j k : Int) (c : Nat) : Nat := cl .f32 (valP (if c = 0 then i else if c = 1 then j else k) (S - 1))

theorem id_gives (S : Nat) (T : Nat) (w : World) (hT : w.cell? ⟨T, 0, none⟩ = some (.int .i64 S)) (s1 : 2 ≤ S) (s2 : S ≤ 17) : Gives 101 #[.pointer (some ⟨T, 0, none⟩)] (idF S) S w := by
  intro i j k wr hk i0 i1 j0 j1 k0 k1
  refine (identity1_any i j k S T wr (hk.some hT id) (by omega) (by omega) i0 i1 j0 j1 k0 k1).mono ?_
  rintro e w' ⟨rfl, hk'⟩
  refine ⟨fun c => valP (if c = 0 then i else if c = 1 then j else k) (S - 1), rfl, fun c hc => rfl, hk'⟩

set_option linter.unusedSimpArgs false in
set_option linter.unusedVariables false in
set_option maxHeartbeats 4000000 in
set_option maxRecDepth 100000 in
theorem identity_no (S : Int) (w : World) (h : inB S 2 17 = false) :
    Calls Try.prog 50 #[.int .i64 S] w (CuErr 3 w) := by
  have hS : S < 2 ∨ 17 < S := by unfold inB at h; simp at h; omega
  cases d1 : decide (S < 2) with
  | true =>
    clear h hS
    go_enter Try.func50, Try.ntmps50
    go_wp2_with fail
    refine bodyPost_ret (v := .tuple #[zeroCube, .int .i64 3]) (by simp [results, Try.results50, go_sem, zeroCube]) rfl ⟨rfl, ?_⟩
    repeat (first | exact Kept.refl _ _ | refine Kept.drew ?_ _ | refine Kept.alloc ?_ _ _ | refine Kept.setCell ?_ (Or.inl (by simp)) _)
  | false =>
    have d2 : decide (17 < S) = true := by simp at d1 ⊢; omega
    clear h hS
    go_enter Try.func50, Try.ntmps50
    go_wp2_with fail
    refine bodyPost_ret (v := .tuple #[zeroCube, .int .i64 3]) (by simp [results, Try.results50, go_sem, zeroCube]) rfl ⟨rfl, ?_⟩
    repeat (first | exact Kept.refl _ _ | refine Kept.drew ?_ _ | refine Kept.alloc ?_ _ _ | refine Kept.setCell ?_ (Or.inl (by simp)) _)

set_option linter.unusedSimpArgs false in
set_option linter.unusedVariables false in
set_option maxHeartbeats 4000000 in
set_option maxRecDepth 100000 in
theorem identity_yes (S : Nat) (w : World) (s1 : 2 ≤ S) (s2 : S ≤ 17) :
    Calls Try.prog 50 #[.int .i64 (S : Int)] w (CuPost S 0 1065353216 (3 * (S * (S * S))) (cubG (idF S) S) w) := by
  have d1 : decide ((S : Int) < 2) = false := decide_eq_false (by omega)
  have d2 : decide (17 < (S : Int)) = false := decide_eq_false (by omega)
  go_enter Try.func50, Try.ntmps50
  go_upto_region 3 with (fail)
  refine of_world (fun W0 hW => ?_)
  have k0 : Kept None' w W0 := by rw [hW]; exact ((Kept.refl None' w).alloc _ _).alloc _ _
  have u0 : W0.cell? ⟨w.heap.size, 0, none⟩ = some (.int .i64 S) := by rw [hW]; go_simp
  have r0 : W0.cell? ⟨w.heap.size + 1, 0, none⟩ = some (.int .i64 0) := by rw [hW]; go_simp
  have r1 : W0.cell? ⟨w.heap.size + 1, 1, none⟩ = some (.float .f32 0) := by rw [hW]; go_simp
  have r2 : W0.cell? ⟨w.heap.size + 1, 2, none⟩ = some (.float .f32 0) := by rw [hW]; go_simp
  have r3 : W0.cell? ⟨w.heap.size + 1, 3, none⟩ = some (.slice none 0 0) := by rw [hW]; go_simp
  have zz : ∀ a : Addr, w.heap.size ≤ a.block → W0.frozen? a = false := fun a ha => by rw [hW]; exact (frozen?_alloc_cells _ _ _ _).trans ((frozen?_alloc_cells _ _ _ _).trans (frozen_new _ _ ha))
  have hsz : W0.heap.size = w.heap.size + 2 := by rw [hW]; simp
  have HG := Lib.hid (id_gives S w.heap.size W0 u0 s1 s2)
  have HS := Lib.hid (And.intro r0 (And.intro r1 (And.intro r2 r3)))
  have Z0 := Lib.hid zz
  have K0 := Lib.hid k0
  have HZ := Lib.hid hsz
  clear hW zz k0 r0 r1 r2 r3 hsz
  go_wp2_with (go_at_call 69; refine (cmade_gen S 0 1065353216 101 #[.pointer (some ⟨w.heap.size, 0, none⟩)] (idF S) W0 s1 s2 Try.call101 HG.out).mono ?_; rintro e w1 ⟨B, cap, hB, rfl, hcp, hcp2, hk, hc⟩; have HC := Lib.hid hc; have H1 := Lib.hid (And.intro hB (And.intro hcp hcp2)); have K1 := Lib.hid (K0.out.trans hk); have r0 := hk.some HS.out.1 id; have r1 := hk.some HS.out.2.1 id; have r2 := hk.some HS.out.2.2.1 id; have r3 := hk.some HS.out.2.2.2 id; have z0 := (hk.frozen ⟨w.heap.size + 1, 0, none⟩).trans (Z0.out ⟨w.heap.size + 1, 0, none⟩ (by simp)); have z1 := (hk.frozen ⟨w.heap.size + 1, 1, none⟩).trans (Z0.out ⟨w.heap.size + 1, 1, none⟩ (by simp)); have z2 := (hk.frozen ⟨w.heap.size + 1, 2, none⟩).trans (Z0.out ⟨w.heap.size + 1, 2, none⟩ (by simp)); have z3 := (hk.frozen ⟨w.heap.size + 1, 3, none⟩).trans (Z0.out ⟨w.heap.size + 1, 3, none⟩ (by simp)); clear hc hB hcp hcp2 hk)
  have cs := cells_set4 (v0 := .int .i64 S) (v1 := .float .f32 0) (v2 := .float .f32 1065353216) (v3 := .slice (some ⟨B, 0, none⟩) (3 * (S * (S * S))) cap) r0 r1 r2 r3
  refine bodyPost_ret (cu_ret2 Try.results50 _ _ (w.heap.size + 1) _ _ _ _ cs rfl) rfl ?_
  obtain ⟨hB, hcp, hcp2⟩ := H1.out
  have hsz := HZ.out
  refine ⟨B, cap, by omega, rfl, hcp, hcp2, kept_set4' K1.out (by omega), fun j hj => ?_⟩
  have hne : w.heap.size + 1 ≠ B := by omega
  exact cell_set_ne (cell_set_ne (cell_set_ne (cell_set_ne (HC.out j hj) (Or.inl hne)) (Or.inl hne)) (Or.inl hne)) (Or.inl hne)

theorem identity_two (w : World) : Calls Try.prog 50 #[.int .i64 2] w (CuPost 2 0 1065353216 24 (cubG (idF ((2 : Nat) : Int)) 2) w) := identity_yes 2 w (by omega) (by omega)
theorem id_one : cubG (idF ((2 : Nat) : Int)) 2 3 = 1065353216 := by decide +kernel

set_option linter.unusedSimpArgs false in
set_option linter.unusedVariables false in
set_option maxHeartbeats 4000000 in
set_option maxRecDepth 100000 in
theorem cubes_any (w : World) : Calls Try.prog 16 #[] w fun e w' => e = .returned (.bool true) ∧ Kept None' w w' := by
  go_enter Try.func16, Try.ntmps16
  go_wp2_with (go_at_call 50; refine (identity_two _).mono ?_; rintro e w1 ⟨B, cap, hB, rfl, hcp, hcp2, hk, hc⟩; have c3 := hc 3 (by omega); rw [id_one] at c3; have c4 := fun c t => ((Kept.refl None' w1).alloc c t).some c3 id; have HK := Lib.hid (And.intro hB hk); clear hc hB hcp hcp2 hk)
  go_ret
  exact ⟨rfl, (HK.out.2).alloc _ _⟩

set_option linter.unusedSimpArgs false in
set_option linter.unusedVariables false in
set_option maxHeartbeats 4000000 in
set_option maxRecDepth 100000 in
theorem nocube_zero (w : World) : Calls Try.prog 17 #[zeroCube] w fun e w' => e = .returned (.bool true) ∧ Kept None' w w' := by
  unfold zeroCube
  go_enter Try.func17, Try.ntmps17
  go_wp2_with fail
  go_ret
  exact ⟨rfl, (Kept.refl _ _).alloc _ _⟩

set_option linter.unusedSimpArgs false in
set_option linter.unusedVariables false in
set_option maxHeartbeats 4000000 in
set_option maxRecDepth 100000 in
theorem eqfunc_same (b1 o1 b2 o2 n c1 c2 : Nat) (G : Nat → Nat) (w : World) (hn : n ≤ 65536) (h1 : ∀ j, j < n → w.cell? ⟨b1, o1 + j, none⟩ = some (.float .f32 (G j))) (h2 : ∀ j, j < n → w.cell? ⟨b2, o2 + j, none⟩ = some (.float .f32 (G j))) :
    Calls Try.prog 77 #[.slice (some ⟨b1, o1, none⟩) n c1, .slice (some ⟨b2, o2, none⟩) n c2, .func (.func 28) #[] #[]] w fun e w' => e = .returned (.bool true) ∧ w = w' := by
  have H1 := Lib.hid h1
  have H2 := Lib.hid h2
  clear h1 h2
  go_enter Try.func77, Try.ntmps77
  go_wp2_with fail
  go_loop [17] (fun s => ∃ j : Nat, j ≤ n ∧ s = .int .i64 j) (fun s => (n - intOf s).toNat)
  case atStart => exact ⟨0, Nat.zero_le _, rfl⟩
  case round =>
    obtain ⟨j, hj, rfl⟩ := hrel
    by_cases hlt : j < n
    · have e1 := H1.out j hlt
      have e2 := H2.out j hlt
      have d1 : decide ((j : Int) < (n : Int)) = true := decide_eq_true (by omega)
      have j1 : (0 : Int) ≤ (j : Int) := by omega
      have j2 : (j : Int) < (n : Int) := by omega
      go_wp2_with (go_at_call 28; refine (same_any _ _ _).mono ?_; rintro e w' ⟨rfl, rfl⟩)
      go_round
      case rel => exact ⟨j + 1, by omega, by go_num⟩
      case measure => simp [intOf]; omega
    · obtain rfl : j = n := by omega
      have d1 : decide ((j : Int) < (j : Int)) = false := by simp
      go_wp2
      go_ret
      exact ⟨rfl, rfl⟩

set_option linter.unusedSimpArgs false in
set_option linter.unusedVariables false in
set_option maxHeartbeats 4000000 in
set_option maxRecDepth 100000 in
theorem samecube_same (S : Int) (lo hi b1 o1 b2 o2 n c1 c2 : Nat) (G : Nat → Nat) (w : World) (hn : n ≤ 65536) (h1 : ∀ j, j < n → w.cell? ⟨b1, o1 + j, none⟩ = some (.float .f32 (G j))) (h2 : ∀ j, j < n → w.cell? ⟨b2, o2 + j, none⟩ = some (.float .f32 (G j))) :
    Calls Try.prog 22 #[.agg #[.int .i64 S, .float .f32 lo, .float .f32 hi, .slice (some ⟨b1, o1, none⟩) n c1], .agg #[.int .i64 S, .float .f32 lo, .float .f32 hi, .slice (some ⟨b2, o2, none⟩) n c2]] w fun e w' => e = .returned (.bool true) ∧ Kept None' w w' := by
  have H1 := Lib.hid h1
  have H2 := Lib.hid h2
  clear h1 h2
  go_enter Try.func22, Try.ntmps22
  go_wp2_with (first
    | (go_at_call 28; refine (same_any _ _ _).mono ?_; rintro e w' ⟨rfl, rfl⟩)
    | (go_at_call 77; refine (eqfunc_same _ _ _ _ _ _ _ G _ hn (fun j hj => (((Kept.refl None' w).alloc _ _).alloc _ _).some (H1.out j hj) id) (fun j hj => (((Kept.refl None' w).alloc _ _).alloc _ _).some (H2.out j hj) id)).mono ?_; rintro e w' ⟨rfl, rfl⟩))
  go_ret
  exact ⟨rfl, ((Kept.refl _ _).alloc _ _).alloc _ _⟩
end Go.Proofs.Ytkmganophcklgaa
