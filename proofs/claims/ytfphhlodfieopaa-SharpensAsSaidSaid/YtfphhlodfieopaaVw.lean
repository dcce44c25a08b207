/- The contract of Vignette at a right frame. Conditions: none. -/
import Derived.Test.YtfphhlodfieopaaVv
namespace Go.Proofs.Ytfphhlodfieopaa
open Go.RowKit
open Fl Fr
open BigFrame

theorem frE_ok {x y W H : Int} {n : Nat} (h : frE x y W H n = 0) : regE x y W H = 0 ∧ (n : Int) = 4 * W * H := by
  unfold frE at h
  by_cases h1 : regE x y W H = 0
  · rw [if_neg (by simp [h1])] at h
    by_cases h2 : (n : Int) = 4 * W * H
    · exact ⟨h1, h2⟩
    · rw [if_pos h2] at h; exact absurd h (by decide)
  · rw [if_pos h1] at h; exact absurd h h1

def FrGot (x y W H : Int) (n : Nat) (G : Nat → Nat) (w : World) (e : Ending) (w' : World) : Prop :=
  ∃ B, w.heap.size ≤ B ∧ e = .returned (.tuple #[.agg #[.int .i64 x, .int .i64 y, .int .i64 W, .int .i64 H, .slice (some ⟨B, 0, none⟩) n n], .int .i64 0]) ∧ Kept None' w w' ∧ ∀ j, j < n → w'.cell? ⟨B, j, none⟩ = some (.float .f32 (G j))

set_option linter.unusedSimpArgs false in
set_option linter.unusedVariables false in
set_option maxHeartbeats 4000000 in
set_option maxRecDepth 100000 in
theorem vignette_ok (x y W H : Int) (b o n cap : Nat) (z : Nat → Nat) (X Y I O D : Nat) (w : World) (hF : frE x y W H n = 0) (hc : ∀ i, i < n → w.cell? ⟨b, o + i, none⟩ = some (.float .f32 (z i))) (hcap : n ≤ cap) (hcap2 : cap ≤ maxLen)
    (hX : isN X = true) (hY : isN Y = true) (hI : isN I = true) (hO2 : isN O = true) (hD : isN D = true) (hO : (FloatKind.f32.format.order O I == some .gt) = true) (hl : (FloatKind.f32.format.order D 0 == some .lt) = false) (hg : (FloatKind.f32.format.order D 1065353216 == some .gt) = false) :
    Calls Try.prog 52 #[.agg #[.int .i64 x, .int .i64 y, .int .i64 W, .int .i64 H, .slice (some ⟨b, o, none⟩) n cap], .agg #[.float .f32 X, .float .f32 Y, .float .f32 I, .float .f32 O, .float .f32 D]] w (FrGot x y W H n (mapG (vgF X Y I O D) x y W z) w) := by
  obtain ⟨hE, hn⟩ := frE_ok hF
  have hN : (isN X && (isN Y && (isN I && (isN O && isN D)))) = true := by rw [hX, hY, hI, hO2, hD]; rfl
  have HC := Lib.hid hc
  clear hc
  go_enter Try.func52, Try.ntmps52
  go_wp2_with (first
    | (go_at_call 76; refine (check_any _ _ _ _ _ _ _ _).mono ?_; rw [hF]; rintro e w1 ⟨rfl, hk1⟩
       have s0 : w1.cell? ⟨w.heap.size + 1 + 1, 0, none⟩ = some (.int .i64 0) := hk1.some (by go_simp) id
       have s1 : w1.cell? ⟨w.heap.size + 1 + 1, 1, none⟩ = some (.int .i64 0) := hk1.some (by go_simp) id
       have s2 : w1.cell? ⟨w.heap.size + 1 + 1, 2, none⟩ = some (.int .i64 0) := hk1.some (by go_simp) id
       have s3 : w1.cell? ⟨w.heap.size + 1 + 1, 3, none⟩ = some (.int .i64 0) := hk1.some (by go_simp) id
       have s4 : w1.cell? ⟨w.heap.size + 1 + 1, 4, none⟩ = some (.slice none 0 0) := hk1.some (by go_simp) id
       have v0 : w1.cell? ⟨w.heap.size + 1, 0, none⟩ = some (.float .f32 X) := hk1.some (by go_simp) id
       have v1 : w1.cell? ⟨w.heap.size + 1, 1, none⟩ = some (.float .f32 Y) := hk1.some (by go_simp) id
       have v2 : w1.cell? ⟨w.heap.size + 1, 2, none⟩ = some (.float .f32 I) := hk1.some (by go_simp) id
       have v3 : w1.cell? ⟨w.heap.size + 1, 3, none⟩ = some (.float .f32 O) := hk1.some (by go_simp) id
       have v4 : w1.cell? ⟨w.heap.size + 1, 4, none⟩ = some (.float .f32 D) := hk1.some (by go_simp) id
       have r0 : w1.cell? ⟨w.heap.size, 0, none⟩ = some (.int .i64 x) := hk1.some (by go_simp) id
       have r1 : w1.cell? ⟨w.heap.size, 1, none⟩ = some (.int .i64 y) := hk1.some (by go_simp) id
       have r2 : w1.cell? ⟨w.heap.size, 2, none⟩ = some (.int .i64 W) := hk1.some (by go_simp) id
       have r3 : w1.cell? ⟨w.heap.size, 3, none⟩ = some (.int .i64 H) := hk1.some (by go_simp) id
       have r4 : w1.cell? ⟨w.heap.size, 4, none⟩ = some (.slice (some ⟨b, o, none⟩) n cap) := hk1.some (by go_simp) id
       have z1 : ∀ a : Addr, w.heap.size ≤ a.block → w1.frozen? a = false := fun a ha => (hk1.frozen a).trans ((frozen?_alloc_cells _ _ _ _).trans ((frozen?_alloc_cells _ _ _ _).trans ((frozen?_alloc_cells _ _ _ _).trans (frozen_new _ _ ha))))
       have f0 := z1 ⟨w.heap.size + 1 + 1, 0, none⟩ (by simp; omega)
       have f1 := z1 ⟨w.heap.size + 1 + 1, 1, none⟩ (by simp; omega)
       have f2 := z1 ⟨w.heap.size + 1 + 1, 2, none⟩ (by simp; omega)
       have f3 := z1 ⟨w.heap.size + 1 + 1, 3, none⟩ (by simp; omega)
       have f4 := z1 ⟨w.heap.size + 1 + 1, 4, none⟩ (by simp; omega)
       have L1 := cell_lt s0
       have K1 := Lib.hid (((((Kept.refl None' w).alloc _ _).alloc _ _).alloc _ _).trans hk1)
       clear hk1 z1)
    | (go_at_call 65; refine (allnum5_any _ _ X Y I O D _ (by go_simp) (by go_simp) (by go_simp) (by go_simp) (by go_simp)).mono ?_; rw [hN]; rintro e w2 ⟨rfl, hw2⟩
       have k2 : Kept None' w1 w2 := by rw [← hw2]; exact (Kept.refl _ _).alloc _ _
       have s0 := k2.some s0 id
       have s1 := k2.some s1 id
       have s2 := k2.some s2 id
       have s3 := k2.some s3 id
       have s4 := k2.some s4 id
       have v0 := k2.some v0 id
       have v1 := k2.some v1 id
       have v2 := k2.some v2 id
       have v3 := k2.some v3 id
       have v4 := k2.some v4 id
       have r0 := k2.some r0 id
       have r1 := k2.some r1 id
       have r2 := k2.some r2 id
       have r3 := k2.some r3 id
       have r4 := k2.some r4 id
       have f0 := (k2.frozen _).trans f0
       have f1 := (k2.frozen _).trans f1
       have f2 := (k2.frozen _).trans f2
       have f3 := (k2.frozen _).trans f3
       have f4 := (k2.frozen _).trans f4
       have K2 := Lib.hid (K1.out.trans k2)
       clear hw2 k2)
    | (go_at_call 78
       refine (mapped_gen x y W H b o n cap z 93 #[.pointer (some ⟨w.heap.size + 1, 0, none⟩)] (vgF X Y I O D) _ hE hn (fun i hi => K2.out.some (HC.out i hi) id) hcap hcap2 Try.call93 (vig_maps X Y I O D _ _ hX hY hI hO2 ⟨v0, v1, v2, v3, v4⟩)).mono ?_
       rintro e w4 ⟨B, hB, rfl, hk4, hz4⟩
       have L2 := cell_lt s0
       have s0 := hk4.some s0 id
       have s1 := hk4.some s1 id
       have s2 := hk4.some s2 id
       have s3 := hk4.some s3 id
       have s4 := hk4.some s4 id
       have f0 := (hk4.frozen _).trans f0
       have f1 := (hk4.frozen _).trans f1
       have f2 := (hk4.frozen _).trans f2
       have f3 := (hk4.frozen _).trans f3
       have f4 := (hk4.frozen _).trans f4
       have HB : w.heap.size + 1 + 1 < B := Nat.lt_of_lt_of_le L2 hB
       have K4 := Lib.hid (K2.out.trans hk4)
       have HZ := Lib.hid hz4
       clear hk4 hz4 hB)
    | fail)
  refine bodyPost_ret (fr_ret2 Try.results52 _ _ (w.heap.size + 1 + 1) _ _ _ _ _ (cells_set5 s0 s1 s2 s3 s4) rfl) rfl ?_
  refine ⟨B, by omega, rfl, kept_set5 K4.out (by omega), fun j hj => ?_⟩
  exact cell_set_ne (cell_set_ne (cell_set_ne (cell_set_ne (cell_set_ne (HZ.out j hj) (Or.inl (by omega))) (Or.inl (by omega))) (Or.inl (by omega))) (Or.inl (by omega))) (Or.inl (by omega))
end Go.Proofs.Ytfphhlodfieopaa
