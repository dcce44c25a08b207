/- Colours of places of another size; the functions that Compose and Resize hand to made. Conditions: none. -/
import Derived.Test.YtkmganophcklgaaNb
import Derived.Test.YtkmganophcklgaaTo
import Derived.Test.YtkmganophcklgaaHb
namespace Go.Proofs.Ytkmganophcklgaa
open Go.RowKit
open Fl Fr
open BigFrame

/-- Three singles as a pixel. -/
def pxT (x : Nat → Nat) (c : Nat) : Nat := if c = 0 then x 0 else if c = 1 then x 1 else if c = 2 then x 2 else 0
theorem axT_cl (S : Int) (lo hi v : Nat) : axT S lo hi (cl .f32 v) = axT S lo hi v := by unfold axT; rw [fC_cl_l]
theorem axI_cl (S : Int) (lo hi v : Nat) : axI S lo hi (cl .f32 v) = axI S lo hi v := by unfold axI; rw [axT_cl]
theorem axS_cl (S : Int) (lo hi v : Nat) : axS S lo hi (cl .f32 v) = axS S lo hi v := by unfold axS; rw [axT_cl]
/-- Which NaN a pixel bears makes no difference. -/
theorem teP_pcl (E : Int → Int → Int → Nat → Nat) (S : Int) (lo hi : Nat) (p : Nat → Nat) (c : Nat) : teP E S lo hi (fun c => cl .f32 (p c)) c = teP E S lo hi p c := by
  unfold teP brk
  simp only [nan_cl, cl_cl, axI_cl, axS_cl]
theorem pxT_cl (x : Nat → Nat) : pxT (fun c => cl .f32 (x c)) = fun c => cl .f32 (pxT x c) := funext fun c => by
  have h0 : cl .f32 0 = 0 := by decide +kernel
  unfold pxT
  split
  · rfl
  · split
    · rfl
    · split
      · rfl
      · exact h0.symm
theorem teP_canon3 (E : Int → Int → Int → Nat → Nat) (S : Int) (lo hi : Nat) (p : Nat → Nat) (c : Nat) (_ : ∀ x y z c, cl .f32 (E x y z c) = E x y z c ∨ True) : cl .f32 (teP E S lo hi p c) = teP E S lo hi p c := by
  unfold teP
  split
  · exact cl_cl _ _
  · split
    · exact cl_nan (nan_qn _)
    · exact teV_canon ..

set_option linter.unusedSimpArgs false in
set_option linter.unusedVariables false in
set_option maxHeartbeats 4000000 in
set_option maxRecDepth 100000 in
theorem colours_any (p : Nat → Nat) (w : World) : Calls Try.prog 105 #[.agg #[.float .f32 (p 0), .float .f32 (p 1), .float .f32 (p 2), .float .f32 (p 3)]] w fun e w' => e = .returned (.agg #[.float .f32 (p 0), .float .f32 (p 1), .float .f32 (p 2)]) ∧ Kept None' w w' := by
  obtain ⟨x0, h0⟩ : ∃ x, p 0 = x := ⟨_, rfl⟩
  obtain ⟨x1, h1⟩ : ∃ x, p 1 = x := ⟨_, rfl⟩
  obtain ⟨x2, h2⟩ : ∃ x, p 2 = x := ⟨_, rfl⟩
  obtain ⟨x3, h3⟩ : ∃ x, p 3 = x := ⟨_, rfl⟩
  rw [h0, h1, h2, h3]
  clear h0 h1 h2 h3
  go_enter Try.func105, Try.ntmps105
  go_upto_region 1 with (fail)
  refine of_world (fun W0 hW => ?_)
  have k0 : Kept None' w W0 := by rw [hW]; exact ((Kept.refl None' w).alloc _ _).alloc _ _
  have u0 : W0.cell? ⟨w.heap.size, 0, none⟩ = some (.float .f32 x0) := by rw [hW]; go_simp
  have u1 : W0.cell? ⟨w.heap.size, 1, none⟩ = some (.float .f32 x1) := by rw [hW]; go_simp
  have u2 : W0.cell? ⟨w.heap.size, 2, none⟩ = some (.float .f32 x2) := by rw [hW]; go_simp
  have s0 : W0.cell? ⟨w.heap.size + 1, 0, none⟩ = some (.float .f32 0) := by rw [hW]; go_simp
  have s1 : W0.cell? ⟨w.heap.size + 1, 1, none⟩ = some (.float .f32 0) := by rw [hW]; go_simp
  have s2 : W0.cell? ⟨w.heap.size + 1, 2, none⟩ = some (.float .f32 0) := by rw [hW]; go_simp
  have zz : ∀ c, W0.frozen? ⟨w.heap.size + 1, c, none⟩ = false := fun c => by rw [hW]; exact (frozen?_alloc_cells _ _ _ _).trans ((frozen?_alloc_cells _ _ _ _).trans (frozen_new _ _ (by simp)))
  have z0 := zz 0
  have z1 := zz 1
  have z2 := zz 2
  have K0 := Lib.hid k0
  have hp := ar3_ptr
  clear hW k0 zz
  go_wp2_with fail
  have cs := cells_set3 (v0 := .float .f32 x0) (v1 := .float .f32 x1) (v2 := .float .f32 x2) s0 s1 s2
  refine bodyPost_ret (ar3_ret Try.results105 _ _ (w.heap.size + 1) _ _ _ cs.1 cs.2.1 cs.2.2 rfl) rfl ?_
  exact ⟨rfl, kept_set3 K0.out (by omega)⟩

/-- The colours of b at an entry of a. -/
def cmF (Ea Eb : Int → Int → Int → Nat → Nat) (S : Int) (lo hi : Nat) (i j k : Int) (c : Nat) : Nat := teP Eb S lo hi (pxT (fun c => Ea i j k c)) c
theorem cmF_cl (Ea Eb : Int → Int → Int → Nat → Nat) (S : Int) (lo hi : Nat) (i j k : Int) (c : Nat) : cmF (fun i j k c => cl .f32 (Ea i j k c)) Eb S lo hi i j k c = cmF Ea Eb S lo hi i j k c := by
  unfold cmF
  rw [pxT_cl, teP_pcl]
theorem cmF_clb (Ea Eb : Int → Int → Int → Nat → Nat) (S : Int) (lo hi : Nat) (i j k : Int) (c : Nat) : cmF Ea (fun i j k c => cl .f32 (Eb i j k c)) S lo hi i j k c = cmF Ea Eb S lo hi i j k c := by
  unfold cmF
  rw [teP_cl]
theorem cl_cmF (Ea Eb : Int → Int → Int → Nat → Nat) (S : Int) (lo hi : Nat) (i j k : Int) (c : Nat) : cl .f32 (cmF Ea Eb S lo hi i j k c) = cmF Ea Eb S lo hi i j k c := teP_canon3 _ _ _ _ _ _ (fun _ _ _ _ => .inr trivial)

set_option linter.unusedSimpArgs false in
set_option linter.unusedVariables false in
set_option maxHeartbeats 1000000 in
set_option maxRecDepth 100000 in
theorem compose1_any (i j k : Int) (Sa Sb : Int) (loa hia ba oa na capa lob hib bb ob nb capb Ta Tb : Nat) (e g : Nat → Nat) (w : World) (hBa : CubB Ta Sa loa hia ba oa na capa w) (hBb : CubB Tb Sb lob hib bb ob nb capb w)
    (hC : ∀ wr, Kept None' w wr → Calls Try.prog 71 #[.agg #[.int .i64 Sa, .float .f32 loa, .float .f32 hia, .slice (some ⟨ba, oa, none⟩) na capa], .int .i64 i, .int .i64 j, .int .i64 k] wr fun x w' => x = .returned (.agg #[.float .f32 (e 0), .float .f32 (e 1), .float .f32 (e 2)]) ∧ Kept None' wr w')
    (hT : ∀ wr, Kept None' w wr → Calls Try.prog 86 #[.agg #[.int .i64 Sb, .float .f32 lob, .float .f32 hib, .slice (some ⟨bb, ob, none⟩) nb capb], .agg #[.float .f32 (e 0), .float .f32 (e 1), .float .f32 (e 2), .float .f32 0]] wr (PxIs g wr)) :
    Calls Try.prog 104 #[.int .i64 i, .int .i64 j, .int .i64 k, .pointer (some ⟨Ta, 0, none⟩), .pointer (some ⟨Tb, 0, none⟩)] w fun x w' => x = .returned (.agg #[.float .f32 (g 0), .float .f32 (g 1), .float .f32 (g 2)]) ∧ Kept None' w w' := by
  have HC := Lib.hid hC
  have HT := Lib.hid hT
  have HBa := Lib.hid hBa
  have HBb := Lib.hid hBb
  clear hC hT hBa hBb
  go_enter Try.func104, Try.ntmps104
  go_upto_region 1 with (fail)
  refine of_world (fun W0 hW => ?_)
  have k0 : Kept None' w W0 := by rw [hW]; exact (Kept.refl None' w).alloc _ _
  have hr : ∀ c, c < 3 → W0.cell? ⟨w.heap.size, c, none⟩ = some (.float .f32 0) := fun c hc => by
    rw [hW]
    obtain rfl | rfl | rfl : c = 0 ∨ c = 1 ∨ c = 2 := by omega
    all_goals go_simp
  have zz : ∀ c, W0.frozen? ⟨w.heap.size, c, none⟩ = false := fun c => by rw [hW]; exact (frozen?_alloc_cells _ _ _ _).trans (frozen_new _ _ (Nat.le_refl _))
  obtain ⟨t0, t1, t2, t3⟩ := HBa.out.step k0 id
  have K0 := Lib.hid k0
  have HR := Lib.hid (And.intro hr zz)
  clear hW k0 hr zz
  go_upto_region 2 with (go_at_call 71; refine (HC.out _ K0.out).mono ?_; rintro x w1 ⟨rfl, hk⟩)
  refine of_world (fun W2 hW => ?_)
  have k2 : Kept None' W0 W2 := hk.trans (by rw [hW]; exact (Kept.refl _ _).alloc _ _)
  have x0 : W2.cell? ⟨w1.heap.size, 0, none⟩ = some (.float .f32 (e 0)) := by rw [hW]; go_simp
  have x1 : W2.cell? ⟨w1.heap.size, 1, none⟩ = some (.float .f32 (e 1)) := by rw [hW]; go_simp
  have x2 : W2.cell? ⟨w1.heap.size, 2, none⟩ = some (.float .f32 (e 2)) := by rw [hW]; go_simp
  have K2 := Lib.hid (K0.out.trans k2)
  have H2 := Lib.hid k2
  clear t0 t1 t2 t3
  obtain ⟨t0, t1, t2, t3⟩ := HBb.out.step K2.out id
  clear hW hk k2
  go_wp2_with (first
    | (go_at_call 86; refine (HT.out _ K2.out).mono ?_; rintro x w3 ⟨rfl, hk⟩; have K3 := Lib.hid hk; clear hk)
    | (go_at_call 105; refine (colours_any g _).mono ?_; rintro x w4 ⟨rfl, hk⟩; have kk := H2.out.trans (K3.out.trans hk); have r0 := kk.some (HR.out.1 0 (by omega)) id; have r1 := kk.some (HR.out.1 1 (by omega)) id; have r2 := kk.some (HR.out.1 2 (by omega)) id; have z0 := (kk.frozen ⟨w.heap.size, 0, none⟩).trans (HR.out.2 0); have z1 := (kk.frozen ⟨w.heap.size, 1, none⟩).trans (HR.out.2 1); have z2 := (kk.frozen ⟨w.heap.size, 2, none⟩).trans (HR.out.2 2); have K4 := Lib.hid (K0.out.trans kk); clear hk kk))
  have cs := cells_set3 (v0 := .float .f32 (g 0)) (v1 := .float .f32 (g 1)) (v2 := .float .f32 (g 2)) r0 r1 r2
  refine bodyPost_ret (ar3_ret Try.results104 _ _ w.heap.size _ _ _ cs.1 cs.2.1 cs.2.2 rfl) rfl ?_
  exact ⟨rfl, kept_set3 K4.out (Nat.le_refl _)⟩

set_option linter.unusedSimpArgs false in
set_option linter.unusedVariables false in
set_option maxHeartbeats 1000000 in
set_option maxRecDepth 100000 in
theorem ccompose1_any (i j k : Int) (Sa Sb : Int) (loa hia ba oa na capa lob hib bb ob nb capb Ta Tb : Nat) (e g : Nat → Nat) (w : World) (hBa : CubB Ta Sa loa hia ba oa na capa w) (hBb : CubB Tb Sb lob hib bb ob nb capb w)
    (hC : ∀ wr, Kept None' w wr → Calls Try.prog 20 #[.agg #[.int .i64 Sa, .float .f32 loa, .float .f32 hia, .slice (some ⟨ba, oa, none⟩) na capa], .int .i64 i, .int .i64 j, .int .i64 k] wr fun x w' => x = .returned (.agg #[.float .f32 (e 0), .float .f32 (e 1), .float .f32 (e 2)]) ∧ Kept None' wr w')
    (hT : ∀ wr, Kept None' w wr → Calls Try.prog 40 #[.agg #[.int .i64 Sb, .float .f32 lob, .float .f32 hib, .slice (some ⟨bb, ob, none⟩) nb capb], .agg #[.float .f32 (e 0), .float .f32 (e 1), .float .f32 (e 2), .float .f32 0]] wr (PxIs g wr)) :
    Calls Try.prog 62 #[.int .i64 i, .int .i64 j, .int .i64 k, .pointer (some ⟨Ta, 0, none⟩), .pointer (some ⟨Tb, 0, none⟩)] w fun x w' => x = .returned (.agg #[.float .f32 (g 0), .float .f32 (g 1), .float .f32 (g 2)]) ∧ Kept None' w w' := by
  have HC := Lib.hid hC
  have HT := Lib.hid hT
  have HBa := Lib.hid hBa
  have HBb := Lib.hid hBb
  clear hC hT hBa hBb
  go_enter Try.func62, Try.ntmps62
  go_upto_region 1 with (fail)
  refine of_world (fun W0 hW => ?_)
  have k0 : Kept None' w W0 := by rw [hW]; exact (Kept.refl None' w).alloc _ _
  have hr : ∀ c, c < 3 → W0.cell? ⟨w.heap.size, c, none⟩ = some (.float .f32 0) := fun c hc => by
    rw [hW]
    obtain rfl | rfl | rfl : c = 0 ∨ c = 1 ∨ c = 2 := by omega
    all_goals go_simp
  have zz : ∀ c, W0.frozen? ⟨w.heap.size, c, none⟩ = false := fun c => by rw [hW]; exact (frozen?_alloc_cells _ _ _ _).trans (frozen_new _ _ (Nat.le_refl _))
  obtain ⟨t0, t1, t2, t3⟩ := HBa.out.step k0 id
  have K0 := Lib.hid k0
  have HR := Lib.hid (And.intro hr zz)
  clear hW k0 hr zz
  go_upto_region 2 with (go_at_call 20; refine (HC.out _ K0.out).mono ?_; rintro x w1 ⟨rfl, hk⟩)
  refine of_world (fun W2 hW => ?_)
  have k2 : Kept None' W0 W2 := hk.trans (by rw [hW]; exact (Kept.refl _ _).alloc _ _)
  have x0 : W2.cell? ⟨w1.heap.size, 0, none⟩ = some (.float .f32 (e 0)) := by rw [hW]; go_simp
  have x1 : W2.cell? ⟨w1.heap.size, 1, none⟩ = some (.float .f32 (e 1)) := by rw [hW]; go_simp
  have x2 : W2.cell? ⟨w1.heap.size, 2, none⟩ = some (.float .f32 (e 2)) := by rw [hW]; go_simp
  have K2 := Lib.hid (K0.out.trans k2)
  have H2 := Lib.hid k2
  clear t0 t1 t2 t3
  obtain ⟨t0, t1, t2, t3⟩ := HBb.out.step K2.out id
  clear hW hk k2
  go_upto_region 3 with (go_at_call 40; refine (HT.out _ K2.out).mono ?_; rintro x w3 ⟨rfl, hk⟩)
  refine of_world (fun W4 hW => ?_)
  have k4 : Kept None' W2 W4 := hk.trans (by rw [hW]; exact (Kept.refl _ _).alloc _ _)
  have y0 : W4.cell? ⟨w3.heap.size, 0, none⟩ = some (.float .f32 (g 0)) := by rw [hW]; go_simp
  have y1 : W4.cell? ⟨w3.heap.size, 1, none⟩ = some (.float .f32 (g 1)) := by rw [hW]; go_simp
  have y2 : W4.cell? ⟨w3.heap.size, 2, none⟩ = some (.float .f32 (g 2)) := by rw [hW]; go_simp
  have kk := H2.out.trans k4
  have r0 := kk.some (HR.out.1 0 (by omega)) id
  have r1 := kk.some (HR.out.1 1 (by omega)) id
  have r2 := kk.some (HR.out.1 2 (by omega)) id
  have z0 := (kk.frozen ⟨w.heap.size, 0, none⟩).trans (HR.out.2 0)
  have z1 := (kk.frozen ⟨w.heap.size, 1, none⟩).trans (HR.out.2 1)
  have z2 := (kk.frozen ⟨w.heap.size, 2, none⟩).trans (HR.out.2 2)
  have K4 := Lib.hid (K0.out.trans kk)
  clear hW hk k4 kk t0 t1 t2 t3 x0 x1 x2
  go_wp2_with fail
  have cs := cells_set3 (v0 := .float .f32 (g 0)) (v1 := .float .f32 (g 1)) (v2 := .float .f32 (g 2)) r0 r1 r2
  refine bodyPost_ret (ar3_ret Try.results62 _ _ w.heap.size _ _ _ cs.1 cs.2.1 cs.2.2 rfl) rfl ?_
  exact ⟨rfl, kept_set3 K4.out (Nat.le_refl _)⟩

/-- A place's value on an axis that is cut elsewhere. -/
theorem cuE_size {S : Int} {lo hi n : Nat} (h : cuE S lo hi n = 0) {N : Nat} (h1 : 2 ≤ N) (h2 : N ≤ 17) : cuE (N : Int) lo hi (3 * (N * (N * N))) = 0 := by
  obtain ⟨a, b, c, d, e⟩ := cuE_num h
  unfold cuE
  have i1 : inB (N : Int) 2 17 = true := inB_iff.2 ⟨by omega, by omega⟩
  have i2 : (((3 * (N * (N * N)) : Nat) : Int) == 3 * (N : Int) * N * N) = true := by rw [beq_iff_eq]; exact cub_n
  rw [if_neg (by rw [i1]; decide), if_neg (by rw [i2]; decide), if_neg (by rw [a]; decide), if_neg (by rw [b]; decide), if_neg (by rw [e]; decide), if_neg (by rw [c, d]; decide)]
set_option linter.unusedSimpArgs false in
set_option linter.unusedVariables false in
set_option maxHeartbeats 4000000 in
set_option maxRecDepth 100000 in
theorem spot_size (S : Int) (N : Nat) (lo hi : Nat) (A : Option Addr) (n cap : Nat) (i : Int) (w : World) (hE : cuE S lo hi n = 0) (i0 : 0 ≤ i) (i1 : i ≤ (N : Int) - 1) (s1 : 2 ≤ N) (s2 : N ≤ 17) :
    Calls Try.prog 91 #[.agg #[.int .i64 S, .float .f32 lo, .float .f32 hi, .slice A n cap], .float .f32 (valP i ((N : Int) - 1))] w fun e w' => e = .returned (.float .f32 (spP N lo hi i)) ∧ Kept None' w w' := by
  obtain ⟨⟨a1, a2⟩, ⟨b1, b2⟩, ⟨c1, c2⟩⟩ := spot_det (cuE_size hE s1 s2) i0 i1 (by omega) (by omega)
  generalize valP i ((N : Int) - 1) = v at *
  go_enter Try.func91, Try.ntmps91
  go_wp2_with fail
  go_ret
  exact ⟨rfl, (Kept.refl None' w).alloc _ _⟩

set_option linter.unusedSimpArgs false in
set_option linter.unusedVariables false in
set_option maxHeartbeats 1000000 in
set_option maxRecDepth 100000 in
theorem resize1_any (i j k : Int) (S : Int) (lo hi b o n cap T U : Nat) (N : Nat) (g : Nat → Nat) (w : World) (hE : cuE S lo hi n = 0) (s1 : 2 ≤ N) (s2 : N ≤ 17) (i0 : 0 ≤ i) (i1 : i < N) (j0 : 0 ≤ j) (j1 : j < N) (k0 : 0 ≤ k) (k1 : k < N) (hB : CubB T S lo hi b o n cap w) (hU : w.cell? ⟨U, 0, none⟩ = some (.int .i64 (N : Int)))
    (hT : ∀ wr, Kept None' w wr → Calls Try.prog 86 #[.agg #[.int .i64 S, .float .f32 lo, .float .f32 hi, .slice (some ⟨b, o, none⟩) n cap], .agg #[.float .f32 (spP N lo hi i), .float .f32 (spP N lo hi j), .float .f32 (spP N lo hi k), .float .f32 0]] wr (PxIs g wr)) :
    Calls Try.prog 106 #[.int .i64 i, .int .i64 j, .int .i64 k, .pointer (some ⟨T, 0, none⟩), .pointer (some ⟨U, 0, none⟩)] w fun x w' => x = .returned (.agg #[.float .f32 (g 0), .float .f32 (g 1), .float .f32 (g 2)]) ∧ Kept None' w w' := by
  have HPt := Lib.hid (fun (x : Int) (wr : World) (x0 : 0 ≤ x) (x1 : x < N) => part_any x (N : Int) wr x0 (by omega) (by omega) (by omega))
  have HSp := Lib.hid (fun (x : Int) (wr : World) (x0 : 0 ≤ x) (x1 : x < N) => spot_size S N lo hi (some ⟨b, o, none⟩) n cap x wr hE x0 (by omega) s1 s2)
  have HT := Lib.hid hT
  have HB := Lib.hid hB
  have HU := Lib.hid hU
  clear hT hB hU hE
  go_enter Try.func106, Try.ntmps106
  go_upto_region 1 with (fail)
  refine of_world (fun W0 hW => ?_)
  have kw : Kept None' w W0 := by rw [hW]; exact (Kept.refl None' w).alloc _ _
  have hr : ∀ c, c < 3 → W0.cell? ⟨w.heap.size, c, none⟩ = some (.float .f32 0) := fun c hc => by
    rw [hW]
    obtain rfl | rfl | rfl : c = 0 ∨ c = 1 ∨ c = 2 := by omega
    all_goals go_simp
  have zz : ∀ c, W0.frozen? ⟨w.heap.size, c, none⟩ = false := fun c => by rw [hW]; exact (frozen?_alloc_cells _ _ _ _).trans (frozen_new _ _ (Nat.le_refl _))
  obtain ⟨t0, t1, t2, t3⟩ := HB.out.step kw id
  have A0 := ext_cell t0
  have A1 := ext_cell t1
  have A2 := ext_cell t2
  have A3 := ext_cell t3
  have A4 := ext_cell (kw.some HU.out id)
  have K0 := Lib.hid kw
  have HR := Lib.hid (And.intro hr zz)
  clear hW kw hr zz t0 t1 t2 t3
  refine region_with_tail 19 (by kernel_rfl) (by kernel_rfl) ?_
  simp only [List.take_succ_cons, List.take_zero, List.drop_succ_cons, List.drop_zero]
  repeat (first
    | (refine wpWith_det ?_; go_big_quiet_skip; refine wpQuiet_nil ?_)
    | (refine wpWith_det ?_; go_big_quiet_want; go_big_quiet_op; (first | go_big_quiet_on | (go_big_quiet_call (first
      | (go_at_call 92; exact calls_ext_same (HPt.out _ _ (by assumption) (by assumption)))
      | (go_at_call 91; exact calls_ext (HSp.out _ _ (by assumption) (by assumption)))
      | (go_at_call 86; exact calls_ext (HT.out _ (K0.out.trans (ext_kept _ _))))
      | (go_at_call 105; exact calls_ext (colours_any g _))
      ))); refine wpQuiet_nil ?_)
    | fail)
  refine wpWith_nil ?_
  rintro _ ⟨xq, rfl⟩
  have kx := ext_kept W0 xq
  have r0 := kx.some (HR.out.1 0 (by omega)) id
  have r1 := kx.some (HR.out.1 1 (by omega)) id
  have r2 := kx.some (HR.out.1 2 (by omega)) id
  have z0 := (kx.frozen ⟨w.heap.size, 0, none⟩).trans (HR.out.2 0)
  have z1 := (kx.frozen ⟨w.heap.size, 1, none⟩).trans (HR.out.2 1)
  have z2 := (kx.frozen ⟨w.heap.size, 2, none⟩).trans (HR.out.2 2)
  have K4 := Lib.hid (K0.out.trans kx)
  clear kx A0 A1 A2 A3 A4
  generalize ext _ xq = W4 at *
  go_wp2_with fail
  have cs := cells_set3 (v0 := .float .f32 (g 0)) (v1 := .float .f32 (g 1)) (v2 := .float .f32 (g 2)) r0 r1 r2
  refine bodyPost_ret (ar3_ret Try.results106 _ _ w.heap.size _ _ _ cs.1 cs.2.1 cs.2.2 rfl) rfl ?_
  exact ⟨rfl, kept_set3 K4.out (Nat.le_refl _)⟩

set_option linter.unusedSimpArgs false in
set_option linter.unusedVariables false in
set_option maxHeartbeats 1000000 in
set_option maxRecDepth 100000 in
theorem ccompose21_any (S : Int) (lo hi b o n cap T U : Nat) (N : Nat) (i : Int) (w : World) (hE : cuE S lo hi n = 0) (s1 : 2 ≤ N) (s2 : N ≤ 17) (i0 : 0 ≤ i) (i1 : i < N) (hB : CubB T S lo hi b o n cap w) (hU : w.cell? ⟨U, 0, none⟩ = some (.int .i64 (N : Int))) :
    Calls Try.prog 65 #[.int .i64 i, .pointer (some ⟨T, 0, none⟩), .pointer (some ⟨U, 0, none⟩)] w fun x w' => x = .returned (.float .f32 (spP N lo hi i)) ∧ w = w' := by
  have hd := spot_det (cuE_size hE s1 s2) i0 (show i ≤ (N : Int) - 1 by omega) (by omega) (by omega)
  obtain ⟨v1, v2⟩ := det (val_nan i ((N : Int) - 1) i0 (by omega) (by omega) (by omega))
  have hv : fC .quo .f32 (floatOfInt .f32 i) (floatOfInt .f32 ((N : Int) - 1)) = valP i ((N : Int) - 1) := rfl
  rw [hv] at v1
  generalize hq : valP i ((N : Int) - 1) = q at *
  obtain ⟨⟨a1, a2⟩, ⟨b1, b2⟩, ⟨c1, c2⟩⟩ := hd
  obtain ⟨t0, t1, t2, t3⟩ := hB
  have wN : IntKind.i64.wrap ((N : Int) - 1) = (N : Int) - 1 := IntWalk.i64_in _ (by omega)
  clear hE hq hv
  go_enter Try.func65, Try.ntmps65
  go_wp2_with fail
  go_ret
  exact ⟨rfl, rfl⟩

set_option linter.unusedSimpArgs false in
set_option linter.unusedVariables false in
set_option maxHeartbeats 1000000 in
set_option maxRecDepth 100000 in
theorem ccompose2_any (i j k : Int) (S : Int) (lo hi b o n cap T U : Nat) (N : Nat) (g : Nat → Nat) (w : World) (hE : cuE S lo hi n = 0) (s1 : 2 ≤ N) (s2 : N ≤ 17) (i0 : 0 ≤ i) (i1 : i < N) (j0 : 0 ≤ j) (j1 : j < N) (k0 : 0 ≤ k) (k1 : k < N) (hB : CubB T S lo hi b o n cap w) (hU : w.cell? ⟨U, 0, none⟩ = some (.int .i64 (N : Int)))
    (hT : ∀ wr, Kept None' w wr → Calls Try.prog 40 #[.agg #[.int .i64 S, .float .f32 lo, .float .f32 hi, .slice (some ⟨b, o, none⟩) n cap], .agg #[.float .f32 (spP N lo hi i), .float .f32 (spP N lo hi j), .float .f32 (spP N lo hi k), .float .f32 0]] wr (PxIs g wr)) :
    Calls Try.prog 64 #[.int .i64 i, .int .i64 j, .int .i64 k, .pointer (some ⟨T, 0, none⟩), .pointer (some ⟨U, 0, none⟩)] w fun x w' => x = .returned (.agg #[.float .f32 (g 0), .float .f32 (g 1), .float .f32 (g 2)]) ∧ Kept None' w w' := by
  have HAt := Lib.hid (fun (x : Int) (wr : World) (hk : Kept None' w wr) (x0 : 0 ≤ x) (x1 : x < N) => ccompose21_any S lo hi b o n cap T U N x wr hE s1 s2 x0 x1 (hB.step hk id) (hk.some hU id))
  have HT := Lib.hid hT
  have HB := Lib.hid hB
  clear hT hB hU hE
  go_enter Try.func64, Try.ntmps64
  go_upto_region 2 with (fail)
  refine of_world (fun W0 hW => ?_)
  have kw : Kept None' w W0 := by rw [hW]; exact (Kept.refl None' w).alloc _ _
  have hr : ∀ c, c < 3 → W0.cell? ⟨w.heap.size, c, none⟩ = some (.float .f32 0) := fun c hc => by
    rw [hW]
    obtain rfl | rfl | rfl : c = 0 ∨ c = 1 ∨ c = 2 := by omega
    all_goals go_simp
  have zz : ∀ c, W0.frozen? ⟨w.heap.size, c, none⟩ = false := fun c => by rw [hW]; exact (frozen?_alloc_cells _ _ _ _).trans (frozen_new _ _ (Nat.le_refl _))
  obtain ⟨t0, t1, t2, t3⟩ := HB.out.step kw id
  have A0 := ext_cell2 t0
  have A1 := ext_cell2 t1
  have A2 := ext_cell2 t2
  have A3 := ext_cell2 t3
  have hcall := Try.call65
  have K0 := Lib.hid kw
  have HR := Lib.hid (And.intro hr zz)
  clear hW kw hr zz t0 t1 t2 t3
  refine region_box [0, 1, 2, 3, 4, 5, 6, 7, 8, 9, 10, 11] 12 [13] 10 #[.float .f32 0, .float .f32 0, .float .f32 0, .float .f32 0] 56 (by kernel_rfl) (by kernel_rfl) rfl rfl rfl (fun _ _ => rfl) ?_
  simp only [pickO, List.filterMap_cons, List.filterMap_nil, List.getElem?_toArray, List.getElem?_cons_zero, List.getElem?_cons_succ]
  repeat (first
    | (refine wpStep_det (fun y => ?_); go_big_quiet_skip; refine wpQuiet_nil ?_)
    | (refine wpStep_det (fun y => ?_); go_big_quiet_want; go_big_quiet_op; (first | go_big_quiet_on | (go_big_quiet_call (first
        | (go_at_call 40; exact calls_ext (HT.out _ (K0.out.trans (ext_kept2 _ _ _))))
        | (exact calls_ext_same (HAt.out _ _ (K0.out.trans (ext_kept2 _ _ _)) (by assumption) (by assumption)))
        ))); refine wpQuiet_nil ?_)
    | fail)
  refine wpStep_nil ?_
  rintro P Wb hb
  have e0 := hb.cell 0 _ rfl
  have e1 := hb.cell 1 _ rfl
  have e2 := hb.cell 2 _ rfl
  have e3 := hb.cell 3 _ rfl
  have f0 := hb.fz 0
  have f1 := hb.fz 1
  have f2 := hb.fz 2
  have f3 := hb.fz 3
  have hlt : w.heap.size < P := Nat.lt_of_lt_of_le (cell_lt (HR.out.1 0 (by omega))) hb.le
  have HBx := Lib.hid (And.intro hb hlt)
  clear hb A0 A1 A2 A3 hlt
  go_upto_region 3 with fail
  refine of_world (fun W5 hW => ?_)
  have cs5 := cells_set4 (v0 := .float .f32 (g 0)) (v1 := .float .f32 (g 1)) (v2 := .float .f32 (g 2)) (v3 := .float .f32 (g 3)) e0 e1 e2 e3
  have nP : P ≠ w.heap.size := by have := HBx.out.2; omega
  have y0 : W5.cell? ⟨P, 0, none⟩ = some (.float .f32 (g 0)) := by rw [hW]; exact cs5.1
  have y1 : W5.cell? ⟨P, 1, none⟩ = some (.float .f32 (g 1)) := by rw [hW]; exact cs5.2.1
  have y2 : W5.cell? ⟨P, 2, none⟩ = some (.float .f32 (g 2)) := by rw [hW]; exact cs5.2.2.1
  have hr5 : ∀ c, c < 3 → W5.cell? ⟨w.heap.size, c, none⟩ = some (.float .f32 0) := fun c hc => by
    rw [hW]
    exact cell_set_ne (cell_set_ne (cell_set_ne (cell_set_ne (HBx.out.1.kept.some (HR.out.1 c hc) id) (Or.inl nP)) (Or.inl nP)) (Or.inl nP)) (Or.inl nP)
  have zz : ∀ c, W5.frozen? ⟨w.heap.size, c, none⟩ = false := fun c => by
    rw [hW]
    exact (World.frozen?_setCell ..).trans ((World.frozen?_setCell ..).trans ((World.frozen?_setCell ..).trans ((World.frozen?_setCell ..).trans ((HBx.out.1.kept.frozen _).trans (HR.out.2 c)))))
  have r0 := hr5 0 (by omega)
  have r1 := hr5 1 (by omega)
  have r2 := hr5 2 (by omega)
  have z0 := zz 0
  have z1 := zz 1
  have z2 := zz 2
  have K5 := Lib.hid (show Kept None' w W5 by rw [hW]; exact kept_set4' (K0.out.trans HBx.out.1.kept) (by have := HBx.out.2; omega))
  clear hW hr5 zz nP cs5 e0 e1 e2 e3 f0 f1 f2 f3
  go_wp2_with fail
  have cs := cells_set3 (v0 := .float .f32 (g 0)) (v1 := .float .f32 (g 1)) (v2 := .float .f32 (g 2)) r0 r1 r2
  refine bodyPost_ret (ar3_ret Try.results64 _ _ w.heap.size _ _ _ cs.1 cs.2.1 cs.2.2 rfl) rfl ?_
  exact ⟨rfl, kept_set3 K5.out (Nat.le_refl _)⟩
end Go.Proofs.Ytkmganophcklgaa
