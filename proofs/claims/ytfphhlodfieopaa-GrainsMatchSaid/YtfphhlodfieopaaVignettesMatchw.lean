/- The walk of VignettesMatch. Conditions: none. -/
import Derived.Test.YtfphhlodfieopaaVx
import Derived.Test.YtfphhlodfieopaaFi
import Derived.Test.YtfphhlodfieopaaRo
namespace Go.Proofs.Ytfphhlodfieopaa
open Go.RowKit
open Fl Fr
open BigFrame

/-- The world of the last test: the frame at Q, the frame that was got at R. -/
abbrev vlS (w : World) (Q R : Nat) (x y W H x2 y2 W2 H2 : Int) (A : Option Addr) (n cap : Nat) (A2 : Option Addr) (n2 cap2 : Nat) (w' : World) : Prop :=
  Kept None' w w' ∧ w'.cell? ⟨Q, 0, none⟩ = some (.int .i64 x) ∧ w'.cell? ⟨Q, 1, none⟩ = some (.int .i64 y) ∧ w'.cell? ⟨Q, 2, none⟩ = some (.int .i64 W) ∧ w'.cell? ⟨Q, 3, none⟩ = some (.int .i64 H) ∧ w'.cell? ⟨Q, 4, none⟩ = some (.slice A n cap) ∧
  w'.cell? ⟨R, 0, none⟩ = some (.int .i64 x2) ∧ w'.cell? ⟨R, 1, none⟩ = some (.int .i64 y2) ∧ w'.cell? ⟨R, 2, none⟩ = some (.int .i64 W2) ∧ w'.cell? ⟨R, 3, none⟩ = some (.int .i64 H2) ∧ w'.cell? ⟨R, 4, none⟩ = some (.slice A2 n2 cap2)
theorem vlS.kept {w : World} {Q R : Nat} {x y W H x2 y2 W2 H2 : Int} {A : Option Addr} {n cap : Nat} {A2 : Option Addr} {n2 cap2 : Nat} {w' w'' : World} (h : vlS w Q R x y W H x2 y2 W2 H2 A n cap A2 n2 cap2 w') (k : Kept None' w' w'') : vlS w Q R x y W H x2 y2 W2 H2 A n cap A2 n2 cap2 w'' := by
  obtain ⟨h0, b0, b1, b2, b3, b4, r0, r1, r2, r3, r4⟩ := h
  exact ⟨h0.trans k, k.some b0 id, k.some b1 id, k.some b2 id, k.some b3 id, k.some b4 id, k.some r0 id, k.some r1 id, k.some r2 id, k.some r3 id, k.some r4 id⟩

theorem vm_made (x y : Int) (W H : Nat) (b o n cap V Q : Nat) (z : Nat → Nat) (X Y I O D : Nat) (w : World) (hE : regE x y W H = 0) (hn4 : (n : Int) = 4 * W * H) (hn : n ≤ cap) (hn6 : n ≤ 65536) (hc : ∀ i, i < n → w.cell? ⟨b, o + i, none⟩ = some (.float .f32 (z i)))
    (hX : isN X = true) (hY : isN Y = true) (hI : isN I = true) (hO : isN O = true) (hV : VgB X Y I O D V w) (hQ : FrB x y W H (some ⟨b, o, none⟩) n cap Q w) :
    Calls Try.prog 38 #[.agg #[.int .i64 x, .int .i64 y, .int .i64 W, .int .i64 H], .func (.func 54) #[] #[.pointer (some ⟨V, 0, none⟩), .pointer (some ⟨Q, 0, none⟩)]] w (FrMade x y W H n (mapG (vgF X Y I O D) x y W z) w) := by
  have hnn : n = 4 * (W * H) := by
    have h1 : ((4 * (W * H) : Nat) : Int) = 4 * W * H := by rw [Int.natCast_mul, Int.natCast_mul, Int.mul_assoc]; rfl
    omega
  have hM := made_gen x y W H 54 #[.pointer (some ⟨V, 0, none⟩), .pointer (some ⟨Q, 0, none⟩)] (vmF X Y I O D x y W z) w hE Try.call54
    (vm_mades x y W H b o n cap V Q z X Y I O D w hE hn4 hn hn6 hc hX hY hI hO hV hQ)
  rw [← hnn] at hM
  exact hM.mono fun _ _ ⟨B, c, h1, h2, h3, h4⟩ => ⟨B, c, h1, h2, h3, fun j hj => by rw [h4 j hj, vm_same]⟩

set_option linter.unusedSimpArgs false in
set_option linter.unusedVariables false in
set_option maxHeartbeats 4000000 in
set_option maxRecDepth 100000 in
theorem vm_wrong (x y W H : Int) (A : Option Addr) (n cap : Nat) (X Y I O D : Nat) (E1 E2 E : Int) (w : World) (hE1 : frE x y W H n = E1) (hE2 : vgE X Y I O D = E2) (hE : (if E1 ≠ 0 then E1 else E2) = E) (h0 : ¬ E = 0)
    (HV : ∀ w, Calls Try.prog 52 #[.agg #[.int .i64 x, .int .i64 y, .int .i64 W, .int .i64 H, .slice A n cap], .agg #[.float .f32 X, .float .f32 Y, .float .f32 I, .float .f32 O, .float .f32 D]] w (ErrPost E w)) :
    Calls Try.prog 9 #[.agg #[.int .i64 x, .int .i64 y, .int .i64 W, .int .i64 H, .slice A n cap], .agg #[.float .f32 X, .float .f32 Y, .float .f32 I, .float .f32 O, .float .f32 D]] w fun e w' => e = .returned (.bool true) ∧ Kept None' w w' := by
  have hb : (E != 0) = true := by simp [h0]
  have hb2 : (E == 0) = false := by simp [h0]
  have HV := Lib.hid HV
  have HE1 := Lib.hid hE1
  have HE2 := Lib.hid hE2
  have HE := Lib.hid hE
  clear hE1 hE2 hE
  go_enter Try.func9, Try.ntmps9
  go_wp2_with (first
    | (go_at_call 52; refine (HV.out _).mono ?_; rintro e w1 ⟨rfl, hk1⟩
       have t0 : w1.cell? ⟨w.heap.size, 0, none⟩ = some (.int .i64 x) := hk1.some (by go_simp) id
       have t1 : w1.cell? ⟨w.heap.size, 1, none⟩ = some (.int .i64 y) := hk1.some (by go_simp) id
       have t2 : w1.cell? ⟨w.heap.size, 2, none⟩ = some (.int .i64 W) := hk1.some (by go_simp) id
       have t3 : w1.cell? ⟨w.heap.size, 3, none⟩ = some (.int .i64 H) := hk1.some (by go_simp) id
       have t4 : w1.cell? ⟨w.heap.size, 4, none⟩ = some (.slice A n cap) := hk1.some (by go_simp) id
       have v0 : w1.cell? ⟨w.heap.size + 1, 0, none⟩ = some (.float .f32 X) := hk1.some (by go_simp) id
       have v1 : w1.cell? ⟨w.heap.size + 1, 1, none⟩ = some (.float .f32 Y) := hk1.some (by go_simp) id
       have v2 : w1.cell? ⟨w.heap.size + 1, 2, none⟩ = some (.float .f32 I) := hk1.some (by go_simp) id
       have v3 : w1.cell? ⟨w.heap.size + 1, 3, none⟩ = some (.float .f32 O) := hk1.some (by go_simp) id
       have v4 : w1.cell? ⟨w.heap.size + 1, 4, none⟩ = some (.float .f32 D) := hk1.some (by go_simp) id
       have KF := Lib.hid ((((Kept.refl None' w).alloc _ _).alloc _ _).trans hk1)
       clear hk1
       unfold zeroFrame)
    | fail)
  refine of_world (fun W2 hW => ?_)
  have k12 : Kept None' w1 W2 := by rw [hW]; exact (Kept.refl _ _).alloc _ _
  have A0 := ext_cell (k12.some t0 id)
  have A1 := ext_cell (k12.some t1 id)
  have A2 := ext_cell (k12.some t2 id)
  have A3 := ext_cell (k12.some t3 id)
  have A4 := ext_cell (k12.some t4 id)
  have B0 := ext_cell (k12.some v0 id)
  have B1 := ext_cell (k12.some v1 id)
  have B2 := ext_cell (k12.some v2 id)
  have B3 := ext_cell (k12.some v3 id)
  have B4 := ext_cell (k12.some v4 id)
  have g0 : W2.cell? ⟨w1.heap.size, 0, none⟩ = some (.int .i64 0) := by rw [hW]; exact cell_alloc_one w1 _ _ 0
  have g1 : W2.cell? ⟨w1.heap.size, 1, none⟩ = some (.int .i64 0) := by rw [hW]; exact cell_alloc_one w1 _ _ 1
  have g2 : W2.cell? ⟨w1.heap.size, 2, none⟩ = some (.int .i64 0) := by rw [hW]; exact cell_alloc_one w1 _ _ 2
  have g3 : W2.cell? ⟨w1.heap.size, 3, none⟩ = some (.int .i64 0) := by rw [hW]; exact cell_alloc_one w1 _ _ 3
  have g4 : W2.cell? ⟨w1.heap.size, 4, none⟩ = some (.slice none 0 0) := by rw [hW]; exact cell_alloc_one w1 _ _ 4
  have KW := Lib.hid (KF.out.trans k12)
  clear hW k12 t0 t1 t2 t3 t4 v0 v1 v2 v3 v4
  refine region_ext_tail 4 (by kernel_rfl) (by kernel_rfl) ?_
  simp only [List.take_succ_cons, List.take_zero, List.drop_succ_cons, List.drop_zero]
  repeat (first
    | go_big_quiet_skip
    | (go_big_quiet_want; go_big_quiet_op; first | go_big_quiet_on | go_big_quiet_call (first
      | (go_at_call 33; exact calls_ext ((frameerror_any _ _ _ _ _ _ _ _).mono fun e w' ⟨a, b⟩ => ⟨by rw [a, HE1.out], b⟩))
      | (go_at_call 53; exact calls_ext ((vigerr_any _ _ _ _ _ _).mono fun e w' ⟨a, b⟩ => ⟨by rw [a, HE2.out], b⟩)))))
  refine wpQuiet_nil ?_
  rintro _ ⟨xq, rfl⟩
  have kx := ext_kept W2 xq
  have g0 := kx.some g0 id
  have g1 := kx.some g1 id
  have g2 := kx.some g2 id
  have g3 := kx.some g3 id
  have g4 := kx.some g4 id
  have K2 := Lib.hid (KW.out.trans kx)
  clear A0 A1 A2 A3 A4 B0 B1 B2 B3 B4 kx KW
  generalize ext W2 xq = w2 at *
  go_wp2_with fail
  refine (first2_any _ _ E1 E2 _ (by go_simp) (by go_simp)).mono ?_
  rw [HE.out]
  rintro e w' ⟨rfl, rfl⟩
  have lg := cell_lt g0
  go_wp2_with (first
    | (go_at_call 16; refine (finishes_one _).mono ?_; rintro e w' ⟨rfl, m, rfl⟩)
    | (go_at_call 17; refine (none_zero _).mono ?_; rintro e w5 ⟨rfl, hk5⟩)
    | fail)
  go_ret
  refine ⟨rfl, (K2.out.trans ?_).trans hk5⟩
  repeat (first | exact Kept.refl _ _ | refine Kept.drew ?_ _ | refine Kept.alloc ?_ _ _)

set_option linter.unusedSimpArgs false in
set_option linter.unusedVariables false in
set_option maxHeartbeats 4000000 in
set_option maxRecDepth 100000 in
theorem vm_right (x y : Int) (W H : Nat) (b o n cap : Nat) (z : Nat → Nat) (X Y I O D : Nat) (w : World) (hF : frE x y W H n = 0) (hcap : n ≤ cap) (hcap2 : cap ≤ maxLen) (hc : ∀ i, i < n → w.cell? ⟨b, o + i, none⟩ = some (.float .f32 (z i)))
    (hX : isN X = true) (hY : isN Y = true) (hI : isN I = true) (hO2 : isN O = true) (hD : isN D = true) (hO : (FloatKind.f32.format.order O I == some .gt) = true) (hl : (FloatKind.f32.format.order D 0 == some .lt) = false) (hg : (FloatKind.f32.format.order D 1065353216 == some .gt) = false) :
    Calls Try.prog 9 #[.agg #[.int .i64 x, .int .i64 y, .int .i64 W, .int .i64 H, .slice (some ⟨b, o, none⟩) n cap], .agg #[.float .f32 X, .float .f32 Y, .float .f32 I, .float .f32 O, .float .f32 D]] w fun e w' => e = .returned (.bool true) ∧ Kept None' w w' := by
  obtain ⟨hE, hn⟩ := frE_ok hF
  have hn6 : n ≤ 65536 := by
    obtain ⟨w1', w2', w3', w4', w5'⟩ := regE_ok hE
    have w6 := (mul_bd w1' w2' w3' w4').1
    have w7 : 4 * (W : Int) * H = 4 * (W * H) := Int.mul_assoc ..
    omega
  have hnn : n = 4 * (W * H) := by
    have h1 : ((4 * (W * H) : Nat) : Int) = 4 * W * H := by rw [Int.natCast_mul, Int.natCast_mul, Int.mul_assoc]; rfl
    omega
  have hvE : vgE X Y I O D = 0 := by unfold vgE; rw [hX, hY, hI, hO2, hD, hO, dkOk_ok hD hl hg]; rfl
  have HV := fun (w1 : World) (hk : Kept None' w w1) => vignette_ok x y W H b o n cap z X Y I O D w1 hF (fun i hi => hk.some (hc i hi) id) hcap hcap2 hX hY hI hO2 hD hO hl hg
  have HV := Lib.hid HV
  have HC := Lib.hid hc
  have HF := Lib.hid hF
  have HVE := Lib.hid hvE
  have HN := Lib.hid hn
  have HNN := Lib.hid hnn
  have HRE := Lib.hid hE
  clear hF hc hvE hO hl hg hD hn hnn hE
  go_enter Try.func9, Try.ntmps9
  go_wp2_with (first
    | (go_at_call 52; refine (HV.out _ (((Kept.refl None' w).alloc _ _).alloc _ _)).mono ?_; rintro e w1 ⟨B, hB, rfl, hk1, hz1⟩
       have t0 : w1.cell? ⟨w.heap.size, 0, none⟩ = some (.int .i64 x) := hk1.some (by go_simp) id
       have t1 : w1.cell? ⟨w.heap.size, 1, none⟩ = some (.int .i64 y) := hk1.some (by go_simp) id
       have t2 : w1.cell? ⟨w.heap.size, 2, none⟩ = some (.int .i64 W) := hk1.some (by go_simp) id
       have t3 : w1.cell? ⟨w.heap.size, 3, none⟩ = some (.int .i64 H) := hk1.some (by go_simp) id
       have t4 : w1.cell? ⟨w.heap.size, 4, none⟩ = some (.slice (some ⟨b, o, none⟩) n cap) := hk1.some (by go_simp) id
       have v0 : w1.cell? ⟨w.heap.size + 1, 0, none⟩ = some (.float .f32 X) := hk1.some (by go_simp) id
       have v1 : w1.cell? ⟨w.heap.size + 1, 1, none⟩ = some (.float .f32 Y) := hk1.some (by go_simp) id
       have v2 : w1.cell? ⟨w.heap.size + 1, 2, none⟩ = some (.float .f32 I) := hk1.some (by go_simp) id
       have v3 : w1.cell? ⟨w.heap.size + 1, 3, none⟩ = some (.float .f32 O) := hk1.some (by go_simp) id
       have v4 : w1.cell? ⟨w.heap.size + 1, 4, none⟩ = some (.float .f32 D) := hk1.some (by go_simp) id
       have KF := Lib.hid ((((Kept.refl None' w).alloc _ _).alloc _ _).trans hk1)
       have HZ := Lib.hid hz1
       clear hk1 hz1)
    | fail)
  refine of_world (fun W2 hW => ?_)
  have k12 : Kept None' w1 W2 := by rw [hW]; exact (Kept.refl _ _).alloc _ _
  have t0 := k12.some t0 id
  have t1 := k12.some t1 id
  have t2 := k12.some t2 id
  have t3 := k12.some t3 id
  have t4 := k12.some t4 id
  have v0 := k12.some v0 id
  have v1 := k12.some v1 id
  have v2 := k12.some v2 id
  have v3 := k12.some v3 id
  have v4 := k12.some v4 id
  have g0 : W2.cell? ⟨w1.heap.size, 0, none⟩ = some (.int .i64 x) := by rw [hW]; exact cell_alloc_one w1 _ _ 0
  have g1 : W2.cell? ⟨w1.heap.size, 1, none⟩ = some (.int .i64 y) := by rw [hW]; exact cell_alloc_one w1 _ _ 1
  have g2 : W2.cell? ⟨w1.heap.size, 2, none⟩ = some (.int .i64 W) := by rw [hW]; exact cell_alloc_one w1 _ _ 2
  have g3 : W2.cell? ⟨w1.heap.size, 3, none⟩ = some (.int .i64 H) := by rw [hW]; exact cell_alloc_one w1 _ _ 3
  have g4 : W2.cell? ⟨w1.heap.size, 4, none⟩ = some (.slice (some ⟨B, 0, none⟩) n n) := by rw [hW]; exact cell_alloc_one w1 _ _ 4
  have A0 := ext_cell t0
  have A1 := ext_cell t1
  have A2 := ext_cell t2
  have A3 := ext_cell t3
  have A4 := ext_cell t4
  have B0 := ext_cell v0
  have B1 := ext_cell v1
  have B2 := ext_cell v2
  have B3 := ext_cell v3
  have B4 := ext_cell v4
  have KW := Lib.hid (KF.out.trans k12)
  have K12 := Lib.hid k12
  clear hW k12
  refine region_ext_tail 4 (by kernel_rfl) (by kernel_rfl) ?_
  simp only [List.take_succ_cons, List.take_zero, List.drop_succ_cons, List.drop_zero]
  repeat (first
    | go_big_quiet_skip
    | (go_big_quiet_want; go_big_quiet_op; first | go_big_quiet_on | go_big_quiet_call (first
      | (go_at_call 33; exact calls_ext ((frameerror_any _ _ _ _ _ _ _ _).mono fun e w' ⟨a, b⟩ => ⟨by rw [a, HF.out], b⟩))
      | (go_at_call 53; exact calls_ext ((vigerr_any _ _ _ _ _ _).mono fun e w' ⟨a, b⟩ => ⟨by rw [a, HVE.out], b⟩)))))
  refine wpQuiet_nil ?_
  rintro _ ⟨xq, rfl⟩
  have KX := Lib.hid (ext_kept W2 xq)
  clear A0 A1 A2 A3 A4 B0 B1 B2 B3 B4
  generalize ext W2 xq = w2 at *
  go_wp2_with fail
  refine (first2_any _ _ 0 0 _ (by go_simp) (by go_simp)).mono ?_
  rintro e w' ⟨rfl, rfl⟩
  go_wp2_with (first
    | (go_at_call 16; refine (finishes_one _).mono ?_; rintro e w' ⟨rfl, m, rfl⟩)
    | fail)
  refine of_world (fun W3 hW => ?_)
  have k23 : Kept None' W2 W3 := by rw [hW]; exact KX.out.trans (by repeat (first | exact Kept.refl _ _ | refine Kept.drew ?_ _ | refine Kept.alloc ?_ _ _))
  have t0 := k23.some t0 id
  have t1 := k23.some t1 id
  have t2 := k23.some t2 id
  have t3 := k23.some t3 id
  have t4 := k23.some t4 id
  have hV : VgB X Y I O D (w.heap.size + 1) W3 := ⟨k23.some v0 id, k23.some v1 id, k23.some v2 id, k23.some v3 id, k23.some v4 id⟩
  have hQ : FrB x y W H (some ⟨b, o, none⟩) n cap w.heap.size W3 := ⟨t0, t1, t2, t3, t4⟩
  have g0 := k23.some g0 id
  have g1 := k23.some g1 id
  have g2 := k23.some g2 id
  have g3 := k23.some g3 id
  have g4 := k23.some g4 id
  have HV3 := Lib.hid hV
  have HQ3 := Lib.hid hQ
  have K3 := Lib.hid (KW.out.trans k23)
  have HZ3 := Lib.hid (fun (j : Nat) (hj : j < n) => (K12.out.trans k23).some (HZ.out j hj) id)
  clear hW k23 hV hQ v0 v1 v2 v3 v4 KX KW K12 HZ
  have A0 := ext_cell t0
  have A1 := ext_cell t1
  have A2 := ext_cell t2
  have A3 := ext_cell t3
  have A4 := ext_cell t4
  have G0 := ext_cell g0
  have G1 := ext_cell g1
  have G2 := ext_cell g2
  have G3 := ext_cell g3
  have G4 := ext_cell g4
  cases hfew : decide (n ≤ 400) with
  | false =>
    refine region_ext (by kernel_rfl) (by kernel_rfl) ?_
    repeat (first
      | go_big_quiet_skip
      | (go_big_quiet_want; go_big_quiet_op; first | go_big_quiet_on | go_big_quiet_call (first
        | (go_at_call 36; exact calls_ext ((few_any _ _ _ _ _ _ _ _).mono fun e w' ⟨a, b⟩ => ⟨by rw [a, hfew], b⟩)))))
    refine wpQuiet_nil ?_
    rintro _ ⟨xq, rfl⟩
    have K4 := Lib.hid (K3.out.trans (ext_kept W3 xq))
    clear A0 A1 A2 A3 A4 G0 G1 G2 G3 G4
    generalize ext W3 xq = w4 at *
    go_wp2_with fail
    go_ret
    exact ⟨rfl, K4.out⟩
  | true =>
    have hS : vlS W3 w.heap.size w1.heap.size x y W H x y W H (some ⟨b, o, none⟩) n cap (some ⟨B, 0, none⟩) n n W3 := ⟨Kept.refl _ _, t0, t1, t2, t3, t4, g0, g1, g2, g3, g4⟩
    have HS := Lib.hid hS
    clear A0 A1 A2 A3 A4 G0 G1 G2 G3 G4 hS t0 t1 t2 t3 t4 g0 g1 g2 g3 g4
    go_region_held3 (fun w' => Kept None' W3 w' ∧ w'.cell? ⟨w.heap.size, 0, none⟩ = some (.int .i64 x) ∧ w'.cell? ⟨w.heap.size, 1, none⟩ = some (.int .i64 y) ∧ w'.cell? ⟨w.heap.size, 2, none⟩ = some (.int .i64 W) ∧ w'.cell? ⟨w.heap.size, 3, none⟩ = some (.int .i64 H) ∧ w'.cell? ⟨w.heap.size, 4, none⟩ = some (.slice (some ⟨b, o, none⟩) n cap) ∧
        w'.cell? ⟨w1.heap.size, 0, none⟩ = some (.int .i64 x) ∧ w'.cell? ⟨w1.heap.size, 1, none⟩ = some (.int .i64 y) ∧ w'.cell? ⟨w1.heap.size, 2, none⟩ = some (.int .i64 W) ∧ w'.cell? ⟨w1.heap.size, 3, none⟩ = some (.int .i64 H) ∧ w'.cell? ⟨w1.heap.size, 4, none⟩ = some (.slice (some ⟨B, 0, none⟩) n n))
      (first
        | with_reducible exact vlS.kept HS.out (kept_drew1 _)
        | with_reducible assumption
        | with_reducible exact vlS.kept (by assumption) (by assumption))
      (first
        | (go_simp; go_at_call 36; refine (few_any _ _ _ _ _ _ _ _).mono ?_; rw [hfew]; rintro e w' ⟨rfl, hk⟩)
        | (go_simp; go_at_call 38; refine (vm_made x y W H b o n cap _ _ z X Y I O D _ HRE.out HN.out hcap hn6 (fun i hi => (K3.out.trans (And.left ‹_ ∧ _›)).some (HC.out i hi) id) hX hY hI hO2 (HV3.out.kept (And.left ‹_ ∧ _›)) (HQ3.out.kept (And.left ‹_ ∧ _›))).mono ?_; rintro e w' ⟨B2, cap2, hB2, rfl, hk, hz⟩)
        | (go_simp; go_at_call 37; refine (sameframe_any x y W H B 0 B2 0 n n cap2 (mapG (vgF X Y I O D) x y W z) _ hn6 (fun j hj => by rw [Nat.zero_add]; exact Kept.some (And.left ‹_ ∧ _›) (HZ3.out j hj) id) (fun j hj => by rw [Nat.zero_add, hz j hj])).mono ?_; rintro e w' ⟨rfl, hk⟩))
    all_goals
      go_wp2_with fail
      go_ret
      exact ⟨rfl, K3.out.trans (And.left ‹_ ∧ _›)⟩

theorem walk_vignettesMatch (x y W H : Int) (A : Option Addr) (n cap : Nat) (z : Nat → Nat) (X Y I O D : Nat) (w : World) (_ : (Lit.int .i64 x).wf = true) (_ : (Lit.int .i64 y).wf = true) (_ : (Lit.int .i64 W).wf = true) (_ : (Lit.int .i64 H).wf = true)
    (hcap : n ≤ cap) (hcap2 : cap ≤ maxLen) (hr : Rd w A n (fun i => .float .f32 (z i))) (_ : ∀ i, (Lit.float .f32 (z i)).wf = true) :
    Calls Try.prog 9 #[.agg #[.int .i64 x, .int .i64 y, .int .i64 W, .int .i64 H, .slice A n cap], .agg #[.float .f32 X, .float .f32 Y, .float .f32 I, .float .f32 O, .float .f32 D]] w fun e w' => e = .returned (.bool true) ∧ Kept None' w w' := by
  by_cases hF : frE x y W H n = 0
  · cases hN : (isN X && (isN Y && (isN I && (isN O && isN D)))) with
    | false => exact vm_wrong x y W H A n cap X Y I O D 0 2 2 w hF (by unfold vgE; rw [hN]; rfl) rfl (by decide) (fun w => vignette_e2 x y W H A n cap X Y I O D w hF hN)
    | true =>
      cases hO : FloatKind.f32.format.order O I == some .gt with
      | false => exact vm_wrong x y W H A n cap X Y I O D 0 8 8 w hF (by unfold vgE; rw [hN, hO]; rfl) rfl (by decide) (fun w => vignette_e3 x y W H A n cap X Y I O D w hF hN hO)
      | true =>
        have hN' := hN
        simp only [Bool.and_eq_true] at hN'
        obtain ⟨hX, hY, hI, hO2, hD⟩ := hN'
        cases hl : FloatKind.f32.format.order D 0 == some .lt with
        | true => exact vm_wrong x y W H A n cap X Y I O D 0 3 3 w hF (by unfold vgE; rw [hN, hO, dkOk_lt hD hl]; rfl) rfl (by decide) (fun w => vignette_e4 x y W H A n cap X Y I O D w hF hN hO hl)
        | false =>
          cases hg : FloatKind.f32.format.order D 1065353216 == some .gt with
          | true => exact vm_wrong x y W H A n cap X Y I O D 0 3 3 w hF (by unfold vgE; rw [hN, hO, dkOk_gt hD hg]; rfl) rfl (by decide) (fun w => vignette_e5 x y W H A n cap X Y I O D w hF hN hO hl hg)
          | false =>
            obtain ⟨hE, hn⟩ := frE_ok hF
            obtain ⟨w1', w2', w3', w4', w5'⟩ := regE_ok hE
            have w6 := (mul_bd w1' w2' w3' w4').1
            have w7 : 4 * W * H = 4 * (W * H) := Int.mul_assoc ..
            obtain ⟨b, o, rfl, hc⟩ := hr (by omega)
            obtain ⟨W', rfl⟩ := Int.eq_ofNat_of_zero_le (show 0 ≤ W by omega)
            obtain ⟨H', rfl⟩ := Int.eq_ofNat_of_zero_le (show 0 ≤ H by omega)
            exact vm_right x y W' H' b o n cap z X Y I O D w hF hcap hcap2 hc hX hY hI hO2 hD hO hl hg
  · exact vm_wrong x y W H A n cap X Y I O D (frE x y W H n) (vgE X Y I O D) (frE x y W H n) w rfl rfl (if_pos hF) hF (fun w => vignette_e1 x y W H A n cap X Y I O D w _ rfl hF)
end Go.Proofs.Ytfphhlodfieopaa
