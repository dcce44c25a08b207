/- The walk of SharpensAsSaid. Conditions: none. -/
import Derived.Test.YtfphhlodfieopaaSe
import Derived.Test.YtfphhlodfieopaaSj
import Derived.Test.YtfphhlodfieopaaPa
import Derived.Test.YtfphhlodfieopaaFi
import Derived.Test.YtfphhlodfieopaaRo
import Derived.Deep.RegionHeld3
namespace Go.Proofs.Ytfphhlodfieopaa
open Go.RowKit
open Fl Fr
open BigFrame

/-- The world of the last test: the frame at Q, the frame that was got at R. -/
abbrev slS (w : World) (Q R : Nat) (x y W H x2 y2 W2 H2 : Int) (A : Option Addr) (n cap : Nat) (A2 : Option Addr) (n2 cap2 : Nat) (w' : World) : Prop :=
  Kept None' w w' ∧ w'.cell? ⟨Q, 0, none⟩ = some (.int .i64 x) ∧ w'.cell? ⟨Q, 1, none⟩ = some (.int .i64 y) ∧ w'.cell? ⟨Q, 2, none⟩ = some (.int .i64 W) ∧ w'.cell? ⟨Q, 3, none⟩ = some (.int .i64 H) ∧ w'.cell? ⟨Q, 4, none⟩ = some (.slice A n cap) ∧
  w'.cell? ⟨R, 0, none⟩ = some (.int .i64 x2) ∧ w'.cell? ⟨R, 1, none⟩ = some (.int .i64 y2) ∧ w'.cell? ⟨R, 2, none⟩ = some (.int .i64 W2) ∧ w'.cell? ⟨R, 3, none⟩ = some (.int .i64 H2) ∧ w'.cell? ⟨R, 4, none⟩ = some (.slice A2 n2 cap2)
theorem slS.kept {w : World} {Q R : Nat} {x y W H x2 y2 W2 H2 : Int} {A : Option Addr} {n cap : Nat} {A2 : Option Addr} {n2 cap2 : Nat} {w' w'' : World} (h : slS w Q R x y W H x2 y2 W2 H2 A n cap A2 n2 cap2 w') (k : Kept None' w' w'') : slS w Q R x y W H x2 y2 W2 H2 A n cap A2 n2 cap2 w'' := by
  obtain ⟨h0, b0, b1, b2, b3, b4, r0, r1, r2, r3, r4⟩ := h
  exact ⟨h0.trans k, k.some b0 id, k.some b1 id, k.some b2 id, k.some b3 id, k.some b4 id, k.some r0 id, k.some r1 id, k.some r2 id, k.some r3 id, k.some r4 id⟩

/-- The error of the numbers, in bits. -/
def shE (bA bL g l t : Bool) : Int := if bA && bL then (if (!(g && l)) || t then 3 else 0) else 2
theorem bool3 (a b : Bool) : a = false ∨ (a = true ∧ b = false) ∨ (a = true ∧ b = true) := by cases a <;> cases b <;> simp
theorem shE_ok {bA bL g l t : Bool} (h : shE bA bL g l t = 0) : bA = true ∧ bL = true ∧ g = true ∧ l = true ∧ t = false := by
  cases bA <;> cases bL <;> cases g <;> cases l <;> cases t <;> simp [shE] at h ⊢

set_option linter.unusedSimpArgs false in
set_option linter.unusedVariables false in
set_option maxHeartbeats 16000000 in
set_option maxRecDepth 100000 in
theorem sl_wrong (x y : Int) (W H : Int) (A : Option Addr) (n cap : Nat) (am le : Nat) (E1 : Int) (bA bL g l t : Bool) (w : World)
    (hA : isN am = bA) (hL : isN le = bL) (hg : (FloatKind.f32.format.order am 0 == some .gt || FloatKind.f32.format.order am 0 == some .eq) = g) (hl : (FloatKind.f32.format.order am 1098907648 == some .lt || FloatKind.f32.format.order am 1098907648 == some .eq) = l) (ht : (FloatKind.f32.format.order le 0 == some .lt) = t) (hE1 : frE x y W H n = E1)
    (E : Int) (hE : (if E1 ≠ 0 then E1 else shE bA bL g l t) = E) (h0 : ¬ E = 0) (HV : ∀ w, Calls Try.prog 32 #[.agg #[.int .i64 x, .int .i64 y, .int .i64 W, .int .i64 H, .slice A n cap], .float .f32 am, .float .f32 le] w (ErrPost E w)) :
    Calls Try.prog 6 #[.agg #[.int .i64 x, .int .i64 y, .int .i64 W, .int .i64 H, .slice A n cap], .float .f32 am, .float .f32 le] w fun e w' => e = .returned (.bool true) ∧ Kept None' w w' := by
  have hb : (E != 0) = true := by simp [h0]
  have hb2 : (E == 0) = false := by simp [h0]
  have HE := Lib.hid hE
  clear hE
  have HV := Lib.hid HV
  have HB := Lib.hid (And.intro hA (And.intro hL (And.intro hg (And.intro hl ht))))
  have HE1 := Lib.hid hE1
  clear hA hL hg hl ht hE1
  go_enter Try.func6, Try.ntmps6
  go_upto_region 1 with (fail)
  refine of_world (fun W0 hW => ?_)
  have k0 : Kept None' w W0 := by rw [hW]; exact (((Kept.refl None' w).alloc _ _).alloc _ _).alloc _ _
  have f0 : W0.cell? ⟨w.heap.size, 0, none⟩ = some (.int .i64 x) := by rw [hW]; go_simp
  have f1 : W0.cell? ⟨w.heap.size, 1, none⟩ = some (.int .i64 y) := by rw [hW]; go_simp
  have f2 : W0.cell? ⟨w.heap.size, 2, none⟩ = some (.int .i64 W) := by rw [hW]; go_simp
  have f3 : W0.cell? ⟨w.heap.size, 3, none⟩ = some (.int .i64 H) := by rw [hW]; go_simp
  have f4 : W0.cell? ⟨w.heap.size, 4, none⟩ = some (.slice A n cap) := by rw [hW]; go_simp
  have a0 : W0.cell? ⟨w.heap.size + 1, 0, none⟩ = some (.float .f32 am) := by rw [hW]; go_simp
  have l0 : W0.cell? ⟨w.heap.size + 1 + 1, 0, none⟩ = some (.float .f32 le) := by rw [hW]; go_simp
  have K0 := Lib.hid k0
  clear hW k0
  go_upto_region 2 with (first
    | (go_at_call 32; refine (HV.out _).mono ?_; rintro e w1 ⟨rfl, hk1⟩; unfold zeroFrame)
    | fail)
  refine of_world (fun W1 hW => ?_)
  have k1 : Kept None' W0 W1 := by rw [hW]; exact hk1.alloc _ _
  have f0 := k1.some f0 id
  have f1 := k1.some f1 id
  have f2 := k1.some f2 id
  have f3 := k1.some f3 id
  have f4 := k1.some f4 id
  have a0 := k1.some a0 id
  have l0 := k1.some l0 id
  have h0' : W1.cell? ⟨w1.heap.size, 0, none⟩ = some (.int .i64 0) := by rw [hW]; exact cell_alloc_one w1 _ _ 0
  have h1' : W1.cell? ⟨w1.heap.size, 1, none⟩ = some (.int .i64 0) := by rw [hW]; exact cell_alloc_one w1 _ _ 1
  have h2' : W1.cell? ⟨w1.heap.size, 2, none⟩ = some (.int .i64 0) := by rw [hW]; exact cell_alloc_one w1 _ _ 2
  have h3' : W1.cell? ⟨w1.heap.size, 3, none⟩ = some (.int .i64 0) := by rw [hW]; exact cell_alloc_one w1 _ _ 3
  have h4' : W1.cell? ⟨w1.heap.size, 4, none⟩ = some (.slice none 0 0) := by rw [hW]; exact cell_alloc_one w1 _ _ 4
  have K1 := Lib.hid (K0.out.trans k1)
  clear hW k1 hk1
  go_cut [9] (fun s9 wx => s9 = .int .i64 (if E1 ≠ 0 then E1 else shE bA bL g l t) ∧ Kept None' W1 wx)
  case first =>
    have Xf0 := ext_cell f0
    have Xf1 := ext_cell f1
    have Xf2 := ext_cell f2
    have Xf3 := ext_cell f3
    have Xf4 := ext_cell f4
    have Xa0 := ext_cell a0
    have Xl0 := ext_cell l0
    have hA := HB.out.1
    have hL := HB.out.2.1
    have hg := HB.out.2.2.1
    have hl := HB.out.2.2.2.1
    have ht := HB.out.2.2.2.2
    clear f0 f1 f2 f3 f4 a0 l0 h0' h1' h2' h3' h4'
    rcases bool3 bA bL with rfl | ⟨rfl, rfl⟩ | ⟨rfl, rfl⟩ <;> rcases bool3 g l with rfl | ⟨rfl, rfl⟩ | ⟨rfl, rfl⟩ <;> cases t
    all_goals
      refine region_ext_tail 23 (by kernel_rfl) (by kernel_rfl) ?_
      simp only [List.take_succ_cons, List.take_zero, List.drop_succ_cons, List.drop_zero]
      repeat (first
        | go_big_quiet_skip
        | (go_big_quiet_want; go_big_quiet_op; first | go_big_quiet_on | go_big_quiet_call (first
          | (go_at_call 33; exact calls_ext ((frameerror_any _ _ _ _ _ _ _ _).mono fun e w' ⟨a, b⟩ => ⟨by rw [a, HE1.out], b⟩))
          | (go_at_call 21; exact calls_ext_drew ((isnumof_any _ _).mono fun e w' ⟨a, b⟩ => ⟨by (first | rw [a, hA] | rw [a, hL]), b⟩))
          | (go_at_call 14; exact calls_ext_same (when_any _ _ _)))))
      refine wpQuiet_nil ?_
      rintro _ ⟨xq, rfl⟩
      have KX := Lib.hid (ext_kept W1 xq)
      clear Xf0 Xf1 Xf2 Xf3 Xf4 Xa0 Xl0
      generalize ext W1 xq = W2 at *
      go_wp2_with fail
      refine (first3_any _ _ E1 _ _ _ (by go_simp) (by go_simp; rfl) (by go_simp; rfl)).mono ?_
      rintro e w' ⟨rfl, rfl⟩
      go_wp2_with fail
      all_goals
        go_meet
        exact ⟨by first | rw [if_pos (by assumption)] | (rw [if_neg (fun h => h (by assumption))]; rfl), KX.out.alloc _ _⟩
  case rest =>
    obtain ⟨rfl, k2⟩ := hcut
    rw [HE.out]
    have f0 := k2.some f0 id
    have f1 := k2.some f1 id
    have f2 := k2.some f2 id
    have f3 := k2.some f3 id
    have f4 := k2.some f4 id
    have a0 := k2.some a0 id
    have l0 := k2.some l0 id
    have h0' := k2.some h0' id
    have h1' := k2.some h1' id
    have h2' := k2.some h2' id
    have h3' := k2.some h3' id
    have h4' := k2.some h4' id
    have K2 := Lib.hid (K1.out.trans k2)
    clear k2
    have lg := cell_lt h0'
    go_wp2_with (first
      | (go_at_call 16; refine (finishes_one _).mono ?_; rintro e w' ⟨rfl, m, rfl⟩)
      | (go_at_call 17; refine (none_zero _).mono ?_; rintro e w5 ⟨rfl, hk5⟩)
      | fail)
    go_ret
    refine ⟨rfl, (K2.out.trans ?_).trans hk5⟩
    repeat (first | exact Kept.refl _ _ | refine Kept.drew ?_ _ | refine Kept.alloc ?_ _ _)
set_option linter.unusedSimpArgs false in
set_option linter.unusedVariables false in
set_option maxHeartbeats 16000000 in
set_option maxRecDepth 100000 in
theorem sl_right (x y : Int) (W H : Nat) (b o n cap : Nat) (z : Nat → Nat) (am le : Nat) (w : World)
    (hA : isN am = true) (hL : isN le = true) (hg : (FloatKind.f32.format.order am 0 == some .gt || FloatKind.f32.format.order am 0 == some .eq) = true) (hl : (FloatKind.f32.format.order am 1098907648 == some .lt || FloatKind.f32.format.order am 1098907648 == some .eq) = true) (ht : (FloatKind.f32.format.order le 0 == some .lt) = false) (hE1 : frE x y W H n = 0)
    (hcap : n ≤ cap) (hc : ∀ i, i < n → w.cell? ⟨b, o + i, none⟩ = some (.float .f32 (z i)))
    (HV : ∀ w', Kept None' w w' → Calls Try.prog 32 #[.agg #[.int .i64 x, .int .i64 y, .int .i64 W, .int .i64 H, .slice (some ⟨b, o, none⟩) n cap], .float .f32 am, .float .f32 le] w' (FrGot x y W H n (mapG (shF x y W H z am le) x y W z) w')) :
    Calls Try.prog 6 #[.agg #[.int .i64 x, .int .i64 y, .int .i64 W, .int .i64 H, .slice (some ⟨b, o, none⟩) n cap], .float .f32 am, .float .f32 le] w fun e w' => e = .returned (.bool true) ∧ Kept None' w w' := by
  obtain ⟨hRE, hn⟩ := frE_ok hE1
  have hn6 : n ≤ 65536 := by
    obtain ⟨w1', w2', w3', w4', w5'⟩ := regE_ok hRE
    have w6 := (mul_bd w1' w2' w3' w4').1
    have w7 : 4 * (W : Int) * H = 4 * (W * H) := Int.mul_assoc ..
    omega
  have HC := Lib.hid hc
  have HN := Lib.hid hn
  have HRE := Lib.hid hRE
  clear hc hn hRE
  have HV := Lib.hid HV
  have HB := Lib.hid (And.intro hA (And.intro hL (And.intro hg (And.intro hl ht))))
  have HE1 := Lib.hid hE1
  clear hA hL hg hl ht hE1
  go_enter Try.func6, Try.ntmps6
  go_upto_region 1 with (fail)
  refine of_world (fun W0 hW => ?_)
  have k0 : Kept None' w W0 := by rw [hW]; exact (((Kept.refl None' w).alloc _ _).alloc _ _).alloc _ _
  have f0 : W0.cell? ⟨w.heap.size, 0, none⟩ = some (.int .i64 x) := by rw [hW]; go_simp
  have f1 : W0.cell? ⟨w.heap.size, 1, none⟩ = some (.int .i64 y) := by rw [hW]; go_simp
  have f2 : W0.cell? ⟨w.heap.size, 2, none⟩ = some (.int .i64 W) := by rw [hW]; go_simp
  have f3 : W0.cell? ⟨w.heap.size, 3, none⟩ = some (.int .i64 H) := by rw [hW]; go_simp
  have f4 : W0.cell? ⟨w.heap.size, 4, none⟩ = some (.slice (some ⟨b, o, none⟩) n cap) := by rw [hW]; go_simp
  have a0 : W0.cell? ⟨w.heap.size + 1, 0, none⟩ = some (.float .f32 am) := by rw [hW]; go_simp
  have l0 : W0.cell? ⟨w.heap.size + 1 + 1, 0, none⟩ = some (.float .f32 le) := by rw [hW]; go_simp
  have K0 := Lib.hid k0
  clear hW k0
  go_upto_region 2 with (first
    | (go_at_call 32; refine (HV.out _ K0.out).mono ?_; rintro e w1 ⟨B, hB, rfl, hk1, hz1⟩)
    | fail)
  refine of_world (fun W1 hW => ?_)
  have k1 : Kept None' W0 W1 := by rw [hW]; exact hk1.alloc _ _
  have f0 := k1.some f0 id
  have f1 := k1.some f1 id
  have f2 := k1.some f2 id
  have f3 := k1.some f3 id
  have f4 := k1.some f4 id
  have a0 := k1.some a0 id
  have l0 := k1.some l0 id
  have h0' : W1.cell? ⟨w1.heap.size, 0, none⟩ = some (.int .i64 x) := by rw [hW]; exact cell_alloc_one w1 _ _ 0
  have h1' : W1.cell? ⟨w1.heap.size, 1, none⟩ = some (.int .i64 y) := by rw [hW]; exact cell_alloc_one w1 _ _ 1
  have h2' : W1.cell? ⟨w1.heap.size, 2, none⟩ = some (.int .i64 W) := by rw [hW]; exact cell_alloc_one w1 _ _ 2
  have h3' : W1.cell? ⟨w1.heap.size, 3, none⟩ = some (.int .i64 H) := by rw [hW]; exact cell_alloc_one w1 _ _ 3
  have h4' : W1.cell? ⟨w1.heap.size, 4, none⟩ = some (.slice (some ⟨B, 0, none⟩) n n) := by rw [hW]; exact cell_alloc_one w1 _ _ 4
  have kz : Kept None' w1 W1 := by rw [hW]; exact (Kept.refl _ _).alloc _ _
  have HZ := Lib.hid (fun (j : Nat) (hj : j < n) => kz.some (hz1 j hj) id)
  clear hz1 kz
  have K1 := Lib.hid (K0.out.trans k1)
  clear hW k1 hk1
  go_cut [9] (fun s9 wx => s9 = .int .i64 0 ∧ Kept None' W1 wx)
  case first =>
    have Xf0 := ext_cell f0
    have Xf1 := ext_cell f1
    have Xf2 := ext_cell f2
    have Xf3 := ext_cell f3
    have Xf4 := ext_cell f4
    have Xa0 := ext_cell a0
    have Xl0 := ext_cell l0
    have hA := HB.out.1
    have hL := HB.out.2.1
    have hg := HB.out.2.2.1
    have hl := HB.out.2.2.2.1
    have ht := HB.out.2.2.2.2
    clear f0 f1 f2 f3 f4 a0 l0 h0' h1' h2' h3' h4'
    refine region_ext_tail 23 (by kernel_rfl) (by kernel_rfl) ?_
    simp only [List.take_succ_cons, List.take_zero, List.drop_succ_cons, List.drop_zero]
    repeat (first
      | go_big_quiet_skip
      | (go_big_quiet_want; go_big_quiet_op; first | go_big_quiet_on | go_big_quiet_call (first
        | (go_at_call 33; exact calls_ext ((frameerror_any _ _ _ _ _ _ _ _).mono fun e w' ⟨a, b⟩ => ⟨by rw [a, HE1.out], b⟩))
        | (go_at_call 21; exact calls_ext_drew ((isnumof_any _ _).mono fun e w' ⟨a, b⟩ => ⟨by (first | rw [a, hA] | rw [a, hL]), b⟩))
        | (go_at_call 14; exact calls_ext_same (when_any _ _ _)))))
    refine wpQuiet_nil ?_
    rintro _ ⟨xq, rfl⟩
    have KX := Lib.hid (ext_kept W1 xq)
    clear Xf0 Xf1 Xf2 Xf3 Xf4 Xa0 Xl0
    generalize ext W1 xq = W2 at *
    go_wp2_with fail
    refine (first3_any _ _ 0 0 0 _ (by go_simp) (by go_simp) (by go_simp)).mono ?_
    rintro e w' ⟨rfl, rfl⟩
    go_wp2_with fail
    go_meet
    exact ⟨rfl, KX.out.alloc _ _⟩
  case rest =>
    obtain ⟨rfl, k2⟩ := hcut
    have f0 := k2.some f0 id
    have f1 := k2.some f1 id
    have f2 := k2.some f2 id
    have f3 := k2.some f3 id
    have f4 := k2.some f4 id
    have a0 := k2.some a0 id
    have l0 := k2.some l0 id
    have h0' := k2.some h0' id
    have h1' := k2.some h1' id
    have h2' := k2.some h2' id
    have h3' := k2.some h3' id
    have h4' := k2.some h4' id
    have K2 := Lib.hid (K1.out.trans k2)
    have HZ := Lib.hid (fun (j : Nat) (hj : j < n) => k2.some (HZ.out j hj) id)
    clear k2
    go_upto_region 5 with (first
      | (go_at_call 16; refine (finishes_one _).mono ?_; rintro e w' ⟨rfl, m, rfl⟩)
      | fail)
    refine of_world (fun W3 hW => ?_)
    have k3 : Kept None' wc W3 := by rw [hW]; exact (Kept.refl _ _).drew _
    have f0 := k3.some f0 id
    have f1 := k3.some f1 id
    have f2 := k3.some f2 id
    have f3 := k3.some f3 id
    have f4 := k3.some f4 id
    have a0 := k3.some a0 id
    have l0 := k3.some l0 id
    have h0' := k3.some h0' id
    have h1' := k3.some h1' id
    have h2' := k3.some h2' id
    have h3' := k3.some h3' id
    have h4' := k3.some h4' id
    have K3 := Lib.hid (K2.out.trans k3)
    have HZ := Lib.hid (fun (j : Nat) (hj : j < n) => k3.some (HZ.out j hj) id)
    clear k3 hW
    go_upto_region 6 with (fail)
    refine of_world (fun W4 hW => ?_)
    have k4 : Kept None' W3 W4 := by rw [hW]; exact (Kept.refl _ _).alloc _ _
    have t0 : W4.cell? ⟨W3.heap.size, 0, none⟩ = some (.func (.func 34) #[] #[.pointer (some ⟨w.heap.size, 0, none⟩)]) := by rw [hW]; go_simp
    have f0 := k4.some f0 id
    have f1 := k4.some f1 id
    have f2 := k4.some f2 id
    have f3 := k4.some f3 id
    have f4 := k4.some f4 id
    have a0 := k4.some a0 id
    have l0 := k4.some l0 id
    have h0' := k4.some h0' id
    have h1' := k4.some h1' id
    have h2' := k4.some h2' id
    have h3' := k4.some h3' id
    have h4' := k4.some h4' id
    have K4 := Lib.hid (K3.out.trans k4)
    have HZ := Lib.hid (fun (j : Nat) (hj : j < n) => k4.some (HZ.out j hj) id)
    have hQ : FrC x y W H (some ⟨b, o, none⟩) n cap w.heap.size W4 := ⟨f0, f1, f2, f3, f4⟩
    have HQ4 := Lib.hid (And.intro hQ (And.intro t0 (And.intro a0 l0)))
    clear k4 hW
    cases hfew : decide (n ≤ 400) with
    | false =>
      have Xf0 := ext_cell f0
      have Xf1 := ext_cell f1
      have Xf2 := ext_cell f2
      have Xf3 := ext_cell f3
      have Xf4 := ext_cell f4
      have Xa0 := ext_cell a0
      have Xl0 := ext_cell l0
      have Xh0x := ext_cell h0'
      have Xh1x := ext_cell h1'
      have Xh2x := ext_cell h2'
      have Xh3x := ext_cell h3'
      have Xh4x := ext_cell h4'
      refine region_ext (by kernel_rfl) (by kernel_rfl) ?_
      repeat (first
        | go_big_quiet_skip
        | (go_big_quiet_want; go_big_quiet_op; first | go_big_quiet_on | go_big_quiet_call (first
          | (go_at_call 36; exact calls_ext ((few_any _ _ _ _ _ _ _ _).mono fun e w' ⟨a, b⟩ => ⟨by rw [a, hfew], b⟩)))))
      refine wpQuiet_nil ?_
      rintro _ ⟨xq, rfl⟩
      have K8 := Lib.hid (K4.out.trans (ext_kept W4 xq))
      generalize ext W4 xq = w8 at *
      go_wp2_with fail
      go_ret
      exact ⟨rfl, K8.out⟩
    | true =>
      have hS : slS W4 w.heap.size w1.heap.size x y W H x y W H (some ⟨b, o, none⟩) n cap (some ⟨B, 0, none⟩) n n W4 := ⟨Kept.refl _ _, f0, f1, f2, f3, f4, h0', h1', h2', h3', h4'⟩
      have HS := Lib.hid hS
      clear hS hQ t0 f0 f1 f2 f3 f4 a0 l0 h0' h1' h2' h3' h4'
      go_region_held3 (fun w' => Kept None' W4 w' ∧ w'.cell? ⟨w.heap.size, 0, none⟩ = some (.int .i64 x) ∧ w'.cell? ⟨w.heap.size, 1, none⟩ = some (.int .i64 y) ∧ w'.cell? ⟨w.heap.size, 2, none⟩ = some (.int .i64 W) ∧ w'.cell? ⟨w.heap.size, 3, none⟩ = some (.int .i64 H) ∧ w'.cell? ⟨w.heap.size, 4, none⟩ = some (.slice (some ⟨b, o, none⟩) n cap) ∧
          w'.cell? ⟨w1.heap.size, 0, none⟩ = some (.int .i64 x) ∧ w'.cell? ⟨w1.heap.size, 1, none⟩ = some (.int .i64 y) ∧ w'.cell? ⟨w1.heap.size, 2, none⟩ = some (.int .i64 W) ∧ w'.cell? ⟨w1.heap.size, 3, none⟩ = some (.int .i64 H) ∧ w'.cell? ⟨w1.heap.size, 4, none⟩ = some (.slice (some ⟨B, 0, none⟩) n n))
        (first
          | with_reducible exact slS.kept HS.out (kept_drew1 _)
          | with_reducible assumption
          | with_reducible exact slS.kept (by assumption) (by assumption))
        (first
          | (go_simp; go_at_call 36; refine (few_any _ _ _ _ _ _ _ _).mono ?_; rw [hfew]; rintro e w' ⟨rfl, hk⟩)
          | (go_simp; go_at_call 38; refine (sm_made x y W H _ _ _ _ b o n cap z am le _ HRE.out HN.out hcap hn6 (fun i hi => (K4.out.trans (And.left ‹_ ∧ _›)).some (HC.out i hi) id) (HQ4.out.1.kept (And.left ‹_ ∧ _›)) (Kept.some (And.left ‹_ ∧ _›) HQ4.out.2.1 id) (Kept.some (And.left ‹_ ∧ _›) HQ4.out.2.2.1 id) (Kept.some (And.left ‹_ ∧ _›) HQ4.out.2.2.2 id)).mono ?_; rintro e w' ⟨B2, cap2, hB2, rfl, hk, hz⟩)
          | (go_simp; go_at_call 37; refine (sameframe_any x y W H B 0 B2 0 n n cap2 (mapG (shF x y W H z am le) x y W z) _ hn6 (fun j hj => by rw [Nat.zero_add]; exact Kept.some (And.left ‹_ ∧ _›) (HZ.out j hj) id) (fun j hj => by rw [Nat.zero_add, hz j hj])).mono ?_; rintro e w' ⟨rfl, hk⟩))
      all_goals
        go_wp2_with fail
        go_ret
        exact ⟨rfl, K4.out.trans (And.left ‹_ ∧ _›)⟩
theorem walk_sharpensAsSaid (x y W H : Int) (A : Option Addr) (n cap : Nat) (z : Nat → Nat) (am le : Nat) (w : World) (_ : (Lit.int .i64 x).wf = true) (_ : (Lit.int .i64 y).wf = true) (_ : (Lit.int .i64 W).wf = true) (_ : (Lit.int .i64 H).wf = true)
    (hcap : n ≤ cap) (hcap2 : cap ≤ maxLen) (hr : Rd w A n (fun i => .float .f32 (z i))) (_ : ∀ i, (Lit.float .f32 (z i)).wf = true) :
    Calls Try.prog 6 #[.agg #[.int .i64 x, .int .i64 y, .int .i64 W, .int .i64 H, .slice A n cap], .float .f32 am, .float .f32 le] w fun e w' => e = .returned (.bool true) ∧ Kept None' w w' := by
  by_cases hF : frE x y W H n = 0
  · cases hN : (isN am && isN le) with
    | false => exact sl_wrong x y W H A n cap am le 0 _ _ _ _ _ w rfl rfl rfl rfl rfl hF 2 (by rw [if_neg (by decide)]; unfold shE; rw [hN]; rfl) (by decide) (fun w => sharp_e2 x y W H A n cap am le w hF hN)
    | true =>
      have hN' := hN
      rw [Bool.and_eq_true] at hN'
      obtain ⟨hA, hL⟩ := hN'
      have hge := ge_lt hA (c := 0) (by decide +kernel)
      have hle := le_gt hA (c := 1098907648) (by decide +kernel)
      cases h1 : FloatKind.f32.format.order am 0 == some .lt with
      | true => exact sl_wrong x y W H A n cap am le 0 _ _ _ _ _ w rfl rfl rfl rfl rfl hF 3 (by rw [if_neg (by decide)]; unfold shE; rw [hN, hge, h1]; rfl) (by decide) (fun w => sharp_e3 x y W H A n cap am le w hF hN h1)
      | false =>
        cases h2 : FloatKind.f32.format.order am 1098907648 == some .gt with
        | true => exact sl_wrong x y W H A n cap am le 0 _ _ _ _ _ w rfl rfl rfl rfl rfl hF 3 (by rw [if_neg (by decide)]; unfold shE; rw [hN, hge, h1, hle, h2]; rfl) (by decide) (fun w => sharp_e4 x y W H A n cap am le w hF hN h1 h2)
        | false =>
          cases h3 : FloatKind.f32.format.order le 0 == some .lt with
          | true => exact sl_wrong x y W H A n cap am le 0 _ _ _ _ _ w rfl rfl rfl rfl rfl hF 3 (by rw [if_neg (by decide)]; unfold shE; rw [hN, hge, h1, hle, h2, h3]; rfl) (by decide) (fun w => sharp_e5 x y W H A n cap am le w hF hN h1 h2 h3)
          | false =>
            rw [h1] at hge
            rw [h2] at hle
            obtain ⟨hE, hn⟩ := frE_ok hF
            obtain ⟨w1', w2', w3', w4', w5'⟩ := regE_ok hE
            have w6 := (mul_bd w1' w2' w3' w4').1
            have w7 : 4 * W * H = 4 * (W * H) := Int.mul_assoc ..
            obtain ⟨b, o, rfl, hc⟩ := hr (by omega)
            obtain ⟨W', rfl⟩ := Int.eq_ofNat_of_zero_le (show 0 ≤ W by omega)
            obtain ⟨H', rfl⟩ := Int.eq_ofNat_of_zero_le (show 0 ≤ H by omega)
            exact sl_right x y W' H' b o n cap z am le w hA hL hge hle h3 hF hcap hc (fun w' hk => sharp_ok x y W' H' b o n cap z am le w' hF hN h1 h2 h3 (fun i hi => hk.some (hc i hi) id) hcap hcap2)
  · exact sl_wrong x y W H A n cap am le _ _ _ _ _ _ w rfl rfl rfl rfl rfl rfl _ (if_pos hF) hF (fun w => sharp_e1 x y W H A n cap am le w _ rfl hF)
end Go.Proofs.Ytfphhlodfieopaa
