/- The walk of GrainsMatch. Conditions: none. -/
import Derived.Test.YtfphhlodfieopaaGj
import Derived.Test.YtfphhlodfieopaaVignettesMatchw
import Derived.Test.YtfphhlodfieopaaFi
namespace Go.Proofs.Ytfphhlodfieopaa
open Go.RowKit
open Fl Fr
open BigFrame

def pq (p0 p1 p2 p3 : Nat) (c : Nat) : Nat := if c = 0 then p0 else if c = 1 then p1 else if c = 2 then p2 else p3
theorem gl_neq (w : World) : (binOp .neq 42 (.agg #[.float .f32 0, .float .f32 0, .float .f32 0, .float .f32 0]) (.agg #[.float .f32 0, .float .f32 0, .float .f32 0, .float .f32 0])).run Try.prog w = .ok (.bool false) w := by kernel_rfl
theorem gl_self (q0 q1 q2 q3 : Nat) (w : World) :
    Calls Try.prog 22 #[.agg #[.float .f32 q0, .float .f32 q1, .float .f32 q2, .float .f32 q3], .agg #[.float .f32 q0, .float .f32 q1, .float .f32 q2, .float .f32 q3]] w fun e w' => e = .returned (.bool true) ∧ Grown w w' :=
  (samepx_any _ _ _ _ _ _ _ _ w).mono fun e w' ⟨a, b⟩ => ⟨by rw [a]; simp only [beq_self_eq_true, Bool.and_self], b⟩
theorem gl_made (s z : Int) (S F : Nat) (m : Bool) (number x y : Int) (W H : Nat) (b o n cap G N Q : Nat) (f : Nat → Nat) (w : World) (hE : regE x y W H = 0) (hn4 : (n : Int) = 4 * W * H) (hn : n ≤ cap) (hn6 : n ≤ 65536) (hc : ∀ i, i < n → w.cell? ⟨b, o + i, none⟩ = some (.float .f32 (f i)))
    (z1 : 1 ≤ z) (z2 : z ≤ 16) (hG : GnB s z S F m number G N w) (hQ : FrB x y W H (some ⟨b, o, none⟩) n cap Q w) :
    Calls Try.prog 38 #[.agg #[.int .i64 x, .int .i64 y, .int .i64 W, .int .i64 H], .func (.func 47) #[] #[.pointer (some ⟨G, 0, none⟩), .pointer (some ⟨N, 0, none⟩), .pointer (some ⟨Q, 0, none⟩)]] w (FrMade x y W H n (mapG (gF s z S F m number) x y W f) w) := by
  have hnn : n = 4 * (W * H) := by
    have h1 : ((4 * (W * H) : Nat) : Int) = 4 * W * H := by rw [Int.natCast_mul, Int.natCast_mul, Int.mul_assoc]; rfl
    omega
  have hM := made_gen x y W H 47 #[.pointer (some ⟨G, 0, none⟩), .pointer (some ⟨N, 0, none⟩), .pointer (some ⟨Q, 0, none⟩)] (gmF s z S F m number x y W f) w hE Try.call47
    (gm_mades s z S F m number x y W H b o n cap G N Q f w hE hn4 hn hn6 hc z1 z2 hG hQ)
  rw [← hnn] at hM
  exact hM.mono fun _ _ ⟨B, c, h1, h2, h3, h4⟩ => ⟨B, c, h1, h2, h3, fun j hj => by rw [h4 j hj, gm_same]⟩

set_option linter.unusedSimpArgs false in
set_option linter.unusedVariables false in
set_option maxHeartbeats 16000000 in
set_option maxRecDepth 100000 in
theorem gl_bb (s z : Int) (S F : Nat) (m : Bool) (number x y : Int) (p0 p1 p2 p3 : Nat) (x2 y2 : Int)
    (W H : Int) (A : Option Addr) (n cap : Nat) (E0 Ep E1 E2 E3 : Int) (w : World)
    (hE0 : grE z S F = E0) (hEp : plE x y = Ep) (hE1 : (if E0 ≠ 0 then E0 else Ep) = E1)
    (h1 : ¬ E1 = 0)
    (HGd : ∀ w, Calls Try.prog 41 #[.agg #[.int .u32 s, .int .i64 z, .float .f32 S, .float .f32 F, .bool m], .int .i64 number, .int .i64 x, .int .i64 y, .agg #[.float .f32 p0, .float .f32 p1, .float .f32 p2, .float .f32 p3]] w fun e w' => e = .returned (.tuple #[.agg #[.float .f32 0, .float .f32 0, .float .f32 0, .float .f32 0], .int .i64 E1]) ∧ Kept None' w w')
    (hE2 : frE x2 y2 W H n = E2) (hE3 : (if E2 ≠ 0 then E2 else E0) = E3) (h3 : ¬ E3 = 0) (HGn : ∀ w, Calls Try.prog 42 #[.agg #[.int .i64 x2, .int .i64 y2, .int .i64 W, .int .i64 H, .slice A n cap], .agg #[.int .u32 s, .int .i64 z, .float .f32 S, .float .f32 F, .bool m], .int .i64 number] w (ErrPost E3 w)) :
    Calls Try.prog 7 #[.agg #[.int .u32 s, .int .i64 z, .float .f32 S, .float .f32 F, .bool m], .int .i64 number, .int .i64 x, .int .i64 y, .agg #[.float .f32 p0, .float .f32 p1, .float .f32 p2, .float .f32 p3], .agg #[.int .i64 x2, .int .i64 y2, .int .i64 W, .int .i64 H, .slice A n cap]] w fun e w' => e = .returned (.bool true) ∧ Kept None' w w' := by
  have hb1 : (E1 != 0) = true := by simp [h1]
  have hb2 : (E1 == 0) = false := by simp [h1]
  have hb3 : (E3 != 0) = true := by simp [h3]
  have hb4 : (E3 == 0) = false := by simp [h3]
  have HE2 := Lib.hid hE2
  have HE3 := Lib.hid hE3
  have HGn := Lib.hid HGn
  clear hE2 hE3
  have HE0 := Lib.hid hE0
  have HEp := Lib.hid hEp
  have HE1 := Lib.hid hE1
  have HGd := Lib.hid HGd
  have pn := gl_neq
  clear hE0 hEp hE1
  go_enter Try.func7, Try.ntmps7
  go_upto_region 1 with (fail)
  refine of_world (fun W0 hW => ?_)
  have k0 : Kept None' w W0 := by rw [hW]; exact ((((Kept.refl None' w).alloc _ _).alloc _ _).alloc _ _).alloc _ _
  have t0 : W0.cell? ⟨w.heap.size, 0, none⟩ = some (.int .u32 s) := by rw [hW]; go_simp
  have t1 : W0.cell? ⟨w.heap.size, 1, none⟩ = some (.int .i64 z) := by rw [hW]; go_simp
  have t2 : W0.cell? ⟨w.heap.size, 2, none⟩ = some (.float .f32 S) := by rw [hW]; go_simp
  have t3 : W0.cell? ⟨w.heap.size, 3, none⟩ = some (.float .f32 F) := by rw [hW]; go_simp
  have t4 : W0.cell? ⟨w.heap.size, 4, none⟩ = some (.bool m) := by rw [hW]; go_simp
  have u0 : W0.cell? ⟨w.heap.size + 1, 0, none⟩ = some (.int .i64 number) := by rw [hW]; go_simp
  have v0 : W0.cell? ⟨w.heap.size + 1 + 1, 0, none⟩ = some (.float .f32 p0) := by rw [hW]; go_simp
  have v1 : W0.cell? ⟨w.heap.size + 1 + 1, 1, none⟩ = some (.float .f32 p1) := by rw [hW]; go_simp
  have v2 : W0.cell? ⟨w.heap.size + 1 + 1, 2, none⟩ = some (.float .f32 p2) := by rw [hW]; go_simp
  have v3 : W0.cell? ⟨w.heap.size + 1 + 1, 3, none⟩ = some (.float .f32 p3) := by rw [hW]; go_simp
  have f0 : W0.cell? ⟨w.heap.size + 1 + 1 + 1, 0, none⟩ = some (.int .i64 x2) := by rw [hW]; go_simp
  have f1 : W0.cell? ⟨w.heap.size + 1 + 1 + 1, 1, none⟩ = some (.int .i64 y2) := by rw [hW]; go_simp
  have f2 : W0.cell? ⟨w.heap.size + 1 + 1 + 1, 2, none⟩ = some (.int .i64 W) := by rw [hW]; go_simp
  have f3 : W0.cell? ⟨w.heap.size + 1 + 1 + 1, 3, none⟩ = some (.int .i64 H) := by rw [hW]; go_simp
  have f4 : W0.cell? ⟨w.heap.size + 1 + 1 + 1, 4, none⟩ = some (.slice A n cap) := by rw [hW]; go_simp
  have K0 := Lib.hid k0
  clear hW k0
  go_upto_region 2 with (first
    | (go_at_call 41; refine (HGd.out _).mono ?_; rintro e w1 ⟨rfl, hk1⟩)
    | fail)
  refine of_world (fun W1 hW => ?_)
  have k1 : Kept None' W0 W1 := by rw [hW]; exact hk1.alloc _ _
  have t0 := k1.some t0 id
  have t1 := k1.some t1 id
  have t2 := k1.some t2 id
  have t3 := k1.some t3 id
  have t4 := k1.some t4 id
  have u0 := k1.some u0 id
  have v0 := k1.some v0 id
  have v1 := k1.some v1 id
  have v2 := k1.some v2 id
  have v3 := k1.some v3 id
  have f0 := k1.some f0 id
  have f1 := k1.some f1 id
  have f2 := k1.some f2 id
  have f3 := k1.some f3 id
  have f4 := k1.some f4 id
  have q0' : W1.cell? ⟨w1.heap.size, 0, none⟩ = some (.float .f32 0) := by rw [hW]; exact cell_alloc_one w1 _ _ 0
  have q1' : W1.cell? ⟨w1.heap.size, 1, none⟩ = some (.float .f32 0) := by rw [hW]; exact cell_alloc_one w1 _ _ 1
  have q2' : W1.cell? ⟨w1.heap.size, 2, none⟩ = some (.float .f32 0) := by rw [hW]; exact cell_alloc_one w1 _ _ 2
  have q3' : W1.cell? ⟨w1.heap.size, 3, none⟩ = some (.float .f32 0) := by rw [hW]; exact cell_alloc_one w1 _ _ 3
  have K1 := Lib.hid (K0.out.trans k1)
  clear hW k1 hk1
  go_upto_region 3 with (first
    | (go_at_call 42; refine (HGn.out _).mono ?_; rintro e w2 ⟨rfl, hk2⟩; unfold zeroFrame)
    | fail)
  refine of_world (fun W2 hW => ?_)
  have k2 : Kept None' W1 W2 := by rw [hW]; exact hk2.alloc _ _
  have t0 := k2.some t0 id
  have t1 := k2.some t1 id
  have t2 := k2.some t2 id
  have t3 := k2.some t3 id
  have t4 := k2.some t4 id
  have u0 := k2.some u0 id
  have v0 := k2.some v0 id
  have v1 := k2.some v1 id
  have v2 := k2.some v2 id
  have v3 := k2.some v3 id
  have f0 := k2.some f0 id
  have f1 := k2.some f1 id
  have f2 := k2.some f2 id
  have f3 := k2.some f3 id
  have f4 := k2.some f4 id
  have q0' := k2.some q0' id
  have q1' := k2.some q1' id
  have q2' := k2.some q2' id
  have q3' := k2.some q3' id
  have h0' : W2.cell? ⟨w2.heap.size, 0, none⟩ = some (.int .i64 0) := by rw [hW]; exact cell_alloc_one w2 _ _ 0
  have h1' : W2.cell? ⟨w2.heap.size, 1, none⟩ = some (.int .i64 0) := by rw [hW]; exact cell_alloc_one w2 _ _ 1
  have h2' : W2.cell? ⟨w2.heap.size, 2, none⟩ = some (.int .i64 0) := by rw [hW]; exact cell_alloc_one w2 _ _ 2
  have h3' : W2.cell? ⟨w2.heap.size, 3, none⟩ = some (.int .i64 0) := by rw [hW]; exact cell_alloc_one w2 _ _ 3
  have h4' : W2.cell? ⟨w2.heap.size, 4, none⟩ = some (.slice none 0 0) := by rw [hW]; exact cell_alloc_one w2 _ _ 4
  have K2 := Lib.hid (K1.out.trans k2)
  clear hW k2 hk2
  go_upto_region 4 with (first
    | (go_at_call 43; refine (grainerr_any _ _ _ _ _ _).mono ?_; rw [HE0.out]; rintro e w3 ⟨rfl, hk3⟩)
    | fail)
  have t0 := hk3.some t0 id
  have t1 := hk3.some t1 id
  have t2 := hk3.some t2 id
  have t3 := hk3.some t3 id
  have t4 := hk3.some t4 id
  have u0 := hk3.some u0 id
  have v0 := hk3.some v0 id
  have v1 := hk3.some v1 id
  have v2 := hk3.some v2 id
  have v3 := hk3.some v3 id
  have f0 := hk3.some f0 id
  have f1 := hk3.some f1 id
  have f2 := hk3.some f2 id
  have f3 := hk3.some f3 id
  have f4 := hk3.some f4 id
  have q0' := hk3.some q0' id
  have q1' := hk3.some q1' id
  have q2' := hk3.some q2' id
  have q3' := hk3.some q3' id
  have h0' := hk3.some h0' id
  have h1' := hk3.some h1' id
  have h2' := hk3.some h2' id
  have h3' := hk3.some h3' id
  have h4' := hk3.some h4' id
  have K3 := Lib.hid (K2.out.trans hk3)
  clear hk3
  go_upto_region 6 with (first
    | (go_at_call 16; refine (finishes_one _).mono ?_; rintro e w' ⟨rfl, nf, rfl⟩)
    | (go_at_call 44; refine (checkgrain_any _ _ _ _ _ _).mono ?_; rw [HE0.out]; rintro e w4 ⟨rfl, hk4⟩)
    | fail)
  have k4 : Kept None' w3 w4 := Kept.trans ((Kept.refl _ _).drew _) hk4
  have t0 := k4.some t0 id
  have t1 := k4.some t1 id
  have t2 := k4.some t2 id
  have t3 := k4.some t3 id
  have t4 := k4.some t4 id
  have u0 := k4.some u0 id
  have v0 := k4.some v0 id
  have v1 := k4.some v1 id
  have v2 := k4.some v2 id
  have v3 := k4.some v3 id
  have f0 := k4.some f0 id
  have f1 := k4.some f1 id
  have f2 := k4.some f2 id
  have f3 := k4.some f3 id
  have f4 := k4.some f4 id
  have q0' := k4.some q0' id
  have q1' := k4.some q1' id
  have q2' := k4.some q2' id
  have q3' := k4.some q3' id
  have h0' := k4.some h0' id
  have h1' := k4.some h1' id
  have h2' := k4.some h2' id
  have h3' := k4.some h3' id
  have h4' := k4.some h4' id
  have K4 := Lib.hid (K3.out.trans k4)
  clear k4 hk4
  go_upto_region 7 with (first
    | (go_at_call 45; refine (placed_any _ _ _).mono ?_; rw [HEp.out]; rintro e w' ⟨rfl, rfl⟩)
    | (go_at_call 12; refine (first2_any _ _ E0 Ep _ (by go_simp) (by go_simp)).mono ?_; rw [HE1.out]; rintro e w' ⟨rfl, rfl⟩)
    | fail)
  refine of_world (fun W5 hW => ?_)
  have k5 : Kept None' w4 W5 := by rw [hW]; repeat (first | exact Kept.refl _ _ | refine Kept.drew ?_ _ | refine Kept.alloc ?_ _ _)
  have t0 := k5.some t0 id
  have t1 := k5.some t1 id
  have t2 := k5.some t2 id
  have t3 := k5.some t3 id
  have t4 := k5.some t4 id
  have u0 := k5.some u0 id
  have v0 := k5.some v0 id
  have v1 := k5.some v1 id
  have v2 := k5.some v2 id
  have v3 := k5.some v3 id
  have f0 := k5.some f0 id
  have f1 := k5.some f1 id
  have f2 := k5.some f2 id
  have f3 := k5.some f3 id
  have f4 := k5.some f4 id
  have q0' := k5.some q0' id
  have q1' := k5.some q1' id
  have q2' := k5.some q2' id
  have q3' := k5.some q3' id
  have h0' := k5.some h0' id
  have h1' := k5.some h1' id
  have h2' := k5.some h2' id
  have h3' := k5.some h3' id
  have h4' := k5.some h4' id
  have K5 := Lib.hid (K4.out.trans k5)
  clear k5 hW
  have Xt0 := ext_cell t0
  have Xt1 := ext_cell t1
  have Xt2 := ext_cell t2
  have Xt3 := ext_cell t3
  have Xt4 := ext_cell t4
  have Xu0 := ext_cell u0
  have Xv0 := ext_cell v0
  have Xv1 := ext_cell v1
  have Xv2 := ext_cell v2
  have Xv3 := ext_cell v3
  have Xf0 := ext_cell f0
  have Xf1 := ext_cell f1
  have Xf2 := ext_cell f2
  have Xf3 := ext_cell f3
  have Xf4 := ext_cell f4
  have Xq0x := ext_cell q0'
  have Xq1x := ext_cell q1'
  have Xq2x := ext_cell q2'
  have Xq3x := ext_cell q3'
  have Xh0x := ext_cell h0'
  have Xh1x := ext_cell h1'
  have Xh2x := ext_cell h2'
  have Xh3x := ext_cell h3'
  have Xh4x := ext_cell h4'
  refine region_ext (by kernel_rfl) (by kernel_rfl) ?_
  repeat (first
    | go_big_quiet_skip
    | (go_big_quiet_want; go_big_quiet_op; first | go_big_quiet_on | go_big_quiet_call (first
      | fail)))
  refine wpQuiet_nil ?_
  rintro _ ⟨xq, rfl⟩
  have k6 := ext_kept W5 xq
  have t0 := k6.some t0 id
  have t1 := k6.some t1 id
  have t2 := k6.some t2 id
  have t3 := k6.some t3 id
  have t4 := k6.some t4 id
  have u0 := k6.some u0 id
  have v0 := k6.some v0 id
  have v1 := k6.some v1 id
  have v2 := k6.some v2 id
  have v3 := k6.some v3 id
  have f0 := k6.some f0 id
  have f1 := k6.some f1 id
  have f2 := k6.some f2 id
  have f3 := k6.some f3 id
  have f4 := k6.some f4 id
  have q0' := k6.some q0' id
  have q1' := k6.some q1' id
  have q2' := k6.some q2' id
  have q3' := k6.some q3' id
  have h0' := k6.some h0' id
  have h1' := k6.some h1' id
  have h2' := k6.some h2' id
  have h3' := k6.some h3' id
  have h4' := k6.some h4' id
  have K6 := Lib.hid (K5.out.trans k6)
  clear k6 Xt0 Xt1 Xt2 Xt3 Xt4 Xu0 Xv0 Xv1 Xv2 Xv3 Xf0 Xf1 Xf2 Xf3 Xf4 Xq0x Xq1x Xq2x Xq3x Xh0x Xh1x Xh2x Xh3x Xh4x
  generalize ext W5 xq = W6 at *
  go_upto_region 10 with (first
    | (go_at_call 33; refine (frameerror_any _ _ _ _ _ _ _ _).mono ?_; rw [HE2.out]; rintro e w7 ⟨rfl, hk7⟩)
    | (go_at_call 12; refine (first2_any _ _ E2 E0 _ (by go_simp) (by go_simp)).mono ?_; rw [HE3.out]; rintro e w' ⟨rfl, rfl⟩)
    | fail)
  refine of_world (fun W7 hW => ?_)
  have k7 : Kept None' W6 W7 := by rw [hW]; exact hk7.trans ((Kept.refl _ _).alloc _ _)
  have t0 := k7.some t0 id
  have t1 := k7.some t1 id
  have t2 := k7.some t2 id
  have t3 := k7.some t3 id
  have t4 := k7.some t4 id
  have u0 := k7.some u0 id
  have v0 := k7.some v0 id
  have v1 := k7.some v1 id
  have v2 := k7.some v2 id
  have v3 := k7.some v3 id
  have f0 := k7.some f0 id
  have f1 := k7.some f1 id
  have f2 := k7.some f2 id
  have f3 := k7.some f3 id
  have f4 := k7.some f4 id
  have q0' := k7.some q0' id
  have q1' := k7.some q1' id
  have q2' := k7.some q2' id
  have q3' := k7.some q3' id
  have h0' := k7.some h0' id
  have h1' := k7.some h1' id
  have h2' := k7.some h2' id
  have h3' := k7.some h3' id
  have h4' := k7.some h4' id
  have K7 := Lib.hid (K6.out.trans k7)
  clear k7 hW hk7
  go_wp2_with (first
    | (go_at_call 17; refine (none_zero _).mono ?_; rintro e w8 ⟨rfl, hk8⟩)
    | fail)
  go_ret
  exact ⟨rfl, K7.out.trans hk8⟩
set_option linter.unusedSimpArgs false in
set_option linter.unusedVariables false in
set_option maxHeartbeats 16000000 in
set_option maxRecDepth 100000 in
theorem gl_ob (s z : Int) (S F : Nat) (m : Bool) (number x y : Int) (p0 p1 p2 p3 : Nat) (x2 y2 : Int)
    (W H : Int) (A : Option Addr) (n cap : Nat) (E0 Ep E1 E2 E3 : Int) (w : World)
    (hE0 : grE z S F = E0) (hEp : plE x y = Ep) (hE1 : (if E0 ≠ 0 then E0 else Ep) = 0)
    (q0 q1 q2 q3 : Nat) (z1 : 1 ≤ z) (z2 : z ≤ 16) (x1 : -1048576 ≤ x) (x1' : x ≤ 1048576) (y1 : -1048576 ≤ y) (y1' : y ≤ 1048576)
    (hq0 : gP s number (x / z) (y / z) (gC m 0) S F p0 = q0) (hq1 : gP s number (x / z) (y / z) (gC m 1) S F p1 = q1) (hq2 : gP s number (x / z) (y / z) (gC m 2) S F p2 = q2) (hq3 : cl .f32 p3 = q3)
    (HGd : ∀ w, Calls Try.prog 41 #[.agg #[.int .u32 s, .int .i64 z, .float .f32 S, .float .f32 F, .bool m], .int .i64 number, .int .i64 x, .int .i64 y, .agg #[.float .f32 p0, .float .f32 p1, .float .f32 p2, .float .f32 p3]] w fun e w' => e = .returned (.tuple #[.agg #[.float .f32 q0, .float .f32 q1, .float .f32 q2, .float .f32 q3], .int .i64 0]) ∧ Kept None' w w')
    (hE2 : frE x2 y2 W H n = E2) (hE3 : (if E2 ≠ 0 then E2 else E0) = E3) (h3 : ¬ E3 = 0) (HGn : ∀ w, Calls Try.prog 42 #[.agg #[.int .i64 x2, .int .i64 y2, .int .i64 W, .int .i64 H, .slice A n cap], .agg #[.int .u32 s, .int .i64 z, .float .f32 S, .float .f32 F, .bool m], .int .i64 number] w (ErrPost E3 w)) :
    Calls Try.prog 7 #[.agg #[.int .u32 s, .int .i64 z, .float .f32 S, .float .f32 F, .bool m], .int .i64 number, .int .i64 x, .int .i64 y, .agg #[.float .f32 p0, .float .f32 p1, .float .f32 p2, .float .f32 p3], .agg #[.int .i64 x2, .int .i64 y2, .int .i64 W, .int .i64 H, .slice A n cap]] w fun e w' => e = .returned (.bool true) ∧ Kept None' w w' := by
  have HQ := Lib.hid (And.intro hq0 (And.intro hq1 (And.intro hq2 hq3)))
  clear hq0 hq1 hq2 hq3
  have hb3 : (E3 != 0) = true := by simp [h3]
  have hb4 : (E3 == 0) = false := by simp [h3]
  have HE2 := Lib.hid hE2
  have HE3 := Lib.hid hE3
  have HGn := Lib.hid HGn
  clear hE2 hE3
  have HE0 := Lib.hid hE0
  have HEp := Lib.hid hEp
  have HE1 := Lib.hid hE1
  have HGd := Lib.hid HGd
  have pn := gl_neq
  clear hE0 hEp hE1
  go_enter Try.func7, Try.ntmps7
  go_upto_region 1 with (fail)
  refine of_world (fun W0 hW => ?_)
  have k0 : Kept None' w W0 := by rw [hW]; exact ((((Kept.refl None' w).alloc _ _).alloc _ _).alloc _ _).alloc _ _
  have t0 : W0.cell? ⟨w.heap.size, 0, none⟩ = some (.int .u32 s) := by rw [hW]; go_simp
  have t1 : W0.cell? ⟨w.heap.size, 1, none⟩ = some (.int .i64 z) := by rw [hW]; go_simp
  have t2 : W0.cell? ⟨w.heap.size, 2, none⟩ = some (.float .f32 S) := by rw [hW]; go_simp
  have t3 : W0.cell? ⟨w.heap.size, 3, none⟩ = some (.float .f32 F) := by rw [hW]; go_simp
  have t4 : W0.cell? ⟨w.heap.size, 4, none⟩ = some (.bool m) := by rw [hW]; go_simp
  have u0 : W0.cell? ⟨w.heap.size + 1, 0, none⟩ = some (.int .i64 number) := by rw [hW]; go_simp
  have v0 : W0.cell? ⟨w.heap.size + 1 + 1, 0, none⟩ = some (.float .f32 p0) := by rw [hW]; go_simp
  have v1 : W0.cell? ⟨w.heap.size + 1 + 1, 1, none⟩ = some (.float .f32 p1) := by rw [hW]; go_simp
  have v2 : W0.cell? ⟨w.heap.size + 1 + 1, 2, none⟩ = some (.float .f32 p2) := by rw [hW]; go_simp
  have v3 : W0.cell? ⟨w.heap.size + 1 + 1, 3, none⟩ = some (.float .f32 p3) := by rw [hW]; go_simp
  have f0 : W0.cell? ⟨w.heap.size + 1 + 1 + 1, 0, none⟩ = some (.int .i64 x2) := by rw [hW]; go_simp
  have f1 : W0.cell? ⟨w.heap.size + 1 + 1 + 1, 1, none⟩ = some (.int .i64 y2) := by rw [hW]; go_simp
  have f2 : W0.cell? ⟨w.heap.size + 1 + 1 + 1, 2, none⟩ = some (.int .i64 W) := by rw [hW]; go_simp
  have f3 : W0.cell? ⟨w.heap.size + 1 + 1 + 1, 3, none⟩ = some (.int .i64 H) := by rw [hW]; go_simp
  have f4 : W0.cell? ⟨w.heap.size + 1 + 1 + 1, 4, none⟩ = some (.slice A n cap) := by rw [hW]; go_simp
  have K0 := Lib.hid k0
  clear hW k0
  go_upto_region 2 with (first
    | (go_at_call 41; refine (HGd.out _).mono ?_; rintro e w1 ⟨rfl, hk1⟩)
    | fail)
  refine of_world (fun W1 hW => ?_)
  have k1 : Kept None' W0 W1 := by rw [hW]; exact hk1.alloc _ _
  have t0 := k1.some t0 id
  have t1 := k1.some t1 id
  have t2 := k1.some t2 id
  have t3 := k1.some t3 id
  have t4 := k1.some t4 id
  have u0 := k1.some u0 id
  have v0 := k1.some v0 id
  have v1 := k1.some v1 id
  have v2 := k1.some v2 id
  have v3 := k1.some v3 id
  have f0 := k1.some f0 id
  have f1 := k1.some f1 id
  have f2 := k1.some f2 id
  have f3 := k1.some f3 id
  have f4 := k1.some f4 id
  have q0' : W1.cell? ⟨w1.heap.size, 0, none⟩ = some (.float .f32 q0) := by rw [hW]; exact cell_alloc_one w1 _ _ 0
  have q1' : W1.cell? ⟨w1.heap.size, 1, none⟩ = some (.float .f32 q1) := by rw [hW]; exact cell_alloc_one w1 _ _ 1
  have q2' : W1.cell? ⟨w1.heap.size, 2, none⟩ = some (.float .f32 q2) := by rw [hW]; exact cell_alloc_one w1 _ _ 2
  have q3' : W1.cell? ⟨w1.heap.size, 3, none⟩ = some (.float .f32 q3) := by rw [hW]; exact cell_alloc_one w1 _ _ 3
  have K1 := Lib.hid (K0.out.trans k1)
  clear hW k1 hk1
  go_upto_region 3 with (first
    | (go_at_call 42; refine (HGn.out _).mono ?_; rintro e w2 ⟨rfl, hk2⟩; unfold zeroFrame)
    | fail)
  refine of_world (fun W2 hW => ?_)
  have k2 : Kept None' W1 W2 := by rw [hW]; exact hk2.alloc _ _
  have t0 := k2.some t0 id
  have t1 := k2.some t1 id
  have t2 := k2.some t2 id
  have t3 := k2.some t3 id
  have t4 := k2.some t4 id
  have u0 := k2.some u0 id
  have v0 := k2.some v0 id
  have v1 := k2.some v1 id
  have v2 := k2.some v2 id
  have v3 := k2.some v3 id
  have f0 := k2.some f0 id
  have f1 := k2.some f1 id
  have f2 := k2.some f2 id
  have f3 := k2.some f3 id
  have f4 := k2.some f4 id
  have q0' := k2.some q0' id
  have q1' := k2.some q1' id
  have q2' := k2.some q2' id
  have q3' := k2.some q3' id
  have h0' : W2.cell? ⟨w2.heap.size, 0, none⟩ = some (.int .i64 0) := by rw [hW]; exact cell_alloc_one w2 _ _ 0
  have h1' : W2.cell? ⟨w2.heap.size, 1, none⟩ = some (.int .i64 0) := by rw [hW]; exact cell_alloc_one w2 _ _ 1
  have h2' : W2.cell? ⟨w2.heap.size, 2, none⟩ = some (.int .i64 0) := by rw [hW]; exact cell_alloc_one w2 _ _ 2
  have h3' : W2.cell? ⟨w2.heap.size, 3, none⟩ = some (.int .i64 0) := by rw [hW]; exact cell_alloc_one w2 _ _ 3
  have h4' : W2.cell? ⟨w2.heap.size, 4, none⟩ = some (.slice none 0 0) := by rw [hW]; exact cell_alloc_one w2 _ _ 4
  have K2 := Lib.hid (K1.out.trans k2)
  clear hW k2 hk2
  go_upto_region 4 with (first
    | (go_at_call 43; refine (grainerr_any _ _ _ _ _ _).mono ?_; rw [HE0.out]; rintro e w3 ⟨rfl, hk3⟩)
    | fail)
  have t0 := hk3.some t0 id
  have t1 := hk3.some t1 id
  have t2 := hk3.some t2 id
  have t3 := hk3.some t3 id
  have t4 := hk3.some t4 id
  have u0 := hk3.some u0 id
  have v0 := hk3.some v0 id
  have v1 := hk3.some v1 id
  have v2 := hk3.some v2 id
  have v3 := hk3.some v3 id
  have f0 := hk3.some f0 id
  have f1 := hk3.some f1 id
  have f2 := hk3.some f2 id
  have f3 := hk3.some f3 id
  have f4 := hk3.some f4 id
  have q0' := hk3.some q0' id
  have q1' := hk3.some q1' id
  have q2' := hk3.some q2' id
  have q3' := hk3.some q3' id
  have h0' := hk3.some h0' id
  have h1' := hk3.some h1' id
  have h2' := hk3.some h2' id
  have h3' := hk3.some h3' id
  have h4' := hk3.some h4' id
  have K3 := Lib.hid (K2.out.trans hk3)
  clear hk3
  go_upto_region 6 with (first
    | (go_at_call 16; refine (finishes_one _).mono ?_; rintro e w' ⟨rfl, nf, rfl⟩)
    | (go_at_call 44; refine (checkgrain_any _ _ _ _ _ _).mono ?_; rw [HE0.out]; rintro e w4 ⟨rfl, hk4⟩)
    | fail)
  have k4 : Kept None' w3 w4 := Kept.trans ((Kept.refl _ _).drew _) hk4
  have t0 := k4.some t0 id
  have t1 := k4.some t1 id
  have t2 := k4.some t2 id
  have t3 := k4.some t3 id
  have t4 := k4.some t4 id
  have u0 := k4.some u0 id
  have v0 := k4.some v0 id
  have v1 := k4.some v1 id
  have v2 := k4.some v2 id
  have v3 := k4.some v3 id
  have f0 := k4.some f0 id
  have f1 := k4.some f1 id
  have f2 := k4.some f2 id
  have f3 := k4.some f3 id
  have f4 := k4.some f4 id
  have q0' := k4.some q0' id
  have q1' := k4.some q1' id
  have q2' := k4.some q2' id
  have q3' := k4.some q3' id
  have h0' := k4.some h0' id
  have h1' := k4.some h1' id
  have h2' := k4.some h2' id
  have h3' := k4.some h3' id
  have h4' := k4.some h4' id
  have K4 := Lib.hid (K3.out.trans k4)
  clear k4 hk4
  go_upto_region 7 with (first
    | (go_at_call 45; refine (placed_any _ _ _).mono ?_; rw [HEp.out]; rintro e w' ⟨rfl, rfl⟩)
    | (go_at_call 12; refine (first2_any _ _ E0 Ep _ (by go_simp) (by go_simp)).mono ?_; rw [HE1.out]; rintro e w' ⟨rfl, rfl⟩)
    | fail)
  refine of_world (fun W5 hW => ?_)
  have k5 : Kept None' w4 W5 := by rw [hW]; repeat (first | exact Kept.refl _ _ | refine Kept.drew ?_ _ | refine Kept.alloc ?_ _ _)
  have t0 := k5.some t0 id
  have t1 := k5.some t1 id
  have t2 := k5.some t2 id
  have t3 := k5.some t3 id
  have t4 := k5.some t4 id
  have u0 := k5.some u0 id
  have v0 := k5.some v0 id
  have v1 := k5.some v1 id
  have v2 := k5.some v2 id
  have v3 := k5.some v3 id
  have f0 := k5.some f0 id
  have f1 := k5.some f1 id
  have f2 := k5.some f2 id
  have f3 := k5.some f3 id
  have f4 := k5.some f4 id
  have q0' := k5.some q0' id
  have q1' := k5.some q1' id
  have q2' := k5.some q2' id
  have q3' := k5.some q3' id
  have h0' := k5.some h0' id
  have h1' := k5.some h1' id
  have h2' := k5.some h2' id
  have h3' := k5.some h3' id
  have h4' := k5.some h4' id
  have K5 := Lib.hid (K4.out.trans k5)
  clear k5 hW
  have Xt0 := ext_cell t0
  have Xt1 := ext_cell t1
  have Xt2 := ext_cell t2
  have Xt3 := ext_cell t3
  have Xt4 := ext_cell t4
  have Xu0 := ext_cell u0
  have Xv0 := ext_cell v0
  have Xv1 := ext_cell v1
  have Xv2 := ext_cell v2
  have Xv3 := ext_cell v3
  have Xf0 := ext_cell f0
  have Xf1 := ext_cell f1
  have Xf2 := ext_cell f2
  have Xf3 := ext_cell f3
  have Xf4 := ext_cell f4
  have Xq0x := ext_cell q0'
  have Xq1x := ext_cell q1'
  have Xq2x := ext_cell q2'
  have Xq3x := ext_cell q3'
  have Xh0x := ext_cell h0'
  have Xh1x := ext_cell h1'
  have Xh2x := ext_cell h2'
  have Xh3x := ext_cell h3'
  have Xh4x := ext_cell h4'
  have HO : ∀ w, Calls Try.prog 46 #[.agg #[.int .u32 s, .int .i64 z, .float .f32 S, .float .f32 F, .bool m], .int .i64 number, .int .i64 x, .int .i64 y, .agg #[.float .f32 p0, .float .f32 p1, .float .f32 p2, .float .f32 p3]] w fun e w' => e = .returned (.agg #[.float .f32 q0, .float .f32 q1, .float .f32 q2, .float .f32 q3]) ∧ Kept None' w w' := fun w =>
    (grainedof_any s z S F m number x y (pq p0 p1 p2 p3) w z1 z2 x1 x1' y1 y1').mono fun e w' ⟨a, b⟩ => ⟨by rw [a, ← HQ.out.1, ← HQ.out.2.1, ← HQ.out.2.2.1, ← HQ.out.2.2.2]; rfl, b⟩
  have HO := Lib.hid HO
  refine region_ext (by kernel_rfl) (by kernel_rfl) ?_
  repeat (first
    | go_big_quiet_skip
    | (go_big_quiet_want; go_big_quiet_op; first | go_big_quiet_on | go_big_quiet_call (first
      | (go_at_call 46; exact calls_ext (HO.out _))
      | (go_at_call 22; exact calls_ext_grown (gl_self _ _ _ _ _)))))
  refine wpQuiet_nil ?_
  rintro _ ⟨xq, rfl⟩
  have k6 := ext_kept W5 xq
  have t0 := k6.some t0 id
  have t1 := k6.some t1 id
  have t2 := k6.some t2 id
  have t3 := k6.some t3 id
  have t4 := k6.some t4 id
  have u0 := k6.some u0 id
  have v0 := k6.some v0 id
  have v1 := k6.some v1 id
  have v2 := k6.some v2 id
  have v3 := k6.some v3 id
  have f0 := k6.some f0 id
  have f1 := k6.some f1 id
  have f2 := k6.some f2 id
  have f3 := k6.some f3 id
  have f4 := k6.some f4 id
  have q0' := k6.some q0' id
  have q1' := k6.some q1' id
  have q2' := k6.some q2' id
  have q3' := k6.some q3' id
  have h0' := k6.some h0' id
  have h1' := k6.some h1' id
  have h2' := k6.some h2' id
  have h3' := k6.some h3' id
  have h4' := k6.some h4' id
  have K6 := Lib.hid (K5.out.trans k6)
  clear k6 Xt0 Xt1 Xt2 Xt3 Xt4 Xu0 Xv0 Xv1 Xv2 Xv3 Xf0 Xf1 Xf2 Xf3 Xf4 Xq0x Xq1x Xq2x Xq3x Xh0x Xh1x Xh2x Xh3x Xh4x
  generalize ext W5 xq = W6 at *
  go_upto_region 10 with (first
    | (go_at_call 33; refine (frameerror_any _ _ _ _ _ _ _ _).mono ?_; rw [HE2.out]; rintro e w7 ⟨rfl, hk7⟩)
    | (go_at_call 12; refine (first2_any _ _ E2 E0 _ (by go_simp) (by go_simp)).mono ?_; rw [HE3.out]; rintro e w' ⟨rfl, rfl⟩)
    | fail)
  refine of_world (fun W7 hW => ?_)
  have k7 : Kept None' W6 W7 := by rw [hW]; exact hk7.trans ((Kept.refl _ _).alloc _ _)
  have t0 := k7.some t0 id
  have t1 := k7.some t1 id
  have t2 := k7.some t2 id
  have t3 := k7.some t3 id
  have t4 := k7.some t4 id
  have u0 := k7.some u0 id
  have v0 := k7.some v0 id
  have v1 := k7.some v1 id
  have v2 := k7.some v2 id
  have v3 := k7.some v3 id
  have f0 := k7.some f0 id
  have f1 := k7.some f1 id
  have f2 := k7.some f2 id
  have f3 := k7.some f3 id
  have f4 := k7.some f4 id
  have q0' := k7.some q0' id
  have q1' := k7.some q1' id
  have q2' := k7.some q2' id
  have q3' := k7.some q3' id
  have h0' := k7.some h0' id
  have h1' := k7.some h1' id
  have h2' := k7.some h2' id
  have h3' := k7.some h3' id
  have h4' := k7.some h4' id
  have K7 := Lib.hid (K6.out.trans k7)
  clear k7 hW hk7
  go_wp2_with (first
    | (go_at_call 17; refine (none_zero _).mono ?_; rintro e w8 ⟨rfl, hk8⟩)
    | fail)
  go_ret
  exact ⟨rfl, K7.out.trans hk8⟩
set_option linter.unusedSimpArgs false in
set_option linter.unusedVariables false in
set_option maxHeartbeats 16000000 in
set_option maxRecDepth 100000 in
theorem gl_bo (s z : Int) (S F : Nat) (m : Bool) (number x y : Int) (p0 p1 p2 p3 : Nat) (x2 y2 : Int)
    (W H : Nat) (b o n cap : Nat) (f : Nat → Nat) (E0 Ep E1 : Int) (w : World)
    (hE0 : grE z S F = E0) (hEp : plE x y = Ep) (hE1 : (if E0 ≠ 0 then E0 else Ep) = E1)
    (h1 : ¬ E1 = 0)
    (HGd : ∀ w, Calls Try.prog 41 #[.agg #[.int .u32 s, .int .i64 z, .float .f32 S, .float .f32 F, .bool m], .int .i64 number, .int .i64 x, .int .i64 y, .agg #[.float .f32 p0, .float .f32 p1, .float .f32 p2, .float .f32 p3]] w fun e w' => e = .returned (.tuple #[.agg #[.float .f32 0, .float .f32 0, .float .f32 0, .float .f32 0], .int .i64 E1]) ∧ Kept None' w w')
    (hF : frE x2 y2 W H n = 0) (hcap : n ≤ cap) (hcap2 : cap ≤ maxLen) (hc : ∀ i, i < n → w.cell? ⟨b, o + i, none⟩ = some (.float .f32 (f i))) (h0 : E0 = 0) (z1 : 1 ≤ z) (z2 : z ≤ 16) :
    Calls Try.prog 7 #[.agg #[.int .u32 s, .int .i64 z, .float .f32 S, .float .f32 F, .bool m], .int .i64 number, .int .i64 x, .int .i64 y, .agg #[.float .f32 p0, .float .f32 p1, .float .f32 p2, .float .f32 p3], .agg #[.int .i64 x2, .int .i64 y2, .int .i64 W, .int .i64 H, .slice (some ⟨b, o, none⟩) n cap]] w fun e w' => e = .returned (.bool true) ∧ Kept None' w w' := by
  have hb1 : (E1 != 0) = true := by simp [h1]
  have hb2 : (E1 == 0) = false := by simp [h1]
  have hE0' := hE0.trans h0
  obtain ⟨hE, hn⟩ := frE_ok hF
  have hn6 : n ≤ 65536 := by
    obtain ⟨w1', w2', w3', w4', w5'⟩ := regE_ok hE
    have w6 := (mul_bd w1' w2' w3' w4').1
    have w7 : 4 * (W : Int) * H = 4 * (W * H) := Int.mul_assoc ..
    omega
  have HV := fun (w1 : World) (hk : Kept None' w w1) => grain_ok x2 y2 W H b o n cap f s z S F m number w1 hF hE0' (fun i hi => hk.some (hc i hi) id) hcap hcap2
  have HGn := Lib.hid HV
  have HC := Lib.hid hc
  have HF := Lib.hid hF
  have HN := Lib.hid hn
  have HRE := Lib.hid hE
  have H0 := Lib.hid h0
  have HE4 : Hid ((if (0 : Int) ≠ 0 then 0 else E0) = 0) := Lib.hid (by rw [if_neg (by decide)]; exact h0)
  clear hF hc hn hE HV h0 hE0'
  have HE0 := Lib.hid hE0
  have HEp := Lib.hid hEp
  have HE1 := Lib.hid hE1
  have HGd := Lib.hid HGd
  have pn := gl_neq
  clear hE0 hEp hE1
  go_enter Try.func7, Try.ntmps7
  go_upto_region 1 with (fail)
  refine of_world (fun W0 hW => ?_)
  have k0 : Kept None' w W0 := by rw [hW]; exact ((((Kept.refl None' w).alloc _ _).alloc _ _).alloc _ _).alloc _ _
  have t0 : W0.cell? ⟨w.heap.size, 0, none⟩ = some (.int .u32 s) := by rw [hW]; go_simp
  have t1 : W0.cell? ⟨w.heap.size, 1, none⟩ = some (.int .i64 z) := by rw [hW]; go_simp
  have t2 : W0.cell? ⟨w.heap.size, 2, none⟩ = some (.float .f32 S) := by rw [hW]; go_simp
  have t3 : W0.cell? ⟨w.heap.size, 3, none⟩ = some (.float .f32 F) := by rw [hW]; go_simp
  have t4 : W0.cell? ⟨w.heap.size, 4, none⟩ = some (.bool m) := by rw [hW]; go_simp
  have u0 : W0.cell? ⟨w.heap.size + 1, 0, none⟩ = some (.int .i64 number) := by rw [hW]; go_simp
  have v0 : W0.cell? ⟨w.heap.size + 1 + 1, 0, none⟩ = some (.float .f32 p0) := by rw [hW]; go_simp
  have v1 : W0.cell? ⟨w.heap.size + 1 + 1, 1, none⟩ = some (.float .f32 p1) := by rw [hW]; go_simp
  have v2 : W0.cell? ⟨w.heap.size + 1 + 1, 2, none⟩ = some (.float .f32 p2) := by rw [hW]; go_simp
  have v3 : W0.cell? ⟨w.heap.size + 1 + 1, 3, none⟩ = some (.float .f32 p3) := by rw [hW]; go_simp
  have f0 : W0.cell? ⟨w.heap.size + 1 + 1 + 1, 0, none⟩ = some (.int .i64 x2) := by rw [hW]; go_simp
  have f1 : W0.cell? ⟨w.heap.size + 1 + 1 + 1, 1, none⟩ = some (.int .i64 y2) := by rw [hW]; go_simp
  have f2 : W0.cell? ⟨w.heap.size + 1 + 1 + 1, 2, none⟩ = some (.int .i64 W) := by rw [hW]; go_simp
  have f3 : W0.cell? ⟨w.heap.size + 1 + 1 + 1, 3, none⟩ = some (.int .i64 H) := by rw [hW]; go_simp
  have f4 : W0.cell? ⟨w.heap.size + 1 + 1 + 1, 4, none⟩ = some (.slice (some ⟨b, o, none⟩) n cap) := by rw [hW]; go_simp
  have K0 := Lib.hid k0
  clear hW k0
  go_upto_region 2 with (first
    | (go_at_call 41; refine (HGd.out _).mono ?_; rintro e w1 ⟨rfl, hk1⟩)
    | fail)
  refine of_world (fun W1 hW => ?_)
  have k1 : Kept None' W0 W1 := by rw [hW]; exact hk1.alloc _ _
  have t0 := k1.some t0 id
  have t1 := k1.some t1 id
  have t2 := k1.some t2 id
  have t3 := k1.some t3 id
  have t4 := k1.some t4 id
  have u0 := k1.some u0 id
  have v0 := k1.some v0 id
  have v1 := k1.some v1 id
  have v2 := k1.some v2 id
  have v3 := k1.some v3 id
  have f0 := k1.some f0 id
  have f1 := k1.some f1 id
  have f2 := k1.some f2 id
  have f3 := k1.some f3 id
  have f4 := k1.some f4 id
  have q0' : W1.cell? ⟨w1.heap.size, 0, none⟩ = some (.float .f32 0) := by rw [hW]; exact cell_alloc_one w1 _ _ 0
  have q1' : W1.cell? ⟨w1.heap.size, 1, none⟩ = some (.float .f32 0) := by rw [hW]; exact cell_alloc_one w1 _ _ 1
  have q2' : W1.cell? ⟨w1.heap.size, 2, none⟩ = some (.float .f32 0) := by rw [hW]; exact cell_alloc_one w1 _ _ 2
  have q3' : W1.cell? ⟨w1.heap.size, 3, none⟩ = some (.float .f32 0) := by rw [hW]; exact cell_alloc_one w1 _ _ 3
  have K1 := Lib.hid (K0.out.trans k1)
  clear hW k1 hk1
  go_upto_region 3 with (first
    | (go_at_call 42; refine (HGn.out _ K1.out).mono ?_; rintro e w2 ⟨B, hB, rfl, hk2, hz2⟩)
    | fail)
  refine of_world (fun W2 hW => ?_)
  have k2 : Kept None' W1 W2 := by rw [hW]; exact hk2.alloc _ _
  have t0 := k2.some t0 id
  have t1 := k2.some t1 id
  have t2 := k2.some t2 id
  have t3 := k2.some t3 id
  have t4 := k2.some t4 id
  have u0 := k2.some u0 id
  have v0 := k2.some v0 id
  have v1 := k2.some v1 id
  have v2 := k2.some v2 id
  have v3 := k2.some v3 id
  have f0 := k2.some f0 id
  have f1 := k2.some f1 id
  have f2 := k2.some f2 id
  have f3 := k2.some f3 id
  have f4 := k2.some f4 id
  have q0' := k2.some q0' id
  have q1' := k2.some q1' id
  have q2' := k2.some q2' id
  have q3' := k2.some q3' id
  have h0' : W2.cell? ⟨w2.heap.size, 0, none⟩ = some (.int .i64 x2) := by rw [hW]; exact cell_alloc_one w2 _ _ 0
  have h1' : W2.cell? ⟨w2.heap.size, 1, none⟩ = some (.int .i64 y2) := by rw [hW]; exact cell_alloc_one w2 _ _ 1
  have h2' : W2.cell? ⟨w2.heap.size, 2, none⟩ = some (.int .i64 W) := by rw [hW]; exact cell_alloc_one w2 _ _ 2
  have h3' : W2.cell? ⟨w2.heap.size, 3, none⟩ = some (.int .i64 H) := by rw [hW]; exact cell_alloc_one w2 _ _ 3
  have h4' : W2.cell? ⟨w2.heap.size, 4, none⟩ = some (.slice (some ⟨B, 0, none⟩) n n) := by rw [hW]; exact cell_alloc_one w2 _ _ 4
  have K2 := Lib.hid (K1.out.trans k2)
  have kz : Kept None' w2 W2 := by rw [hW]; exact (Kept.refl _ _).alloc _ _
  have HZ := Lib.hid (fun (j : Nat) (hj : j < n) => kz.some (hz2 j hj) id)
  clear hz2 kz
  clear hW k2 hk2
  go_upto_region 4 with (first
    | (go_at_call 43; refine (grainerr_any _ _ _ _ _ _).mono ?_; rw [HE0.out]; rintro e w3 ⟨rfl, hk3⟩)
    | fail)
  have t0 := hk3.some t0 id
  have t1 := hk3.some t1 id
  have t2 := hk3.some t2 id
  have t3 := hk3.some t3 id
  have t4 := hk3.some t4 id
  have u0 := hk3.some u0 id
  have v0 := hk3.some v0 id
  have v1 := hk3.some v1 id
  have v2 := hk3.some v2 id
  have v3 := hk3.some v3 id
  have f0 := hk3.some f0 id
  have f1 := hk3.some f1 id
  have f2 := hk3.some f2 id
  have f3 := hk3.some f3 id
  have f4 := hk3.some f4 id
  have q0' := hk3.some q0' id
  have q1' := hk3.some q1' id
  have q2' := hk3.some q2' id
  have q3' := hk3.some q3' id
  have h0' := hk3.some h0' id
  have h1' := hk3.some h1' id
  have h2' := hk3.some h2' id
  have h3' := hk3.some h3' id
  have h4' := hk3.some h4' id
  have K3 := Lib.hid (K2.out.trans hk3)
  have HZ := Lib.hid (fun (j : Nat) (hj : j < n) => hk3.some (HZ.out j hj) id)
  clear hk3
  go_upto_region 6 with (first
    | (go_at_call 16; refine (finishes_one _).mono ?_; rintro e w' ⟨rfl, nf, rfl⟩)
    | (go_at_call 44; refine (checkgrain_any _ _ _ _ _ _).mono ?_; rw [HE0.out]; rintro e w4 ⟨rfl, hk4⟩)
    | fail)
  have k4 : Kept None' w3 w4 := Kept.trans ((Kept.refl _ _).drew _) hk4
  have t0 := k4.some t0 id
  have t1 := k4.some t1 id
  have t2 := k4.some t2 id
  have t3 := k4.some t3 id
  have t4 := k4.some t4 id
  have u0 := k4.some u0 id
  have v0 := k4.some v0 id
  have v1 := k4.some v1 id
  have v2 := k4.some v2 id
  have v3 := k4.some v3 id
  have f0 := k4.some f0 id
  have f1 := k4.some f1 id
  have f2 := k4.some f2 id
  have f3 := k4.some f3 id
  have f4 := k4.some f4 id
  have q0' := k4.some q0' id
  have q1' := k4.some q1' id
  have q2' := k4.some q2' id
  have q3' := k4.some q3' id
  have h0' := k4.some h0' id
  have h1' := k4.some h1' id
  have h2' := k4.some h2' id
  have h3' := k4.some h3' id
  have h4' := k4.some h4' id
  have K4 := Lib.hid (K3.out.trans k4)
  have HZ := Lib.hid (fun (j : Nat) (hj : j < n) => k4.some (HZ.out j hj) id)
  clear k4 hk4
  go_upto_region 7 with (first
    | (go_at_call 45; refine (placed_any _ _ _).mono ?_; rw [HEp.out]; rintro e w' ⟨rfl, rfl⟩)
    | (go_at_call 12; refine (first2_any _ _ E0 Ep _ (by go_simp) (by go_simp)).mono ?_; rw [HE1.out]; rintro e w' ⟨rfl, rfl⟩)
    | fail)
  refine of_world (fun W5 hW => ?_)
  have k5 : Kept None' w4 W5 := by rw [hW]; repeat (first | exact Kept.refl _ _ | refine Kept.drew ?_ _ | refine Kept.alloc ?_ _ _)
  have t0 := k5.some t0 id
  have t1 := k5.some t1 id
  have t2 := k5.some t2 id
  have t3 := k5.some t3 id
  have t4 := k5.some t4 id
  have u0 := k5.some u0 id
  have v0 := k5.some v0 id
  have v1 := k5.some v1 id
  have v2 := k5.some v2 id
  have v3 := k5.some v3 id
  have f0 := k5.some f0 id
  have f1 := k5.some f1 id
  have f2 := k5.some f2 id
  have f3 := k5.some f3 id
  have f4 := k5.some f4 id
  have q0' := k5.some q0' id
  have q1' := k5.some q1' id
  have q2' := k5.some q2' id
  have q3' := k5.some q3' id
  have h0' := k5.some h0' id
  have h1' := k5.some h1' id
  have h2' := k5.some h2' id
  have h3' := k5.some h3' id
  have h4' := k5.some h4' id
  have K5 := Lib.hid (K4.out.trans k5)
  have HZ := Lib.hid (fun (j : Nat) (hj : j < n) => k5.some (HZ.out j hj) id)
  clear k5 hW
  have Xt0 := ext_cell t0
  have Xt1 := ext_cell t1
  have Xt2 := ext_cell t2
  have Xt3 := ext_cell t3
  have Xt4 := ext_cell t4
  have Xu0 := ext_cell u0
  have Xv0 := ext_cell v0
  have Xv1 := ext_cell v1
  have Xv2 := ext_cell v2
  have Xv3 := ext_cell v3
  have Xf0 := ext_cell f0
  have Xf1 := ext_cell f1
  have Xf2 := ext_cell f2
  have Xf3 := ext_cell f3
  have Xf4 := ext_cell f4
  have Xq0x := ext_cell q0'
  have Xq1x := ext_cell q1'
  have Xq2x := ext_cell q2'
  have Xq3x := ext_cell q3'
  have Xh0x := ext_cell h0'
  have Xh1x := ext_cell h1'
  have Xh2x := ext_cell h2'
  have Xh3x := ext_cell h3'
  have Xh4x := ext_cell h4'
  refine region_ext (by kernel_rfl) (by kernel_rfl) ?_
  repeat (first
    | go_big_quiet_skip
    | (go_big_quiet_want; go_big_quiet_op; first | go_big_quiet_on | go_big_quiet_call (first
      | fail)))
  refine wpQuiet_nil ?_
  rintro _ ⟨xq, rfl⟩
  have k6 := ext_kept W5 xq
  have t0 := k6.some t0 id
  have t1 := k6.some t1 id
  have t2 := k6.some t2 id
  have t3 := k6.some t3 id
  have t4 := k6.some t4 id
  have u0 := k6.some u0 id
  have v0 := k6.some v0 id
  have v1 := k6.some v1 id
  have v2 := k6.some v2 id
  have v3 := k6.some v3 id
  have f0 := k6.some f0 id
  have f1 := k6.some f1 id
  have f2 := k6.some f2 id
  have f3 := k6.some f3 id
  have f4 := k6.some f4 id
  have q0' := k6.some q0' id
  have q1' := k6.some q1' id
  have q2' := k6.some q2' id
  have q3' := k6.some q3' id
  have h0' := k6.some h0' id
  have h1' := k6.some h1' id
  have h2' := k6.some h2' id
  have h3' := k6.some h3' id
  have h4' := k6.some h4' id
  have K6 := Lib.hid (K5.out.trans k6)
  have HZ := Lib.hid (fun (j : Nat) (hj : j < n) => k6.some (HZ.out j hj) id)
  clear k6 Xt0 Xt1 Xt2 Xt3 Xt4 Xu0 Xv0 Xv1 Xv2 Xv3 Xf0 Xf1 Xf2 Xf3 Xf4 Xq0x Xq1x Xq2x Xq3x Xh0x Xh1x Xh2x Xh3x Xh4x
  generalize ext W5 xq = W6 at *
  go_upto_region 10 with (first
    | (go_at_call 33; refine (frameerror_any _ _ _ _ _ _ _ _).mono ?_; rw [HF.out]; rintro e w7 ⟨rfl, hk7⟩)
    | (go_at_call 12; refine (first2_any _ _ 0 E0 _ (by go_simp) (by go_simp)).mono ?_; rw [HE4.out]; rintro e w' ⟨rfl, rfl⟩)
    | fail)
  refine of_world (fun W7 hW => ?_)
  have k7 : Kept None' W6 W7 := by rw [hW]; exact hk7.trans ((Kept.refl _ _).alloc _ _)
  have t0 := k7.some t0 id
  have t1 := k7.some t1 id
  have t2 := k7.some t2 id
  have t3 := k7.some t3 id
  have t4 := k7.some t4 id
  have u0 := k7.some u0 id
  have v0 := k7.some v0 id
  have v1 := k7.some v1 id
  have v2 := k7.some v2 id
  have v3 := k7.some v3 id
  have f0 := k7.some f0 id
  have f1 := k7.some f1 id
  have f2 := k7.some f2 id
  have f3 := k7.some f3 id
  have f4 := k7.some f4 id
  have q0' := k7.some q0' id
  have q1' := k7.some q1' id
  have q2' := k7.some q2' id
  have q3' := k7.some q3' id
  have h0' := k7.some h0' id
  have h1' := k7.some h1' id
  have h2' := k7.some h2' id
  have h3' := k7.some h3' id
  have h4' := k7.some h4' id
  have K7 := Lib.hid (K6.out.trans k7)
  have HZ := Lib.hid (fun (j : Nat) (hj : j < n) => k7.some (HZ.out j hj) id)
  clear k7 hW hk7
  have hG : GnB s z S F m number w.heap.size (w.heap.size + 1) W7 := ⟨t0, t1, t2, t3, t4, u0⟩
  have hQ : FrB x2 y2 W H (some ⟨b, o, none⟩) n cap (w.heap.size + 1 + 1 + 1) W7 := ⟨f0, f1, f2, f3, f4⟩
  have HG7 := Lib.hid hG
  have HQ7 := Lib.hid hQ
  go_upto_region 12 with (fail)
  cases hfew : decide (n ≤ 400) with
  | false =>
    have Xt0 := ext_cell t0
    have Xt1 := ext_cell t1
    have Xt2 := ext_cell t2
    have Xt3 := ext_cell t3
    have Xt4 := ext_cell t4
    have Xu0 := ext_cell u0
    have Xv0 := ext_cell v0
    have Xv1 := ext_cell v1
    have Xv2 := ext_cell v2
    have Xv3 := ext_cell v3
    have Xf0 := ext_cell f0
    have Xf1 := ext_cell f1
    have Xf2 := ext_cell f2
    have Xf3 := ext_cell f3
    have Xf4 := ext_cell f4
    have Xq0x := ext_cell q0'
    have Xq1x := ext_cell q1'
    have Xq2x := ext_cell q2'
    have Xq3x := ext_cell q3'
    have Xh0x := ext_cell h0'
    have Xh1x := ext_cell h1'
    have Xh2x := ext_cell h2'
    have Xh3x := ext_cell h3'
    have Xh4x := ext_cell h4'
    refine region_ext (by kernel_rfl) (by kernel_rfl) ?_
    repeat (first
      | go_big_quiet_skip
      | (go_big_quiet_want; go_big_quiet_op; first | go_big_quiet_on | go_big_quiet_call (first
        | (go_at_call 36; exact calls_ext ((few_any _ _ _ _ _ _ _ _).mono fun e w' ⟨a, b⟩ => ⟨by rw [a, hfew], b⟩)))))
    refine wpQuiet_nil ?_
    rintro _ ⟨xq, rfl⟩
    have K8 := Lib.hid (K7.out.trans (ext_kept W7 xq))
    generalize ext W7 xq = w8 at *
    go_wp2_with fail
    go_ret
    exact ⟨rfl, K8.out⟩
  | true =>
    have hS : vlS W7 (w.heap.size + 1 + 1 + 1) w2.heap.size x2 y2 W H x2 y2 W H (some ⟨b, o, none⟩) n cap (some ⟨B, 0, none⟩) n n W7 := ⟨Kept.refl _ _, f0, f1, f2, f3, f4, h0', h1', h2', h3', h4'⟩
    have HS := Lib.hid hS
    clear hS hG hQ t0 t1 t2 t3 t4 u0 v0 v1 v2 v3 f0 f1 f2 f3 f4 q0' q1' q2' q3' h0' h1' h2' h3' h4'
    go_region_held3 (fun w' => Kept None' W7 w' ∧ w'.cell? ⟨w.heap.size + 1 + 1 + 1, 0, none⟩ = some (.int .i64 x2) ∧ w'.cell? ⟨w.heap.size + 1 + 1 + 1, 1, none⟩ = some (.int .i64 y2) ∧ w'.cell? ⟨w.heap.size + 1 + 1 + 1, 2, none⟩ = some (.int .i64 W) ∧ w'.cell? ⟨w.heap.size + 1 + 1 + 1, 3, none⟩ = some (.int .i64 H) ∧ w'.cell? ⟨w.heap.size + 1 + 1 + 1, 4, none⟩ = some (.slice (some ⟨b, o, none⟩) n cap) ∧
        w'.cell? ⟨w2.heap.size, 0, none⟩ = some (.int .i64 x2) ∧ w'.cell? ⟨w2.heap.size, 1, none⟩ = some (.int .i64 y2) ∧ w'.cell? ⟨w2.heap.size, 2, none⟩ = some (.int .i64 W) ∧ w'.cell? ⟨w2.heap.size, 3, none⟩ = some (.int .i64 H) ∧ w'.cell? ⟨w2.heap.size, 4, none⟩ = some (.slice (some ⟨B, 0, none⟩) n n))
      (first
        | with_reducible exact vlS.kept HS.out (kept_drew1 _)
        | with_reducible assumption
        | with_reducible exact vlS.kept (by assumption) (by assumption))
      (first
        | (go_simp; go_at_call 36; refine (few_any _ _ _ _ _ _ _ _).mono ?_; rw [hfew]; rintro e w' ⟨rfl, hk⟩)
        | (go_simp; go_at_call 38; refine (gl_made s z S F m number x2 y2 W H b o n cap _ _ _ f _ HRE.out HN.out hcap hn6 (fun i hi => (K7.out.trans (And.left ‹_ ∧ _›)).some (HC.out i hi) id) z1 z2 (HG7.out.kept (And.left ‹_ ∧ _›)) (HQ7.out.kept (And.left ‹_ ∧ _›))).mono ?_; rintro e w' ⟨B2, cap2, hB2, rfl, hk, hz⟩)
        | (go_simp; go_at_call 37; refine (sameframe_any x2 y2 W H B 0 B2 0 n n cap2 (mapG (gF s z S F m number) x2 y2 W f) _ hn6 (fun j hj => by rw [Nat.zero_add]; exact Kept.some (And.left ‹_ ∧ _›) (HZ.out j hj) id) (fun j hj => by rw [Nat.zero_add, hz j hj])).mono ?_; rintro e w' ⟨rfl, hk⟩))
    all_goals
      go_wp2_with fail
      go_ret
      exact ⟨rfl, K7.out.trans (And.left ‹_ ∧ _›)⟩
set_option linter.unusedSimpArgs false in
set_option linter.unusedVariables false in
set_option maxHeartbeats 16000000 in
set_option maxRecDepth 100000 in
theorem gl_oo (s z : Int) (S F : Nat) (m : Bool) (number x y : Int) (p0 p1 p2 p3 : Nat) (x2 y2 : Int)
    (W H : Nat) (b o n cap : Nat) (f : Nat → Nat) (E0 Ep E1 : Int) (w : World)
    (hE0 : grE z S F = E0) (hEp : plE x y = Ep) (hE1 : (if E0 ≠ 0 then E0 else Ep) = 0)
    (q0 q1 q2 q3 : Nat) (z1 : 1 ≤ z) (z2 : z ≤ 16) (x1 : -1048576 ≤ x) (x1' : x ≤ 1048576) (y1 : -1048576 ≤ y) (y1' : y ≤ 1048576)
    (hq0 : gP s number (x / z) (y / z) (gC m 0) S F p0 = q0) (hq1 : gP s number (x / z) (y / z) (gC m 1) S F p1 = q1) (hq2 : gP s number (x / z) (y / z) (gC m 2) S F p2 = q2) (hq3 : cl .f32 p3 = q3)
    (HGd : ∀ w, Calls Try.prog 41 #[.agg #[.int .u32 s, .int .i64 z, .float .f32 S, .float .f32 F, .bool m], .int .i64 number, .int .i64 x, .int .i64 y, .agg #[.float .f32 p0, .float .f32 p1, .float .f32 p2, .float .f32 p3]] w fun e w' => e = .returned (.tuple #[.agg #[.float .f32 q0, .float .f32 q1, .float .f32 q2, .float .f32 q3], .int .i64 0]) ∧ Kept None' w w')
    (hF : frE x2 y2 W H n = 0) (hcap : n ≤ cap) (hcap2 : cap ≤ maxLen) (hc : ∀ i, i < n → w.cell? ⟨b, o + i, none⟩ = some (.float .f32 (f i))) (h0 : E0 = 0) :
    Calls Try.prog 7 #[.agg #[.int .u32 s, .int .i64 z, .float .f32 S, .float .f32 F, .bool m], .int .i64 number, .int .i64 x, .int .i64 y, .agg #[.float .f32 p0, .float .f32 p1, .float .f32 p2, .float .f32 p3], .agg #[.int .i64 x2, .int .i64 y2, .int .i64 W, .int .i64 H, .slice (some ⟨b, o, none⟩) n cap]] w fun e w' => e = .returned (.bool true) ∧ Kept None' w w' := by
  have HQ := Lib.hid (And.intro hq0 (And.intro hq1 (And.intro hq2 hq3)))
  clear hq0 hq1 hq2 hq3
  have hE0' := hE0.trans h0
  obtain ⟨hE, hn⟩ := frE_ok hF
  have hn6 : n ≤ 65536 := by
    obtain ⟨w1', w2', w3', w4', w5'⟩ := regE_ok hE
    have w6 := (mul_bd w1' w2' w3' w4').1
    have w7 : 4 * (W : Int) * H = 4 * (W * H) := Int.mul_assoc ..
    omega
  have HV := fun (w1 : World) (hk : Kept None' w w1) => grain_ok x2 y2 W H b o n cap f s z S F m number w1 hF hE0' (fun i hi => hk.some (hc i hi) id) hcap hcap2
  have HGn := Lib.hid HV
  have HC := Lib.hid hc
  have HF := Lib.hid hF
  have HN := Lib.hid hn
  have HRE := Lib.hid hE
  have H0 := Lib.hid h0
  have HE4 : Hid ((if (0 : Int) ≠ 0 then 0 else E0) = 0) := Lib.hid (by rw [if_neg (by decide)]; exact h0)
  clear hF hc hn hE HV h0 hE0'
  have HE0 := Lib.hid hE0
  have HEp := Lib.hid hEp
  have HE1 := Lib.hid hE1
  have HGd := Lib.hid HGd
  have pn := gl_neq
  clear hE0 hEp hE1
  go_enter Try.func7, Try.ntmps7
  go_upto_region 1 with (fail)
  refine of_world (fun W0 hW => ?_)
  have k0 : Kept None' w W0 := by rw [hW]; exact ((((Kept.refl None' w).alloc _ _).alloc _ _).alloc _ _).alloc _ _
  have t0 : W0.cell? ⟨w.heap.size, 0, none⟩ = some (.int .u32 s) := by rw [hW]; go_simp
  have t1 : W0.cell? ⟨w.heap.size, 1, none⟩ = some (.int .i64 z) := by rw [hW]; go_simp
  have t2 : W0.cell? ⟨w.heap.size, 2, none⟩ = some (.float .f32 S) := by rw [hW]; go_simp
  have t3 : W0.cell? ⟨w.heap.size, 3, none⟩ = some (.float .f32 F) := by rw [hW]; go_simp
  have t4 : W0.cell? ⟨w.heap.size, 4, none⟩ = some (.bool m) := by rw [hW]; go_simp
  have u0 : W0.cell? ⟨w.heap.size + 1, 0, none⟩ = some (.int .i64 number) := by rw [hW]; go_simp
  have v0 : W0.cell? ⟨w.heap.size + 1 + 1, 0, none⟩ = some (.float .f32 p0) := by rw [hW]; go_simp
  have v1 : W0.cell? ⟨w.heap.size + 1 + 1, 1, none⟩ = some (.float .f32 p1) := by rw [hW]; go_simp
  have v2 : W0.cell? ⟨w.heap.size + 1 + 1, 2, none⟩ = some (.float .f32 p2) := by rw [hW]; go_simp
  have v3 : W0.cell? ⟨w.heap.size + 1 + 1, 3, none⟩ = some (.float .f32 p3) := by rw [hW]; go_simp
  have f0 : W0.cell? ⟨w.heap.size + 1 + 1 + 1, 0, none⟩ = some (.int .i64 x2) := by rw [hW]; go_simp
  have f1 : W0.cell? ⟨w.heap.size + 1 + 1 + 1, 1, none⟩ = some (.int .i64 y2) := by rw [hW]; go_simp
  have f2 : W0.cell? ⟨w.heap.size + 1 + 1 + 1, 2, none⟩ = some (.int .i64 W) := by rw [hW]; go_simp
  have f3 : W0.cell? ⟨w.heap.size + 1 + 1 + 1, 3, none⟩ = some (.int .i64 H) := by rw [hW]; go_simp
  have f4 : W0.cell? ⟨w.heap.size + 1 + 1 + 1, 4, none⟩ = some (.slice (some ⟨b, o, none⟩) n cap) := by rw [hW]; go_simp
  have K0 := Lib.hid k0
  clear hW k0
  go_upto_region 2 with (first
    | (go_at_call 41; refine (HGd.out _).mono ?_; rintro e w1 ⟨rfl, hk1⟩)
    | fail)
  refine of_world (fun W1 hW => ?_)
  have k1 : Kept None' W0 W1 := by rw [hW]; exact hk1.alloc _ _
  have t0 := k1.some t0 id
  have t1 := k1.some t1 id
  have t2 := k1.some t2 id
  have t3 := k1.some t3 id
  have t4 := k1.some t4 id
  have u0 := k1.some u0 id
  have v0 := k1.some v0 id
  have v1 := k1.some v1 id
  have v2 := k1.some v2 id
  have v3 := k1.some v3 id
  have f0 := k1.some f0 id
  have f1 := k1.some f1 id
  have f2 := k1.some f2 id
  have f3 := k1.some f3 id
  have f4 := k1.some f4 id
  have q0' : W1.cell? ⟨w1.heap.size, 0, none⟩ = some (.float .f32 q0) := by rw [hW]; exact cell_alloc_one w1 _ _ 0
  have q1' : W1.cell? ⟨w1.heap.size, 1, none⟩ = some (.float .f32 q1) := by rw [hW]; exact cell_alloc_one w1 _ _ 1
  have q2' : W1.cell? ⟨w1.heap.size, 2, none⟩ = some (.float .f32 q2) := by rw [hW]; exact cell_alloc_one w1 _ _ 2
  have q3' : W1.cell? ⟨w1.heap.size, 3, none⟩ = some (.float .f32 q3) := by rw [hW]; exact cell_alloc_one w1 _ _ 3
  have K1 := Lib.hid (K0.out.trans k1)
  clear hW k1 hk1
  go_upto_region 3 with (first
    | (go_at_call 42; refine (HGn.out _ K1.out).mono ?_; rintro e w2 ⟨B, hB, rfl, hk2, hz2⟩)
    | fail)
  refine of_world (fun W2 hW => ?_)
  have k2 : Kept None' W1 W2 := by rw [hW]; exact hk2.alloc _ _
  have t0 := k2.some t0 id
  have t1 := k2.some t1 id
  have t2 := k2.some t2 id
  have t3 := k2.some t3 id
  have t4 := k2.some t4 id
  have u0 := k2.some u0 id
  have v0 := k2.some v0 id
  have v1 := k2.some v1 id
  have v2 := k2.some v2 id
  have v3 := k2.some v3 id
  have f0 := k2.some f0 id
  have f1 := k2.some f1 id
  have f2 := k2.some f2 id
  have f3 := k2.some f3 id
  have f4 := k2.some f4 id
  have q0' := k2.some q0' id
  have q1' := k2.some q1' id
  have q2' := k2.some q2' id
  have q3' := k2.some q3' id
  have h0' : W2.cell? ⟨w2.heap.size, 0, none⟩ = some (.int .i64 x2) := by rw [hW]; exact cell_alloc_one w2 _ _ 0
  have h1' : W2.cell? ⟨w2.heap.size, 1, none⟩ = some (.int .i64 y2) := by rw [hW]; exact cell_alloc_one w2 _ _ 1
  have h2' : W2.cell? ⟨w2.heap.size, 2, none⟩ = some (.int .i64 W) := by rw [hW]; exact cell_alloc_one w2 _ _ 2
  have h3' : W2.cell? ⟨w2.heap.size, 3, none⟩ = some (.int .i64 H) := by rw [hW]; exact cell_alloc_one w2 _ _ 3
  have h4' : W2.cell? ⟨w2.heap.size, 4, none⟩ = some (.slice (some ⟨B, 0, none⟩) n n) := by rw [hW]; exact cell_alloc_one w2 _ _ 4
  have K2 := Lib.hid (K1.out.trans k2)
  have kz : Kept None' w2 W2 := by rw [hW]; exact (Kept.refl _ _).alloc _ _
  have HZ := Lib.hid (fun (j : Nat) (hj : j < n) => kz.some (hz2 j hj) id)
  clear hz2 kz
  clear hW k2 hk2
  go_upto_region 4 with (first
    | (go_at_call 43; refine (grainerr_any _ _ _ _ _ _).mono ?_; rw [HE0.out]; rintro e w3 ⟨rfl, hk3⟩)
    | fail)
  have t0 := hk3.some t0 id
  have t1 := hk3.some t1 id
  have t2 := hk3.some t2 id
  have t3 := hk3.some t3 id
  have t4 := hk3.some t4 id
  have u0 := hk3.some u0 id
  have v0 := hk3.some v0 id
  have v1 := hk3.some v1 id
  have v2 := hk3.some v2 id
  have v3 := hk3.some v3 id
  have f0 := hk3.some f0 id
  have f1 := hk3.some f1 id
  have f2 := hk3.some f2 id
  have f3 := hk3.some f3 id
  have f4 := hk3.some f4 id
  have q0' := hk3.some q0' id
  have q1' := hk3.some q1' id
  have q2' := hk3.some q2' id
  have q3' := hk3.some q3' id
  have h0' := hk3.some h0' id
  have h1' := hk3.some h1' id
  have h2' := hk3.some h2' id
  have h3' := hk3.some h3' id
  have h4' := hk3.some h4' id
  have K3 := Lib.hid (K2.out.trans hk3)
  have HZ := Lib.hid (fun (j : Nat) (hj : j < n) => hk3.some (HZ.out j hj) id)
  clear hk3
  go_upto_region 6 with (first
    | (go_at_call 16; refine (finishes_one _).mono ?_; rintro e w' ⟨rfl, nf, rfl⟩)
    | (go_at_call 44; refine (checkgrain_any _ _ _ _ _ _).mono ?_; rw [HE0.out]; rintro e w4 ⟨rfl, hk4⟩)
    | fail)
  have k4 : Kept None' w3 w4 := Kept.trans ((Kept.refl _ _).drew _) hk4
  have t0 := k4.some t0 id
  have t1 := k4.some t1 id
  have t2 := k4.some t2 id
  have t3 := k4.some t3 id
  have t4 := k4.some t4 id
  have u0 := k4.some u0 id
  have v0 := k4.some v0 id
  have v1 := k4.some v1 id
  have v2 := k4.some v2 id
  have v3 := k4.some v3 id
  have f0 := k4.some f0 id
  have f1 := k4.some f1 id
  have f2 := k4.some f2 id
  have f3 := k4.some f3 id
  have f4 := k4.some f4 id
  have q0' := k4.some q0' id
  have q1' := k4.some q1' id
  have q2' := k4.some q2' id
  have q3' := k4.some q3' id
  have h0' := k4.some h0' id
  have h1' := k4.some h1' id
  have h2' := k4.some h2' id
  have h3' := k4.some h3' id
  have h4' := k4.some h4' id
  have K4 := Lib.hid (K3.out.trans k4)
  have HZ := Lib.hid (fun (j : Nat) (hj : j < n) => k4.some (HZ.out j hj) id)
  clear k4 hk4
  go_upto_region 7 with (first
    | (go_at_call 45; refine (placed_any _ _ _).mono ?_; rw [HEp.out]; rintro e w' ⟨rfl, rfl⟩)
    | (go_at_call 12; refine (first2_any _ _ E0 Ep _ (by go_simp) (by go_simp)).mono ?_; rw [HE1.out]; rintro e w' ⟨rfl, rfl⟩)
    | fail)
  refine of_world (fun W5 hW => ?_)
  have k5 : Kept None' w4 W5 := by rw [hW]; repeat (first | exact Kept.refl _ _ | refine Kept.drew ?_ _ | refine Kept.alloc ?_ _ _)
  have t0 := k5.some t0 id
  have t1 := k5.some t1 id
  have t2 := k5.some t2 id
  have t3 := k5.some t3 id
  have t4 := k5.some t4 id
  have u0 := k5.some u0 id
  have v0 := k5.some v0 id
  have v1 := k5.some v1 id
  have v2 := k5.some v2 id
  have v3 := k5.some v3 id
  have f0 := k5.some f0 id
  have f1 := k5.some f1 id
  have f2 := k5.some f2 id
  have f3 := k5.some f3 id
  have f4 := k5.some f4 id
  have q0' := k5.some q0' id
  have q1' := k5.some q1' id
  have q2' := k5.some q2' id
  have q3' := k5.some q3' id
  have h0' := k5.some h0' id
  have h1' := k5.some h1' id
  have h2' := k5.some h2' id
  have h3' := k5.some h3' id
  have h4' := k5.some h4' id
  have K5 := Lib.hid (K4.out.trans k5)
  have HZ := Lib.hid (fun (j : Nat) (hj : j < n) => k5.some (HZ.out j hj) id)
  clear k5 hW
  have Xt0 := ext_cell t0
  have Xt1 := ext_cell t1
  have Xt2 := ext_cell t2
  have Xt3 := ext_cell t3
  have Xt4 := ext_cell t4
  have Xu0 := ext_cell u0
  have Xv0 := ext_cell v0
  have Xv1 := ext_cell v1
  have Xv2 := ext_cell v2
  have Xv3 := ext_cell v3
  have Xf0 := ext_cell f0
  have Xf1 := ext_cell f1
  have Xf2 := ext_cell f2
  have Xf3 := ext_cell f3
  have Xf4 := ext_cell f4
  have Xq0x := ext_cell q0'
  have Xq1x := ext_cell q1'
  have Xq2x := ext_cell q2'
  have Xq3x := ext_cell q3'
  have Xh0x := ext_cell h0'
  have Xh1x := ext_cell h1'
  have Xh2x := ext_cell h2'
  have Xh3x := ext_cell h3'
  have Xh4x := ext_cell h4'
  have HO : ∀ w, Calls Try.prog 46 #[.agg #[.int .u32 s, .int .i64 z, .float .f32 S, .float .f32 F, .bool m], .int .i64 number, .int .i64 x, .int .i64 y, .agg #[.float .f32 p0, .float .f32 p1, .float .f32 p2, .float .f32 p3]] w fun e w' => e = .returned (.agg #[.float .f32 q0, .float .f32 q1, .float .f32 q2, .float .f32 q3]) ∧ Kept None' w w' := fun w =>
    (grainedof_any s z S F m number x y (pq p0 p1 p2 p3) w z1 z2 x1 x1' y1 y1').mono fun e w' ⟨a, b⟩ => ⟨by rw [a, ← HQ.out.1, ← HQ.out.2.1, ← HQ.out.2.2.1, ← HQ.out.2.2.2]; rfl, b⟩
  have HO := Lib.hid HO
  refine region_ext (by kernel_rfl) (by kernel_rfl) ?_
  repeat (first
    | go_big_quiet_skip
    | (go_big_quiet_want; go_big_quiet_op; first | go_big_quiet_on | go_big_quiet_call (first
      | (go_at_call 46; exact calls_ext (HO.out _))
      | (go_at_call 22; exact calls_ext_grown (gl_self _ _ _ _ _)))))
  refine wpQuiet_nil ?_
  rintro _ ⟨xq, rfl⟩
  have k6 := ext_kept W5 xq
  have t0 := k6.some t0 id
  have t1 := k6.some t1 id
  have t2 := k6.some t2 id
  have t3 := k6.some t3 id
  have t4 := k6.some t4 id
  have u0 := k6.some u0 id
  have v0 := k6.some v0 id
  have v1 := k6.some v1 id
  have v2 := k6.some v2 id
  have v3 := k6.some v3 id
  have f0 := k6.some f0 id
  have f1 := k6.some f1 id
  have f2 := k6.some f2 id
  have f3 := k6.some f3 id
  have f4 := k6.some f4 id
  have q0' := k6.some q0' id
  have q1' := k6.some q1' id
  have q2' := k6.some q2' id
  have q3' := k6.some q3' id
  have h0' := k6.some h0' id
  have h1' := k6.some h1' id
  have h2' := k6.some h2' id
  have h3' := k6.some h3' id
  have h4' := k6.some h4' id
  have K6 := Lib.hid (K5.out.trans k6)
  have HZ := Lib.hid (fun (j : Nat) (hj : j < n) => k6.some (HZ.out j hj) id)
  clear k6 Xt0 Xt1 Xt2 Xt3 Xt4 Xu0 Xv0 Xv1 Xv2 Xv3 Xf0 Xf1 Xf2 Xf3 Xf4 Xq0x Xq1x Xq2x Xq3x Xh0x Xh1x Xh2x Xh3x Xh4x
  generalize ext W5 xq = W6 at *
  go_upto_region 10 with (first
    | (go_at_call 33; refine (frameerror_any _ _ _ _ _ _ _ _).mono ?_; rw [HF.out]; rintro e w7 ⟨rfl, hk7⟩)
    | (go_at_call 12; refine (first2_any _ _ 0 E0 _ (by go_simp) (by go_simp)).mono ?_; rw [HE4.out]; rintro e w' ⟨rfl, rfl⟩)
    | fail)
  refine of_world (fun W7 hW => ?_)
  have k7 : Kept None' W6 W7 := by rw [hW]; exact hk7.trans ((Kept.refl _ _).alloc _ _)
  have t0 := k7.some t0 id
  have t1 := k7.some t1 id
  have t2 := k7.some t2 id
  have t3 := k7.some t3 id
  have t4 := k7.some t4 id
  have u0 := k7.some u0 id
  have v0 := k7.some v0 id
  have v1 := k7.some v1 id
  have v2 := k7.some v2 id
  have v3 := k7.some v3 id
  have f0 := k7.some f0 id
  have f1 := k7.some f1 id
  have f2 := k7.some f2 id
  have f3 := k7.some f3 id
  have f4 := k7.some f4 id
  have q0' := k7.some q0' id
  have q1' := k7.some q1' id
  have q2' := k7.some q2' id
  have q3' := k7.some q3' id
  have h0' := k7.some h0' id
  have h1' := k7.some h1' id
  have h2' := k7.some h2' id
  have h3' := k7.some h3' id
  have h4' := k7.some h4' id
  have K7 := Lib.hid (K6.out.trans k7)
  have HZ := Lib.hid (fun (j : Nat) (hj : j < n) => k7.some (HZ.out j hj) id)
  clear k7 hW hk7
  have hG : GnB s z S F m number w.heap.size (w.heap.size + 1) W7 := ⟨t0, t1, t2, t3, t4, u0⟩
  have hQ : FrB x2 y2 W H (some ⟨b, o, none⟩) n cap (w.heap.size + 1 + 1 + 1) W7 := ⟨f0, f1, f2, f3, f4⟩
  have HG7 := Lib.hid hG
  have HQ7 := Lib.hid hQ
  go_upto_region 12 with (fail)
  cases hfew : decide (n ≤ 400) with
  | false =>
    have Xt0 := ext_cell t0
    have Xt1 := ext_cell t1
    have Xt2 := ext_cell t2
    have Xt3 := ext_cell t3
    have Xt4 := ext_cell t4
    have Xu0 := ext_cell u0
    have Xv0 := ext_cell v0
    have Xv1 := ext_cell v1
    have Xv2 := ext_cell v2
    have Xv3 := ext_cell v3
    have Xf0 := ext_cell f0
    have Xf1 := ext_cell f1
    have Xf2 := ext_cell f2
    have Xf3 := ext_cell f3
    have Xf4 := ext_cell f4
    have Xq0x := ext_cell q0'
    have Xq1x := ext_cell q1'
    have Xq2x := ext_cell q2'
    have Xq3x := ext_cell q3'
    have Xh0x := ext_cell h0'
    have Xh1x := ext_cell h1'
    have Xh2x := ext_cell h2'
    have Xh3x := ext_cell h3'
    have Xh4x := ext_cell h4'
    refine region_ext (by kernel_rfl) (by kernel_rfl) ?_
    repeat (first
      | go_big_quiet_skip
      | (go_big_quiet_want; go_big_quiet_op; first | go_big_quiet_on | go_big_quiet_call (first
        | (go_at_call 36; exact calls_ext ((few_any _ _ _ _ _ _ _ _).mono fun e w' ⟨a, b⟩ => ⟨by rw [a, hfew], b⟩)))))
    refine wpQuiet_nil ?_
    rintro _ ⟨xq, rfl⟩
    have K8 := Lib.hid (K7.out.trans (ext_kept W7 xq))
    generalize ext W7 xq = w8 at *
    go_wp2_with fail
    go_ret
    exact ⟨rfl, K8.out⟩
  | true =>
    have hS : vlS W7 (w.heap.size + 1 + 1 + 1) w2.heap.size x2 y2 W H x2 y2 W H (some ⟨b, o, none⟩) n cap (some ⟨B, 0, none⟩) n n W7 := ⟨Kept.refl _ _, f0, f1, f2, f3, f4, h0', h1', h2', h3', h4'⟩
    have HS := Lib.hid hS
    clear hS hG hQ t0 t1 t2 t3 t4 u0 v0 v1 v2 v3 f0 f1 f2 f3 f4 q0' q1' q2' q3' h0' h1' h2' h3' h4'
    go_region_held3 (fun w' => Kept None' W7 w' ∧ w'.cell? ⟨w.heap.size + 1 + 1 + 1, 0, none⟩ = some (.int .i64 x2) ∧ w'.cell? ⟨w.heap.size + 1 + 1 + 1, 1, none⟩ = some (.int .i64 y2) ∧ w'.cell? ⟨w.heap.size + 1 + 1 + 1, 2, none⟩ = some (.int .i64 W) ∧ w'.cell? ⟨w.heap.size + 1 + 1 + 1, 3, none⟩ = some (.int .i64 H) ∧ w'.cell? ⟨w.heap.size + 1 + 1 + 1, 4, none⟩ = some (.slice (some ⟨b, o, none⟩) n cap) ∧
        w'.cell? ⟨w2.heap.size, 0, none⟩ = some (.int .i64 x2) ∧ w'.cell? ⟨w2.heap.size, 1, none⟩ = some (.int .i64 y2) ∧ w'.cell? ⟨w2.heap.size, 2, none⟩ = some (.int .i64 W) ∧ w'.cell? ⟨w2.heap.size, 3, none⟩ = some (.int .i64 H) ∧ w'.cell? ⟨w2.heap.size, 4, none⟩ = some (.slice (some ⟨B, 0, none⟩) n n))
      (first
        | with_reducible exact vlS.kept HS.out (kept_drew1 _)
        | with_reducible assumption
        | with_reducible exact vlS.kept (by assumption) (by assumption))
      (first
        | (go_simp; go_at_call 36; refine (few_any _ _ _ _ _ _ _ _).mono ?_; rw [hfew]; rintro e w' ⟨rfl, hk⟩)
        | (go_simp; go_at_call 38; refine (gl_made s z S F m number x2 y2 W H b o n cap _ _ _ f _ HRE.out HN.out hcap hn6 (fun i hi => (K7.out.trans (And.left ‹_ ∧ _›)).some (HC.out i hi) id) z1 z2 (HG7.out.kept (And.left ‹_ ∧ _›)) (HQ7.out.kept (And.left ‹_ ∧ _›))).mono ?_; rintro e w' ⟨B2, cap2, hB2, rfl, hk, hz⟩)
        | (go_simp; go_at_call 37; refine (sameframe_any x2 y2 W H B 0 B2 0 n n cap2 (mapG (gF s z S F m number) x2 y2 W f) _ hn6 (fun j hj => by rw [Nat.zero_add]; exact Kept.some (And.left ‹_ ∧ _›) (HZ.out j hj) id) (fun j hj => by rw [Nat.zero_add, hz j hj])).mono ?_; rintro e w' ⟨rfl, hk⟩))
    all_goals
      go_wp2_with fail
      go_ret
      exact ⟨rfl, K7.out.trans (And.left ‹_ ∧ _›)⟩
theorem plE_ok {x y : Int} (h : plE x y = 0) : -1048576 ≤ x ∧ x ≤ 1048576 ∧ -1048576 ≤ y ∧ y ≤ 1048576 := by
  unfold plE at h
  split at h
  · rename_i hh
    simp only [inB, Bool.and_eq_true, decide_eq_true_eq] at hh
    omega
  · omega
theorem plE_bad {x y : Int} (h : ¬ plE x y = 0) : plE x y = 5 := by
  unfold plE at *
  split at h
  · omega
  · rename_i hh; rw [if_neg hh]
theorem walk_grainsMatch (s z : Int) (S F : Nat) (m : Bool) (number x y : Int) (p0 p1 p2 p3 : Nat) (x2 y2 W H : Int) (A : Option Addr) (n cap : Nat) (f : Nat → Nat) (w : World)
    (_ : (Lit.int .u32 s).wf = true) (_ : (Lit.int .i64 z).wf = true) (_ : (Lit.int .i64 number).wf = true) (_ : (Lit.int .i64 x).wf = true) (_ : (Lit.int .i64 y).wf = true)
    (_ : (Lit.int .i64 x2).wf = true) (_ : (Lit.int .i64 y2).wf = true) (_ : (Lit.int .i64 W).wf = true) (_ : (Lit.int .i64 H).wf = true)
    (hcap : n ≤ cap) (hcap2 : cap ≤ maxLen) (hr : Rd w A n (fun i => .float .f32 (f i))) (_ : ∀ i, (Lit.float .f32 (f i)).wf = true) :
    Calls Try.prog 7 #[.agg #[.int .u32 s, .int .i64 z, .float .f32 S, .float .f32 F, .bool m], .int .i64 number, .int .i64 x, .int .i64 y, .agg #[.float .f32 p0, .float .f32 p1, .float .f32 p2, .float .f32 p3], .agg #[.int .i64 x2, .int .i64 y2, .int .i64 W, .int .i64 H, .slice A n cap]] w fun e w' => e = .returned (.bool true) ∧ Kept None' w w' := by
  by_cases hg : grE z S F = 0
  · obtain ⟨z1, z2⟩ := grE_z hg
    by_cases hp : plE x y = 0
    · obtain ⟨x1, x1', y1, y1'⟩ := plE_ok hp
      have HGd := fun w => grained_ok s z S F m number x y p0 p1 p2 p3 w hg z1 (by simp; omega) (by simp; omega) (by simp; omega) (by simp; omega)
      by_cases hF : frE x2 y2 W H n = 0
      · obtain ⟨hE, hn⟩ := frE_ok hF
        obtain ⟨w1', w2', w3', w4', w5'⟩ := regE_ok hE
        have w6 := (mul_bd w1' w2' w3' w4').1
        have w7 : 4 * W * H = 4 * (W * H) := Int.mul_assoc ..
        obtain ⟨b, o, rfl, hc⟩ := hr (by omega)
        obtain ⟨W', rfl⟩ := Int.eq_ofNat_of_zero_le (show 0 ≤ W by omega)
        obtain ⟨H', rfl⟩ := Int.eq_ofNat_of_zero_le (show 0 ≤ H by omega)
        exact gl_oo s z S F m number x y p0 p1 p2 p3 x2 y2 W' H' b o n cap f 0 0 0 w hg hp rfl _ _ _ _ z1 z2 x1 x1' y1 y1' rfl rfl rfl rfl HGd hF hcap hcap2 hc rfl
      · exact gl_ob s z S F m number x y p0 p1 p2 p3 x2 y2 W H A n cap 0 0 0 (frE x2 y2 W H n) (frE x2 y2 W H n) w hg hp rfl _ _ _ _ z1 z2 x1 x1' y1 y1' rfl rfl rfl rfl HGd rfl (if_pos hF) hF (fun w => grain_e1 x2 y2 W H A n cap s z S F m number w _ rfl hF)
    · have hp5 := plE_bad hp
      have HGd := fun w => grained_e2 s z S F m number x y p0 p1 p2 p3 w hg hp5
      by_cases hF : frE x2 y2 W H n = 0
      · obtain ⟨hE, hn⟩ := frE_ok hF
        obtain ⟨w1', w2', w3', w4', w5'⟩ := regE_ok hE
        have w6 := (mul_bd w1' w2' w3' w4').1
        have w7 : 4 * W * H = 4 * (W * H) := Int.mul_assoc ..
        obtain ⟨b, o, rfl, hc⟩ := hr (by omega)
        obtain ⟨W', rfl⟩ := Int.eq_ofNat_of_zero_le (show 0 ≤ W by omega)
        obtain ⟨H', rfl⟩ := Int.eq_ofNat_of_zero_le (show 0 ≤ H by omega)
        exact gl_bo s z S F m number x y p0 p1 p2 p3 x2 y2 W' H' b o n cap f 0 5 5 w hg hp5 rfl (by decide) HGd hF hcap hcap2 hc rfl z1 z2
      · exact gl_bb s z S F m number x y p0 p1 p2 p3 x2 y2 W H A n cap 0 5 5 (frE x2 y2 W H n) (frE x2 y2 W H n) w hg hp5 rfl (by decide) HGd rfl (if_pos hF) hF (fun w => grain_e1 x2 y2 W H A n cap s z S F m number w _ rfl hF)
  · have HGd := fun w => grained_e1 s z S F m number x y p0 p1 p2 p3 _ w rfl hg
    by_cases hF : frE x2 y2 W H n = 0
    · exact gl_bb s z S F m number x y p0 p1 p2 p3 x2 y2 W H A n cap (grE z S F) (plE x y) (grE z S F) 0 (grE z S F) w rfl rfl (if_pos hg) hg HGd hF (by rw [if_neg (by decide)]) hg (fun w => grain_e2 x2 y2 W H A n cap s z S F m number w _ hF rfl hg)
    · exact gl_bb s z S F m number x y p0 p1 p2 p3 x2 y2 W H A n cap (grE z S F) (plE x y) (grE z S F) (frE x2 y2 W H n) (frE x2 y2 W H n) w rfl rfl (if_pos hg) hg HGd rfl (if_pos hF) hF (fun w => grain_e1 x2 y2 W H A n cap s z S F m number w _ rfl hF)
end Go.Proofs.Ytfphhlodfieopaa
