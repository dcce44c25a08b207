/- The contract of the function that GrainsMatch makes a frame of. Conditions: none. -/
import Derived.Test.YtfphhlodfieopaaGk
import Derived.Test.YtfphhlodfieopaaVx
namespace Go.Proofs.Ytfphhlodfieopaa
open Go.RowKit
open Fl Fr
open BigFrame

def gmF (s z : Int) (S F : Nat) (m : Bool) (number x y W : Int) (f : Nat → Nat) (px py : Int) (c : Nat) : Nat := gF s z S F m number px py (fun c => f (4 * ((py - y) * W + px - x).toNat + c)) c

set_option linter.unusedSimpArgs false in
set_option linter.unusedVariables false in
set_option maxHeartbeats 4000000 in
set_option maxRecDepth 100000 in
theorem gm1_any (s z : Int) (S F : Nat) (m : Bool) (number x y W H px py : Int) (b o n cap q G N Q : Nat) (f : Nat → Nat) (w : World) (hE : regE x y W H = 0) (hn : n ≤ cap) (hn6 : n ≤ 65536) (hc : ∀ i, i < n → w.cell? ⟨b, o + i, none⟩ = some (.float .f32 (f i)))
    (z1 : 1 ≤ z) (z2 : z ≤ 16) (hG : GnB s z S F m number G N w) (hQ : FrB x y W H (some ⟨b, o, none⟩) n cap Q w)
    (x1 : x ≤ px) (x2 : px < x + W) (y1 : y ≤ py) (y2 : py < y + H) (hq : (q : Int) = 4 * ((py - y) * W + px - x)) (hqn : q + 4 ≤ n) :
    Calls Try.prog 47 #[.int .i64 px, .int .i64 py, .pointer (some ⟨G, 0, none⟩), .pointer (some ⟨N, 0, none⟩), .pointer (some ⟨Q, 0, none⟩)] w fun e w' =>
      e = .returned (.agg #[.float .f32 (gF s z S F m number px py (fun c => f (q + c)) 0), .float .f32 (gF s z S F m number px py (fun c => f (q + c)) 1), .float .f32 (gF s z S F m number px py (fun c => f (q + c)) 2), .float .f32 (gF s z S F m number px py (fun c => f (q + c)) 3)]) ∧ Kept None' w w' := by
  obtain ⟨bx1, bx2, by1, by2⟩ := regE_place hE
  obtain ⟨w1', w2', w3', w4', w5'⟩ := regE_ok hE
  have b1 : -1048576 ≤ px := by omega
  have b2 : px ≤ 1048576 := by omega
  have b3 : -1048576 ≤ py := by omega
  have b4 : py ≤ 1048576 := by omega
  have HO := fun w => grainedof_any s z S F m number px py (fun c => f (q + c)) w z1 z2 b1 b2 b3 b4
  have f0 : gF s z S F m number px py (fun c => f (q + c)) 0 = gP s number (px / z) (py / z) (gC m 0) S F (f (q + 0)) := if_neg (by decide)
  have f1 : gF s z S F m number px py (fun c => f (q + c)) 1 = gP s number (px / z) (py / z) (gC m 1) S F (f (q + 1)) := if_neg (by decide)
  have f2 : gF s z S F m number px py (fun c => f (q + c)) 2 = gP s number (px / z) (py / z) (gC m 2) S F (f (q + 2)) := if_neg (by decide)
  have f3 : gF s z S F m number px py (fun c => f (q + c)) 3 = cl .f32 (f (q + 3)) := if_pos rfl
  rw [f0, f1, f2, f3]
  generalize gP s number (px / z) (py / z) (gC m 0) S F (f (q + 0)) = g0 at *
  generalize gP s number (px / z) (py / z) (gC m 1) S F (f (q + 1)) = g1 at *
  generalize gP s number (px / z) (py / z) (gC m 2) S F (f (q + 2)) = g2 at *
  clear f0 f1 f2 f3
  have HO := Lib.hid HO
  have HC := Lib.hid hc
  have HQ := Lib.hid hq
  clear hc hq bx1 bx2 by1 by2 w1' w2' w3' w4' w5'
  go_enter Try.func47, Try.ntmps47
  go_wp2_with fail
  refine of_world (fun W0 hW => ?_)
  have k0 : Kept None' w W0 := by rw [hW]; exact (Kept.refl None' w).alloc _ _
  have hr : ∀ j, j < 4 → W0.cell? ⟨w.heap.size, j, none⟩ = some (.float .f32 0) := by
    intro j hj
    rw [hW]
    obtain rfl | rfl | rfl | rfl : j = 0 ∨ j = 1 ∨ j = 2 ∨ j = 3 := by omega
    all_goals go_simp
  have hf : ∀ j, W0.frozen? ⟨w.heap.size, j, none⟩ = false := fun j => by rw [hW]; exact (frozen?_alloc_cells _ _ _ _).trans (frozen_new _ _ (Nat.le_refl _))
  have hG := hG.kept k0
  have hQ := hQ.kept k0
  have A0 := ext_cell hG.1
  have A1 := ext_cell hG.2.1
  have A2 := ext_cell hG.2.2.1
  have A3 := ext_cell hG.2.2.2.1
  have A4 := ext_cell hG.2.2.2.2.1
  have A5 := ext_cell hG.2.2.2.2.2
  have B0 := ext_cell hQ.1
  have B1 := ext_cell hQ.2.1
  have B2 := ext_cell hQ.2.2.1
  have B3 := ext_cell hQ.2.2.2.1
  have B4 := ext_cell hQ.2.2.2.2
  have K0 := Lib.hid k0
  have HR := Lib.hid (And.intro hr hf)
  clear hW k0 hr hf hG hQ
  refine region_ext_tail 9 (by kernel_rfl) (by kernel_rfl) ?_
  simp only [List.take_succ_cons, List.take_zero, List.drop_succ_cons, List.drop_zero]
  repeat (first
    | go_big_quiet_skip
    | (go_big_quiet_want; go_big_quiet_op; first | go_big_quiet_on | go_big_quiet_call (first
      | (go_at_call 35; exact calls_ext (pixelat_any x y W H px py b o n cap q f _ hE hn hn6 (fun i hi => ext_cell (K0.out.some (HC.out i hi) id) _) x1 x2 y1 y2 HQ.out hqn))
      | (go_at_call 46; exact calls_ext (HO.out _)))))
  refine wpQuiet_nil ?_
  rintro _ ⟨xq, rfl⟩
  have kx := ext_kept W0 xq
  have r0 := kx.some (HR.out.1 0 (by omega)) id
  have r1 := kx.some (HR.out.1 1 (by omega)) id
  have r2 := kx.some (HR.out.1 2 (by omega)) id
  have r3 := kx.some (HR.out.1 3 (by omega)) id
  have z0 := (kx.frozen _).trans (HR.out.2 0)
  have z1 := (kx.frozen _).trans (HR.out.2 1)
  have z2 := (kx.frozen _).trans (HR.out.2 2)
  have z3 := (kx.frozen _).trans (HR.out.2 3)
  have KX := Lib.hid (K0.out.trans kx)
  clear kx A0 A1 A2 A3 A4 A5 B0 B1 B2 B3 B4
  generalize ext W0 xq = W1 at *
  go_wp2_with fail
  have cs := cells_set4 (v0 := .float .f32 g0) (v1 := .float .f32 g1) (v2 := .float .f32 g2) (v3 := .float .f32 (cl .f32 (f (q + 3)))) r0 r1 r2 r3
  refine bodyPost_ret (px_ret Try.results47 _ _ w.heap.size _ _ _ _ cs.1 cs.2.1 cs.2.2.1 cs.2.2.2 rfl) rfl ?_
  exact ⟨rfl, kept_set4 KX.out (Nat.le_refl _)⟩

theorem gm_mades (s z : Int) (S F : Nat) (m : Bool) (number x y W H : Int) (b o n cap G N Q : Nat) (f : Nat → Nat) (w : World) (hE : regE x y W H = 0) (hn4 : (n : Int) = 4 * W * H) (hn : n ≤ cap) (hn6 : n ≤ 65536) (hc : ∀ i, i < n → w.cell? ⟨b, o + i, none⟩ = some (.float .f32 (f i)))
    (z1 : 1 ≤ z) (z2 : z ≤ 16) (hG : GnB s z S F m number G N w) (hQ : FrB x y W H (some ⟨b, o, none⟩) n cap Q w) :
    Mades 47 #[.pointer (some ⟨G, 0, none⟩), .pointer (some ⟨N, 0, none⟩), .pointer (some ⟨Q, 0, none⟩)] (gmF s z S F m number x y W f) x y W H w := fun px py wr hk x1 x2 y1 y2 =>
  (gm1_any s z S F m number x y W H px py b o n cap _ G N Q f wr hE hn hn6 (fun i hi => hk.some (hc i hi) id) z1 z2 (hG.kept hk) (hQ.kept hk) x1 x2 y1 y2 (pix_in hE hn4 x1 x2 y1 y2).1 (pix_in hE hn4 x1 x2 y1 y2).2).mono
    fun _ _ ⟨a, b⟩ => ⟨gmF s z S F m number x y W f px py, a, fun c _ => cl_gF s z S F m number px py _ c, b⟩

theorem gm_same (s z : Int) (S F : Nat) (m : Bool) (number x y : Int) (W : Nat) (f : Nat → Nat) (j : Nat) : madeG (gmF s z S F m number x y W f) x y W j = mapG (gF s z S F m number) x y W f j := by
  unfold madeG mapG gmF
  have h : ((y + ((j / 4 : Nat) : Int) / (W : Int) - y) * (W : Int) + (x + ((j / 4 : Nat) : Int) % (W : Int)) - x).toNat = j / 4 := by
    have h1 := Int.mul_ediv_add_emod ((j / 4 : Nat) : Int) (W : Int)
    rw [Int.mul_comm] at h1
    have h2 : y + ((j / 4 : Nat) : Int) / (W : Int) - y = ((j / 4 : Nat) : Int) / (W : Int) := by omega
    rw [h2]
    generalize ((j / 4 : Nat) : Int) / (W : Int) * (W : Int) = T at *
    generalize ((j / 4 : Nat) : Int) % (W : Int) = U at *
    omega
  rw [h]
end Go.Proofs.Ytfphhlodfieopaa
