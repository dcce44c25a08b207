/- The contract of the function that VignettesMatch makes a frame of. Conditions: none. -/
import Derived.Test.YtfphhlodfieopaaVw
import Derived.Test.YtfphhlodfieopaaPa
import Derived.Test.YtfphhlodfieopaaVd
namespace Go.Proofs.Ytfphhlodfieopaa
open Go.RowKit
open Fl Fr
open BigFrame

/-- The world while a pixel is made: the vignette at V, the frame at Q, the result at R. -/
abbrev vmS (w : World) (V Q R : Nat) (X Y I O D : Nat) (x y W H : Int) (b o n cap : Nat) (w' : World) : Prop :=
  Kept None' w w' ∧ w'.cell? ⟨V, 0, none⟩ = some (.float .f32 X) ∧ w'.cell? ⟨V, 1, none⟩ = some (.float .f32 Y) ∧ w'.cell? ⟨V, 2, none⟩ = some (.float .f32 I) ∧ w'.cell? ⟨V, 3, none⟩ = some (.float .f32 O) ∧ w'.cell? ⟨V, 4, none⟩ = some (.float .f32 D) ∧
  w'.cell? ⟨Q, 0, none⟩ = some (.int .i64 x) ∧ w'.cell? ⟨Q, 1, none⟩ = some (.int .i64 y) ∧ w'.cell? ⟨Q, 2, none⟩ = some (.int .i64 W) ∧ w'.cell? ⟨Q, 3, none⟩ = some (.int .i64 H) ∧ w'.cell? ⟨Q, 4, none⟩ = some (.slice (some ⟨b, o, none⟩) n cap) ∧
  w'.cell? ⟨R, 0, none⟩ = some (rd w' ⟨R, 0, none⟩) ∧ w'.cell? ⟨R, 1, none⟩ = some (rd w' ⟨R, 1, none⟩) ∧ w'.cell? ⟨R, 2, none⟩ = some (rd w' ⟨R, 2, none⟩) ∧ w'.cell? ⟨R, 3, none⟩ = some (rd w' ⟨R, 3, none⟩) ∧
  w'.frozen? ⟨R, 0, none⟩ = false ∧ w'.frozen? ⟨R, 1, none⟩ = false ∧ w'.frozen? ⟨R, 2, none⟩ = false ∧ w'.frozen? ⟨R, 3, none⟩ = false
theorem vmS.kept {w : World} {V Q R X Y I O D : Nat} {x y W H : Int} {b o n cap : Nat} {w' w'' : World} (h : vmS w V Q R X Y I O D x y W H b o n cap w') (k : Kept None' w' w'') : vmS w V Q R X Y I O D x y W H b o n cap w'' := by
  obtain ⟨h0, a0, a1, a2, a3, a4, b0, b1, b2, b3, b4, r0, r1, r2, r3, f0, f1, f2, f3⟩ := h
  exact ⟨h0.trans k, k.some a0 id, k.some a1 id, k.some a2 id, k.some a3 id, k.some a4 id, k.some b0 id, k.some b1 id, k.some b2 id, k.some b3 id, k.some b4 id,
    rd_of (k.some r0 id), rd_of (k.some r1 id), rd_of (k.some r2 id), rd_of (k.some r3 id), (k.frozen _).trans f0, (k.frozen _).trans f1, (k.frozen _).trans f2, (k.frozen _).trans f3⟩
theorem rd_set {w : World} {R j c : Nat} {v : Value} {u : Value} (h : w.cell? ⟨R, c, none⟩ = some u) : (w.setCell ⟨R, j, none⟩ v).cell? ⟨R, c, none⟩ = some (rd (w.setCell ⟨R, j, none⟩ v) ⟨R, c, none⟩) := by
  by_cases e : j = c
  · subst e; exact rd_of (cell_set_eq h)
  · exact rd_of (cell_set_ne h (Or.inr e))
theorem vmS.set {w : World} {V Q R X Y I O D : Nat} {x y W H : Int} {b o n cap : Nat} {w' : World} (h : vmS w V Q R X Y I O D x y W H b o n cap w') (hV : V ≠ R) (hQ : Q ≠ R) (hR : w.heap.size ≤ R) (j : Nat) (v : Value) : vmS w V Q R X Y I O D x y W H b o n cap (w'.setCell ⟨R, j, none⟩ v) := by
  obtain ⟨h0, a0, a1, a2, a3, a4, b0, b1, b2, b3, b4, r0, r1, r2, r3, f0, f1, f2, f3⟩ := h
  have e1 := Or.inl (b := j ≠ j) (Ne.symm hV)
  exact ⟨h0.setCell (Or.inl hR) _, cell_set_ne a0 (Or.inl hV.symm), cell_set_ne a1 (Or.inl hV.symm), cell_set_ne a2 (Or.inl hV.symm), cell_set_ne a3 (Or.inl hV.symm), cell_set_ne a4 (Or.inl hV.symm),
    cell_set_ne b0 (Or.inl hQ.symm), cell_set_ne b1 (Or.inl hQ.symm), cell_set_ne b2 (Or.inl hQ.symm), cell_set_ne b3 (Or.inl hQ.symm), cell_set_ne b4 (Or.inl hQ.symm),
    rd_set r0, rd_set r1, rd_set r2, rd_set r3, (World.frozen?_setCell ..).trans f0, (World.frozen?_setCell ..).trans f1, (World.frozen?_setCell ..).trans f2, (World.frozen?_setCell ..).trans f3⟩

def vmF (X Y I O D : Nat) (x y W : Int) (z : Nat → Nat) (px py : Int) (c : Nat) : Nat := vgF X Y I O D px py (fun c => z (4 * ((py - y) * W + px - x).toNat + c)) c

def FrB (x y W H : Int) (A : Option Addr) (n cap Q : Nat) (w : World) : Prop := w.cell? ⟨Q, 0, none⟩ = some (.int .i64 x) ∧ w.cell? ⟨Q, 1, none⟩ = some (.int .i64 y) ∧ w.cell? ⟨Q, 2, none⟩ = some (.int .i64 W) ∧ w.cell? ⟨Q, 3, none⟩ = some (.int .i64 H) ∧ w.cell? ⟨Q, 4, none⟩ = some (.slice A n cap)
theorem FrB.kept {x y W H : Int} {A : Option Addr} {n cap Q : Nat} {w w' : World} (h : FrB x y W H A n cap Q w) (k : Kept None' w w') : FrB x y W H A n cap Q w' := ⟨k.some h.1 id, k.some h.2.1 id, k.some h.2.2.1 id, k.some h.2.2.2.1 id, k.some h.2.2.2.2 id⟩

set_option linter.unusedSimpArgs false in
set_option linter.unusedVariables false in
set_option maxHeartbeats 4000000 in
set_option maxRecDepth 100000 in
theorem vm1_any (x y W H px py : Int) (b o n cap q V Q : Nat) (z : Nat → Nat) (X Y I O D : Nat) (w : World) (hE : regE x y W H = 0) (hn : n ≤ cap) (hn6 : n ≤ 65536) (hc : ∀ i, i < n → w.cell? ⟨b, o + i, none⟩ = some (.float .f32 (z i)))
    (hX : isN X = true) (hY : isN Y = true) (hI : isN I = true) (hO : isN O = true) (hV : VgB X Y I O D V w) (hQ : FrB x y W H (some ⟨b, o, none⟩) n cap Q w)
    (x1 : x ≤ px) (x2 : px < x + W) (y1 : y ≤ py) (y2 : py < y + H) (hq : (q : Int) = 4 * ((py - y) * W + px - x)) (hqn : q + 4 ≤ n) :
    Calls Try.prog 54 #[.int .i64 px, .int .i64 py, .pointer (some ⟨V, 0, none⟩), .pointer (some ⟨Q, 0, none⟩)] w fun e w' =>
      e = .returned (.agg #[.float .f32 (fC .mul .f32 (z q) (dkM X Y I O D px py)), .float .f32 (fC .mul .f32 (z (q + 1)) (dkM X Y I O D px py)), .float .f32 (fC .mul .f32 (z (q + 2)) (dkM X Y I O D px py)), .float .f32 (cl .f32 (z (q + 3)))]) ∧ Kept None' w w' := by
  obtain ⟨bx1, bx2, by1, by2⟩ := regE_place hE
  obtain ⟨w1', w2', w3', w4', w5'⟩ := regE_ok hE
  have b1 : -1048576 ≤ px := by omega
  have b2 : px ≤ 1048576 := by omega
  have b3 : -1048576 ≤ py := by omega
  have b4 : py ≤ 1048576 := by omega
  have HC := Lib.hid hc
  have HQ := Lib.hid hq
  have hVl := cell_lt hV.1
  have hQl := cell_lt hQ.1
  clear hc hq bx1 bx2 by1 by2 w1' w2' w3' w4' w5'
  go_enter Try.func54, Try.ntmps54
  go_wp2_with fail
  refine of_world (fun W0 hW => ?_)
  have k0 : Kept None' w W0 := by rw [hW]; exact (Kept.refl None' w).alloc _ _
  have hS : vmS w V Q w.heap.size X Y I O D x y W H b o n cap W0 := ⟨k0, k0.some hV.1 id, k0.some hV.2.1 id, k0.some hV.2.2.1 id, k0.some hV.2.2.2.1 id, k0.some hV.2.2.2.2 id,
    k0.some hQ.1 id, k0.some hQ.2.1 id, k0.some hQ.2.2.1 id, k0.some hQ.2.2.2.1 id, k0.some hQ.2.2.2.2 id,
    rd_of (by rw [hW]; exact cell_alloc_one w _ _ 0), rd_of (by rw [hW]; exact cell_alloc_one w _ _ 1), rd_of (by rw [hW]; exact cell_alloc_one w _ _ 2), rd_of (by rw [hW]; exact cell_alloc_one w _ _ 3),
    by rw [hW]; exact (frozen?_alloc_cells _ _ _ _).trans (frozen_new _ _ (Nat.le_refl _)), by rw [hW]; exact (frozen?_alloc_cells _ _ _ _).trans (frozen_new _ _ (Nat.le_refl _)), by rw [hW]; exact (frozen?_alloc_cells _ _ _ _).trans (frozen_new _ _ (Nat.le_refl _)), by rw [hW]; exact (frozen?_alloc_cells _ _ _ _).trans (frozen_new _ _ (Nat.le_refl _))⟩
  have hVn : V ≠ w.heap.size := by omega
  have hQn : Q ≠ w.heap.size := by omega
  have HS := Lib.hid hS
  clear hW k0 hS hV hQ
  go_region_held3 (fun w' => Kept None' w w' ∧ w'.cell? ⟨V, 0, none⟩ = some (.float .f32 X) ∧ w'.cell? ⟨V, 1, none⟩ = some (.float .f32 Y) ∧ w'.cell? ⟨V, 2, none⟩ = some (.float .f32 I) ∧ w'.cell? ⟨V, 3, none⟩ = some (.float .f32 O) ∧ w'.cell? ⟨V, 4, none⟩ = some (.float .f32 D) ∧
      w'.cell? ⟨Q, 0, none⟩ = some (.int .i64 x) ∧ w'.cell? ⟨Q, 1, none⟩ = some (.int .i64 y) ∧ w'.cell? ⟨Q, 2, none⟩ = some (.int .i64 W) ∧ w'.cell? ⟨Q, 3, none⟩ = some (.int .i64 H) ∧ w'.cell? ⟨Q, 4, none⟩ = some (.slice (some ⟨b, o, none⟩) n cap) ∧
      w'.cell? ⟨w.heap.size, 0, none⟩ = some (rd w' ⟨w.heap.size, 0, none⟩) ∧ w'.cell? ⟨w.heap.size, 1, none⟩ = some (rd w' ⟨w.heap.size, 1, none⟩) ∧ w'.cell? ⟨w.heap.size, 2, none⟩ = some (rd w' ⟨w.heap.size, 2, none⟩) ∧ w'.cell? ⟨w.heap.size, 3, none⟩ = some (rd w' ⟨w.heap.size, 3, none⟩) ∧
      w'.frozen? ⟨w.heap.size, 0, none⟩ = false ∧ w'.frozen? ⟨w.heap.size, 1, none⟩ = false ∧ w'.frozen? ⟨w.heap.size, 2, none⟩ = false ∧ w'.frozen? ⟨w.heap.size, 3, none⟩ = false)
    (first
      | with_reducible exact HS.out.kept (kept_drew1 _)
      | with_reducible exact vmS.kept (by assumption) (by assumption)
      | with_reducible exact vmS.set (vmS.set (vmS.set (vmS.set (by assumption) hVn hQn (Nat.le_refl _) _ _) hVn hQn (Nat.le_refl _) _ _) hVn hQn (Nat.le_refl _) _ _) hVn hQn (Nat.le_refl _) _ _)
    (first
      | (go_simp; go_at_call 35; refine (pixelat_any x y W H px py b o n cap q z _ hE hn hn6 (fun i hi => Kept.some (And.left ‹_ ∧ _›) (HC.out i hi) id) x1 x2 y1 y2 HQ.out hqn).mono ?_; rintro e w' ⟨rfl, hk⟩)
      | (go_simp; go_at_call 55; refine (darkof_any X Y I O D px py _ _ _ _ _ hX hY hI hO b1 b2 b3 b4).mono ?_; rintro e w' ⟨rfl, hk⟩))
  rename_i wa ka hh
  obtain ⟨h0, -, -, -, -, -, -, -, -, -, -, r0, r1, r2, r3, -, -, -, -⟩ := HS.out.kept (((kept_drew1 _).trans ka).trans hk)
  clear hh
  go_wp2_with fail
  have cs := cells_set4 (v0 := .float .f32 (fC .mul .f32 (z q) (dkM X Y I O D px py))) (v1 := .float .f32 (fC .mul .f32 (z (q + 1)) (dkM X Y I O D px py))) (v2 := .float .f32 (fC .mul .f32 (z (q + 2)) (dkM X Y I O D px py))) (v3 := .float .f32 (cl .f32 (z (q + 3)))) r0 r1 r2 r3
  refine bodyPost_ret (px_ret Try.results54 _ _ w.heap.size _ _ _ _ cs.1 cs.2.1 cs.2.2.1 cs.2.2.2 rfl) rfl ?_
  exact ⟨rfl, kept_set4 h0 (Nat.le_refl _)⟩

theorem pix_in {x y W H px py : Int} {n : Nat} (hE : regE x y W H = 0) (hn : (n : Int) = 4 * W * H) (x1 : x ≤ px) (x2 : px < x + W) (y1 : y ≤ py) (y2 : py < y + H) :
    ((4 * ((py - y) * W + px - x).toNat : Nat) : Int) = 4 * ((py - y) * W + px - x) ∧ 4 * ((py - y) * W + px - x).toNat + 4 ≤ n := by
  obtain ⟨w1, w2, w3, w4, w5⟩ := regE_ok hE
  have h1 : 0 ≤ (py - y) * W := Int.mul_nonneg (by omega) (by omega)
  have h2 : (py - y) * W ≤ (H - 1) * W := Int.mul_le_mul_of_nonneg_right (by omega) (by omega)
  have h3 : (H - 1) * W = W * H - W := by rw [Int.sub_mul, Int.one_mul, Int.mul_comm]
  have h4 : 4 * W * H = 4 * (W * H) := Int.mul_assoc ..
  generalize (py - y) * W = T at *
  generalize W * H = U at *
  generalize (H - 1) * W = U2 at *
  omega

theorem vm_mades (x y W H : Int) (b o n cap V Q : Nat) (z : Nat → Nat) (X Y I O D : Nat) (w : World) (hE : regE x y W H = 0) (hn4 : (n : Int) = 4 * W * H) (hn : n ≤ cap) (hn6 : n ≤ 65536) (hc : ∀ i, i < n → w.cell? ⟨b, o + i, none⟩ = some (.float .f32 (z i)))
    (hX : isN X = true) (hY : isN Y = true) (hI : isN I = true) (hO : isN O = true) (hV : VgB X Y I O D V w) (hQ : FrB x y W H (some ⟨b, o, none⟩) n cap Q w) :
    Mades 54 #[.pointer (some ⟨V, 0, none⟩), .pointer (some ⟨Q, 0, none⟩)] (vmF X Y I O D x y W z) x y W H w := fun px py wr hk x1 x2 y1 y2 =>
  (vm1_any x y W H px py b o n cap _ V Q z X Y I O D wr hE hn hn6 (fun i hi => hk.some (hc i hi) id) hX hY hI hO (hV.kept hk) (hQ.kept hk) x1 x2 y1 y2 (pix_in hE hn4 x1 x2 y1 y2).1 (pix_in hE hn4 x1 x2 y1 y2).2).mono
    fun _ _ ⟨a, b⟩ => ⟨vmF X Y I O D x y W z px py, a, fun c _ => cl_vgF X Y I O D px py _ c, b⟩

theorem vm_same (X Y I O D : Nat) (x y : Int) (W : Nat) (z : Nat → Nat) (j : Nat) : madeG (vmF X Y I O D x y W z) x y W j = mapG (vgF X Y I O D) x y W z j := by
  unfold madeG mapG vmF
  have h : ((y + ((j / 4 : Nat) : Int) / (W : Int) - y) * (W : Int) + (x + ((j / 4 : Nat) : Int) % (W : Int)) - x).toNat = j / 4 := by
    have h1 := Int.mul_ediv_add_emod ((j / 4 : Nat) : Int) (W : Int)
    rw [Int.mul_comm] at h1
    have h2 : y + ((j / 4 : Nat) : Int) / (W : Int) - y = ((j / 4 : Nat) : Int) / (W : Int) := by omega
    rw [h2]
    generalize ((j / 4 : Nat) : Int) / (W : Int) * (W : Int) = T at *
    generalize ((j / 4 : Nat) : Int) % (W : Int) = U at *
    omega
  rw [h]
end Go.Proofs.Ytfphhlodfieopaa
