/- Contracts of Vignette and its function. Conditions: none. -/
import Derived.Test.YtfphhlodfieopaaVu
namespace Go.Proofs.Ytfphhlodfieopaa
open Go.RowKit
open Fl Fr
open BigFrame

def vgF (X Y I O D : Nat) (px py : Int) (p : Nat → Nat) (c : Nat) : Nat := if c = 3 then cl .f32 (p 3) else fC .mul .f32 (p c) (dkM X Y I O D px py)
def VgB (X Y I O D V : Nat) (w : World) : Prop := w.cell? ⟨V, 0, none⟩ = some (.float .f32 X) ∧ w.cell? ⟨V, 1, none⟩ = some (.float .f32 Y) ∧ w.cell? ⟨V, 2, none⟩ = some (.float .f32 I) ∧ w.cell? ⟨V, 3, none⟩ = some (.float .f32 O) ∧ w.cell? ⟨V, 4, none⟩ = some (.float .f32 D)
theorem VgB.kept {X Y I O D V : Nat} {w w' : World} (h : VgB X Y I O D V w) (k : Kept None' w w') : VgB X Y I O D V w' := ⟨k.some h.1 id, k.some h.2.1 id, k.some h.2.2.1 id, k.some h.2.2.2.1 id, k.some h.2.2.2.2 id⟩

set_option maxHeartbeats 1000000 in
theorem vigf_any (X Y I O D V : Nat) (px py : Int) (p : Nat → Nat) (w : World) (hX : isN X = true) (hY : isN Y = true) (hI : isN I = true) (hO : isN O = true) (hV : VgB X Y I O D V w) (x1 : -1048576 ≤ px) (x2 : px ≤ 1048576) (y1 : -1048576 ≤ py) (y2 : py ≤ 1048576) :
    Calls Try.prog 93 #[.int .i64 px, .int .i64 py, .agg #[.float .f32 (p 0), .float .f32 (p 1), .float .f32 (p 2), .float .f32 (p 3)], .pointer (some ⟨V, 0, none⟩)] w fun e w' =>
      e = .returned (.agg #[.float .f32 (vgF X Y I O D px py p 0), .float .f32 (vgF X Y I O D px py p 1), .float .f32 (vgF X Y I O D px py p 2), .float .f32 (vgF X Y I O D px py p 3)]) ∧ Kept None' w w' := by
  obtain ⟨v0, v1, v2, v3, v4⟩ := hV
  have a0 : ∀ c1 t1 c2 t2, ((w.alloc (.cells c1 t1)).alloc (.cells c2 t2)).cell? ⟨V, 0, none⟩ = some (.float .f32 X) := fun _ _ _ _ => (((Kept.refl None' w).alloc _ _).alloc _ _).some v0 id
  have a1 : ∀ c1 t1 c2 t2, ((w.alloc (.cells c1 t1)).alloc (.cells c2 t2)).cell? ⟨V, 1, none⟩ = some (.float .f32 Y) := fun _ _ _ _ => (((Kept.refl None' w).alloc _ _).alloc _ _).some v1 id
  have a2 : ∀ c1 t1 c2 t2, ((w.alloc (.cells c1 t1)).alloc (.cells c2 t2)).cell? ⟨V, 2, none⟩ = some (.float .f32 I) := fun _ _ _ _ => (((Kept.refl None' w).alloc _ _).alloc _ _).some v2 id
  have a3 : ∀ c1 t1 c2 t2, ((w.alloc (.cells c1 t1)).alloc (.cells c2 t2)).cell? ⟨V, 3, none⟩ = some (.float .f32 O) := fun _ _ _ _ => (((Kept.refl None' w).alloc _ _).alloc _ _).some v3 id
  have a4 : ∀ c1 t1 c2 t2, ((w.alloc (.cells c1 t1)).alloc (.cells c2 t2)).cell? ⟨V, 4, none⟩ = some (.float .f32 D) := fun _ _ _ _ => (((Kept.refl None' w).alloc _ _).alloc _ _).some v4 id
  go_enter Try.func93, Try.ntmps93
  go_wp2_with (first
    | (go_at_call 94; refine (vignetted_any X Y I O D px py _ _ _ _ _ hX hY hI hO x1 x2 y1 y2).mono ?_
       rintro e w1 ⟨rfl, hk1⟩
       have s0 : w1.cell? ⟨w.heap.size + 1, 0, none⟩ = some (.float .f32 0) := hk1.some (by go_simp) id
       have s1 : w1.cell? ⟨w.heap.size + 1, 1, none⟩ = some (.float .f32 0) := hk1.some (by go_simp) id
       have s2 : w1.cell? ⟨w.heap.size + 1, 2, none⟩ = some (.float .f32 0) := hk1.some (by go_simp) id
       have s3 : w1.cell? ⟨w.heap.size + 1, 3, none⟩ = some (.float .f32 0) := hk1.some (by go_simp) id
       have z1 : ∀ a : Addr, w.heap.size ≤ a.block → w1.frozen? a = false := fun a ha => (hk1.frozen a).trans ((frozen?_alloc_cells _ _ _ _).trans ((frozen?_alloc_cells _ _ _ _).trans (frozen_new _ _ ha)))
       have f0 := z1 ⟨w.heap.size + 1, 0, none⟩ (by simp)
       have f1 := z1 ⟨w.heap.size + 1, 1, none⟩ (by simp)
       have f2 := z1 ⟨w.heap.size + 1, 2, none⟩ (by simp)
       have f3 := z1 ⟨w.heap.size + 1, 3, none⟩ (by simp)
       have K1 := Lib.hid ((((Kept.refl None' w).alloc _ _).alloc _ _).trans hk1)
       clear hk1 z1)
    | fail)
  have cs := cells_set4 (v0 := .float .f32 (fC .mul .f32 (p 0) (dkM X Y I O D px py))) (v1 := .float .f32 (fC .mul .f32 (p 1) (dkM X Y I O D px py))) (v2 := .float .f32 (fC .mul .f32 (p 2) (dkM X Y I O D px py))) (v3 := .float .f32 (cl .f32 (p 3))) s0 s1 s2 s3
  refine bodyPost_ret (px_ret Try.results93 _ _ (w.heap.size + 1) _ _ _ _ cs.1 cs.2.1 cs.2.2.1 cs.2.2.2 rfl) rfl ?_
  refine ⟨rfl, ?_⟩
  have kk := K1.out
  exact (((kk.setCell (Or.inl (by simp)) _).setCell (Or.inl (by simp)) _).setCell (Or.inl (by simp)) _).setCell (Or.inl (by simp)) _
theorem cl_vgF (X Y I O D : Nat) (px py : Int) (p : Nat → Nat) (c : Nat) : cl .f32 (vgF X Y I O D px py p c) = vgF X Y I O D px py p c := by
  unfold vgF
  split
  · exact cl_cl _ _
  · exact cl_fC _ _ _ _
theorem vig_maps (X Y I O D V : Nat) (w : World) (hX : isN X = true) (hY : isN Y = true) (hI : isN I = true) (hO : isN O = true) (hV : VgB X Y I O D V w) :
    Maps 93 #[.pointer (some ⟨V, 0, none⟩)] (vgF X Y I O D) w := fun px py p wr hk x1 x2 y1 y2 =>
  (vigf_any X Y I O D V px py p wr hX hY hI hO (hV.kept hk) x1 x2 y1 y2).mono fun _ _ ⟨a, b⟩ => ⟨vgF X Y I O D px py p, a, fun c _ => cl_vgF X Y I O D px py p c, b⟩

set_option linter.unusedSimpArgs false in
set_option linter.unusedVariables false in
set_option maxHeartbeats 2000000 in
set_option maxRecDepth 100000 in
theorem vignette_e1 (x y W H : Int) (A : Option Addr) (n cap : Nat) (X Y I O D : Nat) (w : World) (E : Int) (hE : frE x y W H n = E) (h0 : ¬ E = 0) :
    Calls Try.prog 52 #[.agg #[.int .i64 x, .int .i64 y, .int .i64 W, .int .i64 H, .slice A n cap], .agg #[.float .f32 X, .float .f32 Y, .float .f32 I, .float .f32 O, .float .f32 D]] w (ErrPost E w) := by
  have hb : (E != 0) = true := by simp [h0]
  go_enter Try.func52, Try.ntmps52
  go_wp2_with (first
    | (go_at_call 76; refine (check_any _ _ _ _ _ _ _ _).mono ?_; rw [hE]; rintro e w1 ⟨rfl, hk1⟩
       have s0 : w1.cell? ⟨w.heap.size + 1 + 1, 0, none⟩ = some (.int .i64 0) := hk1.some (by go_simp) id
       have s1 : w1.cell? ⟨w.heap.size + 1 + 1, 1, none⟩ = some (.int .i64 0) := hk1.some (by go_simp) id
       have s2 : w1.cell? ⟨w.heap.size + 1 + 1, 2, none⟩ = some (.int .i64 0) := hk1.some (by go_simp) id
       have s3 : w1.cell? ⟨w.heap.size + 1 + 1, 3, none⟩ = some (.int .i64 0) := hk1.some (by go_simp) id
       have s4 : w1.cell? ⟨w.heap.size + 1 + 1, 4, none⟩ = some (.slice none 0 0) := hk1.some (by go_simp) id
       have v0 : w1.cell? ⟨w.heap.size + 1, 0, none⟩ = some (.float .f32 X) := hk1.some (by go_simp) id
       have v1 : w1.cell? ⟨w.heap.size + 1, 1, none⟩ = some (.float .f32 Y) := hk1.some (by go_simp) id
       have v2 : w1.cell? ⟨w.heap.size + 1, 2, none⟩ = some (.float .f32 I) := hk1.some (by go_simp) id
       have v3 : w1.cell? ⟨w.heap.size + 1, 3, none⟩ = some (.float .f32 O) := hk1.some (by go_simp) id
       have v4 : w1.cell? ⟨w.heap.size + 1, 4, none⟩ = some (.float .f32 D) := hk1.some (by go_simp) id
       have r0 : w1.cell? ⟨w.heap.size, 0, none⟩ = some (.int .i64 x) := hk1.some (by go_simp) id
       have r1 : w1.cell? ⟨w.heap.size, 1, none⟩ = some (.int .i64 y) := hk1.some (by go_simp) id
       have r2 : w1.cell? ⟨w.heap.size, 2, none⟩ = some (.int .i64 W) := hk1.some (by go_simp) id
       have r3 : w1.cell? ⟨w.heap.size, 3, none⟩ = some (.int .i64 H) := hk1.some (by go_simp) id
       have r4 : w1.cell? ⟨w.heap.size, 4, none⟩ = some (.slice A n cap) := hk1.some (by go_simp) id
       have z1 : ∀ a : Addr, w.heap.size ≤ a.block → w1.frozen? a = false := fun a ha => (hk1.frozen a).trans ((frozen?_alloc_cells _ _ _ _).trans ((frozen?_alloc_cells _ _ _ _).trans ((frozen?_alloc_cells _ _ _ _).trans (frozen_new _ _ ha))))
       have f0 := z1 ⟨w.heap.size + 1 + 1, 0, none⟩ (by simp; omega)
       have f1 := z1 ⟨w.heap.size + 1 + 1, 1, none⟩ (by simp; omega)
       have f2 := z1 ⟨w.heap.size + 1 + 1, 2, none⟩ (by simp; omega)
       have f3 := z1 ⟨w.heap.size + 1 + 1, 3, none⟩ (by simp; omega)
       have f4 := z1 ⟨w.heap.size + 1 + 1, 4, none⟩ (by simp; omega)
       have L1 := cell_lt s0
       have K1 := Lib.hid (((((Kept.refl None' w).alloc _ _).alloc _ _).alloc _ _).trans hk1)
       clear hk1 z1)
    | fail
    | fail)
  all_goals
    refine bodyPost_ret (fr_ret2 Try.results52 _ _ (w.heap.size + 1 + 1) _ _ _ _ _ (cells_set5 s0 s1 s2 s3 s4) rfl) rfl ?_
    exact ⟨rfl, kept_set5 (by first | exact K1.out | exact K2.out) (by omega)⟩
set_option linter.unusedSimpArgs false in
set_option linter.unusedVariables false in
set_option maxHeartbeats 2000000 in
set_option maxRecDepth 100000 in
theorem vignette_e2 (x y W H : Int) (A : Option Addr) (n cap : Nat) (X Y I O D : Nat) (w : World) (hE : frE x y W H n = 0) (hN : (isN X && (isN Y && (isN I && (isN O && isN D)))) = false) :
    Calls Try.prog 52 #[.agg #[.int .i64 x, .int .i64 y, .int .i64 W, .int .i64 H, .slice A n cap], .agg #[.float .f32 X, .float .f32 Y, .float .f32 I, .float .f32 O, .float .f32 D]] w (ErrPost 2 w) := by
  go_enter Try.func52, Try.ntmps52
  go_wp2_with (first
    | (go_at_call 76; refine (check_any _ _ _ _ _ _ _ _).mono ?_; rw [hE]; rintro e w1 ⟨rfl, hk1⟩
       have s0 : w1.cell? ⟨w.heap.size + 1 + 1, 0, none⟩ = some (.int .i64 0) := hk1.some (by go_simp) id
       have s1 : w1.cell? ⟨w.heap.size + 1 + 1, 1, none⟩ = some (.int .i64 0) := hk1.some (by go_simp) id
       have s2 : w1.cell? ⟨w.heap.size + 1 + 1, 2, none⟩ = some (.int .i64 0) := hk1.some (by go_simp) id
       have s3 : w1.cell? ⟨w.heap.size + 1 + 1, 3, none⟩ = some (.int .i64 0) := hk1.some (by go_simp) id
       have s4 : w1.cell? ⟨w.heap.size + 1 + 1, 4, none⟩ = some (.slice none 0 0) := hk1.some (by go_simp) id
       have v0 : w1.cell? ⟨w.heap.size + 1, 0, none⟩ = some (.float .f32 X) := hk1.some (by go_simp) id
       have v1 : w1.cell? ⟨w.heap.size + 1, 1, none⟩ = some (.float .f32 Y) := hk1.some (by go_simp) id
       have v2 : w1.cell? ⟨w.heap.size + 1, 2, none⟩ = some (.float .f32 I) := hk1.some (by go_simp) id
       have v3 : w1.cell? ⟨w.heap.size + 1, 3, none⟩ = some (.float .f32 O) := hk1.some (by go_simp) id
       have v4 : w1.cell? ⟨w.heap.size + 1, 4, none⟩ = some (.float .f32 D) := hk1.some (by go_simp) id
       have r0 : w1.cell? ⟨w.heap.size, 0, none⟩ = some (.int .i64 x) := hk1.some (by go_simp) id
       have r1 : w1.cell? ⟨w.heap.size, 1, none⟩ = some (.int .i64 y) := hk1.some (by go_simp) id
       have r2 : w1.cell? ⟨w.heap.size, 2, none⟩ = some (.int .i64 W) := hk1.some (by go_simp) id
       have r3 : w1.cell? ⟨w.heap.size, 3, none⟩ = some (.int .i64 H) := hk1.some (by go_simp) id
       have r4 : w1.cell? ⟨w.heap.size, 4, none⟩ = some (.slice A n cap) := hk1.some (by go_simp) id
       have z1 : ∀ a : Addr, w.heap.size ≤ a.block → w1.frozen? a = false := fun a ha => (hk1.frozen a).trans ((frozen?_alloc_cells _ _ _ _).trans ((frozen?_alloc_cells _ _ _ _).trans ((frozen?_alloc_cells _ _ _ _).trans (frozen_new _ _ ha))))
       have f0 := z1 ⟨w.heap.size + 1 + 1, 0, none⟩ (by simp; omega)
       have f1 := z1 ⟨w.heap.size + 1 + 1, 1, none⟩ (by simp; omega)
       have f2 := z1 ⟨w.heap.size + 1 + 1, 2, none⟩ (by simp; omega)
       have f3 := z1 ⟨w.heap.size + 1 + 1, 3, none⟩ (by simp; omega)
       have f4 := z1 ⟨w.heap.size + 1 + 1, 4, none⟩ (by simp; omega)
       have L1 := cell_lt s0
       have K1 := Lib.hid (((((Kept.refl None' w).alloc _ _).alloc _ _).alloc _ _).trans hk1)
       clear hk1 z1)
    | (go_at_call 65; refine (allnum5_any _ _ X Y I O D _ (by go_simp) (by go_simp) (by go_simp) (by go_simp) (by go_simp)).mono ?_; rw [hN]; rintro e w2 ⟨rfl, hw2⟩
       have k2 : Kept None' w1 w2 := by rw [← hw2]; exact (Kept.refl _ _).alloc _ _
       have s0 := k2.some s0 id
       have s1 := k2.some s1 id
       have s2 := k2.some s2 id
       have s3 := k2.some s3 id
       have s4 := k2.some s4 id
       have v2 := k2.some v2 id
       have v3 := k2.some v3 id
       have v4 := k2.some v4 id
       have r0 := k2.some r0 id
       have r1 := k2.some r1 id
       have r2 := k2.some r2 id
       have r3 := k2.some r3 id
       have r4 := k2.some r4 id
       have f0 := (k2.frozen _).trans f0
       have f1 := (k2.frozen _).trans f1
       have f2 := (k2.frozen _).trans f2
       have f3 := (k2.frozen _).trans f3
       have f4 := (k2.frozen _).trans f4
       have K2 := Lib.hid (K1.out.trans k2)
       clear hw2 k2)
    | fail)
  all_goals
    refine bodyPost_ret (fr_ret2 Try.results52 _ _ (w.heap.size + 1 + 1) _ _ _ _ _ (cells_set5 s0 s1 s2 s3 s4) rfl) rfl ?_
    exact ⟨rfl, kept_set5 (by first | exact K1.out | exact K2.out) (by omega)⟩
set_option linter.unusedSimpArgs false in
set_option linter.unusedVariables false in
set_option maxHeartbeats 2000000 in
set_option maxRecDepth 100000 in
theorem vignette_e3 (x y W H : Int) (A : Option Addr) (n cap : Nat) (X Y I O D : Nat) (w : World) (hE : frE x y W H n = 0) (hN : (isN X && (isN Y && (isN I && (isN O && isN D)))) = true) (hO : (FloatKind.f32.format.order O I == some .gt) = false) :
    Calls Try.prog 52 #[.agg #[.int .i64 x, .int .i64 y, .int .i64 W, .int .i64 H, .slice A n cap], .agg #[.float .f32 X, .float .f32 Y, .float .f32 I, .float .f32 O, .float .f32 D]] w (ErrPost 8 w) := by
  go_enter Try.func52, Try.ntmps52
  go_wp2_with (first
    | (go_at_call 76; refine (check_any _ _ _ _ _ _ _ _).mono ?_; rw [hE]; rintro e w1 ⟨rfl, hk1⟩
       have s0 : w1.cell? ⟨w.heap.size + 1 + 1, 0, none⟩ = some (.int .i64 0) := hk1.some (by go_simp) id
       have s1 : w1.cell? ⟨w.heap.size + 1 + 1, 1, none⟩ = some (.int .i64 0) := hk1.some (by go_simp) id
       have s2 : w1.cell? ⟨w.heap.size + 1 + 1, 2, none⟩ = some (.int .i64 0) := hk1.some (by go_simp) id
       have s3 : w1.cell? ⟨w.heap.size + 1 + 1, 3, none⟩ = some (.int .i64 0) := hk1.some (by go_simp) id
       have s4 : w1.cell? ⟨w.heap.size + 1 + 1, 4, none⟩ = some (.slice none 0 0) := hk1.some (by go_simp) id
       have v0 : w1.cell? ⟨w.heap.size + 1, 0, none⟩ = some (.float .f32 X) := hk1.some (by go_simp) id
       have v1 : w1.cell? ⟨w.heap.size + 1, 1, none⟩ = some (.float .f32 Y) := hk1.some (by go_simp) id
       have v2 : w1.cell? ⟨w.heap.size + 1, 2, none⟩ = some (.float .f32 I) := hk1.some (by go_simp) id
       have v3 : w1.cell? ⟨w.heap.size + 1, 3, none⟩ = some (.float .f32 O) := hk1.some (by go_simp) id
       have v4 : w1.cell? ⟨w.heap.size + 1, 4, none⟩ = some (.float .f32 D) := hk1.some (by go_simp) id
       have r0 : w1.cell? ⟨w.heap.size, 0, none⟩ = some (.int .i64 x) := hk1.some (by go_simp) id
       have r1 : w1.cell? ⟨w.heap.size, 1, none⟩ = some (.int .i64 y) := hk1.some (by go_simp) id
       have r2 : w1.cell? ⟨w.heap.size, 2, none⟩ = some (.int .i64 W) := hk1.some (by go_simp) id
       have r3 : w1.cell? ⟨w.heap.size, 3, none⟩ = some (.int .i64 H) := hk1.some (by go_simp) id
       have r4 : w1.cell? ⟨w.heap.size, 4, none⟩ = some (.slice A n cap) := hk1.some (by go_simp) id
       have z1 : ∀ a : Addr, w.heap.size ≤ a.block → w1.frozen? a = false := fun a ha => (hk1.frozen a).trans ((frozen?_alloc_cells _ _ _ _).trans ((frozen?_alloc_cells _ _ _ _).trans ((frozen?_alloc_cells _ _ _ _).trans (frozen_new _ _ ha))))
       have f0 := z1 ⟨w.heap.size + 1 + 1, 0, none⟩ (by simp; omega)
       have f1 := z1 ⟨w.heap.size + 1 + 1, 1, none⟩ (by simp; omega)
       have f2 := z1 ⟨w.heap.size + 1 + 1, 2, none⟩ (by simp; omega)
       have f3 := z1 ⟨w.heap.size + 1 + 1, 3, none⟩ (by simp; omega)
       have f4 := z1 ⟨w.heap.size + 1 + 1, 4, none⟩ (by simp; omega)
       have L1 := cell_lt s0
       have K1 := Lib.hid (((((Kept.refl None' w).alloc _ _).alloc _ _).alloc _ _).trans hk1)
       clear hk1 z1)
    | (go_at_call 65; refine (allnum5_any _ _ X Y I O D _ (by go_simp) (by go_simp) (by go_simp) (by go_simp) (by go_simp)).mono ?_; rw [hN]; rintro e w2 ⟨rfl, hw2⟩
       have k2 : Kept None' w1 w2 := by rw [← hw2]; exact (Kept.refl _ _).alloc _ _
       have s0 := k2.some s0 id
       have s1 := k2.some s1 id
       have s2 := k2.some s2 id
       have s3 := k2.some s3 id
       have s4 := k2.some s4 id
       have v2 := k2.some v2 id
       have v3 := k2.some v3 id
       have v4 := k2.some v4 id
       have r0 := k2.some r0 id
       have r1 := k2.some r1 id
       have r2 := k2.some r2 id
       have r3 := k2.some r3 id
       have r4 := k2.some r4 id
       have f0 := (k2.frozen _).trans f0
       have f1 := (k2.frozen _).trans f1
       have f2 := (k2.frozen _).trans f2
       have f3 := (k2.frozen _).trans f3
       have f4 := (k2.frozen _).trans f4
       have K2 := Lib.hid (K1.out.trans k2)
       clear hw2 k2)
    | fail)
  all_goals
    refine bodyPost_ret (fr_ret2 Try.results52 _ _ (w.heap.size + 1 + 1) _ _ _ _ _ (cells_set5 s0 s1 s2 s3 s4) rfl) rfl ?_
    exact ⟨rfl, kept_set5 (by first | exact K1.out | exact K2.out) (by omega)⟩
set_option linter.unusedSimpArgs false in
set_option linter.unusedVariables false in
set_option maxHeartbeats 2000000 in
set_option maxRecDepth 100000 in
theorem vignette_e4 (x y W H : Int) (A : Option Addr) (n cap : Nat) (X Y I O D : Nat) (w : World) (hE : frE x y W H n = 0) (hN : (isN X && (isN Y && (isN I && (isN O && isN D)))) = true) (hO : (FloatKind.f32.format.order O I == some .gt) = true) (hl : (FloatKind.f32.format.order D 0 == some .lt) = true) :
    Calls Try.prog 52 #[.agg #[.int .i64 x, .int .i64 y, .int .i64 W, .int .i64 H, .slice A n cap], .agg #[.float .f32 X, .float .f32 Y, .float .f32 I, .float .f32 O, .float .f32 D]] w (ErrPost 3 w) := by
  go_enter Try.func52, Try.ntmps52
  go_wp2_with (first
    | (go_at_call 76; refine (check_any _ _ _ _ _ _ _ _).mono ?_; rw [hE]; rintro e w1 ⟨rfl, hk1⟩
       have s0 : w1.cell? ⟨w.heap.size + 1 + 1, 0, none⟩ = some (.int .i64 0) := hk1.some (by go_simp) id
       have s1 : w1.cell? ⟨w.heap.size + 1 + 1, 1, none⟩ = some (.int .i64 0) := hk1.some (by go_simp) id
       have s2 : w1.cell? ⟨w.heap.size + 1 + 1, 2, none⟩ = some (.int .i64 0) := hk1.some (by go_simp) id
       have s3 : w1.cell? ⟨w.heap.size + 1 + 1, 3, none⟩ = some (.int .i64 0) := hk1.some (by go_simp) id
       have s4 : w1.cell? ⟨w.heap.size + 1 + 1, 4, none⟩ = some (.slice none 0 0) := hk1.some (by go_simp) id
       have v0 : w1.cell? ⟨w.heap.size + 1, 0, none⟩ = some (.float .f32 X) := hk1.some (by go_simp) id
       have v1 : w1.cell? ⟨w.heap.size + 1, 1, none⟩ = some (.float .f32 Y) := hk1.some (by go_simp) id
       have v2 : w1.cell? ⟨w.heap.size + 1, 2, none⟩ = some (.float .f32 I) := hk1.some (by go_simp) id
       have v3 : w1.cell? ⟨w.heap.size + 1, 3, none⟩ = some (.float .f32 O) := hk1.some (by go_simp) id
       have v4 : w1.cell? ⟨w.heap.size + 1, 4, none⟩ = some (.float .f32 D) := hk1.some (by go_simp) id
       have r0 : w1.cell? ⟨w.heap.size, 0, none⟩ = some (.int .i64 x) := hk1.some (by go_simp) id
       have r1 : w1.cell? ⟨w.heap.size, 1, none⟩ = some (.int .i64 y) := hk1.some (by go_simp) id
       have r2 : w1.cell? ⟨w.heap.size, 2, none⟩ = some (.int .i64 W) := hk1.some (by go_simp) id
       have r3 : w1.cell? ⟨w.heap.size, 3, none⟩ = some (.int .i64 H) := hk1.some (by go_simp) id
       have r4 : w1.cell? ⟨w.heap.size, 4, none⟩ = some (.slice A n cap) := hk1.some (by go_simp) id
       have z1 : ∀ a : Addr, w.heap.size ≤ a.block → w1.frozen? a = false := fun a ha => (hk1.frozen a).trans ((frozen?_alloc_cells _ _ _ _).trans ((frozen?_alloc_cells _ _ _ _).trans ((frozen?_alloc_cells _ _ _ _).trans (frozen_new _ _ ha))))
       have f0 := z1 ⟨w.heap.size + 1 + 1, 0, none⟩ (by simp; omega)
       have f1 := z1 ⟨w.heap.size + 1 + 1, 1, none⟩ (by simp; omega)
       have f2 := z1 ⟨w.heap.size + 1 + 1, 2, none⟩ (by simp; omega)
       have f3 := z1 ⟨w.heap.size + 1 + 1, 3, none⟩ (by simp; omega)
       have f4 := z1 ⟨w.heap.size + 1 + 1, 4, none⟩ (by simp; omega)
       have L1 := cell_lt s0
       have K1 := Lib.hid (((((Kept.refl None' w).alloc _ _).alloc _ _).alloc _ _).trans hk1)
       clear hk1 z1)
    | (go_at_call 65; refine (allnum5_any _ _ X Y I O D _ (by go_simp) (by go_simp) (by go_simp) (by go_simp) (by go_simp)).mono ?_; rw [hN]; rintro e w2 ⟨rfl, hw2⟩
       have k2 : Kept None' w1 w2 := by rw [← hw2]; exact (Kept.refl _ _).alloc _ _
       have s0 := k2.some s0 id
       have s1 := k2.some s1 id
       have s2 := k2.some s2 id
       have s3 := k2.some s3 id
       have s4 := k2.some s4 id
       have v2 := k2.some v2 id
       have v3 := k2.some v3 id
       have v4 := k2.some v4 id
       have r0 := k2.some r0 id
       have r1 := k2.some r1 id
       have r2 := k2.some r2 id
       have r3 := k2.some r3 id
       have r4 := k2.some r4 id
       have f0 := (k2.frozen _).trans f0
       have f1 := (k2.frozen _).trans f1
       have f2 := (k2.frozen _).trans f2
       have f3 := (k2.frozen _).trans f3
       have f4 := (k2.frozen _).trans f4
       have K2 := Lib.hid (K1.out.trans k2)
       clear hw2 k2)
    | fail)
  all_goals
    refine bodyPost_ret (fr_ret2 Try.results52 _ _ (w.heap.size + 1 + 1) _ _ _ _ _ (cells_set5 s0 s1 s2 s3 s4) rfl) rfl ?_
    exact ⟨rfl, kept_set5 (by first | exact K1.out | exact K2.out) (by omega)⟩
set_option linter.unusedSimpArgs false in
set_option linter.unusedVariables false in
set_option maxHeartbeats 2000000 in
set_option maxRecDepth 100000 in
theorem vignette_e5 (x y W H : Int) (A : Option Addr) (n cap : Nat) (X Y I O D : Nat) (w : World) (hE : frE x y W H n = 0) (hN : (isN X && (isN Y && (isN I && (isN O && isN D)))) = true) (hO : (FloatKind.f32.format.order O I == some .gt) = true) (hl : (FloatKind.f32.format.order D 0 == some .lt) = false) (hg : (FloatKind.f32.format.order D 1065353216 == some .gt) = true) :
    Calls Try.prog 52 #[.agg #[.int .i64 x, .int .i64 y, .int .i64 W, .int .i64 H, .slice A n cap], .agg #[.float .f32 X, .float .f32 Y, .float .f32 I, .float .f32 O, .float .f32 D]] w (ErrPost 3 w) := by
  go_enter Try.func52, Try.ntmps52
  go_wp2_with (first
    | (go_at_call 76; refine (check_any _ _ _ _ _ _ _ _).mono ?_; rw [hE]; rintro e w1 ⟨rfl, hk1⟩
       have s0 : w1.cell? ⟨w.heap.size + 1 + 1, 0, none⟩ = some (.int .i64 0) := hk1.some (by go_simp) id
       have s1 : w1.cell? ⟨w.heap.size + 1 + 1, 1, none⟩ = some (.int .i64 0) := hk1.some (by go_simp) id
       have s2 : w1.cell? ⟨w.heap.size + 1 + 1, 2, none⟩ = some (.int .i64 0) := hk1.some (by go_simp) id
       have s3 : w1.cell? ⟨w.heap.size + 1 + 1, 3, none⟩ = some (.int .i64 0) := hk1.some (by go_simp) id
       have s4 : w1.cell? ⟨w.heap.size + 1 + 1, 4, none⟩ = some (.slice none 0 0) := hk1.some (by go_simp) id
       have v0 : w1.cell? ⟨w.heap.size + 1, 0, none⟩ = some (.float .f32 X) := hk1.some (by go_simp) id
       have v1 : w1.cell? ⟨w.heap.size + 1, 1, none⟩ = some (.float .f32 Y) := hk1.some (by go_simp) id
       have v2 : w1.cell? ⟨w.heap.size + 1, 2, none⟩ = some (.float .f32 I) := hk1.some (by go_simp) id
       have v3 : w1.cell? ⟨w.heap.size + 1, 3, none⟩ = some (.float .f32 O) := hk1.some (by go_simp) id
       have v4 : w1.cell? ⟨w.heap.size + 1, 4, none⟩ = some (.float .f32 D) := hk1.some (by go_simp) id
       have r0 : w1.cell? ⟨w.heap.size, 0, none⟩ = some (.int .i64 x) := hk1.some (by go_simp) id
       have r1 : w1.cell? ⟨w.heap.size, 1, none⟩ = some (.int .i64 y) := hk1.some (by go_simp) id
       have r2 : w1.cell? ⟨w.heap.size, 2, none⟩ = some (.int .i64 W) := hk1.some (by go_simp) id
       have r3 : w1.cell? ⟨w.heap.size, 3, none⟩ = some (.int .i64 H) := hk1.some (by go_simp) id
       have r4 : w1.cell? ⟨w.heap.size, 4, none⟩ = some (.slice A n cap) := hk1.some (by go_simp) id
       have z1 : ∀ a : Addr, w.heap.size ≤ a.block → w1.frozen? a = false := fun a ha => (hk1.frozen a).trans ((frozen?_alloc_cells _ _ _ _).trans ((frozen?_alloc_cells _ _ _ _).trans ((frozen?_alloc_cells _ _ _ _).trans (frozen_new _ _ ha))))
       have f0 := z1 ⟨w.heap.size + 1 + 1, 0, none⟩ (by simp; omega)
       have f1 := z1 ⟨w.heap.size + 1 + 1, 1, none⟩ (by simp; omega)
       have f2 := z1 ⟨w.heap.size + 1 + 1, 2, none⟩ (by simp; omega)
       have f3 := z1 ⟨w.heap.size + 1 + 1, 3, none⟩ (by simp; omega)
       have f4 := z1 ⟨w.heap.size + 1 + 1, 4, none⟩ (by simp; omega)
       have L1 := cell_lt s0
       have K1 := Lib.hid (((((Kept.refl None' w).alloc _ _).alloc _ _).alloc _ _).trans hk1)
       clear hk1 z1)
    | (go_at_call 65; refine (allnum5_any _ _ X Y I O D _ (by go_simp) (by go_simp) (by go_simp) (by go_simp) (by go_simp)).mono ?_; rw [hN]; rintro e w2 ⟨rfl, hw2⟩
       have k2 : Kept None' w1 w2 := by rw [← hw2]; exact (Kept.refl _ _).alloc _ _
       have s0 := k2.some s0 id
       have s1 := k2.some s1 id
       have s2 := k2.some s2 id
       have s3 := k2.some s3 id
       have s4 := k2.some s4 id
       have v2 := k2.some v2 id
       have v3 := k2.some v3 id
       have v4 := k2.some v4 id
       have r0 := k2.some r0 id
       have r1 := k2.some r1 id
       have r2 := k2.some r2 id
       have r3 := k2.some r3 id
       have r4 := k2.some r4 id
       have f0 := (k2.frozen _).trans f0
       have f1 := (k2.frozen _).trans f1
       have f2 := (k2.frozen _).trans f2
       have f3 := (k2.frozen _).trans f3
       have f4 := (k2.frozen _).trans f4
       have K2 := Lib.hid (K1.out.trans k2)
       clear hw2 k2)
    | fail)
  all_goals
    refine bodyPost_ret (fr_ret2 Try.results52 _ _ (w.heap.size + 1 + 1) _ _ _ _ _ (cells_set5 s0 s1 s2 s3 s4) rfl) rfl ?_
    exact ⟨rfl, kept_set5 (by first | exact K1.out | exact K2.out) (by omega)⟩
end Go.Proofs.Ytfphhlodfieopaa
