/- Contracts of frame.floorDiv and frame.Common. Conditions: none. -/
import Derived.Test.YtflmfjimemhooaaWg
namespace Go.Proofs.Ytflmfjimemhooaa
set_option linter.unusedVariables false
set_option linter.unusedSimpArgs false
open Go.RowKit
open Fl
open BigFrame

/-- The rest of a division rounded down. -/
def fmI (a b : Int) : Int := if a.tmod b < 0 then a.tmod b + b else a.tmod b
theorem fmI_bd {a b : Int} (hb : 1 ≤ b) : 0 ≤ fmI a b ∧ fmI a b < b := by
  have h1 := Int.tmod_lt_of_pos a (show 0 < b by omega)
  have h2 : -b < a.tmod b := by
    have := Int.tmod_lt_of_pos (-a) (show 0 < b by omega)
    rw [Int.neg_tmod] at this
    omega
  unfold fmI
  split <;> omega
def FdP (r : Int) (w : World) (e : Ending) (w' : World) : Prop := ∃ q : Int, e = .returned (.tuple #[.int .i64 q, .int .i64 r]) ∧ Kept None' w w'
set_option linter.unusedSimpArgs false in
set_option linter.unusedVariables false in
set_option maxHeartbeats 4000000 in
set_option maxRecDepth 100000 in
theorem floordiv_any (a b : Int) (w : World) (a0 : -1048576 ≤ a) (a1 : a ≤ 1048576) (hb : 1 ≤ b) (hb2 : b ≤ 256) : Calls Try.prog 45 #[.int .i64 a, .int .i64 b] w (FdP (fmI a b) w) := by
  have hf := fmI_bd (a := a) hb
  obtain ⟨r, hr⟩ : ∃ r, a.tmod b = r := ⟨_, rfl⟩
  obtain ⟨q, hq⟩ : ∃ q, IntKind.i64.wrap (a.tdiv b) = q := ⟨_, rfl⟩
  have h1 := Int.tmod_lt_of_pos a (show 0 < b by omega)
  have h2 : -b < a.tmod b := by
    have := Int.tmod_lt_of_pos (-a) (show 0 < b by omega)
    rw [Int.neg_tmod] at this
    omega
  rw [hr] at h1 h2
  have g2 : IntKind.i64.wrap r = r := IntWalk.i64_in _ (by omega)
  have hb0 : ¬ b = 0 := by omega
  have hb1 : (b == 0) = false := by simp; omega
  have HF : fmI a b = if r < 0 then r + b else r := by unfold fmI; rw [hr]
  rw [HF]
  have g3 : wrap64 r = r := by unfold wrap64; omega
  clear HF hf
  go_enter Try.func45, Try.ntmps45
  go_upto_region 1 with fail
  refine region_ext (by kernel_rfl) (by kernel_rfl) ?_
  repeat (first
    | go_big_quiet_skip
    | (go_big_quiet_want; go_big_quiet_op; first | go_big_quiet_on | go_big_quiet_call (first
      | (fail))))
  refine wpQuiet_nil ?_
  rintro _ ⟨xq, rfl⟩
  have kx := ext_kept w xq
  have K1 := Lib.hid kx
  clear kx
  generalize ext w xq = W1 at *
  clear hr hq g2 g3
  by_cases h0 : r < 0
  · have d1 : decide (r < 0) = true := decide_eq_true h0
    rw [if_pos h0]
    go_wp2_with fail
    go_ret2
    exact ⟨_, rfl, K1.out⟩
  · have d1 : decide (r < 0) = false := decide_eq_false h0
    rw [if_neg h0]
    go_wp2_with fail
    go_ret2
    exact ⟨_, rfl, K1.out⟩

/-- What two regions have in common. -/
def cmX (x X : Int) : Int := if x < X then X else x
def cmW (x W X s : Int) : Int := (if X + s < x + W then X + s else x + W) - (if x < X then X else x)
def cmB (x y W H X Y s : Int) : Bool := decide (1 ≤ cmW x W X s) && decide (1 ≤ cmW y H Y s)
/-- A region's four numbers. -/
def cmV (x y W H X Y s : Int) (c : Nat) : Int := if c = 0 then cmX x X else if c = 1 then cmX y Y else if c = 2 then cmW x W X s else cmW y H Y s
def CmP (b : Bool) (v : Nat → Int) (w : World) (e : Ending) (w' : World) : Prop := e = .returned (.tuple #[if b then .agg #[.int .i64 (v 0), .int .i64 (v 1), .int .i64 (v 2), .int .i64 (v 3)] else .agg #[.int .i64 0, .int .i64 0, .int .i64 0, .int .i64 0], .bool b]) ∧ Kept None' w w'
theorem rg_ret2 {fn : Func} {t u : Tmp} (hr : fn.results = #[.cell t 23, .tmp u]) (W : World) (tmps : Array Value) (B : Nat) (v0 v1 v2 v3 : Value) (h : W.cell? ⟨B, 0, none⟩ = some v0 ∧ W.cell? ⟨B, 1, none⟩ = some v1 ∧ W.cell? ⟨B, 2, none⟩ = some v2 ∧ W.cell? ⟨B, 3, none⟩ = some v3)
    (ht : tmps[t]?.getD undef = .pointer (some ⟨B, 0, none⟩)) : (results fn tmps).run Try.prog W = .ok (.tuple #[.agg #[v0, v1, v2, v3], tmps[u]?.getD undef]) W := by
  obtain ⟨e0, e1, e2, e3⟩ := h
  simp [results, hr, go_sem, ht, e0, e1, e2, e3]
  try rfl
theorem cells_set4 {W : World} {B : Nat} {v0 v1 v2 v3 u0 u1 u2 u3 : Value} (r0 : W.cell? ⟨B, 0, none⟩ = some u0) (r1 : W.cell? ⟨B, 1, none⟩ = some u1) (r2 : W.cell? ⟨B, 2, none⟩ = some u2) (r3 : W.cell? ⟨B, 3, none⟩ = some u3) :
    let W' := (((W.setCell ⟨B, 0, none⟩ v0).setCell ⟨B, 1, none⟩ v1).setCell ⟨B, 2, none⟩ v2).setCell ⟨B, 3, none⟩ v3
    W'.cell? ⟨B, 0, none⟩ = some v0 ∧ W'.cell? ⟨B, 1, none⟩ = some v1 ∧ W'.cell? ⟨B, 2, none⟩ = some v2 ∧ W'.cell? ⟨B, 3, none⟩ = some v3 :=
  ⟨cell_set_ne (cell_set_ne (cell_set_ne (cell_set_eq r0) (Or.inr (by decide))) (Or.inr (by decide))) (Or.inr (by decide)),
   cell_set_ne (cell_set_ne (cell_set_eq (cell_set_ne r1 (Or.inr (by decide)))) (Or.inr (by decide))) (Or.inr (by decide)),
   cell_set_ne (cell_set_eq (cell_set_ne (cell_set_ne r2 (Or.inr (by decide))) (Or.inr (by decide)))) (Or.inr (by decide)),
   cell_set_eq (cell_set_ne (cell_set_ne (cell_set_ne r3 (Or.inr (by decide))) (Or.inr (by decide))) (Or.inr (by decide)))⟩
theorem kept_set4' {w W : World} {B : Nat} {v0 v1 v2 v3 : Value} (h : Kept None' w W) (hB : w.heap.size ≤ B) : Kept None' w ((((W.setCell ⟨B, 0, none⟩ v0).setCell ⟨B, 1, none⟩ v1).setCell ⟨B, 2, none⟩ v2).setCell ⟨B, 3, none⟩ v3) := by
  refine Kept.setCell (Kept.setCell (Kept.setCell (Kept.setCell h ?_ _) ?_ _) ?_ _) ?_ _ <;> exact Or.inl hB
set_option linter.unusedSimpArgs false in
set_option linter.unusedVariables false in
set_option maxHeartbeats 4000000 in
set_option maxRecDepth 100000 in
theorem common_any (x y W H X Y s : Int) (w : World) (x0 : -1048576 ≤ x) (x1 : x ≤ 1048576) (y0 : -1048576 ≤ y) (y1 : y ≤ 1048576) (w0 : 1 ≤ W) (w1 : W ≤ 256) (h0 : 1 ≤ H) (h1 : H ≤ 256) (X0 : -2097152 ≤ X) (X1 : X ≤ 2097152) (Y0 : -2097152 ≤ Y) (Y1 : Y ≤ 2097152) (s0 : 1 ≤ s) (s1 : s ≤ 256) :
    Calls Try.prog 46 #[.agg #[.int .i64 x, .int .i64 y, .int .i64 W, .int .i64 H], .agg #[.int .i64 X, .int .i64 Y, .int .i64 s, .int .i64 s]] w (CmP (cmB x y W H X Y s) (cmV x y W H X Y s) w) := by
  go_enter Try.func46, Try.ntmps46
  go_upto_region 1 with fail
  refine of_world (fun W0 hW => ?_)
  have k0 : Kept None' w W0 := by rw [hW]; exact (((Kept.refl _ _).alloc _ _).alloc _ _).alloc _ _
  have a0 : W0.cell? ⟨w.heap.size, 0, none⟩ = some (.int .i64 x) := by rw [hW]; go_simp
  have a1 : W0.cell? ⟨w.heap.size, 1, none⟩ = some (.int .i64 y) := by rw [hW]; go_simp
  have a2 : W0.cell? ⟨w.heap.size, 2, none⟩ = some (.int .i64 W) := by rw [hW]; go_simp
  have a3 : W0.cell? ⟨w.heap.size, 3, none⟩ = some (.int .i64 H) := by rw [hW]; go_simp
  have b0 : W0.cell? ⟨w.heap.size + 1, 0, none⟩ = some (.int .i64 X) := by rw [hW]; go_simp
  have b1 : W0.cell? ⟨w.heap.size + 1, 1, none⟩ = some (.int .i64 Y) := by rw [hW]; go_simp
  have b2 : W0.cell? ⟨w.heap.size + 1, 2, none⟩ = some (.int .i64 s) := by rw [hW]; go_simp
  have b3 : W0.cell? ⟨w.heap.size + 1, 3, none⟩ = some (.int .i64 s) := by rw [hW]; go_simp
  have K0 := Lib.hid k0
  have r0 : ∀ c, c < 4 → W0.cell? ⟨w.heap.size + 1 + 1, c, none⟩ = some (.int .i64 0) := fun c hc => by
    rw [hW]
    obtain rfl | rfl | rfl | rfl : c = 0 ∨ c = 1 ∨ c = 2 ∨ c = 3 := by omega
    all_goals go_simp
  have z0 : ∀ c, W0.frozen? ⟨w.heap.size + 1 + 1, c, none⟩ = false := fun c => by rw [hW]; exact (frozen?_alloc_cells _ _ _ _).trans ((frozen?_alloc_cells _ _ _ _).trans ((frozen?_alloc_cells _ _ _ _).trans (frozen_new _ _ (by simp; omega))))
  clear hW k0
  have A0 := ext_cell a0
  have A1 := ext_cell a1
  have B0 := ext_cell b0
  have B1 := ext_cell b1
  refine region_ext (by kernel_rfl) (by kernel_rfl) ?_
  repeat (first
    | go_big_quiet_skip
    | (go_big_quiet_want; go_big_quiet_op; first | go_big_quiet_on | go_big_quiet_call (first
      | (fail))))
  refine wpQuiet_nil ?_
  rintro _ ⟨xq, rfl⟩
  have kx := ext_kept W0 xq
  have a0' := kx.some a0 id
  have a1' := kx.some a1 id
  have a2' := kx.some a2 id
  have a3' := kx.some a3 id
  have b0' := kx.some b0 id
  have b1' := kx.some b1 id
  have b2' := kx.some b2 id
  have b3' := kx.some b3 id
  clear A0 A1 B0 B1 a0 a1 a2 a3 b0 b1 b2 b3
  have K1 := Lib.hid (K0.out.trans kx)
  have r0' := kx.some (r0 0 (by omega)) id
  have r1' := kx.some (r0 1 (by omega)) id
  have r2' := kx.some (r0 2 (by omega)) id
  have r3' := kx.some (r0 3 (by omega)) id
  have zz := fun c => (kx.frozen ⟨w.heap.size + 1 + 1, c, none⟩).trans (z0 c)
  have HR := Lib.hid (And.intro r0' (And.intro r1' (And.intro r2' (And.intro r3' zz))))
  clear r0 z0 kx r0' r1' r2' r3' zz
  generalize ext W0 xq = W1 at *
  obtain ⟨p0, hp0⟩ : ∃ p : Int, (if x < X then X else x) = p := ⟨_, rfl⟩
  obtain ⟨p1, hp1⟩ : ∃ p : Int, (if y < Y then Y else y) = p := ⟨_, rfl⟩
  rw [hp0, hp1]
  have pb0 : -2097152 ≤ p0 ∧ p0 ≤ 2097152 := by rw [← hp0]; split <;> omega
  have pb1 : -2097152 ≤ p1 ∧ p1 ≤ 2097152 := by rw [← hp1]; split <;> omega
  obtain ⟨pl0, ph0⟩ := pb0
  obtain ⟨pl1, ph1⟩ := pb1
  have HP0 := Lib.hid hp0
  have HP1 := Lib.hid hp1
  clear hp0 hp1
  go_upto_region 3 with fail
  obtain ⟨m2, hm2⟩ : ∃ p : Int, (if X + s < x + W then X + s else x + W) = p := ⟨_, rfl⟩
  obtain ⟨m3, hm3⟩ : ∃ p : Int, (if Y + s < y + H then Y + s else y + H) = p := ⟨_, rfl⟩
  rw [hm2, hm3]
  have HM2 := Lib.hid (show cmW x W X s = m2 - p0 by unfold cmW; rw [hm2, HP0.out])
  have HM3 := Lib.hid (show cmW y H Y s = m3 - p1 by unfold cmW; rw [hm3, HP1.out])
  have HM0 := Lib.hid (show cmX x X = p0 from HP0.out)
  have HM1 := Lib.hid (show cmX y Y = p1 from HP1.out)
  clear hm2 hm3
  refine of_world (fun W2 hW => ?_)
  have k2 : Kept None' W1 W2 := by rw [hW]; exact (Kept.refl _ _).alloc _ _
  have c0 : W2.cell? ⟨W1.heap.size, 0, none⟩ = some (.int .i64 p0) := by rw [hW]; exact cell_alloc_one W1 _ _ 0
  have c1 : W2.cell? ⟨W1.heap.size, 1, none⟩ = some (.int .i64 p1) := by rw [hW]; exact cell_alloc_one W1 _ _ 1
  have c2 : W2.cell? ⟨W1.heap.size, 2, none⟩ = some (.int .i64 (m2 - p0)) := by rw [hW]; exact cell_alloc_one W1 _ _ 2
  have c3 : W2.cell? ⟨W1.heap.size, 3, none⟩ = some (.int .i64 (m3 - p1)) := by rw [hW]; exact cell_alloc_one W1 _ _ 3
  have r0 := k2.some HR.out.1 id
  have r1 := k2.some HR.out.2.1 id
  have r2 := k2.some HR.out.2.2.1 id
  have r3 := k2.some HR.out.2.2.2.1 id
  have zz := fun c => (k2.frozen ⟨w.heap.size + 1 + 1, c, none⟩).trans (HR.out.2.2.2.2 c)
  have z0 := zz 0
  have z1 := zz 1
  have z2 := zz 2
  have z3 := zz 3
  have K2 := Lib.hid (K1.out.trans k2)
  have HB := Lib.hid (show cmB x y W H X Y s = (decide (1 ≤ m2 - p0) && decide (1 ≤ m3 - p1)) by unfold cmB; rw [HM2.out, HM3.out])
  have HV := Lib.hid (show cmV x y W H X Y s 0 = p0 ∧ cmV x y W H X Y s 1 = p1 ∧ cmV x y W H X Y s 2 = m2 - p0 ∧ cmV x y W H X Y s 3 = m3 - p1 from ⟨HM0.out, HM1.out, HM2.out, HM3.out⟩)
  clear hW k2 zz a0' a1' a2' a3' b0' b1' b2' b3'
  generalize m2 - p0 = p2 at *
  generalize m3 - p1 = p3 at *
  by_cases h2 : p2 < 1
  · have d1 : decide (p2 < 1) = true := decide_eq_true h2
    have HC := Lib.hid (show cmB x y W H X Y s = false by rw [HB.out, decide_eq_false (show ¬ 1 ≤ p2 by omega)]; rfl)
    go_wp2_with fail
    have cs := cells_set4 (v0 := .int .i64 0) (v1 := .int .i64 0) (v2 := .int .i64 0) (v3 := .int .i64 0) r0 r1 r2 r3
    refine bodyPost_ret (rg_ret2 Try.results46 _ _ (w.heap.size + 1 + 1) _ _ _ _ cs rfl) rfl ?_
    exact ⟨by rw [HC.out]; rfl, kept_set4' K2.out (by omega)⟩
  · have d1 : decide (p2 < 1) = false := decide_eq_false h2
    by_cases h3 : p3 < 1
    · have d2 : decide (p3 < 1) = true := decide_eq_true h3
      have HC := Lib.hid (show cmB x y W H X Y s = false by rw [HB.out, decide_eq_false (show ¬ 1 ≤ p3 by omega)]; simp)
      go_wp2_with fail
      have cs := cells_set4 (v0 := .int .i64 0) (v1 := .int .i64 0) (v2 := .int .i64 0) (v3 := .int .i64 0) r0 r1 r2 r3
      refine bodyPost_ret (rg_ret2 Try.results46 _ _ (w.heap.size + 1 + 1) _ _ _ _ cs rfl) rfl ?_
      exact ⟨by rw [HC.out]; rfl, kept_set4' K2.out (by omega)⟩
    · have d2 : decide (p3 < 1) = false := decide_eq_false h3
      have HC := Lib.hid (show cmB x y W H X Y s = true by rw [HB.out, decide_eq_true (show 1 ≤ p2 by omega), decide_eq_true (show 1 ≤ p3 by omega)]; rfl)
      go_wp2_with fail
      have cs := cells_set4 (v0 := .int .i64 p0) (v1 := .int .i64 p1) (v2 := .int .i64 p2) (v3 := .int .i64 p3) r0 r1 r2 r3
      refine bodyPost_ret (rg_ret2 Try.results46 _ _ (w.heap.size + 1 + 1) _ _ _ _ cs rfl) rfl ?_
      exact ⟨by rw [HC.out, HV.out.1, HV.out.2.1, HV.out.2.2.1, HV.out.2.2.2]; rfl, kept_set4' K2.out (by omega)⟩
end Go.Proofs.Ytflmfjimemhooaa
