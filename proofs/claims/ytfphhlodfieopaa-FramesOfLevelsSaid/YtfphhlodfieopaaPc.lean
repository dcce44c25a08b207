/- The pixel nearest to a place: PixelAt at any place, and what Sharpen reads. Conditions: none. -/
import Derived.Test.YtfphhlodfieopaaPa
import Derived.Test.YtfphhlodfieopaaAb
import Derived.Test.YtfphhlodfieopaaQw
import Derived.Outline
namespace Go.Proofs.Ytfphhlodfieopaa
open Go.RowKit
open Fl Fr
open BigFrame

/-- The nearest place of a side. -/
def cpl (v X W : Int) : Int := min (max v X) (X + W - 1)
theorem cpl_bd (v X W : Int) (h : 1 ≤ W) : X ≤ cpl v X W ∧ cpl v X W < X + W := by unfold cpl; omega
theorem cpl_if (v X W : Int) : (if X + W - 1 < (if v < X then X else v) then X + W - 1 else (if v < X then X else v)) = cpl v X W := by unfold cpl; split <;> split <;> omega
theorem cpl_if0 (v X W : Int) : (if W - 1 < (if v - X < 0 then 0 else v - X) then W - 1 else (if v - X < 0 then 0 else v - X)) = cpl v X W - X := by unfold cpl; split <;> split <;> omega
/-- The box of a frame. -/
def FrC (x y W H : Int) (A : Option Addr) (n cap Q : Nat) (w : World) : Prop := w.cell? ⟨Q, 0, none⟩ = some (.int .i64 x) ∧ w.cell? ⟨Q, 1, none⟩ = some (.int .i64 y) ∧ w.cell? ⟨Q, 2, none⟩ = some (.int .i64 W) ∧ w.cell? ⟨Q, 3, none⟩ = some (.int .i64 H) ∧ w.cell? ⟨Q, 4, none⟩ = some (.slice A n cap)
theorem FrC.kept {x y W H : Int} {A : Option Addr} {n cap Q : Nat} {w w' : World} (h : FrC x y W H A n cap Q w) (k : Kept None' w w') : FrC x y W H A n cap Q w' := ⟨k.some h.1 id, k.some h.2.1 id, k.some h.2.2.1 id, k.some h.2.2.2.1 id, k.some h.2.2.2.2 id⟩
theorem cpl_in {v X W : Int} (h1 : X ≤ v) (h2 : v < X + W) : cpl v X W = v := by unfold cpl; omega

set_option linter.unusedSimpArgs false in
set_option linter.unusedVariables false in
set_option maxHeartbeats 800000 in
set_option maxRecDepth 100000 in
theorem pixelat_cl (x y W H px py : Int) (b o n cap q : Nat) (z : Nat → Nat) (w : World) (hE : regE x y W H = 0) (hn : n ≤ cap) (hn6 : n ≤ 65536) (hc : ∀ i, i < n → w.cell? ⟨b, o + i, none⟩ = some (.float .f32 (z i)))
    (x1 : -2097152 ≤ px) (x2 : px ≤ 2097152) (y1 : -2097152 ≤ py) (y2 : py ≤ 2097152) (hq : (q : Int) = 4 * ((cpl py y H - y) * W + cpl px x W - x)) (hqn : q + 4 ≤ n) :
    Calls Try.prog 35 #[.agg #[.int .i64 x, .int .i64 y, .int .i64 W, .int .i64 H, .slice (some ⟨b, o, none⟩) n cap], .int .i64 px, .int .i64 py] w fun e w' =>
      e = .returned (.agg #[.float .f32 (z q), .float .f32 (z (q + 1)), .float .f32 (z (q + 2)), .float .f32 (z (q + 3))]) ∧ Kept None' w w' := by
  obtain ⟨w1', w2', w3', w4', w5'⟩ := regE_ok hE
  obtain ⟨bx1, bx2, by1, by2⟩ := regE_place hE
  go_enter Try.func35, Try.ntmps35
  go_upto_region 3 with (fail)
  simp only [cpl_if]
  have hx := cpl_bd px x W w1'
  have hy := cpl_bd py y H w3'
  generalize cpl px x W = cx at *
  generalize cpl py y H = cy at *
  obtain ⟨hx1, hx2⟩ := hx
  obtain ⟨hy1, hy2⟩ := hy
  obtain ⟨T, hT⟩ : ∃ T, (cy - y) * W = T := ⟨_, rfl⟩
  rw [hT] at hq
  have g1 : wrap64 ((cy - y) * W) = T := by rw [hT]; unfold wrap64; omega
  have g2 : wrap64 (T + cx) = T + cx := by unfold wrap64; omega
  have g3 : wrap64 (T + cx - x) = T + cx - x := by unfold wrap64; omega
  have g4 : wrap64 (4 * (T + cx - x)) = q := by rw [← hq]; unfold wrap64; omega
  have g6 : ((q : Int) + 4).toNat = q + 4 := by omega
  have g7 : ((q : Int) + 4) ≤ (cap : Int) := by omega
  have g8 : (q : Int) ≤ q + 4 := by omega
  have g9 : (0 : Int) ≤ q + 4 := by omega
  have c0 := hc q (by omega)
  have c1 := hc (q + 1) (by omega)
  have c2 := hc (q + 2) (by omega)
  have c3 := hc (q + 3) (by omega)
  have k2 : ∀ d1 t1 d2 t2, Kept None' w ((w.alloc (.cells d1 t1)).alloc (.cells d2 t2)) := fun _ _ _ _ => ((Kept.refl None' w).alloc _ _).alloc _ _
  have a0 : ∀ d1 t1 d2 t2, ((w.alloc (.cells d1 t1)).alloc (.cells d2 t2)).cell? ⟨b, o + q, none⟩ = some (.float .f32 (z q)) := fun _ _ _ _ => (k2 _ _ _ _).some c0 id
  have a1 : ∀ d1 t1 d2 t2, ((w.alloc (.cells d1 t1)).alloc (.cells d2 t2)).cell? ⟨b, o + q + 1, none⟩ = some (.float .f32 (z (q + 1))) := fun _ _ _ _ => (k2 _ _ _ _).some c1 id
  have a2 : ∀ d1 t1 d2 t2, ((w.alloc (.cells d1 t1)).alloc (.cells d2 t2)).cell? ⟨b, o + q + 2, none⟩ = some (.float .f32 (z (q + 2))) := fun _ _ _ _ => (k2 _ _ _ _).some c2 id
  have a3 : ∀ d1 t1 d2 t2, ((w.alloc (.cells d1 t1)).alloc (.cells d2 t2)).cell? ⟨b, o + q + 3, none⟩ = some (.float .f32 (z (q + 3))) := fun _ _ _ _ => (k2 _ _ _ _).some c3 id
  have z1 : ∀ d1 t1 d2 t2 (a : Addr), w.heap.size ≤ a.block → ((w.alloc (.cells d1 t1)).alloc (.cells d2 t2)).frozen? a = false := fun _ _ _ _ a ha => (frozen?_alloc_cells _ _ _ _).trans ((frozen?_alloc_cells _ _ _ _).trans (frozen_new _ _ ha))
  have hpp := fun w => px_ptr ⟨b, o + q, none⟩ (cap - q) w
  clear hc k2 hq c0 c1 c2 c3 hT
  go_wp2_with fail
  all_goals
    refine bodyPost_ret (px_ret Try.results35 _ _ (w.heap.size + 1) _ _ _ _ (cell_alloc_snd w _ _ _ 0) (cell_alloc_snd w _ _ _ 1) (cell_alloc_snd w _ _ _ 2) (cell_alloc_snd w _ _ _ 3) rfl) rfl ?_
    exact ⟨rfl, ((Kept.refl _ _).alloc _ _).alloc _ _⟩

set_option linter.unusedSimpArgs false in
set_option linter.unusedVariables false in
set_option maxHeartbeats 800000 in
set_option maxRecDepth 100000 in
theorem sh1_any (x y W H px py : Int) (Q : Nat) (b o n cap q c : Nat) (z : Nat → Nat) (w : World) (hE : regE x y W H = 0) (hn : n ≤ cap) (hn6 : n ≤ 65536) (hc : ∀ i, i < n → w.cell? ⟨b, o + i, none⟩ = some (.float .f32 (z i)))
    (hQ : FrC x y W H (some ⟨b, o, none⟩) n cap Q w)
    (x1 : -2097152 ≤ px) (x2 : px ≤ 2097152) (y1 : -2097152 ≤ py) (y2 : py ≤ 2097152) (hq : (q : Int) = 4 * ((cpl py y H - y) * W + cpl px x W - x)) (hqn : q + 4 ≤ n) (hc3 : c < 3) :
    Calls Try.prog 77 #[.int .i64 px, .int .i64 py, .int .i64 c, .pointer (some ⟨Q, 0, none⟩)] w fun e w' =>
      e = .returned (.float .f32 (z (q + c))) ∧ Kept None' w w' := by
  obtain ⟨w1', w2', w3', w4', w5'⟩ := regE_ok hE
  obtain ⟨bx1, bx2, by1, by2⟩ := regE_place hE
  have A0 := ext_cell hQ.1
  have A1 := ext_cell hQ.2.1
  have A2 := ext_cell hQ.2.2.1
  have A3 := ext_cell hQ.2.2.2.1
  have A4 := ext_cell hQ.2.2.2.2
  go_enter Try.func77, Try.ntmps77
  go_wp2_with fail
  refine region_ext (by kernel_rfl) (by kernel_rfl) ?_
  repeat (first
    | go_big_quiet_skip
    | (go_big_quiet_want; go_big_quiet_op; go_big_quiet_on))
  refine wpQuiet_nil ?_
  rintro _ ⟨xq, rfl⟩
  go_upto_region 2 with (fail)
  simp only [cpl_if0]
  have hx := cpl_bd px x W w1'
  have hy := cpl_bd py y H w3'
  have kx := ext_kept w xq
  have hQ1 := hQ.kept kx
  have c0 := kx.some (hc (q + c) (by omega)) id
  obtain ⟨dx, hdx⟩ : ∃ d, cpl px x W - x = d := ⟨_, rfl⟩
  obtain ⟨dy, hdy⟩ : ∃ d, cpl py y H - y = d := ⟨_, rfl⟩
  simp only [hdx, hdy]
  rw [hdy, show dy * W + cpl px x W - x = dy * W + dx by omega] at hq
  obtain ⟨hx1, hx2⟩ := hx
  obtain ⟨hy1, hy2⟩ := hy
  have dx1 : 0 ≤ dx := by omega
  have dx2 : dx < W := by omega
  have dy1 : 0 ≤ dy := by omega
  have dy2 : dy < H := by omega
  clear hdx hdy hx1 hx2 hy1 hy2 A0 A1 A2 A3 A4 hQ hc
  obtain ⟨T, hT⟩ : ∃ T, dy * W = T := ⟨_, rfl⟩
  rw [hT] at hq
  have g1 : wrap64 (dy * W) = T := by rw [hT]; unfold wrap64; omega
  have g2 : wrap64 (T + dx) = T + dx := by unfold wrap64; omega
  have g4 : wrap64 (4 * (T + dx)) = q := by rw [← hq]; unfold wrap64; omega
  have g6 : ((q : Int) + c).toNat = q + c := by omega
  have g7 : ((q : Int) + c) < (n : Int) := by omega
  have g8 : (0 : Int) ≤ (q : Int) + c := by omega
  obtain ⟨a0, a1, a2, a3, a4⟩ := hQ1
  have KX := Lib.hid kx
  clear kx hq hT
  generalize ext w xq = W1 at *
  go_wp2_with fail
  all_goals
    go_ret
    exact ⟨rfl, KX.out⟩
end Go.Proofs.Ytfphhlodfieopaa
