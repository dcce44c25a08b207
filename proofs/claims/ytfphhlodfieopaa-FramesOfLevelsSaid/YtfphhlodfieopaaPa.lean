/- The contracts of few and PixelAt. Conditions: none. -/
import Derived.Test.YtfphhlodfieopaaVv
namespace Go.Proofs.Ytfphhlodfieopaa
open Go.RowKit
open Fl Fr
open BigFrame

theorem few_any (x y W H : Int) (A : Option Addr) (n cap : Nat) (w : World) :
    Calls Try.prog 36 #[.agg #[.int .i64 x, .int .i64 y, .int .i64 W, .int .i64 H, .slice A n cap]] w fun e w' => e = .returned (.bool (decide (n ≤ 400))) ∧ Kept None' w w' := by
  go_enter Try.func36, Try.ntmps36
  go_wp2
  go_ret
  exact ⟨by simp; omega, (Kept.refl _ _).alloc _ _⟩

set_option linter.unusedSimpArgs false in
set_option linter.unusedVariables false in
set_option maxHeartbeats 800000 in
set_option maxRecDepth 100000 in
theorem pixelat_any (x y W H px py : Int) (b o n cap q : Nat) (z : Nat → Nat) (w : World) (hE : regE x y W H = 0) (hn : n ≤ cap) (hn6 : n ≤ 65536) (hc : ∀ i, i < n → w.cell? ⟨b, o + i, none⟩ = some (.float .f32 (z i)))
    (x1 : x ≤ px) (x2 : px < x + W) (y1 : y ≤ py) (y2 : py < y + H) (hq : (q : Int) = 4 * ((py - y) * W + px - x)) (hqn : q + 4 ≤ n) :
    Calls Try.prog 35 #[.agg #[.int .i64 x, .int .i64 y, .int .i64 W, .int .i64 H, .slice (some ⟨b, o, none⟩) n cap], .int .i64 px, .int .i64 py] w fun e w' =>
      e = .returned (.agg #[.float .f32 (z q), .float .f32 (z (q + 1)), .float .f32 (z (q + 2)), .float .f32 (z (q + 3))]) ∧ Kept None' w w' := by
  obtain ⟨w1', w2', w3', w4', w5'⟩ := regE_ok hE
  obtain ⟨bx1, bx2, by1, by2⟩ := regE_place hE
  obtain ⟨T, hT⟩ : ∃ T, (py - y) * W = T := ⟨_, rfl⟩
  rw [hT] at hq
  have g1 : wrap64 ((py - y) * W) = T := by rw [hT]; unfold wrap64; omega
  have g2 : wrap64 (T + px) = T + px := by unfold wrap64; omega
  have g3 : wrap64 (T + px - x) = T + px - x := by unfold wrap64; omega
  have g4 : wrap64 (4 * (T + px - x)) = q := by rw [← hq]; unfold wrap64; omega
  have g6 : ((q : Int) + 4).toNat = q + 4 := by omega
  have g7 : ((q : Int) + 4) ≤ (cap : Int) := by omega
  have g8 : (q : Int) ≤ q + 4 := by omega
  have g9 : (0 : Int) ≤ q + 4 := by omega
  have c0 := hc q (by omega)
  have c1 := hc (q + 1) (by omega)
  have c2 := hc (q + 2) (by omega)
  have c3 := hc (q + 3) (by omega)
  have k2 : ∀ d1 t1 d2 t2, Kept None' w ((w.alloc (.cells d1 t1)).alloc (.cells d2 t2)) := fun _ _ _ _ => ((Kept.refl None' w).alloc _ _).alloc _ _
  have a0 : ∀ d1 t1 d2 t2, ((w.alloc (.cells d1 t1)).alloc (.cells d2 t2)).cell? ⟨b, o + q, none⟩ = some (.float .f32 (z q)) := fun _ _ _ _ => (k2 _ _ _ _).some c0 id
  have a1 : ∀ d1 t1 d2 t2, ((w.alloc (.cells d1 t1)).alloc (.cells d2 t2)).cell? ⟨b, o + q + 1, none⟩ = some (.float .f32 (z (q + 1))) := fun _ _ _ _ => (k2 _ _ _ _).some c1 id
  have a2 : ∀ d1 t1 d2 t2, ((w.alloc (.cells d1 t1)).alloc (.cells d2 t2)).cell? ⟨b, o + q + 2, none⟩ = some (.float .f32 (z (q + 2))) := fun _ _ _ _ => (k2 _ _ _ _).some c2 id
  have a3 : ∀ d1 t1 d2 t2, ((w.alloc (.cells d1 t1)).alloc (.cells d2 t2)).cell? ⟨b, o + q + 3, none⟩ = some (.float .f32 (z (q + 3))) := fun _ _ _ _ => (k2 _ _ _ _).some c3 id
  have z1 : ∀ d1 t1 d2 t2 (a : Addr), w.heap.size ≤ a.block → ((w.alloc (.cells d1 t1)).alloc (.cells d2 t2)).frozen? a = false := fun _ _ _ _ a ha => (frozen?_alloc_cells _ _ _ _).trans ((frozen?_alloc_cells _ _ _ _).trans (frozen_new _ _ ha))
  have hpp := fun w => px_ptr ⟨b, o + q, none⟩ (cap - q) w
  clear hc k2 hq c0 c1 c2 c3 hT
  go_enter Try.func35, Try.ntmps35
  go_wp2_with fail
  refine bodyPost_ret (px_ret Try.results35 _ _ (w.heap.size + 1) _ _ _ _ (cell_alloc_snd w _ _ _ 0) (cell_alloc_snd w _ _ _ 1) (cell_alloc_snd w _ _ _ 2) (cell_alloc_snd w _ _ _ 3) rfl) rfl ?_
  exact ⟨rfl, ((Kept.refl _ _).alloc _ _).alloc _ _⟩
end Go.Proofs.Ytfphhlodfieopaa
