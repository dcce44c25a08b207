/- The walk of LevelsAsFrames. Conditions: none. -/
import Derived.Test.YtfphhlodfieopaaLf
import Derived.Test.YtfphhlodfieopaaFi
namespace Go.Proofs.Ytfphhlodfieopaa
open Go.RowKit
open Fl
open BigFrame

def ErrPost (E : Int) (w : World) (e : Ending) (w' : World) : Prop := e = .returned (.tuple #[zeroFrame, .int .i64 E]) ∧ Kept None' w w'

set_option maxHeartbeats 1000000 in
theorem frame_e1 (x y W H d E : Int) (A : Option Addr) (n cap : Nat) (w : World) (hE : regE x y W H = E) (h0 : ¬ E = 0) :
    Calls Try.prog 11 #[.agg #[.int .i64 x, .int .i64 y, .int .i64 W, .int .i64 H], .slice A n cap, .int .i64 d] w (ErrPost E w) := by
  have hb : (E != 0) = true := by simp [h0]
  go_enter Try.func11, Try.ntmps11
  go_wp2_with (first
    | (go_at_call 59; refine (checkregion_any _ _ _ _ _).mono ?_; rw [hE]; rintro e w1 ⟨rfl, hk1⟩
       have s0 := hk1.some (cell_alloc_snd w _ _ _ 0) id
       have s1 := hk1.some (cell_alloc_snd w _ _ _ 1) id
       have s2 := hk1.some (cell_alloc_snd w _ _ _ 2) id
       have s3 := hk1.some (cell_alloc_snd w _ _ _ 3) id
       have s4 := hk1.some (cell_alloc_snd w _ _ _ 4) id
       have z1 : ∀ a : Addr, w.heap.size ≤ a.block → w1.frozen? a = false := fun a ha => (hk1.frozen a).trans ((frozen?_alloc_cells _ _ _ _).trans ((frozen?_alloc_cells _ _ _ _).trans (frozen_new _ _ ha)))
       have f0 := z1 ⟨w.heap.size + 1, 0, none⟩ (by simp)
       have f1 := z1 ⟨w.heap.size + 1, 1, none⟩ (by simp)
       have f2 := z1 ⟨w.heap.size + 1, 2, none⟩ (by simp)
       have f3 := z1 ⟨w.heap.size + 1, 3, none⟩ (by simp)
       have f4 := z1 ⟨w.heap.size + 1, 4, none⟩ (by simp)
       have K1 := Lib.hid ((((Kept.refl None' w).alloc _ _).alloc _ _).trans hk1)
       clear hk1 z1)
    | fail)
  refine bodyPost_ret (fr_ret2 Try.results11 _ _ (w.heap.size + 1) _ _ _ _ _ (cells_set5 s0 s1 s2 s3 s4) rfl) rfl ?_
  exact ⟨rfl, kept_set5 K1.out (by omega)⟩
set_option maxHeartbeats 1000000 in
theorem frame_e2 (x y W H d : Int) (A : Option Addr) (n cap : Nat) (w : World) (hE : regE x y W H = 0) (h0 : (decide (1 ≤ d) && decide (d ≤ 16)) = false) :
    Calls Try.prog 11 #[.agg #[.int .i64 x, .int .i64 y, .int .i64 W, .int .i64 H], .slice A n cap, .int .i64 d] w (ErrPost 3 w) := by
  go_enter Try.func11, Try.ntmps11
  go_wp2_with (first
    | (go_at_call 59; refine (checkregion_any _ _ _ _ _).mono ?_; rw [hE]; rintro e w1 ⟨rfl, hk1⟩
       have s0 := hk1.some (cell_alloc_snd w _ _ _ 0) id
       have s1 := hk1.some (cell_alloc_snd w _ _ _ 1) id
       have s2 := hk1.some (cell_alloc_snd w _ _ _ 2) id
       have s3 := hk1.some (cell_alloc_snd w _ _ _ 3) id
       have s4 := hk1.some (cell_alloc_snd w _ _ _ 4) id
       have z1 : ∀ a : Addr, w.heap.size ≤ a.block → w1.frozen? a = false := fun a ha => (hk1.frozen a).trans ((frozen?_alloc_cells _ _ _ _).trans ((frozen?_alloc_cells _ _ _ _).trans (frozen_new _ _ ha)))
       have f0 := z1 ⟨w.heap.size + 1, 0, none⟩ (by simp)
       have f1 := z1 ⟨w.heap.size + 1, 1, none⟩ (by simp)
       have f2 := z1 ⟨w.heap.size + 1, 2, none⟩ (by simp)
       have f3 := z1 ⟨w.heap.size + 1, 3, none⟩ (by simp)
       have f4 := z1 ⟨w.heap.size + 1, 4, none⟩ (by simp)
       have K1 := Lib.hid ((((Kept.refl None' w).alloc _ _).alloc _ _).trans hk1)
       clear hk1 z1)
    | (go_at_call 60; refine (deep_any _ _).mono ?_; rintro e w' ⟨rfl, rfl⟩)
    | fail)
  refine bodyPost_ret (fr_ret2 Try.results11 _ _ (w.heap.size + 1) _ _ _ _ _ (cells_set5 s0 s1 s2 s3 s4) rfl) rfl ?_
  exact ⟨rfl, kept_set5 K1.out (by omega)⟩
set_option maxHeartbeats 1000000 in
theorem frame_e3 (x y W H d : Int) (A : Option Addr) (n cap : Nat) (w : World) (hE : regE x y W H = 0) (h0 : (decide (1 ≤ d) && decide (d ≤ 16)) = true) (hn : ((n : Int) != 4 * W * H) = true) :
    Calls Try.prog 11 #[.agg #[.int .i64 x, .int .i64 y, .int .i64 W, .int .i64 H], .slice A n cap, .int .i64 d] w (ErrPost 2 w) := by
  obtain ⟨w1', w2', w3', w4', w5'⟩ := regE_ok hE
  have w6 := (mul_bd w1' w2' w3' w4').1
  have w7 : 4 * W * H = 4 * (W * H) := Int.mul_assoc ..
  have hw : IntKind.i64.wrap (4 * W * H) = 4 * W * H := IntWalk.i64_in _ (by omega)
  clear w7
  go_enter Try.func11, Try.ntmps11
  go_wp2_with (first
    | (go_at_call 59; refine (checkregion_any _ _ _ _ _).mono ?_; rw [hE]; rintro e w1 ⟨rfl, hk1⟩
       have r2 := hk1.some (cell_alloc_two w _ _ _ _ 2) id
       have r3 := hk1.some (cell_alloc_two w _ _ _ _ 3) id
       have s0 := hk1.some (cell_alloc_snd w _ _ _ 0) id
       have s1 := hk1.some (cell_alloc_snd w _ _ _ 1) id
       have s2 := hk1.some (cell_alloc_snd w _ _ _ 2) id
       have s3 := hk1.some (cell_alloc_snd w _ _ _ 3) id
       have s4 := hk1.some (cell_alloc_snd w _ _ _ 4) id
       have z1 : ∀ a : Addr, w.heap.size ≤ a.block → w1.frozen? a = false := fun a ha => (hk1.frozen a).trans ((frozen?_alloc_cells _ _ _ _).trans ((frozen?_alloc_cells _ _ _ _).trans (frozen_new _ _ ha)))
       have f0 := z1 ⟨w.heap.size + 1, 0, none⟩ (by simp)
       have f1 := z1 ⟨w.heap.size + 1, 1, none⟩ (by simp)
       have f2 := z1 ⟨w.heap.size + 1, 2, none⟩ (by simp)
       have f3 := z1 ⟨w.heap.size + 1, 3, none⟩ (by simp)
       have f4 := z1 ⟨w.heap.size + 1, 4, none⟩ (by simp)
       have K1 := Lib.hid ((((Kept.refl None' w).alloc _ _).alloc _ _).trans hk1)
       clear hk1 z1)
    | (go_at_call 60; refine (deep_any _ _).mono ?_; rintro e w' ⟨rfl, rfl⟩)
    | fail)
  refine bodyPost_ret (fr_ret2 Try.results11 _ _ (w.heap.size + 1) _ _ _ _ _ (cells_set5 s0 s1 s2 s3 s4) rfl) rfl ?_
  exact ⟨rfl, kept_set5 K1.out (by omega)⟩

/-! ### none -/
theorem reg_eql0 (w : World) : (binOp .eql 23 (.agg #[.int .i64 0, .int .i64 0, .int .i64 0, .int .i64 0]) (.agg #[.int .i64 0, .int .i64 0, .int .i64 0, .int .i64 0])).run Try.prog w = .ok (.bool true) w := by kernel_rfl
set_option maxHeartbeats 400000 in
theorem none_zero (w : World) : Calls Try.prog 17 #[zeroFrame] w fun e w' => e = .returned (.bool true) ∧ Kept None' w w' := by
  unfold zeroFrame
  have h := reg_eql0
  go_enter Try.func17, Try.ntmps17
  go_wp2
  go_ret
  exact ⟨rfl, (Kept.refl _ _).alloc _ _⟩
end Go.Proofs.Ytfphhlodfieopaa
