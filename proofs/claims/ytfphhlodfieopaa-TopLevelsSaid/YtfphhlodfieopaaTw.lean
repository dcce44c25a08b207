/- Contracts of the higher functions on pixels: three. Conditions: none. -/
import Derived.Test.YtfphhlodfieopaaMw
import Derived.Test.YtfphhlodfieopaaKp
import Derived.Deep.RegionWith
import Derived.Handy
namespace Go.Proofs.Ytfphhlodfieopaa
open Go.RowKit
open Fl

/-- A function value that answers a single, whatever NaN, and turns only the blocks of A. -/
def Quiets (A : Nat → Prop) (I : Int → World → Prop) (g : FuncId) (caps : Array Value) (p : Int → Nat) (F : Int → Nat) (w : World) : Prop :=
  ∀ (c : Int) (wr : World), 0 ≤ c → c < 3 → Kept A w wr → I c wr →
    Calls Try.prog g (#[.int .i64 c, .float .f32 (p c)] ++ caps) wr fun e w'' => ∃ r, e = .returned (.float .f32 r) ∧ cl .f32 r = F c ∧ Kept A wr w'' ∧ I (c + 1) w''

theorem px_ret {fn : Func} {t : Tmp} (hr : fn.results = #[.cell t 42]) (W : World) (tmps : Array Value) (B : Nat) (v0 v1 v2 v3 : Value) (e0 : W.cell? ⟨B, 0, none⟩ = some v0) (e1 : W.cell? ⟨B, 1, none⟩ = some v1) (e2 : W.cell? ⟨B, 2, none⟩ = some v2) (e3 : W.cell? ⟨B, 3, none⟩ = some v3)
    (ht : tmps[t]?.getD undef = .pointer (some ⟨B, 0, none⟩)) : (results fn tmps).run Try.prog W = .ok (.agg #[v0, v1, v2, v3]) W := by
  simp [results, hr, go_sem, ht, e0, e1, e2, e3]
  try rfl

set_option maxHeartbeats 1000000 in
set_option maxRecDepth 100000 in
theorem three_gen (A : Nat → Prop) (I : Int → World → Prop) (p : Int → Nat) (p3 : Nat) (g : FuncId) (caps : Array Value) (F : Int → Nat) (w : World)
    (hA : ∀ i, A i → i < w.heap.size) (hI : ∀ c a b, I c a → (∀ i, A i → b.heap[i]? = a.heap[i]?) → I c b) (h0 : I 0 w)
    (hg : ∀ args w, (callFunc g args).run Try.prog w = .ok (.enter g args) w) (hf : Quiets A I g caps p F w) :
    Calls Try.prog 66 #[.agg #[.float .f32 (p 0), .float .f32 (p 1), .float .f32 (p 2), .float .f32 p3], .func (.func g) #[] caps] w fun e w' =>
      e = .returned (.agg #[.float .f32 (F 0), .float .f32 (F 1), .float .f32 (F 2), .float .f32 (cl .f32 p3)]) ∧ Kept A w w' ∧ I 3 w' := by
  have HF := Lib.hid hf
  clear hf
  have HA := Lib.hid hA
  have HI := Lib.hid hI
  have HZ := Lib.hid h0
  clear hA hI h0
  have nB : ¬ A w.heap.size := fun h => absurd (HA.out _ h) (Nat.lt_irrefl _)
  have nB1 : ¬ A (w.heap.size + 1) := fun h => absurd (HA.out _ h) (by omega)
  have nB : ¬ A w.heap.size := fun h => absurd (HA.out _ h) (Nat.lt_irrefl _)
  have nB1 : ¬ A (w.heap.size + 1) := fun h => absurd (HA.out _ h) (by omega)
  go_enter Try.func66, Try.ntmps66
  go_wp2
  refine wp_loop_rounds 4 ?_
  rw [rounds_succ]
  go_wp2_with (first
    | (go_at_call 105; refine (clean_any _ _).mono ?_; rintro e w' ⟨rfl, rfl⟩)
    | fail)
  refine (HF.out 0 _ (by omega) (by omega) (((Kept.refl A w).alloc _ _).alloc _ _) (HI.out _ _ _ HZ.out (fun i hi => ?_))).mono ?_
  · have := HA.out i hi
    exact (Below.heap_alloc _ _ _ (by simp; omega)).trans (Below.heap_alloc _ _ _ (by omega))
  rintro e w1 ⟨r0, rfl, hr0, hk1, hi1⟩
  have c10 : w1.cell? ⟨w.heap.size, 0, none⟩ = some (.float .f32 (p 0)) := hk1.some (by rw [cell_alloc_two]; rfl) nB
  have d10 : w1.cell? ⟨w.heap.size + 1, 0, none⟩ = some (.float .f32 0) := hk1.some (by rw [cell_alloc_snd]; rfl) nB1
  have z1 : ∀ a : Addr, w.heap.size ≤ a.block → w1.frozen? a = false := fun _ => fun h => (hk1.frozen _).trans ((frozen?_alloc_cells _ _ _ _).trans ((frozen?_alloc_cells _ _ _ _).trans (frozen_new _ _ h)))
  have f10 : w1.frozen? ⟨w.heap.size, 0, none⟩ = false := z1 _ (by simp)
  have g10 : w1.frozen? ⟨w.heap.size + 1, 0, none⟩ = false := z1 _ (by simp)
  have c11 : w1.cell? ⟨w.heap.size, 1, none⟩ = some (.float .f32 (p 1)) := hk1.some (by rw [cell_alloc_two]; rfl) nB
  have d11 : w1.cell? ⟨w.heap.size + 1, 1, none⟩ = some (.float .f32 0) := hk1.some (by rw [cell_alloc_snd]; rfl) nB1
  have f11 : w1.frozen? ⟨w.heap.size, 1, none⟩ = false := z1 _ (by simp)
  have g11 : w1.frozen? ⟨w.heap.size + 1, 1, none⟩ = false := z1 _ (by simp)
  have c12 : w1.cell? ⟨w.heap.size, 2, none⟩ = some (.float .f32 (p 2)) := hk1.some (by rw [cell_alloc_two]; rfl) nB
  have d12 : w1.cell? ⟨w.heap.size + 1, 2, none⟩ = some (.float .f32 0) := hk1.some (by rw [cell_alloc_snd]; rfl) nB1
  have f12 : w1.frozen? ⟨w.heap.size, 2, none⟩ = false := z1 _ (by simp)
  have g12 : w1.frozen? ⟨w.heap.size + 1, 2, none⟩ = false := z1 _ (by simp)
  have c13 : w1.cell? ⟨w.heap.size, 3, none⟩ = some (.float .f32 (p3)) := hk1.some (by rw [cell_alloc_two]; rfl) nB
  have d13 : w1.cell? ⟨w.heap.size + 1, 3, none⟩ = some (.float .f32 0) := hk1.some (by rw [cell_alloc_snd]; rfl) nB1
  have f13 : w1.frozen? ⟨w.heap.size, 3, none⟩ = false := z1 _ (by simp)
  have g13 : w1.frozen? ⟨w.heap.size + 1, 3, none⟩ = false := z1 _ (by simp)
  have K1 := Lib.hid ((((Kept.refl A w).alloc _ _).alloc _ _).trans hk1)
  have J1 := Lib.hid hi1
  clear hk1 hi1
  go_wp2_with (first
    | (go_at_call 105; refine (clean_any _ _).mono ?_; rintro e w' ⟨rfl, rfl⟩)
    | fail)
  rw [rounds_succ]
  go_wp2_with (first
    | (go_at_call 105; refine (clean_any _ _).mono ?_; rintro e w' ⟨rfl, rfl⟩)
    | fail)
  refine (HF.out 1 _ (by omega) (by omega) (K1.out.setCell (Or.inl (Nat.le_refl _)) _) (HI.out _ _ _ J1.out (fun i hi => ?_))).mono ?_
  · have := HA.out i hi
    exact Below.heap_setCell _ _ _ _ (by simp; omega)
  rintro e w2 ⟨r1, rfl, hr1, hk2, hi2⟩
  have c20 : w2.cell? ⟨w.heap.size, 0, none⟩ = some (.float .f32 (F 0)) := hk2.some (cell_set_eq c10) nB
  have d20 : w2.cell? ⟨w.heap.size + 1, 0, none⟩ = some (.float .f32 0) := hk2.some (cell_set_ne d10 (by omega)) nB1
  have z2 : ∀ a : Addr, w.heap.size ≤ a.block → w2.frozen? a = false := fun _ => fun h => (hk2.frozen _).trans ((World.frozen?_setCell ..).trans (z1 _ h))
  have f20 : w2.frozen? ⟨w.heap.size, 0, none⟩ = false := z2 _ (by simp)
  have g20 : w2.frozen? ⟨w.heap.size + 1, 0, none⟩ = false := z2 _ (by simp)
  have c21 : w2.cell? ⟨w.heap.size, 1, none⟩ = some (.float .f32 (p 1)) := hk2.some (cell_set_ne c11 (by omega)) nB
  have d21 : w2.cell? ⟨w.heap.size + 1, 1, none⟩ = some (.float .f32 0) := hk2.some (cell_set_ne d11 (by omega)) nB1
  have f21 : w2.frozen? ⟨w.heap.size, 1, none⟩ = false := z2 _ (by simp)
  have g21 : w2.frozen? ⟨w.heap.size + 1, 1, none⟩ = false := z2 _ (by simp)
  have c22 : w2.cell? ⟨w.heap.size, 2, none⟩ = some (.float .f32 (p 2)) := hk2.some (cell_set_ne c12 (by omega)) nB
  have d22 : w2.cell? ⟨w.heap.size + 1, 2, none⟩ = some (.float .f32 0) := hk2.some (cell_set_ne d12 (by omega)) nB1
  have f22 : w2.frozen? ⟨w.heap.size, 2, none⟩ = false := z2 _ (by simp)
  have g22 : w2.frozen? ⟨w.heap.size + 1, 2, none⟩ = false := z2 _ (by simp)
  have c23 : w2.cell? ⟨w.heap.size, 3, none⟩ = some (.float .f32 (p3)) := hk2.some (cell_set_ne c13 (by omega)) nB
  have d23 : w2.cell? ⟨w.heap.size + 1, 3, none⟩ = some (.float .f32 0) := hk2.some (cell_set_ne d13 (by omega)) nB1
  have f23 : w2.frozen? ⟨w.heap.size, 3, none⟩ = false := z2 _ (by simp)
  have g23 : w2.frozen? ⟨w.heap.size + 1, 3, none⟩ = false := z2 _ (by simp)
  clear c10 d10 f10 g10 c11 d11 f11 g11 c12 d12 f12 g12 c13 d13 f13 g13 z1
  have K2 := Lib.hid ((K1.out.setCell (Or.inl (Nat.le_refl _)) _).trans hk2)
  have J2 := Lib.hid hi2
  clear hk2 hi2
  go_wp2_with (first
    | (go_at_call 105; refine (clean_any _ _).mono ?_; rintro e w' ⟨rfl, rfl⟩)
    | fail)
  rw [rounds_succ]
  go_wp2_with (first
    | (go_at_call 105; refine (clean_any _ _).mono ?_; rintro e w' ⟨rfl, rfl⟩)
    | fail)
  refine (HF.out 2 _ (by omega) (by omega) (K2.out.setCell (Or.inl (Nat.le_refl _)) _) (HI.out _ _ _ J2.out (fun i hi => ?_))).mono ?_
  · have := HA.out i hi
    exact Below.heap_setCell _ _ _ _ (by simp; omega)
  rintro e w3 ⟨r2, rfl, hr2, hk3, hi3⟩
  have c30 : w3.cell? ⟨w.heap.size, 0, none⟩ = some (.float .f32 (F 0)) := hk3.some (cell_set_ne c20 (by omega)) nB
  have d30 : w3.cell? ⟨w.heap.size + 1, 0, none⟩ = some (.float .f32 0) := hk3.some (cell_set_ne d20 (by omega)) nB1
  have z3 : ∀ a : Addr, w.heap.size ≤ a.block → w3.frozen? a = false := fun _ => fun h => (hk3.frozen _).trans ((World.frozen?_setCell ..).trans (z2 _ h))
  have f30 : w3.frozen? ⟨w.heap.size, 0, none⟩ = false := z3 _ (by simp)
  have g30 : w3.frozen? ⟨w.heap.size + 1, 0, none⟩ = false := z3 _ (by simp)
  have c31 : w3.cell? ⟨w.heap.size, 1, none⟩ = some (.float .f32 (F 1)) := hk3.some (cell_set_eq c21) nB
  have d31 : w3.cell? ⟨w.heap.size + 1, 1, none⟩ = some (.float .f32 0) := hk3.some (cell_set_ne d21 (by omega)) nB1
  have f31 : w3.frozen? ⟨w.heap.size, 1, none⟩ = false := z3 _ (by simp)
  have g31 : w3.frozen? ⟨w.heap.size + 1, 1, none⟩ = false := z3 _ (by simp)
  have c32 : w3.cell? ⟨w.heap.size, 2, none⟩ = some (.float .f32 (p 2)) := hk3.some (cell_set_ne c22 (by omega)) nB
  have d32 : w3.cell? ⟨w.heap.size + 1, 2, none⟩ = some (.float .f32 0) := hk3.some (cell_set_ne d22 (by omega)) nB1
  have f32 : w3.frozen? ⟨w.heap.size, 2, none⟩ = false := z3 _ (by simp)
  have g32 : w3.frozen? ⟨w.heap.size + 1, 2, none⟩ = false := z3 _ (by simp)
  have c33 : w3.cell? ⟨w.heap.size, 3, none⟩ = some (.float .f32 (p3)) := hk3.some (cell_set_ne c23 (by omega)) nB
  have d33 : w3.cell? ⟨w.heap.size + 1, 3, none⟩ = some (.float .f32 0) := hk3.some (cell_set_ne d23 (by omega)) nB1
  have f33 : w3.frozen? ⟨w.heap.size, 3, none⟩ = false := z3 _ (by simp)
  have g33 : w3.frozen? ⟨w.heap.size + 1, 3, none⟩ = false := z3 _ (by simp)
  clear c20 d20 f20 g20 c21 d21 f21 g21 c22 d22 f22 g22 c23 d23 f23 g23 z2
  have K3 := Lib.hid ((K2.out.setCell (Or.inl (Nat.le_refl _)) _).trans hk3)
  have J3 := Lib.hid hi3
  clear hk3 hi3
  go_wp2_with (first
    | (go_at_call 105; refine (clean_any _ _).mono ?_; rintro e w' ⟨rfl, rfl⟩)
    | fail)
  rw [rounds_succ]
  go_wp2_with (first
    | (go_at_call 105; refine (clean_any _ _).mono ?_; rintro e w' ⟨rfl, rfl⟩)
    | fail)
  (try simp only [Exit.inBlock, Exit.then])
  refine bodyPost_ret (px_ret (by exact Try.results66) _ _ (w.heap.size + 1) (.float .f32 (F 0)) (.float .f32 (F 1)) (.float .f32 (F 2)) (.float .f32 (cl .f32 p3)) ?_ ?_ ?_ ?_ rfl) rfl ?_
  · exact cell_set_ne (cell_set_ne (cell_set_ne (cell_set_eq (cell_set_ne (cell_set_ne d30 (by omega)) (by omega))) (by omega)) (by omega)) (by omega)
  · exact cell_set_ne (cell_set_ne (cell_set_eq (cell_set_ne (cell_set_ne (cell_set_ne d31 (by omega)) (by omega)) (by omega))) (by omega)) (by omega)
  · exact cell_set_ne (cell_set_eq (cell_set_ne (cell_set_ne (cell_set_ne (cell_set_ne d32 (by omega)) (by omega)) (by omega)) (by omega))) (by omega)
  · exact cell_set_eq (cell_set_ne (cell_set_ne (cell_set_ne (cell_set_ne (cell_set_ne d33 (by omega)) (by omega)) (by omega)) (by omega)) (by omega))
  refine ⟨by simp [*], ?_, HI.out _ _ _ J3.out (fun i hi => ?_)⟩
  · refine Kept.setCell (Kept.setCell (Kept.setCell (Kept.setCell (Kept.setCell (Kept.setCell K3.out ?_ _) ?_ _) ?_ _) ?_ _) ?_ _) ?_ _ <;> exact Or.inl (by simp)
  · have := HA.out i hi
    repeat (refine (Below.heap_setCell _ _ _ _ (by simp; omega)).trans ?_)
    rfl
end Go.Proofs.Ytfphhlodfieopaa
