/- The contract of the reference's MadeOf. Conditions: none. -/
import Derived.Test.YtkmganophcklgaaC1
namespace Go.Proofs.Ytkmganophcklgaa
open Go.RowKit
open Fl Fr
open BigFrame

theorem CbS.slice {w : World} {Fb : Nat} {S : Int} {lo hi : Nat} {v : Value} {m : Nat} {G : Nat → Nat} {wr : World} (h : CbS w Fb S lo hi v m G wr) (hm : 0 < m) :
    ∃ B cap, v = .slice (some ⟨B, 0, none⟩) m cap ∧ Fb + 1 ≤ B ∧ m ≤ cap ∧ cap ≤ maxLen ∧ ∀ j, j < m → wr.cell? ⟨B, j, none⟩ = some (.float .f32 (G j)) := by
  rcases h.own.2 with ⟨_, h0⟩ | ⟨B, cap, cur, rfl, hB, -, hcp, hcp2, -⟩
  · omega
  · refine ⟨B, cap, rfl, hB, hcp, hcp2, fun j hj => ?_⟩
    have := h.own.cells (g := B) rfl j (.float .f32 (G j)) (by simp [hj])
    rwa [add_zero_block] at this

set_option linter.unusedSimpArgs false in
set_option linter.unusedVariables false in
set_option maxHeartbeats 4000000 in
set_option maxRecDepth 100000 in
theorem madeof_gen (S : Nat) (lo hi : Nat) (g : FuncId) (caps : Array Value) (F : Int → Int → Int → Nat → Nat) (w : World) (s1 : 2 ≤ S) (s2 : S ≤ 17) (hg : ∀ args w, (callFunc g args).run Try.prog w = .ok (.enter g args) w) (hf : Gives g caps F S w) :
    Calls Try.prog 18 #[.int .i64 (S : Int), .float .f32 lo, .float .f32 hi, .func (.func g) #[] caps] w (CuMade S lo hi (3 * (S * (S * S))) (cubG F S) w) := by
  have HF := Lib.hid hf
  clear hf
  go_enter Try.func18, Try.ntmps18
  go_upto_region 2 with (fail)
  refine of_world (fun W0 hW => ?_)
  obtain ⟨W1, hW1⟩ : ∃ W1, W1 = (w.alloc (.cells #[.func (.func g) #[] caps] 38)).alloc (.cells #[.int .i64 0, .float .f32 0, .float .f32 0, .slice none 0 0] 25) := ⟨_, rfl⟩
  rw [← hW1] at hW
  have hT : W1.cell? ⟨w.heap.size, 0, none⟩ = some (.func (.func g) #[] caps) := by rw [hW1]; exact cell_alloc_two w _ _ _ _ 0
  have r0 : W1.cell? ⟨w.heap.size + 1, 0, none⟩ = some (.int .i64 0) := by rw [hW1]; exact cell_alloc_snd w _ _ _ 0
  have r1 : W1.cell? ⟨w.heap.size + 1, 1, none⟩ = some (.float .f32 0) := by rw [hW1]; exact cell_alloc_snd w _ _ _ 1
  have r2 : W1.cell? ⟨w.heap.size + 1, 2, none⟩ = some (.float .f32 0) := by rw [hW1]; exact cell_alloc_snd w _ _ _ 2
  have r3 : W1.cell? ⟨w.heap.size + 1, 3, none⟩ = some (.slice none 0 0) := by rw [hW1]; exact cell_alloc_snd w _ _ _ 3
  have z1 : ∀ a : Addr, w.heap.size ≤ a.block → W1.frozen? a = false := fun a ha => by rw [hW1]; exact (frozen?_alloc_cells _ _ _ _).trans ((frozen?_alloc_cells _ _ _ _).trans (frozen_new _ _ ha))
  have hsz : W1.heap.size = w.heap.size + 1 + 1 := by rw [hW1]; simp
  have K0 : Kept None' w W1 := by rw [hW1]; exact ((Kept.refl None' w).alloc _ _).alloc _ _
  have hS0 : CbS W1 (w.heap.size + 1 + 1) S lo hi (.slice none 0 0) (3 * 0) (cubG F S) W0 := by
    rw [← hsz, hW]
    refine ⟨(Kept.refl _ _).alloc _ _, Nat.le_refl _, by simp, cell_alloc_one W1 _ _ 0, cell_alloc_one W1 _ _ 1, cell_alloc_one W1 _ _ 2, cell_alloc_one W1 _ _ 3, fun a ha => (frozen?_alloc_cells _ _ _ _).trans (frozen_new _ _ ha), World.ownsRow_nil _ _ _ _⟩
  have HP := Lib.hid (places_gen S 75 #[.pointer (some ⟨w.heap.size, 0, none⟩), .pointer (some ⟨w.heap.size + 1 + 1, 0, none⟩)] (fun n wr => ∃ v, CbS W1 (w.heap.size + 1 + 1) S lo hi v (3 * n) (cubG F S) wr) W0 s1 s2 Try.call75
    (fun n wr wr' ⟨v, h⟩ hk => ⟨v, h.step hk⟩) ⟨_, hS0⟩ (madeof1_shows S lo hi (w.heap.size + 1 + 1) w.heap.size g caps F w W1 s1 s2 hg K0 hT HF.out))
  have Z1 := Lib.hid z1
  have K0 := Lib.hid K0
  have HSZ := Lib.hid hsz
  have R := Lib.hid (And.intro r0 (And.intro r1 (And.intro r2 r3)))
  clear hW hW1 hS0 z1 hsz r0 r1 r2 r3
  go_wp2_with (go_at_call 74; refine HP.out.mono ?_; rintro e w1 ⟨rfl, v, hS⟩; obtain ⟨B, cap, rfl, hB, hcp, hcp2, hc⟩ := hS.slice (Nat.mul_pos (by omega) (Nat.mul_pos (by omega) (Nat.mul_pos (by omega) (by omega)))); have HB := Lib.hid (And.intro hB (And.intro hcp (And.intro hcp2 hc))); clear hB hcp hcp2 hc; have HS := Lib.hid hS; have kp := hS.kept; have v0 := kp.some R.out.1 id; have v1 := kp.some R.out.2.1 id; have v2 := kp.some R.out.2.2.1 id; have v3 := kp.some R.out.2.2.2 id; have f0 : w1.frozen? ⟨w.heap.size + 1, 0, none⟩ = false := (kp.frozen _).trans (Z1.out _ (by simp)); have f1 : w1.frozen? ⟨w.heap.size + 1, 1, none⟩ = false := (kp.frozen _).trans (Z1.out _ (by simp)); have f2 : w1.frozen? ⟨w.heap.size + 1, 2, none⟩ = false := (kp.frozen _).trans (Z1.out _ (by simp)); have f3 : w1.frozen? ⟨w.heap.size + 1, 3, none⟩ = false := (kp.frozen _).trans (Z1.out _ (by simp)); have m0 := hS.c0; have m1 := hS.c1; have m2 := hS.c2; have m3 := hS.c3; have KP := Lib.hid kp; clear hS kp)
  refine bodyPost_ret (cu_ret1 Try.results18 _ _ (w.heap.size + 1) _ _ _ _ (cells_set4 v0 v1 v2 v3) rfl) rfl ?_
  obtain ⟨hB, hcp, hcp2, hc⟩ := HB.out
  refine ⟨B, cap, by omega, rfl, hcp, hcp2, kept_set4' (K0.out.trans KP.out) (by omega), fun j hj => ?_⟩
  have hne : w.heap.size + 1 ≠ B := by omega
  exact cell_set_ne (cell_set_ne (cell_set_ne (cell_set_ne (hc j hj) (Or.inl hne)) (Or.inl hne)) (Or.inl hne)) (Or.inl hne)
end Go.Proofs.Ytkmganophcklgaa
