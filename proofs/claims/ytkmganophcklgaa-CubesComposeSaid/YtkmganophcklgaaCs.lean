/- The contract of cube.Blend. Conditions: none. -/
import Derived.Test.YtkmganophcklgaaCr
import Derived.Test.YtkmganophcklgaaLf
namespace Go.Proofs.Ytkmganophcklgaa
open Go.RowKit
open Fl Fr
open BigFrame

/-- The cube that is made by itself, its singles g. -/
structure BlS (w : World) (F B n : Nat) (S : Int) (lo hi : Nat) (g : Nat → Nat) (wr : World) : Prop where
  kept : Kept None' w wr
  lF : w.heap.size ≤ F
  lB : w.heap.size ≤ B
  ne : F ≠ B
  c0 : wr.cell? ⟨F, 0, none⟩ = some (.int .i64 S)
  c1 : wr.cell? ⟨F, 1, none⟩ = some (.float .f32 lo)
  c2 : wr.cell? ⟨F, 2, none⟩ = some (.float .f32 hi)
  c3 : wr.cell? ⟨F, 3, none⟩ = some (.slice (some ⟨B, 0, none⟩) n n)
  fz : ∀ a : Addr, w.heap.size ≤ a.block → wr.frozen? a = false
  cell : ∀ j, j < n → wr.cell? ⟨B, j, none⟩ = some (.float .f32 (g j))
theorem BlS.step {w : World} {F B n : Nat} {S : Int} {lo hi : Nat} {g : Nat → Nat} {wr wr' : World} (h : BlS w F B n S lo hi g wr) (hk : Kept None' wr wr') : BlS w F B n S lo hi g wr' :=
  ⟨h.kept.trans hk, h.lF, h.lB, h.ne, hk.some h.c0 id, hk.some h.c1 id, hk.some h.c2 id, hk.some h.c3 id, fun a ha => (hk.frozen a).trans (h.fz a ha), fun j hj => hk.some (h.cell j hj) id⟩
theorem BlS.set {w : World} {F B n : Nat} {S : Int} {lo hi : Nat} {g g' : Nat → Nat} {wr : World} (h : BlS w F B n S lo hi g wr) {k v : Nat} (_ : k < n) (hg : ∀ j, j < n → g' j = if j = k then v else g j) : BlS w F B n S lo hi g' (wr.setCell ⟨B, k, none⟩ (.float .f32 v)) := by
  have hne : B ≠ F := fun e => h.ne e.symm
  refine ⟨h.kept.setCell (p := ⟨B, k, none⟩) (Or.inl h.lB) _, h.lF, h.lB, h.ne, cell_set_ne h.c0 (Or.inl hne), cell_set_ne h.c1 (Or.inl hne), cell_set_ne h.c2 (Or.inl hne), cell_set_ne h.c3 (Or.inl hne), fun a ha => (World.frozen?_setCell ..).trans (h.fz a ha), fun j hj => ?_⟩
  rw [hg j hj]
  by_cases e : j = k
  · subst e; rw [if_pos rfl]; exact cell_set_eq (h.cell j hj)
  · rw [if_neg e]; exact cell_set_ne (h.cell j hj) (Or.inr (fun q => e q.symm))
theorem BlS.mk1 {w1 : World} (n : Nat) (S : Int) (lo hi : Nat) (t u : TypeId) : BlS w1 (w1.heap.size + 1) w1.heap.size n S lo hi (fun _ => 0)
    ((w1.alloc (.cells (madeCells #[.float .f32 0] n) t)).alloc (.cells #[.int .i64 S, .float .f32 lo, .float .f32 hi, .slice (some ⟨w1.heap.size, 0, none⟩) n n] u)).drew := by
  refine ⟨(((Kept.refl _ _).alloc _ _).alloc _ _).drew 1, by omega, by omega, by omega, ?_, ?_, ?_, ?_, fun a ha => ?_, fun j hj => ?_⟩
  · exact cell_alloc_snd w1 _ _ _ 0
  · exact cell_alloc_snd w1 _ _ _ 1
  · exact cell_alloc_snd w1 _ _ _ 2
  · exact cell_alloc_snd w1 _ _ _ 3
  · exact (frozen?_alloc_cells _ _ _ _).trans ((frozen?_alloc_cells _ _ _ _).trans (frozen_new _ _ ha))
  · exact (cell_alloc_two w1 _ _ _ _ j).trans (made_at n j _ hj)
theorem BlS.mk2 {w1 : World} (n : Nat) (S : Int) (lo hi : Nat) (t u : TypeId) : BlS w1 w1.heap.size (w1.heap.size + 1) n S lo hi (fun _ => 0)
    ((w1.alloc (.cells #[.int .i64 S, .float .f32 lo, .float .f32 hi, .slice (some ⟨w1.heap.size + 1, 0, none⟩) n n] u)).alloc (.cells (madeCells #[.float .f32 0] n) t)).drew := by
  refine ⟨(((Kept.refl _ _).alloc _ _).alloc _ _).drew 1, by omega, by omega, by omega, ?_, ?_, ?_, ?_, fun a ha => ?_, fun j hj => ?_⟩
  · exact cell_alloc_two w1 _ _ _ _ 0
  · exact cell_alloc_two w1 _ _ _ _ 1
  · exact cell_alloc_two w1 _ _ _ _ 2
  · exact cell_alloc_two w1 _ _ _ _ 3
  · exact (frozen?_alloc_cells _ _ _ _).trans ((frozen?_alloc_cells _ _ _ _).trans (frozen_new _ _ ha))
  · exact (cell_alloc_snd w1 _ _ _ j).trans (made_at n j _ hj)

set_option linter.unusedSimpArgs false in
set_option linter.unusedVariables false in
set_option maxHeartbeats 1000000 in
set_option maxRecDepth 100000 in
theorem blend_err (Sa Sb : Int) (loa hia lob hib : Nat) (Aa Ab : Option Addr) (na capa nb capb t : Nat) (w : World) (E : Int) (h0 : ¬ E = 0)
    (hC : ∀ w', Calls Try.prog 80 #[.agg #[.int .i64 Sa, .float .f32 loa, .float .f32 hia, .slice Aa na capa], .agg #[.int .i64 Sb, .float .f32 lob, .float .f32 hib, .slice Ab nb capb]] w' fun e w'' => e = .returned (.int .i64 E) ∧ Kept None' w' w'') :
    Calls Try.prog 60 #[.agg #[.int .i64 Sa, .float .f32 loa, .float .f32 hia, .slice Aa na capa], .agg #[.int .i64 Sb, .float .f32 lob, .float .f32 hib, .slice Ab nb capb], .float .f32 t] w (CuErr E w) := by
  have HC := Lib.hid hC
  have hb : (E != 0) = true := by simp [h0]
  clear hC
  go_enter Try.func60, Try.ntmps60
  go_upto_region 1 with fail
  refine of_world (fun W0 hW => ?_)
  have k0 : Kept None' w W0 := by rw [hW]; exact (((Kept.refl None' w).alloc _ _).alloc _ _).alloc _ _
  have hB : TwoB w.heap.size (w.heap.size + 1) (w.heap.size + 1 + 1) Sa Sb loa hia lob hib Aa Ab na capa nb capb W0 := by
    rw [hW]
    exact ⟨by go_simp, by go_simp, by go_simp, by go_simp, by go_simp, by go_simp, by go_simp, by go_simp, by go_simp, by go_simp, by go_simp, by go_simp, fun c => (frozen?_alloc_cells _ _ _ _).trans ((frozen?_alloc_cells _ _ _ _).trans ((frozen?_alloc_cells _ _ _ _).trans (frozen_new _ _ (by simp; omega))))⟩
  have HB := Lib.hid hB
  obtain ⟨a0, a1, a2, a3, b0, b1, b2, b3, -, -, -, -, -⟩ := hB
  have K0 := Lib.hid k0
  clear hW k0
  go_wp2_with (go_at_call 80; refine (HC.out _).mono ?_; rintro e w2 ⟨rfl, hk⟩; have K2 := Lib.hid hk; obtain ⟨-, -, -, -, -, -, -, -, r0, r1, r2, r3, zz⟩ := HB.out.step hk; have z0 := zz 0; have z1 := zz 1; have z2 := zz 2; have z3 := zz 3; clear hk zz)
  have cs := cells_set4 (v0 := .int .i64 0) (v1 := .float .f32 0) (v2 := .float .f32 0) (v3 := .slice none 0 0) r0 r1 r2 r3
  refine bodyPost_ret (cu_ret2 Try.results60 _ _ (w.heap.size + 1 + 1) _ _ _ _ cs rfl) rfl ?_
  exact ⟨rfl, kept_set4' (K0.out.trans K2.out) (by omega)⟩

set_option linter.unusedSimpArgs false in
set_option linter.unusedVariables false in
set_option maxHeartbeats 2000000 in
set_option maxRecDepth 100000 in
theorem blend_ok (S : Int) (Sb : Int) (lo hi lob hib ba oa bb ob n capa capb t : Nat) (za zb : Nat → Nat) (w : World) (hn4 : n ≤ 14739)
    (hC : ∀ w', Calls Try.prog 80 #[.agg #[.int .i64 S, .float .f32 lo, .float .f32 hi, .slice (some ⟨ba, oa, none⟩) n capa], .agg #[.int .i64 Sb, .float .f32 lob, .float .f32 hib, .slice (some ⟨bb, ob, none⟩) n capb]] w' fun e w'' => e = .returned (.int .i64 0) ∧ Kept None' w' w'')
    (hca : ∀ q, q < n → w.cell? ⟨ba, oa + q, none⟩ = some (.float .f32 (za q))) (hcb : ∀ q, q < n → w.cell? ⟨bb, ob + q, none⟩ = some (.float .f32 (zb q))) :
    Calls Try.prog 60 #[.agg #[.int .i64 S, .float .f32 lo, .float .f32 hi, .slice (some ⟨ba, oa, none⟩) n capa], .agg #[.int .i64 Sb, .float .f32 lob, .float .f32 hib, .slice (some ⟨bb, ob, none⟩) n capb], .float .f32 t] w (CuPost S lo hi n (fun j => lerpP (za j) (zb j) t) w) := by
  have HC := Lib.hid hC
  have HA := Lib.hid (And.intro hca hcb)
  clear hC hca hcb
  go_enter Try.func60, Try.ntmps60
  go_upto_region 1 with fail
  refine of_world (fun W0 hW => ?_)
  have k0 : Kept None' w W0 := by rw [hW]; exact (((Kept.refl None' w).alloc _ _).alloc _ _).alloc _ _
  have hB : TwoB w.heap.size (w.heap.size + 1) (w.heap.size + 1 + 1) S Sb lo hi lob hib (some ⟨ba, oa, none⟩) (some ⟨bb, ob, none⟩) n capa n capb W0 := by
    rw [hW]
    exact ⟨by go_simp, by go_simp, by go_simp, by go_simp, by go_simp, by go_simp, by go_simp, by go_simp, by go_simp, by go_simp, by go_simp, by go_simp, fun c => (frozen?_alloc_cells _ _ _ _).trans ((frozen?_alloc_cells _ _ _ _).trans ((frozen?_alloc_cells _ _ _ _).trans (frozen_new _ _ (by simp; omega))))⟩
  have hsz : W0.heap.size = w.heap.size + 3 := by rw [hW]; simp
  have HB := Lib.hid hB
  obtain ⟨a0, a1, a2, a3, b0, b1, b2, b3, -, -, -, -, -⟩ := hB
  have K0 := Lib.hid k0
  have HSZ := Lib.hid hsz
  clear hW k0 hsz
  go_upto_region 4 with (go_at_call 80; refine (HC.out _).mono ?_; rintro e w2 ⟨rfl, hk⟩)
  have K2 := Lib.hid (K0.out.trans hk)
  have HT := Lib.hid (HB.out.step hk)
  have hw2 : w.heap.size + 3 ≤ w2.heap.size := by have := hk.size; have := HSZ.out; omega
  have HW2 := Lib.hid hw2
  clear a0 a1 a2 a3 b0 b1 b2 b3 hk
  obtain ⟨a0, a1, a2, a3, b0, b1, b2, b3, -, -, -, -, -⟩ := HT.out
  have hmk := run_make_row' (P := Try.prog) 23 22 (.float .f32 0) 4 Try.underlying23 (by kernel_rfl) rfl .i64 .i64 n (by omega) (by omega)
  have l0 : w.heap.size < w2.heap.size := by omega
  have l1 : w.heap.size < w2.heap.size + 1 := by omega
  have l2 : w.heap.size < w2.heap.size + 2 := by omega
  go_cut [9] (fun s9 wx => ∃ F B : Nat, s9 = .pointer (some ⟨F, 0, none⟩) ∧ BlS w2 F B n S lo hi (fun _ => 0) wx)
  case first =>
    go_region
    · go_wp2_with fail
      go_meet
      exact ⟨_, _, rfl, BlS.mk1 n S lo hi _ _⟩
    · go_wp2_with fail
      go_meet
      exact ⟨_, _, rfl, BlS.mk2 n S lo hi _ _⟩
  case rest =>
    obtain ⟨F, B, rfl, hS⟩ := hcut
    have HS0 := Lib.hid hS
    have f3 := hS.c3
    clear hS hmk a0 a1 a2 a3 b0 b1 b2 b3 hw2 l0 l1 l2
    go_wp2_with fail
    go_loopw [32] (fun s32 wr => ∃ k : Nat, k ≤ n ∧ s32 = .int .i64 (k : Int) ∧ BlS w2 F B n S lo hi (fun j => if j < k then lerpP (za j) (zb j) t else 0) wr) (fun s32 _ => (n - intOf s32).toNat)
    case atStart => exact ⟨0, by omega, rfl, by simpa using HS0.out⟩
    case round =>
      obtain ⟨k, hk, rfl, hS⟩ := hrel
      have HS := Lib.hid hS
      have kr := hS.kept
      by_cases hlt : k < n
      · have d1 : decide ((k : Int) < (n : Int)) = true := decide_eq_true (by omega)
        have e0 : 0 ≤ (k : Int) := by omega
        have e1 : (k : Int) < (n : Int) := by omega
        have A0 := ext_cell hS.c3
        have A1 := ext_cell (kr.some HT.out.a3 id)
        have A2 := ext_cell (kr.some HT.out.b3 id)
        have A3 := ext_cell (kr.some (K2.out.some (HA.out.1 k hlt) id) id)
        have A4 := ext_cell (kr.some (K2.out.some (HA.out.2 k hlt) id) id)
        clear hS kr f3
        go_upto_region 8 with fail
        refine region_with_tail 16 (by kernel_rfl) (by kernel_rfl) ?_
        simp only [List.take_succ_cons, List.take_zero, List.drop_succ_cons, List.drop_zero]
        repeat (first
          | (refine wpWith_det ?_; go_big_quiet_want; go_big_quiet_op; go_big_quiet_on; refine wpQuiet_nil ?_)
          | (refine wpWith_det ?_; go_big_quiet_skip; refine wpQuiet_nil ?_)
          | fail)
        refine wpWith_det ?_
        go_big_quiet_want
        go_big_quiet_op
        go_big_quiet_call ((go_at_call 107; exact calls_ext_drew (lerp_any _ _ _ _)))
        refine wpQuiet_nil ?_
        repeat (first
          | (refine wpWith_det ?_; go_big_quiet_want; go_big_quiet_op; go_big_quiet_on; refine wpQuiet_nil ?_)
          | (refine wpWith_det ?_; go_big_quiet_skip; refine wpQuiet_nil ?_)
          | fail)
        refine wpWith_nil ?_
        rintro _ ⟨xq, rfl⟩
        have hS5 := HS.out.step (ext_kept _ xq)
        have cq := hS5.cell k hlt
        have zq := hS5.fz ⟨B, k, none⟩ hS5.lB
        have HS5 := Lib.hid hS5
        clear hS5 A0 A1 A2 A3 A4
        generalize ext _ xq = W5 at *
        go_wp2_with fail
        go_roundw
        case rel =>
          refine ⟨k + 1, by omega, by go_num, HS5.out.set hlt (fun j hj => ?_)⟩
          by_cases e : j = k
          · subst e; rw [if_pos (Nat.lt_succ_self _), if_pos rfl]
          · rw [if_neg e]
            by_cases e2 : j < k
            · rw [if_pos e2, if_pos (by omega)]
            · rw [if_neg e2, if_neg (by omega)]
        case measure => simp [intOf]; omega
      · obtain rfl : k = n := by omega
        have d1 : decide ((k : Int) < (k : Int)) = false := by simp
        have c0 := hS.c0
        have c1 := hS.c1
        have c2 := hS.c2
        have c3 := hS.c3
        obtain ⟨-, -, -, -, -, -, -, -, r0, r1, r2, r3, zz⟩ := HT.out.step kr
        have z0 := zz 0
        have z1 := zz 1
        have z2 := zz 2
        have z3 := zz 3
        clear hS kr zz f3
        go_wp2_with fail
        have cs := cells_set4 (v0 := .int .i64 S) (v1 := .float .f32 lo) (v2 := .float .f32 hi) (v3 := .slice (some ⟨B, 0, none⟩) k k) r0 r1 r2 r3
        refine bodyPost_ret (cu_ret2 Try.results60 _ _ (w.heap.size + 1 + 1) _ _ _ _ cs rfl) rfl ?_
        have lB := HS.out.lB
        have lw := HW2.out
        refine ⟨B, k, by omega, rfl, Nat.le_refl _, by unfold maxLen; omega, kept_set4' (K2.out.trans HS.out.kept) (by omega), fun j hj => ?_⟩
        have hne : w.heap.size + 1 + 1 ≠ B := by omega
        have hcj := HS.out.cell j hj
        rw [if_pos hj] at hcj
        exact cell_set_ne (cell_set_ne (cell_set_ne (cell_set_ne hcj (Or.inl hne)) (Or.inl hne)) (Or.inl hne)) (Or.inl hne)
end Go.Proofs.Ytkmganophcklgaa
