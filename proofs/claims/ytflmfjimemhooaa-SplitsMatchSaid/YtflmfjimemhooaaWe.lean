/- farms: one work on one machine is simulated. Conditions: none. -/
import Derived.Test.YtflmfjimemhooaaWd
namespace Go.Proofs.Ytflmfjimemhooaa
open Go.RowKit
open Fl
open BigFrame

set_option linter.unusedSimpArgs false in
set_option linter.unusedVariables false in
set_option maxHeartbeats 4000000 in
set_option maxRecDepth 100000 in
theorem machines_one (Y : Nat) (w : World) (h0 : w.cell? ⟨Y, 0, none⟩ = some (.int .i64 1)) (h1 : w.cell? ⟨Y, 1, none⟩ = some (.slice none 0 0)) :
    Calls Try.prog 33 #[.slice (some ⟨Y, 0, none⟩) 1 1] w fun e w' => e = .returned (.int .i64 0) ∧ Kept None' w w' := by
  go_enter Try.func33, Try.ntmps33
  go_wp2_with fail
  refine wp_loop_rounds 2 ?_
  rw [rounds_succ]
  go_wp2_with fail
  refine wp_loop_rounds 1 ?_
  rw [rounds_succ]
  go_wp2_with fail
  rw [rounds_succ]
  go_wp2_with fail
  go_ret
  exact ⟨rfl, (Kept.refl _ _).alloc _ _⟩
theorem work_one (X : Nat) (w : World) (h0 : w.cell? ⟨X, 0, none⟩ = some (.int .i64 2)) (h1 : w.cell? ⟨X, 1, none⟩ = some (.int .i64 0)) (h2 : w.cell? ⟨X, 2, none⟩ = some (.slice none 0 0)) :
    Calls Try.prog 32 #[.slice (some ⟨X, 0, none⟩) 1 1] w fun e w' => e = .returned (.int .i64 0) ∧ Kept None' w w' := by
  have h := checkwork_any (some ⟨X, 0, none⟩) 1 1 (fun _ => 2) (fun _ => 0) (fun _ => none) (fun _ => 0) (fun _ => 0) (fun _ _ => 0) w (Nat.le_refl _) (by omega)
    ⟨fun _ => ⟨X, 0, rfl, fun i hi => by obtain rfl : i = 0 := by omega
                                         exact ⟨h0, h1, h2⟩⟩, fun i _ => ⟨Nat.le_refl _, Nat.zero_le _, fun h => absurd h (Nat.lt_irrefl 0)⟩⟩
  have e : wkE 1 (fun _ => 2) (fun _ => 0) (fun _ => 0) (fun _ _ => 0) = 0 := by decide
  rw [e] at h
  exact h
theorem sim_mk (w w2 W3 : World) (X Y S F B Z : Nat) (t : TypeId) (k : Kept None' w w2) (hx : w.cell? ⟨X, 0, none⟩ = some (.int .i64 2) ∧ w.cell? ⟨X, 1, none⟩ = some (.int .i64 0) ∧ w.cell? ⟨X, 2, none⟩ = some (.slice none 0 0) ∧ w.cell? ⟨Y, 0, none⟩ = some (.int .i64 1) ∧ w.cell? ⟨Y, 1, none⟩ = some (.slice none 0 0))
    (k3 : Kept None' w2 W3) (hZ : W3.heap.size = Z) (hS : W3.cell? ⟨S, 0, none⟩ = some (.int .i64 0)) (hB : W3.cell? ⟨B, 0, none⟩ = some (.pointer none)) (lS : w2.heap.size ≤ S) (lB : w2.heap.size ≤ B) (d : B ≠ S) (fz : ∀ a, W3.frozen? a = w2.frozen? a) :
    SimS w X Y Z S F B 0 0 none (.slice none 0 0) (W3.alloc (.cells #[.slice (some ⟨X, 0, none⟩) 1 1, .slice (some ⟨Y, 0, none⟩) 1 1, .int .i64 1, .int .i64 0, .slice (some ⟨S, 0, none⟩) 1 1, .slice (some ⟨F, 0, none⟩) 1 1, .slice (some ⟨B, 0, none⟩) 1 1, .slice none 0 0] t)).drew := by
  subst hZ
  have kk : Kept None' w (W3.alloc (.cells #[.slice (some ⟨X, 0, none⟩) 1 1, .slice (some ⟨Y, 0, none⟩) 1 1, .int .i64 1, .int .i64 0, .slice (some ⟨S, 0, none⟩) 1 1, .slice (some ⟨F, 0, none⟩) 1 1, .slice (some ⟨B, 0, none⟩) 1 1, .slice none 0 0] t)).drew := (k.trans k3).trans (kept_alloc_drew _ _ _)
  have l1 := k.size
  have l2 := k3.size
  have l3 : S < W3.heap.size := cell_lt hS
  have l4 : B < W3.heap.size := cell_lt hB
  have l5 : X < w.heap.size := cell_lt hx.1
  have l6 : Y < w.heap.size := cell_lt hx.2.2.2.1
  have c := fun j => drew_cell (cell_alloc_one W3 #[.slice (some ⟨X, 0, none⟩) 1 1, .slice (some ⟨Y, 0, none⟩) 1 1, .int .i64 1, .int .i64 0, .slice (some ⟨S, 0, none⟩) 1 1, .slice (some ⟨F, 0, none⟩) 1 1, .slice (some ⟨B, 0, none⟩) 1 1, .slice none 0 0] t j)
  have k4 := kept_alloc_drew (A := None') W3 #[.slice (some ⟨X, 0, none⟩) 1 1, .slice (some ⟨Y, 0, none⟩) 1 1, .int .i64 1, .int .i64 0, .slice (some ⟨S, 0, none⟩) 1 1, .slice (some ⟨F, 0, none⟩) 1 1, .slice (some ⟨B, 0, none⟩) 1 1, .slice none 0 0] t
  exact ⟨kk, by omega, by omega, by omega, by omega, by omega, d, c 0, c 1, c 2, c 3, c 4, c 5, c 6, c 7, k4.some hS id, k4.some hB id, kk.some hx.1 id, kk.some hx.2.1 id, kk.some hx.2.2.1 id, kk.some hx.2.2.2.1 id, kk.some hx.2.2.2.2 id, l5, l6,
    fun a ha => (k4.frozen a).trans ((fz a).trans ((k.frozen a).trans (frozen_new _ _ ha)))⟩
def SimP (w : World) (e : Ending) (w' : World) : Prop := ∃ g cap, e = .returned (.tuple #[.slice (some ⟨g, 0, none⟩) 1 cap, .int .i64 0]) ∧ Kept None' w w' ∧ w'.cell? ⟨g, 3, none⟩ = some (.int .i64 2)
set_option linter.unusedSimpArgs false in
set_option linter.unusedVariables false in
set_option maxHeartbeats 8000000 in
set_option maxRecDepth 100000 in
theorem simulate_one (X Y : Nat) (w : World) (x0 : w.cell? ⟨X, 0, none⟩ = some (.int .i64 2)) (x1 : w.cell? ⟨X, 1, none⟩ = some (.int .i64 0)) (x2 : w.cell? ⟨X, 2, none⟩ = some (.slice none 0 0)) (y0 : w.cell? ⟨Y, 0, none⟩ = some (.int .i64 1)) (y1 : w.cell? ⟨Y, 1, none⟩ = some (.slice none 0 0)) :
    Calls Try.prog 30 #[.slice (some ⟨X, 0, none⟩) 1 1, .slice (some ⟨Y, 0, none⟩) 1 1, .int .i64 1] w (SimP w) := by
  have HX := Lib.hid (And.intro x0 (And.intro x1 (And.intro x2 (And.intro y0 y1))))
  clear x0 x1 x2 y0 y1
  go_enter Try.func30, Try.ntmps30
  go_upto_region 9 with (first
    | (go_at_call 32; refine (work_one X _ HX.out.1 HX.out.2.1 HX.out.2.2.1).mono ?_; rintro e w1 ⟨rfl, hk1⟩; have K1 := Lib.hid hk1; clear hk1)
    | (go_at_call 33; refine (machines_one Y _ (K1.out.some HX.out.2.2.2.1 id) (K1.out.some HX.out.2.2.2.2 id)).mono ?_; rintro e w2 ⟨rfl, hk2⟩; have K2 := Lib.hid (K1.out.trans hk2); clear hk2))
  have hm1 : ∀ w : World, (Instr.makeSlice 38 (.int .i64 1) (.int .i64 1)).run Try.prog w = .ok (.slice (some ⟨w.heap.size, 0, none⟩) 1 1) (w.alloc (.cells #[.int .i64 0] 3)) := fun w => by
    have h := run_make_row' (P := Try.prog) 38 3 (.int .i64 0) 8 Try.underlying38 (by kernel_rfl) rfl .i64 .i64 1 (by omega) (by omega) w
    rw [show madeCells #[Value.int .i64 0] 1 = #[.int .i64 0] from by kernel_rfl] at h
    exact h
  have hm2 : ∀ w : World, (Instr.makeSlice 99 (.int .i64 1) (.int .i64 1)).run Try.prog w = .ok (.slice (some ⟨w.heap.size, 0, none⟩) 1 1) (w.alloc (.cells #[.pointer none] 117)) := fun w => by
    have h := run_make_row' (P := Try.prog) 99 117 (.pointer none) 8 Try.underlying99 (by kernel_rfl) rfl .i64 .i64 1 (by omega) (by omega) w
    rw [show madeCells #[Value.pointer none] 1 = #[.pointer none] from by kernel_rfl] at h
    exact h
  go_cut [10] (fun s10 wx => ∃ Z ST FL BU : Nat, s10 = .pointer (some ⟨Z, 0, none⟩) ∧ SimS w X Y Z ST FL BU 0 0 none (.slice none 0 0) wx)
  case first =>
    go_region
    all_goals
      go_wp2_with fail
      go_meet
      refine ⟨_, _, _, _, rfl, sim_mk w w2 _ _ _ _ _ _ _ _ K2.out HX.out ((((Kept.refl _ _).alloc _ _).alloc _ _).alloc _ _) (by simp) ?_ ?_ ?_ ?_ ?_ (fun a => (frozen?_alloc_cells _ _ _ _).trans ((frozen?_alloc_cells _ _ _ _).trans (frozen?_alloc_cells _ _ _ _)))⟩
      · go_simp
      · go_simp
      · omega
      · omega
      · omega
  case rest =>
    obtain ⟨Z, ST, FL, BU, rfl, hS⟩ := hcut
    have HS := Lib.hid hS
    clear hS hm1 hm2
    go_wp2_with fail
    refine wp_loop_rounds 3 ?_
    rw [rounds_succ]
    go_upto_region 13 with (go_at_call 50; refine (sim_end0 w X Y Z ST FL BU 0 0 _ _ HS.out).mono ?_; rintro e w3 ⟨rfl, hk⟩)
    have HS3 := Lib.hid (HS.out.step hk)
    clear hk
    refine wp_loop_rounds 2 ?_
    rw [rounds_succ]
    go_wp2_with (first
      | (go_at_call 51; refine (sim_ready0 w X Y Z ST FL BU 0 0 _ _ _ HS3.out rfl).mono ?_; rintro e w4 ⟨rfl, hk⟩; have HS4 := Lib.hid (HS3.out.step hk); clear hk)
      | (go_at_call 52; refine (sim_free w X Y Z ST FL BU 0 0 _ _ HS4.out).mono ?_; rintro e w5 ⟨rfl, hk⟩; have HS5 := Lib.hid (HS4.out.step hk); clear hk)
      | (go_at_call 53; refine (sim_begin w X Y Z ST FL BU _ _ HS5.out).mono ?_; rintro e w6 ⟨R, rfl, hS6, hR6, hl6⟩; have HS6 := Lib.hid hS6; have HR6 := Lib.hid hR6; clear hS6 hR6 hl6))
    rw [rounds_succ]
    go_upto_region 18 with (go_at_call 51; refine (sim_ready1 w X Y Z ST FL BU 0 1 _ _ _ HS6.out (by decide)).mono ?_; rintro e w7 ⟨rfl, hk⟩)
    have HS7 := Lib.hid (HS6.out.step hk)
    have HR7 := Lib.hid (HR6.out.step hk)
    clear hk
    go_wp2_with (go_at_call 54; refine (sim_next1 w X Y Z ST FL BU R _ _ HS7.out HR7.out).mono ?_; rintro e w8 ⟨rfl, hk⟩; have HS8 := Lib.hid (HS7.out.step hk); have HR8 := Lib.hid (HR7.out.step hk); have z3 := HS8.out.z3; have f3 := HS8.out.fz ⟨Z, 3, none⟩ HS8.out.lZ; clear hk)
    refine of_world (fun w9 hW => ?_)
    have HS9 := Lib.hid (show SimS w X Y Z ST FL BU 2 1 (some ⟨R, 0, none⟩) (.slice none 0 0) w9 by rw [hW]; exact HS8.out.setN 2)
    have HR9 := Lib.hid (show RunB R Z ST BU w9 by rw [hW]; exact HR8.out.set _ HR8.out.e1.symm)
    clear hW z3 f3
    try rw [rounds_succ]
    go_upto_region 13 with (go_at_call 50; refine (sim_end1 w X Y Z ST FL BU R _ HS9.out HR9.out).mono ?_; rintro e w10 ⟨g, cap, rfl, hS, hG⟩)
    have HS10 := Lib.hid hS
    have HG10 := Lib.hid hG
    clear hS hG
    refine wp_loop_rounds 1 ?_
    rw [rounds_succ]
    go_wp2_with (first
      | (go_at_call 51; refine (sim_ready1 w X Y Z ST FL BU 2 2 _ _ _ HS10.out (by decide)).mono ?_; rintro e w11 ⟨rfl, hk⟩; have HS11 := Lib.hid (HS10.out.step hk); have HG11 := Lib.hid (HG10.out.step hk); clear hk)
      | (go_at_call 54; refine (sim_next0 w X Y Z ST FL BU _ _ HS11.out).mono ?_; rintro e w12 ⟨rfl, hk⟩; have HS12 := Lib.hid (HS11.out.step hk); have HG12 := Lib.hid (HG11.out.step hk); have z3 := HS12.out.z3; have f3 := HS12.out.fz ⟨Z, 3, none⟩ HS12.out.lZ; clear hk))
    refine of_world (fun w13 hW => ?_)
    have HS13 := Lib.hid (show SimS w X Y Z ST FL BU 0 2 none (.slice (some ⟨g, 0, none⟩) 1 cap) w13 by rw [hW]; exact HS12.out.setN 0)
    have HG13 := Lib.hid (show RunB g Z ST BU w13 by rw [hW]; exact HG12.out.set _ HG12.out.e1.symm)
    clear hW z3 f3
    try rw [rounds_succ]
    have z7 := HS13.out.z7
    go_wp2_with (go_at_call 55; refine (sort_one _ _ _ _).mono ?_; rintro e w' ⟨rfl, rfl⟩)
    go_ret2
    exact ⟨g, cap, rfl, HS13.out.kept, HG13.out.r3⟩
set_option linter.unusedSimpArgs false in
set_option linter.unusedVariables false in
set_option maxHeartbeats 4000000 in
set_option maxRecDepth 100000 in
theorem farms_any (w : World) : Calls Try.prog 11 #[] w fun e w' => e = .returned (.bool true) ∧ Kept None' w w' := by
  go_enter Try.func11, Try.ntmps11
  go_wp2_with (go_at_call 30; refine (simulate_one _ _ _ (by go_simp) (by go_simp) (by go_simp) (by go_simp) (by go_simp)).mono ?_; rintro e w1 ⟨g, cap, rfl, hk, c3⟩; have K1 := Lib.hid ((((Kept.refl None' w).alloc _ _).alloc _ _).trans hk); clear hk)
  go_ret
  exact ⟨rfl, K1.out⟩
end Go.Proofs.Ytflmfjimemhooaa
