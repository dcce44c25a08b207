/- Contracts of the simulation of one work on one machine: its end, what comes next, and the sorting of one run. Conditions: none. -/
import Derived.Test.YtflmfjimemhooaaWc
import Derived.Test.YtflmfjimemhooaaMd
namespace Go.Proofs.Ytflmfjimemhooaa
open Go.RowKit
open Fl
open BigFrame

theorem run_info : (Try.prog.info? 46).map (fun i => (i.zero, i.size, i.bytes)) = some (some (.agg #[.int .i64 0, .int .i64 0, .int .i64 0, .int .i64 0, .bool false]), 5, 40) := by kernel_rfl
theorem kept_nil {w w' : World} (k : Kept (fun k => (Value.slice none 0 0).ownBlock = some k) w w') : Kept None' w w' :=
  ⟨k.os, k.output, k.size, k.frozen, fun i hi _ => k.block i hi (by simp [Value.ownBlock])⟩
theorem news_five {w : World} {b : Nat} {u0 u1 u2 u3 u4 : Value} (h0 : w.cell? ⟨b, 0, none⟩ = some u0) (h1 : w.cell? ⟨b, 1, none⟩ = some u1) (h2 : w.cell? ⟨b, 2, none⟩ = some u2) (h3 : w.cell? ⟨b, 3, none⟩ = some u3) (h4 : w.cell? ⟨b, 4, none⟩ = some u4) : ∀ j u, [u0, u1, u2, u3, u4][j]? = some u → w.cell? ((⟨b, 0, none⟩ : Addr).add j) = some u := fun j u hj => by
  match j with
  | 0 => simp at hj; subst hj; simpa [Addr.add] using h0
  | 1 => simp at hj; subst hj; simpa [Addr.add] using h1
  | 2 => simp at hj; subst hj; simpa [Addr.add] using h2
  | 3 => simp at hj; subst hj; simpa [Addr.add] using h3
  | 4 => simp at hj; subst hj; simpa [Addr.add] using h4
  | j + 5 => simp at hj
theorem add_at (b j : Nat) : (⟨b, 0, none⟩ : Addr).add j = ⟨b, j, none⟩ := by
  unfold Addr.add
  by_cases h : j = 0
  · subst h; simp
  · simp [h]
theorem info_parts' {P : Program} {t : TypeId} {z : Value} {s b : Nat} (h : (P.info? t).map (fun i => (i.zero, i.size, i.bytes)) = some (some z, s, b)) : ∃ i, P.info? t = some i ∧ i.zero = some z ∧ i.size = s ∧ i.bytes = b := by
  cases hi : P.info? t with
  | none => rw [hi] at h; simp at h
  | some i => rw [hi] at h; simp at h; exact ⟨i, rfl, h.1, h.2.1, h.2.2⟩
def EndP (w0 : World) (X Y Z ST FL BU : Nat) (e : Ending) (w' : World) : Prop := ∃ g cap, e = Unit0 ∧ SimS w0 X Y Z ST FL BU 2 2 none (.slice (some ⟨g, 0, none⟩) 1 cap) w' ∧ RunB g Z ST BU w'

set_option linter.unusedSimpArgs false in
set_option linter.unusedVariables false in
set_option maxHeartbeats 4000000 in
set_option maxRecDepth 100000 in
theorem sim_end0 (w0 : World) (X Y Z ST FL BU : Nat) (now st : Int) (rn : Value) (w : World) (h : SimS w0 X Y Z ST FL BU now st none rn w) : Calls Try.prog 50 #[.pointer (some ⟨Z, 0, none⟩)] w fun e w' => e = Unit0 ∧ Kept None' w w' := by
  have HS := Lib.hid h
  have K0 := Lib.hid (Kept.refl None' w)
  clear h
  have z0 := HS.out.z0
  have z1 := HS.out.z1
  have z2 := HS.out.z2
  have z3 := HS.out.z3
  have z4 := HS.out.z4
  have z5 := HS.out.z5
  have z6 := HS.out.z6
  have z7 := HS.out.z7
  have s0 := HS.out.s0
  have b0 := HS.out.b0
  have x0 := HS.out.x0
  have x1 := HS.out.x1
  have x2 := HS.out.x2
  have y0 := HS.out.y0
  have y1 := HS.out.y1
  go_enter Try.func50, Try.ntmps50
  go_wp2_with fail
  refine wp_loop_rounds 2 ?_
  rw [rounds_succ]
  go_upto_region 3 with fail
  have A0 := ext_cell z0
  have A1 := ext_cell z1
  have A2 := ext_cell z2
  have A3 := ext_cell z3
  have A4 := ext_cell z4
  have A5 := ext_cell z5
  have A6 := ext_cell z6
  have A7 := ext_cell z7
  have A8 := ext_cell s0
  have A9 := ext_cell b0
  have A10 := ext_cell x0
  have A11 := ext_cell x1
  have A12 := ext_cell x2
  have A13 := ext_cell y0
  have A14 := ext_cell y1
  refine region_ext (by kernel_rfl) (by kernel_rfl) ?_
  repeat (first
    | go_big_quiet_skip
    | (go_big_quiet_want; go_big_quiet_op; first | go_big_quiet_on | go_big_quiet_call (first
      | (fail))))
  refine wpQuiet_nil ?_
  rintro _ ⟨xq, rfl⟩
  have HS2 := Lib.hid (HS.out.step (ext_kept w xq))
  have K2 := Lib.hid (K0.out.trans (ext_kept w xq))
  clear A0 A1 A2 A3 A4 A5 A6 A7 A8 A9 A10 A11 A12 A13 A14

  clear z0 z1 z2 z3 z4 z5 z6 z7 s0 b0 x0 x1 x2 y0 y1
  generalize ext w xq = W2 at *
  go_wp2_with fail
  rw [rounds_succ]
  go_wp2_with fail
  go_end0
  exact ⟨rfl, K2.out⟩

set_option linter.unusedSimpArgs false in
set_option linter.unusedVariables false in
set_option maxHeartbeats 4000000 in
set_option maxRecDepth 100000 in
theorem sim_end1 (w0 : World) (X Y Z ST FL BU R : Nat) (w : World) (h : SimS w0 X Y Z ST FL BU 2 1 (some ⟨R, 0, none⟩) (.slice none 0 0) w) (hR : RunB R Z ST BU w) : Calls Try.prog 50 #[.pointer (some ⟨Z, 0, none⟩)] w (EndP w0 X Y Z ST FL BU) := by
  have HS := Lib.hid h
  have HR := Lib.hid hR
  clear h hR
  have z0 := HS.out.z0
  have z1 := HS.out.z1
  have z2 := HS.out.z2
  have z3 := HS.out.z3
  have z4 := HS.out.z4
  have z5 := HS.out.z5
  have z6 := HS.out.z6
  have z7 := HS.out.z7
  have s0 := HS.out.s0
  have b0 := HS.out.b0
  have x0 := HS.out.x0
  have x1 := HS.out.x1
  have x2 := HS.out.x2
  have y0 := HS.out.y0
  have y1 := HS.out.y1
  have r0 := HR.out.r0
  have r1 := HR.out.r1
  have r2 := HR.out.r2
  have r3 := HR.out.r3
  have r4 := HR.out.r4
  go_enter Try.func50, Try.ntmps50
  go_wp2_with fail
  refine wp_loop_rounds 2 ?_
  rw [rounds_succ]
  go_upto_region 3 with fail
  have A0 := ext_cell z0
  have A1 := ext_cell z1
  have A2 := ext_cell z2
  have A3 := ext_cell z3
  have A4 := ext_cell z4
  have A5 := ext_cell z5
  have A6 := ext_cell z6
  have A7 := ext_cell z7
  have A8 := ext_cell s0
  have A9 := ext_cell b0
  have A10 := ext_cell x0
  have A11 := ext_cell x1
  have A12 := ext_cell x2
  have A13 := ext_cell y0
  have A14 := ext_cell y1
  have A15 := ext_cell r0
  have A16 := ext_cell r1
  have A17 := ext_cell r2
  have A18 := ext_cell r3
  have A19 := ext_cell r4
  refine region_ext (by kernel_rfl) (by kernel_rfl) ?_
  repeat (first
    | go_big_quiet_skip
    | (go_big_quiet_want; go_big_quiet_op; first | go_big_quiet_on | go_big_quiet_call (first
      | (fail))))
  refine wpQuiet_nil ?_
  rintro _ ⟨xq, rfl⟩
  have HS2 := Lib.hid (HS.out.step (ext_kept w xq))
  have HR2 := Lib.hid (HR.out.step (ext_kept w xq))
  clear A0 A1 A2 A3 A4 A5 A6 A7 A8 A9 A10 A11 A12 A13 A14 A15 A16 A17 A18 A19 r0 r1 r2 r3 r4
  clear z0 z1 z2 z3 z4 z5 z6 z7 s0 b0 x0 x1 x2 y0 y1
  generalize ext w xq = W2 at *
  have z0 := HS2.out.z0
  have z1 := HS2.out.z1
  have z2 := HS2.out.z2
  have z3 := HS2.out.z3
  have z4 := HS2.out.z4
  have z5 := HS2.out.z5
  have z6 := HS2.out.z6
  have z7 := HS2.out.z7
  have s0 := HS2.out.s0
  have b0 := HS2.out.b0
  have x0 := HS2.out.x0
  have x1 := HS2.out.x1
  have x2 := HS2.out.x2
  have y0 := HS2.out.y0
  have y1 := HS2.out.y1
  have zB := HS2.out.fz ⟨BU, 0, none⟩ HS2.out.lB
  go_upto_region 5 with fail
  refine of_world (fun W4 hW => ?_)
  have HS4 := Lib.hid (show SimS w0 X Y Z ST FL BU 2 1 none (.slice none 0 0) W4 by rw [hW]; exact HS2.out.setB none)
  have HR4 := Lib.hid (show RunB R Z ST BU W4 by rw [hW]; exact HR2.out.set _ HR2.out.e3.symm)
  clear hW zB
  clear z0 z1 z2 z3 z4 z5 z6 z7 s0 b0 x0 x1 x2 y0 y1
  have z0 := HS4.out.z0
  have z1 := HS4.out.z1
  have z2 := HS4.out.z2
  have z3 := HS4.out.z3
  have z4 := HS4.out.z4
  have z5 := HS4.out.z5
  have z6 := HS4.out.z6
  have z7 := HS4.out.z7
  have s0 := HS4.out.s0
  have b0 := HS4.out.b0
  have x0 := HS4.out.x0
  have x1 := HS4.out.x1
  have x2 := HS4.out.x2
  have y0 := HS4.out.y0
  have y1 := HS4.out.y1
  have r0 := HR4.out.r0
  have r1 := HR4.out.r1
  have r2 := HR4.out.r2
  have r3 := HR4.out.r3
  have r4 := HR4.out.r4
  obtain ⟨i0, hi0, hz0, hz1, hz2⟩ := info_parts' run_info
  have zZ := HS4.out.fz ⟨Z, 7, none⟩ HS4.out.lZ
  have lZ : Z < W4.heap.size := cell_lt z7
  clear z0 z1 z2 z3 z4 z5 z6 s0 b0 x0 x1 x2 y0 y1
  go_region_law (first
    | (refine step_append_kept _ (by rfl) _ _ _ (by rfl) W4.heap.size 46 i0 _ 5 40 Try.underlying37 hi0 hz0 hz1 hz2 rfl (by omega) (.slice none 0 0) 0 [] (by rfl)
            (World.ownsRow_nil _ _ _ _) ⟨W4.heap.size, 0, none⟩ 1 1 [.int .i64 0, .int .i64 0, .int .i64 0, .int .i64 2, .bool false] (by rfl) rfl (by first | exact news_five (cell_alloc_one W4.drew _ _ 0) (cell_alloc_one W4.drew _ _ 1) (cell_alloc_one W4.drew _ _ 2) (cell_alloc_one W4.drew _ _ 3) (cell_alloc_one W4.drew _ _ 4) | exact news_five (drew_cell (cell_alloc_one W4 _ _ 0)) (drew_cell (cell_alloc_one W4 _ _ 1)) (drew_cell (cell_alloc_one W4 _ _ 2)) (drew_cell (cell_alloc_one W4 _ _ 3)) (drew_cell (cell_alloc_one W4 _ _ 4))) (by simp [Value.oneCell']) (by omega) (by unfold maxLen; omega) (by omega) (by simp) ?_
       intro g4 cap4 w5 hown4 hk4 hat4
       have k5 : Kept None' W4 w5 := Kept.trans (by first | exact kept_alloc_drew _ _ _ | exact (kept_drew1 _).alloc _ _) (kept_nil hk4)
       have e4 := k5.some z7 id
       have e5 := (k5.frozen ⟨Z, 7, none⟩).trans zZ)
    | fail)
  all_goals
    have HS5 := Lib.hid ((HS4.out.step k5).setR (.slice (some ⟨g4, 0, none⟩) 1 cap4))
    have lg : W4.heap.size ≤ g4 := by
      rcases hown4.2 with ⟨h0, _⟩ | ⟨g, cap, cur, hg, hb, _⟩
      · cases h0
      · injection hg with hg _ _
        injection hg with hg
        injection hg with hg _ _
        omega
    have HG5 : RunB g4 Z ST BU w5 := by
      have c := hown4.cells (g := g4) rfl
      have a1 : Z < W4.heap.size := lZ
      have a2 : ST < W4.heap.size := cell_lt HS4.out.s0
      have a3 : BU < W4.heap.size := cell_lt HS4.out.b0
      refine ⟨?_, ?_, ?_, ?_, ?_, by omega, by omega, by omega⟩
      · have := c 0 (.int .i64 0) rfl; rwa [add_at] at this
      · have := c 1 (.int .i64 0) rfl; rwa [add_at] at this
      · have := c 2 (.int .i64 0) rfl; rwa [add_at] at this
      · have := c 3 (.int .i64 2) rfl; rwa [add_at] at this
      · have := c 4 (.bool false) rfl; rwa [add_at] at this
    have HG5 := Lib.hid (HG5.set (q := Z) (o := 7) (.slice (some ⟨g4, 0, none⟩) 1 cap4) HG5.e1.symm)
    have HR5 := Lib.hid ((HR4.out.step k5).set (q := Z) (o := 7) (.slice (some ⟨g4, 0, none⟩) 1 cap4) HR4.out.e1.symm)
    clear hown4 hk4 hat4 k5 e4 e5 lg r0 r1 r2 r3 r4 z7 zZ lZ hi0 hz0 hz1 hz2
    go_upto_region 6 with fail
    generalize World.setCell w5 _ _ = W6 at *
    have z0 := HS5.out.z0
    have z1 := HS5.out.z1
    have z2 := HS5.out.z2
    have z3 := HS5.out.z3
    have z4 := HS5.out.z4
    have z5 := HS5.out.z5
    have z6 := HS5.out.z6
    have z7 := HS5.out.z7
    have s0 := HS5.out.s0
    have b0 := HS5.out.b0
    have x0 := HS5.out.x0
    have x1 := HS5.out.x1
    have x2 := HS5.out.x2
    have y0 := HS5.out.y0
    have y1 := HS5.out.y1
    have r0 := HR5.out.r0
    have r1 := HR5.out.r1
    have r2 := HR5.out.r2
    have r3 := HR5.out.r3
    have r4 := HR5.out.r4
    have A0 := ext_cell z0
    have A1 := ext_cell z1
    have A2 := ext_cell z2
    have A3 := ext_cell z3
    have A4 := ext_cell z4
    have A5 := ext_cell z5
    have A6 := ext_cell z6
    have A7 := ext_cell z7
    have A8 := ext_cell s0
    have A9 := ext_cell b0
    have A10 := ext_cell x0
    have A11 := ext_cell x1
    have A12 := ext_cell x2
    have A13 := ext_cell y0
    have A14 := ext_cell y1
    have A15 := ext_cell r0
    have A16 := ext_cell r1
    have A17 := ext_cell r2
    have A18 := ext_cell r3
    have A19 := ext_cell r4
    refine region_ext_tail 9 (by kernel_rfl) (by kernel_rfl) ?_
    simp only [List.take_succ_cons, List.take_zero, List.drop_succ_cons, List.drop_zero]
    repeat (first
      | go_big_quiet_skip
      | (go_big_quiet_want; go_big_quiet_op; first | go_big_quiet_on | go_big_quiet_call (first
        | (fail))))
    refine wpQuiet_nil ?_
    rintro _ ⟨xq, rfl⟩
    have HS6 := Lib.hid (HS5.out.step (ext_kept W6 xq))
    have HR6 := Lib.hid (HR5.out.step (ext_kept W6 xq))
    have HG6 := Lib.hid (HG5.out.step (ext_kept W6 xq))
    clear A0 A1 A2 A3 A4 A5 A6 A7 A8 A9 A10 A11 A12 A13 A14 A15 A16 A17 A18 A19 r0 r1 r2 r3 r4
    clear z0 z1 z2 z3 z4 z5 z6 z7 s0 b0 x0 x1 x2 y0 y1
    generalize ext W6 xq = W7 at *
    have z0 := HS6.out.z0
    have z1 := HS6.out.z1
    have z2 := HS6.out.z2
    have z3 := HS6.out.z3
    have z4 := HS6.out.z4
    have z5 := HS6.out.z5
    have z6 := HS6.out.z6
    have z7 := HS6.out.z7
    have s0 := HS6.out.s0
    have b0 := HS6.out.b0
    have x0 := HS6.out.x0
    have x1 := HS6.out.x1
    have x2 := HS6.out.x2
    have y0 := HS6.out.y0
    have y1 := HS6.out.y1
    have r0 := HR6.out.r0
    have r1 := HR6.out.r1
    have r2 := HR6.out.r2
    have r3 := HR6.out.r3
    have r4 := HR6.out.r4
    have zS := HS6.out.fz ⟨ST, 0, none⟩ HS6.out.lS
    have nR : ST ≠ R := HR6.out.e2.symm
    go_upto_region 7 with fail
    refine of_world (fun W8 hW => ?_)
    have HS8 := Lib.hid (show SimS w0 X Y Z ST FL BU 2 2 none (.slice (some ⟨g4, 0, none⟩) 1 cap4) W8 by rw [hW]; exact HS6.out.setS 2)
    have HR8 := Lib.hid (show RunB R Z ST BU W8 by rw [hW]; exact HR6.out.set _ HR6.out.e2.symm)
    have HG8 := Lib.hid (show RunB g4 Z ST BU W8 by rw [hW]; exact HG6.out.set _ HG6.out.e2.symm)
    clear hW zS nR r0 r1 r2 r3 r4
    clear z0 z1 z2 z3 z4 z5 z6 z7 s0 b0 x0 x1 x2 y0 y1
    have z0 := HS8.out.z0
    have z1 := HS8.out.z1
    have z2 := HS8.out.z2
    have z3 := HS8.out.z3
    have z4 := HS8.out.z4
    have z5 := HS8.out.z5
    have z6 := HS8.out.z6
    have z7 := HS8.out.z7
    have s0 := HS8.out.s0
    have b0 := HS8.out.b0
    have x0 := HS8.out.x0
    have x1 := HS8.out.x1
    have x2 := HS8.out.x2
    have y0 := HS8.out.y0
    have y1 := HS8.out.y1
    have r0 := HR8.out.r0
    have r1 := HR8.out.r1
    have r2 := HR8.out.r2
    have r3 := HR8.out.r3
    have r4 := HR8.out.r4
    go_wp2_with fail
    rw [rounds_succ]
    go_wp2_with fail
    go_end0
    exact ⟨g4, cap4, rfl, HS8.out, HG8.out⟩

set_option linter.unusedSimpArgs false in
set_option linter.unusedVariables false in
set_option maxHeartbeats 4000000 in
set_option maxRecDepth 100000 in
theorem take_first (T4 T5 : Nat) (t : Int) (w : World) (h4 : w.cell? ⟨T4, 0, none⟩ = some (.int .i64 0)) (h5 : w.cell? ⟨T5, 0, none⟩ = some (.bool false)) (z4 : w.frozen? ⟨T4, 0, none⟩ = false) (z5 : w.frozen? ⟨T5, 0, none⟩ = false) (hne : T4 ≠ T5) :
    Calls Try.prog 72 #[.int .i64 t, .pointer (some ⟨T5, 0, none⟩), .pointer (some ⟨T4, 0, none⟩)] w fun e w' => e = Unit0 ∧ (w.setCell ⟨T4, 0, none⟩ (.int .i64 t)).setCell ⟨T5, 0, none⟩ (.bool true) = w' := by
  go_enter Try.func72, Try.ntmps72
  go_wp2_with fail
  go_end0
  exact ⟨rfl, rfl⟩

set_option linter.unusedSimpArgs false in
set_option linter.unusedVariables false in
set_option maxHeartbeats 4000000 in
set_option maxRecDepth 100000 in
theorem sim_next1 (w0 : World) (X Y Z ST FL BU R : Nat) (rn : Value) (w : World) (h : SimS w0 X Y Z ST FL BU 0 1 (some ⟨R, 0, none⟩) rn w) (hR : RunB R Z ST BU w) : Calls Try.prog 54 #[.pointer (some ⟨Z, 0, none⟩)] w fun e w' => e = .returned (.tuple #[.int .i64 2, .bool true]) ∧ Kept None' w w' := by
  have HS := Lib.hid h
  have HR := Lib.hid hR
  clear h hR
  go_enter Try.func54, Try.ntmps54
  go_upto_region 3 with fail
  refine of_world (fun W0 hW => ?_)
  have k0 : Kept None' w W0 := by rw [hW]; exact ((Kept.refl _ _).alloc _ _).alloc _ _
  have t4 : W0.cell? ⟨w.heap.size, 0, none⟩ = some (.int .i64 0) := by rw [hW]; go_simp
  have t5 : W0.cell? ⟨w.heap.size + 1, 0, none⟩ = some (.bool false) := by rw [hW]; go_simp
  have zz : ∀ a : Addr, w.heap.size ≤ a.block → W0.frozen? a = false := fun a ha => by rw [hW]; exact (frozen?_alloc_cells _ _ _ _).trans ((frozen?_alloc_cells _ _ _ _).trans (frozen_new _ _ ha))
  have y4 := zz ⟨w.heap.size, 0, none⟩ (Nat.le_refl _)
  have y5 := zz ⟨w.heap.size + 1, 0, none⟩ (Nat.le_succ _)
  have HS0 := Lib.hid (HS.out.step k0)
  have HR0 := Lib.hid (HR.out.step k0)
  have HZ := Lib.hid (And.intro k0 (And.intro t4 (And.intro t5 (And.intro y4 y5))))
  have HN := Lib.hid (Nat.le_refl w.heap.size)
  clear hW k0 zz t4 t5 y4 y5
  go_upto_region 4 with (go_at_call 51; refine (sim_ready1 w0 X Y Z ST FL BU _ _ _ _ _ HS0.out (by decide)).mono ?_; rintro e w1 ⟨rfl, hk1⟩)
  have HS1 := Lib.hid (HS0.out.step hk1)
  have HR1 := Lib.hid (HR0.out.step hk1)
  have K1 := Lib.hid (HZ.out.1.trans hk1)
  have t4 := hk1.some HZ.out.2.1 id
  have t5 := hk1.some HZ.out.2.2.1 id
  have y4 := (hk1.frozen _).trans HZ.out.2.2.2.1
  have y5 := (hk1.frozen _).trans HZ.out.2.2.2.2
  clear hk1
  have z0 := HS1.out.z0
  have z1 := HS1.out.z1
  have z2 := HS1.out.z2
  have z3 := HS1.out.z3
  have z4 := HS1.out.z4
  have z5 := HS1.out.z5
  have z6 := HS1.out.z6
  have z7 := HS1.out.z7
  have s0 := HS1.out.s0
  have b0 := HS1.out.b0
  have x0 := HS1.out.x0
  have x1 := HS1.out.x1
  have x2 := HS1.out.x2
  have y0 := HS1.out.y0
  have y1 := HS1.out.y1
  have r0 := HR1.out.r0
  have r1 := HR1.out.r1
  have r2 := HR1.out.r2
  have r3 := HR1.out.r3
  have r4 := HR1.out.r4
  go_wp2_with fail
  refine wp_loop_rounds 2 ?_
  rw [rounds_succ]
  have HT := Lib.hid (take_first w.heap.size (w.heap.size + 1) 2 w1 t4 t5 y4 y5 (by omega))
  clear y4 y5
  go_upto_region 11 with (go_at_call 72; refine HT.out.mono ?_; rintro e w2 ⟨rfl, rfl⟩)
  refine of_world (fun w2 hw2 => ?_)
  have nn : w.heap.size ≠ w.heap.size + 1 := by omega
  have u4 : w2.cell? ⟨w.heap.size, 0, none⟩ = some (.int .i64 2) := by rw [hw2]; exact cell_set_ne (cell_set_eq t4) (Or.inl nn.symm)
  have u5 : w2.cell? ⟨w.heap.size + 1, 0, none⟩ = some (.bool true) := by rw [hw2]; exact cell_set_eq (cell_set_ne t5 (Or.inl nn))
  have k2 : Kept None' w w2 := by rw [hw2]; exact (K1.out.setCell (Or.inl (Nat.le_refl _)) _).setCell (Or.inl (Nat.le_succ _)) _
  have K2 := Lib.hid k2
  clear hw2 k2 nn t4 t5
  clear z0 z1 z2 z3 z4 z5 z6 z7 s0 b0 x0 x1 x2 y0 y1
  clear r0 r1 r2 r3 r4
  go_wp2_with fail
  rw [rounds_succ]
  go_upto_region 12 with fail
  have A0 := ext_cell u4
  have A1 := ext_cell u5
  clear u4 u5
  refine region_ext (by kernel_rfl) (by kernel_rfl) ?_
  repeat (first
    | go_big_quiet_skip
    | (go_big_quiet_want; go_big_quiet_op; first | go_big_quiet_on | go_big_quiet_call (first
      | (fail))))
  refine wpQuiet_nil ?_
  rintro _ ⟨xq, rfl⟩
  have K3 := Lib.hid (K2.out.trans (ext_kept w2 xq))
  clear A0 A1
  generalize ext w2 xq = W3 at *
  go_wp2_with fail
  go_ret2
  exact ⟨rfl, K3.out⟩

set_option linter.unusedSimpArgs false in
set_option linter.unusedVariables false in
set_option maxHeartbeats 4000000 in
set_option maxRecDepth 100000 in
theorem sim_next0 (w0 : World) (X Y Z ST FL BU : Nat) (rn : Value) (w : World) (h : SimS w0 X Y Z ST FL BU 2 2 none rn w) : Calls Try.prog 54 #[.pointer (some ⟨Z, 0, none⟩)] w fun e w' => e = .returned (.tuple #[.int .i64 0, .bool false]) ∧ Kept None' w w' := by
  have HS := Lib.hid h
  clear h
  go_enter Try.func54, Try.ntmps54
  go_upto_region 3 with fail
  refine of_world (fun W0 hW => ?_)
  have k0 : Kept None' w W0 := by rw [hW]; exact ((Kept.refl _ _).alloc _ _).alloc _ _
  have t4 : W0.cell? ⟨w.heap.size, 0, none⟩ = some (.int .i64 0) := by rw [hW]; go_simp
  have t5 : W0.cell? ⟨w.heap.size + 1, 0, none⟩ = some (.bool false) := by rw [hW]; go_simp
  have zz : ∀ a : Addr, w.heap.size ≤ a.block → W0.frozen? a = false := fun a ha => by rw [hW]; exact (frozen?_alloc_cells _ _ _ _).trans ((frozen?_alloc_cells _ _ _ _).trans (frozen_new _ _ ha))
  have y4 := zz ⟨w.heap.size, 0, none⟩ (Nat.le_refl _)
  have y5 := zz ⟨w.heap.size + 1, 0, none⟩ (Nat.le_succ _)
  have HS0 := Lib.hid (HS.out.step k0)
  have HZ := Lib.hid (And.intro k0 (And.intro t4 (And.intro t5 (And.intro y4 y5))))
  have HN := Lib.hid (Nat.le_refl w.heap.size)
  clear hW k0 zz t4 t5 y4 y5
  go_upto_region 4 with (go_at_call 51; refine (sim_ready1 w0 X Y Z ST FL BU _ _ _ _ _ HS0.out (by decide)).mono ?_; rintro e w1 ⟨rfl, hk1⟩)
  have HS1 := Lib.hid (HS0.out.step hk1)
  have K1 := Lib.hid (HZ.out.1.trans hk1)
  have t4 := hk1.some HZ.out.2.1 id
  have t5 := hk1.some HZ.out.2.2.1 id
  have y4 := (hk1.frozen _).trans HZ.out.2.2.2.1
  have y5 := (hk1.frozen _).trans HZ.out.2.2.2.2
  clear hk1
  have z0 := HS1.out.z0
  have z1 := HS1.out.z1
  have z2 := HS1.out.z2
  have z3 := HS1.out.z3
  have z4 := HS1.out.z4
  have z5 := HS1.out.z5
  have z6 := HS1.out.z6
  have z7 := HS1.out.z7
  have s0 := HS1.out.s0
  have b0 := HS1.out.b0
  have x0 := HS1.out.x0
  have x1 := HS1.out.x1
  have x2 := HS1.out.x2
  have y0 := HS1.out.y0
  have y1 := HS1.out.y1
  go_wp2_with fail
  refine wp_loop_rounds 2 ?_
  rw [rounds_succ]
  go_upto_region 9 with fail
  have A0 := ext_cell z0
  have A1 := ext_cell z1
  have A2 := ext_cell z2
  have A3 := ext_cell z3
  have A4 := ext_cell z4
  have A5 := ext_cell z5
  have A6 := ext_cell z6
  have A7 := ext_cell z7
  have A8 := ext_cell s0
  have A9 := ext_cell b0
  have A10 := ext_cell x0
  have A11 := ext_cell x1
  have A12 := ext_cell x2
  have A13 := ext_cell y0
  have A14 := ext_cell y1
  refine region_ext (by kernel_rfl) (by kernel_rfl) ?_
  repeat (first
    | go_big_quiet_skip
    | (go_big_quiet_want; go_big_quiet_op; first | go_big_quiet_on | go_big_quiet_call (first
      | (fail))))
  refine wpQuiet_nil ?_
  rintro _ ⟨xq, rfl⟩
  have K2 := Lib.hid (K1.out.trans (ext_kept w1 xq))
  have t4 := (ext_kept w1 xq).some t4 id
  have t5 := (ext_kept w1 xq).some t5 id
  clear A0 A1 A2 A3 A4 A5 A6 A7 A8 A9 A10 A11 A12 A13 A14
  clear z0 z1 z2 z3 z4 z5 z6 z7 s0 b0 x0 x1 x2 y0 y1
  generalize ext w1 xq = w2 at *
  go_wp2_with fail
  rw [rounds_succ]
  go_upto_region 12 with fail
  have A0 := ext_cell t4
  have A1 := ext_cell t5
  clear t4 t5 y4 y5
  refine region_ext (by kernel_rfl) (by kernel_rfl) ?_
  repeat (first
    | go_big_quiet_skip
    | (go_big_quiet_want; go_big_quiet_op; first | go_big_quiet_on | go_big_quiet_call (first
      | (fail))))
  refine wpQuiet_nil ?_
  rintro _ ⟨xq, rfl⟩
  have K3 := Lib.hid (K2.out.trans (ext_kept w2 xq))
  clear A0 A1
  generalize ext w2 xq = W3 at *
  go_wp2_with fail
  go_ret2
  exact ⟨rfl, K3.out⟩

set_option linter.unusedSimpArgs false in
set_option linter.unusedVariables false in
set_option maxHeartbeats 4000000 in
set_option maxRecDepth 100000 in
theorem insert_one (A : Option Addr) (cap : Nat) (f : Value) (w : World) : Calls Try.prog 78 #[.slice A 1 cap, .int .i64 0, .int .i64 1, f] w fun e w' => e = Unit0 ∧ w = w' := by
  go_enter Try.func78, Try.ntmps78
  go_wp2_with fail
  refine wp_loop_rounds 1 ?_
  rw [rounds_succ]
  go_wp2_with fail
  go_end0
  exact ⟨rfl, rfl⟩
set_option linter.unusedSimpArgs false in
set_option linter.unusedVariables false in
set_option maxHeartbeats 4000000 in
set_option maxRecDepth 100000 in
theorem stable_one (A : Option Addr) (cap : Nat) (f : Value) (w : World) : Calls Try.prog 73 #[.slice A 1 cap, .int .i64 1, f] w fun e w' => e = Unit0 ∧ w = w' := by
  go_enter Try.func73, Try.ntmps73
  go_wp2_with fail
  refine wp_loop_rounds 1 ?_
  rw [rounds_succ]
  go_wp2_with (go_at_call 78; refine (insert_one _ _ _ _).mono ?_; rintro e w' ⟨rfl, rfl⟩)
  refine wp_loop_rounds 1 ?_
  rw [rounds_succ]
  go_wp2_with fail
  go_end0
  exact ⟨rfl, rfl⟩
set_option linter.unusedSimpArgs false in
set_option linter.unusedVariables false in
set_option maxHeartbeats 4000000 in
set_option maxRecDepth 100000 in
theorem sort_one (A : Option Addr) (cap : Nat) (f : Value) (w : World) : Calls Try.prog 55 #[.slice A 1 cap, f] w fun e w' => e = Unit0 ∧ w = w' := by
  go_enter Try.func55, Try.ntmps55
  go_wp2_with (go_at_call 73; refine (stable_one _ _ _ _).mono ?_; rintro e w' ⟨rfl, rfl⟩)
  go_end0
  exact ⟨rfl, rfl⟩
end Go.Proofs.Ytflmfjimemhooaa
