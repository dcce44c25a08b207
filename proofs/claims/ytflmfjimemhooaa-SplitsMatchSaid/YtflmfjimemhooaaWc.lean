/- Contracts of the simulation of one work of cost 2 on one machine of speed 1. Conditions: none. -/
import Derived.Test.YtflmfjimemhooaaWb
import Derived.Test.YtflmfjimemhooaaHo
import Derived.LoopN
import Derived.Deep.RegionLaw
namespace Go.Proofs.Ytflmfjimemhooaa
open Go.RowKit
open Fl
open BigFrame

/-- The simulation: one work (cost 2), one machine (speed 1), one try. -/
structure SimS (w0 : World) (X Y Z ST FL BU : Nat) (now st : Int) (bu : Option Addr) (rn : Value) (w : World) : Prop where
  kept : Kept None' w0 w
  lZ : w0.heap.size ≤ Z
  lS : w0.heap.size ≤ ST
  lB : w0.heap.size ≤ BU
  d1 : ST ≠ Z
  d2 : BU ≠ Z
  d3 : BU ≠ ST
  z0 : w.cell? ⟨Z, 0, none⟩ = some (.slice (some ⟨X, 0, none⟩) 1 1)
  z1 : w.cell? ⟨Z, 1, none⟩ = some (.slice (some ⟨Y, 0, none⟩) 1 1)
  z2 : w.cell? ⟨Z, 2, none⟩ = some (.int .i64 1)
  z3 : w.cell? ⟨Z, 3, none⟩ = some (.int .i64 now)
  z4 : w.cell? ⟨Z, 4, none⟩ = some (.slice (some ⟨ST, 0, none⟩) 1 1)
  z5 : w.cell? ⟨Z, 5, none⟩ = some (.slice (some ⟨FL, 0, none⟩) 1 1)
  z6 : w.cell? ⟨Z, 6, none⟩ = some (.slice (some ⟨BU, 0, none⟩) 1 1)
  z7 : w.cell? ⟨Z, 7, none⟩ = some rn
  s0 : w.cell? ⟨ST, 0, none⟩ = some (.int .i64 st)
  b0 : w.cell? ⟨BU, 0, none⟩ = some (.pointer bu)
  x0 : w.cell? ⟨X, 0, none⟩ = some (.int .i64 2)
  x1 : w.cell? ⟨X, 1, none⟩ = some (.int .i64 0)
  x2 : w.cell? ⟨X, 2, none⟩ = some (.slice none 0 0)
  y0 : w.cell? ⟨Y, 0, none⟩ = some (.int .i64 1)
  y1 : w.cell? ⟨Y, 1, none⟩ = some (.slice none 0 0)
  lX : X < w0.heap.size
  lY : Y < w0.heap.size
  fz : ∀ a : Addr, w0.heap.size ≤ a.block → w.frozen? a = false
theorem SimS.step {w0 : World} {X Y Z ST FL BU : Nat} {now st : Int} {bu : Option Addr} {rn : Value} {w w' : World} (h : SimS w0 X Y Z ST FL BU now st bu rn w) (k : Kept None' w w') : SimS w0 X Y Z ST FL BU now st bu rn w' :=
  ⟨h.kept.trans k, h.lZ, h.lS, h.lB, h.d1, h.d2, h.d3, k.some h.z0 id, k.some h.z1 id, k.some h.z2 id, k.some h.z3 id, k.some h.z4 id, k.some h.z5 id, k.some h.z6 id, k.some h.z7 id, k.some h.s0 id, k.some h.b0 id, k.some h.x0 id, k.some h.x1 id, k.some h.x2 id, k.some h.y0 id, k.some h.y1 id, h.lX, h.lY, fun a ha => (k.frozen a).trans (h.fz a ha)⟩
abbrev Unit0 : Ending := .returned (.tuple #[])

set_option linter.unusedSimpArgs false in
set_option linter.unusedVariables false in
set_option maxHeartbeats 4000000 in
set_option maxRecDepth 100000 in
theorem idxf_nil (f : Value) (w : World) : Calls Try.prog 76 #[.slice none 0 0, f] w fun e w' => e = .returned (.int .i64 (-1)) ∧ w = w' := by
  go_enter Try.func76, Try.ntmps76
  go_wp2_with fail
  refine wp_loop_rounds 1 ?_
  rw [rounds_succ]
  go_wp2_with fail
  go_ret
  exact ⟨rfl, rfl⟩
set_option linter.unusedSimpArgs false in
set_option linter.unusedVariables false in
set_option maxHeartbeats 4000000 in
set_option maxRecDepth 100000 in
theorem contf_nil (f : Value) (w : World) : Calls Try.prog 62 #[.slice none 0 0, f] w fun e w' => e = .returned (.bool false) ∧ w = w' := by
  go_enter Try.func62, Try.ntmps62
  go_wp2_with (go_at_call 76; refine (idxf_nil _ _).mono ?_; rintro e w' ⟨rfl, rfl⟩)
  go_ret
  exact ⟨rfl, rfl⟩

set_option linter.unusedSimpArgs false in
set_option linter.unusedVariables false in
set_option maxHeartbeats 4000000 in
set_option maxRecDepth 100000 in
theorem sim_upat (w0 : World) (X Y Z ST FL BU : Nat) (now st : Int) (bu : Option Addr) (rn : Value) (w : World) (h : SimS w0 X Y Z ST FL BU now st bu rn w) : Calls Try.prog 71 #[.pointer (some ⟨Z, 0, none⟩), .int .i64 0] w fun e w' => e = .returned (.int .i64 now) ∧ w = w' := by
  have HS := Lib.hid h
  clear h
  have z0 := HS.out.z0
  have z1 := HS.out.z1
  have z2 := HS.out.z2
  have z3 := HS.out.z3
  have z4 := HS.out.z4
  have z5 := HS.out.z5
  have z6 := HS.out.z6
  have z7 := HS.out.z7
  have s0 := HS.out.s0
  have b0 := HS.out.b0
  have x0 := HS.out.x0
  have x1 := HS.out.x1
  have x2 := HS.out.x2
  have y0 := HS.out.y0
  have y1 := HS.out.y1
  go_enter Try.func71, Try.ntmps71
  go_wp2_with fail
  refine wp_loop_rounds 1 ?_
  rw [rounds_succ]
  go_wp2_with fail
  go_ret
  exact ⟨rfl, rfl⟩

set_option linter.unusedSimpArgs false in
set_option linter.unusedVariables false in
set_option maxHeartbeats 4000000 in
set_option maxRecDepth 100000 in
theorem sim_ready0 (w0 : World) (X Y Z ST FL BU : Nat) (now st : Int) (bu : Option Addr) (rn : Value) (w : World) (h : SimS w0 X Y Z ST FL BU now st bu rn w) (h0 : st = 0) : Calls Try.prog 51 #[.pointer (some ⟨Z, 0, none⟩)] w fun e w' => e = .returned (.int .i64 0) ∧ Kept None' w w' := by
  have HS := Lib.hid h
  clear h
  have HH := Lib.hid h0
  clear h0
  go_enter Try.func51, Try.ntmps51
  go_upto_region 2 with fail
  refine of_world (fun W0 hW => ?_)
  have k0 : Kept None' w W0 := by rw [hW]; exact (Kept.refl _ _).alloc _ _
  have t0 : W0.cell? ⟨w.heap.size, 0, none⟩ = some (.pointer (some ⟨Z, 0, none⟩)) := by rw [hW]; exact cell_alloc_one w _ _ 0
  have HS0 := Lib.hid (HS.out.step k0)
  have K0 := Lib.hid k0
  clear hW k0
  have z0 := HS0.out.z0
  have z1 := HS0.out.z1
  have z2 := HS0.out.z2
  have z3 := HS0.out.z3
  have z4 := HS0.out.z4
  have z5 := HS0.out.z5
  have z6 := HS0.out.z6
  have z7 := HS0.out.z7
  have s0 := HS0.out.s0
  have b0 := HS0.out.b0
  have x0 := HS0.out.x0
  have x1 := HS0.out.x1
  have x2 := HS0.out.x2
  have y0 := HS0.out.y0
  have y1 := HS0.out.y1
  go_wp2_with fail
  refine wp_loop_rounds 2 ?_
  rw [rounds_succ]
  go_upto_region 5 with fail
  refine of_world (fun W1 hW => ?_)
  have k1 : Kept None' W0 W1 := by rw [hW]; exact (Kept.refl _ _).alloc _ _
  have c0 : W1.cell? ⟨W0.heap.size, 0, none⟩ = some (.int .i64 2) := by rw [hW]; exact cell_alloc_one W0 _ _ 0
  have c1 : W1.cell? ⟨W0.heap.size, 1, none⟩ = some (.int .i64 0) := by rw [hW]; exact cell_alloc_one W0 _ _ 1
  have c2 : W1.cell? ⟨W0.heap.size, 2, none⟩ = some (.slice none 0 0) := by rw [hW]; exact cell_alloc_one W0 _ _ 2
  have t1 := k1.some t0 id
  have HS1 := Lib.hid (HS0.out.step k1)
  have K1 := Lib.hid (K0.out.trans k1)
  clear hW k1 t0
  clear z0 z1 z2 z3 z4 z5 z6 z7 s0 b0 x0 x1 x2 y0 y1
  have z0 := HS1.out.z0
  have z1 := HS1.out.z1
  have z2 := HS1.out.z2
  have z3 := HS1.out.z3
  have z4 := HS1.out.z4
  have z5 := HS1.out.z5
  have z6 := HS1.out.z6
  have z7 := HS1.out.z7
  have s0 := HS1.out.s0
  have b0 := HS1.out.b0
  have x0 := HS1.out.x0
  have x1 := HS1.out.x1
  have x2 := HS1.out.x2
  have y0 := HS1.out.y0
  have y1 := HS1.out.y1
  have g1 : (st != 0) = false := by have := HH.out; simp [this]
  go_upto_region 6 with (go_at_call 62; refine (contf_nil _ _).mono ?_; rintro e w' ⟨rfl, rfl⟩)
  have A0 := ext_cell z0
  have A1 := ext_cell z1
  have A2 := ext_cell z2
  have A3 := ext_cell z3
  have A4 := ext_cell z4
  have A5 := ext_cell z5
  have A6 := ext_cell z6
  have A7 := ext_cell z7
  have A8 := ext_cell s0
  have A9 := ext_cell b0
  have A10 := ext_cell x0
  have A11 := ext_cell x1
  have A12 := ext_cell x2
  have A13 := ext_cell y0
  have A14 := ext_cell y1
  have A15 := ext_cell c0
  have A16 := ext_cell c1
  have A17 := ext_cell c2
  have A18 := ext_cell t1
  refine region_ext (by kernel_rfl) (by kernel_rfl) ?_
  repeat (first
    | go_big_quiet_skip
    | (go_big_quiet_want; go_big_quiet_op; first | go_big_quiet_on | go_big_quiet_call (first
      | (fail))))
  refine wpQuiet_nil ?_
  rintro _ ⟨xq, rfl⟩
  have HS2 := Lib.hid (HS1.out.step (ext_kept W1 xq))
  have K2 := Lib.hid (K1.out.trans (ext_kept W1 xq))
  clear A0 A1 A2 A3 A4 A5 A6 A7 A8 A9 A10 A11 A12 A13 A14 A15 A16 A17 A18 c0 c1 c2 t1
  clear z0 z1 z2 z3 z4 z5 z6 z7 s0 b0 x0 x1 x2 y0 y1
  generalize ext W1 xq = W2 at *
  go_wp2_with fail
  rw [rounds_succ]
  go_wp2_with fail
  go_ret
  exact ⟨rfl, K2.out⟩

set_option linter.unusedSimpArgs false in
set_option linter.unusedVariables false in
set_option maxHeartbeats 4000000 in
set_option maxRecDepth 100000 in
theorem sim_ready1 (w0 : World) (X Y Z ST FL BU : Nat) (now st : Int) (bu : Option Addr) (rn : Value) (w : World) (h : SimS w0 X Y Z ST FL BU now st bu rn w) (h0 : st ≠ 0) : Calls Try.prog 51 #[.pointer (some ⟨Z, 0, none⟩)] w fun e w' => e = .returned (.int .i64 (-1)) ∧ Kept None' w w' := by
  have HS := Lib.hid h
  clear h
  have HH := Lib.hid h0
  clear h0
  go_enter Try.func51, Try.ntmps51
  go_upto_region 2 with fail
  refine of_world (fun W0 hW => ?_)
  have k0 : Kept None' w W0 := by rw [hW]; exact (Kept.refl _ _).alloc _ _
  have t0 : W0.cell? ⟨w.heap.size, 0, none⟩ = some (.pointer (some ⟨Z, 0, none⟩)) := by rw [hW]; exact cell_alloc_one w _ _ 0
  have HS0 := Lib.hid (HS.out.step k0)
  have K0 := Lib.hid k0
  clear hW k0
  have z0 := HS0.out.z0
  have z1 := HS0.out.z1
  have z2 := HS0.out.z2
  have z3 := HS0.out.z3
  have z4 := HS0.out.z4
  have z5 := HS0.out.z5
  have z6 := HS0.out.z6
  have z7 := HS0.out.z7
  have s0 := HS0.out.s0
  have b0 := HS0.out.b0
  have x0 := HS0.out.x0
  have x1 := HS0.out.x1
  have x2 := HS0.out.x2
  have y0 := HS0.out.y0
  have y1 := HS0.out.y1
  go_wp2_with fail
  refine wp_loop_rounds 2 ?_
  rw [rounds_succ]
  go_upto_region 5 with fail
  refine of_world (fun W1 hW => ?_)
  have k1 : Kept None' W0 W1 := by rw [hW]; exact (Kept.refl _ _).alloc _ _
  have c0 : W1.cell? ⟨W0.heap.size, 0, none⟩ = some (.int .i64 2) := by rw [hW]; exact cell_alloc_one W0 _ _ 0
  have c1 : W1.cell? ⟨W0.heap.size, 1, none⟩ = some (.int .i64 0) := by rw [hW]; exact cell_alloc_one W0 _ _ 1
  have c2 : W1.cell? ⟨W0.heap.size, 2, none⟩ = some (.slice none 0 0) := by rw [hW]; exact cell_alloc_one W0 _ _ 2
  have t1 := k1.some t0 id
  have HS1 := Lib.hid (HS0.out.step k1)
  have K1 := Lib.hid (K0.out.trans k1)
  clear hW k1 t0
  clear z0 z1 z2 z3 z4 z5 z6 z7 s0 b0 x0 x1 x2 y0 y1
  have z0 := HS1.out.z0
  have z1 := HS1.out.z1
  have z2 := HS1.out.z2
  have z3 := HS1.out.z3
  have z4 := HS1.out.z4
  have z5 := HS1.out.z5
  have z6 := HS1.out.z6
  have z7 := HS1.out.z7
  have s0 := HS1.out.s0
  have b0 := HS1.out.b0
  have x0 := HS1.out.x0
  have x1 := HS1.out.x1
  have x2 := HS1.out.x2
  have y0 := HS1.out.y0
  have y1 := HS1.out.y1
  have g1 : (st != 0) = true := by have := HH.out; simp [this]
  go_wp2_with fail
  rw [rounds_succ]
  go_wp2_with fail
  go_ret
  exact ⟨rfl, K1.out⟩

set_option linter.unusedSimpArgs false in
set_option linter.unusedVariables false in
set_option maxHeartbeats 4000000 in
set_option maxRecDepth 100000 in
theorem sim_free (w0 : World) (X Y Z ST FL BU : Nat) (now st : Int) (rn : Value) (w : World) (h : SimS w0 X Y Z ST FL BU now st none rn w) : Calls Try.prog 52 #[.pointer (some ⟨Z, 0, none⟩)] w fun e w' => e = .returned (.int .i64 0) ∧ Kept None' w w' := by
  have HS := Lib.hid h
  clear h
  have z0 := HS.out.z0
  have z1 := HS.out.z1
  have z2 := HS.out.z2
  have z3 := HS.out.z3
  have z4 := HS.out.z4
  have z5 := HS.out.z5
  have z6 := HS.out.z6
  have z7 := HS.out.z7
  have s0 := HS.out.s0
  have b0 := HS.out.b0
  have x0 := HS.out.x0
  have x1 := HS.out.x1
  have x2 := HS.out.x2
  have y0 := HS.out.y0
  have y1 := HS.out.y1
  go_enter Try.func52, Try.ntmps52
  go_wp2_with fail
  refine wp_loop_rounds 2 ?_
  rw [rounds_succ]
  go_upto_region 5 with fail
  refine of_world (fun W1 hW => ?_)
  have k1 : Kept None' w W1 := by rw [hW]; exact (Kept.refl _ _).alloc _ _
  have c0 : W1.cell? ⟨w.heap.size, 0, none⟩ = some (.int .i64 1) := by rw [hW]; exact cell_alloc_one w _ _ 0
  have c1 : W1.cell? ⟨w.heap.size, 1, none⟩ = some (.slice none 0 0) := by rw [hW]; exact cell_alloc_one w _ _ 1
  have HS1 := Lib.hid (HS.out.step k1)
  have K1 := Lib.hid k1
  clear hW k1
  clear z0 z1 z2 z3 z4 z5 z6 z7 s0 b0 x0 x1 x2 y0 y1
  have z0 := HS1.out.z0
  have z1 := HS1.out.z1
  have z2 := HS1.out.z2
  have z3 := HS1.out.z3
  have z4 := HS1.out.z4
  have z5 := HS1.out.z5
  have z6 := HS1.out.z6
  have z7 := HS1.out.z7
  have s0 := HS1.out.s0
  have b0 := HS1.out.b0
  have x0 := HS1.out.x0
  have x1 := HS1.out.x1
  have x2 := HS1.out.x2
  have y0 := HS1.out.y0
  have y1 := HS1.out.y1
  have A0 := ext_cell z0
  have A1 := ext_cell z1
  have A2 := ext_cell z2
  have A3 := ext_cell z3
  have A4 := ext_cell z4
  have A5 := ext_cell z5
  have A6 := ext_cell z6
  have A7 := ext_cell z7
  have A8 := ext_cell s0
  have A9 := ext_cell b0
  have A10 := ext_cell x0
  have A11 := ext_cell x1
  have A12 := ext_cell x2
  have A13 := ext_cell y0
  have A14 := ext_cell y1
  have A15 := ext_cell c0
  have A16 := ext_cell c1
  refine region_ext (by kernel_rfl) (by kernel_rfl) ?_
  repeat (first
    | go_big_quiet_skip
    | (go_big_quiet_want; go_big_quiet_op; first | go_big_quiet_on | go_big_quiet_call (first
      | ((go_at_call 71; exact calls_ext_same (sim_upat w0 X Y Z ST FL BU now st none rn _ (HS1.out.step (ext_kept _ _))))))))
  refine wpQuiet_nil ?_
  rintro _ ⟨xq, rfl⟩
  have HS2 := Lib.hid (HS1.out.step (ext_kept W1 xq))
  have K2 := Lib.hid (K1.out.trans (ext_kept W1 xq))
  clear A0 A1 A2 A3 A4 A5 A6 A7 A8 A9 A10 A11 A12 A13 A14 A15 A16
  clear c0 c1
  clear z0 z1 z2 z3 z4 z5 z6 z7 s0 b0 x0 x1 x2 y0 y1
  generalize ext W1 xq = W2 at *
  go_wp2_with fail
  rw [rounds_succ]
  go_wp2_with fail
  go_ret
  exact ⟨rfl, K2.out⟩

/-- A run of the work, from 0 to 2. -/
structure RunB (R Z ST BU : Nat) (w : World) : Prop where
  r0 : w.cell? ⟨R, 0, none⟩ = some (.int .i64 0)
  r1 : w.cell? ⟨R, 1, none⟩ = some (.int .i64 0)
  r2 : w.cell? ⟨R, 2, none⟩ = some (.int .i64 0)
  r3 : w.cell? ⟨R, 3, none⟩ = some (.int .i64 2)
  r4 : w.cell? ⟨R, 4, none⟩ = some (.bool false)
  e1 : R ≠ Z
  e2 : R ≠ ST
  e3 : R ≠ BU
theorem RunB.step {R Z ST BU : Nat} {w w' : World} (h : RunB R Z ST BU w) (k : Kept None' w w') : RunB R Z ST BU w' := ⟨k.some h.r0 id, k.some h.r1 id, k.some h.r2 id, k.some h.r3 id, k.some h.r4 id, h.e1, h.e2, h.e3⟩
theorem RunB.set {R Z ST BU : Nat} {w : World} (h : RunB R Z ST BU w) {q o : Nat} (v : Value) (hp : q ≠ R) : RunB R Z ST BU (w.setCell ⟨q, o, none⟩ v) := by
  exact ⟨cell_set_ne h.r0 (Or.inl hp), cell_set_ne h.r1 (Or.inl hp), cell_set_ne h.r2 (Or.inl hp), cell_set_ne h.r3 (Or.inl hp), cell_set_ne h.r4 (Or.inl hp), h.e1, h.e2, h.e3⟩
theorem SimS.setB {w0 : World} {X Y Z ST FL BU : Nat} {now st : Int} {bu : Option Addr} {rn : Value} {w : World} (h : SimS w0 X Y Z ST FL BU now st bu rn w) (b : Option Addr) : SimS w0 X Y Z ST FL BU now st b rn (w.setCell ⟨BU, 0, none⟩ (.pointer b)) := by
  have nX : BU ≠ X := by have := h.lX; have := h.lB; omega
  have nY : BU ≠ Y := by have := h.lY; have := h.lB; omega
  have l := fun {c : Nat} {u : Value} (e : w.cell? ⟨Z, c, none⟩ = some u) => cell_set_ne (v := .pointer b) e (Or.inl h.d2 : BU ≠ Z ∨ 0 ≠ c)
  exact ⟨h.kept.setCell (Or.inl h.lB) _, h.lZ, h.lS, h.lB, h.d1, h.d2, h.d3, l h.z0, l h.z1, l h.z2, l h.z3, l h.z4, l h.z5, l h.z6, l h.z7, cell_set_ne h.s0 (Or.inl h.d3), cell_set_eq h.b0,
    cell_set_ne h.x0 (Or.inl nX), cell_set_ne h.x1 (Or.inl nX), cell_set_ne h.x2 (Or.inl nX), cell_set_ne h.y0 (Or.inl nY), cell_set_ne h.y1 (Or.inl nY), h.lX, h.lY, fun a ha => (World.frozen?_setCell ..).trans (h.fz a ha)⟩
theorem SimS.setS {w0 : World} {X Y Z ST FL BU : Nat} {now st : Int} {bu : Option Addr} {rn : Value} {w : World} (h : SimS w0 X Y Z ST FL BU now st bu rn w) (s : Int) : SimS w0 X Y Z ST FL BU now s bu rn (w.setCell ⟨ST, 0, none⟩ (.int .i64 s)) := by
  have nX : ST ≠ X := by have := h.lX; have := h.lS; omega
  have nY : ST ≠ Y := by have := h.lY; have := h.lS; omega
  have l := fun {c : Nat} {u : Value} (e : w.cell? ⟨Z, c, none⟩ = some u) => cell_set_ne (v := .int .i64 s) e (Or.inl h.d1 : ST ≠ Z ∨ 0 ≠ c)
  exact ⟨h.kept.setCell (Or.inl h.lS) _, h.lZ, h.lS, h.lB, h.d1, h.d2, h.d3, l h.z0, l h.z1, l h.z2, l h.z3, l h.z4, l h.z5, l h.z6, l h.z7, cell_set_eq h.s0, cell_set_ne h.b0 (Or.inl h.d3.symm),
    cell_set_ne h.x0 (Or.inl nX), cell_set_ne h.x1 (Or.inl nX), cell_set_ne h.x2 (Or.inl nX), cell_set_ne h.y0 (Or.inl nY), cell_set_ne h.y1 (Or.inl nY), h.lX, h.lY, fun a ha => (World.frozen?_setCell ..).trans (h.fz a ha)⟩
theorem SimS.setN {w0 : World} {X Y Z ST FL BU : Nat} {now st : Int} {bu : Option Addr} {rn : Value} {w : World} (h : SimS w0 X Y Z ST FL BU now st bu rn w) (n : Int) : SimS w0 X Y Z ST FL BU n st bu rn (w.setCell ⟨Z, 3, none⟩ (.int .i64 n)) := by
  have nX : Z ≠ X := by have := h.lX; have := h.lZ; omega
  have nY : Z ≠ Y := by have := h.lY; have := h.lZ; omega
  exact ⟨h.kept.setCell (Or.inl h.lZ) _, h.lZ, h.lS, h.lB, h.d1, h.d2, h.d3, cell_set_ne h.z0 (Or.inr (by decide)), cell_set_ne h.z1 (Or.inr (by decide)), cell_set_ne h.z2 (Or.inr (by decide)), cell_set_eq h.z3, cell_set_ne h.z4 (Or.inr (by decide)), cell_set_ne h.z5 (Or.inr (by decide)), cell_set_ne h.z6 (Or.inr (by decide)), cell_set_ne h.z7 (Or.inr (by decide)), cell_set_ne h.s0 (Or.inl h.d1.symm), cell_set_ne h.b0 (Or.inl h.d2.symm),
    cell_set_ne h.x0 (Or.inl nX), cell_set_ne h.x1 (Or.inl nX), cell_set_ne h.x2 (Or.inl nX), cell_set_ne h.y0 (Or.inl nY), cell_set_ne h.y1 (Or.inl nY), h.lX, h.lY, fun a ha => (World.frozen?_setCell ..).trans (h.fz a ha)⟩
theorem SimS.setR {w0 : World} {X Y Z ST FL BU : Nat} {now st : Int} {bu : Option Addr} {rn : Value} {w : World} (h : SimS w0 X Y Z ST FL BU now st bu rn w) (r : Value) : SimS w0 X Y Z ST FL BU now st bu r (w.setCell ⟨Z, 7, none⟩ r) := by
  have nX : Z ≠ X := by have := h.lX; have := h.lZ; omega
  have nY : Z ≠ Y := by have := h.lY; have := h.lZ; omega
  exact ⟨h.kept.setCell (Or.inl h.lZ) _, h.lZ, h.lS, h.lB, h.d1, h.d2, h.d3, cell_set_ne h.z0 (Or.inr (by decide)), cell_set_ne h.z1 (Or.inr (by decide)), cell_set_ne h.z2 (Or.inr (by decide)), cell_set_ne h.z3 (Or.inr (by decide)), cell_set_ne h.z4 (Or.inr (by decide)), cell_set_ne h.z5 (Or.inr (by decide)), cell_set_ne h.z6 (Or.inr (by decide)), cell_set_eq h.z7, cell_set_ne h.s0 (Or.inl h.d1.symm), cell_set_ne h.b0 (Or.inl h.d2.symm),
    cell_set_ne h.x0 (Or.inl nX), cell_set_ne h.x1 (Or.inl nX), cell_set_ne h.x2 (Or.inl nX), cell_set_ne h.y0 (Or.inl nY), cell_set_ne h.y1 (Or.inl nY), h.lX, h.lY, fun a ha => (World.frozen?_setCell ..).trans (h.fz a ha)⟩
def BeginP (w0 : World) (X Y Z ST FL BU : Nat) (rn : Value) (e : Ending) (w' : World) : Prop := ∃ R, e = Unit0 ∧ SimS w0 X Y Z ST FL BU 0 1 (some ⟨R, 0, none⟩) rn w' ∧ RunB R Z ST BU w' ∧ w0.heap.size ≤ R

set_option linter.unusedSimpArgs false in
set_option linter.unusedVariables false in
set_option maxHeartbeats 4000000 in
set_option maxRecDepth 100000 in
theorem sim_begin (w0 : World) (X Y Z ST FL BU : Nat) (rn : Value) (w : World) (h : SimS w0 X Y Z ST FL BU 0 0 none rn w) : Calls Try.prog 53 #[.pointer (some ⟨Z, 0, none⟩), .int .i64 0, .int .i64 0] w (BeginP w0 X Y Z ST FL BU rn) := by
  have HS := Lib.hid h
  clear h
  have z0 := HS.out.z0
  have z1 := HS.out.z1
  have z2 := HS.out.z2
  have z3 := HS.out.z3
  have z4 := HS.out.z4
  have z5 := HS.out.z5
  have z6 := HS.out.z6
  have z7 := HS.out.z7
  have s0 := HS.out.s0
  have b0 := HS.out.b0
  have x0 := HS.out.x0
  have x1 := HS.out.x1
  have x2 := HS.out.x2
  have y0 := HS.out.y0
  have y1 := HS.out.y1
  go_enter Try.func53, Try.ntmps53
  go_upto_region 1 with fail
  refine of_world (fun W1 hW => ?_)
  have k1 : Kept None' w W1 := by rw [hW]; exact (Kept.refl _ _).alloc _ _
  have c0 : W1.cell? ⟨w.heap.size, 0, none⟩ = some (.int .i64 1) := by rw [hW]; exact cell_alloc_one w _ _ 0
  have c1 : W1.cell? ⟨w.heap.size, 1, none⟩ = some (.slice none 0 0) := by rw [hW]; exact cell_alloc_one w _ _ 1
  have HS1 := Lib.hid (HS.out.step k1)
  clear hW k1
  clear z0 z1 z2 z3 z4 z5 z6 z7 s0 b0 x0 x1 x2 y0 y1
  have z0 := HS1.out.z0
  have z1 := HS1.out.z1
  have z2 := HS1.out.z2
  have z3 := HS1.out.z3
  have z4 := HS1.out.z4
  have z5 := HS1.out.z5
  have z6 := HS1.out.z6
  have z7 := HS1.out.z7
  have s0 := HS1.out.s0
  have b0 := HS1.out.b0
  have x0 := HS1.out.x0
  have x1 := HS1.out.x1
  have x2 := HS1.out.x2
  have y0 := HS1.out.y0
  have y1 := HS1.out.y1
  have A0 := ext_cell z0
  have A1 := ext_cell z1
  have A2 := ext_cell z2
  have A3 := ext_cell z3
  have A4 := ext_cell z4
  have A5 := ext_cell z5
  have A6 := ext_cell z6
  have A7 := ext_cell z7
  have A8 := ext_cell s0
  have A9 := ext_cell b0
  have A10 := ext_cell x0
  have A11 := ext_cell x1
  have A12 := ext_cell x2
  have A13 := ext_cell y0
  have A14 := ext_cell y1
  have A15 := ext_cell c0
  have A16 := ext_cell c1
  refine region_ext_tail 26 (by kernel_rfl) (by kernel_rfl) ?_
  simp only [List.take_succ_cons, List.take_zero, List.drop_succ_cons, List.drop_zero]
  repeat (first
    | go_big_quiet_skip
    | (go_big_quiet_want; go_big_quiet_op; first | go_big_quiet_on | go_big_quiet_call (first
      | (fail))))
  refine wpQuiet_nil ?_
  rintro _ ⟨xq, rfl⟩
  have kx := ext_kept W1 xq
  have HS2 := Lib.hid (HS1.out.step kx)
  have c0' := kx.some c0 id
  have c1' := kx.some c1 id
  clear kx c0 c1 A0 A1 A2 A3 A4 A5 A6 A7 A8 A9 A10 A11 A12 A13 A14 A15 A16
  clear z0 z1 z2 z3 z4 z5 z6 z7 s0 b0 x0 x1 x2 y0 y1
  generalize ext W1 xq = W2 at *
  go_upto_region 2 with fail
  refine of_world (fun W3 hW => ?_)
  have k3 : Kept None' W2 W3 := by rw [hW]; exact (Kept.refl _ _).alloc _ _
  have HS3 := Lib.hid (HS2.out.step k3)
  have c0 := k3.some c0' id
  have c1 := k3.some c1' id
  have lR : w0.heap.size ≤ W2.heap.size := HS2.out.kept.size
  have hR : RunB W2.heap.size Z ST BU W3 := ⟨by rw [hW]; exact cell_alloc_one W2 _ _ 0, by rw [hW]; exact cell_alloc_one W2 _ _ 1, by rw [hW]; exact cell_alloc_one W2 _ _ 2, by rw [hW]; exact cell_alloc_one W2 _ _ 3, by rw [hW]; exact cell_alloc_one W2 _ _ 4,
    by have : Z < W2.heap.size := cell_lt HS2.out.z0
       omega, by have : ST < W2.heap.size := cell_lt HS2.out.s0
                 omega, by have : BU < W2.heap.size := cell_lt HS2.out.b0
                           omega⟩
  have HR := Lib.hid hR
  have HL := Lib.hid lR
  clear hW k3 c0' c1' hR lR
  generalize W2.heap.size = R at *
  have z0 := HS3.out.z0
  have z1 := HS3.out.z1
  have z2 := HS3.out.z2
  have z3 := HS3.out.z3
  have z4 := HS3.out.z4
  have z5 := HS3.out.z5
  have z6 := HS3.out.z6
  have z7 := HS3.out.z7
  have s0 := HS3.out.s0
  have b0 := HS3.out.b0
  have x0 := HS3.out.x0
  have x1 := HS3.out.x1
  have x2 := HS3.out.x2
  have y0 := HS3.out.y0
  have y1 := HS3.out.y1
  have zB := HS3.out.fz ⟨BU, 0, none⟩ HS3.out.lB
  have zS := HS3.out.fz ⟨ST, 0, none⟩ HS3.out.lS
  have dBS : BU ≠ ST := HS3.out.d3
  have dBZ : BU ≠ Z := HS3.out.d2
  have dSZ : ST ≠ Z := HS3.out.d1
  go_wp2_with fail
  refine wp_loop_rounds 1 ?_
  rw [rounds_succ]
  go_wp2_with fail
  go_end0
  exact ⟨R, rfl, (HS3.out.setB (some ⟨R, 0, none⟩)).setS 1, (HR.out.set _ HR.out.e3.symm).set _ HR.out.e2.symm, HL.out⟩
end Go.Proofs.Ytflmfjimemhooaa
