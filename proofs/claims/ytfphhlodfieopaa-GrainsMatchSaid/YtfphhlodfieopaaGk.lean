/- The contract of GrainedOf. Conditions: none. -/
import Derived.Test.YtfphhlodfieopaaGv
import Derived.Test.YtfphhlodfieopaaQw
import Derived.Deep.RegionHeld3
import Derived.Deep.DeepCutAuto
import Derived.Outline
namespace Go.Proofs.Ytfphhlodfieopaa
open Go.RowKit
open Fl Fr
open BigFrame

/-- The world of GrainedOf: the grain, the pixel, the result and the pixel that is made (q its channels). -/
structure GoS (w : World) (s z : Int) (S F : Nat) (m : Bool) (p : Nat → Nat) (q : Nat → Nat) (wr : World) : Prop where
  kept : Kept None' w wr
  g0 : wr.cell? ⟨w.heap.size, 0, none⟩ = some (.int .u32 s)
  g1 : wr.cell? ⟨w.heap.size, 1, none⟩ = some (.int .i64 z)
  g2 : wr.cell? ⟨w.heap.size, 2, none⟩ = some (.float .f32 S)
  g3 : wr.cell? ⟨w.heap.size, 3, none⟩ = some (.float .f32 F)
  g4 : wr.cell? ⟨w.heap.size, 4, none⟩ = some (.bool m)
  px : ∀ j, j < 4 → wr.cell? ⟨w.heap.size + 1, j, none⟩ = some (.float .f32 (p j))
  rs : ∀ j, j < 4 → wr.cell? ⟨w.heap.size + 1 + 1, j, none⟩ = some (.float .f32 0)
  qs : ∀ j, j < 4 → wr.cell? ⟨w.heap.size + 1 + 1 + 1, j, none⟩ = some (.float .f32 (q j))
  fz : ∀ a : Addr, w.heap.size ≤ a.block → wr.frozen? a = false
theorem GoS.step {w : World} {s z : Int} {S F : Nat} {m : Bool} {p q : Nat → Nat} {wr w' : World} (h : GoS w s z S F m p q wr) (k : Kept None' wr w') : GoS w s z S F m p q w' :=
  ⟨h.kept.trans k, k.some h.g0 id, k.some h.g1 id, k.some h.g2 id, k.some h.g3 id, k.some h.g4 id, fun j hj => k.some (h.px j hj) id, fun j hj => k.some (h.rs j hj) id, fun j hj => k.some (h.qs j hj) id, fun a ha => (k.frozen a).trans (h.fz a ha)⟩
theorem GoS.set {w : World} {s z : Int} {S F : Nat} {m : Bool} {p q q' : Nat → Nat} {wr : World} (h : GoS w s z S F m p q wr) (c v : Nat) (hq : ∀ j, j < 4 → q' j = if j = c then v else q j) : GoS w s z S F m p q' (wr.setCell ⟨w.heap.size + 1 + 1 + 1, c, none⟩ (.float .f32 v)) :=
  ⟨h.kept.setCell (Or.inl (by simp; omega)) _, cell_set_ne h.g0 (Or.inl (by omega)), cell_set_ne h.g1 (Or.inl (by omega)), cell_set_ne h.g2 (Or.inl (by omega)), cell_set_ne h.g3 (Or.inl (by omega)), cell_set_ne h.g4 (Or.inl (by omega)),
    fun j hj => cell_set_ne (h.px j hj) (Or.inl (by omega)), fun j hj => cell_set_ne (h.rs j hj) (Or.inl (by omega)),
    fun j hj => by
      rw [hq j hj]
      by_cases e : j = c
      · subst e; rw [if_pos rfl]; exact cell_set_eq (h.qs j hj)
      · rw [if_neg e]; exact cell_set_ne (h.qs j hj) (Or.inr (fun x => e x.symm)),
    fun a ha => (World.frozen?_setCell ..).trans (h.fz a ha)⟩

/-- The channels that are made when c are through. -/
def gQ (s : Int) (S F : Nat) (m : Bool) (number qx qy : Int) (p : Nat → Nat) (c j : Nat) : Nat := if j = 3 then cl .f32 (p 3) else if j < c then gP s number qx qy (gC m j) S F (p j) else 0
theorem gQ_set (s : Int) (S F : Nat) (m : Bool) (number qx qy : Int) (p : Nat → Nat) (c j : Nat) (hc : c < 3) :
    gQ s S F m number qx qy p (c + 1) j = if j = c then gP s number qx qy (gC m c) S F (p c) else gQ s S F m number qx qy p c j := by
  unfold gQ
  by_cases e : j = c
  · subst e
    rw [if_neg (by omega), if_pos (by omega), if_pos rfl]
  · rw [if_neg e]
    by_cases e3 : j = 3
    · rw [if_pos e3, if_pos e3]
    · rw [if_neg e3, if_neg e3]
      by_cases e2 : j < c
      · rw [if_pos (by omega), if_pos e2]
      · rw [if_neg (by omega), if_neg e2]

set_option linter.unusedSimpArgs false in
set_option linter.unusedVariables false in
set_option maxHeartbeats 8000000 in
set_option maxRecDepth 100000 in
theorem grainedof_any (s z : Int) (S F : Nat) (m : Bool) (number x y : Int) (p : Nat → Nat) (w : World) (z1 : 1 ≤ z) (z2 : z ≤ 16) (x1 : -1048576 ≤ x) (x2 : x ≤ 1048576) (y1 : -1048576 ≤ y) (y2 : y ≤ 1048576) :
    Calls Try.prog 46 #[.agg #[.int .u32 s, .int .i64 z, .float .f32 S, .float .f32 F, .bool m], .int .i64 number, .int .i64 x, .int .i64 y, .agg #[.float .f32 (p 0), .float .f32 (p 1), .float .f32 (p 2), .float .f32 (p 3)]] w fun e w' =>
      e = .returned (.agg #[.float .f32 (gP s number (x / z) (y / z) (gC m 0) S F (p 0)), .float .f32 (gP s number (x / z) (y / z) (gC m 1) S F (p 1)), .float .f32 (gP s number (x / z) (y / z) (gC m 2) S F (p 2)), .float .f32 (cl .f32 (p 3))]) ∧ Kept None' w w' := by
  obtain ⟨qx, hqx⟩ : ∃ q, x / z = q := ⟨_, rfl⟩
  obtain ⟨qy, hqy⟩ : ∃ q, y / z = q := ⟨_, rfl⟩
  have HX := Lib.hid hqx
  have HY := Lib.hid hqy
  rw [hqx, hqy]
  clear hqx hqy
  go_enter Try.func46, Try.ntmps46
  go_wp2_with (first
    | (go_at_call 25; refine (fix_any _ _).mono ?_; rintro e w' ⟨rfl, rfl⟩)
    | fail)
  refine of_world (fun W0 hW => ?_)
  have hS : GoS w s z S F m p (gQ s S F m number qx qy p 0) W0 := by
    refine ⟨?_, ?_, ?_, ?_, ?_, ?_, ?_, ?_, ?_, ?_⟩
    · rw [hW]; exact ((((Kept.refl None' w).alloc _ _).alloc _ _).alloc _ _).alloc _ _
    · rw [hW]; go_simp
    · rw [hW]; go_simp
    · rw [hW]; go_simp
    · rw [hW]; go_simp
    · rw [hW]; go_simp
    · intro j hj
      rw [hW]
      obtain rfl | rfl | rfl | rfl : j = 0 ∨ j = 1 ∨ j = 2 ∨ j = 3 := by omega
      all_goals go_simp
    · intro j hj
      rw [hW]
      obtain rfl | rfl | rfl | rfl : j = 0 ∨ j = 1 ∨ j = 2 ∨ j = 3 := by omega
      all_goals go_simp
    · intro j hj
      rw [hW]
      obtain rfl | rfl | rfl | rfl : j = 0 ∨ j = 1 ∨ j = 2 ∨ j = 3 := by omega
      all_goals
        unfold gQ
        simp only [Nat.reduceEqDiff, if_false, if_true, Nat.not_lt_zero]
        go_simp
    · intro a ha
      rw [hW]
      exact (frozen?_alloc_cells _ _ _ _).trans ((frozen?_alloc_cells _ _ _ _).trans ((frozen?_alloc_cells _ _ _ _).trans ((frozen?_alloc_cells _ _ _ _).trans (frozen_new _ _ ha))))
  have HS0 := Lib.hid hS
  clear hW hS
  go_loopw [22] (fun i wr => ∃ c : Nat, c ≤ 3 ∧ i = .int .i64 c ∧ GoS w s z S F m p (gQ s S F m number qx qy p c) wr) (fun i _ => 3 - (intOf i).toNat)
  case atStart => exact ⟨0, by omega, rfl, HS0.out⟩
  case round =>
    obtain ⟨c, hc, rfl, hS⟩ := hrel
    have HS := Lib.hid hS
    clear hS
    by_cases hlt : c < 3
    · cases m with
      | false =>
        have d1 : decide ((c : Int) < 3) = true := by simp; omega
        have g4 := HS.out.g4
        go_wp2_with fail
        refine of_world (fun wu hW => ?_)
        have kU : Kept None' wr wu := by rw [hW]; exact (Kept.refl _ _).alloc _ _
        have hu0 : ∀ j, j < 4 → wu.cell? ⟨wr.heap.size, j, none⟩ = some (.float .f32 0) := by
          intro j hj
          rw [hW]
          obtain rfl | rfl | rfl | rfl : j = 0 ∨ j = 1 ∨ j = 2 ∨ j = 3 := by omega
          all_goals go_simp
        have hf0 : ∀ a : Addr, w.heap.size ≤ a.block → wu.frozen? a = false := by
          intro a ha
          rw [hW]
          exact (frozen?_alloc_cells _ _ _ _).trans (HS.out.fz a ha)
        have HU := Lib.hid (And.intro kU (And.intro hu0 hf0))
        have lr : w.heap.size ≤ wr.heap.size := HS.out.kept.size
        clear hW kU hu0 hf0 g4
        obtain ⟨wo, rfl⟩ : ∃ wo : World, wo = wr := ⟨_, rfl⟩
        go_loopw [28] (fun i wi => ∃ k : Nat, k ≤ 4 ∧ i = .int .i64 k ∧ Kept None' wo wi ∧ (∀ j, j < 4 → wi.cell? ⟨wo.heap.size, j, none⟩ = some (.float .f32 (if j < k then gU s number qx qy (4 * (c : Int) + j) else 0))) ∧ (∀ a : Addr, w.heap.size ≤ a.block → wi.frozen? a = false)) (fun i _ => 4 - (intOf i).toNat)
        case atStart => exact ⟨0, by omega, rfl, HU.out.1, fun j hj => by rw [if_neg (by omega)]; exact HU.out.2.1 j hj, HU.out.2.2⟩
        case round =>
        obtain ⟨k, hk, rfl, kk, hu, hf⟩ := hrel
        have HI := Lib.hid (And.intro kk (And.intro hu hf))
        clear kk hu hf HU
        by_cases hlt2 : k < 4
        · have d2 : decide ((k : Int) < 4) = true := by simp; omega
          go_wp2_with fail
          obtain ⟨sd, hsd⟩ : ∃ y, bits .xor .u32 s (number % 4294967296) = y := ⟨_, rfl⟩
          obtain ⟨y0, e0⟩ : ∃ y, hIt sd qx qy (4 * (c : Int) + k) 3 = y := ⟨_, rfl⟩
          have r0 := hIt_range sd qx qy (4 * (c : Int) + k) 3
          rw [e0] at r0
          have HE := Lib.hid (And.intro r0 (And.intro e0 hsd))
          have A0 := ext_cell (HI.out.1.some HS.out.g0 id)
          have A1 := ext_cell (HI.out.1.some HS.out.g1 id)
          clear r0 e0 hsd
          have w4 : IntKind.i64.wrap (4 * (c : Int)) = 4 * (c : Int) := IntWalk.i64_in _ (by omega)
          have w5 : IntKind.i64.wrap (4 * (c : Int) + k) = 4 * (c : Int) + k := IntWalk.i64_in _ (by omega)
          refine region_ext_tail 21 (by kernel_rfl) (by kernel_rfl) ?_
          simp only [List.take_succ_cons, List.take_zero, List.drop_succ_cons, List.drop_zero]
          repeat (first
            | go_big_quiet_skip
            | (go_big_quiet_want; go_big_quiet_op; first | go_big_quiet_on | go_big_quiet_call (first
              | (go_at_call 87; exact calls_ext_same ((floorover_any _ _ _ z1 z2 (by assumption) (by assumption)).mono fun e w' ⟨a, b⟩ => ⟨by (first | rw [a, HX.out] | rw [a, HY.out]), b⟩))
              | (go_at_call 86; exact calls_ext_grown ((hashof_any _ _ _ _ _).mono fun e w' ⟨a, b⟩ => ⟨by rw [a, HE.out.2.2, HE.out.2.1], b⟩))
              | (go_at_call 85; exact calls_ext_same (unitof_any _ _ HE.out.1.1 HE.out.1.2)))))
          refine wpQuiet_nil ?_
          rintro _ ⟨xq, rfl⟩
          clear A0 A1 w4 w5
          have kx := ext_kept wr xq
          have ku := kx.some (HI.out.2.1 k hlt2) id
          have fu := (kx.frozen ⟨wo.heap.size, k, none⟩).trans (HI.out.2.2 _ (by simp; omega))
          have hn : unitP y0 = gU s number qx qy (4 * (c : Int) + k) := by
            rw [show 4 * (c : Int) + (k : Int) = (4 * (c : Int) + k) by omega]
            unfold gU gSd
            rw [HE.out.2.2, HE.out.2.1]
          have HN := Lib.hid hn
          have KX := Lib.hid kx
          clear hn kx
          go_wp2_with fail
          go_roundw
          case rel =>
            refine ⟨k + 1, by omega, by go_num, ?_, ?_, ?_⟩
            · exact (HI.out.1.trans KX.out).setCell (Or.inl (by simp)) _
            · intro j hj
              have hj0 := KX.out.some (HI.out.2.1 j hj) id
              by_cases e : j = k
              · subst e
                rw [if_pos (by omega), ← HN.out]
                exact cell_set_eq ku
              · rw [cell_set_ne hj0 (Or.inr (fun x => e x.symm))]
                by_cases e2 : j < k
                · rw [if_pos e2, if_pos (by omega)]
                · rw [if_neg e2, if_neg (by omega)]
            · intro a ha
              exact (World.frozen?_setCell ..).trans ((KX.out.frozen a).trans (HI.out.2.2 a ha))
          case measure => simp [intOf]; omega
        · obtain rfl : k = 4 := by omega
          have d2 : decide (((4 : Nat) : Int) < 4) = false := by simp
          have u0 := HI.out.2.1 0 (by omega)
          have u1 := HI.out.2.1 1 (by omega)
          have u2 := HI.out.2.1 2 (by omega)
          have u3 := HI.out.2.1 3 (by omega)
          rw [if_pos (by omega)] at u0 u1 u2 u3
          obtain ⟨v0, e0⟩ : ∃ v, gU s number qx qy (4 * (c : Int) + (0 : Nat)) = v := ⟨_, rfl⟩
          obtain ⟨v1, e1⟩ : ∃ v, gU s number qx qy (4 * (c : Int) + (1 : Nat)) = v := ⟨_, rfl⟩
          obtain ⟨v2, e2⟩ : ∃ v, gU s number qx qy (4 * (c : Int) + (2 : Nat)) = v := ⟨_, rfl⟩
          obtain ⟨v3, e3⟩ : ∃ v, gU s number qx qy (4 * (c : Int) + (3 : Nat)) = v := ⟨_, rfl⟩
          rw [e0] at u0
          rw [e1] at u1
          rw [e2] at u2
          rw [e3] at u3
          have hN : gN s number qx qy (c : Int) = nzP v0 v1 v2 v3 := by
            rw [gN_nz, ← e0, ← e1, ← e2, ← e3]
            simp
          have HN := Lib.hid hN
          clear e0 e1 e2 e3 hN
          go_wp2_with fail
          refine of_world (fun W1 hW => ?_)
          obtain ⟨ns, hns⟩ : ∃ v, fV .sub .f32 (fV .mul .f32 (fV .add .f32 (fV .add .f32 v0 v1 wr) (fV .add .f32 v2 v3 (wr.drewN (fN .add .f32 v0 v1))) (wr.drewN (fN .add .f32 v0 v1 + fN .add .f32 v2 v3))) 1056964608 (wr.drewN (fN .add .f32 v0 v1 + fN .add .f32 v2 v3 + fN .add .f32 (fV .add .f32 v0 v1 wr) (fV .add .f32 v2 v3 (wr.drewN (fN .add .f32 v0 v1)))))) 1065353216 (wr.drewN (fN .add .f32 v0 v1 + fN .add .f32 v2 v3 + fN .add .f32 (fV .add .f32 v0 v1 wr) (fV .add .f32 v2 v3 (wr.drewN (fN .add .f32 v0 v1))) + fN .mul .f32 (fV .add .f32 (fV .add .f32 v0 v1 wr) (fV .add .f32 v2 v3 (wr.drewN (fN .add .f32 v0 v1))) (wr.drewN (fN .add .f32 v0 v1 + fN .add .f32 v2 v3))) 1056964608)) = v := ⟨_, rfl⟩
          have hnc : cl .f32 ns = gN s number qx qy (c : Int) := by
            rw [← hns, HN.out]
            unfold nzP
            simp only [cl_fV', fC_fV_l, fC_fV_r]
          have k1 : Kept None' wo W1 := by rw [hW]; exact HI.out.1.drew _
          simp only [hns]
          have HN2 := Lib.hid (And.intro hnc k1)
          clear hns hnc k1 hW u0 u1 u2 u3
          have s1 := HS.out.step HN2.out.2
          have A3 := ext_cell s1.g3
          have A5 := ext_cell (s1.px c (by omega))
          have B2 := ext_cell s1.g2
          have HS1 := Lib.hid s1
          clear s1
          refine region_with (by kernel_rfl) (by kernel_rfl) ?_
          repeat (first
            | (refine wpWith_det ?_; go_big_quiet_want; go_big_quiet_op; go_big_quiet_on; refine wpQuiet_nil ?_)
            | fail)
          refine wpWith_float (by rfl) rfl (by simp) rfl rfl (fun r1 hr1 => ?_)
          simp only [Act.put, List.setIfInBounds_toArray, List.set_cons_zero, List.set_cons_succ]
          refine wpWith_float (by rfl) rfl (by simp) rfl rfl (fun r2 hr2 => ?_)
          simp only [Act.put, List.setIfInBounds_toArray, List.set_cons_zero, List.set_cons_succ]
          refine wpWith_det ?_
          go_big_quiet_want
          go_big_quiet_op
          go_big_quiet_call ((go_at_call 26; exact calls_ext_same (limitof_any _ _ _ _)))
          refine wpQuiet_nil ?_
          repeat (first
            | (refine wpWith_det ?_; go_big_quiet_want; go_big_quiet_op; go_big_quiet_on; refine wpQuiet_nil ?_)
            | fail)
          refine wpWith_nil ?_
          rintro _ ⟨xq, rfl⟩
          have hw : limP r2 0 1065353216 = gW F (p c) := by
            rw [← limP_cl, hr2, fC_r hr1]
            rfl
          obtain ⟨wt, hwt⟩ : ∃ v, limP r2 0 1065353216 = v := ⟨_, rfl⟩
          rw [hwt] at hw
          simp only [hwt]
          have s2 := HS1.out.step (ext_kept W1 xq)
          have HW := Lib.hid (And.intro hw (And.intro s2 (HN2.out.2.trans (ext_kept W1 xq))))
          clear A3 A5 B2 hr1 hr2 hw hwt s2
          generalize ext W1 xq = W2 at *
          go_wp2_with fail
          have A5 := ext_cell (HW.out.2.1.px c (by omega))
          have B2 := ext_cell HW.out.2.1.g2
          refine region_with_tail 13 (by kernel_rfl) (by kernel_rfl) ?_
          simp only [List.take_succ_cons, List.take_zero, List.drop_succ_cons, List.drop_zero]
          repeat (first
            | (refine wpWith_det ?_; go_big_quiet_want; go_big_quiet_op; go_big_quiet_on; refine wpQuiet_nil ?_)
            | fail)
          refine wpWith_float (by rfl) rfl (by simp) rfl rfl (fun r3 hr3 => ?_)
          simp only [Act.put, List.setIfInBounds_toArray, List.set_cons_zero, List.set_cons_succ]
          repeat (first
            | (refine wpWith_det ?_; go_big_quiet_want; go_big_quiet_op; go_big_quiet_on; refine wpQuiet_nil ?_)
            | fail)
          refine wpWith_float (by rfl) rfl (by simp) rfl rfl (fun r4 hr4 => ?_)
          simp only [Act.put, List.setIfInBounds_toArray, List.set_cons_zero, List.set_cons_succ]
          refine wpWith_float (by rfl) rfl (by simp) rfl rfl (fun r5 hr5 => ?_)
          simp only [Act.put, List.setIfInBounds_toArray, List.set_cons_zero, List.set_cons_succ]
          refine wpWith_det ?_
          go_big_quiet_want
          go_big_quiet_op
          go_big_quiet_call ((go_at_call 25; exact calls_ext_same (fix_any _ _)))
          refine wpQuiet_nil ?_
          repeat (first
            | (refine wpWith_det ?_; go_big_quiet_want; go_big_quiet_op; go_big_quiet_on; refine wpQuiet_nil ?_)
            | fail)
          refine wpWith_nil ?_
          rintro _ ⟨xq, rfl⟩
          have hv : cl .f32 r5 = gP s number qx qy (c : Int) S F (p c) := by
            rw [hr5, fC_r hr4, fC_l hr3, fC_l HN2.out.1, HW.out.1]
            rfl
          simp only [hv]
          have s3 := HW.out.2.1.step (ext_kept W2 xq)
          have qc := s3.qs c (by omega)
          have fc := s3.fz ⟨w.heap.size + 1 + 1 + 1, c, none⟩ (by simp; omega)
          have HS3 := Lib.hid s3
          clear A5 B2 hr3 hr4 hr5 hv s3
          generalize ext W2 xq = W3 at *
          go_wp2_with fail
          go_roundw
          case rel =>
            refine ⟨c + 1, by omega, by go_num, HS3.out.set c _ ?_⟩
            intro j hj
            exact gQ_set s S F false number qx qy p c j hlt
          case measure => simp [intOf]; omega

      | true =>
        have d1 : decide ((c : Int) < 3) = true := by simp; omega
        have g4 := HS.out.g4
        go_wp2_with fail
        refine of_world (fun wu hW => ?_)
        have kU : Kept None' wr wu := by rw [hW]; exact (Kept.refl _ _).alloc _ _
        have hu0 : ∀ j, j < 4 → wu.cell? ⟨wr.heap.size, j, none⟩ = some (.float .f32 0) := by
          intro j hj
          rw [hW]
          obtain rfl | rfl | rfl | rfl : j = 0 ∨ j = 1 ∨ j = 2 ∨ j = 3 := by omega
          all_goals go_simp
        have hf0 : ∀ a : Addr, w.heap.size ≤ a.block → wu.frozen? a = false := by
          intro a ha
          rw [hW]
          exact (frozen?_alloc_cells _ _ _ _).trans (HS.out.fz a ha)
        have HU := Lib.hid (And.intro kU (And.intro hu0 hf0))
        have lr : w.heap.size ≤ wr.heap.size := HS.out.kept.size
        clear hW kU hu0 hf0 g4
        obtain ⟨wo, rfl⟩ : ∃ wo : World, wo = wr := ⟨_, rfl⟩
        go_loopw [28] (fun i wi => ∃ k : Nat, k ≤ 4 ∧ i = .int .i64 k ∧ Kept None' wo wi ∧ (∀ j, j < 4 → wi.cell? ⟨wo.heap.size, j, none⟩ = some (.float .f32 (if j < k then gU s number qx qy (4 * (0 : Int) + j) else 0))) ∧ (∀ a : Addr, w.heap.size ≤ a.block → wi.frozen? a = false)) (fun i _ => 4 - (intOf i).toNat)
        case atStart => exact ⟨0, by omega, rfl, HU.out.1, fun j hj => by rw [if_neg (by omega)]; exact HU.out.2.1 j hj, HU.out.2.2⟩
        case round =>
        obtain ⟨k, hk, rfl, kk, hu, hf⟩ := hrel
        have HI := Lib.hid (And.intro kk (And.intro hu hf))
        clear kk hu hf HU
        by_cases hlt2 : k < 4
        · have d2 : decide ((k : Int) < 4) = true := by simp; omega
          go_wp2_with fail
          obtain ⟨sd, hsd⟩ : ∃ y, bits .xor .u32 s (number % 4294967296) = y := ⟨_, rfl⟩
          obtain ⟨y0, e0⟩ : ∃ y, hIt sd qx qy (k : Int) 3 = y := ⟨_, rfl⟩
          have r0 := hIt_range sd qx qy (k : Int) 3
          rw [e0] at r0
          have HE := Lib.hid (And.intro r0 (And.intro e0 hsd))
          have A0 := ext_cell (HI.out.1.some HS.out.g0 id)
          have A1 := ext_cell (HI.out.1.some HS.out.g1 id)
          clear r0 e0 hsd
          have w4 : IntKind.i64.wrap (4 * (0 : Int)) = 4 * (0 : Int) := IntWalk.i64_in _ (by omega)
          have w5 : IntKind.i64.wrap (4 * (0 : Int) + k) = 4 * (0 : Int) + k := IntWalk.i64_in _ (by omega)
          refine region_ext_tail 21 (by kernel_rfl) (by kernel_rfl) ?_
          simp only [List.take_succ_cons, List.take_zero, List.drop_succ_cons, List.drop_zero]
          repeat (first
            | go_big_quiet_skip
            | (go_big_quiet_want; go_big_quiet_op; first | go_big_quiet_on | go_big_quiet_call (first
              | (go_at_call 87; exact calls_ext_same ((floorover_any _ _ _ z1 z2 (by assumption) (by assumption)).mono fun e w' ⟨a, b⟩ => ⟨by (first | rw [a, HX.out] | rw [a, HY.out]), b⟩))
              | (go_at_call 86; exact calls_ext_grown ((hashof_any _ _ _ _ _).mono fun e w' ⟨a, b⟩ => ⟨by rw [a, HE.out.2.2, HE.out.2.1], b⟩))
              | (go_at_call 85; exact calls_ext_same (unitof_any _ _ HE.out.1.1 HE.out.1.2)))))
          refine wpQuiet_nil ?_
          rintro _ ⟨xq, rfl⟩
          clear A0 A1 w4 w5
          have kx := ext_kept wr xq
          have ku := kx.some (HI.out.2.1 k hlt2) id
          have fu := (kx.frozen ⟨wo.heap.size, k, none⟩).trans (HI.out.2.2 _ (by simp; omega))
          have hn : unitP y0 = gU s number qx qy (4 * (0 : Int) + k) := by
            rw [show 4 * (0 : Int) + (k : Int) = (k : Int) by omega]
            unfold gU gSd
            rw [HE.out.2.2, HE.out.2.1]
          have HN := Lib.hid hn
          have KX := Lib.hid kx
          clear hn kx
          go_wp2_with fail
          go_roundw
          case rel =>
            refine ⟨k + 1, by omega, by go_num, ?_, ?_, ?_⟩
            · exact (HI.out.1.trans KX.out).setCell (Or.inl (by simp)) _
            · intro j hj
              have hj0 := KX.out.some (HI.out.2.1 j hj) id
              by_cases e : j = k
              · subst e
                rw [if_pos (by omega), ← HN.out]
                exact cell_set_eq ku
              · rw [cell_set_ne hj0 (Or.inr (fun x => e x.symm))]
                by_cases e2 : j < k
                · rw [if_pos e2, if_pos (by omega)]
                · rw [if_neg e2, if_neg (by omega)]
            · intro a ha
              exact (World.frozen?_setCell ..).trans ((KX.out.frozen a).trans (HI.out.2.2 a ha))
          case measure => simp [intOf]; omega
        · obtain rfl : k = 4 := by omega
          have d2 : decide (((4 : Nat) : Int) < 4) = false := by simp
          have u0 := HI.out.2.1 0 (by omega)
          have u1 := HI.out.2.1 1 (by omega)
          have u2 := HI.out.2.1 2 (by omega)
          have u3 := HI.out.2.1 3 (by omega)
          rw [if_pos (by omega)] at u0 u1 u2 u3
          obtain ⟨v0, e0⟩ : ∃ v, gU s number qx qy (4 * (0 : Int) + (0 : Nat)) = v := ⟨_, rfl⟩
          obtain ⟨v1, e1⟩ : ∃ v, gU s number qx qy (4 * (0 : Int) + (1 : Nat)) = v := ⟨_, rfl⟩
          obtain ⟨v2, e2⟩ : ∃ v, gU s number qx qy (4 * (0 : Int) + (2 : Nat)) = v := ⟨_, rfl⟩
          obtain ⟨v3, e3⟩ : ∃ v, gU s number qx qy (4 * (0 : Int) + (3 : Nat)) = v := ⟨_, rfl⟩
          rw [e0] at u0
          rw [e1] at u1
          rw [e2] at u2
          rw [e3] at u3
          have hN : gN s number qx qy (0 : Int) = nzP v0 v1 v2 v3 := by
            rw [gN_nz, ← e0, ← e1, ← e2, ← e3]
            simp
          have HN := Lib.hid hN
          clear e0 e1 e2 e3 hN
          go_wp2_with fail
          refine of_world (fun W1 hW => ?_)
          obtain ⟨ns, hns⟩ : ∃ v, fV .sub .f32 (fV .mul .f32 (fV .add .f32 (fV .add .f32 v0 v1 wr) (fV .add .f32 v2 v3 (wr.drewN (fN .add .f32 v0 v1))) (wr.drewN (fN .add .f32 v0 v1 + fN .add .f32 v2 v3))) 1056964608 (wr.drewN (fN .add .f32 v0 v1 + fN .add .f32 v2 v3 + fN .add .f32 (fV .add .f32 v0 v1 wr) (fV .add .f32 v2 v3 (wr.drewN (fN .add .f32 v0 v1)))))) 1065353216 (wr.drewN (fN .add .f32 v0 v1 + fN .add .f32 v2 v3 + fN .add .f32 (fV .add .f32 v0 v1 wr) (fV .add .f32 v2 v3 (wr.drewN (fN .add .f32 v0 v1))) + fN .mul .f32 (fV .add .f32 (fV .add .f32 v0 v1 wr) (fV .add .f32 v2 v3 (wr.drewN (fN .add .f32 v0 v1))) (wr.drewN (fN .add .f32 v0 v1 + fN .add .f32 v2 v3))) 1056964608)) = v := ⟨_, rfl⟩
          have hnc : cl .f32 ns = gN s number qx qy (0 : Int) := by
            rw [← hns, HN.out]
            unfold nzP
            simp only [cl_fV', fC_fV_l, fC_fV_r]
          have k1 : Kept None' wo W1 := by rw [hW]; exact HI.out.1.drew _
          simp only [hns]
          have HN2 := Lib.hid (And.intro hnc k1)
          clear hns hnc k1 hW u0 u1 u2 u3
          have s1 := HS.out.step HN2.out.2
          have A3 := ext_cell s1.g3
          have A5 := ext_cell (s1.px c (by omega))
          have B2 := ext_cell s1.g2
          have HS1 := Lib.hid s1
          clear s1
          refine region_with (by kernel_rfl) (by kernel_rfl) ?_
          repeat (first
            | (refine wpWith_det ?_; go_big_quiet_want; go_big_quiet_op; go_big_quiet_on; refine wpQuiet_nil ?_)
            | fail)
          refine wpWith_float (by rfl) rfl (by simp) rfl rfl (fun r1 hr1 => ?_)
          simp only [Act.put, List.setIfInBounds_toArray, List.set_cons_zero, List.set_cons_succ]
          refine wpWith_float (by rfl) rfl (by simp) rfl rfl (fun r2 hr2 => ?_)
          simp only [Act.put, List.setIfInBounds_toArray, List.set_cons_zero, List.set_cons_succ]
          refine wpWith_det ?_
          go_big_quiet_want
          go_big_quiet_op
          go_big_quiet_call ((go_at_call 26; exact calls_ext_same (limitof_any _ _ _ _)))
          refine wpQuiet_nil ?_
          repeat (first
            | (refine wpWith_det ?_; go_big_quiet_want; go_big_quiet_op; go_big_quiet_on; refine wpQuiet_nil ?_)
            | fail)
          refine wpWith_nil ?_
          rintro _ ⟨xq, rfl⟩
          have hw : limP r2 0 1065353216 = gW F (p c) := by
            rw [← limP_cl, hr2, fC_r hr1]
            rfl
          obtain ⟨wt, hwt⟩ : ∃ v, limP r2 0 1065353216 = v := ⟨_, rfl⟩
          rw [hwt] at hw
          simp only [hwt]
          have s2 := HS1.out.step (ext_kept W1 xq)
          have HW := Lib.hid (And.intro hw (And.intro s2 (HN2.out.2.trans (ext_kept W1 xq))))
          clear A3 A5 B2 hr1 hr2 hw hwt s2
          generalize ext W1 xq = W2 at *
          go_wp2_with fail
          have A5 := ext_cell (HW.out.2.1.px c (by omega))
          have B2 := ext_cell HW.out.2.1.g2
          refine region_with_tail 13 (by kernel_rfl) (by kernel_rfl) ?_
          simp only [List.take_succ_cons, List.take_zero, List.drop_succ_cons, List.drop_zero]
          repeat (first
            | (refine wpWith_det ?_; go_big_quiet_want; go_big_quiet_op; go_big_quiet_on; refine wpQuiet_nil ?_)
            | fail)
          refine wpWith_float (by rfl) rfl (by simp) rfl rfl (fun r3 hr3 => ?_)
          simp only [Act.put, List.setIfInBounds_toArray, List.set_cons_zero, List.set_cons_succ]
          repeat (first
            | (refine wpWith_det ?_; go_big_quiet_want; go_big_quiet_op; go_big_quiet_on; refine wpQuiet_nil ?_)
            | fail)
          refine wpWith_float (by rfl) rfl (by simp) rfl rfl (fun r4 hr4 => ?_)
          simp only [Act.put, List.setIfInBounds_toArray, List.set_cons_zero, List.set_cons_succ]
          refine wpWith_float (by rfl) rfl (by simp) rfl rfl (fun r5 hr5 => ?_)
          simp only [Act.put, List.setIfInBounds_toArray, List.set_cons_zero, List.set_cons_succ]
          refine wpWith_det ?_
          go_big_quiet_want
          go_big_quiet_op
          go_big_quiet_call ((go_at_call 25; exact calls_ext_same (fix_any _ _)))
          refine wpQuiet_nil ?_
          repeat (first
            | (refine wpWith_det ?_; go_big_quiet_want; go_big_quiet_op; go_big_quiet_on; refine wpQuiet_nil ?_)
            | fail)
          refine wpWith_nil ?_
          rintro _ ⟨xq, rfl⟩
          have hv : cl .f32 r5 = gP s number qx qy (0 : Int) S F (p c) := by
            rw [hr5, fC_r hr4, fC_l hr3, fC_l HN2.out.1, HW.out.1]
            rfl
          simp only [hv]
          have s3 := HW.out.2.1.step (ext_kept W2 xq)
          have qc := s3.qs c (by omega)
          have fc := s3.fz ⟨w.heap.size + 1 + 1 + 1, c, none⟩ (by simp; omega)
          have HS3 := Lib.hid s3
          clear A5 B2 hr3 hr4 hr5 hv s3
          generalize ext W2 xq = W3 at *
          go_wp2_with fail
          go_roundw
          case rel =>
            refine ⟨c + 1, by omega, by go_num, HS3.out.set c _ ?_⟩
            intro j hj
            exact gQ_set s S F true number qx qy p c j hlt
          case measure => simp [intOf]; omega
    · obtain rfl : c = 3 := by omega
      have q0 := HS.out.qs 0 (by omega)
      have q1 := HS.out.qs 1 (by omega)
      have q2 := HS.out.qs 2 (by omega)
      have q3 := HS.out.qs 3 (by omega)
      have r0 := HS.out.rs 0 (by omega)
      have r1 := HS.out.rs 1 (by omega)
      have r2 := HS.out.rs 2 (by omega)
      have r3 := HS.out.rs 3 (by omega)
      have f0 := HS.out.fz ⟨w.heap.size + 1 + 1, 0, none⟩ (by simp; omega)
      have f1 := HS.out.fz ⟨w.heap.size + 1 + 1, 1, none⟩ (by simp; omega)
      have f2 := HS.out.fz ⟨w.heap.size + 1 + 1, 2, none⟩ (by simp; omega)
      have f3 := HS.out.fz ⟨w.heap.size + 1 + 1, 3, none⟩ (by simp; omega)
      obtain ⟨v0, e0⟩ : ∃ v, gQ s S F m number qx qy p 3 0 = v := ⟨_, rfl⟩
      obtain ⟨v1, e1⟩ : ∃ v, gQ s S F m number qx qy p 3 1 = v := ⟨_, rfl⟩
      obtain ⟨v2, e2⟩ : ∃ v, gQ s S F m number qx qy p 3 2 = v := ⟨_, rfl⟩
      obtain ⟨v3, e3⟩ : ∃ v, gQ s S F m number qx qy p 3 3 = v := ⟨_, rfl⟩
      rw [e0] at q0
      rw [e1] at q1
      rw [e2] at q2
      rw [e3] at q3
      have h0 : gP s number qx qy (gC m 0) S F (p 0) = v0 := e0
      have h1 : gP s number qx qy (gC m 1) S F (p 1) = v1 := e1
      have h2 : gP s number qx qy (gC m 2) S F (p 2) = v2 := e2
      have h3 : cl .f32 (p 3) = v3 := e3
      have HH := Lib.hid (And.intro h0 (And.intro h1 (And.intro h2 h3)))
      clear e0 e1 e2 e3 h0 h1 h2 h3
      go_wp2_with fail
      have cs := cells_set4 (v0 := .float .f32 v0) (v1 := .float .f32 v1) (v2 := .float .f32 v2) (v3 := .float .f32 v3) r0 r1 r2 r3
      refine bodyPost_ret (px_ret Try.results46 _ _ (w.heap.size + 1 + 1) _ _ _ _ cs.1 cs.2.1 cs.2.2.1 cs.2.2.2 rfl) rfl ?_
      rw [HH.out.1, HH.out.2.1, HH.out.2.2.1, HH.out.2.2.2]
      refine ⟨rfl, ?_⟩
      have kk := HS.out.kept
      exact (((kk.setCell (Or.inl (by simp; omega)) _).setCell (Or.inl (by simp; omega)) _).setCell (Or.inl (by simp; omega)) _).setCell (Or.inl (by simp; omega)) _
end Go.Proofs.Ytfphhlodfieopaa
