/- The contract of TetraOf. Conditions: none. -/
import Derived.Test.YtkmganophcklgaaTf
import Derived.Test.YtkmganophcklgaaTg
namespace Go.Proofs.Ytkmganophcklgaa
open Go.RowKit
open Fl Fr
open BigFrame

set_option linter.unusedSimpArgs false in
set_option linter.unusedVariables false in
set_option maxHeartbeats 4000000 in
set_option maxRecDepth 100000 in
theorem tetraof_bad (S : Int) (lo hi b o n cap : Nat) (E : Int → Int → Int → Nat → Nat) (p : Nat → Nat) (w : World) (hp : brk p = true) :
    Calls Try.prog 40 #[.agg #[.int .i64 S, .float .f32 lo, .float .f32 hi, .slice (some ⟨b, o, none⟩) n cap], .agg #[.float .f32 (p 0), .float .f32 (p 1), .float .f32 (p 2), .float .f32 (p 3)]] w (PxIs (teP E S lo hi p) w) := by
  have e0 : teP E S lo hi p 0 = qn .f32 := by unfold teP; rw [if_neg (by decide), if_pos hp]
  have e1 : teP E S lo hi p 1 = qn .f32 := by unfold teP; rw [if_neg (by decide), if_pos hp]
  have e2 : teP E S lo hi p 2 = qn .f32 := by unfold teP; rw [if_neg (by decide), if_pos hp]
  have e3 : teP E S lo hi p 3 = cl .f32 (p 3) := by unfold teP; rw [if_pos rfl]
  unfold PxIs
  rw [e0, e1, e2, e3]
  have hbk : (nan .f32 (p 0) || (nan .f32 (p 1) || nan .f32 (p 2))) = true := hp
  have HBK := Lib.hid hbk
  clear e0 e1 e2 e3 hbk hp
  go_enter Try.func40, Try.ntmps40
  go_upto_region 3 with (first
    | (go_at_call 85; refine (thenan_any _).mono ?_; rintro e w' ⟨rfl, rfl⟩)
    | (go_at_call 89; refine (broken_any _ _ _ _ _).mono ?_; rw [HBK.out]; rintro e w1 ⟨rfl, hk⟩))
  have c3 : w1.cell? ⟨w.heap.size + 1, 3, none⟩ = some (.float .f32 (p 3)) := hk.some (by go_simp) id
  have r0 : w1.cell? ⟨w.heap.size + 1 + 1, 0, none⟩ = some (.float .f32 0) := hk.some (by go_simp) id
  have r1 : w1.cell? ⟨w.heap.size + 1 + 1, 1, none⟩ = some (.float .f32 0) := hk.some (by go_simp) id
  have r2 : w1.cell? ⟨w.heap.size + 1 + 1, 2, none⟩ = some (.float .f32 0) := hk.some (by go_simp) id
  have r3 : w1.cell? ⟨w.heap.size + 1 + 1, 3, none⟩ = some (.float .f32 0) := hk.some (by go_simp) id
  have zz : ∀ c, w1.frozen? ⟨w.heap.size + 1 + 1, c, none⟩ = false := fun c => ((hk.frozen _).trans ((frozen?_alloc_cells _ _ _ _).trans ((frozen?_alloc_cells _ _ _ _).trans ((frozen?_alloc_cells _ _ _ _).trans (frozen_new _ _ (by simp; omega))))))
  have z0 := zz 0
  have z1 := zz 1
  have z2 := zz 2
  have z3 := zz 3
  have KW := Lib.hid (((((Kept.refl None' w).alloc _ _).alloc _ _).alloc _ _).trans hk)
  clear hk zz
  go_wp2_with (first
    | (go_at_call 31; refine (fix_any _ _).mono ?_; rintro e w2 ⟨rfl, rfl⟩))
  have cs := cells_set4 (v0 := .float .f32 (qn .f32)) (v1 := .float .f32 (qn .f32)) (v2 := .float .f32 (qn .f32)) (v3 := .float .f32 (cl .f32 (p 3))) r0 r1 r2 r3
  refine bodyPost_ret (px_ret Try.results40 _ _ (w.heap.size + 1 + 1) _ _ _ _ cs.1 cs.2.1 cs.2.2.1 cs.2.2.2 rfl) rfl ?_
  exact ⟨rfl, kept_set4' KW.out (by omega)⟩

set_option linter.unusedSimpArgs false in
set_option linter.unusedVariables false in
set_option maxHeartbeats 16000000 in
set_option maxRecDepth 100000 in
theorem tetraof_ok (S : Int) (lo hi b o n cap : Nat) (E : Int → Int → Int → Nat → Nat) (p : Nat → Nat) (w : World) (s1 : 2 ≤ S) (s2 : S ≤ 17) (hp : brk p = false) (hcan : ∀ x y z c, cl .f32 (E x y z c) = E x y z c)
    (hE : ∀ (x y z : Int) (wr : World), Kept None' w wr → 0 ≤ x → x < S → 0 ≤ y → y < S → 0 ≤ z → z < S → Calls Try.prog 20 #[.agg #[.int .i64 S, .float .f32 lo, .float .f32 hi, .slice (some ⟨b, o, none⟩) n cap], .int .i64 x, .int .i64 y, .int .i64 z] wr fun e w' =>
      e = .returned (.agg #[.float .f32 (E x y z 0), .float .f32 (E x y z 1), .float .f32 (E x y z 2)]) ∧ Kept None' wr w') :
    Calls Try.prog 40 #[.agg #[.int .i64 S, .float .f32 lo, .float .f32 hi, .slice (some ⟨b, o, none⟩) n cap], .agg #[.float .f32 (p 0), .float .f32 (p 1), .float .f32 (p 2), .float .f32 (p 3)]] w (PxIs (teP E S lo hi p) w) := by
  obtain ⟨f, hf⟩ : ∃ f : Nat → Int, ∀ c, axI S lo hi (p c) = f c := ⟨_, fun _ => rfl⟩
  obtain ⟨x, hx⟩ : ∃ x : Nat → Nat, ∀ c, axS S lo hi (p c) = x c := ⟨_, fun _ => rfl⟩
  have hfb : ∀ c, 0 ≤ f c ∧ f c ≤ S - 2 := fun c => by rw [← hf]; exact ax_bd s1 s2 lo hi (p c)
  have hP := fun c w => onaxis_any S lo hi (some ⟨b, o, none⟩) n cap (p c) w s1 s2
  simp only [hf, hx] at hP
  have hbk : (nan .f32 (p 0) || (nan .f32 (p 1) || nan .f32 (p 2))) = false := hp
  have hT : ∀ c, teP E S lo hi p c = if c = 3 then cl .f32 (p 3) else teR E f x c := fun c => by
    unfold teP
    rw [hp]
    simp only [Bool.false_eq_true, if_false, hf, hx]
  have HT := Lib.hid hT
  have HCAN := Lib.hid hcan
  have HBK := Lib.hid hbk
  have HP := Lib.hid hP
  have HE := Lib.hid hE
  have HFB := Lib.hid hfb
  clear hT hP hE hfb hf hx hp hcan hbk
  go_enter Try.func40, Try.ntmps40
  go_upto_region 6 with (first
    | (go_at_call 85; refine (thenan_any _).mono ?_; rintro e w' ⟨rfl, rfl⟩)
    | (go_at_call 89; refine (broken_any _ _ _ _ _).mono ?_; rw [HBK.out]; rintro e w1 ⟨rfl, hk⟩))
  refine of_world (fun W1 hW => ?_)
  have k1 : Kept None' w1 W1 := by rw [hW]; exact ((Kept.refl _ _).alloc _ _).alloc _ _
  have hB : CubB w.heap.size S lo hi b o n cap W1 := ⟨k1.some (hk.some (by go_simp) id) id, k1.some (hk.some (by go_simp) id) id, k1.some (hk.some (by go_simp) id) id, k1.some (hk.some (by go_simp) id) id⟩
  have hpx : ∀ c, c < 4 → W1.cell? ⟨w.heap.size + 1, c, none⟩ = some (.float .f32 (p c)) := fun c hc => by
    obtain rfl | rfl | rfl | rfl : c = 0 ∨ c = 1 ∨ c = 2 ∨ c = 3 := by omega
    all_goals exact k1.some (hk.some (by go_simp) id) id
  have hr : ∀ c, c < 4 → W1.cell? ⟨w.heap.size + 1 + 1, c, none⟩ = some (.float .f32 0) := fun c hc => by
    obtain rfl | rfl | rfl | rfl : c = 0 ∨ c = 1 ∨ c = 2 ∨ c = 3 := by omega
    all_goals exact k1.some (hk.some (by go_simp) id) id
  have hS0 : PlS W1 w1.heap.size (w1.heap.size + 1) f x 0 W1 := by
    refine ⟨Kept.refl _ _, fun c hc => ?_, fun c hc => ?_⟩
    all_goals
      rw [hW]
      obtain rfl | rfl | rfl : c = 0 ∨ c = 1 ∨ c = 2 := by omega
      all_goals go_simp
  have zz : ∀ a : Addr, w.heap.size ≤ a.block → W1.frozen? a = false := fun a ha => by
    rw [hW]
    exact (frozen?_alloc_cells _ _ _ _).trans ((frozen?_alloc_cells _ _ _ _).trans ((hk.frozen _).trans ((frozen?_alloc_cells _ _ _ _).trans ((frozen?_alloc_cells _ _ _ _).trans ((frozen?_alloc_cells _ _ _ _).trans (frozen_new _ _ ha))))))
  have hsz : w.heap.size + 3 ≤ w1.heap.size := by
    have := hk.size
    simpa using this
  have KW := Lib.hid (((((Kept.refl None' w).alloc _ _).alloc _ _).alloc _ _).trans (hk.trans k1))
  have HB := Lib.hid hB
  have HX := Lib.hid (And.intro hpx hr)
  have HS0 := Lib.hid hS0
  have Z1 := Lib.hid zz
  have HZ := Lib.hid hsz
  clear hW hk k1 hB hpx hr hS0 zz hsz
  generalize hB6 : w1.heap.size + 1 = B6 at *
  generalize hB5 : w1.heap.size = B5 at *
  generalize hB4 : w.heap.size + 1 + 1 = B4 at *
  generalize hB3 : w.heap.size + 1 = B3 at *
  generalize hB2 : w.heap.size = B2 at *
  have HN := Lib.hid (And.intro hB6 (And.intro hB4 (And.intro hB3 hB2)))
  clear hB6 hB5 hB4 hB3 hB2
  go_wp2_with fail
  go_loopw [33] (fun s33 wr => ∃ k : Nat, k ≤ 3 ∧ s33 = .int .i64 (k : Int) ∧ PlS W1 B5 B6 f x k wr) (fun s33 _ => (3 - intOf s33).toNat)
  case atStart => exact ⟨0, by omega, rfl, HS0.out⟩
  case round =>
    obtain ⟨k, hk, rfl, hS⟩ := hrel
    have HS := Lib.hid hS
    have nx : ¬ (B3 = B5 ∨ B3 = B6) := by have := HN.out; have := HZ.out; omega
    have nt : ¬ (B2 = B5 ∨ B2 = B6) := by have := HN.out; have := HZ.out; omega
    by_cases hlt : k < 3
    · have d1 : decide ((k : Int) < 3) = true := decide_eq_true (by omega)
      have e0 : 0 ≤ (k : Int) := by omega
      have e1 : (k : Int) < 4 := by omega
      have e2 : (k : Int) < 3 := by omega
      have A0 := ext_cell (hS.kept.some HB.out.c0 nt)
      have A1 := ext_cell (hS.kept.some HB.out.c1 nt)
      have A2 := ext_cell (hS.kept.some HB.out.c2 nt)
      have A3' := ext_cell (hS.kept.some HB.out.c3 nt)
      have A4' := ext_cell (hS.kept.some (HX.out.1 k (by omega)) nx)
      clear hS
      go_wp2_with fail
      refine region_plan [0, 1] [2, 3, 4, 5, 6] [7, 8, 9, 10] [11, 12, 13] (by kernel_rfl) (by kernel_rfl) ?_
      simp only [pickO, List.filterMap_cons, List.filterMap_nil, List.getElem?_toArray, List.getElem?_cons_zero, List.getElem?_cons_succ]
      refine wpPure_cons (.int .i64 (k : Int)) rfl (fun w => by go_simp) ?_
      simp only [Act.put, List.setIfInBounds_toArray, List.set_cons_zero, List.set_cons_succ]
      refine wpPure_cons (.int .i64 (k : Int)) rfl (fun w => by go_simp) ?_
      simp only [Act.put, List.setIfInBounds_toArray, List.set_cons_zero, List.set_cons_succ]
      refine wpPure_nil ?_
      repeat (first
        | (refine wpWith_det ?_; go_big_quiet_want; go_big_quiet_op; go_big_quiet_on; refine wpQuiet_nil ?_)
        | (refine wpWith_det ?_; go_big_quiet_skip; refine wpQuiet_nil ?_)
        | fail)
      refine wpWith_det ?_
      go_big_quiet_want
      go_big_quiet_op
      go_big_quiet_call ((go_at_call 38; exact calls_ext (HP.out k _)))
      refine wpQuiet_nil ?_
      refine wpWith_nil ?_
      refine wpPure_cons (.tuple #[.int .i64 (f k), .float .f32 (x k)]) rfl (fun w => by go_simp) ?_
      simp only [Act.put, List.setIfInBounds_toArray, List.set_cons_zero, List.set_cons_succ]
      refine wpPure_cons (.int .i64 (f k)) rfl (fun w => by go_simp) ?_
      simp only [Act.put, List.setIfInBounds_toArray, List.set_cons_zero, List.set_cons_succ]
      refine wpPure_cons (.float .f32 (x k)) rfl (fun w => by go_simp) ?_
      simp only [Act.put, List.setIfInBounds_toArray, List.set_cons_zero, List.set_cons_succ]
      refine wpPure_cons (.pointer (some ⟨B5, k, none⟩)) rfl (fun w => by go_simp) ?_
      simp only [Act.put, List.setIfInBounds_toArray, List.set_cons_zero, List.set_cons_succ]
      refine wpPure_nil ?_
      rintro _ ⟨xq, rfl⟩
      have hS := HS.out.step (ext_kept _ xq)
      have HS2 := Lib.hid hS
      clear A0 A1 A2 A3' A4'
      generalize ext _ xq = W2 at *
      have b5 := hS.c5 k hlt
      have b6 := hS.c6 k hlt
      have z5 := (hS.kept.frozen ⟨B5, k, none⟩).trans (Z1.out _ (by have := HN.out; have := HZ.out; show B2 ≤ B5; omega))
      have z6 := (hS.kept.frozen ⟨B6, k, none⟩).trans (Z1.out _ (by have := HN.out; have := HZ.out; show B2 ≤ B6; omega))
      have n56 : B5 ≠ B6 := by have := HN.out; omega
      have b6' : ∀ u, (W2.setCell ⟨B5, k, none⟩ u).cell? ⟨B6, k, none⟩ = some (.float .f32 (if k < k then x k else 0)) := fun u => cell_set_ne b6 (Or.inl n56)
      have z6' : ∀ u, (W2.setCell ⟨B5, k, none⟩ u).frozen? ⟨B6, k, none⟩ = false := fun u => (World.frozen?_setCell ..).trans z6
      have N56 := Lib.hid n56
      clear hS n56
      go_wp2_with fail
      rw [Qn_normal]
      go_wp2_with fail
      go_roundw
      case rel => exact ⟨k + 1, by omega, by go_num, HS2.out.set hlt N56.out rfl rfl⟩
      case measure => simp [intOf]; omega
    · obtain rfl : k = 3 := by omega
      rw [show ((3 : Nat) : Int) = 3 from rfl]
      have d1 : decide ((3 : Int) < 3) = false := by decide
      go_upto_region 12 with (fail)
      refine of_world (fun Wa hW => ?_)
      have k2 : Kept None' wr Wa := by rw [hW]; exact (Kept.refl _ _).alloc _ _
      have h5 : ∀ c, c < 3 → Wa.cell? ⟨B5, c, none⟩ = some (.int .i64 (f c)) := fun c hc => by have := hS.c5 c hc; rw [if_pos hc] at this; exact k2.some this id
      have h6 : ∀ c, c < 3 → Wa.cell? ⟨B6, c, none⟩ = some (.float .f32 (x c)) := fun c hc => by have := hS.c6 c hc; rw [if_pos hc] at this; exact k2.some this id
      have h8 : OrS Wa wr.heap.size (teG x) 0 Wa := ⟨Kept.refl _ _, fun c hc => by
        rw [hW]
        refine (cell_alloc_one wr _ _ c).trans ?_
        obtain rfl | rfl | rfl : c = 0 ∨ c = 1 ∨ c = 2 := by omega
        all_goals rfl⟩
      have hB2 := (HB.out.step hS.kept nt).step k2 id
      have h3 := k2.some (hS.kept.some (HX.out.1 3 (by omega)) nx) id
      have h4 : ∀ c, c < 4 → Wa.cell? ⟨B4, c, none⟩ = some (.float .f32 0) := fun c hc => k2.some (hS.kept.some (HX.out.2 c hc) (by have := HN.out; have := HZ.out; show ¬ (B4 = B5 ∨ B4 = B6); omega)) id
      have zz : ∀ a : Addr, B2 ≤ a.block → Wa.frozen? a = false := fun a ha => (k2.frozen a).trans ((hS.kept.frozen a).trans (Z1.out a ha))
      have l8 : B6 < wr.heap.size := cell_lt (hS.c6 0 (by omega))
      have hK2 := (kept_over' KW.out hS.kept (fun i hi => by have := HN.out; have := HZ.out; omega)).trans k2
      have HB' := Lib.hid hB2
      have HX' := Lib.hid (And.intro h3 h4)
      have H5 := Lib.hid h5
      have H6 := Lib.hid h6
      have H8 := Lib.hid h8
      have Z1' := Lib.hid zz
      have KW' := Lib.hid hK2
      generalize hB8 : wr.heap.size = B8 at *
      have HN8 := Lib.hid l8
      clear hW k2 h5 h6 h8 hB2 h3 h4 zz l8 hK2 hB8 hS nx nt
      clear HS Z1 KW HB HX
      have HB := HB'
      have HX := HX'
      have Z1 := Z1'
      have KW := KW'
      clear HB' HX' Z1' KW'
      go_wp2_with fail
      go_loopw [50] (fun s50 wr => ∃ P : Nat, P ≤ 2 ∧ s50 = .int .i64 (P : Int) ∧ OrS Wa B8 (teG x) (2 * P) wr) (fun s50 _ => (2 - intOf s50).toNat)
      case atStart => exact ⟨0, by omega, rfl, H8.out⟩
      case round =>
        obtain ⟨P, hP, rfl, hSP⟩ := hrel
        have HSP := Lib.hid hSP
        by_cases hltP : P < 2
        · have d1 : decide ((P : Int) < 2) = true := decide_eq_true (by omega)
          clear hSP
          go_wp2_with fail
          go_loopw [52] (fun s52 wr => ∃ i : Nat, i ≤ 2 ∧ s52 = .int .i64 (i : Int) ∧ OrS Wa B8 (teG x) (2 * P + i) wr) (fun s52 _ => (2 - intOf s52).toNat)
          case atStart => exact ⟨0, by omega, rfl, HSP.out⟩
          case round =>
            obtain ⟨i, hi, rfl, hS⟩ := hrel
            have HS := Lib.hid hS
            by_cases hlt : i < 2
            · obtain ⟨k, hk⟩ : ∃ k, 2 * P + i = k := ⟨_, rfl⟩
              rw [hk] at hS
              have HK := Lib.hid hk
              have hk2 : k % 2 = i := by omega
              clear hk
              obtain ⟨oa, hoa⟩ : ∃ v, ordF (teG x) k (k % 2) = v := ⟨_, rfl⟩
              obtain ⟨ob, hob⟩ : ∃ v, ordF (teG x) k (k % 2 + 1) = v := ⟨_, rfl⟩
              have la : oa < 3 := hoa ▸ ordF_lt _ k _ (by omega)
              have lb : ob < 3 := hob ▸ ordF_lt _ k _ (by omega)
              have ca := hS.cells (k % 2) (by omega)
              have cb := hS.cells (k % 2 + 1) (by omega)
              rw [hoa, hk2] at ca
              rw [hob, hk2] at cb
              have HO := Lib.hid (And.intro hoa hob)
              have HK2 := Lib.hid hk2
              clear hoa hob hk2
              have xa := hS.kept.some (H6.out oa la) (by have := HN8.out; show ¬ B6 = B8; omega)
              have xb := hS.kept.some (H6.out ob lb) (by have := HN8.out; show ¬ B6 = B8; omega)
              clear hS
              have a0 : 0 ≤ (oa : Int) := by omega
              have a1 : (oa : Int) < 3 := by omega
              have b0 : 0 ≤ (ob : Int) := by omega
              have b1 : (ob : Int) < 3 := by omega
              have A2 := ext_cell xa
              have A3 := ext_cell xb
              obtain rfl | rfl : i = 0 ∨ i = 1 := by omega
              all_goals
                have A0 := ext_cell ca
                have A1 := ext_cell cb
                cases hg : (FloatKind.f32.format.order (x ob) (x oa) == some .gt) with
                | false =>
                  clear xa xb ca cb
                  go_wp2_with fail
                  refine region_ext (by kernel_rfl) (by kernel_rfl) ?_
                  repeat (first
                    | go_big_quiet_skip
                    | (go_big_quiet_want; go_big_quiet_op; first | go_big_quiet_on | go_big_quiet_call (first
                      | (fail))))
                  refine wpQuiet_nil ?_
                  rintro _ ⟨xq, rfl⟩
                  have HS1 := Lib.hid (HS.out.step (ext_kept _ xq))
                  clear A0 A1 A2 A3
                  generalize ext _ xq = W2 at *
                  go_wp2_with fail
                  go_roundw
                  case rel =>
                    first
                      | exact ⟨1, by omega, rfl, by have h := HS1.out; rw [HK.out] at h; rw [show 2 * P + 1 = k + 1 by have := HK.out; omega]; exact h.stay (by rw [HO.out.1, HO.out.2]; exact hg)⟩
                      | exact ⟨2, by omega, rfl, by have h := HS1.out; rw [HK.out] at h; rw [show 2 * P + 2 = k + 1 by have := HK.out; omega]; exact h.stay (by rw [HO.out.1, HO.out.2]; exact hg)⟩
                  case measure => simp [intOf]
                | true =>
                  clear xa xb
                  go_wp2_with fail
                  refine region_ext (by kernel_rfl) (by kernel_rfl) ?_
                  repeat (first
                    | go_big_quiet_skip
                    | (go_big_quiet_want; go_big_quiet_op; first | go_big_quiet_on | go_big_quiet_call (first
                      | (fail))))
                  refine wpQuiet_nil ?_
                  rintro _ ⟨xq, rfl⟩
                  have kx := ext_kept wr xq
                  have ca := kx.some ca id
                  have cb := kx.some cb id
                  have HS1 := Lib.hid (HS.out.step kx)
                  have z0 := (HS1.out.kept.frozen ⟨B8, 0, none⟩).trans (Z1.out _ (by have := HN.out; have := HN8.out; have := HZ.out; show B2 ≤ B8; omega))
                  have z1 := (HS1.out.kept.frozen ⟨B8, 1, none⟩).trans (Z1.out _ (by have := HN.out; have := HN8.out; have := HZ.out; show B2 ≤ B8; omega))
                  have z2 := (HS1.out.kept.frozen ⟨B8, 2, none⟩).trans (Z1.out _ (by have := HN.out; have := HN8.out; have := HZ.out; show B2 ≤ B8; omega))
                  clear A0 A1 A2 A3 kx
                  generalize ext _ xq = W2 at *
                  have A0 := ext_cell ca
                  have A1 := ext_cell cb
                  clear ca cb
                  go_wp2_with fail
                  refine region_plan [0, 1, 2, 3, 4] [5, 6, 7, 8, 9, 10, 11, 12, 13] [14] [15, 16, 17] (by kernel_rfl) (by kernel_rfl) ?_
                  simp only [pickO, List.filterMap_cons, List.filterMap_nil, List.getElem?_toArray, List.getElem?_cons_zero, List.getElem?_cons_succ]
                  refine wpPure_cons (.slice (some ⟨B8, 0, none⟩) 3 3) rfl (fun w => by go_simp) ?_
                  simp only [Act.put, List.setIfInBounds_toArray, List.set_cons_zero, List.set_cons_succ]
                  first
                    | (refine wpPure_cons (.int .i64 0) rfl (fun w => ?_) ?_; (· first | (go_simp; done) | rfl))
                    | (refine wpPure_cons (.int .i64 1) rfl (fun w => ?_) ?_; (· first | (go_simp; done) | rfl))
                  simp only [Act.put, List.setIfInBounds_toArray, List.set_cons_zero, List.set_cons_succ]
                  refine wpPure_cons (.slice (some ⟨B8, 0, none⟩) 3 3) rfl (fun w => by go_simp) ?_
                  simp only [Act.put, List.setIfInBounds_toArray, List.set_cons_zero, List.set_cons_succ]
                  first
                    | (refine wpPure_cons (.int .i64 0) rfl (fun w => ?_) ?_; (· first | (go_simp; done) | rfl))
                    | (refine wpPure_cons (.int .i64 1) rfl (fun w => ?_) ?_; (· first | (go_simp; done) | rfl))
                  simp only [Act.put, List.setIfInBounds_toArray, List.set_cons_zero, List.set_cons_succ]
                  first
                    | (refine wpPure_cons (.int .i64 1) rfl (fun w => ?_) ?_; (· first | (go_simp; done) | rfl))
                    | (refine wpPure_cons (.int .i64 2) rfl (fun w => ?_) ?_; (· first | (go_simp; done) | rfl))
                  simp only [Act.put, List.setIfInBounds_toArray, List.set_cons_zero, List.set_cons_succ]
                  refine wpPure_nil ?_
                  repeat (first
                    | (refine wpWith_det ?_; go_big_quiet_want; go_big_quiet_op; go_big_quiet_on; refine wpQuiet_nil ?_)
                    | (refine wpWith_det ?_; go_big_quiet_skip; refine wpQuiet_nil ?_)
                    | fail)
                  refine wpWith_nil ?_
                  first
                    | (refine wpPure_cons (.pointer (some ⟨B8, 0, none⟩)) rfl (fun w => ?_) ?_; (· first | (go_simp; done) | rfl))
                    | (refine wpPure_cons (.pointer (some ⟨B8, 1, none⟩)) rfl (fun w => ?_) ?_; (· first | (go_simp; done) | rfl))
                  simp only [Act.put, List.setIfInBounds_toArray, List.set_cons_zero, List.set_cons_succ]
                  refine wpPure_nil ?_
                  rintro _ ⟨xq, rfl⟩
                  have kx := ext_kept W2 xq
                  have HS2 := Lib.hid (HS1.out.step kx)
                  have u0 := HS2.out.cells 0 (by omega)
                  have u1 := HS2.out.cells 1 (by omega)
                  have u2 := HS2.out.cells 2 (by omega)
                  have y0 := (kx.frozen ⟨B8, 0, none⟩).trans z0
                  have y1 := (kx.frozen ⟨B8, 1, none⟩).trans z1
                  have y2 := (kx.frozen ⟨B8, 2, none⟩).trans z2
                  clear A0 A1 kx z0 z1 z2
                  generalize ext _ xq = W3 at *
                  go_wp2_with fail
                  rw [Qn_normal]
                  go_wp2_with fail
                  go_roundw
                  case rel =>
                    have h := HS2.out
                    rw [HK.out] at h
                    have hsw := h.swap' HK2.out HO.out.1 HO.out.2 hg
                    first
                      | exact ⟨1, by omega, rfl, by rw [show 2 * P + 1 = k + 1 by have := HK.out; omega]; exact hsw⟩
                      | exact ⟨2, by omega, rfl, by rw [show 2 * P + 2 = k + 1 by have := HK.out; omega]; exact hsw⟩
                  case measure => simp [intOf]
            · obtain rfl : i = 2 := by omega
              rw [show ((2 : Nat) : Int) = 2 from rfl]
              have d2 : decide ((2 : Int) < 2) = false := by decide
              clear hS
              go_wp2_with fail
              go_roundw
              case rel => exact ⟨P + 1, by omega, by go_num, by have := HS.out; rwa [show 2 * P + 2 = 2 * (P + 1) by omega] at this⟩
              case measure => simp [intOf]; omega
        · obtain rfl : P = 2 := by omega
          rw [show ((2 : Nat) : Int) = 2 from rfl]
          have d1 : decide ((2 : Int) < 2) = false := by decide
          obtain ⟨oo, hoo⟩ : ∃ oo : Nat → Nat, ∀ i, ordF (teG x) 3 i = oo i := ⟨_, fun _ => rfl⟩
          have hol : ∀ i, i < 3 → oo i < 3 := fun i hi => by rw [← hoo]; exact ordF_lt _ 3 i hi
          have hoi : ∀ i j, i < 3 → j < 3 → oo i = oo j → i = j := fun i j hi hj e => ordF_inj _ 3 i j hi hj (by rw [hoo, hoo]; exact e)
          have n28 : ¬ B2 = B8 := by have := HN.out; have := HN8.out; have := HZ.out; omega
          have n58 : ¬ B5 = B8 := by have := HN.out; have := HN8.out; omega
          have n68 : ¬ B6 = B8 := by have := HN8.out; omega
          have n38 : ¬ B3 = B8 := by have := HN.out; have := HN8.out; have := HZ.out; omega
          have n48 : ¬ B4 = B8 := by have := HN.out; have := HN8.out; have := HZ.out; omega
          have hS := hSP
          rw [show 2 * 2 = 4 from rfl] at hS
          have HOO := Lib.hid (And.intro hoo (And.intro hol hoi))
          obtain ⟨t0, t1, t2, t3⟩ := HB.out.step hS.kept n28
          have p0 := hS.kept.some (H5.out 0 (by omega)) n58
          have p1 := hS.kept.some (H5.out 1 (by omega)) n58
          have p2 := hS.kept.some (H5.out 2 (by omega)) n58
          have bd := HFB.out
          have q0 := bd 0
          have q1 := bd 1
          have q2 := bd 2
          have hC := HE.out (posn f oo 0 0) (posn f oo 0 1) (posn f oo 0 2) wr (kept_over' KW.out hS.kept (fun i hi => by have := HN.out; have := HN8.out; have := HZ.out; omega)) (by unfold posn; omega) (by unfold posn; omega) (by unfold posn; omega) (by unfold posn; omega) (by unfold posn; omega) (by unfold posn; omega)
          have HC := Lib.hid hC
          have HS := Lib.hid hS
          clear bd q0 q1 q2 hC hS hSP hol hoi hoo
          go_upto_region 22 with (first
            | (go_at_call 20; refine HC.out.mono ?_; rintro e w4 ⟨rfl, hk4⟩; have K4 := Lib.hid hk4; clear hk4))
          refine of_world (fun W2 hW => ?_)
          have k2 : Kept None' wr W2 := K4.out.trans (by rw [hW]; exact (Kept.refl _ _).alloc _ _)
          have hS := HS.out
          have hCo : CoS W2 B5 w4.heap.size E f oo 0 1 W2 := by
            refine ⟨Kept.refl _ _, fun c hc => k2.some (hS.kept.some (H5.out c hc) n58) id, fun q hq => ?_⟩
            rw [hW]
            by_cases hq3 : q < 3
            · refine ⟨teC E f oo 0 q, (cell_alloc_one w4 _ _ q).trans ?_, fun _ => by rw [show q / 3 = 0 by omega, show q % 3 = q by omega]⟩
              obtain rfl | rfl | rfl : q = 0 ∨ q = 1 ∨ q = 2 := by omega
              all_goals rfl
            · refine ⟨0, (cell_alloc_one w4 _ _ q).trans ?_, fun h => by omega⟩
              obtain rfl | rfl | rfl | rfl | rfl | rfl | rfl | rfl | rfl : q = 3 ∨ q = 4 ∨ q = 5 ∨ q = 6 ∨ q = 7 ∨ q = 8 ∨ q = 9 ∨ q = 10 ∨ q = 11 := by omega
              all_goals rfl
          have hB2 := (HB.out.step hS.kept n28).step k2 id
          have h3 := k2.some (hS.kept.some HX.out.1 n38) id
          have h4 : ∀ c, c < 4 → W2.cell? ⟨B4, c, none⟩ = some (.float .f32 0) := fun c hc => k2.some (hS.kept.some (HX.out.2 c hc) n48) id
          have h6 : ∀ c, c < 3 → W2.cell? ⟨B6, c, none⟩ = some (.float .f32 (x c)) := fun c hc => k2.some (hS.kept.some (H6.out c hc) n68) id
          have h8 : ∀ i, i < 3 → W2.cell? ⟨B8, i, none⟩ = some (.int .i64 (oo i : Nat)) := fun i hi => by
            have := k2.some (hS.cells i hi) id
            rw [ord_four] at this
            rw [← HOO.out.1]; exact this
          have zz : ∀ a : Addr, B2 ≤ a.block → W2.frozen? a = false := fun a ha => (k2.frozen a).trans ((hS.kept.frozen a).trans (Z1.out a ha))
          have l8 : B8 < w4.heap.size := Nat.lt_of_lt_of_le (cell_lt (hS.cells 0 (by omega))) K4.out.size
          have hK2 := (kept_over' KW.out hS.kept (fun i hi => by have := HN.out; have := HN8.out; have := HZ.out; omega)).trans k2
          have HCo1 := Lib.hid hCo
          have HB2 := Lib.hid hB2
          have HX2 := Lib.hid (And.intro h3 h4)
          have H62 := Lib.hid h6
          have H82 := Lib.hid h8
          have Z2 := Lib.hid zz
          have KW2 := Lib.hid hK2
          generalize hB11 : w4.heap.size = B11 at *
          have HN2 := Lib.hid (And.intro l8 (And.intro HN8.out hB11))
          clear hW k2 hCo hB2 h3 h4 h6 h8 zz l8 hK2 hB11 hS n28 n58 n68 n38 n48 t0 t1 t2 t3 p0 p1 p2
          have n511 : B5 ≠ B11 := by have := HN.out; have := HN2.out; omega
          have n811 : ¬ (B8 = B5 ∨ B8 = B11) := by have := HN.out; have := HN2.out; omega
          have N5 := Lib.hid (And.intro n511 n811)
          clear n511 n811
          go_wp2_with fail
          go_loopw [98] (fun s98 wr => ∃ m : Nat, m ≤ 3 ∧ s98 = .int .i64 (m : Int) ∧ CoS W2 B5 B11 E f oo m (m + 1) wr) (fun s98 _ => (3 - intOf s98).toNat)
          case atStart => exact ⟨0, by omega, rfl, HCo1.out⟩
          case round =>
            obtain ⟨m, hm, rfl, hS⟩ := hrel
            have HS := Lib.hid hS
            by_cases hlt : m < 3
            · have d1 : decide ((m : Int) < 3) = true := decide_eq_true (by omega)
              have e8 := hS.kept.some (H82.out m hlt) N5.out.2
              have e2' : 0 ≤ (m : Int) := by omega
              have e3' : (m : Int) < 3 := by omega
              obtain ⟨om, hom⟩ : ∃ om, oo m = om := ⟨_, rfl⟩
              have hol : om < 3 := hom ▸ HOO.out.2.1 m hlt
              rw [hom] at e8
              have pb := (posn_bd (f := f) (o := oo) HOO.out.2.2 om m (by omega))
              have pe : posn f oo m om = f om := pb.2 (fun j hj e => by have := HOO.out.2.2 j m (by omega) hlt (e.trans hom.symm); omega)
              have fb := HFB.out om
              have c5 := hS.c5 om hol
              rw [pe] at c5
              have e0 : 0 ≤ (om : Int) := by omega
              have e1 : (om : Int) < 3 := by omega
              have z5 := (hS.kept.frozen ⟨B5, om, none⟩).trans (Z2.out _ (by have := HN.out; have := HZ.out; show B2 ≤ B5; omega))
              have hnext := hS.next N5.out.1 hom hol
              rw [pe] at hnext
              have HX5 := Lib.hid (And.intro hnext hom)
              obtain ⟨fb1, fb2⟩ := fb
              clear hS pb pe hom hnext
              go_upto_region 26 with (fail)
              refine of_world (fun W4 hW => ?_)
              have hCo2 : CoS W2 B5 B11 E f oo (m + 1) (m + 1) W4 := by rw [hW]; exact HX5.out.1
              have HCo2 := Lib.hid hCo2
              have r := fun c => (posn_bd (f := f) (o := oo) HOO.out.2.2 c (m + 1) (by omega)).1
              have q0 := r 0
              have q1 := r 1
              have q2 := r 2
              have b0 := HFB.out 0
              have b1 := HFB.out 1
              have b2 := HFB.out 2
              have hC := HE.out (posn f oo (m + 1) 0) (posn f oo (m + 1) 1) (posn f oo (m + 1) 2) W4 (kept_over' KW2.out hCo2.kept (fun i hi => by have := HN.out; have := HN2.out; have := HN8.out; have := HZ.out; omega)) (by omega) (by omega) (by omega) (by omega) (by omega) (by omega)
              have HC := Lib.hid hC
              obtain ⟨t0, t1, t2, t3⟩ := HB2.out.step hCo2.kept (by have := HN.out; have := HN2.out; have := HN8.out; have := HZ.out; omega)
              have p0 := hCo2.c5 0 (by omega)
              have p1 := hCo2.c5 1 (by omega)
              have p2 := hCo2.c5 2 (by omega)
              have z11 : ∀ c, W4.frozen? ⟨B11, c, none⟩ = false := fun c => (hCo2.kept.frozen _).trans (Z2.out _ (by have := HN.out; have := HN2.out; have := HN8.out; have := HZ.out; show B2 ≤ B11; omega))
              have Z11 := Lib.hid z11
              clear hW r q0 q1 q2 b0 b1 b2 hC hCo2 c5 z5 z11 e8 e2' e3'
              obtain ⟨k, hk⟩ : ∃ k, k = 3 * (m + 1) := ⟨_, rfl⟩
              have hkm : (m = 0 ∧ k = 3) ∨ (m = 1 ∧ k = 6) ∨ (m = 2 ∧ k = 9) := by omega
              obtain ⟨g0, y0, -⟩ := HCo2.out.c11 k (by omega)
              obtain ⟨g1, y1, -⟩ := HCo2.out.c11 (k + 1) (by omega)
              obtain ⟨g2, y2, -⟩ := HCo2.out.c11 (k + 2) (by omega)
              have HY := Lib.hid (And.intro y0 (And.intro y1 y2))
              have HK := Lib.hid hk
              clear y0 y1 y2 hk
              generalize hv0 : posn f oo (m + 1) 0 = v0 at *
              generalize hv1 : posn f oo (m + 1) 1 = v1 at *
              generalize hv2 : posn f oo (m + 1) 2 = v2 at *
              have HV := Lib.hid (And.intro hv0 (And.intro hv1 hv2))
              clear hv0 hv1 hv2
              rcases hkm with ⟨rfl, rfl⟩ | ⟨rfl, rfl⟩ | ⟨rfl, rfl⟩
              all_goals
                go_wp2_with (first
                  | (go_at_call 20; refine HC.out.mono ?_; rintro e w5 ⟨rfl, hk5⟩; have K5 := Lib.hid hk5; have y0 := hk5.some HY.out.1 id; have y1 := hk5.some HY.out.2.1 id; have y2 := hk5.some HY.out.2.2 id; have z0 := (hk5.frozen _).trans (Z11.out 3); have z1 := (hk5.frozen _).trans (Z11.out 4); have z2 := (hk5.frozen _).trans (Z11.out 5); have z3 := (hk5.frozen _).trans (Z11.out 6); have z4 := (hk5.frozen _).trans (Z11.out 7); have z5 := (hk5.frozen _).trans (Z11.out 8); have z6 := (hk5.frozen _).trans (Z11.out 9); have z7 := (hk5.frozen _).trans (Z11.out 10); have z8 := (hk5.frozen _).trans (Z11.out 11); clear hk5))
                go_roundw
                case rel =>
                  first
                    | refine ⟨1, by omega, rfl, (HCo2.out.step K5.out).corner N5.out.1 rfl (by omega) ?_ ?_ ?_⟩
                    | refine ⟨2, by omega, rfl, (HCo2.out.step K5.out).corner N5.out.1 rfl (by omega) ?_ ?_ ?_⟩
                    | refine ⟨3, by omega, rfl, (HCo2.out.step K5.out).corner N5.out.1 rfl (by omega) ?_ ?_ ?_⟩
                  all_goals
                    unfold teC
                    rw [HV.out.1, HV.out.2.1, HV.out.2.2]
                case measure => simp [intOf]
            · obtain rfl : m = 3 := by omega
              have d1 : decide (((3 : Nat) : Int) < 3) = false := by decide
              have n85 : ¬ (B8 = B5 ∨ B8 = B11) := N5.out.2
              have n65 : ¬ (B6 = B5 ∨ B6 = B11) := by have := HN.out; have := HN2.out; omega
              have n35 : ¬ (B3 = B5 ∨ B3 = B11) := by have := HN.out; have := HN2.out; have := HN8.out; have := HZ.out; omega
              have n45 : ¬ (B4 = B5 ∨ B4 = B11) := by have := HN.out; have := HN2.out; have := HN8.out; have := HZ.out; omega
              have d0 := hS.kept.some (H82.out 0 (by omega)) n85
              have d1' := hS.kept.some (H82.out 1 (by omega)) n85
              have d2 := hS.kept.some (H82.out 2 (by omega)) n85
              have x0 := hS.kept.some (H62.out (oo 0) (HOO.out.2.1 0 (by omega))) n65
              have x1 := hS.kept.some (H62.out (oo 1) (HOO.out.2.1 1 (by omega))) n65
              have x2 := hS.kept.some (H62.out (oo 2) (HOO.out.2.1 2 (by omega))) n65
              have l0 := HOO.out.2.1 0 (by omega)
              have l1 := HOO.out.2.1 1 (by omega)
              have l2 := HOO.out.2.1 2 (by omega)
              have hTE : ∀ c, c < 3 → teP E S lo hi p c = teV (teC E f oo 0 c) (teC E f oo 1 c) (teC E f oo 2 c) (teC E f oo 3 c) (x (oo 0)) (x (oo 1)) (x (oo 2)) := fun c hc => by
                rw [HT.out, if_neg (by omega)]
                unfold teR
                rw [show ordF (teG x) 3 = oo from funext HOO.out.1]
              have HTP := Lib.hid hTE
              clear hTE
              generalize hs : x (oo 0) = s at *
              generalize ht : x (oo 1) = t at *
              generalize hu : x (oo 2) = u at *
              generalize hO0 : oo 0 = o0 at *
              generalize hO1 : oo 1 = o1 at *
              generalize hO2 : oo 2 = o2 at *
              have a0 : 0 ≤ (o0 : Int) := by omega
              have a1 : (o0 : Int) < 3 := by omega
              have b0 : 0 ≤ (o1 : Int) := by omega
              have b1 : (o1 : Int) < 3 := by omega
              have c0 : 0 ≤ (o2 : Int) := by omega
              have c1 : (o2 : Int) < 3 := by omega
              have A0 := ext_cell d0
              have A1 := ext_cell d1'
              have A2 := ext_cell d2
              have A3 := ext_cell x0
              have A4 := ext_cell x1
              have A5 := ext_cell x2
              clear hS d0 d1' d2 x0 x1 x2 hs ht hu hO0 hO1 hO2 n85 n65
              go_wp2_with fail
              refine region_ext (by kernel_rfl) (by kernel_rfl) ?_
              repeat (first
                | go_big_quiet_skip
                | (go_big_quiet_want; go_big_quiet_op; first | go_big_quiet_on | go_big_quiet_call (first
                  | (fail))))
              refine wpQuiet_nil ?_
              rintro _ ⟨xq, rfl⟩
              have HS1 := Lib.hid (HS.out.step (ext_kept _ xq))
              clear A0 A1 A2 A3 A4 A5
              generalize ext _ xq = W4 at *
              have p3 := HS1.out.kept.some HX2.out.1 n35
              clear n35
              go_upto_region 30 with (first | (go_at_call 31; refine (fix_any _ _).mono ?_; rintro e w' ⟨rfl, rfl⟩))
              refine of_world (fun W5 hW => ?_)
              have k5 : Kept None' W4 W5 := by rw [hW]; exact (Kept.refl _ _).alloc _ _
              have hPx : PxS W5 W4.heap.size (teP E S lo hi p) 0 W5 := ⟨Kept.refl _ _, fun c hc => by
                rw [hW]
                refine (cell_alloc_one W4 _ _ c).trans ?_
                obtain rfl | rfl | rfl | rfl : c = 0 ∨ c = 1 ∨ c = 2 ∨ c = 3 := by omega
                · rfl
                · rfl
                · rfl
                · rw [if_pos (Or.inr rfl), HT.out, if_pos rfl]; rfl⟩
              have hS5 := HS1.out.step k5
              have l11 : B11 < W4.heap.size := by
                obtain ⟨v, hv, -⟩ := HS1.out.c11 0 (by omega)
                exact cell_lt hv
              have z17 : ∀ c, W5.frozen? ⟨W4.heap.size, c, none⟩ = false := fun c => by rw [hW]; exact (frozen?_alloc_cells _ _ _ _).trans (frozen_new _ _ (Nat.le_refl _))
              have h4 : ∀ c, c < 4 → W5.cell? ⟨B4, c, none⟩ = some (.float .f32 0) := fun c hc => k5.some (HS1.out.kept.some (HX2.out.2 c hc) n45) id
              have HPx := Lib.hid hPx
              have HS5 := Lib.hid hS5
              have Z17 := Lib.hid z17
              have H4 := Lib.hid h4
              generalize hB17 : W4.heap.size = B17 at *
              have HL := Lib.hid l11
              clear hW k5 hPx hS5 l11 z17 h4 hB17 p3 n45
              go_wp2_with fail
              go_loopw [139] (fun s139 wr => ∃ n : Nat, n ≤ 3 ∧ s139 = .int .i64 (n : Int) ∧ PxS W5 B17 (teP E S lo hi p) n wr) (fun s139 _ => (3 - intOf s139).toNat)
              case atStart => exact ⟨0, by omega, rfl, HPx.out⟩
              case round =>
                obtain ⟨n, hn, rfl, hQ⟩ := hrel
                have HQ := Lib.hid hQ
                by_cases hlt : n < 3
                · have d1 : decide ((n : Int) < 3) = true := decide_eq_true (by omega)
                  have nn17 : ¬ B11 = B17 := by have := HL.out; omega
                  obtain ⟨va, ga, ea⟩ := HS5.out.c11 (0 + n) (by omega)
                  obtain ⟨vb, gb, eb⟩ := HS5.out.c11 (3 + n) (by omega)
                  obtain ⟨vd, gd, ed⟩ := HS5.out.c11 (6 + n) (by omega)
                  obtain ⟨ve, ge, ee⟩ := HS5.out.c11 (9 + n) (by omega)
                  have ea := ea (by omega)
                  have eb := eb (by omega)
                  have ed := ed (by omega)
                  have ee := ee (by omega)
                  rw [show (0 + n) / 3 = 0 by omega, show (0 + n) % 3 = n by omega] at ea
                  rw [show (3 + n) / 3 = 1 by omega, show (3 + n) % 3 = n by omega] at eb
                  rw [show (6 + n) / 3 = 2 by omega, show (6 + n) % 3 = n by omega] at ed
                  rw [show (9 + n) / 3 = 3 by omega, show (9 + n) % 3 = n by omega] at ee
                  have hTE := HTP.out n hlt
                  rw [← ea, ← eb, ← ed, ← ee] at hTE
                  have HTE := Lib.hid hTE
                  have na : cl .f32 va = va := by rw [ea]; exact HCAN.out ..
                  have nb : cl .f32 vb = vb := by rw [eb]; exact HCAN.out ..
                  have nd : cl .f32 vd = vd := by rw [ed]; exact HCAN.out ..
                  have ne : cl .f32 ve = ve := by rw [ee]; exact HCAN.out ..
                  have NN := Lib.hid (And.intro na (And.intro nb (And.intro nd ne)))
                  clear na nb nd ne
                  clear ea eb ed ee hTE
                  rw [Nat.zero_add] at ga
                  have A0 := ext_cell (hQ.kept.some ga nn17)
                  have A1 := ext_cell (hQ.kept.some gb nn17)
                  have A2 := ext_cell (hQ.kept.some gd nn17)
                  have A3 := ext_cell (hQ.kept.some ge nn17)
                  have e0 : 0 ≤ (n : Int) := by omega
                  have e1 : (n : Int) < 3 := by omega
                  have e2 : (n : Int) < 4 := by omega
                  clear hQ ga gb gd ge nn17
                  go_wp2_with fail
                  refine region_ext (by kernel_rfl) (by kernel_rfl) ?_
                  repeat (first
                    | go_big_quiet_skip
                    | (go_big_quiet_want; go_big_quiet_op; first | go_big_quiet_on | go_big_quiet_call (first
                      | (fail))))
                  refine wpQuiet_nil ?_
                  rintro _ ⟨xq, rfl⟩
                  have HQ1 := Lib.hid (HQ.out.step (ext_kept _ xq))
                  clear A0 A1 A2 A3
                  generalize ext _ xq = W6 at *
                  have cq := HQ1.out.cells n (by omega)
                  have zq := (HQ1.out.kept.frozen ⟨B17, n, none⟩).trans (Z17.out n)
                  cases h1 : (FloatKind.f32.format.order s 0 == some .eq) with
                  | true =>
                    go_wp2_with (first | (go_at_call 31; refine (fix_any _ _).mono ?_; rintro e w' ⟨rfl, rfl⟩))
                    go_roundw
                    case rel =>
                      refine ⟨n + 1, by omega, by go_num, (show PxS W5 B17 (teP E S lo hi p) n _ from (HQ1.out.step (by first | exact Kept.refl _ _ | exact (Kept.refl _ _).drew _))).set hlt ?_⟩
                      rw [HTE.out]
                      unfold teV
                      simp only [h1, Bool.and_true, Bool.true_and, Bool.and_false, Bool.false_and, Bool.and_self, if_true, if_false, Bool.false_eq_true, cl_fV', fC_fV_l, fC_fV_r, NN.out.1, NN.out.2.1, NN.out.2.2.1, NN.out.2.2.2]
                    case measure => simp [intOf]; omega
                  | false =>
                    cases h2 : (FloatKind.f32.format.order s 1065353216 == some .eq) with
                    | true =>
                      cases h3 : (FloatKind.f32.format.order t 0 == some .eq) with
                      | true =>
                        go_wp2_with (first | (go_at_call 31; refine (fix_any _ _).mono ?_; rintro e w' ⟨rfl, rfl⟩))
                        go_roundw
                        case rel =>
                          refine ⟨n + 1, by omega, by go_num, (show PxS W5 B17 (teP E S lo hi p) n _ from (HQ1.out.step (by first | exact Kept.refl _ _ | exact (Kept.refl _ _).drew _))).set hlt ?_⟩
                          rw [HTE.out]
                          unfold teV
                          simp only [h1, h2, h3, Bool.and_true, Bool.true_and, Bool.and_false, Bool.false_and, Bool.and_self, if_true, if_false, Bool.false_eq_true, cl_fV', fC_fV_l, fC_fV_r, NN.out.1, NN.out.2.1, NN.out.2.2.1, NN.out.2.2.2]
                        case measure => simp [intOf]; omega
                      | false =>
                        cases h4 : (FloatKind.f32.format.order t 1065353216 == some .eq) with
                        | true =>
                          cases h5 : (FloatKind.f32.format.order u 0 == some .eq) with
                          | true =>
                            go_wp2_with (first | (go_at_call 31; refine (fix_any _ _).mono ?_; rintro e w' ⟨rfl, rfl⟩))
                            go_roundw
                            case rel =>
                              refine ⟨n + 1, by omega, by go_num, (show PxS W5 B17 (teP E S lo hi p) n _ from (HQ1.out.step (by first | exact Kept.refl _ _ | exact (Kept.refl _ _).drew _))).set hlt ?_⟩
                              rw [HTE.out]
                              unfold teV
                              simp only [h1, h2, h3, h4, h5, Bool.and_true, Bool.true_and, Bool.and_false, Bool.false_and, Bool.and_self, if_true, if_false, Bool.false_eq_true, cl_fV', fC_fV_l, fC_fV_r, NN.out.1, NN.out.2.1, NN.out.2.2.1, NN.out.2.2.2]
                            case measure => simp [intOf]; omega
                          | false =>
                            cases h6 : (FloatKind.f32.format.order u 1065353216 == some .eq) with
                            | true =>
                              go_wp2_with (first | (go_at_call 31; refine (fix_any _ _).mono ?_; rintro e w' ⟨rfl, rfl⟩))
                              go_roundw
                              case rel =>
                                refine ⟨n + 1, by omega, by go_num, (show PxS W5 B17 (teP E S lo hi p) n _ from (HQ1.out.step (by first | exact Kept.refl _ _ | exact (Kept.refl _ _).drew _))).set hlt ?_⟩
                                rw [HTE.out]
                                unfold teV
                                simp only [h1, h2, h3, h4, h5, h6, Bool.and_true, Bool.true_and, Bool.and_false, Bool.false_and, Bool.and_self, if_true, if_false, Bool.false_eq_true, cl_fV', fC_fV_l, fC_fV_r, NN.out.1, NN.out.2.1, NN.out.2.2.1, NN.out.2.2.2]
                              case measure => simp [intOf]; omega
                            | false =>
                              go_wp2_with (first | (go_at_call 31; refine (fix_any _ _).mono ?_; rintro e w' ⟨rfl, rfl⟩))
                              go_roundw
                              case rel =>
                                refine ⟨n + 1, by omega, by go_num, (show PxS W5 B17 (teP E S lo hi p) n _ from (HQ1.out.step (by first | exact Kept.refl _ _ | exact (Kept.refl _ _).drew _))).set hlt ?_⟩
                                rw [HTE.out]
                                unfold teV
                                simp only [h1, h2, h3, h4, h5, h6, Bool.and_true, Bool.true_and, Bool.and_false, Bool.false_and, Bool.and_self, if_true, if_false, Bool.false_eq_true, cl_fV', fC_fV_l, fC_fV_r, NN.out.1, NN.out.2.1, NN.out.2.2.1, NN.out.2.2.2]
                              case measure => simp [intOf]; omega
                        | false =>
                          cases h6 : (FloatKind.f32.format.order u 1065353216 == some .eq) with
                          | true =>
                            go_wp2_with (first | (go_at_call 31; refine (fix_any _ _).mono ?_; rintro e w' ⟨rfl, rfl⟩))
                            go_roundw
                            case rel =>
                              refine ⟨n + 1, by omega, by go_num, (show PxS W5 B17 (teP E S lo hi p) n _ from (HQ1.out.step (by first | exact Kept.refl _ _ | exact (Kept.refl _ _).drew _))).set hlt ?_⟩
                              rw [HTE.out]
                              unfold teV
                              simp only [h1, h2, h3, h4, h6, Bool.and_true, Bool.true_and, Bool.and_false, Bool.false_and, Bool.and_self, if_true, if_false, Bool.false_eq_true, cl_fV', fC_fV_l, fC_fV_r, NN.out.1, NN.out.2.1, NN.out.2.2.1, NN.out.2.2.2]
                            case measure => simp [intOf]; omega
                          | false =>
                            go_wp2_with (first | (go_at_call 31; refine (fix_any _ _).mono ?_; rintro e w' ⟨rfl, rfl⟩))
                            go_roundw
                            case rel =>
                              refine ⟨n + 1, by omega, by go_num, (show PxS W5 B17 (teP E S lo hi p) n _ from (HQ1.out.step (by first | exact Kept.refl _ _ | exact (Kept.refl _ _).drew _))).set hlt ?_⟩
                              rw [HTE.out]
                              unfold teV
                              simp only [h1, h2, h3, h4, h6, Bool.and_true, Bool.true_and, Bool.and_false, Bool.false_and, Bool.and_self, if_true, if_false, Bool.false_eq_true, cl_fV', fC_fV_l, fC_fV_r, NN.out.1, NN.out.2.1, NN.out.2.2.1, NN.out.2.2.2]
                            case measure => simp [intOf]; omega
                    | false =>
                      cases h4 : (FloatKind.f32.format.order t 1065353216 == some .eq) with
                      | true =>
                        cases h5 : (FloatKind.f32.format.order u 0 == some .eq) with
                        | true =>
                          go_wp2_with (first | (go_at_call 31; refine (fix_any _ _).mono ?_; rintro e w' ⟨rfl, rfl⟩))
                          go_roundw
                          case rel =>
                            refine ⟨n + 1, by omega, by go_num, (show PxS W5 B17 (teP E S lo hi p) n _ from (HQ1.out.step (by first | exact Kept.refl _ _ | exact (Kept.refl _ _).drew _))).set hlt ?_⟩
                            rw [HTE.out]
                            unfold teV
                            simp only [h1, h2, h4, h5, Bool.and_true, Bool.true_and, Bool.and_false, Bool.false_and, Bool.and_self, if_true, if_false, Bool.false_eq_true, cl_fV', fC_fV_l, fC_fV_r, NN.out.1, NN.out.2.1, NN.out.2.2.1, NN.out.2.2.2]
                          case measure => simp [intOf]; omega
                        | false =>
                          cases h6 : (FloatKind.f32.format.order u 1065353216 == some .eq) with
                          | true =>
                            go_wp2_with (first | (go_at_call 31; refine (fix_any _ _).mono ?_; rintro e w' ⟨rfl, rfl⟩))
                            go_roundw
                            case rel =>
                              refine ⟨n + 1, by omega, by go_num, (show PxS W5 B17 (teP E S lo hi p) n _ from (HQ1.out.step (by first | exact Kept.refl _ _ | exact (Kept.refl _ _).drew _))).set hlt ?_⟩
                              rw [HTE.out]
                              unfold teV
                              simp only [h1, h2, h4, h5, h6, Bool.and_true, Bool.true_and, Bool.and_false, Bool.false_and, Bool.and_self, if_true, if_false, Bool.false_eq_true, cl_fV', fC_fV_l, fC_fV_r, NN.out.1, NN.out.2.1, NN.out.2.2.1, NN.out.2.2.2]
                            case measure => simp [intOf]; omega
                          | false =>
                            go_wp2_with (first | (go_at_call 31; refine (fix_any _ _).mono ?_; rintro e w' ⟨rfl, rfl⟩))
                            go_roundw
                            case rel =>
                              refine ⟨n + 1, by omega, by go_num, (show PxS W5 B17 (teP E S lo hi p) n _ from (HQ1.out.step (by first | exact Kept.refl _ _ | exact (Kept.refl _ _).drew _))).set hlt ?_⟩
                              rw [HTE.out]
                              unfold teV
                              simp only [h1, h2, h4, h5, h6, Bool.and_true, Bool.true_and, Bool.and_false, Bool.false_and, Bool.and_self, if_true, if_false, Bool.false_eq_true, cl_fV', fC_fV_l, fC_fV_r, NN.out.1, NN.out.2.1, NN.out.2.2.1, NN.out.2.2.2]
                            case measure => simp [intOf]; omega
                      | false =>
                        cases h6 : (FloatKind.f32.format.order u 1065353216 == some .eq) with
                        | true =>
                          go_wp2_with (first | (go_at_call 31; refine (fix_any _ _).mono ?_; rintro e w' ⟨rfl, rfl⟩))
                          go_roundw
                          case rel =>
                            refine ⟨n + 1, by omega, by go_num, (show PxS W5 B17 (teP E S lo hi p) n _ from (HQ1.out.step (by first | exact Kept.refl _ _ | exact (Kept.refl _ _).drew _))).set hlt ?_⟩
                            rw [HTE.out]
                            unfold teV
                            simp only [h1, h2, h4, h6, Bool.and_true, Bool.true_and, Bool.and_false, Bool.false_and, Bool.and_self, if_true, if_false, Bool.false_eq_true, cl_fV', fC_fV_l, fC_fV_r, NN.out.1, NN.out.2.1, NN.out.2.2.1, NN.out.2.2.2]
                          case measure => simp [intOf]; omega
                        | false =>
                          go_wp2_with (first | (go_at_call 31; refine (fix_any _ _).mono ?_; rintro e w' ⟨rfl, rfl⟩))
                          go_roundw
                          case rel =>
                            refine ⟨n + 1, by omega, by go_num, (show PxS W5 B17 (teP E S lo hi p) n _ from (HQ1.out.step (by first | exact Kept.refl _ _ | exact (Kept.refl _ _).drew _))).set hlt ?_⟩
                            rw [HTE.out]
                            unfold teV
                            simp only [h1, h2, h4, h6, Bool.and_true, Bool.true_and, Bool.and_false, Bool.false_and, Bool.and_self, if_true, if_false, Bool.false_eq_true, cl_fV', fC_fV_l, fC_fV_r, NN.out.1, NN.out.2.1, NN.out.2.2.1, NN.out.2.2.2]
                          case measure => simp [intOf]; omega
                · obtain rfl : n = 3 := by omega
                  have d1 : decide (((3 : Nat) : Int) < 3) = false := by decide
                  have n417 : ¬ B4 = B17 := by have := HL.out; have := HN2.out; have := HN.out; have := HZ.out; omega
                  have c0 := hQ.cells 0 (by omega)
                  have c1 := hQ.cells 1 (by omega)
                  have c2 := hQ.cells 2 (by omega)
                  have c3 := hQ.cells 3 (by omega)
                  rw [if_pos (by omega)] at c0 c1 c2 c3
                  have r0 := hQ.kept.some (H4.out 0 (by omega)) n417
                  have r1 := hQ.kept.some (H4.out 1 (by omega)) n417
                  have r2 := hQ.kept.some (H4.out 2 (by omega)) n417
                  have r3 := hQ.kept.some (H4.out 3 (by omega)) n417
                  have zz : ∀ c, wr.frozen? ⟨B4, c, none⟩ = false := fun c => (hQ.kept.frozen _).trans ((HS5.out.kept.frozen _).trans (Z2.out _ (by have := HN.out; show B2 ≤ B4; omega)))
                  have z0 := zz 0
                  have z1 := zz 1
                  have z2 := zz 2
                  have z3 := zz 3
                  have KE := Lib.hid (kept_over' (kept_over' KW2.out HS5.out.kept (fun i hi => by have := HN.out; have := HN2.out; have := HN8.out; have := HZ.out; omega)) hQ.kept (fun i hi => by have := HL.out; have := HN.out; have := HN2.out; have := HN8.out; have := HZ.out; omega))
                  clear hQ n417 zz
                  go_wp2_with fail
                  have cs := cells_set4 (v0 := .float .f32 (teP E S lo hi p 0)) (v1 := .float .f32 (teP E S lo hi p 1)) (v2 := .float .f32 (teP E S lo hi p 2)) (v3 := .float .f32 (teP E S lo hi p 3)) r0 r1 r2 r3
                  refine bodyPost_ret (px_ret Try.results40 _ _ B4 _ _ _ _ cs.1 cs.2.1 cs.2.2.1 cs.2.2.2 rfl) rfl ?_
                  exact ⟨rfl, kept_set4' KE.out (by have := HN.out; omega)⟩

theorem tetraof_any (S : Int) (lo hi b o n cap : Nat) (E : Int → Int → Int → Nat → Nat) (p : Nat → Nat) (w : World) (s1 : 2 ≤ S) (s2 : S ≤ 17) (hcan : ∀ x y z c, cl .f32 (E x y z c) = E x y z c)
    (hE : ∀ (x y z : Int) (wr : World), Kept None' w wr → 0 ≤ x → x < S → 0 ≤ y → y < S → 0 ≤ z → z < S → Calls Try.prog 20 #[.agg #[.int .i64 S, .float .f32 lo, .float .f32 hi, .slice (some ⟨b, o, none⟩) n cap], .int .i64 x, .int .i64 y, .int .i64 z] wr fun e w' =>
      e = .returned (.agg #[.float .f32 (E x y z 0), .float .f32 (E x y z 1), .float .f32 (E x y z 2)]) ∧ Kept None' wr w') :
    Calls Try.prog 40 #[.agg #[.int .i64 S, .float .f32 lo, .float .f32 hi, .slice (some ⟨b, o, none⟩) n cap], .agg #[.float .f32 (p 0), .float .f32 (p 1), .float .f32 (p 2), .float .f32 (p 3)]] w (PxIs (teP E S lo hi p) w) := by
  cases hp : brk p with
  | true => exact tetraof_bad S lo hi b o n cap E p w hp
  | false => exact tetraof_ok S lo hi b o n cap E p w s1 s2 hp hcan hE
end Go.Proofs.Ytkmganophcklgaa
