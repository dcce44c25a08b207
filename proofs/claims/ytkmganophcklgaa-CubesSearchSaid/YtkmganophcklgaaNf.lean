/- The contract of the reference's BackOf where there is a nearest entry. Conditions: none. -/
import Derived.Test.YtkmganophcklgaaNd
import Derived.Test.YtkmganophcklgaaTh
namespace Go.Proofs.Ytkmganophcklgaa
open Go.RowKit
open Fl Fr
open BigFrame

theorem spP_of {S : Int} {lo hi : Nat} {i : Int} {d0 d1 d2 d3 : Nat} (hN : isN (spP S lo hi i) = true) (h0 : cl .f32 d0 = fC .sub .f32 hi lo) (h1 : cl .f32 d1 = fC .quo .f32 (floatOfInt .f32 i) (floatOfInt .f32 (S - 1))) (h2 : cl .f32 d2 = fC .mul .f32 d0 d1) (h3 : cl .f32 d3 = fC .add .f32 lo d2) : d3 = spP S lo hi i := by
  refine cl_exact ?_ (isN_not hN)
  rw [h3, fC_r h2, fC_l h0, fC_r h1]
  rfl

set_option linter.unusedSimpArgs false in
set_option linter.unusedVariables false in
set_option maxHeartbeats 2000000 in
set_option maxRecDepth 100000 in
theorem BackOf_ok (S : Nat) (lo hi b o n cap : Nat) (z p : Nat → Nat) (steps : Nat) (q : Int × Nat) (w : World) (hq : nrB z p (S * (S * S)) = q) (q0 : 0 ≤ q.1) (hE : cuE S lo hi n = 0) (hc : ∀ q, q < n → w.cell? ⟨b, o + q, none⟩ = some (.float .f32 (z q))) (hcap : n ≤ cap) (hst : steps ≤ 64) :
    Calls Try.prog 45 #[.agg #[.int .i64 (S : Int), .float .f32 lo, .float .f32 hi, .slice (some ⟨b, o, none⟩) n cap], .agg #[.float .f32 (p 0), .float .f32 (p 1), .float .f32 (p 2)], .int .i64 (steps : Int)] w fun e w' => e = .returned (.tuple #[.agg #[.float .f32 (cl .f32 (bkX (entE z S) S lo hi p (nrR S q.1) steps 0)), .float .f32 (cl .f32 (bkX (entE z S) S lo hi p (nrR S q.1) steps 1)), .float .f32 (cl .f32 (bkX (entE z S) S lo hi p (nrR S q.1) steps 2))], .bool true]) ∧ Kept None' w w' := by
  obtain ⟨s, hs, s1, s2, hn', hn3, hn4⟩ := cuE_nat hE
  obtain rfl : S = s := by omega
  have hf := fun c => nrR_bd (c := c) s1 q0 (by rw [← hq]; exact (nrB_bd z p _).2)
  have hNr : ∀ (w' : World), Kept None' w w' → Calls Try.prog 44 #[.agg #[.int .i64 (S : Int), .float .f32 lo, .float .f32 hi, .slice (some ⟨b, o, none⟩) n cap], .agg #[.float .f32 (p 0), .float .f32 (p 1), .float .f32 (p 2)]] w' fun e w'' => e = .returned (.tuple #[.agg #[.int .i64 (nrR S q.1 0), .int .i64 (nrR S q.1 1), .int .i64 (nrR S q.1 2)], .bool true]) ∧ Kept None' w' w'' := fun w' hk =>
    (nearestof_any S lo hi b o n cap z p q w' hq hE (fun q hq => hk.some (hc q hq) id) hcap).mono fun e w'' ⟨h1, h2⟩ => ⟨by rw [h1, decide_eq_true q0], h2⟩
  have hSn : ∀ c : Nat, isN (spP S lo hi (nrR S q.1 c)) = true := fun c => (spot_num hE (hf c).1 (hf c).2 (by omega) (by omega)).2.2
  have hTe : ∀ (x : Nat → Nat) (w' : World), Kept None' w w' → Calls Try.prog 40 #[.agg #[.int .i64 (S : Int), .float .f32 lo, .float .f32 hi, .slice (some ⟨b, o, none⟩) n cap], .agg #[.float .f32 (x 0), .float .f32 (x 1), .float .f32 (x 2), .float .f32 0]] w' (PxIs (teP (entE z S) S lo hi (px3 x)) w') := fun x w' hk => by
    have h := tetraof_any S lo hi b o n cap (entF z S) (px3 x) w' (by omega) (by omega) (fun _ _ _ _ => cl_cl _ _) (fun x y u wr hk2 => entryof_E S lo hi b o n cap z w hn' (by omega) (by omega) hc hcap x y u wr (hk.trans hk2))
    have e : teP (entF z S) S lo hi (px3 x) = teP (entE z S) S lo hi (px3 x) := funext fun c => teP_cl (entE z S) S lo hi (px3 x) c
    rw [e] at h
    exact h
  obtain ⟨f, hf'⟩ : ∃ f : Nat → Int, nrR S q.1 = f := ⟨_, rfl⟩
  rw [hf'] at hSn hNr hf ⊢
  have hX0 : ∀ c, bkX (entE z S) S lo hi p f 0 c = spP S lo hi (f c) := fun c => rfl
  have hXs := bkX_step (entE z S) S lo hi p f
  generalize bkX (entE z S) S lo hi p f = X' at *
  have HX := Lib.hid (And.intro hX0 hXs)
  have HNr := Lib.hid hNr
  have HSn := Lib.hid hSn
  have HF := Lib.hid hf
  have HTe := Lib.hid hTe
  clear hE hc hn' hn3 hn4 hs hq hf hNr hSn hTe hf' hX0 hXs q0 hcap
  go_enter Try.func45, Try.ntmps45
  go_upto_region 5 with (first | (go_at_call 44; refine (HNr.out _ ((((Kept.refl None' w).alloc _ _).alloc _ _).alloc _ _)).mono ?_; rintro e w1 ⟨rfl, hk⟩))
  refine of_world (fun W2 hW => ?_)
  have k2 : Kept None' w1 W2 := by rw [hW]; exact ((Kept.refl None' w1).alloc _ _).alloc _ _
  have hB : CubB w.heap.size S lo hi b o n cap W2 := ⟨k2.some (hk.some (by go_simp) id) id, k2.some (hk.some (by go_simp) id) id, k2.some (hk.some (by go_simp) id) id, k2.some (hk.some (by go_simp) id) id⟩
  have hx : ∀ c, c < 3 → W2.cell? ⟨w.heap.size + 1, c, none⟩ = some (.float .f32 (p c)) := fun c hc => by
    obtain rfl | rfl | rfl : c = 0 ∨ c = 1 ∨ c = 2 := by omega
    all_goals exact k2.some (hk.some (by go_simp) id) id
  have hr : ∀ c, c < 3 → W2.cell? ⟨w.heap.size + 1 + 1, c, none⟩ = some (.float .f32 0) := fun c hc => by
    obtain rfl | rfl | rfl : c = 0 ∨ c = 1 ∨ c = 2 := by omega
    all_goals exact k2.some (hk.some (by go_simp) id) id
  have hfc : ∀ c, c < 3 → W2.cell? ⟨w1.heap.size, c, none⟩ = some (.int .i64 (f c)) := fun c hc => by
    rw [hW]
    obtain rfl | rfl | rfl : c = 0 ∨ c = 1 ∨ c = 2 := by omega
    all_goals go_simp
  have hS0 : X3S W2 (w1.heap.size + 1) (fun c => if c < 0 then spP S lo hi (f c) else 0) W2 := ⟨Kept.refl _ _, fun c hc => by
    rw [hW]
    obtain rfl | rfl | rfl : c = 0 ∨ c = 1 ∨ c = 2 := by omega
    all_goals
      show _ = some (Value.float .f32 0)
      go_simp⟩
  have zz : ∀ a : Addr, w.heap.size ≤ a.block → W2.frozen? a = false := fun a ha => by rw [hW]; exact (frozen?_alloc_cells _ _ _ _).trans ((frozen?_alloc_cells _ _ _ _).trans ((hk.frozen _).trans ((frozen?_alloc_cells _ _ _ _).trans ((frozen?_alloc_cells _ _ _ _).trans ((frozen?_alloc_cells _ _ _ _).trans (frozen_new _ _ ha))))))
  have K2 := Lib.hid (((((Kept.refl None' w).alloc _ _).alloc _ _).alloc _ _).trans (hk.trans k2))
  have l1 : w.heap.size + 3 ≤ w1.heap.size := by have := hk.size; simpa using this
  generalize hXB : w1.heap.size + 1 = XB at *
  generalize hF : w1.heap.size = F at *
  generalize hR : w.heap.size + 1 + 1 = R at *
  generalize hP : w.heap.size + 1 = P at *
  generalize hT : w.heap.size = T at *
  have HN := Lib.hid (And.intro hXB (And.intro hR (And.intro hP (And.intro hT l1))))
  have HB := Lib.hid hB
  have HR := Lib.hid hr
  have HP := Lib.hid hx
  have HZ := Lib.hid zz
  have HFC := Lib.hid hfc
  have HS0 := Lib.hid hS0
  have wS : IntKind.i64.wrap ((S : Int) - 1) = (S : Int) - 1 := IntWalk.i64_in _ (by omega)
  clear hW hk k2 hB hx hr hfc hS0 zz l1 hXB hF hR hP hT
  go_wp2_with fail
  go_loopw [23] (fun s23 wr => ∃ k : Nat, k ≤ 3 ∧ s23 = .int .i64 (k : Int) ∧ X3S W2 XB (fun c => if c < k then spP S lo hi (f c) else 0) wr) (fun s23 _ => (3 - intOf s23).toNat)
  case atStart => exact ⟨0, by omega, rfl, HS0.out⟩
  case round =>
    obtain ⟨k, hk, rfl, hS⟩ := hrel
    have HS := Lib.hid hS
    have nT : ¬ T = XB := by have := HN.out; omega
    have nP : ¬ P = XB := by have := HN.out; omega
    have nR : ¬ R = XB := by have := HN.out; omega
    have nF : ¬ F = XB := by have := HN.out; omega
    by_cases hlt : k < 3
    · have d1 : decide ((k : Int) < 3) = true := decide_eq_true (by omega)
      have e0 : 0 ≤ (k : Int) := by omega
      have e1 : (k : Int) < 3 := by omega
      obtain ⟨t0, t1, t2, t3⟩ := HB.out.step hS.kept nT
      have A0 := ext_cell t0
      have A1 := ext_cell t1
      have A2 := ext_cell t2
      have A3 := ext_cell (hS.kept.some (HFC.out k hlt) nF)
      clear hS t0 t1 t2 t3 nT nP nR nF
      go_upto_region 8 with fail
      refine region_with_tail 20 (by kernel_rfl) (by kernel_rfl) ?_
      simp only [List.take_succ_cons, List.take_zero, List.drop_succ_cons, List.drop_zero]
      repeat (first
        | (refine wpWith_det ?_; go_big_quiet_want; go_big_quiet_op; go_big_quiet_on; refine wpQuiet_nil ?_)
        | (refine wpWith_det ?_; go_big_quiet_skip; refine wpQuiet_nil ?_)
        | fail)
      refine wpWith_float (by rfl) rfl (by simp) rfl rfl (fun d0 h0 => ?_)
      simp only [Act.put, List.setIfInBounds_toArray, List.set_cons_zero, List.set_cons_succ]
      repeat (first
        | (refine wpWith_det ?_; go_big_quiet_want; go_big_quiet_op; go_big_quiet_on; refine wpQuiet_nil ?_)
        | (refine wpWith_det ?_; go_big_quiet_skip; refine wpQuiet_nil ?_)
        | fail)
      refine wpWith_float (by rfl) rfl (by simp) rfl rfl (fun d1 h1 => ?_)
      simp only [Act.put, List.setIfInBounds_toArray, List.set_cons_zero, List.set_cons_succ]
      repeat (first
        | (refine wpWith_det ?_; go_big_quiet_want; go_big_quiet_op; go_big_quiet_on; refine wpQuiet_nil ?_)
        | (refine wpWith_det ?_; go_big_quiet_skip; refine wpQuiet_nil ?_)
        | fail)
      refine wpWith_float (by rfl) rfl (by simp) rfl rfl (fun d2 h2 => ?_)
      simp only [Act.put, List.setIfInBounds_toArray, List.set_cons_zero, List.set_cons_succ]
      repeat (first
        | (refine wpWith_det ?_; go_big_quiet_want; go_big_quiet_op; go_big_quiet_on; refine wpQuiet_nil ?_)
        | (refine wpWith_det ?_; go_big_quiet_skip; refine wpQuiet_nil ?_)
        | fail)
      refine wpWith_float (by rfl) rfl (by simp) rfl rfl (fun d3 h3 => ?_)
      simp only [Act.put, List.setIfInBounds_toArray, List.set_cons_zero, List.set_cons_succ]
      repeat (first
        | (refine wpWith_det ?_; go_big_quiet_want; go_big_quiet_op; go_big_quiet_on; refine wpQuiet_nil ?_)
        | (refine wpWith_det ?_; go_big_quiet_skip; refine wpQuiet_nil ?_)
        | fail)
      refine wpWith_nil ?_
      rintro _ ⟨xq, rfl⟩
      have hL := spP_of (HSn.out k) h0 h1 h2 h3
      subst hL
      have hS5 := HS.out.step (ext_kept _ xq)
      have cq := hS5.x k hlt
      have zq := (hS5.kept.frozen ⟨XB, k, none⟩).trans (HZ.out _ (by have := HN.out; show T ≤ XB; omega))
      have HS5 := Lib.hid hS5
      clear hS5 h0 h1 h2 h3 A0 A1 A2 A3
      generalize ext _ xq = W5 at *
      go_wp2_with fail
      go_roundw
      case rel =>
        refine ⟨k + 1, by omega, by go_num, HS5.out.set hlt (fun j hj => ?_)⟩
        by_cases e : j = k
        · subst e; rw [if_pos (Nat.lt_succ_self _), if_pos rfl]
        · rw [if_neg e]
          by_cases e2 : j < k
          · rw [if_pos e2, if_pos (by omega)]
          · rw [if_neg e2, if_neg (by omega)]
      case measure => simp [intOf]; omega
    · obtain rfl : k = 3 := by omega
      rw [show ((3 : Nat) : Int) = 3 from rfl]
      have d1 : decide ((3 : Int) < 3) = false := by decide
      obtain ⟨W3, rfl⟩ : ∃ W3 : World, W3 = wr := ⟨_, rfl⟩
      have HB3 := Lib.hid (HB.out.step hS.kept nT)
      have HP3 := Lib.hid (fun c hc => hS.kept.some (HP.out c hc) nP)
      have HR3 := Lib.hid (fun c hc => hS.kept.some (HR.out c hc) nR)
      have HZ3 := Lib.hid (show ∀ a : Addr, T ≤ a.block → W3.frozen? a = false from fun a ha => (hS.kept.frozen a).trans (HZ.out a ha))
      have K3 := Lib.hid (kept_over' K2.out hS.kept (fun i hi => by have := HN.out; omega))
      have HX0 := Lib.hid (show X3S W3 XB (X' 0) W3 from ⟨Kept.refl _ _, fun c hc => by have := hS.x c hc; rw [if_pos hc] at this; rw [HX.out.1]; exact this⟩)
      have HNN := Lib.hid (And.intro nT (And.intro nP nR))
      clear hS HS HS0 HB HP HR HZ K2 nT nP nR nF
      go_wp2_with fail
      go_loopw [48] (fun s48 wr => ∃ t : Nat, t ≤ steps ∧ s48 = .int .i64 (t : Int) ∧ X3S W3 XB (X' t) wr) (fun s48 _ => (steps - intOf s48).toNat)
      case atStart => exact ⟨0, by omega, rfl, HX0.out⟩
      case round =>
        obtain ⟨t, ht, rfl, hS⟩ := hrel
        have HS := Lib.hid hS
        clear hS
        have K4 := Lib.hid (kept_over' K3.out HS.out.kept (fun i hi => by have := HN.out; omega))
        by_cases hlt : t < steps
        · have d3 : decide ((t : Int) < (steps : Int)) = true := decide_eq_true (by omega)
          obtain ⟨y, hy⟩ : ∃ y, X' t = y := ⟨_, rfl⟩
          have hnx := HX.out.2 t
          have hS := HS.out
          rw [hy] at hnx hS
          have hTy := HTe.out y
          generalize teP (entE z (S : Int)) (S : Int) lo hi (px3 y) = g at hnx hTy
          have HTy := Lib.hid hTy
          have HNx := Lib.hid hnx
          obtain ⟨t0, t1, t2, t3⟩ := HB3.out.step hS.kept HNN.out.1
          have x0 := hS.x 0 (by omega)
          have x1 := hS.x 1 (by omega)
          have x2 := hS.x 2 (by omega)
          have HSy := Lib.hid hS
          have lXB := cell_lt x0
          clear hTy hnx hS hy
          go_upto_region 13 with (go_at_call 40; refine (HTy.out _ K4.out).mono ?_; rintro e w5 ⟨rfl, hk⟩)
          refine of_world (fun W4 hW4 => ?_)
          have k4 : Kept None' wr W4 := by rw [hW4]; exact hk.alloc _ _
          have hg : ∀ c, c < 4 → W4.cell? ⟨w5.heap.size, c, none⟩ = some (.float .f32 (g c)) := fun c hc => by
            rw [hW4]
            obtain rfl | rfl | rfl | rfl : c = 0 ∨ c = 1 ∨ c = 2 ∨ c = 3 := by omega
            all_goals go_simp
          have hS4 : X3S W4 XB (fun c => if c < 0 then bkN lo hi p g y c else y c) W4 := ⟨Kept.refl _ _, fun c hc => k4.some (HSy.out.x c hc) id⟩
          have lQ : XB < w5.heap.size := Nat.lt_of_lt_of_le lXB hk.size
          generalize w5.heap.size = Q at *
          have HQ := Lib.hid (And.intro hg (And.intro (show XB < Q from lQ) k4))
          have HS4 := Lib.hid hS4
          have HB4 := Lib.hid ((HB3.out.step HSy.out.kept HNN.out.1).step k4 id)
          have HP4 := Lib.hid (fun c hc => k4.some (HSy.out.kept.some (HP3.out c hc) HNN.out.2.1) id)
          have HZ4 := Lib.hid (show ∀ a : Addr, T ≤ a.block → W4.frozen? a = false from fun a ha => (k4.frozen a).trans ((HSy.out.kept.frozen a).trans (HZ3.out a ha)))
          clear hW4 hk hg hS4 lQ k4 t0 t1 t2 t3 x0 x1 x2 lXB
          go_wp2_with fail
          go_loopw [59] (fun s59 wr2 => ∃ k : Nat, k ≤ 3 ∧ s59 = .int .i64 (k : Int) ∧ X3S W4 XB (fun c => if c < k then bkN lo hi p g y c else y c) wr2) (fun s59 _ => (3 - intOf s59).toNat)
          case atStart => exact ⟨0, by omega, rfl, HS4.out⟩
          case round =>
            obtain ⟨k, hk, rfl, hS2⟩ := hrel
            have HS2 := Lib.hid hS2
            by_cases hlt2 : k < 3
            · have d4 : decide ((k : Int) < 3) = true := decide_eq_true (by omega)
              have e0 : 0 ≤ (k : Int) := by omega
              have e1 : (k : Int) < 3 := by omega
              have e2 : (k : Int) < 4 := by omega
              have hyk : wr.cell? ⟨XB, k, none⟩ = some (.float .f32 (y k)) := by have := hS2.x k hlt2; simpa using this
              have nQ : ¬ Q = XB := by have := HQ.out.2.1; omega
              obtain ⟨t0, t1, t2, t3⟩ := HB4.out.step hS2.kept HNN.out.1
              have A0 := ext_cell hyk
              have A1 := ext_cell (hS2.kept.some (HP4.out k hlt2) HNN.out.2.1)
              have A2 := ext_cell (hS2.kept.some (HQ.out.1 k (by omega)) nQ)
              have A3 := ext_cell t1
              have A4 := ext_cell t2
              clear hS2 hyk nQ t0 t1 t2 t3
              go_upto_region 16 with fail
              refine region_with_tail 19 (by kernel_rfl) (by kernel_rfl) ?_
              simp only [List.take_succ_cons, List.take_zero, List.drop_succ_cons, List.drop_zero]
              repeat (first
                | (refine wpWith_det ?_; go_big_quiet_want; go_big_quiet_op; go_big_quiet_on; refine wpQuiet_nil ?_)
                | (refine wpWith_det ?_; go_big_quiet_skip; refine wpQuiet_nil ?_)
                | fail)
              refine wpWith_float (by rfl) rfl (by simp) rfl rfl (fun d0 h0 => ?_)
              simp only [Act.put, List.setIfInBounds_toArray, List.set_cons_zero, List.set_cons_succ]
              repeat (first
                | (refine wpWith_det ?_; go_big_quiet_want; go_big_quiet_op; go_big_quiet_on; refine wpQuiet_nil ?_)
                | (refine wpWith_det ?_; go_big_quiet_skip; refine wpQuiet_nil ?_)
                | fail)
              refine wpWith_float (by rfl) rfl (by simp) rfl rfl (fun d1 h1 => ?_)
              simp only [Act.put, List.setIfInBounds_toArray, List.set_cons_zero, List.set_cons_succ]
              repeat (first
                | (refine wpWith_det ?_; go_big_quiet_want; go_big_quiet_op; go_big_quiet_on; refine wpQuiet_nil ?_)
                | (refine wpWith_det ?_; go_big_quiet_skip; refine wpQuiet_nil ?_)
                | fail)
              refine wpWith_float (by rfl) rfl (by simp) rfl rfl (fun d2 h2 => ?_)
              simp only [Act.put, List.setIfInBounds_toArray, List.set_cons_zero, List.set_cons_succ]
              repeat (first
                | (refine wpWith_det ?_; go_big_quiet_want; go_big_quiet_op; go_big_quiet_on; refine wpQuiet_nil ?_)
                | (refine wpWith_det ?_; go_big_quiet_skip; refine wpQuiet_nil ?_)
                | fail)
              refine wpWith_det ?_
              go_big_quiet_want
              go_big_quiet_op
              go_big_quiet_call ((go_at_call 95; exact calls_ext_same (limitof_any _ _ _ _)))
              refine wpQuiet_nil ?_
              repeat (first
                | (refine wpWith_det ?_; go_big_quiet_want; go_big_quiet_op; go_big_quiet_on; refine wpQuiet_nil ?_)
                | (refine wpWith_det ?_; go_big_quiet_skip; refine wpQuiet_nil ?_)
                | fail)
              refine wpWith_nil ?_
              rintro _ ⟨xq, rfl⟩
              have hL := bkN_of (lo := lo) (hi := hi) (x := y) h0 h1 h2
              have hS5 := HS2.out.step (ext_kept _ xq)
              have cq := hS5.x k hlt2
              have zq := (hS5.kept.frozen ⟨XB, k, none⟩).trans (HZ4.out _ (by have := HN.out; show T ≤ XB; omega))
              have HS5 := Lib.hid hS5
              have HL := Lib.hid hL
              clear hS5 hL h0 h1 h2 A0 A1 A2 A3 A4
              generalize ext _ xq = W5 at *
              go_wp2_with fail
              go_roundw
              case rel =>
                refine ⟨k + 1, by omega, by go_num, HS5.out.set hlt2 (fun j hj => ?_)⟩
                by_cases e : j = k
                · subst e; rw [if_pos (Nat.lt_succ_self _), if_pos rfl]; exact HL.out.symm
                · rw [if_neg e]
                  by_cases e2 : j < k
                  · rw [if_pos e2, if_pos (by omega)]
                  · rw [if_neg e2, if_neg (by omega)]
              case measure => simp [intOf]; omega
            · obtain rfl : k = 3 := by omega
              have d4 : decide (((3 : Nat) : Int) < 3) = false := by decide
              clear hS2
              go_wp2_with fail
              go_roundw
              case rel =>
                refine ⟨t + 1, by omega, by go_num, ⟨?_, fun c hc => ?_⟩⟩
                · exact (HSy.out.kept.trans (HQ.out.2.2.mono fun _ _ x => x.elim)).trans HS2.out.kept
                · rw [HNx.out c]
                  have := HS2.out.x c hc
                  rw [this, if_pos hc]
              case measure => simp [intOf]; omega
        · obtain rfl : t = steps := by omega
          have d3 : decide ((t : Int) < (t : Int)) = false := by simp
          have x0 := HS.out.x 0 (by omega)
          have x1 := HS.out.x 1 (by omega)
          have x2 := HS.out.x 2 (by omega)
          have hr : ∀ c, c < 3 → wr.cell? ⟨R, c, none⟩ = some (.float .f32 0) := fun c hc => HS.out.kept.some (HR3.out c hc) HNN.out.2.2
          have zz : ∀ c, wr.frozen? ⟨R, c, none⟩ = false := fun c => (HS.out.kept.frozen _).trans (HZ3.out _ (by have := HN.out; show T ≤ R; omega))
          have HRR := Lib.hid (And.intro hr zz)
          have A0 := ext_cell x0
          have A1 := ext_cell x1
          have A2 := ext_cell x2
          clear hr zz x0 x1 x2
          go_upto_region 19 with fail
          refine region_plan [] [0, 1, 2, 3, 4, 5, 6, 7, 8] [9] [10, 11] (by kernel_rfl) (by kernel_rfl) ?_
          simp only [pickO, List.filterMap_cons, List.filterMap_nil, List.getElem?_toArray, List.getElem?_cons_zero, List.getElem?_cons_succ]
          refine wpPure_nil ?_
          repeat (first
            | (refine wpWith_det ?_; go_big_quiet_want; go_big_quiet_op; go_big_quiet_on; refine wpQuiet_nil ?_)
            | (refine wpWith_det ?_; go_big_quiet_skip; refine wpQuiet_nil ?_)
            | fail)
          refine wpWith_det ?_
          go_big_quiet_want
          go_big_quiet_op
          go_big_quiet_call ((go_at_call 31; exact calls_ext_same (fix_any _ _)))
          refine wpQuiet_nil ?_
          repeat (first
            | (refine wpWith_det ?_; go_big_quiet_want; go_big_quiet_op; go_big_quiet_on; refine wpQuiet_nil ?_)
            | (refine wpWith_det ?_; go_big_quiet_skip; refine wpQuiet_nil ?_)
            | fail)
          refine wpWith_det ?_
          go_big_quiet_want
          go_big_quiet_op
          go_big_quiet_call ((go_at_call 31; exact calls_ext_same (fix_any _ _)))
          refine wpQuiet_nil ?_
          repeat (first
            | (refine wpWith_det ?_; go_big_quiet_want; go_big_quiet_op; go_big_quiet_on; refine wpQuiet_nil ?_)
            | (refine wpWith_det ?_; go_big_quiet_skip; refine wpQuiet_nil ?_)
            | fail)
          refine wpWith_det ?_
          go_big_quiet_want
          go_big_quiet_op
          go_big_quiet_call ((go_at_call 31; exact calls_ext_same (fix_any _ _)))
          refine wpQuiet_nil ?_
          refine wpWith_nil ?_
          refine wpPure_cons (.agg #[.float .f32 (cl .f32 (X' t 0)), .float .f32 (cl .f32 (X' t 1)), .float .f32 (cl .f32 (X' t 2))]) rfl (fun w => by go_simp) ?_
          simp only [Act.put, List.setIfInBounds_toArray, List.set_cons_zero, List.set_cons_succ]
          refine wpPure_nil ?_
          rintro _ ⟨xq, rfl⟩
          have kx := ext_kept wr xq
          have r0 := kx.some (HRR.out.1 0 (by omega)) id
          have r1 := kx.some (HRR.out.1 1 (by omega)) id
          have r2 := kx.some (HRR.out.1 2 (by omega)) id
          have z0 := (kx.frozen ⟨R, 0, none⟩).trans (HRR.out.2 0)
          have z1 := (kx.frozen ⟨R, 1, none⟩).trans (HRR.out.2 1)
          have z2 := (kx.frozen ⟨R, 2, none⟩).trans (HRR.out.2 2)
          have K7 := Lib.hid (K4.out.trans kx)
          clear kx A0 A1 A2
          generalize ext _ xq = W7 at *
          go_wp2_with fail
          rw [Qn_normal]
          go_wp2_with fail
          have cs := cells_set3 (v0 := .float .f32 (cl .f32 (X' t 0))) (v1 := .float .f32 (cl .f32 (X' t 1))) (v2 := .float .f32 (cl .f32 (X' t 2))) r0 r1 r2
          refine bodyPost_ret (ar3_ret2 Try.results45 _ _ R _ _ _ cs rfl) rfl ?_
          exact ⟨rfl, kept_set3 K7.out (by have := HN.out; omega)⟩
end Go.Proofs.Ytkmganophcklgaa
