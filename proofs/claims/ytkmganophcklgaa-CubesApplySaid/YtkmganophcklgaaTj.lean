/- The contract of cube.linear. Conditions: none. -/
import Derived.Test.YtkmganophcklgaaTi
import Derived.Laws.EntriesVeiled
namespace Go.Proofs.Ytkmganophcklgaa
open Go.RowKit
open Fl Fr
open BigFrame

set_option linter.unusedSimpArgs false in
set_option linter.unusedVariables false in
set_option maxHeartbeats 4000000 in
set_option maxRecDepth 100000 in
theorem linear_bad (S : Int) (lo hi b o n cap : Nat) (E : Int → Int → Int → Nat → Nat) (p : Nat → Nat) (w : World) (s1 : 2 ≤ S) (s2 : S ≤ 17) (hp : brk p = true) :
    Calls Try.prog 87 #[.agg #[.int .i64 S, .float .f32 lo, .float .f32 hi, .slice (some ⟨b, o, none⟩) n cap], .agg #[.float .f32 (p 0), .float .f32 (p 1), .float .f32 (p 2), .float .f32 (p 3)]] w (PxIs (liP E S lo hi p) w) := by
  have e0 : liP E S lo hi p 0 = qn .f32 := by unfold liP; rw [if_neg (by decide), if_pos hp]
  have e1 : liP E S lo hi p 1 = qn .f32 := by unfold liP; rw [if_neg (by decide), if_pos hp]
  have e2 : liP E S lo hi p 2 = qn .f32 := by unfold liP; rw [if_neg (by decide), if_pos hp]
  have e3 : liP E S lo hi p 3 = cl .f32 (p 3) := by unfold liP; rw [if_pos rfl]
  unfold PxIs
  rw [e0, e1, e2, e3]
  clear e0 e1 e2 e3
  go_enter Try.func87, Try.ntmps87
  go_upto_region 2 with (first
    | (go_at_call 114; refine (places_bad S lo hi _ n cap p _ s1 s2 hp).mono ?_; rintro e w1 ⟨x0, x1, x2, y0, y1, y2, rfl, hk⟩))
  refine of_world (fun W1 hW => ?_)
  have k1 : Kept None' w1 W1 := by rw [hW]; exact ((Kept.refl _ _).alloc _ _).alloc _ _
  have c3 : W1.cell? ⟨w.heap.size + 1, 3, none⟩ = some (.float .f32 (p 3)) := k1.some (hk.some (by go_simp) id) id
  have r0 : W1.cell? ⟨w.heap.size + 1 + 1, 0, none⟩ = some (.float .f32 0) := k1.some (hk.some (by go_simp) id) id
  have r1 : W1.cell? ⟨w.heap.size + 1 + 1, 1, none⟩ = some (.float .f32 0) := k1.some (hk.some (by go_simp) id) id
  have r2 : W1.cell? ⟨w.heap.size + 1 + 1, 2, none⟩ = some (.float .f32 0) := k1.some (hk.some (by go_simp) id) id
  have r3 : W1.cell? ⟨w.heap.size + 1 + 1, 3, none⟩ = some (.float .f32 0) := k1.some (hk.some (by go_simp) id) id
  have zz : ∀ c, W1.frozen? ⟨w.heap.size + 1 + 1, c, none⟩ = false := fun c => (k1.frozen _).trans ((hk.frozen _).trans ((frozen?_alloc_cells _ _ _ _).trans ((frozen?_alloc_cells _ _ _ _).trans ((frozen?_alloc_cells _ _ _ _).trans (frozen_new _ _ (by simp; omega))))))
  have KW := Lib.hid (((((Kept.refl None' w).alloc _ _).alloc _ _).alloc _ _).trans (hk.trans k1))
  have HR := Lib.hid (And.intro r0 (And.intro r1 (And.intro r2 (And.intro r3 zz))))
  clear hW hk k1 r0 r1 r2 r3 zz
  go_wp2_with (first
    | (go_at_call 115; refine (lost_any _ _).mono ?_; rintro e w2 ⟨rfl, hk⟩; have r0 := hk.some HR.out.1 id; have r1 := hk.some HR.out.2.1 id; have r2 := hk.some HR.out.2.2.1 id; have r3 := hk.some HR.out.2.2.2.1 id; have z0 := (hk.frozen ⟨w.heap.size + 1 + 1, 0, none⟩).trans (HR.out.2.2.2.2 0); have z1 := (hk.frozen ⟨w.heap.size + 1 + 1, 1, none⟩).trans (HR.out.2.2.2.2 1); have z2 := (hk.frozen ⟨w.heap.size + 1 + 1, 2, none⟩).trans (HR.out.2.2.2.2 2); have z3 := (hk.frozen ⟨w.heap.size + 1 + 1, 3, none⟩).trans (HR.out.2.2.2.2 3); have K2 := Lib.hid hk; clear hk))
  have cs := cells_set4 (v0 := .float .f32 (qn .f32)) (v1 := .float .f32 (qn .f32)) (v2 := .float .f32 (qn .f32)) (v3 := .float .f32 (cl .f32 (p 3))) r0 r1 r2 r3
  refine bodyPost_ret (px_ret Try.results87 _ _ (w.heap.size + 1 + 1) _ _ _ _ cs.1 cs.2.1 cs.2.2.1 cs.2.2.2 rfl) rfl ?_
  exact ⟨rfl, kept_set4' (KW.out.trans K2.out) (by omega)⟩

set_option linter.unusedSimpArgs false in
set_option linter.unusedVariables false in
set_option maxHeartbeats 16000000 in
set_option maxRecDepth 100000 in
theorem linear_ok (S : Int) (lo hi b o n cap : Nat) (E : Int → Int → Int → Nat → Nat) (p : Nat → Nat) (w : World) (s1 : 2 ≤ S) (s2 : S ≤ 17) (hp : brk p = false)
    (hE : ∀ (x y z : Int) (wr : World), Kept None' w wr → 0 ≤ x → x < S → 0 ≤ y → y < S → 0 ≤ z → z < S → Calls Try.prog 71 #[.agg #[.int .i64 S, .float .f32 lo, .float .f32 hi, .slice (some ⟨b, o, none⟩) n cap], .int .i64 x, .int .i64 y, .int .i64 z] wr fun e w' =>
      e = .returned (.agg #[.float .f32 (E x y z 0), .float .f32 (E x y z 1), .float .f32 (E x y z 2)]) ∧ Kept None' wr w') :
    Calls Try.prog 87 #[.agg #[.int .i64 S, .float .f32 lo, .float .f32 hi, .slice (some ⟨b, o, none⟩) n cap], .agg #[.float .f32 (p 0), .float .f32 (p 1), .float .f32 (p 2), .float .f32 (p 3)]] w (PxIs (liP E S lo hi p) w) := by
  obtain ⟨f, hf⟩ : ∃ f : Nat → Int, ∀ c, axI S lo hi (p c) = f c := ⟨_, fun _ => rfl⟩
  obtain ⟨x, hx⟩ : ∃ x : Nat → Nat, ∀ c, axS S lo hi (p c) = x c := ⟨_, fun _ => rfl⟩
  have hfb : ∀ c, 0 ≤ f c ∧ f c ≤ S - 2 := fun c => by rw [← hf]; exact ax_bd s1 s2 lo hi (p c)
  have hP := fun w => places_ok S lo hi (some ⟨b, o, none⟩) n cap p w s1 s2 hp
  simp only [hf, hx] at hP
  have hT : ∀ c, liP E S lo hi p c = if c = 3 then cl .f32 (p 3) else liV E f x c := fun c => by
    unfold liP
    rw [hp]
    simp only [Bool.false_eq_true, if_false, hf, hx]
  have HT := Lib.hid hT
  have HP := Lib.hid hP
  have HE := Lib.hid hE
  have HFB := Lib.hid hfb
  clear hT hP hE hfb hf hx hp
  go_enter Try.func87, Try.ntmps87
  go_upto_region 4 with (first
    | (go_at_call 114; refine (HP.out _).mono ?_; rintro e w1 ⟨rfl, hk⟩))
  refine of_world (fun W1 hW => ?_)
  have k1 : Kept None' w1 W1 := by rw [hW]; exact ((Kept.refl _ _).alloc _ _).alloc _ _
  have hB : CubB w.heap.size S lo hi b o n cap W1 := ⟨k1.some (hk.some (by go_simp) id) id, k1.some (hk.some (by go_simp) id) id, k1.some (hk.some (by go_simp) id) id, k1.some (hk.some (by go_simp) id) id⟩
  have c3 : W1.cell? ⟨w.heap.size + 1, 3, none⟩ = some (.float .f32 (p 3)) := k1.some (hk.some (by go_simp) id) id
  have hr : ∀ c, c < 4 → W1.cell? ⟨w.heap.size + 1 + 1, c, none⟩ = some (.float .f32 0) := fun c hc => by
    obtain rfl | rfl | rfl | rfl : c = 0 ∨ c = 1 ∨ c = 2 ∨ c = 3 := by omega
    all_goals exact k1.some (hk.some (by go_simp) id) id
  have h5 : ∀ c, c < 3 → W1.cell? ⟨w1.heap.size, c, none⟩ = some (.int .i64 (f c)) := fun c hc => by
    rw [hW]
    obtain rfl | rfl | rfl : c = 0 ∨ c = 1 ∨ c = 2 := by omega
    all_goals go_simp
  have h6 : ∀ c, c < 3 → W1.cell? ⟨w1.heap.size + 1, c, none⟩ = some (.float .f32 (x c)) := fun c hc => by
    rw [hW]
    obtain rfl | rfl | rfl : c = 0 ∨ c = 1 ∨ c = 2 := by omega
    all_goals go_simp
  have zz : ∀ a : Addr, w.heap.size ≤ a.block → W1.frozen? a = false := fun a ha => by
    rw [hW]
    exact (frozen?_alloc_cells _ _ _ _).trans ((frozen?_alloc_cells _ _ _ _).trans ((hk.frozen _).trans ((frozen?_alloc_cells _ _ _ _).trans ((frozen?_alloc_cells _ _ _ _).trans ((frozen?_alloc_cells _ _ _ _).trans (frozen_new _ _ ha))))))
  have hsz : w.heap.size + 3 ≤ w1.heap.size := by
    have := hk.size
    simpa using this
  have KW := Lib.hid (((((Kept.refl None' w).alloc _ _).alloc _ _).alloc _ _).trans (hk.trans k1))
  generalize hB6 : w1.heap.size + 1 = B6 at *
  generalize hB5 : w1.heap.size = B5 at *
  generalize hB4 : w.heap.size + 1 + 1 = B4 at *
  generalize hB3 : w.heap.size + 1 = B3 at *
  generalize hB2 : w.heap.size = B2 at *
  have HN := Lib.hid (And.intro hB6 (And.intro hB4 (And.intro hB3 (And.intro hB2 hsz))))
  clear hW hk k1 hB6 hB5 hB4 hB3 hB2 hsz
  have l6 : B6 < W1.heap.size := cell_lt (h6 0 (by omega))
  go_upto_region 5 with (first | (go_at_call 109; refine (clean_any _ _).mono ?_; rintro e w' ⟨rfl, rfl⟩))
  refine of_world (fun W5 hW => ?_)
  have k5 : Kept None' W1 W5 := by rw [hW]; exact (Kept.refl _ _).alloc _ _
  have hPx : PxS W5 W1.heap.size (liP E S lo hi p) 0 W5 := ⟨Kept.refl _ _, fun c hc => by
    rw [hW]
    refine (cell_alloc_one W1 _ _ c).trans ?_
    obtain rfl | rfl | rfl | rfl : c = 0 ∨ c = 1 ∨ c = 2 ∨ c = 3 := by omega
    · rfl
    · rfl
    · rfl
    · rw [if_pos (Or.inr rfl), HT.out, if_pos rfl]; rfl⟩
  have z17 : ∀ a : Addr, B2 ≤ a.block → W5.frozen? a = false := fun a ha => (k5.frozen a).trans (zz a ha)
  have hB5' := hB.step k5 id
  have h4 : ∀ c, c < 4 → W5.cell? ⟨B4, c, none⟩ = some (.float .f32 0) := fun c hc => k5.some (hr c hc) id
  have h5' : ∀ c, c < 3 → W5.cell? ⟨B5, c, none⟩ = some (.int .i64 (f c)) := fun c hc => k5.some (h5 c hc) id
  have h6' : ∀ c, c < 3 → W5.cell? ⟨B6, c, none⟩ = some (.float .f32 (x c)) := fun c hc => k5.some (h6 c hc) id
  have HPx := Lib.hid hPx
  have HB := Lib.hid hB5'
  have Z := Lib.hid z17
  have H4 := Lib.hid h4
  have H5 := Lib.hid h5'
  have H6 := Lib.hid h6'
  have KW5 := Lib.hid (KW.out.trans k5)
  generalize hB8 : W1.heap.size = B8 at *
  have HL := Lib.hid (show B6 < B8 from l6)
  clear hW k5 hPx z17 hB5' h4 h5' h6' hB8 l6 hB c3 hr h5 h6 zz KW
  go_wp2_with fail
  go_loopw [28] (fun s28 wr => ∃ n : Nat, n ≤ 3 ∧ s28 = .int .i64 (n : Int) ∧ PxS W5 B8 (liP E S lo hi p) n wr) (fun s28 _ => (3 - intOf s28).toNat)
  case atStart => exact ⟨0, by omega, rfl, HPx.out⟩
  case round =>
    obtain ⟨m, hm, rfl, hQ⟩ := hrel
    have HQ := Lib.hid hQ
    have n28 : ¬ B2 = B8 := by have := HN.out; have := HL.out; omega
    have n58 : ¬ B5 = B8 := by have := HN.out; have := HL.out; omega
    have n68 : ¬ B6 = B8 := by have := HL.out; omega
    have n48 : ¬ B4 = B8 := by have := HN.out; have := HL.out; omega
    by_cases hlt : m < 3
    · have d1 : decide ((m : Int) < 3) = true := decide_eq_true (by omega)
      have e0 : 0 ≤ (m : Int) := by omega
      have e1 : (m : Int) < 4 := by omega
      clear hQ
      go_upto_region 10 with (fail)
      refine of_world (fun W6 hW => ?_)
      have k6 : Kept None' wr W6 := by rw [hW]; exact ((Kept.refl _ _).alloc _ _).alloc _ _
      have hn9 : W6.cell? ⟨wr.heap.size, 0, none⟩ = some (.int .i64 (m : Int)) := by rw [hW]; go_simp
      have hR : W6.cell? ⟨wr.heap.size + 1, 0, none⟩ = some (.func (.func 116) #[] #[.pointer (some ⟨B2, 0, none⟩), .pointer (some ⟨B5, 0, none⟩), .pointer (some ⟨wr.heap.size, 0, none⟩), .pointer (some ⟨B6, 0, none⟩)]) := by rw [hW]; go_simp
      have hQ6 := HQ.out.step k6
      have hB6 := (HB.out.step HQ.out.kept n28).step k6 id
      have h56 : ∀ c, c < 3 → W6.cell? ⟨B5, c, none⟩ = some (.int .i64 (f c)) := fun c hc => k6.some (HQ.out.kept.some (H5.out c hc) n58) id
      have h66 : ∀ c, c < 3 → W6.cell? ⟨B6, c, none⟩ = some (.float .f32 (x c)) := fun c hc => k6.some (HQ.out.kept.some (H6.out c hc) n68) id
      have kW := (kept_over' KW5.out HQ.out.kept (fun i hi => by have := HN.out; have := HL.out; omega)).trans k6
      have hL1 : ∀ (dj dk : Int) (w' : World), Kept None' W6 w' → 0 ≤ dj → dj ≤ 1 → 0 ≤ dk → dk ≤ 1 → Calls Try.prog 116 #[.int .i64 dj, .int .i64 dk, .pointer (some ⟨B2, 0, none⟩), .pointer (some ⟨B5, 0, none⟩), .pointer (some ⟨wr.heap.size, 0, none⟩), .pointer (some ⟨B6, 0, none⟩)] w' fun e w'' => e = .returned (.float .f32 (liR E f x m dj dk)) ∧ Kept None' w' w'' :=
        fun dj dk w' hk j0 j1 k0 k1 => linear1_any S lo hi b o n cap B2 B5 B6 wr.heap.size m E f x dj dk w' s1 s2 HFB.out hlt j0 j1 k0 k1 (hB6.step hk id) (fun c hc => hk.some (h56 c hc) id) (fun c hc => hk.some (h66 c hc) id) (hk.some hn9 id) (fun a b c wr' hk' => HE.out a b c wr' ((kW.trans hk).trans hk'))
      have hL2 : ∀ (dk : Int) (w' : World), Kept None' W6 w' → 0 ≤ dk → dk ≤ 1 → Calls Try.prog 117 #[.int .i64 dk, .pointer (some ⟨wr.heap.size + 1, 0, none⟩), .pointer (some ⟨B6, 0, none⟩)] w' fun e w'' => e = .returned (.float .f32 (liG E f x m dk)) ∧ Kept None' w' w'' :=
        fun dk w' hk k0 k1 => linear2_any (wr.heap.size + 1) B6 _ (fun dj => liR E f x m dj dk) (x 1) dk w' _ _ _ _ rfl (hk.some hR id) (hk.some (h66 1 (by omega)) id) (fun wr' hk' => hL1 0 dk wr' (hk.trans hk') (by omega) (by omega) k0 k1) (fun wr' hk' => hL1 1 dk wr' (hk.trans hk') (by omega) (by omega) k0 k1)
      have hg0 := fun w' hk => hL2 0 w' hk (by omega) (by omega)
      have hg1 := fun w' hk => hL2 1 w' hk (by omega) (by omega)
      have hTE := HT.out m
      rw [if_neg (by omega)] at hTE
      unfold liV at hTE
      generalize liG E f x m 0 = g0 at *
      generalize liG E f x m 1 = g1 at *
      have A0 := ext_cell hn9
      have A1 := ext_cell (h66 2 (by omega))
      have hcall := Try.call117
      have G0 := Lib.hid hg0
      have G1 := Lib.hid hg1
      have HTE := Lib.hid hTE
      have HQ6 := Lib.hid hQ6
      clear hW k6 hn9 hR hQ6 hB6 h56 h66 kW hL1 hL2 hg0 hg1 hTE
      generalize wr.heap.size = N9 at *
      refine region_with_tail 9 (by kernel_rfl) (by kernel_rfl) ?_
      simp only [List.take_succ_cons, List.take_zero, List.drop_succ_cons, List.drop_zero]
      repeat (first
        | (refine wpWith_det ?_; go_big_quiet_want; go_big_quiet_op; go_big_quiet_on; refine wpQuiet_nil ?_)
        | (refine wpWith_det ?_; go_big_quiet_skip; refine wpQuiet_nil ?_)
        | fail)
      refine wpWith_det ?_
      go_big_quiet_want
      go_big_quiet_op
      go_big_quiet_call ((exact calls_ext (G0.out _ (ext_kept _ _))))
      refine wpQuiet_nil ?_
      repeat (first
        | (refine wpWith_det ?_; go_big_quiet_want; go_big_quiet_op; go_big_quiet_on; refine wpQuiet_nil ?_)
        | (refine wpWith_det ?_; go_big_quiet_skip; refine wpQuiet_nil ?_)
        | fail)
      refine wpWith_det ?_
      go_big_quiet_want
      go_big_quiet_op
      go_big_quiet_call ((exact calls_ext (G1.out _ (ext_kept _ _))))
      refine wpQuiet_nil ?_
      repeat (first
        | (refine wpWith_det ?_; go_big_quiet_want; go_big_quiet_op; go_big_quiet_on; refine wpQuiet_nil ?_)
        | (refine wpWith_det ?_; go_big_quiet_skip; refine wpQuiet_nil ?_)
        | fail)
      refine wpWith_det ?_
      go_big_quiet_want
      go_big_quiet_op
      go_big_quiet_call ((go_at_call 107; exact calls_ext_drew (lerp_any _ _ _ _)))
      refine wpQuiet_nil ?_
      repeat (first
        | (refine wpWith_det ?_; go_big_quiet_want; go_big_quiet_op; go_big_quiet_on; refine wpQuiet_nil ?_)
        | (refine wpWith_det ?_; go_big_quiet_skip; refine wpQuiet_nil ?_)
        | fail)
      refine wpWith_nil ?_
      rintro _ ⟨xq, rfl⟩
      have hQ7 := HQ6.out.step (ext_kept W6 xq)
      have cq := hQ7.cells m (by omega)
      have zq := (hQ7.kept.frozen ⟨B8, m, none⟩).trans (Z.out _ (by have := HN.out; have := HL.out; show B2 ≤ B8; omega))
      have HQ7 := Lib.hid hQ7
      clear A0 A1 hcall hQ7
      generalize ext _ xq = W7 at *
      go_wp2_with fail
      go_roundw
      case rel => exact ⟨m + 1, by omega, by go_num, HQ7.out.set hlt HTE.out.symm⟩
      case measure => simp [intOf]; omega
    · obtain rfl : m = 3 := by omega
      have d1 : decide (((3 : Nat) : Int) < 3) = false := by decide
      have c0 := hQ.cells 0 (by omega)
      have c1 := hQ.cells 1 (by omega)
      have c2 := hQ.cells 2 (by omega)
      have c3 := hQ.cells 3 (by omega)
      rw [if_pos (by omega)] at c0 c1 c2 c3
      have r0 := hQ.kept.some (H4.out 0 (by omega)) n48
      have r1 := hQ.kept.some (H4.out 1 (by omega)) n48
      have r2 := hQ.kept.some (H4.out 2 (by omega)) n48
      have r3 := hQ.kept.some (H4.out 3 (by omega)) n48
      have zz : ∀ c, wr.frozen? ⟨B4, c, none⟩ = false := fun c => (hQ.kept.frozen _).trans (Z.out _ (by have := HN.out; show B2 ≤ B4; omega))
      have z0 := zz 0
      have z1 := zz 1
      have z2 := zz 2
      have z3 := zz 3
      have KE := Lib.hid (kept_over' KW5.out hQ.kept (fun i hi => by have := HL.out; have := HN.out; omega))
      clear hQ n28 n58 n68 n48 zz
      go_wp2_with fail
      have cs := cells_set4 (v0 := .float .f32 (liP E S lo hi p 0)) (v1 := .float .f32 (liP E S lo hi p 1)) (v2 := .float .f32 (liP E S lo hi p 2)) (v3 := .float .f32 (liP E S lo hi p 3)) r0 r1 r2 r3
      refine bodyPost_ret (px_ret Try.results87 _ _ B4 _ _ _ _ cs.1 cs.2.1 cs.2.2.1 cs.2.2.2 rfl) rfl ?_
      exact ⟨rfl, kept_set4' KE.out (by have := HN.out; omega)⟩

theorem linear_any (S : Int) (lo hi b o n cap : Nat) (E : Int → Int → Int → Nat → Nat) (p : Nat → Nat) (w : World) (s1 : 2 ≤ S) (s2 : S ≤ 17)
    (hE : ∀ (x y z : Int) (wr : World), Kept None' w wr → 0 ≤ x → x < S → 0 ≤ y → y < S → 0 ≤ z → z < S → Calls Try.prog 71 #[.agg #[.int .i64 S, .float .f32 lo, .float .f32 hi, .slice (some ⟨b, o, none⟩) n cap], .int .i64 x, .int .i64 y, .int .i64 z] wr fun e w' =>
      e = .returned (.agg #[.float .f32 (E x y z 0), .float .f32 (E x y z 1), .float .f32 (E x y z 2)]) ∧ Kept None' wr w') :
    Calls Try.prog 87 #[.agg #[.int .i64 S, .float .f32 lo, .float .f32 hi, .slice (some ⟨b, o, none⟩) n cap], .agg #[.float .f32 (p 0), .float .f32 (p 1), .float .f32 (p 2), .float .f32 (p 3)]] w (PxIs (liP E S lo hi p) w) := by
  cases hp : brk p with
  | true => exact linear_bad S lo hi b o n cap E p w s1 s2 hp
  | false => exact linear_ok S lo hi b o n cap E p w s1 s2 hp hE
end Go.Proofs.Ytkmganophcklgaa
