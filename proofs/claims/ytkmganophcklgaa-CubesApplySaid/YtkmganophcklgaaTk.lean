/- The contract of LinearOf. Conditions: none. -/
import Derived.Test.YtkmganophcklgaaTj
namespace Go.Proofs.Ytkmganophcklgaa
open Go.RowKit
open Fl Fr
open BigFrame

set_option linter.unusedSimpArgs false in
set_option linter.unusedVariables false in
set_option maxHeartbeats 4000000 in
set_option maxRecDepth 100000 in
theorem linearof1_any (S : Int) (lo hi b o n cap T I J K M X m : Nat) (E : Int → Int → Int → Nat → Nat) (f : Nat → Int) (x : Nat → Nat) (dj dk : Int) (w : World) (s1 : 2 ≤ S) (s2 : S ≤ 17) (hf : ∀ c, 0 ≤ f c ∧ f c ≤ S - 2) (hm : m < 3) (j0 : 0 ≤ dj) (j1 : dj ≤ 1) (k0 : 0 ≤ dk) (k1 : dk ≤ 1)
    (hB : CubB T S lo hi b o n cap w) (hI : w.cell? ⟨I, 0, none⟩ = some (.int .i64 (f 0))) (hJ : w.cell? ⟨J, 0, none⟩ = some (.int .i64 (f 1))) (hK : w.cell? ⟨K, 0, none⟩ = some (.int .i64 (f 2))) (hN : w.cell? ⟨M, 0, none⟩ = some (.int .i64 (m : Int))) (hX : w.cell? ⟨X, 0, none⟩ = some (.float .f32 (x 0)))
    (hE : ∀ (x y z : Int) (wr : World), Kept None' w wr → 0 ≤ x → x < S → 0 ≤ y → y < S → 0 ≤ z → z < S → Calls Try.prog 20 #[.agg #[.int .i64 S, .float .f32 lo, .float .f32 hi, .slice (some ⟨b, o, none⟩) n cap], .int .i64 x, .int .i64 y, .int .i64 z] wr fun e w' =>
      e = .returned (.agg #[.float .f32 (E x y z 0), .float .f32 (E x y z 1), .float .f32 (E x y z 2)]) ∧ Kept None' wr w') :
    Calls Try.prog 90 #[.int .i64 dj, .int .i64 dk, .pointer (some ⟨T, 0, none⟩), .pointer (some ⟨I, 0, none⟩), .pointer (some ⟨J, 0, none⟩), .pointer (some ⟨K, 0, none⟩), .pointer (some ⟨M, 0, none⟩), .pointer (some ⟨X, 0, none⟩)] w fun e w' => e = .returned (.float .f32 (liR E f x m dj dk)) ∧ Kept None' w w' := by
  unfold liR
  have b0 := hf 0
  have b1 := hf 1
  have b2 := hf 2
  have hC1 := fun wr hk => hE (f 0) (f 1 + dj) (f 2 + dk) wr hk (by omega) (by omega) (by omega) (by omega) (by omega) (by omega)
  have hC2 := fun wr hk => hE (f 0 + 1) (f 1 + dj) (f 2 + dk) wr hk (by omega) (by omega) (by omega) (by omega) (by omega) (by omega)
  obtain ⟨e1, he1⟩ : ∃ e1 : Nat → Nat, ∀ c, E (f 0) (f 1 + dj) (f 2 + dk) c = e1 c := ⟨_, fun _ => rfl⟩
  obtain ⟨e2, he2⟩ : ∃ e2 : Nat → Nat, ∀ c, E (f 0 + 1) (f 1 + dj) (f 2 + dk) c = e2 c := ⟨_, fun _ => rfl⟩
  simp only [he1] at hC1
  simp only [he2] at hC2
  rw [he1, he2]
  generalize f 0 = f0 at *
  generalize f 1 = f1 at *
  generalize f 2 = f2 at *
  generalize x 0 = x0 at *
  have v0 : IntKind.i64.wrap (f0 + 1) = f0 + 1 := IntWalk.i64_in _ (by omega)
  have v1 : IntKind.i64.wrap (f1 + dj) = f1 + dj := IntWalk.i64_in _ (by omega)
  have v2 : IntKind.i64.wrap (f2 + dk) = f2 + dk := IntWalk.i64_in _ (by omega)
  have ix1 := ar3_idx e1 m hm
  have ix2 := ar3_idx e2 m hm
  have HC1 := Lib.hid hC1
  have HC2 := Lib.hid hC2
  have V := Lib.hid (And.intro v0 (And.intro v1 v2))
  have HB := Lib.hid hB
  clear hC1 hC2 he1 he2 hE hf v0 v1 v2 hB
  go_enter Try.func90, Try.ntmps90
  go_upto_region 1 with (fail)
  have A0 := ext_cell HB.out.c0
  have A1 := ext_cell HB.out.c1
  have A2 := ext_cell HB.out.c2
  have A3 := ext_cell HB.out.c3
  have A4 := ext_cell hI
  have A5' := ext_cell hJ
  have A6' := ext_cell hK
  have A7 := ext_cell hX
  have A8 := ext_cell hN
  obtain ⟨v0, v1, v2⟩ := V.out
  refine region_with (by kernel_rfl) (by kernel_rfl) ?_
  repeat (first
    | (refine wpWith_det ?_; go_big_quiet_want; go_big_quiet_op; go_big_quiet_on; refine wpQuiet_nil ?_)
    | (refine wpWith_det ?_; go_big_quiet_skip; refine wpQuiet_nil ?_)
    | fail)
  refine wpWith_det ?_
  go_big_quiet_want
  go_big_quiet_op
  go_big_quiet_call ((go_at_call 20; exact calls_ext (HC1.out _ (ext_kept _ _))))
  refine wpQuiet_nil ?_
  repeat (first
    | (refine wpWith_det ?_; go_big_quiet_want; go_big_quiet_op; go_big_quiet_on; refine wpQuiet_nil ?_)
    | (refine wpWith_det ?_; go_big_quiet_skip; refine wpQuiet_nil ?_)
    | fail)
  refine wpWith_det ?_
  go_big_quiet_want
  go_big_quiet_op
  go_big_quiet_call ((go_at_call 20; exact calls_ext (HC2.out _ (ext_kept _ _))))
  refine wpQuiet_nil ?_
  repeat (first
    | (refine wpWith_det ?_; go_big_quiet_want; go_big_quiet_op; go_big_quiet_on; refine wpQuiet_nil ?_)
    | (refine wpWith_det ?_; go_big_quiet_skip; refine wpQuiet_nil ?_)
    | fail)
  refine wpWith_det ?_
  go_big_quiet_want
  go_big_quiet_op
  go_big_quiet_call ((go_at_call 63; exact calls_ext_drew (lerpof_any _ _ _ _)))
  refine wpQuiet_nil ?_
  repeat (first
    | (refine wpWith_det ?_; go_big_quiet_want; go_big_quiet_op; go_big_quiet_on; refine wpQuiet_nil ?_)
    | (refine wpWith_det ?_; go_big_quiet_skip; refine wpQuiet_nil ?_)
    | fail)
  refine wpWith_nil ?_
  rintro _ ⟨xq, rfl⟩
  have KE := Lib.hid (ext_kept w xq)
  clear A0 A1 A2 A3 A4 A5' A6' A7 A8 v0 v1 v2
  generalize ext w xq = W1 at *
  go_wp2_with fail
  go_ret
  exact ⟨rfl, KE.out⟩

set_option linter.unusedSimpArgs false in
set_option linter.unusedVariables false in
set_option maxHeartbeats 4000000 in
set_option maxRecDepth 100000 in
theorem linearof_bad (S : Int) (lo hi b o n cap : Nat) (E : Int → Int → Int → Nat → Nat) (p : Nat → Nat) (w : World) (hp : brk p = true) :
    Calls Try.prog 41 #[.agg #[.int .i64 S, .float .f32 lo, .float .f32 hi, .slice (some ⟨b, o, none⟩) n cap], .agg #[.float .f32 (p 0), .float .f32 (p 1), .float .f32 (p 2), .float .f32 (p 3)]] w (PxIs (liP E S lo hi p) w) := by
  have e0 : liP E S lo hi p 0 = qn .f32 := by unfold liP; rw [if_neg (by decide), if_pos hp]
  have e1 : liP E S lo hi p 1 = qn .f32 := by unfold liP; rw [if_neg (by decide), if_pos hp]
  have e2 : liP E S lo hi p 2 = qn .f32 := by unfold liP; rw [if_neg (by decide), if_pos hp]
  have e3 : liP E S lo hi p 3 = cl .f32 (p 3) := by unfold liP; rw [if_pos rfl]
  unfold PxIs
  rw [e0, e1, e2, e3]
  have hbk : (nan .f32 (p 0) || (nan .f32 (p 1) || nan .f32 (p 2))) = true := hp
  have HBK := Lib.hid hbk
  clear e0 e1 e2 e3 hbk hp
  go_enter Try.func41, Try.ntmps41
  go_upto_region 3 with (first
    | (go_at_call 85; refine (thenan_any _).mono ?_; rintro e w' ⟨rfl, rfl⟩)
    | (go_at_call 89; refine (broken_any _ _ _ _ _).mono ?_; rw [HBK.out]; rintro e w1 ⟨rfl, hk⟩))
  have c3 : w1.cell? ⟨w.heap.size + 1, 3, none⟩ = some (.float .f32 (p 3)) := hk.some (by go_simp) id
  have r0 : w1.cell? ⟨w.heap.size + 1 + 1, 0, none⟩ = some (.float .f32 0) := hk.some (by go_simp) id
  have r1 : w1.cell? ⟨w.heap.size + 1 + 1, 1, none⟩ = some (.float .f32 0) := hk.some (by go_simp) id
  have r2 : w1.cell? ⟨w.heap.size + 1 + 1, 2, none⟩ = some (.float .f32 0) := hk.some (by go_simp) id
  have r3 : w1.cell? ⟨w.heap.size + 1 + 1, 3, none⟩ = some (.float .f32 0) := hk.some (by go_simp) id
  have zz : ∀ c, w1.frozen? ⟨w.heap.size + 1 + 1, c, none⟩ = false := fun c => ((hk.frozen _).trans ((frozen?_alloc_cells _ _ _ _).trans ((frozen?_alloc_cells _ _ _ _).trans ((frozen?_alloc_cells _ _ _ _).trans (frozen_new _ _ (by simp; omega))))))
  have z0 := zz 0
  have z1 := zz 1
  have z2 := zz 2
  have z3 := zz 3
  have KW := Lib.hid (((((Kept.refl None' w).alloc _ _).alloc _ _).alloc _ _).trans hk)
  clear hk zz
  go_wp2_with (first
    | (go_at_call 31; refine (fix_any _ _).mono ?_; rintro e w2 ⟨rfl, rfl⟩))
  have cs := cells_set4 (v0 := .float .f32 (qn .f32)) (v1 := .float .f32 (qn .f32)) (v2 := .float .f32 (qn .f32)) (v3 := .float .f32 (cl .f32 (p 3))) r0 r1 r2 r3
  refine bodyPost_ret (px_ret Try.results41 _ _ (w.heap.size + 1 + 1) _ _ _ _ cs.1 cs.2.1 cs.2.2.1 cs.2.2.2 rfl) rfl ?_
  exact ⟨rfl, kept_set4' KW.out (by omega)⟩

set_option linter.unusedSimpArgs false in
set_option linter.unusedVariables false in
set_option maxHeartbeats 16000000 in
set_option maxRecDepth 100000 in
theorem linearof_ok (S : Int) (lo hi b o n cap : Nat) (E : Int → Int → Int → Nat → Nat) (p : Nat → Nat) (w : World) (s1 : 2 ≤ S) (s2 : S ≤ 17) (hp : brk p = false)
    (hE : ∀ (x y z : Int) (wr : World), Kept None' w wr → 0 ≤ x → x < S → 0 ≤ y → y < S → 0 ≤ z → z < S → Calls Try.prog 20 #[.agg #[.int .i64 S, .float .f32 lo, .float .f32 hi, .slice (some ⟨b, o, none⟩) n cap], .int .i64 x, .int .i64 y, .int .i64 z] wr fun e w' =>
      e = .returned (.agg #[.float .f32 (E x y z 0), .float .f32 (E x y z 1), .float .f32 (E x y z 2)]) ∧ Kept None' wr w') :
    Calls Try.prog 41 #[.agg #[.int .i64 S, .float .f32 lo, .float .f32 hi, .slice (some ⟨b, o, none⟩) n cap], .agg #[.float .f32 (p 0), .float .f32 (p 1), .float .f32 (p 2), .float .f32 (p 3)]] w (PxIs (liP E S lo hi p) w) := by
  obtain ⟨f, hf⟩ : ∃ f : Nat → Int, ∀ c, axI S lo hi (p c) = f c := ⟨_, fun _ => rfl⟩
  obtain ⟨x, hx⟩ : ∃ x : Nat → Nat, ∀ c, axS S lo hi (p c) = x c := ⟨_, fun _ => rfl⟩
  have hfb : ∀ c, 0 ≤ f c ∧ f c ≤ S - 2 := fun c => by rw [← hf]; exact ax_bd s1 s2 lo hi (p c)
  have hP := fun c w => onaxis_any S lo hi (some ⟨b, o, none⟩) n cap (p c) w s1 s2
  simp only [hf, hx] at hP
  have hbk : (nan .f32 (p 0) || (nan .f32 (p 1) || nan .f32 (p 2))) = false := hp
  have hT : ∀ c, liP E S lo hi p c = if c = 3 then cl .f32 (p 3) else liV E f x c := fun c => by
    unfold liP
    rw [hp]
    simp only [Bool.false_eq_true, if_false, hf, hx]
  have HT := Lib.hid hT
  have HBK := Lib.hid hbk
  have HP := Lib.hid hP
  have HE := Lib.hid hE
  have HFB := Lib.hid hfb
  clear hT hP hE hfb hf hx hp hbk
  go_enter Try.func41, Try.ntmps41
  go_upto_region 4 with (first
    | (go_at_call 85; refine (thenan_any _).mono ?_; rintro e w' ⟨rfl, rfl⟩)
    | (go_at_call 89; refine (broken_any _ _ _ _ _).mono ?_; rw [HBK.out]; rintro e w1 ⟨rfl, hk⟩))
  have kw := ((((Kept.refl None' w).alloc _ _).alloc _ _).alloc _ _).trans hk
  have hB : CubB w.heap.size S lo hi b o n cap w1 := ⟨hk.some (by go_simp) id, hk.some (by go_simp) id, hk.some (by go_simp) id, hk.some (by go_simp) id⟩
  have hpx : ∀ c, c < 4 → w1.cell? ⟨w.heap.size + 1, c, none⟩ = some (.float .f32 (p c)) := fun c hc => by
    obtain rfl | rfl | rfl | rfl : c = 0 ∨ c = 1 ∨ c = 2 ∨ c = 3 := by omega
    all_goals exact hk.some (by go_simp) id
  have hr : ∀ c, c < 4 → w1.cell? ⟨w.heap.size + 1 + 1, c, none⟩ = some (.float .f32 0) := fun c hc => by
    obtain rfl | rfl | rfl | rfl : c = 0 ∨ c = 1 ∨ c = 2 ∨ c = 3 := by omega
    all_goals exact hk.some (by go_simp) id
  have zz : ∀ a : Addr, w.heap.size ≤ a.block → w1.frozen? a = false := fun a ha => (hk.frozen _).trans ((frozen?_alloc_cells _ _ _ _).trans ((frozen?_alloc_cells _ _ _ _).trans ((frozen?_alloc_cells _ _ _ _).trans (frozen_new _ _ ha))))
  have hsz : w.heap.size + 3 ≤ w1.heap.size := by
    have := hk.size
    simpa using this
  generalize hB4 : w.heap.size + 1 + 1 = B4 at *
  generalize hB3 : w.heap.size + 1 = B3 at *
  generalize hB2 : w.heap.size = B2 at *
  have HN := Lib.hid (And.intro hB4 (And.intro hB3 (And.intro hB2 hsz)))
  have KW := Lib.hid kw
  have HB := Lib.hid hB
  have HX := Lib.hid (And.intro hpx hr)
  have Z1 := Lib.hid zz
  clear hk kw hB hpx hr zz hsz hB4 hB3 hB2
  obtain ⟨t0, t1, t2, t3⟩ := HB.out
  have p0 := HX.out.1 0 (by omega)
  go_upto_region 5 with (first
    | (go_at_call 38; refine (HP.out 0 _).mono ?_; rintro e w2 ⟨rfl, hk2⟩))
  refine of_world (fun Wa hW => ?_)
  have ka : Kept None' w1 Wa := hk2.trans (by rw [hW]; exact ((Kept.refl _ _).alloc _ _).alloc _ _)
  have ai : Wa.cell? ⟨w2.heap.size, 0, none⟩ = some (.int .i64 (f 0)) := by rw [hW]; go_simp
  have ax : Wa.cell? ⟨w2.heap.size + 1, 0, none⟩ = some (.float .f32 (x 0)) := by rw [hW]; go_simp
  generalize hI : w2.heap.size = I at *
  generalize hX0 : I + 1 = X at *
  have KA := Lib.hid (And.intro ka (And.intro ai ax))
  clear hW hk2 ka ai ax t0 t1 t2 t3 p0 hI hX0
  obtain ⟨t0, t1, t2, t3⟩ := HB.out.step KA.out.1 id
  have p1 := KA.out.1.some (HX.out.1 1 (by omega)) id
  go_upto_region 6 with (first
    | (go_at_call 38; refine (HP.out 1 _).mono ?_; rintro e w3 ⟨rfl, hk3⟩))
  refine of_world (fun Wb hW => ?_)
  have kb : Kept None' Wa Wb := hk3.trans (by rw [hW]; exact (Kept.refl _ _).alloc _ _)
  have bj : Wb.cell? ⟨w3.heap.size, 0, none⟩ = some (.int .i64 (f 1)) := by rw [hW]; go_simp
  generalize hJ : w3.heap.size = J at *
  have KB := Lib.hid (And.intro (KA.out.1.trans kb) (And.intro kb bj))
  clear hW hk3 kb bj t0 t1 t2 t3 p1 hJ
  obtain ⟨t0, t1, t2, t3⟩ := HB.out.step KB.out.1 id
  have p2 := KB.out.1.some (HX.out.1 2 (by omega)) id
  go_upto_region 7 with (first
    | (go_at_call 38; refine (HP.out 2 _).mono ?_; rintro e w4 ⟨rfl, hk4⟩))
  refine of_world (fun W1 hW => ?_)
  have kc : Kept None' Wb W1 := hk4.trans (by rw [hW]; exact (Kept.refl _ _).alloc _ _)
  have ck : W1.cell? ⟨w4.heap.size, 0, none⟩ = some (.int .i64 (f 2)) := by rw [hW]; go_simp
  generalize hK : w4.heap.size = K at *
  have k1 := KB.out.1.trans kc
  have cj := kc.some KB.out.2.2 id
  have ci := kc.some (KB.out.2.1.some KA.out.2.1 id) id
  have cx := kc.some (KB.out.2.1.some KA.out.2.2 id) id
  have c3 := k1.some (HX.out.1 3 (by omega)) id
  have hB := HB.out.step k1 id
  have hr : ∀ c, c < 4 → W1.cell? ⟨B4, c, none⟩ = some (.float .f32 0) := fun c hc => k1.some (HX.out.2 c hc) id
  have zz : ∀ a : Addr, B2 ≤ a.block → W1.frozen? a = false := fun a ha => (k1.frozen a).trans (Z1.out a ha)
  have KW1 := Lib.hid (KW.out.trans k1)
  clear hW hk4 kc t0 t1 t2 t3 p2 hK k1 KW HB HX Z1
  have lz : B4 < W1.heap.size := cell_lt (hr 0 (by omega))
  go_upto_region 8 with (first | (go_at_call 31; refine (fix_any _ _).mono ?_; rintro e w' ⟨rfl, rfl⟩))
  refine of_world (fun W5 hW => ?_)
  have k5 : Kept None' W1 W5 := by rw [hW]; exact (Kept.refl _ _).alloc _ _
  have hPx : PxS W5 W1.heap.size (liP E S lo hi p) 0 W5 := ⟨Kept.refl _ _, fun c hc => by
    rw [hW]
    refine (cell_alloc_one W1 _ _ c).trans ?_
    obtain rfl | rfl | rfl | rfl : c = 0 ∨ c = 1 ∨ c = 2 ∨ c = 3 := by omega
    · rfl
    · rfl
    · rfl
    · rw [if_pos (Or.inr rfl), HT.out, if_pos rfl]; rfl⟩
  have z17 : ∀ a : Addr, B2 ≤ a.block → W5.frozen? a = false := fun a ha => (k5.frozen a).trans (zz a ha)
  have n1 : I < W1.heap.size := cell_lt ci
  have n2 : J < W1.heap.size := cell_lt cj
  have n3 : K < W1.heap.size := cell_lt ck
  have n4 : X < W1.heap.size := cell_lt cx
  have n5 : B2 < W1.heap.size := cell_lt hB.c0
  have HPx := Lib.hid hPx
  have HB := Lib.hid (hB.step k5 id)
  have Z := Lib.hid z17
  have H4 := Lib.hid (fun c (hc : c < 4) => k5.some (hr c hc) id)
  have HI := Lib.hid (And.intro (k5.some ci id) (And.intro (k5.some cj id) (And.intro (k5.some ck id) (k5.some cx id))))
  have KW5 := Lib.hid (KW1.out.trans k5)
  generalize hB8 : W1.heap.size = B8 at *
  have HL := Lib.hid (And.intro (show B4 < B8 from lz) (And.intro n1 (And.intro n2 (And.intro n3 (And.intro n4 n5)))))
  clear hW k5 hPx z17 hB8 hB c3 hr zz ci cj ck cx n1 n2 n3 n4 n5 lz
  clear KA KB KW1
  go_wp2_with fail
  go_loopw [50] (fun s50 wr => ∃ n : Nat, n ≤ 3 ∧ s50 = .int .i64 (n : Int) ∧ PxS W5 B8 (liP E S lo hi p) n wr) (fun s50 _ => (3 - intOf s50).toNat)
  case atStart => exact ⟨0, by omega, rfl, HPx.out⟩
  case round =>
    obtain ⟨m, hm, rfl, hQ⟩ := hrel
    have HQ := Lib.hid hQ
    have n48 : ¬ B4 = B8 := by have := HL.out; omega
    by_cases hlt : m < 3
    · have d1 : decide ((m : Int) < 3) = true := decide_eq_true (by omega)
      have e0 : 0 ≤ (m : Int) := by omega
      have e1 : (m : Int) < 4 := by omega
      clear hQ
      go_upto_region 12 with (fail)
      refine of_world (fun W6 hW => ?_)
      have k6 : Kept None' wr W6 := by rw [hW]; exact (Kept.refl _ _).alloc _ _
      have hn9 : W6.cell? ⟨wr.heap.size, 0, none⟩ = some (.int .i64 (m : Int)) := by rw [hW]; go_simp
      have hQ6 := HQ.out.step k6
      have hB6 := (HB.out.step HQ.out.kept (by have := HL.out; omega)).step k6 id
      have gi := k6.some (HQ.out.kept.some HI.out.1 (by have := HL.out; show ¬ I = B8; omega)) id
      have gj := k6.some (HQ.out.kept.some HI.out.2.1 (by have := HL.out; show ¬ J = B8; omega)) id
      have gk := k6.some (HQ.out.kept.some HI.out.2.2.1 (by have := HL.out; show ¬ K = B8; omega)) id
      have gx := k6.some (HQ.out.kept.some HI.out.2.2.2 (by have := HL.out; show ¬ X = B8; omega)) id
      have kW := (kept_over' KW5.out HQ.out.kept (fun i hi => by have := HN.out; have := HL.out; omega)).trans k6
      have hL1 : ∀ (dj dk : Int) (w' : World), Kept None' W6 w' → 0 ≤ dj → dj ≤ 1 → 0 ≤ dk → dk ≤ 1 → Calls Try.prog 90 #[.int .i64 dj, .int .i64 dk, .pointer (some ⟨B2, 0, none⟩), .pointer (some ⟨I, 0, none⟩), .pointer (some ⟨J, 0, none⟩), .pointer (some ⟨K, 0, none⟩), .pointer (some ⟨wr.heap.size, 0, none⟩), .pointer (some ⟨X, 0, none⟩)] w' fun e w'' => e = .returned (.float .f32 (liR E f x m dj dk)) ∧ Kept None' w' w'' :=
        fun dj dk w' hk j0 j1 k0 k1 => linearof1_any S lo hi b o n cap B2 I J K wr.heap.size X m E f x dj dk w' s1 s2 HFB.out hlt j0 j1 k0 k1 (hB6.step hk id) (hk.some gi id) (hk.some gj id) (hk.some gk id) (hk.some hn9 id) (hk.some gx id) (fun a b c wr' hk' => HE.out a b c wr' ((kW.trans hk).trans hk'))
      have hg00 := fun w' hk => hL1 0 0 w' hk (by omega) (by omega) (by omega) (by omega)
      have hg10 := fun w' hk => hL1 1 0 w' hk (by omega) (by omega) (by omega) (by omega)
      have hg01 := fun w' hk => hL1 0 1 w' hk (by omega) (by omega) (by omega) (by omega)
      have hg11 := fun w' hk => hL1 1 1 w' hk (by omega) (by omega) (by omega) (by omega)
      have hTE := HT.out m
      rw [if_neg (by omega)] at hTE
      unfold liV liG at hTE
      generalize liR E f x m 0 0 = g00 at *
      generalize liR E f x m 1 0 = g10 at *
      generalize liR E f x m 0 1 = g01 at *
      generalize liR E f x m 1 1 = g11 at *
      have A0 := ext_cell hn9
      have hcall := Try.call90
      have G00 := Lib.hid hg00
      have G10 := Lib.hid hg10
      have G01 := Lib.hid hg01
      have G11 := Lib.hid hg11
      have HTE := Lib.hid hTE
      have HQ6 := Lib.hid hQ6
      clear hW k6 hn9 hQ6 hB6 gi gj gk gx kW hL1 hg00 hg10 hg01 hg11 hTE
      generalize wr.heap.size = N9 at *
      refine region_with_tail 16 (by kernel_rfl) (by kernel_rfl) ?_
      simp only [List.take_succ_cons, List.take_zero, List.drop_succ_cons, List.drop_zero]
      repeat (first
        | (refine wpWith_det ?_; go_big_quiet_want; go_big_quiet_op; go_big_quiet_on; refine wpQuiet_nil ?_)
        | (refine wpWith_det ?_; go_big_quiet_skip; refine wpQuiet_nil ?_)
        | fail)
      refine wpWith_det ?_
      go_big_quiet_want
      go_big_quiet_op
      go_big_quiet_call ((exact calls_ext (G00.out _ (ext_kept _ _))))
      refine wpQuiet_nil ?_
      repeat (first
        | (refine wpWith_det ?_; go_big_quiet_want; go_big_quiet_op; go_big_quiet_on; refine wpQuiet_nil ?_)
        | (refine wpWith_det ?_; go_big_quiet_skip; refine wpQuiet_nil ?_)
        | fail)
      refine wpWith_det ?_
      go_big_quiet_want
      go_big_quiet_op
      go_big_quiet_call ((exact calls_ext (G10.out _ (ext_kept _ _))))
      refine wpQuiet_nil ?_
      repeat (first
        | (refine wpWith_det ?_; go_big_quiet_want; go_big_quiet_op; go_big_quiet_on; refine wpQuiet_nil ?_)
        | (refine wpWith_det ?_; go_big_quiet_skip; refine wpQuiet_nil ?_)
        | fail)
      refine wpWith_det ?_
      go_big_quiet_want
      go_big_quiet_op
      go_big_quiet_call ((go_at_call 63; exact calls_ext_drew (lerpof_any _ _ _ _)))
      refine wpQuiet_nil ?_
      repeat (first
        | (refine wpWith_det ?_; go_big_quiet_want; go_big_quiet_op; go_big_quiet_on; refine wpQuiet_nil ?_)
        | (refine wpWith_det ?_; go_big_quiet_skip; refine wpQuiet_nil ?_)
        | fail)
      refine wpWith_det ?_
      go_big_quiet_want
      go_big_quiet_op
      go_big_quiet_call ((exact calls_ext (G01.out _ (ext_kept _ _))))
      refine wpQuiet_nil ?_
      repeat (first
        | (refine wpWith_det ?_; go_big_quiet_want; go_big_quiet_op; go_big_quiet_on; refine wpQuiet_nil ?_)
        | (refine wpWith_det ?_; go_big_quiet_skip; refine wpQuiet_nil ?_)
        | fail)
      refine wpWith_det ?_
      go_big_quiet_want
      go_big_quiet_op
      go_big_quiet_call ((exact calls_ext (G11.out _ (ext_kept _ _))))
      refine wpQuiet_nil ?_
      repeat (first
        | (refine wpWith_det ?_; go_big_quiet_want; go_big_quiet_op; go_big_quiet_on; refine wpQuiet_nil ?_)
        | (refine wpWith_det ?_; go_big_quiet_skip; refine wpQuiet_nil ?_)
        | fail)
      refine wpWith_det ?_
      go_big_quiet_want
      go_big_quiet_op
      go_big_quiet_call ((go_at_call 63; exact calls_ext_drew (lerpof_any _ _ _ _)))
      refine wpQuiet_nil ?_
      repeat (first
        | (refine wpWith_det ?_; go_big_quiet_want; go_big_quiet_op; go_big_quiet_on; refine wpQuiet_nil ?_)
        | (refine wpWith_det ?_; go_big_quiet_skip; refine wpQuiet_nil ?_)
        | fail)
      refine wpWith_det ?_
      go_big_quiet_want
      go_big_quiet_op
      go_big_quiet_call ((go_at_call 63; exact calls_ext_drew (lerpof_any _ _ _ _)))
      refine wpQuiet_nil ?_
      repeat (first
        | (refine wpWith_det ?_; go_big_quiet_want; go_big_quiet_op; go_big_quiet_on; refine wpQuiet_nil ?_)
        | (refine wpWith_det ?_; go_big_quiet_skip; refine wpQuiet_nil ?_)
        | fail)
      refine wpWith_nil ?_
      rintro _ ⟨xq, rfl⟩
      have hQ7 := HQ6.out.step (ext_kept W6 xq)
      have cq := hQ7.cells m (by omega)
      have zq := (hQ7.kept.frozen ⟨B8, m, none⟩).trans (Z.out _ (by have := HL.out; show B2 ≤ B8; omega))
      have HQ7 := Lib.hid hQ7
      clear A0 hcall hQ7
      generalize ext _ xq = W7 at *
      go_wp2_with fail
      go_roundw
      case rel => exact ⟨m + 1, by omega, by go_num, HQ7.out.set hlt HTE.out.symm⟩
      case measure => simp [intOf]; omega
    · obtain rfl : m = 3 := by omega
      have d1 : decide (((3 : Nat) : Int) < 3) = false := by decide
      have c0 := hQ.cells 0 (by omega)
      have c1 := hQ.cells 1 (by omega)
      have c2 := hQ.cells 2 (by omega)
      have c3 := hQ.cells 3 (by omega)
      rw [if_pos (by omega)] at c0 c1 c2 c3
      have r0 := hQ.kept.some (H4.out 0 (by omega)) n48
      have r1 := hQ.kept.some (H4.out 1 (by omega)) n48
      have r2 := hQ.kept.some (H4.out 2 (by omega)) n48
      have r3 := hQ.kept.some (H4.out 3 (by omega)) n48
      have zz : ∀ c, wr.frozen? ⟨B4, c, none⟩ = false := fun c => (hQ.kept.frozen _).trans (Z.out _ (by have := HN.out; show B2 ≤ B4; omega))
      have z0 := zz 0
      have z1 := zz 1
      have z2 := zz 2
      have z3 := zz 3
      have KE := Lib.hid (kept_over' KW5.out hQ.kept (fun i hi => by have := HL.out; have := HN.out; omega))
      clear hQ n48 zz
      go_wp2_with fail
      have cs := cells_set4 (v0 := .float .f32 (liP E S lo hi p 0)) (v1 := .float .f32 (liP E S lo hi p 1)) (v2 := .float .f32 (liP E S lo hi p 2)) (v3 := .float .f32 (liP E S lo hi p 3)) r0 r1 r2 r3
      refine bodyPost_ret (px_ret Try.results41 _ _ B4 _ _ _ _ cs.1 cs.2.1 cs.2.2.1 cs.2.2.2 rfl) rfl ?_
      exact ⟨rfl, kept_set4' KE.out (by have := HN.out; omega)⟩

theorem linearof_any (S : Int) (lo hi b o n cap : Nat) (E : Int → Int → Int → Nat → Nat) (p : Nat → Nat) (w : World) (s1 : 2 ≤ S) (s2 : S ≤ 17)
    (hE : ∀ (x y z : Int) (wr : World), Kept None' w wr → 0 ≤ x → x < S → 0 ≤ y → y < S → 0 ≤ z → z < S → Calls Try.prog 20 #[.agg #[.int .i64 S, .float .f32 lo, .float .f32 hi, .slice (some ⟨b, o, none⟩) n cap], .int .i64 x, .int .i64 y, .int .i64 z] wr fun e w' =>
      e = .returned (.agg #[.float .f32 (E x y z 0), .float .f32 (E x y z 1), .float .f32 (E x y z 2)]) ∧ Kept None' wr w') :
    Calls Try.prog 41 #[.agg #[.int .i64 S, .float .f32 lo, .float .f32 hi, .slice (some ⟨b, o, none⟩) n cap], .agg #[.float .f32 (p 0), .float .f32 (p 1), .float .f32 (p 2), .float .f32 (p 3)]] w (PxIs (liP E S lo hi p) w) := by
  cases hp : brk p with
  | true => exact linearof_bad S lo hi b o n cap E p w hp
  | false => exact linearof_ok S lo hi b o n cap E p w s1 s2 hp hE
end Go.Proofs.Ytkmganophcklgaa
