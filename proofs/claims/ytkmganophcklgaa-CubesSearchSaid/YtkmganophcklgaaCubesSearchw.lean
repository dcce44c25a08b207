/- The walk of CubesSearch. Conditions: none. -/
import Derived.Test.YtkmganophcklgaaNf
import Derived.Test.YtkmganophcklgaaCubesMatchw
import Derived.Laws.StructEq
namespace Go.Proofs.Ytkmganophcklgaa
open Go.RowKit
open Fl Fr
open BigFrame

set_option linter.unusedSimpArgs false in
set_option linter.unusedVariables false in
set_option maxHeartbeats 4000000 in
set_option maxRecDepth 100000 in
theorem i3_eq (x y z : Int) (w : World) : (Op.equal 69 (.agg #[.int .i64 x, .int .i64 y, .int .i64 z]) (.agg #[.int .i64 x, .int .i64 y, .int .i64 z])).run Try.prog w = .ok true w := by
  show (Op.equalIn (9998 + 1 + 1) 69 (.agg #[.int .i64 x, .int .i64 y, .int .i64 z]) (.agg #[.int .i64 x, .int .i64 y, .int .i64 z])).run Try.prog w = .ok true w
  have h3 : ∀ w, (isAgg 3).run Try.prog w = .ok false w := fun w => by kernel_rfl
  have h4 : List.range' 0 3 = [0, 1, 2] := rfl
  rw [Op.equalIn]
  simp [go_sem, h3, h4, Sem.run_bind]
theorem i3_neq (x y z : Int) (w : World) : (binOp .neq 69 (.agg #[.int .i64 x, .int .i64 y, .int .i64 z]) (.agg #[.int .i64 x, .int .i64 y, .int .i64 z])).run Try.prog w = .ok (.bool false) w := by
  simp [binOp, go_sem, i3_eq]
/-- The boxes of a cube and of three singles. -/
structure C3B (T P : Nat) (S : Int) (lo hi : Nat) (A : Option Addr) (n cap : Nat) (p : Nat → Nat) (w : World) : Prop where
  c0 : w.cell? ⟨T, 0, none⟩ = some (.int .i64 S)
  c1 : w.cell? ⟨T, 1, none⟩ = some (.float .f32 lo)
  c2 : w.cell? ⟨T, 2, none⟩ = some (.float .f32 hi)
  c3 : w.cell? ⟨T, 3, none⟩ = some (.slice A n cap)
  p0 : w.cell? ⟨P, 0, none⟩ = some (.float .f32 (p 0))
  p1 : w.cell? ⟨P, 1, none⟩ = some (.float .f32 (p 1))
  p2 : w.cell? ⟨P, 2, none⟩ = some (.float .f32 (p 2))
theorem C3B.step {T P : Nat} {S : Int} {lo hi : Nat} {A : Option Addr} {n cap : Nat} {p : Nat → Nat} {w w' : World} (h : C3B T P S lo hi A n cap p w) (k : Kept None' w w') : C3B T P S lo hi A n cap p w' :=
  ⟨k.some h.c0 id, k.some h.c1 id, k.some h.c2 id, k.some h.c3 id, k.some h.p0 id, k.some h.p1 id, k.some h.p2 id⟩

set_option linter.unusedSimpArgs false in
set_option linter.unusedVariables false in
set_option maxHeartbeats 2000000 in
set_option maxRecDepth 100000 in
theorem se_err (S : Int) (lo hi : Nat) (A : Option Addr) (n cap : Nat) (p : Nat → Nat) (steps : Int) (w : World) (E : Int) (hn : n ≤ 9223372036854775807) (hE : cuE S lo hi n = E) (h0 : ¬ E = 0) :
    Calls Try.prog 6 #[.agg #[.int .i64 S, .float .f32 lo, .float .f32 hi, .slice A n cap], .agg #[.float .f32 (p 0), .float .f32 (p 1), .float .f32 (p 2)], .int .i64 steps] w fun e w' => e = .returned (.bool true) ∧ Kept None' w w' := by
  have hb : (E != 0) = true := by simp [h0]
  have hb3 : (E == E) = true := by simp
  have HNe := Lib.hid (fun w' => Nearest_err S lo hi A n cap p w' E hn hE h0)
  have HBa := Lib.hid (fun w' => Back_err S lo hi A n cap p steps w' E hn hE h0)
  have HE := Lib.hid hE
  clear hE
  go_enter Try.func6, Try.ntmps6
  go_upto_region 2 with (first | (go_at_call 42; refine (HNe.out _).mono ?_; rintro e w1 ⟨rfl, hk⟩))
  have kw := (((Kept.refl None' w).alloc _ _).alloc _ _).trans hk
  have hB : C3B w.heap.size (w.heap.size + 1) S lo hi A n cap p w1 := ⟨hk.some (by go_simp) id, hk.some (by go_simp) id, hk.some (by go_simp) id, hk.some (by go_simp) id, hk.some (by go_simp) id, hk.some (by go_simp) id, hk.some (by go_simp) id⟩
  generalize w.heap.size = T at *
  have HB := Lib.hid hB
  have KW := Lib.hid kw
  obtain ⟨t0, t1, t2, t3, p0, p1, p2⟩ := hB
  clear hk kw
  go_upto_region 3 with (first | (go_at_call 43; refine (HBa.out _).mono ?_; rintro e w2 ⟨rfl, hk2⟩))
  refine of_world (fun Wa hW => ?_)
  have ka : Kept None' w1 Wa := hk2.trans (by rw [hW]; exact (Kept.refl _ _).alloc _ _)
  have x0 : Wa.cell? ⟨w2.heap.size, 0, none⟩ = some (.float .f32 0) := by rw [hW]; go_simp
  have x1 : Wa.cell? ⟨w2.heap.size, 1, none⟩ = some (.float .f32 0) := by rw [hW]; go_simp
  have x2 : Wa.cell? ⟨w2.heap.size, 2, none⟩ = some (.float .f32 0) := by rw [hW]; go_simp
  generalize w2.heap.size = X at *
  have KA := Lib.hid ka
  have HX := Lib.hid (And.intro x0 (And.intro x1 x2))
  clear hW hk2 ka x0 x1 x2 t0 t1 t2 t3 p0 p1 p2
  obtain ⟨t0, t1, t2, t3, p0, p1, p2⟩ := HB.out.step KA.out
  have e1 := ar3_eql
  go_upto_region 5 with (first
    | (go_at_call 13; refine (cubeerror_any _ _ _ _ _ _ _ hn).mono ?_; rw [HE.out]; rintro e w3 ⟨rfl, hk3⟩; have H3 := Lib.hid hk3; clear hk3)
    | (go_at_call 16; refine (cubes_any _).mono ?_; rintro e w4 ⟨rfl, hk⟩; have H4 := Lib.hid (H3.out.trans hk); clear hk))
  go_wp2_with (first
    | (go_at_call 16; refine (cubes_any _).mono ?_; rintro e w5 ⟨rfl, hk⟩; have kk := H4.out.trans hk; have x0 := kk.some HX.out.1 id; have x1 := kk.some HX.out.2.1 id; have x2 := kk.some HX.out.2.2 id; have H5 := Lib.hid kk; clear hk kk))
  go_ret
  exact ⟨rfl, (KW.out.trans KA.out).trans H5.out⟩

set_option linter.unusedSimpArgs false in
set_option linter.unusedVariables false in
set_option maxHeartbeats 4000000 in
set_option maxRecDepth 100000 in
theorem se_gen (S : Nat) (lo hi b o n cap : Nat) (p : Nat → Nat) (steps : Int) (f : Nat → Int) (eN E2 bn bi bs : Int) (isb nb : Bool) (v : Nat → Nat) (w : World) (hnb : (isN (p 0) && (isN (p 1) && isN (p 2))) = nb) (hE : cuE S lo hi n = 0)
    (hNe : ∀ w', Kept None' w w' → Calls Try.prog 42 #[.agg #[.int .i64 (S : Int), .float .f32 lo, .float .f32 hi, .slice (some ⟨b, o, none⟩) n cap], .agg #[.float .f32 (p 0), .float .f32 (p 1), .float .f32 (p 2)]] w' fun e w'' => e = .returned (.tuple #[.int .i64 (f 0), .int .i64 (f 1), .int .i64 (f 2), .int .i64 eN]) ∧ Kept None' w' w'')
    (hBa : ∀ w', Kept None' w w' → Calls Try.prog 43 #[.agg #[.int .i64 (S : Int), .float .f32 lo, .float .f32 hi, .slice (some ⟨b, o, none⟩) n cap], .agg #[.float .f32 (p 0), .float .f32 (p 1), .float .f32 (p 2)], .int .i64 steps] w' (ThE (v 0) (v 1) (v 2) E2 w'))
    (hNo : ∀ w', Kept None' w w' → Calls Try.prog 44 #[.agg #[.int .i64 (S : Int), .float .f32 lo, .float .f32 hi, .slice (some ⟨b, o, none⟩) n cap], .agg #[.float .f32 (p 0), .float .f32 (p 1), .float .f32 (p 2)]] w' fun e w'' => e = .returned (.tuple #[.agg #[.int .i64 (f 0), .int .i64 (f 1), .int .i64 (f 2)], .bool isb]) ∧ Kept None' w' w'')
    (hT0 : isb = false → (f 0 = 0 ∧ f 1 = 0 ∧ f 2 = 0) ∧ eN = 11) (hT1 : isb = true → eN = 0)
    (hbn : (if (!nb) = true then (2 : Int) else 0) = bn) (hbi : (if (!inB steps 0 64) = true then (3 : Int) else 0) = bi) (hbs : (if (!isb) = true then (11 : Int) else 0) = bs) (hW : (if bn ≠ 0 then bn else if bi ≠ 0 then bi else bs) = E2)
    (hV : ¬ E2 = 0 → v 0 = 0 ∧ v 1 = 0 ∧ v 2 = 0)
    (hBo : E2 = 0 → ∀ w', Kept None' w w' → Calls Try.prog 45 #[.agg #[.int .i64 (S : Int), .float .f32 lo, .float .f32 hi, .slice (some ⟨b, o, none⟩) n cap], .agg #[.float .f32 (p 0), .float .f32 (p 1), .float .f32 (p 2)], .int .i64 steps] w' fun e w'' => e = .returned (.tuple #[.agg #[.float .f32 (v 0), .float .f32 (v 1), .float .f32 (v 2)], .bool true]) ∧ Kept None' w' w'') :
    Calls Try.prog 6 #[.agg #[.int .i64 (S : Int), .float .f32 lo, .float .f32 hi, .slice (some ⟨b, o, none⟩) n cap], .agg #[.float .f32 (p 0), .float .f32 (p 1), .float .f32 (p 2)], .int .i64 steps] w fun e w' => e = .returned (.bool true) ∧ Kept None' w w' := by
  obtain ⟨s', hs', s1', s2', -, -, hn4⟩ := cuE_nat hE
  have hn : n ≤ 9223372036854775807 := by omega
  have HNe := Lib.hid hNe
  have HBa := Lib.hid hBa
  have HNo := Lib.hid hNo
  have HBo := Lib.hid hBo
  have HE := Lib.hid hE
  have HT := Lib.hid (And.intro hT0 hT1)
  have HW := Lib.hid hW
  have HV := Lib.hid hV
  have HNB := Lib.hid hnb
  have HBN := Lib.hid hbn
  have HBI := Lib.hid hbi
  have HBS := Lib.hid hbs
  clear hbn hbi hbs hnb hNe hBa hNo hBo hE hT0 hT1 hW hV hs' s1' s2' hn4
  go_enter Try.func6, Try.ntmps6
  go_upto_region 2 with (first | (go_at_call 42; refine (HNe.out _ (((Kept.refl None' w).alloc _ _).alloc _ _)).mono ?_; rintro e w1 ⟨rfl, hk⟩))
  have kw := (((Kept.refl None' w).alloc _ _).alloc _ _).trans hk
  have hB : C3B w.heap.size (w.heap.size + 1) (S : Int) lo hi (some ⟨b, o, none⟩) n cap p w1 := ⟨hk.some (by go_simp) id, hk.some (by go_simp) id, hk.some (by go_simp) id, hk.some (by go_simp) id, hk.some (by go_simp) id, hk.some (by go_simp) id, hk.some (by go_simp) id⟩
  generalize w.heap.size = T at *
  have HB := Lib.hid hB
  have KW := Lib.hid kw
  obtain ⟨t0, t1, t2, t3, p0, p1, p2⟩ := hB
  clear hk kw
  go_upto_region 3 with (first | (go_at_call 43; refine (HBa.out _ KW.out).mono ?_; rintro e w2 ⟨rfl, hk2⟩))
  refine of_world (fun Wa hW => ?_)
  have ka : Kept None' w1 Wa := hk2.trans (by rw [hW]; exact (Kept.refl _ _).alloc _ _)
  have x0 : Wa.cell? ⟨w2.heap.size, 0, none⟩ = some (.float .f32 (v 0)) := by rw [hW]; go_simp
  have x1 : Wa.cell? ⟨w2.heap.size, 1, none⟩ = some (.float .f32 (v 1)) := by rw [hW]; go_simp
  have x2 : Wa.cell? ⟨w2.heap.size, 2, none⟩ = some (.float .f32 (v 2)) := by rw [hW]; go_simp
  generalize w2.heap.size = X at *
  have KA := Lib.hid ka
  have HX := Lib.hid (And.intro x0 (And.intro x1 x2))
  clear hW hk2 ka x0 x1 x2 t0 t1 t2 t3 p0 p1 p2
  obtain ⟨t0, t1, t2, t3, p0, p1, p2⟩ := HB.out.step KA.out
  go_upto_region 6 with (first
    | (go_at_call 13; refine (cubeerror_any _ _ _ _ _ _ _ hn).mono ?_; rw [HE.out]; rintro e w3 ⟨rfl, hk3⟩; have H3 := Lib.hid hk3; clear hk3)
    | (go_at_call 16; refine (cubes_any _).mono ?_; rintro e w4 ⟨rfl, hk⟩; have H4 := Lib.hid (H3.out.trans hk); clear hk))
  have HB4 := Lib.hid (HB.out.step (KA.out.trans H4.out))
  have K4 := Lib.hid (KW.out.trans (KA.out.trans H4.out))
  have HX4 := Lib.hid (And.intro (H4.out.some HX.out.1 id) (And.intro (H4.out.some HX.out.2.1 id) (H4.out.some HX.out.2.2 id)))
  clear t0 t1 t2 t3 p0 p1 p2 HB H3 KA HX
  obtain ⟨t0, t1, t2, t3, p0, p1, p2⟩ := HB4.out
  go_upto_region 7 with (go_at_call 44; refine (HNo.out _ K4.out).mono ?_; rintro e w5 ⟨rfl, hk5⟩)
  refine of_world (fun W6 hW => ?_)
  have k6 : Kept None' w4 W6 := hk5.trans (by rw [hW]; exact (Kept.refl _ _).alloc _ _)
  have y0 : W6.cell? ⟨w5.heap.size, 0, none⟩ = some (.int .i64 (f 0)) := by rw [hW]; go_simp
  have y1 : W6.cell? ⟨w5.heap.size, 1, none⟩ = some (.int .i64 (f 1)) := by rw [hW]; go_simp
  have y2 : W6.cell? ⟨w5.heap.size, 2, none⟩ = some (.int .i64 (f 2)) := by rw [hW]; go_simp
  generalize w5.heap.size = Y at *
  have HB6 := Lib.hid (HB4.out.step k6)
  have K6 := Lib.hid (K4.out.trans k6)
  have HX6 := Lib.hid (And.intro (k6.some HX4.out.1 id) (And.intro (k6.some HX4.out.2.1 id) (k6.some HX4.out.2.2 id)))
  clear hW hk5 k6 t0 t1 t2 t3 p0 p1 p2 HB4 K4 HX4
  have q3 := i3_neq (f 0) (f 1) (f 2)
  cases isb with
  | false =>
    have hT := HT.out.1 rfl
    have b0 : (f 0 != 0) = false := by simp [hT.1.1]
    have b1 : (f 1 != 0) = false := by simp [hT.1.2.1]
    have b2 : (f 2 != 0) = false := by simp [hT.1.2.2]
    have b3 : (eN != 11) = false := by simp [hT.2]
    obtain rfl : bs = 11 := HBS.out.symm
    clear hT
    clear y0 y1 y2 q3
    obtain ⟨t0, t1, t2, t3, p0, p1, p2⟩ := HB6.out
    go_upto_region 9 with fail
    go_cut [16] (fun s16 wx => s16 = .bool nb ∧ Kept None' W6 wx)
    case first =>
      cases hn0 : isN (p 0) <;> cases hn1 : isN (p 1) <;> cases hn2 : isN (p 2)
      all_goals
        have hnb := HNB.out
        rw [hn0, hn1, hn2] at hnb
        go_wp2_with (go_at_call 27; refine (isnumof_any _ _).mono ?_; (first | rw [hn0] | rw [hn1] | rw [hn2]); rintro e w' ⟨rfl, m, rfl⟩)
        go_meet
        refine ⟨by rw [← hnb]; rfl, ?_⟩
        repeat (first | exact Kept.refl _ _ | refine Kept.drew ?_ _)
    case rest =>
      obtain ⟨rfl, hk⟩ := hcut
      have HB7 := Lib.hid (HB6.out.step hk)
      have K7 := Lib.hid (K6.out.trans hk)
      have HX7 := Lib.hid (And.intro (hk.some HX6.out.1 id) (And.intro (hk.some HX6.out.2.1 id) (hk.some HX6.out.2.2 id)))
      clear t0 t1 t2 t3 p0 p1 p2 HB6 K6 HX6 hk
      go_upto_region 11 with (first
        | (go_at_call 15; refine (in_one _ _ _ _).mono ?_; rintro e w' ⟨rfl, rfl⟩)
        | (go_at_call 14; refine (when_any _ _ _).mono ?_; (first | rw [HBN.out] | rw [HBI.out] | skip); rintro e w' ⟨rfl, rfl⟩)
        | (go_at_call 12; refine (first3_any _ _ bn bi 11 _ (by go_simp) (by go_simp) (by go_simp)).mono ?_; rw [HW.out]; rintro e w' ⟨rfl, rfl⟩))
      refine of_world (fun W8 hW => ?_)
      have k8 : Kept None' wc W8 := by rw [hW]; exact (Kept.refl _ _).alloc _ _
      have HB8 := Lib.hid (HB7.out.step k8)
      have K8 := Lib.hid (K7.out.trans k8)
      obtain ⟨x0, x1, x2⟩ := HX7.out
      replace x0 := k8.some x0 id
      replace x1 := k8.some x1 id
      replace x2 := k8.some x2 id
      clear hW k8 HB7 K7 HX7
      obtain ⟨t0, t1, t2, t3, p0, p1, p2⟩ := HB8.out
      by_cases h2 : E2 = 0
      · have hBo := HBo.out h2
        have HBo2 := Lib.hid hBo
        have g2 : (E2 != 0) = false := by simp [h2]
        have g3 : (E2 == 0) = true := by simp [h2]
        have HXX := Lib.hid (And.intro x0 (And.intro x1 x2))
        clear hBo h2 x0 x1 x2
        go_wp2_with (first
          | (go_at_call 45; refine (HBo2.out _ K8.out).mono ?_; rintro e w9 ⟨rfl, hk⟩; have x0 := hk.some HXX.out.1 id; have x1 := hk.some HXX.out.2.1 id; have x2 := hk.some HXX.out.2.2 id; have u0 := fun c t => ((Kept.refl None' w9).alloc c t).some x0 id; have u1 := fun c t => ((Kept.refl None' w9).alloc c t).some x1 id; have u2 := fun c t => ((Kept.refl None' w9).alloc c t).some x2 id; have K9 := Lib.hid (K8.out.trans hk); clear hk)
          | (go_at_call 32; refine (samethree_same _ _ _ _).mono ?_; rintro e w10 ⟨rfl, hk⟩; have K10 := Lib.hid ((K9.out.alloc _ _).trans hk); clear hk))
        go_ret
        exact ⟨rfl, K10.out⟩
      · obtain ⟨v0, v1, v2⟩ := HV.out h2
        rw [v0] at x0
        rw [v1] at x1
        rw [v2] at x2
        have g2 : (E2 != 0) = true := by simp [h2]
        have g3 : (E2 == E2) = true := by simp
        have e1 := ar3_eql
        clear v0 v1 v2
        go_wp2_with fail
        go_ret
        exact ⟨rfl, K8.out⟩
  | true =>
    have hT := HT.out.2 rfl
    have b3 : (eN != 0) = false := by simp [hT]
    obtain rfl : bs = 0 := HBS.out.symm
    clear hT
    obtain ⟨t0, t1, t2, t3, p0, p1, p2⟩ := HB6.out
    go_upto_region 9 with fail
    clear y0 y1 y2 q3
    go_cut [16] (fun s16 wx => s16 = .bool nb ∧ Kept None' W6 wx)
    case first =>
      cases hn0 : isN (p 0) <;> cases hn1 : isN (p 1) <;> cases hn2 : isN (p 2)
      all_goals
        have hnb := HNB.out
        rw [hn0, hn1, hn2] at hnb
        go_wp2_with (go_at_call 27; refine (isnumof_any _ _).mono ?_; (first | rw [hn0] | rw [hn1] | rw [hn2]); rintro e w' ⟨rfl, m, rfl⟩)
        go_meet
        refine ⟨by rw [← hnb]; rfl, ?_⟩
        repeat (first | exact Kept.refl _ _ | refine Kept.drew ?_ _)
    case rest =>
      obtain ⟨rfl, hk⟩ := hcut
      have HB7 := Lib.hid (HB6.out.step hk)
      have K7 := Lib.hid (K6.out.trans hk)
      have HX7 := Lib.hid (And.intro (hk.some HX6.out.1 id) (And.intro (hk.some HX6.out.2.1 id) (hk.some HX6.out.2.2 id)))
      clear t0 t1 t2 t3 p0 p1 p2 HB6 K6 HX6 hk
      go_upto_region 11 with (first
        | (go_at_call 15; refine (in_one _ _ _ _).mono ?_; rintro e w' ⟨rfl, rfl⟩)
        | (go_at_call 14; refine (when_any _ _ _).mono ?_; (first | rw [HBN.out] | rw [HBI.out] | skip); rintro e w' ⟨rfl, rfl⟩)
        | (go_at_call 12; refine (first3_any _ _ bn bi 0 _ (by go_simp) (by go_simp) (by go_simp)).mono ?_; rw [HW.out]; rintro e w' ⟨rfl, rfl⟩))
      refine of_world (fun W8 hW => ?_)
      have k8 : Kept None' wc W8 := by rw [hW]; exact (Kept.refl _ _).alloc _ _
      have HB8 := Lib.hid (HB7.out.step k8)
      have K8 := Lib.hid (K7.out.trans k8)
      obtain ⟨x0, x1, x2⟩ := HX7.out
      replace x0 := k8.some x0 id
      replace x1 := k8.some x1 id
      replace x2 := k8.some x2 id
      clear hW k8 HB7 K7 HX7
      obtain ⟨t0, t1, t2, t3, p0, p1, p2⟩ := HB8.out
      by_cases h2 : E2 = 0
      · have hBo := HBo.out h2
        have HBo2 := Lib.hid hBo
        have g2 : (E2 != 0) = false := by simp [h2]
        have g3 : (E2 == 0) = true := by simp [h2]
        have HXX := Lib.hid (And.intro x0 (And.intro x1 x2))
        clear hBo h2 x0 x1 x2
        go_wp2_with (first
          | (go_at_call 45; refine (HBo2.out _ K8.out).mono ?_; rintro e w9 ⟨rfl, hk⟩; have x0 := hk.some HXX.out.1 id; have x1 := hk.some HXX.out.2.1 id; have x2 := hk.some HXX.out.2.2 id; have u0 := fun c t => ((Kept.refl None' w9).alloc c t).some x0 id; have u1 := fun c t => ((Kept.refl None' w9).alloc c t).some x1 id; have u2 := fun c t => ((Kept.refl None' w9).alloc c t).some x2 id; have K9 := Lib.hid (K8.out.trans hk); clear hk)
          | (go_at_call 32; refine (samethree_same _ _ _ _).mono ?_; rintro e w10 ⟨rfl, hk⟩; have K10 := Lib.hid ((K9.out.alloc _ _).trans hk); clear hk))
        go_ret
        exact ⟨rfl, K10.out⟩
      · obtain ⟨v0, v1, v2⟩ := HV.out h2
        rw [v0] at x0
        rw [v1] at x1
        rw [v2] at x2
        have g2 : (E2 != 0) = true := by simp [h2]
        have g3 : (E2 == E2) = true := by simp
        have e1 := ar3_eql
        clear v0 v1 v2
        go_wp2_with fail
        go_ret
        exact ⟨rfl, K8.out⟩

theorem walk_cubesSearch (S : Int) (lo hi : Nat) (A : Option Addr) (n cap : Nat) (z : Nat → Nat) (p0 p1 p2 : Nat) (steps : Int) (w : World) (_ : (Lit.int .i64 S).wf = true) (hcap : n ≤ cap) (hcap2 : cap ≤ maxLen) (hr : Rd w A n (fun i => .float .f32 (z i))) (_ : ∀ i, (Lit.float .f32 (z i)).wf = true) (_ : (Lit.int .i64 steps).wf = true) :
    Calls Try.prog 6 #[.agg #[.int .i64 S, .float .f32 lo, .float .f32 hi, .slice A n cap], .agg #[.float .f32 p0, .float .f32 p1, .float .f32 p2], .int .i64 steps] w fun e w' => e = .returned (.bool true) ∧ Kept None' w w' := by
  have hn : n ≤ 9223372036854775807 := by unfold maxLen at hcap2; omega
  obtain ⟨p, e0, e1, e2⟩ : ∃ p : Nat → Nat, p 0 = p0 ∧ p 1 = p1 ∧ p 2 = p2 := ⟨fun c => if c = 0 then p0 else if c = 1 then p1 else p2, rfl, rfl, rfl⟩
  subst e0 e1 e2
  by_cases hE : cuE S lo hi n = 0
  · obtain ⟨s, rfl, s1, s2, hn', hn3, -⟩ := cuE_nat hE
    obtain ⟨b, o, rfl, hc⟩ := hr (by rw [hn3]; exact Nat.mul_pos (by omega) (Nat.mul_pos (by omega) (Nat.mul_pos (by omega) (by omega))))
    obtain ⟨q, hq⟩ : ∃ q, nrB z p (s * (s * s)) = q := ⟨_, rfl⟩
    have hNe : ∀ w', Kept None' w w' → Calls Try.prog 42 #[.agg #[.int .i64 (s : Int), .float .f32 lo, .float .f32 hi, .slice (some ⟨b, o, none⟩) n cap], .agg #[.float .f32 (p 0), .float .f32 (p 1), .float .f32 (p 2)]] w' fun e w'' => e = .returned (.tuple #[.int .i64 (nrR s q.1 0), .int .i64 (nrR s q.1 1), .int .i64 (nrR s q.1 2), .int .i64 (nrE q.1)]) ∧ Kept None' w' w'' := fun w' hk =>
      (Nearest_ok s lo hi b o n cap z p w' hE (fun q hq => hk.some (hc q hq) id) hcap).mono fun e w'' ⟨h1, h2⟩ => ⟨by rw [h1, hq], h2⟩
    have hNo : ∀ w', Kept None' w w' → Calls Try.prog 44 #[.agg #[.int .i64 (s : Int), .float .f32 lo, .float .f32 hi, .slice (some ⟨b, o, none⟩) n cap], .agg #[.float .f32 (p 0), .float .f32 (p 1), .float .f32 (p 2)]] w' fun e w'' => e = .returned (.tuple #[.agg #[.int .i64 (nrR s q.1 0), .int .i64 (nrR s q.1 1), .int .i64 (nrR s q.1 2)], .bool (decide (0 ≤ q.1))]) ∧ Kept None' w' w'' := fun w' hk =>
      nearestof_any s lo hi b o n cap z p q w' hq hE (fun q hq => hk.some (hc q hq) id) hcap
    have hT0 : decide (0 ≤ q.1) = false → (nrR s q.1 0 = 0 ∧ nrR s q.1 1 = 0 ∧ nrR s q.1 2 = 0) ∧ nrE q.1 = 11 := fun h => by
      have h := of_decide_eq_false h
      have g : ∀ c, nrR s q.1 c = 0 := fun c => if_pos (by omega)
      exact ⟨⟨g 0, g 1, g 2⟩, if_pos (by omega)⟩
    have hT1 : decide (0 ≤ q.1) = true → nrE q.1 = 0 := fun h => by
      have h := of_decide_eq_true h
      exact if_neg (by omega)
    have hlen : s * (s * s) = s * (s * s) := rfl
    by_cases hB : bkE p steps = 0
    · obtain ⟨hN, hS1, hS2⟩ := bkE_ok hB
      have hI : inB steps 0 64 = true := inB_iff.2 ⟨hS1, hS2⟩
      have hN' : (isN (p 0) && (isN (p 1) && isN (p 2))) = true := by rw [← Bool.and_assoc]; exact hN
      obtain ⟨t, rfl⟩ : ∃ t : Nat, steps = t := ⟨steps.toNat, by omega⟩
      by_cases q0 : 0 ≤ q.1
      · refine se_gen s lo hi b o n cap p t (nrR s q.1) (nrE q.1) 0 _ _ _ (decide (0 ≤ q.1)) _ (fun c => cl .f32 (bkX (entE z s) s lo hi p (nrR s q.1) t c)) w hN' hE hNe (fun w' hk => ?_) hNo hT0 hT1 rfl rfl rfl ?_ (fun h => absurd rfl h) (fun _ w' hk => ?_)
        · exact Back_ok s lo hi b o n cap z p t q w' hq q0 hE hB (fun q hq => hk.some (hc q hq) id) hcap
        · rw [hI, decide_eq_true q0]; rfl
        · exact BackOf_ok s lo hi b o n cap z p t q w' hq q0 hE (fun q hq => hk.some (hc q hq) id) hcap (by omega)
      · refine se_gen s lo hi b o n cap p t (nrR s q.1) (nrE q.1) 11 _ _ _ (decide (0 ≤ q.1)) _ (fun _ => 0) w hN' hE hNe (fun w' hk => ?_) hNo hT0 hT1 rfl rfl rfl ?_ (fun _ => ⟨rfl, rfl, rfl⟩) (fun h => absurd h (by decide))
        · exact Back_none s lo hi b o n cap z p t q w' hq (by omega) hE hB (fun q hq => hk.some (hc q hq) id) hcap
        · rw [hI, decide_eq_false q0]; rfl
    · have hBa := fun w' => Back_e2 s lo hi (some ⟨b, o, none⟩) n cap p steps w' _ hn hE rfl hB
      refine se_gen s lo hi b o n cap p steps (nrR s q.1) (nrE q.1) (bkE p steps) _ _ _ (decide (0 ≤ q.1)) _ (fun _ => 0) w rfl hE hNe (fun w' _ => hBa w') hNo hT0 hT1 rfl rfl rfl ?_ (fun _ => ⟨rfl, rfl, rfl⟩) (fun h => absurd h hB)
      unfold bkE at hB ⊢
      rw [← Bool.and_assoc]
      cases hN : (isN (p 0) && isN (p 1) && isN (p 2)) with
      | false => rfl
      | true =>
        cases hI : inB steps 0 64 with
        | false => rfl
        | true => rw [hN, hI] at hB; exact absurd rfl hB
  · exact se_err S lo hi A n cap p steps w _ hn rfl hE
end Go.Proofs.Ytkmganophcklgaa
