/- Contracts of slices.Equal over tasks, and of farm.Split. Conditions: none. -/
import Derived.Test.YtflmfjimemhooaaWj
namespace Go.Proofs.Ytflmfjimemhooaa
set_option linter.unusedVariables false
set_option linter.unusedSimpArgs false
open Go.RowKit
open Fl
open BigFrame

/-- Tasks: a tile under a number. -/
def mkT (n : Int) (e : Nat → Int) : Nat → Int := fun c => if c = 0 then n else e (c - 1)
def tkAll (T : List (Nat → Int)) (f : Int) : Nat → List (Nat → Int)
  | 0 => []
  | d + 1 => tkAll T f d ++ T.map (mkT (f + (d : Int)))
theorem tkAll_len (T : List (Nat → Int)) (f : Int) : ∀ d, (tkAll T f d).length = d * T.length
  | 0 => by simp [tkAll]
  | d + 1 => by unfold tkAll; rw [List.length_append, List.length_map, tkAll_len T f d, Nat.add_mul]; omega
theorem map_take_snoc {T : List (Nat → Int)} {i : Nat} {e : Nat → Int} (h : T[i]? = some e) (n : Int) : (T.take (i + 1)).map (mkT n) = (T.take i).map (mkT n) ++ [mkT n e] := by
  have hi : i < T.length := (List.getElem?_eq_some_iff.1 h).1
  rw [List.take_succ_eq_append_getElem hi, List.map_append]
  have : T[i] = e := by rw [List.getElem?_eq_getElem hi] at h; injection h
  rw [this]
  rfl
theorem task_info : (Try.prog.info? 62).map (fun i => (i.zero, i.size, i.bytes)) = some (some (.agg #[.int .i64 0, .int .i64 0, .int .i64 0, .int .i64 0, .int .i64 0]), 5, 40) := by kernel_rfl
/-- A slice that reads as this list of structs of four, or of five. -/
def Rd4 (w : World) (A : Option Addr) (T : List (Nat → Int)) : Prop := 0 < T.length → ∃ B, A = some ⟨B, 0, none⟩ ∧ ∀ j u, (flat4 T)[j]? = some u → w.cell? ⟨B, j, none⟩ = some u
def Rd5 (w : World) (A : Option Addr) (T : List (Nat → Int)) : Prop := 0 < T.length → ∃ B, A = some ⟨B, 0, none⟩ ∧ ∀ j u, (flat5 T)[j]? = some u → w.cell? ⟨B, j, none⟩ = some u
theorem Rd4.kept {w w' : World} {A : Option Addr} {T : List (Nat → Int)} (h : Rd4 w A T) (k : Kept None' w w') : Rd4 w' A T := fun hn => by
  obtain ⟨B, e, hc⟩ := h hn
  exact ⟨B, e, fun j u hj => k.some (hc j u hj) id⟩
theorem Rd5.kept {w w' : World} {A : Option Addr} {T : List (Nat → Int)} (h : Rd5 w A T) (k : Kept None' w w') : Rd5 w' A T := fun hn => by
  obtain ⟨B, e, hc⟩ := h hn
  exact ⟨B, e, fun j u hj => k.some (hc j u hj) id⟩
theorem row5_mk (n : Int) (e : Nat → Int) : row5 (mkT n e) = [.int .i64 n, .int .i64 (e 0), .int .i64 (e 1), .int .i64 (e 2), .int .i64 (e 3)] := rfl

set_option linter.unusedSimpArgs false in
set_option linter.unusedVariables false in
set_option maxHeartbeats 2000000 in
set_option maxRecDepth 100000 in
theorem equal_tasks (A1 A2 : Option Addr) (c1 c2 : Nat) (T : List (Nat → Int)) (w : World) (hn : T.length ≤ 9223372036854775807) (h1 : Rd5 w A1 T) (h2 : Rd5 w A2 T) :
    Calls Try.prog 25 #[.slice A1 T.length c1, .slice A2 T.length c2] w fun e w' => e = .returned (.bool true) ∧ Kept None' w w' := by
  have H1 := Lib.hid h1
  have H2 := Lib.hid h2
  obtain ⟨n, hN⟩ : ∃ n, T.length = n := ⟨_, rfl⟩
  have HN := Lib.hid hN
  rw [hN] at hn ⊢
  clear h1 h2 hN
  go_enter Try.func25, Try.ntmps25
  go_wp2_with fail
  go_loopw [13] (fun s wr => ∃ k : Nat, k ≤ n ∧ s = .int .i64 (k : Int) ∧ Kept None' w wr) (fun s _ => (n - intOf s).toNat)
  case atStart => exact ⟨0, Nat.zero_le _, rfl, Kept.refl _ _⟩
  case round =>
    obtain ⟨k, hk, rfl, hkp⟩ := hrel
    have K := Lib.hid hkp
    clear hkp
    by_cases hlt : k < n
    · have d1 : decide ((k : Int) < (n : Int)) = true := decide_eq_true (by omega)
      have hlen := HN.out
      obtain ⟨b1, rfl, hc1⟩ := (H1.out.kept K.out) (by omega)
      obtain ⟨b2, rfl, hc2⟩ := (H2.out.kept K.out) (by omega)
      obtain ⟨e, he⟩ : ∃ e, T[k]? = some e := ⟨T[k]'(by omega), List.getElem?_eq_getElem (by omega)⟩
      have a0 := hc1 _ _ (flat5_at T k e 0 he (by omega))
      have a1 := hc1 _ _ (flat5_at T k e 1 he (by omega))
      have a2 := hc1 _ _ (flat5_at T k e 2 he (by omega))
      have a3 := hc1 _ _ (flat5_at T k e 3 he (by omega))
      have a4 := hc1 _ _ (flat5_at T k e 4 he (by omega))
      have f0 := hc2 _ _ (flat5_at T k e 0 he (by omega))
      have f1 := hc2 _ _ (flat5_at T k e 1 he (by omega))
      have f2 := hc2 _ _ (flat5_at T k e 2 he (by omega))
      have f3 := hc2 _ _ (flat5_at T k e 3 he (by omega))
      have f4 := hc2 _ _ (flat5_at T k e 4 he (by omega))
      have hq := task_neq (e 0) (e 1) (e 2) (e 3) (e 4)
      simp only [Nat.add_zero] at a0 f0
      clear hc1 hc2 he hlen
      generalize e 0 = v0 at *
      generalize e 1 = v1 at *
      generalize e 2 = v2 at *
      generalize e 3 = v3 at *
      generalize e 4 = v4 at *
      go_upto_region 6 with fail
      have A0 := ext_cell a0
      have A1 := ext_cell a1
      have A2 := ext_cell a2
      have A3 := ext_cell a3
      have A4 := ext_cell a4
      have B0 := ext_cell f0
      have B1 := ext_cell f1
      have B2 := ext_cell f2
      have B3 := ext_cell f3
      have B4 := ext_cell f4
      clear a0 a1 a2 a3 a4 f0 f1 f2 f3 f4
      refine region_ext (by kernel_rfl) (by kernel_rfl) ?_
      repeat (first
        | go_big_quiet_skip
        | (go_big_quiet_want; go_big_quiet_op; first | go_big_quiet_on | go_big_quiet_call (first
          | (fail))))
      refine wpQuiet_nil ?_
      rintro _ ⟨xq, rfl⟩
      have K2 := Lib.hid (K.out.trans (ext_kept wr xq))
      clear A0 A1 A2 A3 A4 B0 B1 B2 B3 B4 hq
      generalize ext wr xq = W2 at *
      go_wp2_with fail
      go_roundw
      case rel => exact ⟨k + 1, by omega, by go_num, K2.out⟩
      case measure => simp [intOf]; omega
    · obtain rfl : k = n := by omega
      have d1 : decide ((k : Int) < (k : Int)) = false := by simp
      go_wp2_with fail
      go_ret
      exact ⟨rfl, K.out⟩

def SpP (w : World) (K : List (Nat → Int)) (e : Ending) (w' : World) : Prop := ∃ v, e = .returned (.tuple #[v, .int .i64 0]) ∧ LT w 62 5 v K.length (flat5 K) w'
def spB (s : Int) : Int := if (!inB s 1 256) = true then 3 else 0
def spR (f l : Int) : Int := if (!inB f 0 16777216 || !inB l 0 16777216) = true then 3 else 0
def spO (f l : Int) : Int := if decide (l < f) = true then 8 else 0
/-- The error ahead of the number of tasks. -/
def spW (x y W H s f l : Int) : Int := if regE x y W H ≠ 0 then regE x y W H else if spB s ≠ 0 then spB s else if spR f l ≠ 0 then spR f l else spO f l
set_option linter.unusedSimpArgs false in
set_option linter.unusedVariables false in
set_option maxHeartbeats 4000000 in
set_option maxRecDepth 100000 in
theorem split_err (x y W H s f l : Int) (w : World) (E : Int) (hE : spW x y W H s f l = E) (h0 : ¬ E = 0) :
    Calls Try.prog 22 #[.agg #[.int .i64 x, .int .i64 y, .int .i64 W, .int .i64 H], .int .i64 s, .int .i64 f, .int .i64 l] w fun e w' => e = .returned (.tuple #[.slice none 0 0, .int .i64 E]) ∧ Kept None' w w' := by
  unfold spW at hE
  by_cases h1 : regE x y W H = 0
  · rw [if_neg (by simp [h1])] at hE
    cases hs : inB s 1 256 with
    | false =>
      have hb : spB s = 3 := by unfold spB; rw [hs]; rfl
      rw [hb, if_pos (by decide)] at hE
      subst hE
      have HT := Lib.hid (fun w => tiles_err2 x y W H s w h1 hs)
      clear h1 hs hb h0
      go_enter Try.func22, Try.ntmps22
      go_wp2_with (go_at_call 24; refine (HT.out _).mono ?_; rintro e w1 ⟨rfl, hk⟩)
      go_ret2
      exact ⟨rfl, ((Kept.refl _ _).alloc _ _).trans hk⟩
    | true =>
      have hb : spB s = 0 := by unfold spB; rw [hs]; rfl
      rw [hb, if_neg (by simp)] at hE
      have hs2 : 1 ≤ s ∧ s ≤ 256 := by unfold inB at hs; simp at hs; omega
      have HT := Lib.hid (fun w => tiles_ok x y W H s w h1 hs2.1 hs2.2)
      generalize tiles x y W H s = T at *
      clear h1 hs hb hs2
      cases hr : (!inB f 0 16777216 || !inB l 0 16777216) with
      | true =>
        have hR : spR f l = 3 := by unfold spR; rw [hr]; rfl
        rw [hR, if_pos (by decide)] at hE
        subst hE
        have h2 : f < 0 ∨ 16777216 < f ∨ l < 0 ∨ 16777216 < l := by unfold inB at hr; simp at hr; omega
        clear hR hr h0
        by_cases a1 : f < 0
        · have g1 : decide (f < 0) = true := decide_eq_true a1
          go_enter Try.func22, Try.ntmps22
          go_wp2_with (go_at_call 24; refine (HT.out _).mono ?_; rintro e w1 ⟨v, rfl, hL⟩; obtain ⟨TA, tc, rfl, t1, t2, -⟩ := hL.slice; have K1 := Lib.hid hL.1; clear hL t1 t2)
          go_ret2
          exact ⟨rfl, ((Kept.refl _ _).alloc _ _).trans K1.out⟩
        · have g1 : decide (f < 0) = false := decide_eq_false a1
          by_cases a2 : 16777216 < f
          · have g2 : decide (16777216 < f) = true := decide_eq_true a2
            go_enter Try.func22, Try.ntmps22
            go_wp2_with (go_at_call 24; refine (HT.out _).mono ?_; rintro e w1 ⟨v, rfl, hL⟩; obtain ⟨TA, tc, rfl, t1, t2, -⟩ := hL.slice; have K1 := Lib.hid hL.1; clear hL t1 t2)
            go_ret2
            exact ⟨rfl, ((Kept.refl _ _).alloc _ _).trans K1.out⟩
          · have g2 : decide (16777216 < f) = false := decide_eq_false a2
            by_cases a3 : l < 0
            · have g3 : decide (l < 0) = true := decide_eq_true a3
              go_enter Try.func22, Try.ntmps22
              go_wp2_with (go_at_call 24; refine (HT.out _).mono ?_; rintro e w1 ⟨v, rfl, hL⟩; obtain ⟨TA, tc, rfl, t1, t2, -⟩ := hL.slice; have K1 := Lib.hid hL.1; clear hL t1 t2)
              go_ret2
              exact ⟨rfl, ((Kept.refl _ _).alloc _ _).trans K1.out⟩
            · have g3 : decide (l < 0) = false := decide_eq_false a3
              have g4 : decide (16777216 < l) = true := decide_eq_true (by omega)
              go_enter Try.func22, Try.ntmps22
              go_wp2_with (go_at_call 24; refine (HT.out _).mono ?_; rintro e w1 ⟨v, rfl, hL⟩; obtain ⟨TA, tc, rfl, t1, t2, -⟩ := hL.slice; have K1 := Lib.hid hL.1; clear hL t1 t2)
              go_ret2
              exact ⟨rfl, ((Kept.refl _ _).alloc _ _).trans K1.out⟩
      | false =>
        have hR : spR f l = 0 := by unfold spR; rw [hr]; rfl
        rw [hR, if_neg (by simp)] at hE
        have h2 : 0 ≤ f ∧ f ≤ 16777216 ∧ 0 ≤ l ∧ l ≤ 16777216 := by unfold inB at hr; simp at hr; omega
        unfold spO at hE
        by_cases a5 : l < f
        · rw [if_pos (by simpa using a5)] at hE
          subst hE
          obtain ⟨f0, f1, l0, l1⟩ := h2
          have g1 : decide (f < 0) = false := decide_eq_false (by omega)
          have g2 : decide (16777216 < f) = false := decide_eq_false (by omega)
          have g3 : decide (l < 0) = false := decide_eq_false (by omega)
          have g4 : decide (16777216 < l) = false := decide_eq_false (by omega)
          have g5 : decide (l < f) = true := decide_eq_true a5
          clear hR hr h0
          go_enter Try.func22, Try.ntmps22
          go_wp2_with (go_at_call 24; refine (HT.out _).mono ?_; rintro e w1 ⟨v, rfl, hL⟩; obtain ⟨TA, tc, rfl, t1, t2, -⟩ := hL.slice; have K1 := Lib.hid hL.1; clear hL t1 t2)
          go_ret2
          exact ⟨rfl, ((Kept.refl _ _).alloc _ _).trans K1.out⟩
        · rw [if_neg (by simpa using a5)] at hE
          exact absurd hE.symm h0
  · rw [if_pos h1] at hE
    subst hE
    have HT := Lib.hid (fun w => tiles_err1 x y W H s w _ rfl h1)
    have g0 : (regE x y W H != 0) = true := by simp [h1]
    clear h0 h1
    generalize regE x y W H = E at *
    go_enter Try.func22, Try.ntmps22
    go_wp2_with (go_at_call 24; refine (HT.out _).mono ?_; rintro e w1 ⟨rfl, hk⟩)
    go_ret2
    exact ⟨rfl, ((Kept.refl _ _).alloc _ _).trans hk⟩
set_option linter.unusedSimpArgs false in
set_option linter.unusedVariables false in
set_option maxHeartbeats 4000000 in
set_option maxRecDepth 100000 in
theorem split_large (x y W H s f l : Int) (w : World) (hE : regE x y W H = 0) (s0 : 1 ≤ s) (s1 : s ≤ 256) (f0 : 0 ≤ f) (f1 : f ≤ 16777216) (l0 : 0 ≤ l) (l1 : l ≤ 16777216) (hfl : f ≤ l) (hbig : 2000 < ((tiles x y W H s).length : Int) * (l - f + 1)) :
    Calls Try.prog 22 #[.agg #[.int .i64 x, .int .i64 y, .int .i64 W, .int .i64 H], .int .i64 s, .int .i64 f, .int .i64 l] w fun e w' => e = .returned (.tuple #[.slice none 0 0, .int .i64 4]) ∧ Kept None' w w' := by
  have HRE := Lib.hid hE
  obtain ⟨T, hT⟩ : ∃ T, tiles x y W H s = T := ⟨_, rfl⟩
  have HT := Lib.hid hT
  obtain ⟨p0, p1, q0, q1, -⟩ := regE_ok hE
  have hml := tiles_len (x := x) (y := y) p0 p1 q0 q1 s0 s1
  rw [hT] at hml
  clear p0 p1 q0 q1 hE hT
  obtain ⟨m, hm⟩ : ∃ m, T.length = m := ⟨_, rfl⟩
  rw [hm] at hml
  have HM := Lib.hid hm
  clear hm
  obtain ⟨D, hD⟩ : ∃ D : Nat, (D : Int) = l - f + 1 := ⟨(l - f + 1).toNat, by omega⟩
  obtain ⟨P, hP⟩ : ∃ P : Nat, D * m = P := ⟨_, rfl⟩
  have hPi : (m : Int) * (l - f + 1) = (P : Int) := by rw [← hD, ← hP, Int.natCast_mul, Int.mul_comm]
  have hPb : P ≤ 16777217 * 1048576 := by rw [← hP]; exact Nat.mul_le_mul (by omega) hml
  have hPw : wrap64 (P : Int) = (P : Int) := by unfold wrap64; omega
  have HPP := Lib.hid hP
  have HDD := Lib.hid hD
  rw [HT.out, HM.out, hPi] at hbig
  clear hP hD
  have d1 : decide (2000 < P) = true := decide_eq_true (by omega)
  have g1 : decide (f < 0) = false := decide_eq_false (by omega)
  have g2 : decide (16777216 < f) = false := decide_eq_false (by omega)
  have g3 : decide (l < 0) = false := decide_eq_false (by omega)
  have g4 : decide (16777216 < l) = false := decide_eq_false (by omega)
  have g5 : decide (l < f) = false := decide_eq_false (by omega)
  go_enter Try.func22, Try.ntmps22
  go_wp2_with (go_at_call 24; refine (tiles_ok x y W H s _ HRE.out s0 s1).mono ?_; rw [HT.out]; rintro e w1 ⟨v, rfl, hL⟩; obtain ⟨TA, tc, rfl, t1, t2, hTc⟩ := hL.slice; have HTl := Lib.hid (show Rd4 w1 TA T from hTc); have KT := Lib.hid hL.1; rw [HM.out]; clear hL hTc t1 t2)
  go_ret2
  exact ⟨rfl, ((Kept.refl _ _).alloc _ _).trans KT.out⟩
set_option linter.unusedSimpArgs false in
set_option linter.unusedVariables false in
set_option maxHeartbeats 4000000 in
set_option maxRecDepth 100000 in
theorem split_ok (x y W H s f l : Int) (w : World) (hE : regE x y W H = 0) (s0 : 1 ≤ s) (s1 : s ≤ 256) (f0 : 0 ≤ f) (f1 : f ≤ 16777216) (l0 : 0 ≤ l) (l1 : l ≤ 16777216) (hfl : f ≤ l) (D : Nat) (hD : (D : Int) = l - f + 1) (hbig : ¬ 2000 < ((tiles x y W H s).length : Int) * (l - f + 1)) :
    Calls Try.prog 22 #[.agg #[.int .i64 x, .int .i64 y, .int .i64 W, .int .i64 H], .int .i64 s, .int .i64 f, .int .i64 l] w (SpP w (tkAll (tiles x y W H s) f D)) := by
  have HRE := Lib.hid hE
  obtain ⟨T, hT⟩ : ∃ T, tiles x y W H s = T := ⟨_, rfl⟩
  have HT := Lib.hid hT
  obtain ⟨p0, p1, q0, q1, -⟩ := regE_ok hE
  have hml := tiles_len (x := x) (y := y) p0 p1 q0 q1 s0 s1
  rw [hT] at hml
  clear p0 p1 q0 q1 hE hT
  obtain ⟨m, hm⟩ : ∃ m, T.length = m := ⟨_, rfl⟩
  rw [hm] at hml
  have HM := Lib.hid hm
  clear hm
  obtain ⟨P, hP⟩ : ∃ P : Nat, D * m = P := ⟨_, rfl⟩
  have hPi : (m : Int) * (l - f + 1) = (P : Int) := by rw [← hD, ← hP, Int.natCast_mul, Int.mul_comm]
  have hPb : P ≤ 16777217 * 1048576 := by rw [← hP]; exact Nat.mul_le_mul (by omega) hml
  have hPw : wrap64 (P : Int) = (P : Int) := by unfold wrap64; omega
  have HPP := Lib.hid hP
  have HDD := Lib.hid hD
  rw [HT.out, HM.out, hPi] at hbig
  clear hP hD
  rw [HT.out]
  have d1 : decide (2000 < P) = false := decide_eq_false (by omega)
  have HP := Lib.hid (show D * m ≤ 2000 by have := HPP.out; omega)
  have g1 : decide (f < 0) = false := decide_eq_false (by omega)
  have g2 : decide (16777216 < f) = false := decide_eq_false (by omega)
  have g3 : decide (l < 0) = false := decide_eq_false (by omega)
  have g4 : decide (16777216 < l) = false := decide_eq_false (by omega)
  have g5 : decide (l < f) = false := decide_eq_false (by omega)
  obtain ⟨i0, hi0, hz0, hz1, hz2⟩ := info_parts' task_info
  have HI := Lib.hid (And.intro hi0 (And.intro hz0 (And.intro hz1 hz2)))
  clear hi0 hz0 hz1 hz2
  go_enter Try.func22, Try.ntmps22
  go_upto_region 2 with (go_at_call 24; refine (tiles_ok x y W H s _ HRE.out s0 s1).mono ?_; rw [HT.out]; rintro e w1 ⟨v, rfl, hL⟩; obtain ⟨TA, tc, rfl, t1, t2, hTc⟩ := hL.slice; have HTl := Lib.hid (show Rd4 w1 TA T from hTc); have KT := Lib.hid hL.1; rw [HM.out]; clear hL hTc t1 t2)
  have KL := Lib.hid (Kept.refl None' w1)
  go_wp2_with fail
  clear d1 hPi hPb hPw g1 g2 g3 g4 g5 hbig
  go_loopw [12, 13] (fun so sn wr => ∃ (d : Nat) (n : Int) (v : Value), d ≤ D ∧ n = f + (d : Int) ∧ sn = .int .i64 n ∧ v = so ∧ LT w1 62 5 v (tkAll T f d).length (flat5 (tkAll T f d)) wr) (fun _ sn _ => (l + 1 - intOf sn).toNat)
  case atStart => exact ⟨0, f, _, Nat.zero_le _, by simp, rfl, rfl, LT.nil w1 _ _ KL.out⟩
  case round =>
    obtain ⟨d, n, v, hd, hn, rfl, rfl, hS⟩ := hrel
    have HS := Lib.hid hS
    clear hS
    have HNF := Lib.hid hn
    have nb0 : 0 ≤ n := by omega
    have nb1 : n ≤ 16777217 := by have := HDD.out; omega
    have hnD : n ≤ l ↔ d < D := by have := HDD.out; omega
    have HND := Lib.hid hnD
    clear hn hnD
    by_cases hlt : n ≤ l
    · have e1 : decide (n ≤ l) = true := decide_eq_true hlt
      have hdD : d + 1 ≤ D := HND.out.1 hlt
      have HSU := Lib.hid (show tkAll T f (d + 1) = tkAll T f d ++ T.map (mkT n) by rw [HNF.out]; rfl)
      have hmul : (d + 1) * m ≤ D * m := Nat.mul_le_mul_right _ hdD
      have hlen : (tkAll T f d).length + m ≤ 2000 := by rw [tkAll_len, HM.out]; rw [Nat.add_mul] at hmul; have := HP.out; omega
      have HLen := Lib.hid hlen
      clear hmul hlen
      generalize tkAll T f d = K0 at *
      go_wp2_with fail
      go_loopw [12, 62] (fun so si wq => ∃ (i : Nat) (v : Value), i ≤ m ∧ si = .int .i64 (i : Int) ∧ v = so ∧ LT w1 62 5 v (K0 ++ (T.take i).map (mkT n)).length (flat5 (K0 ++ (T.take i).map (mkT n))) wq) (fun _ si _ => (m - intOf si).toNat)
      case atStart => exact ⟨0, _, Nat.zero_le _, rfl, rfl, by have := HS.out; simpa using this⟩
      case round =>
        obtain ⟨i, v2, hi, rfl, rfl, hS⟩ := hrel
        have HS2 := Lib.hid hS
        clear hS
        by_cases hlt2 : i < m
        · have e2 : decide ((i : Int) < (m : Int)) = true := decide_eq_true (by omega)
          have hml := HM.out
          obtain ⟨B, hB, hcB⟩ := (HTl.out.kept HS2.out.1) (by omega)
          obtain ⟨e, he⟩ : ∃ e, T[i]? = some e := ⟨T[i]'(by omega), List.getElem?_eq_getElem (by omega)⟩
          subst hB
          have a0 := hcB _ _ (flat4_at T i e 0 he (by omega))
          have a1 := hcB _ _ (flat4_at T i e 1 he (by omega))
          have a2 := hcB _ _ (flat4_at T i e 2 he (by omega))
          have a3 := hcB _ _ (flat4_at T i e 3 he (by omega))
          simp only [Nat.add_zero] at a0
          have HRW := Lib.hid (show K0 ++ (T.take (i + 1)).map (mkT n) = (K0 ++ (T.take i).map (mkT n)) ++ [mkT n e] by rw [map_take_snoc he, List.append_assoc])
          have HRM := Lib.hid (row5_mk n e)
          have hkl : (K0 ++ (T.take i).map (mkT n)).length ≤ 2000 := by rw [List.length_append, List.length_map, List.length_take]; have := HLen.out; omega
          have HKL := Lib.hid hkl
          clear hcB he hml hkl
          generalize K0 ++ (T.take i).map (mkT n) = K at *
          generalize mkT n e = me at *
          generalize e 0 = v0 at *
          generalize e 1 = v1 at *
          generalize e 2 = v2' at *
          generalize e 3 = v3 at *
          go_upto_region 17 with fail
          refine of_world (fun W6 hW => ?_)
          have k6 : Kept None' wr W6 := by rw [hW]; exact (Kept.refl _ _).alloc _ _
          have c0 : W6.cell? ⟨wr.heap.size, 0, none⟩ = some (.int .i64 v0) := by rw [hW]; exact cell_alloc_one wr _ _ 0
          have c1 : W6.cell? ⟨wr.heap.size, 1, none⟩ = some (.int .i64 v1) := by rw [hW]; exact cell_alloc_one wr _ _ 1
          have c2 : W6.cell? ⟨wr.heap.size, 2, none⟩ = some (.int .i64 v2') := by rw [hW]; exact cell_alloc_one wr _ _ 2
          have c3 : W6.cell? ⟨wr.heap.size, 3, none⟩ = some (.int .i64 v3) := by rw [hW]; exact cell_alloc_one wr _ _ 3
          have HS6 := Lib.hid (HS2.out.step k6)
          clear hW k6 a0 a1 a2 a3
          generalize wr.heap.size = Z at *
          obtain ⟨hi0, hz0, hz1, hz2⟩ := HI.out
          have hlen := HKL.out
          go_wp2_with (first
            | (at_builtin; refine wpList_append_kept _ (by rfl) _ _ _ (by rfl) w1.heap.size 62 i0 _ 5 40 Try.underlying54 hi0 hz0 hz1 hz2 rfl (by omega) v2 K.length (flat5 K) (by rfl)
                (own_kept HS6.out.2 ((Kept.refl _ _).alloc _ _)) ⟨W6.heap.size, 0, none⟩ 1 1 [.int .i64 n, .int .i64 v0, .int .i64 v1, .int .i64 v2', .int .i64 v3] (by rfl) rfl (news_five (cell_alloc_one W6 _ _ 0) (cell_alloc_one W6 _ _ 1) (cell_alloc_one W6 _ _ 2) (cell_alloc_one W6 _ _ 3) (cell_alloc_one W6 _ _ 4)) (by simp [Value.oneCell']) (by omega) (by unfold maxLen; omega) (by omega) (by have := HS6.out.1.size; simp; omega) ?_
               intro g4 cap4 w7 hown4 hk4 hat4
               have HO := Lib.hid (And.intro hown4 hk4)
               clear hown4 hk4 hat4)
            | fail)
          go_roundw
          case rel => exact ⟨i + 1, _, by omega, by go_num, rfl, by rw [HRW.out, List.length_append, flat5_snoc, HRM.out]; exact HS6.out.app ((Kept.refl _ _).alloc _ _) HO.out.2 HO.out.1⟩
          case measure => simp [intOf]; omega
        · obtain rfl : i = m := by omega
          have e2 : decide ((i : Int) < (i : Int)) = false := by simp
          have HEnd := Lib.hid (show K0 ++ (T.take i).map (mkT n) = tkAll T f (d + 1) by rw [HSU.out, List.take_of_length_le (by rw [HM.out]; omega)])
          go_wp2_with fail
          go_roundw
          case rel => exact ⟨d + 1, n + 1, _, hdD, by rw [HNF.out]; simp; omega, rfl, rfl, by rw [← HEnd.out]; exact HS2.out⟩
          case measure => simp [intOf]; omega
    · have e1 : decide (n ≤ l) = false := decide_eq_false hlt
      have hdD : d = D := by have := HND.out; omega
      subst hdD
      go_wp2_with fail
      go_ret2
      have k1 : Kept None' w w1 := ((Kept.refl None' w).alloc _ _).trans KT.out
      exact ⟨v, rfl, k1.trans HS.out.1, lt_base k1.size HS.out.2⟩
end Go.Proofs.Ytflmfjimemhooaa
