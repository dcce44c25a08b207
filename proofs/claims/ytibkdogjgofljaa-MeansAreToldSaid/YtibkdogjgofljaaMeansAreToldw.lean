/- The walk of MeansAreTold: it answers true. Conditions: none. -/
import Derived.Test.YtibkdogjgofljaaMt
import Derived.Test.YtibkdogjgofljaaLx
namespace Go.Proofs.Ytibkdogjgofljaa
open Go.RowKit
open Fl Fr

theorem ldexp_M (d : Nat) (d1 : 1 ≤ d) (d2 : d < 17) : ∃ r : Nat, (∀ w, Calls Try.prog 23 #[.float .f64 (floatOfInt .f64 ((2 ^ d - 1 : Nat) : Int)), .int .i64 (-22)] w fun e w' => e = .returned (.float .f64 r) ∧ w = w') ∧
    ∃ m e, FloatKind.f64.decode r = .number false m e ∧ mv m e = ((2 ^ d - 1 : Nat) : Rat) * p2 (-22) := by
  have hd : d = 1 ∨ d = 2 ∨ d = 3 ∨ d = 4 ∨ d = 5 ∨ d = 6 ∨ d = 7 ∨ d = 8 ∨ d = 9 ∨ d = 10 ∨ d = 11 ∨ d = 12 ∨ d = 13 ∨ d = 14 ∨ d = 15 ∨ d = 16 := by omega
  rcases hd with rfl | rfl | rfl | rfl | rfl | rfl | rfl | rfl | rfl | rfl | rfl | rfl | rfl | rfl | rfl | rfl
  · refine ⟨4508103226997866496, fun w => ?_, 4503599627370496, -74, by decide +kernel, by decide +kernel⟩
    have e : floatOfInt .f64 ((2 ^ 1 - 1 : Nat) : Int) = 4607182418800017408 := by decide +kernel
    rw [e]; exact ldexp_d1 w
  · refine ⟨4514858626438922240, fun w => ?_, 6755399441055744, -73, by decide +kernel, by decide +kernel⟩
    have e : floatOfInt .f64 ((2 ^ 2 - 1 : Nat) : Int) = 4613937818241073152 := by decide +kernel
    rw [e]; exact ldexp_d2 w
  · refine ⟨4520488125973135360, fun w => ?_, 7881299347898368, -72, by decide +kernel, by decide +kernel⟩
    have e : floatOfInt .f64 ((2 ^ 3 - 1 : Nat) : Int) = 4619567317775286272 := by decide +kernel
    rw [e]; exact ldexp_d3 w
  · refine ⟨4525554675553927168, fun w => ?_, 8444249301319680, -71, by decide +kernel, by decide +kernel⟩
    have e : floatOfInt .f64 ((2 ^ 4 - 1 : Nat) : Int) = 4624633867356078080 := by decide +kernel
    rw [e]; exact ldexp_d4 w
  · refine ⟨4530339750158008320, fun w => ?_, 8725724278030336, -70, by decide +kernel, by decide +kernel⟩
    have e : floatOfInt .f64 ((2 ^ 5 - 1 : Nat) : Int) = 4629418941960159232 := by decide +kernel
    rw [e]; exact ldexp_d5 w
  · refine ⟨4534984087273734144, fun w => ?_, 8866461766385664, -69, by decide +kernel, by decide +kernel⟩
    have e : floatOfInt .f64 ((2 ^ 6 - 1 : Nat) : Int) = 4634063279075885056 := by decide +kernel
    rw [e]; exact ldexp_d6 w
  · refine ⟨4539558055645282304, fun w => ?_, 8936830510563328, -68, by decide +kernel, by decide +kernel⟩
    have e : floatOfInt .f64 ((2 ^ 7 - 1 : Nat) : Int) = 4638637247447433216 := by decide +kernel
    rw [e]; exact ldexp_d7 w
  · refine ⟨4544096839644741632, fun w => ?_, 8972014882652160, -67, by decide +kernel, by decide +kernel⟩
    have e : floatOfInt .f64 ((2 ^ 8 - 1 : Nat) : Int) = 4643176031446892544 := by decide +kernel
    rw [e]; exact ldexp_d8 w
  · refine ⟨4548618031458156544, fun w => ?_, 8989607068696576, -66, by decide +kernel, by decide +kernel⟩
    have e : floatOfInt .f64 ((2 ^ 9 - 1 : Nat) : Int) = 4647697223260307456 := by decide +kernel
    rw [e]; exact ldexp_d9 w
  · refine ⟨4553130427178549248, fun w => ?_, 8998403161718784, -65, by decide +kernel, by decide +kernel⟩
    have e : floatOfInt .f64 ((2 ^ 10 - 1 : Nat) : Int) = 4652209618980700160 := by decide +kernel
    rw [e]; exact ldexp_d10 w
  · refine ⟨4557638424852430848, fun w => ?_, 9002801208229888, -64, by decide +kernel, by decide +kernel⟩
    have e : floatOfInt .f64 ((2 ^ 11 - 1 : Nat) : Int) = 4656717616654581760 := by decide +kernel
    rw [e]; exact ldexp_d11 w
  · refine ⟨4562144223503056896, fun w => ?_, 9005000231485440, -63, by decide +kernel, by decide +kernel⟩
    have e : floatOfInt .f64 ((2 ^ 12 - 1 : Nat) : Int) = 4661223415305207808 := by decide +kernel
    rw [e]; exact ldexp_d12 w
  · refine ⟨4566648922642055168, fun w => ?_, 9006099743113216, -62, by decide +kernel, by decide +kernel⟩
    have e : floatOfInt .f64 ((2 ^ 13 - 1 : Nat) : Int) = 4665728114444206080 := by decide +kernel
    rw [e]; exact ldexp_d13 w
  · refine ⟨4571153072025239552, fun w => ?_, 9006649498927104, -61, by decide +kernel, by decide +kernel⟩
    have e : floatOfInt .f64 ((2 ^ 14 - 1 : Nat) : Int) = 4670232263827390464 := by decide +kernel
    rw [e]; exact ldexp_d14 w
  · refine ⟨4575656946530516992, fun w => ?_, 9006924376834048, -60, by decide +kernel, by decide +kernel⟩
    have e : floatOfInt .f64 ((2 ^ 15 - 1 : Nat) : Int) = 4674736138332667904 := by decide +kernel
    rw [e]; exact ldexp_d15 w
  · refine ⟨4580160683596840960, fun w => ?_, 9007061815787520, -59, by decide +kernel, by decide +kernel⟩
    have e : floatOfInt .f64 ((2 ^ 16 - 1 : Nat) : Int) = 4679239875398991872 := by decide +kernel
    rw [e]; exact ldexp_d16 w

theorem share_num (v : Nat) (c1 : (FloatKind.f32.format.order v 0 == some .gt || FloatKind.f32.format.order v 0 == some .eq) = true)
    (c2 : (FloatKind.f32.format.order v 1065353216 == some .lt || FloatKind.f32.format.order v 1065353216 == some .eq) = true) :
    ∃ s m e, FloatKind.f32.decode v = .number s m e ∧ 0 ≤ rv (.number s m e) ∧ rv (.number s m e) ≤ 1 := by
  have k0 : FloatKind.f32.format.read 0 = .number false 0 (-149) := by decide +kernel
  have k1 : FloatKind.f32.format.read 1065353216 = .number false 8388608 (-23) := by decide +kernel
  have z0 : rv (.number false 0 (-149)) = 0 := by unfold rv mv; simp
  have z1 : rv (.number false 8388608 (-23)) = 1 := by decide +kernel
  unfold Ieee.Format.order at c1 c2
  rw [k0] at c1
  rw [k1] at c2
  cases hd : FloatKind.f32.format.read v with
  | number s m e =>
    refine ⟨s, m, e, hd, ?_, ?_⟩
    · rw [hd, Bool.or_eq_true, beq_iff_eq, beq_iff_eq, order_gt, order_eq, z0] at c1
      grind
    · rw [hd, Bool.or_eq_true, beq_iff_eq, beq_iff_eq, order_lt, order_eq, z1] at c2
      grind
  | infinity s =>
    rw [hd] at c1 c2
    cases s
    · exact absurd c2 (by decide)
    · exact absurd c1 (by decide)
  | nan s f =>
    rw [hd] at c1
    exact absurd c1 (by simp [Ieee.Datum.order])

def MtPost (w : World) (e : Ending) (w' : World) : Prop := e = .returned (.bool true) ∧ Grown w w'
set_option maxHeartbeats 1000000 in
set_option maxRecDepth 100000 in
theorem mt_bad (v : Nat) (d x y : Int) (w : World) (h : ((FloatKind.f32.format.order v 0 == some .gt || FloatKind.f32.format.order v 0 == some .eq) && (FloatKind.f32.format.order v 1065353216 == some .lt || FloatKind.f32.format.order v 1065353216 == some .eq) && (decide (1 ≤ d) && decide (d ≤ 16))) = false) :
    Calls Try.prog 4 #[.float .f32 v, .int .i64 d, .int .i64 x, .int .i64 y] w (MtPost w) := by
  cases c1 : (FloatKind.f32.format.order v 0 == some .gt || FloatKind.f32.format.order v 0 == some .eq) <;> cases c2 : (FloatKind.f32.format.order v 1065353216 == some .lt || FloatKind.f32.format.order v 1065353216 == some .eq)
  case true.true =>
    rw [c1, c2] at h
    have i2 : (decide (1 ≤ d) && decide (d ≤ 16)) = false := by simpa using h
    clear h
    go_enter Try.func4, Try.ntmps4
    go_wp2_with (first
      | (go_at_call 14; refine (finishes_any _).mono ?_; rintro e w' ⟨rfl, n, rfl⟩)
      | (go_at_call 17; refine (in_any _ _ _ _).mono ?_; rintro e w' ⟨rfl, rfl⟩))
    go_ret
    exact ⟨rfl, Grown.refl _⟩
  all_goals
    clear h
    go_enter Try.func4, Try.ntmps4
    go_wp2_with (first
      | (go_at_call 14; refine (finishes_any _).mono ?_; rintro e w' ⟨rfl, n, rfl⟩)
      | (go_at_call 17; refine (in_any _ _ _ _).mono ?_; rintro e w' ⟨rfl, rfl⟩))
    go_ret
    exact ⟨rfl, Grown.refl _⟩

theorem offset_ord (x y : Int) (a b : Nat) (w : World) (ha : x % 8 = a) (hb : y % 8 = b) :
    Calls Try.prog 13 #[.int .i64 1, .int .u32 0, .int .i64 x, .int .i64 y, .int .i64 0] w fun e w' => e = .returned (.tuple #[.float .f32 (offO (ordP a b)), .int .i64 0]) ∧ w = w' := by
  have := offset_any 1 0 x y 0 a b w (by omega) (by omega) ha hb
  rwa [offP_1] at this
theorem offset_nu (x y : Int) (X Y k : Nat) (w : World) (ha : x % 8 = ((X + k % 8) % 8 : Nat)) (hb : y % 8 = ((Y + k / 8) % 8 : Nat)) :
    Calls Try.prog 13 #[.int .i64 1, .int .u32 0, .int .i64 x, .int .i64 y, .int .i64 0] w fun e w' => e = .returned (.tuple #[.float .f32 (offO (nu X Y k)), .int .i64 0]) ∧ w = w' :=
  offset_ord x y _ _ w ha hb
theorem sumF_succ (f : Nat → Int) (k : Nat) : sumF f (k + 1) = sumF f k + f k := rfl

/-- The sum so far. -/
def sumL (v M X Y k : Nat) : Int := sumF (fun k => levelP v (offO (nu X Y k)) (M : Int)) k
theorem sumF_zero (f : Nat → Int) : sumF f 0 = 0 := rfl
theorem sumL_zero (v M X Y : Nat) : sumL v M X Y 0 = 0 := by unfold sumL; rw [sumF_zero]
theorem sumL_succ (v M X Y k : Nat) : sumL v M X Y (k + 1) = sumL v M X Y k + levelP v (offO (nu X Y k)) (M : Int) := by
  unfold sumL; rw [sumF_succ]
theorem sum_step {a l : Int} {M k : Nat} (h1 : 0 ≤ a ∧ a ≤ 65535 * k) (h2 : 0 ≤ l) (h3 : l ≤ (M : Int)) (h4 : M ≤ 65535) : 0 ≤ a + l ∧ a + l ≤ 65535 * ((k + 1 : Nat) : Int) := by omega
theorem sum_end {a : Int} {S : Nat} (h1 : 0 ≤ a ∧ a ≤ 65535 * ((64 : Nat) : Int)) (h2 : a = S) : S ≤ 64 * 65535 := by omega
theorem m_le {l : Int} {M : Nat} (h1 : 0 ≤ l) (h2 : l ≤ (M : Int)) (h4 : M ≤ 65535) : 0 ≤ l ∧ l ≤ 65535 := by omega
set_option maxHeartbeats 2000000 in
set_option maxRecDepth 100000 in
theorem mt_ok (v d M : Nat) (x y xt yt : Int) (X Y : Nat) (w : World) (c1 : (FloatKind.f32.format.order v 0 == some .gt || FloatKind.f32.format.order v 0 == some .eq) = true)
    (c2 : (FloatKind.f32.format.order v 1065353216 == some .lt || FloatKind.f32.format.order v 1065353216 == some .eq) = true) (d1 : 1 ≤ d) (d2 : d < 17) (hMM : 2 ^ d - 1 = M)
    (hx : x.tmod 1000 = xt) (hy : y.tmod 1000 = yt) (hxl : -1000 < xt) (hxu : xt < 1000) (hyl : -1000 < yt) (hyu : yt < 1000) (hX : xt % 8 = X) (hY : yt % 8 = Y) (hX8 : X < 8) (hY8 : Y < 8) :
    Calls Try.prog 4 #[.float .f32 v, .int .i64 d, .int .i64 x, .int .i64 y] w (MtPost w) := by
  obtain ⟨s, m, e, hv, v0, v1⟩ := share_num v c1 c2
  obtain ⟨t, ht, hL⟩ := level_near v d hv v0 v1 d1 d2
  obtain ⟨r, hr, rm, re, hr1, hr2⟩ := ldexp_M d d1 d2
  have hM2 : M ≤ 65535 := by have := Nat.pow_le_pow_right (show 0 < 2 by decide) (show d ≤ 16 by omega); omega
  have hM1 : 1 ≤ M := by have := Nat.pow_le_pow_right (show 0 < 2 by decide) d1; omega
  have hMw : wrap64 (wrap64 (2 ^ d) - 1) = (M : Int) := by
    have : ∀ d : Nat, d < 17 → 1 ≤ d → wrap64 (wrap64 (2 ^ d) - 1) = ((2 ^ d - 1 : Nat) : Int) := by decide +kernel
    rw [this d d2 d1, hMM]
  have hsn := sum_near (fun n => levelP v (offO n) (M : Int)) t (p2 ((d : Int) - 24)) X Y hX8 hY8 (by rw [← hMM]; exact fun n hn => (hL n hn).2.2.1) (by rw [← hMM]; exact fun n hn => (hL n hn).2.2.2)
  have hS0 : ∀ k, 0 ≤ sumL v M X Y k ∧ sumL v M X Y k ≤ 65535 * k := by
    intro k
    induction k with
    | zero => rw [sumL_zero]; exact ⟨by omega, by omega⟩
    | succ k ih =>
      have h1 := hL (nu X Y k) (nu_lt X Y k)
      rw [hMM] at h1
      rw [sumL_succ]; exact sum_step ih h1.1 h1.2.1 hM2
  obtain ⟨S, hSS⟩ := Int.eq_ofNat_of_zero_le (hS0 64).1
  have htest := mean_test v S r d hv v0 v1 d1 d2 (sum_end (hS0 64) hSS) (by
    have e1 : (sumF (fun k => levelP v (offO (nu X Y k)) (M : Int)) 64 : Rat) = (S : Rat) := by
      have : sumF (fun k => levelP v (offO (nu X Y k)) (M : Int)) 64 = (S : Int) := by unfold sumL at hSS; exact hSS
      rw [this, Rat.intCast_natCast]
    rw [e1] at hsn
    rw [abs_le_iff] at ht ⊢
    grind) hr1 hr2
  rw [hMM] at htest hr
  have hL2 : ∀ k, 0 ≤ levelP v (offO (nu X Y k)) (M : Int) ∧ levelP v (offO (nu X Y k)) (M : Int) ≤ 65535 := by
    intro k
    have h1 := hL (nu X Y k) (nu_lt X Y k)
    rw [hMM] at h1
    exact m_le h1.1 h1.2.1 hM2
  have hnan := nan_of_num hv
  clear hsn hL ht hr1 hr2 v0 v1 hv
  obtain ⟨n1, n2, n3, n4, n5⟩ := htest
  obtain ⟨a1, a2⟩ := det n1
  obtain ⟨a3, a4⟩ := det n2
  obtain ⟨a5, a6⟩ := det n3
  obtain ⟨a7, a8⟩ := det n4
  have a9 : ∀ w, toD v w = dC v := toD_not hnan
  have i2 : (decide (1 ≤ (d : Int)) && decide ((d : Int) ≤ 16)) = true := by simp; omega
  have D1 : (1 : Int) ≤ (d : Int) := by omega
  have D2 : (d : Int) ≤ 16 := by omega
  have HS0 := Lib.hid hS0
  have HL2 := Lib.hid hL2
  have HX := Lib.hid hX
  have HY := Lib.hid hY
  have HMM := Lib.hid hMM
  have HSS := Lib.hid hSS
  have HMw := Lib.hid hMw
  have Hr := Lib.hid hr
  clear hS0 hL2 hX hY hMM hSS n1 n2 n3 n4 hnan d1 d2 hr
  go_enter Try.func4, Try.ntmps4
  go_wp2_with (first
    | (go_at_call 14; refine (finishes_any _).mono ?_; rintro e w' ⟨rfl, n, rfl⟩)
    | (go_at_call 17; refine (in_any _ _ _ _).mono ?_; rintro e w' ⟨rfl, rfl⟩))
  go_loopw [9, 10, 11, 12, 13, 14, 33] (fun sl _ _ _ _ _ cl wr => ∃ k : Nat, k ≤ 64 ∧ cl = .int .i64 k ∧ sl = .int .i64 (sumL v M X Y k) ∧ ∃ nq, wr = w.drewN nq) (fun _ _ _ _ _ _ c _ => 64 - (intOf c).toNat)
  case atStart => exact ⟨0, by omega, rfl, by rw [sumL_zero], _, rfl⟩
  case round =>
    obtain ⟨k, hk, rfl, rfl, nq, rfl⟩ := hrel
    by_cases hlt : k < 64
    · have hs0 := (HS0.out k).1
      have hs1 := (HS0.out k).2
      have hl0 := (HL2.out k).1
      have hl1 := (HL2.out k).2
      go_wp2_with (first
        | (go_at_call 13; refine (offset_nu _ _ X Y k _ (by have := HX.out; omega) (by have := HY.out; omega)).mono ?_; rintro e w' ⟨rfl, rfl⟩)
        | (go_at_call 11; refine (Level_ok _ _ _ (M : Int) _ D1 D2 HMw.out (by omega) (by omega)).mono ?_; rintro e w' ⟨rfl, n, rfl⟩))
      go_roundw
      case rel => exact ⟨k + 1, by omega, by go_num, by rw [sumL_succ], _, rfl⟩
      case measure => simp [intOf]; omega
    · have hk64 : k = 64 := by omega
      subst hk64
      rw [HSS.out]
      go_wp2_with (first
        | (go_at_call 22; refine (abs_any _ _).mono ?_; rintro e w' ⟨rfl, rfl⟩)
        | (go_at_call 23; refine (Hr.out _).mono ?_; rintro e w' ⟨rfl, rfl⟩))
      go_ret
      exact ⟨rfl, Grown.refl _⟩

theorem walk_meansAreTold (v : Nat) (d x y : Int) (_ : (Lit.float .f32 v).wf = true) (_ : (Lit.int .i64 d).wf = true) (_ : (Lit.int .i64 x).wf = true) (_ : (Lit.int .i64 y).wf = true) (w : World) :
    Calls Try.prog 4 #[.float .f32 v, .int .i64 d, .int .i64 x, .int .i64 y] w fun e w' => e = .returned (.bool true) ∧ Grown w w' := by
  cases h : ((FloatKind.f32.format.order v 0 == some .gt || FloatKind.f32.format.order v 0 == some .eq) && (FloatKind.f32.format.order v 1065353216 == some .lt || FloatKind.f32.format.order v 1065353216 == some .eq) && (decide (1 ≤ d) && decide (d ≤ 16))) with
  | false => exact mt_bad v d x y w h
  | true =>
    simp only [Bool.and_eq_true] at h
    obtain ⟨⟨c1, c2⟩, c3, c4⟩ := h
    have c3 := of_decide_eq_true c3
    have c4 := of_decide_eq_true c4
    obtain ⟨dn, rfl⟩ := Int.eq_ofNat_of_zero_le (show 0 ≤ d by omega)
    have tb : ∀ z : Int, -1000 < z.tmod 1000 ∧ z.tmod 1000 < 1000 := by
      intro z
      rw [Int.tmod_eq_emod]
      have : ((1000 : Int).natAbs : Int) = 1000 := rfl
      split <;> omega
    exact mt_ok v dn _ x y _ _ ((x.tmod 1000) % 8).toNat ((y.tmod 1000) % 8).toNat w c1 c2 (by omega) (by omega) rfl rfl rfl (tb x).1 (tb x).2 (tb y).1 (tb y).2 (by omega) (by omega) (by omega) (by omega)
end Go.Proofs.Ytibkdogjgofljaa
