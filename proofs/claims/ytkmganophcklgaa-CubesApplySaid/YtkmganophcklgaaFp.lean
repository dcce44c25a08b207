/- Contracts of cube.place and OnAxis. Conditions: none. -/
import Derived.Test.YtkmganophcklgaaFq
import Derived.Test.YtkmganophcklgaaQw
import Derived.Deep.DeepCutAuto
namespace Go.Proofs.Ytkmganophcklgaa
open Go.RowKit
open Fl Fr

/-- Where a value lies on an axis, before it is cut. -/
def axT (S : Int) (lo hi v : Nat) : Nat := fC .mul .f32 (fC .quo .f32 (fC .sub .f32 v lo) (fC .sub .f32 hi lo)) (floatOfInt .f32 (S - 1))
def axN (t : Nat) : Nat := match FloatKind.f32.decode t with
  | .number _ m e => flN m e
  | _ => 0
def axI (S : Int) (lo hi v : Nat) : Int :=
  if (FloatKind.f32.format.order (axT S lo hi v) 0 == some .gt) = false then 0
  else if (FloatKind.f32.format.order (axT S lo hi v) (floatOfInt .f32 (S - 1)) == some .lt) = false then S - 2 else axN (axT S lo hi v)
def axS (S : Int) (lo hi v : Nat) : Nat :=
  if (FloatKind.f32.format.order (axT S lo hi v) 0 == some .gt) = false then 0
  else if (FloatKind.f32.format.order (axT S lo hi v) (floatOfInt .f32 (S - 1)) == some .lt) = false then 1065353216 else fC .sub .f32 (axT S lo hi v) (floatOfInt .f32 (axN (axT S lo hi v) : Int))
theorem order_none {k : FloatKind} {x y : Nat} {o : Ordering} (h : (k.format.order x y == some o) = true) : nan k x = false ∧ nan k y = false := by
  have h : k.format.order x y = some o := by simpa using h
  constructor
  · cases e : nan k x with
    | false => rfl
    | true =>
      obtain ⟨s, f, e⟩ := read_nan e
      unfold Ieee.Format.order at h
      rw [order_nan_l ⟨s, f, e⟩] at h
      cases h
  · cases e : nan k y with
    | false => rfl
    | true =>
      obtain ⟨s, f, e⟩ := read_nan e
      unfold Ieee.Format.order at h
      rw [order_nan_r ⟨s, f, e⟩] at h
      cases h
theorem order_some {k : FloatKind} {x y : Nat} (hx : nan k x = false) (hy : nan k y = false) : ∃ o, k.format.order x y = some o := by
  unfold Ieee.Format.order
  rcases read_cases k x hx with ⟨s, m, e, h⟩ | ⟨s, h⟩ <;> rcases read_cases k y hy with ⟨t, n, i, h'⟩ | ⟨t, h'⟩
  all_goals
    have h : k.format.read x = _ := h
    have h' : k.format.read y = _ := h'
    rw [h, h']
  · obtain ⟨a, b, e1, -⟩ := order_num s t m n e i
    exact ⟨_, e1⟩
  · exact ⟨_, rfl⟩
  · exact ⟨_, rfl⟩
  · exact ⟨_, rfl⟩
theorem zero_dec : FloatKind.f32.decode 0 = .number false 0 (-149) := by decide +kernel
theorem axT_num {S : Int} {t : Nat} (s1 : 2 ≤ S) (s2 : S ≤ 17) (h1 : (FloatKind.f32.format.order t 0 == some .gt) = true) (h2 : (FloatKind.f32.format.order t (floatOfInt .f32 (S - 1)) == some .lt) = true) :
    ∃ m e, FloatKind.f32.decode t = .number false m e ∧ (flN m e : Int) ≤ S - 2 ∧ 0 < mv m e ∧ mv m e < ((S - 1 : Int) : Rat) := by
  have hn := (order_none h1).1
  have h1 : FloatKind.f32.format.order t 0 = some .gt := by simpa using h1
  have h2 : FloatKind.f32.format.order t (floatOfInt .f32 (S - 1)) = some .lt := by simpa using h2
  obtain ⟨s, M, P, hl, hv⟩ := ofInt_rv .f32 (S - 1) (by omega)
  unfold Ieee.Format.order at h1 h2
  have hl' : FloatKind.f32.format.read (floatOfInt .f32 (S - 1)) = _ := hl
  have h0' : FloatKind.f32.format.read 0 = _ := zero_dec
  rw [hl'] at h2
  rw [h0'] at h1
  rcases read_cases .f32 t hn with ⟨u, m, e, h⟩ | ⟨u, h⟩
  · have h' : FloatKind.f32.format.read t = _ := h
    rw [h', order_gt] at h1
    rw [h', order_lt, hv] at h2
    have hz : rv (.number false 0 (-149)) = 0 := by unfold rv mv; simp
    rw [hz] at h1
    have hm := mv_nonneg m e
    cases u with
    | true => unfold rv at h1; simp at h1; exfalso; grind
    | false =>
      have e3 : rv (.number false m e) = mv m e := rfl
      rw [e3] at h1 h2
      refine ⟨m, e, h, ?_, h1, h2⟩
      have : mv m e < (((S - 1).toNat : Nat) : Rat) := by rw [← Rat.intCast_natCast, Int.toNat_of_nonneg (by omega)]; exact h2
      have := flN_le this
      omega
  · have h' : FloatKind.f32.format.read t = _ := h
    rw [h'] at h1 h2
    cases u
    · simp [Ieee.Datum.order] at h2
    · simp [Ieee.Datum.order] at h1
theorem axN_eq {t m : Nat} {e : Int} (h : FloatKind.f32.decode t = .number false m e) : axN t = flN m e := by unfold axN; rw [h]
theorem ax_bd {S : Int} (s1 : 2 ≤ S) (s2 : S ≤ 17) (lo hi v : Nat) : 0 ≤ axI S lo hi v ∧ axI S lo hi v ≤ S - 2 := by
  unfold axI
  cases h1 : (FloatKind.f32.format.order (axT S lo hi v) 0 == some .gt)
  · simp; omega
  · cases h2 : (FloatKind.f32.format.order (axT S lo hi v) (floatOfInt .f32 (S - 1)) == some .lt)
    · simp; omega
    · obtain ⟨m, e, h, h3, -⟩ := axT_num s1 s2 h1 h2
      simp only [Bool.true_eq_false, if_false]
      rw [axN_eq h]
      omega
theorem axS_nan {S : Int} (s1 : 2 ≤ S) (s2 : S ≤ 17) (lo hi v : Nat) : nan .f32 (axS S lo hi v) = false := by
  unfold axS
  cases h1 : (FloatKind.f32.format.order (axT S lo hi v) 0 == some .gt)
  · simp; decide +kernel
  · cases h2 : (FloatKind.f32.format.order (axT S lo hi v) (floatOfInt .f32 (S - 1)) == some .lt)
    · simp; decide +kernel
    · obtain ⟨m, e, h, h3, -⟩ := axT_num s1 s2 h1 h2
      simp only [Bool.true_eq_false, if_false]
      obtain ⟨s, M, P, hl, hv⟩ := ofInt_rv .f32 (axN (axT S lo hi v) : Int) (by rw [axN_eq h]; omega)
      obtain ⟨u, c, e', -, -, hh⟩ := sub_num h hl
      exact hh

set_option linter.unusedSimpArgs false in
set_option linter.unusedVariables false in
set_option maxHeartbeats 4000000 in
set_option maxRecDepth 100000 in
theorem place_any (S : Int) (lo hi : Nat) (A : Option Addr) (n cap v : Nat) (w : World) (s1 : 2 ≤ S) (s2 : S ≤ 17) :
    Calls Try.prog 88 #[.agg #[.int .i64 S, .float .f32 lo, .float .f32 hi, .slice A n cap], .float .f32 v] w fun e w' => e = .returned (.tuple #[.int .i64 (axI S lo hi v), .float .f32 (axS S lo hi v)]) ∧ Kept None' w w' := by
  cases h1 : (FloatKind.f32.format.order (axT S lo hi v) 0 == some .gt) with
  | false =>
    have e1 : axI S lo hi v = 0 := by unfold axI; rw [if_pos h1]
    have e2 : axS S lo hi v = 0 := by unfold axS; rw [if_pos h1]
    rw [e1, e2]
    have H1 := Lib.hid h1
    clear e1 e2 h1
    go_enter Try.func88, Try.ntmps88
    go_upto_region 3 with (fail)
    generalize hr : fV BinOp.mul FloatKind.f32 _ _ _ = r
    have hcl : cl .f32 r = axT S lo hi v := by rw [← hr]; unfold axT; simp only [cl_fV', fC_fV_l, fC_fV_r]
    clear hr
    have h1 : (FloatKind.f32.format.order r 0 == some .gt) = false := by rw [← order_cl_l, hcl]; exact H1.out
    clear hcl
    go_wp2_with fail
    go_ret2
    exact ⟨rfl, ((Kept.refl _ _).alloc _ _).drew _⟩
  | true =>
    have hn := (order_none h1).1
    cases h2 : (FloatKind.f32.format.order (axT S lo hi v) (floatOfInt .f32 (S - 1)) == some .lt) with
    | false =>
      have e1 : axI S lo hi v = S - 2 := by unfold axI; rw [if_neg (by rw [h1]; decide), if_pos h2]
      have e2 : axS S lo hi v = 1065353216 := by unfold axS; rw [if_neg (by rw [h1]; decide), if_pos h2]
      rw [e1, e2]
      obtain ⟨s, M, P, hl, -⟩ := ofInt_rv .f32 (S - 1) (by omega)
      obtain ⟨o, ho⟩ := order_some hn (nan_of_num hl)
      have HN := Lib.hid hn
      clear e1 e2 hl hn
      have h3 : o ≠ .lt := fun e => by rw [ho, e] at h2; simp at h2
      cases o with
      | lt => exact absurd rfl h3
      | _ =>
        have h4 := ho
        have H1 := Lib.hid (And.intro h1 (And.intro h2 h4))
        clear ho h1 h2 h4 h3
        go_enter Try.func88, Try.ntmps88
        go_upto_region 3 with (fail)
        generalize hr : fV BinOp.mul FloatKind.f32 _ _ _ = r
        have hcl : cl .f32 r = axT S lo hi v := by rw [← hr]; unfold axT; simp only [cl_fV', fC_fV_l, fC_fV_r]
        clear hr
        obtain rfl := cl_exact hcl HN.out
        clear hcl
        obtain ⟨h1, h2, h4⟩ := H1.out
        have h5 := congrArg (fun q => q == some Ordering.gt) h4
        have h6 := congrArg (fun q => q == some Ordering.eq) h4
        simp at h5 h6
        go_wp2_with fail
        go_ret2
        exact ⟨rfl, ((Kept.refl _ _).alloc _ _).drew _⟩
    | true =>
      obtain ⟨m, e, h, h3, -⟩ := axT_num s1 s2 h1 h2
      have e1 : axI S lo hi v = flN m e := by unfold axI; rw [if_neg (by rw [h1]; decide), if_neg (by rw [h2]; decide), axN_eq h]
      have e2 : axS S lo hi v = fC .sub .f32 (axT S lo hi v) (floatOfInt .f32 (flN m e : Int)) := by unfold axS; rw [if_neg (by rw [h1]; decide), if_neg (by rw [h2]; decide), axN_eq h]
      have hs := axS_nan s1 s2 lo hi v
      rw [e2] at hs
      obtain ⟨s', M', P', hl', -⟩ := ofInt_rv .f32 (flN m e : Int) (by omega)
      have hnf := nan_of_num hl'
      obtain ⟨s, M, P, hl, -⟩ := ofInt_rv .f32 (S - 1) (by omega)
      have h2' := h2
      simp only [beq_iff_eq] at h2'
      have h5 : (FloatKind.f32.format.order (axT S lo hi v) (floatOfInt .f32 (S - 1)) == some .gt) = false := by rw [h2']; rfl
      have h6 : (FloatKind.f32.format.order (axT S lo hi v) (floatOfInt .f32 (S - 1)) == some .eq) = false := by rw [h2']; rfl
      have d1 := fun w => (det hs).1 w
      have d2 := (det hs).2
      have hi1 := toI_flN h (by omega)
      have HF := Lib.hid (fun w => numfloor_any h (by omega) w)
      obtain ⟨cM, cP, hc1, hc2⟩ := ofInt_val .f32 (flN m e : Int) (by omega)
      rw [show decide ((flN m e : Int) < 0) = false from decide_eq_false (by omega), Int.natAbs_natCast] at *
      have hfl : flN cM cP = flN m e := by
        have a := flN_spec cM cP
        have b1 : ((flN cM cP : Nat) : Rat) ≤ ((flN m e : Nat) : Rat) := by rw [← hc2]; exact a.1
        have b2 : ((flN m e : Nat) : Rat) < ((flN cM cP + 1 : Nat) : Rat) := by rw [← hc2]; exact a.2
        have b1 := Rat.natCast_le_natCast.1 b1
        have b2 := Rat.natCast_lt_natCast.1 b2
        omega
      have hj := toI_flN hc1 (by rw [hfl]; omega)
      rw [hfl] at hj
      have j1 := toI_some hj
      have j2 := toIN_some hj
      have HJ := Lib.hid (And.intro j1 j2)
      clear hj hc1 hc2 hfl j1 j2
      rw [e1, e2]
      generalize hT : axT S lo hi v = t at *
      have HT := Lib.hid hT
      clear hT
      have HN := Lib.hid hn
      have H1 := Lib.hid (And.intro h1 (And.intro h2 (And.intro h5 (And.intro h6 (And.intro d1 (And.intro d2 hi1))))))
      clear h1 h2 h2' h5 h6 d1 d2 hs e1 e2 hn hi1 hl hl' hnf
      go_enter Try.func88, Try.ntmps88
      go_upto_region 3 with (fail)
      generalize hr : fV BinOp.mul FloatKind.f32 _ _ _ = r
      have hcl : cl .f32 r = t := by rw [← hr, ← HT.out]; unfold axT; simp only [cl_fV', fC_fV_l, fC_fV_r]
      clear hr
      obtain rfl := cl_exact hcl HN.out
      clear hcl
      obtain ⟨h1, h2, h5, h6, d1, d2, hi1⟩ := H1.out
      have i1 := toI_some hi1
      have i2 := toIN_some hi1
      clear hi1
      obtain ⟨j1, j2⟩ := HJ.out
      go_wp2_with (go_at_call 118; refine (HF.out _).mono ?_; rintro e w' ⟨rfl, rfl⟩)
      go_ret2
      exact ⟨rfl, (((Kept.refl _ _).alloc _ _).drew _)⟩

set_option linter.unusedSimpArgs false in
set_option linter.unusedVariables false in
set_option maxHeartbeats 4000000 in
set_option maxRecDepth 100000 in
theorem onaxis_any (S : Int) (lo hi : Nat) (A : Option Addr) (n cap v : Nat) (w : World) (s1 : 2 ≤ S) (s2 : S ≤ 17) :
    Calls Try.prog 38 #[.agg #[.int .i64 S, .float .f32 lo, .float .f32 hi, .slice A n cap], .float .f32 v] w fun e w' => e = .returned (.tuple #[.int .i64 (axI S lo hi v), .float .f32 (axS S lo hi v)]) ∧ Kept None' w w' := by
  cases h1 : (FloatKind.f32.format.order (axT S lo hi v) 0 == some .gt) with
  | false =>
    have e1 : axI S lo hi v = 0 := by unfold axI; rw [if_pos h1]
    have e2 : axS S lo hi v = 0 := by unfold axS; rw [if_pos h1]
    rw [e1, e2]
    have H1 := Lib.hid h1
    clear e1 e2 h1
    go_enter Try.func38, Try.ntmps38
    go_upto_region 3 with (fail)
    generalize hr : fV BinOp.mul FloatKind.f32 _ _ _ = r
    have hcl : cl .f32 r = axT S lo hi v := by rw [← hr]; unfold axT; simp only [cl_fV', fC_fV_l, fC_fV_r]
    clear hr
    have h1 : (FloatKind.f32.format.order r 0 == some .gt) = false := by rw [← order_cl_l, hcl]; exact H1.out
    clear hcl
    go_wp2_with fail
    go_ret2
    exact ⟨rfl, ((Kept.refl _ _).alloc _ _).drew _⟩
  | true =>
    have hn := (order_none h1).1
    cases h2 : (FloatKind.f32.format.order (axT S lo hi v) (floatOfInt .f32 (S - 1)) == some .lt) with
    | false =>
      have e1 : axI S lo hi v = S - 2 := by unfold axI; rw [if_neg (by rw [h1]; decide), if_pos h2]
      have e2 : axS S lo hi v = 1065353216 := by unfold axS; rw [if_neg (by rw [h1]; decide), if_pos h2]
      rw [e1, e2]
      obtain ⟨s, M, P, hl, -⟩ := ofInt_rv .f32 (S - 1) (by omega)
      obtain ⟨o, ho⟩ := order_some hn (nan_of_num hl)
      have HN := Lib.hid hn
      clear e1 e2 hl hn
      have h3 : o ≠ .lt := fun e => by rw [ho, e] at h2; simp at h2
      cases o with
      | lt => exact absurd rfl h3
      | _ =>
        have h4 := ho
        have H1 := Lib.hid (And.intro h1 (And.intro h2 h4))
        clear ho h1 h2 h4 h3
        go_enter Try.func38, Try.ntmps38
        go_upto_region 3 with (fail)
        generalize hr : fV BinOp.mul FloatKind.f32 _ _ _ = r
        have hcl : cl .f32 r = axT S lo hi v := by rw [← hr]; unfold axT; simp only [cl_fV', fC_fV_l, fC_fV_r]
        clear hr
        obtain rfl := cl_exact hcl HN.out
        clear hcl
        obtain ⟨h1, h2, h4⟩ := H1.out
        have h5 := congrArg (fun q => q == some Ordering.gt) h4
        have h6 := congrArg (fun q => q == some Ordering.eq) h4
        simp at h5 h6
        go_wp2_with fail
        go_ret2
        exact ⟨rfl, ((Kept.refl _ _).alloc _ _).drew _⟩
    | true =>
      obtain ⟨m, e, h, h3, -⟩ := axT_num s1 s2 h1 h2
      have e1 : axI S lo hi v = flN m e := by unfold axI; rw [if_neg (by rw [h1]; decide), if_neg (by rw [h2]; decide), axN_eq h]
      have e2 : axS S lo hi v = fC .sub .f32 (axT S lo hi v) (floatOfInt .f32 (flN m e : Int)) := by unfold axS; rw [if_neg (by rw [h1]; decide), if_neg (by rw [h2]; decide), axN_eq h]
      have hs := axS_nan s1 s2 lo hi v
      rw [e2] at hs
      obtain ⟨s', M', P', hl', -⟩ := ofInt_rv .f32 (flN m e : Int) (by omega)
      have hnf := nan_of_num hl'
      obtain ⟨s, M, P, hl, -⟩ := ofInt_rv .f32 (S - 1) (by omega)
      have h2' := h2
      simp only [beq_iff_eq] at h2'
      have h5 : (FloatKind.f32.format.order (axT S lo hi v) (floatOfInt .f32 (S - 1)) == some .gt) = false := by rw [h2']; rfl
      have h6 : (FloatKind.f32.format.order (axT S lo hi v) (floatOfInt .f32 (S - 1)) == some .eq) = false := by rw [h2']; rfl
      have d1 := fun w => (det hs).1 w
      have d2 := (det hs).2
      have hi1 := toI_flN h (by omega)

      rw [e1, e2]
      generalize hT : axT S lo hi v = t at *
      have HT := Lib.hid hT
      clear hT
      have HN := Lib.hid hn
      have H1 := Lib.hid (And.intro h1 (And.intro h2 (And.intro h5 (And.intro h6 (And.intro d1 (And.intro d2 hi1))))))
      clear h1 h2 h2' h5 h6 d1 d2 hs e1 e2 hn hi1 hl hl' hnf
      go_enter Try.func38, Try.ntmps38
      go_upto_region 3 with (fail)
      generalize hr : fV BinOp.mul FloatKind.f32 _ _ _ = r
      have hcl : cl .f32 r = t := by rw [← hr, ← HT.out]; unfold axT; simp only [cl_fV', fC_fV_l, fC_fV_r]
      clear hr
      obtain rfl := cl_exact hcl HN.out
      clear hcl
      obtain ⟨h1, h2, h5, h6, d1, d2, hi1⟩ := H1.out
      have i1 := toI_some hi1
      have i2 := toIN_some hi1
      clear hi1
      go_wp2_with fail
      go_ret2
      exact ⟨rfl, (((Kept.refl _ _).alloc _ _).drew _)⟩
end Go.Proofs.Ytkmganophcklgaa
