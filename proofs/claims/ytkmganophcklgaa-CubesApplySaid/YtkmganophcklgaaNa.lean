/- What Nearest looks for, and the contract of cube.Nearest. Conditions: none. -/
import Derived.Test.YtkmganophcklgaaC7
import Derived.Test.YtkmganophcklgaaC8
namespace Go.Proofs.Ytkmganophcklgaa
open Go.RowKit
open Fl Fr
open BigFrame

/-- The square of a distance. -/
def nrD (e p : Nat → Nat) : Nat :=
  fC .add .f32 (fC .add .f32 (fC .mul .f32 (fC .sub .f32 (e 0) (p 0)) (fC .sub .f32 (e 0) (p 0))) (fC .mul .f32 (fC .sub .f32 (e 1) (p 1)) (fC .sub .f32 (e 1) (p 1)))) (fC .mul .f32 (fC .sub .f32 (e 2) (p 2)) (fC .sub .f32 (e 2) (p 2)))
/-- Is this distance taken. -/
def nrT (d least : Nat) (best : Int) : Bool := !nan .f32 d && (decide (best < 0) || FloatKind.f32.format.order d least == some .lt)
/-- The best number and its distance among the first m entries; -1: none. -/
def nrB (z p : Nat → Nat) : Nat → Int × Nat
  | 0 => (-1, 0)
  | m + 1 => if nrT (nrD (fun c => z (3 * m + c)) p) (nrB z p m).2 (nrB z p m).1 = true then ((m : Int), nrD (fun c => z (3 * m + c)) p) else nrB z p m
theorem nrB_bd (z p : Nat → Nat) : ∀ m, -1 ≤ (nrB z p m).1 ∧ (nrB z p m).1 < m
  | 0 => by unfold nrB; simp
  | m + 1 => by
    have := nrB_bd z p m
    unfold nrB
    split
    · simp; omega
    · omega
theorem nrB_yes {z p : Nat → Nat} {m : Nat} (h : nrT (nrD (fun c => z (3 * m + c)) p) (nrB z p m).2 (nrB z p m).1 = true) : nrB z p (m + 1) = ((m : Int), nrD (fun c => z (3 * m + c)) p) := by
  rw [nrB, if_pos h]
theorem nrB_no {z p : Nat → Nat} {m : Nat} (h : nrT (nrD (fun c => z (3 * m + c)) p) (nrB z p m).2 (nrB z p m).1 = false) : nrB z p (m + 1) = nrB z p m := by
  rw [nrB, if_neg (by rw [h]; decide)]
theorem nrD_cl (e p : Nat → Nat) : nrD (fun c => cl .f32 (e c)) p = nrD e p := by
  unfold nrD
  simp only [fC_cl_l]
/-- The place of a number. -/
def nrP (S : Nat) (m : Int) (c : Nat) : Int := if c = 0 then ((m.toNat % S : Nat) : Int) else if c = 1 then ((m.toNat / S % S : Nat) : Int) else ((m.toNat / S / S : Nat) : Int)

theorem nrD_of {e p : Nat → Nat} {d d0 d1 d2 : Nat} (h0 : cl .f32 d0 = fC .sub .f32 (e 0) (p 0)) (h1 : cl .f32 d1 = fC .sub .f32 (e 1) (p 1)) (h2 : cl .f32 d2 = fC .sub .f32 (e 2) (p 2))
    (h : cl .f32 d = fC .add .f32 (fC .add .f32 (fC .mul .f32 d0 d0) (fC .mul .f32 d1 d1)) (fC .mul .f32 d2 d2)) : cl .f32 d = nrD e p := by
  rw [h]
  unfold nrD
  rw [← h0, ← h1, ← h2]
  simp only [fC_cl_l, fC_cl_r]
theorem nrT_of {d r D L : Nat} {best : Int} (hd : cl .f32 d = D) (hr : cl .f32 r = L) : nrT D L best = (!nan .f32 d && (decide (best < 0) || FloatKind.f32.format.order d r == some .lt)) := by
  subst hd hr
  unfold nrT
  rw [nan_cl, order_cl_l, order_cl_r]
theorem results_tmp4 {fn : Func} {t u v x : Tmp} (h : fn.results = #[.tmp t, .tmp u, .tmp v, .tmp x]) (tmps : Array Value) (P : Program) (w : World) :
    (results fn tmps).run P w = .ok (.tuple #[tmps.getD t undef, tmps.getD u undef, tmps.getD v undef, tmps.getD x undef]) w := by
  simp [results, h]
/-- What is told of a nearest number. -/
def nrR (S : Nat) (m : Int) (c : Nat) : Int := if m < 0 then 0 else nrP S m c
def nrE (m : Int) : Int := if m < 0 then 11 else 0
theorem nrR_at (S n c : Nat) : nrR S (n : Int) c = if c = 0 then ((n % S : Nat) : Int) else if c = 1 then ((n / S % S : Nat) : Int) else ((n / S / S : Nat) : Int) := by
  unfold nrR nrP
  rw [if_neg (by omega), Int.toNat_natCast]
def NrIs (S : Nat) (m : Int) (w : World) (e : Ending) (w' : World) : Prop := e = .returned (.tuple #[.int .i64 (nrR S m 0), .int .i64 (nrR S m 1), .int .i64 (nrR S m 2), .int .i64 (nrE m)]) ∧ Kept None' w w'

set_option linter.unusedSimpArgs false in
set_option linter.unusedVariables false in
set_option maxHeartbeats 4000000 in
set_option maxRecDepth 100000 in
theorem Nearest_err (S : Int) (lo hi : Nat) (A : Option Addr) (n cap : Nat) (p : Nat → Nat) (w : World) (E : Int) (hn : n ≤ 9223372036854775807) (hE : cuE S lo hi n = E) (h0 : ¬ E = 0) :
    Calls Try.prog 42 #[.agg #[.int .i64 S, .float .f32 lo, .float .f32 hi, .slice A n cap], .agg #[.float .f32 (p 0), .float .f32 (p 1), .float .f32 (p 2)]] w fun e w' => e = .returned (.tuple #[.int .i64 0, .int .i64 0, .int .i64 0, .int .i64 E]) ∧ Kept None' w w' := by
  have hb : (E != 0) = true := by simp [h0]
  have HE := Lib.hid hE
  clear hE
  go_enter Try.func42, Try.ntmps42
  go_wp2_with (first | (go_at_call 37; refine (checkcube_any _ _ _ _ _ _ _ hn).mono ?_; rw [HE.out]; rintro e w1 ⟨rfl, hk⟩))
  (try simp only [Exit.inBlock, Exit.then])
  refine bodyPost_ret (results_tmp4 rfl _ _ _) rfl ?_
  exact ⟨rfl, (((Kept.refl None' w).alloc _ _).alloc _ _).trans hk⟩

set_option linter.unusedSimpArgs false in
set_option linter.unusedVariables false in
set_option maxHeartbeats 2000000 in
set_option maxRecDepth 100000 in
theorem Nearest_ok (S : Nat) (lo hi b o n cap : Nat) (z p : Nat → Nat) (w : World) (hE : cuE S lo hi n = 0) (hc : ∀ q, q < n → w.cell? ⟨b, o + q, none⟩ = some (.float .f32 (z q))) (hcap : n ≤ cap) :
    Calls Try.prog 42 #[.agg #[.int .i64 (S : Int), .float .f32 lo, .float .f32 hi, .slice (some ⟨b, o, none⟩) n cap], .agg #[.float .f32 (p 0), .float .f32 (p 1), .float .f32 (p 2)]] w (NrIs S (nrB z p (S * (S * S))).1 w) := by
  obtain ⟨s, hs, s1, s2, hn', hn3, hn4⟩ := cuE_nat hE
  obtain rfl : S = s := by omega
  have hn : n ≤ 9223372036854775807 := by omega
  have HE := Lib.hid hE
  have HC := Lib.hid hc
  obtain ⟨N, hN⟩ : ∃ N, S * (S * S) = N := ⟨_, rfl⟩
  rw [hN] at hn3
  have m4 := (cube_nat (S := S) (by omega)).2
  rw [hN] at m4 ⊢
  have HN3 := Lib.hid (And.intro hn3 (And.intro hN m4))
  clear hE hc hs hn' hn3 hN hn4 m4
  go_enter Try.func42, Try.ntmps42
  go_upto_region 4 with (first | (go_at_call 37; refine (checkcube_any _ _ _ _ _ _ _ hn).mono ?_; rw [HE.out]; rintro e w1 ⟨rfl, hk⟩))
  have k1 := (((Kept.refl None' w).alloc _ _).alloc _ _).trans hk
  have hB : CubB w.heap.size S lo hi b o n cap w1 := ⟨hk.some (by go_simp) id, hk.some (by go_simp) id, hk.some (by go_simp) id, hk.some (by go_simp) id⟩
  have x0 := hk.some (p := ⟨w.heap.size + 1, 0, none⟩) (v := .float .f32 (p 0)) (by go_simp) id
  have x1 := hk.some (p := ⟨w.heap.size + 1, 1, none⟩) (v := .float .f32 (p 1)) (by go_simp) id
  have x2 := hk.some (p := ⟨w.heap.size + 1, 2, none⟩) (v := .float .f32 (p 2)) (by go_simp) id
  have hc1 : ∀ q, q < n → w1.cell? ⟨b, o + q, none⟩ = some (.float .f32 (z q)) := fun q hq => k1.some (HC.out q hq) id
  have HB := Lib.hid hB
  have HX := Lib.hid (And.intro x0 (And.intro x1 x2))
  have HC1 := Lib.hid hc1
  have K1 := Lib.hid k1
  clear hk x0 x1 x2 hc1 k1 HC hB
  generalize w.heap.size = T at *
  have w7 : (n : Int) / 3 = (N : Int) := by have hn3 := HN3.out.1; omega
  go_wp2_with fail
  go_loopw [9, 10, 11] (fun s9 s10 s11 wr => ∃ m r : Nat, m ≤ N ∧ s11 = .int .i64 (m : Int) ∧ s9 = .int .i64 (nrB z p m).1 ∧ s10 = .float .f32 r ∧ cl .f32 r = (nrB z p m).2 ∧ Kept None' w1 wr) (fun _ _ s11 _ => (N - intOf s11).toNat)
  case atStart => exact ⟨0, 0, by omega, rfl, rfl, rfl, by show cl .f32 0 = 0; decide +kernel, Kept.refl _ _⟩
  case round =>
    obtain ⟨m, r, hm, rfl, rfl, rfl, hr, hk⟩ := hrel
    obtain ⟨b1, b2⟩ := nrB_bd z p m
    have HK := Lib.hid hk
    have HR := Lib.hid hr
    obtain ⟨t0, t1, t2, t3⟩ := HB.out.step hk id
    clear hk hr
    by_cases hlt : m < N
    · have d1 : decide ((m : Int) < (N : Int)) = true := decide_eq_true (by omega)
      obtain ⟨j, hj⟩ : ∃ j, 3 * m = j := ⟨_, rfl⟩
      have hn3 := HN3.out.1
      have m4 := HN3.out.2.2
      have v0 : IntKind.i64.wrap (3 * (m : Int)) = (j : Int) := (IntWalk.i64_in _ (by omega)).trans (by omega)
      have v1 : IntKind.i64.wrap ((j : Int) + 1) = ((j + 1 : Nat) : Int) := (IntWalk.i64_in _ (by omega)).trans (by omega)
      have v2 : IntKind.i64.wrap ((j : Int) + 2) = ((j + 2 : Nat) : Int) := (IntWalk.i64_in _ (by omega)).trans (by omega)
      obtain ⟨best, hbest⟩ : ∃ q, (nrB z p m).1 = q := ⟨_, rfl⟩
      have hNext : (nrT (nrD (fun c => z (j + c)) p) (nrB z p m).2 best = true → nrB z p (m + 1) = ((m : Int), nrD (fun c => z (j + c)) p)) ∧ (nrT (nrD (fun c => z (j + c)) p) (nrB z p m).2 best = false → nrB z p (m + 1) = nrB z p m) :=
        ⟨fun h => by subst hj hbest; exact nrB_yes h, fun h => by subst hj hbest; exact nrB_no h⟩
      rw [hbest]
      have HN := Lib.hid hNext
      have A0 := ext_cell t3
      have A1 := ext_cell (HK.out.some (HC1.out j (by omega)) id)
      have A2 := ext_cell (HK.out.some (HC1.out (j + 1) (by omega)) id)
      have A3 := ext_cell (HK.out.some (HC1.out (j + 2) (by omega)) id)
      have A4 := ext_cell (HK.out.some HX.out.1 id)
      have A5 := ext_cell (HK.out.some HX.out.2.1 id)
      have A6 := ext_cell (HK.out.some HX.out.2.2 id)
      have i0 : (j : Int) < n := by omega
      have i1 : ((j + 1 : Nat) : Int) < n := by omega
      have i2 : ((j + 2 : Nat) : Int) < n := by omega
      have HB12 := Lib.hid (And.intro b1 (And.intro b2 (And.intro hj hbest)))
      clear hNext b1 b2 hj hbest hn3 m4
      go_upto_region 9 with fail
      refine region_with (by kernel_rfl) (by kernel_rfl) ?_
      repeat (first
        | (refine wpWith_det ?_; go_big_quiet_want; go_big_quiet_op; go_big_quiet_on; refine wpQuiet_nil ?_)
        | (refine wpWith_det ?_; go_big_quiet_skip; refine wpQuiet_nil ?_)
        | fail)
      refine wpWith_float (by rfl) rfl (by simp) rfl rfl (fun d0 h0 => ?_)
      simp only [Act.put, List.setIfInBounds_toArray, List.set_cons_zero, List.set_cons_succ]
      repeat (first
        | (refine wpWith_det ?_; go_big_quiet_want; go_big_quiet_op; go_big_quiet_on; refine wpQuiet_nil ?_)
        | (refine wpWith_det ?_; go_big_quiet_skip; refine wpQuiet_nil ?_)
        | fail)
      refine wpWith_float (by rfl) rfl (by simp) rfl rfl (fun d1 h1 => ?_)
      simp only [Act.put, List.setIfInBounds_toArray, List.set_cons_zero, List.set_cons_succ]
      repeat (first
        | (refine wpWith_det ?_; go_big_quiet_want; go_big_quiet_op; go_big_quiet_on; refine wpQuiet_nil ?_)
        | (refine wpWith_det ?_; go_big_quiet_skip; refine wpQuiet_nil ?_)
        | fail)
      refine wpWith_float (by rfl) rfl (by simp) rfl rfl (fun d2 h2 => ?_)
      simp only [Act.put, List.setIfInBounds_toArray, List.set_cons_zero, List.set_cons_succ]
      repeat (first
        | (refine wpWith_det ?_; go_big_quiet_want; go_big_quiet_op; go_big_quiet_on; refine wpQuiet_nil ?_)
        | (refine wpWith_det ?_; go_big_quiet_skip; refine wpQuiet_nil ?_)
        | fail)
      refine wpWith_nil ?_
      rintro _ ⟨xq, rfl⟩
      have KE := Lib.hid (HK.out.trans (ext_kept _ xq))
      have HD := Lib.hid (And.intro h0 (And.intro h1 h2))
      clear A0 A1 A2 A3 A4 A5 A6 h0 h1 h2 v0 v1 v2 i0 i1 i2 t0 t1 t2 t3
      generalize ext _ xq = W2 at *
      go_upto_region 10 with fail
      go_cut [15] (fun s15 wx => ∃ d, s15 = .float .f32 d ∧ cl .f32 d = nrD (fun c => z (j + c)) p ∧ Kept None' w1 wx)
      case first =>
        go_wp2_with fail
        go_meet
        refine ⟨_, rfl, nrD_of HD.out.1 HD.out.2.1 HD.out.2.2 (by simp only [cl_fV', fC_fV_l, fC_fV_r]), ?_⟩
        repeat (first | exact KE.out | refine Kept.drew ?_ _)
      case rest =>
        obtain ⟨d, rfl, hd, hk⟩ := hcut
        have hT := nrT_of (best := best) hd HR.out
        have HD2 := Lib.hid (And.intro hd (And.intro hk hT))
        clear hd hk hT
        cases hn : nan .f32 d with
        | true =>
          have q := order_nan' hn
          go_wp2_with fail
          go_roundw
          case rel =>
            have hF := HN.out.2 (by rw [HD2.out.2.2, hn]; rfl)
            exact ⟨m + 1, r, by omega, by go_num, by rw [hF, HB12.out.2.2.2], rfl, by rw [hF]; exact HR.out, HD2.out.2.1⟩
          case measure => simp [intOf]; omega
        | false =>
          have q := order_nn hn
          cases hb0 : decide (best < 0) with
          | true =>
            go_wp2_with fail
            go_roundw
            case rel =>
              have hF := HN.out.1 (by rw [HD2.out.2.2, hn, hb0]; rfl)
              exact ⟨m + 1, d, by omega, by go_num, by rw [hF], rfl, by rw [hF]; exact HD2.out.1, HD2.out.2.1⟩
            case measure => simp [intOf]; omega
          | false =>
            cases ho : (FloatKind.f32.format.order d r == some .lt) with
            | true =>
              go_wp2_with fail
              go_roundw
              case rel =>
                have hF := HN.out.1 (by rw [HD2.out.2.2, hn, hb0, ho]; rfl)
                exact ⟨m + 1, d, by omega, by go_num, by rw [hF], rfl, by rw [hF]; exact HD2.out.1, HD2.out.2.1⟩
              case measure => simp [intOf]; omega
            | false =>
              go_wp2_with fail
              go_roundw
              case rel =>
                have hF := HN.out.2 (by rw [HD2.out.2.2, hn, hb0, ho]; rfl)
                exact ⟨m + 1, r, by omega, by go_num, by rw [hF, HB12.out.2.2.2], rfl, by rw [hF]; exact HR.out, HD2.out.2.1⟩
              case measure => simp [intOf]; omega
    · obtain rfl : m = N := by omega
      have d1 : decide ((m : Int) < (m : Int)) = false := by simp
      obtain ⟨best, hbest⟩ : ∃ q, (nrB z p m).1 = q := ⟨_, rfl⟩
      rw [hbest] at b1 b2 ⊢
      have HBest := Lib.hid hbest
      clear hbest
      have KE := Lib.hid (K1.out.trans HK.out)
      cases hb0 : decide (best < 0) with
      | true =>
        clear b1 b2
        go_wp2_with fail
        (try simp only [Exit.inBlock, Exit.then])
        refine bodyPost_ret (results_tmp4 rfl _ _ _) rfl ?_
        refine ⟨?_, KE.out⟩
        show Ending.returned (.tuple #[.int .i64 0, .int .i64 0, .int .i64 0, .int .i64 11]) = _
        have hb1 := of_decide_eq_true hb0
        have g : ∀ c, nrR S best c = 0 := fun c => if_pos hb1
        have g2 : nrE best = 11 := if_pos hb1
        rw [HBest.out, g, g, g, g2]
      | false =>
        have hb1 := of_decide_eq_false hb0
        obtain ⟨n', rfl⟩ : ∃ n' : Nat, best = n' := ⟨best.toNat, by omega⟩
        have e0 := nrR_at S n' 0
        have e1 := nrR_at S n' 1
        have e2 := nrR_at S n' 2
        rw [if_pos rfl] at e0
        rw [if_neg (by decide), if_pos rfl] at e1
        rw [if_neg (by decide), if_neg (by decide)] at e2
        have e3 : nrE (n' : Int) = 0 := by unfold nrE; rw [if_neg (by omega)]
        have HR3 := Lib.hid (And.intro e0 (And.intro e1 (And.intro e2 e3)))
        clear e0 e1 e2 e3 hb1
        have b3 : n' ≤ 4913 := by have := HN3.out.2.2; omega
        have t1' : ((n' : Int)).tmod (S : Int) = ((n' % S : Nat) : Int) := by rw [Int.tmod_eq_emod_of_nonneg (Int.natCast_nonneg _)]; simp
        have t2' : ((n' : Int)).tdiv (S : Int) = ((n' / S : Nat) : Int) := by rw [Int.tdiv_eq_ediv_of_nonneg (Int.natCast_nonneg _)]; simp
        have t3' : (((n' / S : Nat) : Int)).tmod (S : Int) = ((n' / S % S : Nat) : Int) := by rw [Int.tmod_eq_emod_of_nonneg (Int.natCast_nonneg _)]; simp
        have t4' : (((n' / S : Nat) : Int)).tdiv (S : Int) = ((n' / S / S : Nat) : Int) := by rw [Int.tdiv_eq_ediv_of_nonneg (Int.natCast_nonneg _)]; simp
        have d1' : n' / S ≤ n' := Nat.div_le_self _ _
        have d2' : n' / S / S ≤ n' / S := Nat.div_le_self _ _
        have d3' : n' % S ≤ n' := Nat.mod_le _ _
        have d4' : n' / S % S ≤ n' / S := Nat.mod_le _ _
        have v1 : IntKind.i64.wrap ((n' % S : Nat) : Int) = ((n' % S : Nat) : Int) := i64_nat (by omega)
        have v2 : IntKind.i64.wrap ((n' / S : Nat) : Int) = ((n' / S : Nat) : Int) := i64_nat (by omega)
        have v3 : IntKind.i64.wrap ((n' / S % S : Nat) : Int) = ((n' / S % S : Nat) : Int) := i64_nat (by omega)
        have v4 : IntKind.i64.wrap ((n' / S / S : Nat) : Int) = ((n' / S / S : Nat) : Int) := i64_nat (by omega)
        have hS0 : ¬ (S : Int) = 0 := by omega
        have hS1 : ((S : Int) == 0) = false := by simp; omega
        clear b1 b2 d1' d2' d3' d4'
        generalize n' % S = i at *
        generalize n' / S % S = j at *
        generalize n' / S / S = k at *
        generalize n' / S = l at *
        have A0 := ext_cell t0
        go_upto_region 15 with fail
        refine region_ext (by kernel_rfl) (by kernel_rfl) ?_
        repeat (first
          | go_big_quiet_skip
          | (go_big_quiet_want; go_big_quiet_op; first | go_big_quiet_on | go_big_quiet_call (first
            | (fail))))
        refine wpQuiet_nil ?_
        rintro _ ⟨xq, rfl⟩
        have KF := Lib.hid (KE.out.trans (ext_kept _ xq))
        clear A0 t1' t2' t3' t4' v1 v2 v3 v4 t0 t1 t2 t3
        generalize ext _ xq = W3 at *
        go_wp2_with fail
        (try simp only [Exit.inBlock, Exit.then])
        refine bodyPost_ret (results_tmp4 rfl _ _ _) rfl ?_
        refine ⟨?_, KF.out⟩
        show Ending.returned (.tuple #[.int .i64 (i : Int), .int .i64 (j : Int), .int .i64 (k : Int), .int .i64 0]) = .returned (.tuple #[.int .i64 (nrR S (nrB z p m).1 0), .int .i64 (nrR S (nrB z p m).1 1), .int .i64 (nrR S (nrB z p m).1 2), .int .i64 (nrE (nrB z p m).1)])
        rw [HBest.out, HR3.out.1, HR3.out.2.1, HR3.out.2.2.1, HR3.out.2.2.2]
end Go.Proofs.Ytkmganophcklgaa
