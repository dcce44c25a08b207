/- The contract of SmoothedOf's function. Conditions: none. -/
import Derived.Test.YtkmganophcklgaaC4
namespace Go.Proofs.Ytkmganophcklgaa
open Go.RowKit
open Fl Fr
open BigFrame

/-- The table of the steps to the neighbours. -/
def NbT (D : Nat) (w : World) : Prop := ∀ t c, t < 6 → c < 3 → w.cell? ⟨D, 3 * t + c, none⟩ = some (.int .i64 (nbD t c))
theorem NbT.step {D : Nat} {w w' : World} (h : NbT D w) (k : Kept None' w w') : NbT D w' := fun t c ht hc => k.some (h t c ht hc) id
theorem nbD_bd (t c : Nat) : -1 ≤ nbD t c ∧ nbD t c ≤ 1 := by
  unfold nbD
  split <;> (try split) <;> omega

set_option linter.unusedSimpArgs false in
set_option linter.unusedVariables false in
set_option maxHeartbeats 8000000 in
set_option maxRecDepth 100000 in
theorem smoothedof1_any (S : Int) (lo hi b o n cap T : Nat) (E : Int → Int → Int → Nat → Nat) (i j k : Int) (w : World) (s1 : 2 ≤ S) (s2 : S ≤ 17) (i0 : 0 ≤ i) (i1 : i < S) (j0 : 0 ≤ j) (j1 : j < S) (k0 : 0 ≤ k) (k1 : k < S)
    (hB : CubB T S lo hi b o n cap w)
    (hE : ∀ (x y z : Int) (wr : World), Kept None' w wr → 0 ≤ x → x < S → 0 ≤ y → y < S → 0 ≤ z → z < S → Calls Try.prog 20 #[.agg #[.int .i64 S, .float .f32 lo, .float .f32 hi, .slice (some ⟨b, o, none⟩) n cap], .int .i64 x, .int .i64 y, .int .i64 z] wr fun e w' =>
      e = .returned (.agg #[.float .f32 (E x y z 0), .float .f32 (E x y z 1), .float .f32 (E x y z 2)]) ∧ Kept None' wr w') :
    Calls Try.prog 76 #[.int .i64 i, .int .i64 j, .int .i64 k, .pointer (some ⟨T, 0, none⟩)] w fun e w' =>
      ∃ r : Nat → Nat, e = .returned (.agg #[.float .f32 (r 0), .float .f32 (r 1), .float .f32 (r 2)]) ∧ (∀ c, c < 3 → cl .f32 (r c) = smF E S i j k c) ∧ Kept None' w w' := by
  have HE := Lib.hid hE
  have HB := Lib.hid hB
  clear hE hB
  go_enter Try.func76, Try.ntmps76
  go_upto_region 2 with (fail)
  refine of_world (fun W0 hW => ?_)
  have k0 : Kept None' w W0 := by rw [hW]; exact ((Kept.refl None' w).alloc _ _).alloc _ _
  have r0 : W0.cell? ⟨w.heap.size, 0, none⟩ = some (.float .f32 0) := by rw [hW]; go_simp
  have r1 : W0.cell? ⟨w.heap.size, 1, none⟩ = some (.float .f32 0) := by rw [hW]; go_simp
  have r2 : W0.cell? ⟨w.heap.size, 2, none⟩ = some (.float .f32 0) := by rw [hW]; go_simp
  have g0 : W0.cell? ⟨w.heap.size + 1, 0, none⟩ = some (.float .f32 0) := by rw [hW]; go_simp
  have g1 : W0.cell? ⟨w.heap.size + 1, 1, none⟩ = some (.float .f32 0) := by rw [hW]; go_simp
  have g2 : W0.cell? ⟨w.heap.size + 1, 2, none⟩ = some (.float .f32 0) := by rw [hW]; go_simp
  have zz : ∀ a : Addr, w.heap.size ≤ a.block → W0.frozen? a = false := fun a ha => by rw [hW]; exact (frozen?_alloc_cells _ _ _ _).trans ((frozen?_alloc_cells _ _ _ _).trans (frozen_new _ _ ha))
  have hS0 : SfS W0 (w.heap.size + 1) (fun c => if c < 0 then smF E S i j k c else 0) W0 := ⟨Kept.refl _ _, fun _ => 0, fun c hc => by
    obtain rfl | rfl | rfl : c = 0 ∨ c = 1 ∨ c = 2 := by omega
    · exact ⟨g0, by show cl .f32 0 = 0; decide +kernel⟩
    · exact ⟨g1, by show cl .f32 0 = 0; decide +kernel⟩
    · exact ⟨g2, by show cl .f32 0 = 0; decide +kernel⟩⟩
  have hTl := cell_lt HB.out.c0
  have HR := Lib.hid (And.intro r0 (And.intro r1 r2))
  have HS0 := Lib.hid hS0
  have Z0 := Lib.hid zz
  have K0 := Lib.hid k0
  clear hW zz k0 r0 r1 r2 g0 g1 g2 hS0
  generalize hG : w.heap.size + 1 = G at *
  generalize hR : w.heap.size = R at *
  have HN := Lib.hid (And.intro hG (And.intro hR (show T < R from hTl)))
  clear hG hR hTl
  go_wp2_with fail
  go_loopw [18] (fun s18 wr => ∃ m : Nat, m ≤ 3 ∧ s18 = .int .i64 (m : Int) ∧ SfS W0 G (fun c => if c < m then smF E S i j k c else 0) wr) (fun s18 _ => (3 - intOf s18).toNat)
  case atStart => exact ⟨0, by omega, rfl, HS0.out⟩
  case round =>
    obtain ⟨m, hm, rfl, hS⟩ := hrel
    have HS := Lib.hid hS
    clear hS
    by_cases hlt : m < 3
    · have d1 : decide ((m : Int) < 3) = true := decide_eq_true (by omega)
      have m0 : 0 ≤ (m : Int) := by omega
      have m1 : (m : Int) < 3 := by omega
      go_upto_region 8 with (fail)
      refine of_world (fun Wb hWb => ?_)
      have kb : Kept None' wr Wb := by rw [hWb]; exact (Kept.refl _ _).alloc _ _
      have hD : NbT wr.heap.size Wb := fun t c ht hc => by
        rw [hWb]
        refine (cell_alloc_one wr _ _ (3 * t + c)).trans ?_
        obtain rfl | rfl | rfl | rfl | rfl | rfl : t = 0 ∨ t = 1 ∨ t = 2 ∨ t = 3 ∨ t = 4 ∨ t = 5 := by omega
        all_goals
          obtain rfl | rfl | rfl : c = 0 ∨ c = 1 ∨ c = 2 := by omega
          all_goals rfl
      have hSb := HS.out.step kb
      generalize wr.heap.size = D at *
      have HD := Lib.hid hD
      have HSb := Lib.hid hSb
      clear hWb kb hD hSb
      have KW := Lib.hid (kept_over K0.out HSb.out.kept (fun q hq => by have := HN.out; omega))
      go_wp2_with fail
      go_loopw [10, 11, 29] (fun s10 s11 s29 wr2 => ∃ t r : Nat, t ≤ 6 ∧ s29 = .int .i64 (t : Int) ∧ s10 = .float .f32 r ∧ cl .f32 r = nbS E S i j k m t ∧ s11 = .int .i64 (nbN S i j k t : Int) ∧ Kept None' Wb wr2) (fun _ _ s29 _ => (6 - intOf s29).toNat)
      case atStart => exact ⟨0, 0, by omega, rfl, rfl, by show cl .f32 0 = 0; decide +kernel, rfl, Kept.refl _ _⟩
      case round =>
        obtain ⟨t, r, ht, rfl, rfl, hr, rfl, hk⟩ := hrel
        have nb2 := nbN_le S i j k t
        have HK := Lib.hid hk
        have HRR := Lib.hid hr
        clear hk hr
        by_cases hlt2 : t < 6
        · have d2 : decide ((t : Int) < 6) = true := decide_eq_true (by omega)
          go_upto_region 9 with (fail)
          go_cut [13] (fun s13 wx => ∃ Q, s13 = .pointer (some ⟨Q, 0, none⟩) ∧ (wx.cell? ⟨Q, 0, none⟩ = some (.int .i64 (nbD t 0)) ∧ wx.cell? ⟨Q, 1, none⟩ = some (.int .i64 (nbD t 1)) ∧ wx.cell? ⟨Q, 2, none⟩ = some (.int .i64 (nbD t 2))) ∧ Kept None' wr wx)
          case first =>
            have hD := HD.out.step HK.out
            clear nb2 HRR
            obtain rfl | rfl | rfl | rfl | rfl | rfl : t = 0 ∨ t = 1 ∨ t = 2 ∨ t = 3 ∨ t = 4 ∨ t = 5 := by omega
            all_goals
              have a0 := hD _ 0 hlt2 (by omega)
              have a1 := hD _ 1 hlt2 (by omega)
              have a2 := hD _ 2 hlt2 (by omega)
              clear hD
              go_wp2_with fail
              go_meet
              exact ⟨_, rfl, ⟨cell_alloc_one wr _ _ 0, cell_alloc_one wr _ _ 1, cell_alloc_one wr _ _ 2⟩, (Kept.refl _ _).alloc _ _⟩
          case rest =>
            obtain ⟨Q, rfl, ⟨q0, q1, q2⟩, hkx⟩ := hcut
            obtain ⟨da, db⟩ := nbD_bd t 0
            obtain ⟨db1, db2⟩ := nbD_bd t 1
            obtain ⟨dc1, dc2⟩ := nbD_bd t 2
            have hP0 : nbP i j k t 0 = i + nbD t 0 := rfl
            have hP1 : nbP i j k t 1 = j + nbD t 1 := rfl
            have hP2 : nbP i j k t 2 = k + nbD t 2 := rfl
            have hV : nbV S i j k t = (inB (i + nbD t 0) 0 (S - 1) && inB (j + nbD t 1) 0 (S - 1) && inB (k + nbD t 2) 0 (S - 1)) := rfl
            have hVI := nbV_in (S := S) (i := i) (j := j) (k := k) (t := t)
            rw [hP0, hP1, hP2] at hVI
            have hSN := fun c => nbS_no (E := E) (c := c) (S := S) (i := i) (j := j) (k := k) (t := t)
            have hNN := nbN_no (S := S) (i := i) (j := j) (k := k) (t := t)
            have hNY := nbN_yes (S := S) (i := i) (j := j) (k := k) (t := t)
            have hSY := fun c => nbS_yes (E := E) (S := S) (i := i) (j := j) (k := k) (c := c) (t := t)
            rw [hP0, hP1, hP2] at hSY
            have HP := Lib.hid (And.intro hV (And.intro hVI (And.intro hSN (And.intro hNN (And.intro hNY hSY)))))
            clear hP0 hP1 hP2 hV hVI hSN hNN hNY hSY
            generalize nbD t 0 = x0 at *
            generalize nbD t 1 = x1 at *
            generalize nbD t 2 = x2 at *
            have A0 := ext_cell q0
            have A1 := ext_cell q1
            have A2 := ext_cell q2
            have v0 : IntKind.i64.wrap (i + x0) = i + x0 := IntWalk.i64_in _ (by omega)
            have v1 : IntKind.i64.wrap (j + x1) = j + x1 := IntWalk.i64_in _ (by omega)
            have v2 : IntKind.i64.wrap (k + x2) = k + x2 := IntWalk.i64_in _ (by omega)
            have HKX := Lib.hid hkx
            clear hkx q0 q1 q2
            go_wp2_with fail
            refine region_ext (by kernel_rfl) (by kernel_rfl) ?_
            repeat (first
              | go_big_quiet_skip
              | (go_big_quiet_want; go_big_quiet_op; first | go_big_quiet_on | go_big_quiet_call (first
                | (fail))))
            refine wpQuiet_nil ?_
            rintro _ ⟨xq, rfl⟩
            have kx := HKX.out.trans (ext_kept _ xq)
            have HKX2 := Lib.hid kx
            obtain ⟨t0, t1, t2, t3⟩ := (HB.out.step KW.out id).step (HK.out.trans kx) id
            clear A0 A1 A2 v0 v1 v2 kx HKX
            generalize ext _ xq = W3 at *
            cases hx : inB (i + x0) 0 (S - 1) with
            | false =>
              go_wp2_with (first
                | (go_at_call 15; refine (in_one _ _ _ _).mono ?_; (first | rw [hx]); rintro e w' ⟨rfl, rfl⟩))
              go_roundw
              case rel =>
                have hno : nbV S i j k t = false := by rw [HP.out.1, hx]; simp
                exact ⟨t + 1, r, by omega, by go_num, rfl, HRR.out.trans (HP.out.2.2.1 m hno).symm, by rw [HP.out.2.2.2.1 hno], HK.out.trans HKX2.out⟩
              case measure => simp [intOf]; omega
            | true =>
              cases hy : inB (j + x1) 0 (S - 1) with
              | false =>
                go_wp2_with (first
                  | (go_at_call 15; refine (in_one _ _ _ _).mono ?_; (first | rw [hx] | rw [hy]); rintro e w' ⟨rfl, rfl⟩))
                go_roundw
                case rel =>
                  have hno : nbV S i j k t = false := by rw [HP.out.1, hy]; simp
                  exact ⟨t + 1, r, by omega, by go_num, rfl, HRR.out.trans (HP.out.2.2.1 m hno).symm, by rw [HP.out.2.2.2.1 hno], HK.out.trans HKX2.out⟩
                case measure => simp [intOf]; omega
              | true =>
                cases hz : inB (k + x2) 0 (S - 1) with
                | false =>
                  go_wp2_with (first
                    | (go_at_call 15; refine (in_one _ _ _ _).mono ?_; (first | rw [hx] | rw [hy] | rw [hz]); rintro e w' ⟨rfl, rfl⟩))
                  go_roundw
                  case rel =>
                    have hno : nbV S i j k t = false := by rw [HP.out.1, hz]; simp
                    exact ⟨t + 1, r, by omega, by go_num, rfl, HRR.out.trans (HP.out.2.2.1 m hno).symm, by rw [HP.out.2.2.2.1 hno], HK.out.trans HKX2.out⟩
                  case measure => simp [intOf]; omega
                | true =>
                  have hyes : nbV S i j k t = true := by rw [HP.out.1, hx, hy, hz]; rfl
                  obtain ⟨⟨v0, v1⟩, ⟨v2, v3⟩, ⟨v4, v5⟩⟩ := HP.out.2.1 hyes
                  have hY := HP.out.2.2.2.2.1 hyes
                  have hSY := HP.out.2.2.2.2.2 m hyes
                  have hC := fun wr' hw => HE.out (i + x0) (j + x1) (k + x2) wr' hw v0 v1 v2 v3 v4 v5
                  obtain ⟨e, he⟩ : ∃ e : Nat → Nat, ∀ c, E (i + x0) (j + x1) (k + x2) c = e c := ⟨_, fun _ => rfl⟩
                  simp only [he] at hC hSY
                  have ix := ar3_idx e m hlt
                  obtain ⟨q, hq⟩ : ∃ q : Nat, nbN S i j k t = q := ⟨_, rfl⟩
                  simp only [hq] at hY hSY nb2
                  rw [hq]
                  have HC := Lib.hid hC
                  have HY := Lib.hid (And.intro hY hSY)
                  have K7 := Lib.hid ((KW.out.trans HK.out).trans HKX2.out)
                  clear hyes hY hSY hC he hq v0 v1 v2 v3 v4 v5
                  cases hm0 : ((q : Int) == 0) with
                  | _ =>
                    go_wp2_with (first
                      | (go_at_call 15; refine (in_one _ _ _ _).mono ?_; (first | rw [hx] | rw [hy] | rw [hz]); rintro e w' ⟨rfl, rfl⟩)
                      | (go_at_call 20; refine (HC.out _ K7.out).mono ?_; rintro e w' ⟨rfl, hk5⟩; have K5 := Lib.hid hk5; clear hk5))
                    go_roundw
                    case rel =>
                      first
                        | exact ⟨t + 1, _, by omega, by go_num, rfl, by rw [HY.out.2, if_pos (by simpa using hm0)], by rw [HY.out.1]; rfl, (HK.out.trans HKX2.out).trans K5.out⟩
                        | exact ⟨t + 1, _, by omega, by go_num, rfl, by rw [HY.out.2, if_neg (by simpa using hm0), cl_fV', ← HRR.out, fC_cl_l], by rw [HY.out.1]; rfl, ((HK.out.trans HKX2.out).trans K5.out).drew _⟩
                    case measure => simp [intOf]; omega
        · obtain rfl : t = 6 := by omega
          have d2 : decide (((6 : Nat) : Int) < 6) = false := by decide
          obtain ⟨t0, t1, t2, t3⟩ := (HB.out.step KW.out id).step HK.out id
          have hC := fun wr' hw => HE.out i j k wr' hw i0 i1 j0 j1 k0 k1
          obtain ⟨e, he⟩ : ∃ e : Nat → Nat, ∀ c, E i j k c = e c := ⟨_, fun _ => rfl⟩
          obtain ⟨q, hq⟩ : ∃ q : Nat, nbN S i j k 6 = q := ⟨_, rfl⟩
          have hF : smF E S i j k m = fC .quo .f32 (fC .add .f32 (fC .mul .f32 (e m) 1073741824) r) (floatOfInt .f32 (2 + (q : Int))) := by
            unfold smF; rw [he, ← HRR.out, fC_cl_r, hq]
          simp only [he] at hC
          simp only [hq] at nb2
          rw [hq]
          have ix := ar3_idx e m hlt
          have wm : IntKind.i64.wrap (2 + (q : Int)) = 2 + (q : Int) := IntWalk.i64_in _ (by omega)
          have HC := Lib.hid hC
          have HF := Lib.hid hF
          have K7 := Lib.hid (KW.out.trans HK.out)
          clear hC he hq hF
          go_wp2_with (first
            | (go_at_call 20; refine (HC.out _ K7.out).mono ?_; rintro e w5 ⟨rfl, hk5⟩; have HS5 := Lib.hid (HSb.out.step (HK.out.trans hk5)); obtain ⟨r', hr'⟩ := HS5.out.cells; have cg := (hr' m hlt).1; have zg : w5.frozen? ⟨G, m, none⟩ = false := (HS5.out.kept.frozen _).trans (Z0.out _ (by have := HN.out; show R ≤ G; omega)); clear hk5 hr'))
          go_roundw
          case rel =>
            refine ⟨m + 1, by omega, by go_num, soft_one (HS5.out.step ((Kept.refl _ _).drew _)) hlt ?_⟩
            rw [HF.out, cl_fV', fC_fV_l, ← fC_cl_l .quo .f32 (fC .add .f32 _ _), cl_fC, fC_fV_l]
          case measure => simp [intOf]; omega
    · obtain rfl : m = 3 := by omega
      have d1 : decide (((3 : Nat) : Int) < 3) = false := by decide
      obtain ⟨r, hr⟩ := HS.out.cells
      have c0 := (hr 0 (by omega)).1
      have c1 := (hr 1 (by omega)).1
      have c2 := (hr 2 (by omega)).1
      obtain ⟨g0, g1, g2⟩ := HR.out
      have nG : ¬ R = G := by have := HN.out; omega
      have r0 := HS.out.kept.some g0 nG
      have r1 := HS.out.kept.some g1 nG
      have r2 := HS.out.kept.some g2 nG
      have z0 := (HS.out.kept.frozen ⟨R, 0, none⟩).trans (Z0.out _ (Nat.le_refl _))
      have z1 := (HS.out.kept.frozen ⟨R, 1, none⟩).trans (Z0.out _ (Nat.le_refl _))
      have z2 := (HS.out.kept.frozen ⟨R, 2, none⟩).trans (Z0.out _ (Nat.le_refl _))
      have HRR := Lib.hid (fun c hc => (hr c hc).2)
      have KE := Lib.hid (kept_over K0.out HS.out.kept (fun q hq => by have := HN.out; omega))
      clear hr g0 g1 g2 nG
      go_wp2_with fail
      have cs := cells_set3 (v0 := .float .f32 (r 0)) (v1 := .float .f32 (r 1)) (v2 := .float .f32 (r 2)) r0 r1 r2
      refine bodyPost_ret (ar3_ret Try.results76 _ _ R _ _ _ cs.1 cs.2.1 cs.2.2 rfl) rfl ?_
      refine ⟨r, rfl, fun c hc => ?_, kept_set3 KE.out (by have := HN.out; omega)⟩
      rw [HRR.out c hc, if_pos hc]
end Go.Proofs.Ytkmganophcklgaa
