/- The walk of PacksMatch. Conditions: none. -/
import Derived.Test.YtfphhlodfieopaaUe
import Derived.Test.YtfphhlodfieopaaFi
import Derived.Test.YtfphhlodfieopaaRg
namespace Go.Proofs.Ytfphhlodfieopaa
open Go.RowKit
open BigFrame


set_option linter.unusedSimpArgs false in
set_option linter.unusedVariables false in
set_option maxHeartbeats 8000000 in
set_option maxRecDepth 100000 in
theorem pm_kind (A : Option Addr) (n cap : Nat) (d many : Int) (text : ByteArray) (w : World) (hd : pkB d = false) :
    Calls Try.prog 5 #[.slice A n cap, .int .i64 d, .int .i64 many, .string text] w fun e w' => e = .returned (.bool true) ∧ Kept None' w w' := by
  have e8 : (d != 8) = true := by unfold pkB at hd; simp at hd; simp [hd]
  have e10 : (d != 10) = true := by unfold pkB at hd; simp at hd; simp [hd]
  have e16 : (d != 16) = true := by unfold pkB at hd; simp at hd; simp [hd]
  cases hl : decide ((65536 : Int) < n) <;> cases hm : inB many 0 65536
  all_goals
    go_enter Try.func5, Try.ntmps5
    go_wp2_with (first
      | (go_at_call 28; refine (pack_e1 _ _ _ d _ hd).mono ?_; rintro e w' ⟨rfl, rfl⟩)
      | (go_at_call 30; refine (unpack_e1 _ _ d _ hd).mono ?_; rintro e w8 ⟨rfl, hk8⟩)
      | (go_at_call 14; refine (when_any _ _ _).mono ?_; rintro e w' ⟨rfl, rfl⟩)
      | (go_at_call 15; refine (in_one _ _ _ _).mono ?_; rw [hm]; rintro e w' ⟨rfl, rfl⟩)
      | (go_at_call 16; refine (finishes_one _).mono ?_; rintro e w' ⟨rfl, nf, rfl⟩)
      | (go_at_call 12; refine (first2_any _ _ 1 _ _ (by go_simp) (by go_simp; rfl)).mono ?_; rintro e w' ⟨rfl, rfl⟩)
      | fail)
    go_ret
    refine ⟨rfl, Kept.alloc ?_ _ _⟩
    refine Kept.trans ?_ hk8
    repeat (first | exact Kept.refl _ _ | refine Kept.drew ?_ _ | refine Kept.alloc ?_ _ _)
set_option linter.unusedSimpArgs false in
set_option linter.unusedVariables false in
set_option maxHeartbeats 8000000 in
set_option maxRecDepth 100000 in
theorem pm_8_L (A : Option Addr) (n cap : Nat) (many : Int) (text : ByteArray) (w : World) (hl : decide ((65536 : Int) < n) = true) :
    Calls Try.prog 5 #[.slice A n cap, .int .i64 8, .int .i64 many, .string text] w fun e w' => e = .returned (.bool true) ∧ Kept None' w w' := by
  go_enter Try.func5, Try.ntmps5
  go_upto_region 4 with (first
    | (go_at_call 28; refine (pack_e2 A n cap 8 _ rfl hl).mono ?_; rintro e w' ⟨rfl, rfl⟩)
    | (go_at_call 14; refine (when_any _ _ _).mono ?_; rintro e w' ⟨rfl, rfl⟩)
    | (go_at_call 12; refine (first2_any _ _ 0 4 _ (by go_simp) (by go_simp)).mono ?_; rintro e w' ⟨rfl, rfl⟩)
    | fail)
  refine of_world (fun W4 hW => ?_)
  have k4 : Kept None' w W4 := by rw [hW]; repeat (first | exact Kept.refl _ _ | refine Kept.drew ?_ _ | refine Kept.alloc ?_ _ _)
  have K4 := Lib.hid k4
  clear hW k4
  go_upto_region 16 with (first
    | (go_at_call 16; refine (finishes_one _).mono ?_; rintro e w' ⟨rfl, nf, rfl⟩)
    | fail)
  refine of_world (fun W9 hW => ?_)
  have K9 := Lib.hid (show Kept None' w W9 by rw [hW]; exact K4.out.drew _)
  clear hW
  cases hm : inB many 0 65536 with
  | false =>
    have hcas := Lib.hid (cas_of hm)
    have HM := Lib.hid hm
    clear hm
    cases d1 : decide (many < 0) with
    | true =>
      go_wp2_with (first
        | (go_at_call 30; refine (unpack_e2a text many 8 _ rfl d1).mono ?_; rintro e w8 ⟨rfl, hk8⟩)
        | (go_at_call 15; refine (in_one _ _ _ _).mono ?_; rw [HM.out]; rintro e w' ⟨rfl, rfl⟩)
        | (go_at_call 14; refine (when_any _ _ _).mono ?_; rintro e w' ⟨rfl, rfl⟩)
        | (go_at_call 12; refine (first2_any _ _ 0 3 _ (by go_simp) (by go_simp)).mono ?_; rintro e w' ⟨rfl, rfl⟩)
        | fail)
      go_ret
      exact ⟨rfl, (K9.out.trans hk8).alloc _ _⟩
    | false =>
      have d2 : decide ((65536 : Int) < many) = true := dec_cas hcas.out d1
      go_wp2_with (first
        | (go_at_call 30; refine (unpack_e2b text many 8 _ rfl d1 d2).mono ?_; rintro e w8 ⟨rfl, hk8⟩)
        | (go_at_call 15; refine (in_one _ _ _ _).mono ?_; rw [HM.out]; rintro e w' ⟨rfl, rfl⟩)
        | (go_at_call 14; refine (when_any _ _ _).mono ?_; rintro e w' ⟨rfl, rfl⟩)
        | (go_at_call 12; refine (first2_any _ _ 0 3 _ (by go_simp) (by go_simp)).mono ?_; rintro e w' ⟨rfl, rfl⟩)
        | fail)
      go_ret
      exact ⟨rfl, (K9.out.trans hk8).alloc _ _⟩
  | true =>
    obtain ⟨m0, m1⟩ := inB_iff.1 hm
    have HM := Lib.hid hm
    clear hm
    obtain ⟨m, rfl⟩ := Int.eq_ofNat_of_zero_le m0
    by_cases hs : text.size = m
    · have hre := re8 text m hs
      have HRE := Lib.hid hre
      have HS := Lib.hid hs
      clear hre hs
      go_wp2_with (first
        | (go_at_call 30; refine (unpack_8 text m _ (by omega) HS.out).mono ?_; rintro e w8 ⟨v, rfl, hown, hk8⟩; obtain ⟨A9, c9, rfl, hr9⟩ := hown.shape; have H9 := Lib.hid hr9; clear hown hr9)
        | (go_at_call 15; refine (in_one _ _ _ _).mono ?_; rw [HM.out]; rintro e w' ⟨rfl, rfl⟩)
        | (go_at_call 14; refine (when_any _ _ _).mono ?_; rintro e w' ⟨rfl, rfl⟩)
        | (go_at_call 12; refine (first2_any _ _ 0 0 _ (by go_simp) (by go_simp)).mono ?_; rintro e w' ⟨rfl, rfl⟩)
        | (go_at_call 29; refine (packed8_ok A9 m c9 (sB text) _ (by omega) (H9.out.kept (by repeat (first | exact Kept.refl _ _ | refine Kept.drew ?_ _ | refine Kept.alloc ?_ _ _))) HRE.out.2).mono ?_; rw [HRE.out.1]; rintro e w7 ⟨rfl, hk7⟩)
        | fail)
      go_ret
      exact ⟨rfl, (((K9.out.trans hk8).trans (by repeat (first | exact Kept.refl _ _ | refine Kept.drew ?_ _ | refine Kept.alloc ?_ _ _))).trans hk7)⟩
    · have hne : ((text.size : Int) != (m : Int)) = true := by simp <;> omega
      have hne2 : ((text.size : Int) != (m : Int) * 8 / 8) = true := by simp <;> omega
      go_wp2_with (first
        | (go_at_call 30; refine (unpack_e3_8 text m _ (by omega) hne).mono ?_; rintro e w8 ⟨rfl, hk8⟩)
        | (go_at_call 15; refine (in_one _ _ _ _).mono ?_; rw [HM.out]; rintro e w' ⟨rfl, rfl⟩)
        | (go_at_call 14; refine (when_any _ _ _).mono ?_; rintro e w' ⟨rfl, rfl⟩)
        | (go_at_call 12; refine (first2_any _ _ 0 0 _ (by go_simp) (by go_simp)).mono ?_; rintro e w' ⟨rfl, rfl⟩)
        | fail)
      go_ret
      exact ⟨rfl, (K9.out.trans hk8).alloc _ _⟩
set_option linter.unusedSimpArgs false in
set_option linter.unusedVariables false in
set_option maxHeartbeats 8000000 in
set_option maxRecDepth 100000 in
theorem pm_8_B (A : Option Addr) (n cap : Nat) (many : Int) (text : ByteArray) (w : World) (z : Nat → Int) (hn : n ≤ 65536) (hr : Rd w A n (fun i => .int .i64 (z i))) (hok : okTo z 255 n = false) :
    Calls Try.prog 5 #[.slice A n cap, .int .i64 8, .int .i64 many, .string text] w fun e w' => e = .returned (.bool true) ∧ Kept None' w w' := by
  have hl : decide ((65536 : Int) < n) = false := by simp; omega
  have HR := Lib.hid hr
  have HK := Lib.hid hok
  clear hr hok
  go_enter Try.func5, Try.ntmps5
  go_upto_region 4 with (first
    | (go_at_call 28; refine (pack_e3_8 A n cap z _ hn HR.out HK.out).mono ?_; rintro e w' ⟨rfl, rfl⟩)
    | (go_at_call 14; refine (when_any _ _ _).mono ?_; rintro e w' ⟨rfl, rfl⟩)
    | (go_at_call 12; refine (first2_any _ _ 0 0 _ (by go_simp) (by go_simp)).mono ?_; rintro e w' ⟨rfl, rfl⟩)
    | fail)
  refine of_world (fun W4 hW => ?_)
  have k4 : Kept None' w W4 := by rw [hW]; repeat (first | exact Kept.refl _ _ | refine Kept.drew ?_ _ | refine Kept.alloc ?_ _ _)
  have K4 := Lib.hid k4
  clear hW k4
  go_wp2_with fail
  go_loopw [12, 49] (fun s i wr => ∃ k : Nat, k ≤ n ∧ i = .int .i64 k ∧ s = .int .i64 (if okTo z 255 k then 0 else 3) ∧ Kept None' w wr) (fun _ i _ => n - (intOf i).toNat)
  case atStart => exact ⟨0, by omega, rfl, rfl, K4.out⟩
  case round =>
    obtain ⟨k, hk, rfl, rfl, hkp⟩ := hrel
    have KP := Lib.hid hkp
    clear hkp K4
    by_cases hlt : k < n
    · obtain ⟨b, o, rfl, hc⟩ := HR.out (by omega)
      have c0 := KP.out.some (hc k hlt) id
      clear hc
      have hnext : okTo z 255 (k + 1) = (okTo z 255 k && inB (z k) 0 255) := rfl
      cases bb : inB (z k) 0 255 <;> cases ho : okTo z 255 k
      all_goals
        rw [bb, ho] at hnext
        have HN := Lib.hid hnext
        have HB := Lib.hid bb
        clear hnext bb ho
        go_wp2_with (first
          | (go_at_call 15; refine (in_one _ _ _ _).mono ?_; rw [HB.out]; rintro e w' ⟨rfl, rfl⟩)
          | (go_at_call 14; refine (when_any _ _ _).mono ?_; rintro e w' ⟨rfl, rfl⟩)
          | (go_at_call 12; refine (first2_any _ _ _ _ _ (by go_simp; rfl) (by go_simp; rfl)).mono ?_; rintro e w' ⟨rfl, rfl⟩)
          | fail)
        go_roundw
        case rel => exact ⟨k + 1, by omega, by go_num, by rw [HN.out]; rfl, KP.out.alloc _ _⟩
        case measure => simp [intOf]; omega
    · obtain rfl : n = k := by omega
      rw [HK.out]
      go_upto_region 16 with (first
        | (go_at_call 16; refine (finishes_one _).mono ?_; rintro e w' ⟨rfl, nf, rfl⟩)
        | fail)
      refine of_world (fun W9 hW => ?_)
      have K9 := Lib.hid (show Kept None' w W9 by rw [hW]; exact KP.out.drew _)
      clear hW
      cases hm : inB many 0 65536 with
      | false =>
        have hcas := Lib.hid (cas_of hm)
        have HM := Lib.hid hm
        clear hm
        cases d1 : decide (many < 0) with
        | true =>
          go_wp2_with (first
            | (go_at_call 30; refine (unpack_e2a text many 8 _ rfl d1).mono ?_; rintro e w8 ⟨rfl, hk8⟩)
            | (go_at_call 15; refine (in_one _ _ _ _).mono ?_; rw [HM.out]; rintro e w' ⟨rfl, rfl⟩)
            | (go_at_call 14; refine (when_any _ _ _).mono ?_; rintro e w' ⟨rfl, rfl⟩)
            | (go_at_call 12; refine (first2_any _ _ 0 3 _ (by go_simp) (by go_simp)).mono ?_; rintro e w' ⟨rfl, rfl⟩)
            | fail)
          go_ret
          exact ⟨rfl, (K9.out.trans hk8).alloc _ _⟩
        | false =>
          have d2 : decide ((65536 : Int) < many) = true := dec_cas hcas.out d1
          go_wp2_with (first
            | (go_at_call 30; refine (unpack_e2b text many 8 _ rfl d1 d2).mono ?_; rintro e w8 ⟨rfl, hk8⟩)
            | (go_at_call 15; refine (in_one _ _ _ _).mono ?_; rw [HM.out]; rintro e w' ⟨rfl, rfl⟩)
            | (go_at_call 14; refine (when_any _ _ _).mono ?_; rintro e w' ⟨rfl, rfl⟩)
            | (go_at_call 12; refine (first2_any _ _ 0 3 _ (by go_simp) (by go_simp)).mono ?_; rintro e w' ⟨rfl, rfl⟩)
            | fail)
          go_ret
          exact ⟨rfl, (K9.out.trans hk8).alloc _ _⟩
      | true =>
        obtain ⟨m0, m1⟩ := inB_iff.1 hm
        have HM := Lib.hid hm
        clear hm
        obtain ⟨m, rfl⟩ := Int.eq_ofNat_of_zero_le m0
        by_cases hs : text.size = m
        · have hre := re8 text m hs
          have HRE := Lib.hid hre
          have HS := Lib.hid hs
          clear hre hs
          go_wp2_with (first
            | (go_at_call 30; refine (unpack_8 text m _ (by omega) HS.out).mono ?_; rintro e w8 ⟨v, rfl, hown, hk8⟩; obtain ⟨A9, c9, rfl, hr9⟩ := hown.shape; have H9 := Lib.hid hr9; clear hown hr9)
            | (go_at_call 15; refine (in_one _ _ _ _).mono ?_; rw [HM.out]; rintro e w' ⟨rfl, rfl⟩)
            | (go_at_call 14; refine (when_any _ _ _).mono ?_; rintro e w' ⟨rfl, rfl⟩)
            | (go_at_call 12; refine (first2_any _ _ 0 0 _ (by go_simp) (by go_simp)).mono ?_; rintro e w' ⟨rfl, rfl⟩)
            | (go_at_call 29; refine (packed8_ok A9 m c9 (sB text) _ (by omega) (H9.out.kept (by repeat (first | exact Kept.refl _ _ | refine Kept.drew ?_ _ | refine Kept.alloc ?_ _ _))) HRE.out.2).mono ?_; rw [HRE.out.1]; rintro e w7 ⟨rfl, hk7⟩)
            | fail)
          go_ret
          exact ⟨rfl, (((K9.out.trans hk8).trans (by repeat (first | exact Kept.refl _ _ | refine Kept.drew ?_ _ | refine Kept.alloc ?_ _ _))).trans hk7)⟩
        · have hne : ((text.size : Int) != (m : Int)) = true := by simp <;> omega
          have hne2 : ((text.size : Int) != (m : Int) * 8 / 8) = true := by simp <;> omega
          go_wp2_with (first
            | (go_at_call 30; refine (unpack_e3_8 text m _ (by omega) hne).mono ?_; rintro e w8 ⟨rfl, hk8⟩)
            | (go_at_call 15; refine (in_one _ _ _ _).mono ?_; rw [HM.out]; rintro e w' ⟨rfl, rfl⟩)
            | (go_at_call 14; refine (when_any _ _ _).mono ?_; rintro e w' ⟨rfl, rfl⟩)
            | (go_at_call 12; refine (first2_any _ _ 0 0 _ (by go_simp) (by go_simp)).mono ?_; rintro e w' ⟨rfl, rfl⟩)
            | fail)
          go_ret
          exact ⟨rfl, (K9.out.trans hk8).alloc _ _⟩
set_option linter.unusedSimpArgs false in
set_option linter.unusedVariables false in
set_option maxHeartbeats 8000000 in
set_option maxRecDepth 100000 in
theorem pm_8_O (A : Option Addr) (n cap : Nat) (many : Int) (text : ByteArray) (w : World) (z : Nat → Int) (hn : n ≤ 65536) (hr : Rd w A n (fun i => .int .i64 (z i))) (hok : okTo z 255 n = true) :
    Calls Try.prog 5 #[.slice A n cap, .int .i64 8, .int .i64 many, .string text] w fun e w' => e = .returned (.bool true) ∧ Kept None' w w' := by
  have hl : decide ((65536 : Int) < n) = false := by simp; omega
  have HR := Lib.hid hr
  have HK := Lib.hid hok
  clear hr hok
  go_enter Try.func5, Try.ntmps5
  go_upto_region 4 with (first
    | (go_at_call 28; refine (pack8_ok A n cap z _ hn HR.out HK.out).mono ?_; rintro e w1 ⟨rfl, hk1⟩)
    | (go_at_call 14; refine (when_any _ _ _).mono ?_; rintro e w' ⟨rfl, rfl⟩)
    | (go_at_call 12; refine (first2_any _ _ 0 0 _ (by go_simp) (by go_simp)).mono ?_; rintro e w' ⟨rfl, rfl⟩)
    | fail)
  refine of_world (fun W4 hW => ?_)
  have k4 : Kept None' w W4 := by rw [hW]; exact hk1.alloc _ _
  have K4 := Lib.hid k4
  clear hW k4
  go_wp2_with fail
  go_loopw [12, 49] (fun s i wr => ∃ k : Nat, k ≤ n ∧ i = .int .i64 k ∧ s = .int .i64 (if okTo z 255 k then 0 else 3) ∧ Kept None' w wr) (fun _ i _ => n - (intOf i).toNat)
  case atStart => exact ⟨0, by omega, rfl, rfl, K4.out⟩
  case round =>
    obtain ⟨k, hk, rfl, rfl, hkp⟩ := hrel
    have KP := Lib.hid hkp
    clear hkp K4
    by_cases hlt : k < n
    · obtain ⟨b, o, rfl, hc⟩ := HR.out (by omega)
      have c0 := KP.out.some (hc k hlt) id
      clear hc
      have hnext : okTo z 255 (k + 1) = (okTo z 255 k && inB (z k) 0 255) := rfl
      cases bb : inB (z k) 0 255 <;> cases ho : okTo z 255 k
      all_goals
        rw [bb, ho] at hnext
        have HN := Lib.hid hnext
        have HB := Lib.hid bb
        clear hnext bb ho
        go_wp2_with (first
          | (go_at_call 15; refine (in_one _ _ _ _).mono ?_; rw [HB.out]; rintro e w' ⟨rfl, rfl⟩)
          | (go_at_call 14; refine (when_any _ _ _).mono ?_; rintro e w' ⟨rfl, rfl⟩)
          | (go_at_call 12; refine (first2_any _ _ _ _ _ (by go_simp; rfl) (by go_simp; rfl)).mono ?_; rintro e w' ⟨rfl, rfl⟩)
          | fail)
        go_roundw
        case rel => exact ⟨k + 1, by omega, by go_num, by rw [HN.out]; rfl, KP.out.alloc _ _⟩
        case measure => simp [intOf]; omega
    · obtain rfl : n = k := by omega
      rw [HK.out]
      go_upto_region 13 with (first
        | (go_at_call 16; refine (finishes_one _).mono ?_; rintro e w' ⟨rfl, nf, rfl⟩)
        | (go_at_call 29; refine (packed8_ok A n cap z _ hn (HR.out.kept (KP.out.drew _)) HK.out).mono ?_; rintro e w5 ⟨rfl, hk5⟩)
        | fail)
      have K5 := Lib.hid ((KP.out.drew _).trans hk5)
      clear hk5
      go_upto_region 16 with (first
        | (go_at_call 30; refine (unpack_8 (strG n (pk8 z)) n _ hn (strG_size n _)).mono ?_; rintro e w6 ⟨v, rfl, hown, hk6⟩; obtain ⟨A6, c6, rfl, hr6⟩ := hown.shape; have H6 := Lib.hid (And.intro (hr6.congr (fun j hj => by rw [un8 HK.out j hj])) hk6); clear hown hr6 hk6)
        | (go_at_call 31; refine (equal_ints A A6 n cap c6 z _ (by omega) (HR.out.kept (K5.out.trans H6.out.2)) H6.out.1).mono ?_; rintro e w7 ⟨rfl, hk7⟩)
        | fail)
      have K9 := Lib.hid ((K5.out.trans H6.out.2).trans hk7)
      clear hk7
      cases hm : inB many 0 65536 with
      | false =>
        have hcas := Lib.hid (cas_of hm)
        have HM := Lib.hid hm
        clear hm
        cases d1 : decide (many < 0) with
        | true =>
          go_wp2_with (first
            | (go_at_call 30; refine (unpack_e2a text many 8 _ rfl d1).mono ?_; rintro e w8 ⟨rfl, hk8⟩)
            | (go_at_call 15; refine (in_one _ _ _ _).mono ?_; rw [HM.out]; rintro e w' ⟨rfl, rfl⟩)
            | (go_at_call 14; refine (when_any _ _ _).mono ?_; rintro e w' ⟨rfl, rfl⟩)
            | (go_at_call 12; refine (first2_any _ _ 0 3 _ (by go_simp) (by go_simp)).mono ?_; rintro e w' ⟨rfl, rfl⟩)
            | fail)
          go_ret
          exact ⟨rfl, (K9.out.trans hk8).alloc _ _⟩
        | false =>
          have d2 : decide ((65536 : Int) < many) = true := dec_cas hcas.out d1
          go_wp2_with (first
            | (go_at_call 30; refine (unpack_e2b text many 8 _ rfl d1 d2).mono ?_; rintro e w8 ⟨rfl, hk8⟩)
            | (go_at_call 15; refine (in_one _ _ _ _).mono ?_; rw [HM.out]; rintro e w' ⟨rfl, rfl⟩)
            | (go_at_call 14; refine (when_any _ _ _).mono ?_; rintro e w' ⟨rfl, rfl⟩)
            | (go_at_call 12; refine (first2_any _ _ 0 3 _ (by go_simp) (by go_simp)).mono ?_; rintro e w' ⟨rfl, rfl⟩)
            | fail)
          go_ret
          exact ⟨rfl, (K9.out.trans hk8).alloc _ _⟩
      | true =>
        obtain ⟨m0, m1⟩ := inB_iff.1 hm
        have HM := Lib.hid hm
        clear hm
        obtain ⟨m, rfl⟩ := Int.eq_ofNat_of_zero_le m0
        by_cases hs : text.size = m
        · have hre := re8 text m hs
          have HRE := Lib.hid hre
          have HS := Lib.hid hs
          clear hre hs
          go_wp2_with (first
            | (go_at_call 30; refine (unpack_8 text m _ (by omega) HS.out).mono ?_; rintro e w8 ⟨v, rfl, hown, hk8⟩; obtain ⟨A9, c9, rfl, hr9⟩ := hown.shape; have H9 := Lib.hid hr9; clear hown hr9)
            | (go_at_call 15; refine (in_one _ _ _ _).mono ?_; rw [HM.out]; rintro e w' ⟨rfl, rfl⟩)
            | (go_at_call 14; refine (when_any _ _ _).mono ?_; rintro e w' ⟨rfl, rfl⟩)
            | (go_at_call 12; refine (first2_any _ _ 0 0 _ (by go_simp) (by go_simp)).mono ?_; rintro e w' ⟨rfl, rfl⟩)
            | (go_at_call 29; refine (packed8_ok A9 m c9 (sB text) _ (by omega) (H9.out.kept (by repeat (first | exact Kept.refl _ _ | refine Kept.drew ?_ _ | refine Kept.alloc ?_ _ _))) HRE.out.2).mono ?_; rw [HRE.out.1]; rintro e w7 ⟨rfl, hk7⟩)
            | fail)
          go_ret
          exact ⟨rfl, (((K9.out.trans hk8).trans (by repeat (first | exact Kept.refl _ _ | refine Kept.drew ?_ _ | refine Kept.alloc ?_ _ _))).trans hk7)⟩
        · have hne : ((text.size : Int) != (m : Int)) = true := by simp <;> omega
          have hne2 : ((text.size : Int) != (m : Int) * 8 / 8) = true := by simp <;> omega
          go_wp2_with (first
            | (go_at_call 30; refine (unpack_e3_8 text m _ (by omega) hne).mono ?_; rintro e w8 ⟨rfl, hk8⟩)
            | (go_at_call 15; refine (in_one _ _ _ _).mono ?_; rw [HM.out]; rintro e w' ⟨rfl, rfl⟩)
            | (go_at_call 14; refine (when_any _ _ _).mono ?_; rintro e w' ⟨rfl, rfl⟩)
            | (go_at_call 12; refine (first2_any _ _ 0 0 _ (by go_simp) (by go_simp)).mono ?_; rintro e w' ⟨rfl, rfl⟩)
            | fail)
          go_ret
          exact ⟨rfl, (K9.out.trans hk8).alloc _ _⟩
set_option linter.unusedSimpArgs false in
set_option linter.unusedVariables false in
set_option maxHeartbeats 8000000 in
set_option maxRecDepth 100000 in
theorem pm_10_L (A : Option Addr) (n cap : Nat) (many : Int) (text : ByteArray) (w : World) (hl : decide ((65536 : Int) < n) = true) :
    Calls Try.prog 5 #[.slice A n cap, .int .i64 10, .int .i64 many, .string text] w fun e w' => e = .returned (.bool true) ∧ Kept None' w w' := by
  go_enter Try.func5, Try.ntmps5
  go_upto_region 4 with (first
    | (go_at_call 28; refine (pack_e2 A n cap 10 _ rfl hl).mono ?_; rintro e w' ⟨rfl, rfl⟩)
    | (go_at_call 14; refine (when_any _ _ _).mono ?_; rintro e w' ⟨rfl, rfl⟩)
    | (go_at_call 12; refine (first2_any _ _ 0 4 _ (by go_simp) (by go_simp)).mono ?_; rintro e w' ⟨rfl, rfl⟩)
    | fail)
  refine of_world (fun W4 hW => ?_)
  have k4 : Kept None' w W4 := by rw [hW]; repeat (first | exact Kept.refl _ _ | refine Kept.drew ?_ _ | refine Kept.alloc ?_ _ _)
  have K4 := Lib.hid k4
  clear hW k4
  go_upto_region 16 with (first
    | (go_at_call 16; refine (finishes_one _).mono ?_; rintro e w' ⟨rfl, nf, rfl⟩)
    | fail)
  refine of_world (fun W9 hW => ?_)
  have K9 := Lib.hid (show Kept None' w W9 by rw [hW]; exact K4.out.drew _)
  clear hW
  cases hm : inB many 0 65536 with
  | false =>
    have hcas := Lib.hid (cas_of hm)
    have HM := Lib.hid hm
    clear hm
    cases d1 : decide (many < 0) with
    | true =>
      go_wp2_with (first
        | (go_at_call 30; refine (unpack_e2a text many 10 _ rfl d1).mono ?_; rintro e w8 ⟨rfl, hk8⟩)
        | (go_at_call 15; refine (in_one _ _ _ _).mono ?_; rw [HM.out]; rintro e w' ⟨rfl, rfl⟩)
        | (go_at_call 14; refine (when_any _ _ _).mono ?_; rintro e w' ⟨rfl, rfl⟩)
        | (go_at_call 12; refine (first2_any _ _ 0 3 _ (by go_simp) (by go_simp)).mono ?_; rintro e w' ⟨rfl, rfl⟩)
        | fail)
      go_ret
      exact ⟨rfl, (K9.out.trans hk8).alloc _ _⟩
    | false =>
      have d2 : decide ((65536 : Int) < many) = true := dec_cas hcas.out d1
      go_wp2_with (first
        | (go_at_call 30; refine (unpack_e2b text many 10 _ rfl d1 d2).mono ?_; rintro e w8 ⟨rfl, hk8⟩)
        | (go_at_call 15; refine (in_one _ _ _ _).mono ?_; rw [HM.out]; rintro e w' ⟨rfl, rfl⟩)
        | (go_at_call 14; refine (when_any _ _ _).mono ?_; rintro e w' ⟨rfl, rfl⟩)
        | (go_at_call 12; refine (first2_any _ _ 0 3 _ (by go_simp) (by go_simp)).mono ?_; rintro e w' ⟨rfl, rfl⟩)
        | fail)
      go_ret
      exact ⟨rfl, (K9.out.trans hk8).alloc _ _⟩
  | true =>
    obtain ⟨m0, m1⟩ := inB_iff.1 hm
    have HM := Lib.hid hm
    clear hm
    obtain ⟨m, rfl⟩ := Int.eq_ofNat_of_zero_le m0
    by_cases hs : text.size = (m + 2) / 3 * 4
    · have HS := Lib.hid hs
      have htz : ((text.size : Int) == ((m : Int) + 2) / 3 * 4) = true := by rw [hs]; simp <;> omega
      have htz2 : ((text.size : Int) != ((m : Int) + 2) / 3 * 4) = false := by rw [bne, htz]; rfl
      clear hs
      cases hk10 : ok10 text m with
      | true =>
        have HRE := Lib.hid (re10 text m HS.out hk10)
        have HK10 := Lib.hid hk10
        clear hk10
        go_wp2_with (first
          | (go_at_call 30; refine ((unpack_10 text m _ (by omega) HS.out).mono (fun e w9 h => (h.resolve_right (fun x => by have := x.1; rw [HK10.out] at this; cases this)).2)).mono ?_; rintro e w8 ⟨v, rfl, hown, hk8⟩; obtain ⟨A9, c9, rfl, hr9⟩ := hown.shape; have H9 := Lib.hid hr9; clear hown hr9)
          | (go_at_call 15; refine (in_one _ _ _ _).mono ?_; rw [HM.out]; rintro e w' ⟨rfl, rfl⟩)
          | (go_at_call 14; refine (when_any _ _ _).mono ?_; rintro e w' ⟨rfl, rfl⟩)
          | (go_at_call 12; refine (first2_any _ _ 0 0 _ (by go_simp) (by go_simp)).mono ?_; rintro e w' ⟨rfl, rfl⟩)
          | (go_at_call 29; refine (packed10_ok A9 m c9 (fld text) _ (by omega) (H9.out.kept (by repeat (first | exact Kept.refl _ _ | refine Kept.drew ?_ _ | refine Kept.alloc ?_ _ _))) HRE.out.2).mono ?_; rw [HRE.out.1]; rintro e w7 ⟨rfl, hk7⟩)
          | fail)
        go_ret
        exact ⟨rfl, (((K9.out.trans hk8).trans (by repeat (first | exact Kept.refl _ _ | refine Kept.drew ?_ _ | refine Kept.alloc ?_ _ _))).trans hk7)⟩
      | false =>
        have HK10 := Lib.hid hk10
        clear hk10
        go_wp2_with (first
          | (go_at_call 30; refine ((unpack_10 text m _ (by omega) HS.out).mono (fun e w9 h => (h.resolve_left (fun x => by have := x.1; rw [HK10.out] at this; cases this)).2)).mono ?_; rintro e w8 ⟨rfl, hk8⟩)
          | (go_at_call 15; refine (in_one _ _ _ _).mono ?_; rw [HM.out]; rintro e w' ⟨rfl, rfl⟩)
          | (go_at_call 14; refine (when_any _ _ _).mono ?_; rintro e w' ⟨rfl, rfl⟩)
          | (go_at_call 12; refine (first2_any _ _ 0 0 _ (by go_simp) (by go_simp)).mono ?_; rintro e w' ⟨rfl, rfl⟩)
          | fail)
        go_ret
        exact ⟨rfl, (K9.out.trans hk8).alloc _ _⟩
    · have hne : ((text.size : Int) != ((m : Int) + 2) / 3 * 4) = true := by simp <;> omega
      have hne2 : ((text.size : Int) == ((m : Int) + 2) / 3 * 4) = false := by simp <;> omega
      go_wp2_with (first
        | (go_at_call 30; refine (unpack_e3_10 text m _ (by omega) hne).mono ?_; rintro e w8 ⟨rfl, hk8⟩)
        | (go_at_call 15; refine (in_one _ _ _ _).mono ?_; rw [HM.out]; rintro e w' ⟨rfl, rfl⟩)
        | (go_at_call 14; refine (when_any _ _ _).mono ?_; rintro e w' ⟨rfl, rfl⟩)
        | (go_at_call 12; refine (first2_any _ _ 0 0 _ (by go_simp) (by go_simp)).mono ?_; rintro e w' ⟨rfl, rfl⟩)
        | fail)
      go_ret
      exact ⟨rfl, (K9.out.trans hk8).alloc _ _⟩
set_option linter.unusedSimpArgs false in
set_option linter.unusedVariables false in
set_option maxHeartbeats 8000000 in
set_option maxRecDepth 100000 in
theorem pm_10_B (A : Option Addr) (n cap : Nat) (many : Int) (text : ByteArray) (w : World) (z : Nat → Int) (hn : n ≤ 65536) (hr : Rd w A n (fun i => .int .i64 (z i))) (hok : okTo z 1023 n = false) :
    Calls Try.prog 5 #[.slice A n cap, .int .i64 10, .int .i64 many, .string text] w fun e w' => e = .returned (.bool true) ∧ Kept None' w w' := by
  have hl : decide ((65536 : Int) < n) = false := by simp; omega
  have HR := Lib.hid hr
  have HK := Lib.hid hok
  clear hr hok
  go_enter Try.func5, Try.ntmps5
  go_upto_region 4 with (first
    | (go_at_call 28; refine (pack_e3_10 A n cap z _ hn HR.out HK.out).mono ?_; rintro e w' ⟨rfl, rfl⟩)
    | (go_at_call 14; refine (when_any _ _ _).mono ?_; rintro e w' ⟨rfl, rfl⟩)
    | (go_at_call 12; refine (first2_any _ _ 0 0 _ (by go_simp) (by go_simp)).mono ?_; rintro e w' ⟨rfl, rfl⟩)
    | fail)
  refine of_world (fun W4 hW => ?_)
  have k4 : Kept None' w W4 := by rw [hW]; repeat (first | exact Kept.refl _ _ | refine Kept.drew ?_ _ | refine Kept.alloc ?_ _ _)
  have K4 := Lib.hid k4
  clear hW k4
  go_wp2_with fail
  go_loopw [12, 49] (fun s i wr => ∃ k : Nat, k ≤ n ∧ i = .int .i64 k ∧ s = .int .i64 (if okTo z 1023 k then 0 else 3) ∧ Kept None' w wr) (fun _ i _ => n - (intOf i).toNat)
  case atStart => exact ⟨0, by omega, rfl, rfl, K4.out⟩
  case round =>
    obtain ⟨k, hk, rfl, rfl, hkp⟩ := hrel
    have KP := Lib.hid hkp
    clear hkp K4
    by_cases hlt : k < n
    · obtain ⟨b, o, rfl, hc⟩ := HR.out (by omega)
      have c0 := KP.out.some (hc k hlt) id
      clear hc
      have hnext : okTo z 1023 (k + 1) = (okTo z 1023 k && inB (z k) 0 1023) := rfl
      cases bb : inB (z k) 0 1023 <;> cases ho : okTo z 1023 k
      all_goals
        rw [bb, ho] at hnext
        have HN := Lib.hid hnext
        have HB := Lib.hid bb
        clear hnext bb ho
        go_wp2_with (first
          | (go_at_call 15; refine (in_one _ _ _ _).mono ?_; rw [HB.out]; rintro e w' ⟨rfl, rfl⟩)
          | (go_at_call 14; refine (when_any _ _ _).mono ?_; rintro e w' ⟨rfl, rfl⟩)
          | (go_at_call 12; refine (first2_any _ _ _ _ _ (by go_simp; rfl) (by go_simp; rfl)).mono ?_; rintro e w' ⟨rfl, rfl⟩)
          | fail)
        go_roundw
        case rel => exact ⟨k + 1, by omega, by go_num, by rw [HN.out]; rfl, KP.out.alloc _ _⟩
        case measure => simp [intOf]; omega
    · obtain rfl : n = k := by omega
      rw [HK.out]
      go_upto_region 16 with (first
        | (go_at_call 16; refine (finishes_one _).mono ?_; rintro e w' ⟨rfl, nf, rfl⟩)
        | fail)
      refine of_world (fun W9 hW => ?_)
      have K9 := Lib.hid (show Kept None' w W9 by rw [hW]; exact KP.out.drew _)
      clear hW
      cases hm : inB many 0 65536 with
      | false =>
        have hcas := Lib.hid (cas_of hm)
        have HM := Lib.hid hm
        clear hm
        cases d1 : decide (many < 0) with
        | true =>
          go_wp2_with (first
            | (go_at_call 30; refine (unpack_e2a text many 10 _ rfl d1).mono ?_; rintro e w8 ⟨rfl, hk8⟩)
            | (go_at_call 15; refine (in_one _ _ _ _).mono ?_; rw [HM.out]; rintro e w' ⟨rfl, rfl⟩)
            | (go_at_call 14; refine (when_any _ _ _).mono ?_; rintro e w' ⟨rfl, rfl⟩)
            | (go_at_call 12; refine (first2_any _ _ 0 3 _ (by go_simp) (by go_simp)).mono ?_; rintro e w' ⟨rfl, rfl⟩)
            | fail)
          go_ret
          exact ⟨rfl, (K9.out.trans hk8).alloc _ _⟩
        | false =>
          have d2 : decide ((65536 : Int) < many) = true := dec_cas hcas.out d1
          go_wp2_with (first
            | (go_at_call 30; refine (unpack_e2b text many 10 _ rfl d1 d2).mono ?_; rintro e w8 ⟨rfl, hk8⟩)
            | (go_at_call 15; refine (in_one _ _ _ _).mono ?_; rw [HM.out]; rintro e w' ⟨rfl, rfl⟩)
            | (go_at_call 14; refine (when_any _ _ _).mono ?_; rintro e w' ⟨rfl, rfl⟩)
            | (go_at_call 12; refine (first2_any _ _ 0 3 _ (by go_simp) (by go_simp)).mono ?_; rintro e w' ⟨rfl, rfl⟩)
            | fail)
          go_ret
          exact ⟨rfl, (K9.out.trans hk8).alloc _ _⟩
      | true =>
        obtain ⟨m0, m1⟩ := inB_iff.1 hm
        have HM := Lib.hid hm
        clear hm
        obtain ⟨m, rfl⟩ := Int.eq_ofNat_of_zero_le m0
        by_cases hs : text.size = (m + 2) / 3 * 4
        · have HS := Lib.hid hs
          have htz : ((text.size : Int) == ((m : Int) + 2) / 3 * 4) = true := by rw [hs]; simp <;> omega
          have htz2 : ((text.size : Int) != ((m : Int) + 2) / 3 * 4) = false := by rw [bne, htz]; rfl
          clear hs
          cases hk10 : ok10 text m with
          | true =>
            have HRE := Lib.hid (re10 text m HS.out hk10)
            have HK10 := Lib.hid hk10
            clear hk10
            go_wp2_with (first
              | (go_at_call 30; refine ((unpack_10 text m _ (by omega) HS.out).mono (fun e w9 h => (h.resolve_right (fun x => by have := x.1; rw [HK10.out] at this; cases this)).2)).mono ?_; rintro e w8 ⟨v, rfl, hown, hk8⟩; obtain ⟨A9, c9, rfl, hr9⟩ := hown.shape; have H9 := Lib.hid hr9; clear hown hr9)
              | (go_at_call 15; refine (in_one _ _ _ _).mono ?_; rw [HM.out]; rintro e w' ⟨rfl, rfl⟩)
              | (go_at_call 14; refine (when_any _ _ _).mono ?_; rintro e w' ⟨rfl, rfl⟩)
              | (go_at_call 12; refine (first2_any _ _ 0 0 _ (by go_simp) (by go_simp)).mono ?_; rintro e w' ⟨rfl, rfl⟩)
              | (go_at_call 29; refine (packed10_ok A9 m c9 (fld text) _ (by omega) (H9.out.kept (by repeat (first | exact Kept.refl _ _ | refine Kept.drew ?_ _ | refine Kept.alloc ?_ _ _))) HRE.out.2).mono ?_; rw [HRE.out.1]; rintro e w7 ⟨rfl, hk7⟩)
              | fail)
            go_ret
            exact ⟨rfl, (((K9.out.trans hk8).trans (by repeat (first | exact Kept.refl _ _ | refine Kept.drew ?_ _ | refine Kept.alloc ?_ _ _))).trans hk7)⟩
          | false =>
            have HK10 := Lib.hid hk10
            clear hk10
            go_wp2_with (first
              | (go_at_call 30; refine ((unpack_10 text m _ (by omega) HS.out).mono (fun e w9 h => (h.resolve_left (fun x => by have := x.1; rw [HK10.out] at this; cases this)).2)).mono ?_; rintro e w8 ⟨rfl, hk8⟩)
              | (go_at_call 15; refine (in_one _ _ _ _).mono ?_; rw [HM.out]; rintro e w' ⟨rfl, rfl⟩)
              | (go_at_call 14; refine (when_any _ _ _).mono ?_; rintro e w' ⟨rfl, rfl⟩)
              | (go_at_call 12; refine (first2_any _ _ 0 0 _ (by go_simp) (by go_simp)).mono ?_; rintro e w' ⟨rfl, rfl⟩)
              | fail)
            go_ret
            exact ⟨rfl, (K9.out.trans hk8).alloc _ _⟩
        · have hne : ((text.size : Int) != ((m : Int) + 2) / 3 * 4) = true := by simp <;> omega
          have hne2 : ((text.size : Int) == ((m : Int) + 2) / 3 * 4) = false := by simp <;> omega
          go_wp2_with (first
            | (go_at_call 30; refine (unpack_e3_10 text m _ (by omega) hne).mono ?_; rintro e w8 ⟨rfl, hk8⟩)
            | (go_at_call 15; refine (in_one _ _ _ _).mono ?_; rw [HM.out]; rintro e w' ⟨rfl, rfl⟩)
            | (go_at_call 14; refine (when_any _ _ _).mono ?_; rintro e w' ⟨rfl, rfl⟩)
            | (go_at_call 12; refine (first2_any _ _ 0 0 _ (by go_simp) (by go_simp)).mono ?_; rintro e w' ⟨rfl, rfl⟩)
            | fail)
          go_ret
          exact ⟨rfl, (K9.out.trans hk8).alloc _ _⟩
set_option linter.unusedSimpArgs false in
set_option linter.unusedVariables false in
set_option maxHeartbeats 8000000 in
set_option maxRecDepth 100000 in
theorem pm_10_O (A : Option Addr) (n cap : Nat) (many : Int) (text : ByteArray) (w : World) (z : Nat → Int) (hn : n ≤ 65536) (hr : Rd w A n (fun i => .int .i64 (z i))) (hok : okTo z 1023 n = true) :
    Calls Try.prog 5 #[.slice A n cap, .int .i64 10, .int .i64 many, .string text] w fun e w' => e = .returned (.bool true) ∧ Kept None' w w' := by
  have hl : decide ((65536 : Int) < n) = false := by simp; omega
  have HR := Lib.hid hr
  have HK := Lib.hid hok
  clear hr hok
  go_enter Try.func5, Try.ntmps5
  go_upto_region 4 with (first
    | (go_at_call 28; refine (pack10_ok A n cap z _ hn HR.out HK.out).mono ?_; rintro e w1 ⟨rfl, hk1⟩)
    | (go_at_call 14; refine (when_any _ _ _).mono ?_; rintro e w' ⟨rfl, rfl⟩)
    | (go_at_call 12; refine (first2_any _ _ 0 0 _ (by go_simp) (by go_simp)).mono ?_; rintro e w' ⟨rfl, rfl⟩)
    | fail)
  refine of_world (fun W4 hW => ?_)
  have k4 : Kept None' w W4 := by rw [hW]; exact hk1.alloc _ _
  have K4 := Lib.hid k4
  clear hW k4
  go_wp2_with fail
  go_loopw [12, 49] (fun s i wr => ∃ k : Nat, k ≤ n ∧ i = .int .i64 k ∧ s = .int .i64 (if okTo z 1023 k then 0 else 3) ∧ Kept None' w wr) (fun _ i _ => n - (intOf i).toNat)
  case atStart => exact ⟨0, by omega, rfl, rfl, K4.out⟩
  case round =>
    obtain ⟨k, hk, rfl, rfl, hkp⟩ := hrel
    have KP := Lib.hid hkp
    clear hkp K4
    by_cases hlt : k < n
    · obtain ⟨b, o, rfl, hc⟩ := HR.out (by omega)
      have c0 := KP.out.some (hc k hlt) id
      clear hc
      have hnext : okTo z 1023 (k + 1) = (okTo z 1023 k && inB (z k) 0 1023) := rfl
      cases bb : inB (z k) 0 1023 <;> cases ho : okTo z 1023 k
      all_goals
        rw [bb, ho] at hnext
        have HN := Lib.hid hnext
        have HB := Lib.hid bb
        clear hnext bb ho
        go_wp2_with (first
          | (go_at_call 15; refine (in_one _ _ _ _).mono ?_; rw [HB.out]; rintro e w' ⟨rfl, rfl⟩)
          | (go_at_call 14; refine (when_any _ _ _).mono ?_; rintro e w' ⟨rfl, rfl⟩)
          | (go_at_call 12; refine (first2_any _ _ _ _ _ (by go_simp; rfl) (by go_simp; rfl)).mono ?_; rintro e w' ⟨rfl, rfl⟩)
          | fail)
        go_roundw
        case rel => exact ⟨k + 1, by omega, by go_num, by rw [HN.out]; rfl, KP.out.alloc _ _⟩
        case measure => simp [intOf]; omega
    · obtain rfl : n = k := by omega
      rw [HK.out]
      go_upto_region 13 with (first
        | (go_at_call 16; refine (finishes_one _).mono ?_; rintro e w' ⟨rfl, nf, rfl⟩)
        | (go_at_call 29; refine (packed10_ok A n cap z _ hn (HR.out.kept (KP.out.drew _)) HK.out).mono ?_; rintro e w5 ⟨rfl, hk5⟩)
        | fail)
      have K5 := Lib.hid ((KP.out.drew _).trans hk5)
      clear hk5
      go_upto_region 16 with (first
        | (go_at_call 30; refine ((unpack_10 (strG (4 * ((n + 2) / 3)) (pk10 z n)) n _ hn (by rw [strG_size]; omega)).mono (fun e w9 h => (h.resolve_right (fun x => by have := x.1; rw [ok10_pack HK.out] at this; cases this)).2)).mono ?_; rintro e w6 ⟨v, rfl, hown, hk6⟩; obtain ⟨A6, c6, rfl, hr6⟩ := hown.shape; have H6 := Lib.hid (And.intro (hr6.congr (fun j hj => by rw [fld10_in HK.out j hj])) hk6); clear hown hr6 hk6)
        | (go_at_call 31; refine (equal_ints A A6 n cap c6 z _ (by omega) (HR.out.kept (K5.out.trans H6.out.2)) H6.out.1).mono ?_; rintro e w7 ⟨rfl, hk7⟩)
        | fail)
      have K9 := Lib.hid ((K5.out.trans H6.out.2).trans hk7)
      clear hk7
      cases hm : inB many 0 65536 with
      | false =>
        have hcas := Lib.hid (cas_of hm)
        have HM := Lib.hid hm
        clear hm
        cases d1 : decide (many < 0) with
        | true =>
          go_wp2_with (first
            | (go_at_call 30; refine (unpack_e2a text many 10 _ rfl d1).mono ?_; rintro e w8 ⟨rfl, hk8⟩)
            | (go_at_call 15; refine (in_one _ _ _ _).mono ?_; rw [HM.out]; rintro e w' ⟨rfl, rfl⟩)
            | (go_at_call 14; refine (when_any _ _ _).mono ?_; rintro e w' ⟨rfl, rfl⟩)
            | (go_at_call 12; refine (first2_any _ _ 0 3 _ (by go_simp) (by go_simp)).mono ?_; rintro e w' ⟨rfl, rfl⟩)
            | fail)
          go_ret
          exact ⟨rfl, (K9.out.trans hk8).alloc _ _⟩
        | false =>
          have d2 : decide ((65536 : Int) < many) = true := dec_cas hcas.out d1
          go_wp2_with (first
            | (go_at_call 30; refine (unpack_e2b text many 10 _ rfl d1 d2).mono ?_; rintro e w8 ⟨rfl, hk8⟩)
            | (go_at_call 15; refine (in_one _ _ _ _).mono ?_; rw [HM.out]; rintro e w' ⟨rfl, rfl⟩)
            | (go_at_call 14; refine (when_any _ _ _).mono ?_; rintro e w' ⟨rfl, rfl⟩)
            | (go_at_call 12; refine (first2_any _ _ 0 3 _ (by go_simp) (by go_simp)).mono ?_; rintro e w' ⟨rfl, rfl⟩)
            | fail)
          go_ret
          exact ⟨rfl, (K9.out.trans hk8).alloc _ _⟩
      | true =>
        obtain ⟨m0, m1⟩ := inB_iff.1 hm
        have HM := Lib.hid hm
        clear hm
        obtain ⟨m, rfl⟩ := Int.eq_ofNat_of_zero_le m0
        by_cases hs : text.size = (m + 2) / 3 * 4
        · have HS := Lib.hid hs
          have htz : ((text.size : Int) == ((m : Int) + 2) / 3 * 4) = true := by rw [hs]; simp <;> omega
          have htz2 : ((text.size : Int) != ((m : Int) + 2) / 3 * 4) = false := by rw [bne, htz]; rfl
          clear hs
          cases hk10 : ok10 text m with
          | true =>
            have HRE := Lib.hid (re10 text m HS.out hk10)
            have HK10 := Lib.hid hk10
            clear hk10
            go_wp2_with (first
              | (go_at_call 30; refine ((unpack_10 text m _ (by omega) HS.out).mono (fun e w9 h => (h.resolve_right (fun x => by have := x.1; rw [HK10.out] at this; cases this)).2)).mono ?_; rintro e w8 ⟨v, rfl, hown, hk8⟩; obtain ⟨A9, c9, rfl, hr9⟩ := hown.shape; have H9 := Lib.hid hr9; clear hown hr9)
              | (go_at_call 15; refine (in_one _ _ _ _).mono ?_; rw [HM.out]; rintro e w' ⟨rfl, rfl⟩)
              | (go_at_call 14; refine (when_any _ _ _).mono ?_; rintro e w' ⟨rfl, rfl⟩)
              | (go_at_call 12; refine (first2_any _ _ 0 0 _ (by go_simp) (by go_simp)).mono ?_; rintro e w' ⟨rfl, rfl⟩)
              | (go_at_call 29; refine (packed10_ok A9 m c9 (fld text) _ (by omega) (H9.out.kept (by repeat (first | exact Kept.refl _ _ | refine Kept.drew ?_ _ | refine Kept.alloc ?_ _ _))) HRE.out.2).mono ?_; rw [HRE.out.1]; rintro e w7 ⟨rfl, hk7⟩)
              | fail)
            go_ret
            exact ⟨rfl, (((K9.out.trans hk8).trans (by repeat (first | exact Kept.refl _ _ | refine Kept.drew ?_ _ | refine Kept.alloc ?_ _ _))).trans hk7)⟩
          | false =>
            have HK10 := Lib.hid hk10
            clear hk10
            go_wp2_with (first
              | (go_at_call 30; refine ((unpack_10 text m _ (by omega) HS.out).mono (fun e w9 h => (h.resolve_left (fun x => by have := x.1; rw [HK10.out] at this; cases this)).2)).mono ?_; rintro e w8 ⟨rfl, hk8⟩)
              | (go_at_call 15; refine (in_one _ _ _ _).mono ?_; rw [HM.out]; rintro e w' ⟨rfl, rfl⟩)
              | (go_at_call 14; refine (when_any _ _ _).mono ?_; rintro e w' ⟨rfl, rfl⟩)
              | (go_at_call 12; refine (first2_any _ _ 0 0 _ (by go_simp) (by go_simp)).mono ?_; rintro e w' ⟨rfl, rfl⟩)
              | fail)
            go_ret
            exact ⟨rfl, (K9.out.trans hk8).alloc _ _⟩
        · have hne : ((text.size : Int) != ((m : Int) + 2) / 3 * 4) = true := by simp <;> omega
          have hne2 : ((text.size : Int) == ((m : Int) + 2) / 3 * 4) = false := by simp <;> omega
          go_wp2_with (first
            | (go_at_call 30; refine (unpack_e3_10 text m _ (by omega) hne).mono ?_; rintro e w8 ⟨rfl, hk8⟩)
            | (go_at_call 15; refine (in_one _ _ _ _).mono ?_; rw [HM.out]; rintro e w' ⟨rfl, rfl⟩)
            | (go_at_call 14; refine (when_any _ _ _).mono ?_; rintro e w' ⟨rfl, rfl⟩)
            | (go_at_call 12; refine (first2_any _ _ 0 0 _ (by go_simp) (by go_simp)).mono ?_; rintro e w' ⟨rfl, rfl⟩)
            | fail)
          go_ret
          exact ⟨rfl, (K9.out.trans hk8).alloc _ _⟩
set_option linter.unusedSimpArgs false in
set_option linter.unusedVariables false in
set_option maxHeartbeats 8000000 in
set_option maxRecDepth 100000 in
theorem pm_16_L (A : Option Addr) (n cap : Nat) (many : Int) (text : ByteArray) (w : World) (hl : decide ((65536 : Int) < n) = true) :
    Calls Try.prog 5 #[.slice A n cap, .int .i64 16, .int .i64 many, .string text] w fun e w' => e = .returned (.bool true) ∧ Kept None' w w' := by
  go_enter Try.func5, Try.ntmps5
  go_upto_region 4 with (first
    | (go_at_call 28; refine (pack_e2 A n cap 16 _ rfl hl).mono ?_; rintro e w' ⟨rfl, rfl⟩)
    | (go_at_call 14; refine (when_any _ _ _).mono ?_; rintro e w' ⟨rfl, rfl⟩)
    | (go_at_call 12; refine (first2_any _ _ 0 4 _ (by go_simp) (by go_simp)).mono ?_; rintro e w' ⟨rfl, rfl⟩)
    | fail)
  refine of_world (fun W4 hW => ?_)
  have k4 : Kept None' w W4 := by rw [hW]; repeat (first | exact Kept.refl _ _ | refine Kept.drew ?_ _ | refine Kept.alloc ?_ _ _)
  have K4 := Lib.hid k4
  clear hW k4
  go_upto_region 16 with (first
    | (go_at_call 16; refine (finishes_one _).mono ?_; rintro e w' ⟨rfl, nf, rfl⟩)
    | fail)
  refine of_world (fun W9 hW => ?_)
  have K9 := Lib.hid (show Kept None' w W9 by rw [hW]; exact K4.out.drew _)
  clear hW
  cases hm : inB many 0 65536 with
  | false =>
    have hcas := Lib.hid (cas_of hm)
    have HM := Lib.hid hm
    clear hm
    cases d1 : decide (many < 0) with
    | true =>
      go_wp2_with (first
        | (go_at_call 30; refine (unpack_e2a text many 16 _ rfl d1).mono ?_; rintro e w8 ⟨rfl, hk8⟩)
        | (go_at_call 15; refine (in_one _ _ _ _).mono ?_; rw [HM.out]; rintro e w' ⟨rfl, rfl⟩)
        | (go_at_call 14; refine (when_any _ _ _).mono ?_; rintro e w' ⟨rfl, rfl⟩)
        | (go_at_call 12; refine (first2_any _ _ 0 3 _ (by go_simp) (by go_simp)).mono ?_; rintro e w' ⟨rfl, rfl⟩)
        | fail)
      go_ret
      exact ⟨rfl, (K9.out.trans hk8).alloc _ _⟩
    | false =>
      have d2 : decide ((65536 : Int) < many) = true := dec_cas hcas.out d1
      go_wp2_with (first
        | (go_at_call 30; refine (unpack_e2b text many 16 _ rfl d1 d2).mono ?_; rintro e w8 ⟨rfl, hk8⟩)
        | (go_at_call 15; refine (in_one _ _ _ _).mono ?_; rw [HM.out]; rintro e w' ⟨rfl, rfl⟩)
        | (go_at_call 14; refine (when_any _ _ _).mono ?_; rintro e w' ⟨rfl, rfl⟩)
        | (go_at_call 12; refine (first2_any _ _ 0 3 _ (by go_simp) (by go_simp)).mono ?_; rintro e w' ⟨rfl, rfl⟩)
        | fail)
      go_ret
      exact ⟨rfl, (K9.out.trans hk8).alloc _ _⟩
  | true =>
    obtain ⟨m0, m1⟩ := inB_iff.1 hm
    have HM := Lib.hid hm
    clear hm
    obtain ⟨m, rfl⟩ := Int.eq_ofNat_of_zero_le m0
    by_cases hs : text.size = 2 * m
    · have hre := re16 text m hs
      have HRE := Lib.hid hre
      have HS := Lib.hid hs
      clear hre hs
      go_wp2_with (first
        | (go_at_call 30; refine (unpack_16 text m _ (by omega) HS.out).mono ?_; rintro e w8 ⟨v, rfl, hown, hk8⟩; obtain ⟨A9, c9, rfl, hr9⟩ := hown.shape; have H9 := Lib.hid hr9; clear hown hr9)
        | (go_at_call 15; refine (in_one _ _ _ _).mono ?_; rw [HM.out]; rintro e w' ⟨rfl, rfl⟩)
        | (go_at_call 14; refine (when_any _ _ _).mono ?_; rintro e w' ⟨rfl, rfl⟩)
        | (go_at_call 12; refine (first2_any _ _ 0 0 _ (by go_simp) (by go_simp)).mono ?_; rintro e w' ⟨rfl, rfl⟩)
        | (go_at_call 29; refine (packed16_ok A9 m c9 (un16 text) _ (by omega) (H9.out.kept (by repeat (first | exact Kept.refl _ _ | refine Kept.drew ?_ _ | refine Kept.alloc ?_ _ _))) HRE.out.2).mono ?_; rw [HRE.out.1]; rintro e w7 ⟨rfl, hk7⟩)
        | fail)
      go_ret
      exact ⟨rfl, (((K9.out.trans hk8).trans (by repeat (first | exact Kept.refl _ _ | refine Kept.drew ?_ _ | refine Kept.alloc ?_ _ _))).trans hk7)⟩
    · have hne : ((text.size : Int) != 2 * (m : Int)) = true := by simp <;> omega
      have hne2 : ((text.size : Int) != (m : Int) * 16 / 8) = true := by simp <;> omega
      go_wp2_with (first
        | (go_at_call 30; refine (unpack_e3_16 text m _ (by omega) hne).mono ?_; rintro e w8 ⟨rfl, hk8⟩)
        | (go_at_call 15; refine (in_one _ _ _ _).mono ?_; rw [HM.out]; rintro e w' ⟨rfl, rfl⟩)
        | (go_at_call 14; refine (when_any _ _ _).mono ?_; rintro e w' ⟨rfl, rfl⟩)
        | (go_at_call 12; refine (first2_any _ _ 0 0 _ (by go_simp) (by go_simp)).mono ?_; rintro e w' ⟨rfl, rfl⟩)
        | fail)
      go_ret
      exact ⟨rfl, (K9.out.trans hk8).alloc _ _⟩
set_option linter.unusedSimpArgs false in
set_option linter.unusedVariables false in
set_option maxHeartbeats 8000000 in
set_option maxRecDepth 100000 in
theorem pm_16_B (A : Option Addr) (n cap : Nat) (many : Int) (text : ByteArray) (w : World) (z : Nat → Int) (hn : n ≤ 65536) (hr : Rd w A n (fun i => .int .i64 (z i))) (hok : okTo z 65535 n = false) :
    Calls Try.prog 5 #[.slice A n cap, .int .i64 16, .int .i64 many, .string text] w fun e w' => e = .returned (.bool true) ∧ Kept None' w w' := by
  have hl : decide ((65536 : Int) < n) = false := by simp; omega
  have HR := Lib.hid hr
  have HK := Lib.hid hok
  clear hr hok
  go_enter Try.func5, Try.ntmps5
  go_upto_region 4 with (first
    | (go_at_call 28; refine (pack_e3_16 A n cap z _ hn HR.out HK.out).mono ?_; rintro e w' ⟨rfl, rfl⟩)
    | (go_at_call 14; refine (when_any _ _ _).mono ?_; rintro e w' ⟨rfl, rfl⟩)
    | (go_at_call 12; refine (first2_any _ _ 0 0 _ (by go_simp) (by go_simp)).mono ?_; rintro e w' ⟨rfl, rfl⟩)
    | fail)
  refine of_world (fun W4 hW => ?_)
  have k4 : Kept None' w W4 := by rw [hW]; repeat (first | exact Kept.refl _ _ | refine Kept.drew ?_ _ | refine Kept.alloc ?_ _ _)
  have K4 := Lib.hid k4
  clear hW k4
  go_wp2_with fail
  go_loopw [12, 49] (fun s i wr => ∃ k : Nat, k ≤ n ∧ i = .int .i64 k ∧ s = .int .i64 (if okTo z 65535 k then 0 else 3) ∧ Kept None' w wr) (fun _ i _ => n - (intOf i).toNat)
  case atStart => exact ⟨0, by omega, rfl, rfl, K4.out⟩
  case round =>
    obtain ⟨k, hk, rfl, rfl, hkp⟩ := hrel
    have KP := Lib.hid hkp
    clear hkp K4
    by_cases hlt : k < n
    · obtain ⟨b, o, rfl, hc⟩ := HR.out (by omega)
      have c0 := KP.out.some (hc k hlt) id
      clear hc
      have hnext : okTo z 65535 (k + 1) = (okTo z 65535 k && inB (z k) 0 65535) := rfl
      cases bb : inB (z k) 0 65535 <;> cases ho : okTo z 65535 k
      all_goals
        rw [bb, ho] at hnext
        have HN := Lib.hid hnext
        have HB := Lib.hid bb
        clear hnext bb ho
        go_wp2_with (first
          | (go_at_call 15; refine (in_one _ _ _ _).mono ?_; rw [HB.out]; rintro e w' ⟨rfl, rfl⟩)
          | (go_at_call 14; refine (when_any _ _ _).mono ?_; rintro e w' ⟨rfl, rfl⟩)
          | (go_at_call 12; refine (first2_any _ _ _ _ _ (by go_simp; rfl) (by go_simp; rfl)).mono ?_; rintro e w' ⟨rfl, rfl⟩)
          | fail)
        go_roundw
        case rel => exact ⟨k + 1, by omega, by go_num, by rw [HN.out]; rfl, KP.out.alloc _ _⟩
        case measure => simp [intOf]; omega
    · obtain rfl : n = k := by omega
      rw [HK.out]
      go_upto_region 16 with (first
        | (go_at_call 16; refine (finishes_one _).mono ?_; rintro e w' ⟨rfl, nf, rfl⟩)
        | fail)
      refine of_world (fun W9 hW => ?_)
      have K9 := Lib.hid (show Kept None' w W9 by rw [hW]; exact KP.out.drew _)
      clear hW
      cases hm : inB many 0 65536 with
      | false =>
        have hcas := Lib.hid (cas_of hm)
        have HM := Lib.hid hm
        clear hm
        cases d1 : decide (many < 0) with
        | true =>
          go_wp2_with (first
            | (go_at_call 30; refine (unpack_e2a text many 16 _ rfl d1).mono ?_; rintro e w8 ⟨rfl, hk8⟩)
            | (go_at_call 15; refine (in_one _ _ _ _).mono ?_; rw [HM.out]; rintro e w' ⟨rfl, rfl⟩)
            | (go_at_call 14; refine (when_any _ _ _).mono ?_; rintro e w' ⟨rfl, rfl⟩)
            | (go_at_call 12; refine (first2_any _ _ 0 3 _ (by go_simp) (by go_simp)).mono ?_; rintro e w' ⟨rfl, rfl⟩)
            | fail)
          go_ret
          exact ⟨rfl, (K9.out.trans hk8).alloc _ _⟩
        | false =>
          have d2 : decide ((65536 : Int) < many) = true := dec_cas hcas.out d1
          go_wp2_with (first
            | (go_at_call 30; refine (unpack_e2b text many 16 _ rfl d1 d2).mono ?_; rintro e w8 ⟨rfl, hk8⟩)
            | (go_at_call 15; refine (in_one _ _ _ _).mono ?_; rw [HM.out]; rintro e w' ⟨rfl, rfl⟩)
            | (go_at_call 14; refine (when_any _ _ _).mono ?_; rintro e w' ⟨rfl, rfl⟩)
            | (go_at_call 12; refine (first2_any _ _ 0 3 _ (by go_simp) (by go_simp)).mono ?_; rintro e w' ⟨rfl, rfl⟩)
            | fail)
          go_ret
          exact ⟨rfl, (K9.out.trans hk8).alloc _ _⟩
      | true =>
        obtain ⟨m0, m1⟩ := inB_iff.1 hm
        have HM := Lib.hid hm
        clear hm
        obtain ⟨m, rfl⟩ := Int.eq_ofNat_of_zero_le m0
        by_cases hs : text.size = 2 * m
        · have hre := re16 text m hs
          have HRE := Lib.hid hre
          have HS := Lib.hid hs
          clear hre hs
          go_wp2_with (first
            | (go_at_call 30; refine (unpack_16 text m _ (by omega) HS.out).mono ?_; rintro e w8 ⟨v, rfl, hown, hk8⟩; obtain ⟨A9, c9, rfl, hr9⟩ := hown.shape; have H9 := Lib.hid hr9; clear hown hr9)
            | (go_at_call 15; refine (in_one _ _ _ _).mono ?_; rw [HM.out]; rintro e w' ⟨rfl, rfl⟩)
            | (go_at_call 14; refine (when_any _ _ _).mono ?_; rintro e w' ⟨rfl, rfl⟩)
            | (go_at_call 12; refine (first2_any _ _ 0 0 _ (by go_simp) (by go_simp)).mono ?_; rintro e w' ⟨rfl, rfl⟩)
            | (go_at_call 29; refine (packed16_ok A9 m c9 (un16 text) _ (by omega) (H9.out.kept (by repeat (first | exact Kept.refl _ _ | refine Kept.drew ?_ _ | refine Kept.alloc ?_ _ _))) HRE.out.2).mono ?_; rw [HRE.out.1]; rintro e w7 ⟨rfl, hk7⟩)
            | fail)
          go_ret
          exact ⟨rfl, (((K9.out.trans hk8).trans (by repeat (first | exact Kept.refl _ _ | refine Kept.drew ?_ _ | refine Kept.alloc ?_ _ _))).trans hk7)⟩
        · have hne : ((text.size : Int) != 2 * (m : Int)) = true := by simp <;> omega
          have hne2 : ((text.size : Int) != (m : Int) * 16 / 8) = true := by simp <;> omega
          go_wp2_with (first
            | (go_at_call 30; refine (unpack_e3_16 text m _ (by omega) hne).mono ?_; rintro e w8 ⟨rfl, hk8⟩)
            | (go_at_call 15; refine (in_one _ _ _ _).mono ?_; rw [HM.out]; rintro e w' ⟨rfl, rfl⟩)
            | (go_at_call 14; refine (when_any _ _ _).mono ?_; rintro e w' ⟨rfl, rfl⟩)
            | (go_at_call 12; refine (first2_any _ _ 0 0 _ (by go_simp) (by go_simp)).mono ?_; rintro e w' ⟨rfl, rfl⟩)
            | fail)
          go_ret
          exact ⟨rfl, (K9.out.trans hk8).alloc _ _⟩
set_option linter.unusedSimpArgs false in
set_option linter.unusedVariables false in
set_option maxHeartbeats 8000000 in
set_option maxRecDepth 100000 in
theorem pm_16_O (A : Option Addr) (n cap : Nat) (many : Int) (text : ByteArray) (w : World) (z : Nat → Int) (hn : n ≤ 65536) (hr : Rd w A n (fun i => .int .i64 (z i))) (hok : okTo z 65535 n = true) :
    Calls Try.prog 5 #[.slice A n cap, .int .i64 16, .int .i64 many, .string text] w fun e w' => e = .returned (.bool true) ∧ Kept None' w w' := by
  have hl : decide ((65536 : Int) < n) = false := by simp; omega
  have HR := Lib.hid hr
  have HK := Lib.hid hok
  clear hr hok
  go_enter Try.func5, Try.ntmps5
  go_upto_region 4 with (first
    | (go_at_call 28; refine (pack16_ok A n cap z _ hn HR.out HK.out).mono ?_; rintro e w1 ⟨rfl, hk1⟩)
    | (go_at_call 14; refine (when_any _ _ _).mono ?_; rintro e w' ⟨rfl, rfl⟩)
    | (go_at_call 12; refine (first2_any _ _ 0 0 _ (by go_simp) (by go_simp)).mono ?_; rintro e w' ⟨rfl, rfl⟩)
    | fail)
  refine of_world (fun W4 hW => ?_)
  have k4 : Kept None' w W4 := by rw [hW]; exact hk1.alloc _ _
  have K4 := Lib.hid k4
  clear hW k4
  go_wp2_with fail
  go_loopw [12, 49] (fun s i wr => ∃ k : Nat, k ≤ n ∧ i = .int .i64 k ∧ s = .int .i64 (if okTo z 65535 k then 0 else 3) ∧ Kept None' w wr) (fun _ i _ => n - (intOf i).toNat)
  case atStart => exact ⟨0, by omega, rfl, rfl, K4.out⟩
  case round =>
    obtain ⟨k, hk, rfl, rfl, hkp⟩ := hrel
    have KP := Lib.hid hkp
    clear hkp K4
    by_cases hlt : k < n
    · obtain ⟨b, o, rfl, hc⟩ := HR.out (by omega)
      have c0 := KP.out.some (hc k hlt) id
      clear hc
      have hnext : okTo z 65535 (k + 1) = (okTo z 65535 k && inB (z k) 0 65535) := rfl
      cases bb : inB (z k) 0 65535 <;> cases ho : okTo z 65535 k
      all_goals
        rw [bb, ho] at hnext
        have HN := Lib.hid hnext
        have HB := Lib.hid bb
        clear hnext bb ho
        go_wp2_with (first
          | (go_at_call 15; refine (in_one _ _ _ _).mono ?_; rw [HB.out]; rintro e w' ⟨rfl, rfl⟩)
          | (go_at_call 14; refine (when_any _ _ _).mono ?_; rintro e w' ⟨rfl, rfl⟩)
          | (go_at_call 12; refine (first2_any _ _ _ _ _ (by go_simp; rfl) (by go_simp; rfl)).mono ?_; rintro e w' ⟨rfl, rfl⟩)
          | fail)
        go_roundw
        case rel => exact ⟨k + 1, by omega, by go_num, by rw [HN.out]; rfl, KP.out.alloc _ _⟩
        case measure => simp [intOf]; omega
    · obtain rfl : n = k := by omega
      rw [HK.out]
      go_upto_region 13 with (first
        | (go_at_call 16; refine (finishes_one _).mono ?_; rintro e w' ⟨rfl, nf, rfl⟩)
        | (go_at_call 29; refine (packed16_ok A n cap z _ hn (HR.out.kept (KP.out.drew _)) HK.out).mono ?_; rintro e w5 ⟨rfl, hk5⟩)
        | fail)
      have K5 := Lib.hid ((KP.out.drew _).trans hk5)
      clear hk5
      go_upto_region 16 with (first
        | (go_at_call 30; refine (unpack_16 (strG (2 * n) (pk16 z)) n _ hn (strG_size (2 * n) _)).mono ?_; rintro e w6 ⟨v, rfl, hown, hk6⟩; obtain ⟨A6, c6, rfl, hr6⟩ := hown.shape; have H6 := Lib.hid (And.intro (hr6.congr (fun j hj => by rw [un16s HK.out j hj])) hk6); clear hown hr6 hk6)
        | (go_at_call 31; refine (equal_ints A A6 n cap c6 z _ (by omega) (HR.out.kept (K5.out.trans H6.out.2)) H6.out.1).mono ?_; rintro e w7 ⟨rfl, hk7⟩)
        | fail)
      have K9 := Lib.hid ((K5.out.trans H6.out.2).trans hk7)
      clear hk7
      cases hm : inB many 0 65536 with
      | false =>
        have hcas := Lib.hid (cas_of hm)
        have HM := Lib.hid hm
        clear hm
        cases d1 : decide (many < 0) with
        | true =>
          go_wp2_with (first
            | (go_at_call 30; refine (unpack_e2a text many 16 _ rfl d1).mono ?_; rintro e w8 ⟨rfl, hk8⟩)
            | (go_at_call 15; refine (in_one _ _ _ _).mono ?_; rw [HM.out]; rintro e w' ⟨rfl, rfl⟩)
            | (go_at_call 14; refine (when_any _ _ _).mono ?_; rintro e w' ⟨rfl, rfl⟩)
            | (go_at_call 12; refine (first2_any _ _ 0 3 _ (by go_simp) (by go_simp)).mono ?_; rintro e w' ⟨rfl, rfl⟩)
            | fail)
          go_ret
          exact ⟨rfl, (K9.out.trans hk8).alloc _ _⟩
        | false =>
          have d2 : decide ((65536 : Int) < many) = true := dec_cas hcas.out d1
          go_wp2_with (first
            | (go_at_call 30; refine (unpack_e2b text many 16 _ rfl d1 d2).mono ?_; rintro e w8 ⟨rfl, hk8⟩)
            | (go_at_call 15; refine (in_one _ _ _ _).mono ?_; rw [HM.out]; rintro e w' ⟨rfl, rfl⟩)
            | (go_at_call 14; refine (when_any _ _ _).mono ?_; rintro e w' ⟨rfl, rfl⟩)
            | (go_at_call 12; refine (first2_any _ _ 0 3 _ (by go_simp) (by go_simp)).mono ?_; rintro e w' ⟨rfl, rfl⟩)
            | fail)
          go_ret
          exact ⟨rfl, (K9.out.trans hk8).alloc _ _⟩
      | true =>
        obtain ⟨m0, m1⟩ := inB_iff.1 hm
        have HM := Lib.hid hm
        clear hm
        obtain ⟨m, rfl⟩ := Int.eq_ofNat_of_zero_le m0
        by_cases hs : text.size = 2 * m
        · have hre := re16 text m hs
          have HRE := Lib.hid hre
          have HS := Lib.hid hs
          clear hre hs
          go_wp2_with (first
            | (go_at_call 30; refine (unpack_16 text m _ (by omega) HS.out).mono ?_; rintro e w8 ⟨v, rfl, hown, hk8⟩; obtain ⟨A9, c9, rfl, hr9⟩ := hown.shape; have H9 := Lib.hid hr9; clear hown hr9)
            | (go_at_call 15; refine (in_one _ _ _ _).mono ?_; rw [HM.out]; rintro e w' ⟨rfl, rfl⟩)
            | (go_at_call 14; refine (when_any _ _ _).mono ?_; rintro e w' ⟨rfl, rfl⟩)
            | (go_at_call 12; refine (first2_any _ _ 0 0 _ (by go_simp) (by go_simp)).mono ?_; rintro e w' ⟨rfl, rfl⟩)
            | (go_at_call 29; refine (packed16_ok A9 m c9 (un16 text) _ (by omega) (H9.out.kept (by repeat (first | exact Kept.refl _ _ | refine Kept.drew ?_ _ | refine Kept.alloc ?_ _ _))) HRE.out.2).mono ?_; rw [HRE.out.1]; rintro e w7 ⟨rfl, hk7⟩)
            | fail)
          go_ret
          exact ⟨rfl, (((K9.out.trans hk8).trans (by repeat (first | exact Kept.refl _ _ | refine Kept.drew ?_ _ | refine Kept.alloc ?_ _ _))).trans hk7)⟩
        · have hne : ((text.size : Int) != 2 * (m : Int)) = true := by simp <;> omega
          have hne2 : ((text.size : Int) != (m : Int) * 16 / 8) = true := by simp <;> omega
          go_wp2_with (first
            | (go_at_call 30; refine (unpack_e3_16 text m _ (by omega) hne).mono ?_; rintro e w8 ⟨rfl, hk8⟩)
            | (go_at_call 15; refine (in_one _ _ _ _).mono ?_; rw [HM.out]; rintro e w' ⟨rfl, rfl⟩)
            | (go_at_call 14; refine (when_any _ _ _).mono ?_; rintro e w' ⟨rfl, rfl⟩)
            | (go_at_call 12; refine (first2_any _ _ 0 0 _ (by go_simp) (by go_simp)).mono ?_; rintro e w' ⟨rfl, rfl⟩)
            | fail)
          go_ret
          exact ⟨rfl, (K9.out.trans hk8).alloc _ _⟩
theorem walk_packsMatch (A : Option Addr) (n cap : Nat) (z : Nat → Int) (d many : Int) (text : ByteArray) (w : World)
    (_ : n ≤ cap) (_ : cap ≤ maxLen) (hr : Rd w A n (fun i => .int .i64 (z i))) (_ : ∀ i, (Lit.int .i64 (z i)).wf = true) (_ : (Lit.int .i64 d).wf = true) (_ : (Lit.int .i64 many).wf = true) (_ : text.size ≤ 9223372036854775807) :
    Calls Try.prog 5 #[.slice A n cap, .int .i64 d, .int .i64 many, .string text] w fun e w' => e = .returned (.bool true) ∧ Kept None' w w' := by
  cases hd : pkB d with
  | false => exact pm_kind A n cap d many text w hd
  | true =>
    have h : d = 8 ∨ d = 10 ∨ d = 16 := by unfold pkB at hd; simpa using hd
    by_cases hn : n ≤ 65536
    · rcases h with rfl | rfl | rfl
      · cases hk : okTo z 255 n with
        | true => exact pm_8_O A n cap many text w z hn hr hk
        | false => exact pm_8_B A n cap many text w z hn hr hk
      · cases hk : okTo z 1023 n with
        | true => exact pm_10_O A n cap many text w z hn hr hk
        | false => exact pm_10_B A n cap many text w z hn hr hk
      · cases hk : okTo z 65535 n with
        | true => exact pm_16_O A n cap many text w z hn hr hk
        | false => exact pm_16_B A n cap many text w z hn hr hk
    · have hl : decide ((65536 : Int) < n) = true := by simp; omega
      rcases h with rfl | rfl | rfl
      · exact pm_8_L A n cap many text w hl
      · exact pm_10_L A n cap many text w hl
      · exact pm_16_L A n cap many text w hl
end Go.Proofs.Ytfphhlodfieopaa
