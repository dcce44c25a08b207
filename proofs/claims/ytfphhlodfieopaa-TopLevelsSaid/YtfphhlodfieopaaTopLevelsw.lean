/- The walk of TopLevels. Conditions: none. -/
import Derived.Test.YtfphhlodfieopaaTn
import Derived.Test.YtfphhlodfieopaaLy
import Derived.Test.YtfphhlodfieopaaUe
import Derived.Test.YtfphhlodfieopaaLg
import Derived.Test.YtfphhlodfieopaaRo
namespace Go.Proofs.Ytfphhlodfieopaa
open Go.RowKit
open Fl Fr
open BigFrame

theorem okTo_of {z : Nat → Int} {M : Int} : ∀ n : Nat, (∀ j, j < n → 0 ≤ z j ∧ z j ≤ M) → okTo z M n = true
  | 0, _ => rfl
  | n + 1, h => by
    show (okTo z M n && inB (z n) 0 M) = true
    rw [okTo_of n (fun j hj => h j (by omega)), inB_yes (h n (by omega)).1 (h n (by omega)).2]; rfl
theorem fr_yes {x y W H M : Int} {n : Nat} {z : Nat → Int} {w w' : World} {e : Ending} (hok : okTo z M n = true)
    (h : (okTo z M n = true ∧ ∃ B, w.heap.size ≤ B ∧ e = .returned (.tuple #[.agg #[.int .i64 x, .int .i64 y, .int .i64 W, .int .i64 H, .slice (some ⟨B, 0, none⟩) n n], .int .i64 0]) ∧ ∀ j, j < n → w'.cell? ⟨B, j, none⟩ = some (.float .f32 (valP (z j) M))) ∨ (okTo z M n = false ∧ e = .returned (.tuple #[zeroFrame, .int .i64 3]))) :
    ∃ B, w.heap.size ≤ B ∧ e = .returned (.tuple #[.agg #[.int .i64 x, .int .i64 y, .int .i64 W, .int .i64 H, .slice (some ⟨B, 0, none⟩) n n], .int .i64 0]) ∧ ∀ j, j < n → w'.cell? ⟨B, j, none⟩ = some (.float .f32 (valP (z j) M)) := by
  rcases h with h | h
  · exact h.2
  · rw [hok] at h; cases h.1
theorem lvK_bd (how s x y W M : Int) (z : Nat → Nat) (k : Nat) (h0 : 0 ≤ M) (h2 : M ≤ 16777216) : 0 ≤ lvK how s x y W M z k ∧ lvK how s x y W M z k ≤ M := level_bd _ _ _ h0 h2
theorem lvK_back (s x y W M : Int) (g : Nat → Int) (k : Nat) (h1 : 1 ≤ M) (h2 : M ≤ 65535) (hg : 0 ≤ g k ∧ g k ≤ M) : lvK 0 s x y W M (fun j => valP (g j) M) k = g k := by
  have h : offK 0 s x y W k = 0 := by
    unfold offK
    split
    · exact offP_0 ..
    · rfl
  unfold lvK
  rw [h]
  exact level_value (g k) M hg.1 hg.2 h1 h2


set_option linter.unusedSimpArgs false in
set_option linter.unusedVariables false in
set_option maxHeartbeats 8000000 in
set_option maxRecDepth 100000 in
theorem tl_err (x y W H : Int) (A : Option Addr) (n cap : Nat) (how s d E : Int) (w : World) (h0 : ¬ E = 0) (hL : ∀ w, Calls Try.prog 48 #[.agg #[.int .i64 x, .int .i64 y, .int .i64 W, .int .i64 H, .slice A n cap], .int .i64 how, .int .u32 s, .int .i64 d] w (LvErr E w)) :
    Calls Try.prog 10 #[.agg #[.int .i64 x, .int .i64 y, .int .i64 W, .int .i64 H, .slice A n cap], .int .i64 how, .int .u32 s, .int .i64 d] w fun e w' => e = .returned (.bool true) ∧ Kept None' w w' := by
  have hb : (E != 0) = true := by simp [h0]
  have HL := Lib.hid hL
  clear hL
  go_enter Try.func10, Try.ntmps10
  go_upto_region 1 with (fail)
  refine of_world (fun w0 hW => ?_)
  have g0 : w0.cell? ⟨w.heap.size, 0, none⟩ = some (.int .i64 x) := by rw [hW]; go_simp
  have g1 : w0.cell? ⟨w.heap.size, 1, none⟩ = some (.int .i64 y) := by rw [hW]; go_simp
  have g2 : w0.cell? ⟨w.heap.size, 2, none⟩ = some (.int .i64 W) := by rw [hW]; go_simp
  have g3 : w0.cell? ⟨w.heap.size, 3, none⟩ = some (.int .i64 H) := by rw [hW]; go_simp
  have g4 : w0.cell? ⟨w.heap.size, 4, none⟩ = some (.slice A n cap) := by rw [hW]; go_simp
  have kb : Kept None' w w0 := by rw [hW]; exact (Kept.refl None' w).alloc _ _
  have KB := Lib.hid kb
  clear hW kb
  go_wp2_with (first
    | (go_at_call 56; refine (landed_one _).mono ?_; rintro e w' ⟨rfl, rfl⟩)
    | (go_at_call 48; refine (HL.out _).mono ?_; rintro e w1 ⟨rfl, hk1⟩)
    | fail)
  go_ret
  exact ⟨rfl, KB.out.trans hk1⟩

set_option linter.unusedSimpArgs false in
set_option linter.unusedVariables false in
set_option maxHeartbeats 8000000 in
set_option maxRecDepth 100000 in
theorem tl_big (x y : Int) (Wn Hn : Nat) (b o n cap : Nat) (z : Nat → Nat) (how s d M : Int) (w : World) (hF : frE x y Wn Hn n = 0) (hh1 : 0 ≤ how) (hh2 : how ≤ 2) (hc : ∀ i, i < n → w.cell? ⟨b, o + i, none⟩ = some (.float .f32 (z i))) (hcap : n ≤ cap) (d1 : 1 ≤ d) (d2 : d ≤ 16) (hM : wrap64 (wrap64 (2 ^ d.toNat) - 1) = M) (h3 : 1 ≤ M) (h4 : M ≤ 65535) (hn2 : decide ((2000 : Int) < n) = true) :
    Calls Try.prog 10 #[.agg #[.int .i64 x, .int .i64 y, .int .i64 Wn, .int .i64 Hn, .slice (some ⟨b, o, none⟩) n cap], .int .i64 how, .int .u32 s, .int .i64 d] w fun e w' => e = .returned (.bool true) ∧ Kept None' w w' := by
  obtain ⟨hE, hn⟩ := frE_good hF
  obtain ⟨w1', w2', w3', w4', w5'⟩ := regE_ok hE
  have w6 := (mul_bd w1' w2' w3' w4').2
  have w7 : 4 * (Wn : Int) * Hn = 4 * (Wn * Hn) := Int.mul_assoc ..
  have hn6 : n ≤ 262144 := by omega
  have HE := Lib.hid (And.intro hE hn)
  have HF := Lib.hid hF
  have HC := Lib.hid hc
  clear hF hc hE hn w5' w6 w7
  have HM := Lib.hid hM
  clear hM
  go_enter Try.func10, Try.ntmps10
  go_upto_region 1 with (fail)
  refine of_world (fun w0 hW => ?_)
  have g0 : w0.cell? ⟨w.heap.size, 0, none⟩ = some (.int .i64 x) := by rw [hW]; go_simp
  have g1 : w0.cell? ⟨w.heap.size, 1, none⟩ = some (.int .i64 y) := by rw [hW]; go_simp
  have g2 : w0.cell? ⟨w.heap.size, 2, none⟩ = some (.int .i64 Wn) := by rw [hW]; go_simp
  have g3 : w0.cell? ⟨w.heap.size, 3, none⟩ = some (.int .i64 Hn) := by rw [hW]; go_simp
  have g4 : w0.cell? ⟨w.heap.size, 4, none⟩ = some (.slice (some ⟨b, o, none⟩) n cap) := by rw [hW]; go_simp
  have kb : Kept None' w w0 := by rw [hW]; exact (Kept.refl None' w).alloc _ _
  have KB := Lib.hid kb
  clear hW kb
  go_wp2_with (first
    | (go_at_call 56; refine (landed_one _).mono ?_; rintro e w' ⟨rfl, rfl⟩)
    | (go_at_call 48; refine (levels_ok x y Wn Hn b o n cap z how s d M _ HF.out hh1 hh2 d1 d2 HM.out h3 h4 (fun i hi => KB.out.some (HC.out i hi) id) hcap).mono ?_; rintro e w1 ⟨B1, hB1, rfl, hk1, hc1⟩; have HC1 := Lib.hid hc1; have KA := Lib.hid hk1; have HK1 := Lib.hid (KB.out.trans hk1); clear hk1 hc1 hB1)
    | fail)
  go_ret
  exact ⟨rfl, HK1.out⟩

set_option linter.unusedSimpArgs false in
set_option linter.unusedVariables false in
set_option maxHeartbeats 8000000 in
set_option maxRecDepth 100000 in
theorem tl_0_true (x y : Int) (Wn Hn : Nat) (b o n cap : Nat) (z : Nat → Nat) (how s d M : Int) (w : World) (hF : frE x y Wn Hn n = 0) (hh1 : 0 ≤ how) (hh2 : how ≤ 2) (hc : ∀ i, i < n → w.cell? ⟨b, o + i, none⟩ = some (.float .f32 (z i))) (hcap : n ≤ cap) (d1 : 1 ≤ d) (d2 : d ≤ 16) (hM : wrap64 (wrap64 (2 ^ d.toNat) - 1) = M) (h3 : 1 ≤ M) (h4 : M ≤ 65535) (hd : pkB d = false) (hn2 : n ≤ 2000) (hz : (how == 0) = true) :
    Calls Try.prog 10 #[.agg #[.int .i64 x, .int .i64 y, .int .i64 Wn, .int .i64 Hn, .slice (some ⟨b, o, none⟩) n cap], .int .i64 how, .int .u32 s, .int .i64 d] w fun e w' => e = .returned (.bool true) ∧ Kept None' w w' := by
  obtain ⟨hE, hn⟩ := frE_good hF
  obtain ⟨w1', w2', w3', w4', w5'⟩ := regE_ok hE
  have w6 := (mul_bd w1' w2' w3' w4').2
  have w7 : 4 * (Wn : Int) * Hn = 4 * (Wn * Hn) := Int.mul_assoc ..
  have hn6 : n ≤ 262144 := by omega
  have HE := Lib.hid (And.intro hE hn)
  have HF := Lib.hid hF
  have HC := Lib.hid hc
  clear hF hc hE hn w5' w6 w7
  have hb2 : decide ((2000 : Int) < n) = false := by simp; omega
  have hw : wrap64 (wrap64 (2 ^ (d : Int).toNat) - 1) = (M : Int) := hM
  have HM := Lib.hid hM
  clear hM
  have hok : okTo (lvK how s x y Wn M z) M n = true := okTo_of n (fun j hj => lvK_bd how s x y Wn M z j (by omega) (by omega))
  have HOK := Lib.hid hok
  have HP := Lib.hid (fun k c1 c2 => top_px how s x y Wn z k M hh1 hh2 h3 h4 (most_three d1 d2 HM.out) c1 c2)
  obtain ⟨Mn, hMn⟩ := Int.eq_ofNat_of_zero_le (show (0 : Int) ≤ M by omega)
  obtain ⟨_, _, -, hq1, -⟩ := step_all false Mn (by omega) (by omega)
  obtain ⟨_, _, -, hq2, -⟩ := step_all true Mn (by omega) (by omega)
  rw [← hMn] at hq1 hq2
  have HW := Lib.hid hw
  clear hok hw hMn Mn
  go_enter Try.func10, Try.ntmps10
  go_upto_region 1 with (fail)
  refine of_world (fun w0 hW => ?_)
  have g0 : w0.cell? ⟨w.heap.size, 0, none⟩ = some (.int .i64 x) := by rw [hW]; go_simp
  have g1 : w0.cell? ⟨w.heap.size, 1, none⟩ = some (.int .i64 y) := by rw [hW]; go_simp
  have g2 : w0.cell? ⟨w.heap.size, 2, none⟩ = some (.int .i64 Wn) := by rw [hW]; go_simp
  have g3 : w0.cell? ⟨w.heap.size, 3, none⟩ = some (.int .i64 Hn) := by rw [hW]; go_simp
  have g4 : w0.cell? ⟨w.heap.size, 4, none⟩ = some (.slice (some ⟨b, o, none⟩) n cap) := by rw [hW]; go_simp
  have kb : Kept None' w w0 := by rw [hW]; exact (Kept.refl None' w).alloc _ _
  have KB := Lib.hid kb
  clear hW kb
  go_upto_region 6 with (first
    | (go_at_call 56; refine (landed_one _).mono ?_; rintro e w' ⟨rfl, rfl⟩)
    | (go_at_call 48; refine (levels_ok x y Wn Hn b o n cap z how s d M _ HF.out hh1 hh2 d1 d2 HM.out h3 h4 (fun i hi => KB.out.some (HC.out i hi) id) hcap).mono ?_; rintro e w1 ⟨B1, hB1, rfl, hk1, hc1⟩; have HC1 := Lib.hid hc1; have KA := Lib.hid hk1; have HK1 := Lib.hid (KB.out.trans hk1); clear hk1 hc1 hB1)
    | fail)
  have g0 := KA.out.some g0 id
  have g1 := KA.out.some g1 id
  have g2 := KA.out.some g2 id
  have g3 := KA.out.some g3 id
  have g4 := KA.out.some g4 id
  have HRL := Lib.hid (show Rd w1 (some ⟨B1, 0, none⟩) n (fun i => .int .i64 (lvK how s x y Wn M z i)) from fun _ => ⟨B1, 0, rfl, fun i hi => by rw [Nat.zero_add]; exact HC1.out i hi⟩)
  go_upto_region 11 with (first
    | (go_at_call 28; refine (pack_e1 _ _ _ d _ hd).mono ?_; rintro e w2 ⟨rfl, rfl⟩)
    | fail)
  have KC := Lib.hid (Kept.refl None' w1)
  have g0 := KC.out.some g0 id
  have g1 := KC.out.some g1 id
  have g2 := KC.out.some g2 id
  have g3 := KC.out.some g3 id
  have g4 := KC.out.some g4 id
  have HLa := Lib.hid (fun j hj => KC.out.some (HC1.out j hj) id)
  have KD := Lib.hid (HK1.out.trans KC.out)
  go_upto_region 12 with (first
    | (go_at_call 11; refine (frame_go x y Wn Hn d M B1 0 n n (lvK how s x y Wn M z) _ HE.out.1 d1 d2 HW.out h3 h4 HE.out.2 (fun i hi => by rw [Nat.zero_add]; exact HLa.out i hi) (Nat.le_refl _)).mono ?_; rintro e w8 hp; obtain ⟨hk8, hB8⟩ := hp; obtain ⟨B4, hB4, rfl, hc4⟩ := fr_yes HOK.out hB8; have HC4 := Lib.hid hc4; have HK8 := Lib.hid hk8; clear hk8 hc4 hB4 hB8)
    | fail)
  refine of_world (fun W10 hW => ?_)
  have k10 : Kept None' w8 W10 := by rw [hW]; exact (Kept.refl _ _).alloc _ _
  have q0 : W10.cell? ⟨w8.heap.size, 0, none⟩ = some (.int .i64 x) := by rw [hW]; go_simp
  have q1 : W10.cell? ⟨w8.heap.size, 1, none⟩ = some (.int .i64 y) := by rw [hW]; go_simp
  have q2 : W10.cell? ⟨w8.heap.size, 2, none⟩ = some (.int .i64 Wn) := by rw [hW]; go_simp
  have q3 : W10.cell? ⟨w8.heap.size, 3, none⟩ = some (.int .i64 Hn) := by rw [hW]; go_simp
  have q4 : W10.cell? ⟨w8.heap.size, 4, none⟩ = some (.slice (some ⟨B4, 0, none⟩) n n) := by rw [hW]; go_simp
  have kt := HK8.out.trans k10
  have g0 := kt.some g0 id
  have g1 := kt.some g1 id
  have g2 := kt.some g2 id
  have g3 := kt.some g3 id
  have g4 := kt.some g4 id
  have HLb := Lib.hid (fun j hj => kt.some (HLa.out j hj) id)
  have HC4b := Lib.hid (fun j hj => k10.some (HC4.out j hj) id)
  have K10 := Lib.hid (KD.out.trans kt)
  clear hW k10 kt
  obtain ⟨Q, hQ⟩ : ∃ Q, stepP false M = Q := ⟨_, rfl⟩
  obtain ⟨S, hS⟩ : ∃ S, stepP true M = S := ⟨_, rfl⟩
  have hQ1 : fC .quo .f64 4607182418800017408 (floatOfInt .f64 M) = Q := by rw [← hQ]; unfold stepP; rw [if_neg Bool.false_ne_true]
  have hS1 : fC .quo .f64 Q 4611686018427387904 = S := by rw [← hS, ← hQ1]; unfold stepP; rw [if_pos rfl]
  rw [hQ] at hq1
  rw [hS] at hq2
  obtain ⟨sa1, sa2⟩ := det (show nan .f64 (fC .quo .f64 4607182418800017408 (floatOfInt .f64 M)) = false by rw [hQ1]; exact hq1)
  rw [hQ1] at sa1
  obtain ⟨sb1, sb2⟩ := det (show nan .f64 (fC .quo .f64 Q 4611686018427387904) = false by rw [hS1]; exact hq2)
  rw [hS1] at sb1
  have HS := Lib.hid hS
  have HSQ := Lib.hid hS1
  have hw := HW.out
  clear hQ1 hS1 hQ hS hq1 hq2
  go_upto_region 17 with (fail)
  clear hw sa1 sa2 sb1 sb2
  have HG := Lib.hid (And.intro g4 q4)
  have HGq := Lib.hid (And.intro q0 (And.intro q1 (And.intro q2 q3)))
  go_wp2_with fail
  go_loopw [82] (fun i wr => ∃ k : Nat, k ≤ n ∧ i = .int .i64 k ∧ Kept None' W10 wr) (fun i _ => n - (intOf i).toNat)
  case atStart => exact ⟨0, by omega, rfl, Kept.refl _ _⟩
  case round =>
    obtain ⟨k, hk, rfl, hkw⟩ := hrel
    have HKW := Lib.hid hkw
    by_cases hlt : k < n
    · have c0 := (K10.out.trans hkw).some (HC.out k hlt) id
      have c4 := hkw.some (HC4b.out k hlt) id
      have q4 := hkw.some HG.out.2 id
      clear hkw
      cases c1 : (FloatKind.f32.format.order (z k) 0 == some .gt || FloatKind.f32.format.order (z k) 0 == some .eq) with
      | false =>
        go_wp2_with fail
        go_roundw
        case rel => exact ⟨k + 1, by omega, by go_num, HKW.out⟩
        case measure => simp [intOf]; omega
      | true =>
        cases c2 : (FloatKind.f32.format.order (z k) 1065353216 == some .lt || FloatKind.f32.format.order (z k) 1065353216 == some .eq) with
        | false =>
          go_wp2_with fail
          go_roundw
          case rel => exact ⟨k + 1, by omega, by go_num, HKW.out⟩
          case measure => simp [intOf]; omega
        | true =>
          obtain ⟨n1, n2, n3, n4, n5⟩ := HP.out k c1 c2
          rw [hz, HS.out] at n4 n5
          generalize valP (lvK how s x y Wn M z k) M = gk at *
          have a8 : ∀ w, toD gk w = dC gk := toD_not n2
          have a9 : ∀ w, toD (z k) w = dC (z k) := toD_not n1
          obtain ⟨a5, a6⟩ := det n3
          obtain ⟨a3, a4⟩ := det n4
          clear n1 n2 n3 n4
          go_wp2_with (first
            | (go_at_call 57; refine (abs_any _ _).mono ?_; rintro e w' ⟨rfl, rfl⟩)
            | (go_at_call 58; refine (ldexp_d1 _).mono ?_; rintro e w' ⟨rfl, rfl⟩)
            | fail)
          go_roundw
          case rel => exact ⟨k + 1, by omega, by go_num, HKW.out.drew _⟩
          case measure => simp [intOf]; omega
    · obtain rfl : n = k := by omega
      have q0 := hkw.some HGq.out.1 id
      have q1 := hkw.some HGq.out.2.1 id
      have q2 := hkw.some HGq.out.2.2.1 id
      have q3 := hkw.some HGq.out.2.2.2 id
      have q4 := hkw.some HG.out.2 id
      clear hkw
      go_wp2_with (first
        | (go_at_call 48; refine (levels_ok x y Wn Hn B4 0 n n (fun j => valP (lvK how s x y Wn M z j) M) 0 s d M _ HF.out (by decide) (by decide) d1 d2 HW.out h3 h4 (fun i hi => by rw [Nat.zero_add]; exact HKW.out.some (HC4b.out i hi) id) (Nat.le_refl _)).mono ?_; rintro e w11 ⟨B5, hB5, rfl, hk5, hc5⟩; have HC5 := Lib.hid hc5; have KB5 := Lib.hid hk5; clear hk5 hc5 hB5)
        | (go_at_call 31; refine (equal_ints (some ⟨B1, 0, none⟩) (some ⟨B5, 0, none⟩) n n n (lvK how s x y Wn M z) _ (by omega) (fun _ => ⟨B1, 0, rfl, fun i hi => by rw [Nat.zero_add]; exact KB5.out.some (HKW.out.some (HLb.out i hi) id) id⟩) (fun _ => ⟨B5, 0, rfl, fun i hi => by rw [Nat.zero_add, HC5.out i hi, lvK_back s x y Wn M (lvK how s x y Wn M z) i h3 h4 (lvK_bd how s x y Wn M z i (by omega) (by omega))]⟩)).mono ?_; rintro e w14 ⟨rfl, hk14⟩; have KQ2 := Lib.hid hk14; clear hk14)
        | fail)
      go_ret
      exact ⟨rfl, ((K10.out.trans HKW.out).trans KB5.out).trans KQ2.out⟩

set_option linter.unusedSimpArgs false in
set_option linter.unusedVariables false in
set_option maxHeartbeats 8000000 in
set_option maxRecDepth 100000 in
theorem tl_0_false (x y : Int) (Wn Hn : Nat) (b o n cap : Nat) (z : Nat → Nat) (how s d M : Int) (w : World) (hF : frE x y Wn Hn n = 0) (hh1 : 0 ≤ how) (hh2 : how ≤ 2) (hc : ∀ i, i < n → w.cell? ⟨b, o + i, none⟩ = some (.float .f32 (z i))) (hcap : n ≤ cap) (d1 : 1 ≤ d) (d2 : d ≤ 16) (hM : wrap64 (wrap64 (2 ^ d.toNat) - 1) = M) (h3 : 1 ≤ M) (h4 : M ≤ 65535) (hd : pkB d = false) (hn2 : n ≤ 2000) (hz : (how == 0) = false) :
    Calls Try.prog 10 #[.agg #[.int .i64 x, .int .i64 y, .int .i64 Wn, .int .i64 Hn, .slice (some ⟨b, o, none⟩) n cap], .int .i64 how, .int .u32 s, .int .i64 d] w fun e w' => e = .returned (.bool true) ∧ Kept None' w w' := by
  obtain ⟨hE, hn⟩ := frE_good hF
  obtain ⟨w1', w2', w3', w4', w5'⟩ := regE_ok hE
  have w6 := (mul_bd w1' w2' w3' w4').2
  have w7 : 4 * (Wn : Int) * Hn = 4 * (Wn * Hn) := Int.mul_assoc ..
  have hn6 : n ≤ 262144 := by omega
  have HE := Lib.hid (And.intro hE hn)
  have HF := Lib.hid hF
  have HC := Lib.hid hc
  clear hF hc hE hn w5' w6 w7
  have hb2 : decide ((2000 : Int) < n) = false := by simp; omega
  have hw : wrap64 (wrap64 (2 ^ (d : Int).toNat) - 1) = (M : Int) := hM
  have HM := Lib.hid hM
  clear hM
  have hok : okTo (lvK how s x y Wn M z) M n = true := okTo_of n (fun j hj => lvK_bd how s x y Wn M z j (by omega) (by omega))
  have HOK := Lib.hid hok
  have HP := Lib.hid (fun k c1 c2 => top_px how s x y Wn z k M hh1 hh2 h3 h4 (most_three d1 d2 HM.out) c1 c2)
  obtain ⟨Mn, hMn⟩ := Int.eq_ofNat_of_zero_le (show (0 : Int) ≤ M by omega)
  obtain ⟨_, _, -, hq1, -⟩ := step_all false Mn (by omega) (by omega)
  obtain ⟨_, _, -, hq2, -⟩ := step_all false Mn (by omega) (by omega)
  rw [← hMn] at hq1 hq2
  have HW := Lib.hid hw
  clear hok hw hMn Mn
  go_enter Try.func10, Try.ntmps10
  go_upto_region 1 with (fail)
  refine of_world (fun w0 hW => ?_)
  have g0 : w0.cell? ⟨w.heap.size, 0, none⟩ = some (.int .i64 x) := by rw [hW]; go_simp
  have g1 : w0.cell? ⟨w.heap.size, 1, none⟩ = some (.int .i64 y) := by rw [hW]; go_simp
  have g2 : w0.cell? ⟨w.heap.size, 2, none⟩ = some (.int .i64 Wn) := by rw [hW]; go_simp
  have g3 : w0.cell? ⟨w.heap.size, 3, none⟩ = some (.int .i64 Hn) := by rw [hW]; go_simp
  have g4 : w0.cell? ⟨w.heap.size, 4, none⟩ = some (.slice (some ⟨b, o, none⟩) n cap) := by rw [hW]; go_simp
  have kb : Kept None' w w0 := by rw [hW]; exact (Kept.refl None' w).alloc _ _
  have KB := Lib.hid kb
  clear hW kb
  go_upto_region 6 with (first
    | (go_at_call 56; refine (landed_one _).mono ?_; rintro e w' ⟨rfl, rfl⟩)
    | (go_at_call 48; refine (levels_ok x y Wn Hn b o n cap z how s d M _ HF.out hh1 hh2 d1 d2 HM.out h3 h4 (fun i hi => KB.out.some (HC.out i hi) id) hcap).mono ?_; rintro e w1 ⟨B1, hB1, rfl, hk1, hc1⟩; have HC1 := Lib.hid hc1; have KA := Lib.hid hk1; have HK1 := Lib.hid (KB.out.trans hk1); clear hk1 hc1 hB1)
    | fail)
  have g0 := KA.out.some g0 id
  have g1 := KA.out.some g1 id
  have g2 := KA.out.some g2 id
  have g3 := KA.out.some g3 id
  have g4 := KA.out.some g4 id
  have HRL := Lib.hid (show Rd w1 (some ⟨B1, 0, none⟩) n (fun i => .int .i64 (lvK how s x y Wn M z i)) from fun _ => ⟨B1, 0, rfl, fun i hi => by rw [Nat.zero_add]; exact HC1.out i hi⟩)
  go_upto_region 11 with (first
    | (go_at_call 28; refine (pack_e1 _ _ _ d _ hd).mono ?_; rintro e w2 ⟨rfl, rfl⟩)
    | fail)
  have KC := Lib.hid (Kept.refl None' w1)
  have g0 := KC.out.some g0 id
  have g1 := KC.out.some g1 id
  have g2 := KC.out.some g2 id
  have g3 := KC.out.some g3 id
  have g4 := KC.out.some g4 id
  have HLa := Lib.hid (fun j hj => KC.out.some (HC1.out j hj) id)
  have KD := Lib.hid (HK1.out.trans KC.out)
  go_upto_region 12 with (first
    | (go_at_call 11; refine (frame_go x y Wn Hn d M B1 0 n n (lvK how s x y Wn M z) _ HE.out.1 d1 d2 HW.out h3 h4 HE.out.2 (fun i hi => by rw [Nat.zero_add]; exact HLa.out i hi) (Nat.le_refl _)).mono ?_; rintro e w8 hp; obtain ⟨hk8, hB8⟩ := hp; obtain ⟨B4, hB4, rfl, hc4⟩ := fr_yes HOK.out hB8; have HC4 := Lib.hid hc4; have HK8 := Lib.hid hk8; clear hk8 hc4 hB4 hB8)
    | fail)
  refine of_world (fun W10 hW => ?_)
  have k10 : Kept None' w8 W10 := by rw [hW]; exact (Kept.refl _ _).alloc _ _
  have q0 : W10.cell? ⟨w8.heap.size, 0, none⟩ = some (.int .i64 x) := by rw [hW]; go_simp
  have q1 : W10.cell? ⟨w8.heap.size, 1, none⟩ = some (.int .i64 y) := by rw [hW]; go_simp
  have q2 : W10.cell? ⟨w8.heap.size, 2, none⟩ = some (.int .i64 Wn) := by rw [hW]; go_simp
  have q3 : W10.cell? ⟨w8.heap.size, 3, none⟩ = some (.int .i64 Hn) := by rw [hW]; go_simp
  have q4 : W10.cell? ⟨w8.heap.size, 4, none⟩ = some (.slice (some ⟨B4, 0, none⟩) n n) := by rw [hW]; go_simp
  have kt := HK8.out.trans k10
  have g0 := kt.some g0 id
  have g1 := kt.some g1 id
  have g2 := kt.some g2 id
  have g3 := kt.some g3 id
  have g4 := kt.some g4 id
  have HLb := Lib.hid (fun j hj => kt.some (HLa.out j hj) id)
  have HC4b := Lib.hid (fun j hj => k10.some (HC4.out j hj) id)
  have K10 := Lib.hid (KD.out.trans kt)
  clear hW k10 kt
  obtain ⟨Q, hQ⟩ : ∃ Q, stepP false M = Q := ⟨_, rfl⟩
  obtain ⟨S, hS⟩ : ∃ S, stepP false M = S := ⟨_, rfl⟩
  have hQ1 : fC .quo .f64 4607182418800017408 (floatOfInt .f64 M) = Q := by rw [← hQ]; unfold stepP; rw [if_neg Bool.false_ne_true]
  have hS1 : Q = S := hQ.symm.trans hS
  rw [hQ] at hq1
  rw [hS] at hq2
  obtain ⟨sa1, sa2⟩ := det (show nan .f64 (fC .quo .f64 4607182418800017408 (floatOfInt .f64 M)) = false by rw [hQ1]; exact hq1)
  rw [hQ1] at sa1
  have HS := Lib.hid hS
  have HSQ := Lib.hid hS1
  have hw := HW.out
  clear hQ1 hS1 hQ hS hq1 hq2
  go_upto_region 17 with (fail)
  clear hw sa1 sa2
  rw [HSQ.out]
  have HG := Lib.hid (And.intro g4 q4)
  have HGq := Lib.hid (And.intro q0 (And.intro q1 (And.intro q2 q3)))
  go_wp2_with fail
  go_loopw [82] (fun i wr => ∃ k : Nat, k ≤ n ∧ i = .int .i64 k ∧ Kept None' W10 wr) (fun i _ => n - (intOf i).toNat)
  case atStart => exact ⟨0, by omega, rfl, Kept.refl _ _⟩
  case round =>
    obtain ⟨k, hk, rfl, hkw⟩ := hrel
    have HKW := Lib.hid hkw
    by_cases hlt : k < n
    · have c0 := (K10.out.trans hkw).some (HC.out k hlt) id
      have c4 := hkw.some (HC4b.out k hlt) id
      have q4 := hkw.some HG.out.2 id
      clear hkw
      cases c1 : (FloatKind.f32.format.order (z k) 0 == some .gt || FloatKind.f32.format.order (z k) 0 == some .eq) with
      | false =>
        go_wp2_with fail
        go_roundw
        case rel => exact ⟨k + 1, by omega, by go_num, HKW.out⟩
        case measure => simp [intOf]; omega
      | true =>
        cases c2 : (FloatKind.f32.format.order (z k) 1065353216 == some .lt || FloatKind.f32.format.order (z k) 1065353216 == some .eq) with
        | false =>
          go_wp2_with fail
          go_roundw
          case rel => exact ⟨k + 1, by omega, by go_num, HKW.out⟩
          case measure => simp [intOf]; omega
        | true =>
          obtain ⟨n1, n2, n3, n4, n5⟩ := HP.out k c1 c2
          rw [hz, HS.out] at n4 n5
          generalize valP (lvK how s x y Wn M z k) M = gk at *
          have a8 : ∀ w, toD gk w = dC gk := toD_not n2
          have a9 : ∀ w, toD (z k) w = dC (z k) := toD_not n1
          obtain ⟨a5, a6⟩ := det n3
          obtain ⟨a3, a4⟩ := det n4
          clear n1 n2 n3 n4
          go_wp2_with (first
            | (go_at_call 57; refine (abs_any _ _).mono ?_; rintro e w' ⟨rfl, rfl⟩)
            | (go_at_call 58; refine (ldexp_d1 _).mono ?_; rintro e w' ⟨rfl, rfl⟩)
            | fail)
          go_roundw
          case rel => exact ⟨k + 1, by omega, by go_num, HKW.out.drew _⟩
          case measure => simp [intOf]; omega
    · obtain rfl : n = k := by omega
      have q0 := hkw.some HGq.out.1 id
      have q1 := hkw.some HGq.out.2.1 id
      have q2 := hkw.some HGq.out.2.2.1 id
      have q3 := hkw.some HGq.out.2.2.2 id
      have q4 := hkw.some HG.out.2 id
      clear hkw
      go_wp2_with (first
        | (go_at_call 48; refine (levels_ok x y Wn Hn B4 0 n n (fun j => valP (lvK how s x y Wn M z j) M) 0 s d M _ HF.out (by decide) (by decide) d1 d2 HW.out h3 h4 (fun i hi => by rw [Nat.zero_add]; exact HKW.out.some (HC4b.out i hi) id) (Nat.le_refl _)).mono ?_; rintro e w11 ⟨B5, hB5, rfl, hk5, hc5⟩; have HC5 := Lib.hid hc5; have KB5 := Lib.hid hk5; clear hk5 hc5 hB5)
        | (go_at_call 31; refine (equal_ints (some ⟨B1, 0, none⟩) (some ⟨B5, 0, none⟩) n n n (lvK how s x y Wn M z) _ (by omega) (fun _ => ⟨B1, 0, rfl, fun i hi => by rw [Nat.zero_add]; exact KB5.out.some (HKW.out.some (HLb.out i hi) id) id⟩) (fun _ => ⟨B5, 0, rfl, fun i hi => by rw [Nat.zero_add, HC5.out i hi, lvK_back s x y Wn M (lvK how s x y Wn M z) i h3 h4 (lvK_bd how s x y Wn M z i (by omega) (by omega))]⟩)).mono ?_; rintro e w14 ⟨rfl, hk14⟩; have KQ2 := Lib.hid hk14; clear hk14)
        | fail)
      go_ret
      exact ⟨rfl, ((K10.out.trans HKW.out).trans KB5.out).trans KQ2.out⟩

set_option linter.unusedSimpArgs false in
set_option linter.unusedVariables false in
set_option maxHeartbeats 8000000 in
set_option maxRecDepth 100000 in
theorem tl_8_true (x y : Int) (Wn Hn : Nat) (b o n cap : Nat) (z : Nat → Nat) (how s : Int) (w : World) (hF : frE x y Wn Hn n = 0) (hh1 : 0 ≤ how) (hh2 : how ≤ 2) (hc : ∀ i, i < n → w.cell? ⟨b, o + i, none⟩ = some (.float .f32 (z i))) (hcap : n ≤ cap)  (hn2 : n ≤ 2000) (hz : (how == 0) = true) :
    Calls Try.prog 10 #[.agg #[.int .i64 x, .int .i64 y, .int .i64 Wn, .int .i64 Hn, .slice (some ⟨b, o, none⟩) n cap], .int .i64 how, .int .u32 s, .int .i64 8] w fun e w' => e = .returned (.bool true) ∧ Kept None' w w' := by
  obtain ⟨hE, hn⟩ := frE_good hF
  obtain ⟨w1', w2', w3', w4', w5'⟩ := regE_ok hE
  have w6 := (mul_bd w1' w2' w3' w4').2
  have w7 : 4 * (Wn : Int) * Hn = 4 * (Wn * Hn) := Int.mul_assoc ..
  have hn6 : n ≤ 262144 := by omega
  have HE := Lib.hid (And.intro hE hn)
  have HF := Lib.hid hF
  have HC := Lib.hid hc
  clear hF hc hE hn w5' w6 w7
  have hb2 : decide ((2000 : Int) < n) = false := by simp; omega
  have hw : wrap64 (wrap64 (2 ^ (8 : Int).toNat) - 1) = (255 : Int) := by decide +kernel
  have hok : okTo (lvK how s x y Wn 255 z) 255 n = true := okTo_of n (fun j hj => lvK_bd how s x y Wn 255 z j (by omega) (by omega))
  have HOK := Lib.hid hok
  have HP := Lib.hid (fun k c1 c2 => top_px how s x y Wn z k 255 hh1 hh2 (by decide) (by decide) (by decide) c1 c2)
  obtain ⟨Mn, hMn⟩ := Int.eq_ofNat_of_zero_le (show (0 : Int) ≤ 255 by omega)
  obtain ⟨_, _, -, hq1, -⟩ := step_all false Mn (by omega) (by omega)
  obtain ⟨_, _, -, hq2, -⟩ := step_all true Mn (by omega) (by omega)
  rw [← hMn] at hq1 hq2
  have HW := Lib.hid hw
  clear hok hw hMn Mn
  go_enter Try.func10, Try.ntmps10
  go_upto_region 1 with (fail)
  refine of_world (fun w0 hW => ?_)
  have g0 : w0.cell? ⟨w.heap.size, 0, none⟩ = some (.int .i64 x) := by rw [hW]; go_simp
  have g1 : w0.cell? ⟨w.heap.size, 1, none⟩ = some (.int .i64 y) := by rw [hW]; go_simp
  have g2 : w0.cell? ⟨w.heap.size, 2, none⟩ = some (.int .i64 Wn) := by rw [hW]; go_simp
  have g3 : w0.cell? ⟨w.heap.size, 3, none⟩ = some (.int .i64 Hn) := by rw [hW]; go_simp
  have g4 : w0.cell? ⟨w.heap.size, 4, none⟩ = some (.slice (some ⟨b, o, none⟩) n cap) := by rw [hW]; go_simp
  have kb : Kept None' w w0 := by rw [hW]; exact (Kept.refl None' w).alloc _ _
  have KB := Lib.hid kb
  clear hW kb
  go_upto_region 6 with (first
    | (go_at_call 56; refine (landed_one _).mono ?_; rintro e w' ⟨rfl, rfl⟩)
    | (go_at_call 48; refine (levels_ok x y Wn Hn b o n cap z how s 8 255 _ HF.out hh1 hh2 (by decide) (by decide) (by decide +kernel) (by decide) (by decide) (fun i hi => KB.out.some (HC.out i hi) id) hcap).mono ?_; rintro e w1 ⟨B1, hB1, rfl, hk1, hc1⟩; have HC1 := Lib.hid hc1; have KA := Lib.hid hk1; have HK1 := Lib.hid (KB.out.trans hk1); clear hk1 hc1 hB1)
    | fail)
  have g0 := KA.out.some g0 id
  have g1 := KA.out.some g1 id
  have g2 := KA.out.some g2 id
  have g3 := KA.out.some g3 id
  have g4 := KA.out.some g4 id
  have HRL := Lib.hid (show Rd w1 (some ⟨B1, 0, none⟩) n (fun i => .int .i64 (lvK how s x y Wn 255 z i)) from fun _ => ⟨B1, 0, rfl, fun i hi => by rw [Nat.zero_add]; exact HC1.out i hi⟩)
  go_upto_region 11 with (first
    | (go_at_call 28; refine (pack8_ok (some ⟨B1, 0, none⟩) n n (lvK how s x y Wn 255 z) _ (by omega) HRL.out HOK.out).mono ?_; rintro e w2 ⟨rfl, hk2⟩)
    | (go_at_call 30; refine (unpack_8 (strG n (pk8 (lvK how s x y Wn 255 z))) n _ (by omega) (strG_size n _)).mono ?_; rintro e w6 ⟨v, rfl, hown, hk6⟩; obtain ⟨A6, c6, rfl, hr6⟩ := hown.shape; have H6 := Lib.hid (And.intro (hr6.congr (fun j hj => by rw [un8 HOK.out j hj])) hk6); clear hown hr6 hk6)
    | (go_at_call 31; refine (equal_ints (some ⟨B1, 0, none⟩) A6 n n c6 (lvK how s x y Wn 255 z) _ (by omega) (HRL.out.kept (hk2.trans H6.out.2)) H6.out.1).mono ?_; rintro e w7 ⟨rfl, hk7⟩; have KC := Lib.hid ((hk2.trans H6.out.2).trans hk7); clear hk7)
    | fail)
  have g0 := KC.out.some g0 id
  have g1 := KC.out.some g1 id
  have g2 := KC.out.some g2 id
  have g3 := KC.out.some g3 id
  have g4 := KC.out.some g4 id
  have HLa := Lib.hid (fun j hj => KC.out.some (HC1.out j hj) id)
  have KD := Lib.hid (HK1.out.trans KC.out)
  go_upto_region 12 with (first
    | (go_at_call 11; refine (frame_go x y Wn Hn 8 255 B1 0 n n (lvK how s x y Wn 255 z) _ HE.out.1 (by decide) (by decide) HW.out (by decide) (by decide) HE.out.2 (fun i hi => by rw [Nat.zero_add]; exact HLa.out i hi) (Nat.le_refl _)).mono ?_; rintro e w8 hp; obtain ⟨hk8, hB8⟩ := hp; obtain ⟨B4, hB4, rfl, hc4⟩ := fr_yes HOK.out hB8; have HC4 := Lib.hid hc4; have HK8 := Lib.hid hk8; clear hk8 hc4 hB4 hB8)
    | fail)
  refine of_world (fun W10 hW => ?_)
  have k10 : Kept None' w8 W10 := by rw [hW]; exact (Kept.refl _ _).alloc _ _
  have q0 : W10.cell? ⟨w8.heap.size, 0, none⟩ = some (.int .i64 x) := by rw [hW]; go_simp
  have q1 : W10.cell? ⟨w8.heap.size, 1, none⟩ = some (.int .i64 y) := by rw [hW]; go_simp
  have q2 : W10.cell? ⟨w8.heap.size, 2, none⟩ = some (.int .i64 Wn) := by rw [hW]; go_simp
  have q3 : W10.cell? ⟨w8.heap.size, 3, none⟩ = some (.int .i64 Hn) := by rw [hW]; go_simp
  have q4 : W10.cell? ⟨w8.heap.size, 4, none⟩ = some (.slice (some ⟨B4, 0, none⟩) n n) := by rw [hW]; go_simp
  have kt := HK8.out.trans k10
  have g0 := kt.some g0 id
  have g1 := kt.some g1 id
  have g2 := kt.some g2 id
  have g3 := kt.some g3 id
  have g4 := kt.some g4 id
  have HLb := Lib.hid (fun j hj => kt.some (HLa.out j hj) id)
  have HC4b := Lib.hid (fun j hj => k10.some (HC4.out j hj) id)
  have K10 := Lib.hid (KD.out.trans kt)
  clear hW k10 kt
  obtain ⟨Q, hQ⟩ : ∃ Q, stepP false 255 = Q := ⟨_, rfl⟩
  obtain ⟨S, hS⟩ : ∃ S, stepP true 255 = S := ⟨_, rfl⟩
  have hQ1 : fC .quo .f64 4607182418800017408 (floatOfInt .f64 255) = Q := by rw [← hQ]; unfold stepP; rw [if_neg Bool.false_ne_true]
  have hS1 : fC .quo .f64 Q 4611686018427387904 = S := by rw [← hS, ← hQ1]; unfold stepP; rw [if_pos rfl]
  rw [hQ] at hq1
  rw [hS] at hq2
  obtain ⟨sa1, sa2⟩ := det (show nan .f64 (fC .quo .f64 4607182418800017408 (floatOfInt .f64 255)) = false by rw [hQ1]; exact hq1)
  rw [hQ1] at sa1
  obtain ⟨sb1, sb2⟩ := det (show nan .f64 (fC .quo .f64 Q 4611686018427387904) = false by rw [hS1]; exact hq2)
  rw [hS1] at sb1
  have HS := Lib.hid hS
  have HSQ := Lib.hid hS1
  have hw := HW.out
  clear hQ1 hS1 hQ hS hq1 hq2
  go_upto_region 17 with (fail)
  clear hw sa1 sa2 sb1 sb2
  have HG := Lib.hid (And.intro g4 q4)
  have HGq := Lib.hid (And.intro q0 (And.intro q1 (And.intro q2 q3)))
  go_wp2_with fail
  go_loopw [82] (fun i wr => ∃ k : Nat, k ≤ n ∧ i = .int .i64 k ∧ Kept None' W10 wr) (fun i _ => n - (intOf i).toNat)
  case atStart => exact ⟨0, by omega, rfl, Kept.refl _ _⟩
  case round =>
    obtain ⟨k, hk, rfl, hkw⟩ := hrel
    have HKW := Lib.hid hkw
    by_cases hlt : k < n
    · have c0 := (K10.out.trans hkw).some (HC.out k hlt) id
      have c4 := hkw.some (HC4b.out k hlt) id
      have q4 := hkw.some HG.out.2 id
      clear hkw
      cases c1 : (FloatKind.f32.format.order (z k) 0 == some .gt || FloatKind.f32.format.order (z k) 0 == some .eq) with
      | false =>
        go_wp2_with fail
        go_roundw
        case rel => exact ⟨k + 1, by omega, by go_num, HKW.out⟩
        case measure => simp [intOf]; omega
      | true =>
        cases c2 : (FloatKind.f32.format.order (z k) 1065353216 == some .lt || FloatKind.f32.format.order (z k) 1065353216 == some .eq) with
        | false =>
          go_wp2_with fail
          go_roundw
          case rel => exact ⟨k + 1, by omega, by go_num, HKW.out⟩
          case measure => simp [intOf]; omega
        | true =>
          obtain ⟨n1, n2, n3, n4, n5⟩ := HP.out k c1 c2
          rw [hz, HS.out] at n4 n5
          generalize valP (lvK how s x y Wn 255 z k) 255 = gk at *
          have a8 : ∀ w, toD gk w = dC gk := toD_not n2
          have a9 : ∀ w, toD (z k) w = dC (z k) := toD_not n1
          obtain ⟨a5, a6⟩ := det n3
          obtain ⟨a3, a4⟩ := det n4
          clear n1 n2 n3 n4
          go_wp2_with (first
            | (go_at_call 57; refine (abs_any _ _).mono ?_; rintro e w' ⟨rfl, rfl⟩)
            | (go_at_call 58; refine (ldexp_d1 _).mono ?_; rintro e w' ⟨rfl, rfl⟩)
            | fail)
          go_roundw
          case rel => exact ⟨k + 1, by omega, by go_num, HKW.out.drew _⟩
          case measure => simp [intOf]; omega
    · obtain rfl : n = k := by omega
      have q0 := hkw.some HGq.out.1 id
      have q1 := hkw.some HGq.out.2.1 id
      have q2 := hkw.some HGq.out.2.2.1 id
      have q3 := hkw.some HGq.out.2.2.2 id
      have q4 := hkw.some HG.out.2 id
      clear hkw
      go_wp2_with (first
        | (go_at_call 48; refine (levels_ok x y Wn Hn B4 0 n n (fun j => valP (lvK how s x y Wn 255 z j) 255) 0 s 8 255 _ HF.out (by decide) (by decide) (by decide) (by decide) HW.out (by decide) (by decide) (fun i hi => by rw [Nat.zero_add]; exact HKW.out.some (HC4b.out i hi) id) (Nat.le_refl _)).mono ?_; rintro e w11 ⟨B5, hB5, rfl, hk5, hc5⟩; have HC5 := Lib.hid hc5; have KB5 := Lib.hid hk5; clear hk5 hc5 hB5)
        | (go_at_call 31; refine (equal_ints (some ⟨B1, 0, none⟩) (some ⟨B5, 0, none⟩) n n n (lvK how s x y Wn 255 z) _ (by omega) (fun _ => ⟨B1, 0, rfl, fun i hi => by rw [Nat.zero_add]; exact KB5.out.some (HKW.out.some (HLb.out i hi) id) id⟩) (fun _ => ⟨B5, 0, rfl, fun i hi => by rw [Nat.zero_add, HC5.out i hi, lvK_back s x y Wn 255 (lvK how s x y Wn 255 z) i (by decide) (by decide) (lvK_bd how s x y Wn 255 z i (by omega) (by omega))]⟩)).mono ?_; rintro e w14 ⟨rfl, hk14⟩; have KQ2 := Lib.hid hk14; clear hk14)
        | fail)
      go_ret
      exact ⟨rfl, ((K10.out.trans HKW.out).trans KB5.out).trans KQ2.out⟩

set_option linter.unusedSimpArgs false in
set_option linter.unusedVariables false in
set_option maxHeartbeats 8000000 in
set_option maxRecDepth 100000 in
theorem tl_8_false (x y : Int) (Wn Hn : Nat) (b o n cap : Nat) (z : Nat → Nat) (how s : Int) (w : World) (hF : frE x y Wn Hn n = 0) (hh1 : 0 ≤ how) (hh2 : how ≤ 2) (hc : ∀ i, i < n → w.cell? ⟨b, o + i, none⟩ = some (.float .f32 (z i))) (hcap : n ≤ cap)  (hn2 : n ≤ 2000) (hz : (how == 0) = false) :
    Calls Try.prog 10 #[.agg #[.int .i64 x, .int .i64 y, .int .i64 Wn, .int .i64 Hn, .slice (some ⟨b, o, none⟩) n cap], .int .i64 how, .int .u32 s, .int .i64 8] w fun e w' => e = .returned (.bool true) ∧ Kept None' w w' := by
  obtain ⟨hE, hn⟩ := frE_good hF
  obtain ⟨w1', w2', w3', w4', w5'⟩ := regE_ok hE
  have w6 := (mul_bd w1' w2' w3' w4').2
  have w7 : 4 * (Wn : Int) * Hn = 4 * (Wn * Hn) := Int.mul_assoc ..
  have hn6 : n ≤ 262144 := by omega
  have HE := Lib.hid (And.intro hE hn)
  have HF := Lib.hid hF
  have HC := Lib.hid hc
  clear hF hc hE hn w5' w6 w7
  have hb2 : decide ((2000 : Int) < n) = false := by simp; omega
  have hw : wrap64 (wrap64 (2 ^ (8 : Int).toNat) - 1) = (255 : Int) := by decide +kernel
  have hok : okTo (lvK how s x y Wn 255 z) 255 n = true := okTo_of n (fun j hj => lvK_bd how s x y Wn 255 z j (by omega) (by omega))
  have HOK := Lib.hid hok
  have HP := Lib.hid (fun k c1 c2 => top_px how s x y Wn z k 255 hh1 hh2 (by decide) (by decide) (by decide) c1 c2)
  obtain ⟨Mn, hMn⟩ := Int.eq_ofNat_of_zero_le (show (0 : Int) ≤ 255 by omega)
  obtain ⟨_, _, -, hq1, -⟩ := step_all false Mn (by omega) (by omega)
  obtain ⟨_, _, -, hq2, -⟩ := step_all false Mn (by omega) (by omega)
  rw [← hMn] at hq1 hq2
  have HW := Lib.hid hw
  clear hok hw hMn Mn
  go_enter Try.func10, Try.ntmps10
  go_upto_region 1 with (fail)
  refine of_world (fun w0 hW => ?_)
  have g0 : w0.cell? ⟨w.heap.size, 0, none⟩ = some (.int .i64 x) := by rw [hW]; go_simp
  have g1 : w0.cell? ⟨w.heap.size, 1, none⟩ = some (.int .i64 y) := by rw [hW]; go_simp
  have g2 : w0.cell? ⟨w.heap.size, 2, none⟩ = some (.int .i64 Wn) := by rw [hW]; go_simp
  have g3 : w0.cell? ⟨w.heap.size, 3, none⟩ = some (.int .i64 Hn) := by rw [hW]; go_simp
  have g4 : w0.cell? ⟨w.heap.size, 4, none⟩ = some (.slice (some ⟨b, o, none⟩) n cap) := by rw [hW]; go_simp
  have kb : Kept None' w w0 := by rw [hW]; exact (Kept.refl None' w).alloc _ _
  have KB := Lib.hid kb
  clear hW kb
  go_upto_region 6 with (first
    | (go_at_call 56; refine (landed_one _).mono ?_; rintro e w' ⟨rfl, rfl⟩)
    | (go_at_call 48; refine (levels_ok x y Wn Hn b o n cap z how s 8 255 _ HF.out hh1 hh2 (by decide) (by decide) (by decide +kernel) (by decide) (by decide) (fun i hi => KB.out.some (HC.out i hi) id) hcap).mono ?_; rintro e w1 ⟨B1, hB1, rfl, hk1, hc1⟩; have HC1 := Lib.hid hc1; have KA := Lib.hid hk1; have HK1 := Lib.hid (KB.out.trans hk1); clear hk1 hc1 hB1)
    | fail)
  have g0 := KA.out.some g0 id
  have g1 := KA.out.some g1 id
  have g2 := KA.out.some g2 id
  have g3 := KA.out.some g3 id
  have g4 := KA.out.some g4 id
  have HRL := Lib.hid (show Rd w1 (some ⟨B1, 0, none⟩) n (fun i => .int .i64 (lvK how s x y Wn 255 z i)) from fun _ => ⟨B1, 0, rfl, fun i hi => by rw [Nat.zero_add]; exact HC1.out i hi⟩)
  go_upto_region 11 with (first
    | (go_at_call 28; refine (pack8_ok (some ⟨B1, 0, none⟩) n n (lvK how s x y Wn 255 z) _ (by omega) HRL.out HOK.out).mono ?_; rintro e w2 ⟨rfl, hk2⟩)
    | (go_at_call 30; refine (unpack_8 (strG n (pk8 (lvK how s x y Wn 255 z))) n _ (by omega) (strG_size n _)).mono ?_; rintro e w6 ⟨v, rfl, hown, hk6⟩; obtain ⟨A6, c6, rfl, hr6⟩ := hown.shape; have H6 := Lib.hid (And.intro (hr6.congr (fun j hj => by rw [un8 HOK.out j hj])) hk6); clear hown hr6 hk6)
    | (go_at_call 31; refine (equal_ints (some ⟨B1, 0, none⟩) A6 n n c6 (lvK how s x y Wn 255 z) _ (by omega) (HRL.out.kept (hk2.trans H6.out.2)) H6.out.1).mono ?_; rintro e w7 ⟨rfl, hk7⟩; have KC := Lib.hid ((hk2.trans H6.out.2).trans hk7); clear hk7)
    | fail)
  have g0 := KC.out.some g0 id
  have g1 := KC.out.some g1 id
  have g2 := KC.out.some g2 id
  have g3 := KC.out.some g3 id
  have g4 := KC.out.some g4 id
  have HLa := Lib.hid (fun j hj => KC.out.some (HC1.out j hj) id)
  have KD := Lib.hid (HK1.out.trans KC.out)
  go_upto_region 12 with (first
    | (go_at_call 11; refine (frame_go x y Wn Hn 8 255 B1 0 n n (lvK how s x y Wn 255 z) _ HE.out.1 (by decide) (by decide) HW.out (by decide) (by decide) HE.out.2 (fun i hi => by rw [Nat.zero_add]; exact HLa.out i hi) (Nat.le_refl _)).mono ?_; rintro e w8 hp; obtain ⟨hk8, hB8⟩ := hp; obtain ⟨B4, hB4, rfl, hc4⟩ := fr_yes HOK.out hB8; have HC4 := Lib.hid hc4; have HK8 := Lib.hid hk8; clear hk8 hc4 hB4 hB8)
    | fail)
  refine of_world (fun W10 hW => ?_)
  have k10 : Kept None' w8 W10 := by rw [hW]; exact (Kept.refl _ _).alloc _ _
  have q0 : W10.cell? ⟨w8.heap.size, 0, none⟩ = some (.int .i64 x) := by rw [hW]; go_simp
  have q1 : W10.cell? ⟨w8.heap.size, 1, none⟩ = some (.int .i64 y) := by rw [hW]; go_simp
  have q2 : W10.cell? ⟨w8.heap.size, 2, none⟩ = some (.int .i64 Wn) := by rw [hW]; go_simp
  have q3 : W10.cell? ⟨w8.heap.size, 3, none⟩ = some (.int .i64 Hn) := by rw [hW]; go_simp
  have q4 : W10.cell? ⟨w8.heap.size, 4, none⟩ = some (.slice (some ⟨B4, 0, none⟩) n n) := by rw [hW]; go_simp
  have kt := HK8.out.trans k10
  have g0 := kt.some g0 id
  have g1 := kt.some g1 id
  have g2 := kt.some g2 id
  have g3 := kt.some g3 id
  have g4 := kt.some g4 id
  have HLb := Lib.hid (fun j hj => kt.some (HLa.out j hj) id)
  have HC4b := Lib.hid (fun j hj => k10.some (HC4.out j hj) id)
  have K10 := Lib.hid (KD.out.trans kt)
  clear hW k10 kt
  obtain ⟨Q, hQ⟩ : ∃ Q, stepP false 255 = Q := ⟨_, rfl⟩
  obtain ⟨S, hS⟩ : ∃ S, stepP false 255 = S := ⟨_, rfl⟩
  have hQ1 : fC .quo .f64 4607182418800017408 (floatOfInt .f64 255) = Q := by rw [← hQ]; unfold stepP; rw [if_neg Bool.false_ne_true]
  have hS1 : Q = S := hQ.symm.trans hS
  rw [hQ] at hq1
  rw [hS] at hq2
  obtain ⟨sa1, sa2⟩ := det (show nan .f64 (fC .quo .f64 4607182418800017408 (floatOfInt .f64 255)) = false by rw [hQ1]; exact hq1)
  rw [hQ1] at sa1
  have HS := Lib.hid hS
  have HSQ := Lib.hid hS1
  have hw := HW.out
  clear hQ1 hS1 hQ hS hq1 hq2
  go_upto_region 17 with (fail)
  clear hw sa1 sa2
  rw [HSQ.out]
  have HG := Lib.hid (And.intro g4 q4)
  have HGq := Lib.hid (And.intro q0 (And.intro q1 (And.intro q2 q3)))
  go_wp2_with fail
  go_loopw [82] (fun i wr => ∃ k : Nat, k ≤ n ∧ i = .int .i64 k ∧ Kept None' W10 wr) (fun i _ => n - (intOf i).toNat)
  case atStart => exact ⟨0, by omega, rfl, Kept.refl _ _⟩
  case round =>
    obtain ⟨k, hk, rfl, hkw⟩ := hrel
    have HKW := Lib.hid hkw
    by_cases hlt : k < n
    · have c0 := (K10.out.trans hkw).some (HC.out k hlt) id
      have c4 := hkw.some (HC4b.out k hlt) id
      have q4 := hkw.some HG.out.2 id
      clear hkw
      cases c1 : (FloatKind.f32.format.order (z k) 0 == some .gt || FloatKind.f32.format.order (z k) 0 == some .eq) with
      | false =>
        go_wp2_with fail
        go_roundw
        case rel => exact ⟨k + 1, by omega, by go_num, HKW.out⟩
        case measure => simp [intOf]; omega
      | true =>
        cases c2 : (FloatKind.f32.format.order (z k) 1065353216 == some .lt || FloatKind.f32.format.order (z k) 1065353216 == some .eq) with
        | false =>
          go_wp2_with fail
          go_roundw
          case rel => exact ⟨k + 1, by omega, by go_num, HKW.out⟩
          case measure => simp [intOf]; omega
        | true =>
          obtain ⟨n1, n2, n3, n4, n5⟩ := HP.out k c1 c2
          rw [hz, HS.out] at n4 n5
          generalize valP (lvK how s x y Wn 255 z k) 255 = gk at *
          have a8 : ∀ w, toD gk w = dC gk := toD_not n2
          have a9 : ∀ w, toD (z k) w = dC (z k) := toD_not n1
          obtain ⟨a5, a6⟩ := det n3
          obtain ⟨a3, a4⟩ := det n4
          clear n1 n2 n3 n4
          go_wp2_with (first
            | (go_at_call 57; refine (abs_any _ _).mono ?_; rintro e w' ⟨rfl, rfl⟩)
            | (go_at_call 58; refine (ldexp_d1 _).mono ?_; rintro e w' ⟨rfl, rfl⟩)
            | fail)
          go_roundw
          case rel => exact ⟨k + 1, by omega, by go_num, HKW.out.drew _⟩
          case measure => simp [intOf]; omega
    · obtain rfl : n = k := by omega
      have q0 := hkw.some HGq.out.1 id
      have q1 := hkw.some HGq.out.2.1 id
      have q2 := hkw.some HGq.out.2.2.1 id
      have q3 := hkw.some HGq.out.2.2.2 id
      have q4 := hkw.some HG.out.2 id
      clear hkw
      go_wp2_with (first
        | (go_at_call 48; refine (levels_ok x y Wn Hn B4 0 n n (fun j => valP (lvK how s x y Wn 255 z j) 255) 0 s 8 255 _ HF.out (by decide) (by decide) (by decide) (by decide) HW.out (by decide) (by decide) (fun i hi => by rw [Nat.zero_add]; exact HKW.out.some (HC4b.out i hi) id) (Nat.le_refl _)).mono ?_; rintro e w11 ⟨B5, hB5, rfl, hk5, hc5⟩; have HC5 := Lib.hid hc5; have KB5 := Lib.hid hk5; clear hk5 hc5 hB5)
        | (go_at_call 31; refine (equal_ints (some ⟨B1, 0, none⟩) (some ⟨B5, 0, none⟩) n n n (lvK how s x y Wn 255 z) _ (by omega) (fun _ => ⟨B1, 0, rfl, fun i hi => by rw [Nat.zero_add]; exact KB5.out.some (HKW.out.some (HLb.out i hi) id) id⟩) (fun _ => ⟨B5, 0, rfl, fun i hi => by rw [Nat.zero_add, HC5.out i hi, lvK_back s x y Wn 255 (lvK how s x y Wn 255 z) i (by decide) (by decide) (lvK_bd how s x y Wn 255 z i (by omega) (by omega))]⟩)).mono ?_; rintro e w14 ⟨rfl, hk14⟩; have KQ2 := Lib.hid hk14; clear hk14)
        | fail)
      go_ret
      exact ⟨rfl, ((K10.out.trans HKW.out).trans KB5.out).trans KQ2.out⟩

set_option linter.unusedSimpArgs false in
set_option linter.unusedVariables false in
set_option maxHeartbeats 8000000 in
set_option maxRecDepth 100000 in
theorem tl_10_true (x y : Int) (Wn Hn : Nat) (b o n cap : Nat) (z : Nat → Nat) (how s : Int) (w : World) (hF : frE x y Wn Hn n = 0) (hh1 : 0 ≤ how) (hh2 : how ≤ 2) (hc : ∀ i, i < n → w.cell? ⟨b, o + i, none⟩ = some (.float .f32 (z i))) (hcap : n ≤ cap)  (hn2 : n ≤ 2000) (hz : (how == 0) = true) :
    Calls Try.prog 10 #[.agg #[.int .i64 x, .int .i64 y, .int .i64 Wn, .int .i64 Hn, .slice (some ⟨b, o, none⟩) n cap], .int .i64 how, .int .u32 s, .int .i64 10] w fun e w' => e = .returned (.bool true) ∧ Kept None' w w' := by
  obtain ⟨hE, hn⟩ := frE_good hF
  obtain ⟨w1', w2', w3', w4', w5'⟩ := regE_ok hE
  have w6 := (mul_bd w1' w2' w3' w4').2
  have w7 : 4 * (Wn : Int) * Hn = 4 * (Wn * Hn) := Int.mul_assoc ..
  have hn6 : n ≤ 262144 := by omega
  have HE := Lib.hid (And.intro hE hn)
  have HF := Lib.hid hF
  have HC := Lib.hid hc
  clear hF hc hE hn w5' w6 w7
  have hb2 : decide ((2000 : Int) < n) = false := by simp; omega
  have hw : wrap64 (wrap64 (2 ^ (10 : Int).toNat) - 1) = (1023 : Int) := by decide +kernel
  have hok : okTo (lvK how s x y Wn 1023 z) 1023 n = true := okTo_of n (fun j hj => lvK_bd how s x y Wn 1023 z j (by omega) (by omega))
  have HOK := Lib.hid hok
  have HP := Lib.hid (fun k c1 c2 => top_px how s x y Wn z k 1023 hh1 hh2 (by decide) (by decide) (by decide) c1 c2)
  obtain ⟨Mn, hMn⟩ := Int.eq_ofNat_of_zero_le (show (0 : Int) ≤ 1023 by omega)
  obtain ⟨_, _, -, hq1, -⟩ := step_all false Mn (by omega) (by omega)
  obtain ⟨_, _, -, hq2, -⟩ := step_all true Mn (by omega) (by omega)
  rw [← hMn] at hq1 hq2
  have HW := Lib.hid hw
  clear hok hw hMn Mn
  go_enter Try.func10, Try.ntmps10
  go_upto_region 1 with (fail)
  refine of_world (fun w0 hW => ?_)
  have g0 : w0.cell? ⟨w.heap.size, 0, none⟩ = some (.int .i64 x) := by rw [hW]; go_simp
  have g1 : w0.cell? ⟨w.heap.size, 1, none⟩ = some (.int .i64 y) := by rw [hW]; go_simp
  have g2 : w0.cell? ⟨w.heap.size, 2, none⟩ = some (.int .i64 Wn) := by rw [hW]; go_simp
  have g3 : w0.cell? ⟨w.heap.size, 3, none⟩ = some (.int .i64 Hn) := by rw [hW]; go_simp
  have g4 : w0.cell? ⟨w.heap.size, 4, none⟩ = some (.slice (some ⟨b, o, none⟩) n cap) := by rw [hW]; go_simp
  have kb : Kept None' w w0 := by rw [hW]; exact (Kept.refl None' w).alloc _ _
  have KB := Lib.hid kb
  clear hW kb
  go_upto_region 6 with (first
    | (go_at_call 56; refine (landed_one _).mono ?_; rintro e w' ⟨rfl, rfl⟩)
    | (go_at_call 48; refine (levels_ok x y Wn Hn b o n cap z how s 10 1023 _ HF.out hh1 hh2 (by decide) (by decide) (by decide +kernel) (by decide) (by decide) (fun i hi => KB.out.some (HC.out i hi) id) hcap).mono ?_; rintro e w1 ⟨B1, hB1, rfl, hk1, hc1⟩; have HC1 := Lib.hid hc1; have KA := Lib.hid hk1; have HK1 := Lib.hid (KB.out.trans hk1); clear hk1 hc1 hB1)
    | fail)
  have g0 := KA.out.some g0 id
  have g1 := KA.out.some g1 id
  have g2 := KA.out.some g2 id
  have g3 := KA.out.some g3 id
  have g4 := KA.out.some g4 id
  have HRL := Lib.hid (show Rd w1 (some ⟨B1, 0, none⟩) n (fun i => .int .i64 (lvK how s x y Wn 1023 z i)) from fun _ => ⟨B1, 0, rfl, fun i hi => by rw [Nat.zero_add]; exact HC1.out i hi⟩)
  go_upto_region 11 with (first
    | (go_at_call 28; refine (pack10_ok (some ⟨B1, 0, none⟩) n n (lvK how s x y Wn 1023 z) _ (by omega) HRL.out HOK.out).mono ?_; rintro e w2 ⟨rfl, hk2⟩)
    | (go_at_call 30; refine ((unpack_10 (strG (4 * ((n + 2) / 3)) (pk10 (lvK how s x y Wn 1023 z) n)) n _ (by omega) (by rw [strG_size]; omega)).mono (fun e w9 h => (h.resolve_right (fun x => by have := x.1; rw [ok10_pack HOK.out] at this; cases this)).2)).mono ?_; rintro e w6 ⟨v, rfl, hown, hk6⟩; obtain ⟨A6, c6, rfl, hr6⟩ := hown.shape; have H6 := Lib.hid (And.intro (hr6.congr (fun j hj => by rw [fld10_in HOK.out j hj])) hk6); clear hown hr6 hk6)
    | (go_at_call 31; refine (equal_ints (some ⟨B1, 0, none⟩) A6 n n c6 (lvK how s x y Wn 1023 z) _ (by omega) (HRL.out.kept (hk2.trans H6.out.2)) H6.out.1).mono ?_; rintro e w7 ⟨rfl, hk7⟩; have KC := Lib.hid ((hk2.trans H6.out.2).trans hk7); clear hk7)
    | fail)
  have g0 := KC.out.some g0 id
  have g1 := KC.out.some g1 id
  have g2 := KC.out.some g2 id
  have g3 := KC.out.some g3 id
  have g4 := KC.out.some g4 id
  have HLa := Lib.hid (fun j hj => KC.out.some (HC1.out j hj) id)
  have KD := Lib.hid (HK1.out.trans KC.out)
  go_upto_region 12 with (first
    | (go_at_call 11; refine (frame_go x y Wn Hn 10 1023 B1 0 n n (lvK how s x y Wn 1023 z) _ HE.out.1 (by decide) (by decide) HW.out (by decide) (by decide) HE.out.2 (fun i hi => by rw [Nat.zero_add]; exact HLa.out i hi) (Nat.le_refl _)).mono ?_; rintro e w8 hp; obtain ⟨hk8, hB8⟩ := hp; obtain ⟨B4, hB4, rfl, hc4⟩ := fr_yes HOK.out hB8; have HC4 := Lib.hid hc4; have HK8 := Lib.hid hk8; clear hk8 hc4 hB4 hB8)
    | fail)
  refine of_world (fun W10 hW => ?_)
  have k10 : Kept None' w8 W10 := by rw [hW]; exact (Kept.refl _ _).alloc _ _
  have q0 : W10.cell? ⟨w8.heap.size, 0, none⟩ = some (.int .i64 x) := by rw [hW]; go_simp
  have q1 : W10.cell? ⟨w8.heap.size, 1, none⟩ = some (.int .i64 y) := by rw [hW]; go_simp
  have q2 : W10.cell? ⟨w8.heap.size, 2, none⟩ = some (.int .i64 Wn) := by rw [hW]; go_simp
  have q3 : W10.cell? ⟨w8.heap.size, 3, none⟩ = some (.int .i64 Hn) := by rw [hW]; go_simp
  have q4 : W10.cell? ⟨w8.heap.size, 4, none⟩ = some (.slice (some ⟨B4, 0, none⟩) n n) := by rw [hW]; go_simp
  have kt := HK8.out.trans k10
  have g0 := kt.some g0 id
  have g1 := kt.some g1 id
  have g2 := kt.some g2 id
  have g3 := kt.some g3 id
  have g4 := kt.some g4 id
  have HLb := Lib.hid (fun j hj => kt.some (HLa.out j hj) id)
  have HC4b := Lib.hid (fun j hj => k10.some (HC4.out j hj) id)
  have K10 := Lib.hid (KD.out.trans kt)
  clear hW k10 kt
  obtain ⟨Q, hQ⟩ : ∃ Q, stepP false 1023 = Q := ⟨_, rfl⟩
  obtain ⟨S, hS⟩ : ∃ S, stepP true 1023 = S := ⟨_, rfl⟩
  have hQ1 : fC .quo .f64 4607182418800017408 (floatOfInt .f64 1023) = Q := by rw [← hQ]; unfold stepP; rw [if_neg Bool.false_ne_true]
  have hS1 : fC .quo .f64 Q 4611686018427387904 = S := by rw [← hS, ← hQ1]; unfold stepP; rw [if_pos rfl]
  rw [hQ] at hq1
  rw [hS] at hq2
  obtain ⟨sa1, sa2⟩ := det (show nan .f64 (fC .quo .f64 4607182418800017408 (floatOfInt .f64 1023)) = false by rw [hQ1]; exact hq1)
  rw [hQ1] at sa1
  obtain ⟨sb1, sb2⟩ := det (show nan .f64 (fC .quo .f64 Q 4611686018427387904) = false by rw [hS1]; exact hq2)
  rw [hS1] at sb1
  have HS := Lib.hid hS
  have HSQ := Lib.hid hS1
  have hw := HW.out
  clear hQ1 hS1 hQ hS hq1 hq2
  go_upto_region 17 with (fail)
  clear hw sa1 sa2 sb1 sb2
  have HG := Lib.hid (And.intro g4 q4)
  have HGq := Lib.hid (And.intro q0 (And.intro q1 (And.intro q2 q3)))
  go_wp2_with fail
  go_loopw [82] (fun i wr => ∃ k : Nat, k ≤ n ∧ i = .int .i64 k ∧ Kept None' W10 wr) (fun i _ => n - (intOf i).toNat)
  case atStart => exact ⟨0, by omega, rfl, Kept.refl _ _⟩
  case round =>
    obtain ⟨k, hk, rfl, hkw⟩ := hrel
    have HKW := Lib.hid hkw
    by_cases hlt : k < n
    · have c0 := (K10.out.trans hkw).some (HC.out k hlt) id
      have c4 := hkw.some (HC4b.out k hlt) id
      have q4 := hkw.some HG.out.2 id
      clear hkw
      cases c1 : (FloatKind.f32.format.order (z k) 0 == some .gt || FloatKind.f32.format.order (z k) 0 == some .eq) with
      | false =>
        go_wp2_with fail
        go_roundw
        case rel => exact ⟨k + 1, by omega, by go_num, HKW.out⟩
        case measure => simp [intOf]; omega
      | true =>
        cases c2 : (FloatKind.f32.format.order (z k) 1065353216 == some .lt || FloatKind.f32.format.order (z k) 1065353216 == some .eq) with
        | false =>
          go_wp2_with fail
          go_roundw
          case rel => exact ⟨k + 1, by omega, by go_num, HKW.out⟩
          case measure => simp [intOf]; omega
        | true =>
          obtain ⟨n1, n2, n3, n4, n5⟩ := HP.out k c1 c2
          rw [hz, HS.out] at n4 n5
          generalize valP (lvK how s x y Wn 1023 z k) 1023 = gk at *
          have a8 : ∀ w, toD gk w = dC gk := toD_not n2
          have a9 : ∀ w, toD (z k) w = dC (z k) := toD_not n1
          obtain ⟨a5, a6⟩ := det n3
          obtain ⟨a3, a4⟩ := det n4
          clear n1 n2 n3 n4
          go_wp2_with (first
            | (go_at_call 57; refine (abs_any _ _).mono ?_; rintro e w' ⟨rfl, rfl⟩)
            | (go_at_call 58; refine (ldexp_d1 _).mono ?_; rintro e w' ⟨rfl, rfl⟩)
            | fail)
          go_roundw
          case rel => exact ⟨k + 1, by omega, by go_num, HKW.out.drew _⟩
          case measure => simp [intOf]; omega
    · obtain rfl : n = k := by omega
      have q0 := hkw.some HGq.out.1 id
      have q1 := hkw.some HGq.out.2.1 id
      have q2 := hkw.some HGq.out.2.2.1 id
      have q3 := hkw.some HGq.out.2.2.2 id
      have q4 := hkw.some HG.out.2 id
      clear hkw
      go_wp2_with (first
        | (go_at_call 48; refine (levels_ok x y Wn Hn B4 0 n n (fun j => valP (lvK how s x y Wn 1023 z j) 1023) 0 s 10 1023 _ HF.out (by decide) (by decide) (by decide) (by decide) HW.out (by decide) (by decide) (fun i hi => by rw [Nat.zero_add]; exact HKW.out.some (HC4b.out i hi) id) (Nat.le_refl _)).mono ?_; rintro e w11 ⟨B5, hB5, rfl, hk5, hc5⟩; have HC5 := Lib.hid hc5; have KB5 := Lib.hid hk5; clear hk5 hc5 hB5)
        | (go_at_call 31; refine (equal_ints (some ⟨B1, 0, none⟩) (some ⟨B5, 0, none⟩) n n n (lvK how s x y Wn 1023 z) _ (by omega) (fun _ => ⟨B1, 0, rfl, fun i hi => by rw [Nat.zero_add]; exact KB5.out.some (HKW.out.some (HLb.out i hi) id) id⟩) (fun _ => ⟨B5, 0, rfl, fun i hi => by rw [Nat.zero_add, HC5.out i hi, lvK_back s x y Wn 1023 (lvK how s x y Wn 1023 z) i (by decide) (by decide) (lvK_bd how s x y Wn 1023 z i (by omega) (by omega))]⟩)).mono ?_; rintro e w14 ⟨rfl, hk14⟩; have KQ2 := Lib.hid hk14; clear hk14)
        | fail)
      go_ret
      exact ⟨rfl, ((K10.out.trans HKW.out).trans KB5.out).trans KQ2.out⟩

set_option linter.unusedSimpArgs false in
set_option linter.unusedVariables false in
set_option maxHeartbeats 8000000 in
set_option maxRecDepth 100000 in
theorem tl_10_false (x y : Int) (Wn Hn : Nat) (b o n cap : Nat) (z : Nat → Nat) (how s : Int) (w : World) (hF : frE x y Wn Hn n = 0) (hh1 : 0 ≤ how) (hh2 : how ≤ 2) (hc : ∀ i, i < n → w.cell? ⟨b, o + i, none⟩ = some (.float .f32 (z i))) (hcap : n ≤ cap)  (hn2 : n ≤ 2000) (hz : (how == 0) = false) :
    Calls Try.prog 10 #[.agg #[.int .i64 x, .int .i64 y, .int .i64 Wn, .int .i64 Hn, .slice (some ⟨b, o, none⟩) n cap], .int .i64 how, .int .u32 s, .int .i64 10] w fun e w' => e = .returned (.bool true) ∧ Kept None' w w' := by
  obtain ⟨hE, hn⟩ := frE_good hF
  obtain ⟨w1', w2', w3', w4', w5'⟩ := regE_ok hE
  have w6 := (mul_bd w1' w2' w3' w4').2
  have w7 : 4 * (Wn : Int) * Hn = 4 * (Wn * Hn) := Int.mul_assoc ..
  have hn6 : n ≤ 262144 := by omega
  have HE := Lib.hid (And.intro hE hn)
  have HF := Lib.hid hF
  have HC := Lib.hid hc
  clear hF hc hE hn w5' w6 w7
  have hb2 : decide ((2000 : Int) < n) = false := by simp; omega
  have hw : wrap64 (wrap64 (2 ^ (10 : Int).toNat) - 1) = (1023 : Int) := by decide +kernel
  have hok : okTo (lvK how s x y Wn 1023 z) 1023 n = true := okTo_of n (fun j hj => lvK_bd how s x y Wn 1023 z j (by omega) (by omega))
  have HOK := Lib.hid hok
  have HP := Lib.hid (fun k c1 c2 => top_px how s x y Wn z k 1023 hh1 hh2 (by decide) (by decide) (by decide) c1 c2)
  obtain ⟨Mn, hMn⟩ := Int.eq_ofNat_of_zero_le (show (0 : Int) ≤ 1023 by omega)
  obtain ⟨_, _, -, hq1, -⟩ := step_all false Mn (by omega) (by omega)
  obtain ⟨_, _, -, hq2, -⟩ := step_all false Mn (by omega) (by omega)
  rw [← hMn] at hq1 hq2
  have HW := Lib.hid hw
  clear hok hw hMn Mn
  go_enter Try.func10, Try.ntmps10
  go_upto_region 1 with (fail)
  refine of_world (fun w0 hW => ?_)
  have g0 : w0.cell? ⟨w.heap.size, 0, none⟩ = some (.int .i64 x) := by rw [hW]; go_simp
  have g1 : w0.cell? ⟨w.heap.size, 1, none⟩ = some (.int .i64 y) := by rw [hW]; go_simp
  have g2 : w0.cell? ⟨w.heap.size, 2, none⟩ = some (.int .i64 Wn) := by rw [hW]; go_simp
  have g3 : w0.cell? ⟨w.heap.size, 3, none⟩ = some (.int .i64 Hn) := by rw [hW]; go_simp
  have g4 : w0.cell? ⟨w.heap.size, 4, none⟩ = some (.slice (some ⟨b, o, none⟩) n cap) := by rw [hW]; go_simp
  have kb : Kept None' w w0 := by rw [hW]; exact (Kept.refl None' w).alloc _ _
  have KB := Lib.hid kb
  clear hW kb
  go_upto_region 6 with (first
    | (go_at_call 56; refine (landed_one _).mono ?_; rintro e w' ⟨rfl, rfl⟩)
    | (go_at_call 48; refine (levels_ok x y Wn Hn b o n cap z how s 10 1023 _ HF.out hh1 hh2 (by decide) (by decide) (by decide +kernel) (by decide) (by decide) (fun i hi => KB.out.some (HC.out i hi) id) hcap).mono ?_; rintro e w1 ⟨B1, hB1, rfl, hk1, hc1⟩; have HC1 := Lib.hid hc1; have KA := Lib.hid hk1; have HK1 := Lib.hid (KB.out.trans hk1); clear hk1 hc1 hB1)
    | fail)
  have g0 := KA.out.some g0 id
  have g1 := KA.out.some g1 id
  have g2 := KA.out.some g2 id
  have g3 := KA.out.some g3 id
  have g4 := KA.out.some g4 id
  have HRL := Lib.hid (show Rd w1 (some ⟨B1, 0, none⟩) n (fun i => .int .i64 (lvK how s x y Wn 1023 z i)) from fun _ => ⟨B1, 0, rfl, fun i hi => by rw [Nat.zero_add]; exact HC1.out i hi⟩)
  go_upto_region 11 with (first
    | (go_at_call 28; refine (pack10_ok (some ⟨B1, 0, none⟩) n n (lvK how s x y Wn 1023 z) _ (by omega) HRL.out HOK.out).mono ?_; rintro e w2 ⟨rfl, hk2⟩)
    | (go_at_call 30; refine ((unpack_10 (strG (4 * ((n + 2) / 3)) (pk10 (lvK how s x y Wn 1023 z) n)) n _ (by omega) (by rw [strG_size]; omega)).mono (fun e w9 h => (h.resolve_right (fun x => by have := x.1; rw [ok10_pack HOK.out] at this; cases this)).2)).mono ?_; rintro e w6 ⟨v, rfl, hown, hk6⟩; obtain ⟨A6, c6, rfl, hr6⟩ := hown.shape; have H6 := Lib.hid (And.intro (hr6.congr (fun j hj => by rw [fld10_in HOK.out j hj])) hk6); clear hown hr6 hk6)
    | (go_at_call 31; refine (equal_ints (some ⟨B1, 0, none⟩) A6 n n c6 (lvK how s x y Wn 1023 z) _ (by omega) (HRL.out.kept (hk2.trans H6.out.2)) H6.out.1).mono ?_; rintro e w7 ⟨rfl, hk7⟩; have KC := Lib.hid ((hk2.trans H6.out.2).trans hk7); clear hk7)
    | fail)
  have g0 := KC.out.some g0 id
  have g1 := KC.out.some g1 id
  have g2 := KC.out.some g2 id
  have g3 := KC.out.some g3 id
  have g4 := KC.out.some g4 id
  have HLa := Lib.hid (fun j hj => KC.out.some (HC1.out j hj) id)
  have KD := Lib.hid (HK1.out.trans KC.out)
  go_upto_region 12 with (first
    | (go_at_call 11; refine (frame_go x y Wn Hn 10 1023 B1 0 n n (lvK how s x y Wn 1023 z) _ HE.out.1 (by decide) (by decide) HW.out (by decide) (by decide) HE.out.2 (fun i hi => by rw [Nat.zero_add]; exact HLa.out i hi) (Nat.le_refl _)).mono ?_; rintro e w8 hp; obtain ⟨hk8, hB8⟩ := hp; obtain ⟨B4, hB4, rfl, hc4⟩ := fr_yes HOK.out hB8; have HC4 := Lib.hid hc4; have HK8 := Lib.hid hk8; clear hk8 hc4 hB4 hB8)
    | fail)
  refine of_world (fun W10 hW => ?_)
  have k10 : Kept None' w8 W10 := by rw [hW]; exact (Kept.refl _ _).alloc _ _
  have q0 : W10.cell? ⟨w8.heap.size, 0, none⟩ = some (.int .i64 x) := by rw [hW]; go_simp
  have q1 : W10.cell? ⟨w8.heap.size, 1, none⟩ = some (.int .i64 y) := by rw [hW]; go_simp
  have q2 : W10.cell? ⟨w8.heap.size, 2, none⟩ = some (.int .i64 Wn) := by rw [hW]; go_simp
  have q3 : W10.cell? ⟨w8.heap.size, 3, none⟩ = some (.int .i64 Hn) := by rw [hW]; go_simp
  have q4 : W10.cell? ⟨w8.heap.size, 4, none⟩ = some (.slice (some ⟨B4, 0, none⟩) n n) := by rw [hW]; go_simp
  have kt := HK8.out.trans k10
  have g0 := kt.some g0 id
  have g1 := kt.some g1 id
  have g2 := kt.some g2 id
  have g3 := kt.some g3 id
  have g4 := kt.some g4 id
  have HLb := Lib.hid (fun j hj => kt.some (HLa.out j hj) id)
  have HC4b := Lib.hid (fun j hj => k10.some (HC4.out j hj) id)
  have K10 := Lib.hid (KD.out.trans kt)
  clear hW k10 kt
  obtain ⟨Q, hQ⟩ : ∃ Q, stepP false 1023 = Q := ⟨_, rfl⟩
  obtain ⟨S, hS⟩ : ∃ S, stepP false 1023 = S := ⟨_, rfl⟩
  have hQ1 : fC .quo .f64 4607182418800017408 (floatOfInt .f64 1023) = Q := by rw [← hQ]; unfold stepP; rw [if_neg Bool.false_ne_true]
  have hS1 : Q = S := hQ.symm.trans hS
  rw [hQ] at hq1
  rw [hS] at hq2
  obtain ⟨sa1, sa2⟩ := det (show nan .f64 (fC .quo .f64 4607182418800017408 (floatOfInt .f64 1023)) = false by rw [hQ1]; exact hq1)
  rw [hQ1] at sa1
  have HS := Lib.hid hS
  have HSQ := Lib.hid hS1
  have hw := HW.out
  clear hQ1 hS1 hQ hS hq1 hq2
  go_upto_region 17 with (fail)
  clear hw sa1 sa2
  rw [HSQ.out]
  have HG := Lib.hid (And.intro g4 q4)
  have HGq := Lib.hid (And.intro q0 (And.intro q1 (And.intro q2 q3)))
  go_wp2_with fail
  go_loopw [82] (fun i wr => ∃ k : Nat, k ≤ n ∧ i = .int .i64 k ∧ Kept None' W10 wr) (fun i _ => n - (intOf i).toNat)
  case atStart => exact ⟨0, by omega, rfl, Kept.refl _ _⟩
  case round =>
    obtain ⟨k, hk, rfl, hkw⟩ := hrel
    have HKW := Lib.hid hkw
    by_cases hlt : k < n
    · have c0 := (K10.out.trans hkw).some (HC.out k hlt) id
      have c4 := hkw.some (HC4b.out k hlt) id
      have q4 := hkw.some HG.out.2 id
      clear hkw
      cases c1 : (FloatKind.f32.format.order (z k) 0 == some .gt || FloatKind.f32.format.order (z k) 0 == some .eq) with
      | false =>
        go_wp2_with fail
        go_roundw
        case rel => exact ⟨k + 1, by omega, by go_num, HKW.out⟩
        case measure => simp [intOf]; omega
      | true =>
        cases c2 : (FloatKind.f32.format.order (z k) 1065353216 == some .lt || FloatKind.f32.format.order (z k) 1065353216 == some .eq) with
        | false =>
          go_wp2_with fail
          go_roundw
          case rel => exact ⟨k + 1, by omega, by go_num, HKW.out⟩
          case measure => simp [intOf]; omega
        | true =>
          obtain ⟨n1, n2, n3, n4, n5⟩ := HP.out k c1 c2
          rw [hz, HS.out] at n4 n5
          generalize valP (lvK how s x y Wn 1023 z k) 1023 = gk at *
          have a8 : ∀ w, toD gk w = dC gk := toD_not n2
          have a9 : ∀ w, toD (z k) w = dC (z k) := toD_not n1
          obtain ⟨a5, a6⟩ := det n3
          obtain ⟨a3, a4⟩ := det n4
          clear n1 n2 n3 n4
          go_wp2_with (first
            | (go_at_call 57; refine (abs_any _ _).mono ?_; rintro e w' ⟨rfl, rfl⟩)
            | (go_at_call 58; refine (ldexp_d1 _).mono ?_; rintro e w' ⟨rfl, rfl⟩)
            | fail)
          go_roundw
          case rel => exact ⟨k + 1, by omega, by go_num, HKW.out.drew _⟩
          case measure => simp [intOf]; omega
    · obtain rfl : n = k := by omega
      have q0 := hkw.some HGq.out.1 id
      have q1 := hkw.some HGq.out.2.1 id
      have q2 := hkw.some HGq.out.2.2.1 id
      have q3 := hkw.some HGq.out.2.2.2 id
      have q4 := hkw.some HG.out.2 id
      clear hkw
      go_wp2_with (first
        | (go_at_call 48; refine (levels_ok x y Wn Hn B4 0 n n (fun j => valP (lvK how s x y Wn 1023 z j) 1023) 0 s 10 1023 _ HF.out (by decide) (by decide) (by decide) (by decide) HW.out (by decide) (by decide) (fun i hi => by rw [Nat.zero_add]; exact HKW.out.some (HC4b.out i hi) id) (Nat.le_refl _)).mono ?_; rintro e w11 ⟨B5, hB5, rfl, hk5, hc5⟩; have HC5 := Lib.hid hc5; have KB5 := Lib.hid hk5; clear hk5 hc5 hB5)
        | (go_at_call 31; refine (equal_ints (some ⟨B1, 0, none⟩) (some ⟨B5, 0, none⟩) n n n (lvK how s x y Wn 1023 z) _ (by omega) (fun _ => ⟨B1, 0, rfl, fun i hi => by rw [Nat.zero_add]; exact KB5.out.some (HKW.out.some (HLb.out i hi) id) id⟩) (fun _ => ⟨B5, 0, rfl, fun i hi => by rw [Nat.zero_add, HC5.out i hi, lvK_back s x y Wn 1023 (lvK how s x y Wn 1023 z) i (by decide) (by decide) (lvK_bd how s x y Wn 1023 z i (by omega) (by omega))]⟩)).mono ?_; rintro e w14 ⟨rfl, hk14⟩; have KQ2 := Lib.hid hk14; clear hk14)
        | fail)
      go_ret
      exact ⟨rfl, ((K10.out.trans HKW.out).trans KB5.out).trans KQ2.out⟩

set_option linter.unusedSimpArgs false in
set_option linter.unusedVariables false in
set_option maxHeartbeats 8000000 in
set_option maxRecDepth 100000 in
theorem tl_16_true (x y : Int) (Wn Hn : Nat) (b o n cap : Nat) (z : Nat → Nat) (how s : Int) (w : World) (hF : frE x y Wn Hn n = 0) (hh1 : 0 ≤ how) (hh2 : how ≤ 2) (hc : ∀ i, i < n → w.cell? ⟨b, o + i, none⟩ = some (.float .f32 (z i))) (hcap : n ≤ cap)  (hn2 : n ≤ 2000) (hz : (how == 0) = true) :
    Calls Try.prog 10 #[.agg #[.int .i64 x, .int .i64 y, .int .i64 Wn, .int .i64 Hn, .slice (some ⟨b, o, none⟩) n cap], .int .i64 how, .int .u32 s, .int .i64 16] w fun e w' => e = .returned (.bool true) ∧ Kept None' w w' := by
  obtain ⟨hE, hn⟩ := frE_good hF
  obtain ⟨w1', w2', w3', w4', w5'⟩ := regE_ok hE
  have w6 := (mul_bd w1' w2' w3' w4').2
  have w7 : 4 * (Wn : Int) * Hn = 4 * (Wn * Hn) := Int.mul_assoc ..
  have hn6 : n ≤ 262144 := by omega
  have HE := Lib.hid (And.intro hE hn)
  have HF := Lib.hid hF
  have HC := Lib.hid hc
  clear hF hc hE hn w5' w6 w7
  have hb2 : decide ((2000 : Int) < n) = false := by simp; omega
  have hw : wrap64 (wrap64 (2 ^ (16 : Int).toNat) - 1) = (65535 : Int) := by decide +kernel
  have hok : okTo (lvK how s x y Wn 65535 z) 65535 n = true := okTo_of n (fun j hj => lvK_bd how s x y Wn 65535 z j (by omega) (by omega))
  have HOK := Lib.hid hok
  have HP := Lib.hid (fun k c1 c2 => top_px how s x y Wn z k 65535 hh1 hh2 (by decide) (by decide) (by decide) c1 c2)
  obtain ⟨Mn, hMn⟩ := Int.eq_ofNat_of_zero_le (show (0 : Int) ≤ 65535 by omega)
  obtain ⟨_, _, -, hq1, -⟩ := step_all false Mn (by omega) (by omega)
  obtain ⟨_, _, -, hq2, -⟩ := step_all true Mn (by omega) (by omega)
  rw [← hMn] at hq1 hq2
  have HW := Lib.hid hw
  clear hok hw hMn Mn
  go_enter Try.func10, Try.ntmps10
  go_upto_region 1 with (fail)
  refine of_world (fun w0 hW => ?_)
  have g0 : w0.cell? ⟨w.heap.size, 0, none⟩ = some (.int .i64 x) := by rw [hW]; go_simp
  have g1 : w0.cell? ⟨w.heap.size, 1, none⟩ = some (.int .i64 y) := by rw [hW]; go_simp
  have g2 : w0.cell? ⟨w.heap.size, 2, none⟩ = some (.int .i64 Wn) := by rw [hW]; go_simp
  have g3 : w0.cell? ⟨w.heap.size, 3, none⟩ = some (.int .i64 Hn) := by rw [hW]; go_simp
  have g4 : w0.cell? ⟨w.heap.size, 4, none⟩ = some (.slice (some ⟨b, o, none⟩) n cap) := by rw [hW]; go_simp
  have kb : Kept None' w w0 := by rw [hW]; exact (Kept.refl None' w).alloc _ _
  have KB := Lib.hid kb
  clear hW kb
  go_upto_region 6 with (first
    | (go_at_call 56; refine (landed_one _).mono ?_; rintro e w' ⟨rfl, rfl⟩)
    | (go_at_call 48; refine (levels_ok x y Wn Hn b o n cap z how s 16 65535 _ HF.out hh1 hh2 (by decide) (by decide) (by decide +kernel) (by decide) (by decide) (fun i hi => KB.out.some (HC.out i hi) id) hcap).mono ?_; rintro e w1 ⟨B1, hB1, rfl, hk1, hc1⟩; have HC1 := Lib.hid hc1; have KA := Lib.hid hk1; have HK1 := Lib.hid (KB.out.trans hk1); clear hk1 hc1 hB1)
    | fail)
  have g0 := KA.out.some g0 id
  have g1 := KA.out.some g1 id
  have g2 := KA.out.some g2 id
  have g3 := KA.out.some g3 id
  have g4 := KA.out.some g4 id
  have HRL := Lib.hid (show Rd w1 (some ⟨B1, 0, none⟩) n (fun i => .int .i64 (lvK how s x y Wn 65535 z i)) from fun _ => ⟨B1, 0, rfl, fun i hi => by rw [Nat.zero_add]; exact HC1.out i hi⟩)
  go_upto_region 11 with (first
    | (go_at_call 28; refine (pack16_ok (some ⟨B1, 0, none⟩) n n (lvK how s x y Wn 65535 z) _ (by omega) HRL.out HOK.out).mono ?_; rintro e w2 ⟨rfl, hk2⟩)
    | (go_at_call 30; refine (unpack_16 (strG (2 * n) (pk16 (lvK how s x y Wn 65535 z))) n _ (by omega) (strG_size (2 * n) _)).mono ?_; rintro e w6 ⟨v, rfl, hown, hk6⟩; obtain ⟨A6, c6, rfl, hr6⟩ := hown.shape; have H6 := Lib.hid (And.intro (hr6.congr (fun j hj => by rw [un16s HOK.out j hj])) hk6); clear hown hr6 hk6)
    | (go_at_call 31; refine (equal_ints (some ⟨B1, 0, none⟩) A6 n n c6 (lvK how s x y Wn 65535 z) _ (by omega) (HRL.out.kept (hk2.trans H6.out.2)) H6.out.1).mono ?_; rintro e w7 ⟨rfl, hk7⟩; have KC := Lib.hid ((hk2.trans H6.out.2).trans hk7); clear hk7)
    | fail)
  have g0 := KC.out.some g0 id
  have g1 := KC.out.some g1 id
  have g2 := KC.out.some g2 id
  have g3 := KC.out.some g3 id
  have g4 := KC.out.some g4 id
  have HLa := Lib.hid (fun j hj => KC.out.some (HC1.out j hj) id)
  have KD := Lib.hid (HK1.out.trans KC.out)
  go_upto_region 12 with (first
    | (go_at_call 11; refine (frame_go x y Wn Hn 16 65535 B1 0 n n (lvK how s x y Wn 65535 z) _ HE.out.1 (by decide) (by decide) HW.out (by decide) (by decide) HE.out.2 (fun i hi => by rw [Nat.zero_add]; exact HLa.out i hi) (Nat.le_refl _)).mono ?_; rintro e w8 hp; obtain ⟨hk8, hB8⟩ := hp; obtain ⟨B4, hB4, rfl, hc4⟩ := fr_yes HOK.out hB8; have HC4 := Lib.hid hc4; have HK8 := Lib.hid hk8; clear hk8 hc4 hB4 hB8)
    | fail)
  refine of_world (fun W10 hW => ?_)
  have k10 : Kept None' w8 W10 := by rw [hW]; exact (Kept.refl _ _).alloc _ _
  have q0 : W10.cell? ⟨w8.heap.size, 0, none⟩ = some (.int .i64 x) := by rw [hW]; go_simp
  have q1 : W10.cell? ⟨w8.heap.size, 1, none⟩ = some (.int .i64 y) := by rw [hW]; go_simp
  have q2 : W10.cell? ⟨w8.heap.size, 2, none⟩ = some (.int .i64 Wn) := by rw [hW]; go_simp
  have q3 : W10.cell? ⟨w8.heap.size, 3, none⟩ = some (.int .i64 Hn) := by rw [hW]; go_simp
  have q4 : W10.cell? ⟨w8.heap.size, 4, none⟩ = some (.slice (some ⟨B4, 0, none⟩) n n) := by rw [hW]; go_simp
  have kt := HK8.out.trans k10
  have g0 := kt.some g0 id
  have g1 := kt.some g1 id
  have g2 := kt.some g2 id
  have g3 := kt.some g3 id
  have g4 := kt.some g4 id
  have HLb := Lib.hid (fun j hj => kt.some (HLa.out j hj) id)
  have HC4b := Lib.hid (fun j hj => k10.some (HC4.out j hj) id)
  have K10 := Lib.hid (KD.out.trans kt)
  clear hW k10 kt
  obtain ⟨Q, hQ⟩ : ∃ Q, stepP false 65535 = Q := ⟨_, rfl⟩
  obtain ⟨S, hS⟩ : ∃ S, stepP true 65535 = S := ⟨_, rfl⟩
  have hQ1 : fC .quo .f64 4607182418800017408 (floatOfInt .f64 65535) = Q := by rw [← hQ]; unfold stepP; rw [if_neg Bool.false_ne_true]
  have hS1 : fC .quo .f64 Q 4611686018427387904 = S := by rw [← hS, ← hQ1]; unfold stepP; rw [if_pos rfl]
  rw [hQ] at hq1
  rw [hS] at hq2
  obtain ⟨sa1, sa2⟩ := det (show nan .f64 (fC .quo .f64 4607182418800017408 (floatOfInt .f64 65535)) = false by rw [hQ1]; exact hq1)
  rw [hQ1] at sa1
  obtain ⟨sb1, sb2⟩ := det (show nan .f64 (fC .quo .f64 Q 4611686018427387904) = false by rw [hS1]; exact hq2)
  rw [hS1] at sb1
  have HS := Lib.hid hS
  have HSQ := Lib.hid hS1
  have hw := HW.out
  clear hQ1 hS1 hQ hS hq1 hq2
  go_upto_region 17 with (fail)
  clear hw sa1 sa2 sb1 sb2
  have HG := Lib.hid (And.intro g4 q4)
  have HGq := Lib.hid (And.intro q0 (And.intro q1 (And.intro q2 q3)))
  go_wp2_with fail
  go_loopw [82] (fun i wr => ∃ k : Nat, k ≤ n ∧ i = .int .i64 k ∧ Kept None' W10 wr) (fun i _ => n - (intOf i).toNat)
  case atStart => exact ⟨0, by omega, rfl, Kept.refl _ _⟩
  case round =>
    obtain ⟨k, hk, rfl, hkw⟩ := hrel
    have HKW := Lib.hid hkw
    by_cases hlt : k < n
    · have c0 := (K10.out.trans hkw).some (HC.out k hlt) id
      have c4 := hkw.some (HC4b.out k hlt) id
      have q4 := hkw.some HG.out.2 id
      clear hkw
      cases c1 : (FloatKind.f32.format.order (z k) 0 == some .gt || FloatKind.f32.format.order (z k) 0 == some .eq) with
      | false =>
        go_wp2_with fail
        go_roundw
        case rel => exact ⟨k + 1, by omega, by go_num, HKW.out⟩
        case measure => simp [intOf]; omega
      | true =>
        cases c2 : (FloatKind.f32.format.order (z k) 1065353216 == some .lt || FloatKind.f32.format.order (z k) 1065353216 == some .eq) with
        | false =>
          go_wp2_with fail
          go_roundw
          case rel => exact ⟨k + 1, by omega, by go_num, HKW.out⟩
          case measure => simp [intOf]; omega
        | true =>
          obtain ⟨n1, n2, n3, n4, n5⟩ := HP.out k c1 c2
          rw [hz, HS.out] at n4 n5
          generalize valP (lvK how s x y Wn 65535 z k) 65535 = gk at *
          have a8 : ∀ w, toD gk w = dC gk := toD_not n2
          have a9 : ∀ w, toD (z k) w = dC (z k) := toD_not n1
          obtain ⟨a5, a6⟩ := det n3
          obtain ⟨a3, a4⟩ := det n4
          clear n1 n2 n3 n4
          go_wp2_with (first
            | (go_at_call 57; refine (abs_any _ _).mono ?_; rintro e w' ⟨rfl, rfl⟩)
            | (go_at_call 58; refine (ldexp_d1 _).mono ?_; rintro e w' ⟨rfl, rfl⟩)
            | fail)
          go_roundw
          case rel => exact ⟨k + 1, by omega, by go_num, HKW.out.drew _⟩
          case measure => simp [intOf]; omega
    · obtain rfl : n = k := by omega
      have q0 := hkw.some HGq.out.1 id
      have q1 := hkw.some HGq.out.2.1 id
      have q2 := hkw.some HGq.out.2.2.1 id
      have q3 := hkw.some HGq.out.2.2.2 id
      have q4 := hkw.some HG.out.2 id
      clear hkw
      go_wp2_with (first
        | (go_at_call 48; refine (levels_ok x y Wn Hn B4 0 n n (fun j => valP (lvK how s x y Wn 65535 z j) 65535) 0 s 16 65535 _ HF.out (by decide) (by decide) (by decide) (by decide) HW.out (by decide) (by decide) (fun i hi => by rw [Nat.zero_add]; exact HKW.out.some (HC4b.out i hi) id) (Nat.le_refl _)).mono ?_; rintro e w11 ⟨B5, hB5, rfl, hk5, hc5⟩; have HC5 := Lib.hid hc5; have KB5 := Lib.hid hk5; clear hk5 hc5 hB5)
        | (go_at_call 31; refine (equal_ints (some ⟨B1, 0, none⟩) (some ⟨B5, 0, none⟩) n n n (lvK how s x y Wn 65535 z) _ (by omega) (fun _ => ⟨B1, 0, rfl, fun i hi => by rw [Nat.zero_add]; exact KB5.out.some (HKW.out.some (HLb.out i hi) id) id⟩) (fun _ => ⟨B5, 0, rfl, fun i hi => by rw [Nat.zero_add, HC5.out i hi, lvK_back s x y Wn 65535 (lvK how s x y Wn 65535 z) i (by decide) (by decide) (lvK_bd how s x y Wn 65535 z i (by omega) (by omega))]⟩)).mono ?_; rintro e w14 ⟨rfl, hk14⟩; have KQ2 := Lib.hid hk14; clear hk14)
        | fail)
      go_ret
      exact ⟨rfl, ((K10.out.trans HKW.out).trans KB5.out).trans KQ2.out⟩

set_option linter.unusedSimpArgs false in
set_option linter.unusedVariables false in
set_option maxHeartbeats 8000000 in
set_option maxRecDepth 100000 in
theorem tl_16_false (x y : Int) (Wn Hn : Nat) (b o n cap : Nat) (z : Nat → Nat) (how s : Int) (w : World) (hF : frE x y Wn Hn n = 0) (hh1 : 0 ≤ how) (hh2 : how ≤ 2) (hc : ∀ i, i < n → w.cell? ⟨b, o + i, none⟩ = some (.float .f32 (z i))) (hcap : n ≤ cap)  (hn2 : n ≤ 2000) (hz : (how == 0) = false) :
    Calls Try.prog 10 #[.agg #[.int .i64 x, .int .i64 y, .int .i64 Wn, .int .i64 Hn, .slice (some ⟨b, o, none⟩) n cap], .int .i64 how, .int .u32 s, .int .i64 16] w fun e w' => e = .returned (.bool true) ∧ Kept None' w w' := by
  obtain ⟨hE, hn⟩ := frE_good hF
  obtain ⟨w1', w2', w3', w4', w5'⟩ := regE_ok hE
  have w6 := (mul_bd w1' w2' w3' w4').2
  have w7 : 4 * (Wn : Int) * Hn = 4 * (Wn * Hn) := Int.mul_assoc ..
  have hn6 : n ≤ 262144 := by omega
  have HE := Lib.hid (And.intro hE hn)
  have HF := Lib.hid hF
  have HC := Lib.hid hc
  clear hF hc hE hn w5' w6 w7
  have hb2 : decide ((2000 : Int) < n) = false := by simp; omega
  have hw : wrap64 (wrap64 (2 ^ (16 : Int).toNat) - 1) = (65535 : Int) := by decide +kernel
  have hok : okTo (lvK how s x y Wn 65535 z) 65535 n = true := okTo_of n (fun j hj => lvK_bd how s x y Wn 65535 z j (by omega) (by omega))
  have HOK := Lib.hid hok
  have HP := Lib.hid (fun k c1 c2 => top_px how s x y Wn z k 65535 hh1 hh2 (by decide) (by decide) (by decide) c1 c2)
  obtain ⟨Mn, hMn⟩ := Int.eq_ofNat_of_zero_le (show (0 : Int) ≤ 65535 by omega)
  obtain ⟨_, _, -, hq1, -⟩ := step_all false Mn (by omega) (by omega)
  obtain ⟨_, _, -, hq2, -⟩ := step_all false Mn (by omega) (by omega)
  rw [← hMn] at hq1 hq2
  have HW := Lib.hid hw
  clear hok hw hMn Mn
  go_enter Try.func10, Try.ntmps10
  go_upto_region 1 with (fail)
  refine of_world (fun w0 hW => ?_)
  have g0 : w0.cell? ⟨w.heap.size, 0, none⟩ = some (.int .i64 x) := by rw [hW]; go_simp
  have g1 : w0.cell? ⟨w.heap.size, 1, none⟩ = some (.int .i64 y) := by rw [hW]; go_simp
  have g2 : w0.cell? ⟨w.heap.size, 2, none⟩ = some (.int .i64 Wn) := by rw [hW]; go_simp
  have g3 : w0.cell? ⟨w.heap.size, 3, none⟩ = some (.int .i64 Hn) := by rw [hW]; go_simp
  have g4 : w0.cell? ⟨w.heap.size, 4, none⟩ = some (.slice (some ⟨b, o, none⟩) n cap) := by rw [hW]; go_simp
  have kb : Kept None' w w0 := by rw [hW]; exact (Kept.refl None' w).alloc _ _
  have KB := Lib.hid kb
  clear hW kb
  go_upto_region 6 with (first
    | (go_at_call 56; refine (landed_one _).mono ?_; rintro e w' ⟨rfl, rfl⟩)
    | (go_at_call 48; refine (levels_ok x y Wn Hn b o n cap z how s 16 65535 _ HF.out hh1 hh2 (by decide) (by decide) (by decide +kernel) (by decide) (by decide) (fun i hi => KB.out.some (HC.out i hi) id) hcap).mono ?_; rintro e w1 ⟨B1, hB1, rfl, hk1, hc1⟩; have HC1 := Lib.hid hc1; have KA := Lib.hid hk1; have HK1 := Lib.hid (KB.out.trans hk1); clear hk1 hc1 hB1)
    | fail)
  have g0 := KA.out.some g0 id
  have g1 := KA.out.some g1 id
  have g2 := KA.out.some g2 id
  have g3 := KA.out.some g3 id
  have g4 := KA.out.some g4 id
  have HRL := Lib.hid (show Rd w1 (some ⟨B1, 0, none⟩) n (fun i => .int .i64 (lvK how s x y Wn 65535 z i)) from fun _ => ⟨B1, 0, rfl, fun i hi => by rw [Nat.zero_add]; exact HC1.out i hi⟩)
  go_upto_region 11 with (first
    | (go_at_call 28; refine (pack16_ok (some ⟨B1, 0, none⟩) n n (lvK how s x y Wn 65535 z) _ (by omega) HRL.out HOK.out).mono ?_; rintro e w2 ⟨rfl, hk2⟩)
    | (go_at_call 30; refine (unpack_16 (strG (2 * n) (pk16 (lvK how s x y Wn 65535 z))) n _ (by omega) (strG_size (2 * n) _)).mono ?_; rintro e w6 ⟨v, rfl, hown, hk6⟩; obtain ⟨A6, c6, rfl, hr6⟩ := hown.shape; have H6 := Lib.hid (And.intro (hr6.congr (fun j hj => by rw [un16s HOK.out j hj])) hk6); clear hown hr6 hk6)
    | (go_at_call 31; refine (equal_ints (some ⟨B1, 0, none⟩) A6 n n c6 (lvK how s x y Wn 65535 z) _ (by omega) (HRL.out.kept (hk2.trans H6.out.2)) H6.out.1).mono ?_; rintro e w7 ⟨rfl, hk7⟩; have KC := Lib.hid ((hk2.trans H6.out.2).trans hk7); clear hk7)
    | fail)
  have g0 := KC.out.some g0 id
  have g1 := KC.out.some g1 id
  have g2 := KC.out.some g2 id
  have g3 := KC.out.some g3 id
  have g4 := KC.out.some g4 id
  have HLa := Lib.hid (fun j hj => KC.out.some (HC1.out j hj) id)
  have KD := Lib.hid (HK1.out.trans KC.out)
  go_upto_region 12 with (first
    | (go_at_call 11; refine (frame_go x y Wn Hn 16 65535 B1 0 n n (lvK how s x y Wn 65535 z) _ HE.out.1 (by decide) (by decide) HW.out (by decide) (by decide) HE.out.2 (fun i hi => by rw [Nat.zero_add]; exact HLa.out i hi) (Nat.le_refl _)).mono ?_; rintro e w8 hp; obtain ⟨hk8, hB8⟩ := hp; obtain ⟨B4, hB4, rfl, hc4⟩ := fr_yes HOK.out hB8; have HC4 := Lib.hid hc4; have HK8 := Lib.hid hk8; clear hk8 hc4 hB4 hB8)
    | fail)
  refine of_world (fun W10 hW => ?_)
  have k10 : Kept None' w8 W10 := by rw [hW]; exact (Kept.refl _ _).alloc _ _
  have q0 : W10.cell? ⟨w8.heap.size, 0, none⟩ = some (.int .i64 x) := by rw [hW]; go_simp
  have q1 : W10.cell? ⟨w8.heap.size, 1, none⟩ = some (.int .i64 y) := by rw [hW]; go_simp
  have q2 : W10.cell? ⟨w8.heap.size, 2, none⟩ = some (.int .i64 Wn) := by rw [hW]; go_simp
  have q3 : W10.cell? ⟨w8.heap.size, 3, none⟩ = some (.int .i64 Hn) := by rw [hW]; go_simp
  have q4 : W10.cell? ⟨w8.heap.size, 4, none⟩ = some (.slice (some ⟨B4, 0, none⟩) n n) := by rw [hW]; go_simp
  have kt := HK8.out.trans k10
  have g0 := kt.some g0 id
  have g1 := kt.some g1 id
  have g2 := kt.some g2 id
  have g3 := kt.some g3 id
  have g4 := kt.some g4 id
  have HLb := Lib.hid (fun j hj => kt.some (HLa.out j hj) id)
  have HC4b := Lib.hid (fun j hj => k10.some (HC4.out j hj) id)
  have K10 := Lib.hid (KD.out.trans kt)
  clear hW k10 kt
  obtain ⟨Q, hQ⟩ : ∃ Q, stepP false 65535 = Q := ⟨_, rfl⟩
  obtain ⟨S, hS⟩ : ∃ S, stepP false 65535 = S := ⟨_, rfl⟩
  have hQ1 : fC .quo .f64 4607182418800017408 (floatOfInt .f64 65535) = Q := by rw [← hQ]; unfold stepP; rw [if_neg Bool.false_ne_true]
  have hS1 : Q = S := hQ.symm.trans hS
  rw [hQ] at hq1
  rw [hS] at hq2
  obtain ⟨sa1, sa2⟩ := det (show nan .f64 (fC .quo .f64 4607182418800017408 (floatOfInt .f64 65535)) = false by rw [hQ1]; exact hq1)
  rw [hQ1] at sa1
  have HS := Lib.hid hS
  have HSQ := Lib.hid hS1
  have hw := HW.out
  clear hQ1 hS1 hQ hS hq1 hq2
  go_upto_region 17 with (fail)
  clear hw sa1 sa2
  rw [HSQ.out]
  have HG := Lib.hid (And.intro g4 q4)
  have HGq := Lib.hid (And.intro q0 (And.intro q1 (And.intro q2 q3)))
  go_wp2_with fail
  go_loopw [82] (fun i wr => ∃ k : Nat, k ≤ n ∧ i = .int .i64 k ∧ Kept None' W10 wr) (fun i _ => n - (intOf i).toNat)
  case atStart => exact ⟨0, by omega, rfl, Kept.refl _ _⟩
  case round =>
    obtain ⟨k, hk, rfl, hkw⟩ := hrel
    have HKW := Lib.hid hkw
    by_cases hlt : k < n
    · have c0 := (K10.out.trans hkw).some (HC.out k hlt) id
      have c4 := hkw.some (HC4b.out k hlt) id
      have q4 := hkw.some HG.out.2 id
      clear hkw
      cases c1 : (FloatKind.f32.format.order (z k) 0 == some .gt || FloatKind.f32.format.order (z k) 0 == some .eq) with
      | false =>
        go_wp2_with fail
        go_roundw
        case rel => exact ⟨k + 1, by omega, by go_num, HKW.out⟩
        case measure => simp [intOf]; omega
      | true =>
        cases c2 : (FloatKind.f32.format.order (z k) 1065353216 == some .lt || FloatKind.f32.format.order (z k) 1065353216 == some .eq) with
        | false =>
          go_wp2_with fail
          go_roundw
          case rel => exact ⟨k + 1, by omega, by go_num, HKW.out⟩
          case measure => simp [intOf]; omega
        | true =>
          obtain ⟨n1, n2, n3, n4, n5⟩ := HP.out k c1 c2
          rw [hz, HS.out] at n4 n5
          generalize valP (lvK how s x y Wn 65535 z k) 65535 = gk at *
          have a8 : ∀ w, toD gk w = dC gk := toD_not n2
          have a9 : ∀ w, toD (z k) w = dC (z k) := toD_not n1
          obtain ⟨a5, a6⟩ := det n3
          obtain ⟨a3, a4⟩ := det n4
          clear n1 n2 n3 n4
          go_wp2_with (first
            | (go_at_call 57; refine (abs_any _ _).mono ?_; rintro e w' ⟨rfl, rfl⟩)
            | (go_at_call 58; refine (ldexp_d1 _).mono ?_; rintro e w' ⟨rfl, rfl⟩)
            | fail)
          go_roundw
          case rel => exact ⟨k + 1, by omega, by go_num, HKW.out.drew _⟩
          case measure => simp [intOf]; omega
    · obtain rfl : n = k := by omega
      have q0 := hkw.some HGq.out.1 id
      have q1 := hkw.some HGq.out.2.1 id
      have q2 := hkw.some HGq.out.2.2.1 id
      have q3 := hkw.some HGq.out.2.2.2 id
      have q4 := hkw.some HG.out.2 id
      clear hkw
      go_wp2_with (first
        | (go_at_call 48; refine (levels_ok x y Wn Hn B4 0 n n (fun j => valP (lvK how s x y Wn 65535 z j) 65535) 0 s 16 65535 _ HF.out (by decide) (by decide) (by decide) (by decide) HW.out (by decide) (by decide) (fun i hi => by rw [Nat.zero_add]; exact HKW.out.some (HC4b.out i hi) id) (Nat.le_refl _)).mono ?_; rintro e w11 ⟨B5, hB5, rfl, hk5, hc5⟩; have HC5 := Lib.hid hc5; have KB5 := Lib.hid hk5; clear hk5 hc5 hB5)
        | (go_at_call 31; refine (equal_ints (some ⟨B1, 0, none⟩) (some ⟨B5, 0, none⟩) n n n (lvK how s x y Wn 65535 z) _ (by omega) (fun _ => ⟨B1, 0, rfl, fun i hi => by rw [Nat.zero_add]; exact KB5.out.some (HKW.out.some (HLb.out i hi) id) id⟩) (fun _ => ⟨B5, 0, rfl, fun i hi => by rw [Nat.zero_add, HC5.out i hi, lvK_back s x y Wn 65535 (lvK how s x y Wn 65535 z) i (by decide) (by decide) (lvK_bd how s x y Wn 65535 z i (by omega) (by omega))]⟩)).mono ?_; rintro e w14 ⟨rfl, hk14⟩; have KQ2 := Lib.hid hk14; clear hk14)
        | fail)
      go_ret
      exact ⟨rfl, ((K10.out.trans HKW.out).trans KB5.out).trans KQ2.out⟩

theorem walk_topLevels (x y W H : Int) (A : Option Addr) (n cap : Nat) (z : Nat → Nat) (how s d : Int) (w : World) (_ : (Lit.int .i64 x).wf = true) (_ : (Lit.int .i64 y).wf = true) (_ : (Lit.int .i64 W).wf = true) (_ : (Lit.int .i64 H).wf = true)
    (hcap : n ≤ cap) (_ : cap ≤ maxLen) (hr : Rd w A n (fun i => .float .f32 (z i))) (_ : ∀ i, (Lit.float .f32 (z i)).wf = true) (_ : (Lit.int .i64 how).wf = true) (_ : (Lit.int .u32 s).wf = true) (_ : (Lit.int .i64 d).wf = true) :
    Calls Try.prog 10 #[.agg #[.int .i64 x, .int .i64 y, .int .i64 W, .int .i64 H, .slice A n cap], .int .i64 how, .int .u32 s, .int .i64 d] w fun e w' => e = .returned (.bool true) ∧ Kept None' w w' := by
  by_cases hF : frE x y W H n = 0
  · by_cases h1 : how < 0
    · exact tl_err x y W H A n cap how s d 1 w (by decide) (fun w => levels_e2a x y W H A n cap how s d w hF (by simp [h1]))
    · by_cases h2 : 2 < how
      · exact tl_err x y W H A n cap how s d 1 w (by decide) (fun w => levels_e2b x y W H A n cap how s d w hF (by simp [h1]) (by simp [h2]))
      · by_cases hd : 1 ≤ d ∧ d ≤ 16
        · obtain ⟨M, hM, m1, m2⟩ := most_of d hd.1 hd.2
          obtain ⟨hE, hn⟩ := frE_good hF
          obtain ⟨w1', w2', w3', w4', w5'⟩ := regE_ok hE
          have w6 := (mul_bd w1' w2' w3' w4').1
          have w7 : 4 * W * H = 4 * (W * H) := Int.mul_assoc ..
          obtain ⟨b, o, rfl, hc⟩ := hr (by omega)
          obtain ⟨Wn, rfl⟩ := Int.eq_ofNat_of_zero_le (show 0 ≤ W by omega)
          obtain ⟨Hn, rfl⟩ := Int.eq_ofNat_of_zero_le (show 0 ≤ H by omega)
          have hh1 : 0 ≤ how := by omega
          have hh2 : how ≤ 2 := by omega
          by_cases hn2 : n ≤ 2000
          · cases hp : pkB d with
            | false =>
              cases hz : (how == 0) with
              | true => exact tl_0_true x y Wn Hn b o n cap z how s d M w hF hh1 hh2 hc hcap hd.1 hd.2 hM m1 m2 hp hn2 hz
              | false => exact tl_0_false x y Wn Hn b o n cap z how s d M w hF hh1 hh2 hc hcap hd.1 hd.2 hM m1 m2 hp hn2 hz
            | true =>
              have h : d = 8 ∨ d = 10 ∨ d = 16 := by unfold pkB at hp; simpa using hp
              clear hp hd hM m1 m2
              rcases h with rfl | rfl | rfl
              · cases hz : (how == 0) with
                | true => exact tl_8_true x y Wn Hn b o n cap z how s w hF hh1 hh2 hc hcap hn2 hz
                | false => exact tl_8_false x y Wn Hn b o n cap z how s w hF hh1 hh2 hc hcap hn2 hz
              · cases hz : (how == 0) with
                | true => exact tl_10_true x y Wn Hn b o n cap z how s w hF hh1 hh2 hc hcap hn2 hz
                | false => exact tl_10_false x y Wn Hn b o n cap z how s w hF hh1 hh2 hc hcap hn2 hz
              · cases hz : (how == 0) with
                | true => exact tl_16_true x y Wn Hn b o n cap z how s w hF hh1 hh2 hc hcap hn2 hz
                | false => exact tl_16_false x y Wn Hn b o n cap z how s w hF hh1 hh2 hc hcap hn2 hz
          · exact tl_big x y Wn Hn b o n cap z how s d M w hF hh1 hh2 hc hcap hd.1 hd.2 hM m1 m2 (by simp; omega)
        · exact tl_err x y W H A n cap how s d 3 w (by decide) (fun w => levels_e3 x y W H A n cap how s d w hF (by simp; omega) (by simp; omega) (by simp; omega))
  · exact tl_err x y W H A n cap how s d _ w hF (fun w => levels_e1 x y W H A n cap how s d w _ rfl hF)

end Go.Proofs.Ytfphhlodfieopaa
