/- Contracts of what checks works. Conditions: none. -/
import Derived.Test.YtflmfjimemhooaaWa
import Derived.Deep.DeepCutAuto
import Derived.Outline
namespace Go.Proofs.Ytflmfjimemhooaa
open Go.RowKit
open Fl
open BigFrame

/-- Works: what lies in memory of a slice of them. -/
def WkR (w : World) (A : Option Addr) (n : Nat) (C R : Nat → Int) (AA : Nat → Option Addr) (an ac : Nat → Nat) (az : Nat → Nat → Int) : Prop :=
  (0 < n → ∃ b o, A = some ⟨b, o, none⟩ ∧ ∀ i, i < n → w.cell? ⟨b, o + i * 3, none⟩ = some (.int .i64 (C i)) ∧ w.cell? ⟨b, o + i * 3 + 1, none⟩ = some (.int .i64 (R i)) ∧ w.cell? ⟨b, o + i * 3 + 2, none⟩ = some (.slice (AA i) (an i) (ac i))) ∧
  ∀ i, i < n → an i ≤ ac i ∧ ac i ≤ maxLen ∧ Rd w (AA i) (an i) (fun k => .int .i64 (az i k))
theorem WkR.kept {w w' : World} {A : Option Addr} {n : Nat} {C R : Nat → Int} {AA : Nat → Option Addr} {an ac : Nat → Nat} {az : Nat → Nat → Int} (h : WkR w A n C R AA an ac az) (k : Kept None' w w') : WkR w' A n C R AA an ac az :=
  ⟨fun hn => by
    obtain ⟨b, o, e, hc⟩ := h.1 hn
    exact ⟨b, o, e, fun i hi => ⟨k.some (hc i hi).1 id, k.some (hc i hi).2.1 id, k.some (hc i hi).2.2 id⟩⟩, fun i hi => ⟨(h.2 i hi).1, (h.2 i hi).2.1, (h.2 i hi).2.2.kept k⟩⟩
/-- The first of n errors. -/
def firE (f : Nat → Int) : Nat → Int
  | 0 => 0
  | n + 1 => if firE f n ≠ 0 then firE f n else f n
theorem firE_zero {f : Nat → Int} : ∀ {n : Nat}, (∀ j, j < n → f j = 0) → firE f n = 0
  | 0, _ => rfl
  | n + 1, h => by
    unfold firE
    rw [firE_zero (fun j hj => h j (by omega)), if_neg (by simp)]
    exact h n (by omega)
theorem firE_at {f : Nat → Int} {i : Nat} : ∀ {n : Nat}, i < n → (∀ j, j < i → f j = 0) → f i ≠ 0 → firE f n = f i
  | 0, h, _, _ => by omega
  | n + 1, h, hz, hi => by
    unfold firE
    by_cases e : i = n
    · subst e
      rw [firE_zero hz, if_neg (by simp)]
    · rw [firE_at (by omega) hz hi, if_pos hi]
theorem firE_all {f : Nat → Int} : ∀ {n : Nat}, firE f n = 0 → ∀ j, j < n → f j = 0
  | 0, _, j, hj => by omega
  | n + 1, h, j, hj => by
    unfold firE at h
    by_cases e : firE f n = 0
    · rw [if_neg (by simp [e])] at h
      by_cases e2 : j = n
      · subst e2; exact h
      · exact firE_all e j (by omega)
    · rw [if_pos e] at h; exact absurd h e
/-- The error of what a work comes after, and of a work. -/
def afE (az : Nat → Int) (i : Int) (k : Nat) : Int := if az k < 0 ∨ i ≤ az k then 11 else if ctB az k (az k) = true then 7 else 0
def wk1 (C R : Int) (an : Nat) (az : Nat → Int) (i : Int) : Int := if C < 1 ∨ 1000000 < C ∨ R < 0 ∨ 100 < R then 3 else if 20 < an then 4 else firE (afE az i) an
def wkE (n : Nat) (C R : Nat → Int) (an : Nat → Nat) (az : Nat → Nat → Int) : Int := if 2000 < n then 4 else firE (fun i => wk1 (C i) (R i) (an i) (az i) i) n

theorem wk1_bad {C R : Int} {an : Nat} {az : Nat → Int} {i : Int} (h : C < 1 ∨ 1000000 < C ∨ R < 0 ∨ 100 < R) : wk1 C R an az i = 3 := if_pos h
theorem wk1_long {C R : Int} {an : Nat} {az : Nat → Int} {i : Int} (h : ¬ (C < 1 ∨ 1000000 < C ∨ R < 0 ∨ 100 < R)) (h2 : 20 < an) : wk1 C R an az i = 4 := by unfold wk1; rw [if_neg h, if_pos h2]
theorem wk1_af {C R : Int} {an : Nat} {az : Nat → Int} {i : Int} (h : ¬ (C < 1 ∨ 1000000 < C ∨ R < 0 ∨ 100 < R)) (h2 : ¬ 20 < an) : wk1 C R an az i = firE (afE az i) an := by unfold wk1; rw [if_neg h, if_neg h2]

set_option linter.unusedSimpArgs false in
set_option linter.unusedVariables false in
set_option maxHeartbeats 4000000 in
set_option maxRecDepth 100000 in
theorem checkwork_any (A : Option Addr) (n cap : Nat) (C R : Nat → Int) (AA : Nat → Option Addr) (an ac : Nat → Nat) (az : Nat → Nat → Int) (w : World) (hn : n ≤ cap) (hcap : cap ≤ 9223372036854775807) (hr : WkR w A n C R AA an ac az) :
    Calls Try.prog 32 #[.slice A n cap] w fun e w' => e = .returned (.int .i64 (wkE n C R an az)) ∧ Kept None' w w' := by
  have HR := Lib.hid hr
  clear hr
  by_cases h2 : 2000 < n
  · have hE : wkE n C R an az = 4 := if_pos h2
    rw [hE]
    clear hE
    have d1 : decide (2000 < (n : Int)) = true := decide_eq_true (by omega)
    go_enter Try.func32, Try.ntmps32
    go_wp2_with fail
    go_ret
    exact ⟨rfl, Kept.refl _ _⟩
  · have hE : wkE n C R an az = firE (fun i => wk1 (C i) (R i) (an i) (az i) i) n := if_neg h2
    rw [hE]
    obtain ⟨E, hE2⟩ : ∃ E, firE (fun i => wk1 (C i) (R i) (an i) (az i) i) n = E := ⟨_, rfl⟩
    rw [hE2]
    have HE := Lib.hid hE2
    clear hE hE2
    have d1 : decide (2000 < (n : Int)) = false := decide_eq_false (by omega)
    go_enter Try.func32, Try.ntmps32
    go_wp2_with fail
    go_loopw [12] (fun s12 wr => ∃ k : Nat, k ≤ n ∧ s12 = .int .i64 (k : Int) ∧ Hid (∀ j, j < k → wk1 (C j) (R j) (an j) (az j) j = 0) ∧ Kept None' w wr) (fun s12 _ => (n - intOf s12).toNat)
    case atStart => exact ⟨0, Nat.zero_le _, rfl, Lib.hid (fun j hj => absurd hj (by omega)), Kept.refl _ _⟩
    case round =>
      obtain ⟨k, hk, rfl, HK, hkp⟩ := hrel
      have HP := Lib.hid hkp
      by_cases hlt : k < n
      · have d2 : decide ((k : Int) < (n : Int)) = true := decide_eq_true (by omega)
        obtain ⟨hrA, hrB⟩ := HR.out.kept hkp
        obtain ⟨b, o, rfl, hc⟩ := hrA (by omega)
        obtain ⟨c0, c1, c2⟩ := hc k hlt
        obtain ⟨l1, l2, hr2⟩ := hrB k hlt
        unfold maxLen at l2
        have HR2 := Lib.hid hr2
        have HF := Lib.hid (fun (x : Int) (h1 : wk1 (C k) (R k) (an k) (az k) k = x) (h2 : x ≠ 0) => show x = E by rw [← HE.out]; exact ((firE_at (f := fun i => wk1 (C i) (R i) (an i) (az i) i) hlt HK.out (by rw [h1]; exact h2)).trans h1).symm)
        have HS := Lib.hid (fun (h1 : wk1 (C k) (R k) (an k) (az k) k = 0) => show ∀ j, j < k + 1 → wk1 (C j) (R j) (an j) (az j) j = 0 from fun j hj => by
          by_cases e : j = k
          · subst e; exact h1
          · exact HK.out j (by omega))
        clear hkp hrA hrB hc hr2
        generalize C k = Ck at *
        generalize R k = Rk at *
        by_cases hbad : Ck < 1 ∨ 1000000 < Ck ∨ Rk < 0 ∨ 100 < Rk
        · obtain rfl := HF.out 3 (wk1_bad hbad) (by decide)
          by_cases q1 : Ck < 1
          · have g1 : decide (Ck < 1) = true := decide_eq_true q1
            go_wp2_with fail
            go_ret
            exact ⟨rfl, HP.out.alloc _ _⟩
          · have g1 : decide (Ck < 1) = false := decide_eq_false q1
            by_cases q2 : 1000000 < Ck
            · have g2 : decide (1000000 < Ck) = true := decide_eq_true q2
              go_wp2_with fail
              go_ret
              exact ⟨rfl, HP.out.alloc _ _⟩
            · have g2 : decide (1000000 < Ck) = false := decide_eq_false q2
              by_cases q3 : Rk < 0
              · have g3 : decide (Rk < 0) = true := decide_eq_true q3
                go_wp2_with fail
                go_ret
                exact ⟨rfl, HP.out.alloc _ _⟩
              · have g3 : decide (Rk < 0) = false := decide_eq_false q3
                have g4 : decide (100 < Rk) = true := decide_eq_true (by omega)
                go_wp2_with fail
                go_ret
                exact ⟨rfl, HP.out.alloc _ _⟩
        · have g1 : decide (Ck < 1) = false := decide_eq_false (by omega)
          have g2 : decide (1000000 < Ck) = false := decide_eq_false (by omega)
          have g3 : decide (Rk < 0) = false := decide_eq_false (by omega)
          have g4 : decide (100 < Rk) = false := decide_eq_false (by omega)
          by_cases hlong : 20 < an k
          · obtain rfl := HF.out 4 (wk1_long hbad hlong) (by decide)
            have d3 : decide (20 < ((an k : Nat) : Int)) = true := decide_eq_true (by omega)
            go_wp2_with fail
            go_ret
            exact ⟨rfl, HP.out.alloc _ _⟩
          · have d3 : decide (20 < ((an k : Nat) : Int)) = false := decide_eq_false (by omega)
            have HW := Lib.hid (wk1_af (an := an k) (az := az k) (i := (k : Int)) hbad hlong)
            clear hbad
            generalize an k = m at *
            generalize az k = zz at *
            generalize ac k = mc at *
            generalize AA k = B at *
            go_upto_region 6 with fail
            refine of_world (fun W0 hW => ?_)
            have kw : Kept None' wr W0 := by rw [hW]; exact (Kept.refl _ _).alloc _ _
            have b0 : W0.cell? ⟨wr.heap.size, 0, none⟩ = some (.int .i64 Ck) := by rw [hW]; exact cell_alloc_one wr _ _ 0
            have b1 : W0.cell? ⟨wr.heap.size, 1, none⟩ = some (.int .i64 Rk) := by rw [hW]; exact cell_alloc_one wr _ _ 1
            have b2 : W0.cell? ⟨wr.heap.size, 2, none⟩ = some (.slice B m mc) := by rw [hW]; exact cell_alloc_one wr _ _ 2
            have HR3 := Lib.hid (HR2.out.kept kw)
            have HP3 := Lib.hid (HP.out.trans kw)
            clear hW kw c0 c1 c2
            generalize wr.heap.size = Q at *
            go_wp2_with fail
            go_loop [42] (fun s => ∃ j : Nat, j ≤ m ∧ s = .int .i64 (j : Int) ∧ Hid (∀ i, i < j → afE zz k i = 0)) (fun s => (m - intOf s).toNat)
            case atStart => exact ⟨0, Nat.zero_le _, rfl, Lib.hid (fun j hj => absurd hj (by omega))⟩
            case round =>
              obtain ⟨j, hj, rfl, HJ⟩ := hrel
              by_cases hlt2 : j < m
              · have d4 : decide ((j : Int) < (m : Int)) = true := decide_eq_true (by omega)
                obtain ⟨b', o', rfl, hc'⟩ := HR3.out (by omega)
                have j1 : (j : Int) ≤ (mc : Int) := by omega
                have HFa := Lib.hid (fun (x : Int) (h1 : afE zz k j = x) (h2 : x ≠ 0) => show x = E from HF.out x (by rw [HW.out]; exact (firE_at hlt2 HJ.out (by rw [h1]; exact h2)).trans h1) h2)
                have HJS := Lib.hid (fun (h1 : afE zz k j = 0) => show ∀ i, i < j + 1 → afE zz k i = 0 from fun i hi => by
                  by_cases e : i = j
                  · subst e; exact h1
                  · exact HJ.out i (by omega))
                have HC4 := Lib.hid hc'
                clear hc'
                obtain ⟨x, hx⟩ : ∃ x, zz j = x := ⟨_, rfl⟩
                have e0 : W0.cell? ⟨b', o' + j, none⟩ = some (.int .i64 x) := by rw [← hx]; exact HC4.out j hlt2
                have HX := Lib.hid hx
                clear hx
                by_cases hout : x < 0 ∨ (k : Int) ≤ x
                · obtain rfl := HFa.out 11 (by unfold afE; rw [HX.out]; exact if_pos hout) (by decide)
                  by_cases q5 : x < 0
                  · have g5 : decide (x < 0) = true := decide_eq_true q5
                    clear hout
                    go_wp2_with fail
                    go_ret
                    exact ⟨rfl, HP3.out⟩
                  · have g5 : decide (x < 0) = false := decide_eq_false q5
                    have g6 : decide ((k : Int) ≤ x) = true := decide_eq_true (by omega)
                    clear hout
                    go_wp2_with fail
                    go_ret
                    exact ⟨rfl, HP3.out⟩
                · have hd : ∃ c, ctB zz j x = c := ⟨_, rfl⟩
                  obtain ⟨c, hd⟩ := hd
                  have HD := Lib.hid hd
                  have hR5 : Rd W0 (some ⟨b', o', none⟩) j (fun i => .int .i64 (zz i)) := fun _ => ⟨b', o', rfl, fun i hi => HC4.out i (by omega)⟩
                  have HR5 := Lib.hid hR5
                  clear hd hR5
                  have g5 : decide (x < 0) = false := decide_eq_false (by omega)
                  have g6 : decide ((k : Int) ≤ x) = false := decide_eq_false (by omega)
                  cases c with
                  | true =>
                    obtain rfl := HFa.out 7 (by unfold afE; rw [HX.out, if_neg hout, if_pos HD.out]) (by decide)
                    clear hout
                    go_wp2_with (first | (go_at_call 42; refine (contains_int _ j mc zz x true _ (by omega) HR5.out HD.out).mono ?_; rintro e w' ⟨rfl, rfl⟩) | fail)
                    go_ret
                    exact ⟨rfl, HP3.out⟩
                  | false =>
                    have HZ := Lib.hid (HJS.out (by unfold afE; rw [HX.out, if_neg hout, if_neg (by rw [HD.out]; decide)]))
                    clear hout
                    go_wp2_with (first | (go_at_call 42; refine (contains_int _ j mc zz x false _ (by omega) HR5.out HD.out).mono ?_; rintro e w' ⟨rfl, rfl⟩) | fail)
                    go_round
                    case rel => exact ⟨j + 1, by omega, by go_num, HZ⟩
                    case measure => simp [intOf]; omega
              · obtain rfl : j = m := by omega
                have d4 : decide ((j : Int) < (j : Int)) = false := by simp
                go_wp2_with fail
                go_roundw
                case rel => exact ⟨k + 1, by omega, by go_num, Lib.hid (HS.out (by rw [HW.out]; exact firE_zero HJ.out)), HP3.out⟩
                case measure => simp [intOf]; omega
      · obtain rfl : k = n := by omega
        have d2 : decide ((k : Int) < (k : Int)) = false := by simp
        have HX := Lib.hid (show 0 = E by rw [← HE.out]; exact (firE_zero HK.out).symm)
        go_wp2_with fail
        go_ret
        exact ⟨by rw [← HX.out]; rfl, HP.out⟩

set_option linter.unusedSimpArgs false in
set_option linter.unusedVariables false in
set_option maxHeartbeats 4000000 in
set_option maxRecDepth 100000 in
theorem workerror_any (A : Option Addr) (n cap : Nat) (C R : Nat → Int) (AA : Nat → Option Addr) (an ac : Nat → Nat) (az : Nat → Nat → Int) (w : World) (hn : n ≤ cap) (hcap : cap ≤ 9223372036854775807) (hr : WkR w A n C R AA an ac az) :
    Calls Try.prog 15 #[.slice A n cap] w fun e w' => e = .returned (.int .i64 (wkE n C R an az)) ∧ Kept None' w w' := by
  have HR := Lib.hid hr
  clear hr
  by_cases h2 : 2000 < n
  · have hE : wkE n C R an az = 4 := if_pos h2
    rw [hE]
    clear hE
    have d1 : decide (2000 < (n : Int)) = true := decide_eq_true (by omega)
    go_enter Try.func15, Try.ntmps15
    go_wp2_with fail
    go_ret
    exact ⟨rfl, Kept.refl _ _⟩
  · have hE : wkE n C R an az = firE (fun i => wk1 (C i) (R i) (an i) (az i) i) n := if_neg h2
    rw [hE]
    obtain ⟨E, hE2⟩ : ∃ E, firE (fun i => wk1 (C i) (R i) (an i) (az i) i) n = E := ⟨_, rfl⟩
    rw [hE2]
    have HE := Lib.hid hE2
    clear hE hE2
    have d1 : decide (2000 < (n : Int)) = false := decide_eq_false (by omega)
    go_enter Try.func15, Try.ntmps15
    go_wp2_with fail
    go_loopw [12] (fun s12 wr => ∃ k : Nat, k ≤ n ∧ s12 = .int .i64 (k : Int) ∧ Hid (∀ j, j < k → wk1 (C j) (R j) (an j) (az j) j = 0) ∧ Kept None' w wr) (fun s12 _ => (n - intOf s12).toNat)
    case atStart => exact ⟨0, Nat.zero_le _, rfl, Lib.hid (fun j hj => absurd hj (by omega)), Kept.refl _ _⟩
    case round =>
      obtain ⟨k, hk, rfl, HK, hkp⟩ := hrel
      have HP := Lib.hid hkp
      by_cases hlt : k < n
      · have d2 : decide ((k : Int) < (n : Int)) = true := decide_eq_true (by omega)
        obtain ⟨hrA, hrB⟩ := HR.out.kept hkp
        obtain ⟨b, o, rfl, hc⟩ := hrA (by omega)
        obtain ⟨c0, c1, c2⟩ := hc k hlt
        obtain ⟨l1, l2, hr2⟩ := hrB k hlt
        unfold maxLen at l2
        have HR2 := Lib.hid hr2
        have HF := Lib.hid (fun (x : Int) (h1 : wk1 (C k) (R k) (an k) (az k) k = x) (h2 : x ≠ 0) => show x = E by rw [← HE.out]; exact ((firE_at (f := fun i => wk1 (C i) (R i) (an i) (az i) i) hlt HK.out (by rw [h1]; exact h2)).trans h1).symm)
        have HS := Lib.hid (fun (h1 : wk1 (C k) (R k) (an k) (az k) k = 0) => show ∀ j, j < k + 1 → wk1 (C j) (R j) (an j) (az j) j = 0 from fun j hj => by
          by_cases e : j = k
          · subst e; exact h1
          · exact HK.out j (by omega))
        clear hkp hrA hrB hc hr2
        generalize C k = Ck at *
        generalize R k = Rk at *
        by_cases hbad : Ck < 1 ∨ 1000000 < Ck ∨ Rk < 0 ∨ 100 < Rk
        · obtain rfl := HF.out 3 (wk1_bad hbad) (by decide)
          by_cases q1 : Ck < 1
          · have g1 : decide (Ck < 1) = true := decide_eq_true q1
            have i1 : inB Ck 1 1000000 = false := by unfold inB; simp; omega
            go_wp2_with (go_at_call 18; refine (in_one _ _ _ _).mono ?_; rintro e w' ⟨rfl, rfl⟩)
            go_ret
            exact ⟨rfl, HP.out.alloc _ _⟩
          · have g1 : decide (Ck < 1) = false := decide_eq_false q1
            by_cases q2 : 1000000 < Ck
            · have g2 : decide (1000000 < Ck) = true := decide_eq_true q2
              have i1 : inB Ck 1 1000000 = false := by unfold inB; simp; omega
              go_wp2_with (go_at_call 18; refine (in_one _ _ _ _).mono ?_; rintro e w' ⟨rfl, rfl⟩)
              go_ret
              exact ⟨rfl, HP.out.alloc _ _⟩
            · have g2 : decide (1000000 < Ck) = false := decide_eq_false q2
              by_cases q3 : Rk < 0
              · have g3 : decide (Rk < 0) = true := decide_eq_true q3
                have i1 : inB Ck 1 1000000 = true := by unfold inB; simp; omega
                have i2 : inB Rk 0 100 = false := by unfold inB; simp; omega
                go_wp2_with (go_at_call 18; refine (in_one _ _ _ _).mono ?_; rintro e w' ⟨rfl, rfl⟩)
                go_ret
                exact ⟨rfl, HP.out.alloc _ _⟩
              · have g3 : decide (Rk < 0) = false := decide_eq_false q3
                have g4 : decide (100 < Rk) = true := decide_eq_true (by omega)
                have i1 : inB Ck 1 1000000 = true := by unfold inB; simp; omega
                have i2 : inB Rk 0 100 = false := by unfold inB; simp; omega
                go_wp2_with (go_at_call 18; refine (in_one _ _ _ _).mono ?_; rintro e w' ⟨rfl, rfl⟩)
                go_ret
                exact ⟨rfl, HP.out.alloc _ _⟩
        · have g1 : decide (Ck < 1) = false := decide_eq_false (by omega)
          have g2 : decide (1000000 < Ck) = false := decide_eq_false (by omega)
          have g3 : decide (Rk < 0) = false := decide_eq_false (by omega)
          have g4 : decide (100 < Rk) = false := decide_eq_false (by omega)
          have i1 : inB Ck 1 1000000 = true := by unfold inB; simp; omega
          have i2 : inB Rk 0 100 = true := by unfold inB; simp; omega
          by_cases hlong : 20 < an k
          · obtain rfl := HF.out 4 (wk1_long hbad hlong) (by decide)
            have d3 : decide (20 < ((an k : Nat) : Int)) = true := decide_eq_true (by omega)
            go_wp2_with (go_at_call 18; refine (in_one _ _ _ _).mono ?_; rintro e w' ⟨rfl, rfl⟩)
            go_ret
            exact ⟨rfl, HP.out.alloc _ _⟩
          · have d3 : decide (20 < ((an k : Nat) : Int)) = false := decide_eq_false (by omega)
            have HW := Lib.hid (wk1_af (an := an k) (az := az k) (i := (k : Int)) hbad hlong)
            clear hbad
            generalize an k = m at *
            generalize az k = zz at *
            generalize ac k = mc at *
            generalize AA k = B at *
            go_upto_region 6 with fail
            refine of_world (fun W0 hW => ?_)
            have kw : Kept None' wr W0 := by rw [hW]; exact (Kept.refl _ _).alloc _ _
            have b0 : W0.cell? ⟨wr.heap.size, 0, none⟩ = some (.int .i64 Ck) := by rw [hW]; exact cell_alloc_one wr _ _ 0
            have b1 : W0.cell? ⟨wr.heap.size, 1, none⟩ = some (.int .i64 Rk) := by rw [hW]; exact cell_alloc_one wr _ _ 1
            have b2 : W0.cell? ⟨wr.heap.size, 2, none⟩ = some (.slice B m mc) := by rw [hW]; exact cell_alloc_one wr _ _ 2
            have HR3 := Lib.hid (HR2.out.kept kw)
            have HP3 := Lib.hid (HP.out.trans kw)
            clear hW kw c0 c1 c2
            generalize wr.heap.size = Q at *
            go_wp2_with (go_at_call 18; refine (in_one _ _ _ _).mono ?_; rintro e w' ⟨rfl, rfl⟩)
            go_loop [34] (fun s => ∃ j : Nat, j ≤ m ∧ s = .int .i64 (j : Int) ∧ Hid (∀ i, i < j → afE zz k i = 0)) (fun s => (m - intOf s).toNat)
            case atStart => exact ⟨0, Nat.zero_le _, rfl, Lib.hid (fun j hj => absurd hj (by omega))⟩
            case round =>
              obtain ⟨j, hj, rfl, HJ⟩ := hrel
              by_cases hlt2 : j < m
              · have d4 : decide ((j : Int) < (m : Int)) = true := decide_eq_true (by omega)
                obtain ⟨b', o', rfl, hc'⟩ := HR3.out (by omega)
                have j1 : (j : Int) ≤ (mc : Int) := by omega
                have HFa := Lib.hid (fun (x : Int) (h1 : afE zz k j = x) (h2 : x ≠ 0) => show x = E from HF.out x (by rw [HW.out]; exact (firE_at hlt2 HJ.out (by rw [h1]; exact h2)).trans h1) h2)
                have HJS := Lib.hid (fun (h1 : afE zz k j = 0) => show ∀ i, i < j + 1 → afE zz k i = 0 from fun i hi => by
                  by_cases e : i = j
                  · subst e; exact h1
                  · exact HJ.out i (by omega))
                have HC4 := Lib.hid hc'
                clear hc'
                obtain ⟨x, hx⟩ : ∃ x, zz j = x := ⟨_, rfl⟩
                have e0 : W0.cell? ⟨b', o' + j, none⟩ = some (.int .i64 x) := by rw [← hx]; exact HC4.out j hlt2
                have HX := Lib.hid hx
                clear hx
                by_cases hout : x < 0 ∨ (k : Int) ≤ x
                · obtain rfl := HFa.out 11 (by unfold afE; rw [HX.out]; exact if_pos hout) (by decide)
                  have i3 : inB x 0 ((k : Int) - 1) = false := by unfold inB; simp; omega
                  clear hout
                  go_wp2_with (go_at_call 18; refine (in_one _ _ _ _).mono ?_; rintro e w' ⟨rfl, rfl⟩)
                  go_ret
                  exact ⟨rfl, HP3.out⟩
                · have hd : ∃ c, ctB zz j x = c := ⟨_, rfl⟩
                  obtain ⟨c, hd⟩ := hd
                  have HD := Lib.hid hd
                  have hR5 : Rd W0 (some ⟨b', o', none⟩) j (fun i => .int .i64 (zz i)) := fun _ => ⟨b', o', rfl, fun i hi => HC4.out i (by omega)⟩
                  have HR5 := Lib.hid hR5
                  clear hd hR5
                  have i3 : inB x 0 ((k : Int) - 1) = true := by unfold inB; simp; omega
                  cases c with
                  | true =>
                    obtain rfl := HFa.out 7 (by unfold afE; rw [HX.out, if_neg hout, if_pos HD.out]) (by decide)
                    clear hout
                    go_wp2_with (first | (go_at_call 42; refine (contains_int _ j mc zz x true _ (by omega) HR5.out HD.out).mono ?_; rintro e w' ⟨rfl, rfl⟩) | (go_at_call 18; refine (in_one _ _ _ _).mono ?_; rintro e w' ⟨rfl, rfl⟩))
                    go_ret
                    exact ⟨rfl, HP3.out⟩
                  | false =>
                    have HZ := Lib.hid (HJS.out (by unfold afE; rw [HX.out, if_neg hout, if_neg (by rw [HD.out]; decide)]))
                    clear hout
                    go_wp2_with (first | (go_at_call 42; refine (contains_int _ j mc zz x false _ (by omega) HR5.out HD.out).mono ?_; rintro e w' ⟨rfl, rfl⟩) | (go_at_call 18; refine (in_one _ _ _ _).mono ?_; rintro e w' ⟨rfl, rfl⟩))
                    go_round
                    case rel => exact ⟨j + 1, by omega, by go_num, HZ⟩
                    case measure => simp [intOf]; omega
              · obtain rfl : j = m := by omega
                have d4 : decide ((j : Int) < (j : Int)) = false := by simp
                go_wp2_with fail
                go_roundw
                case rel => exact ⟨k + 1, by omega, by go_num, Lib.hid (HS.out (by rw [HW.out]; exact firE_zero HJ.out)), HP3.out⟩
                case measure => simp [intOf]; omega
      · obtain rfl : k = n := by omega
        have d2 : decide ((k : Int) < (k : Int)) = false := by simp
        have HX := Lib.hid (show 0 = E by rw [← HE.out]; exact (firE_zero HK.out).symm)
        go_wp2_with fail
        go_ret
        exact ⟨by rw [← HX.out]; rfl, HP.out⟩
end Go.Proofs.Ytflmfjimemhooaa
