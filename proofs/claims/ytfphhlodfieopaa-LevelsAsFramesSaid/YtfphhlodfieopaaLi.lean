/- The walk of LevelsAsFrames: regions, depths and lengths that are right. Conditions: none. -/
import Derived.Test.YtfphhlodfieopaaLg
namespace Go.Proofs.Ytfphhlodfieopaa
open Go.RowKit
open Fl
open BigFrame

theorem okTo_at {z : Nat → Int} {M : Int} {n j : Nat} (h : okTo z M n = true) (hj : j < n) : 0 ≤ z j ∧ z j ≤ M := by
  induction n with
  | zero => omega
  | succ n ih =>
    simp only [okTo, Bool.and_eq_true] at h
    by_cases e : j = n
    · subst e; exact inB_iff.1 h.2
    · exact ih h.1 (by omega)
def okE (z : Nat → Int) (M : Int) (k : Nat) : Int := if okTo z M k = true then 0 else 3
theorem okE_step (z : Nat → Int) (M : Int) (k : Nat) : (if okE z M k ≠ 0 then okE z M k else if (!inB (z k) 0 M) = true then 3 else 0) = okE z M (k + 1) := by
  unfold okE
  cases h : okTo z M k <;> cases h2 : inB (z k) 0 M <;> simp [okTo, h, h2]

set_option linter.unusedSimpArgs false in
set_option linter.unusedVariables false in
set_option maxHeartbeats 4000000 in
theorem laf_go (x y W H d M : Int) (b o n cap : Nat) (z : Nat → Int) (w : World) (hE : regE x y W H = 0) (h1 : 1 ≤ d) (h2 : d ≤ 16) (hM : wrap64 (wrap64 (2 ^ d.toNat) - 1) = M) (h3 : 1 ≤ M) (h4 : M ≤ 65535)
    (hn : (n : Int) = 4 * W * H) (hc : ∀ i, i < n → w.cell? ⟨b, o + i, none⟩ = some (.int .i64 (z i))) (hcap : n ≤ cap) :
    Calls Try.prog 3 #[.agg #[.int .i64 x, .int .i64 y, .int .i64 W, .int .i64 H], .slice (some ⟨b, o, none⟩) n cap, .int .i64 d] w fun e w' => e = .returned (.bool true) ∧ Kept None' w w' := by
  have i1 := inB_yes h1 h2
  have HM := Lib.hid hM
  obtain ⟨w1', w2', w3', w4', w5'⟩ := regE_ok hE
  have w6 := (mul_bd w1' w2' w3' w4').1
  have w7 : 4 * W * H = 4 * (W * H) := Int.mul_assoc ..
  have hw : IntKind.i64.wrap (4 * W * H) = 4 * W * H := IntWalk.i64_in _ (by omega)
  have hn4 : n ≤ 65536 := by omega
  clear w7
  have ht : ((n : Int) != 4 * W * H) = false := by simp [hn]
  have HC := Lib.hid hc
  have HF : ∀ w1, Kept None' w w1 → Calls Try.prog 11 #[.agg #[.int .i64 x, .int .i64 y, .int .i64 W, .int .i64 H], .slice (some ⟨b, o, none⟩) n cap, .int .i64 d] w1 (FrPost x y W H n z M w1) :=
    fun w1 hk => frame_go x y W H d M b o n cap z w1 hE h1 h2 hM h3 h4 hn (fun i hi => hk.some (hc i hi) id) hcap
  have HF := Lib.hid HF
  have HE := Lib.hid hE
  clear hM hn hc hE
  go_enter Try.func3, Try.ntmps3
  go_wp2_with (first | fail)
  refine (HF.out _ ((Kept.refl _ _).alloc _ _)).mono ?_
  rintro e w1 ⟨hk1, hp⟩
  have r0 := hk1.some (cell_alloc_one w _ _ 0) id
  have r1 := hk1.some (cell_alloc_one w _ _ 1) id
  have r2 := hk1.some (cell_alloc_one w _ _ 2) id
  have r3 := hk1.some (cell_alloc_one w _ _ 3) id
  have l0 := cell_lt r0
  have l1 : w.heap.size < w1.heap.size + 1 := Nat.lt_succ_of_lt l0
  have KF := Lib.hid (((Kept.refl None' w).alloc _ _).trans hk1)
  have HS := Lib.hid hk1.size
  clear hk1
  have hfin : ∀ (v : Value) (q : Nat → Prop), True := fun _ _ => trivial
  rcases hp with ⟨hok, B, hB, rfl, hcells⟩ | ⟨hno, rfl⟩
  · have HOK := Lib.hid hok
    have HCE := Lib.hid hcells
    have KZ0 := Lib.hid (Kept.refl None' w1)
    clear hok hcells hfin
    go_wp2_with (first
      | (go_at_call 13; refine (regionerror_any _ _ _ _ _).mono ?_; rw [HE.out]; rintro e w2 ⟨rfl, hk2⟩
         have hkx := Kept.trans ((Kept.refl None' w1).alloc _ _) hk2
         have q0 := hkx.some r0 id
         have q1 := hkx.some r1 id
         have q2 := hkx.some r2 id
         have q3 := hkx.some r3 id
         have l3 := cell_lt q0
         have p0 := hk2.some (cell_alloc_one w1 _ _ 0) id
         have p1 := hk2.some (cell_alloc_one w1 _ _ 1) id
         have p2 := hk2.some (cell_alloc_one w1 _ _ 2) id
         have p3 := hk2.some (cell_alloc_one w1 _ _ 3) id
         have p4 := hk2.some (cell_alloc_one w1 _ _ 4) id
         have l4 := cell_lt p0
         have KR := Lib.hid (KF.out.trans hkx)
         have KZ := Lib.hid hkx
         clear hk2 hkx r0 r1 r2 r3 l0 l1)
      | (go_at_call 15; refine (in_one _ _ _ _).mono ?_; rintro e w' ⟨rfl, rfl⟩)
      | (go_at_call 14; refine (when_any _ _ _).mono ?_; rintro e w' ⟨rfl, rfl⟩)
      | fail)
    refine (first2_any _ _ 0 0 _ (by go_simp) (by go_simp)).mono ?_
    rintro e w' ⟨rfl, rfl⟩
    have l5 : w.heap.size < w2.heap.size + 1 := Nat.lt_succ_of_lt l3
    have l6 : w1.heap.size < w2.heap.size + 1 := Nat.lt_succ_of_lt l4
    go_wp2_with (first
      | (go_at_call 14; refine (when_any _ _ _).mono ?_; rintro e w' ⟨rfl, rfl⟩)
      | fail)
    refine (first2_any _ _ 0 0 _ (by go_simp) (by go_simp)).mono ?_
    rintro e w' ⟨rfl, rfl⟩
    go_wp2
    go_loopw [9, 46] (fun wn i wr => ∃ k : Nat, k ≤ n ∧ i = .int .i64 k ∧ wn = .int .i64 (okE z M k) ∧ Kept None' w2 wr) (fun _ i _ => n - (intOf i).toNat)
    case atStart => exact ⟨0, Nat.zero_le _, rfl, rfl, ((Kept.refl _ _).alloc _ _).alloc _ _⟩
    case round =>
      obtain ⟨k, hk, rfl, rfl, hkw⟩ := hrel
      have HKW := Lib.hid hkw
      by_cases hlt : k < n
      · have hcc := HKW.out.some (KR.out.some (HC.out k hlt) id) id
        clear hkw
        have hM := HM.out
        cases bb : inB (z k) 0 M with
        | false =>
          have hs : (if okE z M k ≠ 0 then okE z M k else 3) = okE z M (k + 1) := by simpa [bb] using okE_step z M k
          have HSt := Lib.hid hs
          clear hs
          go_wp2_with (first
            | (go_at_call 15; refine (in_one _ _ _ _).mono ?_; rintro e w' ⟨rfl, rfl⟩)
            | (go_at_call 14; refine (when_any _ _ _).mono ?_; rintro e w' ⟨rfl, rfl⟩)
            | fail)
          refine (first2_any _ _ (okE z M k) 3 _ (by go_simp) (by go_simp)).mono ?_
          rw [HSt.out]
          rintro e w' ⟨rfl, rfl⟩
          go_wp2
          go_roundw
          case rel => exact ⟨k + 1, by omega, by go_num, rfl, HKW.out.alloc _ _⟩
          case measure => simp [intOf]; omega
        | true =>
          have hs : (if okE z M k ≠ 0 then okE z M k else 0) = okE z M (k + 1) := by simpa [bb] using okE_step z M k
          have HSt := Lib.hid hs
          clear hs
          go_wp2_with (first
            | (go_at_call 15; refine (in_one _ _ _ _).mono ?_; rintro e w' ⟨rfl, rfl⟩)
            | (go_at_call 14; refine (when_any _ _ _).mono ?_; rintro e w' ⟨rfl, rfl⟩)
            | fail)
          refine (first2_any _ _ (okE z M k) 0 _ (by go_simp) (by go_simp)).mono ?_
          rw [HSt.out]
          rintro e w' ⟨rfl, rfl⟩
          go_wp2
          go_roundw
          case rel => exact ⟨k + 1, by omega, by go_num, rfl, HKW.out.alloc _ _⟩
          case measure => simp [intOf]; omega
      · obtain rfl : k = n := by omega
        have p0' := hkw.some p0 id
        have p1' := hkw.some p1 id
        have p2' := hkw.some p2 id
        have p3' := hkw.some p3 id
        have p4' := hkw.some p4 id
        have q0' := hkw.some q0 id
        have q1' := hkw.some q1 id
        have q2' := hkw.some q2 id
        have q3' := hkw.some q3 id
        clear hkw p0 p1 p2 p3 p4 q0 q1 q2 q3 l3 l4 l5 l6
        have ho : okE z M k = 0 := by unfold okE; rw [HOK.out]; rfl
        go_wp2_with (first
          | (go_at_call 16; refine (finishes_one _).mono ?_; rintro e w' ⟨rfl, n, rfl⟩)
          | fail)
        have KW := Lib.hid ((KR.out.trans HKW.out).drew n)
        have P4 := Lib.hid p4'
        clear p0' p1' p2' p3' p4' q0' q1' q2' q3'
        go_loopw [12, 95] (fun v i wx => ∃ j : Nat, j ≤ k ∧ i = .int .i64 j ∧ v = .bool true ∧ Kept None' wr wx) (fun _ i _ => k - (intOf i).toNat)
        case atStart => exact ⟨0, Nat.zero_le _, rfl, rfl, (Kept.refl _ _).drew _⟩
        case round =>
          obtain ⟨j, hj, rfl, rfl, hkx⟩ := hrel
          by_cases hjt : j < k
          · have hok := okTo_at HOK.out hjt
            have v4 := hkx.some P4.out id
            have hB1 := hkx.some (HKW.out.some (KZ.out.some (HCE.out j hjt) id) id) id
            have hL1 := hkx.some (HKW.out.some (KR.out.some (HC.out j hjt) id) id) id
            have j1 : (0 : Int) ≤ (j : Int) := by omega
            have j2 : (j : Int) < (k : Int) := by omega
            go_wp2
            have E4 := ext_cell v4
            have EB := ext_cell hB1
            have EL := ext_cell hL1
            have HX := Lib.hid hkx
            clear v4 hB1 hL1 hkx
            refine region_ext (by kernel_rfl) (by kernel_rfl) ?_
            repeat (first
              | go_big_quiet_skip
              | (go_big_quiet_want; go_big_quiet_op; first | go_big_quiet_on | go_big_quiet_call (first
                | (go_at_call 19; exact calls_ext_same (valueof_any _ _ M _ h1 h2 HM.out h3 h4 hok.1 hok.2))
                | (go_at_call 18; exact calls_ext_same (same_any _ _ _)))))
            refine wpQuiet_nil ?_
            rintro _ ⟨xq, rfl⟩
            have HY := Lib.hid (HX.out.trans (ext_kept _ xq))
            generalize ext _ xq = w6 at *
            go_wp2
            go_roundw
            case rel => exact ⟨j + 1, by omega, by go_num, rfl, HY.out⟩
            case measure => simp [intOf]; omega
          · obtain rfl : j = k := by omega
            have HX := Lib.hid hkx
            clear hkx
            go_wp2
            go_ret
            exact ⟨rfl, (KR.out.trans HKW.out).trans HX.out⟩
  · have HNO := Lib.hid hno
    clear hno hfin
    unfold zeroFrame
    go_wp2_with (first
      | (go_at_call 13; refine (regionerror_any _ _ _ _ _).mono ?_; rw [HE.out]; rintro e w2 ⟨rfl, hk2⟩
         have hkx := Kept.trans ((Kept.refl None' w1).alloc _ _) hk2
         have q0 := hkx.some r0 id
         have q1 := hkx.some r1 id
         have q2 := hkx.some r2 id
         have q3 := hkx.some r3 id
         have l3 := cell_lt q0
         have p0 := hk2.some (cell_alloc_one w1 _ _ 0) id
         have p1 := hk2.some (cell_alloc_one w1 _ _ 1) id
         have p2 := hk2.some (cell_alloc_one w1 _ _ 2) id
         have p3 := hk2.some (cell_alloc_one w1 _ _ 3) id
         have p4 := hk2.some (cell_alloc_one w1 _ _ 4) id
         have l4 := cell_lt p0
         have KR := Lib.hid (KF.out.trans hkx)
         clear hk2 hkx r0 r1 r2 r3 l0 l1)
      | (go_at_call 15; refine (in_one _ _ _ _).mono ?_; rintro e w' ⟨rfl, rfl⟩)
      | (go_at_call 14; refine (when_any _ _ _).mono ?_; rintro e w' ⟨rfl, rfl⟩)
      | fail)
    refine (first2_any _ _ 0 0 _ (by go_simp) (by go_simp)).mono ?_
    rintro e w' ⟨rfl, rfl⟩
    have l5 : w.heap.size < w2.heap.size + 1 := Nat.lt_succ_of_lt l3
    have l6 : w1.heap.size < w2.heap.size + 1 := Nat.lt_succ_of_lt l4
    go_wp2_with (first
      | (go_at_call 14; refine (when_any _ _ _).mono ?_; rintro e w' ⟨rfl, rfl⟩)
      | fail)
    refine (first2_any _ _ 0 0 _ (by go_simp) (by go_simp)).mono ?_
    rintro e w' ⟨rfl, rfl⟩
    go_wp2
    go_loopw [9, 46] (fun wn i wr => ∃ k : Nat, k ≤ n ∧ i = .int .i64 k ∧ wn = .int .i64 (okE z M k) ∧ Kept None' w2 wr) (fun _ i _ => n - (intOf i).toNat)
    case atStart => exact ⟨0, Nat.zero_le _, rfl, rfl, ((Kept.refl _ _).alloc _ _).alloc _ _⟩
    case round =>
      obtain ⟨k, hk, rfl, rfl, hkw⟩ := hrel
      have HKW := Lib.hid hkw
      by_cases hlt : k < n
      · have hcc := HKW.out.some (KR.out.some (HC.out k hlt) id) id
        clear hkw
        have hM := HM.out
        cases bb : inB (z k) 0 M with
        | false =>
          have hs : (if okE z M k ≠ 0 then okE z M k else 3) = okE z M (k + 1) := by simpa [bb] using okE_step z M k
          have HSt := Lib.hid hs
          clear hs
          go_wp2_with (first
            | (go_at_call 15; refine (in_one _ _ _ _).mono ?_; rintro e w' ⟨rfl, rfl⟩)
            | (go_at_call 14; refine (when_any _ _ _).mono ?_; rintro e w' ⟨rfl, rfl⟩)
            | fail)
          refine (first2_any _ _ (okE z M k) 3 _ (by go_simp) (by go_simp)).mono ?_
          rw [HSt.out]
          rintro e w' ⟨rfl, rfl⟩
          go_wp2
          go_roundw
          case rel => exact ⟨k + 1, by omega, by go_num, rfl, HKW.out.alloc _ _⟩
          case measure => simp [intOf]; omega
        | true =>
          have hs : (if okE z M k ≠ 0 then okE z M k else 0) = okE z M (k + 1) := by simpa [bb] using okE_step z M k
          have HSt := Lib.hid hs
          clear hs
          go_wp2_with (first
            | (go_at_call 15; refine (in_one _ _ _ _).mono ?_; rintro e w' ⟨rfl, rfl⟩)
            | (go_at_call 14; refine (when_any _ _ _).mono ?_; rintro e w' ⟨rfl, rfl⟩)
            | fail)
          refine (first2_any _ _ (okE z M k) 0 _ (by go_simp) (by go_simp)).mono ?_
          rw [HSt.out]
          rintro e w' ⟨rfl, rfl⟩
          go_wp2
          go_roundw
          case rel => exact ⟨k + 1, by omega, by go_num, rfl, HKW.out.alloc _ _⟩
          case measure => simp [intOf]; omega
      · obtain rfl : k = n := by omega
        have p0' := hkw.some p0 id
        have p1' := hkw.some p1 id
        have p2' := hkw.some p2 id
        have p3' := hkw.some p3 id
        have p4' := hkw.some p4 id
        have q0' := hkw.some q0 id
        have q1' := hkw.some q1 id
        have q2' := hkw.some q2 id
        have q3' := hkw.some q3 id
        clear hkw p0 p1 p2 p3 p4 q0 q1 q2 q3 l3 l4 l5 l6
        have ho : okE z M k = 3 := by unfold okE; rw [HNO.out]; rfl
        go_wp2_with (first
          | (go_at_call 16; refine (finishes_one _).mono ?_; rintro e w' ⟨rfl, n, rfl⟩)
          | (go_at_call 17; refine (none_zero _).mono ?_; rintro e w5 ⟨rfl, hk5⟩)
          | fail)
        go_ret
        exact ⟨rfl, ((KR.out.trans HKW.out).drew _).trans hk5⟩
end Go.Proofs.Ytfphhlodfieopaa
