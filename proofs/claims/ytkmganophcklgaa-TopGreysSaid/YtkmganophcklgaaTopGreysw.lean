/- The walk of TopGreys. Conditions: none. -/
import Derived.Test.YtkmganophcklgaaCubesMatchw
import Derived.Laws.StructEq
namespace Go.Proofs.Ytkmganophcklgaa
open Go.RowKit
open Fl Fr
open BigFrame

set_option linter.unusedSimpArgs false in
set_option linter.unusedVariables false in
set_option maxHeartbeats 4000000 in
set_option maxRecDepth 100000 in
theorem bits_g (b : Nat) (w : World) : Calls Try.prog 68 #[.float .f32 b] w fun e w' => e = .returned (.int .u32 (cl .f32 b)) ∧ w = w' := by
  go_enter Try.func68, Try.ntmps68
  go_wp2_with (go_at_call 109; refine (clean_any _ _).mono ?_; rintro e w' ⟨rfl, rfl⟩)
  go_ret
  exact ⟨rfl, rfl⟩
set_option linter.unusedSimpArgs false in
set_option linter.unusedVariables false in
set_option maxHeartbeats 4000000 in
set_option maxRecDepth 100000 in
theorem landed_g (w : World) : Calls Try.prog 66 #[] w fun e w' => e = .returned (.bool true) ∧ w = w' := by
  have h : cl .f32 1065353216 = 1065353216 := by decide +kernel
  go_enter Try.func66, Try.ntmps66
  go_wp2_with (go_at_call 68; refine (bits_g _ _).mono ?_; rw [h]; rintro e w' ⟨rfl, rfl⟩)
  go_ret
  exact ⟨rfl, rfl⟩
/-- Some kind, and nothing turns. -/
def KdIs (w : World) (e : Ending) (w' : World) : Prop := ∃ k : Int, e = .returned (.int .i64 k) ∧ w = w'
set_option linter.unusedSimpArgs false in
set_option linter.unusedVariables false in
set_option maxHeartbeats 4000000 in
set_option maxRecDepth 100000 in
theorem kind_g (b : Nat) (w : World) : Calls Try.prog 67 #[.float .f32 b] w (KdIs w) := by
  cases hn : nan .f32 b with
  | true =>
    have q := order_nan' hn
    go_enter Try.func67, Try.ntmps67
    go_wp2_with fail
    go_ret
    exact ⟨_, rfl, rfl⟩
  | false =>
    have q := order_nn hn
    cases h0 : (FloatKind.f32.format.order b 0 == some .eq) with
    | true =>
      go_enter Try.func67, Try.ntmps67
      go_wp2_with fail
      go_ret
      exact ⟨_, rfl, rfl⟩
    | false =>
      cases hi : infI b with
      | true =>
        go_enter Try.func67, Try.ntmps67
        go_wp2_with (go_at_call 108; refine (infi_any _ _).mono ?_; rw [hi]; rintro e w' ⟨rfl, rfl⟩)
        go_ret
        exact ⟨_, rfl, rfl⟩
      | false =>
        go_enter Try.func67, Try.ntmps67
        go_wp2_with (first
          | (go_at_call 108; refine (infi_any _ _).mono ?_; rw [hi]; rintro e w' ⟨rfl, rfl⟩)
          | (go_at_call 68; refine (bits_g _ _).mono ?_; rintro e w' ⟨rfl, rfl⟩))
        all_goals
          go_ret
          exact ⟨_, rfl, rfl⟩

/-- The singles of a grey cube. -/
def gyG (z : Nat → Nat) (q : Nat) : Nat := z (q / 3)
theorem gyG_c (z : Nat → Nat) (S i j k : Int) (c : Nat) (hc : c < 3) : entE (gyG z) S i j k c = entE (gyG z) S i j k 0 := by
  unfold entE gyG cuK
  congr 1
  generalize i + S * (j + S * k) = m
  omega
theorem gyT (z : Nat → Nat) (S : Int) (lo hi : Nat) (p : Nat → Nat) (c : Nat) (hc : c < 3) : teP (entE (gyG z) S) S lo hi p c = teP (entE (gyG z) S) S lo hi p 0 := by
  unfold teP
  rw [if_neg (show ¬ c = 3 by omega), if_neg (show ¬ (0 : Nat) = 3 by omega)]
  split
  · rfl
  · unfold teR teC
    simp only [gyG_c z S _ _ _ c hc]
theorem gyL (z : Nat → Nat) (S : Int) (lo hi : Nat) (p : Nat → Nat) (c : Nat) (hc : c < 3) : liP (entE (gyG z) S) S lo hi p c = liP (entE (gyG z) S) S lo hi p 0 := by
  unfold liP
  rw [if_neg (show ¬ c = 3 by omega), if_neg (show ¬ (0 : Nat) = 3 by omega)]
  split
  · rfl
  · unfold liV liG liR
    simp only [gyG_c z S _ _ _ c hc]
theorem cuE_grey {S : Nat} (s1 : 2 ≤ S) (s2 : S ≤ 17) : cuE (S : Int) 0 1065353216 (3 * (S * (S * S))) = 0 := by
  unfold cuE
  have h1 : inB (S : Int) 2 17 = true := inB_iff.2 ⟨by omega, by omega⟩
  have h2 : (((3 * (S * (S * S)) : Nat) : Int) == 3 * (S : Int) * S * S) = true := by rw [beq_iff_eq]; exact cub_n
  rw [if_neg (by rw [h1]; decide), if_neg (by rw [h2]; decide), if_neg (by decide +kernel), if_neg (by decide +kernel), if_neg (by decide +kernel), if_neg (by decide +kernel)]

set_option linter.unusedSimpArgs false in
set_option linter.unusedVariables false in
set_option maxHeartbeats 1000000 in
set_option maxRecDepth 100000 in
theorem tg_out (S : Int) (A : Option Addr) (n cap v : Nat) (w : World) (h : S < 2 ∨ 5 < S) :
    Calls Try.prog 10 #[.int .i64 S, .slice A n cap, .float .f32 v] w fun e w' => e = .returned (.bool true) ∧ Kept None' w w' := by
  rcases h with h | h
  · have d1 : decide (S < 2) = true := decide_eq_true h
    go_enter Try.func10, Try.ntmps10
    go_wp2_with (go_at_call 66; refine (landed_g _).mono ?_; rintro e w' ⟨rfl, rfl⟩)
    go_ret
    exact ⟨rfl, Kept.refl _ _⟩
  · have d1 : decide (S < 2) = false := decide_eq_false (by omega)
    have d2 : decide (5 < S) = true := decide_eq_true h
    go_enter Try.func10, Try.ntmps10
    go_wp2_with (go_at_call 66; refine (landed_g _).mono ?_; rintro e w' ⟨rfl, rfl⟩)
    go_ret
    exact ⟨rfl, Kept.refl _ _⟩
set_option linter.unusedSimpArgs false in
set_option linter.unusedVariables false in
set_option maxHeartbeats 1000000 in
set_option maxRecDepth 100000 in
theorem tg_few (S : Nat) (A : Option Addr) (n cap v : Nat) (w : World) (s1 : 2 ≤ S) (s2 : S ≤ 5) (h : n < S * (S * S)) :
    Calls Try.prog 10 #[.int .i64 (S : Int), .slice A n cap, .float .f32 v] w fun e w' => e = .returned (.bool true) ∧ Kept None' w w' := by
  have d1 : decide ((S : Int) < 2) = false := decide_eq_false (by omega)
  have d2 : decide (5 < (S : Int)) = false := decide_eq_false (by omega)
  have e3 : (S : Int) * (S : Int) * (S : Int) = ((S * (S * S) : Nat) : Int) := by simp [Int.mul_assoc]
  have b1 : 0 ≤ (S : Int) * (S : Int) := Int.mul_nonneg (by omega) (by omega)
  have b2 : (S : Int) * (S : Int) ≤ 25 := Int.le_trans (Int.mul_le_mul_of_nonneg_left (show (S : Int) ≤ 5 by omega) (by omega)) (by omega)
  have b3 : 0 ≤ (S : Int) * (S : Int) * (S : Int) := Int.mul_nonneg b1 (by omega)
  have b4 : (S : Int) * (S : Int) * (S : Int) ≤ 125 := Int.le_trans (Int.mul_le_mul_of_nonneg_left (show (S : Int) ≤ 5 by omega) b1) (by omega)
  have d3 : decide ((n : Int) < (S : Int) * (S : Int) * (S : Int)) = true := decide_eq_true (by rw [e3]; omega)
  clear e3
  go_enter Try.func10, Try.ntmps10
  go_wp2_with (go_at_call 66; refine (landed_g _).mono ?_; rintro e w' ⟨rfl, rfl⟩)
  go_ret
  exact ⟨rfl, Kept.refl _ _⟩

set_option linter.unusedSimpArgs false in
set_option linter.unusedVariables false in
set_option maxHeartbeats 2000000 in
set_option maxRecDepth 100000 in
theorem tg_ok (S : Nat) (b o n cap v : Nat) (z : Nat → Nat) (w : World) (s1 : 2 ≤ S) (s2 : S ≤ 5) (h : S * (S * S) ≤ n) (hc : ∀ q, q < n → w.cell? ⟨b, o + q, none⟩ = some (.float .f32 (z q))) (hcap : n ≤ cap) :
    Calls Try.prog 10 #[.int .i64 (S : Int), .slice (some ⟨b, o, none⟩) n cap, .float .f32 v] w fun e w' => e = .returned (.bool true) ∧ Kept None' w w' := by
  have d1 : decide ((S : Int) < 2) = false := decide_eq_false (by omega)
  have d2 : decide (5 < (S : Int)) = false := decide_eq_false (by omega)
  have e3 : (S : Int) * (S : Int) * (S : Int) = ((S * (S * S) : Nat) : Int) := by simp [Int.mul_assoc]
  have b1 : 0 ≤ (S : Int) * (S : Int) := Int.mul_nonneg (by omega) (by omega)
  have b2 : (S : Int) * (S : Int) ≤ 25 := Int.le_trans (Int.mul_le_mul_of_nonneg_left (show (S : Int) ≤ 5 by omega) (by omega)) (by omega)
  have b3 : 0 ≤ (S : Int) * (S : Int) * (S : Int) := Int.mul_nonneg b1 (by omega)
  have b4 : (S : Int) * (S : Int) * (S : Int) ≤ 125 := Int.le_trans (Int.mul_le_mul_of_nonneg_left (show (S : Int) ≤ 5 by omega) b1) (by omega)
  have d3 : decide ((n : Int) < (S : Int) * (S : Int) * (S : Int)) = false := decide_eq_false (by rw [e3]; omega)
  have b5 : (S : Int) * (S : Int) * (S : Int) ≤ (cap : Int) := by rw [e3]; omega
  have m4 : S * (S * S) ≤ 125 := by omega
  have HE3 := Lib.hid e3
  have HC := Lib.hid hc
  obtain ⟨N, hN⟩ : ∃ N, S * (S * S) = N := ⟨_, rfl⟩
  have HN := Lib.hid hN
  rw [hN] at h m4
  have hNp : 0 < N := by rw [← hN]; exact Nat.mul_pos (by omega) (Nat.mul_pos (by omega) (by omega))
  clear e3 hc hN
  go_enter Try.func10, Try.ntmps10
  go_upto_region 6 with (go_at_call 66; refine (landed_g _).mono ?_; rintro e w' ⟨rfl, rfl⟩)
  refine of_world (fun W0 hW => ?_)
  have hS0 : CbS w w.heap.size S 0 1065353216 (.slice none 0 0) (3 * 0) (gyG z) W0 := by
    rw [hW]
    exact ⟨(Kept.refl _ _).alloc _ _, Nat.le_refl _, by simp, cell_alloc_one w _ _ 0, cell_alloc_one w _ _ 1, cell_alloc_one w _ _ 2, cell_alloc_one w _ _ 3, fun a ha => (frozen?_alloc_cells _ _ _ _).trans (frozen_new _ _ ha), World.ownsRow_nil _ _ _ _⟩
  have HS0 := Lib.hid hS0
  generalize hF : w.heap.size = Fb at *
  have HF := Lib.hid hF
  clear hW hS0 hF
  go_wp2_with fail
  rw [HE3.out, show S * S * S = S * (S * S) from Nat.mul_assoc .., HN.out]
  clear b1 b2 b3 b4 b5 d3
  go_loopw [42] (fun s42 wr => ∃ (m : Nat) (vv : Value), m ≤ N ∧ s42 = .int .i64 (m : Int) ∧ CbS w Fb S 0 1065353216 vv (3 * m) (gyG z) wr) (fun s42 _ => (N - intOf s42).toNat)
  case atStart => exact ⟨0, _, by omega, rfl, HS0.out⟩
  case round =>
    obtain ⟨m, vv, hm, rfl, hS⟩ := hrel
    have HS := Lib.hid hS
    by_cases hlt : m < N
    · have d3 : decide ((m : Int) < (N : Int)) = true := decide_eq_true (by omega)
      have e0 : 0 ≤ (m : Int) := by omega
      have e1 : (m : Int) < (N : Int) := by omega
      have x0 := hS.kept.some (HC.out m (by omega)) id
      have c3 := hS.c3
      have f3 := hS.fz ⟨Fb, 3, none⟩ hS.lF
      have l4 : Fb < wr.heap.size := cell_lt c3
      obtain ⟨i0, hi0, hz0, hz1, hz2⟩ := info_parts float_info
      have g0 : gyG z (3 * m) = z m := by unfold gyG; congr 1; omega
      have g1 : gyG z (3 * m + 1) = z m := by unfold gyG; congr 1; omega
      have g2 : gyG z (3 * m + 2) = z m := by unfold gyG; congr 1; omega
      have HG := Lib.hid (And.intro g0 (And.intro g1 g2))
      have hlim : 3 * m + 3 ≤ 378 := by omega
      clear hS g0 g1 g2
      go_wp2_with (first
        | (go_at_call 67; refine (kind_g _ _).mono ?_; rintro e w' ⟨k, rfl, rfl⟩)
        | (at_builtin; refine wpList_append_kept _ (by rfl) _ _ _ (by rfl) (Fb + 1) 22 i0 _ 1 4 Try.underlying23 hi0 hz0 hz1 hz2 rfl (by omega) vv (3 * m) ((List.range (3 * m)).map fun j => .float .f32 (gyG z j)) (by rfl)
            (own_kept HS.out.own ((Kept.refl _ _).alloc _ _)) ⟨wr.heap.size, 0, none⟩ 3 3 [.float .f32 (z m), .float .f32 (z m), .float .f32 (z m)] (by rfl) rfl (news_three (cell_alloc_one wr _ _ 0) (cell_alloc_one wr _ _ 1) (cell_alloc_one wr _ _ 2)) (by simp [Value.oneCell']) (by omega) (by unfold maxLen; omega) (by omega) (by have := HS.out.sz; simp; omega) ?_
           intro g4 cap4 w5 hown4 hk4 hat4
           have e4 := HS.out.app_cell ((Kept.refl _ _).alloc _ _) hk4
           have e5 := HS.out.app_frozen ((Kept.refl _ _).alloc _ _) hk4
           have HO := Lib.hid (And.intro hown4 hk4)
           clear hown4 hk4 hat4))
      all_goals first
        | (go_ret; exact ⟨rfl, HS.out.kept⟩)
        | (go_roundw
           case rel =>
             refine ⟨m + 1, .slice (some ⟨g4, 0, none⟩) (3 * m + 3) cap4, by omega, by go_num, ?_⟩
             rw [show 3 * (m + 1) = 3 * m + 3 by omega]
             refine HS.out.app ((Kept.refl _ _).alloc _ _) HO.out.2 ?_
             rw [range_three, HG.out.1, HG.out.2.1, HG.out.2.2]
             exact HO.out.1
           case measure => simp [intOf]; omega)
    · obtain rfl : m = N := by omega
      have d3 : decide ((m : Int) < (m : Int)) = false := by simp
      obtain ⟨B, cap', rfl, hB, hcp, hcp2, hcc⟩ := hS.slice (by omega)
      have hE : cuE (S : Int) 0 1065353216 (3 * m) = 0 := by rw [← HN.out]; exact cuE_grey s1 (by omega)
      obtain ⟨p, hp⟩ : ∃ p : Nat → Nat, ∀ c, p c = if c = 3 then 1065353216 else v := ⟨_, fun _ => rfl⟩
      have hTe : ∃ a d : Nat, ∀ w', Kept None' wr w' → Calls Try.prog 34 #[.agg #[.int .i64 (S : Int), .float .f32 0, .float .f32 1065353216, .slice (some ⟨B, 0, none⟩) (3 * m) cap'], .agg #[.float .f32 v, .float .f32 v, .float .f32 v, .float .f32 1065353216]] w' fun e w'' => e = .returned (.tuple #[.agg #[.float .f32 a, .float .f32 a, .float .f32 a, .float .f32 d], .int .i64 0]) ∧ Kept None' w' w'' :=
        ⟨_, _, fun w' hk => by
          have h := Tetra_ok S 0 1065353216 B 0 (3 * m) cap' (gyG z) p w' hE (fun q hq => hk.some (by rw [Nat.zero_add]; exact hcc q hq) id) hcp
          unfold PxE at h
          rw [gyT z S 0 1065353216 p 1 (by omega), gyT z S 0 1065353216 p 2 (by omega), hp 0, hp 1, hp 2, hp 3] at h
          exact h⟩
      have hLi : ∃ a d : Nat, ∀ w', Kept None' wr w' → Calls Try.prog 35 #[.agg #[.int .i64 (S : Int), .float .f32 0, .float .f32 1065353216, .slice (some ⟨B, 0, none⟩) (3 * m) cap'], .agg #[.float .f32 v, .float .f32 v, .float .f32 v, .float .f32 1065353216]] w' fun e w'' => e = .returned (.tuple #[.agg #[.float .f32 a, .float .f32 a, .float .f32 a, .float .f32 d], .int .i64 0]) ∧ Kept None' w' w'' :=
        ⟨_, _, fun w' hk => by
          have h := Linear_ok S 0 1065353216 B 0 (3 * m) cap' (gyG z) p w' hE (fun q hq => hk.some (by rw [Nat.zero_add]; exact hcc q hq) id) hcp
          unfold PxE at h
          rw [gyL z S 0 1065353216 p 1 (by omega), gyL z S 0 1065353216 p 2 (by omega), hp 0, hp 1, hp 2, hp 3] at h
          exact h⟩
      obtain ⟨a1, a2, hTe⟩ := hTe
      obtain ⟨b1, b2, hLi⟩ := hLi
      have HTe := Lib.hid hTe
      have HLi := Lib.hid hLi
      have t0 := hS.c0
      have t1 := hS.c1
      have t2 := hS.c2
      have t3 := hS.c3
      clear hS hTe hLi hcc hE hp hB hcp hcp2
      go_upto_region 14 with (go_at_call 34; refine (HTe.out _ (Kept.refl _ _)).mono ?_; rintro e w5 ⟨rfl, hk5⟩)
      refine of_world (fun W6 hW => ?_)
      have k6 : Kept None' wr W6 := hk5.trans (by rw [hW]; exact (Kept.refl _ _).alloc _ _)
      have hp6 : ∀ c, c < 3 → W6.cell? ⟨w5.heap.size, c, none⟩ = some (.float .f32 a1) := fun c hc => by
        rw [hW]
        obtain rfl | rfl | rfl : c = 0 ∨ c = 1 ∨ c = 2 := by omega
        all_goals go_simp
      have u0 := k6.some t0 id
      have u1 := k6.some t1 id
      have u2 := k6.some t2 id
      have u3 := k6.some t3 id
      generalize w5.heap.size = P at *
      have HP6 := Lib.hid hp6
      have K6 := Lib.hid k6
      clear hW hk5 k6 hp6 t0 t1 t2 t3
      go_upto_region 15 with (go_at_call 35; refine (HLi.out _ K6.out).mono ?_; rintro e w7 ⟨rfl, hk7⟩)
      refine of_world (fun W8 hW => ?_)
      have k8 : Kept None' W6 W8 := hk7.trans (by rw [hW]; exact (Kept.refl _ _).alloc _ _)
      have hq8 : ∀ c, c < 3 → W8.cell? ⟨w7.heap.size, c, none⟩ = some (.float .f32 b1) := fun c hc => by
        rw [hW]
        obtain rfl | rfl | rfl : c = 0 ∨ c = 1 ∨ c = 2 := by omega
        all_goals go_simp
      generalize w7.heap.size = Q at *
      have A0 := ext_cell (k8.some (HP6.out 0 (by omega)) id)
      have A1 := ext_cell (k8.some (HP6.out 1 (by omega)) id)
      have A2 := ext_cell (k8.some (HP6.out 2 (by omega)) id)
      have A3 := ext_cell (hq8 0 (by omega))
      have A4 := ext_cell (hq8 1 (by omega))
      have A5 := ext_cell (hq8 2 (by omega))
      have hb1 : ((cl .f32 a1 : Int) == (cl .f32 a1 : Int)) = true := by simp
      have hb2 : ((cl .f32 b1 : Int) == (cl .f32 b1 : Int)) = true := by simp
      have K8 := Lib.hid (HS.out.kept.trans (K6.out.trans k8))
      clear hW hk7 k8 hq8 u0 u1 u2 u3
      refine region_ext (by kernel_rfl) (by kernel_rfl) ?_
      repeat (first
        | go_big_quiet_skip
        | (go_big_quiet_want; go_big_quiet_op; first | go_big_quiet_on | go_big_quiet_call (first
          | (go_at_call 68; exact calls_ext_same (bits_g _ _)))))
      refine wpQuiet_nil ?_
      rintro _ ⟨xq, rfl⟩
      have K9 := Lib.hid (K8.out.trans (ext_kept _ xq))
      clear A0 A1 A2 A3 A4 A5
      generalize ext _ xq = W9 at *
      go_wp2_with fail
      go_ret
      exact ⟨rfl, K9.out⟩

theorem walk_topGreys (S : Int) (A : Option Addr) (n cap : Nat) (z : Nat → Nat) (v : Nat) (w : World) (_ : (Lit.int .i64 S).wf = true) (hcap : n ≤ cap) (_ : cap ≤ maxLen) (hr : Rd w A n (fun i => .float .f32 (z i))) (_ : ∀ i, (Lit.float .f32 (z i)).wf = true) :
    Calls Try.prog 10 #[.int .i64 S, .slice A n cap, .float .f32 v] w fun e w' => e = .returned (.bool true) ∧ Kept None' w w' := by
  by_cases h : S < 2 ∨ 5 < S
  · exact tg_out S A n cap v w h
  · obtain ⟨s, rfl⟩ : ∃ s : Nat, S = s := ⟨S.toNat, by omega⟩
    by_cases h2 : n < s * (s * s)
    · exact tg_few s A n cap v w (by omega) (by omega) h2
    · have hp : 0 < s * (s * s) := Nat.mul_pos (by omega) (Nat.mul_pos (by omega) (by omega))
      obtain ⟨b, o, rfl, hc⟩ := hr (by omega)
      exact tg_ok s b o n cap v z w (by omega) (by omega) (by omega) hc hcap
end Go.Proofs.Ytkmganophcklgaa
