/- The contracts of the reference's Places and MadeOf. Conditions: none. -/
import Derived.Test.YtkmganophcklgaaCz
namespace Go.Proofs.Ytkmganophcklgaa
open Go.RowKit
open Fl Fr
open BigFrame

/-- A function value that is shown the places one behind another; I says what holds before the n-th. -/
def Shows (g : FuncId) (caps : Array Value) (S : Nat) (I : Nat → World → Prop) : Prop :=
  ∀ (n : Nat) (wr : World), n < S * (S * S) → I n wr →
    Calls Try.prog g (#[.int .i64 (n : Int), .int .i64 ((n % S : Nat) : Int), .int .i64 ((n / S % S : Nat) : Int), .int .i64 ((n / S / S : Nat) : Int)] ++ caps) wr fun e w'' => e = .returned (.tuple #[]) ∧ I (n + 1) w''
theorem i64_nat {m : Nat} (h : m ≤ 4913) : IntKind.i64.wrap (m : Int) = (m : Int) := IntWalk.i64_in _ (by omega)
theorem cube_nat {S : Nat} (s2 : S ≤ 17) : S * S ≤ 289 ∧ S * (S * S) ≤ 4913 := by
  have h1 : S * S ≤ 17 * 17 := Nat.mul_le_mul s2 s2
  have h2 : S * (S * S) ≤ 17 * (17 * 17) := Nat.mul_le_mul s2 h1
  omega

set_option linter.unusedSimpArgs false in
set_option linter.unusedVariables false in
set_option maxHeartbeats 4000000 in
set_option maxRecDepth 100000 in
theorem places_gen (S : Nat) (g : FuncId) (caps : Array Value) (I : Nat → World → Prop) (w : World) (s1 : 2 ≤ S) (s2 : S ≤ 17) (hg : ∀ args w, (callFunc g args).run Try.prog w = .ok (.enter g args) w)
    (hI : ∀ n wr wr', I n wr → Kept None' wr wr' → I n wr') (h0 : I 0 w) (hf : Shows g caps S I) :
    Calls Try.prog 74 #[.int .i64 (S : Int), .func (.func g) #[] caps] w fun e w' => e = .returned (.tuple #[]) ∧ I (S * (S * S)) w' := by
  have HF := Lib.hid hf
  have HI := Lib.hid hI
  have H0 := Lib.hid h0
  clear hf hI h0
  obtain ⟨m1, m2⟩ := cube_nat s2
  have b1 : 0 ≤ (S : Int) * (S : Int) := by have : ((S * S : Nat) : Int) = (S : Int) * (S : Int) := by simp
                                            omega
  have b2 : (S : Int) * (S : Int) ≤ 289 := by have : ((S * S : Nat) : Int) = (S : Int) * (S : Int) := by simp
                                              omega
  have b3 : 0 ≤ (S : Int) * (S : Int) * (S : Int) := Int.mul_nonneg b1 (by omega)
  have e3 : (S : Int) * (S : Int) * (S : Int) = ((S * (S * S) : Nat) : Int) := by simp [Int.mul_assoc]
  have b4 : (S : Int) * (S : Int) * (S : Int) ≤ 4913 := by omega
  have E3 := Lib.hid e3
  clear e3
  go_enter Try.func74, Try.ntmps74
  go_wp2_with fail
  rw [E3.out]
  obtain ⟨M, hM⟩ : ∃ M, S * (S * S) = M := ⟨_, rfl⟩
  clear E3 b1 b2 b3 b4
  have m3 : M ≤ 4913 := by rw [← hM]; exact m2
  rw [hM]
  have HM := Lib.hid hM
  clear m1 m2
  clear hM
  go_loopw [10] (fun s10 wr => ∃ n : Nat, n ≤ M ∧ s10 = .int .i64 (n : Int) ∧ I n wr) (fun s10 _ => (M - intOf s10).toNat)
  case atStart => exact ⟨0, Nat.zero_le _, rfl, H0.out⟩
  case round =>
    obtain ⟨n, hn, rfl, hIn⟩ := hrel
    have HIn := Lib.hid hIn
    clear hIn
    by_cases hlt : n < M
    · have d1 : decide ((n : Int) < (M : Int)) = true := decide_eq_true (by omega)
      go_wp2_with fail
      have t1 : ((n : Int)).tmod (S : Int) = ((n % S : Nat) : Int) := by rw [Int.tmod_eq_emod_of_nonneg (Int.natCast_nonneg _)]; simp
      have t2 : ((n : Int)).tdiv (S : Int) = ((n / S : Nat) : Int) := by rw [Int.tdiv_eq_ediv_of_nonneg (Int.natCast_nonneg _)]; simp
      have t3 : (((n / S : Nat) : Int)).tmod (S : Int) = ((n / S % S : Nat) : Int) := by rw [Int.tmod_eq_emod_of_nonneg (Int.natCast_nonneg _)]; simp
      have t4 : (((n / S : Nat) : Int)).tdiv (S : Int) = ((n / S / S : Nat) : Int) := by rw [Int.tdiv_eq_ediv_of_nonneg (Int.natCast_nonneg _)]; simp
      have b1 : n / S ≤ n := Nat.div_le_self _ _
      have b2 : n / S / S ≤ n / S := Nat.div_le_self _ _
      have b3 : n % S ≤ n := Nat.mod_le _ _
      have b4 : n / S % S ≤ n / S := Nat.mod_le _ _
      have v1 : IntKind.i64.wrap ((n % S : Nat) : Int) = ((n % S : Nat) : Int) := i64_nat (by omega)
      have v2 : IntKind.i64.wrap ((n / S : Nat) : Int) = ((n / S : Nat) : Int) := i64_nat (by omega)
      have v3 : IntKind.i64.wrap ((n / S % S : Nat) : Int) = ((n / S % S : Nat) : Int) := i64_nat (by omega)
      have v4 : IntKind.i64.wrap ((n / S / S : Nat) : Int) = ((n / S / S : Nat) : Int) := i64_nat (by omega)
      have hS0 : ¬ (S : Int) = 0 := by omega
      have hS1 : ((S : Int) == 0) = false := by simp; omega
      have hC := HF.out n
      have HC := Lib.hid hC
      clear hC
      generalize n % S = i at *
      generalize n / S % S = j at *
      generalize n / S / S = k at *
      generalize n / S = l at *
      refine region_ext_tail 15 (by kernel_rfl) (by kernel_rfl) ?_
      simp only [List.take_succ_cons, List.take_zero, List.drop_succ_cons, List.drop_zero]
      repeat (first
        | go_big_quiet_skip
        | (go_big_quiet_want; go_big_quiet_op; first | go_big_quiet_on | fail))
      refine wpQuiet_nil ?_
      rintro _ ⟨xq, rfl⟩
      have HX := Lib.hid (HI.out _ _ _ HIn.out (ext_kept _ xq))
      generalize ext _ xq = w2 at *
      clear t1 t2 t3 t4 v1 v2 v3 v4
      go_wp2_with fail
      refine (HC.out _ (by rw [HM.out]; exact hlt) HX.out).mono ?_
      rintro e w3 ⟨rfl, hI3⟩
      have HI3 := Lib.hid hI3
      clear hI3
      go_wp2_with fail
      go_roundw
      case rel => exact ⟨n + 1, by omega, by go_num, HI3.out⟩
      case measure => simp [intOf]; omega
    · obtain rfl : n = M := by omega
      have d1 : decide ((n : Int) < (n : Int)) = false := by simp
      go_wp2
      go_end0
      exact ⟨rfl, by rw [HM.out]; exact HIn.out⟩

theorem cubG_n {F : Int → Int → Int → Nat → Nat} {S n c : Nat} (hc : c < 3) : cubG F S (3 * n + c) = F ((n % S : Nat) : Int) ((n / S % S : Nat) : Int) ((n / S / S : Nat) : Int) c := by
  unfold cubG
  have e1 : (3 * n + c) / 3 = n := by omega
  have e2 : (3 * n + c) % 3 = c := by omega
  rw [e1, e2]
theorem place_lt {S n : Nat} (s1 : 2 ≤ S) (h : n < S * (S * S)) : n % S < S ∧ n / S % S < S ∧ n / S / S < S := by
  refine ⟨Nat.mod_lt _ (by omega), Nat.mod_lt _ (by omega), ?_⟩
  rw [Nat.div_div_eq_div_mul]
  exact Nat.div_lt_of_lt_mul (by rwa [Nat.mul_comm S S, Nat.mul_comm (S * S) S])

set_option linter.unusedSimpArgs false in
set_option linter.unusedVariables false in
set_option maxHeartbeats 4000000 in
set_option maxRecDepth 100000 in
theorem madeof1_shows (S : Nat) (lo hi Fb T : Nat) (g : FuncId) (caps : Array Value) (F : Int → Int → Int → Nat → Nat) (w W1 : World) (s1 : 2 ≤ S) (s2 : S ≤ 17) (hg : ∀ args w, (callFunc g args).run Try.prog w = .ok (.enter g args) w)
    (hk : Kept None' w W1) (hT : W1.cell? ⟨T, 0, none⟩ = some (.func (.func g) #[] caps)) (hf : Gives g caps F S w) :
    Shows 75 #[.pointer (some ⟨T, 0, none⟩), .pointer (some ⟨Fb, 0, none⟩)] S (fun n wr => ∃ v, CbS W1 Fb S lo hi v (3 * n) (cubG F S) wr) := by
  intro n wr hn hI
  obtain ⟨v, hS⟩ := hI
  obtain ⟨l1, l2, l3⟩ := place_lt s1 hn
  obtain ⟨m1, m2⟩ := cube_nat s2
  have hG : ∀ c, c < 3 → cubG F S (3 * n + c) = F ((n % S : Nat) : Int) ((n / S % S : Nat) : Int) ((n / S / S : Nat) : Int) c := fun c hc => cubG_n hc
  have hc := hf (n % S : Nat) (n / S % S : Nat) (n / S / S : Nat) wr (hk.trans hS.kept) (Int.natCast_nonneg _) (by exact_mod_cast l1) (Int.natCast_nonneg _) (by exact_mod_cast l2) (Int.natCast_nonneg _) (by exact_mod_cast l3)
  have u0 := hS.kept.some hT id
  have HG := Lib.hid hG
  have HC := Lib.hid hc
  have HS := Lib.hid hS
  have hn3 : 3 * n + 3 ≤ 14739 := by omega
  clear hG hc hS hf hT hn l1 l2 l3 m1 m2
  generalize n % S = i at *
  generalize n / S % S = j at *
  generalize n / S / S = k at *
  go_enter Try.func75, Try.ntmps75
  go_wp2_with fail
  refine HC.out.mono ?_
  rintro e w1 ⟨r, rfl, hr, hk1⟩
  have HR := Lib.hid hr
  have HS1 := Lib.hid (HS.out.step hk1)
  clear hr hk1 HC HS u0
  go_wp2_with fail
  refine of_world (fun W0 hW => ?_)
  have HS2 := Lib.hid (HS1.out.step (wr' := W0) (by rw [hW]; exact (Kept.refl _ _).alloc _ _))
  have a0 : W0.cell? ⟨w1.heap.size, 0, none⟩ = some (.float .f32 (r 0)) := by rw [hW]; go_simp
  have a1 : W0.cell? ⟨w1.heap.size, 1, none⟩ = some (.float .f32 (r 1)) := by rw [hW]; go_simp
  have a2 : W0.cell? ⟨w1.heap.size, 2, none⟩ = some (.float .f32 (r 2)) := by rw [hW]; go_simp
  clear hW
  have HS3 := HS2
  have a3 := HS2.out.c3
  have f3 := HS2.out.fz ⟨Fb, 3, none⟩ HS2.out.lF
  have g0 : cl .f32 (r 0) = cubG F S (3 * n) := by rw [HR.out 0 (by omega), ← HG.out 0 (by omega)]; rfl
  have g1 : cl .f32 (r 1) = cubG F S (3 * n + 1) := by rw [HR.out 1 (by omega), ← HG.out 1 (by omega)]
  have g2 : cl .f32 (r 2) = cubG F S (3 * n + 2) := by rw [HR.out 2 (by omega), ← HG.out 2 (by omega)]
  obtain ⟨i0, hi0, hz0, hz1, hz2⟩ := info_parts float_info
  have l4 : Fb < W0.heap.size := cell_lt a3
  go_region_law (first
    | (refine step_append_kept _ (by rfl) _ _ _ (by rfl) (Fb + 1) 22 i0 _ 1 4 Try.underlying23 hi0 hz0 hz1 hz2 rfl (by omega) v (3 * n) ((List.range (3 * n)).map fun j => .float .f32 (cubG F S j)) (by rfl)
            (own_kept HS3.out.own (by first | exact kept_alloc_drew _ _ _ | exact (kept_drew1 _).alloc _ _)) ⟨W0.heap.size, 0, none⟩ 3 3 [.float .f32 (cubG F S (3 * n)), .float .f32 (cubG F S (3 * n + 1)), .float .f32 (cubG F S (3 * n + 2))] (by rfl) rfl (news_three (by first | exact cell_alloc_one W0.drew _ _ 0 | exact drew_cell (cell_alloc_one W0 _ _ 0)) (by first | exact cell_alloc_one W0.drew _ _ 1 | exact drew_cell (cell_alloc_one W0 _ _ 1)) (by first | exact cell_alloc_one W0.drew _ _ 2 | exact drew_cell (cell_alloc_one W0 _ _ 2))) (by simp [Value.oneCell']) (by omega) (by unfold maxLen; omega) (by omega) (by have := HS3.out.sz; simp; omega) ?_
       intro g4 cap4 w5 hown4 hk4 hat4
       have e4 := HS3.out.app_cell (by first | exact kept_alloc_drew _ _ _ | exact (kept_drew1 _).alloc _ _) hk4
       have e5 := HS3.out.app_frozen (by first | exact kept_alloc_drew _ _ _ | exact (kept_drew1 _).alloc _ _) hk4)
    | (go_simp; go_at_call 31; refine (fix_any _ _).mono ?_; rintro e w' ⟨rfl, rfl⟩))
  all_goals
    go_end0
    refine ⟨rfl, .slice (some ⟨g4, 0, none⟩) (3 * n + 3) cap4, ?_⟩
    rw [show 3 * (n + 1) = 3 * n + 3 by omega]
    refine HS3.out.app (kept_alloc_drew _ _ _) hk4 ?_
    rw [range_three]
    exact hown4

end Go.Proofs.Ytkmganophcklgaa
