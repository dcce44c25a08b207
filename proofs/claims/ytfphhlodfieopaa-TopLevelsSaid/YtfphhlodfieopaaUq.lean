/- The contracts of Unpack. Conditions: none. -/
import Derived.Test.YtfphhlodfieopaaUp
namespace Go.Proofs.Ytfphhlodfieopaa
open Go.RowKit
open BigFrame

theorem frozen_map (w : World) (es : Array MapEntry) (c : Nat) (a : Addr) : (w.alloc (.map es c)).frozen? a = w.frozen? a := by
  have hh : (w.alloc (.map es c)).heap = w.heap.push (.map es c) := rfl
  unfold World.frozen?
  rw [hh, Array.getElem?_push]
  by_cases h : a.block = w.heap.size
  · rw [if_pos h, h]
    simp
  · rw [if_neg h]
theorem kept_map {A : Nat → Prop} {w x : World} (h : Kept A w x) (es : Array MapEntry) (c : Nat) : Kept A w (x.alloc (.map es c)) :=
  ⟨h.os, h.output, Nat.le_trans h.size (by simp), fun a => (frozen_map x es c a).trans (h.frozen a), fun i hi hA => by
    rw [← h.block i hi hA]
    have hh : (x.alloc (.map es c)).heap = x.heap.push (.map es c) := rfl
    rw [hh, Array.getElem?_push, if_neg (by have := h.size; omega)]⟩
/-- The j-th field of ten bits. -/
def fld (s : ByteArray) (j : Nat) : Int := if j % 3 = 0 then wd s (4 * (j / 3)) 4 / 4194304 % 1024 else if j % 3 = 1 then wd s (4 * (j / 3)) 4 / 4096 % 1024 else wd s (4 * (j / 3)) 4 / 4 % 1024
theorem fld_at (s : ByteArray) (g : Nat) : fld s (3 * g) = wd s (4 * g) 4 / 4194304 % 1024 ∧ fld s (3 * g + 1) = wd s (4 * g) 4 / 4096 % 1024 ∧ fld s (3 * g + 2) = wd s (4 * g) 4 / 4 % 1024 := by
  unfold fld
  refine ⟨?_, ?_, ?_⟩
  · rw [if_pos (by omega), show 3 * g / 3 = g by omega]
  · rw [if_neg (by omega), if_pos (by omega), show (3 * g + 1) / 3 = g by omega]
  · rw [if_neg (by omega), if_neg (by omega), show (3 * g + 2) / 3 = g by omega]
theorem and_pow (u : Int) (p : Nat) (u1 : 0 ≤ u) (u2 : u < 18446744073709551616) (hp : 2 ^ p ≤ 1024) : bits .and .i64 u ((2 ^ p - 1 : Nat) : Int) = u % (2 ^ p : Nat) := by
  obtain ⟨a, rfl⟩ := Int.eq_ofNat_of_zero_le u1
  have hpos : 0 < 2 ^ p := Nat.two_pow_pos p
  have h1 : (BitVec.ofInt 64 (a : Int)).toNat = a := by rw [BitVec.ofInt_natCast, BitVec.toNat_ofNat]; omega
  have h2 : (BitVec.ofInt 64 ((2 ^ p - 1 : Nat) : Int)).toNat = 2 ^ p - 1 := by rw [BitVec.ofInt_natCast, BitVec.toNat_ofNat]; omega
  have h3 : bits .and .i64 (a : Int) ((2 ^ p - 1 : Nat) : Int) = IntKind.i64.wrap ((BitVec.ofInt 64 (a : Int) &&& BitVec.ofInt 64 ((2 ^ p - 1 : Nat) : Int)).toNat : Nat) := rfl
  rw [h3, BitVec.toNat_and, h1, h2, Nat.and_two_pow_sub_one_eq_mod]
  have h5 : a % 2 ^ p < 2 ^ p := Nat.mod_lt _ hpos
  rw [IntWalk.i64_in _ (by omega)]
  exact Int.natCast_emod a (2 ^ p)
theorem and_3 (u : Int) (u1 : 0 ≤ u) (u2 : u ≤ 4294967295) : bits .and .i64 u 3 = u % 4 := and_pow u 2 u1 (by omega) (by decide)
theorem and_1023 (u d : Int) (u1 : 0 ≤ u) (u2 : u ≤ 4294967295) (d1 : 1 ≤ d) (d2 : d ≤ 4294967296) : bits .and .i64 (u / d) 1023 = u / d % 1024 := by
  have h1 : 0 ≤ u / d := Int.ediv_nonneg u1 (by omega)
  have h2 : u / d ≤ u := Int.ediv_le_self _ u1
  exact and_pow (u / d) 10 h1 (by omega) (by decide)
/-- The spare bits are nothing: of g words; of j fields. -/
def l10 (s : ByteArray) : Nat → Bool
  | 0 => true
  | g + 1 => l10 s g && (wd s (4 * g) 4 % 4 == 0)
def z10 (s : ByteArray) (n : Nat) : Nat → Bool
  | 0 => true
  | j + 1 => z10 s n j && (decide (j < n) || fld s j == 0)
theorem l10_false {s : ByteArray} {g k : Nat} (h : l10 s g = false) (hk : g ≤ k) : l10 s k = false := by
  induction k with
  | zero => obtain rfl : g = 0 := by omega
            exact h
  | succ k ih =>
    by_cases e : g = k + 1
    · subst e; exact h
    · unfold l10; rw [ih (by omega)]; rfl
theorem z10_false {s : ByteArray} {n g k : Nat} (h : z10 s n g = false) (hk : g ≤ k) : z10 s n k = false := by
  induction k with
  | zero => obtain rfl : g = 0 := by omega
            exact h
  | succ k ih =>
    by_cases e : g = k + 1
    · subst e; exact h
    · unfold z10; rw [ih (by omega)]; rfl
def ok10 (s : ByteArray) (n : Nat) : Bool := l10 s ((n + 2) / 3) && z10 s n (3 * ((n + 2) / 3))
def un16 (s : ByteArray) (j : Nat) : Int := wd s (2 * j) 2
/-- What Unpack leaves. -/
def UnOk (n : Nat) (G : Nat → Int) (w : World) (e : Ending) (w' : World) : Prop := ∃ v, e = .returned (.tuple #[v, .int .i64 0]) ∧ OwnI w' w.heap.size 3 .i64 v n G ∧ Kept None' w w'
def UnErr (E : Int) (w : World) (e : Ending) (w' : World) : Prop := e = .returned (.tuple #[.slice none 0 0, .int .i64 E]) ∧ Kept None' w w'

set_option linter.unusedSimpArgs false in
set_option linter.unusedVariables false in
set_option maxHeartbeats 4000000 in
set_option maxRecDepth 100000 in
theorem unpack_e1 (s : ByteArray) (m d : Int) (w : World) (hd : pkB d = false) : Calls Try.prog 30 #[.string s, .int .i64 m, .int .i64 d] w (UnErr 1 w) := by
  go_enter Try.func30, Try.ntmps30
  go_wp2_with (first | (go_at_call 75; refine (packed_any d _).mono ?_; rw [hd]; rintro e w' ⟨rfl, rfl⟩) | fail)
  go_ret2
  exact ⟨rfl, Kept.refl _ _⟩
set_option linter.unusedSimpArgs false in
set_option linter.unusedVariables false in
set_option maxHeartbeats 4000000 in
set_option maxRecDepth 100000 in
theorem unpack_e2a (s : ByteArray) (m d : Int) (w : World) (hd : pkB d = true) (h1 : decide (m < 0) = true) : Calls Try.prog 30 #[.string s, .int .i64 m, .int .i64 d] w (UnErr 3 w) := by
  go_enter Try.func30, Try.ntmps30
  go_wp2_with (first | (go_at_call 75; refine (packed_any d _).mono ?_; rw [hd]; rintro e w' ⟨rfl, rfl⟩) | fail)
  go_ret2
  exact ⟨rfl, Kept.refl _ _⟩
set_option linter.unusedSimpArgs false in
set_option linter.unusedVariables false in
set_option maxHeartbeats 4000000 in
set_option maxRecDepth 100000 in
theorem unpack_e2b (s : ByteArray) (m d : Int) (w : World) (hd : pkB d = true) (h1 : decide (m < 0) = false) (h2 : decide (65536 < m) = true) : Calls Try.prog 30 #[.string s, .int .i64 m, .int .i64 d] w (UnErr 3 w) := by
  go_enter Try.func30, Try.ntmps30
  go_wp2_with (first | (go_at_call 75; refine (packed_any d _).mono ?_; rw [hd]; rintro e w' ⟨rfl, rfl⟩) | fail)
  go_ret2
  exact ⟨rfl, Kept.refl _ _⟩
set_option linter.unusedSimpArgs false in
set_option linter.unusedVariables false in
set_option maxHeartbeats 4000000 in
set_option maxRecDepth 100000 in
theorem unpack_e3_8 (s : ByteArray) (n : Nat) (w : World) (hn : n ≤ 65536) (hl : ((s.size : Int) != (n : Int)) = true) : Calls Try.prog 30 #[.string s, .int .i64 n, .int .i64 8] w (UnErr 2 w) := by
  have hmm := @run_makeMap Try.prog
  have m1 := mu1
  have m2 := mu2
  have m3 := mu3
  have m4 := lk8
  go_enter Try.func30, Try.ntmps30
  go_wp2_with (first | (go_at_call 75; refine (packed_any 8 _).mono ?_; rw [show pkB 8 = true from rfl]; rintro e w' ⟨rfl, rfl⟩) | fail)
  go_ret2
  exact ⟨rfl, kept_map (Kept.refl _ _) _ _⟩
set_option linter.unusedSimpArgs false in
set_option linter.unusedVariables false in
set_option maxHeartbeats 4000000 in
set_option maxRecDepth 100000 in
theorem unpack_e3_16 (s : ByteArray) (n : Nat) (w : World) (hn : n ≤ 65536) (hl : ((s.size : Int) != 2 * (n : Int)) = true) : Calls Try.prog 30 #[.string s, .int .i64 n, .int .i64 16] w (UnErr 2 w) := by
  have hmm := @run_makeMap Try.prog
  have m1 := mu1
  have m2 := mu2
  have m3 := mu3
  have m4 := lk16
  go_enter Try.func30, Try.ntmps30
  go_wp2_with (first | (go_at_call 75; refine (packed_any 16 _).mono ?_; rw [show pkB 16 = true from rfl]; rintro e w' ⟨rfl, rfl⟩) | fail)
  go_ret2
  exact ⟨rfl, kept_map (Kept.refl _ _) _ _⟩
set_option linter.unusedSimpArgs false in
set_option linter.unusedVariables false in
set_option maxHeartbeats 4000000 in
set_option maxRecDepth 100000 in
theorem unpack_e3_10 (s : ByteArray) (n : Nat) (w : World) (hn : n ≤ 65536) (hl : ((s.size : Int) != ((n : Int) + 2) / 3 * 4) = true) : Calls Try.prog 30 #[.string s, .int .i64 n, .int .i64 10] w (UnErr 2 w) := by
  have hmm := @run_makeMap Try.prog
  have m1 := mu1
  have m2 := mu2
  have m3 := mu3
  have m4 := lk10
  go_enter Try.func30, Try.ntmps30
  go_wp2_with (first | (go_at_call 75; refine (packed_any 10 _).mono ?_; rw [show pkB 10 = true from rfl]; rintro e w' ⟨rfl, rfl⟩) | fail)
  go_ret2
  exact ⟨rfl, kept_map (Kept.refl _ _) _ _⟩
set_option linter.unusedSimpArgs false in
set_option linter.unusedVariables false in
set_option maxHeartbeats 4000000 in
set_option maxRecDepth 100000 in
theorem unpack_8 (s : ByteArray) (n : Nat) (w : World) (hn : n ≤ 65536) (hl : s.size = n) : Calls Try.prog 30 #[.string s, .int .i64 n, .int .i64 8] w (UnOk n (sB s) w) := by
  have hmm := @run_makeMap Try.prog
  have m1 := mu1
  have m2 := mu2
  have m3 := mu3
  have m4 := lk8
  have hsz : (s.size : Int) = (n : Int) := by omega
  have HS := Lib.hid hl
  clear hl
  obtain ⟨i0, hi, hz0, hz1, hz2⟩ := info_parts int_info
  have hmk := fun (w : World) => run_make (P := Try.prog) w 24 3 i0 (.int .i64 0) Try.underlying24 hi hz0 .i64 .i64 0 (n : Int) (by omega) (by omega) (by rw [hz2]; omega) (by omega)
  rw [hz1] at hmk
  go_enter Try.func30, Try.ntmps30
  go_upto_region 8 with (first | (go_at_call 75; refine (packed_any 8 _).mono ?_; rw [show pkB 8 = true from rfl]; rintro e w' ⟨rfl, rfl⟩) | fail)
  refine of_world (fun W0 hW => ?_)
  have k0 : Kept None' w W0 := by rw [hW]; exact kept_map (Kept.refl _ _) _ _
  have K0 := Lib.hid k0
  clear hW k0
  go_upto_region 9 with (fail)
  refine of_world (fun W1 hW => ?_)
  have hown : OwnI W1 w.heap.size 3 .i64 (.slice (some ⟨W0.heap.size, 0, none⟩) 0 n) 0 (sB s) := by
    rw [hW]
    refine World.ownsRow_made W0 _ n K0.out.size (by unfold maxLen; omega) ?_
    simp [madeCells]
  have k1 : Kept None' w W1 := by rw [hW]; exact K0.out.alloc _ _
  clear hW hmk
  have H1 := Lib.hid (And.intro hown k1)
  clear hown k1
  go_upto_region 10 with (fail)
  refine of_world (fun W2 hW => ?_)
  have k2 : Kept None' W1 W2 := by rw [hW]; exact kept_map (Kept.refl _ _) _ _
  have H2 := Lib.hid (And.intro (H1.out.1.kept k2) (H1.out.2.trans k2))
  clear hW k2 hmm m1 m2 m3 m4
  go_wp2_with fail
  go_loopw [9, 11] (fun v i wr => ∃ g : Nat, g ≤ n ∧ i = .int .i64 ((g : Int)) ∧ OwnI wr w.heap.size 3 .i64 v (g) (sB s) ∧ Kept None' w wr) (fun _ i _ => n + 1 - (intOf i).toNat)
  case atStart => exact ⟨0, by omega, rfl, H2.out.1, H2.out.2⟩
  case round =>
    obtain ⟨g, hg, rfl, hown, hkp⟩ := hrel
    have HO := Lib.hid (And.intro hown hkp)
    clear hown hkp H2
    by_cases hlt : g < n
    · have d1 : decide ((g : Int) < (n : Int)) = true := by simp; omega
      obtain ⟨⟨p1, p2⟩, ⟨p3, p4⟩, ⟨p5, p6⟩, p7, p8⟩ := wd_in s (g)
      go_wp2_with fail
      go_loop [12, 53] (fun t j => ∃ k : Nat, k ≤ 1 ∧ j = .int .i64 k ∧ t = .int .i64 (wd s (g) k)) (fun _ j => 1 - (intOf j).toNat)
      case atStart => exact ⟨0, by omega, rfl, rfl⟩
      case round =>
        obtain ⟨k, hk, rfl, rfl⟩ := hrel
        have q1 : 0 ≤ wd s (g) k ∧ (k < 4 → wd s (g) k ≤ 16777215) := by
          obtain rfl | rfl | rfl | rfl | rfl : k = 0 ∨ k = 1 ∨ k = 2 ∨ k = 3 ∨ k = 4 := by omega
          · simp [wd]
          · omega
          · omega
          · omega
          · omega
        obtain ⟨q1, q2⟩ := q1
        by_cases hlt2 : k < 1
        · have d2 : decide ((k : Int) < 1) = true := by simp; omega
          have q2 := q2 (by omega)
          have hin : g + k < s.size := by rw [HS.out]; omega
          have hst := sB_at s (g + k) hin
          have hWs : wd s (g) (k + 1) = wd s (g) k * 256 + sB s (g + k) := rfl
          have HW := Lib.hid hWs
          obtain ⟨v1, v2⟩ := sB_in s (g + k)
          have e5 : ((g : Int) + (k : Int)).toNat = g + k := by omega
          have hix : (g : Int) + (k : Int) < (s.size : Int) := by omega
          clear hWs p1 p2 p3 p4 p5 p6 p7 p8
          generalize wd s (g) k = u at *
          generalize sB s (g + k) = v at *
          have hor := or_256 u v q1 q2 v1 v2
          go_wp2_with fail
          go_round
          case rel => exact ⟨k + 1, by omega, by go_num, by rw [HW.out]⟩
          case measure => simp [intOf]; omega
        · obtain rfl : k = 1 := by omega
          have d2 : decide (((1 : Nat) : Int) < 1) = false := by simp
          have hG : wd s (g) 1 = (sB s) g := by simp [wd]
          have HG := Lib.hid hG
          clear hG p1 p2 p3 p4 p5 p6 p7 p8 q2 hsz hlt2
          generalize wd s (g) 1 = u at *
          go_wp2_with (first
            | (at_builtin; refine wpList_append_kept _ rfl _ _ 24 rfl w.heap.size 3 i0 (.int .i64 0) 1 8 Try.underlying24 hi hz0 hz1 hz2 rfl (by decide) _ _ _ rfl (OwnI.kept HO.out.1 ((Kept.refl _ _).alloc _ _)) ⟨wr.heap.size, 0, none⟩ 1 1 [.int .i64 u] rfl rfl ?c1 ?c2 (by decide) ?c3 ?c4 ?c5 ?_
               case c1 => exact news_alloc wr _ _
               case c2 => intro x hx; simp at hx; subst hx; rfl
               case c3 => unfold maxLen; omega
               case c4 => omega
               case c5 => exact Nat.le_trans HO.out.2.size (by simp)
               intro g9 cap2 w3 hown3 hk3 hb3)
            | fail)
          go_roundw
          case rel => exact ⟨g + 1, by omega, by go_num, OwnI.app1 hown3 HG.out, HO.out.1.over' ((Kept.refl _ _).alloc _ _) HO.out.2 hk3⟩
          case measure => simp [intOf]; omega
    · obtain rfl : n = g := by omega
      have d1 : decide ((n : Int) < (n : Int)) = false := by simp <;> omega
      go_wp2_with fail
      go_ret2
      exact ⟨_, rfl, HO.out.1, HO.out.2⟩
set_option linter.unusedSimpArgs false in
set_option linter.unusedVariables false in
set_option maxHeartbeats 4000000 in
set_option maxRecDepth 100000 in
theorem unpack_16 (s : ByteArray) (n : Nat) (w : World) (hn : n ≤ 65536) (hl : s.size = 2 * n) : Calls Try.prog 30 #[.string s, .int .i64 n, .int .i64 16] w (UnOk n (un16 s) w) := by
  have hmm := @run_makeMap Try.prog
  have m1 := mu1
  have m2 := mu2
  have m3 := mu3
  have m4 := lk16
  have hsz : (s.size : Int) = 2 * (n : Int) := by omega
  have HS := Lib.hid hl
  clear hl
  obtain ⟨i0, hi, hz0, hz1, hz2⟩ := info_parts int_info
  have hmk := fun (w : World) => run_make (P := Try.prog) w 24 3 i0 (.int .i64 0) Try.underlying24 hi hz0 .i64 .i64 0 (n : Int) (by omega) (by omega) (by rw [hz2]; omega) (by omega)
  rw [hz1] at hmk
  go_enter Try.func30, Try.ntmps30
  go_upto_region 8 with (first | (go_at_call 75; refine (packed_any 16 _).mono ?_; rw [show pkB 16 = true from rfl]; rintro e w' ⟨rfl, rfl⟩) | fail)
  refine of_world (fun W0 hW => ?_)
  have k0 : Kept None' w W0 := by rw [hW]; exact kept_map (Kept.refl _ _) _ _
  have K0 := Lib.hid k0
  clear hW k0
  go_upto_region 9 with (fail)
  refine of_world (fun W1 hW => ?_)
  have hown : OwnI W1 w.heap.size 3 .i64 (.slice (some ⟨W0.heap.size, 0, none⟩) 0 n) 0 (un16 s) := by
    rw [hW]
    refine World.ownsRow_made W0 _ n K0.out.size (by unfold maxLen; omega) ?_
    simp [madeCells]
  have k1 : Kept None' w W1 := by rw [hW]; exact K0.out.alloc _ _
  clear hW hmk
  have H1 := Lib.hid (And.intro hown k1)
  clear hown k1
  go_upto_region 10 with (fail)
  refine of_world (fun W2 hW => ?_)
  have k2 : Kept None' W1 W2 := by rw [hW]; exact kept_map (Kept.refl _ _) _ _
  have H2 := Lib.hid (And.intro (H1.out.1.kept k2) (H1.out.2.trans k2))
  clear hW k2 hmm m1 m2 m3 m4
  go_wp2_with fail
  go_loopw [9, 11] (fun v i wr => ∃ g : Nat, g ≤ n ∧ i = .int .i64 (2 * (g : Int)) ∧ OwnI wr w.heap.size 3 .i64 v (g) (un16 s) ∧ Kept None' w wr) (fun _ i _ => 2 * n + 1 - (intOf i).toNat)
  case atStart => exact ⟨0, by omega, rfl, H2.out.1, H2.out.2⟩
  case round =>
    obtain ⟨g, hg, rfl, hown, hkp⟩ := hrel
    have HO := Lib.hid (And.intro hown hkp)
    clear hown hkp H2
    by_cases hlt : g < n
    · have d1 : decide (2 * (g : Int) < 2 * (n : Int)) = true := by simp; omega
      obtain ⟨⟨p1, p2⟩, ⟨p3, p4⟩, ⟨p5, p6⟩, p7, p8⟩ := wd_in s (2 * g)
      go_wp2_with fail
      go_loop [12, 53] (fun t j => ∃ k : Nat, k ≤ 2 ∧ j = .int .i64 k ∧ t = .int .i64 (wd s (2 * g) k)) (fun _ j => 2 - (intOf j).toNat)
      case atStart => exact ⟨0, by omega, rfl, rfl⟩
      case round =>
        obtain ⟨k, hk, rfl, rfl⟩ := hrel
        have q1 : 0 ≤ wd s (2 * g) k ∧ (k < 4 → wd s (2 * g) k ≤ 16777215) := by
          obtain rfl | rfl | rfl | rfl | rfl : k = 0 ∨ k = 1 ∨ k = 2 ∨ k = 3 ∨ k = 4 := by omega
          · simp [wd]
          · omega
          · omega
          · omega
          · omega
        obtain ⟨q1, q2⟩ := q1
        by_cases hlt2 : k < 2
        · have d2 : decide ((k : Int) < 2) = true := by simp; omega
          have q2 := q2 (by omega)
          have hin : 2 * g + k < s.size := by rw [HS.out]; omega
          have hst := sB_at s (2 * g + k) hin
          have hWs : wd s (2 * g) (k + 1) = wd s (2 * g) k * 256 + sB s (2 * g + k) := rfl
          have HW := Lib.hid hWs
          obtain ⟨v1, v2⟩ := sB_in s (2 * g + k)
          have e5 : (2 * (g : Int) + (k : Int)).toNat = 2 * g + k := by omega
          have hix : 2 * (g : Int) + (k : Int) < (s.size : Int) := by omega
          clear hWs p1 p2 p3 p4 p5 p6 p7 p8
          generalize wd s (2 * g) k = u at *
          generalize sB s (2 * g + k) = v at *
          have hor := or_256 u v q1 q2 v1 v2
          go_wp2_with fail
          go_round
          case rel => exact ⟨k + 1, by omega, by go_num, by rw [HW.out]⟩
          case measure => simp [intOf]; omega
        · obtain rfl : k = 2 := by omega
          have d2 : decide (((2 : Nat) : Int) < 2) = false := by simp
          have hG : wd s (2 * g) 2 = (un16 s) g := rfl
          have HG := Lib.hid hG
          clear hG p1 p2 p3 p4 p5 p6 p7 p8 q2 hsz hlt2
          generalize wd s (2 * g) 2 = u at *
          go_wp2_with (first
            | (at_builtin; refine wpList_append_kept _ rfl _ _ 24 rfl w.heap.size 3 i0 (.int .i64 0) 1 8 Try.underlying24 hi hz0 hz1 hz2 rfl (by decide) _ _ _ rfl (OwnI.kept HO.out.1 ((Kept.refl _ _).alloc _ _)) ⟨wr.heap.size, 0, none⟩ 1 1 [.int .i64 u] rfl rfl ?c1 ?c2 (by decide) ?c3 ?c4 ?c5 ?_
               case c1 => exact news_alloc wr _ _
               case c2 => intro x hx; simp at hx; subst hx; rfl
               case c3 => unfold maxLen; omega
               case c4 => omega
               case c5 => exact Nat.le_trans HO.out.2.size (by simp)
               intro g9 cap2 w3 hown3 hk3 hb3)
            | fail)
          go_roundw
          case rel => exact ⟨g + 1, by omega, by go_num, OwnI.app1 hown3 HG.out, HO.out.1.over' ((Kept.refl _ _).alloc _ _) HO.out.2 hk3⟩
          case measure => simp [intOf]; omega
    · obtain rfl : n = g := by omega
      have d1 : decide (2 * (n : Int) < 2 * (n : Int)) = false := by simp <;> omega
      go_wp2_with fail
      go_ret2
      exact ⟨_, rfl, HO.out.1, HO.out.2⟩
set_option linter.unusedSimpArgs false in
set_option linter.unusedVariables false in
set_option maxHeartbeats 4000000 in
set_option maxRecDepth 100000 in
theorem unpack_10 (s : ByteArray) (n : Nat) (w : World) (hn : n ≤ 65536) (hl : s.size = (n + 2) / 3 * 4) : Calls Try.prog 30 #[.string s, .int .i64 n, .int .i64 10] w (fun e w' => (ok10 s n = true ∧ UnOk n (fld s) w e w') ∨ (ok10 s n = false ∧ UnErr 2 w e w')) := by
  have hmm := @run_makeMap Try.prog
  have m1 := mu1
  have m2 := mu2
  have m3 := mu3
  have m4 := lk10
  have hsz : (s.size : Int) = ((n : Int) + 2) / 3 * 4 := by omega
  have HS := Lib.hid hl
  clear hl
  obtain ⟨i0, hi, hz0, hz1, hz2⟩ := info_parts int_info
  have hmk := fun (w : World) => run_make (P := Try.prog) w 24 3 i0 (.int .i64 0) Try.underlying24 hi hz0 .i64 .i64 0 (n : Int) (by omega) (by omega) (by rw [hz2]; omega) (by omega)
  rw [hz1] at hmk
  go_enter Try.func30, Try.ntmps30
  go_upto_region 8 with (first | (go_at_call 75; refine (packed_any 10 _).mono ?_; rw [show pkB 10 = true from rfl]; rintro e w' ⟨rfl, rfl⟩) | fail)
  refine of_world (fun W0 hW => ?_)
  have k0 : Kept None' w W0 := by rw [hW]; exact kept_map (Kept.refl _ _) _ _
  have K0 := Lib.hid k0
  clear hW k0
  go_upto_region 9 with (fail)
  refine of_world (fun W1 hW => ?_)
  have hown : OwnI W1 w.heap.size 3 .i64 (.slice (some ⟨W0.heap.size, 0, none⟩) 0 n) 0 (fld s) := by
    rw [hW]
    refine World.ownsRow_made W0 _ n K0.out.size (by unfold maxLen; omega) ?_
    simp [madeCells]
  have k1 : Kept None' w W1 := by rw [hW]; exact K0.out.alloc _ _
  clear hW hmk
  have H1 := Lib.hid (And.intro hown k1)
  clear hown k1
  go_upto_region 10 with (fail)
  refine of_world (fun W2 hW => ?_)
  have k2 : Kept None' W1 W2 := by rw [hW]; exact kept_map (Kept.refl _ _) _ _
  have H2 := Lib.hid (And.intro (H1.out.1.kept k2) (H1.out.2.trans k2))
  clear hW k2 hmm m1 m2 m3 m4
  go_wp2_with fail
  go_loopw [9, 11] (fun v i wr => ∃ g gb cp m : Nat, g ≤ (n + 2) / 3 ∧ i = .int .i64 (4 * (g : Int)) ∧ v = .slice (some ⟨gb, 0, none⟩) m cp ∧ (m ≤ 3 * g ∧ m ≤ n ∧ (m = 3 * g ∨ m = n)) ∧ OwnI wr w.heap.size 3 .i64 (.slice (some ⟨gb, 0, none⟩) m cp) m (fld s) ∧ Kept None' w wr ∧ l10 s g = true ∧ z10 s n (3 * g) = true) (fun _ i _ => (n + 2) / 3 * 4 + 1 - (intOf i).toNat)
  case atStart => exact ⟨0, _, _, 0, by omega, rfl, rfl, by omega, H2.out.1, H2.out.2, rfl, rfl⟩
  case round =>
    obtain ⟨g, gb, cp, m, hg, rfl, rfl, ⟨j1, j2, j3⟩, hown, hkp, hl10, hz10⟩ := hrel
    have HO := Lib.hid (And.intro hown hkp)
    have HL := Lib.hid (And.intro hl10 hz10)
    clear hl10 hz10
    clear hown hkp H2
    by_cases hlt : g < (n + 2) / 3
    · have d1 : decide (4 * (g : Int) < ((n : Int) + 2) / 3 * 4) = true := by simp; omega
      obtain ⟨⟨p1, p2⟩, ⟨p3, p4⟩, ⟨p5, p6⟩, p7, p8⟩ := wd_in s (4 * g)
      go_wp2_with fail
      go_loop [12, 53] (fun t j => ∃ k : Nat, k ≤ 4 ∧ j = .int .i64 k ∧ t = .int .i64 (wd s (4 * g) k)) (fun _ j => 4 - (intOf j).toNat)
      case atStart => exact ⟨0, by omega, rfl, rfl⟩
      case round =>
        obtain ⟨k, hk, rfl, rfl⟩ := hrel
        have q1 : 0 ≤ wd s (4 * g) k ∧ (k < 4 → wd s (4 * g) k ≤ 16777215) := by
          obtain rfl | rfl | rfl | rfl | rfl : k = 0 ∨ k = 1 ∨ k = 2 ∨ k = 3 ∨ k = 4 := by omega
          · simp [wd]
          · omega
          · omega
          · omega
          · omega
        obtain ⟨q1, q2⟩ := q1
        by_cases hlt2 : k < 4
        · have d2 : decide ((k : Int) < 4) = true := by simp; omega
          have q2 := q2 (by omega)
          have hin : 4 * g + k < s.size := by rw [HS.out]; omega
          have hst := sB_at s (4 * g + k) hin
          have hWs : wd s (4 * g) (k + 1) = wd s (4 * g) k * 256 + sB s (4 * g + k) := rfl
          have HW := Lib.hid hWs
          obtain ⟨v1, v2⟩ := sB_in s (4 * g + k)
          have e5 : (4 * (g : Int) + (k : Int)).toNat = 4 * g + k := by omega
          have hix : 4 * (g : Int) + (k : Int) < (s.size : Int) := by omega
          clear hWs p1 p2 p3 p4 p5 p6 p7 p8
          generalize wd s (4 * g) k = u at *
          generalize sB s (4 * g + k) = v at *
          have hor := or_256 u v q1 q2 v1 v2
          go_wp2_with fail
          go_round
          case rel => exact ⟨k + 1, by omega, by go_num, by rw [HW.out]⟩
          case measure => simp [intOf]; omega
        · obtain rfl : k = 4 := by omega
          have d2 : decide (((4 : Nat) : Int) < 4) = false := by simp
          obtain ⟨F0, F1, F2⟩ := fld_at s g
          have a0 := and_1023 (wd s (4 * g) 4) 4194304 p7 p8 (by omega) (by omega)
          have a1 := and_1023 (wd s (4 * g) 4) 4096 p7 p8 (by omega) (by omega)
          have a2 := and_1023 (wd s (4 * g) 4) 4 p7 p8 (by omega) (by omega)
          rw [← F0] at a0
          rw [← F1] at a1
          rw [← F2] at a2
          have a3 := and_3 (wd s (4 * g) 4) p7 p8
          have hl10s : l10 s (g + 1) = (l10 s g && (wd s (4 * g) 4 % 4 == 0)) := rfl
          clear F0 F1 F2 q2 hlt2
          generalize wd s (4 * g) 4 = u at *
          cases hb : u % 4 == 0 with
          | false =>
            have hbad : ok10 s n = false := by
              unfold ok10
              rw [l10_false (k := (n + 2) / 3) (by rw [hl10s, hb, Bool.and_false]) (by omega)]
              rfl
            have HBad := Lib.hid hbad
            have hne : (u % 4 != 0) = true := by rw [bne, hb]; rfl
            rw [← a3] at hne
            clear hl10s hbad hb a3 p1 p2 p3 p4 p5 p6
            go_wp2_with fail
            go_ret2
            exact Or.inr ⟨HBad.out, rfl, HO.out.2⟩
          | true =>
            have hl1 : l10 s (g + 1) = true := by rw [hl10s, HL.out.1, hb]; rfl
            have HL1 := Lib.hid hl1
            have hne : (u % 4 != 0) = false := by rw [bne, hb]; rfl
            rw [← a3] at hne
            have hm3 : m = 3 * g := by omega
            have HM := Lib.hid hm3
            have HA := Lib.hid (And.intro a0 (And.intro a1 a2))
            clear hl10s hl1 hb a3 hm3 p1 p2 p3 p4 p5 p6 a0 a1 a2
            go_wp2_with fail
            obtain ⟨wo, rfl⟩ : ∃ wo : World, wo = wr := ⟨_, rfl⟩
            go_loopw [9, 14] (fun v j wi => ∃ t gb cp m : Nat, t ≤ 3 ∧ j = .int .i64 (22 - 10 * (t : Int)) ∧ v = .slice (some ⟨gb, 0, none⟩) m cp ∧ (m ≤ 3 * g + t ∧ m ≤ n ∧ (m = 3 * g + t ∨ m = n)) ∧ OwnI wi w.heap.size 3 .i64 (.slice (some ⟨gb, 0, none⟩) m cp) m (fld s) ∧ Kept None' w wi ∧ z10 s n (3 * g + t) = true) (fun _ j _ => (intOf j + 8).toNat)
            case atStart => exact ⟨0, gb, cp, m, by omega, rfl, rfl, by have := HM.out; omega, HO.out.1, HO.out.2, HL.out.2⟩
            case round =>
              obtain ⟨t, gb2, cp2, m2, ht, rfl, rfl, ⟨i1, i2, i3⟩, hown2, hkp2, hz⟩ := hrel
              have HO2 := Lib.hid (And.intro hown2 (And.intro hkp2 hz))
              clear hown2 hkp2 hz
              have hzs : z10 s n (3 * g + t + 1) = (z10 s n (3 * g + t) && (decide (3 * g + t < n) || fld s (3 * g + t) == 0)) := rfl
              have HZ := Lib.hid hzs
              clear hzs
              by_cases ht3 : t < 3
              · obtain rfl | rfl | rfl : t = 0 ∨ t = 1 ∨ t = 2 := by omega
                · have ha := HA.out.1
                  by_cases hin : 3 * g + 0 < n
                  · obtain rfl : m2 = 3 * g + 0 := by omega
                    have d4 : decide (((3 * g + 0 : Nat) : Int) < (n : Int)) = true := by simp; omega
                    generalize hfv : fld s (3 * g + 0) = fv at *
                    have HF := Lib.hid hfv
                    clear hfv
                    go_wp2_with (first
                    | (at_builtin; refine wpList_append_kept _ rfl _ _ 24 rfl w.heap.size 3 i0 (.int .i64 0) 1 8 Try.underlying24 hi hz0 hz1 hz2 rfl (by decide) _ _ _ rfl (OwnI.kept HO2.out.1 ((Kept.refl _ _).alloc _ _)) ⟨wr.heap.size, 0, none⟩ 1 1 [.int .i64 fv] rfl rfl ?c1 ?c2 (by decide) ?c3 ?c4 ?c5 ?_
                       case c1 => exact news_alloc wr _ _
                       case c2 => intro x hx; simp at hx; subst hx; rfl
                       case c3 => unfold maxLen; omega
                       case c4 => omega
                       case c5 => exact Nat.le_trans HO2.out.2.1.size (by simp)
                       intro g9 cap2 w3 hown3 hk3 hb3)
                    | fail)
                    go_roundw
                    case rel => exact ⟨1, g9, cap2, 3 * g + 0 + 1, by omega, by go_num, rfl, by omega, OwnI.app1 hown3 HF.out.symm, HO2.out.1.over' ((Kept.refl _ _).alloc _ _) HO2.out.2.1 hk3, by rw [HZ.out, HO2.out.2.2, decide_eq_true hin]; rfl⟩
                    case measure => simp [intOf]
                  · omega
                · have ha := HA.out.2.1
                  by_cases hin : 3 * g + 1 < n
                  · obtain rfl : m2 = 3 * g + 1 := by omega
                    have d4 : decide (((3 * g + 1 : Nat) : Int) < (n : Int)) = true := by simp; omega
                    generalize hfv : fld s (3 * g + 1) = fv at *
                    have HF := Lib.hid hfv
                    clear hfv
                    go_wp2_with (first
                    | (at_builtin; refine wpList_append_kept _ rfl _ _ 24 rfl w.heap.size 3 i0 (.int .i64 0) 1 8 Try.underlying24 hi hz0 hz1 hz2 rfl (by decide) _ _ _ rfl (OwnI.kept HO2.out.1 ((Kept.refl _ _).alloc _ _)) ⟨wr.heap.size, 0, none⟩ 1 1 [.int .i64 fv] rfl rfl ?c1 ?c2 (by decide) ?c3 ?c4 ?c5 ?_
                       case c1 => exact news_alloc wr _ _
                       case c2 => intro x hx; simp at hx; subst hx; rfl
                       case c3 => unfold maxLen; omega
                       case c4 => omega
                       case c5 => exact Nat.le_trans HO2.out.2.1.size (by simp)
                       intro g9 cap2 w3 hown3 hk3 hb3)
                    | fail)
                    go_roundw
                    case rel => exact ⟨2, g9, cap2, 3 * g + 1 + 1, by omega, by go_num, rfl, by omega, OwnI.app1 hown3 HF.out.symm, HO2.out.1.over' ((Kept.refl _ _).alloc _ _) HO2.out.2.1 hk3, by rw [HZ.out, HO2.out.2.2, decide_eq_true hin]; rfl⟩
                    case measure => simp [intOf]
                  · obtain rfl : n = m2 := by omega
                    have d4 : decide ((n : Int) < (n : Int)) = false := by simp
                    cases hb : fld s (3 * g + 1) == 0 with
                    | true =>
                      have hzn : z10 s n (3 * g + 1 + 1) = true := by rw [HZ.out, HO2.out.2.2, hb]; simp
                      have HZN := Lib.hid hzn
                      have hne : (fld s (3 * g + 1) != 0) = false := by rw [bne, hb]; rfl
                      clear hzn hb
                      go_wp2_with fail
                      go_roundw
                      case rel => exact ⟨2, gb2, cp2, n, by omega, by go_num, rfl, by omega, HO2.out.1, HO2.out.2.1, HZN.out⟩
                      case measure => simp [intOf]
                    | false =>
                      have hbad : ok10 s n = false := by
                        unfold ok10
                        rw [z10_false (g := 3 * g + 1 + 1) (k := 3 * ((n + 2) / 3)) (by rw [HZ.out, hb, Bool.or_false, decide_eq_false hin, Bool.and_false]) (by omega)]
                        exact Bool.and_false _
                      have HBad := Lib.hid hbad
                      have hne : (fld s (3 * g + 1) != 0) = true := by rw [bne, hb]; rfl
                      clear hbad hb
                      go_wp2_with fail
                      go_ret2
                      exact Or.inr ⟨HBad.out, rfl, HO2.out.2.1⟩
                · have ha := HA.out.2.2
                  by_cases hin : 3 * g + 2 < n
                  · obtain rfl : m2 = 3 * g + 2 := by omega
                    have d4 : decide (((3 * g + 2 : Nat) : Int) < (n : Int)) = true := by simp; omega
                    generalize hfv : fld s (3 * g + 2) = fv at *
                    have HF := Lib.hid hfv
                    clear hfv
                    go_wp2_with (first
                    | (at_builtin; refine wpList_append_kept _ rfl _ _ 24 rfl w.heap.size 3 i0 (.int .i64 0) 1 8 Try.underlying24 hi hz0 hz1 hz2 rfl (by decide) _ _ _ rfl (OwnI.kept HO2.out.1 ((Kept.refl _ _).alloc _ _)) ⟨wr.heap.size, 0, none⟩ 1 1 [.int .i64 fv] rfl rfl ?c1 ?c2 (by decide) ?c3 ?c4 ?c5 ?_
                       case c1 => exact news_alloc wr _ _
                       case c2 => intro x hx; simp at hx; subst hx; rfl
                       case c3 => unfold maxLen; omega
                       case c4 => omega
                       case c5 => exact Nat.le_trans HO2.out.2.1.size (by simp)
                       intro g9 cap2 w3 hown3 hk3 hb3)
                    | fail)
                    go_roundw
                    case rel => exact ⟨3, g9, cap2, 3 * g + 2 + 1, by omega, by go_num, rfl, by omega, OwnI.app1 hown3 HF.out.symm, HO2.out.1.over' ((Kept.refl _ _).alloc _ _) HO2.out.2.1 hk3, by rw [HZ.out, HO2.out.2.2, decide_eq_true hin]; rfl⟩
                    case measure => simp [intOf]
                  · obtain rfl : n = m2 := by omega
                    have d4 : decide ((n : Int) < (n : Int)) = false := by simp
                    cases hb : fld s (3 * g + 2) == 0 with
                    | true =>
                      have hzn : z10 s n (3 * g + 2 + 1) = true := by rw [HZ.out, HO2.out.2.2, hb]; simp
                      have HZN := Lib.hid hzn
                      have hne : (fld s (3 * g + 2) != 0) = false := by rw [bne, hb]; rfl
                      clear hzn hb
                      go_wp2_with fail
                      go_roundw
                      case rel => exact ⟨3, gb2, cp2, n, by omega, by go_num, rfl, by omega, HO2.out.1, HO2.out.2.1, HZN.out⟩
                      case measure => simp [intOf]
                    | false =>
                      have hbad : ok10 s n = false := by
                        unfold ok10
                        rw [z10_false (g := 3 * g + 2 + 1) (k := 3 * ((n + 2) / 3)) (by rw [HZ.out, hb, Bool.or_false, decide_eq_false hin, Bool.and_false]) (by omega)]
                        exact Bool.and_false _
                      have HBad := Lib.hid hbad
                      have hne : (fld s (3 * g + 2) != 0) = true := by rw [bne, hb]; rfl
                      clear hbad hb
                      go_wp2_with fail
                      go_ret2
                      exact Or.inr ⟨HBad.out, rfl, HO2.out.2.1⟩
              · obtain rfl : t = 3 := by omega
                go_wp2_with fail
                go_roundw
                case rel => exact ⟨g + 1, gb2, cp2, m2, by omega, by go_num, rfl, by omega, HO2.out.1, HO2.out.2.1, HL1.out, HO2.out.2.2⟩
                case measure => simp [intOf]; omega
    · obtain rfl : g = (n + 2) / 3 := by omega
      have d1 : decide (4 * (((n + 2) / 3 : Nat) : Int) < ((n : Int) + 2) / 3 * 4) = false := by simp <;> omega
      obtain rfl : n = m := by omega
      have hok : ok10 s n = true := by unfold ok10; rw [HL.out.1, HL.out.2]; rfl
      have HK := Lib.hid hok
      clear hok
      go_wp2_with fail
      go_ret2
      exact Or.inl ⟨HK.out, _, rfl, HO.out.1, HO.out.2⟩
end Go.Proofs.Ytfphhlodfieopaa
