/- The contracts of Pack and PackedOf. Conditions: none. -/
import Derived.Test.YtfphhlodfieopaaPk
import Derived.Test.YtfphhlodfieopaaLf
namespace Go.Proofs.Ytfphhlodfieopaa
open Go.RowKit
open BigFrame

theorem okTo_at {z : Nat → Int} {M : Int} {n k : Nat} (h : okTo z M n = true) (hk : k < n) : inB (z k) 0 M = true := by
  induction n with
  | zero => omega
  | succ n ih =>
    simp only [okTo, Bool.and_eq_true] at h
    by_cases e : k = n
    · subst e; exact h.2
    · exact ih h.1 (by omega)
def pk8 (z : Nat → Int) (j : Nat) : Int := z j
def pk16 (z : Nat → Int) (j : Nat) : Int := if j % 2 = 0 then z (j / 2) / 256 else z (j / 2) % 256
/-- The j-th level, or 0 behind the last. -/
def pkF (z : Nat → Int) (n j : Nat) : Int := if j < n then z j else 0
/-- The word of three levels, k of them through. -/
def pkW (z : Nat → Int) (n g : Nat) : Nat → Int
  | 0 => 0
  | k + 1 => pkW z n g k * 1024 + pkF z n (3 * g + k)
def pk10 (z : Nat → Int) (n j : Nat) : Int := if j % 4 = 0 then pkW z n (j / 4) 3 * 4 / 16777216 else if j % 4 = 1 then pkW z n (j / 4) 3 * 4 / 65536 % 256 else if j % 4 = 2 then pkW z n (j / 4) 3 * 4 / 256 % 256 else pkW z n (j / 4) 3 * 4 % 256
theorem pkF_in {z : Nat → Int} {n : Nat} (h : okTo z 1023 n = true) (j : Nat) : 0 ≤ pkF z n j ∧ pkF z n j ≤ 1023 := by
  unfold pkF
  split
  · rename_i hj; exact inB_iff.1 (okTo_at h hj)
  · omega
theorem pkW_in {z : Nat → Int} {n : Nat} (h : okTo z 1023 n = true) (g : Nat) : (0 ≤ pkW z n g 1 ∧ pkW z n g 1 ≤ 1023) ∧ (0 ≤ pkW z n g 2 ∧ pkW z n g 2 ≤ 1048575) ∧ 0 ≤ pkW z n g 3 ∧ pkW z n g 3 ≤ 1073741823 := by
  have h0 := pkF_in h (3 * g)
  have h1 := pkF_in h (3 * g + 1)
  have h2 := pkF_in h (3 * g + 2)
  simp only [pkW, Nat.add_zero] at *
  omega
theorem pk16_at (z : Nat → Int) (k : Nat) : z k / 256 = pk16 z (2 * k) ∧ z k % 256 = pk16 z (2 * k + 1) := by
  unfold pk16
  rw [if_pos (by omega), if_neg (by omega), show 2 * k / 2 = k by omega, show (2 * k + 1) / 2 = k by omega]
  exact ⟨rfl, rfl⟩
theorem pk10_at (z : Nat → Int) (n g : Nat) : pkW z n g 3 * 4 / 16777216 = pk10 z n (4 * g) ∧ pkW z n g 3 * 4 / 65536 % 256 = pk10 z n (4 * g + 1) ∧ pkW z n g 3 * 4 / 256 % 256 = pk10 z n (4 * g + 2) ∧ pkW z n g 3 * 4 % 256 = pk10 z n (4 * g + 3) := by
  unfold pk10
  refine ⟨?_, ?_, ?_, ?_⟩
  · rw [if_pos (by omega), show 4 * g / 4 = g by omega]
  · rw [if_neg (by omega), if_pos (by omega), show (4 * g + 1) / 4 = g by omega]
  · rw [if_neg (by omega), if_neg (by omega), if_pos (by omega), show (4 * g + 2) / 4 = g by omega]
  · rw [if_neg (by omega), if_neg (by omega), if_neg (by omega), show (4 * g + 3) / 4 = g by omega]
theorem news_alloc (w : World) (l : List Value) (t : TypeId) : ∀ (j : Nat) (u : Value), l[j]? = some u → (w.alloc (.cells l.toArray t)).cell? ((⟨w.heap.size, 0, none⟩ : Addr).add j) = some u := by
  intro j u h
  rw [add_zero_block, cell_alloc_one w _ _ j]
  simpa using h
theorem or_1024 (u v : Int) (u1 : 0 ≤ u) (u2 : u ≤ 1048575) (v1 : 0 ≤ v) (v2 : v ≤ 1023) : bits .or .i64 (u * 1024) v = u * 1024 + v := by
  obtain ⟨a, rfl⟩ := Int.eq_ofNat_of_zero_le u1
  obtain ⟨b, rfl⟩ := Int.eq_ofNat_of_zero_le v1
  have h1 : (BitVec.ofInt 64 ((a : Int) * 1024)).toNat = a * 1024 := by
    rw [show ((a : Int) * 1024) = ((a * 1024 : Nat) : Int) by omega, BitVec.ofInt_natCast, BitVec.toNat_ofNat]; omega
  have h2 : (BitVec.ofInt 64 (b : Int)).toNat = b := by rw [BitVec.ofInt_natCast, BitVec.toNat_ofNat]; omega
  have h3 : bits .or .i64 ((a : Int) * 1024) (b : Int) = IntKind.i64.wrap ((BitVec.ofInt 64 ((a : Int) * 1024) ||| BitVec.ofInt 64 (b : Int)).toNat : Nat) := rfl
  rw [h3, BitVec.toNat_or, h1, h2]
  have h4 : a * 1024 ||| b = a * 1024 + b := by
    have := Nat.two_pow_add_eq_or_of_lt (i := 10) (show b < 2 ^ 10 by omega) a
    rw [Nat.mul_comm a 1024]
    exact this.symm
  rw [h4, IntWalk.i64_in _ (by omega)]
  omega

set_option linter.unusedSimpArgs false in
set_option linter.unusedVariables false in
set_option maxHeartbeats 2000000 in
set_option maxRecDepth 100000 in
theorem pack_e1 (A : Option Addr) (n cap : Nat) (d : Int) (w : World) (hd : pkB d = false) :
    Calls Try.prog 28 #[.slice A n cap, .int .i64 d] w fun e w' => e = .returned (.tuple #[.string ⟨#[]⟩, .int .i64 1]) ∧ w = w' := by
  go_enter Try.func28, Try.ntmps28
  go_wp2_with (first | (go_at_call 75; refine (packed_any d _).mono ?_; rw [hd]; rintro e w' ⟨rfl, rfl⟩) | fail)
  go_ret2
  exact ⟨rfl, rfl⟩
set_option linter.unusedSimpArgs false in
set_option linter.unusedVariables false in
set_option maxHeartbeats 2000000 in
set_option maxRecDepth 100000 in
theorem pack_e2 (A : Option Addr) (n cap : Nat) (d : Int) (w : World) (hd : pkB d = true) (hn : decide ((65536 : Int) < n) = true) :
    Calls Try.prog 28 #[.slice A n cap, .int .i64 d] w fun e w' => e = .returned (.tuple #[.string ⟨#[]⟩, .int .i64 4]) ∧ w = w' := by
  go_enter Try.func28, Try.ntmps28
  go_wp2_with (first | (go_at_call 75; refine (packed_any d _).mono ?_; rw [hd]; rintro e w' ⟨rfl, rfl⟩) | fail)
  go_ret2
  exact ⟨rfl, rfl⟩
set_option linter.unusedSimpArgs false in
set_option linter.unusedVariables false in
set_option maxHeartbeats 2000000 in
set_option maxRecDepth 100000 in
theorem pack_e3_8 (A : Option Addr) (n cap : Nat) (z : Nat → Int) (w : World) (hn : n ≤ 65536) (hr : Rd w A n (fun i => .int .i64 (z i))) (hok : okTo z 255 n = false) :
    Calls Try.prog 28 #[.slice A n cap, .int .i64 8] w fun e w' => e = .returned (.tuple #[.string ⟨#[]⟩, .int .i64 3]) ∧ w = w' := by
  have HR := Lib.hid hr
  have HK := Lib.hid hok
  clear hr hok
  go_enter Try.func28, Try.ntmps28
  go_wp2_with (first | (go_at_call 75; refine (packed_any 8 _).mono ?_; rw [show pkB 8 = true from rfl]; rintro e w' ⟨rfl, rfl⟩) | fail)
  go_loop [24] (fun i => ∃ k : Nat, k ≤ n ∧ i = .int .i64 k ∧ okTo z 255 k = true) (fun i => n - (intOf i).toNat)
  case atStart => exact ⟨0, by omega, rfl, rfl⟩
  case round =>
    obtain ⟨k, hk, rfl, hok⟩ := hrel
    have HO := Lib.hid hok
    clear hok
    by_cases hlt : k < n
    · obtain ⟨b, o, rfl, hc⟩ := HR.out (by omega)
      have c0 := hc k hlt
      clear hc
      cases bb : inB (z k) 0 255 with
      | false =>
        have hcas := Lib.hid (cas_of bb)
        clear bb
        cases d1 : decide (z k < 0) with
        | true =>
          go_wp2_with fail
          go_ret2
          exact ⟨rfl, rfl⟩
        | false =>
          have d2 : decide (255 < z k) = true := dec_cas hcas.out d1
          go_wp2_with fail
          go_ret2
          exact ⟨rfl, rfl⟩
      | true =>
        obtain ⟨⟨z1, z2⟩, d1, d2⟩ := dec_in bb
        have HB := Lib.hid bb
        clear bb
        go_wp2_with fail
        go_round
        case rel => exact ⟨k + 1, by omega, by go_num, by simp [okTo, HO.out, HB.out]⟩
        case measure => simp [intOf]; omega
    · obtain rfl : n = k := by omega
      have h1 := HO.out
      rw [HK.out] at h1
      cases h1
set_option linter.unusedSimpArgs false in
set_option linter.unusedVariables false in
set_option maxHeartbeats 2000000 in
set_option maxRecDepth 100000 in
theorem pack_e3_10 (A : Option Addr) (n cap : Nat) (z : Nat → Int) (w : World) (hn : n ≤ 65536) (hr : Rd w A n (fun i => .int .i64 (z i))) (hok : okTo z 1023 n = false) :
    Calls Try.prog 28 #[.slice A n cap, .int .i64 10] w fun e w' => e = .returned (.tuple #[.string ⟨#[]⟩, .int .i64 3]) ∧ w = w' := by
  have HR := Lib.hid hr
  have HK := Lib.hid hok
  clear hr hok
  go_enter Try.func28, Try.ntmps28
  go_wp2_with (first | (go_at_call 75; refine (packed_any 10 _).mono ?_; rw [show pkB 10 = true from rfl]; rintro e w' ⟨rfl, rfl⟩) | fail)
  go_loop [24] (fun i => ∃ k : Nat, k ≤ n ∧ i = .int .i64 k ∧ okTo z 1023 k = true) (fun i => n - (intOf i).toNat)
  case atStart => exact ⟨0, by omega, rfl, rfl⟩
  case round =>
    obtain ⟨k, hk, rfl, hok⟩ := hrel
    have HO := Lib.hid hok
    clear hok
    by_cases hlt : k < n
    · obtain ⟨b, o, rfl, hc⟩ := HR.out (by omega)
      have c0 := hc k hlt
      clear hc
      cases bb : inB (z k) 0 1023 with
      | false =>
        have hcas := Lib.hid (cas_of bb)
        clear bb
        cases d1 : decide (z k < 0) with
        | true =>
          go_wp2_with fail
          go_ret2
          exact ⟨rfl, rfl⟩
        | false =>
          have d2 : decide (1023 < z k) = true := dec_cas hcas.out d1
          go_wp2_with fail
          go_ret2
          exact ⟨rfl, rfl⟩
      | true =>
        obtain ⟨⟨z1, z2⟩, d1, d2⟩ := dec_in bb
        have HB := Lib.hid bb
        clear bb
        go_wp2_with fail
        go_round
        case rel => exact ⟨k + 1, by omega, by go_num, by simp [okTo, HO.out, HB.out]⟩
        case measure => simp [intOf]; omega
    · obtain rfl : n = k := by omega
      have h1 := HO.out
      rw [HK.out] at h1
      cases h1
set_option linter.unusedSimpArgs false in
set_option linter.unusedVariables false in
set_option maxHeartbeats 2000000 in
set_option maxRecDepth 100000 in
theorem pack_e3_16 (A : Option Addr) (n cap : Nat) (z : Nat → Int) (w : World) (hn : n ≤ 65536) (hr : Rd w A n (fun i => .int .i64 (z i))) (hok : okTo z 65535 n = false) :
    Calls Try.prog 28 #[.slice A n cap, .int .i64 16] w fun e w' => e = .returned (.tuple #[.string ⟨#[]⟩, .int .i64 3]) ∧ w = w' := by
  have HR := Lib.hid hr
  have HK := Lib.hid hok
  clear hr hok
  go_enter Try.func28, Try.ntmps28
  go_wp2_with (first | (go_at_call 75; refine (packed_any 16 _).mono ?_; rw [show pkB 16 = true from rfl]; rintro e w' ⟨rfl, rfl⟩) | fail)
  go_loop [24] (fun i => ∃ k : Nat, k ≤ n ∧ i = .int .i64 k ∧ okTo z 65535 k = true) (fun i => n - (intOf i).toNat)
  case atStart => exact ⟨0, by omega, rfl, rfl⟩
  case round =>
    obtain ⟨k, hk, rfl, hok⟩ := hrel
    have HO := Lib.hid hok
    clear hok
    by_cases hlt : k < n
    · obtain ⟨b, o, rfl, hc⟩ := HR.out (by omega)
      have c0 := hc k hlt
      clear hc
      cases bb : inB (z k) 0 65535 with
      | false =>
        have hcas := Lib.hid (cas_of bb)
        clear bb
        cases d1 : decide (z k < 0) with
        | true =>
          go_wp2_with fail
          go_ret2
          exact ⟨rfl, rfl⟩
        | false =>
          have d2 : decide (65535 < z k) = true := dec_cas hcas.out d1
          go_wp2_with fail
          go_ret2
          exact ⟨rfl, rfl⟩
      | true =>
        obtain ⟨⟨z1, z2⟩, d1, d2⟩ := dec_in bb
        have HB := Lib.hid bb
        clear bb
        go_wp2_with fail
        go_round
        case rel => exact ⟨k + 1, by omega, by go_num, by simp [okTo, HO.out, HB.out]⟩
        case measure => simp [intOf]; omega
    · obtain rfl : n = k := by omega
      have h1 := HO.out
      rw [HK.out] at h1
      cases h1
set_option linter.unusedSimpArgs false in
set_option linter.unusedVariables false in
set_option maxHeartbeats 2000000 in
set_option maxRecDepth 100000 in
theorem pack8_ok (A : Option Addr) (n cap : Nat) (z : Nat → Int) (w : World) (hn : n ≤ 65536) (hr : Rd w A n (fun i => .int .i64 (z i))) (hok : okTo z 255 n = true) :
    Calls Try.prog 28 #[.slice A n cap, .int .i64 8] w fun e w' => e = .returned (.tuple #[.string (strG n (pk8 z)), .int .i64 0]) ∧ Kept None' w w' := by
  obtain ⟨i0, hi, hz0, hz1, hz2⟩ := info_parts byte_info
  have HR := Lib.hid hr
  have HK := Lib.hid hok
  clear hr hok
  go_enter Try.func28, Try.ntmps28
  go_wp2_with (first | (go_at_call 75; refine (packed_any 8 _).mono ?_; rw [show pkB 8 = true from rfl]; rintro e w' ⟨rfl, rfl⟩) | fail)
  go_loop [24] (fun i => ∃ k : Nat, k ≤ n ∧ i = .int .i64 k) (fun i => n - (intOf i).toNat)
  case atStart => exact ⟨0, by omega, rfl⟩
  case round =>
    obtain ⟨k, hk, rfl⟩ := hrel
    by_cases hlt : k < n
    · obtain ⟨⟨z1, z2⟩, d1, d2⟩ := dec_in (okTo_at HK.out hlt)
      obtain ⟨b, o, rfl, hc⟩ := HR.out (by omega)
      have c0 := hc k hlt
      clear hc
      go_wp2_with fail
      go_round
      case rel => exact ⟨k + 1, by omega, by go_num⟩
      case measure => simp [intOf]; omega
    · obtain rfl : n = k := by omega
      go_wp2_with fail
      go_loopw [8, 85] (fun s i wr => ∃ k : Nat, k ≤ n ∧ i = .int .i64 k ∧ OwnI wr w.heap.size 5 .u8 s (k) (pk8 z) ∧ Kept None' w wr) (fun _ i _ => n - (intOf i).toNat)
      case atStart => exact ⟨0, by omega, rfl, OwnI.nil _ _ _ _ _, Kept.refl _ _⟩
      case round =>
        obtain ⟨k2, hk2, rfl, hown, hkp⟩ := hrel
        have HO := Lib.hid (And.intro hown hkp)
        clear hown hkp
        by_cases hlt2 : k2 < n
        · obtain ⟨⟨z1, z2⟩, d1, d2⟩ := dec_in (okTo_at HK.out hlt2)
          obtain ⟨b, o, rfl, hc⟩ := HR.out (by omega)
          have c0 := HO.out.2.some (hc k2 hlt2) id
          clear hc
          go_wp2_with (first
            | (at_builtin; refine wpList_append_kept _ rfl _ _ 101 rfl w.heap.size 5 i0 (.int .u8 0) 1 1 Try.underlying101 hi hz0 hz1 hz2 rfl (by decide) _ _ _ rfl (OwnI.kept HO.out.1 ((Kept.refl _ _).alloc _ _)) ⟨wr.heap.size, 0, none⟩ 1 1 [.int .u8 (z k2)] rfl rfl ?c1 ?c2 (by decide) ?c3 ?c4 ?c5 ?_
               case c1 => exact news_alloc wr _ _
               case c2 => intro u hu; simp at hu; subst hu; rfl
               case c3 => unfold maxLen; omega
               case c4 => omega
               case c5 => exact Nat.le_trans HO.out.2.size (by simp)
               intro g9 cap2 w3 hown3 hk3 hb3)
            | fail)
          go_roundw
          case rel => exact ⟨k2 + 1, by omega, by go_num, OwnI.app1 hown3 rfl, HO.out.1.over' ((Kept.refl _ _).alloc _ _) HO.out.2 hk3⟩
          case measure => simp [intOf]; omega
        · obtain rfl : n = k2 := by omega
          have hs := own_string HO.out.1
          go_wp2_with fail
          go_ret2
          exact ⟨rfl, HO.out.2⟩
set_option linter.unusedSimpArgs false in
set_option linter.unusedVariables false in
set_option maxHeartbeats 2000000 in
set_option maxRecDepth 100000 in
theorem pack16_ok (A : Option Addr) (n cap : Nat) (z : Nat → Int) (w : World) (hn : n ≤ 65536) (hr : Rd w A n (fun i => .int .i64 (z i))) (hok : okTo z 65535 n = true) :
    Calls Try.prog 28 #[.slice A n cap, .int .i64 16] w fun e w' => e = .returned (.tuple #[.string (strG (2 * n) (pk16 z)), .int .i64 0]) ∧ Kept None' w w' := by
  obtain ⟨i0, hi, hz0, hz1, hz2⟩ := info_parts byte_info
  have HR := Lib.hid hr
  have HK := Lib.hid hok
  clear hr hok
  go_enter Try.func28, Try.ntmps28
  go_wp2_with (first | (go_at_call 75; refine (packed_any 16 _).mono ?_; rw [show pkB 16 = true from rfl]; rintro e w' ⟨rfl, rfl⟩) | fail)
  go_loop [24] (fun i => ∃ k : Nat, k ≤ n ∧ i = .int .i64 k) (fun i => n - (intOf i).toNat)
  case atStart => exact ⟨0, by omega, rfl⟩
  case round =>
    obtain ⟨k, hk, rfl⟩ := hrel
    by_cases hlt : k < n
    · obtain ⟨⟨z1, z2⟩, d1, d2⟩ := dec_in (okTo_at HK.out hlt)
      obtain ⟨b, o, rfl, hc⟩ := HR.out (by omega)
      have c0 := hc k hlt
      clear hc
      go_wp2_with fail
      go_round
      case rel => exact ⟨k + 1, by omega, by go_num⟩
      case measure => simp [intOf]; omega
    · obtain rfl : n = k := by omega
      go_wp2_with fail
      go_loopw [8, 99] (fun s i wr => ∃ k : Nat, k ≤ n ∧ i = .int .i64 k ∧ OwnI wr w.heap.size 5 .u8 s (2 * k) (pk16 z) ∧ Kept None' w wr) (fun _ i _ => n - (intOf i).toNat)
      case atStart => exact ⟨0, by omega, rfl, OwnI.nil _ _ _ _ _, Kept.refl _ _⟩
      case round =>
        obtain ⟨k2, hk2, rfl, hown, hkp⟩ := hrel
        have HO := Lib.hid (And.intro hown hkp)
        clear hown hkp
        by_cases hlt2 : k2 < n
        · obtain ⟨⟨z1, z2⟩, d1, d2⟩ := dec_in (okTo_at HK.out hlt2)
          obtain ⟨b, o, rfl, hc⟩ := HR.out (by omega)
          have c0 := HO.out.2.some (hc k2 hlt2) id
          clear hc
          go_wp2_with (first
            | (at_builtin; refine wpList_append_kept _ rfl _ _ 101 rfl w.heap.size 5 i0 (.int .u8 0) 1 1 Try.underlying101 hi hz0 hz1 hz2 rfl (by decide) _ _ _ rfl (OwnI.kept HO.out.1 ((Kept.refl _ _).alloc _ _)) ⟨wr.heap.size, 0, none⟩ 2 2 [.int .u8 (z k2 / 256), .int .u8 (z k2 % 256)] rfl rfl ?c1 ?c2 (by decide) ?c3 ?c4 ?c5 ?_
               case c1 => exact news_alloc wr _ _
               case c2 => intro u hu; simp at hu; rcases hu with rfl | rfl <;> rfl
               case c3 => unfold maxLen; omega
               case c4 => omega
               case c5 => exact Nat.le_trans HO.out.2.size (by simp)
               intro g9 cap2 w3 hown3 hk3 hb3)
            | fail)
          go_roundw
          case rel => exact ⟨k2 + 1, by omega, by go_num, OwnI.app2 hown3 (pk16_at z k2).1 (pk16_at z k2).2, HO.out.1.over' ((Kept.refl _ _).alloc _ _) HO.out.2 hk3⟩
          case measure => simp [intOf]; omega
        · obtain rfl : n = k2 := by omega
          have hs := own_string HO.out.1
          go_wp2_with fail
          go_ret2
          exact ⟨rfl, HO.out.2⟩
set_option linter.unusedSimpArgs false in
set_option linter.unusedVariables false in
set_option maxHeartbeats 2000000 in
set_option maxRecDepth 100000 in
theorem pack10_ok (A : Option Addr) (n cap : Nat) (z : Nat → Int) (w : World) (hn : n ≤ 65536) (hr : Rd w A n (fun i => .int .i64 (z i))) (hok : okTo z 1023 n = true) :
    Calls Try.prog 28 #[.slice A n cap, .int .i64 10] w fun e w' => e = .returned (.tuple #[.string (strG (4 * ((n + 2) / 3)) (pk10 z n)), .int .i64 0]) ∧ Kept None' w w' := by
  obtain ⟨i0, hi, hz0, hz1, hz2⟩ := info_parts byte_info
  have HR := Lib.hid hr
  have HK := Lib.hid hok
  clear hr hok
  go_enter Try.func28, Try.ntmps28
  go_wp2_with (first | (go_at_call 75; refine (packed_any 10 _).mono ?_; rw [show pkB 10 = true from rfl]; rintro e w' ⟨rfl, rfl⟩) | fail)
  go_loop [24] (fun i => ∃ k : Nat, k ≤ n ∧ i = .int .i64 k) (fun i => n - (intOf i).toNat)
  case atStart => exact ⟨0, by omega, rfl⟩
  case round =>
    obtain ⟨k, hk, rfl⟩ := hrel
    by_cases hlt : k < n
    · obtain ⟨⟨z1, z2⟩, d1, d2⟩ := dec_in (okTo_at HK.out hlt)
      obtain ⟨b, o, rfl, hc⟩ := HR.out (by omega)
      have c0 := hc k hlt
      clear hc
      go_wp2_with fail
      go_round
      case rel => exact ⟨k + 1, by omega, by go_num⟩
      case measure => simp [intOf]; omega
    · obtain rfl : n = k := by omega
      go_wp2_with fail
      go_loopw [8, 13] (fun s i wr => ∃ g : Nat, 3 * g ≤ n + 2 ∧ i = .int .i64 (3 * (g : Int)) ∧ OwnI wr w.heap.size 5 .u8 s (4 * g) (pk10 z n) ∧ Kept None' w wr) (fun _ i _ => n + 3 - (intOf i).toNat)
      case atStart => exact ⟨0, by omega, rfl, OwnI.nil _ _ _ _ _, Kept.refl _ _⟩
      case round =>
        obtain ⟨g, hg, rfl, hown, hkp⟩ := hrel
        have HO := Lib.hid (And.intro hown hkp)
        clear hown hkp
        by_cases hlt2 : 3 * g < n
        · have d3 : decide (3 * (g : Int) < (n : Int)) = true := by simp; omega
          obtain ⟨b, o, rfl, hc⟩ := HR.out (by omega)
          have HC := Lib.hid (fun i hi => HO.out.2.some (hc i hi) id)
          clear hc
          go_wp2_with fail
          go_loop [14, 45] (fun t j => ∃ k : Nat, k ≤ 3 ∧ j = .int .i64 k ∧ t = .int .i64 (pkW z n g k)) (fun _ j => 3 - (intOf j).toNat)
          case atStart => exact ⟨0, by omega, rfl, rfl⟩
          case round =>
            obtain ⟨k, hk, rfl, rfl⟩ := hrel
            obtain ⟨⟨p1, p2⟩, ⟨p3, p4⟩, p5, p6⟩ := pkW_in HK.out g
            have q1 : 0 ≤ pkW z n g k ∧ (k < 3 → pkW z n g k ≤ 1048575) ∧ pkW z n g k ≤ 1073741823 := by
              obtain rfl | rfl | rfl | rfl : k = 0 ∨ k = 1 ∨ k = 2 ∨ k = 3 := by omega
              · simp [pkW]
              · omega
              · omega
              · omega
            obtain ⟨q1, q2, q3⟩ := q1
            by_cases hlt3 : k < 3
            · have q2 := q2 hlt3
              have hWs : pkW z n g (k + 1) = pkW z n g k * 1024 + pkF z n (3 * g + k) := rfl
              by_cases hin : 3 * g + k < n
              · obtain ⟨z1, z2⟩ := inB_iff.1 (okTo_at HK.out hin)
                have c0 := HC.out (3 * g + k) hin
                have hF : pkF z n (3 * g + k) = z (3 * g + k) := by unfold pkF; rw [if_pos hin]
                rw [hF] at hWs
                have HW := Lib.hid hWs
                have d4 : decide (3 * (g : Int) + k < (n : Int)) = true := by simp; omega
                have e5 : (3 * (g : Int) + k).toNat = 3 * g + k := by omega
                have HQ := Lib.hid (And.intro p1 (And.intro p2 (And.intro p3 p4)))
                clear hWs hF p1 p2 p3 p4 p5 p6
                generalize pkW z n g k = u at *
                generalize z (3 * g + k) = v at *
                have hor := or_1024 u v q1 q2 z1 z2
                go_wp2_with fail
                go_round
                case rel => exact ⟨k + 1, by omega, by go_num, by rw [HW.out]⟩
                case measure => simp [intOf]; omega
              · have hF : pkF z n (3 * g + k) = 0 := by unfold pkF; rw [if_neg hin]
                rw [hF] at hWs
                have HW := Lib.hid hWs
                have d4 : decide (3 * (g : Int) + k < (n : Int)) = false := by simp; omega
                clear hWs hF p1 p2 p3 p4 p5 p6
                go_wp2_with fail
                go_round
                case rel => exact ⟨k + 1, by omega, by go_num, by rw [HW.out]; go_num⟩
                case measure => simp [intOf]; omega
            · obtain rfl : k = 3 := by omega
              have P0 := pk10_at z n g
              have HP := Lib.hid P0
              clear P0 hlt3 q2 p1 p2 p3 p4
              generalize pkW z n g 3 = u at *
              go_wp2_with (first
                | (at_builtin; refine wpList_append_kept _ rfl _ _ 101 rfl w.heap.size 5 i0 (.int .u8 0) 1 1 Try.underlying101 hi hz0 hz1 hz2 rfl (by decide) _ _ _ rfl (OwnI.kept HO.out.1 ((Kept.refl _ _).alloc _ _)) ⟨wr.heap.size, 0, none⟩ 4 4 [.int .u8 (u * 4 / 16777216), .int .u8 (u * 4 / 65536 % 256), .int .u8 (u * 4 / 256 % 256), .int .u8 (u * 4 % 256)] rfl rfl ?c1 ?c2 (by decide) ?c3 ?c4 ?c5 ?_
                   case c1 => exact news_alloc wr _ _
                   case c2 => intro u hu; simp at hu; rcases hu with rfl | rfl | rfl | rfl <;> rfl
                   case c3 => unfold maxLen; omega
                   case c4 => omega
                   case c5 => exact Nat.le_trans HO.out.2.size (by simp)
                   intro g9 cap2 w3 hown3 hk3 hb3)
                | fail)
              go_roundw
              case rel => exact ⟨g + 1, by omega, by go_num, OwnI.app4 hown3 HP.out.1 HP.out.2.1 HP.out.2.2.1 HP.out.2.2.2, HO.out.1.over' ((Kept.refl _ _).alloc _ _) HO.out.2 hk3⟩
              case measure => simp [intOf]; omega
        · have d3 : decide (3 * (g : Int) < (n : Int)) = false := by simp; omega
          obtain rfl : g = (n + 2) / 3 := by omega
          have hs := own_string HO.out.1
          go_wp2_with fail
          go_ret2
          exact ⟨rfl, HO.out.2⟩
set_option linter.unusedSimpArgs false in
set_option linter.unusedVariables false in
set_option maxHeartbeats 2000000 in
set_option maxRecDepth 100000 in
theorem packed8_ok (A : Option Addr) (n cap : Nat) (z : Nat → Int) (w : World) (hn : n ≤ 65536) (hr : Rd w A n (fun i => .int .i64 (z i))) (hok : okTo z 255 n = true) :
    Calls Try.prog 29 #[.slice A n cap, .int .i64 8] w fun e w' => e = .returned (.string (strG n (pk8 z))) ∧ Kept None' w w' := by
  obtain ⟨i0, hi, hz0, hz1, hz2⟩ := info_parts byte_info
  have HR := Lib.hid hr
  have HK := Lib.hid hok
  clear hr hok
  go_enter Try.func29, Try.ntmps29
  go_wp2_with fail
  go_loopw [5, 60] (fun s i wr => ∃ k : Nat, k ≤ n ∧ i = .int .i64 k ∧ OwnI wr w.heap.size 5 .u8 s (k) (pk8 z) ∧ Kept None' w wr) (fun _ i _ => n - (intOf i).toNat)
  case atStart => exact ⟨0, by omega, rfl, OwnI.nil _ _ _ _ _, Kept.refl _ _⟩
  case round =>
    obtain ⟨k2, hk2, rfl, hown, hkp⟩ := hrel
    have HO := Lib.hid (And.intro hown hkp)
    clear hown hkp
    by_cases hlt2 : k2 < n
    · obtain ⟨⟨z1, z2⟩, d1, d2⟩ := dec_in (okTo_at HK.out hlt2)
      obtain ⟨b, o, rfl, hc⟩ := HR.out (by omega)
      have c0 := HO.out.2.some (hc k2 hlt2) id
      clear hc
      go_wp2_with (first
        | (at_builtin; refine wpList_append_kept _ rfl _ _ 101 rfl w.heap.size 5 i0 (.int .u8 0) 1 1 Try.underlying101 hi hz0 hz1 hz2 rfl (by decide) _ _ _ rfl (OwnI.kept HO.out.1 ((Kept.refl _ _).alloc _ _)) ⟨wr.heap.size, 0, none⟩ 1 1 [.int .u8 (z k2)] rfl rfl ?c1 ?c2 (by decide) ?c3 ?c4 ?c5 ?_
           case c1 => exact news_alloc wr _ _
           case c2 => intro u hu; simp at hu; subst hu; rfl
           case c3 => unfold maxLen; omega
           case c4 => omega
           case c5 => exact Nat.le_trans HO.out.2.size (by simp)
           intro g9 cap2 w3 hown3 hk3 hb3)
        | fail)
      go_roundw
      case rel => exact ⟨k2 + 1, by omega, by go_num, OwnI.app1 hown3 rfl, HO.out.1.over' ((Kept.refl _ _).alloc _ _) HO.out.2 hk3⟩
      case measure => simp [intOf]; omega
    · obtain rfl : n = k2 := by omega
      have hs := own_string HO.out.1
      go_wp2_with fail
      go_ret
      exact ⟨rfl, HO.out.2⟩
set_option linter.unusedSimpArgs false in
set_option linter.unusedVariables false in
set_option maxHeartbeats 2000000 in
set_option maxRecDepth 100000 in
theorem packed16_ok (A : Option Addr) (n cap : Nat) (z : Nat → Int) (w : World) (hn : n ≤ 65536) (hr : Rd w A n (fun i => .int .i64 (z i))) (hok : okTo z 65535 n = true) :
    Calls Try.prog 29 #[.slice A n cap, .int .i64 16] w fun e w' => e = .returned (.string (strG (2 * n) (pk16 z))) ∧ Kept None' w w' := by
  obtain ⟨i0, hi, hz0, hz1, hz2⟩ := info_parts byte_info
  have HR := Lib.hid hr
  have HK := Lib.hid hok
  clear hr hok
  go_enter Try.func29, Try.ntmps29
  go_wp2_with fail
  go_loopw [5, 74] (fun s i wr => ∃ k : Nat, k ≤ n ∧ i = .int .i64 k ∧ OwnI wr w.heap.size 5 .u8 s (2 * k) (pk16 z) ∧ Kept None' w wr) (fun _ i _ => n - (intOf i).toNat)
  case atStart => exact ⟨0, by omega, rfl, OwnI.nil _ _ _ _ _, Kept.refl _ _⟩
  case round =>
    obtain ⟨k2, hk2, rfl, hown, hkp⟩ := hrel
    have HO := Lib.hid (And.intro hown hkp)
    clear hown hkp
    by_cases hlt2 : k2 < n
    · obtain ⟨⟨z1, z2⟩, d1, d2⟩ := dec_in (okTo_at HK.out hlt2)
      obtain ⟨b, o, rfl, hc⟩ := HR.out (by omega)
      have c0 := HO.out.2.some (hc k2 hlt2) id
      clear hc
      go_wp2_with (first
        | (at_builtin; refine wpList_append_kept _ rfl _ _ 101 rfl w.heap.size 5 i0 (.int .u8 0) 1 1 Try.underlying101 hi hz0 hz1 hz2 rfl (by decide) _ _ _ rfl (OwnI.kept HO.out.1 ((Kept.refl _ _).alloc _ _)) ⟨wr.heap.size, 0, none⟩ 2 2 [.int .u8 (z k2 / 256), .int .u8 (z k2 % 256)] rfl rfl ?c1 ?c2 (by decide) ?c3 ?c4 ?c5 ?_
           case c1 => exact news_alloc wr _ _
           case c2 => intro u hu; simp at hu; rcases hu with rfl | rfl <;> rfl
           case c3 => unfold maxLen; omega
           case c4 => omega
           case c5 => exact Nat.le_trans HO.out.2.size (by simp)
           intro g9 cap2 w3 hown3 hk3 hb3)
        | fail)
      go_roundw
      case rel => exact ⟨k2 + 1, by omega, by go_num, OwnI.app2 hown3 (pk16_at z k2).1 (pk16_at z k2).2, HO.out.1.over' ((Kept.refl _ _).alloc _ _) HO.out.2 hk3⟩
      case measure => simp [intOf]; omega
    · obtain rfl : n = k2 := by omega
      have hs := own_string HO.out.1
      go_wp2_with fail
      go_ret
      exact ⟨rfl, HO.out.2⟩
set_option linter.unusedSimpArgs false in
set_option linter.unusedVariables false in
set_option maxHeartbeats 2000000 in
set_option maxRecDepth 100000 in
theorem packed10_ok (A : Option Addr) (n cap : Nat) (z : Nat → Int) (w : World) (hn : n ≤ 65536) (hr : Rd w A n (fun i => .int .i64 (z i))) (hok : okTo z 1023 n = true) :
    Calls Try.prog 29 #[.slice A n cap, .int .i64 10] w fun e w' => e = .returned (.string (strG (4 * ((n + 2) / 3)) (pk10 z n))) ∧ Kept None' w w' := by
  obtain ⟨i0, hi, hz0, hz1, hz2⟩ := info_parts byte_info
  have HR := Lib.hid hr
  have HK := Lib.hid hok
  clear hr hok
  go_enter Try.func29, Try.ntmps29
  go_wp2_with fail
  go_loopw [5, 10] (fun s i wr => ∃ g : Nat, 3 * g ≤ n + 2 ∧ i = .int .i64 (3 * (g : Int)) ∧ OwnI wr w.heap.size 5 .u8 s (4 * g) (pk10 z n) ∧ Kept None' w wr) (fun _ i _ => n + 3 - (intOf i).toNat)
  case atStart => exact ⟨0, by omega, rfl, OwnI.nil _ _ _ _ _, Kept.refl _ _⟩
  case round =>
    obtain ⟨g, hg, rfl, hown, hkp⟩ := hrel
    have HO := Lib.hid (And.intro hown hkp)
    clear hown hkp
    by_cases hlt2 : 3 * g < n
    · have d3 : decide (3 * (g : Int) < (n : Int)) = true := by simp; omega
      obtain ⟨b, o, rfl, hc⟩ := HR.out (by omega)
      have HC := Lib.hid (fun i hi => HO.out.2.some (hc i hi) id)
      clear hc
      go_wp2_with fail
      go_loop [11, 20] (fun t j => ∃ k : Nat, k ≤ 3 ∧ j = .int .i64 k ∧ t = .int .i64 (pkW z n g k)) (fun _ j => 3 - (intOf j).toNat)
      case atStart => exact ⟨0, by omega, rfl, rfl⟩
      case round =>
        obtain ⟨k, hk, rfl, rfl⟩ := hrel
        obtain ⟨⟨p1, p2⟩, ⟨p3, p4⟩, p5, p6⟩ := pkW_in HK.out g
        have q1 : 0 ≤ pkW z n g k ∧ (k < 3 → pkW z n g k ≤ 1048575) ∧ pkW z n g k ≤ 1073741823 := by
          obtain rfl | rfl | rfl | rfl : k = 0 ∨ k = 1 ∨ k = 2 ∨ k = 3 := by omega
          · simp [pkW]
          · omega
          · omega
          · omega
        obtain ⟨q1, q2, q3⟩ := q1
        by_cases hlt3 : k < 3
        · have q2 := q2 hlt3
          have hWs : pkW z n g (k + 1) = pkW z n g k * 1024 + pkF z n (3 * g + k) := rfl
          by_cases hin : 3 * g + k < n
          · obtain ⟨z1, z2⟩ := inB_iff.1 (okTo_at HK.out hin)
            have c0 := HC.out (3 * g + k) hin
            have hF : pkF z n (3 * g + k) = z (3 * g + k) := by unfold pkF; rw [if_pos hin]
            rw [hF] at hWs
            have HW := Lib.hid hWs
            have d4 : decide (3 * (g : Int) + k < (n : Int)) = true := by simp; omega
            have e5 : (3 * (g : Int) + k).toNat = 3 * g + k := by omega
            have HQ := Lib.hid (And.intro p1 (And.intro p2 (And.intro p3 p4)))
            clear hWs hF p1 p2 p3 p4 p5 p6
            generalize pkW z n g k = u at *
            generalize z (3 * g + k) = v at *
            skip
            go_wp2_with fail
            go_round
            case rel => exact ⟨k + 1, by omega, by go_num, by rw [HW.out]⟩
            case measure => simp [intOf]; omega
          · have hF : pkF z n (3 * g + k) = 0 := by unfold pkF; rw [if_neg hin]
            rw [hF] at hWs
            have HW := Lib.hid hWs
            have d4 : decide (3 * (g : Int) + k < (n : Int)) = false := by simp; omega
            clear hWs hF p1 p2 p3 p4 p5 p6
            go_wp2_with fail
            go_round
            case rel => exact ⟨k + 1, by omega, by go_num, by rw [HW.out]; go_num⟩
            case measure => simp [intOf]; omega
        · obtain rfl : k = 3 := by omega
          have P0 := pk10_at z n g
          have HP := Lib.hid P0
          clear P0 hlt3 q2 p1 p2 p3 p4
          generalize pkW z n g 3 = u at *
          go_wp2_with (first
            | (at_builtin; refine wpList_append_kept _ rfl _ _ 101 rfl w.heap.size 5 i0 (.int .u8 0) 1 1 Try.underlying101 hi hz0 hz1 hz2 rfl (by decide) _ _ _ rfl (OwnI.kept HO.out.1 ((Kept.refl _ _).alloc _ _)) ⟨wr.heap.size, 0, none⟩ 4 4 [.int .u8 (u * 4 / 16777216), .int .u8 (u * 4 / 65536 % 256), .int .u8 (u * 4 / 256 % 256), .int .u8 (u * 4 % 256)] rfl rfl ?c1 ?c2 (by decide) ?c3 ?c4 ?c5 ?_
               case c1 => exact news_alloc wr _ _
               case c2 => intro u hu; simp at hu; rcases hu with rfl | rfl | rfl | rfl <;> rfl
               case c3 => unfold maxLen; omega
               case c4 => omega
               case c5 => exact Nat.le_trans HO.out.2.size (by simp)
               intro g9 cap2 w3 hown3 hk3 hb3)
            | fail)
          go_roundw
          case rel => exact ⟨g + 1, by omega, by go_num, OwnI.app4 hown3 HP.out.1 HP.out.2.1 HP.out.2.2.1 HP.out.2.2.2, HO.out.1.over' ((Kept.refl _ _).alloc _ _) HO.out.2 hk3⟩
          case measure => simp [intOf]; omega
    · have d3 : decide (3 * (g : Int) < (n : Int)) = false := by simp; omega
      obtain rfl : g = (n + 2) / 3 := by omega
      have hs := own_string HO.out.1
      go_wp2_with fail
      go_ret
      exact ⟨rfl, HO.out.2⟩
end Go.Proofs.Ytfphhlodfieopaa
