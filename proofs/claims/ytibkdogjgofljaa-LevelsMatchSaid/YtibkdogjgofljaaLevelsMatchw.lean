/- The walk of LevelsMatch: it answers true. Conditions: none. -/
import Derived.Test.YtibkdogjgofljaaLw
namespace Go.Proofs.Ytibkdogjgofljaa
open Go.RowKit
open Fl

theorem ord00 : FloatKind.f32.format.order 0 0 = some .eq := by decide +kernel
def LmPost (w : World) (e : Ending) (w' : World) : Prop := e = .returned (.bool true) ∧ Grown w w'

section
variable (v o : Nat) (n d how s x y c : Int) (w : World)
set_option maxHeartbeats 1000000 in
set_option maxRecDepth 100000 in
theorem lm_0_deep (a b : Nat) (hh : how < 0 ∨ 2 < how) (hd : d < 1 ∨ 16 < d)  (ha : x % 8 = a) (hb : y % 8 = b) :
    Calls Try.prog 3 #[.float .f32 v, .float .f32 o, .int .i64 n, .int .i64 d, .int .i64 how, .int .u32 s, .int .i64 x, .int .i64 y, .int .i64 c] w (LmPost w) := by
  have h00 := ord00
  have i1 : (decide (0 ≤ how) && decide (how ≤ 2)) = false := by simp; omega
  have i2 : (decide (1 ≤ d) && decide (d ≤ 16)) = false := by simp; omega
  have Ha := Lib.hid ha
  have Hb := Lib.hid hb
  clear ha hb
  have Hh := Lib.hid hh
  clear hh
  have Hd := Lib.hid hd
  clear hd
  go_enter Try.func3, Try.ntmps3
  go_wp2_with (first
    | (go_at_call 11; refine (Level_err _ _ _ _ Hd.out).mono ?_; rintro e w' ⟨rfl, n, rfl⟩)
    | (go_at_call 12; refine (Value_deep _ _ _ Hd.out).mono ?_; rintro e w' ⟨rfl, rfl⟩)
    | (go_at_call 13; refine (offset_err _ _ _ _ _ _ Hh.out).mono ?_; rintro e w' ⟨rfl, rfl⟩)
    | (go_at_call 14; refine (finishes_any _).mono ?_; rintro e w' ⟨rfl, n, rfl⟩)
    | (go_at_call 15; refine (ordered_any _ _ a b _ Ha.out Hb.out).mono ?_; rintro e w' ⟨rfl, rfl⟩)
    | (go_at_call 16; refine (orderedof_any _ _ a b _ Ha.out Hb.out).mono ?_; rintro e w' ⟨rfl, n, rfl⟩)
    | (go_at_call 17; refine (in_any _ _ _ _).mono ?_; rintro e w' ⟨rfl, rfl⟩))
  go_ret
  exact ⟨rfl, Grown.refl _⟩
set_option maxHeartbeats 1000000 in
set_option maxRecDepth 100000 in
theorem lm_0_bad (a b : Nat) (hh : how < 0 ∨ 2 < how) (d1 : 1 ≤ d) (d2 : d ≤ 16) (M : Int) (hM : wrap64 (wrap64 (2 ^ d.toNat) - 1) = M) (m1 : 1 ≤ M) (m2 : M ≤ 65535) (hn : n < 0 ∨ M < n) (ha : x % 8 = a) (hb : y % 8 = b) :
    Calls Try.prog 3 #[.float .f32 v, .float .f32 o, .int .i64 n, .int .i64 d, .int .i64 how, .int .u32 s, .int .i64 x, .int .i64 y, .int .i64 c] w (LmPost w) := by
  have h00 := ord00
  have i1 : (decide (0 ≤ how) && decide (how ≤ 2)) = false := by simp; omega
  have i2 : (decide (1 ≤ d) && decide (d ≤ 16)) = true := by simp; omega
  have i3 : (decide (0 ≤ n) && decide (n ≤ M)) = false := by simp; omega
  have Ha := Lib.hid ha
  have Hb := Lib.hid hb
  clear ha hb
  have HM := Lib.hid hM
  have Hh := Lib.hid hh
  clear hh
  have Hn := Lib.hid hn
  clear hn
  go_enter Try.func3, Try.ntmps3
  go_wp2_with (first
    | (go_at_call 11; refine (Level_ok _ _ _ M _ d1 d2 HM.out m1 m2).mono ?_; rintro e w' ⟨rfl, n, rfl⟩)
    | (go_at_call 20; refine (levelof_any _ _ _ M _ d1 d2 HM.out m1 m2).mono ?_; rintro e w' ⟨rfl, n, rfl⟩)
    | (go_at_call 12; refine (Value_err _ _ M _ d1 d2 HM.out Hn.out).mono ?_; rintro e w' ⟨rfl, rfl⟩)
    | (go_at_call 13; refine (offset_err _ _ _ _ _ _ Hh.out).mono ?_; rintro e w' ⟨rfl, rfl⟩)
    | (go_at_call 14; refine (finishes_any _).mono ?_; rintro e w' ⟨rfl, n, rfl⟩)
    | (go_at_call 15; refine (ordered_any _ _ a b _ Ha.out Hb.out).mono ?_; rintro e w' ⟨rfl, rfl⟩)
    | (go_at_call 16; refine (orderedof_any _ _ a b _ Ha.out Hb.out).mono ?_; rintro e w' ⟨rfl, n, rfl⟩)
    | (go_at_call 17; refine (in_any _ _ _ _).mono ?_; rintro e w' ⟨rfl, rfl⟩))
  go_ret
  exact ⟨rfl, Grown.refl _⟩
set_option maxHeartbeats 1000000 in
set_option maxRecDepth 100000 in
theorem lm_0_ok (a b : Nat) (hh : how < 0 ∨ 2 < how) (d1 : 1 ≤ d) (d2 : d ≤ 16) (M : Int) (hM : wrap64 (wrap64 (2 ^ d.toNat) - 1) = M) (m1 : 1 ≤ M) (m2 : M ≤ 65535) (n1 : 0 ≤ n) (n2 : n ≤ M) (ha : x % 8 = a) (hb : y % 8 = b) :
    Calls Try.prog 3 #[.float .f32 v, .float .f32 o, .int .i64 n, .int .i64 d, .int .i64 how, .int .u32 s, .int .i64 x, .int .i64 y, .int .i64 c] w (LmPost w) := by
  have h00 := ord00
  have i1 : (decide (0 ≤ how) && decide (how ≤ 2)) = false := by simp; omega
  have i2 : (decide (1 ≤ d) && decide (d ≤ 16)) = true := by simp; omega
  have i3 : (decide (0 ≤ n) && decide (n ≤ M)) = true := by simp; omega
  have hb0 : levelP (valP n M) 0 M = n := level_value n M n1 n2 m1 m2
  have Ha := Lib.hid ha
  have Hb := Lib.hid hb
  clear ha hb
  have HM := Lib.hid hM
  have Hh := Lib.hid hh
  clear hh
  go_enter Try.func3, Try.ntmps3
  go_wp2_with (first
    | (go_at_call 11; refine (Level_ok _ _ _ M _ d1 d2 HM.out m1 m2).mono ?_; rintro e w' ⟨rfl, n, rfl⟩)
    | (go_at_call 20; refine (levelof_any _ _ _ M _ d1 d2 HM.out m1 m2).mono ?_; rintro e w' ⟨rfl, n, rfl⟩)
    | (go_at_call 12; refine (Value_ok _ _ M _ d1 d2 HM.out m1 m2 n1 n2).mono ?_; rintro e w' ⟨rfl, rfl⟩)
    | (go_at_call 21; refine (valueof_any _ _ M _ d1 d2 HM.out m1 m2 n1 n2).mono ?_; rintro e w' ⟨rfl, rfl⟩)
    | (go_at_call 13; refine (offset_err _ _ _ _ _ _ Hh.out).mono ?_; rintro e w' ⟨rfl, rfl⟩)
    | (go_at_call 18; refine (same_any _ _ _).mono ?_; rintro e w' ⟨rfl, rfl⟩)
    | (go_at_call 14; refine (finishes_any _).mono ?_; rintro e w' ⟨rfl, n, rfl⟩)
    | (go_at_call 15; refine (ordered_any _ _ a b _ Ha.out Hb.out).mono ?_; rintro e w' ⟨rfl, rfl⟩)
    | (go_at_call 16; refine (orderedof_any _ _ a b _ Ha.out Hb.out).mono ?_; rintro e w' ⟨rfl, n, rfl⟩)
    | (go_at_call 17; refine (in_any _ _ _ _).mono ?_; rintro e w' ⟨rfl, rfl⟩))
  go_ret
  exact ⟨rfl, Grown.refl _⟩
set_option maxHeartbeats 1000000 in
set_option maxRecDepth 100000 in
theorem lm_1_deep (a b : Nat) (h1 : 0 ≤ how) (h2 : how ≤ 2) (hd : d < 1 ∨ 16 < d)  (ha : x % 8 = a) (hb : y % 8 = b) :
    Calls Try.prog 3 #[.float .f32 v, .float .f32 o, .int .i64 n, .int .i64 d, .int .i64 how, .int .u32 s, .int .i64 x, .int .i64 y, .int .i64 c] w (LmPost w) := by
  have h00 := ord00
  have i1 : (decide (0 ≤ how) && decide (how ≤ 2)) = true := by simp; omega
  have i2 : (decide (1 ≤ d) && decide (d ≤ 16)) = false := by simp; omega
  have Ha := Lib.hid ha
  have Hb := Lib.hid hb
  clear ha hb
  have Hd := Lib.hid hd
  clear hd
  go_enter Try.func3, Try.ntmps3
  go_wp2_with (first
    | (go_at_call 11; refine (Level_err _ _ _ _ Hd.out).mono ?_; rintro e w' ⟨rfl, n, rfl⟩)
    | (go_at_call 12; refine (Value_deep _ _ _ Hd.out).mono ?_; rintro e w' ⟨rfl, rfl⟩)
    | (go_at_call 13; refine (offset_any _ _ _ _ _ a b _ h1 h2 Ha.out Hb.out).mono ?_; rintro e w' ⟨rfl, rfl⟩)
    | (go_at_call 19; refine (offsetof_any _ _ _ _ _ a b _ h1 h2 Ha.out Hb.out).mono ?_; rintro e w' ⟨rfl, hg⟩)
    | (go_at_call 18; refine (same_any _ _ _).mono ?_; rintro e w' ⟨rfl, rfl⟩)
    | (go_at_call 14; refine (finishes_any _).mono ?_; rintro e w' ⟨rfl, n, rfl⟩)
    | (go_at_call 15; refine (ordered_any _ _ a b _ Ha.out Hb.out).mono ?_; rintro e w' ⟨rfl, rfl⟩)
    | (go_at_call 16; refine (orderedof_any _ _ a b _ Ha.out Hb.out).mono ?_; rintro e w' ⟨rfl, n, rfl⟩)
    | (go_at_call 17; refine (in_any _ _ _ _).mono ?_; rintro e w' ⟨rfl, rfl⟩))
  go_ret
  exact ⟨rfl, hg⟩
set_option maxHeartbeats 1000000 in
set_option maxRecDepth 100000 in
theorem lm_1_bad (a b : Nat) (h1 : 0 ≤ how) (h2 : how ≤ 2) (d1 : 1 ≤ d) (d2 : d ≤ 16) (M : Int) (hM : wrap64 (wrap64 (2 ^ d.toNat) - 1) = M) (m1 : 1 ≤ M) (m2 : M ≤ 65535) (hn : n < 0 ∨ M < n) (ha : x % 8 = a) (hb : y % 8 = b) :
    Calls Try.prog 3 #[.float .f32 v, .float .f32 o, .int .i64 n, .int .i64 d, .int .i64 how, .int .u32 s, .int .i64 x, .int .i64 y, .int .i64 c] w (LmPost w) := by
  have h00 := ord00
  have i1 : (decide (0 ≤ how) && decide (how ≤ 2)) = true := by simp; omega
  have i2 : (decide (1 ≤ d) && decide (d ≤ 16)) = true := by simp; omega
  have i3 : (decide (0 ≤ n) && decide (n ≤ M)) = false := by simp; omega
  have Ha := Lib.hid ha
  have Hb := Lib.hid hb
  clear ha hb
  have HM := Lib.hid hM
  have Hn := Lib.hid hn
  clear hn
  go_enter Try.func3, Try.ntmps3
  go_wp2_with (first
    | (go_at_call 11; refine (Level_ok _ _ _ M _ d1 d2 HM.out m1 m2).mono ?_; rintro e w' ⟨rfl, n, rfl⟩)
    | (go_at_call 20; refine (levelof_any _ _ _ M _ d1 d2 HM.out m1 m2).mono ?_; rintro e w' ⟨rfl, n, rfl⟩)
    | (go_at_call 12; refine (Value_err _ _ M _ d1 d2 HM.out Hn.out).mono ?_; rintro e w' ⟨rfl, rfl⟩)
    | (go_at_call 13; refine (offset_any _ _ _ _ _ a b _ h1 h2 Ha.out Hb.out).mono ?_; rintro e w' ⟨rfl, rfl⟩)
    | (go_at_call 19; refine (offsetof_any _ _ _ _ _ a b _ h1 h2 Ha.out Hb.out).mono ?_; rintro e w' ⟨rfl, hg⟩)
    | (go_at_call 18; refine (same_any _ _ _).mono ?_; rintro e w' ⟨rfl, rfl⟩)
    | (go_at_call 14; refine (finishes_any _).mono ?_; rintro e w' ⟨rfl, n, rfl⟩)
    | (go_at_call 15; refine (ordered_any _ _ a b _ Ha.out Hb.out).mono ?_; rintro e w' ⟨rfl, rfl⟩)
    | (go_at_call 16; refine (orderedof_any _ _ a b _ Ha.out Hb.out).mono ?_; rintro e w' ⟨rfl, n, rfl⟩)
    | (go_at_call 17; refine (in_any _ _ _ _).mono ?_; rintro e w' ⟨rfl, rfl⟩))
  go_ret
  exact ⟨rfl, hg⟩
set_option maxHeartbeats 1000000 in
set_option maxRecDepth 100000 in
theorem lm_1_ok (a b : Nat) (h1 : 0 ≤ how) (h2 : how ≤ 2) (d1 : 1 ≤ d) (d2 : d ≤ 16) (M : Int) (hM : wrap64 (wrap64 (2 ^ d.toNat) - 1) = M) (m1 : 1 ≤ M) (m2 : M ≤ 65535) (n1 : 0 ≤ n) (n2 : n ≤ M) (ha : x % 8 = a) (hb : y % 8 = b) :
    Calls Try.prog 3 #[.float .f32 v, .float .f32 o, .int .i64 n, .int .i64 d, .int .i64 how, .int .u32 s, .int .i64 x, .int .i64 y, .int .i64 c] w (LmPost w) := by
  have h00 := ord00
  have i1 : (decide (0 ≤ how) && decide (how ≤ 2)) = true := by simp; omega
  have i2 : (decide (1 ≤ d) && decide (d ≤ 16)) = true := by simp; omega
  have i3 : (decide (0 ≤ n) && decide (n ≤ M)) = true := by simp; omega
  have hb0 : levelP (valP n M) 0 M = n := level_value n M n1 n2 m1 m2
  have Ha := Lib.hid ha
  have Hb := Lib.hid hb
  clear ha hb
  have HM := Lib.hid hM
  go_enter Try.func3, Try.ntmps3
  go_wp2_with (first
    | (go_at_call 11; refine (Level_ok _ _ _ M _ d1 d2 HM.out m1 m2).mono ?_; rintro e w' ⟨rfl, n, rfl⟩)
    | (go_at_call 20; refine (levelof_any _ _ _ M _ d1 d2 HM.out m1 m2).mono ?_; rintro e w' ⟨rfl, n, rfl⟩)
    | (go_at_call 12; refine (Value_ok _ _ M _ d1 d2 HM.out m1 m2 n1 n2).mono ?_; rintro e w' ⟨rfl, rfl⟩)
    | (go_at_call 21; refine (valueof_any _ _ M _ d1 d2 HM.out m1 m2 n1 n2).mono ?_; rintro e w' ⟨rfl, rfl⟩)
    | (go_at_call 13; refine (offset_any _ _ _ _ _ a b _ h1 h2 Ha.out Hb.out).mono ?_; rintro e w' ⟨rfl, rfl⟩)
    | (go_at_call 19; refine (offsetof_any _ _ _ _ _ a b _ h1 h2 Ha.out Hb.out).mono ?_; rintro e w' ⟨rfl, hg⟩)
    | (go_at_call 18; refine (same_any _ _ _).mono ?_; rintro e w' ⟨rfl, rfl⟩)
    | (go_at_call 14; refine (finishes_any _).mono ?_; rintro e w' ⟨rfl, n, rfl⟩)
    | (go_at_call 15; refine (ordered_any _ _ a b _ Ha.out Hb.out).mono ?_; rintro e w' ⟨rfl, rfl⟩)
    | (go_at_call 16; refine (orderedof_any _ _ a b _ Ha.out Hb.out).mono ?_; rintro e w' ⟨rfl, n, rfl⟩)
    | (go_at_call 17; refine (in_any _ _ _ _).mono ?_; rintro e w' ⟨rfl, rfl⟩))
  go_ret
  exact ⟨rfl, hg⟩
end

theorem walk_levelsMatch (v o : Nat) (n d how s x y c : Int) (_ : (Lit.float .f32 v).wf = true) (_ : (Lit.float .f32 o).wf = true) (_ : (Lit.int .i64 n).wf = true) (_ : (Lit.int .i64 d).wf = true) (_ : (Lit.int .i64 how).wf = true) (_ : (Lit.int .u32 s).wf = true) (_ : (Lit.int .i64 x).wf = true) (_ : (Lit.int .i64 y).wf = true) (_ : (Lit.int .i64 c).wf = true) (w : World) :
    Calls Try.prog 3 #[.float .f32 v, .float .f32 o, .int .i64 n, .int .i64 d, .int .i64 how, .int .u32 s, .int .i64 x, .int .i64 y, .int .i64 c] w fun e w' => e = .returned (.bool true) ∧ Grown w w' := by
  obtain ⟨a, ha⟩ : ∃ a : Nat, x % 8 = a := ⟨(x % 8).toNat, by omega⟩
  obtain ⟨b, hb⟩ : ∃ b : Nat, y % 8 = b := ⟨(y % 8).toNat, by omega⟩
  by_cases hh : 0 ≤ how ∧ how ≤ 2
  · by_cases hd : 1 ≤ d ∧ d ≤ 16
    · obtain ⟨M, hM, m1, m2⟩ := most_of d hd.1 hd.2
      by_cases hn : 0 ≤ n ∧ n ≤ M
      · exact lm_1_ok v o n d how s x y c w a b hh.1 hh.2 hd.1 hd.2 M hM m1 m2 hn.1 hn.2 ha hb
      · exact lm_1_bad v o n d how s x y c w a b hh.1 hh.2 hd.1 hd.2 M hM m1 m2 (by omega) ha hb
    · exact lm_1_deep v o n d how s x y c w a b hh.1 hh.2 (by omega) ha hb
  · by_cases hd : 1 ≤ d ∧ d ≤ 16
    · obtain ⟨M, hM, m1, m2⟩ := most_of d hd.1 hd.2
      by_cases hn : 0 ≤ n ∧ n ≤ M
      · exact lm_0_ok v o n d how s x y c w a b (by omega) hd.1 hd.2 M hM m1 m2 hn.1 hn.2 ha hb
      · exact lm_0_bad v o n d how s x y c w a b (by omega) hd.1 hd.2 M hM m1 m2 (by omega) ha hb
    · exact lm_0_deep v o n d how s x y c w a b (by omega) (by omega) ha hb
end Go.Proofs.Ytibkdogjgofljaa
