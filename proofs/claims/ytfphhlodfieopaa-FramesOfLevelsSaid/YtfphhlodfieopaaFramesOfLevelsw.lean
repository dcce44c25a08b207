/- The walk of FramesOfLevels. Conditions: none. -/
import Derived.Test.YtfphhlodfieopaaDj
import Derived.Test.YtfphhlodfieopaaUe
import Derived.Test.YtfphhlodfieopaaPa
import Derived.Test.YtfphhlodfieopaaLg
import Derived.Test.YtfphhlodfieopaaFi
import Derived.Test.YtfphhlodfieopaaRo
namespace Go.Proofs.Ytfphhlodfieopaa
open Go.RowKit
open Fl Fr
open BigFrame

theorem okTo_of {z : Nat → Int} {M : Int} : ∀ n : Nat, (∀ j, j < n → 0 ≤ z j ∧ z j ≤ M) → okTo z M n = true
  | 0, _ => rfl
  | n + 1, h => by
    show (okTo z M n && inB (z n) 0 M) = true
    rw [okTo_of n (fun j hj => h j (by omega)), inB_yes (h n (by omega)).1 (h n (by omega)).2]; rfl
theorem fr_yes {x y W H M : Int} {n : Nat} {z : Nat → Int} {w w' : World} {e : Ending} (hok : okTo z M n = true)
    (h : (okTo z M n = true ∧ ∃ B, w.heap.size ≤ B ∧ e = .returned (.tuple #[.agg #[.int .i64 x, .int .i64 y, .int .i64 W, .int .i64 H, .slice (some ⟨B, 0, none⟩) n n], .int .i64 0]) ∧ ∀ j, j < n → w'.cell? ⟨B, j, none⟩ = some (.float .f32 (valP (z j) M))) ∨ (okTo z M n = false ∧ e = .returned (.tuple #[zeroFrame, .int .i64 3]))) :
    ∃ B, w.heap.size ≤ B ∧ e = .returned (.tuple #[.agg #[.int .i64 x, .int .i64 y, .int .i64 W, .int .i64 H, .slice (some ⟨B, 0, none⟩) n n], .int .i64 0]) ∧ ∀ j, j < n → w'.cell? ⟨B, j, none⟩ = some (.float .f32 (valP (z j) M)) := by
  rcases h with h | h
  · exact h.2
  · rw [hok] at h; cases h.1
theorem lvK_bd (how s x y W M : Int) (z : Nat → Nat) (k : Nat) (h0 : 0 ≤ M) (h2 : M ≤ 16777216) : 0 ≤ lvK how s x y W M z k ∧ lvK how s x y W M z k ≤ M := level_bd _ _ _ h0 h2
theorem lvK_back (s x y W M : Int) (g : Nat → Int) (k : Nat) (h1 : 1 ≤ M) (h2 : M ≤ 65535) (hg : 0 ≤ g k ∧ g k ≤ M) : lvK 0 s x y W M (fun j => valP (g j) M) k = g k := by
  have h : offK 0 s x y W k = 0 := by
    unfold offK
    split
    · exact offP_0 ..
    · rfl
  unfold lvK
  rw [h]
  exact level_value (g k) M hg.1 hg.2 h1 h2

set_option linter.unusedSimpArgs false in
set_option linter.unusedVariables false in
set_option maxHeartbeats 8000000 in
set_option maxRecDepth 100000 in
theorem fl_A_true_true (x y W H : Int) (A : Option Addr) (n cap : Nat) (how s d E : Int) (w : World) (hF : frE x y W H n = E) (h0 : ¬ E = 0) (hd : inB d 1 16 = true) (hh : inB how 0 2 = true) :
    Calls Try.prog 8 #[.agg #[.int .i64 x, .int .i64 y, .int .i64 W, .int .i64 H, .slice A n cap], .int .i64 how, .int .u32 s, .int .i64 d] w fun e w' => e = .returned (.bool true) ∧ Kept None' w w' := by
  have hb : (E != 0) = true := by simp [h0]
  have hb2 : (E == 0) = false := by simp [h0]
  have HF := Lib.hid hF
  have H0 := Lib.hid h0
  clear hF
  go_enter Try.func8, Try.ntmps8
  go_upto_region 1 with (fail)
  refine of_world (fun w0 hW => ?_)
  have g0 : w0.cell? ⟨w.heap.size, 0, none⟩ = some (.int .i64 x) := by rw [hW]; go_simp
  have g1 : w0.cell? ⟨w.heap.size, 1, none⟩ = some (.int .i64 y) := by rw [hW]; go_simp
  have g2 : w0.cell? ⟨w.heap.size, 2, none⟩ = some (.int .i64 W) := by rw [hW]; go_simp
  have g3 : w0.cell? ⟨w.heap.size, 3, none⟩ = some (.int .i64 H) := by rw [hW]; go_simp
  have g4 : w0.cell? ⟨w.heap.size, 4, none⟩ = some (.slice A n cap) := by rw [hW]; go_simp
  have kb : Kept None' w w0 := by rw [hW]; exact (Kept.refl None' w).alloc _ _
  have KB := Lib.hid kb
  clear hW kb
  go_upto_region 11 with (first
    | (go_at_call 48; refine (levels_e1 x y W H A n cap how s d _ E HF.out H0.out).mono ?_; rintro e w1 ⟨rfl, hk1⟩; have g0 := hk1.some g0 id; have g1 := hk1.some g1 id; have g2 := hk1.some g2 id; have g3 := hk1.some g3 id; have g4 := hk1.some g4 id)
    | (go_at_call 49; refine (diffuse_e1 x y W H A n cap d _ E HF.out H0.out).mono ?_; rintro e w2 ⟨rfl, hk2⟩; have g0 := hk2.some g0 id; have g1 := hk2.some g1 id; have g2 := hk2.some g2 id; have g3 := hk2.some g3 id; have g4 := hk2.some g4 id)
    | (go_at_call 14; refine (when_any _ _ _).mono ?_; rintro e w' ⟨rfl, rfl⟩)
    | (go_at_call 15; refine (in_one _ _ _ _).mono ?_; (first | rw [hd] | rw [hh]); rintro e w' ⟨rfl, rfl⟩)
    | (go_at_call 33; refine (frameerror_any _ _ _ _ _ _ _ _).mono ?_; rw [HF.out]; rintro e w3 ⟨rfl, hk3⟩)
    | (go_at_call 16; refine (finishes_one _).mono ?_; rintro e w' ⟨rfl, nf, rfl⟩)
    | (go_at_call 12; refine (first2_any _ _ E 0 _ (by go_simp) (by go_simp)).mono ?_; rw [if_pos H0.out]; rintro e w' ⟨rfl, rfl⟩)
    | fail)
  go_wp2_with (first
    | (go_at_call 48; refine (levels_e1 x y W H A n cap how s d _ E HF.out H0.out).mono ?_; rintro e w1 ⟨rfl, hk1⟩; have g0 := hk1.some g0 id; have g1 := hk1.some g1 id; have g2 := hk1.some g2 id; have g3 := hk1.some g3 id; have g4 := hk1.some g4 id)
    | (go_at_call 49; refine (diffuse_e1 x y W H A n cap d _ E HF.out H0.out).mono ?_; rintro e w2 ⟨rfl, hk2⟩; have g0 := hk2.some g0 id; have g1 := hk2.some g1 id; have g2 := hk2.some g2 id; have g3 := hk2.some g3 id; have g4 := hk2.some g4 id)
    | (go_at_call 14; refine (when_any _ _ _).mono ?_; rintro e w' ⟨rfl, rfl⟩)
    | (go_at_call 15; refine (in_one _ _ _ _).mono ?_; (first | rw [hd] | rw [hh]); rintro e w' ⟨rfl, rfl⟩)
    | (go_at_call 33; refine (frameerror_any _ _ _ _ _ _ _ _).mono ?_; rw [HF.out]; rintro e w3 ⟨rfl, hk3⟩)
    | (go_at_call 16; refine (finishes_one _).mono ?_; rintro e w' ⟨rfl, nf, rfl⟩)
    | (go_at_call 12; refine (first3_any _ _ E 0 0 _ (by go_simp) (by go_simp) (by go_simp)).mono ?_; rw [if_pos H0.out]; rintro e w' ⟨rfl, rfl⟩)
    | fail)
  go_ret
  refine ⟨rfl, ?_⟩
  repeat (first | exact Kept.refl _ _ | refine Kept.drew ?_ _ | refine Kept.alloc ?_ _ _ | refine Kept.trans ?_ hk3 | refine Kept.trans ?_ hk2 | refine Kept.trans ?_ hk1 | exact KB.out)

set_option linter.unusedSimpArgs false in
set_option linter.unusedVariables false in
set_option maxHeartbeats 8000000 in
set_option maxRecDepth 100000 in
theorem fl_A_true_false (x y W H : Int) (A : Option Addr) (n cap : Nat) (how s d E : Int) (w : World) (hF : frE x y W H n = E) (h0 : ¬ E = 0) (hd : inB d 1 16 = true) (hh : inB how 0 2 = false) :
    Calls Try.prog 8 #[.agg #[.int .i64 x, .int .i64 y, .int .i64 W, .int .i64 H, .slice A n cap], .int .i64 how, .int .u32 s, .int .i64 d] w fun e w' => e = .returned (.bool true) ∧ Kept None' w w' := by
  have hb : (E != 0) = true := by simp [h0]
  have hb2 : (E == 0) = false := by simp [h0]
  have HF := Lib.hid hF
  have H0 := Lib.hid h0
  clear hF
  go_enter Try.func8, Try.ntmps8
  go_upto_region 1 with (fail)
  refine of_world (fun w0 hW => ?_)
  have g0 : w0.cell? ⟨w.heap.size, 0, none⟩ = some (.int .i64 x) := by rw [hW]; go_simp
  have g1 : w0.cell? ⟨w.heap.size, 1, none⟩ = some (.int .i64 y) := by rw [hW]; go_simp
  have g2 : w0.cell? ⟨w.heap.size, 2, none⟩ = some (.int .i64 W) := by rw [hW]; go_simp
  have g3 : w0.cell? ⟨w.heap.size, 3, none⟩ = some (.int .i64 H) := by rw [hW]; go_simp
  have g4 : w0.cell? ⟨w.heap.size, 4, none⟩ = some (.slice A n cap) := by rw [hW]; go_simp
  have kb : Kept None' w w0 := by rw [hW]; exact (Kept.refl None' w).alloc _ _
  have KB := Lib.hid kb
  clear hW kb
  go_upto_region 11 with (first
    | (go_at_call 48; refine (levels_e1 x y W H A n cap how s d _ E HF.out H0.out).mono ?_; rintro e w1 ⟨rfl, hk1⟩; have g0 := hk1.some g0 id; have g1 := hk1.some g1 id; have g2 := hk1.some g2 id; have g3 := hk1.some g3 id; have g4 := hk1.some g4 id)
    | (go_at_call 49; refine (diffuse_e1 x y W H A n cap d _ E HF.out H0.out).mono ?_; rintro e w2 ⟨rfl, hk2⟩; have g0 := hk2.some g0 id; have g1 := hk2.some g1 id; have g2 := hk2.some g2 id; have g3 := hk2.some g3 id; have g4 := hk2.some g4 id)
    | (go_at_call 14; refine (when_any _ _ _).mono ?_; rintro e w' ⟨rfl, rfl⟩)
    | (go_at_call 15; refine (in_one _ _ _ _).mono ?_; (first | rw [hd] | rw [hh]); rintro e w' ⟨rfl, rfl⟩)
    | (go_at_call 33; refine (frameerror_any _ _ _ _ _ _ _ _).mono ?_; rw [HF.out]; rintro e w3 ⟨rfl, hk3⟩)
    | (go_at_call 16; refine (finishes_one _).mono ?_; rintro e w' ⟨rfl, nf, rfl⟩)
    | (go_at_call 12; refine (first2_any _ _ E 0 _ (by go_simp) (by go_simp)).mono ?_; rw [if_pos H0.out]; rintro e w' ⟨rfl, rfl⟩)
    | fail)
  go_wp2_with (first
    | (go_at_call 48; refine (levels_e1 x y W H A n cap how s d _ E HF.out H0.out).mono ?_; rintro e w1 ⟨rfl, hk1⟩; have g0 := hk1.some g0 id; have g1 := hk1.some g1 id; have g2 := hk1.some g2 id; have g3 := hk1.some g3 id; have g4 := hk1.some g4 id)
    | (go_at_call 49; refine (diffuse_e1 x y W H A n cap d _ E HF.out H0.out).mono ?_; rintro e w2 ⟨rfl, hk2⟩; have g0 := hk2.some g0 id; have g1 := hk2.some g1 id; have g2 := hk2.some g2 id; have g3 := hk2.some g3 id; have g4 := hk2.some g4 id)
    | (go_at_call 14; refine (when_any _ _ _).mono ?_; rintro e w' ⟨rfl, rfl⟩)
    | (go_at_call 15; refine (in_one _ _ _ _).mono ?_; (first | rw [hd] | rw [hh]); rintro e w' ⟨rfl, rfl⟩)
    | (go_at_call 33; refine (frameerror_any _ _ _ _ _ _ _ _).mono ?_; rw [HF.out]; rintro e w3 ⟨rfl, hk3⟩)
    | (go_at_call 16; refine (finishes_one _).mono ?_; rintro e w' ⟨rfl, nf, rfl⟩)
    | (go_at_call 12; refine (first3_any _ _ E 1 0 _ (by go_simp) (by go_simp) (by go_simp)).mono ?_; rw [if_pos H0.out]; rintro e w' ⟨rfl, rfl⟩)
    | fail)
  go_ret
  refine ⟨rfl, ?_⟩
  repeat (first | exact Kept.refl _ _ | refine Kept.drew ?_ _ | refine Kept.alloc ?_ _ _ | refine Kept.trans ?_ hk3 | refine Kept.trans ?_ hk2 | refine Kept.trans ?_ hk1 | exact KB.out)

set_option linter.unusedSimpArgs false in
set_option linter.unusedVariables false in
set_option maxHeartbeats 8000000 in
set_option maxRecDepth 100000 in
theorem fl_A_false_true (x y W H : Int) (A : Option Addr) (n cap : Nat) (how s d E : Int) (w : World) (hF : frE x y W H n = E) (h0 : ¬ E = 0) (hd : inB d 1 16 = false) (hh : inB how 0 2 = true) :
    Calls Try.prog 8 #[.agg #[.int .i64 x, .int .i64 y, .int .i64 W, .int .i64 H, .slice A n cap], .int .i64 how, .int .u32 s, .int .i64 d] w fun e w' => e = .returned (.bool true) ∧ Kept None' w w' := by
  have hb : (E != 0) = true := by simp [h0]
  have hb2 : (E == 0) = false := by simp [h0]
  have HF := Lib.hid hF
  have H0 := Lib.hid h0
  clear hF
  go_enter Try.func8, Try.ntmps8
  go_upto_region 1 with (fail)
  refine of_world (fun w0 hW => ?_)
  have g0 : w0.cell? ⟨w.heap.size, 0, none⟩ = some (.int .i64 x) := by rw [hW]; go_simp
  have g1 : w0.cell? ⟨w.heap.size, 1, none⟩ = some (.int .i64 y) := by rw [hW]; go_simp
  have g2 : w0.cell? ⟨w.heap.size, 2, none⟩ = some (.int .i64 W) := by rw [hW]; go_simp
  have g3 : w0.cell? ⟨w.heap.size, 3, none⟩ = some (.int .i64 H) := by rw [hW]; go_simp
  have g4 : w0.cell? ⟨w.heap.size, 4, none⟩ = some (.slice A n cap) := by rw [hW]; go_simp
  have kb : Kept None' w w0 := by rw [hW]; exact (Kept.refl None' w).alloc _ _
  have KB := Lib.hid kb
  clear hW kb
  go_upto_region 11 with (first
    | (go_at_call 48; refine (levels_e1 x y W H A n cap how s d _ E HF.out H0.out).mono ?_; rintro e w1 ⟨rfl, hk1⟩; have g0 := hk1.some g0 id; have g1 := hk1.some g1 id; have g2 := hk1.some g2 id; have g3 := hk1.some g3 id; have g4 := hk1.some g4 id)
    | (go_at_call 49; refine (diffuse_e1 x y W H A n cap d _ E HF.out H0.out).mono ?_; rintro e w2 ⟨rfl, hk2⟩; have g0 := hk2.some g0 id; have g1 := hk2.some g1 id; have g2 := hk2.some g2 id; have g3 := hk2.some g3 id; have g4 := hk2.some g4 id)
    | (go_at_call 14; refine (when_any _ _ _).mono ?_; rintro e w' ⟨rfl, rfl⟩)
    | (go_at_call 15; refine (in_one _ _ _ _).mono ?_; (first | rw [hd] | rw [hh]); rintro e w' ⟨rfl, rfl⟩)
    | (go_at_call 33; refine (frameerror_any _ _ _ _ _ _ _ _).mono ?_; rw [HF.out]; rintro e w3 ⟨rfl, hk3⟩)
    | (go_at_call 16; refine (finishes_one _).mono ?_; rintro e w' ⟨rfl, nf, rfl⟩)
    | (go_at_call 12; refine (first2_any _ _ E 3 _ (by go_simp) (by go_simp)).mono ?_; rw [if_pos H0.out]; rintro e w' ⟨rfl, rfl⟩)
    | fail)
  go_wp2_with (first
    | (go_at_call 48; refine (levels_e1 x y W H A n cap how s d _ E HF.out H0.out).mono ?_; rintro e w1 ⟨rfl, hk1⟩; have g0 := hk1.some g0 id; have g1 := hk1.some g1 id; have g2 := hk1.some g2 id; have g3 := hk1.some g3 id; have g4 := hk1.some g4 id)
    | (go_at_call 49; refine (diffuse_e1 x y W H A n cap d _ E HF.out H0.out).mono ?_; rintro e w2 ⟨rfl, hk2⟩; have g0 := hk2.some g0 id; have g1 := hk2.some g1 id; have g2 := hk2.some g2 id; have g3 := hk2.some g3 id; have g4 := hk2.some g4 id)
    | (go_at_call 14; refine (when_any _ _ _).mono ?_; rintro e w' ⟨rfl, rfl⟩)
    | (go_at_call 15; refine (in_one _ _ _ _).mono ?_; (first | rw [hd] | rw [hh]); rintro e w' ⟨rfl, rfl⟩)
    | (go_at_call 33; refine (frameerror_any _ _ _ _ _ _ _ _).mono ?_; rw [HF.out]; rintro e w3 ⟨rfl, hk3⟩)
    | (go_at_call 16; refine (finishes_one _).mono ?_; rintro e w' ⟨rfl, nf, rfl⟩)
    | (go_at_call 12; refine (first3_any _ _ E 0 3 _ (by go_simp) (by go_simp) (by go_simp)).mono ?_; rw [if_pos H0.out]; rintro e w' ⟨rfl, rfl⟩)
    | fail)
  go_ret
  refine ⟨rfl, ?_⟩
  repeat (first | exact Kept.refl _ _ | refine Kept.drew ?_ _ | refine Kept.alloc ?_ _ _ | refine Kept.trans ?_ hk3 | refine Kept.trans ?_ hk2 | refine Kept.trans ?_ hk1 | exact KB.out)

set_option linter.unusedSimpArgs false in
set_option linter.unusedVariables false in
set_option maxHeartbeats 8000000 in
set_option maxRecDepth 100000 in
theorem fl_A_false_false (x y W H : Int) (A : Option Addr) (n cap : Nat) (how s d E : Int) (w : World) (hF : frE x y W H n = E) (h0 : ¬ E = 0) (hd : inB d 1 16 = false) (hh : inB how 0 2 = false) :
    Calls Try.prog 8 #[.agg #[.int .i64 x, .int .i64 y, .int .i64 W, .int .i64 H, .slice A n cap], .int .i64 how, .int .u32 s, .int .i64 d] w fun e w' => e = .returned (.bool true) ∧ Kept None' w w' := by
  have hb : (E != 0) = true := by simp [h0]
  have hb2 : (E == 0) = false := by simp [h0]
  have HF := Lib.hid hF
  have H0 := Lib.hid h0
  clear hF
  go_enter Try.func8, Try.ntmps8
  go_upto_region 1 with (fail)
  refine of_world (fun w0 hW => ?_)
  have g0 : w0.cell? ⟨w.heap.size, 0, none⟩ = some (.int .i64 x) := by rw [hW]; go_simp
  have g1 : w0.cell? ⟨w.heap.size, 1, none⟩ = some (.int .i64 y) := by rw [hW]; go_simp
  have g2 : w0.cell? ⟨w.heap.size, 2, none⟩ = some (.int .i64 W) := by rw [hW]; go_simp
  have g3 : w0.cell? ⟨w.heap.size, 3, none⟩ = some (.int .i64 H) := by rw [hW]; go_simp
  have g4 : w0.cell? ⟨w.heap.size, 4, none⟩ = some (.slice A n cap) := by rw [hW]; go_simp
  have kb : Kept None' w w0 := by rw [hW]; exact (Kept.refl None' w).alloc _ _
  have KB := Lib.hid kb
  clear hW kb
  go_upto_region 11 with (first
    | (go_at_call 48; refine (levels_e1 x y W H A n cap how s d _ E HF.out H0.out).mono ?_; rintro e w1 ⟨rfl, hk1⟩; have g0 := hk1.some g0 id; have g1 := hk1.some g1 id; have g2 := hk1.some g2 id; have g3 := hk1.some g3 id; have g4 := hk1.some g4 id)
    | (go_at_call 49; refine (diffuse_e1 x y W H A n cap d _ E HF.out H0.out).mono ?_; rintro e w2 ⟨rfl, hk2⟩; have g0 := hk2.some g0 id; have g1 := hk2.some g1 id; have g2 := hk2.some g2 id; have g3 := hk2.some g3 id; have g4 := hk2.some g4 id)
    | (go_at_call 14; refine (when_any _ _ _).mono ?_; rintro e w' ⟨rfl, rfl⟩)
    | (go_at_call 15; refine (in_one _ _ _ _).mono ?_; (first | rw [hd] | rw [hh]); rintro e w' ⟨rfl, rfl⟩)
    | (go_at_call 33; refine (frameerror_any _ _ _ _ _ _ _ _).mono ?_; rw [HF.out]; rintro e w3 ⟨rfl, hk3⟩)
    | (go_at_call 16; refine (finishes_one _).mono ?_; rintro e w' ⟨rfl, nf, rfl⟩)
    | (go_at_call 12; refine (first2_any _ _ E 3 _ (by go_simp) (by go_simp)).mono ?_; rw [if_pos H0.out]; rintro e w' ⟨rfl, rfl⟩)
    | fail)
  go_wp2_with (first
    | (go_at_call 48; refine (levels_e1 x y W H A n cap how s d _ E HF.out H0.out).mono ?_; rintro e w1 ⟨rfl, hk1⟩; have g0 := hk1.some g0 id; have g1 := hk1.some g1 id; have g2 := hk1.some g2 id; have g3 := hk1.some g3 id; have g4 := hk1.some g4 id)
    | (go_at_call 49; refine (diffuse_e1 x y W H A n cap d _ E HF.out H0.out).mono ?_; rintro e w2 ⟨rfl, hk2⟩; have g0 := hk2.some g0 id; have g1 := hk2.some g1 id; have g2 := hk2.some g2 id; have g3 := hk2.some g3 id; have g4 := hk2.some g4 id)
    | (go_at_call 14; refine (when_any _ _ _).mono ?_; rintro e w' ⟨rfl, rfl⟩)
    | (go_at_call 15; refine (in_one _ _ _ _).mono ?_; (first | rw [hd] | rw [hh]); rintro e w' ⟨rfl, rfl⟩)
    | (go_at_call 33; refine (frameerror_any _ _ _ _ _ _ _ _).mono ?_; rw [HF.out]; rintro e w3 ⟨rfl, hk3⟩)
    | (go_at_call 16; refine (finishes_one _).mono ?_; rintro e w' ⟨rfl, nf, rfl⟩)
    | (go_at_call 12; refine (first3_any _ _ E 1 3 _ (by go_simp) (by go_simp) (by go_simp)).mono ?_; rw [if_pos H0.out]; rintro e w' ⟨rfl, rfl⟩)
    | fail)
  go_ret
  refine ⟨rfl, ?_⟩
  repeat (first | exact Kept.refl _ _ | refine Kept.drew ?_ _ | refine Kept.alloc ?_ _ _ | refine Kept.trans ?_ hk3 | refine Kept.trans ?_ hk2 | refine Kept.trans ?_ hk1 | exact KB.out)

set_option linter.unusedSimpArgs false in
set_option linter.unusedVariables false in
set_option maxHeartbeats 8000000 in
set_option maxRecDepth 100000 in
theorem fl_B_1 (x y W H : Int) (A : Option Addr) (n cap : Nat) (how s d : Int) (w : World) (hF : frE x y W H n = 0) (hd : inB d 1 16 = false) (h1 : decide (how < 0) = true) :
    Calls Try.prog 8 #[.agg #[.int .i64 x, .int .i64 y, .int .i64 W, .int .i64 H, .slice A n cap], .int .i64 how, .int .u32 s, .int .i64 d] w fun e w' => e = .returned (.bool true) ∧ Kept None' w w' := by
  have hd3 : (decide (1 ≤ d) && decide (d ≤ 16)) = false := hd
  have hh : inB how 0 2 = false := by
    unfold inB; simp at h1 ⊢ <;> omega
  have HF := Lib.hid hF
  have HD := Lib.hid hd3
  have HH := Lib.hid h1
  clear hF hd3 h1
  go_enter Try.func8, Try.ntmps8
  go_upto_region 1 with (fail)
  refine of_world (fun w0 hW => ?_)
  have g0 : w0.cell? ⟨w.heap.size, 0, none⟩ = some (.int .i64 x) := by rw [hW]; go_simp
  have g1 : w0.cell? ⟨w.heap.size, 1, none⟩ = some (.int .i64 y) := by rw [hW]; go_simp
  have g2 : w0.cell? ⟨w.heap.size, 2, none⟩ = some (.int .i64 W) := by rw [hW]; go_simp
  have g3 : w0.cell? ⟨w.heap.size, 3, none⟩ = some (.int .i64 H) := by rw [hW]; go_simp
  have g4 : w0.cell? ⟨w.heap.size, 4, none⟩ = some (.slice A n cap) := by rw [hW]; go_simp
  have kb : Kept None' w w0 := by rw [hW]; exact (Kept.refl None' w).alloc _ _
  have KB := Lib.hid kb
  clear hW kb
  go_upto_region 11 with (first
    | (go_at_call 48; refine (levels_e2a x y W H A n cap how s d _ HF.out HH.out).mono ?_; rintro e w1 ⟨rfl, hk1⟩; have g0 := hk1.some g0 id; have g1 := hk1.some g1 id; have g2 := hk1.some g2 id; have g3 := hk1.some g3 id; have g4 := hk1.some g4 id)
    | (go_at_call 49; refine (diffuse_e3 x y W H A n cap d _ HF.out HD.out).mono ?_; rintro e w2 ⟨rfl, hk2⟩; have g0 := hk2.some g0 id; have g1 := hk2.some g1 id; have g2 := hk2.some g2 id; have g3 := hk2.some g3 id; have g4 := hk2.some g4 id)
    | (go_at_call 14; refine (when_any _ _ _).mono ?_; rintro e w' ⟨rfl, rfl⟩)
    | (go_at_call 15; refine (in_one _ _ _ _).mono ?_; (first | rw [hd] | rw [hh]); rintro e w' ⟨rfl, rfl⟩)
    | (go_at_call 33; refine (frameerror_any _ _ _ _ _ _ _ _).mono ?_; rw [HF.out]; rintro e w3 ⟨rfl, hk3⟩)
    | (go_at_call 16; refine (finishes_one _).mono ?_; rintro e w' ⟨rfl, nf, rfl⟩)
    | (go_at_call 12; refine (first2_any _ _ 0 3 _ (by go_simp) (by go_simp)).mono ?_; rintro e w' ⟨rfl, rfl⟩)
    | fail)
  go_wp2_with (first
    | (go_at_call 48; refine (levels_e2a x y W H A n cap how s d _ HF.out HH.out).mono ?_; rintro e w1 ⟨rfl, hk1⟩; have g0 := hk1.some g0 id; have g1 := hk1.some g1 id; have g2 := hk1.some g2 id; have g3 := hk1.some g3 id; have g4 := hk1.some g4 id)
    | (go_at_call 49; refine (diffuse_e3 x y W H A n cap d _ HF.out HD.out).mono ?_; rintro e w2 ⟨rfl, hk2⟩; have g0 := hk2.some g0 id; have g1 := hk2.some g1 id; have g2 := hk2.some g2 id; have g3 := hk2.some g3 id; have g4 := hk2.some g4 id)
    | (go_at_call 14; refine (when_any _ _ _).mono ?_; rintro e w' ⟨rfl, rfl⟩)
    | (go_at_call 15; refine (in_one _ _ _ _).mono ?_; (first | rw [hd] | rw [hh]); rintro e w' ⟨rfl, rfl⟩)
    | (go_at_call 33; refine (frameerror_any _ _ _ _ _ _ _ _).mono ?_; rw [HF.out]; rintro e w3 ⟨rfl, hk3⟩)
    | (go_at_call 16; refine (finishes_one _).mono ?_; rintro e w' ⟨rfl, nf, rfl⟩)
    | (go_at_call 12; refine (first3_any _ _ 0 1 3 _ (by go_simp) (by go_simp) (by go_simp)).mono ?_; rintro e w' ⟨rfl, rfl⟩)
    | fail)
  go_ret
  refine ⟨rfl, ?_⟩
  repeat (first | exact Kept.refl _ _ | refine Kept.drew ?_ _ | refine Kept.alloc ?_ _ _ | refine Kept.trans ?_ hk3 | refine Kept.trans ?_ hk2 | refine Kept.trans ?_ hk1 | exact KB.out)

set_option linter.unusedSimpArgs false in
set_option linter.unusedVariables false in
set_option maxHeartbeats 8000000 in
set_option maxRecDepth 100000 in
theorem fl_B_2 (x y W H : Int) (A : Option Addr) (n cap : Nat) (how s d : Int) (w : World) (hF : frE x y W H n = 0) (hd : inB d 1 16 = false) (h1 : decide (how < 0) = false ∧ decide (2 < how) = true) :
    Calls Try.prog 8 #[.agg #[.int .i64 x, .int .i64 y, .int .i64 W, .int .i64 H, .slice A n cap], .int .i64 how, .int .u32 s, .int .i64 d] w fun e w' => e = .returned (.bool true) ∧ Kept None' w w' := by
  have hd3 : (decide (1 ≤ d) && decide (d ≤ 16)) = false := hd
  have hh : inB how 0 2 = false := by
    unfold inB; simp at h1 ⊢ <;> omega
  have HF := Lib.hid hF
  have HD := Lib.hid hd3
  have HH := Lib.hid h1
  clear hF hd3 h1
  go_enter Try.func8, Try.ntmps8
  go_upto_region 1 with (fail)
  refine of_world (fun w0 hW => ?_)
  have g0 : w0.cell? ⟨w.heap.size, 0, none⟩ = some (.int .i64 x) := by rw [hW]; go_simp
  have g1 : w0.cell? ⟨w.heap.size, 1, none⟩ = some (.int .i64 y) := by rw [hW]; go_simp
  have g2 : w0.cell? ⟨w.heap.size, 2, none⟩ = some (.int .i64 W) := by rw [hW]; go_simp
  have g3 : w0.cell? ⟨w.heap.size, 3, none⟩ = some (.int .i64 H) := by rw [hW]; go_simp
  have g4 : w0.cell? ⟨w.heap.size, 4, none⟩ = some (.slice A n cap) := by rw [hW]; go_simp
  have kb : Kept None' w w0 := by rw [hW]; exact (Kept.refl None' w).alloc _ _
  have KB := Lib.hid kb
  clear hW kb
  go_upto_region 11 with (first
    | (go_at_call 48; refine (levels_e2b x y W H A n cap how s d _ HF.out HH.out.1 HH.out.2).mono ?_; rintro e w1 ⟨rfl, hk1⟩; have g0 := hk1.some g0 id; have g1 := hk1.some g1 id; have g2 := hk1.some g2 id; have g3 := hk1.some g3 id; have g4 := hk1.some g4 id)
    | (go_at_call 49; refine (diffuse_e3 x y W H A n cap d _ HF.out HD.out).mono ?_; rintro e w2 ⟨rfl, hk2⟩; have g0 := hk2.some g0 id; have g1 := hk2.some g1 id; have g2 := hk2.some g2 id; have g3 := hk2.some g3 id; have g4 := hk2.some g4 id)
    | (go_at_call 14; refine (when_any _ _ _).mono ?_; rintro e w' ⟨rfl, rfl⟩)
    | (go_at_call 15; refine (in_one _ _ _ _).mono ?_; (first | rw [hd] | rw [hh]); rintro e w' ⟨rfl, rfl⟩)
    | (go_at_call 33; refine (frameerror_any _ _ _ _ _ _ _ _).mono ?_; rw [HF.out]; rintro e w3 ⟨rfl, hk3⟩)
    | (go_at_call 16; refine (finishes_one _).mono ?_; rintro e w' ⟨rfl, nf, rfl⟩)
    | (go_at_call 12; refine (first2_any _ _ 0 3 _ (by go_simp) (by go_simp)).mono ?_; rintro e w' ⟨rfl, rfl⟩)
    | fail)
  go_wp2_with (first
    | (go_at_call 48; refine (levels_e2b x y W H A n cap how s d _ HF.out HH.out.1 HH.out.2).mono ?_; rintro e w1 ⟨rfl, hk1⟩; have g0 := hk1.some g0 id; have g1 := hk1.some g1 id; have g2 := hk1.some g2 id; have g3 := hk1.some g3 id; have g4 := hk1.some g4 id)
    | (go_at_call 49; refine (diffuse_e3 x y W H A n cap d _ HF.out HD.out).mono ?_; rintro e w2 ⟨rfl, hk2⟩; have g0 := hk2.some g0 id; have g1 := hk2.some g1 id; have g2 := hk2.some g2 id; have g3 := hk2.some g3 id; have g4 := hk2.some g4 id)
    | (go_at_call 14; refine (when_any _ _ _).mono ?_; rintro e w' ⟨rfl, rfl⟩)
    | (go_at_call 15; refine (in_one _ _ _ _).mono ?_; (first | rw [hd] | rw [hh]); rintro e w' ⟨rfl, rfl⟩)
    | (go_at_call 33; refine (frameerror_any _ _ _ _ _ _ _ _).mono ?_; rw [HF.out]; rintro e w3 ⟨rfl, hk3⟩)
    | (go_at_call 16; refine (finishes_one _).mono ?_; rintro e w' ⟨rfl, nf, rfl⟩)
    | (go_at_call 12; refine (first3_any _ _ 0 1 3 _ (by go_simp) (by go_simp) (by go_simp)).mono ?_; rintro e w' ⟨rfl, rfl⟩)
    | fail)
  go_ret
  refine ⟨rfl, ?_⟩
  repeat (first | exact Kept.refl _ _ | refine Kept.drew ?_ _ | refine Kept.alloc ?_ _ _ | refine Kept.trans ?_ hk3 | refine Kept.trans ?_ hk2 | refine Kept.trans ?_ hk1 | exact KB.out)

set_option linter.unusedSimpArgs false in
set_option linter.unusedVariables false in
set_option maxHeartbeats 8000000 in
set_option maxRecDepth 100000 in
theorem fl_B_3 (x y W H : Int) (A : Option Addr) (n cap : Nat) (how s d : Int) (w : World) (hF : frE x y W H n = 0) (hd : inB d 1 16 = false) (h1 : decide (how < 0) = false ∧ decide (2 < how) = false) :
    Calls Try.prog 8 #[.agg #[.int .i64 x, .int .i64 y, .int .i64 W, .int .i64 H, .slice A n cap], .int .i64 how, .int .u32 s, .int .i64 d] w fun e w' => e = .returned (.bool true) ∧ Kept None' w w' := by
  have hd3 : (decide (1 ≤ d) && decide (d ≤ 16)) = false := hd
  have hh : inB how 0 2 = true := by
    unfold inB; simp at h1 ⊢ <;> omega
  have HF := Lib.hid hF
  have HD := Lib.hid hd3
  have HH := Lib.hid h1
  clear hF hd3 h1
  go_enter Try.func8, Try.ntmps8
  go_upto_region 1 with (fail)
  refine of_world (fun w0 hW => ?_)
  have g0 : w0.cell? ⟨w.heap.size, 0, none⟩ = some (.int .i64 x) := by rw [hW]; go_simp
  have g1 : w0.cell? ⟨w.heap.size, 1, none⟩ = some (.int .i64 y) := by rw [hW]; go_simp
  have g2 : w0.cell? ⟨w.heap.size, 2, none⟩ = some (.int .i64 W) := by rw [hW]; go_simp
  have g3 : w0.cell? ⟨w.heap.size, 3, none⟩ = some (.int .i64 H) := by rw [hW]; go_simp
  have g4 : w0.cell? ⟨w.heap.size, 4, none⟩ = some (.slice A n cap) := by rw [hW]; go_simp
  have kb : Kept None' w w0 := by rw [hW]; exact (Kept.refl None' w).alloc _ _
  have KB := Lib.hid kb
  clear hW kb
  go_upto_region 11 with (first
    | (go_at_call 48; refine (levels_e3 x y W H A n cap how s d _ HF.out HH.out.1 HH.out.2 HD.out).mono ?_; rintro e w1 ⟨rfl, hk1⟩; have g0 := hk1.some g0 id; have g1 := hk1.some g1 id; have g2 := hk1.some g2 id; have g3 := hk1.some g3 id; have g4 := hk1.some g4 id)
    | (go_at_call 49; refine (diffuse_e3 x y W H A n cap d _ HF.out HD.out).mono ?_; rintro e w2 ⟨rfl, hk2⟩; have g0 := hk2.some g0 id; have g1 := hk2.some g1 id; have g2 := hk2.some g2 id; have g3 := hk2.some g3 id; have g4 := hk2.some g4 id)
    | (go_at_call 14; refine (when_any _ _ _).mono ?_; rintro e w' ⟨rfl, rfl⟩)
    | (go_at_call 15; refine (in_one _ _ _ _).mono ?_; (first | rw [hd] | rw [hh]); rintro e w' ⟨rfl, rfl⟩)
    | (go_at_call 33; refine (frameerror_any _ _ _ _ _ _ _ _).mono ?_; rw [HF.out]; rintro e w3 ⟨rfl, hk3⟩)
    | (go_at_call 16; refine (finishes_one _).mono ?_; rintro e w' ⟨rfl, nf, rfl⟩)
    | (go_at_call 12; refine (first2_any _ _ 0 3 _ (by go_simp) (by go_simp)).mono ?_; rintro e w' ⟨rfl, rfl⟩)
    | fail)
  go_wp2_with (first
    | (go_at_call 48; refine (levels_e3 x y W H A n cap how s d _ HF.out HH.out.1 HH.out.2 HD.out).mono ?_; rintro e w1 ⟨rfl, hk1⟩; have g0 := hk1.some g0 id; have g1 := hk1.some g1 id; have g2 := hk1.some g2 id; have g3 := hk1.some g3 id; have g4 := hk1.some g4 id)
    | (go_at_call 49; refine (diffuse_e3 x y W H A n cap d _ HF.out HD.out).mono ?_; rintro e w2 ⟨rfl, hk2⟩; have g0 := hk2.some g0 id; have g1 := hk2.some g1 id; have g2 := hk2.some g2 id; have g3 := hk2.some g3 id; have g4 := hk2.some g4 id)
    | (go_at_call 14; refine (when_any _ _ _).mono ?_; rintro e w' ⟨rfl, rfl⟩)
    | (go_at_call 15; refine (in_one _ _ _ _).mono ?_; (first | rw [hd] | rw [hh]); rintro e w' ⟨rfl, rfl⟩)
    | (go_at_call 33; refine (frameerror_any _ _ _ _ _ _ _ _).mono ?_; rw [HF.out]; rintro e w3 ⟨rfl, hk3⟩)
    | (go_at_call 16; refine (finishes_one _).mono ?_; rintro e w' ⟨rfl, nf, rfl⟩)
    | (go_at_call 12; refine (first3_any _ _ 0 0 3 _ (by go_simp) (by go_simp) (by go_simp)).mono ?_; rintro e w' ⟨rfl, rfl⟩)
    | fail)
  go_ret
  refine ⟨rfl, ?_⟩
  repeat (first | exact Kept.refl _ _ | refine Kept.drew ?_ _ | refine Kept.alloc ?_ _ _ | refine Kept.trans ?_ hk3 | refine Kept.trans ?_ hk2 | refine Kept.trans ?_ hk1 | exact KB.out)

set_option linter.unusedSimpArgs false in
set_option linter.unusedVariables false in
set_option maxHeartbeats 8000000 in
set_option maxRecDepth 100000 in
theorem fl_C1_true (x y : Int) (Wn Hn : Nat) (b o n cap : Nat) (z : Nat → Nat) (how s d M : Int) (w : World) (hF : frE x y Wn Hn n = 0) (d1 : 1 ≤ d) (d2 : d ≤ 16) (hM : wrap64 (wrap64 (2 ^ d.toNat) - 1) = M) (h3 : 1 ≤ M) (h4 : M ≤ 65535) (hc : ∀ i, i < n → w.cell? ⟨b, o + i, none⟩ = some (.float .f32 (z i))) (hcap : n ≤ cap) (h1 : decide (how < 0) = true) (hf : decide (n ≤ 400) = true) :
    Calls Try.prog 8 #[.agg #[.int .i64 x, .int .i64 y, .int .i64 Wn, .int .i64 Hn, .slice (some ⟨b, o, none⟩) n cap], .int .i64 how, .int .u32 s, .int .i64 d] w fun e w' => e = .returned (.bool true) ∧ Kept None' w w' := by
  obtain ⟨hE, hn⟩ := frE_good hF
  obtain ⟨w1', w2', w3', w4', w5'⟩ := regE_ok hE
  have w6 := (mul_bd w1' w2' w3' w4').2
  have w7 : 4 * (Wn : Int) * Hn = 4 * (Wn * Hn) := Int.mul_assoc ..
  have hn6 : n ≤ 262144 := by omega
  have i1 : inB d 1 16 = true := inB_yes d1 d2
  have HE := Lib.hid (And.intro hE hn)
  have HF := Lib.hid hF
  have HM := Lib.hid hM
  have HC := Lib.hid hc
  clear hF hM hc hE hn w5' w6 w7
  have i2 : inB how 0 2 = false := by unfold inB; simp at h1 ⊢ <;> omega
  go_enter Try.func8, Try.ntmps8
  go_upto_region 1 with (fail)
  refine of_world (fun w0 hW => ?_)
  have g0 : w0.cell? ⟨w.heap.size, 0, none⟩ = some (.int .i64 x) := by rw [hW]; go_simp
  have g1 : w0.cell? ⟨w.heap.size, 1, none⟩ = some (.int .i64 y) := by rw [hW]; go_simp
  have g2 : w0.cell? ⟨w.heap.size, 2, none⟩ = some (.int .i64 Wn) := by rw [hW]; go_simp
  have g3 : w0.cell? ⟨w.heap.size, 3, none⟩ = some (.int .i64 Hn) := by rw [hW]; go_simp
  have g4 : w0.cell? ⟨w.heap.size, 4, none⟩ = some (.slice (some ⟨b, o, none⟩) n cap) := by rw [hW]; go_simp
  have kb : Kept None' w w0 := by rw [hW]; exact (Kept.refl None' w).alloc _ _
  have KB := Lib.hid kb
  have HG := Lib.hid (And.intro g0 (And.intro g1 (And.intro g2 (And.intro g3 g4))))
  clear hW kb
  go_upto_region 2 with (first
    | (go_at_call 48; refine (levels_e2a x y Wn Hn (some ⟨b, o, none⟩) n cap how s d _ HF.out h1).mono ?_; rintro e w1 ⟨rfl, hk1⟩; have HK1 := Lib.hid (KB.out.trans hk1); have KA := Lib.hid hk1; clear hk1)
    | fail)
  have g0 := KA.out.some g0 id
  have g1 := KA.out.some g1 id
  have g2 := KA.out.some g2 id
  have g3 := KA.out.some g3 id
  have g4 := KA.out.some g4 id
  go_upto_region 3 with (first
    | (go_at_call 49; refine (diffuse_ok x y Wn Hn b o n cap z d M _ HF.out d1 d2 HM.out h3 h4 (fun i hi => HK1.out.some (HC.out i hi) id) hcap).mono ?_; rintro e w2 ⟨B2, hB2, rfl, hk2, hc2⟩; have HC2 := Lib.hid hc2; have HK2 := Lib.hid (HK1.out.trans hk2); have KA2 := Lib.hid hk2; clear hk2 hc2 hB2)
    | fail)
  have g0 := KA2.out.some g0 id
  have g1 := KA2.out.some g1 id
  have g2 := KA2.out.some g2 id
  have g3 := KA2.out.some g3 id
  have g4 := KA2.out.some g4 id
  go_upto_region 5 with (first
    | (go_at_call 14; refine (when_any _ _ _).mono ?_; rintro e w' ⟨rfl, rfl⟩)
    | (go_at_call 15; refine (in_one _ _ _ _).mono ?_; (first | rw [i1]); rintro e w' ⟨rfl, rfl⟩)
    | (go_at_call 33; refine (frameerror_any _ _ _ _ _ _ _ _).mono ?_; rw [HF.out]; rintro e w3 ⟨rfl, hk3⟩)
    | fail)
  have g0 := hk3.some g0 id
  have g1 := hk3.some g1 id
  have g2 := hk3.some g2 id
  have g3 := hk3.some g3 id
  have g4 := hk3.some g4 id
  have K3 := Lib.hid (HK2.out.trans hk3)
  have HD3 := Lib.hid (fun j hj => hk3.some (HC2.out j hj) id)
  clear hk3
  go_upto_region 9 with (first
    | (go_at_call 16; refine (finishes_one _).mono ?_; rintro e w' ⟨rfl, nf, rfl⟩)
    | (go_at_call 12; refine (first2_any _ _ 0 0 _ (by go_simp) (by go_simp)).mono ?_; rintro e w' ⟨rfl, rfl⟩)
    | fail)
  refine of_world (fun W5 hW => ?_)
  have k5 : Kept None' w3 W5 := by rw [hW]; repeat (first | exact Kept.refl _ _ | refine Kept.drew ?_ _ | refine Kept.alloc ?_ _ _)
  have HD5 := Lib.hid (fun j hj => k5.some (HD3.out j hj) id)
  have K5 := Lib.hid (K3.out.trans k5)
  have g0 := k5.some g0 id
  have g1 := k5.some g1 id
  have g2 := k5.some g2 id
  have g3 := k5.some g3 id
  have g4 := k5.some g4 id
  have HG5 := Lib.hid (And.intro g0 (And.intro g1 (And.intro g2 (And.intro g3 g4))))
  clear hW k5
  go_upto_region 11 with (first
    | (go_at_call 36; refine (few_any _ _ _ _ _ _ _ _).mono ?_; rw [hf]; rintro e w4 ⟨rfl, hk4⟩; have g0 := hk4.some g0 id; have g1 := hk4.some g1 id; have g2 := hk4.some g2 id; have g3 := hk4.some g3 id; have g4 := hk4.some g4 id)
    | (go_at_call 50; refine (diffusedof_ok x y Wn Hn b o n cap z d M _ HF.out d1 d2 HM.out h3 h4 (fun i hi => (K5.out.trans hk4).some (HC.out i hi) id) hcap).mono ?_; rintro e w5 ⟨B3, hB3, rfl, hk5, hc3⟩; have HC3 := Lib.hid hc3; have K6 := Lib.hid ((K5.out.trans hk4).trans hk5); have KD := Lib.hid (hk4.trans hk5); clear hk5 hc3 hB3 hk4)
    | (go_at_call 31; refine (equal_ints (some ⟨B2, 0, none⟩) (some ⟨B3, 0, none⟩) n n n (dfO Wn Hn M z) _ (by omega) (fun _ => ⟨B2, 0, rfl, fun i hi => by rw [Nat.zero_add]; exact KD.out.some (HD5.out i hi) id⟩) (fun _ => ⟨B3, 0, rfl, fun i hi => by rw [Nat.zero_add]; exact HC3.out i hi⟩)).mono ?_; rintro e w6 ⟨rfl, hk6⟩; have K7 := Lib.hid (K6.out.trans hk6); have KE := Lib.hid (KD.out.trans hk6); clear hk6)
    | fail)
  have K8 := Lib.hid K7.out
  have KF := Lib.hid KE.out
  have g0 := KF.out.some HG5.out.1 id
  have g1 := KF.out.some HG5.out.2.1 id
  have g2 := KF.out.some HG5.out.2.2.1 id
  have g3 := KF.out.some HG5.out.2.2.2.1 id
  have g4 := KF.out.some HG5.out.2.2.2.2 id
  go_wp2_with (first
    | (go_at_call 14; refine (when_any _ _ _).mono ?_; rintro e w' ⟨rfl, rfl⟩)
    | (go_at_call 15; refine (in_one _ _ _ _).mono ?_; (first | rw [i2]); rintro e w' ⟨rfl, rfl⟩)
    | (go_at_call 12; refine (first3_any _ _ 0 1 0 _ (by go_simp) (by go_simp) (by go_simp)).mono ?_; rintro e w' ⟨rfl, rfl⟩)
    | fail)
  go_ret
  refine ⟨rfl, ?_⟩
  repeat (first | exact Kept.refl _ _ | refine Kept.drew ?_ _ | refine Kept.alloc ?_ _ _ | exact K8.out)

set_option linter.unusedSimpArgs false in
set_option linter.unusedVariables false in
set_option maxHeartbeats 8000000 in
set_option maxRecDepth 100000 in
theorem fl_C1_false (x y : Int) (Wn Hn : Nat) (b o n cap : Nat) (z : Nat → Nat) (how s d M : Int) (w : World) (hF : frE x y Wn Hn n = 0) (d1 : 1 ≤ d) (d2 : d ≤ 16) (hM : wrap64 (wrap64 (2 ^ d.toNat) - 1) = M) (h3 : 1 ≤ M) (h4 : M ≤ 65535) (hc : ∀ i, i < n → w.cell? ⟨b, o + i, none⟩ = some (.float .f32 (z i))) (hcap : n ≤ cap) (h1 : decide (how < 0) = true) (hf : decide (n ≤ 400) = false) :
    Calls Try.prog 8 #[.agg #[.int .i64 x, .int .i64 y, .int .i64 Wn, .int .i64 Hn, .slice (some ⟨b, o, none⟩) n cap], .int .i64 how, .int .u32 s, .int .i64 d] w fun e w' => e = .returned (.bool true) ∧ Kept None' w w' := by
  obtain ⟨hE, hn⟩ := frE_good hF
  obtain ⟨w1', w2', w3', w4', w5'⟩ := regE_ok hE
  have w6 := (mul_bd w1' w2' w3' w4').2
  have w7 : 4 * (Wn : Int) * Hn = 4 * (Wn * Hn) := Int.mul_assoc ..
  have hn6 : n ≤ 262144 := by omega
  have i1 : inB d 1 16 = true := inB_yes d1 d2
  have HE := Lib.hid (And.intro hE hn)
  have HF := Lib.hid hF
  have HM := Lib.hid hM
  have HC := Lib.hid hc
  clear hF hM hc hE hn w5' w6 w7
  have i2 : inB how 0 2 = false := by unfold inB; simp at h1 ⊢ <;> omega
  go_enter Try.func8, Try.ntmps8
  go_upto_region 1 with (fail)
  refine of_world (fun w0 hW => ?_)
  have g0 : w0.cell? ⟨w.heap.size, 0, none⟩ = some (.int .i64 x) := by rw [hW]; go_simp
  have g1 : w0.cell? ⟨w.heap.size, 1, none⟩ = some (.int .i64 y) := by rw [hW]; go_simp
  have g2 : w0.cell? ⟨w.heap.size, 2, none⟩ = some (.int .i64 Wn) := by rw [hW]; go_simp
  have g3 : w0.cell? ⟨w.heap.size, 3, none⟩ = some (.int .i64 Hn) := by rw [hW]; go_simp
  have g4 : w0.cell? ⟨w.heap.size, 4, none⟩ = some (.slice (some ⟨b, o, none⟩) n cap) := by rw [hW]; go_simp
  have kb : Kept None' w w0 := by rw [hW]; exact (Kept.refl None' w).alloc _ _
  have KB := Lib.hid kb
  have HG := Lib.hid (And.intro g0 (And.intro g1 (And.intro g2 (And.intro g3 g4))))
  clear hW kb
  go_upto_region 2 with (first
    | (go_at_call 48; refine (levels_e2a x y Wn Hn (some ⟨b, o, none⟩) n cap how s d _ HF.out h1).mono ?_; rintro e w1 ⟨rfl, hk1⟩; have HK1 := Lib.hid (KB.out.trans hk1); have KA := Lib.hid hk1; clear hk1)
    | fail)
  have g0 := KA.out.some g0 id
  have g1 := KA.out.some g1 id
  have g2 := KA.out.some g2 id
  have g3 := KA.out.some g3 id
  have g4 := KA.out.some g4 id
  go_upto_region 3 with (first
    | (go_at_call 49; refine (diffuse_ok x y Wn Hn b o n cap z d M _ HF.out d1 d2 HM.out h3 h4 (fun i hi => HK1.out.some (HC.out i hi) id) hcap).mono ?_; rintro e w2 ⟨B2, hB2, rfl, hk2, hc2⟩; have HC2 := Lib.hid hc2; have HK2 := Lib.hid (HK1.out.trans hk2); have KA2 := Lib.hid hk2; clear hk2 hc2 hB2)
    | fail)
  have g0 := KA2.out.some g0 id
  have g1 := KA2.out.some g1 id
  have g2 := KA2.out.some g2 id
  have g3 := KA2.out.some g3 id
  have g4 := KA2.out.some g4 id
  go_upto_region 5 with (first
    | (go_at_call 14; refine (when_any _ _ _).mono ?_; rintro e w' ⟨rfl, rfl⟩)
    | (go_at_call 15; refine (in_one _ _ _ _).mono ?_; (first | rw [i1]); rintro e w' ⟨rfl, rfl⟩)
    | (go_at_call 33; refine (frameerror_any _ _ _ _ _ _ _ _).mono ?_; rw [HF.out]; rintro e w3 ⟨rfl, hk3⟩)
    | fail)
  have g0 := hk3.some g0 id
  have g1 := hk3.some g1 id
  have g2 := hk3.some g2 id
  have g3 := hk3.some g3 id
  have g4 := hk3.some g4 id
  have K3 := Lib.hid (HK2.out.trans hk3)
  have HD3 := Lib.hid (fun j hj => hk3.some (HC2.out j hj) id)
  clear hk3
  go_upto_region 9 with (first
    | (go_at_call 16; refine (finishes_one _).mono ?_; rintro e w' ⟨rfl, nf, rfl⟩)
    | (go_at_call 12; refine (first2_any _ _ 0 0 _ (by go_simp) (by go_simp)).mono ?_; rintro e w' ⟨rfl, rfl⟩)
    | fail)
  refine of_world (fun W5 hW => ?_)
  have k5 : Kept None' w3 W5 := by rw [hW]; repeat (first | exact Kept.refl _ _ | refine Kept.drew ?_ _ | refine Kept.alloc ?_ _ _)
  have HD5 := Lib.hid (fun j hj => k5.some (HD3.out j hj) id)
  have K5 := Lib.hid (K3.out.trans k5)
  have g0 := k5.some g0 id
  have g1 := k5.some g1 id
  have g2 := k5.some g2 id
  have g3 := k5.some g3 id
  have g4 := k5.some g4 id
  have HG5 := Lib.hid (And.intro g0 (And.intro g1 (And.intro g2 (And.intro g3 g4))))
  clear hW k5
  go_upto_region 11 with (first
    | (go_at_call 36; refine (few_any _ _ _ _ _ _ _ _).mono ?_; rw [hf]; rintro e w4 ⟨rfl, hk4⟩; have g0 := hk4.some g0 id; have g1 := hk4.some g1 id; have g2 := hk4.some g2 id; have g3 := hk4.some g3 id; have g4 := hk4.some g4 id)
    | fail)
  have K8 := Lib.hid (K5.out.trans hk4)
  have KF := Lib.hid hk4
  clear hk4
  have g0 := KF.out.some HG5.out.1 id
  have g1 := KF.out.some HG5.out.2.1 id
  have g2 := KF.out.some HG5.out.2.2.1 id
  have g3 := KF.out.some HG5.out.2.2.2.1 id
  have g4 := KF.out.some HG5.out.2.2.2.2 id
  go_wp2_with (first
    | (go_at_call 14; refine (when_any _ _ _).mono ?_; rintro e w' ⟨rfl, rfl⟩)
    | (go_at_call 15; refine (in_one _ _ _ _).mono ?_; (first | rw [i2]); rintro e w' ⟨rfl, rfl⟩)
    | (go_at_call 12; refine (first3_any _ _ 0 1 0 _ (by go_simp) (by go_simp) (by go_simp)).mono ?_; rintro e w' ⟨rfl, rfl⟩)
    | fail)
  go_ret
  refine ⟨rfl, ?_⟩
  repeat (first | exact Kept.refl _ _ | refine Kept.drew ?_ _ | refine Kept.alloc ?_ _ _ | exact K8.out)

set_option linter.unusedSimpArgs false in
set_option linter.unusedVariables false in
set_option maxHeartbeats 8000000 in
set_option maxRecDepth 100000 in
theorem fl_C2_true (x y : Int) (Wn Hn : Nat) (b o n cap : Nat) (z : Nat → Nat) (how s d M : Int) (w : World) (hF : frE x y Wn Hn n = 0) (d1 : 1 ≤ d) (d2 : d ≤ 16) (hM : wrap64 (wrap64 (2 ^ d.toNat) - 1) = M) (h3 : 1 ≤ M) (h4 : M ≤ 65535) (hc : ∀ i, i < n → w.cell? ⟨b, o + i, none⟩ = some (.float .f32 (z i))) (hcap : n ≤ cap) (h1 : decide (how < 0) = false) (h2 : decide (2 < how) = true) (hf : decide (n ≤ 400) = true) :
    Calls Try.prog 8 #[.agg #[.int .i64 x, .int .i64 y, .int .i64 Wn, .int .i64 Hn, .slice (some ⟨b, o, none⟩) n cap], .int .i64 how, .int .u32 s, .int .i64 d] w fun e w' => e = .returned (.bool true) ∧ Kept None' w w' := by
  obtain ⟨hE, hn⟩ := frE_good hF
  obtain ⟨w1', w2', w3', w4', w5'⟩ := regE_ok hE
  have w6 := (mul_bd w1' w2' w3' w4').2
  have w7 : 4 * (Wn : Int) * Hn = 4 * (Wn * Hn) := Int.mul_assoc ..
  have hn6 : n ≤ 262144 := by omega
  have i1 : inB d 1 16 = true := inB_yes d1 d2
  have HE := Lib.hid (And.intro hE hn)
  have HF := Lib.hid hF
  have HM := Lib.hid hM
  have HC := Lib.hid hc
  clear hF hM hc hE hn w5' w6 w7
  have i2 : inB how 0 2 = false := by unfold inB; simp at h1 h2 ⊢ <;> omega
  go_enter Try.func8, Try.ntmps8
  go_upto_region 1 with (fail)
  refine of_world (fun w0 hW => ?_)
  have g0 : w0.cell? ⟨w.heap.size, 0, none⟩ = some (.int .i64 x) := by rw [hW]; go_simp
  have g1 : w0.cell? ⟨w.heap.size, 1, none⟩ = some (.int .i64 y) := by rw [hW]; go_simp
  have g2 : w0.cell? ⟨w.heap.size, 2, none⟩ = some (.int .i64 Wn) := by rw [hW]; go_simp
  have g3 : w0.cell? ⟨w.heap.size, 3, none⟩ = some (.int .i64 Hn) := by rw [hW]; go_simp
  have g4 : w0.cell? ⟨w.heap.size, 4, none⟩ = some (.slice (some ⟨b, o, none⟩) n cap) := by rw [hW]; go_simp
  have kb : Kept None' w w0 := by rw [hW]; exact (Kept.refl None' w).alloc _ _
  have KB := Lib.hid kb
  have HG := Lib.hid (And.intro g0 (And.intro g1 (And.intro g2 (And.intro g3 g4))))
  clear hW kb
  go_upto_region 2 with (first
    | (go_at_call 48; refine (levels_e2b x y Wn Hn (some ⟨b, o, none⟩) n cap how s d _ HF.out h1 h2).mono ?_; rintro e w1 ⟨rfl, hk1⟩; have HK1 := Lib.hid (KB.out.trans hk1); have KA := Lib.hid hk1; clear hk1)
    | fail)
  have g0 := KA.out.some g0 id
  have g1 := KA.out.some g1 id
  have g2 := KA.out.some g2 id
  have g3 := KA.out.some g3 id
  have g4 := KA.out.some g4 id
  go_upto_region 3 with (first
    | (go_at_call 49; refine (diffuse_ok x y Wn Hn b o n cap z d M _ HF.out d1 d2 HM.out h3 h4 (fun i hi => HK1.out.some (HC.out i hi) id) hcap).mono ?_; rintro e w2 ⟨B2, hB2, rfl, hk2, hc2⟩; have HC2 := Lib.hid hc2; have HK2 := Lib.hid (HK1.out.trans hk2); have KA2 := Lib.hid hk2; clear hk2 hc2 hB2)
    | fail)
  have g0 := KA2.out.some g0 id
  have g1 := KA2.out.some g1 id
  have g2 := KA2.out.some g2 id
  have g3 := KA2.out.some g3 id
  have g4 := KA2.out.some g4 id
  go_upto_region 5 with (first
    | (go_at_call 14; refine (when_any _ _ _).mono ?_; rintro e w' ⟨rfl, rfl⟩)
    | (go_at_call 15; refine (in_one _ _ _ _).mono ?_; (first | rw [i1]); rintro e w' ⟨rfl, rfl⟩)
    | (go_at_call 33; refine (frameerror_any _ _ _ _ _ _ _ _).mono ?_; rw [HF.out]; rintro e w3 ⟨rfl, hk3⟩)
    | fail)
  have g0 := hk3.some g0 id
  have g1 := hk3.some g1 id
  have g2 := hk3.some g2 id
  have g3 := hk3.some g3 id
  have g4 := hk3.some g4 id
  have K3 := Lib.hid (HK2.out.trans hk3)
  have HD3 := Lib.hid (fun j hj => hk3.some (HC2.out j hj) id)
  clear hk3
  go_upto_region 9 with (first
    | (go_at_call 16; refine (finishes_one _).mono ?_; rintro e w' ⟨rfl, nf, rfl⟩)
    | (go_at_call 12; refine (first2_any _ _ 0 0 _ (by go_simp) (by go_simp)).mono ?_; rintro e w' ⟨rfl, rfl⟩)
    | fail)
  refine of_world (fun W5 hW => ?_)
  have k5 : Kept None' w3 W5 := by rw [hW]; repeat (first | exact Kept.refl _ _ | refine Kept.drew ?_ _ | refine Kept.alloc ?_ _ _)
  have HD5 := Lib.hid (fun j hj => k5.some (HD3.out j hj) id)
  have K5 := Lib.hid (K3.out.trans k5)
  have g0 := k5.some g0 id
  have g1 := k5.some g1 id
  have g2 := k5.some g2 id
  have g3 := k5.some g3 id
  have g4 := k5.some g4 id
  have HG5 := Lib.hid (And.intro g0 (And.intro g1 (And.intro g2 (And.intro g3 g4))))
  clear hW k5
  go_upto_region 11 with (first
    | (go_at_call 36; refine (few_any _ _ _ _ _ _ _ _).mono ?_; rw [hf]; rintro e w4 ⟨rfl, hk4⟩; have g0 := hk4.some g0 id; have g1 := hk4.some g1 id; have g2 := hk4.some g2 id; have g3 := hk4.some g3 id; have g4 := hk4.some g4 id)
    | (go_at_call 50; refine (diffusedof_ok x y Wn Hn b o n cap z d M _ HF.out d1 d2 HM.out h3 h4 (fun i hi => (K5.out.trans hk4).some (HC.out i hi) id) hcap).mono ?_; rintro e w5 ⟨B3, hB3, rfl, hk5, hc3⟩; have HC3 := Lib.hid hc3; have K6 := Lib.hid ((K5.out.trans hk4).trans hk5); have KD := Lib.hid (hk4.trans hk5); clear hk5 hc3 hB3 hk4)
    | (go_at_call 31; refine (equal_ints (some ⟨B2, 0, none⟩) (some ⟨B3, 0, none⟩) n n n (dfO Wn Hn M z) _ (by omega) (fun _ => ⟨B2, 0, rfl, fun i hi => by rw [Nat.zero_add]; exact KD.out.some (HD5.out i hi) id⟩) (fun _ => ⟨B3, 0, rfl, fun i hi => by rw [Nat.zero_add]; exact HC3.out i hi⟩)).mono ?_; rintro e w6 ⟨rfl, hk6⟩; have K7 := Lib.hid (K6.out.trans hk6); have KE := Lib.hid (KD.out.trans hk6); clear hk6)
    | fail)
  have K8 := Lib.hid K7.out
  have KF := Lib.hid KE.out
  have g0 := KF.out.some HG5.out.1 id
  have g1 := KF.out.some HG5.out.2.1 id
  have g2 := KF.out.some HG5.out.2.2.1 id
  have g3 := KF.out.some HG5.out.2.2.2.1 id
  have g4 := KF.out.some HG5.out.2.2.2.2 id
  go_wp2_with (first
    | (go_at_call 14; refine (when_any _ _ _).mono ?_; rintro e w' ⟨rfl, rfl⟩)
    | (go_at_call 15; refine (in_one _ _ _ _).mono ?_; (first | rw [i2]); rintro e w' ⟨rfl, rfl⟩)
    | (go_at_call 12; refine (first3_any _ _ 0 1 0 _ (by go_simp) (by go_simp) (by go_simp)).mono ?_; rintro e w' ⟨rfl, rfl⟩)
    | fail)
  go_ret
  refine ⟨rfl, ?_⟩
  repeat (first | exact Kept.refl _ _ | refine Kept.drew ?_ _ | refine Kept.alloc ?_ _ _ | exact K8.out)

set_option linter.unusedSimpArgs false in
set_option linter.unusedVariables false in
set_option maxHeartbeats 8000000 in
set_option maxRecDepth 100000 in
theorem fl_C2_false (x y : Int) (Wn Hn : Nat) (b o n cap : Nat) (z : Nat → Nat) (how s d M : Int) (w : World) (hF : frE x y Wn Hn n = 0) (d1 : 1 ≤ d) (d2 : d ≤ 16) (hM : wrap64 (wrap64 (2 ^ d.toNat) - 1) = M) (h3 : 1 ≤ M) (h4 : M ≤ 65535) (hc : ∀ i, i < n → w.cell? ⟨b, o + i, none⟩ = some (.float .f32 (z i))) (hcap : n ≤ cap) (h1 : decide (how < 0) = false) (h2 : decide (2 < how) = true) (hf : decide (n ≤ 400) = false) :
    Calls Try.prog 8 #[.agg #[.int .i64 x, .int .i64 y, .int .i64 Wn, .int .i64 Hn, .slice (some ⟨b, o, none⟩) n cap], .int .i64 how, .int .u32 s, .int .i64 d] w fun e w' => e = .returned (.bool true) ∧ Kept None' w w' := by
  obtain ⟨hE, hn⟩ := frE_good hF
  obtain ⟨w1', w2', w3', w4', w5'⟩ := regE_ok hE
  have w6 := (mul_bd w1' w2' w3' w4').2
  have w7 : 4 * (Wn : Int) * Hn = 4 * (Wn * Hn) := Int.mul_assoc ..
  have hn6 : n ≤ 262144 := by omega
  have i1 : inB d 1 16 = true := inB_yes d1 d2
  have HE := Lib.hid (And.intro hE hn)
  have HF := Lib.hid hF
  have HM := Lib.hid hM
  have HC := Lib.hid hc
  clear hF hM hc hE hn w5' w6 w7
  have i2 : inB how 0 2 = false := by unfold inB; simp at h1 h2 ⊢ <;> omega
  go_enter Try.func8, Try.ntmps8
  go_upto_region 1 with (fail)
  refine of_world (fun w0 hW => ?_)
  have g0 : w0.cell? ⟨w.heap.size, 0, none⟩ = some (.int .i64 x) := by rw [hW]; go_simp
  have g1 : w0.cell? ⟨w.heap.size, 1, none⟩ = some (.int .i64 y) := by rw [hW]; go_simp
  have g2 : w0.cell? ⟨w.heap.size, 2, none⟩ = some (.int .i64 Wn) := by rw [hW]; go_simp
  have g3 : w0.cell? ⟨w.heap.size, 3, none⟩ = some (.int .i64 Hn) := by rw [hW]; go_simp
  have g4 : w0.cell? ⟨w.heap.size, 4, none⟩ = some (.slice (some ⟨b, o, none⟩) n cap) := by rw [hW]; go_simp
  have kb : Kept None' w w0 := by rw [hW]; exact (Kept.refl None' w).alloc _ _
  have KB := Lib.hid kb
  have HG := Lib.hid (And.intro g0 (And.intro g1 (And.intro g2 (And.intro g3 g4))))
  clear hW kb
  go_upto_region 2 with (first
    | (go_at_call 48; refine (levels_e2b x y Wn Hn (some ⟨b, o, none⟩) n cap how s d _ HF.out h1 h2).mono ?_; rintro e w1 ⟨rfl, hk1⟩; have HK1 := Lib.hid (KB.out.trans hk1); have KA := Lib.hid hk1; clear hk1)
    | fail)
  have g0 := KA.out.some g0 id
  have g1 := KA.out.some g1 id
  have g2 := KA.out.some g2 id
  have g3 := KA.out.some g3 id
  have g4 := KA.out.some g4 id
  go_upto_region 3 with (first
    | (go_at_call 49; refine (diffuse_ok x y Wn Hn b o n cap z d M _ HF.out d1 d2 HM.out h3 h4 (fun i hi => HK1.out.some (HC.out i hi) id) hcap).mono ?_; rintro e w2 ⟨B2, hB2, rfl, hk2, hc2⟩; have HC2 := Lib.hid hc2; have HK2 := Lib.hid (HK1.out.trans hk2); have KA2 := Lib.hid hk2; clear hk2 hc2 hB2)
    | fail)
  have g0 := KA2.out.some g0 id
  have g1 := KA2.out.some g1 id
  have g2 := KA2.out.some g2 id
  have g3 := KA2.out.some g3 id
  have g4 := KA2.out.some g4 id
  go_upto_region 5 with (first
    | (go_at_call 14; refine (when_any _ _ _).mono ?_; rintro e w' ⟨rfl, rfl⟩)
    | (go_at_call 15; refine (in_one _ _ _ _).mono ?_; (first | rw [i1]); rintro e w' ⟨rfl, rfl⟩)
    | (go_at_call 33; refine (frameerror_any _ _ _ _ _ _ _ _).mono ?_; rw [HF.out]; rintro e w3 ⟨rfl, hk3⟩)
    | fail)
  have g0 := hk3.some g0 id
  have g1 := hk3.some g1 id
  have g2 := hk3.some g2 id
  have g3 := hk3.some g3 id
  have g4 := hk3.some g4 id
  have K3 := Lib.hid (HK2.out.trans hk3)
  have HD3 := Lib.hid (fun j hj => hk3.some (HC2.out j hj) id)
  clear hk3
  go_upto_region 9 with (first
    | (go_at_call 16; refine (finishes_one _).mono ?_; rintro e w' ⟨rfl, nf, rfl⟩)
    | (go_at_call 12; refine (first2_any _ _ 0 0 _ (by go_simp) (by go_simp)).mono ?_; rintro e w' ⟨rfl, rfl⟩)
    | fail)
  refine of_world (fun W5 hW => ?_)
  have k5 : Kept None' w3 W5 := by rw [hW]; repeat (first | exact Kept.refl _ _ | refine Kept.drew ?_ _ | refine Kept.alloc ?_ _ _)
  have HD5 := Lib.hid (fun j hj => k5.some (HD3.out j hj) id)
  have K5 := Lib.hid (K3.out.trans k5)
  have g0 := k5.some g0 id
  have g1 := k5.some g1 id
  have g2 := k5.some g2 id
  have g3 := k5.some g3 id
  have g4 := k5.some g4 id
  have HG5 := Lib.hid (And.intro g0 (And.intro g1 (And.intro g2 (And.intro g3 g4))))
  clear hW k5
  go_upto_region 11 with (first
    | (go_at_call 36; refine (few_any _ _ _ _ _ _ _ _).mono ?_; rw [hf]; rintro e w4 ⟨rfl, hk4⟩; have g0 := hk4.some g0 id; have g1 := hk4.some g1 id; have g2 := hk4.some g2 id; have g3 := hk4.some g3 id; have g4 := hk4.some g4 id)
    | fail)
  have K8 := Lib.hid (K5.out.trans hk4)
  have KF := Lib.hid hk4
  clear hk4
  have g0 := KF.out.some HG5.out.1 id
  have g1 := KF.out.some HG5.out.2.1 id
  have g2 := KF.out.some HG5.out.2.2.1 id
  have g3 := KF.out.some HG5.out.2.2.2.1 id
  have g4 := KF.out.some HG5.out.2.2.2.2 id
  go_wp2_with (first
    | (go_at_call 14; refine (when_any _ _ _).mono ?_; rintro e w' ⟨rfl, rfl⟩)
    | (go_at_call 15; refine (in_one _ _ _ _).mono ?_; (first | rw [i2]); rintro e w' ⟨rfl, rfl⟩)
    | (go_at_call 12; refine (first3_any _ _ 0 1 0 _ (by go_simp) (by go_simp) (by go_simp)).mono ?_; rintro e w' ⟨rfl, rfl⟩)
    | fail)
  go_ret
  refine ⟨rfl, ?_⟩
  repeat (first | exact Kept.refl _ _ | refine Kept.drew ?_ _ | refine Kept.alloc ?_ _ _ | exact K8.out)

set_option linter.unusedSimpArgs false in
set_option linter.unusedVariables false in
set_option maxHeartbeats 8000000 in
set_option maxRecDepth 100000 in
theorem fl_D_true (x y : Int) (Wn Hn : Nat) (b o n cap : Nat) (z : Nat → Nat) (how s d M : Int) (w : World) (hF : frE x y Wn Hn n = 0) (d1 : 1 ≤ d) (d2 : d ≤ 16) (hM : wrap64 (wrap64 (2 ^ d.toNat) - 1) = M) (h3 : 1 ≤ M) (h4 : M ≤ 65535) (hc : ∀ i, i < n → w.cell? ⟨b, o + i, none⟩ = some (.float .f32 (z i))) (hcap : n ≤ cap) (hh1 : 0 ≤ how) (hh2 : how ≤ 2) (hf : decide (n ≤ 400) = true) :
    Calls Try.prog 8 #[.agg #[.int .i64 x, .int .i64 y, .int .i64 Wn, .int .i64 Hn, .slice (some ⟨b, o, none⟩) n cap], .int .i64 how, .int .u32 s, .int .i64 d] w fun e w' => e = .returned (.bool true) ∧ Kept None' w w' := by
  obtain ⟨hE, hn⟩ := frE_good hF
  obtain ⟨w1', w2', w3', w4', w5'⟩ := regE_ok hE
  have w6 := (mul_bd w1' w2' w3' w4').2
  have w7 : 4 * (Wn : Int) * Hn = 4 * (Wn * Hn) := Int.mul_assoc ..
  have hn6 : n ≤ 262144 := by omega
  have i1 : inB d 1 16 = true := inB_yes d1 d2
  have HE := Lib.hid (And.intro hE hn)
  have HF := Lib.hid hF
  have HM := Lib.hid hM
  have HC := Lib.hid hc
  clear hF hM hc hE hn w5' w6 w7
  have i2 : inB how 0 2 = true := inB_yes hh1 hh2
  go_enter Try.func8, Try.ntmps8
  go_upto_region 1 with (fail)
  refine of_world (fun w0 hW => ?_)
  have g0 : w0.cell? ⟨w.heap.size, 0, none⟩ = some (.int .i64 x) := by rw [hW]; go_simp
  have g1 : w0.cell? ⟨w.heap.size, 1, none⟩ = some (.int .i64 y) := by rw [hW]; go_simp
  have g2 : w0.cell? ⟨w.heap.size, 2, none⟩ = some (.int .i64 Wn) := by rw [hW]; go_simp
  have g3 : w0.cell? ⟨w.heap.size, 3, none⟩ = some (.int .i64 Hn) := by rw [hW]; go_simp
  have g4 : w0.cell? ⟨w.heap.size, 4, none⟩ = some (.slice (some ⟨b, o, none⟩) n cap) := by rw [hW]; go_simp
  have kb : Kept None' w w0 := by rw [hW]; exact (Kept.refl None' w).alloc _ _
  have KB := Lib.hid kb
  have HG := Lib.hid (And.intro g0 (And.intro g1 (And.intro g2 (And.intro g3 g4))))
  clear hW kb
  go_upto_region 2 with (first
    | (go_at_call 48; refine (levels_ok x y Wn Hn b o n cap z how s d M _ HF.out hh1 hh2 d1 d2 HM.out h3 h4 (fun i hi => KB.out.some (HC.out i hi) id) hcap).mono ?_; rintro e w1 ⟨B1, hB1, rfl, hk1, hc1⟩; have HC1 := Lib.hid hc1; have HK1 := Lib.hid (KB.out.trans hk1); have KA := Lib.hid hk1; clear hk1 hc1 hB1)
    | fail)
  have g0 := KA.out.some g0 id
  have g1 := KA.out.some g1 id
  have g2 := KA.out.some g2 id
  have g3 := KA.out.some g3 id
  have g4 := KA.out.some g4 id
  go_upto_region 3 with (first
    | (go_at_call 49; refine (diffuse_ok x y Wn Hn b o n cap z d M _ HF.out d1 d2 HM.out h3 h4 (fun i hi => HK1.out.some (HC.out i hi) id) hcap).mono ?_; rintro e w2 ⟨B2, hB2, rfl, hk2, hc2⟩; have HC2 := Lib.hid hc2; have HK2 := Lib.hid (HK1.out.trans hk2); have KA2 := Lib.hid hk2; clear hk2 hc2 hB2)
    | fail)
  have g0 := KA2.out.some g0 id
  have g1 := KA2.out.some g1 id
  have g2 := KA2.out.some g2 id
  have g3 := KA2.out.some g3 id
  have g4 := KA2.out.some g4 id
  go_upto_region 5 with (first
    | (go_at_call 14; refine (when_any _ _ _).mono ?_; rintro e w' ⟨rfl, rfl⟩)
    | (go_at_call 15; refine (in_one _ _ _ _).mono ?_; (first | rw [i1]); rintro e w' ⟨rfl, rfl⟩)
    | (go_at_call 33; refine (frameerror_any _ _ _ _ _ _ _ _).mono ?_; rw [HF.out]; rintro e w3 ⟨rfl, hk3⟩)
    | fail)
  have g0 := hk3.some g0 id
  have g1 := hk3.some g1 id
  have g2 := hk3.some g2 id
  have g3 := hk3.some g3 id
  have g4 := hk3.some g4 id
  have K3 := Lib.hid (HK2.out.trans hk3)
  have HD3 := Lib.hid (fun j hj => hk3.some (HC2.out j hj) id)
  have HL3 := Lib.hid (fun j hj => (KA2.out.trans hk3).some (HC1.out j hj) id)
  clear hk3
  go_upto_region 9 with (first
    | (go_at_call 16; refine (finishes_one _).mono ?_; rintro e w' ⟨rfl, nf, rfl⟩)
    | (go_at_call 12; refine (first2_any _ _ 0 0 _ (by go_simp) (by go_simp)).mono ?_; rintro e w' ⟨rfl, rfl⟩)
    | fail)
  refine of_world (fun W5 hW => ?_)
  have k5 : Kept None' w3 W5 := by rw [hW]; repeat (first | exact Kept.refl _ _ | refine Kept.drew ?_ _ | refine Kept.alloc ?_ _ _)
  have HD5 := Lib.hid (fun j hj => k5.some (HD3.out j hj) id)
  have HL5 := Lib.hid (fun j hj => k5.some (HL3.out j hj) id)
  have K5 := Lib.hid (K3.out.trans k5)
  have g0 := k5.some g0 id
  have g1 := k5.some g1 id
  have g2 := k5.some g2 id
  have g3 := k5.some g3 id
  have g4 := k5.some g4 id
  have HG5 := Lib.hid (And.intro g0 (And.intro g1 (And.intro g2 (And.intro g3 g4))))
  clear hW k5
  go_upto_region 11 with (first
    | (go_at_call 36; refine (few_any _ _ _ _ _ _ _ _).mono ?_; rw [hf]; rintro e w4 ⟨rfl, hk4⟩; have g0 := hk4.some g0 id; have g1 := hk4.some g1 id; have g2 := hk4.some g2 id; have g3 := hk4.some g3 id; have g4 := hk4.some g4 id)
    | (go_at_call 50; refine (diffusedof_ok x y Wn Hn b o n cap z d M _ HF.out d1 d2 HM.out h3 h4 (fun i hi => (K5.out.trans hk4).some (HC.out i hi) id) hcap).mono ?_; rintro e w5 ⟨B3, hB3, rfl, hk5, hc3⟩; have HC3 := Lib.hid hc3; have K6 := Lib.hid ((K5.out.trans hk4).trans hk5); have KD := Lib.hid (hk4.trans hk5); clear hk5 hc3 hB3 hk4)
    | (go_at_call 31; refine (equal_ints (some ⟨B2, 0, none⟩) (some ⟨B3, 0, none⟩) n n n (dfO Wn Hn M z) _ (by omega) (fun _ => ⟨B2, 0, rfl, fun i hi => by rw [Nat.zero_add]; exact KD.out.some (HD5.out i hi) id⟩) (fun _ => ⟨B3, 0, rfl, fun i hi => by rw [Nat.zero_add]; exact HC3.out i hi⟩)).mono ?_; rintro e w6 ⟨rfl, hk6⟩; have K7 := Lib.hid (K6.out.trans hk6); have KE := Lib.hid (KD.out.trans hk6); clear hk6)
    | fail)
  have K8 := Lib.hid K7.out
  have KF := Lib.hid KE.out
  have g0 := KF.out.some HG5.out.1 id
  have g1 := KF.out.some HG5.out.2.1 id
  have g2 := KF.out.some HG5.out.2.2.1 id
  have g3 := KF.out.some HG5.out.2.2.2.1 id
  have g4 := KF.out.some HG5.out.2.2.2.2 id
  have HL8 := Lib.hid (fun j hj => KF.out.some (HL5.out j hj) id)
  go_upto_region 14 with (first
    | (go_at_call 14; refine (when_any _ _ _).mono ?_; rintro e w' ⟨rfl, rfl⟩)
    | (go_at_call 15; refine (in_one _ _ _ _).mono ?_; (first | rw [i2]); rintro e w' ⟨rfl, rfl⟩)
    | (go_at_call 12; refine (first3_any _ _ 0 0 0 _ (by go_simp) (by go_simp) (by go_simp)).mono ?_; rintro e w' ⟨rfl, rfl⟩)
    | fail)
  refine of_world (fun W9 hW => ?_)
  have k9 : Kept None' w6 W9 := by rw [hW]; repeat (first | exact Kept.refl _ _ | refine Kept.drew ?_ _ | refine Kept.alloc ?_ _ _)
  have HL9 := Lib.hid (fun j hj => k9.some (HL8.out j hj) id)
  have K9 := Lib.hid (K8.out.trans k9)
  have g0 := k9.some g0 id
  have g1 := k9.some g1 id
  have g2 := k9.some g2 id
  have g3 := k9.some g3 id
  have g4 := k9.some g4 id
  clear hW k9
  go_upto_region 16 with (first
    | (go_at_call 36; refine (few_any _ _ _ _ _ _ _ _).mono ?_; rw [hf]; rintro e w7 ⟨rfl, hk7⟩)
    | fail)
  have g0 := hk7.some g0 id
  have g1 := hk7.some g1 id
  have g2 := hk7.some g2 id
  have g3 := hk7.some g3 id
  have g4 := hk7.some g4 id
  have KA7 := Lib.hid (K9.out.trans hk7)
  have HLa := Lib.hid (fun j hj => hk7.some (HL9.out j hj) id)
  clear hk7
  go_upto_region 17 with (first
    | (go_at_call 11; refine (frame_go x y Wn Hn d M B1 0 n n (lvK how s x y Wn M z) _ HE.out.1 d1 d2 HM.out h3 h4 HE.out.2 (fun i hi => by rw [Nat.zero_add]; exact HLa.out i hi) (Nat.le_refl _)).mono ?_; rintro e w8 hp; obtain ⟨hk8, hB8⟩ := hp; obtain ⟨B4, hB4, rfl, hc4⟩ := fr_yes (okTo_of n (fun j hj => lvK_bd how s x y Wn M z j (by omega) (by omega))) hB8; have HC4 := Lib.hid hc4; have HK8 := Lib.hid hk8; clear hk8 hc4 hB4 hB8)
    | fail)
  refine of_world (fun W10 hW => ?_)
  have k10 : Kept None' w8 W10 := by rw [hW]; exact (Kept.refl _ _).alloc _ _
  have q0 : W10.cell? ⟨w8.heap.size, 0, none⟩ = some (.int .i64 x) := by rw [hW]; go_simp
  have q1 : W10.cell? ⟨w8.heap.size, 1, none⟩ = some (.int .i64 y) := by rw [hW]; go_simp
  have q2 : W10.cell? ⟨w8.heap.size, 2, none⟩ = some (.int .i64 Wn) := by rw [hW]; go_simp
  have q3 : W10.cell? ⟨w8.heap.size, 3, none⟩ = some (.int .i64 Hn) := by rw [hW]; go_simp
  have q4 : W10.cell? ⟨w8.heap.size, 4, none⟩ = some (.slice (some ⟨B4, 0, none⟩) n n) := by rw [hW]; go_simp
  have kt := HK8.out.trans k10
  have g0 := kt.some g0 id
  have g1 := kt.some g1 id
  have g2 := kt.some g2 id
  have g3 := kt.some g3 id
  have g4 := kt.some g4 id
  have HLb := Lib.hid (fun j hj => kt.some (HLa.out j hj) id)
  have HC4b := Lib.hid (fun j hj => k10.some (HC4.out j hj) id)
  have K10 := Lib.hid (KA7.out.trans kt)
  clear hW k10 kt
  go_upto_region 18 with (first
    | (go_at_call 48; refine (levels_ok x y Wn Hn B4 0 n n (fun j => valP (lvK how s x y Wn M z j) M) 0 s d M _ HF.out (by decide) (by decide) d1 d2 HM.out h3 h4 (fun i hi => by rw [Nat.zero_add]; exact HC4b.out i hi) (Nat.le_refl _)).mono ?_; rintro e w11 ⟨B5, hB5, rfl, hk5, hc5⟩; have HC5 := Lib.hid hc5; have KB5 := Lib.hid hk5; clear hk5 hc5 hB5)
    | fail)
  have g0 := KB5.out.some g0 id
  have g1 := KB5.out.some g1 id
  have g2 := KB5.out.some g2 id
  have g3 := KB5.out.some g3 id
  have g4 := KB5.out.some g4 id
  have HLc := Lib.hid (fun j hj => KB5.out.some (HLb.out j hj) id)
  have K11 := Lib.hid (K10.out.trans KB5.out)
  have hB5 : ∀ wx, Kept None' w11 wx → Rd wx (some ⟨B5, 0, none⟩) n (fun j => .int .i64 (lvK how s x y Wn M z j)) := fun wx hkx _ => ⟨B5, 0, rfl, fun i hi => by
    rw [Nat.zero_add, hkx.some (HC5.out i hi) id, lvK_back s x y Wn M (lvK how s x y Wn M z) i h3 h4 (lvK_bd how s x y Wn M z i (by omega) (by omega))]⟩
  have HB5 := Lib.hid hB5
  clear hB5
  go_wp2_with (first
    | (go_at_call 51; refine (levelsof_ok x y Wn Hn b o n cap z how s d M _ HF.out hh1 hh2 d1 d2 HM.out h3 h4 (fun i hi => K11.out.some (HC.out i hi) id) hcap).mono ?_; rintro e w12 ⟨v12, rfl, hown, hk12⟩; obtain ⟨A9, c9, rfl, hr9⟩ := hown.shape; have H9 := Lib.hid hr9; have KC := Lib.hid hk12; clear hown hr9 hk12)
    | (go_at_call 31; refine (equal_ints _ _ _ _ _ (lvK how s x y Wn M z) _ (by omega) (fun _ => ⟨B1, 0, rfl, fun i hi => by rw [Nat.zero_add]; exact KC.out.some (HLc.out i hi) id⟩) ?h2).mono ?_; (case h2 => (first | exact H9.out | exact HB5.out _ KC.out)); rintro e w13 ⟨rfl, hk13⟩; have KC := Lib.hid (KC.out.trans hk13); clear hk13)
    | fail)
  go_ret
  exact ⟨rfl, K11.out.trans KC.out⟩

set_option linter.unusedSimpArgs false in
set_option linter.unusedVariables false in
set_option maxHeartbeats 8000000 in
set_option maxRecDepth 100000 in
theorem fl_D_false (x y : Int) (Wn Hn : Nat) (b o n cap : Nat) (z : Nat → Nat) (how s d M : Int) (w : World) (hF : frE x y Wn Hn n = 0) (d1 : 1 ≤ d) (d2 : d ≤ 16) (hM : wrap64 (wrap64 (2 ^ d.toNat) - 1) = M) (h3 : 1 ≤ M) (h4 : M ≤ 65535) (hc : ∀ i, i < n → w.cell? ⟨b, o + i, none⟩ = some (.float .f32 (z i))) (hcap : n ≤ cap) (hh1 : 0 ≤ how) (hh2 : how ≤ 2) (hf : decide (n ≤ 400) = false) :
    Calls Try.prog 8 #[.agg #[.int .i64 x, .int .i64 y, .int .i64 Wn, .int .i64 Hn, .slice (some ⟨b, o, none⟩) n cap], .int .i64 how, .int .u32 s, .int .i64 d] w fun e w' => e = .returned (.bool true) ∧ Kept None' w w' := by
  obtain ⟨hE, hn⟩ := frE_good hF
  obtain ⟨w1', w2', w3', w4', w5'⟩ := regE_ok hE
  have w6 := (mul_bd w1' w2' w3' w4').2
  have w7 : 4 * (Wn : Int) * Hn = 4 * (Wn * Hn) := Int.mul_assoc ..
  have hn6 : n ≤ 262144 := by omega
  have i1 : inB d 1 16 = true := inB_yes d1 d2
  have HE := Lib.hid (And.intro hE hn)
  have HF := Lib.hid hF
  have HM := Lib.hid hM
  have HC := Lib.hid hc
  clear hF hM hc hE hn w5' w6 w7
  have i2 : inB how 0 2 = true := inB_yes hh1 hh2
  go_enter Try.func8, Try.ntmps8
  go_upto_region 1 with (fail)
  refine of_world (fun w0 hW => ?_)
  have g0 : w0.cell? ⟨w.heap.size, 0, none⟩ = some (.int .i64 x) := by rw [hW]; go_simp
  have g1 : w0.cell? ⟨w.heap.size, 1, none⟩ = some (.int .i64 y) := by rw [hW]; go_simp
  have g2 : w0.cell? ⟨w.heap.size, 2, none⟩ = some (.int .i64 Wn) := by rw [hW]; go_simp
  have g3 : w0.cell? ⟨w.heap.size, 3, none⟩ = some (.int .i64 Hn) := by rw [hW]; go_simp
  have g4 : w0.cell? ⟨w.heap.size, 4, none⟩ = some (.slice (some ⟨b, o, none⟩) n cap) := by rw [hW]; go_simp
  have kb : Kept None' w w0 := by rw [hW]; exact (Kept.refl None' w).alloc _ _
  have KB := Lib.hid kb
  have HG := Lib.hid (And.intro g0 (And.intro g1 (And.intro g2 (And.intro g3 g4))))
  clear hW kb
  go_upto_region 2 with (first
    | (go_at_call 48; refine (levels_ok x y Wn Hn b o n cap z how s d M _ HF.out hh1 hh2 d1 d2 HM.out h3 h4 (fun i hi => KB.out.some (HC.out i hi) id) hcap).mono ?_; rintro e w1 ⟨B1, hB1, rfl, hk1, hc1⟩; have HC1 := Lib.hid hc1; have HK1 := Lib.hid (KB.out.trans hk1); have KA := Lib.hid hk1; clear hk1 hc1 hB1)
    | fail)
  have g0 := KA.out.some g0 id
  have g1 := KA.out.some g1 id
  have g2 := KA.out.some g2 id
  have g3 := KA.out.some g3 id
  have g4 := KA.out.some g4 id
  go_upto_region 3 with (first
    | (go_at_call 49; refine (diffuse_ok x y Wn Hn b o n cap z d M _ HF.out d1 d2 HM.out h3 h4 (fun i hi => HK1.out.some (HC.out i hi) id) hcap).mono ?_; rintro e w2 ⟨B2, hB2, rfl, hk2, hc2⟩; have HC2 := Lib.hid hc2; have HK2 := Lib.hid (HK1.out.trans hk2); have KA2 := Lib.hid hk2; clear hk2 hc2 hB2)
    | fail)
  have g0 := KA2.out.some g0 id
  have g1 := KA2.out.some g1 id
  have g2 := KA2.out.some g2 id
  have g3 := KA2.out.some g3 id
  have g4 := KA2.out.some g4 id
  go_upto_region 5 with (first
    | (go_at_call 14; refine (when_any _ _ _).mono ?_; rintro e w' ⟨rfl, rfl⟩)
    | (go_at_call 15; refine (in_one _ _ _ _).mono ?_; (first | rw [i1]); rintro e w' ⟨rfl, rfl⟩)
    | (go_at_call 33; refine (frameerror_any _ _ _ _ _ _ _ _).mono ?_; rw [HF.out]; rintro e w3 ⟨rfl, hk3⟩)
    | fail)
  have g0 := hk3.some g0 id
  have g1 := hk3.some g1 id
  have g2 := hk3.some g2 id
  have g3 := hk3.some g3 id
  have g4 := hk3.some g4 id
  have K3 := Lib.hid (HK2.out.trans hk3)
  have HD3 := Lib.hid (fun j hj => hk3.some (HC2.out j hj) id)
  have HL3 := Lib.hid (fun j hj => (KA2.out.trans hk3).some (HC1.out j hj) id)
  clear hk3
  go_upto_region 9 with (first
    | (go_at_call 16; refine (finishes_one _).mono ?_; rintro e w' ⟨rfl, nf, rfl⟩)
    | (go_at_call 12; refine (first2_any _ _ 0 0 _ (by go_simp) (by go_simp)).mono ?_; rintro e w' ⟨rfl, rfl⟩)
    | fail)
  refine of_world (fun W5 hW => ?_)
  have k5 : Kept None' w3 W5 := by rw [hW]; repeat (first | exact Kept.refl _ _ | refine Kept.drew ?_ _ | refine Kept.alloc ?_ _ _)
  have HD5 := Lib.hid (fun j hj => k5.some (HD3.out j hj) id)
  have HL5 := Lib.hid (fun j hj => k5.some (HL3.out j hj) id)
  have K5 := Lib.hid (K3.out.trans k5)
  have g0 := k5.some g0 id
  have g1 := k5.some g1 id
  have g2 := k5.some g2 id
  have g3 := k5.some g3 id
  have g4 := k5.some g4 id
  have HG5 := Lib.hid (And.intro g0 (And.intro g1 (And.intro g2 (And.intro g3 g4))))
  clear hW k5
  go_upto_region 11 with (first
    | (go_at_call 36; refine (few_any _ _ _ _ _ _ _ _).mono ?_; rw [hf]; rintro e w4 ⟨rfl, hk4⟩; have g0 := hk4.some g0 id; have g1 := hk4.some g1 id; have g2 := hk4.some g2 id; have g3 := hk4.some g3 id; have g4 := hk4.some g4 id)
    | fail)
  have K8 := Lib.hid (K5.out.trans hk4)
  have KF := Lib.hid hk4
  clear hk4
  have g0 := KF.out.some HG5.out.1 id
  have g1 := KF.out.some HG5.out.2.1 id
  have g2 := KF.out.some HG5.out.2.2.1 id
  have g3 := KF.out.some HG5.out.2.2.2.1 id
  have g4 := KF.out.some HG5.out.2.2.2.2 id
  have HL8 := Lib.hid (fun j hj => KF.out.some (HL5.out j hj) id)
  go_upto_region 14 with (first
    | (go_at_call 14; refine (when_any _ _ _).mono ?_; rintro e w' ⟨rfl, rfl⟩)
    | (go_at_call 15; refine (in_one _ _ _ _).mono ?_; (first | rw [i2]); rintro e w' ⟨rfl, rfl⟩)
    | (go_at_call 12; refine (first3_any _ _ 0 0 0 _ (by go_simp) (by go_simp) (by go_simp)).mono ?_; rintro e w' ⟨rfl, rfl⟩)
    | fail)
  refine of_world (fun W9 hW => ?_)
  have k9 : Kept None' w4 W9 := by rw [hW]; repeat (first | exact Kept.refl _ _ | refine Kept.drew ?_ _ | refine Kept.alloc ?_ _ _)
  have HL9 := Lib.hid (fun j hj => k9.some (HL8.out j hj) id)
  have K9 := Lib.hid (K8.out.trans k9)
  have g0 := k9.some g0 id
  have g1 := k9.some g1 id
  have g2 := k9.some g2 id
  have g3 := k9.some g3 id
  have g4 := k9.some g4 id
  clear hW k9
  go_wp2_with (first
    | (go_at_call 36; refine (few_any _ _ _ _ _ _ _ _).mono ?_; rw [hf]; rintro e w7 ⟨rfl, hk7⟩)
    | fail)
  go_ret
  exact ⟨rfl, K9.out.trans hk7⟩

theorem walk_framesOfLevels (x y W H : Int) (A : Option Addr) (n cap : Nat) (z : Nat → Nat) (how s d : Int) (w : World) (_ : (Lit.int .i64 x).wf = true) (_ : (Lit.int .i64 y).wf = true) (_ : (Lit.int .i64 W).wf = true) (_ : (Lit.int .i64 H).wf = true)
    (hcap : n ≤ cap) (_ : cap ≤ maxLen) (hr : Rd w A n (fun i => .float .f32 (z i))) (_ : ∀ i, (Lit.float .f32 (z i)).wf = true) (_ : (Lit.int .i64 how).wf = true) (_ : (Lit.int .u32 s).wf = true) (_ : (Lit.int .i64 d).wf = true) :
    Calls Try.prog 8 #[.agg #[.int .i64 x, .int .i64 y, .int .i64 W, .int .i64 H, .slice A n cap], .int .i64 how, .int .u32 s, .int .i64 d] w fun e w' => e = .returned (.bool true) ∧ Kept None' w w' := by
  by_cases hF : frE x y W H n = 0
  · by_cases hd : 1 ≤ d ∧ d ≤ 16
    · obtain ⟨M, hM, m1, m2⟩ := most_of d hd.1 hd.2
      obtain ⟨hE, hn⟩ := frE_good hF
      obtain ⟨w1', w2', w3', w4', w5'⟩ := regE_ok hE
      have w6 := (mul_bd w1' w2' w3' w4').1
      have w7 : 4 * W * H = 4 * (W * H) := Int.mul_assoc ..
      obtain ⟨b, o, rfl, hc⟩ := hr (by omega)
      obtain ⟨Wn, rfl⟩ := Int.eq_ofNat_of_zero_le (show 0 ≤ W by omega)
      obtain ⟨Hn, rfl⟩ := Int.eq_ofNat_of_zero_le (show 0 ≤ H by omega)
      by_cases h1 : how < 0
      · cases hf : decide (n ≤ 400) with
        | true => exact fl_C1_true x y Wn Hn b o n cap z how s d M w hF hd.1 hd.2 hM m1 m2 hc hcap (by simp [h1]) hf
        | false => exact fl_C1_false x y Wn Hn b o n cap z how s d M w hF hd.1 hd.2 hM m1 m2 hc hcap (by simp [h1]) hf
      · by_cases h2 : 2 < how
        · cases hf : decide (n ≤ 400) with
          | true => exact fl_C2_true x y Wn Hn b o n cap z how s d M w hF hd.1 hd.2 hM m1 m2 hc hcap (by simp [h1]) (by simp [h2]) hf
          | false => exact fl_C2_false x y Wn Hn b o n cap z how s d M w hF hd.1 hd.2 hM m1 m2 hc hcap (by simp [h1]) (by simp [h2]) hf
        · cases hf : decide (n ≤ 400) with
          | true => exact fl_D_true x y Wn Hn b o n cap z how s d M w hF hd.1 hd.2 hM m1 m2 hc hcap (by omega) (by omega) hf
          | false => exact fl_D_false x y Wn Hn b o n cap z how s d M w hF hd.1 hd.2 hM m1 m2 hc hcap (by omega) (by omega) hf
    · have hd' : inB d 1 16 = false := inB_no (by omega)
      by_cases h1 : how < 0
      · exact fl_B_1 x y W H A n cap how s d w hF hd' (by simp [h1])
      · by_cases h2 : 2 < how
        · exact fl_B_2 x y W H A n cap how s d w hF hd' ⟨by simp [h1], by simp [h2]⟩
        · exact fl_B_3 x y W H A n cap how s d w hF hd' ⟨by simp [h1], by simp [h2]⟩
  · cases hd : inB d 1 16 <;> cases hh : inB how 0 2
    · exact fl_A_false_false x y W H A n cap how s d _ w rfl hF hd hh
    · exact fl_A_false_true x y W H A n cap how s d _ w rfl hF hd hh
    · exact fl_A_true_false x y W H A n cap how s d _ w rfl hF hd hh
    · exact fl_A_true_true x y W H A n cap how s d _ w rfl hF hd hh

end Go.Proofs.Ytfphhlodfieopaa
