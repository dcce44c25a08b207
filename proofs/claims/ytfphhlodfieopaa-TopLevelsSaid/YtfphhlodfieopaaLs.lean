/- The contracts of Levels and LevelsOf. Conditions: none. -/
import Derived.Test.YtfphhlodfieopaaOf
import Derived.Test.YtfphhlodfieopaaPk
import Derived.Test.YtfphhlodfieopaaFe
import Derived.Test.YtfphhlodfieopaaQw
import Derived.Deep.DeepCutAuto
namespace Go.Proofs.Ytfphhlodfieopaa
open Go.RowKit
open Fl Fr
open BigFrame

theorem frE_good {x y W H : Int} {n : Nat} (h : frE x y W H n = 0) : regE x y W H = 0 ∧ (n : Int) = 4 * W * H := by
  unfold frE at h
  by_cases h1 : regE x y W H = 0
  · rw [if_neg (by simp [h1])] at h
    by_cases h2 : (n : Int) = 4 * W * H
    · exact ⟨h1, h2⟩
    · rw [if_pos h2] at h; exact absurd h (by decide)
  · rw [if_pos h1] at h; exact absurd h h1
/-- The offset of the k-th single. -/
def offK (how s x y W : Int) (k : Nat) : Nat := if k % 4 < 3 then offP how s (x + (k : Int) / 4 % W) (y + (k : Int) / 4 / W) ((k : Int) % 4) ((x + (k : Int) / 4 % W) % 8).toNat ((y + (k : Int) / 4 / W) % 8).toNat else 0
def lvK (how s x y W M : Int) (z : Nat → Nat) (k : Nat) : Int := levelP (z k) (offK how s x y W k) M
/-- What Levels leaves. -/
def LvOk (n : Nat) (G : Nat → Int) (w : World) (e : Ending) (w' : World) : Prop := ∃ B, w.heap.size ≤ B ∧ e = .returned (.tuple #[.slice (some ⟨B, 0, none⟩) n n, .int .i64 0]) ∧ Kept None' w w' ∧ ∀ j, j < n → w'.cell? ⟨B, j, none⟩ = some (.int .i64 (G j))
def LvErr (E : Int) (w : World) (e : Ending) (w' : World) : Prop := e = .returned (.tuple #[.slice none 0 0, .int .i64 E]) ∧ Kept None' w w'
/-- The integers that are made. -/
structure LvS (w : World) (B n : Nat) (g : Nat → Int) (wr : World) : Prop where
  kept : Kept None' w wr
  lB : w.heap.size ≤ B
  fz : ∀ a : Addr, w.heap.size ≤ a.block → wr.frozen? a = false
  cell : ∀ j, j < n → wr.cell? ⟨B, j, none⟩ = some (.int .i64 (g j))
theorem LvS.step {w : World} {B n : Nat} {g : Nat → Int} {wr w' : World} (h : LvS w B n g wr) (k : Kept None' wr w') : LvS w B n g w' :=
  ⟨h.kept.trans k, h.lB, fun a ha => (k.frozen a).trans (h.fz a ha), fun j hj => k.some (h.cell j hj) id⟩
theorem LvS.set {w : World} {B n : Nat} {g g' : Nat → Int} {wr : World} (h : LvS w B n g wr) (k : Nat) (v : Int) (hg : ∀ j, j < n → g' j = if j = k then v else g j) : LvS w B n g' (wr.setCell ⟨B, k, none⟩ (.int .i64 v)) :=
  ⟨h.kept.setCell (Or.inl h.lB) _, h.lB, fun a ha => (World.frozen?_setCell ..).trans (h.fz a ha), fun j hj => by
    rw [hg j hj]
    by_cases e : j = k
    · subst e; rw [if_pos rfl]; exact cell_set_eq (h.cell j hj)
    · rw [if_neg e]; exact cell_set_ne (h.cell j hj) (Or.inr (fun x => e x.symm))⟩
theorem upto_set (G : Nat → Int) (k j : Nat) : (if j < k + 1 then G j else 0) = if j = k then G k else (if j < k then G j else 0) := by
  by_cases e : j = k
  · subst e; rw [if_pos (by omega), if_pos rfl]
  · rw [if_neg e]
    by_cases e2 : j < k
    · rw [if_pos (by omega), if_pos e2]
    · rw [if_neg (by omega), if_neg e2]

set_option linter.unusedSimpArgs false in
set_option linter.unusedVariables false in
set_option maxHeartbeats 4000000 in
set_option maxRecDepth 100000 in
theorem levels_e1 (x y W H : Int) (A : Option Addr) (n cap : Nat) (how s d : Int) (w : World) (E : Int) (hF : frE x y W H n = E) (h0 : ¬ E = 0) :
    Calls Try.prog 48 #[.agg #[.int .i64 x, .int .i64 y, .int .i64 W, .int .i64 H, .slice A n cap], .int .i64 how, .int .u32 s, .int .i64 d] w (LvErr E w) := by
  have hb : (E != 0) = true := by simp [h0]
  have HF := Lib.hid hF
  clear hF
  go_enter Try.func48, Try.ntmps48
  go_wp2_with (first
    | (go_at_call 76; refine (check_any _ _ _ _ _ _ _ _).mono ?_; rw [HF.out]; rintro e w1 ⟨rfl, hk1⟩)
    | (go_at_call 60; refine (deep_any _ _).mono ?_; rintro e w' ⟨rfl, rfl⟩)
    | fail)
  go_ret2
  exact ⟨rfl, ((Kept.refl None' w).alloc _ _).trans hk1⟩
set_option linter.unusedSimpArgs false in
set_option linter.unusedVariables false in
set_option maxHeartbeats 4000000 in
set_option maxRecDepth 100000 in
theorem levels_e2a (x y W H : Int) (A : Option Addr) (n cap : Nat) (how s d : Int) (w : World) (hF : frE x y W H n = 0) (h1 : decide (how < 0) = true) :
    Calls Try.prog 48 #[.agg #[.int .i64 x, .int .i64 y, .int .i64 W, .int .i64 H, .slice A n cap], .int .i64 how, .int .u32 s, .int .i64 d] w (LvErr 1 w) := by
  have HF := Lib.hid hF
  clear hF
  go_enter Try.func48, Try.ntmps48
  go_wp2_with (first
    | (go_at_call 76; refine (check_any _ _ _ _ _ _ _ _).mono ?_; rw [HF.out]; rintro e w1 ⟨rfl, hk1⟩)
    | (go_at_call 60; refine (deep_any _ _).mono ?_; rintro e w' ⟨rfl, rfl⟩)
    | fail)
  go_ret2
  exact ⟨rfl, ((Kept.refl None' w).alloc _ _).trans hk1⟩
set_option linter.unusedSimpArgs false in
set_option linter.unusedVariables false in
set_option maxHeartbeats 4000000 in
set_option maxRecDepth 100000 in
theorem levels_e2b (x y W H : Int) (A : Option Addr) (n cap : Nat) (how s d : Int) (w : World) (hF : frE x y W H n = 0) (h1 : decide (how < 0) = false) (h2 : decide (2 < how) = true) :
    Calls Try.prog 48 #[.agg #[.int .i64 x, .int .i64 y, .int .i64 W, .int .i64 H, .slice A n cap], .int .i64 how, .int .u32 s, .int .i64 d] w (LvErr 1 w) := by
  have HF := Lib.hid hF
  clear hF
  go_enter Try.func48, Try.ntmps48
  go_wp2_with (first
    | (go_at_call 76; refine (check_any _ _ _ _ _ _ _ _).mono ?_; rw [HF.out]; rintro e w1 ⟨rfl, hk1⟩)
    | (go_at_call 60; refine (deep_any _ _).mono ?_; rintro e w' ⟨rfl, rfl⟩)
    | fail)
  go_ret2
  exact ⟨rfl, ((Kept.refl None' w).alloc _ _).trans hk1⟩
set_option linter.unusedSimpArgs false in
set_option linter.unusedVariables false in
set_option maxHeartbeats 4000000 in
set_option maxRecDepth 100000 in
theorem levels_e3 (x y W H : Int) (A : Option Addr) (n cap : Nat) (how s d : Int) (w : World) (hF : frE x y W H n = 0) (h1 : decide (how < 0) = false) (h2 : decide (2 < how) = false) (h3 : (decide (1 ≤ d) && decide (d ≤ 16)) = false) :
    Calls Try.prog 48 #[.agg #[.int .i64 x, .int .i64 y, .int .i64 W, .int .i64 H, .slice A n cap], .int .i64 how, .int .u32 s, .int .i64 d] w (LvErr 3 w) := by
  have HF := Lib.hid hF
  clear hF
  go_enter Try.func48, Try.ntmps48
  go_wp2_with (first
    | (go_at_call 76; refine (check_any _ _ _ _ _ _ _ _).mono ?_; rw [HF.out]; rintro e w1 ⟨rfl, hk1⟩)
    | (go_at_call 60; refine (deep_any _ _).mono ?_; rintro e w' ⟨rfl, rfl⟩)
    | fail)
  go_ret2
  exact ⟨rfl, ((Kept.refl None' w).alloc _ _).trans hk1⟩
set_option linter.unusedSimpArgs false in
set_option linter.unusedVariables false in
set_option maxHeartbeats 4000000 in
set_option maxRecDepth 100000 in
theorem levels_ok (x y : Int) (W H : Int) (b o n cap : Nat) (z : Nat → Nat) (how s d M : Int) (w : World) (hF : frE x y W H n = 0) (hh1 : 0 ≤ how) (hh2 : how ≤ 2) (d1 : 1 ≤ d) (d2 : d ≤ 16) (hM : wrap64 (wrap64 (2 ^ d.toNat) - 1) = M) (h3 : 1 ≤ M) (h4 : M ≤ 65535)
    (hc : ∀ i, i < n → w.cell? ⟨b, o + i, none⟩ = some (.float .f32 (z i))) (hcap : n ≤ cap) :
    Calls Try.prog 48 #[.agg #[.int .i64 x, .int .i64 y, .int .i64 W, .int .i64 H, .slice (some ⟨b, o, none⟩) n cap], .int .i64 how, .int .u32 s, .int .i64 d] w (LvOk n (lvK how s x y W M z) w) := by
  obtain ⟨hE, hn⟩ := frE_good hF
  obtain ⟨w1', w2', w3', w4', w5'⟩ := regE_ok hE
  obtain ⟨bx1, bx2, by1, by2⟩ := regE_place hE
  have w6 := (mul_bd w1' w2' w3' w4').1
  have w7 : 4 * W * H = 4 * (W * H) := Int.mul_assoc ..
  have hn6 : n ≤ 65536 := by omega
  have e1 : decide (how < 0) = false := by simp; omega
  have e2 : decide (2 < how) = false := by simp; omega
  have e3 : (decide (1 ≤ d) && decide (d ≤ 16)) = true := by simp; omega
  have hdiv : ∀ k : Nat, k < n → 0 ≤ (k : Int) / 4 / W ∧ (k : Int) / 4 / W < 256 ∧ 0 ≤ (k : Int) / 4 % W ∧ (k : Int) / 4 % W < W := by
    intro k hk
    have q1 : 0 ≤ (k : Int) / 4 := by omega
    have q2 : (k : Int) / 4 < W * H := by omega
    have q3 : (k : Int) / 4 / W < H := Int.ediv_lt_of_lt_mul (by omega) (by rw [Int.mul_comm]; exact q2)
    exact ⟨Int.ediv_nonneg q1 (by omega), by omega, Int.emod_nonneg _ (by omega), Int.emod_lt_of_pos _ (by omega)⟩
  have HD := Lib.hid hdiv
  have HF := Lib.hid hF
  have HM := Lib.hid hM
  have HC := Lib.hid hc
  clear hF hM hc hE hn w5' w6 w7 hdiv
  go_enter Try.func48, Try.ntmps48
  go_upto_region 8 with (first
    | (go_at_call 76; refine (check_any _ _ _ _ _ _ _ _).mono ?_; rw [HF.out]; rintro e w1 ⟨rfl, hk1⟩
       have f0 : w1.cell? ⟨w.heap.size, 0, none⟩ = some (.int .i64 x) := hk1.some (by go_simp) id
       have f1 : w1.cell? ⟨w.heap.size, 1, none⟩ = some (.int .i64 y) := hk1.some (by go_simp) id
       have f2 : w1.cell? ⟨w.heap.size, 2, none⟩ = some (.int .i64 W) := hk1.some (by go_simp) id
       have f3 : w1.cell? ⟨w.heap.size, 3, none⟩ = some (.int .i64 H) := hk1.some (by go_simp) id
       have f4 : w1.cell? ⟨w.heap.size, 4, none⟩ = some (.slice (some ⟨b, o, none⟩) n cap) := hk1.some (by go_simp) id
       have zz : ∀ a : Addr, w.heap.size ≤ a.block → w1.frozen? a = false := fun a ha => (hk1.frozen a).trans ((frozen?_alloc_cells _ _ _ _).trans (frozen_new _ _ ha))
       have Z1 := Lib.hid zz
       have K1 := Lib.hid (((Kept.refl None' w).alloc _ _).trans hk1)
       clear hk1 zz)
    | (go_at_call 60; refine (deep_any _ _).mono ?_; rintro e w' ⟨rfl, rfl⟩)
    | fail)
  have hmk := run_make_row' (P := Try.prog) 24 3 (.int .i64 0) 8 Try.underlying24 int_info rfl .i64 .i64 n (by omega) (by omega)
  have hd := HD.out
  go_upto_region 9 with (fail)
  refine of_world (fun W1 hW => ?_)
  have k1 : Kept None' w1 W1 := by rw [hW]; exact (Kept.refl _ _).alloc _ _
  have hS : LvS w w1.heap.size n (fun j => if j < 0 then lvK how s x y W M z j else 0) W1 := by
    refine ⟨K1.out.trans k1, K1.out.size, fun a ha => (k1.frozen a).trans (Z1.out a ha), fun j hj => ?_⟩
    rw [hW]
    exact (cell_alloc_one w1 _ _ j).trans (made_at n j _ hj)
  have HF1 := Lib.hid (And.intro f0 (And.intro f1 (And.intro f2 f4)))
  have f0 := k1.some f0 id
  have f1 := k1.some f1 id
  have f2 := k1.some f2 id
  have f3 := k1.some f3 id
  have f4 := k1.some f4 id
  have HS1 := Lib.hid hS
  have HK1 := Lib.hid k1
  clear hW hS hmk k1 hd
  generalize hBe : w1.heap.size = B at HS1 ⊢
  have HB := Lib.hid (Nat.le_of_eq hBe)
  clear hBe
  go_wp2_with fail
  clear f0 f1 f2 f3 f4
  go_loopw [37] (fun i wr => ∃ k : Nat, k ≤ n ∧ i = .int .i64 k ∧ Kept None' w1 wr ∧ LvS w B n (fun j => if j < k then lvK how s x y W M z j else 0) wr) (fun i _ => n - (intOf i).toNat)
  case atStart => exact ⟨0, by omega, rfl, HK1.out, HS1.out⟩
  case round =>
    obtain ⟨k, hk, rfl, hkw, hS⟩ := hrel
    by_cases hlt : k < n
    · have f0 := hkw.some HF1.out.1 id
      have f1 := hkw.some HF1.out.2.1 id
      have f2 := hkw.some HF1.out.2.2.1 id
      have f4 := hkw.some HF1.out.2.2.2 id
      have c0 := hS.kept.some (HC.out k hlt) id
      have HS := Lib.hid (And.intro hS hkw)
      clear hS hkw HS1
      obtain ⟨g1, g2, g3, g4⟩ := HD.out k hlt
      by_cases hk4 : k % 4 < 3
      · have e4 : decide ((k : Int) % 4 < 3) = true := by simp; omega
        have hO : offK how s x y W k = offP how s (x + (k : Int) / 4 % W) (y + (k : Int) / 4 / W) ((k : Int) % 4) ((x + (k : Int) / 4 % W) % 8).toNat ((y + (k : Int) / 4 / W) % 8).toNat := if_pos hk4
        have HO := Lib.hid hO
        clear hO
        go_wp2_with fail
        have A0 := ext_cell f0
        have A1 := ext_cell f1
        have A2 := ext_cell f2
        refine region_ext (by kernel_rfl) (by kernel_rfl) ?_
        repeat (first
          | go_big_quiet_skip
          | (go_big_quiet_want; go_big_quiet_op; first | go_big_quiet_on | go_big_quiet_call (first
            | (go_at_call 88; exact calls_ext_same ((offset_any how s _ _ _ ((x + (k : Int) / 4 % W) % 8).toNat ((y + (k : Int) / 4 / W) % 8).toNat _ hh1 hh2 (by omega) (by omega)).mono fun e w' ⟨a, b⟩ => ⟨by rw [a, ← HO.out], b⟩)))))
        refine wpQuiet_nil ?_
        rintro _ ⟨xq, rfl⟩
        have kx := ext_kept wr xq
        have hS2 := HS.out.1.step kx
        have cB := hS2.cell k hlt
        have fB := hS2.fz ⟨B, k, none⟩ hS2.lB
        have HS2 := Lib.hid (And.intro hS2 (HS.out.2.trans kx))
        clear A0 A1 A2 hS2 kx
        generalize ext wr xq = w2 at *
        go_wp2_with (first
          | (go_at_call 89; refine (level_any _ _ d M _ d1 d2 HM.out h3 h4).mono ?_; rintro e w' ⟨rfl, m, rfl⟩)
          | fail)
        go_roundw
        case rel =>
          refine ⟨k + 1, by omega, by go_num, ?_, ?_⟩
          · exact (HS2.out.2.drew _).setCell (Or.inl HB.out) _
          · exact LvS.set (HS2.out.1.step ((Kept.refl _ _).drew _)) k _ (fun j hj => upto_set (lvK how s x y W M z) k j)
        case measure => simp [intOf]; omega
      · have e4 : decide ((k : Int) % 4 < 3) = false := by simp; omega
        have hO : levelP (z k) 0 M = lvK how s x y W M z k := by
          unfold lvK offK; rw [if_neg hk4]
        have HO := Lib.hid hO
        have cB := HS.out.1.cell k hlt
        have fB := HS.out.1.fz ⟨B, k, none⟩ HS.out.1.lB
        clear hO
        go_wp2_with (first
          | (go_at_call 89; refine (level_any _ _ d M _ d1 d2 HM.out h3 h4).mono ?_; rw [HO.out]; rintro e w' ⟨rfl, m, rfl⟩)
          | fail)
        go_roundw
        case rel =>
          refine ⟨k + 1, by omega, by go_num, ?_, ?_⟩
          · exact (HS.out.2.drew _).setCell (Or.inl HB.out) _
          · exact LvS.set (HS.out.1.step ((Kept.refl _ _).drew _)) k _ (fun j hj => upto_set (lvK how s x y W M z) k j)
        case measure => simp [intOf]; omega
    · obtain rfl : n = k := by omega
      have HS := Lib.hid hS
      clear hS
      go_wp2_with fail
      go_ret2
      exact ⟨B, HS.out.lB, rfl, HS.out.kept, fun j hj => by have := HS.out.cell j hj; rw [if_pos hj] at this; exact this⟩
set_option linter.unusedSimpArgs false in
set_option linter.unusedVariables false in
set_option maxHeartbeats 4000000 in
set_option maxRecDepth 100000 in
theorem levelsof_ok (x y : Int) (W H : Int) (b o n cap : Nat) (z : Nat → Nat) (how s d M : Int) (w : World) (hF : frE x y W H n = 0) (hh1 : 0 ≤ how) (hh2 : how ≤ 2) (d1 : 1 ≤ d) (d2 : d ≤ 16) (hM : wrap64 (wrap64 (2 ^ d.toNat) - 1) = M) (h3 : 1 ≤ M) (h4 : M ≤ 65535)
    (hc : ∀ i, i < n → w.cell? ⟨b, o + i, none⟩ = some (.float .f32 (z i))) (hcap : n ≤ cap) :
    Calls Try.prog 51 #[.agg #[.int .i64 x, .int .i64 y, .int .i64 W, .int .i64 H, .slice (some ⟨b, o, none⟩) n cap], .int .i64 how, .int .u32 s, .int .i64 d] w fun e w' =>
      ∃ v, e = .returned v ∧ OwnI w' w.heap.size 3 .i64 v n (lvK how s x y W M z) ∧ Kept None' w w' := by
  obtain ⟨hE, hn⟩ := frE_good hF
  obtain ⟨w1', w2', w3', w4', w5'⟩ := regE_ok hE
  obtain ⟨bx1, bx2, by1, by2⟩ := regE_place hE
  have w6 := (mul_bd w1' w2' w3' w4').1
  have w7 : 4 * W * H = 4 * (W * H) := Int.mul_assoc ..
  have hn6 : n ≤ 65536 := by omega
  have hdiv : ∀ k : Nat, k < n → 0 ≤ (k : Int) / 4 / W ∧ (k : Int) / 4 / W < 256 ∧ 0 ≤ (k : Int) / 4 % W ∧ (k : Int) / 4 % W < W := by
    intro k hk
    have q1 : 0 ≤ (k : Int) / 4 := by omega
    have q2 : (k : Int) / 4 < W * H := by omega
    have q3 : (k : Int) / 4 / W < H := Int.ediv_lt_of_lt_mul (by omega) (by rw [Int.mul_comm]; exact q2)
    exact ⟨Int.ediv_nonneg q1 (by omega), by omega, Int.emod_nonneg _ (by omega), Int.emod_lt_of_pos _ (by omega)⟩
  have HD := Lib.hid hdiv
  have HM := Lib.hid hM
  have HC := Lib.hid hc
  clear hF hM hc hE hn w5' w6 w7 hdiv
  obtain ⟨i0, hi, hz0, hz1, hz2⟩ := info_parts int_info
  go_enter Try.func51, Try.ntmps51
  go_upto_region 1 with (fail)
  refine of_world (fun W1 hW => ?_)
  have k1 : Kept None' w W1 := by rw [hW]; exact (Kept.refl _ _).alloc _ _
  have f0 : W1.cell? ⟨w.heap.size, 0, none⟩ = some (.int .i64 x) := by rw [hW]; go_simp
  have f1 : W1.cell? ⟨w.heap.size, 1, none⟩ = some (.int .i64 y) := by rw [hW]; go_simp
  have f2 : W1.cell? ⟨w.heap.size, 2, none⟩ = some (.int .i64 W) := by rw [hW]; go_simp
  have f4 : W1.cell? ⟨w.heap.size, 4, none⟩ = some (.slice (some ⟨b, o, none⟩) n cap) := by rw [hW]; go_simp
  have HF1 := Lib.hid (And.intro f0 (And.intro f1 (And.intro f2 f4)))
  have K1 := Lib.hid k1
  clear hW k1
  go_wp2_with fail
  clear f0 f1 f2 f4
  go_loopw [9, 19] (fun v i wr => ∃ k : Nat, k ≤ n ∧ i = .int .i64 k ∧ OwnI wr W1.heap.size 3 .i64 v k (lvK how s x y W M z) ∧ Kept None' W1 wr) (fun _ i _ => n - (intOf i).toNat)
  case atStart => exact ⟨0, by omega, rfl, OwnI.nil _ _ _ _ _, Kept.refl _ _⟩
  case round =>
    obtain ⟨k, hk, rfl, hown, hkp⟩ := hrel
    have HO := Lib.hid (And.intro hown hkp)
    by_cases hlt : k < n
    · have f0 := hkp.some HF1.out.1 id
      have f1 := hkp.some HF1.out.2.1 id
      have f2 := hkp.some HF1.out.2.2.1 id
      have c0 := (K1.out.trans hkp).some (HC.out k hlt) id
      clear hown hkp
      obtain ⟨g1, g2, g3, g4⟩ := HD.out k hlt
      go_wp2_with fail
      have A0 := ext_cell f0
      have A1 := ext_cell f1
      have A2 := ext_cell f2
      refine region_ext (by kernel_rfl) (by kernel_rfl) ?_
      repeat (first
        | go_big_quiet_skip
        | (go_big_quiet_want; go_big_quiet_op; go_big_quiet_on))
      refine wpQuiet_nil ?_
      rintro _ ⟨xq, rfl⟩
      have HO2 := Lib.hid (And.intro (HO.out.1.kept (ext_kept wr xq)) (HO.out.2.trans (ext_kept wr xq)))
      clear A0 A1 A2 f0 f1 f2 c0 HO
      generalize ext wr xq = w2 at *
      obtain ⟨of, hof⟩ : ∃ v, offP how s (x + (k : Int) / 4 % W) (y + (k : Int) / 4 / W) ((k : Int) % 4) ((x + (k : Int) / 4 % W) % 8).toNat ((y + (k : Int) / 4 / W) % 8).toNat = v := ⟨_, rfl⟩
      by_cases hk4 : k % 4 < 3
      · have e4 : ((k : Int) % 4 == 3) = false := by simp; omega
        have hL : levelP (z k) of M = lvK how s x y W M z k := by unfold lvK offK; rw [if_pos hk4, hof]
        have HL := Lib.hid hL
        have HP := Lib.hid hof
        clear hL hof
        go_wp2_with (first
          | (go_at_call 92; refine (offsetof_any how s _ _ _ ((x + (k : Int) / 4 % W) % 8).toNat ((y + (k : Int) / 4 / W) % 8).toNat _ hh1 hh2 (by omega) (by omega)).mono ?_; rw [HP.out]; rintro e w3 ⟨rfl, hg3⟩; have HO3 := Lib.hid (And.intro (HO2.out.1.kept (grown_kept hg3)) (HO2.out.2.trans (grown_kept hg3))); clear hg3)
          | (go_at_call 91; refine (levelof_any _ _ d M _ d1 d2 HM.out h3 h4).mono ?_; rw [HL.out]; rintro e w' ⟨rfl, m, rfl⟩)
          | (at_builtin; refine wpList_append_kept _ rfl _ _ 24 rfl W1.heap.size 3 i0 (.int .i64 0) 1 8 Try.underlying24 hi hz0 hz1 hz2 rfl (by decide) _ _ _ rfl (OwnI.kept HO3.out.1 (((Kept.refl _ _).drew m).alloc _ _)) ⟨w3.heap.size, 0, none⟩ 1 1 [.int .i64 (lvK how s x y W M z k)] rfl rfl ?c1 ?c2 (by decide) ?c3 ?c4 ?c5 ?_
             case c1 => exact news_one (cell_alloc_one (w3.drewN m) _ _ 0)
             case c2 => intro u hu; simp at hu; subst hu; rfl
             case c3 => unfold maxLen; omega
             case c4 => omega
             case c5 => exact Nat.le_trans HO3.out.2.size (by simp)
             intro g9 cap2 w4 hown4 hk4' hb4)
          | fail)
        go_roundw
        case rel => exact ⟨k + 1, by omega, by go_num, OwnI.app1 hown4 rfl, HO3.out.1.over' (((Kept.refl _ _).drew m).alloc _ _) HO3.out.2 hk4'⟩
        case measure => simp [intOf]; omega
      · have e4 : ((k : Int) % 4 == 3) = true := by simp; omega
        have hL : levelP (z k) 0 M = lvK how s x y W M z k := by unfold lvK offK; rw [if_neg hk4]
        have HL := Lib.hid hL
        have HP := Lib.hid hof
        clear hL hof
        go_wp2_with (first
          | (go_at_call 92; refine (offsetof_any how s _ _ _ ((x + (k : Int) / 4 % W) % 8).toNat ((y + (k : Int) / 4 / W) % 8).toNat _ hh1 hh2 (by omega) (by omega)).mono ?_; rw [HP.out]; rintro e w3 ⟨rfl, hg3⟩; have HO3 := Lib.hid (And.intro (HO2.out.1.kept (grown_kept hg3)) (HO2.out.2.trans (grown_kept hg3))); clear hg3)
          | (go_at_call 91; refine (levelof_any _ _ d M _ d1 d2 HM.out h3 h4).mono ?_; rw [HL.out]; rintro e w' ⟨rfl, m, rfl⟩)
          | (at_builtin; refine wpList_append_kept _ rfl _ _ 24 rfl W1.heap.size 3 i0 (.int .i64 0) 1 8 Try.underlying24 hi hz0 hz1 hz2 rfl (by decide) _ _ _ rfl (OwnI.kept HO3.out.1 (((Kept.refl _ _).drew m).alloc _ _)) ⟨w3.heap.size, 0, none⟩ 1 1 [.int .i64 (lvK how s x y W M z k)] rfl rfl ?c1 ?c2 (by decide) ?c3 ?c4 ?c5 ?_
             case c1 => exact news_one (cell_alloc_one (w3.drewN m) _ _ 0)
             case c2 => intro u hu; simp at hu; subst hu; rfl
             case c3 => unfold maxLen; omega
             case c4 => omega
             case c5 => exact Nat.le_trans HO3.out.2.size (by simp)
             intro g9 cap2 w4 hown4 hk4' hb4)
          | fail)
        go_roundw
        case rel => exact ⟨k + 1, by omega, by go_num, OwnI.app1 hown4 rfl, HO3.out.1.over' (((Kept.refl _ _).drew m).alloc _ _) HO3.out.2 hk4'⟩
        case measure => simp [intOf]; omega
    · obtain rfl : n = k := by omega
      clear hown hkp
      go_wp2_with fail
      go_ret
      exact ⟨_, rfl, ⟨HO.out.1.1, by
        rcases HO.out.1.2 with h | ⟨g, cp, cur, h1, h2, h3⟩
        · exact Or.inl h
        · exact Or.inr ⟨g, cp, cur, h1, Nat.le_trans K1.out.size h2, h3⟩⟩, K1.out.trans HO.out.2⟩
end Go.Proofs.Ytfphhlodfieopaa
