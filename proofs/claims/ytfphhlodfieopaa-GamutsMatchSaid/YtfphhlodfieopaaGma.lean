/- The walk of GamutsMatch, by cases. Conditions: none. -/
import Derived.Test.YtfphhlodfieopaaG1
import Derived.Test.YtfphhlodfieopaaG2
import Derived.Test.YtfphhlodfieopaaFi
import Derived.Test.YtfphhlodfieopaaEx
namespace Go.Proofs.Ytfphhlodfieopaa
open Go.RowKit
open Fl Fr
open BigFrame

theorem clipN_01 (v lo hi : Nat) : clipN v lo hi = 0 ∨ clipN v lo hi = 1 := by unfold clipN; split <;> simp
theorem bit_clip (v lo hi : Nat) (w : World) : Calls Try.prog 27 #[.float .f32 (limP v lo hi), .float .f32 v] w fun e w' => e = .returned (.bool (clipN v lo hi == 0)) ∧ w = w' :=
  (bit_any _ _ w).mono fun e w' ⟨a, b⟩ => ⟨by rw [a, cl_limP]; unfold clipN; split <;> simp [*], b⟩
theorem px_neq (w : World) : (binOp .neq 42 (.agg #[.float .f32 0, .float .f32 0, .float .f32 0, .float .f32 0]) (.agg #[.float .f32 0, .float .f32 0, .float .f32 0, .float .f32 0])).run Try.prog w = .ok (.bool false) w := by kernel_rfl
theorem px_eql (w : World) : (binOp .eql 42 (.agg #[.float .f32 0, .float .f32 0, .float .f32 0, .float .f32 0]) (.agg #[.float .f32 0, .float .f32 0, .float .f32 0, .float .f32 0])).run Try.prog w = .ok (.bool true) w := by kernel_rfl
theorem ordZ : FloatKind.f32.format.order 0 0 = some .eq := by decide +kernel

set_option linter.unusedSimpArgs false in
set_option linter.unusedVariables false in
set_option maxHeartbeats 16000000 in
set_option maxRecDepth 100000 in
theorem gm_n0 (p0 p1 p2 p3 fr lo hi : Nat) (w : World) (hn : isN fr = false) (g0 : (FloatKind.f32.format.order fr 0 == some .gt || FloatKind.f32.format.order fr 0 == some .eq) = false) :
    Calls Try.prog 4 #[.agg #[.float .f32 p0, .float .f32 p1, .float .f32 p2, .float .f32 p3], .float .f32 fr, .float .f32 lo, .float .f32 hi] w fun e w' => e = .returned (.bool true) ∧ Grown w w' := by
  have HC : ∀ w, Calls Try.prog 20 #[.agg #[.float .f32 p0, .float .f32 p1, .float .f32 p2, .float .f32 p3], .float .f32 fr] w fun e w' => e = .returned (.tuple #[.agg #[.float .f32 0, .float .f32 0, .float .f32 0, .float .f32 0], .int .i64 2]) ∧ Grown w w' := fun w =>
    (compress_any p0 p1 p2 p3 fr w).mono fun e w' ⟨a, b⟩ => ⟨by rw [a, hn]; rfl, b⟩
  have HC := Lib.hid HC
  have hz := ordZ
  have pn := px_neq
  have pe := px_eql
  go_enter Try.func4, Try.ntmps4
  go_wp2_with (first
    | (go_at_call 21; refine (isnumof_any _ _).mono ?_; rintro e w' ⟨rfl, n, rfl⟩)
    | (go_at_call 14; refine (when_any _ _ _).mono ?_; rintro e w' ⟨rfl, rfl⟩)
    | (go_at_call 12; refine (first2_any _ _ 2 3 _ (by go_simp) (by go_simp)).mono ?_; rintro e w' ⟨rfl, rfl⟩)
    | (go_at_call 25; refine (fix_any _ _).mono ?_; rintro e w' ⟨rfl, rfl⟩)
    | (go_at_call 20; refine (HC.out _).mono ?_; rintro e w1 ⟨rfl, hG1⟩)
    | fail)
  have a0 := grown_cell_some hG1 (cell_alloc_one w _ _ 0)
  have a1 := grown_cell_some hG1 (cell_alloc_one w _ _ 1)
  have a2 := grown_cell_some hG1 (cell_alloc_one w _ _ 2)
  have a3 := grown_cell_some hG1 (cell_alloc_one w _ _ 3)
  have hw1 := grown_kept (grown_trans ((Grown.refl w).alloc _ _) hG1)
  refine of_world (fun W hW => ?_)
  have b0 : W.cell? ⟨w1.heap.size, 0, none⟩ = some (.float .f32 0) := by rw [hW]; exact cell_alloc_two w1 _ _ _ _ 0
  have b1 : W.cell? ⟨w1.heap.size, 1, none⟩ = some (.float .f32 0) := by rw [hW]; exact cell_alloc_two w1 _ _ _ _ 1
  have b2 : W.cell? ⟨w1.heap.size, 2, none⟩ = some (.float .f32 0) := by rw [hW]; exact cell_alloc_two w1 _ _ _ _ 2
  have b3 : W.cell? ⟨w1.heap.size, 3, none⟩ = some (.float .f32 0) := by rw [hW]; exact cell_alloc_two w1 _ _ _ _ 3
  have hk1 : Kept None' w1 W := by rw [hW]; exact (((Kept.refl _ _).alloc _ _).drew _).alloc _ _
  have hkW := hw1.trans hk1
  have A0 := ext_cell (hk1.some a0 id)
  have A1 := ext_cell (hk1.some a1 id)
  have A2 := ext_cell (hk1.some a2 id)
  have A3 := ext_cell (hk1.some a3 id)
  have B0 := ext_cell b0
  have B1 := ext_cell b1
  have B2 := ext_cell b2
  have B3 := ext_cell b3
  have KW := Lib.hid hkW
  clear hW hk1 hkW hw1 hG1 a0 a1 a2 a3 b0 b1 b2 b3
  refine region_ext (by kernel_rfl) (by kernel_rfl) ?_
  repeat (first
    | go_big_quiet_skip
    | (go_big_quiet_want; go_big_quiet_op; first | go_big_quiet_on | go_big_quiet_call (first
      | (go_at_call 16; exact calls_ext_drew (finishes_one _))
      | (go_at_call 23; exact calls_ext_grown (compressedof_any _ _ _ _ _ _))
      | (go_at_call 22; exact calls_ext_grown (samepx_any _ _ _ _ _ _ _ _ _)))))
  refine wpQuiet_nil ?_
  rintro _ ⟨xq, rfl⟩
  have hk2 := KW.out.trans (ext_kept W xq)
  have C0 := A0 xq
  have C1 := A1 xq
  have C2 := A2 xq
  have C3 := A3 xq
  clear A0 A1 A2 A3 B0 B1 B2 B3 KW HC
  generalize ext W xq = W2 at *
  have K2 := Lib.hid hk2
  clear hk2
  cases hnl : isN lo with
  | false =>
    have HCl : ∀ w, Calls Try.prog 24 #[.agg #[.float .f32 p0, .float .f32 p1, .float .f32 p2, .float .f32 p3], .float .f32 lo, .float .f32 hi] w fun e w' => e = .returned (.tuple #[.agg #[.float .f32 0, .float .f32 0, .float .f32 0, .float .f32 0], .int .i64 0, .int .i64 2]) ∧ Grown w w' := fun w =>
      (clip_any p0 p1 p2 p3 lo hi w).mono fun e w' ⟨a, b⟩ => ⟨by rw [a, hnl]; rfl, b⟩
    have HCl := Lib.hid HCl
    go_wp2_with (first
      | (go_at_call 24; refine (HCl.out _).mono ?_; rintro e w3 ⟨rfl, hG3⟩)
      | fail)
    have D0 := grown_cell_some hG3 C0
    have D1 := grown_cell_some hG3 C1
    have D2 := grown_cell_some hG3 C2
    have D3 := grown_cell_some hG3 C3
    have hlt3 : w.heap.size < w3.heap.size := cell_lt D0
    have ne0 : ¬ w.heap.size = w3.heap.size := by omega
    have ne1 : ¬ w.heap.size = w3.heap.size + 1 := by omega
    have ne2 : ¬ w.heap.size = w3.heap.size + 2 := by omega
    have lt1 : w.heap.size < w3.heap.size + 1 := by omega
    have lt2 : w.heap.size < w3.heap.size + 2 := by omega
    have K3 := Lib.hid (K2.out.trans (grown_kept hG3))
    clear C0 C1 C2 C3 hG3 K2 HCl
    go_wp2_with (first
      | (go_at_call 21; refine (isnumof_any _ _).mono ?_; rintro e w' ⟨rfl, n, rfl⟩)
      | (go_at_call 14; refine (when_any _ _ _).mono ?_; rintro e w' ⟨rfl, rfl⟩)
      | (go_at_call 12; refine (first2_any _ _ 2 (if FloatKind.f32.format.order hi lo == some .lt then 8 else 0) _ (by go_simp) (by go_simp)).mono ?_; rintro e w' ⟨rfl, rfl⟩)
      | (go_at_call 25; refine (fix_any _ _).mono ?_; rintro e w' ⟨rfl, rfl⟩)
      | fail)
    all_goals go_ret
    all_goals refine ⟨rfl, Kept.toGrown ?_⟩
    all_goals repeat (first | exact K3.out | refine Kept.drew ?_ _ | refine Kept.alloc ?_ _ _ | refine Kept.setCell ?_ (Or.inl (by simp; omega)) _)
  | true =>
    cases hnh : isN hi with
    | false =>
      have HCl : ∀ w, Calls Try.prog 24 #[.agg #[.float .f32 p0, .float .f32 p1, .float .f32 p2, .float .f32 p3], .float .f32 lo, .float .f32 hi] w fun e w' => e = .returned (.tuple #[.agg #[.float .f32 0, .float .f32 0, .float .f32 0, .float .f32 0], .int .i64 0, .int .i64 2]) ∧ Grown w w' := fun w =>
        (clip_any p0 p1 p2 p3 lo hi w).mono fun e w' ⟨a, b⟩ => ⟨by rw [a, hnl, hnh]; rfl, b⟩
      have HCl := Lib.hid HCl
      go_wp2_with (first
        | (go_at_call 24; refine (HCl.out _).mono ?_; rintro e w3 ⟨rfl, hG3⟩)
        | fail)
      have D0 := grown_cell_some hG3 C0
      have D1 := grown_cell_some hG3 C1
      have D2 := grown_cell_some hG3 C2
      have D3 := grown_cell_some hG3 C3
      have hlt3 : w.heap.size < w3.heap.size := cell_lt D0
      have ne0 : ¬ w.heap.size = w3.heap.size := by omega
      have ne1 : ¬ w.heap.size = w3.heap.size + 1 := by omega
      have ne2 : ¬ w.heap.size = w3.heap.size + 2 := by omega
      have lt1 : w.heap.size < w3.heap.size + 1 := by omega
      have lt2 : w.heap.size < w3.heap.size + 2 := by omega
      have K3 := Lib.hid (K2.out.trans (grown_kept hG3))
      clear C0 C1 C2 C3 hG3 K2 HCl
      go_wp2_with (first
        | (go_at_call 21; refine (isnumof_any _ _).mono ?_; rintro e w' ⟨rfl, n, rfl⟩)
        | (go_at_call 14; refine (when_any _ _ _).mono ?_; rintro e w' ⟨rfl, rfl⟩)
        | (go_at_call 12; refine (first2_any _ _ 2 (if FloatKind.f32.format.order hi lo == some .lt then 8 else 0) _ (by go_simp) (by go_simp)).mono ?_; rintro e w' ⟨rfl, rfl⟩)
        | (go_at_call 25; refine (fix_any _ _).mono ?_; rintro e w' ⟨rfl, rfl⟩)
        | fail)
      all_goals go_ret
      all_goals refine ⟨rfl, Kept.toGrown ?_⟩
      all_goals repeat (first | exact K3.out | refine Kept.drew ?_ _ | refine Kept.alloc ?_ _ _ | refine Kept.setCell ?_ (Or.inl (by simp; omega)) _)
    | true =>
      cases hlt : FloatKind.f32.format.order hi lo == some .lt with
      | true =>
        have HCl : ∀ w, Calls Try.prog 24 #[.agg #[.float .f32 p0, .float .f32 p1, .float .f32 p2, .float .f32 p3], .float .f32 lo, .float .f32 hi] w fun e w' => e = .returned (.tuple #[.agg #[.float .f32 0, .float .f32 0, .float .f32 0, .float .f32 0], .int .i64 0, .int .i64 8]) ∧ Grown w w' := fun w =>
          (clip_any p0 p1 p2 p3 lo hi w).mono fun e w' ⟨a, b⟩ => ⟨by rw [a, hnl, hnh, hlt]; rfl, b⟩
        have HCl := Lib.hid HCl
        go_wp2_with (first
          | (go_at_call 24; refine (HCl.out _).mono ?_; rintro e w3 ⟨rfl, hG3⟩)
          | fail)
        have D0 := grown_cell_some hG3 C0
        have D1 := grown_cell_some hG3 C1
        have D2 := grown_cell_some hG3 C2
        have D3 := grown_cell_some hG3 C3
        have hlt3 : w.heap.size < w3.heap.size := cell_lt D0
        have ne0 : ¬ w.heap.size = w3.heap.size := by omega
        have ne1 : ¬ w.heap.size = w3.heap.size + 1 := by omega
        have ne2 : ¬ w.heap.size = w3.heap.size + 2 := by omega
        have lt1 : w.heap.size < w3.heap.size + 1 := by omega
        have lt2 : w.heap.size < w3.heap.size + 2 := by omega
        have K3 := Lib.hid (K2.out.trans (grown_kept hG3))
        clear C0 C1 C2 C3 hG3 K2 HCl
        go_wp2_with (first
          | (go_at_call 21; refine (isnumof_any _ _).mono ?_; rintro e w' ⟨rfl, n, rfl⟩)
          | (go_at_call 14; refine (when_any _ _ _).mono ?_; rintro e w' ⟨rfl, rfl⟩)
          | (go_at_call 12; refine (first2_any _ _ 0 8 _ (by go_simp) (by go_simp)).mono ?_; rintro e w' ⟨rfl, rfl⟩)
          | (go_at_call 25; refine (fix_any _ _).mono ?_; rintro e w' ⟨rfl, rfl⟩)
          | fail)
        all_goals go_ret
        all_goals refine ⟨rfl, Kept.toGrown ?_⟩
        all_goals repeat (first | exact K3.out | refine Kept.drew ?_ _ | refine Kept.alloc ?_ _ _ | refine Kept.setCell ?_ (Or.inl (by simp; omega)) _)
      | false =>
        have HCl : ∀ w, Calls Try.prog 24 #[.agg #[.float .f32 p0, .float .f32 p1, .float .f32 p2, .float .f32 p3], .float .f32 lo, .float .f32 hi] w fun e w' => e = .returned (.tuple #[.agg #[.float .f32 (limP p0 lo hi), .float .f32 (limP p1 lo hi), .float .f32 (limP p2 lo hi), .float .f32 (cl .f32 p3)], .int .i64 (clipN p0 lo hi + clipN p1 lo hi + clipN p2 lo hi), .int .i64 0]) ∧ Grown w w' := fun w =>
          (clip_any p0 p1 p2 p3 lo hi w).mono fun e w' ⟨a, b⟩ => ⟨by rw [a, hnl, hnh, hlt]; rfl, b⟩
        have HCl := Lib.hid HCl
        go_wp2_with (first
          | (go_at_call 24; refine (HCl.out _).mono ?_; rintro e w3 ⟨rfl, hG3⟩)
          | fail)
        have D0 := grown_cell_some hG3 C0
        have D1 := grown_cell_some hG3 C1
        have D2 := grown_cell_some hG3 C2
        have D3 := grown_cell_some hG3 C3
        have hlt3 : w.heap.size < w3.heap.size := cell_lt D0
        have ne0 : ¬ w.heap.size = w3.heap.size := by omega
        have ne1 : ¬ w.heap.size = w3.heap.size + 1 := by omega
        have ne2 : ¬ w.heap.size = w3.heap.size + 2 := by omega
        have lt1 : w.heap.size < w3.heap.size + 1 := by omega
        have lt2 : w.heap.size < w3.heap.size + 2 := by omega
        have K3 := Lib.hid (K2.out.trans (grown_kept hG3))
        clear C0 C1 C2 C3 hG3 K2 HCl
        rcases clipN_01 p0 lo hi with k0 | k0 <;> rcases clipN_01 p1 lo hi with k1 | k1 <;> rcases clipN_01 p2 lo hi with k2 | k2
        all_goals
          go_wp2_with (first
            | (go_at_call 21; refine (isnumof_any _ _).mono ?_; rintro e w' ⟨rfl, n, rfl⟩)
            | (go_at_call 14; refine (when_any _ _ _).mono ?_; rintro e w' ⟨rfl, rfl⟩)
            | (go_at_call 12; refine (first2_any _ _ 0 0 _ (by go_simp) (by go_simp)).mono ?_; rintro e w' ⟨rfl, rfl⟩)
            | (go_at_call 25; refine (fix_any _ _).mono ?_; rintro e w' ⟨rfl, rfl⟩)
            | fail)
          refine wp_loop_rounds 4 ?_
          rw [rounds_succ]
          go_wp2_with (first | (go_at_call 26; refine (limitof_any _ _ _ _).mono ?_; rintro e w' ⟨rfl, rfl⟩) | fail)
          go_quiet ((go_at_call 27; exact Calls.quiet_of_same ((bit_clip _ _ _ _).mono fun _ _ ⟨a, b⟩ => ⟨a, b.symm⟩)))
          go_wp2
          rw [rounds_succ]
          go_wp2_with (first | (go_at_call 26; refine (limitof_any _ _ _ _).mono ?_; rintro e w' ⟨rfl, rfl⟩) | fail)
          go_quiet ((go_at_call 27; exact Calls.quiet_of_same ((bit_clip _ _ _ _).mono fun _ _ ⟨a, b⟩ => ⟨a, b.symm⟩)))
          go_wp2
          rw [rounds_succ]
          go_wp2_with (first | (go_at_call 26; refine (limitof_any _ _ _ _).mono ?_; rintro e w' ⟨rfl, rfl⟩) | fail)
          go_quiet ((go_at_call 27; exact Calls.quiet_of_same ((bit_clip _ _ _ _).mono fun _ _ ⟨a, b⟩ => ⟨a, b.symm⟩)))
          go_wp2
          rw [rounds_succ]
          go_wp2
          all_goals go_ret
          all_goals refine ⟨rfl, Kept.toGrown ?_⟩
          all_goals repeat (first | exact K3.out | refine Kept.drew ?_ _ | refine Kept.alloc ?_ _ _ | refine Kept.setCell ?_ (Or.inl (by simp; omega)) _)
set_option linter.unusedSimpArgs false in
set_option linter.unusedVariables false in
set_option maxHeartbeats 16000000 in
set_option maxRecDepth 100000 in
theorem gm_n1 (p0 p1 p2 p3 fr lo hi : Nat) (w : World) (hn : isN fr = false) (g0 : (FloatKind.f32.format.order fr 0 == some .gt || FloatKind.f32.format.order fr 0 == some .eq) = true) (g1 : (FloatKind.f32.format.order fr 1065353216 == some .lt) = false) :
    Calls Try.prog 4 #[.agg #[.float .f32 p0, .float .f32 p1, .float .f32 p2, .float .f32 p3], .float .f32 fr, .float .f32 lo, .float .f32 hi] w fun e w' => e = .returned (.bool true) ∧ Grown w w' := by
  have HC : ∀ w, Calls Try.prog 20 #[.agg #[.float .f32 p0, .float .f32 p1, .float .f32 p2, .float .f32 p3], .float .f32 fr] w fun e w' => e = .returned (.tuple #[.agg #[.float .f32 0, .float .f32 0, .float .f32 0, .float .f32 0], .int .i64 2]) ∧ Grown w w' := fun w =>
    (compress_any p0 p1 p2 p3 fr w).mono fun e w' ⟨a, b⟩ => ⟨by rw [a, hn]; rfl, b⟩
  have HC := Lib.hid HC
  have hz := ordZ
  have pn := px_neq
  have pe := px_eql
  go_enter Try.func4, Try.ntmps4
  go_wp2_with (first
    | (go_at_call 21; refine (isnumof_any _ _).mono ?_; rintro e w' ⟨rfl, n, rfl⟩)
    | (go_at_call 14; refine (when_any _ _ _).mono ?_; rintro e w' ⟨rfl, rfl⟩)
    | (go_at_call 12; refine (first2_any _ _ 2 3 _ (by go_simp) (by go_simp)).mono ?_; rintro e w' ⟨rfl, rfl⟩)
    | (go_at_call 25; refine (fix_any _ _).mono ?_; rintro e w' ⟨rfl, rfl⟩)
    | (go_at_call 20; refine (HC.out _).mono ?_; rintro e w1 ⟨rfl, hG1⟩)
    | fail)
  have a0 := grown_cell_some hG1 (cell_alloc_one w _ _ 0)
  have a1 := grown_cell_some hG1 (cell_alloc_one w _ _ 1)
  have a2 := grown_cell_some hG1 (cell_alloc_one w _ _ 2)
  have a3 := grown_cell_some hG1 (cell_alloc_one w _ _ 3)
  have hw1 := grown_kept (grown_trans ((Grown.refl w).alloc _ _) hG1)
  refine of_world (fun W hW => ?_)
  have b0 : W.cell? ⟨w1.heap.size, 0, none⟩ = some (.float .f32 0) := by rw [hW]; exact cell_alloc_two w1 _ _ _ _ 0
  have b1 : W.cell? ⟨w1.heap.size, 1, none⟩ = some (.float .f32 0) := by rw [hW]; exact cell_alloc_two w1 _ _ _ _ 1
  have b2 : W.cell? ⟨w1.heap.size, 2, none⟩ = some (.float .f32 0) := by rw [hW]; exact cell_alloc_two w1 _ _ _ _ 2
  have b3 : W.cell? ⟨w1.heap.size, 3, none⟩ = some (.float .f32 0) := by rw [hW]; exact cell_alloc_two w1 _ _ _ _ 3
  have hk1 : Kept None' w1 W := by rw [hW]; exact (((Kept.refl _ _).alloc _ _).drew _).alloc _ _
  have hkW := hw1.trans hk1
  have A0 := ext_cell (hk1.some a0 id)
  have A1 := ext_cell (hk1.some a1 id)
  have A2 := ext_cell (hk1.some a2 id)
  have A3 := ext_cell (hk1.some a3 id)
  have B0 := ext_cell b0
  have B1 := ext_cell b1
  have B2 := ext_cell b2
  have B3 := ext_cell b3
  have KW := Lib.hid hkW
  clear hW hk1 hkW hw1 hG1 a0 a1 a2 a3 b0 b1 b2 b3
  refine region_ext (by kernel_rfl) (by kernel_rfl) ?_
  repeat (first
    | go_big_quiet_skip
    | (go_big_quiet_want; go_big_quiet_op; first | go_big_quiet_on | go_big_quiet_call (first
      | (go_at_call 16; exact calls_ext_drew (finishes_one _))
      | (go_at_call 23; exact calls_ext_grown (compressedof_any _ _ _ _ _ _))
      | (go_at_call 22; exact calls_ext_grown (samepx_any _ _ _ _ _ _ _ _ _)))))
  refine wpQuiet_nil ?_
  rintro _ ⟨xq, rfl⟩
  have hk2 := KW.out.trans (ext_kept W xq)
  have C0 := A0 xq
  have C1 := A1 xq
  have C2 := A2 xq
  have C3 := A3 xq
  clear A0 A1 A2 A3 B0 B1 B2 B3 KW HC
  generalize ext W xq = W2 at *
  have K2 := Lib.hid hk2
  clear hk2
  cases hnl : isN lo with
  | false =>
    have HCl : ∀ w, Calls Try.prog 24 #[.agg #[.float .f32 p0, .float .f32 p1, .float .f32 p2, .float .f32 p3], .float .f32 lo, .float .f32 hi] w fun e w' => e = .returned (.tuple #[.agg #[.float .f32 0, .float .f32 0, .float .f32 0, .float .f32 0], .int .i64 0, .int .i64 2]) ∧ Grown w w' := fun w =>
      (clip_any p0 p1 p2 p3 lo hi w).mono fun e w' ⟨a, b⟩ => ⟨by rw [a, hnl]; rfl, b⟩
    have HCl := Lib.hid HCl
    go_wp2_with (first
      | (go_at_call 24; refine (HCl.out _).mono ?_; rintro e w3 ⟨rfl, hG3⟩)
      | fail)
    have D0 := grown_cell_some hG3 C0
    have D1 := grown_cell_some hG3 C1
    have D2 := grown_cell_some hG3 C2
    have D3 := grown_cell_some hG3 C3
    have hlt3 : w.heap.size < w3.heap.size := cell_lt D0
    have ne0 : ¬ w.heap.size = w3.heap.size := by omega
    have ne1 : ¬ w.heap.size = w3.heap.size + 1 := by omega
    have ne2 : ¬ w.heap.size = w3.heap.size + 2 := by omega
    have lt1 : w.heap.size < w3.heap.size + 1 := by omega
    have lt2 : w.heap.size < w3.heap.size + 2 := by omega
    have K3 := Lib.hid (K2.out.trans (grown_kept hG3))
    clear C0 C1 C2 C3 hG3 K2 HCl
    go_wp2_with (first
      | (go_at_call 21; refine (isnumof_any _ _).mono ?_; rintro e w' ⟨rfl, n, rfl⟩)
      | (go_at_call 14; refine (when_any _ _ _).mono ?_; rintro e w' ⟨rfl, rfl⟩)
      | (go_at_call 12; refine (first2_any _ _ 2 (if FloatKind.f32.format.order hi lo == some .lt then 8 else 0) _ (by go_simp) (by go_simp)).mono ?_; rintro e w' ⟨rfl, rfl⟩)
      | (go_at_call 25; refine (fix_any _ _).mono ?_; rintro e w' ⟨rfl, rfl⟩)
      | fail)
    all_goals go_ret
    all_goals refine ⟨rfl, Kept.toGrown ?_⟩
    all_goals repeat (first | exact K3.out | refine Kept.drew ?_ _ | refine Kept.alloc ?_ _ _ | refine Kept.setCell ?_ (Or.inl (by simp; omega)) _)
  | true =>
    cases hnh : isN hi with
    | false =>
      have HCl : ∀ w, Calls Try.prog 24 #[.agg #[.float .f32 p0, .float .f32 p1, .float .f32 p2, .float .f32 p3], .float .f32 lo, .float .f32 hi] w fun e w' => e = .returned (.tuple #[.agg #[.float .f32 0, .float .f32 0, .float .f32 0, .float .f32 0], .int .i64 0, .int .i64 2]) ∧ Grown w w' := fun w =>
        (clip_any p0 p1 p2 p3 lo hi w).mono fun e w' ⟨a, b⟩ => ⟨by rw [a, hnl, hnh]; rfl, b⟩
      have HCl := Lib.hid HCl
      go_wp2_with (first
        | (go_at_call 24; refine (HCl.out _).mono ?_; rintro e w3 ⟨rfl, hG3⟩)
        | fail)
      have D0 := grown_cell_some hG3 C0
      have D1 := grown_cell_some hG3 C1
      have D2 := grown_cell_some hG3 C2
      have D3 := grown_cell_some hG3 C3
      have hlt3 : w.heap.size < w3.heap.size := cell_lt D0
      have ne0 : ¬ w.heap.size = w3.heap.size := by omega
      have ne1 : ¬ w.heap.size = w3.heap.size + 1 := by omega
      have ne2 : ¬ w.heap.size = w3.heap.size + 2 := by omega
      have lt1 : w.heap.size < w3.heap.size + 1 := by omega
      have lt2 : w.heap.size < w3.heap.size + 2 := by omega
      have K3 := Lib.hid (K2.out.trans (grown_kept hG3))
      clear C0 C1 C2 C3 hG3 K2 HCl
      go_wp2_with (first
        | (go_at_call 21; refine (isnumof_any _ _).mono ?_; rintro e w' ⟨rfl, n, rfl⟩)
        | (go_at_call 14; refine (when_any _ _ _).mono ?_; rintro e w' ⟨rfl, rfl⟩)
        | (go_at_call 12; refine (first2_any _ _ 2 (if FloatKind.f32.format.order hi lo == some .lt then 8 else 0) _ (by go_simp) (by go_simp)).mono ?_; rintro e w' ⟨rfl, rfl⟩)
        | (go_at_call 25; refine (fix_any _ _).mono ?_; rintro e w' ⟨rfl, rfl⟩)
        | fail)
      all_goals go_ret
      all_goals refine ⟨rfl, Kept.toGrown ?_⟩
      all_goals repeat (first | exact K3.out | refine Kept.drew ?_ _ | refine Kept.alloc ?_ _ _ | refine Kept.setCell ?_ (Or.inl (by simp; omega)) _)
    | true =>
      cases hlt : FloatKind.f32.format.order hi lo == some .lt with
      | true =>
        have HCl : ∀ w, Calls Try.prog 24 #[.agg #[.float .f32 p0, .float .f32 p1, .float .f32 p2, .float .f32 p3], .float .f32 lo, .float .f32 hi] w fun e w' => e = .returned (.tuple #[.agg #[.float .f32 0, .float .f32 0, .float .f32 0, .float .f32 0], .int .i64 0, .int .i64 8]) ∧ Grown w w' := fun w =>
          (clip_any p0 p1 p2 p3 lo hi w).mono fun e w' ⟨a, b⟩ => ⟨by rw [a, hnl, hnh, hlt]; rfl, b⟩
        have HCl := Lib.hid HCl
        go_wp2_with (first
          | (go_at_call 24; refine (HCl.out _).mono ?_; rintro e w3 ⟨rfl, hG3⟩)
          | fail)
        have D0 := grown_cell_some hG3 C0
        have D1 := grown_cell_some hG3 C1
        have D2 := grown_cell_some hG3 C2
        have D3 := grown_cell_some hG3 C3
        have hlt3 : w.heap.size < w3.heap.size := cell_lt D0
        have ne0 : ¬ w.heap.size = w3.heap.size := by omega
        have ne1 : ¬ w.heap.size = w3.heap.size + 1 := by omega
        have ne2 : ¬ w.heap.size = w3.heap.size + 2 := by omega
        have lt1 : w.heap.size < w3.heap.size + 1 := by omega
        have lt2 : w.heap.size < w3.heap.size + 2 := by omega
        have K3 := Lib.hid (K2.out.trans (grown_kept hG3))
        clear C0 C1 C2 C3 hG3 K2 HCl
        go_wp2_with (first
          | (go_at_call 21; refine (isnumof_any _ _).mono ?_; rintro e w' ⟨rfl, n, rfl⟩)
          | (go_at_call 14; refine (when_any _ _ _).mono ?_; rintro e w' ⟨rfl, rfl⟩)
          | (go_at_call 12; refine (first2_any _ _ 0 8 _ (by go_simp) (by go_simp)).mono ?_; rintro e w' ⟨rfl, rfl⟩)
          | (go_at_call 25; refine (fix_any _ _).mono ?_; rintro e w' ⟨rfl, rfl⟩)
          | fail)
        all_goals go_ret
        all_goals refine ⟨rfl, Kept.toGrown ?_⟩
        all_goals repeat (first | exact K3.out | refine Kept.drew ?_ _ | refine Kept.alloc ?_ _ _ | refine Kept.setCell ?_ (Or.inl (by simp; omega)) _)
      | false =>
        have HCl : ∀ w, Calls Try.prog 24 #[.agg #[.float .f32 p0, .float .f32 p1, .float .f32 p2, .float .f32 p3], .float .f32 lo, .float .f32 hi] w fun e w' => e = .returned (.tuple #[.agg #[.float .f32 (limP p0 lo hi), .float .f32 (limP p1 lo hi), .float .f32 (limP p2 lo hi), .float .f32 (cl .f32 p3)], .int .i64 (clipN p0 lo hi + clipN p1 lo hi + clipN p2 lo hi), .int .i64 0]) ∧ Grown w w' := fun w =>
          (clip_any p0 p1 p2 p3 lo hi w).mono fun e w' ⟨a, b⟩ => ⟨by rw [a, hnl, hnh, hlt]; rfl, b⟩
        have HCl := Lib.hid HCl
        go_wp2_with (first
          | (go_at_call 24; refine (HCl.out _).mono ?_; rintro e w3 ⟨rfl, hG3⟩)
          | fail)
        have D0 := grown_cell_some hG3 C0
        have D1 := grown_cell_some hG3 C1
        have D2 := grown_cell_some hG3 C2
        have D3 := grown_cell_some hG3 C3
        have hlt3 : w.heap.size < w3.heap.size := cell_lt D0
        have ne0 : ¬ w.heap.size = w3.heap.size := by omega
        have ne1 : ¬ w.heap.size = w3.heap.size + 1 := by omega
        have ne2 : ¬ w.heap.size = w3.heap.size + 2 := by omega
        have lt1 : w.heap.size < w3.heap.size + 1 := by omega
        have lt2 : w.heap.size < w3.heap.size + 2 := by omega
        have K3 := Lib.hid (K2.out.trans (grown_kept hG3))
        clear C0 C1 C2 C3 hG3 K2 HCl
        rcases clipN_01 p0 lo hi with k0 | k0 <;> rcases clipN_01 p1 lo hi with k1 | k1 <;> rcases clipN_01 p2 lo hi with k2 | k2
        all_goals
          go_wp2_with (first
            | (go_at_call 21; refine (isnumof_any _ _).mono ?_; rintro e w' ⟨rfl, n, rfl⟩)
            | (go_at_call 14; refine (when_any _ _ _).mono ?_; rintro e w' ⟨rfl, rfl⟩)
            | (go_at_call 12; refine (first2_any _ _ 0 0 _ (by go_simp) (by go_simp)).mono ?_; rintro e w' ⟨rfl, rfl⟩)
            | (go_at_call 25; refine (fix_any _ _).mono ?_; rintro e w' ⟨rfl, rfl⟩)
            | fail)
          refine wp_loop_rounds 4 ?_
          rw [rounds_succ]
          go_wp2_with (first | (go_at_call 26; refine (limitof_any _ _ _ _).mono ?_; rintro e w' ⟨rfl, rfl⟩) | fail)
          go_quiet ((go_at_call 27; exact Calls.quiet_of_same ((bit_clip _ _ _ _).mono fun _ _ ⟨a, b⟩ => ⟨a, b.symm⟩)))
          go_wp2
          rw [rounds_succ]
          go_wp2_with (first | (go_at_call 26; refine (limitof_any _ _ _ _).mono ?_; rintro e w' ⟨rfl, rfl⟩) | fail)
          go_quiet ((go_at_call 27; exact Calls.quiet_of_same ((bit_clip _ _ _ _).mono fun _ _ ⟨a, b⟩ => ⟨a, b.symm⟩)))
          go_wp2
          rw [rounds_succ]
          go_wp2_with (first | (go_at_call 26; refine (limitof_any _ _ _ _).mono ?_; rintro e w' ⟨rfl, rfl⟩) | fail)
          go_quiet ((go_at_call 27; exact Calls.quiet_of_same ((bit_clip _ _ _ _).mono fun _ _ ⟨a, b⟩ => ⟨a, b.symm⟩)))
          go_wp2
          rw [rounds_succ]
          go_wp2
          all_goals go_ret
          all_goals refine ⟨rfl, Kept.toGrown ?_⟩
          all_goals repeat (first | exact K3.out | refine Kept.drew ?_ _ | refine Kept.alloc ?_ _ _ | refine Kept.setCell ?_ (Or.inl (by simp; omega)) _)
end Go.Proofs.Ytfphhlodfieopaa
