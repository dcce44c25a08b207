/- The contracts of linear's functions. Conditions: none. -/
import Derived.Test.YtkmganophcklgaaTh
namespace Go.Proofs.Ytkmganophcklgaa
open Go.RowKit
open Fl Fr
open BigFrame

theorem lerpP_cl (a b t : Nat) : lerpP (cl .f32 a) (cl .f32 b) t = lerpP a b t := by
  unfold lerpP
  simp only [cl_cl, fC_cl_l, fC_cl_r]
theorem lerpP_canon (a b t : Nat) : cl .f32 (lerpP a b t) = lerpP a b t := by
  unfold lerpP
  split
  · exact cl_cl _ _
  · split
    · exact cl_cl _ _
    · exact cl_fC ..
def liR (E : Int → Int → Int → Nat → Nat) (f : Nat → Int) (x : Nat → Nat) (n : Nat) (dj dk : Int) : Nat := lerpP (E (f 0) (f 1 + dj) (f 2 + dk) n) (E (f 0 + 1) (f 1 + dj) (f 2 + dk) n) (x 0)
def liG (E : Int → Int → Int → Nat → Nat) (f : Nat → Int) (x : Nat → Nat) (n : Nat) (dk : Int) : Nat := lerpP (liR E f x n 0 dk) (liR E f x n 1 dk) (x 1)
def liV (E : Int → Int → Int → Nat → Nat) (f : Nat → Int) (x : Nat → Nat) (n : Nat) : Nat := lerpP (liG E f x n 0) (liG E f x n 1) (x 2)
def liP (E : Int → Int → Int → Nat → Nat) (S : Int) (lo hi : Nat) (p : Nat → Nat) (c : Nat) : Nat :=
  if c = 3 then cl .f32 (p 3) else if brk p = true then qn .f32 else liV E (fun c => axI S lo hi (p c)) (fun c => axS S lo hi (p c)) c
theorem liP_cl (E : Int → Int → Int → Nat → Nat) (S : Int) (lo hi : Nat) (p : Nat → Nat) (c : Nat) : liP (fun i j k c => cl .f32 (E i j k c)) S lo hi p c = liP E S lo hi p c := by
  unfold liP liV liG liR
  simp only [lerpP_cl]

set_option linter.unusedSimpArgs false in
set_option linter.unusedVariables false in
set_option maxHeartbeats 4000000 in
set_option maxRecDepth 100000 in
theorem linear1_any (S : Int) (lo hi b o n cap T A5 A6 N m : Nat) (E : Int → Int → Int → Nat → Nat) (f : Nat → Int) (x : Nat → Nat) (dj dk : Int) (w : World) (s1 : 2 ≤ S) (s2 : S ≤ 17) (hf : ∀ c, 0 ≤ f c ∧ f c ≤ S - 2) (hm : m < 3) (j0 : 0 ≤ dj) (j1 : dj ≤ 1) (k0 : 0 ≤ dk) (k1 : dk ≤ 1)
    (hB : CubB T S lo hi b o n cap w) (h5 : ∀ c, c < 3 → w.cell? ⟨A5, c, none⟩ = some (.int .i64 (f c))) (h6 : ∀ c, c < 3 → w.cell? ⟨A6, c, none⟩ = some (.float .f32 (x c))) (hN : w.cell? ⟨N, 0, none⟩ = some (.int .i64 (m : Int)))
    (hE : ∀ (x y z : Int) (wr : World), Kept None' w wr → 0 ≤ x → x < S → 0 ≤ y → y < S → 0 ≤ z → z < S → Calls Try.prog 71 #[.agg #[.int .i64 S, .float .f32 lo, .float .f32 hi, .slice (some ⟨b, o, none⟩) n cap], .int .i64 x, .int .i64 y, .int .i64 z] wr fun e w' =>
      e = .returned (.agg #[.float .f32 (E x y z 0), .float .f32 (E x y z 1), .float .f32 (E x y z 2)]) ∧ Kept None' wr w') :
    Calls Try.prog 116 #[.int .i64 dj, .int .i64 dk, .pointer (some ⟨T, 0, none⟩), .pointer (some ⟨A5, 0, none⟩), .pointer (some ⟨N, 0, none⟩), .pointer (some ⟨A6, 0, none⟩)] w fun e w' => e = .returned (.float .f32 (liR E f x m dj dk)) ∧ Kept None' w w' := by
  unfold liR
  have b0 := hf 0
  have b1 := hf 1
  have b2 := hf 2
  have hC1 := fun wr hk => hE (f 0) (f 1 + dj) (f 2 + dk) wr hk (by omega) (by omega) (by omega) (by omega) (by omega) (by omega)
  have hC2 := fun wr hk => hE (f 0 + 1) (f 1 + dj) (f 2 + dk) wr hk (by omega) (by omega) (by omega) (by omega) (by omega) (by omega)
  obtain ⟨e1, he1⟩ : ∃ e1 : Nat → Nat, ∀ c, E (f 0) (f 1 + dj) (f 2 + dk) c = e1 c := ⟨_, fun _ => rfl⟩
  obtain ⟨e2, he2⟩ : ∃ e2 : Nat → Nat, ∀ c, E (f 0 + 1) (f 1 + dj) (f 2 + dk) c = e2 c := ⟨_, fun _ => rfl⟩
  simp only [he1] at hC1
  simp only [he2] at hC2
  rw [he1, he2]
  have a0 := h5 0 (by omega)
  have a1 := h5 1 (by omega)
  have a2 := h5 2 (by omega)
  have x0 := h6 0 (by omega)
  generalize f 0 = f0 at *
  generalize f 1 = f1 at *
  generalize f 2 = f2 at *
  generalize x 0 = x0 at *
  have v0 : IntKind.i64.wrap (f0 + 1) = f0 + 1 := IntWalk.i64_in _ (by omega)
  have v1 : IntKind.i64.wrap (f1 + dj) = f1 + dj := IntWalk.i64_in _ (by omega)
  have v2 : IntKind.i64.wrap (f2 + dk) = f2 + dk := IntWalk.i64_in _ (by omega)
  have ix1 := ar3_idx e1 m hm
  have ix2 := ar3_idx e2 m hm
  have HC1 := Lib.hid hC1
  have HC2 := Lib.hid hC2
  have V := Lib.hid (And.intro v0 (And.intro v1 v2))
  have HB := Lib.hid hB
  clear hC1 hC2 he1 he2 hE h5 h6 hf v0 v1 v2 hB
  go_enter Try.func116, Try.ntmps116
  go_upto_region 1 with (fail)
  have A0 := ext_cell HB.out.c0
  have A1 := ext_cell HB.out.c1
  have A2 := ext_cell HB.out.c2
  have A3 := ext_cell HB.out.c3
  have A4 := ext_cell a0
  have A5' := ext_cell a1
  have A6' := ext_cell a2
  have A7 := ext_cell x0
  have A8 := ext_cell hN
  obtain ⟨v0, v1, v2⟩ := V.out
  refine region_with (by kernel_rfl) (by kernel_rfl) ?_
  repeat (first
    | (refine wpWith_det ?_; go_big_quiet_want; go_big_quiet_op; go_big_quiet_on; refine wpQuiet_nil ?_)
    | (refine wpWith_det ?_; go_big_quiet_skip; refine wpQuiet_nil ?_)
    | fail)
  refine wpWith_det ?_
  go_big_quiet_want
  go_big_quiet_op
  go_big_quiet_call ((go_at_call 71; exact calls_ext (HC1.out _ (ext_kept _ _))))
  refine wpQuiet_nil ?_
  repeat (first
    | (refine wpWith_det ?_; go_big_quiet_want; go_big_quiet_op; go_big_quiet_on; refine wpQuiet_nil ?_)
    | (refine wpWith_det ?_; go_big_quiet_skip; refine wpQuiet_nil ?_)
    | fail)
  refine wpWith_det ?_
  go_big_quiet_want
  go_big_quiet_op
  go_big_quiet_call ((go_at_call 71; exact calls_ext (HC2.out _ (ext_kept _ _))))
  refine wpQuiet_nil ?_
  repeat (first
    | (refine wpWith_det ?_; go_big_quiet_want; go_big_quiet_op; go_big_quiet_on; refine wpQuiet_nil ?_)
    | (refine wpWith_det ?_; go_big_quiet_skip; refine wpQuiet_nil ?_)
    | fail)
  refine wpWith_det ?_
  go_big_quiet_want
  go_big_quiet_op
  go_big_quiet_call ((go_at_call 107; exact calls_ext_drew (lerp_any _ _ _ _)))
  refine wpQuiet_nil ?_
  repeat (first
    | (refine wpWith_det ?_; go_big_quiet_want; go_big_quiet_op; go_big_quiet_on; refine wpQuiet_nil ?_)
    | (refine wpWith_det ?_; go_big_quiet_skip; refine wpQuiet_nil ?_)
    | fail)
  refine wpWith_nil ?_
  rintro _ ⟨xq, rfl⟩
  have KE := Lib.hid (ext_kept w xq)
  clear A0 A1 A2 A3 A4 A5' A6' A7 A8 v0 v1 v2
  generalize ext w xq = W1 at *
  go_wp2_with fail
  go_ret
  exact ⟨rfl, KE.out⟩

set_option linter.unusedSimpArgs false in
set_option linter.unusedVariables false in
set_option maxHeartbeats 4000000 in
set_option maxRecDepth 100000 in
theorem linear2_any (R A6 : Nat) (caps : Array Value) (r : Int → Nat) (x1 : Nat) (dk : Int) (w : World) (c1 c2 c3 c4 : Value) (hcaps : caps = #[c1, c2, c3, c4])
    (hR : w.cell? ⟨R, 0, none⟩ = some (.func (.func 116) #[] caps)) (h6 : w.cell? ⟨A6, 1, none⟩ = some (.float .f32 x1))
    (h0 : ∀ wr, Kept None' w wr → Calls Try.prog 116 #[.int .i64 0, .int .i64 dk, c1, c2, c3, c4] wr fun e w' => e = .returned (.float .f32 (r 0)) ∧ Kept None' wr w')
    (h1 : ∀ wr, Kept None' w wr → Calls Try.prog 116 #[.int .i64 1, .int .i64 dk, c1, c2, c3, c4] wr fun e w' => e = .returned (.float .f32 (r 1)) ∧ Kept None' wr w') :
    Calls Try.prog 117 #[.int .i64 dk, .pointer (some ⟨R, 0, none⟩), .pointer (some ⟨A6, 0, none⟩)] w fun e w' => e = .returned (.float .f32 (lerpP (r 0) (r 1) x1)) ∧ Kept None' w w' := by
  subst hcaps
  have H0 := Lib.hid h0
  have H1 := Lib.hid h1
  clear h0 h1
  go_enter Try.func117, Try.ntmps117
  go_upto_region 1 with (fail)
  have A0 := ext_cell hR
  have A1 := ext_cell h6
  have hcall := Try.call116
  clear hR h6
  refine region_with (by kernel_rfl) (by kernel_rfl) ?_
  repeat (first
    | (refine wpWith_det ?_; go_big_quiet_want; go_big_quiet_op; go_big_quiet_on; refine wpQuiet_nil ?_)
    | (refine wpWith_det ?_; go_big_quiet_skip; refine wpQuiet_nil ?_)
    | fail)
  refine wpWith_det ?_
  go_big_quiet_want
  go_big_quiet_op
  go_big_quiet_call ((exact calls_ext (H0.out _ (ext_kept _ _))))
  refine wpQuiet_nil ?_
  repeat (first
    | (refine wpWith_det ?_; go_big_quiet_want; go_big_quiet_op; go_big_quiet_on; refine wpQuiet_nil ?_)
    | (refine wpWith_det ?_; go_big_quiet_skip; refine wpQuiet_nil ?_)
    | fail)
  refine wpWith_det ?_
  go_big_quiet_want
  go_big_quiet_op
  go_big_quiet_call ((exact calls_ext (H1.out _ (ext_kept _ _))))
  refine wpQuiet_nil ?_
  repeat (first
    | (refine wpWith_det ?_; go_big_quiet_want; go_big_quiet_op; go_big_quiet_on; refine wpQuiet_nil ?_)
    | (refine wpWith_det ?_; go_big_quiet_skip; refine wpQuiet_nil ?_)
    | fail)
  refine wpWith_det ?_
  go_big_quiet_want
  go_big_quiet_op
  go_big_quiet_call ((go_at_call 107; exact calls_ext_drew (lerp_any _ _ _ _)))
  refine wpQuiet_nil ?_
  repeat (first
    | (refine wpWith_det ?_; go_big_quiet_want; go_big_quiet_op; go_big_quiet_on; refine wpQuiet_nil ?_)
    | (refine wpWith_det ?_; go_big_quiet_skip; refine wpQuiet_nil ?_)
    | fail)
  refine wpWith_nil ?_
  rintro _ ⟨xq, rfl⟩
  have KE := Lib.hid (ext_kept w xq)
  clear A0 A1 hcall
  generalize ext w xq = W1 at *
  go_wp2_with fail
  go_ret
  exact ⟨rfl, KE.out⟩
end Go.Proofs.Ytkmganophcklgaa
