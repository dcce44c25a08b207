/- The walk of LevelsAsFrames. Conditions: none. -/
import Derived.Test.YtfphhlodfieopaaLh
import Derived.Test.YtfphhlodfieopaaLi
namespace Go.Proofs.Ytfphhlodfieopaa
open Go.RowKit
open Fl

theorem w64_in {a : Int} (h1 : -9223372036854775808 ≤ a) (h2 : a ≤ 9223372036854775807) : wrap64 a = a := by
  unfold wrap64; omega

theorem walk_levelsAsFrames (x y W H : Int) (A : Option Addr) (n cap : Nat) (z : Nat → Int) (d : Int) (w : World) (_ : (Lit.int .i64 x).wf = true) (_ : (Lit.int .i64 y).wf = true) (_ : (Lit.int .i64 W).wf = true) (_ : (Lit.int .i64 H).wf = true)
    (hcap : n ≤ cap) (_ : cap ≤ maxLen) (hr : Rd w A n (fun i => .int .i64 (z i))) (_ : ∀ i, (Lit.int .i64 (z i)).wf = true) (_ : (Lit.int .i64 d).wf = true) :
    Calls Try.prog 3 #[.agg #[.int .i64 x, .int .i64 y, .int .i64 W, .int .i64 H], .slice A n cap, .int .i64 d] w fun e w' => e = .returned (.bool true) ∧ Kept None' w w' := by
  by_cases hE : regE x y W H = 0
  · obtain ⟨w1', w2', w3', w4', w5'⟩ := regE_ok hE
    have w6 := (mul_bd w1' w2' w3' w4').1
    have w7 : 4 * W * H = 4 * (W * H) := Int.mul_assoc ..
    have e1 : wrap64 (4 * W) = 4 * W := w64_in (by omega) (by omega)
    have e2 : wrap64 (4 * W * H) = 4 * W * H := w64_in (by omega) (by omega)
    by_cases hd : 1 ≤ d ∧ d ≤ 16
    · by_cases hn : (n : Int) = 4 * W * H
      · obtain ⟨M, hM, m1, m2⟩ := most_of d hd.1 hd.2
        obtain ⟨b, o, rfl, hc⟩ := hr (by omega)
        exact laf_go x y W H d M b o n cap z w hE hd.1 hd.2 hM m1 m2 hn hc hcap
      · refine laf_err_t_t x y W H d 0 0 2 A n cap w (4 * W * H) (by rw [e1, e2]) hE (inB_yes hd.1 hd.2) (by simp [hn]) (by simp) (by simp) (by decide) (fun w => frame_e3 x y W H d A n cap w hE (by simp; omega) (by simp [hn]))
    · cases hl : ((n : Int) != 4 * W * H) with
      | true => exact laf_err_f_t x y W H d 0 3 3 A n cap w (4 * W * H) (by rw [e1, e2]) hE (inB_no (by omega)) hl (by simp) (by simp) (by decide) (fun w => frame_e2 x y W H d A n cap w hE (by simp; omega))
      | false => exact laf_err_f_f x y W H d 0 3 3 A n cap w (4 * W * H) (by rw [e1, e2]) hE (inB_no (by omega)) hl (by simp) (by simp) (by decide) (fun w => frame_e2 x y W H d A n cap w hE (by simp; omega))
  · have hF := fun w => frame_e1 x y W H d (regE x y W H) A n cap w rfl hE
    cases hl : ((n : Int) != wrap64 (wrap64 (4 * W) * H)) <;> cases hd : inB d 1 16
    · exact laf_err_f_f x y W H d _ _ _ A n cap w _ rfl rfl hd hl (if_pos hE) (if_pos hE) hE hF
    · exact laf_err_t_f x y W H d _ _ _ A n cap w _ rfl rfl hd hl (if_pos hE) (if_pos hE) hE hF
    · exact laf_err_f_t x y W H d _ _ _ A n cap w _ rfl rfl hd hl (if_pos hE) (if_pos hE) hE hF
    · exact laf_err_t_t x y W H d _ _ _ A n cap w _ rfl rfl hd hl (if_pos hE) (if_pos hE) hE hF
end Go.Proofs.Ytfphhlodfieopaa
