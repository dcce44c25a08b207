/- Contracts of what tells whether frames are right and the same. Conditions: none. -/
import Derived.Test.YtflmfjimemhooaaLf
import Derived.Test.YtflmfjimemhooaaRh
import Derived.Test.YtflmfjimemhooaaRo
namespace Go.Proofs.Ytflmfjimemhooaa
open Go.RowKit
open Fl
open BigFrame

def frV (x y W H : Int) (A : Option Addr) (n cap : Nat) : Value := .agg #[.int .i64 x, .int .i64 y, .int .i64 W, .int .i64 H, .slice A n cap]
/-- The error of a frame. -/
def frE (x y W H : Int) (n : Nat) : Int := if regE x y W H ≠ 0 then regE x y W H else if (n : Int) ≠ 4 * W * H then 2 else 0

set_option maxHeartbeats 1000000 in
theorem check_any (x y W H : Int) (A : Option Addr) (n cap : Nat) (w : World) :
    Calls Try.prog 37 #[.agg #[.int .i64 x, .int .i64 y, .int .i64 W, .int .i64 H, .slice A n cap]] w fun e w' => e = .returned (.int .i64 (frE x y W H n)) ∧ Kept None' w w' := by
  unfold frE
  by_cases hE : regE x y W H = 0
  · obtain ⟨w1', w2', w3', w4', w5'⟩ := regE_ok hE
    have w6 := (mul_bd w1' w2' w3' w4').1
    have w7 : 4 * W * H = 4 * (W * H) := Int.mul_assoc ..
    have hw : IntKind.i64.wrap (4 * W * H) = 4 * W * H := IntWalk.i64_in _ (by omega)
    clear w7
    rw [if_neg (by simp [hE])]
    by_cases hn : (n : Int) = 4 * W * H
    · rw [if_neg (by simp [hn])]
      have ht : ((n : Int) != 4 * W * H) = false := by simp [hn]
      clear hn
      go_enter Try.func37, Try.ntmps37
      go_wp2_with (first
        | (go_at_call 44; refine (checkregion_any _ _ _ _ _).mono ?_; rw [hE]; rintro e w1 ⟨rfl, hk1⟩
           have r2 := hk1.some (cell_alloc_one w _ _ 2) id
           have r3 := hk1.some (cell_alloc_one w _ _ 3) id
           have r4 := hk1.some (cell_alloc_one w _ _ 4) id
           have K1 := Lib.hid (((Kept.refl None' w).alloc _ _).trans hk1)
           clear hk1)
        | fail)
      go_ret
      exact ⟨rfl, K1.out⟩
    · rw [if_pos hn]
      have ht : ((n : Int) != 4 * W * H) = true := by simp [hn]
      clear hn
      go_enter Try.func37, Try.ntmps37
      go_wp2_with (first
        | (go_at_call 44; refine (checkregion_any _ _ _ _ _).mono ?_; rw [hE]; rintro e w1 ⟨rfl, hk1⟩
           have r2 := hk1.some (cell_alloc_one w _ _ 2) id
           have r3 := hk1.some (cell_alloc_one w _ _ 3) id
           have r4 := hk1.some (cell_alloc_one w _ _ 4) id
           have K1 := Lib.hid (((Kept.refl None' w).alloc _ _).trans hk1)
           clear hk1)
        | fail)
      go_ret
      exact ⟨rfl, K1.out⟩
  · rw [if_pos hE]
    obtain ⟨E, hE1⟩ : ∃ E, regE x y W H = E := ⟨_, rfl⟩
    rw [hE1] at hE ⊢
    have hb : (E != 0) = true := by simp [hE]
    have HE := Lib.hid hE1
    clear hE1
    go_enter Try.func37, Try.ntmps37
    go_wp2_with (first
      | (go_at_call 44; refine (checkregion_any _ _ _ _ _).mono ?_; rw [HE.out]; rintro e w1 ⟨rfl, hk1⟩
         have K1 := Lib.hid (((Kept.refl None' w).alloc _ _).trans hk1)
         clear hk1)
      | fail)
    go_ret
    exact ⟨rfl, K1.out⟩

set_option maxHeartbeats 2000000 in
theorem frameerror_cas (x y W H E1 E Q b : Int) (t : Bool) (A : Option Addr) (n cap : Nat) (w : World) (hE1 : regE x y W H = E1) (hQ : wrap64 (wrap64 (4 * W) * H) = Q) (_ : IntKind.i64.wrap (IntKind.i64.wrap (4 * W) * H) = Q) (ht : ((n : Int) != Q) = t)
    (hb : (if t = true then (2 : Int) else 0) = b) (hE : (if E1 ≠ 0 then E1 else b) = E) :
    Calls Try.prog 10 #[.agg #[.int .i64 x, .int .i64 y, .int .i64 W, .int .i64 H, .slice A n cap]] w fun e w' => e = .returned (.int .i64 E) ∧ Kept None' w w' := by
  have HE1 := Lib.hid hE1
  have HE := Lib.hid hE
  have HB := Lib.hid hb
  clear hE1 hE hb
  have a0 : (w.alloc (.cells #[.int .i64 x, .int .i64 y, .int .i64 W, .int .i64 H, .slice A n cap] 26)).cell? ⟨w.heap.size, 0, none⟩ = some (.int .i64 x) := cell_alloc_one w _ _ 0
  have a1 : (w.alloc (.cells #[.int .i64 x, .int .i64 y, .int .i64 W, .int .i64 H, .slice A n cap] 26)).cell? ⟨w.heap.size, 1, none⟩ = some (.int .i64 y) := cell_alloc_one w _ _ 1
  have a2 : (w.alloc (.cells #[.int .i64 x, .int .i64 y, .int .i64 W, .int .i64 H, .slice A n cap] 26)).cell? ⟨w.heap.size, 2, none⟩ = some (.int .i64 W) := cell_alloc_one w _ _ 2
  have a3 : (w.alloc (.cells #[.int .i64 x, .int .i64 y, .int .i64 W, .int .i64 H, .slice A n cap] 26)).cell? ⟨w.heap.size, 3, none⟩ = some (.int .i64 H) := cell_alloc_one w _ _ 3
  have a4 : (w.alloc (.cells #[.int .i64 x, .int .i64 y, .int .i64 W, .int .i64 H, .slice A n cap] 26)).cell? ⟨w.heap.size, 4, none⟩ = some (.slice A n cap) := cell_alloc_one w _ _ 4
  have kw : Kept None' w (w.alloc (.cells #[.int .i64 x, .int .i64 y, .int .i64 W, .int .i64 H, .slice A n cap] 26)) := (Kept.refl _ _).alloc _ _
  generalize hW : w.alloc (.cells #[.int .i64 x, .int .i64 y, .int .i64 W, .int .i64 H, .slice A n cap] 26) = W1 at *
  have A0 := ext_cell a0
  have A1 := ext_cell a1
  have A2 := ext_cell a2
  have A3 := ext_cell a3
  have A4 := ext_cell a4
  have KW := Lib.hid kw
  clear kw a0 a1 a2 a3 a4
  go_enter Try.func10, Try.ntmps10
  go_wp2_with fail
  clear hW
  refine region_ext_tail 16 (by kernel_rfl) (by kernel_rfl) ?_
  simp only [List.take_succ_cons, List.take_zero, List.drop_succ_cons, List.drop_zero]
  repeat (first
    | go_big_quiet_skip
    | (go_big_quiet_want; go_big_quiet_op; first | go_big_quiet_on | go_big_quiet_call (first
      | (go_at_call 23; exact calls_ext ((regionerror_any _ _ _ _ _).mono fun e w' ⟨a, b⟩ => ⟨by rw [a, HE1.out], b⟩))
      | (go_at_call 17; exact calls_ext_same ((when_any _ _ _).mono fun e w' ⟨a, b⟩ => ⟨by rw [a, HB.out], b⟩)))))
  refine wpQuiet_nil ?_
  rintro _ ⟨xq, rfl⟩
  have K2 := Lib.hid (KW.out.trans (ext_kept _ xq))
  clear A0 A1 A2 A3 A4
  generalize ext _ xq = w2 at *
  go_wp2_with fail
  refine (first2_any _ _ E1 b _ (by go_simp) (by go_simp)).mono ?_
  rw [HE.out]
  rintro e w' ⟨rfl, rfl⟩
  go_wp2_with fail
  go_ret
  exact ⟨rfl, K2.out.alloc _ _⟩
theorem wrap_eq (a : Int) : IntKind.i64.wrap a = wrap64 a := by
  unfold IntKind.wrap wrap64 IntKind.bits; simp [IntKind.signed]; split <;> omega
theorem frameerror_any (x y W H : Int) (A : Option Addr) (n cap : Nat) (w : World) :
    Calls Try.prog 10 #[.agg #[.int .i64 x, .int .i64 y, .int .i64 W, .int .i64 H, .slice A n cap]] w fun e w' => e = .returned (.int .i64 (frE x y W H n)) ∧ Kept None' w w' := by
  refine frameerror_cas x y W H (regE x y W H) (frE x y W H n) (wrap64 (wrap64 (4 * W) * H)) (if ((n : Int) != wrap64 (wrap64 (4 * W) * H)) = true then 2 else 0) _ A n cap w rfl rfl (by rw [wrap_eq, wrap_eq]) rfl rfl ?_
  unfold frE
  by_cases hE : regE x y W H = 0
  · obtain ⟨w1', w2', w3', w4', w5'⟩ := regE_ok hE
    have w6 := (mul_bd w1' w2' w3' w4').1
    have w7 : 4 * W * H = 4 * (W * H) := Int.mul_assoc ..
    have e1 : wrap64 (4 * W) = 4 * W := (by unfold wrap64; omega)
    have e2 : wrap64 (4 * W * H) = 4 * W * H := (by unfold wrap64; omega)
    rw [e1, e2, hE]
    by_cases hn : (n : Int) = 4 * W * H
    · simp [hn]
    · simp [hn]
  · rw [if_pos hE, if_pos hE]

set_option maxHeartbeats 2000000 in
theorem sameframe_any (x y W H : Int) (b1 o1 b2 o2 n c1 c2 : Nat) (G : Nat → Nat) (w : World) (hn : n ≤ 65536) (h1 : ∀ j, j < n → w.cell? ⟨b1, o1 + j, none⟩ = some (.float .f32 (G j))) (h2 : ∀ j, j < n → w.cell? ⟨b2, o2 + j, none⟩ = some (.float .f32 (G j))) :
    Calls Try.prog 29 #[.agg #[.int .i64 x, .int .i64 y, .int .i64 W, .int .i64 H, .slice (some ⟨b1, o1, none⟩) n c1], .agg #[.int .i64 x, .int .i64 y, .int .i64 W, .int .i64 H, .slice (some ⟨b2, o2, none⟩) n c2]] w fun e w' => e = .returned (.bool true) ∧ Kept None' w w' := by
  have H1 := Lib.hid h1
  have H2 := Lib.hid h2
  clear h1 h2
  go_enter Try.func29, Try.ntmps29
  go_wp2_with fail
  go_loopw [23] (fun s wr => ∃ j : Nat, j ≤ n ∧ s = .int .i64 j ∧ Kept None' ((w.alloc (.cells #[.int .i64 x, .int .i64 y, .int .i64 W, .int .i64 H, .slice (some ⟨b1, o1, none⟩) n c1] 26)).alloc (.cells #[.int .i64 x, .int .i64 y, .int .i64 W, .int .i64 H, .slice (some ⟨b2, o2, none⟩) n c2] 26)) wr) (fun s _ => n - (intOf s).toNat)
  case atStart => exact ⟨0, Nat.zero_le _, rfl, Kept.refl _ _⟩
  case round =>
    obtain ⟨j, hj, rfl, hk⟩ := hrel
    have p4 := hk.some (cell_alloc_two w _ _ _ _ 4) id
    have q4 := hk.some (cell_alloc_snd w _ _ _ 4) id
    have kw := (((Kept.refl None' w).alloc _ _).alloc _ _).trans hk
    have HK := Lib.hid hk
    have KW := Lib.hid kw
    by_cases hlt : j < n
    · have j1 : (0 : Int) ≤ (j : Int) := by omega
      have j2 : (j : Int) < (n : Int) := by omega
      have E1 := ext_cell p4
      have E2 := ext_cell q4
      have E3 := ext_cell (kw.some (H1.out j hlt) id)
      have E4 := ext_cell (kw.some (H2.out j hlt) id)
      clear hk kw p4 q4
      go_wp2_with fail
      refine region_ext (by kernel_rfl) (by kernel_rfl) ?_
      repeat (first
        | go_big_quiet_skip
        | (go_big_quiet_want; go_big_quiet_op; first | go_big_quiet_on | fail))
      refine wpQuiet_nil ?_
      rintro _ ⟨xq, rfl⟩
      have K2 := Lib.hid (HK.out.trans (ext_kept _ xq))
      clear E1 E2 E3 E4
      generalize ext _ xq = w2 at *
      go_wp2_with fail
      go_roundw
      case rel => exact ⟨j + 1, by omega, by go_num, K2.out⟩
      case measure => simp [intOf]; omega
    · obtain rfl : j = n := by omega
      clear hk kw
      go_wp2
      go_ret
      exact ⟨rfl, KW.out⟩
end Go.Proofs.Ytflmfjimemhooaa
