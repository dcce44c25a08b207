/- The walk of CubesMatch. Conditions: none. -/
import Derived.Test.YtkmganophcklgaaTp
import Derived.Test.YtkmganophcklgaaRo
namespace Go.Proofs.Ytkmganophcklgaa
open Go.RowKit
open Fl Fr
open BigFrame

theorem same_self (a : Nat) (w : World) : Calls Try.prog 28 #[.float .f32 a, .float .f32 a] w fun e w' => e = .returned (.bool true) ∧ w = w' :=
  (same_any a a w).mono fun _ _ ⟨h, h2⟩ => ⟨by rw [h]; simp, h2⟩
theorem px_self (q0 q1 q2 q3 : Nat) (w : World) :
    Calls Try.prog 39 #[.agg #[.float .f32 q0, .float .f32 q1, .float .f32 q2, .float .f32 q3], .agg #[.float .f32 q0, .float .f32 q1, .float .f32 q2, .float .f32 q3]] w fun e w' => e = .returned (.bool true) ∧ Grown w w' :=
  (samepx_any _ _ _ _ _ _ _ _ w).mono fun e w' ⟨a, b⟩ => ⟨by rw [a]; simp only [beq_self_eq_true, Bool.and_self], b⟩
theorem ar3_eql (w : World) : (binOp .eql 36 (.agg #[.float .f32 0, .float .f32 0, .float .f32 0]) (.agg #[.float .f32 0, .float .f32 0, .float .f32 0])).run Try.prog w = .ok (.bool true) w := by kernel_rfl
theorem ar3_neq (w : World) : (binOp .neq 36 (.agg #[.float .f32 0, .float .f32 0, .float .f32 0]) (.agg #[.float .f32 0, .float .f32 0, .float .f32 0])).run Try.prog w = .ok (.bool false) w := by kernel_rfl
theorem px_eql (w : World) : (binOp .eql 56 (.agg #[.float .f32 0, .float .f32 0, .float .f32 0, .float .f32 0]) (.agg #[.float .f32 0, .float .f32 0, .float .f32 0, .float .f32 0])).run Try.prog w = .ok (.bool true) w := by kernel_rfl
/-- The boxes of a cube and of a pixel. -/
structure CpB (T P : Nat) (S : Int) (lo hi : Nat) (A : Option Addr) (n cap : Nat) (p : Nat → Nat) (w : World) : Prop where
  c0 : w.cell? ⟨T, 0, none⟩ = some (.int .i64 S)
  c1 : w.cell? ⟨T, 1, none⟩ = some (.float .f32 lo)
  c2 : w.cell? ⟨T, 2, none⟩ = some (.float .f32 hi)
  c3 : w.cell? ⟨T, 3, none⟩ = some (.slice A n cap)
  p0 : w.cell? ⟨P, 0, none⟩ = some (.float .f32 (p 0))
  p1 : w.cell? ⟨P, 1, none⟩ = some (.float .f32 (p 1))
  p2 : w.cell? ⟨P, 2, none⟩ = some (.float .f32 (p 2))
  p3 : w.cell? ⟨P, 3, none⟩ = some (.float .f32 (p 3))
theorem CpB.step {T P : Nat} {S : Int} {lo hi : Nat} {A : Option Addr} {n cap : Nat} {p : Nat → Nat} {w w' : World} (h : CpB T P S lo hi A n cap p w) (k : Kept None' w w') : CpB T P S lo hi A n cap p w' :=
  ⟨k.some h.c0 id, k.some h.c1 id, k.some h.c2 id, k.some h.c3 id, k.some h.p0 id, k.some h.p1 id, k.some h.p2 id, k.some h.p3 id⟩
/-- Three singles in a box, and two pixels in theirs. -/
structure ThB (X Y Z : Nat) (v : Nat → Nat) (r s : Nat → Nat) (w : World) : Prop where
  x : ∀ c, c < 3 → w.cell? ⟨X, c, none⟩ = some (.float .f32 (v c))
  y : ∀ c, c < 4 → w.cell? ⟨Y, c, none⟩ = some (.float .f32 (r c))
  z : ∀ c, c < 4 → w.cell? ⟨Z, c, none⟩ = some (.float .f32 (s c))
theorem ThB.step {X Y Z : Nat} {v r s : Nat → Nat} {w w' : World} (h : ThB X Y Z v r s w) (k : Kept None' w w') : ThB X Y Z v r s w' :=
  ⟨fun c hc => k.some (h.x c hc) id, fun c hc => k.some (h.y c hc) id, fun c hc => k.some (h.z c hc) id⟩

set_option linter.unusedSimpArgs false in
set_option linter.unusedVariables false in
set_option maxHeartbeats 8000000 in
set_option maxRecDepth 100000 in
theorem cm_err (S : Int) (lo hi : Nat) (A : Option Addr) (n cap : Nat) (i j k : Int) (p : Nat → Nat) (w : World) (E : Int) (hn : n ≤ 9223372036854775807) (hE : cuE S lo hi n = E) (h0 : ¬ E = 0) :
    Calls Try.prog 5 #[.agg #[.int .i64 S, .float .f32 lo, .float .f32 hi, .slice A n cap], .int .i64 i, .int .i64 j, .int .i64 k, .agg #[.float .f32 (p 0), .float .f32 (p 1), .float .f32 (p 2), .float .f32 (p 3)]] w fun e w' => e = .returned (.bool true) ∧ Kept None' w w' := by
  have hb : (E != 0) = true := by simp [h0]
  have hb2 : (E != E) = false := by simp
  have hb3 : (E == E) = true := by simp
  obtain ⟨v, hv⟩ : ∃ v : Nat → Nat, ∀ c, v c = 0 := ⟨fun _ => 0, fun _ => rfl⟩
  obtain ⟨r, hr⟩ : ∃ v : Nat → Nat, ∀ c, v c = 0 := ⟨fun _ => 0, fun _ => rfl⟩
  obtain ⟨s, hs⟩ : ∃ v : Nat → Nat, ∀ c, v c = 0 := ⟨fun _ => 0, fun _ => rfl⟩
  have hEn : ∀ w', Kept None' w w' → Calls Try.prog 33 #[.agg #[.int .i64 S, .float .f32 lo, .float .f32 hi, .slice A n cap], .int .i64 i, .int .i64 j, .int .i64 k] w' (ThE (v 0) (v 1) (v 2) E w') := fun w' _ => by rw [hv, hv, hv]; exact Entry_err S lo hi A n cap i j k w' E hn hE h0
  have hTe : ∀ w', Kept None' w w' → Calls Try.prog 34 #[.agg #[.int .i64 S, .float .f32 lo, .float .f32 hi, .slice A n cap], .agg #[.float .f32 (p 0), .float .f32 (p 1), .float .f32 (p 2), .float .f32 (p 3)]] w' (PxE r E w') := fun w' _ => by unfold PxE; rw [hr, hr, hr, hr]; exact Tetra_err S lo hi A n cap p w' E hn hE h0
  have hLi : ∀ w', Kept None' w w' → Calls Try.prog 35 #[.agg #[.int .i64 S, .float .f32 lo, .float .f32 hi, .slice A n cap], .agg #[.float .f32 (p 0), .float .f32 (p 1), .float .f32 (p 2), .float .f32 (p 3)]] w' (PxE s E w') := fun w' _ => by unfold PxE; rw [hs, hs, hs, hs]; exact Linear_err S lo hi A n cap p w' E hn hE h0
  have HPl := Lib.hid (fun w' => Place_err S lo hi A n cap (p 0) w' E hn hE h0)
  have HEn := Lib.hid hEn
  have HTe := Lib.hid hTe
  have HLi := Lib.hid hLi
  have HE := Lib.hid hE
  have HV := Lib.hid (And.intro hv (And.intro hr hs))
  clear hEn hTe hLi hE hv hr hs
  go_enter Try.func5, Try.ntmps5
  go_upto_region 2 with (first | (go_at_call 13; refine (cubeerror_any _ _ _ _ _ _ _ hn).mono ?_; rw [HE.out]; rintro e w1 ⟨rfl, hk⟩))
  have kw := (((Kept.refl None' w).alloc _ _).alloc _ _).trans hk
  have hB : CpB w.heap.size (w.heap.size + 1) S lo hi A n cap p w1 := ⟨hk.some (by go_simp) id, hk.some (by go_simp) id, hk.some (by go_simp) id, hk.some (by go_simp) id, hk.some (by go_simp) id, hk.some (by go_simp) id, hk.some (by go_simp) id, hk.some (by go_simp) id⟩
  generalize w.heap.size = T at *
  have HB := Lib.hid hB
  have KW := Lib.hid kw
  obtain ⟨t0, t1, t2, t3, p0, p1, p2, p3⟩ := hB
  clear hk kw
  go_upto_region 3 with (first | (go_at_call 33; refine (HEn.out _ KW.out).mono ?_; rintro e w2 ⟨rfl, hk2⟩))
  refine of_world (fun Wa hW => ?_)
  have ka : Kept None' w1 Wa := hk2.trans (by rw [hW]; exact (Kept.refl _ _).alloc _ _)
  have xa : ∀ c, c < 3 → Wa.cell? ⟨w2.heap.size, c, none⟩ = some (.float .f32 (v c)) := fun c hc => by
    rw [hW]
    obtain rfl | rfl | rfl : c = 0 ∨ c = 1 ∨ c = 2 := by omega
    all_goals go_simp
  generalize w2.heap.size = X at *
  have KA := Lib.hid (And.intro ka xa)
  clear hW hk2 ka xa t0 t1 t2 t3 p0 p1 p2 p3
  obtain ⟨t0, t1, t2, t3, p0, p1, p2, p3⟩ := HB.out.step KA.out.1
  go_upto_region 4 with (first | (go_at_call 34; refine (HTe.out _ (KW.out.trans KA.out.1)).mono ?_; rintro e w3 ⟨rfl, hk3⟩))
  refine of_world (fun Wb hW => ?_)
  have kb : Kept None' Wa Wb := hk3.trans (by rw [hW]; exact (Kept.refl _ _).alloc _ _)
  have ya : ∀ c, c < 4 → Wb.cell? ⟨w3.heap.size, c, none⟩ = some (.float .f32 (r c)) := fun c hc => by
    rw [hW]
    obtain rfl | rfl | rfl | rfl : c = 0 ∨ c = 1 ∨ c = 2 ∨ c = 3 := by omega
    all_goals go_simp
  generalize w3.heap.size = Y at *
  have KB := Lib.hid (And.intro kb ya)
  clear hW hk3 kb ya t0 t1 t2 t3 p0 p1 p2 p3
  obtain ⟨t0, t1, t2, t3, p0, p1, p2, p3⟩ := HB.out.step (KA.out.1.trans KB.out.1)
  go_upto_region 5 with (first | (go_at_call 35; refine (HLi.out _ (KW.out.trans (KA.out.1.trans KB.out.1))).mono ?_; rintro e w4 ⟨rfl, hk4⟩))
  refine of_world (fun Wc hW => ?_)
  have kc : Kept None' Wb Wc := hk4.trans (by rw [hW]; exact (Kept.refl _ _).alloc _ _)
  have za : ∀ c, c < 4 → Wc.cell? ⟨w4.heap.size, c, none⟩ = some (.float .f32 (s c)) := fun c hc => by
    rw [hW]
    obtain rfl | rfl | rfl | rfl : c = 0 ∨ c = 1 ∨ c = 2 ∨ c = 3 := by omega
    all_goals go_simp
  generalize w4.heap.size = Z at *
  have k3 := KA.out.1.trans (KB.out.1.trans kc)
  have HTB := Lib.hid (show ThB X Y Z v r s Wc from ⟨fun c hc => kc.some (KB.out.1.some (KA.out.2 c hc) id) id, fun c hc => kc.some (KB.out.2 c hc) id, za⟩)
  have HB3 := Lib.hid (HB.out.step k3)
  have KW3 := Lib.hid (KW.out.trans k3)
  clear hW hk4 kc za t0 t1 t2 t3 p0 p1 p2 p3 k3 KA KB HB KW
  obtain ⟨t0, t1, t2, t3, p0, p1, p2, p3⟩ := HB3.out
  go_upto_region 6 with (first | (go_at_call 36; refine (HPl.out _).mono ?_; rintro e w5 ⟨rfl, hk5⟩))
  have HB5 := Lib.hid (HB3.out.step hk5)
  have HT5 := Lib.hid (HTB.out.step hk5)
  have KW5 := Lib.hid (KW3.out.trans hk5)
  clear hk5 t0 t1 t2 t3 p0 p1 p2 p3 HB3 HTB KW3
  obtain ⟨t0, t1, t2, t3, p0, p1, p2, p3⟩ := HB5.out
  go_upto_region 7 with (first
    | (go_at_call 16; refine (cubes_any _).mono ?_; rintro e w6 ⟨rfl, hk⟩; have K6 := Lib.hid hk; obtain ⟨t0, t1, t2, t3, p0, p1, p2, p3⟩ := HB5.out.step hk; clear hk)
    | (go_at_call 37; refine (checkcube_any _ _ _ _ _ _ _ hn).mono ?_; rw [HE.out]; rintro e w7 ⟨rfl, hk⟩; have K7 := Lib.hid hk; obtain ⟨t0, t1, t2, t3, p0, p1, p2, p3⟩ := (HB5.out.step K6.out).step hk; clear hk))
  have KX := Lib.hid (K6.out.trans K7.out)
  clear p0 p1 p2 p3
  have e1 := ar3_eql
  have e2 := px_eql
  go_wp2_with (first
    | (go_at_call 16; refine (cubes_any _).mono ?_; rintro e w8 ⟨rfl, hk⟩; have K8 := Lib.hid hk; obtain ⟨t0, t1, t2, t3, p0, p1, p2, p3⟩ := (HB5.out.step KX.out).step hk; clear hk p0 p1 p2 p3)
    | (go_at_call 37; refine (checkcube_any _ _ _ _ _ _ _ hn).mono ?_; rw [HE.out]; rintro e w9 ⟨rfl, hk⟩; have K9 := Lib.hid hk; have hT := (HT5.out.step KX.out).step (K8.out.trans hk); have x0 := hT.x 0 (by omega); have x1 := hT.x 1 (by omega); have x2 := hT.x 2 (by omega); have y0 := hT.y 0 (by omega); have y1 := hT.y 1 (by omega); have y2 := hT.y 2 (by omega); have y3 := hT.y 3 (by omega); have z0 := hT.z 0 (by omega); have z1 := hT.z 1 (by omega); have z2 := hT.z 2 (by omega); have z3 := hT.z 3 (by omega); rw [HV.out.1] at x0 x1 x2; rw [HV.out.2.1] at y0 y1 y2 y3; rw [HV.out.2.2] at z0 z1 z2 z3; clear hk hT))
  go_ret
  exact ⟨rfl, ((KW5.out.trans KX.out).trans K8.out).trans K9.out⟩

/-- Is a place in the cube. -/
def inP (S : Int) (i j k : Int) : Bool := inB i 0 (S - 1) && (inB j 0 (S - 1) && inB k 0 (S - 1))

set_option linter.unusedSimpArgs false in
set_option linter.unusedVariables false in
set_option maxHeartbeats 8000000 in
set_option maxRecDepth 100000 in
theorem cm_ok (S : Nat) (lo hi b o n cap : Nat) (z : Nat → Nat) (i j k : Int) (p v r s : Nat → Nat) (eE : Int) (w : World) (hE : cuE S lo hi n = 0)
    (hEn : ∀ w', Kept None' w w' → Calls Try.prog 33 #[.agg #[.int .i64 (S : Int), .float .f32 lo, .float .f32 hi, .slice (some ⟨b, o, none⟩) n cap], .int .i64 i, .int .i64 j, .int .i64 k] w' (ThE (v 0) (v 1) (v 2) eE w'))
    (hTe : ∀ w', Kept None' w w' → Calls Try.prog 34 #[.agg #[.int .i64 (S : Int), .float .f32 lo, .float .f32 hi, .slice (some ⟨b, o, none⟩) n cap], .agg #[.float .f32 (p 0), .float .f32 (p 1), .float .f32 (p 2), .float .f32 (p 3)]] w' (PxE r 0 w'))
    (hLi : ∀ w', Kept None' w w' → Calls Try.prog 35 #[.agg #[.int .i64 (S : Int), .float .f32 lo, .float .f32 hi, .slice (some ⟨b, o, none⟩) n cap], .agg #[.float .f32 (p 0), .float .f32 (p 1), .float .f32 (p 2), .float .f32 (p 3)]] w' (PxE s 0 w'))
    (hTo : ∀ w', Kept None' w w' → Calls Try.prog 40 #[.agg #[.int .i64 (S : Int), .float .f32 lo, .float .f32 hi, .slice (some ⟨b, o, none⟩) n cap], .agg #[.float .f32 (p 0), .float .f32 (p 1), .float .f32 (p 2), .float .f32 (p 3)]] w' (PxIs r w'))
    (hLo : ∀ w', Kept None' w w' → Calls Try.prog 41 #[.agg #[.int .i64 (S : Int), .float .f32 lo, .float .f32 hi, .slice (some ⟨b, o, none⟩) n cap], .agg #[.float .f32 (p 0), .float .f32 (p 1), .float .f32 (p 2), .float .f32 (p 3)]] w' (PxIs s w'))
    (hin : inP S i j k = true → eE = 0 ∧ ∀ w', Kept None' w w' → Calls Try.prog 20 #[.agg #[.int .i64 (S : Int), .float .f32 lo, .float .f32 hi, .slice (some ⟨b, o, none⟩) n cap], .int .i64 i, .int .i64 j, .int .i64 k] w' fun e w'' => e = .returned (.agg #[.float .f32 (v 0), .float .f32 (v 1), .float .f32 (v 2)]) ∧ Kept None' w' w'')
    (hout : inP S i j k = false → eE = 5 ∧ ∀ c, v c = 0) :
    Calls Try.prog 5 #[.agg #[.int .i64 (S : Int), .float .f32 lo, .float .f32 hi, .slice (some ⟨b, o, none⟩) n cap], .int .i64 i, .int .i64 j, .int .i64 k, .agg #[.float .f32 (p 0), .float .f32 (p 1), .float .f32 (p 2), .float .f32 (p 3)]] w fun e w' => e = .returned (.bool true) ∧ Kept None' w w' := by
  obtain ⟨s', hs', s1', s2', -, -, hn4⟩ := cuE_nat hE
  have hn : n ≤ 9223372036854775807 := by omega
  have s1 : 2 ≤ (S : Int) := by omega
  have s2 : (S : Int) ≤ 17 := by omega
  have HPl := Lib.hid (fun w' => Place_ok S lo hi (some ⟨b, o, none⟩) n cap (p 0) w' hn hE)
  have HEn := Lib.hid hEn
  have HTe := Lib.hid hTe
  have HLi := Lib.hid hLi
  have HTo := Lib.hid hTo
  have HLo := Lib.hid hLo
  have HE := Lib.hid hE
  have HIN := Lib.hid (And.intro hin hout)
  clear hEn hTe hLi hE hTo hLo hin hout hs' s1' s2' hn4
  go_enter Try.func5, Try.ntmps5
  go_upto_region 2 with (first | (go_at_call 13; refine (cubeerror_any _ _ _ _ _ _ _ hn).mono ?_; rw [HE.out]; rintro e w1 ⟨rfl, hk⟩))
  have kw := (((Kept.refl None' w).alloc _ _).alloc _ _).trans hk
  have hB : CpB w.heap.size (w.heap.size + 1) (S : Int) lo hi (some ⟨b, o, none⟩) n cap p w1 := ⟨hk.some (by go_simp) id, hk.some (by go_simp) id, hk.some (by go_simp) id, hk.some (by go_simp) id, hk.some (by go_simp) id, hk.some (by go_simp) id, hk.some (by go_simp) id, hk.some (by go_simp) id⟩
  generalize w.heap.size = T at *
  have HB := Lib.hid hB
  have KW := Lib.hid kw
  obtain ⟨t0, t1, t2, t3, p0, p1, p2, p3⟩ := hB
  clear hk kw
  go_upto_region 3 with (first | (go_at_call 33; refine (HEn.out _ KW.out).mono ?_; rintro e w2 ⟨rfl, hk2⟩))
  refine of_world (fun Wa hW => ?_)
  have ka : Kept None' w1 Wa := hk2.trans (by rw [hW]; exact (Kept.refl _ _).alloc _ _)
  have xa : ∀ c, c < 3 → Wa.cell? ⟨w2.heap.size, c, none⟩ = some (.float .f32 (v c)) := fun c hc => by
    rw [hW]
    obtain rfl | rfl | rfl : c = 0 ∨ c = 1 ∨ c = 2 := by omega
    all_goals go_simp
  generalize w2.heap.size = X at *
  have KA := Lib.hid (And.intro ka xa)
  clear hW hk2 ka xa t0 t1 t2 t3 p0 p1 p2 p3
  obtain ⟨t0, t1, t2, t3, p0, p1, p2, p3⟩ := HB.out.step KA.out.1
  go_upto_region 4 with (first | (go_at_call 34; refine (HTe.out _ (KW.out.trans KA.out.1)).mono ?_; rintro e w3 ⟨rfl, hk3⟩))
  refine of_world (fun Wb hW => ?_)
  have kb : Kept None' Wa Wb := hk3.trans (by rw [hW]; exact (Kept.refl _ _).alloc _ _)
  have ya : ∀ c, c < 4 → Wb.cell? ⟨w3.heap.size, c, none⟩ = some (.float .f32 (r c)) := fun c hc => by
    rw [hW]
    obtain rfl | rfl | rfl | rfl : c = 0 ∨ c = 1 ∨ c = 2 ∨ c = 3 := by omega
    all_goals go_simp
  generalize w3.heap.size = Y at *
  have KB := Lib.hid (And.intro kb ya)
  clear hW hk3 kb ya t0 t1 t2 t3 p0 p1 p2 p3
  obtain ⟨t0, t1, t2, t3, p0, p1, p2, p3⟩ := HB.out.step (KA.out.1.trans KB.out.1)
  go_upto_region 5 with (first | (go_at_call 35; refine (HLi.out _ (KW.out.trans (KA.out.1.trans KB.out.1))).mono ?_; rintro e w4 ⟨rfl, hk4⟩))
  refine of_world (fun Wc hW => ?_)
  have kc : Kept None' Wb Wc := hk4.trans (by rw [hW]; exact (Kept.refl _ _).alloc _ _)
  have za : ∀ c, c < 4 → Wc.cell? ⟨w4.heap.size, c, none⟩ = some (.float .f32 (s c)) := fun c hc => by
    rw [hW]
    obtain rfl | rfl | rfl | rfl : c = 0 ∨ c = 1 ∨ c = 2 ∨ c = 3 := by omega
    all_goals go_simp
  generalize w4.heap.size = Z at *
  have k3 := KA.out.1.trans (KB.out.1.trans kc)
  have HTB := Lib.hid (show ThB X Y Z v r s Wc from ⟨fun c hc => kc.some (KB.out.1.some (KA.out.2 c hc) id) id, fun c hc => kc.some (KB.out.2 c hc) id, za⟩)
  have HB3 := Lib.hid (HB.out.step k3)
  have KW3 := Lib.hid (KW.out.trans k3)
  clear hW hk4 kc za t0 t1 t2 t3 p0 p1 p2 p3 k3 KA KB HB KW
  obtain ⟨t0, t1, t2, t3, p0, p1, p2, p3⟩ := HB3.out
  go_upto_region 6 with (first | (go_at_call 36; refine (HPl.out _).mono ?_; rintro e w5 ⟨rfl, hk5⟩))
  have HB5 := Lib.hid (HB3.out.step hk5)
  have HT5 := Lib.hid (HTB.out.step hk5)
  have KW5 := Lib.hid (KW3.out.trans hk5)
  clear hk5 t0 t1 t2 t3 p0 p1 p2 p3 HB3 HTB KW3
  obtain ⟨t0, t1, t2, t3, p0, p1, p2, p3⟩ := HB5.out
  go_upto_region 8 with (first
    | (go_at_call 16; refine (cubes_any _).mono ?_; rintro e w6 ⟨rfl, hk⟩; have K6 := Lib.hid hk; obtain ⟨t0, t1, t2, t3, p0, p1, p2, p3⟩ := HB5.out.step hk; clear hk)
    | (go_at_call 37; refine (checkcube_any _ _ _ _ _ _ _ hn).mono ?_; rw [HE.out]; rintro e w7 ⟨rfl, hk⟩; have K7 := Lib.hid hk; obtain ⟨t0, t1, t2, t3, p0, p1, p2, p3⟩ := (HB5.out.step K6.out).step hk; clear hk))
  have KX := Lib.hid (K6.out.trans K7.out)
  have hT := HT5.out.step KX.out
  have x0 := hT.x 0 (by omega)
  have x1 := hT.x 1 (by omega)
  have x2 := hT.x 2 (by omega)
  clear hT
  have bad : inP S i j k = false → eE = 5 ∧ v 0 = 0 ∧ v 1 = 0 ∧ v 2 = 0 := fun h => let ⟨a, b⟩ := HIN.out.2 h; ⟨a, b 0, b 1, b 2⟩
  have BAD := Lib.hid bad
  clear bad
  cases hi0 : inB i 0 ((S : Int) - 1) with
  | false =>
    obtain ⟨rfl, q0, q1, q2⟩ := BAD.out (by unfold inP; rw [hi0]; rfl)
    rw [q0] at x0
    rw [q1] at x1
    rw [q2] at x2
    have e1 := ar3_neq
    clear q0 q1 q2
    go_upto_region 13 with (first | (go_at_call 15; refine (in_one _ _ _ _).mono ?_; (first | rw [hi0] | rw [hi1] | rw [hi2]); rintro e w' ⟨rfl, rfl⟩))
    clear t0 t1 t2 t3 p1 p2 p3
    obtain ⟨t0, t1, t2, t3, p0, p1, p2, p3⟩ := HB5.out.step KX.out
    go_upto_region 14 with (first | (go_at_call 38; refine (onaxis_any _ _ _ _ _ _ _ _ s1 s2).mono ?_; rintro e w9 ⟨rfl, hk9⟩))
    have KY := Lib.hid (KX.out.trans hk9)
    have hB := HB5.out.step KY.out
    have hT := HT5.out.step KY.out
    have A0 := ext_cell hB.c0
    have A1 := ext_cell hB.c1
    have A2 := ext_cell hB.c2
    have A3 := ext_cell hB.c3
    have A4 := ext_cell hB.p0
    have A5 := ext_cell hB.p1
    have A6 := ext_cell hB.p2
    have A7 := ext_cell hB.p3
    have B0 := ext_cell (hT.y 0 (by omega))
    have B1 := ext_cell (hT.y 1 (by omega))
    have B2 := ext_cell (hT.y 2 (by omega))
    have B3 := ext_cell (hT.y 3 (by omega))
    have C0 := ext_cell (hT.z 0 (by omega))
    have C1 := ext_cell (hT.z 1 (by omega))
    have C2 := ext_cell (hT.z 2 (by omega))
    have C3 := ext_cell (hT.z 3 (by omega))
    have KZ := Lib.hid (KW5.out.trans KY.out)
    clear hB hT hk9 t0 t1 t2 t3 p0 p1 p2 p3
    refine region_ext (by kernel_rfl) (by kernel_rfl) ?_
    repeat (first
      | go_big_quiet_skip
      | (go_big_quiet_want; go_big_quiet_op; first | go_big_quiet_on | go_big_quiet_call (first
        | (first | (go_at_call 28; exact calls_ext_same (same_self _ _)) | (go_at_call 40; exact calls_ext (HTo.out _ (KZ.out.trans (ext_kept _ _)))) | (go_at_call 41; exact calls_ext (HLo.out _ (KZ.out.trans (ext_kept _ _)))) | (go_at_call 39; exact calls_ext_grown (px_self _ _ _ _ _))))))
    refine wpQuiet_nil ?_
    rintro _ ⟨xq, rfl⟩
    have KE := Lib.hid (KZ.out.trans (ext_kept _ xq))
    clear A0 A1 A2 A3 A4 A5 A6 A7 B0 B1 B2 B3 C0 C1 C2 C3
    generalize ext _ xq = W9 at *
    go_wp2_with fail
    go_ret
    exact ⟨rfl, KE.out⟩
  | true =>
    cases hi1 : inB j 0 ((S : Int) - 1) with
    | false =>
      obtain ⟨rfl, q0, q1, q2⟩ := BAD.out (by unfold inP; rw [hi0, hi1]; rfl)
      rw [q0] at x0
      rw [q1] at x1
      rw [q2] at x2
      have e1 := ar3_neq
      clear q0 q1 q2
      go_upto_region 13 with (first | (go_at_call 15; refine (in_one _ _ _ _).mono ?_; (first | rw [hi0] | rw [hi1] | rw [hi2]); rintro e w' ⟨rfl, rfl⟩))
      clear t0 t1 t2 t3 p1 p2 p3
      obtain ⟨t0, t1, t2, t3, p0, p1, p2, p3⟩ := HB5.out.step KX.out
      go_upto_region 14 with (first | (go_at_call 38; refine (onaxis_any _ _ _ _ _ _ _ _ s1 s2).mono ?_; rintro e w9 ⟨rfl, hk9⟩))
      have KY := Lib.hid (KX.out.trans hk9)
      have hB := HB5.out.step KY.out
      have hT := HT5.out.step KY.out
      have A0 := ext_cell hB.c0
      have A1 := ext_cell hB.c1
      have A2 := ext_cell hB.c2
      have A3 := ext_cell hB.c3
      have A4 := ext_cell hB.p0
      have A5 := ext_cell hB.p1
      have A6 := ext_cell hB.p2
      have A7 := ext_cell hB.p3
      have B0 := ext_cell (hT.y 0 (by omega))
      have B1 := ext_cell (hT.y 1 (by omega))
      have B2 := ext_cell (hT.y 2 (by omega))
      have B3 := ext_cell (hT.y 3 (by omega))
      have C0 := ext_cell (hT.z 0 (by omega))
      have C1 := ext_cell (hT.z 1 (by omega))
      have C2 := ext_cell (hT.z 2 (by omega))
      have C3 := ext_cell (hT.z 3 (by omega))
      have KZ := Lib.hid (KW5.out.trans KY.out)
      clear hB hT hk9 t0 t1 t2 t3 p0 p1 p2 p3
      refine region_ext (by kernel_rfl) (by kernel_rfl) ?_
      repeat (first
        | go_big_quiet_skip
        | (go_big_quiet_want; go_big_quiet_op; first | go_big_quiet_on | go_big_quiet_call (first
          | (first | (go_at_call 28; exact calls_ext_same (same_self _ _)) | (go_at_call 40; exact calls_ext (HTo.out _ (KZ.out.trans (ext_kept _ _)))) | (go_at_call 41; exact calls_ext (HLo.out _ (KZ.out.trans (ext_kept _ _)))) | (go_at_call 39; exact calls_ext_grown (px_self _ _ _ _ _))))))
      refine wpQuiet_nil ?_
      rintro _ ⟨xq, rfl⟩
      have KE := Lib.hid (KZ.out.trans (ext_kept _ xq))
      clear A0 A1 A2 A3 A4 A5 A6 A7 B0 B1 B2 B3 C0 C1 C2 C3
      generalize ext _ xq = W9 at *
      go_wp2_with fail
      go_ret
      exact ⟨rfl, KE.out⟩
    | true =>
      cases hi2 : inB k 0 ((S : Int) - 1) with
      | false =>
        obtain ⟨rfl, q0, q1, q2⟩ := BAD.out (by unfold inP; rw [hi0, hi1, hi2]; rfl)
        rw [q0] at x0
        rw [q1] at x1
        rw [q2] at x2
        have e1 := ar3_neq
        clear q0 q1 q2
        go_upto_region 13 with (first | (go_at_call 15; refine (in_one _ _ _ _).mono ?_; (first | rw [hi0] | rw [hi1] | rw [hi2]); rintro e w' ⟨rfl, rfl⟩))
        clear t0 t1 t2 t3 p1 p2 p3
        obtain ⟨t0, t1, t2, t3, p0, p1, p2, p3⟩ := HB5.out.step KX.out
        go_upto_region 14 with (first | (go_at_call 38; refine (onaxis_any _ _ _ _ _ _ _ _ s1 s2).mono ?_; rintro e w9 ⟨rfl, hk9⟩))
        have KY := Lib.hid (KX.out.trans hk9)
        have hB := HB5.out.step KY.out
        have hT := HT5.out.step KY.out
        have A0 := ext_cell hB.c0
        have A1 := ext_cell hB.c1
        have A2 := ext_cell hB.c2
        have A3 := ext_cell hB.c3
        have A4 := ext_cell hB.p0
        have A5 := ext_cell hB.p1
        have A6 := ext_cell hB.p2
        have A7 := ext_cell hB.p3
        have B0 := ext_cell (hT.y 0 (by omega))
        have B1 := ext_cell (hT.y 1 (by omega))
        have B2 := ext_cell (hT.y 2 (by omega))
        have B3 := ext_cell (hT.y 3 (by omega))
        have C0 := ext_cell (hT.z 0 (by omega))
        have C1 := ext_cell (hT.z 1 (by omega))
        have C2 := ext_cell (hT.z 2 (by omega))
        have C3 := ext_cell (hT.z 3 (by omega))
        have KZ := Lib.hid (KW5.out.trans KY.out)
        clear hB hT hk9 t0 t1 t2 t3 p0 p1 p2 p3
        refine region_ext (by kernel_rfl) (by kernel_rfl) ?_
        repeat (first
          | go_big_quiet_skip
          | (go_big_quiet_want; go_big_quiet_op; first | go_big_quiet_on | go_big_quiet_call (first
            | (first | (go_at_call 28; exact calls_ext_same (same_self _ _)) | (go_at_call 40; exact calls_ext (HTo.out _ (KZ.out.trans (ext_kept _ _)))) | (go_at_call 41; exact calls_ext (HLo.out _ (KZ.out.trans (ext_kept _ _)))) | (go_at_call 39; exact calls_ext_grown (px_self _ _ _ _ _))))))
        refine wpQuiet_nil ?_
        rintro _ ⟨xq, rfl⟩
        have KE := Lib.hid (KZ.out.trans (ext_kept _ xq))
        clear A0 A1 A2 A3 A4 A5 A6 A7 B0 B1 B2 B3 C0 C1 C2 C3
        generalize ext _ xq = W9 at *
        go_wp2_with fail
        go_ret
        exact ⟨rfl, KE.out⟩
      | true =>
        obtain ⟨rfl, hEo⟩ := HIN.out.1 (by unfold inP; rw [hi0, hi1, hi2]; rfl)
        have HEo := Lib.hid hEo
        clear hEo
        go_upto_region 11 with (first | (go_at_call 15; refine (in_one _ _ _ _).mono ?_; (first | rw [hi0] | rw [hi1] | rw [hi2]); rintro e w' ⟨rfl, rfl⟩))
        have A0 := ext_cell t0
        have A1 := ext_cell t1
        have A2 := ext_cell t2
        have A3 := ext_cell t3
        have A4 := ext_cell x0
        have A5 := ext_cell x1
        have A6 := ext_cell x2
        have KV := Lib.hid (KW5.out.trans KX.out)
        refine region_ext (by kernel_rfl) (by kernel_rfl) ?_
        repeat (first
          | go_big_quiet_skip
          | (go_big_quiet_want; go_big_quiet_op; first | go_big_quiet_on | go_big_quiet_call (first
            | (first | (go_at_call 20; exact calls_ext (HEo.out _ (KV.out.trans (ext_kept _ _)))) | (go_at_call 32; exact calls_ext (samethree_same _ _ _ _))))))
        refine wpQuiet_nil ?_
        rintro _ ⟨xq, rfl⟩
        have KX2 := Lib.hid (KX.out.trans (ext_kept _ xq))
        clear A0 A1 A2 A3 A4 A5 A6 t0 t1 t2 t3 p0 p1 p2 p3 x0 x1 x2
        generalize ext _ xq = W8 at *
        obtain ⟨t0, t1, t2, t3, p0, p1, p2, p3⟩ := HB5.out.step KX2.out
        go_upto_region 13 with (fail)
        clear t0 t1 t2 t3 p1 p2 p3
        obtain ⟨t0, t1, t2, t3, p0, p1, p2, p3⟩ := HB5.out.step KX2.out
        go_upto_region 14 with (first | (go_at_call 38; refine (onaxis_any _ _ _ _ _ _ _ _ s1 s2).mono ?_; rintro e w9 ⟨rfl, hk9⟩))
        have KY := Lib.hid (KX2.out.trans hk9)
        have hB := HB5.out.step KY.out
        have hT := HT5.out.step KY.out
        have A0 := ext_cell hB.c0
        have A1 := ext_cell hB.c1
        have A2 := ext_cell hB.c2
        have A3 := ext_cell hB.c3
        have A4 := ext_cell hB.p0
        have A5 := ext_cell hB.p1
        have A6 := ext_cell hB.p2
        have A7 := ext_cell hB.p3
        have B0 := ext_cell (hT.y 0 (by omega))
        have B1 := ext_cell (hT.y 1 (by omega))
        have B2 := ext_cell (hT.y 2 (by omega))
        have B3 := ext_cell (hT.y 3 (by omega))
        have C0 := ext_cell (hT.z 0 (by omega))
        have C1 := ext_cell (hT.z 1 (by omega))
        have C2 := ext_cell (hT.z 2 (by omega))
        have C3 := ext_cell (hT.z 3 (by omega))
        have KZ := Lib.hid (KW5.out.trans KY.out)
        clear hB hT hk9 t0 t1 t2 t3 p0 p1 p2 p3
        refine region_ext (by kernel_rfl) (by kernel_rfl) ?_
        repeat (first
          | go_big_quiet_skip
          | (go_big_quiet_want; go_big_quiet_op; first | go_big_quiet_on | go_big_quiet_call (first
            | (first | (go_at_call 28; exact calls_ext_same (same_self _ _)) | (go_at_call 40; exact calls_ext (HTo.out _ (KZ.out.trans (ext_kept _ _)))) | (go_at_call 41; exact calls_ext (HLo.out _ (KZ.out.trans (ext_kept _ _)))) | (go_at_call 39; exact calls_ext_grown (px_self _ _ _ _ _))))))
        refine wpQuiet_nil ?_
        rintro _ ⟨xq, rfl⟩
        have KE := Lib.hid (KZ.out.trans (ext_kept _ xq))
        clear A0 A1 A2 A3 A4 A5 A6 A7 B0 B1 B2 B3 C0 C1 C2 C3
        generalize ext _ xq = W9 at *
        go_wp2_with fail
        go_ret
        exact ⟨rfl, KE.out⟩

theorem walk_cubesMatch (S : Int) (lo hi : Nat) (A : Option Addr) (n cap : Nat) (z : Nat → Nat) (i j k : Int) (p0 p1 p2 p3 : Nat) (w : World) (_ : (Lit.int .i64 S).wf = true) (hcap : n ≤ cap) (hcap2 : cap ≤ maxLen) (hr : Rd w A n (fun i => .float .f32 (z i))) (_ : ∀ i, (Lit.float .f32 (z i)).wf = true) (_ : (Lit.int .i64 i).wf = true) (_ : (Lit.int .i64 j).wf = true) (_ : (Lit.int .i64 k).wf = true) :
    Calls Try.prog 5 #[.agg #[.int .i64 S, .float .f32 lo, .float .f32 hi, .slice A n cap], .int .i64 i, .int .i64 j, .int .i64 k, .agg #[.float .f32 p0, .float .f32 p1, .float .f32 p2, .float .f32 p3]] w fun e w' => e = .returned (.bool true) ∧ Kept None' w w' := by
  have hn : n ≤ 9223372036854775807 := by unfold maxLen at hcap2; omega
  by_cases h1 : cuE S lo hi n = 0
  · obtain ⟨S, rfl, s1, s2, hn', hn3, -⟩ := cuE_nat h1
    obtain ⟨b, o, rfl, hc⟩ := hr (by rw [hn3]; exact Nat.mul_pos (by omega) (Nat.mul_pos (by omega) (Nat.mul_pos (by omega) (by omega))))
    have hEn := fun w' (hk : Kept None' w w') => Entry_in S lo hi b o n cap z (fun c => if c = 0 then i else if c = 1 then j else k) w' h1 (fun q hq => hk.some (hc q hq) id) hcap
    have hall : inP S i j k = true ↔ ∀ c, c < 3 → 0 ≤ (if c = 0 then i else if c = 1 then j else k) ∧ (if c = 0 then i else if c = 1 then j else k) < (S : Int) := by
      unfold inP
      simp only [Bool.and_eq_true, inB_iff]
      constructor
      · rintro ⟨a, b, c⟩ q hq
        obtain rfl | rfl | rfl : q = 0 ∨ q = 1 ∨ q = 2 := by omega
        · simp only [if_true]; omega
        · simp only [show ¬ (1 : Nat) = 0 by decide, if_false, if_true]; omega
        · simp only [show ¬ (2 : Nat) = 0 by decide, show ¬ (2 : Nat) = 1 by decide, if_false]; omega
      · intro h
        have a := h 0 (by omega)
        have b := h 1 (by omega)
        have c := h 2 (by omega)
        simp only [if_true] at a
        simp only [show ¬ (1 : Nat) = 0 by decide, if_false, if_true] at b
        simp only [show ¬ (2 : Nat) = 0 by decide, show ¬ (2 : Nat) = 1 by decide, if_false] at c
        omega
    refine cm_ok S lo hi b o n cap z i j k (pxV p0 p1 p2 p3) (fun c => if inP S i j k = true then entF z S i j k c else 0) (teP (entE z S) S lo hi (pxV p0 p1 p2 p3)) (liP (entE z S) S lo hi (pxV p0 p1 p2 p3)) (if inP S i j k = true then 0 else 5) w h1 (fun w' hk => (hEn w' hk).mono fun e w'' h => ?_)
      (fun w' hk => Tetra_ok S lo hi b o n cap z _ w' h1 (fun q hq => hk.some (hc q hq) id) hcap) (fun w' hk => Linear_ok S lo hi b o n cap z _ w' h1 (fun q hq => hk.some (hc q hq) id) hcap) (fun w' hk => ?_) (fun w' hk => ?_) (fun h => ⟨if_pos h, fun w' hk => ?_⟩) (fun h => ⟨if_neg (by rw [h]; decide), fun c => if_neg (by rw [h]; decide)⟩)
    · cases hin : inP S i j k with
      | true => simpa [hin] using h.1 (hall.1 hin)
      | false => simpa [hin] using h.2 (fun q => by rw [hall.2 q] at hin; cases hin)
    · refine (tetraof_any S lo hi b o n cap (entF z S) _ w' (by omega) (by omega) (fun _ _ _ _ => cl_cl _ _) (fun x y u wr hk2 => entryof_E S lo hi b o n cap z w hn' (by omega) (by omega) hc hcap x y u wr (hk.trans hk2))).mono fun e w'' h => ?_
      unfold PxIs at *
      have e1 : ∀ c, teP (entF z S) S lo hi (pxV p0 p1 p2 p3) c = teP (entE z S) S lo hi (pxV p0 p1 p2 p3) c := fun c => teP_cl _ _ _ _ _ _
      rw [e1, e1, e1, e1] at h
      exact h
    · refine (linearof_any S lo hi b o n cap (entF z S) _ w' (by omega) (by omega) (fun x y u wr hk2 => entryof_E S lo hi b o n cap z w hn' (by omega) (by omega) hc hcap x y u wr (hk.trans hk2))).mono fun e w'' h => ?_
      unfold PxIs at *
      have e1 : ∀ c, liP (entF z S) S lo hi (pxV p0 p1 p2 p3) c = liP (entE z S) S lo hi (pxV p0 p1 p2 p3) c := fun c => liP_cl _ _ _ _ _ _
      rw [e1, e1, e1, e1] at h
      exact h
    · have hb := hall.1 h
      have a := hb 0 (by omega)
      have b' := hb 1 (by omega)
      have c := hb 2 (by omega)
      simp only [if_true] at a
      simp only [show ¬ (1 : Nat) = 0 by decide, if_false, if_true] at b'
      simp only [show ¬ (2 : Nat) = 0 by decide, show ¬ (2 : Nat) = 1 by decide, if_false] at c
      simp only [h, if_true]
      exact entryof_E S lo hi b o n cap z w hn' (by omega) (by omega) hc hcap i j k w' hk a.1 a.2 b'.1 b'.2 c.1 c.2
  · exact cm_err S lo hi A n cap i j k (pxV p0 p1 p2 p3) w _ hn rfl h1
end Go.Proofs.Ytkmganophcklgaa
