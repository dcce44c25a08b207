/- The walk of CubesApply. Conditions: none. -/
import Derived.Test.YtkmganophcklgaaLf
import Derived.Test.YtkmganophcklgaaFe
import Derived.Test.YtkmganophcklgaaHo
import Derived.Test.YtkmganophcklgaaMw
import Derived.Test.YtkmganophcklgaaCr
import Derived.Test.YtkmganophcklgaaTj
import Derived.Test.YtkmganophcklgaaLg
import Derived.Laws.IdiomCopy
import Derived.Test.YtkmganophcklgaaC2
import Derived.Test.YtkmganophcklgaaRo
import Derived.Deep.RegionHeld3
namespace Go.Proofs.Ytkmganophcklgaa
open Go.RowKit
open Fl Fr
open BigFrame

/-- A frame that is made, its singles g. -/
def FrIs (x y W H : Int) (n : Nat) (g : Nat → Nat) (w : World) (e : Ending) (w' : World) : Prop :=
  ∃ B, w.heap.size ≤ B ∧ e = .returned (.agg #[.int .i64 x, .int .i64 y, .int .i64 W, .int .i64 H, .slice (some ⟨B, 0, none⟩) n n]) ∧ Kept None' w w' ∧ ∀ j, j < n → w'.cell? ⟨B, j, none⟩ = some (.float .f32 (g j))
theorem fr_ret1M {fn : Func} {t : Tmp} (hr : fn.results = #[.cell t 83]) (W : World) (tmps : Array Value) (B : Nat) (v0 v1 v2 v3 v4 : Value) (h : W.cell? ⟨B, 0, none⟩ = some v0 ∧ W.cell? ⟨B, 1, none⟩ = some v1 ∧ W.cell? ⟨B, 2, none⟩ = some v2 ∧ W.cell? ⟨B, 3, none⟩ = some v3 ∧ W.cell? ⟨B, 4, none⟩ = some v4)
    (ht : tmps[t]?.getD undef = .pointer (some ⟨B, 0, none⟩)) : (results fn tmps).run Try.prog W = .ok (.agg #[v0, v1, v2, v3, v4]) W := by
  obtain ⟨e0, e1, e2, e3, e4⟩ := h
  simp [results, hr, go_sem, ht, e0, e1, e2, e3, e4]
  try rfl

set_option linter.unusedSimpArgs false in
set_option linter.unusedVariables false in
set_option maxHeartbeats 2000000 in
set_option maxRecDepth 100000 in
theorem each_gen (x y W H : Int) (n : Nat) (g : FuncId) (caps : Array Value) (z : Nat → Nat) (w : World) (hE : regE x y W H = 0) (hn : (n : Int) = 4 * W * H) (hn6 : n ≤ 65536) (hg : ∀ args w, (callFunc g args).run Try.prog w = .ok (.enter g args) w)
    (hf : ∀ (i : Nat) wr, i < n → Kept None' w wr → Calls Try.prog g (#[.int .i64 (i : Int)] ++ caps) wr fun e w' => e = .returned (.float .f32 (z i)) ∧ Kept None' wr w') :
    Calls Try.prog 124 #[.agg #[.int .i64 x, .int .i64 y, .int .i64 W, .int .i64 H], .func (.func g) #[] caps] w (FrIs x y W H n (fun j => cl .f32 (z j)) w) := by
  have HF := Lib.hid hf
  obtain ⟨w1', w2', w3', w4', w5'⟩ := regE_ok hE
  have hQ : 4 * W * H = (n : Int) := hn.symm
  have w7 : 4 * W * H = 4 * (W * H) := Int.mul_assoc ..
  have hw1 : IntKind.i64.wrap (4 * W) = 4 * W := IntWalk.i64_in _ (by omega)
  have hw2 : IntKind.i64.wrap (4 * W * H) = (n : Int) := by rw [hQ]; exact IntWalk.i64_in _ (by omega)
  have HN := Lib.hid (And.intro hQ hn)
  clear hf w7 hn hQ
  go_enter Try.func124, Try.ntmps124
  go_upto_region 1 with fail
  refine of_world (fun W0 hW => ?_)
  have k0 : Kept None' w W0 := by rw [hW]; exact ((Kept.refl None' w).alloc _ _).alloc _ _
  have t0 : W0.cell? ⟨w.heap.size, 0, none⟩ = some (.int .i64 x) := by rw [hW]; go_simp
  have t1 : W0.cell? ⟨w.heap.size, 1, none⟩ = some (.int .i64 y) := by rw [hW]; go_simp
  have t2 : W0.cell? ⟨w.heap.size, 2, none⟩ = some (.int .i64 W) := by rw [hW]; go_simp
  have t3 : W0.cell? ⟨w.heap.size, 3, none⟩ = some (.int .i64 H) := by rw [hW]; go_simp
  have r0 : W0.cell? ⟨w.heap.size + 1, 0, none⟩ = some (.int .i64 0) := by rw [hW]; go_simp
  have r1 : W0.cell? ⟨w.heap.size + 1, 1, none⟩ = some (.int .i64 0) := by rw [hW]; go_simp
  have r2 : W0.cell? ⟨w.heap.size + 1, 2, none⟩ = some (.int .i64 0) := by rw [hW]; go_simp
  have r3 : W0.cell? ⟨w.heap.size + 1, 3, none⟩ = some (.int .i64 0) := by rw [hW]; go_simp
  have r4 : W0.cell? ⟨w.heap.size + 1, 4, none⟩ = some (.slice none 0 0) := by rw [hW]; go_simp
  have zz : ∀ a : Addr, w.heap.size ≤ a.block → W0.frozen? a = false := fun a ha => by rw [hW]; exact (frozen?_alloc_cells _ _ _ _).trans ((frozen?_alloc_cells _ _ _ _).trans (frozen_new _ _ ha))
  have hsz : W0.heap.size = w.heap.size + 2 := by rw [hW]; simp
  have hmk := run_make_row' (P := Try.prog) 23 22 (.float .f32 0) 4 Try.underlying23 (by kernel_rfl) rfl .i64 .i64 n (by omega) (by omega)
  have l0 : w.heap.size < W0.heap.size := by omega
  have l1 : w.heap.size < W0.heap.size + 1 := by omega
  have K0 := Lib.hid k0
  have HR := Lib.hid (And.intro r0 (And.intro r1 (And.intro r2 (And.intro r3 (And.intro r4 (And.intro zz hsz))))))
  have HZ0 := Lib.hid zz
  clear hW k0 r0 r1 r2 r3 r4 zz hsz
  go_cut [5] (fun s5 wx => ∃ F B : Nat, s5 = .pointer (some ⟨F, 0, none⟩) ∧ FrS W0 F B n x y W H (fun _ => 0) wx)
  case first =>
    go_region
    · go_wp2_with fail
      go_meet
      exact ⟨_, _, rfl, FrS.mk1 (Kept.refl _ _) (fun _ h => frozen_new _ _ h) n x y W H _ _⟩
    · go_wp2_with fail
      go_meet
      exact ⟨_, _, rfl, FrS.mk2 (Kept.refl _ _) (fun _ h => frozen_new _ _ h) n x y W H _ _⟩
  case rest =>
    obtain ⟨F, B, rfl, hS⟩ := hcut
    have HS0 := Lib.hid hS
    have f4 := hS.c4
    clear hS hmk t0 t1 t2 t3 l0 l1 hw1 hw2
    go_wp2_with fail
    go_loopw [19] (fun s19 wr => ∃ k : Nat, k ≤ n ∧ s19 = .int .i64 (k : Int) ∧ FrS W0 F B n x y W H (fun j => if j < k then cl .f32 (z j) else 0) wr) (fun s19 _ => (n - intOf s19).toNat)
    case atStart => exact ⟨0, by omega, rfl, by simpa using HS0.out⟩
    case round =>
      obtain ⟨k, hk, rfl, hS⟩ := hrel
      have HS := Lib.hid hS
      by_cases hlt : k < n
      · have d1 : decide ((k : Int) < (n : Int)) = true := decide_eq_true (by omega)
        have e0 : 0 ≤ (k : Int) := by omega
        have e1 : (k : Int) < (n : Int) := by omega
        have A0 := ext_cell hS.c4
        have hG := fun xr => HF.out k (ext wr xr) hlt ((K0.out.trans hS.kept).trans (ext_kept _ _))
        have HG := Lib.hid hG
        clear hS hG f4
        go_upto_region 5 with fail
        refine region_with_tail 8 (by kernel_rfl) (by kernel_rfl) ?_
        simp only [List.take_succ_cons, List.take_zero, List.drop_succ_cons, List.drop_zero]
        repeat (first
          | (refine wpWith_det ?_; go_big_quiet_want; go_big_quiet_op; go_big_quiet_on; refine wpQuiet_nil ?_)
          | (refine wpWith_det ?_; go_big_quiet_skip; refine wpQuiet_nil ?_)
          | fail)
        refine wpWith_det ?_
        go_big_quiet_want
        go_big_quiet_op
        go_big_quiet_call ((exact calls_ext (HG.out _)))
        refine wpQuiet_nil ?_
        repeat (first
          | (refine wpWith_det ?_; go_big_quiet_want; go_big_quiet_op; go_big_quiet_on; refine wpQuiet_nil ?_)
          | (refine wpWith_det ?_; go_big_quiet_skip; refine wpQuiet_nil ?_)
          | fail)
        refine wpWith_det ?_
        go_big_quiet_want
        go_big_quiet_op
        go_big_quiet_call ((go_at_call 109; exact calls_ext_same (clean_any _ _)))
        refine wpQuiet_nil ?_
        repeat (first
          | (refine wpWith_det ?_; go_big_quiet_want; go_big_quiet_op; go_big_quiet_on; refine wpQuiet_nil ?_)
          | (refine wpWith_det ?_; go_big_quiet_skip; refine wpQuiet_nil ?_)
          | fail)
        refine wpWith_nil ?_
        rintro _ ⟨xq, rfl⟩
        have hS5 := HS.out.step (ext_kept _ xq)
        have cq := hS5.cell k hlt
        have zq := hS5.fz ⟨B, k, none⟩ hS5.lB
        have HS5 := Lib.hid hS5
        clear hS5 A0
        generalize ext _ xq = W5 at *
        go_wp2_with fail
        go_roundw
        case rel =>
          refine ⟨k + 1, by omega, by go_num, HS5.out.set (Kept.refl _ _) hlt (fun j hj => ?_)⟩
          by_cases e : j = k
          · subst e; rw [if_pos (Nat.lt_succ_self _), if_pos rfl]
          · rw [if_neg e]
            by_cases e2 : j < k
            · rw [if_pos e2, if_pos (by omega)]
            · rw [if_neg e2, if_neg (by omega)]
        case measure => simp [intOf]; omega
      · obtain rfl : k = n := by omega
        have d1 : decide ((k : Int) < (k : Int)) = false := by simp
        have c0 := hS.c0
        have c1 := hS.c1
        have c2 := hS.c2
        have c3 := hS.c3
        have c4 := hS.c4
        obtain ⟨q0, q1, q2, q3, q4, zz, hsz⟩ := HR.out
        have r0 := hS.kept.some q0 id
        have r1 := hS.kept.some q1 id
        have r2 := hS.kept.some q2 id
        have r3 := hS.kept.some q3 id
        have r4 := hS.kept.some q4 id
        have zf : ∀ c, wr.frozen? ⟨w.heap.size + 1, c, none⟩ = false := fun c => (hS.kept.frozen _).trans (zz _ (by simp))
        have z0 := zf 0
        have z1 := zf 1
        have z2 := zf 2
        have z3 := zf 3
        have z4 := zf 4
        clear hS q0 q1 q2 q3 q4 zz hsz zf f4
        go_wp2_with fail
        have cs := cells_set5 (v0 := .int .i64 x) (v1 := .int .i64 y) (v2 := .int .i64 W) (v3 := .int .i64 H) (v4 := .slice (some ⟨B, 0, none⟩) k k) r0 r1 r2 r3 r4
        refine bodyPost_ret (fr_ret1M Try.results124 _ _ (w.heap.size + 1) _ _ _ _ _ cs rfl) rfl ?_
        have lB := HS.out.lB
        have hsz := HR.out.2.2.2.2.2.2
        refine ⟨B, by omega, rfl, kept_set5 (K0.out.trans HS.out.kept) (by omega), fun j hj => ?_⟩
        have hne : w.heap.size + 1 ≠ B := by omega
        have hcj := HS.out.cell j hj
        rw [if_pos hj] at hcj
        exact cell_set_ne (cell_set_ne (cell_set_ne (cell_set_ne (cell_set_ne hcj (Or.inl hne)) (Or.inl hne)) (Or.inl hne)) (Or.inl hne)) (Or.inl hne)
end Go.Proofs.Ytkmganophcklgaa

namespace Go.Proofs.Ytkmganophcklgaa
open Go.RowKit
open Fl Fr
open BigFrame

set_option linter.unusedSimpArgs false in
set_option linter.unusedVariables false in
set_option maxHeartbeats 1000000 in
set_option maxRecDepth 100000 in
theorem clean1_any (F : Nat) (b o n cap : Nat) (v : Nat) (i : Nat) (w : World) (hF : w.cell? ⟨F, 4, none⟩ = some (.slice (some ⟨b, o, none⟩) n cap)) (hi : i < n) (hn : n ≤ cap) (hn6 : n ≤ 65536) (hc : w.cell? ⟨b, o + i, none⟩ = some (.float .f32 v)) :
    Calls Try.prog 125 #[.int .i64 (i : Int), .pointer (some ⟨F, 0, none⟩)] w fun e w' => e = .returned (.float .f32 v) ∧ Kept None' w w' := by
  have e0 : 0 ≤ (i : Int) := by omega
  have e1 : (i : Int) < (n : Int) := by omega
  have hc' : w.cell? ⟨b, o + (i : Int).toNat, none⟩ = some (.float .f32 v) := by simpa using hc
  go_enter Try.func125, Try.ntmps125
  go_wp2_with fail
  go_ret
  exact ⟨rfl, Kept.refl _ _⟩

set_option linter.unusedSimpArgs false in
set_option linter.unusedVariables false in
set_option maxHeartbeats 2000000 in
set_option maxRecDepth 100000 in
theorem clean_err (x y W H : Int) (A : Option Addr) (n cap : Nat) (w : World) (E : Int) (hE : frE x y W H n = E) (h0 : ¬ E = 0) :
    Calls Try.prog 100 #[.agg #[.int .i64 x, .int .i64 y, .int .i64 W, .int .i64 H, .slice A n cap]] w fun e w' => e = .returned (.tuple #[zeroFrame, .int .i64 E]) ∧ Kept None' w w' := by
  have hb : (E != 0) = true := by simp [h0]
  go_enter Try.func100, Try.ntmps100
  go_wp2_with (first
    | (go_at_call 123; refine (check_any _ _ _ _ _ _ _ _).mono ?_; rw [hE]; rintro e w1 ⟨rfl, hk1⟩
       have s0 : w1.cell? ⟨w.heap.size + 1, 0, none⟩ = some (.int .i64 0) := hk1.some (by go_simp) id
       have s1 : w1.cell? ⟨w.heap.size + 1, 1, none⟩ = some (.int .i64 0) := hk1.some (by go_simp) id
       have s2 : w1.cell? ⟨w.heap.size + 1, 2, none⟩ = some (.int .i64 0) := hk1.some (by go_simp) id
       have s3 : w1.cell? ⟨w.heap.size + 1, 3, none⟩ = some (.int .i64 0) := hk1.some (by go_simp) id
       have s4 : w1.cell? ⟨w.heap.size + 1, 4, none⟩ = some (.slice none 0 0) := hk1.some (by go_simp) id
       have r0 : w1.cell? ⟨w.heap.size, 0, none⟩ = some (.int .i64 x) := hk1.some (by go_simp) id
       have r1 : w1.cell? ⟨w.heap.size, 1, none⟩ = some (.int .i64 y) := hk1.some (by go_simp) id
       have r2 : w1.cell? ⟨w.heap.size, 2, none⟩ = some (.int .i64 W) := hk1.some (by go_simp) id
       have r3 : w1.cell? ⟨w.heap.size, 3, none⟩ = some (.int .i64 H) := hk1.some (by go_simp) id
       have r4 : w1.cell? ⟨w.heap.size, 4, none⟩ = some (.slice A n cap) := hk1.some (by go_simp) id
       have z1 : ∀ a : Addr, w.heap.size ≤ a.block → w1.frozen? a = false := fun a ha => (hk1.frozen a).trans ((frozen?_alloc_cells _ _ _ _).trans ((frozen?_alloc_cells _ _ _ _).trans (frozen_new _ _ ha)))
       have f0 := z1 ⟨w.heap.size + 1, 0, none⟩ (by simp)
       have f1 := z1 ⟨w.heap.size + 1, 1, none⟩ (by simp)
       have f2 := z1 ⟨w.heap.size + 1, 2, none⟩ (by simp)
       have f3 := z1 ⟨w.heap.size + 1, 3, none⟩ (by simp)
       have f4 := z1 ⟨w.heap.size + 1, 4, none⟩ (by simp)
       have L1 := cell_lt s0
       have K1 := Lib.hid ((((Kept.refl None' w).alloc _ _).alloc _ _).trans hk1)
       clear hk1 z1)
    | fail)
  all_goals
    refine bodyPost_ret (fr_ret2 Try.results100 _ _ (w.heap.size + 1) _ _ _ _ _ (cells_set5 s0 s1 s2 s3 s4) rfl) rfl ?_
    exact ⟨rfl, kept_set5 K1.out (by omega)⟩

/-- What Clean answers. -/
def ClIs (x y W H : Int) (n : Nat) (g : Nat → Nat) (w : World) (e : Ending) (w' : World) : Prop :=
  ∃ B, w.heap.size ≤ B ∧ e = .returned (.tuple #[.agg #[.int .i64 x, .int .i64 y, .int .i64 W, .int .i64 H, .slice (some ⟨B, 0, none⟩) n n], .int .i64 0]) ∧ Kept None' w w' ∧ ∀ j, j < n → w'.cell? ⟨B, j, none⟩ = some (.float .f32 (g j))

set_option linter.unusedSimpArgs false in
set_option linter.unusedVariables false in
set_option maxHeartbeats 2000000 in
set_option maxRecDepth 100000 in
theorem clean_fr (x y W H : Int) (b o n cap : Nat) (z : Nat → Nat) (w : World) (hE : frE x y W H n = 0) (hr : regE x y W H = 0) (hn : (n : Int) = 4 * W * H) (hnc : n ≤ cap) (hn6 : n ≤ 65536) (hc : ∀ i, i < n → w.cell? ⟨b, o + i, none⟩ = some (.float .f32 (z i))) :
    Calls Try.prog 100 #[.agg #[.int .i64 x, .int .i64 y, .int .i64 W, .int .i64 H, .slice (some ⟨b, o, none⟩) n cap]] w (ClIs x y W H n (fun j => cl .f32 (z j)) w) := by
  have hq : ∀ args w, (callFunc 125 args).run Try.prog w = .ok (.enter 125 args) w := fun _ _ => rfl
  have HC := Lib.hid hc
  have HN := Lib.hid hn
  clear hc hn
  go_enter Try.func100, Try.ntmps100
  go_wp2_with (first
    | (go_at_call 123; refine (check_any _ _ _ _ _ _ _ _).mono ?_; rw [hE]; rintro e w1 ⟨rfl, hk1⟩
       have s0 : w1.cell? ⟨w.heap.size + 1, 0, none⟩ = some (.int .i64 0) := hk1.some (by go_simp) id
       have s1 : w1.cell? ⟨w.heap.size + 1, 1, none⟩ = some (.int .i64 0) := hk1.some (by go_simp) id
       have s2 : w1.cell? ⟨w.heap.size + 1, 2, none⟩ = some (.int .i64 0) := hk1.some (by go_simp) id
       have s3 : w1.cell? ⟨w.heap.size + 1, 3, none⟩ = some (.int .i64 0) := hk1.some (by go_simp) id
       have s4 : w1.cell? ⟨w.heap.size + 1, 4, none⟩ = some (.slice none 0 0) := hk1.some (by go_simp) id
       have r0 : w1.cell? ⟨w.heap.size, 0, none⟩ = some (.int .i64 x) := hk1.some (by go_simp) id
       have r1 : w1.cell? ⟨w.heap.size, 1, none⟩ = some (.int .i64 y) := hk1.some (by go_simp) id
       have r2 : w1.cell? ⟨w.heap.size, 2, none⟩ = some (.int .i64 W) := hk1.some (by go_simp) id
       have r3 : w1.cell? ⟨w.heap.size, 3, none⟩ = some (.int .i64 H) := hk1.some (by go_simp) id
       have r4 : w1.cell? ⟨w.heap.size, 4, none⟩ = some (.slice (some ⟨b, o, none⟩) n cap) := hk1.some (by go_simp) id
       have z1 : ∀ a : Addr, w.heap.size ≤ a.block → w1.frozen? a = false := fun a ha => (hk1.frozen a).trans ((frozen?_alloc_cells _ _ _ _).trans ((frozen?_alloc_cells _ _ _ _).trans (frozen_new _ _ ha)))
       have f0 := z1 ⟨w.heap.size + 1, 0, none⟩ (by simp)
       have f1 := z1 ⟨w.heap.size + 1, 1, none⟩ (by simp)
       have f2 := z1 ⟨w.heap.size + 1, 2, none⟩ (by simp)
       have f3 := z1 ⟨w.heap.size + 1, 3, none⟩ (by simp)
       have f4 := z1 ⟨w.heap.size + 1, 4, none⟩ (by simp)
       have L1 := cell_lt s0
       have K1 := Lib.hid ((((Kept.refl None' w).alloc _ _).alloc _ _).trans hk1)
       clear hk1 z1)
    | (go_at_call 124
       refine (each_gen x y W H n 125 #[.pointer (some ⟨w.heap.size, 0, none⟩)] z _ hr HN.out hn6 hq (fun i wr hi hk => clean1_any _ b o n cap (z i) i wr (hk.some r4 id) hi hnc hn6 (hk.some (K1.out.some (HC.out i hi) id) id))).mono ?_
       rintro e w2 ⟨B, hB, rfl, hk2, hcell⟩
       have s0 := hk2.some s0 id
       have s1 := hk2.some s1 id
       have s2 := hk2.some s2 id
       have s3 := hk2.some s3 id
       have s4 := hk2.some s4 id
       have f0 := (hk2.frozen _).trans f0
       have f1 := (hk2.frozen _).trans f1
       have f2 := (hk2.frozen _).trans f2
       have f3 := (hk2.frozen _).trans f3
       have f4 := (hk2.frozen _).trans f4
       have K2 := Lib.hid (K1.out.trans hk2)
       have HB := Lib.hid (And.intro hB hcell)
       clear hk2 hB hcell)
    | fail)
  all_goals
    refine bodyPost_ret (fr_ret2 Try.results100 _ _ (w.heap.size + 1) _ _ _ _ _ (cells_set5 s0 s1 s2 s3 s4) rfl) rfl ?_
    refine ⟨B, by have := HB.out.1; omega, rfl, kept_set5 K2.out (by omega), fun j hj => ?_⟩
    have hne : w.heap.size + 1 ≠ B := by have := HB.out.1; omega
    exact cell_set_ne (cell_set_ne (cell_set_ne (cell_set_ne (cell_set_ne (HB.out.2 j hj) (Or.inl hne)) (Or.inl hne)) (Or.inl hne)) (Or.inl hne)) (Or.inl hne)
end Go.Proofs.Ytkmganophcklgaa

namespace Go.Proofs.Ytkmganophcklgaa
open Go.RowKit
open Fl Fr
open BigFrame

/-- The boxes of Apply: the cube's at C, the frame's at F, the result's at R. -/
def AppB (C F R : Nat) (S : Int) (lo hi : Nat) (Ac : Option Addr) (nc capc : Nat) (x y W H : Int) (A : Option Addr) (n cap : Nat) (w' : World) : Prop :=
  w'.cell? ⟨C, 0, none⟩ = some (.int .i64 S) ∧ w'.cell? ⟨C, 1, none⟩ = some (.float .f32 lo) ∧ w'.cell? ⟨C, 2, none⟩ = some (.float .f32 hi) ∧ w'.cell? ⟨C, 3, none⟩ = some (.slice Ac nc capc) ∧
  w'.cell? ⟨F, 0, none⟩ = some (.int .i64 x) ∧ w'.cell? ⟨F, 1, none⟩ = some (.int .i64 y) ∧ w'.cell? ⟨F, 2, none⟩ = some (.int .i64 W) ∧ w'.cell? ⟨F, 3, none⟩ = some (.int .i64 H) ∧ w'.cell? ⟨F, 4, none⟩ = some (.slice A n cap) ∧
  w'.cell? ⟨R, 0, none⟩ = some (.int .i64 0) ∧ w'.cell? ⟨R, 1, none⟩ = some (.int .i64 0) ∧ w'.cell? ⟨R, 2, none⟩ = some (.int .i64 0) ∧ w'.cell? ⟨R, 3, none⟩ = some (.int .i64 0) ∧ w'.cell? ⟨R, 4, none⟩ = some (.slice none 0 0) ∧
  ∀ c, w'.frozen? ⟨R, c, none⟩ = false
theorem AppB.step {C F R : Nat} {S : Int} {lo hi : Nat} {Ac : Option Addr} {nc capc : Nat} {x y W H : Int} {A : Option Addr} {n cap : Nat} {w' w'' : World} (h : AppB C F R S lo hi Ac nc capc x y W H A n cap w') (k : Kept None' w' w'') : AppB C F R S lo hi Ac nc capc x y W H A n cap w'' := by
  obtain ⟨a0, a1, a2, a3, b0, b1, b2, b3, b4, r0, r1, r2, r3, r4, z⟩ := h
  exact ⟨k.some a0 id, k.some a1 id, k.some a2 id, k.some a3 id, k.some b0 id, k.some b1 id, k.some b2 id, k.some b3 id, k.some b4 id, k.some r0 id, k.some r1 id, k.some r2 id, k.some r3 id, k.some r4 id, fun c => (k.frozen _).trans (z c)⟩
theorem AppB.new (S : Int) (lo hi : Nat) (Ac : Option Addr) (nc capc : Nat) (x y W H : Int) (A : Option Addr) (n cap : Nat) (w : World) (t1 t2 t3 : TypeId) :
    AppB w.heap.size (w.heap.size + 1) (w.heap.size + 1 + 1) S lo hi Ac nc capc x y W H A n cap (((w.alloc (.cells #[.int .i64 S, .float .f32 lo, .float .f32 hi, .slice Ac nc capc] t1)).alloc (.cells #[.int .i64 x, .int .i64 y, .int .i64 W, .int .i64 H, .slice A n cap] t2)).alloc (.cells #[.int .i64 0, .int .i64 0, .int .i64 0, .int .i64 0, .slice none 0 0] t3)) :=
  ⟨by go_simp, by go_simp, by go_simp, by go_simp, by go_simp, by go_simp, by go_simp, by go_simp, by go_simp, by go_simp, by go_simp, by go_simp, by go_simp, by go_simp, fun c => (frozen?_alloc_cells _ _ _ _).trans ((frozen?_alloc_cells _ _ _ _).trans ((frozen?_alloc_cells _ _ _ _).trans (frozen_new _ _ (by simp; omega))))⟩

set_option linter.unusedSimpArgs false in
set_option linter.unusedVariables false in
set_option maxHeartbeats 2000000 in
set_option maxRecDepth 100000 in
theorem apply_e1 (S : Int) (lo hi : Nat) (Ac : Option Addr) (nc capc : Nat) (how : Int) (x y W H : Int) (A : Option Addr) (n cap : Nat) (w : World) (hnc : nc ≤ 9223372036854775807) (E : Int) (hE : cuE S lo hi nc = E) (h0 : ¬ E = 0) :
    Calls Try.prog 49 #[.agg #[.int .i64 S, .float .f32 lo, .float .f32 hi, .slice Ac nc capc], .int .i64 how, .agg #[.int .i64 x, .int .i64 y, .int .i64 W, .int .i64 H, .slice A n cap]] w (ErrPost E w) := by
  have hb : (E != 0) = true := by simp [h0]
  have HE := Lib.hid hE
  clear hE
  go_enter Try.func49, Try.ntmps49
  go_upto_region 1 with fail
  refine of_world (fun W0 hW => ?_)
  have k0 : Kept None' w W0 := by rw [hW]; exact (((Kept.refl None' w).alloc _ _).alloc _ _).alloc _ _
  have hB : AppB w.heap.size (w.heap.size + 1) (w.heap.size + 1 + 1) S lo hi Ac nc capc x y W H A n cap W0 := by rw [hW]; exact AppB.new ..
  have HB := Lib.hid hB
  obtain ⟨a0, a1, a2, a3, -, -, -, -, -, -, -, -, -, -, -⟩ := hB
  have K0 := Lib.hid k0
  clear hW k0
  go_wp2_with (go_at_call 37; refine (checkcube_any _ _ _ _ _ _ _ hnc).mono ?_; rw [HE.out]; rintro e w2 ⟨rfl, hk⟩; have K2 := Lib.hid (K0.out.trans hk); obtain ⟨-, -, -, -, -, -, -, -, -, r0, r1, r2, r3, r4, zz⟩ := HB.out.step hk; have z0 := zz 0; have z1 := zz 1; have z2 := zz 2; have z3 := zz 3; have z4 := zz 4; clear hk zz)
  refine bodyPost_ret (fr_ret2 Try.results49 _ _ (w.heap.size + 1 + 1) _ _ _ _ _ (cells_set5 r0 r1 r2 r3 r4) rfl) rfl ?_
  exact ⟨rfl, kept_set5 K2.out (by omega)⟩

set_option linter.unusedSimpArgs false in
set_option linter.unusedVariables false in
set_option maxHeartbeats 2000000 in
set_option maxRecDepth 100000 in
theorem apply_e2 (S : Int) (lo hi : Nat) (Ac : Option Addr) (nc capc : Nat) (how : Int) (x y W H : Int) (A : Option Addr) (n cap : Nat) (w : World) (hnc : nc ≤ 9223372036854775807) (hE : cuE S lo hi nc = 0) (h1 : ¬ how = 1) (h2 : ¬ how = 2) :
    Calls Try.prog 49 #[.agg #[.int .i64 S, .float .f32 lo, .float .f32 hi, .slice Ac nc capc], .int .i64 how, .agg #[.int .i64 x, .int .i64 y, .int .i64 W, .int .i64 H, .slice A n cap]] w (ErrPost 1 w) := by
  have d1 : (how == 1) = false := by simp [h1]
  have d2 : (how == 2) = false := by simp [h2]
  have HE := Lib.hid hE
  clear hE h1 h2
  go_enter Try.func49, Try.ntmps49
  go_upto_region 1 with fail
  refine of_world (fun W0 hW => ?_)
  have k0 : Kept None' w W0 := by rw [hW]; exact (((Kept.refl None' w).alloc _ _).alloc _ _).alloc _ _
  have hB : AppB w.heap.size (w.heap.size + 1) (w.heap.size + 1 + 1) S lo hi Ac nc capc x y W H A n cap W0 := by rw [hW]; exact AppB.new ..
  have HB := Lib.hid hB
  obtain ⟨a0, a1, a2, a3, -, -, -, -, -, -, -, -, -, -, -⟩ := hB
  have K0 := Lib.hid k0
  clear hW k0
  go_wp2_with (go_at_call 37; refine (checkcube_any _ _ _ _ _ _ _ hnc).mono ?_; rw [HE.out]; rintro e w2 ⟨rfl, hk⟩; have K2 := Lib.hid (K0.out.trans hk); obtain ⟨-, -, -, -, -, -, -, -, -, r0, r1, r2, r3, r4, zz⟩ := HB.out.step hk; have z0 := zz 0; have z1 := zz 1; have z2 := zz 2; have z3 := zz 3; have z4 := zz 4; clear hk zz)
  refine bodyPost_ret (fr_ret2 Try.results49 _ _ (w.heap.size + 1 + 1) _ _ _ _ _ (cells_set5 r0 r1 r2 r3 r4) rfl) rfl ?_
  exact ⟨rfl, kept_set5 K2.out (by omega)⟩

set_option linter.unusedSimpArgs false in
set_option linter.unusedVariables false in
set_option maxHeartbeats 4000000 in
set_option maxRecDepth 100000 in
theorem apply_e3 (S : Int) (lo hi : Nat) (Ac : Option Addr) (nc capc : Nat) (how : Int) (x y W H : Int) (A : Option Addr) (n cap : Nat) (w : World) (hnc : nc ≤ 9223372036854775807) (hE : cuE S lo hi nc = 0) (hh : how = 1 ∨ how = 2) (E : Int) (hF : frE x y W H n = E) (h0 : ¬ E = 0) :
    Calls Try.prog 49 #[.agg #[.int .i64 S, .float .f32 lo, .float .f32 hi, .slice Ac nc capc], .int .i64 how, .agg #[.int .i64 x, .int .i64 y, .int .i64 W, .int .i64 H, .slice A n cap]] w (ErrPost E w) := by
  have hb : (E != 0) = true := by simp [h0]
  have HE := Lib.hid hE
  clear hE
  rcases hh with rfl | rfl
  all_goals
    go_enter Try.func49, Try.ntmps49
    go_upto_region 1 with fail
    refine of_world (fun W0 hW => ?_)
    have k0 : Kept None' w W0 := by rw [hW]; exact (((Kept.refl None' w).alloc _ _).alloc _ _).alloc _ _
    have hB : AppB w.heap.size (w.heap.size + 1) (w.heap.size + 1 + 1) S lo hi Ac nc capc x y W H A n cap W0 := by rw [hW]; exact AppB.new ..
    have HB := Lib.hid hB
    obtain ⟨a0, a1, a2, a3, -, -, -, -, -, -, -, -, -, -, -⟩ := hB
    have hsz : W0.heap.size = w.heap.size + 3 := by rw [hW]; simp
    have HZ := Lib.hid hsz
    have K0 := Lib.hid k0
    clear hW k0 hsz
    go_wp2_with (first
      | (go_at_call 37; refine (checkcube_any _ _ _ _ _ _ _ hnc).mono ?_; rw [HE.out]; rintro e w2 ⟨rfl, hk⟩
         have K2 := Lib.hid hk; obtain ⟨-, -, -, -, b0, b1, b2, b3, b4, -, -, -, -, -, -⟩ := HB.out.step hk; clear hk)
      | fail)
    go_at_call 100
    refine (clean_err _ _ _ _ _ _ _ _ E hF h0).mono ?_
    rintro e w3 ⟨rfl, hk3⟩
    unfold zeroFrame
    have K3 := Lib.hid hk3
    have L3 : w.heap.size + 1 + 1 < w3.heap.size := by
      have q1 := K2.out.size
      have q2 := hk3.size
      have q3 := HZ.out
      omega
    obtain ⟨-, -, -, -, -, -, -, -, -, r0, r1, r2, r3, r4, zz⟩ := (HB.out.step K2.out).step hk3
    have z0 := zz 0
    have z1 := zz 1
    have z2 := zz 2
    have z3 := zz 3
    have z4 := zz 4
    clear hk3 zz
    go_wp2_with fail
    have cs := cells_set5 (v0 := .int .i64 0) (v1 := .int .i64 0) (v2 := .int .i64 0) (v3 := .int .i64 0) (v4 := .slice none 0 0) r0 r1 r2 r3 r4
    have ka := fun (X : World) c t => (Kept.refl None' X).alloc c t
    refine bodyPost_ret (fr_ret2 Try.results49 _ _ (w.heap.size + 1 + 1) _ _ _ _ _ ⟨(ka _ _ _).some cs.1 id, (ka _ _ _).some cs.2.1 id, (ka _ _ _).some cs.2.2.1 id, (ka _ _ _).some cs.2.2.2.1 id, (ka _ _ _).some cs.2.2.2.2 id⟩ rfl) rfl ?_
    exact ⟨rfl, (kept_set5 ((K0.out.trans K2.out).trans K3.out) (by omega)).trans (ka _ _ _)⟩
end Go.Proofs.Ytkmganophcklgaa

namespace Go.Proofs.Ytkmganophcklgaa
open Go.RowKit
open Fl Fr
open BigFrame

/-- The builtin copy as a step, cells known one by one. -/
theorem wpList_copy_cells {P : Program} {w : World} {ops : Array Oper} {rest : List Oper} {o : Oper} {a : Act} {Q : Exit → Act → World → Prop} (hgd : o.guard = none) (d s : Operand) (dT sT : TypeId)
    (ho : o.op = .call { callee := .builtin .copy, args := #[d, s], argTypes := #[dT, sT] }) (elem : TypeId) (hu : P.underlying dT = some (.slice elem)) (hsz : (P.info? elem).map (·.size) = some 1)
    (g off dLen dCap : Nat) (ad : Addr) (sLen sCap : Nat) (hd : a.eval d = .slice (some ⟨g, off, none⟩) dLen dCap) (hs : a.eval s = .slice (some ad) sLen sCap)
    (cs : List Value) (hn : cs.length = Nat.min sLen dLen)
    (hsrc : ∀ j v, cs[j]? = some v → w.cell? (ad.add j) = some v) (hc : ∀ j, j < cs.length → (w.cell? ⟨g, off + j, none⟩).isSome = true) (hf : ∀ j, j < cs.length → w.frozen? ⟨g, off + j, none⟩ = false) (h1 : ∀ v ∈ cs, v.oneCell' = true)
    (h : wpList P ops Q rest (a.put o.dst (goInt cs.length)) (w.setCells g off cs)) : wpList P ops Q (o :: rest) a w := by
  refine wpList_plain hgd fun K hK => ?_
  have hrun := run_copy_cells (P := P) w dT sT o.type elem g off dLen dCap ad sLen sCap cs hu hsz hn hsrc hc hf h1
  unfold Oper.wp
  simp [execOp, ho, resolve, invoke, builtin, hd, hs, hrun, Result.andThen]
  exact hK _ _ h

theorem ap_src {w : World} {X : Nat} {v0 v1 v2 v3 : Value} (h0 : w.cell? ⟨X, 0, none⟩ = some v0) (h1 : w.cell? ⟨X, 1, none⟩ = some v1) (h2 : w.cell? ⟨X, 2, none⟩ = some v2) (h3 : w.cell? ⟨X, 3, none⟩ = some v3) : ∀ j v, [v0, v1, v2, v3][j]? = some v → w.cell? (Addr.add ⟨X, 0, none⟩ j) = some v := by
  intro j v hv
  match j, hv with
  | 0, hv => simpa [Addr.add, h0] using hv
  | 1, hv => simpa [Addr.add, h1] using hv
  | 2, hv => simpa [Addr.add, h2] using hv
  | 3, hv => simpa [Addr.add, h3] using hv
theorem AppB.set {C F R : Nat} {S : Int} {lo hi : Nat} {Ac : Option Addr} {nc capc : Nat} {x y W H : Int} {A : Option Addr} {n cap : Nat} {w' : World} (h : AppB C F R S lo hi Ac nc capc x y W H A n cap w') {B : Nat} (hC : B ≠ C) (hF : B ≠ F) (hR : B ≠ R) (j : Nat) (v : Value) : AppB C F R S lo hi Ac nc capc x y W H A n cap (w'.setCell ⟨B, j, none⟩ v) := by
  obtain ⟨a0, a1, a2, a3, b0, b1, b2, b3, b4, r0, r1, r2, r3, r4, zz⟩ := h
  exact ⟨cell_set_ne a0 (Or.inl hC), cell_set_ne a1 (Or.inl hC), cell_set_ne a2 (Or.inl hC), cell_set_ne a3 (Or.inl hC), cell_set_ne b0 (Or.inl hF), cell_set_ne b1 (Or.inl hF), cell_set_ne b2 (Or.inl hF), cell_set_ne b3 (Or.inl hF), cell_set_ne b4 (Or.inl hF), cell_set_ne r0 (Or.inl hR), cell_set_ne r1 (Or.inl hR), cell_set_ne r2 (Or.inl hR), cell_set_ne r3 (Or.inl hR), cell_set_ne r4 (Or.inl hR), fun c => (World.frozen?_setCell ..).trans (zz c)⟩
theorem ap_cut (b n p : Nat) (h : p + 4 ≤ n) (w : World) : (Instr.slice 23 (.slice (some ⟨b, 0, none⟩) n n) (some (.int .i64 (p : Int))) (some (.int .i64 ((p : Int) + 4))) none).run Try.prog w = .ok (.slice (some ⟨b, p, none⟩) 4 (n - p)) w := by
  have i1 : (0 : Int) ≤ (p : Int) := by omega
  have i2 : (p : Int) ≤ (p : Int) + 4 := by omega
  have i3 : (p : Int) + 4 ≤ (n : Int) := by omega
  have i4 : ((p : Int) + 4).toNat = p + 4 := by omega
  have i5 : ¬ n = p := by omega
  have e : Addr.add ⟨b, 0, none⟩ p = ⟨b, p, none⟩ := by
    unfold Addr.add
    by_cases h : p = 0
    · subst h; simp
    · simp [h]
  have h2 := run_slice_lh (P := Try.prog) (w := w) (t := 23) (a := some ⟨b, 0, none⟩) (len := n) (cap := n) (ht := by kernel_rfl) .i64 .i64 (p : Int) ((p : Int) + 4) i1 i2 i3
  have h3 : (sizeOf (Try.prog.elem 23)).run Try.prog w = .ok 1 w := by kernel_rfl
  rw [h2, h3]
  simp [Result.andThen, sliced, i4, i5, e]
theorem ap_cutAt (b n p : Nat) (h : p + 4 ≤ n) (w : World) : (Instr.sliceAt 23 (.slice (some ⟨b, 0, none⟩) n n) (some (.int .i64 (p : Int))) (some (.int .i64 ((p : Int) + 4))) none).run Try.prog w = .ok (.slice (some ⟨b, p, none⟩) 4 (n - p)) w := by
  rw [run_sliceAt_slice (P := Try.prog) (w := w) (t := 23) (h := by kernel_rfl)]
  exact ap_cut b n p h w
theorem ap_cut1 (b n p : Nat) (h : p < n) (w : World) : (Instr.slice 23 (.slice (some ⟨b, 0, none⟩) n n) (some (.int .i64 (p : Int))) none none).run Try.prog w = .ok (.slice (some ⟨b, p, none⟩) (n - p) (n - p)) w := by
  have i1 : (0 : Int) ≤ (p : Int) := by omega
  have i2 : (p : Int) ≤ (n : Int) := by omega
  have i5 : ¬ n = p := by omega
  have e : Addr.add ⟨b, 0, none⟩ p = ⟨b, p, none⟩ := by
    unfold Addr.add
    by_cases h : p = 0
    · subst h; simp
    · simp [h]
  have h2 := run_slice_l (P := Try.prog) (w := w) (t := 23) (a := some ⟨b, 0, none⟩) (len := n) (cap := n) (ht := by kernel_rfl) .i64 (p : Int) i1 i2
  have h3 : (sizeOf (Try.prog.elem 23)).run Try.prog w = .ok 1 w := by kernel_rfl
  rw [h2, h3]
  simp [Result.andThen, sliced, i5, e]
theorem ap_cut1At (b n p : Nat) (h : p < n) (w : World) : (Instr.sliceAt 23 (.slice (some ⟨b, 0, none⟩) n n) (some (.int .i64 (p : Int))) none none).run Try.prog w = .ok (.slice (some ⟨b, p, none⟩) (n - p) (n - p)) w := by
  rw [run_sliceAt_slice (P := Try.prog) (w := w) (t := 23) (h := by kernel_rfl)]
  exact ap_cut1 b n p h w
theorem ap_ptr (a : Addr) (c : Nat) (w : World) : (Instr.arrayAt 56 (.slice (some a) 4 c)).run Try.prog w = .ok (.pointer (some a)) w := by
  kernel_rfl

set_option linter.unusedSimpArgs false in
set_option linter.unusedVariables false in
set_option maxHeartbeats 4000000 in
set_option maxRecDepth 100000 in
theorem apply_tetra (S : Int) (lo hi bc oc nc capc : Nat) (g : Nat → Nat) (x y W H : Int) (b o n cap : Nat) (z : Nat → Nat) (w : World) (hnc : nc ≤ 14739) (hE : cuE S lo hi nc = 0) (s1 : 2 ≤ S) (s2 : S ≤ 17) (hF : frE x y W H n = 0) (hr : regE x y W H = 0) (hn : (n : Int) = 4 * W * H) (hnc2 : n ≤ cap) (hn6 : n ≤ 65536) (hc : ∀ i, i < n → w.cell? ⟨b, o + i, none⟩ = some (.float .f32 (z i)))
    (hT : ∀ (p : Nat → Nat) (wr : World), Kept None' w wr → Calls Try.prog 86 #[.agg #[.int .i64 S, .float .f32 lo, .float .f32 hi, .slice (some ⟨bc, oc, none⟩) nc capc], .agg #[.float .f32 (p 0), .float .f32 (p 1), .float .f32 (p 2), .float .f32 (p 3)]] wr (PxIs (teP (entE g S) S lo hi p) wr)) :
    Calls Try.prog 49 #[.agg #[.int .i64 S, .float .f32 lo, .float .f32 hi, .slice (some ⟨bc, oc, none⟩) nc capc], .int .i64 1, .agg #[.int .i64 x, .int .i64 y, .int .i64 W, .int .i64 H, .slice (some ⟨b, o, none⟩) n cap]] w
      (ClIs x y W H n (fun j => teP (entE g S) S lo hi (fun c => cl .f32 (z (j / 4 * 4 + c))) (j % 4)) w) := by
  have HE := Lib.hid hE
  have HT := Lib.hid hT
  have HC := Lib.hid hc
  have HN := Lib.hid hn
  have hq : ∀ args w, (callFunc 86 args).run Try.prog w = .ok (.enter 86 args) w := fun _ _ => rfl
  have hn4 : n % 4 = 0 := by have h7 : 4 * W * H = 4 * (W * H) := Int.mul_assoc ..; rw [h7] at hn; omega
  have HN4 := Lib.hid hn4
  clear hE hT hc hn hn4
  go_enter Try.func49, Try.ntmps49
  go_upto_region 1 with fail
  refine of_world (fun W0 hW => ?_)
  have k0 : Kept None' w W0 := by rw [hW]; exact (((Kept.refl None' w).alloc _ _).alloc _ _).alloc _ _
  have hB : AppB w.heap.size (w.heap.size + 1) (w.heap.size + 1 + 1) S lo hi (some ⟨bc, oc, none⟩) nc capc x y W H (some ⟨b, o, none⟩) n cap W0 := by rw [hW]; exact AppB.new ..
  have hz : ∀ a : Addr, w.heap.size ≤ a.block → W0.frozen? a = false := fun a ha => by rw [hW]; exact (frozen?_alloc_cells _ _ _ _).trans ((frozen?_alloc_cells _ _ _ _).trans ((frozen?_alloc_cells _ _ _ _).trans (frozen_new _ _ ha)))
  have HB := Lib.hid hB
  obtain ⟨a0, a1, a2, a3, -, -, -, -, -, -, -, -, -, -, -⟩ := hB
  have hsz : W0.heap.size = w.heap.size + 3 := by rw [hW]; simp
  have HZ := Lib.hid (And.intro hsz hz)
  have K0 := Lib.hid k0
  clear hW k0 hsz hz
  go_wp2_with (first
    | (go_at_call 37; refine (checkcube_any _ _ _ _ _ _ _ (by omega)).mono ?_; rw [HE.out]; rintro e w2 ⟨rfl, hk⟩
       have K2 := Lib.hid hk; obtain ⟨-, -, -, -, b0, b1, b2, b3, b4, -, -, -, -, -, -⟩ := HB.out.step hk; clear hk)
    | fail)
  go_at_call 100
  refine (clean_fr x y W H b o n cap z w2 hF hr HN.out hnc2 hn6 (fun i hi => K2.out.some (K0.out.some (HC.out i hi) id) id)).mono ?_
  rintro e w3 ⟨B, hBl, rfl, hk3, hcell⟩
  have HS3 := Lib.hid hcell
  have K3 := Lib.hid hk3
  have HBl := Lib.hid hBl
  clear hk3 hcell hBl a0 a1 a2 a3 b0 b1 b2 b3 b4
  go_upto_region 13 with fail
  refine of_world (fun W4 hW4 => ?_)
  have hk34 : Kept None' w3 W4 := by rw [hW4]; exact (Kept.refl _ _).alloc _ _
  have hk4 : Kept None' w W4 := (K0.out.trans (K2.out.trans K3.out)).trans hk34
  have hB4 := ((HB.out.step K2.out).step K3.out).step hk34
  have hn0 : 0 < n := by
    obtain ⟨w1', w2', w3', w4', w5'⟩ := regE_ok hr
    have h7 : 4 * W * H = 4 * (W * H) := Int.mul_assoc ..
    have h8 := HN.out
    have h9 : 0 < W * H := Int.mul_pos (by omega) (by omega)
    rw [h7] at h8
    omega
  have hS4 : FrS w w3.heap.size B n x y W H (fun j => cl .f32 (z j)) W4 := by
    have q1 := (K0.out.trans (K2.out.trans K3.out)).size
    have q2 := (K0.out.trans K2.out).size
    have q3 := HBl.out
    have q4 : B < w3.heap.size := cell_lt (HS3.out 0 hn0)
    refine ⟨hk4, q1, Nat.le_trans q2 q3, by omega, ?_, ?_, ?_, ?_, ?_, fun a ha => (hk34.frozen a).trans ((K3.out.frozen a).trans ((K2.out.frozen a).trans (HZ.out.2 a ha))), fun j hj => hk34.some (HS3.out j hj) id⟩
    all_goals rw [hW4]; go_simp
  have hCB : w.heap.size + 1 + 1 < B := by
    have q1 := HZ.out.1
    have q2 := K2.out.size
    have q3 := HBl.out
    omega
  have HCB := Lib.hid hCB
  have HB4 := Lib.hid hB4
  have HS4 := Lib.hid hS4
  generalize w3.heap.size = Q at *
  clear hW4 hk34 hk4 hB4 hS4 hCB
  go_wp2_with fail
  go_loopw [12] (fun s12 wr => ∃ k p : Nat, p = 4 * k ∧ p ≤ n ∧ s12 = .int .i64 (p : Int) ∧ AppB w.heap.size (w.heap.size + 1) (w.heap.size + 1 + 1) S lo hi (some ⟨bc, oc, none⟩) nc capc x y W H (some ⟨b, o, none⟩) n cap wr ∧ FrS w Q B n x y W H (fun j => if j < p then teP (entE g S) S lo hi (fun c => cl .f32 (z (j / 4 * 4 + c))) (j % 4) else cl .f32 (z j)) wr) (fun s12 _ => (n - intOf s12).toNat)
  case atStart => exact ⟨0, 0, rfl, by omega, rfl, HB4.out, by simpa using HS4.out⟩
  case round =>
    obtain ⟨k, p, hp, hpn, rfl, hB, hS⟩ := hrel
    have HP := Lib.hid hp
    have HB := Lib.hid hB
    have HS := Lib.hid hS
    by_cases hlt : p + 4 ≤ n
    · have d1 : decide ((p : Int) + 4 ≤ (n : Int)) = true := by simp; omega
      have wp4 : IntKind.i64.wrap ((p : Int) + 4) = (p : Int) + 4 := IntWalk.i64_in _ (by omega)
      have hsl := ap_cut B n p hlt
      have hsl2 := ap_cutAt B n p hlt
      have hpp := ap_ptr ⟨B, p, none⟩ (n - p)
      have cc : ∀ c, c < 4 → wr.cell? ⟨B, p + c, none⟩ = some (.float .f32 (cl .f32 (z (p + c)))) := fun c hc => by
        have h9 := hS.cell (p + c) (by omega)
        rw [if_neg (by omega)] at h9
        exact h9
      have e0 : wr.cell? ⟨B, p, none⟩ = some (.float .f32 (cl .f32 (z p))) := cc 0 (by omega)
      have e1 := cc 1 (by omega)
      have e2 := cc 2 (by omega)
      have e3 := cc 3 (by omega)
      have c4 := hS.c4
      obtain ⟨a0, a1, a2, a3, -, -, -, -, -, -, -, -, -, -, -⟩ := hB
      have HG := Lib.hid (fun (W' : World) (hk : Kept None' wr W') => HT.out (fun c => cl .f32 (z (p + c))) W' (HS.out.kept.trans hk))
      clear cc hp hS
      go_upto_region 16 with fail
      have A0 := ext_cell2 c4
      have A1 := ext_cell2 a0
      have A2 := ext_cell2 a1
      have A3 := ext_cell2 a2
      have A4 := ext_cell2 a3
      have A5 := ext_cell2 e0
      have A6 := ext_cell2 e1
      have A7 := ext_cell2 e2
      have A8 := ext_cell2 e3
      clear a0 a1 a2 a3 e0 e1 e2 e3 c4
      refine region_box [0, 1, 2, 3, 4, 5, 6, 7, 8, 9, 10] 11 [12] 13 #[.float .f32 0, .float .f32 0, .float .f32 0, .float .f32 0] 56 (by kernel_rfl) (by kernel_rfl) rfl rfl rfl (fun _ _ => rfl) ?_
      simp only [pickO, List.filterMap_cons, List.filterMap_nil, List.getElem?_toArray, List.getElem?_cons_zero, List.getElem?_cons_succ]
      repeat (first
        | (refine wpStep_det (fun y => ?_); go_big_quiet_skip; refine wpQuiet_nil ?_)
        | (refine wpStep_det (fun y => ?_); go_big_quiet_want; go_big_quiet_op; (first | go_big_quiet_on | (go_big_quiet_call (first
            | (exact calls_ext (HG.out _ (ext_kept2 _ _ _)))
            ))); refine wpQuiet_nil ?_)
        | fail)
      refine wpStep_nil ?_
      rintro XB Wb hb
      have f0 := hb.cell 0 _ rfl
      have f1 := hb.cell 1 _ rfl
      have f2 := hb.cell 2 _ rfl
      have f3 := hb.cell 3 _ rfl
      have z0 := hb.fz 0
      have z1 := hb.fz 1
      have z2 := hb.fz 2
      have z3 := hb.fz 3
      have HBx := Lib.hid hb
      clear hb A0 A1 A2 A3 A4 A5 A6 A7 A8 hsl hsl2 hpp
      go_upto_region 17 with fail
      refine of_world (fun W5 hW5 => ?_)
      have cs := cells_set4 (v0 := .float .f32 (teP (entE g S) S lo hi (fun c => cl .f32 (z (p + c))) 0)) (v1 := .float .f32 (teP (entE g S) S lo hi (fun c => cl .f32 (z (p + c))) 1)) (v2 := .float .f32 (teP (entE g S) S lo hi (fun c => cl .f32 (z (p + c))) 2)) (v3 := .float .f32 (teP (entE g S) S lo hi (fun c => cl .f32 (z (p + c))) 3)) f0 f1 f2 f3
      have k5 : Kept None' wr W5 := by rw [hW5]; exact kept_set4' HBx.out.kept HBx.out.le
      have p0 : W5.cell? ⟨XB, 0, none⟩ = some (.float .f32 (teP (entE g S) S lo hi (fun c => cl .f32 (z (p + c))) 0)) := by rw [hW5]; exact cs.1
      have p1 : W5.cell? ⟨XB, 1, none⟩ = some (.float .f32 (teP (entE g S) S lo hi (fun c => cl .f32 (z (p + c))) 1)) := by rw [hW5]; exact cs.2.1
      have p2 : W5.cell? ⟨XB, 2, none⟩ = some (.float .f32 (teP (entE g S) S lo hi (fun c => cl .f32 (z (p + c))) 2)) := by rw [hW5]; exact cs.2.2.1
      have p3 : W5.cell? ⟨XB, 3, none⟩ = some (.float .f32 (teP (entE g S) S lo hi (fun c => cl .f32 (z (p + c))) 3)) := by rw [hW5]; exact cs.2.2.2
      have hS5 := HS.out.step k5
      have HS5 := Lib.hid hS5
      have HB5 := Lib.hid (HB.out.step k5)
      have HPX := Lib.hid (And.intro p0 (And.intro p1 (And.intro p2 p3)))
      have c4 := hS5.c4
      have A0 := ext_cell c4
      have hs1 := ap_cut1 B n p (by omega)
      have hs1' := ap_cut1At B n p (by omega)
      clear cs hW5 f0 f1 f2 f3 z0 z1 z2 z3 p0 p1 p2 p3 hS5 c4
      refine region_ext_tail 5 (by kernel_rfl) (by kernel_rfl) ?_
      simp only [List.take_succ_cons, List.take_zero, List.drop_succ_cons, List.drop_zero]
      repeat (first
        | go_big_quiet_skip
        | (go_big_quiet_want; go_big_quiet_op; first | go_big_quiet_on | go_big_quiet_call (first
          | (fail))))
      refine wpQuiet_nil ?_
      rintro _ ⟨xq, rfl⟩
      have HX := HPX.out
      have k6 := ext_kept W5 xq
      have hS6 := HS5.out.step k6
      refine wpList_copy_cells rfl (.tmp 57) (.tmp 58) 23 23 rfl 22 (by kernel_rfl) (by kernel_rfl) B p (n - p) (n - p) ⟨XB, 0, none⟩ 4 4 rfl rfl [.float .f32 (teP (entE g S) S lo hi (fun c => cl .f32 (z (p + c))) 0), .float .f32 (teP (entE g S) S lo hi (fun c => cl .f32 (z (p + c))) 1), .float .f32 (teP (entE g S) S lo hi (fun c => cl .f32 (z (p + c))) 2), .float .f32 (teP (entE g S) S lo hi (fun c => cl .f32 (z (p + c))) 3)] ?_ ?_ ?_ ?_ ?_ ?_
      · show 4 = min 4 (n - p)
        omega
      · exact ap_src (k6.some HX.1 id) (k6.some HX.2.1 id) (k6.some HX.2.2.1 id) (k6.some HX.2.2.2 id)
      · intro j hj
        have hj4 : j < 4 := hj
        rw [hS6.cell (p + j) (by omega)]
        rfl
      · intro j hj
        exact hS6.fz _ hS6.lB
      · intro v hv
        simp at hv
        rcases hv with rfl | rfl | rfl | rfl <;> rfl
      simp only [World.setCells]
      have hB6 := HB5.out.step k6
      have HS6 := Lib.hid hS6
      have HB6 := Lib.hid hB6
      clear hS6 hB6 HX k6 A0 hs1 hs1'
      generalize ext W5 xq = W6 at *
      go_wp2_with fail
      have q1 := HCB.out
      have n1 : B ≠ w.heap.size := by omega
      have n2 : B ≠ w.heap.size + 1 := by omega
      have n3 : B ≠ w.heap.size + 1 + 1 := by omega
      refine ⟨⟨k + 1, p + 4, by have := HP.out; omega, hlt, by simp, (((HB6.out.set n1 n2 n3 _ _).set n1 n2 n3 _ _).set n1 n2 n3 _ _).set n1 n2 n3 _ _, ?_⟩, by simp [intOf]; omega⟩
      refine FrS.set (FrS.set (FrS.set (FrS.set HS6.out (Kept.refl _ _) (by omega) (fun _ _ => rfl)) (Kept.refl _ _) (by omega) (fun _ _ => rfl)) (Kept.refl _ _) (by omega) (fun _ _ => rfl)) (Kept.refl _ _) (by omega) (fun j hj => ?_)
      have hp4 := HP.out
      by_cases j3 : j = p + 1 + 1 + 1
      · rw [if_pos (by omega), if_pos j3, show j / 4 * 4 = p by omega, show j % 4 = 3 by omega]
      rw [if_neg j3]
      by_cases j2 : j = p + 1 + 1
      · rw [if_pos (by omega), if_pos j2, show j / 4 * 4 = p by omega, show j % 4 = 2 by omega]
      rw [if_neg j2]
      by_cases j1 : j = p + 1
      · rw [if_pos (by omega), if_pos j1, show j / 4 * 4 = p by omega, show j % 4 = 1 by omega]
      rw [if_neg j1]
      by_cases j0 : j = p
      · rw [if_pos (by omega), if_pos j0, show j / 4 * 4 = p by omega, show j % 4 = 0 by omega]
      rw [if_neg j0]
      by_cases jl : j < p
      · rw [if_pos (by omega), if_pos jl]
      · rw [if_neg (by omega), if_neg jl]
    · have hpe : p = n := by have := HN4.out; omega
      have d1 : decide ((p : Int) + 4 ≤ (n : Int)) = false := by simp; omega
      have wp4 : IntKind.i64.wrap ((p : Int) + 4) = (p : Int) + 4 := IntWalk.i64_in _ (by omega)
      have c0 := hS.c0
      have c1 := hS.c1
      have c2 := hS.c2
      have c3 := hS.c3
      have c4 := hS.c4
      obtain ⟨-, -, -, -, -, -, -, -, -, r0, r1, r2, r3, r4, zz⟩ := hB
      have z0 := zz 0
      have z1 := zz 1
      have z2 := zz 2
      have z3 := zz 3
      have z4 := zz 4
      have HPE := Lib.hid hpe
      clear hS zz hp hpe
      go_wp2_with fail
      refine bodyPost_ret (fr_ret2 Try.results49 _ _ (w.heap.size + 1 + 1) _ _ _ _ _ (cells_set5 r0 r1 r2 r3 r4) rfl) rfl ?_
      have q1 := HCB.out
      refine ⟨B, by omega, rfl, kept_set5 HS.out.kept (by omega), fun j hj => ?_⟩
      have hne : w.heap.size + 1 + 1 ≠ B := by omega
      have h9 := HS.out.cell j hj
      rw [if_pos (by have := HPE.out; omega)] at h9
      exact cell_set_ne (cell_set_ne (cell_set_ne (cell_set_ne (cell_set_ne h9 (Or.inl hne)) (Or.inl hne)) (Or.inl hne)) (Or.inl hne)) (Or.inl hne)

set_option linter.unusedSimpArgs false in
set_option linter.unusedVariables false in
set_option maxHeartbeats 4000000 in
set_option maxRecDepth 100000 in
theorem apply_linear (S : Int) (lo hi bc oc nc capc : Nat) (g : Nat → Nat) (x y W H : Int) (b o n cap : Nat) (z : Nat → Nat) (w : World) (hnc : nc ≤ 14739) (hE : cuE S lo hi nc = 0) (s1 : 2 ≤ S) (s2 : S ≤ 17) (hF : frE x y W H n = 0) (hr : regE x y W H = 0) (hn : (n : Int) = 4 * W * H) (hnc2 : n ≤ cap) (hn6 : n ≤ 65536) (hc : ∀ i, i < n → w.cell? ⟨b, o + i, none⟩ = some (.float .f32 (z i)))
    (hT : ∀ (p : Nat → Nat) (wr : World), Kept None' w wr → Calls Try.prog 87 #[.agg #[.int .i64 S, .float .f32 lo, .float .f32 hi, .slice (some ⟨bc, oc, none⟩) nc capc], .agg #[.float .f32 (p 0), .float .f32 (p 1), .float .f32 (p 2), .float .f32 (p 3)]] wr (PxIs (liP (entE g S) S lo hi p) wr)) :
    Calls Try.prog 49 #[.agg #[.int .i64 S, .float .f32 lo, .float .f32 hi, .slice (some ⟨bc, oc, none⟩) nc capc], .int .i64 2, .agg #[.int .i64 x, .int .i64 y, .int .i64 W, .int .i64 H, .slice (some ⟨b, o, none⟩) n cap]] w
      (ClIs x y W H n (fun j => liP (entE g S) S lo hi (fun c => cl .f32 (z (j / 4 * 4 + c))) (j % 4)) w) := by
  have HE := Lib.hid hE
  have HT := Lib.hid hT
  have HC := Lib.hid hc
  have HN := Lib.hid hn
  have hq : ∀ args w, (callFunc 87 args).run Try.prog w = .ok (.enter 87 args) w := fun _ _ => rfl
  have hn4 : n % 4 = 0 := by have h7 : 4 * W * H = 4 * (W * H) := Int.mul_assoc ..; rw [h7] at hn; omega
  have HN4 := Lib.hid hn4
  clear hE hT hc hn hn4
  go_enter Try.func49, Try.ntmps49
  go_upto_region 1 with fail
  refine of_world (fun W0 hW => ?_)
  have k0 : Kept None' w W0 := by rw [hW]; exact (((Kept.refl None' w).alloc _ _).alloc _ _).alloc _ _
  have hB : AppB w.heap.size (w.heap.size + 1) (w.heap.size + 1 + 1) S lo hi (some ⟨bc, oc, none⟩) nc capc x y W H (some ⟨b, o, none⟩) n cap W0 := by rw [hW]; exact AppB.new ..
  have hz : ∀ a : Addr, w.heap.size ≤ a.block → W0.frozen? a = false := fun a ha => by rw [hW]; exact (frozen?_alloc_cells _ _ _ _).trans ((frozen?_alloc_cells _ _ _ _).trans ((frozen?_alloc_cells _ _ _ _).trans (frozen_new _ _ ha)))
  have HB := Lib.hid hB
  obtain ⟨a0, a1, a2, a3, -, -, -, -, -, -, -, -, -, -, -⟩ := hB
  have hsz : W0.heap.size = w.heap.size + 3 := by rw [hW]; simp
  have HZ := Lib.hid (And.intro hsz hz)
  have K0 := Lib.hid k0
  clear hW k0 hsz hz
  go_wp2_with (first
    | (go_at_call 37; refine (checkcube_any _ _ _ _ _ _ _ (by omega)).mono ?_; rw [HE.out]; rintro e w2 ⟨rfl, hk⟩
       have K2 := Lib.hid hk; obtain ⟨-, -, -, -, b0, b1, b2, b3, b4, -, -, -, -, -, -⟩ := HB.out.step hk; clear hk)
    | fail)
  go_at_call 100
  refine (clean_fr x y W H b o n cap z w2 hF hr HN.out hnc2 hn6 (fun i hi => K2.out.some (K0.out.some (HC.out i hi) id) id)).mono ?_
  rintro e w3 ⟨B, hBl, rfl, hk3, hcell⟩
  have HS3 := Lib.hid hcell
  have K3 := Lib.hid hk3
  have HBl := Lib.hid hBl
  clear hk3 hcell hBl a0 a1 a2 a3 b0 b1 b2 b3 b4
  go_upto_region 13 with fail
  refine of_world (fun W4 hW4 => ?_)
  have hk34 : Kept None' w3 W4 := by rw [hW4]; exact (Kept.refl _ _).alloc _ _
  have hk4 : Kept None' w W4 := (K0.out.trans (K2.out.trans K3.out)).trans hk34
  have hB4 := ((HB.out.step K2.out).step K3.out).step hk34
  have hn0 : 0 < n := by
    obtain ⟨w1', w2', w3', w4', w5'⟩ := regE_ok hr
    have h7 : 4 * W * H = 4 * (W * H) := Int.mul_assoc ..
    have h8 := HN.out
    have h9 : 0 < W * H := Int.mul_pos (by omega) (by omega)
    rw [h7] at h8
    omega
  have hS4 : FrS w w3.heap.size B n x y W H (fun j => cl .f32 (z j)) W4 := by
    have q1 := (K0.out.trans (K2.out.trans K3.out)).size
    have q2 := (K0.out.trans K2.out).size
    have q3 := HBl.out
    have q4 : B < w3.heap.size := cell_lt (HS3.out 0 hn0)
    refine ⟨hk4, q1, Nat.le_trans q2 q3, by omega, ?_, ?_, ?_, ?_, ?_, fun a ha => (hk34.frozen a).trans ((K3.out.frozen a).trans ((K2.out.frozen a).trans (HZ.out.2 a ha))), fun j hj => hk34.some (HS3.out j hj) id⟩
    all_goals rw [hW4]; go_simp
  have hCB : w.heap.size + 1 + 1 < B := by
    have q1 := HZ.out.1
    have q2 := K2.out.size
    have q3 := HBl.out
    omega
  have HCB := Lib.hid hCB
  have HB4 := Lib.hid hB4
  have HS4 := Lib.hid hS4
  generalize w3.heap.size = Q at *
  clear hW4 hk34 hk4 hB4 hS4 hCB
  go_wp2_with fail
  go_loopw [12] (fun s12 wr => ∃ k p : Nat, p = 4 * k ∧ p ≤ n ∧ s12 = .int .i64 (p : Int) ∧ AppB w.heap.size (w.heap.size + 1) (w.heap.size + 1 + 1) S lo hi (some ⟨bc, oc, none⟩) nc capc x y W H (some ⟨b, o, none⟩) n cap wr ∧ FrS w Q B n x y W H (fun j => if j < p then liP (entE g S) S lo hi (fun c => cl .f32 (z (j / 4 * 4 + c))) (j % 4) else cl .f32 (z j)) wr) (fun s12 _ => (n - intOf s12).toNat)
  case atStart => exact ⟨0, 0, rfl, by omega, rfl, HB4.out, by simpa using HS4.out⟩
  case round =>
    obtain ⟨k, p, hp, hpn, rfl, hB, hS⟩ := hrel
    have HP := Lib.hid hp
    have HB := Lib.hid hB
    have HS := Lib.hid hS
    by_cases hlt : p + 4 ≤ n
    · have d1 : decide ((p : Int) + 4 ≤ (n : Int)) = true := by simp; omega
      have wp4 : IntKind.i64.wrap ((p : Int) + 4) = (p : Int) + 4 := IntWalk.i64_in _ (by omega)
      have hsl := ap_cut B n p hlt
      have hsl2 := ap_cutAt B n p hlt
      have hpp := ap_ptr ⟨B, p, none⟩ (n - p)
      have cc : ∀ c, c < 4 → wr.cell? ⟨B, p + c, none⟩ = some (.float .f32 (cl .f32 (z (p + c)))) := fun c hc => by
        have h9 := hS.cell (p + c) (by omega)
        rw [if_neg (by omega)] at h9
        exact h9
      have e0 : wr.cell? ⟨B, p, none⟩ = some (.float .f32 (cl .f32 (z p))) := cc 0 (by omega)
      have e1 := cc 1 (by omega)
      have e2 := cc 2 (by omega)
      have e3 := cc 3 (by omega)
      have c4 := hS.c4
      obtain ⟨a0, a1, a2, a3, -, -, -, -, -, -, -, -, -, -, -⟩ := hB
      have HG := Lib.hid (fun (W' : World) (hk : Kept None' wr W') => HT.out (fun c => cl .f32 (z (p + c))) W' (HS.out.kept.trans hk))
      clear cc hp hS
      go_upto_region 16 with fail
      have A0 := ext_cell2 c4
      have A1 := ext_cell2 a0
      have A2 := ext_cell2 a1
      have A3 := ext_cell2 a2
      have A4 := ext_cell2 a3
      have A5 := ext_cell2 e0
      have A6 := ext_cell2 e1
      have A7 := ext_cell2 e2
      have A8 := ext_cell2 e3
      clear a0 a1 a2 a3 e0 e1 e2 e3 c4
      refine region_box [0, 1, 2, 3, 4, 5, 6, 7, 8, 9, 10] 11 [12] 13 #[.float .f32 0, .float .f32 0, .float .f32 0, .float .f32 0] 56 (by kernel_rfl) (by kernel_rfl) rfl rfl rfl (fun _ _ => rfl) ?_
      simp only [pickO, List.filterMap_cons, List.filterMap_nil, List.getElem?_toArray, List.getElem?_cons_zero, List.getElem?_cons_succ]
      repeat (first
        | (refine wpStep_det (fun y => ?_); go_big_quiet_skip; refine wpQuiet_nil ?_)
        | (refine wpStep_det (fun y => ?_); go_big_quiet_want; go_big_quiet_op; (first | go_big_quiet_on | (go_big_quiet_call (first
            | (exact calls_ext (HG.out _ (ext_kept2 _ _ _)))
            ))); refine wpQuiet_nil ?_)
        | fail)
      refine wpStep_nil ?_
      rintro XB Wb hb
      have f0 := hb.cell 0 _ rfl
      have f1 := hb.cell 1 _ rfl
      have f2 := hb.cell 2 _ rfl
      have f3 := hb.cell 3 _ rfl
      have z0 := hb.fz 0
      have z1 := hb.fz 1
      have z2 := hb.fz 2
      have z3 := hb.fz 3
      have HBx := Lib.hid hb
      clear hb A0 A1 A2 A3 A4 A5 A6 A7 A8 hsl hsl2 hpp
      go_upto_region 17 with fail
      refine of_world (fun W5 hW5 => ?_)
      have cs := cells_set4 (v0 := .float .f32 (liP (entE g S) S lo hi (fun c => cl .f32 (z (p + c))) 0)) (v1 := .float .f32 (liP (entE g S) S lo hi (fun c => cl .f32 (z (p + c))) 1)) (v2 := .float .f32 (liP (entE g S) S lo hi (fun c => cl .f32 (z (p + c))) 2)) (v3 := .float .f32 (liP (entE g S) S lo hi (fun c => cl .f32 (z (p + c))) 3)) f0 f1 f2 f3
      have k5 : Kept None' wr W5 := by rw [hW5]; exact kept_set4' HBx.out.kept HBx.out.le
      have p0 : W5.cell? ⟨XB, 0, none⟩ = some (.float .f32 (liP (entE g S) S lo hi (fun c => cl .f32 (z (p + c))) 0)) := by rw [hW5]; exact cs.1
      have p1 : W5.cell? ⟨XB, 1, none⟩ = some (.float .f32 (liP (entE g S) S lo hi (fun c => cl .f32 (z (p + c))) 1)) := by rw [hW5]; exact cs.2.1
      have p2 : W5.cell? ⟨XB, 2, none⟩ = some (.float .f32 (liP (entE g S) S lo hi (fun c => cl .f32 (z (p + c))) 2)) := by rw [hW5]; exact cs.2.2.1
      have p3 : W5.cell? ⟨XB, 3, none⟩ = some (.float .f32 (liP (entE g S) S lo hi (fun c => cl .f32 (z (p + c))) 3)) := by rw [hW5]; exact cs.2.2.2
      have hS5 := HS.out.step k5
      have HS5 := Lib.hid hS5
      have HB5 := Lib.hid (HB.out.step k5)
      have HPX := Lib.hid (And.intro p0 (And.intro p1 (And.intro p2 p3)))
      have c4 := hS5.c4
      have A0 := ext_cell c4
      have hs1 := ap_cut1 B n p (by omega)
      have hs1' := ap_cut1At B n p (by omega)
      clear cs hW5 f0 f1 f2 f3 z0 z1 z2 z3 p0 p1 p2 p3 hS5 c4
      refine region_ext_tail 5 (by kernel_rfl) (by kernel_rfl) ?_
      simp only [List.take_succ_cons, List.take_zero, List.drop_succ_cons, List.drop_zero]
      repeat (first
        | go_big_quiet_skip
        | (go_big_quiet_want; go_big_quiet_op; first | go_big_quiet_on | go_big_quiet_call (first
          | (fail))))
      refine wpQuiet_nil ?_
      rintro _ ⟨xq, rfl⟩
      have HX := HPX.out
      have k6 := ext_kept W5 xq
      have hS6 := HS5.out.step k6
      refine wpList_copy_cells rfl (.tmp 57) (.tmp 58) 23 23 rfl 22 (by kernel_rfl) (by kernel_rfl) B p (n - p) (n - p) ⟨XB, 0, none⟩ 4 4 rfl rfl [.float .f32 (liP (entE g S) S lo hi (fun c => cl .f32 (z (p + c))) 0), .float .f32 (liP (entE g S) S lo hi (fun c => cl .f32 (z (p + c))) 1), .float .f32 (liP (entE g S) S lo hi (fun c => cl .f32 (z (p + c))) 2), .float .f32 (liP (entE g S) S lo hi (fun c => cl .f32 (z (p + c))) 3)] ?_ ?_ ?_ ?_ ?_ ?_
      · show 4 = min 4 (n - p)
        omega
      · exact ap_src (k6.some HX.1 id) (k6.some HX.2.1 id) (k6.some HX.2.2.1 id) (k6.some HX.2.2.2 id)
      · intro j hj
        have hj4 : j < 4 := hj
        rw [hS6.cell (p + j) (by omega)]
        rfl
      · intro j hj
        exact hS6.fz _ hS6.lB
      · intro v hv
        simp at hv
        rcases hv with rfl | rfl | rfl | rfl <;> rfl
      simp only [World.setCells]
      have hB6 := HB5.out.step k6
      have HS6 := Lib.hid hS6
      have HB6 := Lib.hid hB6
      clear hS6 hB6 HX k6 A0 hs1 hs1'
      generalize ext W5 xq = W6 at *
      go_wp2_with fail
      have q1 := HCB.out
      have n1 : B ≠ w.heap.size := by omega
      have n2 : B ≠ w.heap.size + 1 := by omega
      have n3 : B ≠ w.heap.size + 1 + 1 := by omega
      refine ⟨⟨k + 1, p + 4, by have := HP.out; omega, hlt, by simp, (((HB6.out.set n1 n2 n3 _ _).set n1 n2 n3 _ _).set n1 n2 n3 _ _).set n1 n2 n3 _ _, ?_⟩, by simp [intOf]; omega⟩
      refine FrS.set (FrS.set (FrS.set (FrS.set HS6.out (Kept.refl _ _) (by omega) (fun _ _ => rfl)) (Kept.refl _ _) (by omega) (fun _ _ => rfl)) (Kept.refl _ _) (by omega) (fun _ _ => rfl)) (Kept.refl _ _) (by omega) (fun j hj => ?_)
      have hp4 := HP.out
      by_cases j3 : j = p + 1 + 1 + 1
      · rw [if_pos (by omega), if_pos j3, show j / 4 * 4 = p by omega, show j % 4 = 3 by omega]
      rw [if_neg j3]
      by_cases j2 : j = p + 1 + 1
      · rw [if_pos (by omega), if_pos j2, show j / 4 * 4 = p by omega, show j % 4 = 2 by omega]
      rw [if_neg j2]
      by_cases j1 : j = p + 1
      · rw [if_pos (by omega), if_pos j1, show j / 4 * 4 = p by omega, show j % 4 = 1 by omega]
      rw [if_neg j1]
      by_cases j0 : j = p
      · rw [if_pos (by omega), if_pos j0, show j / 4 * 4 = p by omega, show j % 4 = 0 by omega]
      rw [if_neg j0]
      by_cases jl : j < p
      · rw [if_pos (by omega), if_pos jl]
      · rw [if_neg (by omega), if_neg jl]
    · have hpe : p = n := by have := HN4.out; omega
      have d1 : decide ((p : Int) + 4 ≤ (n : Int)) = false := by simp; omega
      have wp4 : IntKind.i64.wrap ((p : Int) + 4) = (p : Int) + 4 := IntWalk.i64_in _ (by omega)
      have c0 := hS.c0
      have c1 := hS.c1
      have c2 := hS.c2
      have c3 := hS.c3
      have c4 := hS.c4
      obtain ⟨-, -, -, -, -, -, -, -, -, r0, r1, r2, r3, r4, zz⟩ := hB
      have z0 := zz 0
      have z1 := zz 1
      have z2 := zz 2
      have z3 := zz 3
      have z4 := zz 4
      have HPE := Lib.hid hpe
      clear hS zz hp hpe
      go_wp2_with fail
      refine bodyPost_ret (fr_ret2 Try.results49 _ _ (w.heap.size + 1 + 1) _ _ _ _ _ (cells_set5 r0 r1 r2 r3 r4) rfl) rfl ?_
      have q1 := HCB.out
      refine ⟨B, by omega, rfl, kept_set5 HS.out.kept (by omega), fun j hj => ?_⟩
      have hne : w.heap.size + 1 + 1 ≠ B := by omega
      have h9 := HS.out.cell j hj
      rw [if_pos (by have := HPE.out; omega)] at h9
      exact cell_set_ne (cell_set_ne (cell_set_ne (cell_set_ne (cell_set_ne h9 (Or.inl hne)) (Or.inl hne)) (Or.inl hne)) (Or.inl hne)) (Or.inl hne)
end Go.Proofs.Ytkmganophcklgaa

namespace Go.Proofs.Ytkmganophcklgaa
open Go.RowKit
open Fl Fr

theorem axT_clv (S : Int) (lo hi v : Nat) : axT S lo hi (cl .f32 v) = axT S lo hi v := by unfold axT; rw [fC_cl_l]
theorem axI_clv (S : Int) (lo hi v : Nat) : axI S lo hi (cl .f32 v) = axI S lo hi v := by unfold axI; simp only [axT_clv]
theorem axS_clv (S : Int) (lo hi v : Nat) : axS S lo hi (cl .f32 v) = axS S lo hi v := by unfold axS; simp only [axT_clv]
theorem brk_clp (p : Nat → Nat) : brk (fun c => cl .f32 (p c)) = brk p := by unfold brk; simp only [nan_cl]
theorem teP_clp (E : Int → Int → Int → Nat → Nat) (S : Int) (lo hi : Nat) (p : Nat → Nat) (c : Nat) : teP E S lo hi (fun c => cl .f32 (p c)) c = teP E S lo hi p c := by
  unfold teP
  rw [brk_clp]
  simp only [axI_clv, axS_clv, cl_cl]
theorem liP_clp (E : Int → Int → Int → Nat → Nat) (S : Int) (lo hi : Nat) (p : Nat → Nat) (c : Nat) : liP E S lo hi (fun c => cl .f32 (p c)) c = liP E S lo hi p c := by
  unfold liP
  rw [brk_clp]
  simp only [axI_clv, axS_clv, cl_cl]
end Go.Proofs.Ytkmganophcklgaa

namespace Go.Proofs.Ytkmganophcklgaa
open Go.RowKit
open Fl Fr
open BigFrame

/-- The world while a place is shown: the cube is made m singles through, the place's numbers stand at Q. -/
structure IdR (W1 : World) (Fb : Nat) (S : Int) (m : Nat) (G : Nat → Nat) (Q : Nat) (i j k : Int) (v : Value) (wr : World) : Prop where
  cb : CbS W1 Fb S 0 1065353216 v m G wr
  q0 : wr.cell? ⟨Q, 0, none⟩ = some (.int .i64 i)
  q1 : wr.cell? ⟨Q, 1, none⟩ = some (.int .i64 j)
  q2 : wr.cell? ⟨Q, 2, none⟩ = some (.int .i64 k)
  ne : v.ownBlock ≠ some Q
  nF : Fb ≠ Q
theorem IdR.step {W1 : World} {Fb : Nat} {S : Int} {m : Nat} {G : Nat → Nat} {Q : Nat} {i j k : Int} {v : Value} {wr wr' : World} (h : IdR W1 Fb S m G Q i j k v wr) (hk : Kept None' wr wr') : IdR W1 Fb S m G Q i j k v wr' :=
  ⟨h.cb.step hk, hk.some h.q0 id, hk.some h.q1 id, hk.some h.q2 id, h.ne, h.nF⟩
theorem IdR.app {W1 : World} {Fb : Nat} {S : Int} {m : Nat} {G : Nat → Nat} {Q : Nat} {i j k : Int} {v : Value} {wr wa wb : World} {g4 cap4 : Nat} (h : IdR W1 Fb S m G Q i j k v wr) (hk : Kept None' wr wa) (hk2 : Kept (fun k => v.ownBlock = some k) wa wb) (hat : v.ownBlock = some g4 ∨ g4 = wa.heap.size)
    (hown : wb.ownsRow (Fb + 1) 22 1 (.slice (some ⟨g4, 0, none⟩) (m + 1) cap4) (m + 1) ((List.range (m + 1)).map fun j => .float .f32 (G j))) : IdR W1 Fb S (m + 1) G Q i j k (.slice (some ⟨g4, 0, none⟩) (m + 1) cap4) (wb.setCell ⟨Fb, 3, none⟩ (.slice (some ⟨g4, 0, none⟩) (m + 1) cap4)) := by
  have h1 := h.step hk
  have hne := h.ne
  have lQ : Q < wa.heap.size := cell_lt h1.q0
  refine ⟨h.cb.app hk hk2 hown, cell_set_ne (hk2.some h1.q0 hne) (Or.inl h.nF), cell_set_ne (hk2.some h1.q1 hne) (Or.inl h.nF), cell_set_ne (hk2.some h1.q2 hne) (Or.inl h.nF), ?_, h.nF⟩
  intro e
  have e' : g4 = Q := by simpa [Value.ownBlock] using e
  subst e'
  rcases hat with a | a
  · exact hne a
  · omega
def pick3 (i j k : Int) (c : Nat) : Int := if c = 0 then i else if c = 1 then j else k
theorem IdR.at {W1 : World} {Fb : Nat} {S : Int} {m : Nat} {G : Nat → Nat} {Q : Nat} {i j k : Int} {v : Value} {wr : World} (h : IdR W1 Fb S m G Q i j k v wr) (c : Nat) (hc : c < 3) : wr.cell? ⟨Q, c, none⟩ = some (.int .i64 (pick3 i j k c)) := by
  obtain rfl | rfl | rfl : c = 0 ∨ c = 1 ∨ c = 2 := by omega
  · exact h.q0
  · exact h.q1
  · exact h.q2
theorem pick3_bd {i j k S : Int} (c : Nat) (i0 : 0 ≤ i) (i1 : i < S) (j0 : 0 ≤ j) (j1 : j < S) (k0 : 0 ≤ k) (k1 : k < S) : 0 ≤ pick3 i j k c ∧ pick3 i j k c ≤ S - 1 := by
  unfold pick3
  split
  · omega
  · split <;> omega

set_option linter.unusedSimpArgs false in
set_option linter.unusedVariables false in
set_option maxHeartbeats 4000000 in
set_option maxRecDepth 100000 in
theorem idof1_shows (S : Nat) (Fb T : Nat) (W1 : World) (s1 : 2 ≤ S) (s2 : S ≤ 17) (hT : W1.cell? ⟨T, 0, none⟩ = some (.int .i64 (S : Int))) :
    Shows 102 #[.pointer (some ⟨Fb, 0, none⟩), .pointer (some ⟨T, 0, none⟩)] S (fun n wr => ∃ v, CbS W1 Fb S 0 1065353216 v (3 * n) (cubG (idF S) S) wr) := by
  intro n wi hn hI
  obtain ⟨v, hS⟩ := hI
  obtain ⟨l1, l2, l3⟩ := place_lt s1 hn
  obtain ⟨m1, m2⟩ := cube_nat s2
  have hG : ∀ c, c < 3 → cubG (idF S) S (3 * n + c) = valP (pick3 (n % S : Nat) (n / S % S : Nat) (n / S / S : Nat) c) ((S : Int) - 1) := fun c hc => by
    rw [cubG_n hc]
    exact cl_fC ..
  have hbd := fun c => pick3_bd (S := (S : Int)) c (Int.natCast_nonneg (n % S)) (by exact_mod_cast l1) (Int.natCast_nonneg (n / S % S)) (by exact_mod_cast l2) (Int.natCast_nonneg (n / S / S)) (by exact_mod_cast l3)
  have hn3 : 3 * n + 3 ≤ 14739 := by omega
  have HT := Lib.hid hT
  have HG := Lib.hid hG
  have HBD := Lib.hid hbd
  have HS := Lib.hid hS
  clear hG hbd hT hS hn l1 l2 l3 m1 m2
  generalize ((n % S : Nat) : Int) = i at *
  generalize ((n / S % S : Nat) : Int) = j at *
  generalize ((n / S / S : Nat) : Int) = k at *
  go_enter Try.func102, Try.ntmps102
  go_wp2_with fail
  refine of_world (fun W0 hW => ?_)
  have kw : Kept None' wi W0 := by rw [hW]; exact (Kept.refl _ _).alloc _ _
  have hR : IdR W1 Fb S (3 * n + 0) (cubG (idF S) S) wi.heap.size i j k v W0 := by
    have hs := HS.out
    have l4 : Fb < wi.heap.size := cell_lt hs.c3
    refine ⟨hs.step kw, by rw [hW]; exact cell_alloc_one wi _ _ 0, by rw [hW]; exact cell_alloc_one wi _ _ 1, by rw [hW]; exact cell_alloc_one wi _ _ 2, ?_, by omega⟩
    intro e
    rcases hs.own.2 with ⟨rfl, _⟩ | ⟨g, cap, cur, rfl, _, hgg, _⟩
    · cases e
    · have e' : g = wi.heap.size := by simpa [Value.ownBlock] using e
      have := (Array.getElem?_eq_some_iff.1 hgg).1
      omega
  have HR := Lib.hid hR
  clear hW hR kw
  generalize wi.heap.size = Q at *
  go_loopw [17] (fun s17 w2 => ∃ (c : Nat) (v : Value), c ≤ 3 ∧ s17 = .int .i64 (c : Int) ∧ IdR W1 Fb S (3 * n + c) (cubG (idF S) S) Q i j k v w2) (fun s17 _ => 3 - (intOf s17).toNat)
  case atStart => exact ⟨0, v, by omega, rfl, HR.out⟩
  case round =>
    obtain ⟨c, v2, hc, rfl, hS2⟩ := hrel
    have HS2 := Lib.hid hS2
    by_cases hc3 : c < 3
    · have d1 : decide ((c : Int) < 3) = true := decide_eq_true (by omega)
      obtain ⟨b1, b2⟩ := HBD.out c
      have e0 := hS2.at c hc3
      have e1 := hS2.cb.c3
      have e2 := hS2.cb.kept.some HT.out id
      have hg := HG.out c hc3
      generalize pick3 i j k c = x at *
      obtain ⟨t1, t2⟩ := det (val_nan x ((S : Int) - 1) b1 b2 (by omega) (by omega))
      have hv : fC .quo .f32 (floatOfInt .f32 x) (floatOfInt .f32 ((S : Int) - 1)) = valP x ((S : Int) - 1) := by unfold valP; rfl
      rw [hv] at t1
      obtain ⟨i0, hi0, hz0, hz1, hz2⟩ := info_parts float_info
      have f3 := hS2.cb.fz ⟨Fb, 3, none⟩ hS2.cb.lF
      have l4 : Fb < wr.heap.size := cell_lt e1
      have HGx := Lib.hid hg
      clear hv hg hS2
      go_wp2_with (first
        | (at_builtin; refine wpList_append_kept _ (by rfl) _ _ _ (by rfl) (Fb + 1) 22 i0 _ 1 4 Try.underlying23 hi0 hz0 hz1 hz2 rfl (by omega) v2 (3 * n + c) ((List.range (3 * n + c)).map fun j => .float .f32 (cubG (idF S) S j)) (by rfl)
            (own_kept HS2.out.cb.own ((Kept.refl _ _).alloc _ _)) ⟨wr.heap.size, 0, none⟩ 1 1 [.float .f32 (valP x ((S : Int) - 1))] (by rfl) rfl (news_one (cell_alloc_one wr _ _ 0)) (by simp [Value.oneCell']) (by omega) (by unfold maxLen; omega) (by omega) (by have := HS2.out.cb.sz; simp; omega) ?_
           intro g4 cap4 w5 hown4 hk4 hat4
           have e4 := HS2.out.cb.app_cell ((Kept.refl _ _).alloc _ _) hk4
           have e5 := HS2.out.cb.app_frozen ((Kept.refl _ _).alloc _ _) hk4
           have HO := Lib.hid (And.intro hown4 (And.intro hk4 hat4))
           clear hown4 hk4 hat4)
        | fail)
      go_roundw
      case rel =>
        refine ⟨c + 1, .slice (some ⟨g4, 0, none⟩) (3 * n + c + 1) cap4, by omega, by go_num, HS2.out.app ((Kept.refl _ _).alloc _ _) HO.out.2.1 HO.out.2.2 ?_⟩
        rw [List.range_succ, List.map_append, show [3 * n + c].map (fun j => Value.float .f32 (cubG (idF S) S j)) = [.float .f32 (valP x ((S : Int) - 1))] by rw [← HGx.out]; rfl]
        exact HO.out.1
      case measure => simp [intOf]; omega
    · obtain rfl : c = 3 := by omega
      have d1 : decide (((3 : Nat) : Int) < 3) = false := by decide
      clear hS2
      go_wp2_with fail
      go_end0
      exact ⟨rfl, v2, by have := HS2.out.cb; rwa [show 3 * n + 3 = 3 * (n + 1) by omega] at this⟩

set_option linter.unusedSimpArgs false in
set_option linter.unusedVariables false in
set_option maxHeartbeats 4000000 in
set_option maxRecDepth 100000 in
theorem idof_any (S : Nat) (w : World) (s1 : 2 ≤ S) (s2 : S ≤ 17) :
    Calls Try.prog 51 #[.int .i64 (S : Int)] w (CuMade S 0 1065353216 (3 * (S * (S * S))) (cubG (idF S) S) w) := by
  go_enter Try.func51, Try.ntmps51
  go_upto_region 2 with (fail)
  refine of_world (fun W0 hW => ?_)
  obtain ⟨W1, hW1⟩ : ∃ W1, W1 = (w.alloc (.cells #[.int .i64 (S : Int)] 3)).alloc (.cells #[.int .i64 0, .float .f32 0, .float .f32 0, .slice none 0 0] 25) := ⟨_, rfl⟩
  rw [← hW1] at hW
  have hT : W1.cell? ⟨w.heap.size, 0, none⟩ = some (.int .i64 (S : Int)) := by rw [hW1]; exact cell_alloc_two w _ _ _ _ 0
  have r0 : W1.cell? ⟨w.heap.size + 1, 0, none⟩ = some (.int .i64 0) := by rw [hW1]; exact cell_alloc_snd w _ _ _ 0
  have r1 : W1.cell? ⟨w.heap.size + 1, 1, none⟩ = some (.float .f32 0) := by rw [hW1]; exact cell_alloc_snd w _ _ _ 1
  have r2 : W1.cell? ⟨w.heap.size + 1, 2, none⟩ = some (.float .f32 0) := by rw [hW1]; exact cell_alloc_snd w _ _ _ 2
  have r3 : W1.cell? ⟨w.heap.size + 1, 3, none⟩ = some (.slice none 0 0) := by rw [hW1]; exact cell_alloc_snd w _ _ _ 3
  have z1 : ∀ a : Addr, w.heap.size ≤ a.block → W1.frozen? a = false := fun a ha => by rw [hW1]; exact (frozen?_alloc_cells _ _ _ _).trans ((frozen?_alloc_cells _ _ _ _).trans (frozen_new _ _ ha))
  have hsz : W1.heap.size = w.heap.size + 1 + 1 := by rw [hW1]; simp
  have K0 : Kept None' w W1 := by rw [hW1]; exact ((Kept.refl None' w).alloc _ _).alloc _ _
  have hS0 : CbS W1 (w.heap.size + 1 + 1) S 0 1065353216 (.slice none 0 0) (3 * 0) (cubG (idF S) S) W0 := by
    rw [← hsz, hW]
    refine ⟨(Kept.refl _ _).alloc _ _, Nat.le_refl _, by simp, cell_alloc_one W1 _ _ 0, cell_alloc_one W1 _ _ 1, cell_alloc_one W1 _ _ 2, cell_alloc_one W1 _ _ 3, fun a ha => (frozen?_alloc_cells _ _ _ _).trans (frozen_new _ _ ha), World.ownsRow_nil _ _ _ _⟩
  have HP := Lib.hid (places_gen S 102 #[.pointer (some ⟨w.heap.size + 1 + 1, 0, none⟩), .pointer (some ⟨w.heap.size, 0, none⟩)] (fun n wr => ∃ v, CbS W1 (w.heap.size + 1 + 1) S 0 1065353216 v (3 * n) (cubG (idF S) S) wr) W0 s1 s2 Try.call102
    (fun n wr wr' ⟨v, h⟩ hk => ⟨v, h.step hk⟩) ⟨_, hS0⟩ (idof1_shows S (w.heap.size + 1 + 1) w.heap.size W1 s1 s2 hT))
  have tT := hS0.kept.some hT id
  have Z1 := Lib.hid z1
  have K0 := Lib.hid K0
  have HSZ := Lib.hid hsz
  have R := Lib.hid (And.intro r0 (And.intro r1 (And.intro r2 r3)))
  clear hW hW1 hS0 z1 hsz r0 r1 r2 r3
  go_wp2_with (go_at_call 74; refine HP.out.mono ?_; rintro e w1 ⟨rfl, v, hS⟩; obtain ⟨B, cap, rfl, hB, hcp, hcp2, hc⟩ := hS.slice (Nat.mul_pos (by omega) (Nat.mul_pos (by omega) (Nat.mul_pos (by omega) (by omega)))); have HB := Lib.hid (And.intro hB (And.intro hcp (And.intro hcp2 hc))); clear hB hcp hcp2 hc; have HS := Lib.hid hS; have kp := hS.kept; have v0 := kp.some R.out.1 id; have v1 := kp.some R.out.2.1 id; have v2 := kp.some R.out.2.2.1 id; have v3 := kp.some R.out.2.2.2 id; have f0 : w1.frozen? ⟨w.heap.size + 1, 0, none⟩ = false := (kp.frozen _).trans (Z1.out _ (by simp)); have f1 : w1.frozen? ⟨w.heap.size + 1, 1, none⟩ = false := (kp.frozen _).trans (Z1.out _ (by simp)); have f2 : w1.frozen? ⟨w.heap.size + 1, 2, none⟩ = false := (kp.frozen _).trans (Z1.out _ (by simp)); have f3 : w1.frozen? ⟨w.heap.size + 1, 3, none⟩ = false := (kp.frozen _).trans (Z1.out _ (by simp)); have m0 := hS.c0; have m1 := hS.c1; have m2 := hS.c2; have m3 := hS.c3; have KP := Lib.hid kp; clear hS kp)
  refine bodyPost_ret (cu_ret1 Try.results51 _ _ (w.heap.size + 1) _ _ _ _ (cells_set4 v0 v1 v2 v3) rfl) rfl ?_
  obtain ⟨hB, hcp, hcp2, hc⟩ := HB.out
  refine ⟨B, cap, by omega, rfl, hcp, hcp2, kept_set4' (K0.out.trans KP.out) (by omega), fun j hj => ?_⟩
  have hne : w.heap.size + 1 ≠ B := by omega
  exact cell_set_ne (cell_set_ne (cell_set_ne (cell_set_ne (hc j hj) (Or.inl hne)) (Or.inl hne)) (Or.inl hne)) (Or.inl hne)
end Go.Proofs.Ytkmganophcklgaa

namespace Go.Proofs.Ytkmganophcklgaa
open Go.RowKit
open Fl Fr
open BigFrame

/-- A cube's cells. -/
structure CuV where
  s : Int
  l : Nat
  h : Nat
  A : Option Addr
  m : Nat
  k : Nat
/-- The empty cube. -/
def ErP (c : CuV) : Prop := c = ⟨0, 0, 0, none, 0, 0⟩
/-- A cube and its singles. -/
def OkP (S : Int) (lo hi n : Nat) (G : Nat → Nat) (c : CuV) (w : World) : Prop := ∃ B cap, c = ⟨S, lo, hi, some ⟨B, 0, none⟩, n, cap⟩ ∧ ∀ j, j < n → w.cell? ⟨B, j, none⟩ = some (.float .f32 (G j))
/-- A cube of this kind and an error. -/
def CuRes (X : CuV → World → Prop) (ec : Int) (w : World) (e : Ending) (w' : World) : Prop := ∃ c : CuV, e = .returned (.tuple #[.agg #[.int .i64 c.s, .float .f32 c.l, .float .f32 c.h, .slice c.A c.m c.k], .int .i64 ec]) ∧ X c w' ∧ Kept None' w w'
def Firm (X : CuV → World → Prop) : Prop := ∀ c w w', X c w → Kept None' w w' → X c w'
theorem firm_er : Firm (fun c _ => ErP c) := fun _ _ _ h _ => h
theorem firm_ok (S : Int) (lo hi n : Nat) (G : Nat → Nat) : Firm (OkP S lo hi n G) := fun _ _ _ ⟨B, cap, e, f⟩ k => ⟨B, cap, e, fun j hj => k.some (f j hj) id⟩
theorem cuErr_res {E : Int} {w w' : World} {e : Ending} (h : CuErr E w e w') : CuRes (fun c _ => ErP c) E w e w' := ⟨⟨0, 0, 0, none, 0, 0⟩, h.1, rfl, h.2⟩
theorem cuPost_res {S : Int} {lo hi n : Nat} {G : Nat → Nat} {w w' : World} {e : Ending} (h : CuPost S lo hi n G w e w') : CuRes (OkP S lo hi n G) 0 w e w' := by
  obtain ⟨B, cap, -, he, -, -, hk, hc⟩ := h
  exact ⟨⟨S, lo, hi, some ⟨B, 0, none⟩, n, cap⟩, he, ⟨B, cap, rfl, hc⟩, hk⟩
/-- Such a cube's box. -/
structure BxV (C : Nat) (c : CuV) (w : World) : Prop where
  c0 : w.cell? ⟨C, 0, none⟩ = some (.int .i64 c.s)
  c1 : w.cell? ⟨C, 1, none⟩ = some (.float .f32 c.l)
  c2 : w.cell? ⟨C, 2, none⟩ = some (.float .f32 c.h)
  c3 : w.cell? ⟨C, 3, none⟩ = some (.slice c.A c.m c.k)
theorem BxV.step {C : Nat} {c : CuV} {w w' : World} (h : BxV C c w) (k : Kept None' w w') : BxV C c w' := ⟨k.some h.c0 id, k.some h.c1 id, k.some h.c2 id, k.some h.c3 id⟩

def FrB (x y W H : Int) (A : Option Addr) (n cap Q : Nat) (w : World) : Prop := w.cell? ⟨Q, 0, none⟩ = some (.int .i64 x) ∧ w.cell? ⟨Q, 1, none⟩ = some (.int .i64 y) ∧ w.cell? ⟨Q, 2, none⟩ = some (.int .i64 W) ∧ w.cell? ⟨Q, 3, none⟩ = some (.int .i64 H) ∧ w.cell? ⟨Q, 4, none⟩ = some (.slice A n cap)
theorem FrB.kept {x y W H : Int} {A : Option Addr} {n cap Q : Nat} {w w' : World} (h : FrB x y W H A n cap Q w) (k : Kept None' w w') : FrB x y W H A n cap Q w' := ⟨k.some h.1 id, k.some h.2.1 id, k.some h.2.2.1 id, k.some h.2.2.2.1 id, k.some h.2.2.2.2 id⟩
theorem pix_in {x y W H px py : Int} {n : Nat} (hE : regE x y W H = 0) (hn : (n : Int) = 4 * W * H) (x1 : x ≤ px) (x2 : px < x + W) (y1 : y ≤ py) (y2 : py < y + H) :
    ((4 * ((py - y) * W + px - x).toNat : Nat) : Int) = 4 * ((py - y) * W + px - x) ∧ 4 * ((py - y) * W + px - x).toNat + 4 ≤ n := by
  obtain ⟨w1, w2, w3, w4, w5⟩ := regE_ok hE
  have h1 : 0 ≤ (py - y) * W := Int.mul_nonneg (by omega) (by omega)
  have h2 : (py - y) * W ≤ (H - 1) * W := Int.mul_le_mul_of_nonneg_right (by omega) (by omega)
  have h3 : (H - 1) * W = W * H - W := by rw [Int.sub_mul, Int.one_mul, Int.mul_comm]
  have h4 : 4 * W * H = 4 * (W * H) := Int.mul_assoc ..
  generalize (py - y) * W = T at *
  generalize W * H = U at *
  generalize (H - 1) * W = U2 at *
  omega

theorem frE_ok {x y W H : Int} {n : Nat} (h : frE x y W H n = 0) : regE x y W H = 0 ∧ (n : Int) = 4 * W * H := by
  unfold frE at h
  by_cases h1 : regE x y W H = 0
  · rw [if_neg (by simp [h1])] at h
    by_cases h2 : (n : Int) = 4 * W * H
    · exact ⟨h1, h2⟩
    · rw [if_pos h2] at h; exact absurd h (by decide)
  · rw [if_pos h1] at h; exact absurd h h1

theorem px_ptr (a : Addr) (c : Nat) (w : World) : (Instr.arrayAt 56 (.slice (some a) 4 c)).run Try.prog w = .ok (.pointer (some a)) w := by
  kernel_rfl

set_option linter.unusedSimpArgs false in
set_option linter.unusedVariables false in
set_option maxHeartbeats 800000 in
set_option maxRecDepth 100000 in
theorem pixelat_any (x y W H px py : Int) (b o n cap q : Nat) (z : Nat → Nat) (w : World) (hE : regE x y W H = 0) (hn : n ≤ cap) (hn6 : n ≤ 65536) (hc : ∀ i, i < n → w.cell? ⟨b, o + i, none⟩ = some (.float .f32 (z i)))
    (x1 : x ≤ px) (x2 : px < x + W) (y1 : y ≤ py) (y2 : py < y + H) (hq : (q : Int) = 4 * ((py - y) * W + px - x)) (hqn : q + 4 ≤ n) :
    Calls Try.prog 57 #[.agg #[.int .i64 x, .int .i64 y, .int .i64 W, .int .i64 H, .slice (some ⟨b, o, none⟩) n cap], .int .i64 px, .int .i64 py] w fun e w' =>
      e = .returned (.agg #[.float .f32 (z q), .float .f32 (z (q + 1)), .float .f32 (z (q + 2)), .float .f32 (z (q + 3))]) ∧ Kept None' w w' := by
  obtain ⟨w1', w2', w3', w4', w5'⟩ := regE_ok hE
  obtain ⟨bx1, bx2, by1, by2⟩ := regE_place hE
  obtain ⟨T, hT⟩ : ∃ T, (py - y) * W = T := ⟨_, rfl⟩
  rw [hT] at hq
  have g1 : wrap64 ((py - y) * W) = T := by rw [hT]; unfold wrap64; omega
  have g2 : wrap64 (T + px) = T + px := by unfold wrap64; omega
  have g3 : wrap64 (T + px - x) = T + px - x := by unfold wrap64; omega
  have g4 : wrap64 (4 * (T + px - x)) = q := by rw [← hq]; unfold wrap64; omega
  have g6 : ((q : Int) + 4).toNat = q + 4 := by omega
  have g7 : ((q : Int) + 4) ≤ (cap : Int) := by omega
  have g8 : (q : Int) ≤ q + 4 := by omega
  have g9 : (0 : Int) ≤ q + 4 := by omega
  have c0 := hc q (by omega)
  have c1 := hc (q + 1) (by omega)
  have c2 := hc (q + 2) (by omega)
  have c3 := hc (q + 3) (by omega)
  have k2 : ∀ d1 t1 d2 t2, Kept None' w ((w.alloc (.cells d1 t1)).alloc (.cells d2 t2)) := fun _ _ _ _ => ((Kept.refl None' w).alloc _ _).alloc _ _
  have a0 : ∀ d1 t1 d2 t2, ((w.alloc (.cells d1 t1)).alloc (.cells d2 t2)).cell? ⟨b, o + q, none⟩ = some (.float .f32 (z q)) := fun _ _ _ _ => (k2 _ _ _ _).some c0 id
  have a1 : ∀ d1 t1 d2 t2, ((w.alloc (.cells d1 t1)).alloc (.cells d2 t2)).cell? ⟨b, o + q + 1, none⟩ = some (.float .f32 (z (q + 1))) := fun _ _ _ _ => (k2 _ _ _ _).some c1 id
  have a2 : ∀ d1 t1 d2 t2, ((w.alloc (.cells d1 t1)).alloc (.cells d2 t2)).cell? ⟨b, o + q + 2, none⟩ = some (.float .f32 (z (q + 2))) := fun _ _ _ _ => (k2 _ _ _ _).some c2 id
  have a3 : ∀ d1 t1 d2 t2, ((w.alloc (.cells d1 t1)).alloc (.cells d2 t2)).cell? ⟨b, o + q + 3, none⟩ = some (.float .f32 (z (q + 3))) := fun _ _ _ _ => (k2 _ _ _ _).some c3 id
  have z1 : ∀ d1 t1 d2 t2 (a : Addr), w.heap.size ≤ a.block → ((w.alloc (.cells d1 t1)).alloc (.cells d2 t2)).frozen? a = false := fun _ _ _ _ a ha => (frozen?_alloc_cells _ _ _ _).trans ((frozen?_alloc_cells _ _ _ _).trans (frozen_new _ _ ha))
  have hpp := fun w => px_ptr ⟨b, o + q, none⟩ (cap - q) w
  clear hc k2 hq c0 c1 c2 c3 hT
  go_enter Try.func57, Try.ntmps57
  go_wp2_with fail
  refine bodyPost_ret (px_ret Try.results57 _ _ (w.heap.size + 1) _ _ _ _ (cell_alloc_snd w _ _ _ 0) (cell_alloc_snd w _ _ _ 1) (cell_alloc_snd w _ _ _ 2) (cell_alloc_snd w _ _ _ 3) rfl) rfl ?_
  exact ⟨rfl, ((Kept.refl _ _).alloc _ _).alloc _ _⟩


set_option linter.unusedSimpArgs false in
set_option linter.unusedVariables false in
set_option maxHeartbeats 4000000 in
set_option maxRecDepth 100000 in
theorem ca1_te (S : Int) (lo hi : Nat) (A : Option Addr) (nc capc : Nat) (spec : (Nat → Nat) → Nat → Nat) (x y W H px py : Int) (b o n cap q : Nat) (z : Nat → Nat) (C Q T : Nat) (w : World) (hE : regE x y W H = 0) (hn : n ≤ cap) (hn6 : n ≤ 65536) (hc : ∀ i, i < n → w.cell? ⟨b, o + i, none⟩ = some (.float .f32 (z i)))
    (hT : w.cell? ⟨T, 0, none⟩ = some (.int .i64 1)) (hC : BxV C ⟨S, lo, hi, A, nc, capc⟩ w) (hQ : FrB x y W H (some ⟨b, o, none⟩) n cap Q w)
    (x1 : x ≤ px) (x2 : px < x + W) (y1 : y ≤ py) (y2 : py < y + H) (hq : (q : Int) = 4 * ((py - y) * W + px - x)) (hqn : q + 4 ≤ n)
    (hS : ∀ (p : Nat → Nat) (wr : World), Kept None' w wr → Calls Try.prog 40 #[.agg #[.int .i64 S, .float .f32 lo, .float .f32 hi, .slice A nc capc], .agg #[.float .f32 (p 0), .float .f32 (p 1), .float .f32 (p 2), .float .f32 (p 3)]] wr (PxIs (spec p) wr)) :
    Calls Try.prog 56 #[.int .i64 px, .int .i64 py, .pointer (some ⟨T, 0, none⟩), .pointer (some ⟨C, 0, none⟩), .pointer (some ⟨Q, 0, none⟩)] w (PxIs (spec (fun c => z (q + c))) w) := by
  have HC := Lib.hid hc
  have HQ := Lib.hid hq
  have HS := Lib.hid hS
  have HE := Lib.hid hE
  obtain ⟨c0, c1, c2, c3⟩ := hC
  obtain ⟨q0, q1, q2, q3, q4⟩ := hQ
  have HQQ := Lib.hid (And.intro q0 (And.intro q1 (And.intro q2 (And.intro q3 q4))))
  have HCC := Lib.hid (And.intro c0 (And.intro c1 (And.intro c2 c3)))
  have tT : ∀ c t, (w.alloc (.cells c t)).cell? ⟨T, 0, none⟩ = some (.int .i64 1) := fun c t => ((Kept.refl None' w).alloc c t).some hT id
  clear hc hq hS hE hT c0 c1 c2 c3 q0 q1 q2 q3 q4
  go_enter Try.func56, Try.ntmps56
  go_upto_region 2 with fail
  refine of_world (fun W0 hW => ?_)
  have k0 : Kept None' w W0 := by rw [hW]; exact (Kept.refl None' w).alloc _ _
  have r : ∀ c, c < 4 → W0.cell? ⟨w.heap.size, c, none⟩ = some (.float .f32 0) := fun c hc => by
    rw [hW]
    obtain rfl | rfl | rfl | rfl : c = 0 ∨ c = 1 ∨ c = 2 ∨ c = 3 := by omega
    all_goals exact cell_alloc_one w _ _ _
  have zz : ∀ c, W0.frozen? ⟨w.heap.size, c, none⟩ = false := fun c => by rw [hW]; exact (frozen?_alloc_cells _ _ _ _).trans (frozen_new _ _ (Nat.le_refl _))
  have A0 := ext_cell (k0.some HCC.out.1 id)
  have A1 := ext_cell (k0.some HCC.out.2.1 id)
  have A2 := ext_cell (k0.some HCC.out.2.2.1 id)
  have A3 := ext_cell (k0.some HCC.out.2.2.2 id)
  have B0 := ext_cell (k0.some HQQ.out.1 id)
  have B1 := ext_cell (k0.some HQQ.out.2.1 id)
  have B2 := ext_cell (k0.some HQQ.out.2.2.1 id)
  have B3 := ext_cell (k0.some HQQ.out.2.2.2.1 id)
  have B4 := ext_cell (k0.some HQQ.out.2.2.2.2 id)
  have HR := Lib.hid (And.intro r zz)
  have K0 := Lib.hid k0
  clear hW k0 r zz tT
  refine region_ext_tail 6 (by kernel_rfl) (by kernel_rfl) ?_
  simp only [List.take_succ_cons, List.take_zero, List.drop_succ_cons, List.drop_zero]
  repeat (first
    | go_big_quiet_skip
    | (go_big_quiet_want; go_big_quiet_op; first | go_big_quiet_on | go_big_quiet_call (first
      | (go_at_call 57; exact calls_ext (pixelat_any x y W H px py b o n cap q z _ HE.out hn hn6 (fun i hi => (ext_kept _ _).some (K0.out.some (HC.out i hi) id) id) x1 x2 y1 y2 HQ.out hqn))
      | (go_at_call 40; exact calls_ext (HS.out (fun c => z (q + c)) _ (K0.out.trans (ext_kept _ _)))))))
  refine wpQuiet_nil ?_
  rintro _ ⟨xq, rfl⟩
  have kx := ext_kept W0 xq
  have r0 := kx.some (HR.out.1 0 (by omega)) id
  have r1 := kx.some (HR.out.1 1 (by omega)) id
  have r2 := kx.some (HR.out.1 2 (by omega)) id
  have r3 := kx.some (HR.out.1 3 (by omega)) id
  have z0 := (kx.frozen ⟨w.heap.size, 0, none⟩).trans (HR.out.2 0)
  have z1 := (kx.frozen ⟨w.heap.size, 1, none⟩).trans (HR.out.2 1)
  have z2 := (kx.frozen ⟨w.heap.size, 2, none⟩).trans (HR.out.2 2)
  have z3 := (kx.frozen ⟨w.heap.size, 3, none⟩).trans (HR.out.2 3)
  have K4 := Lib.hid (K0.out.trans kx)
  clear kx A0 A1 A2 A3 B0 B1 B2 B3 B4
  generalize ext _ xq = W4 at *
  go_wp2_with fail
  have cs := cells_set4 (v0 := .float .f32 (spec (fun c => z (q + c)) 0)) (v1 := .float .f32 (spec (fun c => z (q + c)) 1)) (v2 := .float .f32 (spec (fun c => z (q + c)) 2)) (v3 := .float .f32 (spec (fun c => z (q + c)) 3)) r0 r1 r2 r3
  refine bodyPost_ret (px_ret Try.results56 _ _ w.heap.size _ _ _ _ cs.1 cs.2.1 cs.2.2.1 cs.2.2.2 rfl) rfl ?_
  exact ⟨rfl, kept_set4' K4.out (Nat.le_refl _)⟩

set_option linter.unusedSimpArgs false in
set_option linter.unusedVariables false in
set_option maxHeartbeats 4000000 in
set_option maxRecDepth 100000 in
theorem ca1_li (S : Int) (lo hi : Nat) (A : Option Addr) (nc capc : Nat) (spec : (Nat → Nat) → Nat → Nat) (x y W H px py : Int) (b o n cap q : Nat) (z : Nat → Nat) (C Q T : Nat) (w : World) (hE : regE x y W H = 0) (hn : n ≤ cap) (hn6 : n ≤ 65536) (hc : ∀ i, i < n → w.cell? ⟨b, o + i, none⟩ = some (.float .f32 (z i)))
    (hT : w.cell? ⟨T, 0, none⟩ = some (.int .i64 2)) (hC : BxV C ⟨S, lo, hi, A, nc, capc⟩ w) (hQ : FrB x y W H (some ⟨b, o, none⟩) n cap Q w)
    (x1 : x ≤ px) (x2 : px < x + W) (y1 : y ≤ py) (y2 : py < y + H) (hq : (q : Int) = 4 * ((py - y) * W + px - x)) (hqn : q + 4 ≤ n)
    (hS : ∀ (p : Nat → Nat) (wr : World), Kept None' w wr → Calls Try.prog 41 #[.agg #[.int .i64 S, .float .f32 lo, .float .f32 hi, .slice A nc capc], .agg #[.float .f32 (p 0), .float .f32 (p 1), .float .f32 (p 2), .float .f32 (p 3)]] wr (PxIs (spec p) wr)) :
    Calls Try.prog 56 #[.int .i64 px, .int .i64 py, .pointer (some ⟨T, 0, none⟩), .pointer (some ⟨C, 0, none⟩), .pointer (some ⟨Q, 0, none⟩)] w (PxIs (spec (fun c => z (q + c))) w) := by
  have HC := Lib.hid hc
  have HQ := Lib.hid hq
  have HS := Lib.hid hS
  have HE := Lib.hid hE
  obtain ⟨c0, c1, c2, c3⟩ := hC
  obtain ⟨q0, q1, q2, q3, q4⟩ := hQ
  have HQQ := Lib.hid (And.intro q0 (And.intro q1 (And.intro q2 (And.intro q3 q4))))
  have HCC := Lib.hid (And.intro c0 (And.intro c1 (And.intro c2 c3)))
  have tT : ∀ c t, (w.alloc (.cells c t)).cell? ⟨T, 0, none⟩ = some (.int .i64 2) := fun c t => ((Kept.refl None' w).alloc c t).some hT id
  clear hc hq hS hE hT c0 c1 c2 c3 q0 q1 q2 q3 q4
  go_enter Try.func56, Try.ntmps56
  go_upto_region 3 with fail
  refine of_world (fun W0 hW => ?_)
  have k0 : Kept None' w W0 := by rw [hW]; exact (Kept.refl None' w).alloc _ _
  have r : ∀ c, c < 4 → W0.cell? ⟨w.heap.size, c, none⟩ = some (.float .f32 0) := fun c hc => by
    rw [hW]
    obtain rfl | rfl | rfl | rfl : c = 0 ∨ c = 1 ∨ c = 2 ∨ c = 3 := by omega
    all_goals exact cell_alloc_one w _ _ _
  have zz : ∀ c, W0.frozen? ⟨w.heap.size, c, none⟩ = false := fun c => by rw [hW]; exact (frozen?_alloc_cells _ _ _ _).trans (frozen_new _ _ (Nat.le_refl _))
  have A0 := ext_cell (k0.some HCC.out.1 id)
  have A1 := ext_cell (k0.some HCC.out.2.1 id)
  have A2 := ext_cell (k0.some HCC.out.2.2.1 id)
  have A3 := ext_cell (k0.some HCC.out.2.2.2 id)
  have B0 := ext_cell (k0.some HQQ.out.1 id)
  have B1 := ext_cell (k0.some HQQ.out.2.1 id)
  have B2 := ext_cell (k0.some HQQ.out.2.2.1 id)
  have B3 := ext_cell (k0.some HQQ.out.2.2.2.1 id)
  have B4 := ext_cell (k0.some HQQ.out.2.2.2.2 id)
  have HR := Lib.hid (And.intro r zz)
  have K0 := Lib.hid k0
  clear hW k0 r zz tT
  refine region_ext_tail 6 (by kernel_rfl) (by kernel_rfl) ?_
  simp only [List.take_succ_cons, List.take_zero, List.drop_succ_cons, List.drop_zero]
  repeat (first
    | go_big_quiet_skip
    | (go_big_quiet_want; go_big_quiet_op; first | go_big_quiet_on | go_big_quiet_call (first
      | (go_at_call 57; exact calls_ext (pixelat_any x y W H px py b o n cap q z _ HE.out hn hn6 (fun i hi => (ext_kept _ _).some (K0.out.some (HC.out i hi) id) id) x1 x2 y1 y2 HQ.out hqn))
      | (go_at_call 41; exact calls_ext (HS.out (fun c => z (q + c)) _ (K0.out.trans (ext_kept _ _)))))))
  refine wpQuiet_nil ?_
  rintro _ ⟨xq, rfl⟩
  have kx := ext_kept W0 xq
  have r0 := kx.some (HR.out.1 0 (by omega)) id
  have r1 := kx.some (HR.out.1 1 (by omega)) id
  have r2 := kx.some (HR.out.1 2 (by omega)) id
  have r3 := kx.some (HR.out.1 3 (by omega)) id
  have z0 := (kx.frozen ⟨w.heap.size, 0, none⟩).trans (HR.out.2 0)
  have z1 := (kx.frozen ⟨w.heap.size, 1, none⟩).trans (HR.out.2 1)
  have z2 := (kx.frozen ⟨w.heap.size, 2, none⟩).trans (HR.out.2 2)
  have z3 := (kx.frozen ⟨w.heap.size, 3, none⟩).trans (HR.out.2 3)
  have K4 := Lib.hid (K0.out.trans kx)
  clear kx A0 A1 A2 A3 B0 B1 B2 B3 B4
  generalize ext _ xq = W4 at *
  go_wp2_with fail
  have cs := cells_set4 (v0 := .float .f32 (spec (fun c => z (q + c)) 0)) (v1 := .float .f32 (spec (fun c => z (q + c)) 1)) (v2 := .float .f32 (spec (fun c => z (q + c)) 2)) (v3 := .float .f32 (spec (fun c => z (q + c)) 3)) r0 r1 r2 r3
  refine bodyPost_ret (px_ret Try.results56 _ _ w.heap.size _ _ _ _ cs.1 cs.2.1 cs.2.2.1 cs.2.2.2 rfl) rfl ?_
  exact ⟨rfl, kept_set4' K4.out (Nat.le_refl _)⟩

/-- The single of a place of a frame, by a function of its pixel. -/
def caF (spec : (Nat → Nat) → Nat → Nat) (x y W : Int) (z : Nat → Nat) (px py : Int) (c : Nat) : Nat := spec (fun c => z (4 * ((py - y) * W + px - x).toNat + c)) c
theorem ca_same (spec : (Nat → Nat) → Nat → Nat) (x y : Int) (W : Nat) (z : Nat → Nat) (hcl : ∀ p c, spec (fun c => cl .f32 (p c)) c = spec p c) (j : Nat) : madeG (caF spec x y W z) x y W j = spec (fun c => cl .f32 (z (j / 4 * 4 + c))) (j % 4) := by
  unfold madeG caF
  rw [hcl (fun c => z (j / 4 * 4 + c))]
  have h : ((y + ((j / 4 : Nat) : Int) / (W : Int) - y) * (W : Int) + (x + ((j / 4 : Nat) : Int) % (W : Int)) - x).toNat = j / 4 := by
    have h1 := Int.mul_ediv_add_emod ((j / 4 : Nat) : Int) (W : Int)
    rw [Int.mul_comm] at h1
    have h2 : y + ((j / 4 : Nat) : Int) / (W : Int) - y = ((j / 4 : Nat) : Int) / (W : Int) := by omega
    rw [h2]
    generalize ((j / 4 : Nat) : Int) / (W : Int) * (W : Int) = T at *
    generalize ((j / 4 : Nat) : Int) % (W : Int) = U at *
    omega
  rw [h, Nat.mul_comm 4]
theorem ca_mades (spec : (Nat → Nat) → Nat → Nat) (caps : Array Value) (x y W H : Int) (n : Nat) (z : Nat → Nat) (w : World) (hcl : ∀ p c, cl .f32 (spec p c) = spec p c) (hE : regE x y W H = 0) (hn4 : (n : Int) = 4 * W * H)
    (h : ∀ (px py : Int) (q : Nat) (wr : World), Kept None' w wr → x ≤ px → px < x + W → y ≤ py → py < y + H → (q : Int) = 4 * ((py - y) * W + px - x) → q + 4 ≤ n → Calls Try.prog 56 (#[.int .i64 px, .int .i64 py] ++ caps) wr (PxIs (spec (fun c => z (q + c))) wr)) :
    Mades 56 caps (caF spec x y W z) x y W H w := fun px py wr hk x1 x2 y1 y2 =>
  (h px py _ wr hk x1 x2 y1 y2 (pix_in hE hn4 x1 x2 y1 y2).1 (pix_in hE hn4 x1 x2 y1 y2).2).mono fun _ _ ⟨a, b⟩ => ⟨caF spec x y W z px py, a, fun c _ => hcl _ c, b⟩
end Go.Proofs.Ytkmganophcklgaa

namespace Go.Proofs.Ytkmganophcklgaa
open Go.RowKit
open Fl Fr
open BigFrame

/-- A frame's cells. -/
structure FrV where
  x : Int
  y : Int
  W : Int
  H : Int
  A : Option Addr
  m : Nat
  k : Nat
/-- The empty frame. -/
def ErF (f : FrV) : Prop := f = ⟨0, 0, 0, 0, none, 0, 0⟩
/-- A frame and its singles. -/
def OkF (x y W H : Int) (n : Nat) (G : Nat → Nat) (f : FrV) (w : World) : Prop := ∃ B, f = ⟨x, y, W, H, some ⟨B, 0, none⟩, n, n⟩ ∧ ∀ j, j < n → w.cell? ⟨B, j, none⟩ = some (.float .f32 (G j))
/-- A frame of this kind and an error. -/
def FrRes (X : FrV → World → Prop) (ec : Int) (w : World) (e : Ending) (w' : World) : Prop := ∃ c : FrV, e = .returned (.tuple #[.agg #[.int .i64 c.x, .int .i64 c.y, .int .i64 c.W, .int .i64 c.H, .slice c.A c.m c.k], .int .i64 ec]) ∧ X c w' ∧ Kept None' w w'
def FirmF (X : FrV → World → Prop) : Prop := ∀ c w w', X c w → Kept None' w w' → X c w'
theorem firmf_er : FirmF (fun c _ => ErF c) := fun _ _ _ h _ => h
theorem firmf_ok (x y W H : Int) (n : Nat) (G : Nat → Nat) : FirmF (OkF x y W H n G) := fun _ _ _ ⟨B, e, f⟩ k => ⟨B, e, fun j hj => k.some (f j hj) id⟩
theorem err_res {E : Int} {w w' : World} {e : Ending} (h : ErrPost E w e w') : FrRes (fun c _ => ErF c) E w e w' := ⟨⟨0, 0, 0, 0, none, 0, 0⟩, h.1, rfl, h.2⟩
theorem cl_res {x y W H : Int} {n : Nat} {G : Nat → Nat} {w w' : World} {e : Ending} (h : ClIs x y W H n G w e w') : FrRes (OkF x y W H n G) 0 w e w' := by
  obtain ⟨B, -, he, hk, hc⟩ := h
  exact ⟨⟨x, y, W, H, some ⟨B, 0, none⟩, n, n⟩, he, ⟨B, rfl, hc⟩, hk⟩
theorem FrB.step' {x y W H : Int} {A : Option Addr} {n cap Q : Nat} {w w' : World} (h : FrB x y W H A n cap Q w) (k : Kept None' w w') : FrB x y W H A n cap Q w' := h.kept k
/-- The boxes of the law. -/
structure CaB (C T F G D : Nat) (S : Int) (lo hi : Nat) (A : Option Addr) (nc capc : Nat) (how : Int) (x y W H : Int) (Af : Option Addr) (n capf : Nat) (g : FrV) (d : CuV) (w : World) : Prop where
  a0 : w.cell? ⟨C, 0, none⟩ = some (.int .i64 S)
  a1 : w.cell? ⟨C, 1, none⟩ = some (.float .f32 lo)
  a2 : w.cell? ⟨C, 2, none⟩ = some (.float .f32 hi)
  a3 : w.cell? ⟨C, 3, none⟩ = some (.slice A nc capc)
  b0 : w.cell? ⟨T, 0, none⟩ = some (.int .i64 how)
  f : FrB x y W H Af n capf F w
  g : FrB g.x g.y g.W g.H g.A g.m g.k G w
  d : BxV D d w
theorem CaB.step {C T F G D : Nat} {S : Int} {lo hi : Nat} {A : Option Addr} {nc capc : Nat} {how : Int} {x y W H : Int} {Af : Option Addr} {n capf : Nat} {g : FrV} {d : CuV} {w w' : World} (h : CaB C T F G D S lo hi A nc capc how x y W H Af n capf g d w) (k : Kept None' w w') : CaB C T F G D S lo hi A nc capc how x y W H Af n capf g d w' :=
  ⟨k.some h.a0 id, k.some h.a1 id, k.some h.a2 id, k.some h.a3 id, k.some h.b0 id, h.f.kept k, h.g.kept k, h.d.step k⟩
abbrev cell4 (W0 : World) (p0 p1 p2 p3 : Addr) (v0 v1 v2 v3 : Value) (w' : World) : Prop := Kept None' W0 w' ∧ w'.cell? p0 = some v0 ∧ w'.cell? p1 = some v1 ∧ w'.cell? p2 = some v2 ∧ w'.cell? p3 = some v3
theorem cell4_kept {W0 : World} {p0 p1 p2 p3 : Addr} {v0 v1 v2 v3 : Value} {w w' : World} (h : cell4 W0 p0 p1 p2 p3 v0 v1 v2 v3 w) (k : Kept None' w w') : cell4 W0 p0 p1 p2 p3 v0 v1 v2 v3 w' := by
  obtain ⟨a, b, c, d, e⟩ := h
  exact ⟨a.trans k, k.some b id, k.some c id, k.some d id, k.some e id⟩
abbrev cell9 (W0 : World) (p0 p1 p2 p3 p4 p5 p6 p7 p8 : Addr) (v0 v1 v2 v3 v4 v5 v6 v7 v8 : Value) (w' : World) : Prop := Kept None' W0 w' ∧ w'.cell? p0 = some v0 ∧ w'.cell? p1 = some v1 ∧ w'.cell? p2 = some v2 ∧ w'.cell? p3 = some v3 ∧ w'.cell? p4 = some v4 ∧ w'.cell? p5 = some v5 ∧ w'.cell? p6 = some v6 ∧ w'.cell? p7 = some v7 ∧ w'.cell? p8 = some v8
theorem cell9_kept {W0 : World} {p0 p1 p2 p3 p4 p5 p6 p7 p8 : Addr} {v0 v1 v2 v3 v4 v5 v6 v7 v8 : Value} {w w' : World} (h : cell9 W0 p0 p1 p2 p3 p4 p5 p6 p7 p8 v0 v1 v2 v3 v4 v5 v6 v7 v8 w) (k : Kept None' w w') : cell9 W0 p0 p1 p2 p3 p4 p5 p6 p7 p8 v0 v1 v2 v3 v4 v5 v6 v7 v8 w' := by
  obtain ⟨a, b, c, d, e, f, g, i, j, l⟩ := h
  exact ⟨a.trans k, k.some b id, k.some c id, k.some d id, k.some e id, k.some f id, k.some g id, k.some i id, k.some j id, k.some l id⟩

set_option linter.unusedSimpArgs false in
set_option linter.unusedVariables false in
set_option maxHeartbeats 8000000 in
set_option maxRecDepth 100000 in
theorem ca_gen (S : Int) (lo hi : Nat) (A : Option Addr) (nc capc : Nat) (how N : Int) (x y W H : Int) (Af : Option Addr) (n capf : Nat) (w : World) (Ea Ef bi E ea ei : Int) (Xg : FrV → World → Prop) (Xd : CuV → World → Prop)
    (hnc : nc ≤ 9223372036854775807) (hEa : cuE S lo hi nc = Ea) (hbi : (if (!inB how 1 2) = true then (1 : Int) else 0) = bi) (hEf : frE x y W H n = Ef) (hE : (if Ea ≠ 0 then Ea else if bi ≠ 0 then bi else Ef) = E)
    (fg : FirmF Xg) (fd : Firm Xd)
    (hAp : ∀ w', Kept None' w w' → Calls Try.prog 49 #[.agg #[.int .i64 S, .float .f32 lo, .float .f32 hi, .slice A nc capc], .int .i64 how, .agg #[.int .i64 x, .int .i64 y, .int .i64 W, .int .i64 H, .slice Af n capf]] w' (FrRes Xg ea w'))
    (hId : ∀ w', Kept None' w w' → Calls Try.prog 50 #[.int .i64 N] w' (CuRes Xd ei w'))
    (hPI : (inB N 2 17 = false ∧ ei = 3 ∧ ∀ c W, Xd c W → ErP c) ∨ (inB N 2 17 = true ∧ ei = 0 ∧ ∃ (nG : Nat) (Gd : Nat → Nat), (∀ c W, Xd c W → OkP N 0 1065353216 nG Gd c W) ∧ nG ≤ 65536 ∧ ∀ W, Calls Try.prog 51 #[.int .i64 N] W (CuMade N 0 1065353216 nG Gd W)))
    (hPF : (¬ E = 0 ∧ ea = E ∧ ∀ f W2, Xg f W2 → ErF f) ∨ (E = 0 ∧ ea = 0 ∧ decide (400 < n) = true) ∨ (E = 0 ∧ ea = 0 ∧ decide (400 < n) = false ∧ ∃ (Gf : Nat → Nat), (∀ f W2, Xg f W2 → OkF x y W H n Gf f W2) ∧ n ≤ 65536 ∧ ∀ (C Q T : Nat) (W' : World), Kept None' w W' → BxV C ⟨S, lo, hi, A, nc, capc⟩ W' → FrB x y W H Af n capf Q W' → W'.cell? ⟨T, 0, none⟩ = some (.int .i64 how) →
      Calls Try.prog 55 #[.agg #[.int .i64 x, .int .i64 y, .int .i64 W, .int .i64 H], .func (.func 56) #[] #[.pointer (some ⟨T, 0, none⟩), .pointer (some ⟨C, 0, none⟩), .pointer (some ⟨Q, 0, none⟩)]] W' (FrMade x y W H n Gf W'))) :
    Calls Try.prog 8 #[.agg #[.int .i64 S, .float .f32 lo, .float .f32 hi, .slice A nc capc], .int .i64 how, .int .i64 N, .agg #[.int .i64 x, .int .i64 y, .int .i64 W, .int .i64 H, .slice Af n capf]] w fun e w' => e = .returned (.bool true) ∧ Kept None' w w' := by
  have HAp := Lib.hid hAp
  have HId := Lib.hid hId
  have HEa := Lib.hid hEa
  have HEf := Lib.hid hEf
  have HE := Lib.hid hE
  have HBI := Lib.hid hbi
  have HFm := Lib.hid (And.intro fg fd)
  have HPI := Lib.hid hPI
  have HPF := Lib.hid hPF
  clear hAp hId hEa hEf hE hbi fg fd hPI hPF
  go_enter Try.func8, Try.ntmps8
  go_upto_region 1 with fail
  refine of_world (fun W0 hW => ?_)
  have k0 : Kept None' w W0 := by rw [hW]; exact (((Kept.refl None' w).alloc _ _).alloc _ _).alloc _ _
  have a0 : W0.cell? ⟨w.heap.size, 0, none⟩ = some (.int .i64 S) := by rw [hW]; go_simp
  have a1 : W0.cell? ⟨w.heap.size, 1, none⟩ = some (.float .f32 lo) := by rw [hW]; go_simp
  have a2 : W0.cell? ⟨w.heap.size, 2, none⟩ = some (.float .f32 hi) := by rw [hW]; go_simp
  have a3 : W0.cell? ⟨w.heap.size, 3, none⟩ = some (.slice A nc capc) := by rw [hW]; go_simp
  have b0 : W0.cell? ⟨w.heap.size + 1, 0, none⟩ = some (.int .i64 how) := by rw [hW]; go_simp
  have f0 : W0.cell? ⟨w.heap.size + 1 + 1, 0, none⟩ = some (.int .i64 x) := by rw [hW]; go_simp
  have f1 : W0.cell? ⟨w.heap.size + 1 + 1, 1, none⟩ = some (.int .i64 y) := by rw [hW]; go_simp
  have f2 : W0.cell? ⟨w.heap.size + 1 + 1, 2, none⟩ = some (.int .i64 W) := by rw [hW]; go_simp
  have f3 : W0.cell? ⟨w.heap.size + 1 + 1, 3, none⟩ = some (.int .i64 H) := by rw [hW]; go_simp
  have f4 : W0.cell? ⟨w.heap.size + 1 + 1, 4, none⟩ = some (.slice Af n capf) := by rw [hW]; go_simp
  generalize w.heap.size + 1 + 1 = F at *
  generalize w.heap.size + 1 = T at *
  generalize w.heap.size = C at *
  have HB0 := Lib.hid (And.intro a0 (And.intro a1 (And.intro a2 (And.intro a3 (And.intro b0 (And.intro f0 (And.intro f1 (And.intro f2 (And.intro f3 f4)))))))))
  have K0 := Lib.hid k0
  clear hW k0
  go_upto_region 2 with (go_at_call 49; refine (HAp.out _ K0.out).mono ?_; rintro e w1 ⟨g, rfl, hX, hk⟩)
  refine of_world (fun W1 hW => ?_)
  have k1 : Kept None' w1 W1 := by rw [hW]; exact (Kept.refl _ _).alloc _ _
  have hg1 : FrB g.x g.y g.W g.H g.A g.m g.k w1.heap.size W1 := by rw [hW]; exact ⟨by go_simp, by go_simp, by go_simp, by go_simp, by go_simp⟩
  have HX1 := Lib.hid (HFm.out.1 _ _ _ hX k1)
  have KA := Lib.hid (hk.trans k1)
  generalize w1.heap.size = G at *
  have HG1 := Lib.hid hg1
  clear hW hk k1 hX hg1 a0 a1 a2 a3 b0 f0 f1 f2 f3 f4
  go_upto_region 3 with (go_at_call 50; refine (HId.out _ (K0.out.trans KA.out)).mono ?_; rintro e w2 ⟨d, rfl, hX, hk⟩)
  refine of_world (fun W3 hW => ?_)
  have k2 : Kept None' w2 W3 := by rw [hW]; exact (Kept.refl _ _).alloc _ _
  have hd1 : BxV w2.heap.size d W3 := by rw [hW]; exact ⟨by go_simp, by go_simp, by go_simp, by go_simp⟩
  have hX2 := HFm.out.2 _ _ _ hX k2
  have kb := hk.trans k2
  generalize w2.heap.size = D at *
  have kab := KA.out.trans kb
  have h0 := HB0.out
  have hBB : CaB C T F G D S lo hi A nc capc how x y W H Af n capf g d W3 := ⟨kab.some h0.1 id, kab.some h0.2.1 id, kab.some h0.2.2.1 id, kab.some h0.2.2.2.1 id, kab.some h0.2.2.2.2.1 id, ⟨kab.some h0.2.2.2.2.2.1 id, kab.some h0.2.2.2.2.2.2.1 id, kab.some h0.2.2.2.2.2.2.2.1 id, kab.some h0.2.2.2.2.2.2.2.2.1 id, kab.some h0.2.2.2.2.2.2.2.2.2 id⟩, HG1.out.kept kb, hd1⟩
  have HX3 := Lib.hid (And.intro (HFm.out.1 _ _ _ HX1.out kb) hX2)
  have K3 := Lib.hid (K0.out.trans kab)
  have HB3 := Lib.hid hBB
  clear hW hk k2 hX hd1 hX2 kb kab h0 hBB HX1 HG1 HB0 KA K0
  go_upto_region 5 with (go_at_call 16; refine (cubes_any _).mono ?_; rintro e w6 ⟨rfl, hk⟩; have HB6 := Lib.hid (HB3.out.step hk); have HX6 := Lib.hid (And.intro (HFm.out.1 _ _ _ HX3.out.1 hk) (HFm.out.2 _ _ _ HX3.out.2 hk)); have K6 := Lib.hid (K3.out.trans hk); clear hk)
  clear HB3 HX3 K3
  obtain ⟨a0, a1, a2, a3, b0, ⟨f0, f1, f2, f3, f4⟩, hg, ⟨d0, d1, d2, d3⟩⟩ := HB6.out
  rcases HPI.out with ⟨hin, hei, hd⟩ | ⟨hin, hei, nG, Gd, hd, hnG, hMo⟩
  · have hd := hd d w6 HX6.out.2
    unfold ErP at hd
    subst hd hei
    go_upto_region 10 with (first
      | (go_at_call 15; refine (in_one _ _ _ _).mono ?_; rw [hin]; rintro e w' ⟨rfl, rfl⟩)
      | (go_at_call 17; refine (nocube_zero _).mono ?_; rintro e w8 ⟨rfl, hk8⟩))
    have K8 := Lib.hid hk8
    clear hk8 d0 d1 d2 d3 hin hg
    have HB8 := Lib.hid (HB6.out.step K8.out)
    have HX8 := Lib.hid (HFm.out.1 _ _ _ HX6.out.1 K8.out)
    have K9 := Lib.hid (K6.out.trans K8.out)
    clear a0 a1 a2 a3 b0 f0 f1 f2 f3 f4 HB6 HX6 K6 K8
    obtain ⟨a0, a1, a2, a3, b0, ⟨f0, f1, f2, f3, f4⟩, hg, -⟩ := HB8.out
    go_upto_region 10 with fail
    have A0 := ext_cell a0
    have A1 := ext_cell a1
    have A2 := ext_cell a2
    have A3 := ext_cell a3
    have B0 := ext_cell b0
    have F0 := ext_cell f0
    have F1 := ext_cell f1
    have F2 := ext_cell f2
    have F3 := ext_cell f3
    have F4 := ext_cell f4
    refine region_ext_tail 8 (by kernel_rfl) (by kernel_rfl) ?_
    simp only [List.take_succ_cons, List.take_zero, List.drop_succ_cons, List.drop_zero]
    repeat (first
      | go_big_quiet_skip
      | (go_big_quiet_want; go_big_quiet_op; first | go_big_quiet_on | go_big_quiet_call (first
        | (go_at_call 13; exact calls_ext ((cubeerror_any _ _ _ _ _ _ _ (by assumption)).mono fun e w' ⟨a, b⟩ => ⟨by rw [a, HEa.out], b⟩))
        | (go_at_call 15; exact calls_ext_same (in_one _ _ _ _))
        | (go_at_call 14; exact calls_ext_same ((when_any _ _ _).mono fun e w' ⟨a, b⟩ => ⟨by rw [a, HBI.out], b⟩))
        | (go_at_call 52; exact calls_ext ((frameerror_any _ _ _ _ _ _ _ _).mono fun e w' ⟨a, b⟩ => ⟨by rw [a, HEf.out], b⟩)))))
    refine wpQuiet_nil ?_
    rintro _ ⟨xq, rfl⟩
    clear A0 A1 A2 A3 B0 F0 F1 F2 F3 F4 a0 a1 a2 a3 b0 f0 f1 f2 f3 f4 hg
    have kx := ext_kept w8 xq
    have HB10 := Lib.hid (HB8.out.step kx)
    have HX10 := Lib.hid (HFm.out.1 _ _ _ HX8.out kx)
    have K10 := Lib.hid (K9.out.trans kx)
    clear kx HB8 HX8 K9
    generalize ext w8 xq = W10 at *
    go_upto_region 11 with (go_at_call 12; refine (first3_any _ _ Ea bi Ef _ (by go_simp) (by go_simp) (by go_simp)).mono ?_; rw [HE.out]; rintro e w' ⟨rfl, rfl⟩)
    refine of_world (fun W11 hW => ?_)
    have k11 : Kept None' W10 W11 := by rw [hW]; exact (Kept.refl _ _).alloc _ _
    have HB11 := Lib.hid (HB10.out.step k11)
    have HX11 := Lib.hid (HFm.out.1 _ _ _ HX10.out k11)
    have K11 := Lib.hid (K10.out.trans k11)
    clear hW k11 HB10 HX10 K10
    obtain ⟨a0, a1, a2, a3, b0, ⟨f0, f1, f2, f3, f4⟩, ⟨g0, g1, g2, g3, g4⟩, -⟩ := HB11.out
    rcases HPF.out with ⟨hE0, hea, hg⟩ | ⟨hE0, hea, hl⟩ | ⟨hE0, hea, hl, Gf, hg, hn6, hMd⟩
    · have hg := hg g W11 HX11.out
      unfold ErF at hg
      subst hg
      subst hea
      have y1 : (ea != 0) = true := by simp [hE0]
      clear hE0 a0 a1 a2 a3 b0 f0 f1 f2 f3 f4
      go_wp2_with (go_at_call 53; refine (none_zero _).mono ?_; rintro e w12 ⟨rfl, hk12⟩)
      go_ret
      exact ⟨rfl, K11.out.trans hk12⟩
    · subst hE0 hea
      have hl1 : 400 < n := of_decide_eq_true hl
      have hl2 : decide (400 < (n : Int)) = true := decide_eq_true (by omega)
      clear a0 a1 a2 a3 b0 f0 f1 f2 f3 g0 g1 g2 g3 g4
      go_wp2_with fail
      go_ret
      exact ⟨rfl, K11.out⟩
    · obtain ⟨B, hg, hcc⟩ := hg g W11 HX11.out
      subst hg hE0 hea
      have hl1 : ¬ 400 < n := of_decide_eq_false hl
      have hl2 : decide (400 < (n : Int)) = false := decide_eq_false (by omega)
      have HCC := Lib.hid hcc
      have HMd := Lib.hid (fun (W' : World) (hk : Kept None' W11 W') => hMd C F T W' (K11.out.trans hk) ⟨hk.some a0 id, hk.some a1 id, hk.some a2 id, hk.some a3 id⟩ ⟨hk.some f0 id, hk.some f1 id, hk.some f2 id, hk.some f3 id, hk.some f4 id⟩ (hk.some b0 id))
      clear hMd hcc a0 a1 a2 a3 b0
      go_upto_region 15 with fail
      have hS : cell9 W11 ⟨F, 0, none⟩ ⟨F, 1, none⟩ ⟨F, 2, none⟩ ⟨F, 3, none⟩ ⟨G, 0, none⟩ ⟨G, 1, none⟩ ⟨G, 2, none⟩ ⟨G, 3, none⟩ ⟨G, 4, none⟩ (.int .i64 x) (.int .i64 y) (.int .i64 W) (.int .i64 H) (.int .i64 x) (.int .i64 y) (.int .i64 W) (.int .i64 H) (.slice (some ⟨B, 0, none⟩) n n) W11 := ⟨Kept.refl _ _, f0, f1, f2, f3, g0, g1, g2, g3, g4⟩
      have HS := Lib.hid hS
      clear hS f0 f1 f2 f3 f4 g0 g1 g2 g3 g4
      go_region_held3 (fun w' => Kept None' W11 w' ∧ w'.cell? ⟨F, 0, none⟩ = some (.int .i64 x) ∧ w'.cell? ⟨F, 1, none⟩ = some (.int .i64 y) ∧ w'.cell? ⟨F, 2, none⟩ = some (.int .i64 W) ∧ w'.cell? ⟨F, 3, none⟩ = some (.int .i64 H) ∧ w'.cell? ⟨G, 0, none⟩ = some (.int .i64 x) ∧ w'.cell? ⟨G, 1, none⟩ = some (.int .i64 y) ∧ w'.cell? ⟨G, 2, none⟩ = some (.int .i64 W) ∧ w'.cell? ⟨G, 3, none⟩ = some (.int .i64 H) ∧ w'.cell? ⟨G, 4, none⟩ = some (.slice (some ⟨B, 0, none⟩) n n))
        (first
          | with_reducible exact cell9_kept HS.out (kept_drew1 _)
          | with_reducible assumption
          | with_reducible exact cell9_kept (by assumption) (by assumption))
        (first
          | (go_simp; go_at_call 55; refine (HMd.out _ (And.left ‹_ ∧ _›)).mono ?_; rintro e w' ⟨B2, cap2, hB2, rfl, hk, hz⟩)
          | (go_simp; go_at_call 54; refine (sameframe_any x y W H B 0 B2 0 n n cap2 Gf _ hn6 (fun j hj => by rw [Nat.zero_add]; exact Kept.some (And.left ‹_ ∧ _›) (HCC.out j hj) id) (fun j hj => by rw [Nat.zero_add, hz j hj])).mono ?_; rintro e w' ⟨rfl, hk⟩))
      all_goals
        go_wp2_with fail
        go_ret
        exact ⟨rfl, K11.out.trans (And.left ‹_ ∧ _›)⟩
  · obtain ⟨B1, cp, hd, hcc⟩ := hd d w6 HX6.out.2
    subst hd hei
    have HCC1 := Lib.hid hcc
    have HMo := Lib.hid hMo
    clear hcc hMo
    go_upto_region 8 with (first
      | (go_at_call 15; refine (in_one _ _ _ _).mono ?_; rw [hin]; rintro e w' ⟨rfl, rfl⟩))
    clear hin hg
    have hS : cell4 w6 ⟨D, 0, none⟩ ⟨D, 1, none⟩ ⟨D, 2, none⟩ ⟨D, 3, none⟩ (.int .i64 N) (.float .f32 0) (.float .f32 1065353216) (.slice (some ⟨B1, 0, none⟩) nG cp) w6 := ⟨Kept.refl _ _, d0, d1, d2, d3⟩
    have HS := Lib.hid hS
    clear hS d0 d1 d2 d3 a0 a1 a2 a3 b0 f0 f1 f2 f3 f4
    go_region_held3 (fun w' => Kept None' w6 w' ∧ w'.cell? ⟨D, 0, none⟩ = some (.int .i64 N) ∧ w'.cell? ⟨D, 1, none⟩ = some (.float .f32 0) ∧ w'.cell? ⟨D, 2, none⟩ = some (.float .f32 1065353216) ∧ w'.cell? ⟨D, 3, none⟩ = some (.slice (some ⟨B1, 0, none⟩) nG cp))
      (first
        | with_reducible exact cell4_kept HS.out (kept_drew1 _)
        | with_reducible assumption
        | with_reducible exact cell4_kept (by assumption) (by assumption))
      (first
        | (go_simp; go_at_call 51; refine (HMo.out _).mono ?_; rintro e w' ⟨B2, cap2, hB2, rfl, hcp, hcp2, hk, hz⟩)
        | (go_simp; go_at_call 22; refine (samecube_same N 0 1065353216 B1 0 B2 0 nG _ _ Gd _ hnG (fun j hj => by rw [Nat.zero_add]; exact Kept.some (And.left ‹_ ∧ _›) (HCC1.out j hj) id) (fun j hj => by rw [Nat.zero_add]; exact hz j hj)).mono ?_; rintro e w' ⟨rfl, hk⟩))
    all_goals
      rename_i h8
      have K8 := Lib.hid h8.1
      obtain ⟨a0, a1, a2, a3, b0, ⟨f0, f1, f2, f3, f4⟩, hg, -⟩ := HB6.out.step K8.out
      clear h8
      have HB8 := Lib.hid (HB6.out.step K8.out)
      have HX8 := Lib.hid (HFm.out.1 _ _ _ HX6.out.1 K8.out)
      have K9 := Lib.hid (K6.out.trans K8.out)
      clear a0 a1 a2 a3 b0 f0 f1 f2 f3 f4 HB6 HX6 K6 K8
      obtain ⟨a0, a1, a2, a3, b0, ⟨f0, f1, f2, f3, f4⟩, hg, -⟩ := HB8.out
      go_upto_region 10 with fail
      have A0 := ext_cell a0
      have A1 := ext_cell a1
      have A2 := ext_cell a2
      have A3 := ext_cell a3
      have B0 := ext_cell b0
      have F0 := ext_cell f0
      have F1 := ext_cell f1
      have F2 := ext_cell f2
      have F3 := ext_cell f3
      have F4 := ext_cell f4
      refine region_ext_tail 8 (by kernel_rfl) (by kernel_rfl) ?_
      simp only [List.take_succ_cons, List.take_zero, List.drop_succ_cons, List.drop_zero]
      repeat (first
        | go_big_quiet_skip
        | (go_big_quiet_want; go_big_quiet_op; first | go_big_quiet_on | go_big_quiet_call (first
          | (go_at_call 13; exact calls_ext ((cubeerror_any _ _ _ _ _ _ _ (by assumption)).mono fun e w' ⟨a, b⟩ => ⟨by rw [a, HEa.out], b⟩))
          | (go_at_call 15; exact calls_ext_same (in_one _ _ _ _))
          | (go_at_call 14; exact calls_ext_same ((when_any _ _ _).mono fun e w' ⟨a, b⟩ => ⟨by rw [a, HBI.out], b⟩))
          | (go_at_call 52; exact calls_ext ((frameerror_any _ _ _ _ _ _ _ _).mono fun e w' ⟨a, b⟩ => ⟨by rw [a, HEf.out], b⟩)))))
      refine wpQuiet_nil ?_
      rintro _ ⟨xq, rfl⟩
      clear A0 A1 A2 A3 B0 F0 F1 F2 F3 F4 a0 a1 a2 a3 b0 f0 f1 f2 f3 f4 hg
      have kx := ext_kept w' xq
      have HB10 := Lib.hid (HB8.out.step kx)
      have HX10 := Lib.hid (HFm.out.1 _ _ _ HX8.out kx)
      have K10 := Lib.hid (K9.out.trans kx)
      clear kx HB8 HX8 K9
      generalize ext w' xq = W10 at *
      go_upto_region 11 with (go_at_call 12; refine (first3_any _ _ Ea bi Ef _ (by go_simp) (by go_simp) (by go_simp)).mono ?_; rw [HE.out]; rintro e w' ⟨rfl, rfl⟩)
      refine of_world (fun W11 hW => ?_)
      have k11 : Kept None' W10 W11 := by rw [hW]; exact (Kept.refl _ _).alloc _ _
      have HB11 := Lib.hid (HB10.out.step k11)
      have HX11 := Lib.hid (HFm.out.1 _ _ _ HX10.out k11)
      have K11 := Lib.hid (K10.out.trans k11)
      clear hW k11 HB10 HX10 K10
      obtain ⟨a0, a1, a2, a3, b0, ⟨f0, f1, f2, f3, f4⟩, ⟨g0, g1, g2, g3, g4⟩, -⟩ := HB11.out
      rcases HPF.out with ⟨hE0, hea, hg⟩ | ⟨hE0, hea, hl⟩ | ⟨hE0, hea, hl, Gf, hg, hn6, hMd⟩
      · have hg := hg g W11 HX11.out
        unfold ErF at hg
        subst hg
        subst hea
        have y1 : (ea != 0) = true := by simp [hE0]
        clear hE0 a0 a1 a2 a3 b0 f0 f1 f2 f3 f4
        go_wp2_with (go_at_call 53; refine (none_zero _).mono ?_; rintro e w12 ⟨rfl, hk12⟩)
        go_ret
        exact ⟨rfl, K11.out.trans hk12⟩
      · subst hE0 hea
        have hl1 : 400 < n := of_decide_eq_true hl
        have hl2 : decide (400 < (n : Int)) = true := decide_eq_true (by omega)
        clear a0 a1 a2 a3 b0 f0 f1 f2 f3 g0 g1 g2 g3 g4
        go_wp2_with fail
        go_ret
        exact ⟨rfl, K11.out⟩
      · obtain ⟨B, hg, hcc⟩ := hg g W11 HX11.out
        subst hg hE0 hea
        have hl1 : ¬ 400 < n := of_decide_eq_false hl
        have hl2 : decide (400 < (n : Int)) = false := decide_eq_false (by omega)
        have HCC := Lib.hid hcc
        have HMd := Lib.hid (fun (W' : World) (hk : Kept None' W11 W') => hMd C F T W' (K11.out.trans hk) ⟨hk.some a0 id, hk.some a1 id, hk.some a2 id, hk.some a3 id⟩ ⟨hk.some f0 id, hk.some f1 id, hk.some f2 id, hk.some f3 id, hk.some f4 id⟩ (hk.some b0 id))
        clear hMd hcc a0 a1 a2 a3 b0
        go_upto_region 15 with fail
        have hS : cell9 W11 ⟨F, 0, none⟩ ⟨F, 1, none⟩ ⟨F, 2, none⟩ ⟨F, 3, none⟩ ⟨G, 0, none⟩ ⟨G, 1, none⟩ ⟨G, 2, none⟩ ⟨G, 3, none⟩ ⟨G, 4, none⟩ (.int .i64 x) (.int .i64 y) (.int .i64 W) (.int .i64 H) (.int .i64 x) (.int .i64 y) (.int .i64 W) (.int .i64 H) (.slice (some ⟨B, 0, none⟩) n n) W11 := ⟨Kept.refl _ _, f0, f1, f2, f3, g0, g1, g2, g3, g4⟩
        have HS := Lib.hid hS
        clear hS f0 f1 f2 f3 f4 g0 g1 g2 g3 g4
        go_region_held3 (fun w' => Kept None' W11 w' ∧ w'.cell? ⟨F, 0, none⟩ = some (.int .i64 x) ∧ w'.cell? ⟨F, 1, none⟩ = some (.int .i64 y) ∧ w'.cell? ⟨F, 2, none⟩ = some (.int .i64 W) ∧ w'.cell? ⟨F, 3, none⟩ = some (.int .i64 H) ∧ w'.cell? ⟨G, 0, none⟩ = some (.int .i64 x) ∧ w'.cell? ⟨G, 1, none⟩ = some (.int .i64 y) ∧ w'.cell? ⟨G, 2, none⟩ = some (.int .i64 W) ∧ w'.cell? ⟨G, 3, none⟩ = some (.int .i64 H) ∧ w'.cell? ⟨G, 4, none⟩ = some (.slice (some ⟨B, 0, none⟩) n n))
          (first
            | with_reducible exact cell9_kept HS.out (kept_drew1 _)
            | with_reducible assumption
            | with_reducible exact cell9_kept (by assumption) (by assumption))
          (first
            | (go_simp; go_at_call 55; refine (HMd.out _ (And.left ‹_ ∧ _›)).mono ?_; rintro e w' ⟨B2, cap2, hB2, rfl, hk, hz⟩)
            | (go_simp; go_at_call 54; refine (sameframe_any x y W H B 0 B2 0 n n cap2 Gf _ hn6 (fun j hj => by rw [Nat.zero_add]; exact Kept.some (And.left ‹_ ∧ _›) (HCC.out j hj) id) (fun j hj => by rw [Nat.zero_add, hz j hj])).mono ?_; rintro e w' ⟨rfl, hk⟩))
        all_goals
          go_wp2_with fail
          go_ret
          exact ⟨rfl, K11.out.trans (And.left ‹_ ∧ _›)⟩
theorem teP_can (E : Int → Int → Int → Nat → Nat) (S : Int) (lo hi : Nat) (p : Nat → Nat) (c : Nat) : cl .f32 (teP E S lo hi p c) = teP E S lo hi p c := teP_canon3 E S lo hi p c (fun _ _ _ _ => Or.inr trivial)
theorem liP_can (E : Int → Int → Int → Nat → Nat) (S : Int) (lo hi : Nat) (p : Nat → Nat) (c : Nat) : cl .f32 (liP E S lo hi p c) = liP E S lo hi p c := by
  unfold liP
  split
  · exact cl_cl _ _
  · split
    · exact cl_nan (nan_qn _)
    · exact lerpP_canon ..
set_option linter.unusedSimpArgs false in
set_option linter.unusedVariables false in
set_option maxHeartbeats 4000000 in
set_option maxRecDepth 100000 in
theorem walk_cubesApply (S : Int) (lo hi : Nat) (A : Option Addr) (nc capc : Nat) (g : Nat → Nat) (how N : Int) (x y W H : Int) (Af : Option Addr) (n cap : Nat) (z : Nat → Nat) (w : World)
    (_ : (Lit.int .i64 S).wf = true) (hcapc : nc ≤ capc) (hcapc2 : capc ≤ maxLen) (hrc : Rd w A nc (fun i => .float .f32 (g i))) (_ : ∀ i, (Lit.float .f32 (g i)).wf = true) (_ : (Lit.int .i64 how).wf = true) (_ : (Lit.int .i64 N).wf = true)
    (_ : (Lit.int .i64 x).wf = true) (_ : (Lit.int .i64 y).wf = true) (_ : (Lit.int .i64 W).wf = true) (_ : (Lit.int .i64 H).wf = true) (hcap : n ≤ cap) (hcap2 : cap ≤ maxLen) (hrf : Rd w Af n (fun i => .float .f32 (z i))) (_ : ∀ i, (Lit.float .f32 (z i)).wf = true) :
    Calls Try.prog 8 #[.agg #[.int .i64 S, .float .f32 lo, .float .f32 hi, .slice A nc capc], .int .i64 how, .int .i64 N, .agg #[.int .i64 x, .int .i64 y, .int .i64 W, .int .i64 H, .slice Af n cap]] w fun e w' => e = .returned (.bool true) ∧ Kept None' w w' := by
  have hnc : nc ≤ 9223372036854775807 := by unfold maxLen at hcapc2; omega
  obtain ⟨Ea, hEa⟩ : ∃ E, cuE S lo hi nc = E := ⟨_, rfl⟩
  obtain ⟨Ef, hEf⟩ : ∃ E, frE x y W H n = E := ⟨_, rfl⟩
  obtain ⟨Xd, ei, fd, hId, hPI⟩ : ∃ (Xd : CuV → World → Prop) (ei : Int), Firm Xd ∧ (∀ w', Kept None' w w' → Calls Try.prog 50 #[.int .i64 N] w' (CuRes Xd ei w')) ∧
      ((inB N 2 17 = false ∧ ei = 3 ∧ ∀ c W, Xd c W → ErP c) ∨ (inB N 2 17 = true ∧ ei = 0 ∧ ∃ (nG : Nat) (Gd : Nat → Nat), (∀ c W, Xd c W → OkP N 0 1065353216 nG Gd c W) ∧ nG ≤ 65536 ∧ ∀ W, Calls Try.prog 51 #[.int .i64 N] W (CuMade N 0 1065353216 nG Gd W))) := by
    cases hi' : inB N 2 17 with
    | false => exact ⟨fun c _ => ErP c, 3, firm_er, fun w' _ => (identity_no N w' hi').mono fun _ _ h => cuErr_res h, .inl ⟨rfl, rfl, fun _ _ h => h⟩⟩
    | true =>
      have h2 : 2 ≤ N ∧ N ≤ 17 := by unfold inB at hi'; simp at hi'; omega
      obtain ⟨M, rfl⟩ := Int.eq_ofNat_of_zero_le (show 0 ≤ N by omega)
      have m1 : 2 ≤ M := by omega
      have m2 : M ≤ 17 := by omega
      have m3 := (cube_nat m2).2
      exact ⟨OkP M 0 1065353216 (3 * (M * (M * M))) (cubG (idF M) M), 0, firm_ok _ _ _ _ _, fun w' _ => (identity_yes M w' m1 m2).mono fun _ _ h => cuPost_res h, .inr ⟨rfl, rfl, _, _, fun _ _ h => h, by omega, fun W2 => idof_any M W2 m1 m2⟩⟩
  by_cases h1 : Ea = 0
  · by_cases h2 : how = 1 ∨ how = 2
    · by_cases h3 : Ef = 0
      · subst h1 h3
        obtain ⟨s, rfl, s1, s2, hsn, hsn3, hs4⟩ := cuE_nat hEa
        have hpa : 0 < nc := by rw [hsn3]; exact Nat.mul_pos (by omega) (Nat.mul_pos (by omega) (Nat.mul_pos (by omega) (by omega)))
        obtain ⟨bc, oc, rfl, hcg⟩ := hrc hpa
        obtain ⟨hr, hn⟩ := frE_ok hEf
        obtain ⟨w1', w2', w3', w4', w5'⟩ := regE_ok hr
        have w6 := (mul_bd w1' w2' w3' w4').1
        have w7 : 4 * W * H = 4 * (W * H) := Int.mul_assoc ..
        obtain ⟨b, o, rfl, hcz⟩ := hrf (by omega)
        have hn6 : n ≤ 65536 := by omega
        obtain ⟨W', rfl⟩ := Int.eq_ofNat_of_zero_le (show 0 ≤ W by omega)
        obtain ⟨H', rfl⟩ := Int.eq_ofNat_of_zero_le (show 0 ≤ H by omega)
        have hn4 : (n : Int) = 4 * W' * H' := hn
        have hnn : n = 4 * (W' * H') := by
          have h1 : ((4 * (W' * H') : Nat) : Int) = 4 * W' * H' := by rw [Int.natCast_mul, Int.natCast_mul, Int.mul_assoc]; rfl
          omega
        clear hn w6 w7
        rcases h2 with rfl | rfl
        · skip
          have hT : ∀ (p : Nat → Nat) (wr : World), Kept None' w wr → Calls Try.prog 86 #[.agg #[.int .i64 (s : Int), .float .f32 lo, .float .f32 hi, .slice (some ⟨bc, oc, none⟩) nc capc], .agg #[.float .f32 (p 0), .float .f32 (p 1), .float .f32 (p 2), .float .f32 (p 3)]] wr (PxIs (teP (entE g s) s lo hi p) wr) := fun p wr hk => tetra_any s lo hi bc oc nc capc (entE g s) p wr (by omega) (by omega) (fun x y u wr2 hk2 => entry_E s lo hi bc oc nc capc g w hsn (by omega) (by omega) hcg hcapc x y u wr2 (hk.trans hk2))
          have hTo : ∀ (p : Nat → Nat) (wr : World), Kept None' w wr → Calls Try.prog 40 #[.agg #[.int .i64 (s : Int), .float .f32 lo, .float .f32 hi, .slice (some ⟨bc, oc, none⟩) nc capc], .agg #[.float .f32 (p 0), .float .f32 (p 1), .float .f32 (p 2), .float .f32 (p 3)]] wr (PxIs (teP (entE g s) s lo hi p) wr) := fun p wr hk => by
            refine (tetraof_any s lo hi bc oc nc capc (entF g s) p wr (by omega) (by omega) (fun _ _ _ _ => cl_cl _ _) (fun x y u wr2 hk2 => entryof_E s lo hi bc oc nc capc g w hsn (by omega) (by omega) hcg hcapc x y u wr2 (hk.trans hk2))).mono fun e w' h => ?_
            have e1 : ∀ c, teP (entF g s) s lo hi p c = teP (entE g s) s lo hi p c := fun c => teP_cl _ _ _ _ _ _
            unfold PxIs at h ⊢
            rw [e1, e1, e1, e1] at h
            exact h
          refine ca_gen s lo hi _ nc capc 1 N x y (W' : Int) (H' : Int) _ n cap w 0 0 0 0 0 ei (OkF x y W' H' n (fun j => teP (entE g s) s lo hi (fun c => cl .f32 (z (j / 4 * 4 + c))) (j % 4))) Xd hnc hEa (by decide) hEf rfl (firmf_ok _ _ _ _ _ _) fd
            (fun w' hk => (apply_tetra s lo hi bc oc nc capc g x y W' H' b o n cap z w' (by omega) hEa (by omega) (by omega) hEf hr hn4 hcap hn6 (fun i hi => hk.some (hcz i hi) id) (fun p wr hk2 => hT p wr (hk.trans hk2))).mono fun _ _ h => cl_res h) hId hPI (.inr ?_)
          cases hd : decide (400 < n) with
          | true => exact .inl ⟨rfl, rfl, rfl⟩
          | false =>
            refine .inr ⟨rfl, rfl, rfl, _, fun _ _ h => h, hn6, fun C Q T W2 hk hC hQ hTT => ?_⟩
            have hM := made_gen x y W' H' 56 #[.pointer (some ⟨T, 0, none⟩), .pointer (some ⟨C, 0, none⟩), .pointer (some ⟨Q, 0, none⟩)] (caF (fun p => teP (entE g s) s lo hi p) x y W' z) W2 hr Try.call56
              (ca_mades (fun p => teP (entE g s) s lo hi p) _ x y W' H' n z W2 (fun p c => teP_can _ _ _ _ _ _) hr hn4 (fun px py q wr hk2 x1 x2 y1 y2 hq hqn => ca1_te s lo hi _ nc capc (fun p => teP (entE g s) s lo hi p) x y W' H' px py b o n cap q z C Q T wr hr hcap hn6 (fun i hi => (hk.trans hk2).some (hcz i hi) id) (hk2.some hTT id) (hC.step hk2) (hQ.kept hk2) x1 x2 y1 y2 hq hqn (fun p wr2 hk3 => hTo p wr2 ((hk.trans hk2).trans hk3))))
            rw [← hnn] at hM
            exact hM.mono fun _ _ ⟨B, c, h1, h2, h3, h4⟩ => ⟨B, c, h1, h2, h3, fun j hj => by rw [h4 j hj, ca_same _ x y W' z (fun p c => teP_clp _ _ _ _ _ _)]⟩

        · skip
          have hT : ∀ (p : Nat → Nat) (wr : World), Kept None' w wr → Calls Try.prog 87 #[.agg #[.int .i64 (s : Int), .float .f32 lo, .float .f32 hi, .slice (some ⟨bc, oc, none⟩) nc capc], .agg #[.float .f32 (p 0), .float .f32 (p 1), .float .f32 (p 2), .float .f32 (p 3)]] wr (PxIs (liP (entE g s) s lo hi p) wr) := fun p wr hk => linear_any s lo hi bc oc nc capc (entE g s) p wr (by omega) (by omega) (fun x y u wr2 hk2 => entry_E s lo hi bc oc nc capc g w hsn (by omega) (by omega) hcg hcapc x y u wr2 (hk.trans hk2))
          have hTo : ∀ (p : Nat → Nat) (wr : World), Kept None' w wr → Calls Try.prog 41 #[.agg #[.int .i64 (s : Int), .float .f32 lo, .float .f32 hi, .slice (some ⟨bc, oc, none⟩) nc capc], .agg #[.float .f32 (p 0), .float .f32 (p 1), .float .f32 (p 2), .float .f32 (p 3)]] wr (PxIs (liP (entE g s) s lo hi p) wr) := fun p wr hk => by
            refine (linearof_any s lo hi bc oc nc capc (entF g s) p wr (by omega) (by omega) (fun x y u wr2 hk2 => entryof_E s lo hi bc oc nc capc g w hsn (by omega) (by omega) hcg hcapc x y u wr2 (hk.trans hk2))).mono fun e w' h => ?_
            have e1 : ∀ c, liP (entF g s) s lo hi p c = liP (entE g s) s lo hi p c := fun c => liP_cl _ _ _ _ _ _
            unfold PxIs at h ⊢
            rw [e1, e1, e1, e1] at h
            exact h
          refine ca_gen s lo hi _ nc capc 2 N x y (W' : Int) (H' : Int) _ n cap w 0 0 0 0 0 ei (OkF x y W' H' n (fun j => liP (entE g s) s lo hi (fun c => cl .f32 (z (j / 4 * 4 + c))) (j % 4))) Xd hnc hEa (by decide) hEf rfl (firmf_ok _ _ _ _ _ _) fd
            (fun w' hk => (apply_linear s lo hi bc oc nc capc g x y W' H' b o n cap z w' (by omega) hEa (by omega) (by omega) hEf hr hn4 hcap hn6 (fun i hi => hk.some (hcz i hi) id) (fun p wr hk2 => hT p wr (hk.trans hk2))).mono fun _ _ h => cl_res h) hId hPI (.inr ?_)
          cases hd : decide (400 < n) with
          | true => exact .inl ⟨rfl, rfl, rfl⟩
          | false =>
            refine .inr ⟨rfl, rfl, rfl, _, fun _ _ h => h, hn6, fun C Q T W2 hk hC hQ hTT => ?_⟩
            have hM := made_gen x y W' H' 56 #[.pointer (some ⟨T, 0, none⟩), .pointer (some ⟨C, 0, none⟩), .pointer (some ⟨Q, 0, none⟩)] (caF (fun p => liP (entE g s) s lo hi p) x y W' z) W2 hr Try.call56
              (ca_mades (fun p => liP (entE g s) s lo hi p) _ x y W' H' n z W2 (fun p c => liP_can _ _ _ _ _ _) hr hn4 (fun px py q wr hk2 x1 x2 y1 y2 hq hqn => ca1_li s lo hi _ nc capc (fun p => liP (entE g s) s lo hi p) x y W' H' px py b o n cap q z C Q T wr hr hcap hn6 (fun i hi => (hk.trans hk2).some (hcz i hi) id) (hk2.some hTT id) (hC.step hk2) (hQ.kept hk2) x1 x2 y1 y2 hq hqn (fun p wr2 hk3 => hTo p wr2 ((hk.trans hk2).trans hk3))))
            rw [← hnn] at hM
            exact hM.mono fun _ _ ⟨B, c, h1, h2, h3, h4⟩ => ⟨B, c, h1, h2, h3, fun j hj => by rw [h4 j hj, ca_same _ x y W' z (fun p c => liP_clp _ _ _ _ _ _)]⟩

      · subst h1
        have hb : (if (!inB how 1 2) = true then (1 : Int) else 0) = 0 := by rcases h2 with rfl | rfl <;> decide
        exact ca_gen S lo hi A nc capc how N x y W H Af n cap w 0 Ef 0 Ef Ef ei (fun c _ => ErF c) Xd hnc hEa hb hEf rfl firmf_er fd (fun w' _ => (apply_e3 S lo hi A nc capc how x y W H Af n cap w' hnc hEa h2 Ef hEf h3).mono fun _ _ h => err_res h) hId hPI (.inl ⟨h3, rfl, fun _ _ h => h⟩)
    · subst h1
      have h21 : ¬ how = 1 := fun h => h2 (.inl h)
      have h22 : ¬ how = 2 := fun h => h2 (.inr h)
      have hb : (if (!inB how 1 2) = true then (1 : Int) else 0) = 1 := if_pos (by unfold inB; simp; omega)
      exact ca_gen S lo hi A nc capc how N x y W H Af n cap w 0 Ef 1 1 1 ei (fun c _ => ErF c) Xd hnc hEa hb hEf rfl firmf_er fd (fun w' _ => (apply_e2 S lo hi A nc capc how x y W H Af n cap w' hnc hEa h21 h22).mono fun _ _ h => err_res h) hId hPI (.inl ⟨by decide, rfl, fun _ _ h => h⟩)
  · exact ca_gen S lo hi A nc capc how N x y W H Af n cap w Ea Ef _ Ea Ea ei (fun c _ => ErF c) Xd hnc hEa rfl hEf (if_pos h1) firmf_er fd (fun w' _ => (apply_e1 S lo hi A nc capc how x y W H Af n cap w' hnc Ea hEa h1).mono fun _ _ h => err_res h) hId hPI (.inl ⟨h1, rfl, fun _ _ h => h⟩)
end Go.Proofs.Ytkmganophcklgaa
