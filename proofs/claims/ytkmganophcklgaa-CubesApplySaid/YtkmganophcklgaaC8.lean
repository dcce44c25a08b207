/- Contracts of cube.places, cube.lost and broken. Conditions: none. -/
import Derived.Test.YtkmganophcklgaaFp
import Derived.Test.YtkmganophcklgaaCv
import Derived.Test.YtkmganophcklgaaHo
import Derived.Test.YtkmganophcklgaaTw
namespace Go.Proofs.Ytkmganophcklgaa
open Go.RowKit
open Fl Fr
open BigFrame

def nn (v : Nat) : Bool := nan .f32 v
/-- A pixel of four singles as a function. -/
def pxV (p0 p1 p2 p3 : Nat) (c : Nat) : Nat := if c = 0 then p0 else if c = 1 then p1 else if c = 2 then p2 else p3
def brk (p : Nat → Nat) : Bool := nan .f32 (p 0) || (nan .f32 (p 1) || nan .f32 (p 2))
theorem order_nn {v : Nat} (h : nan .f32 v = false) : FloatKind.f32.format.order v v = some .eq := by rw [order_self, h]; rfl
theorem order_nan' {v : Nat} (h : nan .f32 v = true) : FloatKind.f32.format.order v v = none := by rw [order_self, h]; rfl

set_option linter.unusedSimpArgs false in
set_option linter.unusedVariables false in
set_option maxHeartbeats 4000000 in
set_option maxRecDepth 100000 in
theorem lost_any (v : Nat) (w : World) : Calls Try.prog 115 #[.float .f32 v] w fun e w' => e = .returned (.agg #[.float .f32 (qn .f32), .float .f32 (qn .f32), .float .f32 (qn .f32), .float .f32 (cl .f32 v)]) ∧ Kept None' w w' := by
  have hq : ∀ w, Calls Try.prog 127 #[.int .u32 2143289344] w fun e w' => e = .returned (.float .f32 (qn .f32)) ∧ w = w' := fun w => by
    have e : cl .f32 2143289344 = qn .f32 := by decide +kernel
    go_enter Try.func127, Try.ntmps127
    go_wp2_with (first
      | (go_at_call 109; refine (clean_any _ _).mono ?_; rintro e w' ⟨rfl, rfl⟩))
    go_ret
    exact ⟨rfl, rfl⟩
  have HQ := Lib.hid hq
  clear hq
  go_enter Try.func115, Try.ntmps115
  go_wp2_with (first
    | (go_at_call 127; refine (HQ.out _).mono ?_; rintro e w' ⟨rfl, rfl⟩)
    | (go_at_call 109; refine (clean_any _ _).mono ?_; rintro e w' ⟨rfl, rfl⟩))
  refine bodyPost_ret (px_ret Try.results115 _ _ w.heap.size (.float .f32 (qn .f32)) (.float .f32 (qn .f32)) (.float .f32 (qn .f32)) (.float .f32 (cl .f32 v)) (by go_simp) (by go_simp) (by go_simp) (by go_simp) rfl) rfl ?_
  exact ⟨rfl, (Kept.refl _ _).alloc _ _⟩

set_option linter.unusedSimpArgs false in
set_option linter.unusedVariables false in
set_option maxHeartbeats 4000000 in
set_option maxRecDepth 100000 in
theorem broken_any (p0 p1 p2 p3 : Nat) (w : World) : Calls Try.prog 89 #[.agg #[.float .f32 p0, .float .f32 p1, .float .f32 p2, .float .f32 p3]] w fun e w' => e = .returned (.bool (nan .f32 p0 || (nan .f32 p1 || nan .f32 p2))) ∧ Kept None' w w' := by
  cases h0 : nan .f32 p0 with
  | true =>
    have q0 := order_nan' h0
    go_enter Try.func89, Try.ntmps89
    go_wp2_with fail
    go_ret
    exact ⟨rfl, (Kept.refl _ _).alloc _ _⟩
  | false =>
    have q0 := order_nn h0
    cases h1 : nan .f32 p1 with
    | true =>
      have q1 := order_nan' h1
      go_enter Try.func89, Try.ntmps89
      go_wp2_with fail
      go_ret
      exact ⟨rfl, (Kept.refl _ _).alloc _ _⟩
    | false =>
      have q1 := order_nn h1
      cases h2 : nan .f32 p2 with
      | true =>
        have q2 := order_nan' h2
        go_enter Try.func89, Try.ntmps89
        go_wp2_with fail
        go_ret
        exact ⟨rfl, (Kept.refl _ _).alloc _ _⟩
      | false =>
        have q2 := order_nn h2
        go_enter Try.func89, Try.ntmps89
        go_wp2_with fail
        go_ret
        exact ⟨rfl, (Kept.refl _ _).alloc _ _⟩

/-- Places and shares of the first k colours. -/
structure PlS (W0 : World) (A5 A6 : Nat) (f : Nat → Int) (g : Nat → Nat) (k : Nat) (wr : World) : Prop where
  kept : Kept (fun b => b = A5 ∨ b = A6) W0 wr
  c5 : ∀ c, c < 3 → wr.cell? ⟨A5, c, none⟩ = some (.int .i64 (if c < k then f c else 0))
  c6 : ∀ c, c < 3 → wr.cell? ⟨A6, c, none⟩ = some (.float .f32 (if c < k then g c else 0))
theorem PlS.step {W0 : World} {A5 A6 : Nat} {f : Nat → Int} {g : Nat → Nat} {k : Nat} {wr w2 : World} (h : PlS W0 A5 A6 f g k wr) (hk : Kept None' wr w2) : PlS W0 A5 A6 f g k w2 :=
  ⟨h.kept.trans (hk.mono fun _ _ x => x.elim), fun c hc => hk.some (h.c5 c hc) id, fun c hc => hk.some (h.c6 c hc) id⟩
theorem PlS.set {W0 : World} {A5 A6 : Nat} {f : Nat → Int} {g : Nat → Nat} {k : Nat} {wr : World} (h : PlS W0 A5 A6 f g k wr) (hk : k < 3) (hne : A5 ≠ A6) {x : Int} {y : Nat} (hx : x = f k) (hy : y = g k) :
    PlS W0 A5 A6 f g (k + 1) ((wr.setCell ⟨A5, k, none⟩ (.int .i64 x)).setCell ⟨A6, k, none⟩ (.float .f32 y)) := by
  subst hx hy
  refine ⟨h.kept.trans (Kept.setCell (Kept.setCell (Kept.refl (fun b => b = A5 ∨ b = A6) wr) (p := ⟨A5, k, none⟩) (Or.inr (.inl rfl)) _) (p := ⟨A6, k, none⟩) (Or.inr (.inr rfl)) _), fun c hc => ?_, fun c hc => ?_⟩
  · refine cell_set_ne ?_ (Or.inl (Ne.symm hne))
    by_cases e : c = k
    · subst e; rw [if_pos (Nat.lt_succ_self _)]; exact cell_set_eq (h.c5 c hc)
    · rw [show (if c < k + 1 then f c else 0) = if c < k then f c else 0 by split <;> split <;> first | rfl | (exfalso; omega)]
      exact cell_set_ne (h.c5 c hc) (Or.inr (fun q => e q.symm))
  · by_cases e : c = k
    · subst e; rw [if_pos (Nat.lt_succ_self _)]; exact cell_set_eq (cell_set_ne (h.c6 c hc) (Or.inl hne))
    · rw [show (if c < k + 1 then g c else 0) = if c < k then g c else 0 by split <;> split <;> first | rfl | (exfalso; omega)]
      exact cell_set_ne (cell_set_ne (h.c6 c hc) (Or.inl hne)) (Or.inr (fun q => e q.symm))
theorem pl_ret3 {fn : Func} {t u x : Tmp} (hr : fn.results = #[.cell t 69, .cell u 36, .tmp x]) (W : World) (tmps : Array Value) (B D : Nat) (a0 a1 a2 b0 b1 b2 : Value) (e0 : W.cell? ⟨B, 0, none⟩ = some a0) (e1 : W.cell? ⟨B, 1, none⟩ = some a1) (e2 : W.cell? ⟨B, 2, none⟩ = some a2)
    (f0 : W.cell? ⟨D, 0, none⟩ = some b0) (f1 : W.cell? ⟨D, 1, none⟩ = some b1) (f2 : W.cell? ⟨D, 2, none⟩ = some b2) (ht : tmps[t]?.getD undef = .pointer (some ⟨B, 0, none⟩)) (hu : tmps[u]?.getD undef = .pointer (some ⟨D, 0, none⟩)) :
    (results fn tmps).run Try.prog W = .ok (.tuple #[.agg #[a0, a1, a2], .agg #[b0, b1, b2], tmps[x]?.getD undef]) W := by
  simp [results, hr, go_sem, ht, hu, e0, e1, e2, f0, f1, f2]
  try rfl
theorem drew_cell' {w : World} {a : Addr} {v : Option Value} (h : w.cell? a = v) : w.drew.cell? a = v := h
theorem cells_set33 {W : World} {B D : Nat} {v0 v1 v2 u0 u1 u2 x0 x1 x2 y0 y1 y2 : Value} (r0 : W.cell? ⟨B, 0, none⟩ = some x0) (r1 : W.cell? ⟨B, 1, none⟩ = some x1) (r2 : W.cell? ⟨B, 2, none⟩ = some x2)
    (q0 : W.cell? ⟨D, 0, none⟩ = some y0) (q1 : W.cell? ⟨D, 1, none⟩ = some y1) (q2 : W.cell? ⟨D, 2, none⟩ = some y2) (hn : B ≠ D) :
    let W' := (((((W.setCell ⟨B, 0, none⟩ v0).setCell ⟨B, 1, none⟩ v1).setCell ⟨B, 2, none⟩ v2).setCell ⟨D, 0, none⟩ u0).setCell ⟨D, 1, none⟩ u1).setCell ⟨D, 2, none⟩ u2
    W'.cell? ⟨B, 0, none⟩ = some v0 ∧ W'.cell? ⟨B, 1, none⟩ = some v1 ∧ W'.cell? ⟨B, 2, none⟩ = some v2 ∧ W'.cell? ⟨D, 0, none⟩ = some u0 ∧ W'.cell? ⟨D, 1, none⟩ = some u1 ∧ W'.cell? ⟨D, 2, none⟩ = some u2 := by
  have a := cells_set3 (v0 := v0) (v1 := v1) (v2 := v2) r0 r1 r2
  have ne : ∀ {k v}, W.cell? ⟨D, k, none⟩ = some v → (((W.setCell ⟨B, 0, none⟩ v0).setCell ⟨B, 1, none⟩ v1).setCell ⟨B, 2, none⟩ v2).cell? ⟨D, k, none⟩ = some v := fun h => cell_set_ne (cell_set_ne (cell_set_ne h (Or.inl hn)) (Or.inl hn)) (Or.inl hn)
  have b := cells_set3 (v0 := u0) (v1 := u1) (v2 := u2) (ne q0) (ne q1) (ne q2)
  have ne2 : ∀ {k v}, (((W.setCell ⟨B, 0, none⟩ v0).setCell ⟨B, 1, none⟩ v1).setCell ⟨B, 2, none⟩ v2).cell? ⟨B, k, none⟩ = some v → ((((((W.setCell ⟨B, 0, none⟩ v0).setCell ⟨B, 1, none⟩ v1).setCell ⟨B, 2, none⟩ v2).setCell ⟨D, 0, none⟩ u0).setCell ⟨D, 1, none⟩ u1).setCell ⟨D, 2, none⟩ u2).cell? ⟨B, k, none⟩ = some v :=
    fun h => cell_set_ne (cell_set_ne (cell_set_ne h (Or.inl (Ne.symm hn))) (Or.inl (Ne.symm hn))) (Or.inl (Ne.symm hn))
  exact ⟨ne2 a.1, ne2 a.2.1, ne2 a.2.2, b.1, b.2.1, b.2.2⟩
theorem kept_over' {R : Nat → Prop} {w a b : World} (h : Kept None' w a) (k : Kept R a b) (hR : ∀ i, R i → w.heap.size ≤ i) : Kept None' w b :=
  ⟨k.os.trans h.os, k.output.trans h.output, Nat.le_trans h.size k.size, fun x => (k.frozen x).trans (h.frozen x), fun i hi _ => (k.block i (Nat.lt_of_lt_of_le hi h.size) (fun e => by have := hR i e; omega)).trans (h.block i hi id)⟩

set_option linter.unusedSimpArgs false in
set_option linter.unusedVariables false in
set_option maxHeartbeats 8000000 in
set_option maxRecDepth 100000 in
theorem places_ok (S : Int) (lo hi : Nat) (A : Option Addr) (n cap : Nat) (p : Nat → Nat) (w : World) (s1 : 2 ≤ S) (s2 : S ≤ 17) (hp : brk p = false) :
    Calls Try.prog 114 #[.agg #[.int .i64 S, .float .f32 lo, .float .f32 hi, .slice A n cap], .agg #[.float .f32 (p 0), .float .f32 (p 1), .float .f32 (p 2), .float .f32 (p 3)]] w fun e w' =>
      e = .returned (.tuple #[.agg #[.int .i64 (axI S lo hi (p 0)), .int .i64 (axI S lo hi (p 1)), .int .i64 (axI S lo hi (p 2))], .agg #[.float .f32 (axS S lo hi (p 0)), .float .f32 (axS S lo hi (p 1)), .float .f32 (axS S lo hi (p 2))], .bool true]) ∧ Kept None' w w' := by
  unfold brk at hp
  simp only [Bool.or_eq_false_iff] at hp
  have hq : ∀ c, c < 3 → nan .f32 (p c) = false := fun c hc => by
    obtain rfl | rfl | rfl : c = 0 ∨ c = 1 ∨ c = 2 := by omega
    · exact hp.1
    · exact hp.2.1
    · exact hp.2.2
  have HQ := Lib.hid hq
  clear hp hq
  go_enter Try.func114, Try.ntmps114
  go_upto_region 1 with (fail)
  refine of_world (fun W0 hW => ?_)
  have k0 : Kept None' w W0 := by rw [hW]; exact ((((Kept.refl None' w).alloc _ _).alloc _ _).alloc _ _).alloc _ _
  have t0 : W0.cell? ⟨w.heap.size, 0, none⟩ = some (.int .i64 S) := by rw [hW]; go_simp
  have t1 : W0.cell? ⟨w.heap.size, 1, none⟩ = some (.float .f32 lo) := by rw [hW]; go_simp
  have t2 : W0.cell? ⟨w.heap.size, 2, none⟩ = some (.float .f32 hi) := by rw [hW]; go_simp
  have t3 : W0.cell? ⟨w.heap.size, 3, none⟩ = some (.slice A n cap) := by rw [hW]; go_simp
  have hx : ∀ c, c < 4 → W0.cell? ⟨w.heap.size + 1, c, none⟩ = some (.float .f32 (p c)) := fun c hc => by
    rw [hW]
    obtain rfl | rfl | rfl | rfl : c = 0 ∨ c = 1 ∨ c = 2 ∨ c = 3 := by omega
    all_goals go_simp
  have hS0 : PlS W0 (w.heap.size + 1 + 1) (w.heap.size + 1 + 1 + 1) (fun c => axI S lo hi (p c)) (fun c => axS S lo hi (p c)) 0 W0 := by
    refine ⟨Kept.refl _ _, fun c hc => ?_, fun c hc => ?_⟩
    all_goals
      rw [hW]
      obtain rfl | rfl | rfl : c = 0 ∨ c = 1 ∨ c = 2 := by omega
      all_goals go_simp
  have zz : ∀ a : Addr, w.heap.size ≤ a.block → W0.frozen? a = false := fun a ha => by rw [hW]; exact (frozen?_alloc_cells _ _ _ _).trans ((frozen?_alloc_cells _ _ _ _).trans ((frozen?_alloc_cells _ _ _ _).trans ((frozen?_alloc_cells _ _ _ _).trans (frozen_new _ _ ha))))
  have HT := Lib.hid (And.intro t0 (And.intro t1 (And.intro t2 (And.intro t3 hx))))
  have HS0 := Lib.hid hS0
  have Z0 := Lib.hid zz
  have K0 := Lib.hid k0
  clear hW zz k0 t0 t1 t2 t3 hx hS0
  generalize hA6 : w.heap.size + 1 + 1 + 1 = A6 at *
  generalize hA5 : w.heap.size + 1 + 1 = A5 at *
  generalize hA4 : w.heap.size + 1 = A4 at *
  generalize hA3 : w.heap.size = A3 at *
  have HN := Lib.hid (And.intro hA6 (And.intro hA5 (And.intro hA4 hA3)))
  clear hA6 hA5 hA4 hA3
  go_wp2_with fail
  go_loopw [8] (fun s8 wr => ∃ k : Nat, k ≤ 3 ∧ s8 = .int .i64 (k : Int) ∧ PlS W0 A5 A6 (fun c => axI S lo hi (p c)) (fun c => axS S lo hi (p c)) k wr) (fun s8 _ => (3 - intOf s8).toNat)
  case atStart => exact ⟨0, by omega, rfl, HS0.out⟩
  case round =>
    obtain ⟨k, hk, rfl, hS⟩ := hrel
    have HS := Lib.hid hS
    have nx : ¬ (A4 = A5 ∨ A4 = A6) := by have := HN.out; omega
    have nt : ¬ (A3 = A5 ∨ A3 = A6) := by have := HN.out; omega
    by_cases hlt : k < 3
    · have d1 : decide ((k : Int) < 3) = true := decide_eq_true (by omega)
      have e0 : 0 ≤ (k : Int) := by omega
      have e1 : (k : Int) < 4 := by omega
      have e2 : (k : Int) < 3 := by omega
      have q := order_nn (HQ.out k hlt)
      have A0 := ext_cell (hS.kept.some (HT.out.2.2.2.2 k (by omega)) nx)
      clear hS
      go_wp2_with fail
      refine region_ext (by kernel_rfl) (by kernel_rfl) ?_
      repeat (first
        | go_big_quiet_skip
        | (go_big_quiet_want; go_big_quiet_op; first | go_big_quiet_on | go_big_quiet_call (first
          | (fail))))
      refine wpQuiet_nil ?_
      rintro _ ⟨xq, rfl⟩
      have hS := HS.out.step (ext_kept _ xq)
      have HS1 := Lib.hid hS
      clear A0
      generalize ext _ xq = W1 at *
      have A0 := ext_cell (hS.kept.some HT.out.1 nt)
      have A1 := ext_cell (hS.kept.some HT.out.2.1 nt)
      have A2 := ext_cell (hS.kept.some HT.out.2.2.1 nt)
      have A3' := ext_cell (hS.kept.some HT.out.2.2.2.1 nt)
      have A4' := ext_cell (hS.kept.some (HT.out.2.2.2.2 k (by omega)) nx)
      clear hS
      go_wp2_with fail
      refine region_plan [0, 1] [2, 3, 4, 5, 6] [7, 8, 9, 10] [11, 12, 13] (by kernel_rfl) (by kernel_rfl) ?_
      simp only [pickO, List.filterMap_cons, List.filterMap_nil, List.getElem?_toArray, List.getElem?_cons_zero, List.getElem?_cons_succ]
      refine wpPure_cons (.int .i64 (k : Int)) rfl (fun w => by go_simp) ?_
      simp only [Act.put, List.setIfInBounds_toArray, List.set_cons_zero, List.set_cons_succ]
      refine wpPure_cons (.int .i64 (k : Int)) rfl (fun w => by go_simp) ?_
      simp only [Act.put, List.setIfInBounds_toArray, List.set_cons_zero, List.set_cons_succ]
      refine wpPure_nil ?_
      repeat (first
        | (refine wpWith_det ?_; go_big_quiet_want; go_big_quiet_op; go_big_quiet_on; refine wpQuiet_nil ?_)
        | (refine wpWith_det ?_; go_big_quiet_skip; refine wpQuiet_nil ?_)
        | fail)
      refine wpWith_det ?_
      go_big_quiet_want
      go_big_quiet_op
      go_big_quiet_call ((go_at_call 88; exact calls_ext (place_any S lo hi A n cap (p k) _ s1 s2)))
      refine wpQuiet_nil ?_
      refine wpWith_nil ?_
      refine wpPure_cons (.tuple #[.int .i64 (axI S lo hi (p k)), .float .f32 (axS S lo hi (p k))]) rfl (fun w => by go_simp) ?_
      simp only [Act.put, List.setIfInBounds_toArray, List.set_cons_zero, List.set_cons_succ]
      refine wpPure_cons (.int .i64 (axI S lo hi (p k))) rfl (fun w => by go_simp) ?_
      simp only [Act.put, List.setIfInBounds_toArray, List.set_cons_zero, List.set_cons_succ]
      refine wpPure_cons (.float .f32 (axS S lo hi (p k))) rfl (fun w => by go_simp) ?_
      simp only [Act.put, List.setIfInBounds_toArray, List.set_cons_zero, List.set_cons_succ]
      refine wpPure_cons (.pointer (some ⟨A5, k, none⟩)) rfl (fun w => by go_simp) ?_
      simp only [Act.put, List.setIfInBounds_toArray, List.set_cons_zero, List.set_cons_succ]
      refine wpPure_nil ?_
      rintro _ ⟨xq, rfl⟩
      have hS := HS1.out.step (ext_kept _ xq)
      have HS2 := Lib.hid hS
      clear A0 A1 A2 A3' A4'
      generalize ext _ xq = W2 at *
      have b5 := hS.c5 k hlt
      have b6 := hS.c6 k hlt
      have z5 := (hS.kept.frozen ⟨A5, k, none⟩).trans (Z0.out _ (by have := HN.out; show A3 ≤ A5; omega))
      have z6 := (hS.kept.frozen ⟨A6, k, none⟩).trans (Z0.out _ (by have := HN.out; show A3 ≤ A6; omega))
      have n56 : A5 ≠ A6 := by have := HN.out; omega
      have b6' : ∀ u, (W2.setCell ⟨A5, k, none⟩ u).cell? ⟨A6, k, none⟩ = some (.float .f32 (if k < k then axS S lo hi (p k) else 0)) := fun u => cell_set_ne b6 (Or.inl n56)
      have z6' : ∀ u, (W2.setCell ⟨A5, k, none⟩ u).frozen? ⟨A6, k, none⟩ = false := fun u => (World.frozen?_setCell ..).trans z6
      have N56 := Lib.hid n56
      clear hS n56
      go_wp2_with fail
      rw [Qn_normal]
      go_wp2_with fail
      go_roundw
      case rel => exact ⟨k + 1, by omega, by go_num, HS2.out.set hlt N56.out rfl rfl⟩
      case measure => simp [intOf]; omega
    · obtain rfl : k = 3 := by omega
      have d1 : decide (((3 : Nat) : Int) < 3) = false := by decide
      have a0 := hS.c5 0 (by omega)
      have a1 := hS.c5 1 (by omega)
      have a2 := hS.c5 2 (by omega)
      have b0 := hS.c6 0 (by omega)
      have b1 := hS.c6 1 (by omega)
      have b2 := hS.c6 2 (by omega)
      simp only [show (0 : Nat) < 3 by decide, show (1 : Nat) < 3 by decide, show (2 : Nat) < 3 by decide, if_true] at a0 a1 a2 b0 b1 b2
      have y : ∀ a : Addr, A3 ≤ a.block → wr.frozen? a = false := fun a ha => (hS.kept.frozen a).trans (Z0.out a ha)
      have y0 := y ⟨A5, 0, none⟩ (by have := HN.out; show A3 ≤ A5; omega)
      have y1 := y ⟨A5, 1, none⟩ (by have := HN.out; show A3 ≤ A5; omega)
      have y2 := y ⟨A5, 2, none⟩ (by have := HN.out; show A3 ≤ A5; omega)
      have z0 := y ⟨A6, 0, none⟩ (by have := HN.out; show A3 ≤ A6; omega)
      have z1 := y ⟨A6, 1, none⟩ (by have := HN.out; show A3 ≤ A6; omega)
      have z2 := y ⟨A6, 2, none⟩ (by have := HN.out; show A3 ≤ A6; omega)
      have n56 : A5 ≠ A6 := by have := HN.out; omega
      have KP := Lib.hid (kept_over' K0.out hS.kept (fun i hi => by have := HN.out; omega))
      clear hS y
      go_wp2_with fail
      have HN56 := Lib.hid n56
      go_region
      all_goals
        go_wp2_with fail
        have cs := cells_set33 (v0 := .int .i64 (axI S lo hi (p 0))) (v1 := .int .i64 (axI S lo hi (p 1))) (v2 := .int .i64 (axI S lo hi (p 2))) (u0 := .float .f32 (axS S lo hi (p 0))) (u1 := .float .f32 (axS S lo hi (p 1))) (u2 := .float .f32 (axS S lo hi (p 2))) a0 a1 a2 b0 b1 b2 HN56.out
        refine bodyPost_ret (pl_ret3 Try.results114 _ _ A5 A6 _ _ _ _ _ _ (drew_cell' cs.1) (drew_cell' cs.2.1) (drew_cell' cs.2.2.1) (drew_cell' cs.2.2.2.1) (drew_cell' cs.2.2.2.2.1) (drew_cell' cs.2.2.2.2.2) rfl rfl) rfl ?_
        exact ⟨rfl, Kept.drew (kept_set3 (kept_set3 KP.out (by have := HN.out; omega)) (by have := HN.out; omega)) 1⟩
set_option linter.unusedSimpArgs false in
set_option linter.unusedVariables false in
set_option maxHeartbeats 8000000 in
set_option maxRecDepth 100000 in
theorem places_bad (S : Int) (lo hi : Nat) (A : Option Addr) (n cap : Nat) (p : Nat → Nat) (w : World) (s1 : 2 ≤ S) (s2 : S ≤ 17) (hp : brk p = true) :
    Calls Try.prog 114 #[.agg #[.int .i64 S, .float .f32 lo, .float .f32 hi, .slice A n cap], .agg #[.float .f32 (p 0), .float .f32 (p 1), .float .f32 (p 2), .float .f32 (p 3)]] w fun e w' =>
      ∃ (x0 x1 x2 : Int) (y0 y1 y2 : Nat), e = .returned (.tuple #[.agg #[.int .i64 x0, .int .i64 x1, .int .i64 x2], .agg #[.float .f32 y0, .float .f32 y1, .float .f32 y2], .bool false]) ∧ Kept None' w w' := by
  have hq : ∃ c, c < 3 ∧ nan .f32 (p c) = true := by
    unfold brk at hp
    simp only [Bool.or_eq_true] at hp
    rcases hp with h | h | h
    · exact ⟨0, by omega, h⟩
    · exact ⟨1, by omega, h⟩
    · exact ⟨2, by omega, h⟩
  have HQ := Lib.hid hq
  clear hp hq
  go_enter Try.func114, Try.ntmps114
  go_upto_region 1 with (fail)
  refine of_world (fun W0 hW => ?_)
  have k0 : Kept None' w W0 := by rw [hW]; exact ((((Kept.refl None' w).alloc _ _).alloc _ _).alloc _ _).alloc _ _
  have t0 : W0.cell? ⟨w.heap.size, 0, none⟩ = some (.int .i64 S) := by rw [hW]; go_simp
  have t1 : W0.cell? ⟨w.heap.size, 1, none⟩ = some (.float .f32 lo) := by rw [hW]; go_simp
  have t2 : W0.cell? ⟨w.heap.size, 2, none⟩ = some (.float .f32 hi) := by rw [hW]; go_simp
  have t3 : W0.cell? ⟨w.heap.size, 3, none⟩ = some (.slice A n cap) := by rw [hW]; go_simp
  have hx : ∀ c, c < 4 → W0.cell? ⟨w.heap.size + 1, c, none⟩ = some (.float .f32 (p c)) := fun c hc => by
    rw [hW]
    obtain rfl | rfl | rfl | rfl : c = 0 ∨ c = 1 ∨ c = 2 ∨ c = 3 := by omega
    all_goals go_simp
  have hS0 : PlS W0 (w.heap.size + 1 + 1) (w.heap.size + 1 + 1 + 1) (fun c => axI S lo hi (p c)) (fun c => axS S lo hi (p c)) 0 W0 := by
    refine ⟨Kept.refl _ _, fun c hc => ?_, fun c hc => ?_⟩
    all_goals
      rw [hW]
      obtain rfl | rfl | rfl : c = 0 ∨ c = 1 ∨ c = 2 := by omega
      all_goals go_simp
  have zz : ∀ a : Addr, w.heap.size ≤ a.block → W0.frozen? a = false := fun a ha => by rw [hW]; exact (frozen?_alloc_cells _ _ _ _).trans ((frozen?_alloc_cells _ _ _ _).trans ((frozen?_alloc_cells _ _ _ _).trans ((frozen?_alloc_cells _ _ _ _).trans (frozen_new _ _ ha))))
  have HT := Lib.hid (And.intro t0 (And.intro t1 (And.intro t2 (And.intro t3 hx))))
  have HS0 := Lib.hid hS0
  have Z0 := Lib.hid zz
  have K0 := Lib.hid k0
  clear hW zz k0 t0 t1 t2 t3 hx hS0
  generalize hA6 : w.heap.size + 1 + 1 + 1 = A6 at *
  generalize hA5 : w.heap.size + 1 + 1 = A5 at *
  generalize hA4 : w.heap.size + 1 = A4 at *
  generalize hA3 : w.heap.size = A3 at *
  have HN := Lib.hid (And.intro hA6 (And.intro hA5 (And.intro hA4 hA3)))
  clear hA6 hA5 hA4 hA3
  go_wp2_with fail
  go_loopw [8] (fun s8 wr => ∃ k : Nat, k ≤ 3 ∧ s8 = .int .i64 (k : Int) ∧ PlS W0 A5 A6 (fun c => axI S lo hi (p c)) (fun c => axS S lo hi (p c)) k wr ∧ ∀ c, c < k → nan .f32 (p c) = false) (fun s8 _ => (3 - intOf s8).toNat)
  case atStart => exact ⟨0, by omega, rfl, HS0.out, fun c hc => by omega⟩
  case round =>
    obtain ⟨k, hk, rfl, hS, hnn⟩ := hrel
    have HS := Lib.hid hS
    have HNN := Lib.hid hnn
    clear hnn
    have nx : ¬ (A4 = A5 ∨ A4 = A6) := by have := HN.out; omega
    have nt : ¬ (A3 = A5 ∨ A3 = A6) := by have := HN.out; omega
    by_cases hlt : k < 3
    · have d1 : decide ((k : Int) < 3) = true := decide_eq_true (by omega)
      have e0 : 0 ≤ (k : Int) := by omega
      have e1 : (k : Int) < 4 := by omega
      have e2 : (k : Int) < 3 := by omega
      cases hnk : nan .f32 (p k) with
      | true =>
          have q := order_nan' hnk
          have A0 := ext_cell (hS.kept.some (HT.out.2.2.2.2 k (by omega)) nx)
          clear hS
          go_wp2_with fail
          refine region_ext (by kernel_rfl) (by kernel_rfl) ?_
          repeat (first
            | go_big_quiet_skip
            | (go_big_quiet_want; go_big_quiet_op; first | go_big_quiet_on | go_big_quiet_call (first
              | (fail))))
          refine wpQuiet_nil ?_
          rintro _ ⟨xq, rfl⟩
          have hS := HS.out.step (ext_kept _ xq)
          clear A0
          generalize ext _ xq = W1 at *
          obtain ⟨x0, hx0⟩ : ∃ x, (if 0 < k then axI S lo hi (p 0) else 0) = x := ⟨_, rfl⟩
          obtain ⟨x1, hx1⟩ : ∃ x, (if 1 < k then axI S lo hi (p 1) else 0) = x := ⟨_, rfl⟩
          obtain ⟨x2, hx2⟩ : ∃ x, (if 2 < k then axI S lo hi (p 2) else 0) = x := ⟨_, rfl⟩
          obtain ⟨y0, hy0⟩ : ∃ x, (if 0 < k then axS S lo hi (p 0) else 0) = x := ⟨_, rfl⟩
          obtain ⟨y1, hy1⟩ : ∃ x, (if 1 < k then axS S lo hi (p 1) else 0) = x := ⟨_, rfl⟩
          obtain ⟨y2, hy2⟩ : ∃ x, (if 2 < k then axS S lo hi (p 2) else 0) = x := ⟨_, rfl⟩
          have a0 := hS.c5 0 (by omega)
          have a1 := hS.c5 1 (by omega)
          have a2 := hS.c5 2 (by omega)
          have b0 := hS.c6 0 (by omega)
          have b1 := hS.c6 1 (by omega)
          have b2 := hS.c6 2 (by omega)
          simp only [hx0] at a0
          simp only [hx1] at a1
          simp only [hx2] at a2
          simp only [hy0] at b0
          simp only [hy1] at b1
          simp only [hy2] at b2
          have y : ∀ a : Addr, A3 ≤ a.block → W1.frozen? a = false := fun a ha => (hS.kept.frozen a).trans (Z0.out a ha)
          have q0 := y ⟨A5, 0, none⟩ (by have := HN.out; show A3 ≤ A5; omega)
          have q1 := y ⟨A5, 1, none⟩ (by have := HN.out; show A3 ≤ A5; omega)
          have q2 := y ⟨A5, 2, none⟩ (by have := HN.out; show A3 ≤ A5; omega)
          have z0 := y ⟨A6, 0, none⟩ (by have := HN.out; show A3 ≤ A6; omega)
          have z1 := y ⟨A6, 1, none⟩ (by have := HN.out; show A3 ≤ A6; omega)
          have z2 := y ⟨A6, 2, none⟩ (by have := HN.out; show A3 ≤ A6; omega)
          have n56 : A5 ≠ A6 := by have := HN.out; omega
          have KP := Lib.hid (kept_over' K0.out hS.kept (fun i hi => by have := HN.out; omega))
          clear hS y hx0 hx1 hx2 hy0 hy1 hy2
          go_wp2_with fail
          have HN56 := Lib.hid n56
          go_region
          all_goals
            go_wp2_with fail
            have cs := cells_set33 (v0 := .int .i64 x0) (v1 := .int .i64 x1) (v2 := .int .i64 x2) (u0 := .float .f32 y0) (u1 := .float .f32 y1) (u2 := .float .f32 y2) a0 a1 a2 b0 b1 b2 HN56.out
            refine bodyPost_ret (pl_ret3 Try.results114 _ _ A5 A6 _ _ _ _ _ _ (drew_cell' cs.1) (drew_cell' cs.2.1) (drew_cell' cs.2.2.1) (drew_cell' cs.2.2.2.1) (drew_cell' cs.2.2.2.2.1) (drew_cell' cs.2.2.2.2.2) rfl rfl) rfl ?_
            exact ⟨x0, x1, x2, y0, y1, y2, rfl, Kept.drew (kept_set3 (kept_set3 KP.out (by have := HN.out; omega)) (by have := HN.out; omega)) 1⟩
      | false =>
          have hnk' := Lib.hid hnk
          have q := order_nn hnk
          have A0 := ext_cell (hS.kept.some (HT.out.2.2.2.2 k (by omega)) nx)
          clear hS
          go_wp2_with fail
          refine region_ext (by kernel_rfl) (by kernel_rfl) ?_
          repeat (first
            | go_big_quiet_skip
            | (go_big_quiet_want; go_big_quiet_op; first | go_big_quiet_on | go_big_quiet_call (first
              | (fail))))
          refine wpQuiet_nil ?_
          rintro _ ⟨xq, rfl⟩
          have hS := HS.out.step (ext_kept _ xq)
          have HS1 := Lib.hid hS
          clear A0
          generalize ext _ xq = W1 at *
          have A0 := ext_cell (hS.kept.some HT.out.1 nt)
          have A1 := ext_cell (hS.kept.some HT.out.2.1 nt)
          have A2 := ext_cell (hS.kept.some HT.out.2.2.1 nt)
          have A3' := ext_cell (hS.kept.some HT.out.2.2.2.1 nt)
          have A4' := ext_cell (hS.kept.some (HT.out.2.2.2.2 k (by omega)) nx)
          clear hS
          go_wp2_with fail
          refine region_plan [0, 1] [2, 3, 4, 5, 6] [7, 8, 9, 10] [11, 12, 13] (by kernel_rfl) (by kernel_rfl) ?_
          simp only [pickO, List.filterMap_cons, List.filterMap_nil, List.getElem?_toArray, List.getElem?_cons_zero, List.getElem?_cons_succ]
          refine wpPure_cons (.int .i64 (k : Int)) rfl (fun w => by go_simp) ?_
          simp only [Act.put, List.setIfInBounds_toArray, List.set_cons_zero, List.set_cons_succ]
          refine wpPure_cons (.int .i64 (k : Int)) rfl (fun w => by go_simp) ?_
          simp only [Act.put, List.setIfInBounds_toArray, List.set_cons_zero, List.set_cons_succ]
          refine wpPure_nil ?_
          repeat (first
            | (refine wpWith_det ?_; go_big_quiet_want; go_big_quiet_op; go_big_quiet_on; refine wpQuiet_nil ?_)
            | (refine wpWith_det ?_; go_big_quiet_skip; refine wpQuiet_nil ?_)
            | fail)
          refine wpWith_det ?_
          go_big_quiet_want
          go_big_quiet_op
          go_big_quiet_call ((go_at_call 88; exact calls_ext (place_any S lo hi A n cap (p k) _ s1 s2)))
          refine wpQuiet_nil ?_
          refine wpWith_nil ?_
          refine wpPure_cons (.tuple #[.int .i64 (axI S lo hi (p k)), .float .f32 (axS S lo hi (p k))]) rfl (fun w => by go_simp) ?_
          simp only [Act.put, List.setIfInBounds_toArray, List.set_cons_zero, List.set_cons_succ]
          refine wpPure_cons (.int .i64 (axI S lo hi (p k))) rfl (fun w => by go_simp) ?_
          simp only [Act.put, List.setIfInBounds_toArray, List.set_cons_zero, List.set_cons_succ]
          refine wpPure_cons (.float .f32 (axS S lo hi (p k))) rfl (fun w => by go_simp) ?_
          simp only [Act.put, List.setIfInBounds_toArray, List.set_cons_zero, List.set_cons_succ]
          refine wpPure_cons (.pointer (some ⟨A5, k, none⟩)) rfl (fun w => by go_simp) ?_
          simp only [Act.put, List.setIfInBounds_toArray, List.set_cons_zero, List.set_cons_succ]
          refine wpPure_nil ?_
          rintro _ ⟨xq, rfl⟩
          have hS := HS1.out.step (ext_kept _ xq)
          have HS2 := Lib.hid hS
          clear A0 A1 A2 A3' A4'
          generalize ext _ xq = W2 at *
          have b5 := hS.c5 k hlt
          have b6 := hS.c6 k hlt
          have z5 := (hS.kept.frozen ⟨A5, k, none⟩).trans (Z0.out _ (by have := HN.out; show A3 ≤ A5; omega))
          have z6 := (hS.kept.frozen ⟨A6, k, none⟩).trans (Z0.out _ (by have := HN.out; show A3 ≤ A6; omega))
          have n56 : A5 ≠ A6 := by have := HN.out; omega
          have b6' : ∀ u, (W2.setCell ⟨A5, k, none⟩ u).cell? ⟨A6, k, none⟩ = some (.float .f32 (if k < k then axS S lo hi (p k) else 0)) := fun u => cell_set_ne b6 (Or.inl n56)
          have z6' : ∀ u, (W2.setCell ⟨A5, k, none⟩ u).frozen? ⟨A6, k, none⟩ = false := fun u => (World.frozen?_setCell ..).trans z6
          have N56 := Lib.hid n56
          clear hS n56
          go_wp2_with fail
          rw [Qn_normal]
          go_wp2_with fail
          go_roundw
          case rel => exact ⟨k + 1, by omega, by go_num, HS2.out.set hlt N56.out rfl rfl, fun c hc => (by by_cases e : c = k <;> first | exact e ▸ hnk'.out | exact HNN.out c (by omega))⟩
          case measure => simp [intOf]; omega
    · obtain rfl : k = 3 := by omega
      obtain ⟨c, hc, hcn⟩ := HQ.out
      rw [HNN.out c hc] at hcn
      cases hcn

end Go.Proofs.Ytkmganophcklgaa
