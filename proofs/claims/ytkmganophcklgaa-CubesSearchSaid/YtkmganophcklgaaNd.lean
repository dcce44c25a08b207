/- What Back reckons, and the contract of cube.Back. Conditions: none. -/
import Derived.Test.YtkmganophcklgaaNb
import Derived.Test.YtkmganophcklgaaTo
import Derived.Test.YtkmganophcklgaaHb
namespace Go.Proofs.Ytkmganophcklgaa
open Go.RowKit
open Fl Fr
open BigFrame

/-- Three singles as a pixel. -/
def px3 (x : Nat → Nat) (c : Nat) : Nat := if c = 0 then x 0 else if c = 1 then x 1 else if c = 2 then x 2 else 0
/-- The place that is looked at after t steps. -/
def bkX (E : Int → Int → Int → Nat → Nat) (S : Int) (lo hi : Nat) (p : Nat → Nat) (f : Nat → Int) : Nat → Nat → Nat
  | 0, c => spP S lo hi (f c)
  | t + 1, c => limP (fC .add .f32 (bkX E S lo hi p f t c) (fC .mul .f32 (fC .sub .f32 (p c) (teP E S lo hi (px3 (bkX E S lo hi p f t)) c)) 1056964608)) lo hi
/-- One step from x: the colours there are q. -/
def bkN (lo hi : Nat) (p q x : Nat → Nat) (c : Nat) : Nat := limP (fC .add .f32 (x c) (fC .mul .f32 (fC .sub .f32 (p c) (q c)) 1056964608)) lo hi
theorem bkX_step (E : Int → Int → Int → Nat → Nat) (S : Int) (lo hi : Nat) (p : Nat → Nat) (f : Nat → Int) (t c : Nat) : bkX E S lo hi p f (t + 1) c = bkN lo hi p (teP E S lo hi (px3 (bkX E S lo hi p f t))) (bkX E S lo hi p f t) c := rfl
theorem limP_cl' (t a b : Nat) : limP (cl .f32 t) a b = limP t a b := by unfold limP; rw [order_cl_l, order_cl_l, cl_cl]
theorem bkN_of {lo hi : Nat} {p q x : Nat → Nat} {c d0 d1 d2 : Nat} (h0 : cl .f32 d0 = fC .sub .f32 (p c) (q c)) (h1 : cl .f32 d1 = fC .mul .f32 d0 1056964608) (h2 : cl .f32 d2 = fC .add .f32 (x c) d1) : limP d2 lo hi = bkN lo hi p q x c := by
  unfold bkN
  rw [← limP_cl', h2, fC_r h1, fC_l h0]
/-- Three singles in a box. -/
structure X3S (W1 : World) (X : Nat) (x : Nat → Nat) (wr : World) : Prop where
  kept : Kept (fun k => k = X) W1 wr
  x : ∀ c, c < 3 → wr.cell? ⟨X, c, none⟩ = some (.float .f32 (x c))
theorem X3S.step {W1 : World} {X : Nat} {x : Nat → Nat} {wr w' : World} (h : X3S W1 X x wr) (k : Kept None' wr w') : X3S W1 X x w' := ⟨h.kept.trans (k.mono fun _ _ e => e.elim), fun c hc => k.some (h.x c hc) id⟩
theorem X3S.set {W1 : World} {X : Nat} {x x' : Nat → Nat} {wr : World} {c v : Nat} (h : X3S W1 X x wr) (_ : c < 3) (hx : ∀ j, j < 3 → x' j = if j = c then v else x j) : X3S W1 X x' (wr.setCell ⟨X, c, none⟩ (.float .f32 v)) :=
  ⟨h.kept.setCell (p := ⟨X, c, none⟩) (Or.inr rfl) _, fun j hj => by
    rw [hx j hj]
    by_cases e : j = c
    · subst e; rw [if_pos rfl]; exact cell_set_eq (h.x j hj)
    · rw [if_neg e]; exact cell_set_ne (h.x j hj) (Or.inr (fun q => e q.symm))⟩

/-- The errors of Back that come ahead of the search. -/
def bkE (p : Nat → Nat) (steps : Int) : Int := if (isN (p 0) && isN (p 1) && isN (p 2)) = false then 2 else if (inB steps 0 64) = false then 3 else 0

set_option linter.unusedSimpArgs false in
set_option linter.unusedVariables false in
set_option maxHeartbeats 1000000 in
set_option maxRecDepth 100000 in
theorem Back_err (S : Int) (lo hi : Nat) (A : Option Addr) (n cap : Nat) (p : Nat → Nat) (steps : Int) (w : World) (E : Int) (hn : n ≤ 9223372036854775807) (hE : cuE S lo hi n = E) (h0 : ¬ E = 0) :
    Calls Try.prog 43 #[.agg #[.int .i64 S, .float .f32 lo, .float .f32 hi, .slice A n cap], .agg #[.float .f32 (p 0), .float .f32 (p 1), .float .f32 (p 2)], .int .i64 steps] w (ThE 0 0 0 E w) := by
  have hb : (E != 0) = true := by simp [h0]
  have HE := Lib.hid hE
  clear hE
  go_enter Try.func43, Try.ntmps43
  go_upto_region 3 with (first | (go_at_call 37; refine (checkcube_any _ _ _ _ _ _ _ hn).mono ?_; rw [HE.out]; rintro e w1 ⟨rfl, hk⟩))
  have r0 := hk.some (p := ⟨w.heap.size + 1 + 1, 0, none⟩) (v := .float .f32 0) (by go_simp) id
  have r1 := hk.some (p := ⟨w.heap.size + 1 + 1, 1, none⟩) (v := .float .f32 0) (by go_simp) id
  have r2 := hk.some (p := ⟨w.heap.size + 1 + 1, 2, none⟩) (v := .float .f32 0) (by go_simp) id
  have zz : ∀ c, w1.frozen? ⟨w.heap.size + 1 + 1, c, none⟩ = false := fun c => (hk.frozen _).trans ((frozen?_alloc_cells _ _ _ _).trans ((frozen?_alloc_cells _ _ _ _).trans ((frozen?_alloc_cells _ _ _ _).trans (frozen_new _ _ (by simp; omega)))))
  have z0 := zz 0
  have z1 := zz 1
  have z2 := zz 2
  have K1 := Lib.hid (((((Kept.refl None' w).alloc _ _).alloc _ _).alloc _ _).trans hk)
  clear hk zz
  go_wp2_with fail
  have cs := cells_set3 (v0 := .float .f32 0) (v1 := .float .f32 0) (v2 := .float .f32 0) r0 r1 r2
  refine bodyPost_ret (ar3_ret2 Try.results43 _ _ (w.heap.size + 1 + 1) _ _ _ cs rfl) rfl ?_
  exact ⟨rfl, kept_set3 K1.out (by omega)⟩

set_option linter.unusedSimpArgs false in
set_option linter.unusedVariables false in
set_option maxHeartbeats 1000000 in
set_option maxRecDepth 100000 in
theorem Back_e2 (S : Int) (lo hi : Nat) (A : Option Addr) (n cap : Nat) (p : Nat → Nat) (steps : Int) (w : World) (E : Int) (hn : n ≤ 9223372036854775807) (hE : cuE S lo hi n = 0) (hB : bkE p steps = E) (h0 : ¬ E = 0) :
    Calls Try.prog 43 #[.agg #[.int .i64 S, .float .f32 lo, .float .f32 hi, .slice A n cap], .agg #[.float .f32 (p 0), .float .f32 (p 1), .float .f32 (p 2)], .int .i64 steps] w (ThE 0 0 0 E w) := by
  have HE := Lib.hid hE
  have HB := Lib.hid hB
  clear hE hB
  go_enter Try.func43, Try.ntmps43
  go_upto_region 4 with (first | (go_at_call 37; refine (checkcube_any _ _ _ _ _ _ _ hn).mono ?_; rw [HE.out]; rintro e w1 ⟨rfl, hk⟩))
  have r0 := hk.some (p := ⟨w.heap.size + 1 + 1, 0, none⟩) (v := .float .f32 0) (by go_simp) id
  have r1 := hk.some (p := ⟨w.heap.size + 1 + 1, 1, none⟩) (v := .float .f32 0) (by go_simp) id
  have r2 := hk.some (p := ⟨w.heap.size + 1 + 1, 2, none⟩) (v := .float .f32 0) (by go_simp) id
  have x0 := hk.some (p := ⟨w.heap.size + 1, 0, none⟩) (v := .float .f32 (p 0)) (by go_simp) id
  have x1 := hk.some (p := ⟨w.heap.size + 1, 1, none⟩) (v := .float .f32 (p 1)) (by go_simp) id
  have x2 := hk.some (p := ⟨w.heap.size + 1, 2, none⟩) (v := .float .f32 (p 2)) (by go_simp) id
  have zz : ∀ c, w1.frozen? ⟨w.heap.size + 1 + 1, c, none⟩ = false := fun c => (hk.frozen _).trans ((frozen?_alloc_cells _ _ _ _).trans ((frozen?_alloc_cells _ _ _ _).trans ((frozen?_alloc_cells _ _ _ _).trans (frozen_new _ _ (by simp; omega)))))
  have z0 := zz 0
  have z1 := zz 1
  have z2 := zz 2
  have K1 := Lib.hid (((((Kept.refl None' w).alloc _ _).alloc _ _).alloc _ _).trans hk)
  clear hk zz
  cases hN : (isN (p 0) && isN (p 1) && isN (p 2)) with
  | false =>
    obtain rfl : E = 2 := by have := HB.out; unfold bkE at this; rw [if_pos hN] at this; exact this.symm
    go_wp2_with (go_at_call 78; refine (allnum3_any _ _ _ _ _ _ x0 x1 x2).mono ?_; rw [hN]; rintro e w' ⟨rfl, rfl⟩)
    have cs := cells_set3 (v0 := .float .f32 0) (v1 := .float .f32 0) (v2 := .float .f32 0) r0 r1 r2
    refine bodyPost_ret (ar3_ret2 Try.results43 _ _ (w.heap.size + 1 + 1) _ _ _ cs rfl) rfl ?_
    exact ⟨rfl, kept_set3 K1.out (by omega)⟩
  | true =>
    cases hI : inB steps 0 64 with
    | true => exact absurd (by have := HB.out; unfold bkE at this; rw [if_neg (by rw [hN]; decide), if_neg (by rw [hI]; decide)] at this; exact this.symm) h0
    | false =>
      obtain rfl : E = 3 := by have := HB.out; unfold bkE at this; rw [if_neg (by rw [hN]; decide), if_pos hI] at this; exact this.symm
      have hS : steps < 0 ∨ 64 < steps := by
        rcases Int.lt_or_le steps 0 with h | h
        · exact .inl h
        · rcases Int.lt_or_le 64 steps with h2 | h2
          · exact .inr h2
          · rw [inB_iff.2 ⟨h, h2⟩] at hI; cases hI
      rcases hS with h | h
      · have q1 : decide (steps < 0) = true := decide_eq_true h
        go_wp2_with (go_at_call 78; refine (allnum3_any _ _ _ _ _ _ x0 x1 x2).mono ?_; rw [hN]; rintro e w' ⟨rfl, rfl⟩)
        have cs := cells_set3 (v0 := .float .f32 0) (v1 := .float .f32 0) (v2 := .float .f32 0) r0 r1 r2
        refine bodyPost_ret (ar3_ret2 Try.results43 _ _ (w.heap.size + 1 + 1) _ _ _ cs rfl) rfl ?_
        exact ⟨rfl, kept_set3 K1.out (by omega)⟩
      · have q1 : decide (steps < 0) = false := decide_eq_false (by omega)
        have q2 : decide (64 < steps) = true := decide_eq_true h
        go_wp2_with (go_at_call 78; refine (allnum3_any _ _ _ _ _ _ x0 x1 x2).mono ?_; rw [hN]; rintro e w' ⟨rfl, rfl⟩)
        have cs := cells_set3 (v0 := .float .f32 0) (v1 := .float .f32 0) (v2 := .float .f32 0) r0 r1 r2
        refine bodyPost_ret (ar3_ret2 Try.results43 _ _ (w.heap.size + 1 + 1) _ _ _ cs rfl) rfl ?_
        exact ⟨rfl, kept_set3 K1.out (by omega)⟩


theorem nrR_bd {S : Nat} {q : Int} (s1 : 2 ≤ S) (h0 : 0 ≤ q) (h1 : q < (S * (S * S) : Nat)) (c : Nat) : 0 ≤ nrR S q c ∧ nrR S q c ≤ (S : Int) - 1 := by
  obtain ⟨m, rfl⟩ : ∃ m : Nat, q = m := ⟨q.toNat, by omega⟩
  have hm : m < S * (S * S) := by omega
  obtain ⟨a, b, d⟩ := place_lt s1 hm
  rw [nrR_at]
  generalize m % S = i at *
  generalize m / S % S = j at *
  generalize m / S / S = k at *
  split
  · omega
  · split <;> omega
theorem X3S.congr {W1 : World} {X : Nat} {x x' : Nat → Nat} {wr : World} (h : X3S W1 X x wr) (hx : ∀ c, c < 3 → x' c = x c) : X3S W1 X x' wr := ⟨h.kept, fun c hc => by rw [hx c hc]; exact h.x c hc⟩
theorem bkE_ok {p : Nat → Nat} {steps : Int} (h : bkE p steps = 0) : (isN (p 0) && isN (p 1) && isN (p 2)) = true ∧ 0 ≤ steps ∧ steps ≤ 64 := by
  unfold bkE at h
  cases h1 : (isN (p 0) && isN (p 1) && isN (p 2)) with
  | false => rw [if_pos h1] at h; omega
  | true =>
    rw [if_neg (by rw [h1]; decide)] at h
    cases h2 : inB steps 0 64 with
    | false => rw [if_pos h2] at h; omega
    | true => exact ⟨rfl, inB_iff.1 h2⟩

set_option linter.unusedSimpArgs false in
set_option linter.unusedVariables false in
set_option maxHeartbeats 1000000 in
set_option maxRecDepth 100000 in
theorem Back_none (S : Nat) (lo hi b o n cap : Nat) (z p : Nat → Nat) (steps : Int) (q : Int × Nat) (w : World) (hq : nrB z p (S * (S * S)) = q) (q0 : q.1 < 0) (hE : cuE S lo hi n = 0) (hB : bkE p steps = 0) (hc : ∀ q, q < n → w.cell? ⟨b, o + q, none⟩ = some (.float .f32 (z q))) (hcap : n ≤ cap) :
    Calls Try.prog 43 #[.agg #[.int .i64 (S : Int), .float .f32 lo, .float .f32 hi, .slice (some ⟨b, o, none⟩) n cap], .agg #[.float .f32 (p 0), .float .f32 (p 1), .float .f32 (p 2)], .int .i64 steps] w (ThE 0 0 0 11 w) := by
  obtain ⟨s, hs, s1, s2, hn', hn3, hn4⟩ := cuE_nat hE
  have hn : n ≤ 9223372036854775807 := by omega
  obtain ⟨hN, hS1, hS2⟩ := bkE_ok hB
  have d1 : decide (steps < 0) = false := decide_eq_false (by omega)
  have d2 : decide (64 < steps) = false := decide_eq_false (by omega)
  have HNr := Lib.hid (fun (w' : World) (hk : Kept None' w w') => show Calls Try.prog 42 #[.agg #[.int .i64 (S : Int), .float .f32 lo, .float .f32 hi, .slice (some ⟨b, o, none⟩) n cap], .agg #[.float .f32 (p 0), .float .f32 (p 1), .float .f32 (p 2)]] w' fun e w'' => e = .returned (.tuple #[.int .i64 0, .int .i64 0, .int .i64 0, .int .i64 11]) ∧ Kept None' w' w'' from
    (Nearest_ok S lo hi b o n cap z p w' hE (fun q hq => hk.some (hc q hq) id) hcap).mono fun e w'' ⟨h1, h2⟩ => ⟨by
      have g : ∀ c, nrR S q.1 c = 0 := fun c => if_pos q0
      have g2 : nrE q.1 = 11 := if_pos q0
      rw [h1, hq, g, g, g, g2], h2⟩)
  have HE := Lib.hid hE
  clear hE hB hc hn' hn3 hn4 hs hq
  go_enter Try.func43, Try.ntmps43
  go_upto_region 4 with (first | (go_at_call 37; refine (checkcube_any _ _ _ _ _ _ _ hn).mono ?_; rw [HE.out]; rintro e w1 ⟨rfl, hk⟩))
  obtain ⟨t0, t1, t2, t3⟩ : CubB w.heap.size S lo hi b o n cap w1 := ⟨hk.some (by go_simp) id, hk.some (by go_simp) id, hk.some (by go_simp) id, hk.some (by go_simp) id⟩
  have r0 := hk.some (p := ⟨w.heap.size + 1 + 1, 0, none⟩) (v := .float .f32 0) (by go_simp) id
  have r1 := hk.some (p := ⟨w.heap.size + 1 + 1, 1, none⟩) (v := .float .f32 0) (by go_simp) id
  have r2 := hk.some (p := ⟨w.heap.size + 1 + 1, 2, none⟩) (v := .float .f32 0) (by go_simp) id
  have x0 := hk.some (p := ⟨w.heap.size + 1, 0, none⟩) (v := .float .f32 (p 0)) (by go_simp) id
  have x1 := hk.some (p := ⟨w.heap.size + 1, 1, none⟩) (v := .float .f32 (p 1)) (by go_simp) id
  have x2 := hk.some (p := ⟨w.heap.size + 1, 2, none⟩) (v := .float .f32 (p 2)) (by go_simp) id
  have zz : ∀ c, w1.frozen? ⟨w.heap.size + 1 + 1, c, none⟩ = false := fun c => (hk.frozen _).trans ((frozen?_alloc_cells _ _ _ _).trans ((frozen?_alloc_cells _ _ _ _).trans ((frozen?_alloc_cells _ _ _ _).trans (frozen_new _ _ (by simp; omega)))))
  have HR := Lib.hid (And.intro r0 (And.intro r1 (And.intro r2 zz)))
  have K1 := Lib.hid (((((Kept.refl None' w).alloc _ _).alloc _ _).alloc _ _).trans hk)
  clear hk zz r0 r1 r2
  go_wp2_with (first
    | (go_at_call 78; refine (allnum3_any _ _ _ _ _ _ x0 x1 x2).mono ?_; rw [hN]; rintro e w' ⟨rfl, rfl⟩)
    | (go_at_call 42; refine (HNr.out _ K1.out).mono ?_; rintro e w2 ⟨rfl, hk⟩; have r0 := hk.some HR.out.1 id; have r1 := hk.some HR.out.2.1 id; have r2 := hk.some HR.out.2.2.1 id; have z0 := (hk.frozen ⟨w.heap.size + 1 + 1, 0, none⟩).trans (HR.out.2.2.2 0); have z1 := (hk.frozen ⟨w.heap.size + 1 + 1, 1, none⟩).trans (HR.out.2.2.2 1); have z2 := (hk.frozen ⟨w.heap.size + 1 + 1, 2, none⟩).trans (HR.out.2.2.2 2); have K2 := Lib.hid (K1.out.trans hk); clear hk))
  have cs := cells_set3 (v0 := .float .f32 0) (v1 := .float .f32 0) (v2 := .float .f32 0) r0 r1 r2
  refine bodyPost_ret (ar3_ret2 Try.results43 _ _ (w.heap.size + 1 + 1) _ _ _ cs rfl) rfl ?_
  exact ⟨rfl, kept_set3 K2.out (by omega)⟩

set_option linter.unusedSimpArgs false in
set_option linter.unusedVariables false in
set_option maxHeartbeats 2000000 in
set_option maxRecDepth 100000 in
theorem Back_ok (S : Nat) (lo hi b o n cap : Nat) (z p : Nat → Nat) (steps : Nat) (q : Int × Nat) (w : World) (hq : nrB z p (S * (S * S)) = q) (q0 : 0 ≤ q.1) (hE : cuE S lo hi n = 0) (hB : bkE p steps = 0) (hc : ∀ q, q < n → w.cell? ⟨b, o + q, none⟩ = some (.float .f32 (z q))) (hcap : n ≤ cap) :
    Calls Try.prog 43 #[.agg #[.int .i64 (S : Int), .float .f32 lo, .float .f32 hi, .slice (some ⟨b, o, none⟩) n cap], .agg #[.float .f32 (p 0), .float .f32 (p 1), .float .f32 (p 2)], .int .i64 (steps : Int)] w
      (ThE (cl .f32 (bkX (entE z S) S lo hi p (nrR S q.1) steps 0)) (cl .f32 (bkX (entE z S) S lo hi p (nrR S q.1) steps 1)) (cl .f32 (bkX (entE z S) S lo hi p (nrR S q.1) steps 2)) 0 w) := by
  obtain ⟨s, hs, s1, s2, hn', hn3, hn4⟩ := cuE_nat hE
  obtain rfl : S = s := by omega
  have hn : n ≤ 9223372036854775807 := by omega
  obtain ⟨hN, hS1, hS2⟩ := bkE_ok hB
  have d1 : decide ((steps : Int) < 0) = false := decide_eq_false (by omega)
  have d2 : decide (64 < (steps : Int)) = false := decide_eq_false (by omega)
  have hf := fun c => nrR_bd (c := c) s1 q0 (by rw [← hq]; exact (nrB_bd z p _).2)
  have hNr : ∀ (w' : World), Kept None' w w' → Calls Try.prog 42 #[.agg #[.int .i64 (S : Int), .float .f32 lo, .float .f32 hi, .slice (some ⟨b, o, none⟩) n cap], .agg #[.float .f32 (p 0), .float .f32 (p 1), .float .f32 (p 2)]] w' fun e w'' => e = .returned (.tuple #[.int .i64 (nrR S q.1 0), .int .i64 (nrR S q.1 1), .int .i64 (nrR S q.1 2), .int .i64 0]) ∧ Kept None' w' w'' := fun w' hk =>
    (Nearest_ok S lo hi b o n cap z p w' hE (fun q hq => hk.some (hc q hq) id) hcap).mono fun e w'' ⟨h1, h2⟩ => ⟨by
      have g2 : nrE q.1 = 0 := if_neg (by omega)
      rw [h1, hq, g2], h2⟩
  have hSp : ∀ (c : Nat) (w' : World), Calls Try.prog 91 #[.agg #[.int .i64 (S : Int), .float .f32 lo, .float .f32 hi, .slice (some ⟨b, o, none⟩) n cap], .float .f32 (valP (nrR S q.1 c) ((S : Int) - 1))] w' fun e w'' => e = .returned (.float .f32 (spP S lo hi (nrR S q.1 c))) ∧ Kept None' w' w'' :=
    fun c w' => spot_any S lo hi _ n cap _ w' hE (hf c).1 (hf c).2 (by omega) (by omega)
  have hPt : ∀ (c : Nat) (w' : World), Calls Try.prog 92 #[.int .i64 (nrR S q.1 c), .int .i64 (S : Int)] w' fun e w'' => e = .returned (.float .f32 (valP (nrR S q.1 c) ((S : Int) - 1))) ∧ w' = w'' :=
    fun c w' => part_any _ _ w' (hf c).1 (hf c).2 (by omega) (by omega)
  have hTe : ∀ (x : Nat → Nat) (w' : World), Kept None' w w' → Calls Try.prog 86 #[.agg #[.int .i64 (S : Int), .float .f32 lo, .float .f32 hi, .slice (some ⟨b, o, none⟩) n cap], .agg #[.float .f32 (x 0), .float .f32 (x 1), .float .f32 (x 2), .float .f32 0]] w' (PxIs (teP (entE z S) S lo hi (px3 x)) w') := fun x w' hk =>
    tetra_any S lo hi b o n cap (entE z S) (px3 x) w' (by omega) (by omega) (fun x y u wr hk2 => entry_E S lo hi b o n cap z w hn' (by omega) (by omega) hc hcap x y u wr (hk.trans hk2))
  obtain ⟨f, hf'⟩ : ∃ f : Nat → Int, nrR S q.1 = f := ⟨_, rfl⟩
  rw [hf'] at hSp hPt hNr ⊢
  have hX0 : ∀ c, bkX (entE z S) S lo hi p f 0 c = spP S lo hi (f c) := fun c => rfl
  have hXs := bkX_step (entE z S) S lo hi p f
  generalize bkX (entE z S) S lo hi p f = X' at *
  have HX := Lib.hid (And.intro hX0 hXs)
  have HNr := Lib.hid hNr
  have HSp := Lib.hid hSp
  have HPt := Lib.hid hPt
  have HTe := Lib.hid hTe
  have HE := Lib.hid hE
  clear hE hB hc hn' hn3 hn4 hs hq hf hNr hSp hPt hTe hf' hX0 hXs q0 hcap
  go_enter Try.func43, Try.ntmps43
  go_upto_region 4 with (first | (go_at_call 37; refine (checkcube_any _ _ _ _ _ _ _ hn).mono ?_; rw [HE.out]; rintro e w1 ⟨rfl, hk⟩))
  have hB : CubB w.heap.size S lo hi b o n cap w1 := ⟨hk.some (by go_simp) id, hk.some (by go_simp) id, hk.some (by go_simp) id, hk.some (by go_simp) id⟩
  have hr : ∀ c, c < 3 → w1.cell? ⟨w.heap.size + 1 + 1, c, none⟩ = some (.float .f32 0) := fun c hc => by
    obtain rfl | rfl | rfl : c = 0 ∨ c = 1 ∨ c = 2 := by omega
    all_goals exact hk.some (by go_simp) id
  have hx : ∀ c, c < 3 → w1.cell? ⟨w.heap.size + 1, c, none⟩ = some (.float .f32 (p c)) := fun c hc => by
    obtain rfl | rfl | rfl : c = 0 ∨ c = 1 ∨ c = 2 := by omega
    all_goals exact hk.some (by go_simp) id
  have zz : ∀ a : Addr, w.heap.size ≤ a.block → w1.frozen? a = false := fun a ha => (hk.frozen _).trans ((frozen?_alloc_cells _ _ _ _).trans ((frozen?_alloc_cells _ _ _ _).trans ((frozen?_alloc_cells _ _ _ _).trans (frozen_new _ _ ha))))
  have K1 := Lib.hid (((((Kept.refl None' w).alloc _ _).alloc _ _).alloc _ _).trans hk)
  have l1 : w.heap.size + 3 ≤ w1.heap.size := by have := hk.size; simpa using this
  generalize hR : w.heap.size + 1 + 1 = R at *
  generalize hP : w.heap.size + 1 = P at *
  generalize hT : w.heap.size = T at *
  have HN := Lib.hid (And.intro hR (And.intro hP (And.intro hT l1)))
  have HB := Lib.hid hB
  have HR := Lib.hid hr
  have HP := Lib.hid hx
  have HZ := Lib.hid zz
  obtain ⟨t0, t1, t2, t3⟩ := hB
  have x0 := hx 0 (by omega)
  have x1 := hx 1 (by omega)
  have x2 := hx 2 (by omega)
  clear hk zz hr hx hR hP hT l1
  go_upto_region 11 with (first
    | (go_at_call 78; refine (allnum3_any _ _ _ _ _ _ x0 x1 x2).mono ?_; rw [hN]; rintro e w' ⟨rfl, rfl⟩)
    | (go_at_call 42; refine (HNr.out _ K1.out).mono ?_; rintro e w2 ⟨rfl, hk⟩; have K2 := Lib.hid hk; clear hk))
  obtain ⟨c0, c1, c2, c3⟩ := HB.out.step K2.out id
  have A0 := ext_cell2 c0
  have A1 := ext_cell2 c1
  have A2 := ext_cell2 c2
  have A3 := ext_cell2 c3
  clear t0 t1 t2 t3 x0 x1 x2 c0 c1 c2 c3
  refine region_box [0, 1, 2, 3, 4, 5, 6, 7, 8, 9, 10, 11, 12, 13, 14, 15, 16, 17, 18] 19 [20] 13 #[.float .f32 0, .float .f32 0, .float .f32 0] 36 (by kernel_rfl) (by kernel_rfl) rfl rfl rfl (fun _ _ => rfl) ?_
  simp only [pickO, List.filterMap_cons, List.filterMap_nil, List.getElem?_toArray, List.getElem?_cons_zero, List.getElem?_cons_succ]
  repeat (first
    | (refine wpStep_det (fun y => ?_); go_big_quiet_skip; refine wpQuiet_nil ?_)
    | (refine wpStep_det (fun y => ?_); go_big_quiet_want; go_big_quiet_op; (first | go_big_quiet_on | (go_big_quiet_call (first
        | (go_at_call 92; exact calls_ext_same (HPt.out _ _))
        | (go_at_call 91; exact calls_ext (HSp.out _ _))
        ))); refine wpQuiet_nil ?_)
    | fail)
  refine wpStep_nil ?_
  rintro XB Wb hb
  have e0 := hb.cell 0 _ rfl
  have e1 := hb.cell 1 _ rfl
  have e2 := hb.cell 2 _ rfl
  have z0 := hb.fz 0
  have z1 := hb.fz 1
  have z2 := hb.fz 2
  have HBx := Lib.hid hb
  clear hb A0 A1 A2 A3
  go_upto_region 12 with fail
  refine of_world (fun W3 hW => ?_)
  have cs := cells_set3 (v0 := .float .f32 (spP S lo hi (f 0))) (v1 := .float .f32 (spP S lo hi (f 1))) (v2 := .float .f32 (spP S lo hi (f 2))) e0 e1 e2
  have k3 : Kept None' w1 W3 := by rw [hW]; exact kept_set3 (K2.out.trans HBx.out.kept) (Nat.le_trans K2.out.size HBx.out.le)
  have hX : X3S W3 XB (X' 0) W3 := ⟨Kept.refl _ _, fun c hc => by
    rw [hW, HX.out.1]
    obtain rfl | rfl | rfl : c = 0 ∨ c = 1 ∨ c = 2 := by omega
    · exact cs.1
    · exact cs.2.1
    · exact cs.2.2⟩
  have hN3 : w1.heap.size ≤ XB := Nat.le_trans K2.out.size HBx.out.le
  have K3 := Lib.hid k3
  have HX0 := Lib.hid hX
  have HN3 := Lib.hid hN3
  clear hW e0 e1 e2 z0 z1 z2 cs k3 hX hN3
  go_wp2_with fail
  go_loopw [65] (fun s65 wr => ∃ t : Nat, t ≤ steps ∧ s65 = .int .i64 (t : Int) ∧ X3S W3 XB (X' t) wr) (fun s65 _ => (steps - intOf s65).toNat)
  case atStart => exact ⟨0, by omega, rfl, HX0.out⟩
  case round =>
    obtain ⟨t, ht, rfl, hS⟩ := hrel
    have HS := Lib.hid hS
    clear hS
    have nT : ¬ T = XB := by have := HN.out; have := HN3.out; omega
    have nP : ¬ P = XB := by have := HN.out; have := HN3.out; omega
    have nR : ¬ R = XB := by have := HN.out; have := HN3.out; omega
    have K4 := Lib.hid (kept_over' (K1.out.trans K3.out) HS.out.kept (fun i hi => by have := HN.out; have := HN3.out; omega))
    have HNN := Lib.hid (And.intro nT (And.intro nP nR))
    clear nT nP nR
    by_cases hlt : t < steps
    · have d3 : decide ((t : Int) < (steps : Int)) = true := decide_eq_true (by omega)
      obtain ⟨y, hy⟩ : ∃ y, X' t = y := ⟨_, rfl⟩
      have hnx := HX.out.2 t
      have hS := HS.out
      rw [hy] at hnx hS
      have hTy := HTe.out y
      generalize teP (entE z (S : Int)) (S : Int) lo hi (px3 y) = g at hnx hTy
      have HTy := Lib.hid hTy
      have HNx := Lib.hid hnx
      obtain ⟨t0, t1, t2, t3⟩ := (HB.out.step K3.out id).step hS.kept HNN.out.1
      have x0 := hS.x 0 (by omega)
      have x1 := hS.x 1 (by omega)
      have x2 := hS.x 2 (by omega)
      have HSy := Lib.hid hS
      have lXB := cell_lt x0
      clear hTy hnx hS hy
      go_upto_region 15 with (go_at_call 86; refine (HTy.out _ K4.out).mono ?_; rintro e w5 ⟨rfl, hk⟩)
      refine of_world (fun W4 hW4 => ?_)
      have k4 : Kept None' wr W4 := by rw [hW4]; exact hk.alloc _ _
      have hg : ∀ c, c < 4 → W4.cell? ⟨w5.heap.size, c, none⟩ = some (.float .f32 (g c)) := fun c hc => by
        rw [hW4]
        obtain rfl | rfl | rfl | rfl : c = 0 ∨ c = 1 ∨ c = 2 ∨ c = 3 := by omega
        all_goals go_simp
      have hS4 : X3S W4 XB (fun c => if c < 0 then bkN lo hi p g y c else y c) W4 := ⟨Kept.refl _ _, fun c hc => k4.some (HSy.out.x c hc) id⟩
      have lQ : XB < w5.heap.size := Nat.lt_of_lt_of_le lXB hk.size
      generalize w5.heap.size = Q at *
      have HQ := Lib.hid (And.intro hg (And.intro (show XB < Q from lQ) k4))
      have HS4 := Lib.hid hS4
      have HB4 := Lib.hid (((HB.out.step K3.out id).step HSy.out.kept HNN.out.1).step k4 id)
      have HP4 := Lib.hid (fun c hc => k4.some (HSy.out.kept.some (K3.out.some (HP.out c hc) id) HNN.out.2.1) id)
      have HZ4 := Lib.hid (show ∀ a : Addr, T ≤ a.block → W4.frozen? a = false from fun a ha => (k4.frozen a).trans ((HSy.out.kept.frozen a).trans ((K3.out.frozen a).trans (HZ.out a ha))))
      clear hW4 hk hg hS4 lQ k4 t0 t1 t2 t3 x0 x1 x2 lXB
      go_wp2_with fail
      go_loopw [76] (fun s76 wr2 => ∃ k : Nat, k ≤ 3 ∧ s76 = .int .i64 (k : Int) ∧ X3S W4 XB (fun c => if c < k then bkN lo hi p g y c else y c) wr2) (fun s76 _ => (3 - intOf s76).toNat)
      case atStart => exact ⟨0, by omega, rfl, HS4.out⟩
      case round =>
        obtain ⟨k, hk, rfl, hS2⟩ := hrel
        have HS2 := Lib.hid hS2
        by_cases hlt2 : k < 3
        · have d4 : decide ((k : Int) < 3) = true := decide_eq_true (by omega)
          have e0 : 0 ≤ (k : Int) := by omega
          have e1 : (k : Int) < 3 := by omega
          have e2 : (k : Int) < 4 := by omega
          have hyk : wr.cell? ⟨XB, k, none⟩ = some (.float .f32 (y k)) := by have := hS2.x k hlt2; simpa using this
          have nQ : ¬ Q = XB := by have := HQ.out.2.1; omega
          obtain ⟨t0, t1, t2, t3⟩ := HB4.out.step hS2.kept HNN.out.1
          have A0 := ext_cell hyk
          have A1 := ext_cell (hS2.kept.some (HP4.out k hlt2) HNN.out.2.1)
          have A2 := ext_cell (hS2.kept.some (HQ.out.1 k (by omega)) nQ)
          have A3 := ext_cell t1
          have A4 := ext_cell t2
          clear hS2 hyk nQ t0 t1 t2 t3
          go_upto_region 18 with fail
          refine region_with_tail 19 (by kernel_rfl) (by kernel_rfl) ?_
          simp only [List.take_succ_cons, List.take_zero, List.drop_succ_cons, List.drop_zero]
          repeat (first
            | (refine wpWith_det ?_; go_big_quiet_want; go_big_quiet_op; go_big_quiet_on; refine wpQuiet_nil ?_)
            | (refine wpWith_det ?_; go_big_quiet_skip; refine wpQuiet_nil ?_)
            | fail)
          refine wpWith_float (by rfl) rfl (by simp) rfl rfl (fun d0 h0 => ?_)
          simp only [Act.put, List.setIfInBounds_toArray, List.set_cons_zero, List.set_cons_succ]
          repeat (first
            | (refine wpWith_det ?_; go_big_quiet_want; go_big_quiet_op; go_big_quiet_on; refine wpQuiet_nil ?_)
            | (refine wpWith_det ?_; go_big_quiet_skip; refine wpQuiet_nil ?_)
            | fail)
          refine wpWith_float (by rfl) rfl (by simp) rfl rfl (fun d1 h1 => ?_)
          simp only [Act.put, List.setIfInBounds_toArray, List.set_cons_zero, List.set_cons_succ]
          repeat (first
            | (refine wpWith_det ?_; go_big_quiet_want; go_big_quiet_op; go_big_quiet_on; refine wpQuiet_nil ?_)
            | (refine wpWith_det ?_; go_big_quiet_skip; refine wpQuiet_nil ?_)
            | fail)
          refine wpWith_float (by rfl) rfl (by simp) rfl rfl (fun d2 h2 => ?_)
          simp only [Act.put, List.setIfInBounds_toArray, List.set_cons_zero, List.set_cons_succ]
          repeat (first
            | (refine wpWith_det ?_; go_big_quiet_want; go_big_quiet_op; go_big_quiet_on; refine wpQuiet_nil ?_)
            | (refine wpWith_det ?_; go_big_quiet_skip; refine wpQuiet_nil ?_)
            | fail)
          refine wpWith_det ?_
          go_big_quiet_want
          go_big_quiet_op
          go_big_quiet_call ((go_at_call 93; exact calls_ext_same (limit_any _ _ _ _)))
          refine wpQuiet_nil ?_
          repeat (first
            | (refine wpWith_det ?_; go_big_quiet_want; go_big_quiet_op; go_big_quiet_on; refine wpQuiet_nil ?_)
            | (refine wpWith_det ?_; go_big_quiet_skip; refine wpQuiet_nil ?_)
            | fail)
          refine wpWith_nil ?_
          rintro _ ⟨xq, rfl⟩
          have hL := bkN_of (lo := lo) (hi := hi) (x := y) h0 h1 h2
          have hS5 := HS2.out.step (ext_kept _ xq)
          have cq := hS5.x k hlt2
          have zq := (hS5.kept.frozen ⟨XB, k, none⟩).trans (HZ4.out _ (by have := HN.out; have := HN3.out; show T ≤ XB; omega))
          have HS5 := Lib.hid hS5
          have HL := Lib.hid hL
          clear hS5 hL h0 h1 h2 A0 A1 A2 A3 A4
          generalize ext _ xq = W5 at *
          go_wp2_with fail
          go_roundw
          case rel =>
            refine ⟨k + 1, by omega, by go_num, HS5.out.set hlt2 (fun j hj => ?_)⟩
            by_cases e : j = k
            · subst e; rw [if_pos (Nat.lt_succ_self _), if_pos rfl]; exact HL.out.symm
            · rw [if_neg e]
              by_cases e2 : j < k
              · rw [if_pos e2, if_pos (by omega)]
              · rw [if_neg e2, if_neg (by omega)]
          case measure => simp [intOf]; omega
        · obtain rfl : k = 3 := by omega
          have d4 : decide (((3 : Nat) : Int) < 3) = false := by decide
          clear hS2
          go_wp2_with fail
          go_roundw
          case rel =>
            refine ⟨t + 1, by omega, by go_num, ⟨?_, fun c hc => ?_⟩⟩
            · exact (HSy.out.kept.trans (HQ.out.2.2.mono fun _ _ x => x.elim)).trans HS2.out.kept
            · rw [HNx.out c]
              have := HS2.out.x c hc
              rw [this, if_pos hc]
          case measure => simp [intOf]; omega
    · obtain rfl : t = steps := by omega
      have d3 : decide ((t : Int) < (t : Int)) = false := by simp
      have x0 := HS.out.x 0 (by omega)
      have x1 := HS.out.x 1 (by omega)
      have x2 := HS.out.x 2 (by omega)
      have kk := Kept.trans (K3.out.mono fun _ _ x => x.elim) HS.out.kept
      have hr : ∀ c, c < 3 → wr.cell? ⟨R, c, none⟩ = some (.float .f32 0) := fun c hc => HS.out.kept.some (K3.out.some (HR.out c hc) id) HNN.out.2.2
      have zz : ∀ c, wr.frozen? ⟨R, c, none⟩ = false := fun c => (HS.out.kept.frozen _).trans ((K3.out.frozen _).trans (HZ.out _ (by have := HN.out; show T ≤ R; omega)))
      have HRR := Lib.hid (And.intro hr zz)
      clear hr zz kk
      go_wp2_with (go_at_call 81; refine (cleaned_any _ _ _ _).mono ?_; rintro e w7 ⟨rfl, hk⟩; have r0 := hk.some (HRR.out.1 0 (by omega)) id; have r1 := hk.some (HRR.out.1 1 (by omega)) id; have r2 := hk.some (HRR.out.1 2 (by omega)) id; have z0 := (hk.frozen ⟨R, 0, none⟩).trans (HRR.out.2 0); have z1 := (hk.frozen ⟨R, 1, none⟩).trans (HRR.out.2 1); have z2 := (hk.frozen ⟨R, 2, none⟩).trans (HRR.out.2 2); have K7 := Lib.hid (K4.out.trans hk); clear hk)
      have cs := cells_set3 (v0 := .float .f32 (cl .f32 (X' t 0))) (v1 := .float .f32 (cl .f32 (X' t 1))) (v2 := .float .f32 (cl .f32 (X' t 2))) r0 r1 r2
      refine bodyPost_ret (ar3_ret2 Try.results43 _ _ R _ _ _ cs rfl) rfl ?_
      exact ⟨rfl, kept_set3 K7.out (by have := HN.out; omega)⟩
end Go.Proofs.Ytkmganophcklgaa
