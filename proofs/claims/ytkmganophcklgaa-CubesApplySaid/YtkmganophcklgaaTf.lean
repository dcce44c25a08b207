/- The contract of cube.tetra. Conditions: none. -/
import Derived.Test.YtkmganophcklgaaTe
import Derived.Test.YtkmganophcklgaaC4
namespace Go.Proofs.Ytkmganophcklgaa
open Go.RowKit
open Fl Fr
open BigFrame

theorem int3_i0 (v0 v1 v2 : Value) (w : World) : (Instr.index 69 (.agg #[v0, v1, v2]) (.int .i64 0)).run Try.prog w = .ok v0 w := by kernel_rfl
theorem int3_i1 (v0 v1 v2 : Value) (w : World) : (Instr.index 69 (.agg #[v0, v1, v2]) (.int .i64 1)).run Try.prog w = .ok v1 w := by kernel_rfl
theorem int3_i2 (v0 v1 v2 : Value) (w : World) : (Instr.index 69 (.agg #[v0, v1, v2]) (.int .i64 2)).run Try.prog w = .ok v2 w := by kernel_rfl
theorem te_idx (k : Nat) (hk : k < 3) (w : World) : (Instr.index 69 (.agg #[.int .i64 0, .int .i64 1, .int .i64 0]) (.int .i64 (k : Int))).run Try.prog w = .ok (.int .i64 (k % 2 : Nat)) w := by
  obtain rfl | rfl | rfl : k = 0 ∨ k = 1 ∨ k = 2 := by omega
  · exact int3_i0 ..
  · exact int3_i1 ..
  · exact int3_i2 ..
theorem int3_idx (f : Nat → Int) (k : Nat) (hk : k < 3) (w : World) : (Instr.index 69 (.agg #[.int .i64 (f 0), .int .i64 (f 1), .int .i64 (f 2)]) (.int .i64 (k : Int))).run Try.prog w = .ok (.int .i64 (f k)) w := by
  obtain rfl | rfl | rfl : k = 0 ∨ k = 1 ∨ k = 2 := by omega
  · exact int3_i0 ..
  · exact int3_i1 ..
  · exact int3_i2 ..
theorem px_ret1 {fn : Func} {t : Tmp} (hr : fn.results = #[.cell t 56]) (W : World) (tmps : Array Value) (B : Nat) (r : Nat → Nat) (h : ∀ c, c < 4 → W.cell? ⟨B, c, none⟩ = some (.float .f32 (r c)))
    (ht : tmps[t]?.getD undef = .pointer (some ⟨B, 0, none⟩)) : (results fn tmps).run Try.prog W = .ok (.agg #[.float .f32 (r 0), .float .f32 (r 1), .float .f32 (r 2), .float .f32 (r 3)]) W :=
  px_ret hr W tmps B _ _ _ _ (h 0 (by omega)) (h 1 (by omega)) (h 2 (by omega)) (h 3 (by omega)) ht
/-- A pixel whose singles are known. -/
def PxIs (r : Nat → Nat) (w : World) (e : Ending) (w' : World) : Prop := e = .returned (.agg #[.float .f32 (r 0), .float .f32 (r 1), .float .f32 (r 2), .float .f32 (r 3)]) ∧ Kept None' w w'

set_option linter.unusedSimpArgs false in
set_option linter.unusedVariables false in
set_option maxHeartbeats 4000000 in
set_option maxRecDepth 100000 in
theorem tetra_bad (S : Int) (lo hi b o n cap : Nat) (E : Int → Int → Int → Nat → Nat) (p : Nat → Nat) (w : World) (s1 : 2 ≤ S) (s2 : S ≤ 17) (hp : brk p = true) :
    Calls Try.prog 86 #[.agg #[.int .i64 S, .float .f32 lo, .float .f32 hi, .slice (some ⟨b, o, none⟩) n cap], .agg #[.float .f32 (p 0), .float .f32 (p 1), .float .f32 (p 2), .float .f32 (p 3)]] w (PxIs (teP E S lo hi p) w) := by
  have e0 : teP E S lo hi p 0 = qn .f32 := by unfold teP; rw [if_neg (by decide), if_pos hp]
  have e1 : teP E S lo hi p 1 = qn .f32 := by unfold teP; rw [if_neg (by decide), if_pos hp]
  have e2 : teP E S lo hi p 2 = qn .f32 := by unfold teP; rw [if_neg (by decide), if_pos hp]
  have e3 : teP E S lo hi p 3 = cl .f32 (p 3) := by unfold teP; rw [if_pos rfl]
  unfold PxIs
  rw [e0, e1, e2, e3]
  clear e0 e1 e2 e3
  go_enter Try.func86, Try.ntmps86
  go_upto_region 2 with (first
    | (go_at_call 114; refine (places_bad S lo hi _ n cap p _ s1 s2 hp).mono ?_; rintro e w1 ⟨x0, x1, x2, y0, y1, y2, rfl, hk⟩))
  refine of_world (fun W1 hW => ?_)
  have k1 : Kept None' w1 W1 := by rw [hW]; exact ((Kept.refl _ _).alloc _ _).alloc _ _
  have c3 : W1.cell? ⟨w.heap.size + 1, 3, none⟩ = some (.float .f32 (p 3)) := k1.some (hk.some (by go_simp) id) id
  have r0 : W1.cell? ⟨w.heap.size + 1 + 1, 0, none⟩ = some (.float .f32 0) := k1.some (hk.some (by go_simp) id) id
  have r1 : W1.cell? ⟨w.heap.size + 1 + 1, 1, none⟩ = some (.float .f32 0) := k1.some (hk.some (by go_simp) id) id
  have r2 : W1.cell? ⟨w.heap.size + 1 + 1, 2, none⟩ = some (.float .f32 0) := k1.some (hk.some (by go_simp) id) id
  have r3 : W1.cell? ⟨w.heap.size + 1 + 1, 3, none⟩ = some (.float .f32 0) := k1.some (hk.some (by go_simp) id) id
  have zz : ∀ c, W1.frozen? ⟨w.heap.size + 1 + 1, c, none⟩ = false := fun c => (k1.frozen _).trans ((hk.frozen _).trans ((frozen?_alloc_cells _ _ _ _).trans ((frozen?_alloc_cells _ _ _ _).trans ((frozen?_alloc_cells _ _ _ _).trans (frozen_new _ _ (by simp; omega))))))
  have KW := Lib.hid (((((Kept.refl None' w).alloc _ _).alloc _ _).alloc _ _).trans (hk.trans k1))
  have HR := Lib.hid (And.intro r0 (And.intro r1 (And.intro r2 (And.intro r3 zz))))
  clear hW hk k1 r0 r1 r2 r3 zz
  go_wp2_with (first
    | (go_at_call 115; refine (lost_any _ _).mono ?_; rintro e w2 ⟨rfl, hk⟩; have r0 := hk.some HR.out.1 id; have r1 := hk.some HR.out.2.1 id; have r2 := hk.some HR.out.2.2.1 id; have r3 := hk.some HR.out.2.2.2.1 id; have z0 := (hk.frozen ⟨w.heap.size + 1 + 1, 0, none⟩).trans (HR.out.2.2.2.2 0); have z1 := (hk.frozen ⟨w.heap.size + 1 + 1, 1, none⟩).trans (HR.out.2.2.2.2 1); have z2 := (hk.frozen ⟨w.heap.size + 1 + 1, 2, none⟩).trans (HR.out.2.2.2.2 2); have z3 := (hk.frozen ⟨w.heap.size + 1 + 1, 3, none⟩).trans (HR.out.2.2.2.2 3); have K2 := Lib.hid hk; clear hk))
  have cs := cells_set4 (v0 := .float .f32 (qn .f32)) (v1 := .float .f32 (qn .f32)) (v2 := .float .f32 (qn .f32)) (v3 := .float .f32 (cl .f32 (p 3))) r0 r1 r2 r3
  refine bodyPost_ret (px_ret Try.results86 _ _ (w.heap.size + 1 + 1) _ _ _ _ cs.1 cs.2.1 cs.2.2.1 cs.2.2.2 rfl) rfl ?_
  exact ⟨rfl, kept_set4' (KW.out.trans K2.out) (by omega)⟩

/-- The axes in block B. -/
structure OrS (W1 : World) (B : Nat) (g : Nat → Nat → Bool) (k : Nat) (wr : World) : Prop where
  kept : Kept (fun b => b = B) W1 wr
  cells : ∀ i, i < 3 → wr.cell? ⟨B, i, none⟩ = some (.int .i64 (ordF g k i : Nat))
theorem OrS.step {W1 : World} {B : Nat} {g : Nat → Nat → Bool} {k : Nat} {wr w2 : World} (h : OrS W1 B g k wr) (hk : Kept None' wr w2) : OrS W1 B g k w2 :=
  ⟨h.kept.trans (hk.mono fun _ _ x => x.elim), fun c hc => hk.some (h.cells c hc) id⟩
theorem OrS.stay {W1 : World} {B : Nat} {g : Nat → Nat → Bool} {k : Nat} {wr : World} (h : OrS W1 B g k wr) (hg : g (ordF g k (k % 2 + 1)) (ordF g k (k % 2)) = false) : OrS W1 B g (k + 1) wr :=
  ⟨h.kept, fun i hi => by rw [ordF_no hg]; exact h.cells i hi⟩
theorem OrS.swap {W1 : World} {B : Nat} {g : Nat → Nat → Bool} {k n : Nat} {wr : World} (h : OrS W1 B g k wr) (hn : k % 2 = n) (hg : g (ordF g k (n + 1)) (ordF g k n) = true) :
    OrS W1 B g (k + 1) ((wr.setCell ⟨B, n, none⟩ (.int .i64 (ordF g k (n + 1) : Nat))).setCell ⟨B, n + 1, none⟩ (.int .i64 (ordF g k n : Nat))) := by
  subst hn
  refine ⟨h.kept.trans (Kept.setCell (Kept.setCell (Kept.refl (fun b => b = B) wr) (p := ⟨B, _, none⟩) (Or.inr rfl) _) (p := ⟨B, _, none⟩) (Or.inr rfl) _), fun i hi => ?_⟩
  rw [ordF_yes hg]
  by_cases e1 : i = k % 2
  · rw [if_pos e1, e1]
    exact cell_set_ne (cell_set_eq (h.cells _ (by omega))) (Or.inr (by omega))
  · rw [if_neg e1]
    by_cases e2 : i = k % 2 + 1
    · rw [if_pos e2, e2]
      exact cell_set_eq (cell_set_ne (h.cells _ (by omega)) (Or.inr (by omega)))
    · rw [if_neg e2]
      exact cell_set_ne (cell_set_ne (h.cells i hi) (Or.inr (by omega))) (Or.inr (by omega))

theorem OrS.swap' {W1 : World} {B : Nat} {g : Nat → Nat → Bool} {k n oa ob : Nat} {wr : World} (h : OrS W1 B g k wr) (hn : k % 2 = n) (ha : ordF g k (k % 2) = oa) (hb : ordF g k (k % 2 + 1) = ob) (hg : g ob oa = true) :
    OrS W1 B g (k + 1) ((wr.setCell ⟨B, n, none⟩ (.int .i64 (ob : Nat))).setCell ⟨B, n + 1, none⟩ (.int .i64 (oa : Nat))) := by
  subst hn ha hb
  exact h.swap rfl hg

/-- The corners: block B5 holds the place after m steps, block B11 the first n corners. -/
structure CoS (W2 : World) (B5 B11 : Nat) (E : Int → Int → Int → Nat → Nat) (f : Nat → Int) (o : Nat → Nat) (m n : Nat) (wr : World) : Prop where
  kept : Kept (fun b => b = B5 ∨ b = B11) W2 wr
  c5 : ∀ c, c < 3 → wr.cell? ⟨B5, c, none⟩ = some (.int .i64 (posn f o m c))
  c11 : ∀ q, q < 12 → ∃ v, wr.cell? ⟨B11, q, none⟩ = some (.float .f32 v) ∧ (q < 3 * n → v = teC E f o (q / 3) (q % 3))
theorem CoS.step {W2 : World} {B5 B11 : Nat} {E : Int → Int → Int → Nat → Nat} {f : Nat → Int} {o : Nat → Nat} {m n : Nat} {wr w' : World} (h : CoS W2 B5 B11 E f o m n wr) (k : Kept None' wr w') : CoS W2 B5 B11 E f o m n w' :=
  ⟨h.kept.trans (k.mono fun _ _ x => x.elim), fun c hc => k.some (h.c5 c hc) id, fun q hq => let ⟨v, a, b⟩ := h.c11 q hq; ⟨v, k.some a id, b⟩⟩
theorem CoS.next {W2 : World} {B5 B11 : Nat} {E : Int → Int → Int → Nat → Nat} {f : Nat → Int} {o : Nat → Nat} {m n om : Nat} {wr : World} (h : CoS W2 B5 B11 E f o m n wr) (hn : B5 ≠ B11) (ho : o m = om) (hl : om < 3) :
    CoS W2 B5 B11 E f o (m + 1) n (wr.setCell ⟨B5, om, none⟩ (.int .i64 (posn f o m om + 1))) := by
  subst ho
  refine ⟨h.kept.trans (Kept.setCell (Kept.refl (fun b => b = B5 ∨ b = B11) wr) (p := ⟨B5, _, none⟩) (Or.inr (.inl rfl)) _), fun c hc => ?_, fun q hq => let ⟨v, a, b⟩ := h.c11 q hq; ⟨v, cell_set_ne a (Or.inl hn), b⟩⟩
  rw [posn]
  by_cases e : c = o m
  · rw [if_pos e, e]; exact cell_set_eq (h.c5 _ hl)
  · rw [if_neg e]; exact cell_set_ne (h.c5 c hc) (Or.inr (fun q => e q.symm))
theorem CoS.corner {W2 : World} {B5 B11 : Nat} {E : Int → Int → Int → Nat → Nat} {f : Nat → Int} {o : Nat → Nat} {m k : Nat} {e0 e1 e2 : Nat} {wr : World} (h : CoS W2 B5 B11 E f o m m wr) (hn : B5 ≠ B11) (hk : k = 3 * m) (_ : m < 4) (h0 : e0 = teC E f o m 0) (h1 : e1 = teC E f o m 1) (h2 : e2 = teC E f o m 2) :
    CoS W2 B5 B11 E f o m (m + 1) (((wr.setCell ⟨B11, k, none⟩ (.float .f32 e0)).setCell ⟨B11, k + 1, none⟩ (.float .f32 e1)).setCell ⟨B11, k + 2, none⟩ (.float .f32 e2)) := by
  subst hk h0 h1 h2
  have hA : ∀ j, (fun b => b = B5 ∨ b = B11) (⟨B11, j, none⟩ : Addr).block := fun _ => .inr rfl
  refine ⟨h.kept.trans (Kept.setCell (Kept.setCell (Kept.setCell (Kept.refl (fun b => b = B5 ∨ b = B11) wr) (Or.inr (hA _)) _) (Or.inr (hA _)) _) (Or.inr (hA _)) _), fun c hc => cell_set_ne (cell_set_ne (cell_set_ne (h.c5 c hc) (Or.inl (Ne.symm hn))) (Or.inl (Ne.symm hn))) (Or.inl (Ne.symm hn)), fun q hq => ?_⟩
  obtain ⟨v, a, b⟩ := h.c11 q hq
  by_cases q2 : q = 3 * m + 2
  · subst q2
    exact ⟨_, cell_set_eq (cell_set_ne (cell_set_ne a (Or.inr (by omega))) (Or.inr (by omega))), fun _ => by rw [show (3 * m + 2) / 3 = m by omega, show (3 * m + 2) % 3 = 2 by omega]⟩
  by_cases q1 : q = 3 * m + 1
  · subst q1
    exact ⟨_, cell_set_ne (cell_set_eq (cell_set_ne a (Or.inr (by omega)))) (Or.inr (by omega)), fun _ => by rw [show (3 * m + 1) / 3 = m by omega, show (3 * m + 1) % 3 = 1 by omega]⟩
  by_cases q0 : q = 3 * m
  · subst q0
    exact ⟨_, cell_set_ne (cell_set_ne (cell_set_eq a) (Or.inr (by omega))) (Or.inr (by omega)), fun _ => by rw [show (3 * m) / 3 = m by omega, show (3 * m) % 3 = 0 by omega]⟩
  · exact ⟨v, cell_set_ne (cell_set_ne (cell_set_ne a (Or.inr (by omega))) (Or.inr (by omega))) (Or.inr (by omega)), fun hh => b (by omega)⟩

/-- The pixel that is made in block B, n colours through. -/
structure PxS (W5 : World) (B : Nat) (r : Nat → Nat) (n : Nat) (wr : World) : Prop where
  kept : Kept (fun b => b = B) W5 wr
  cells : ∀ c, c < 4 → wr.cell? ⟨B, c, none⟩ = some (.float .f32 (if c < n ∨ c = 3 then r c else 0))
theorem PxS.step {W5 : World} {B : Nat} {r : Nat → Nat} {n : Nat} {wr w' : World} (h : PxS W5 B r n wr) (k : Kept None' wr w') : PxS W5 B r n w' :=
  ⟨h.kept.trans (k.mono fun _ _ x => x.elim), fun c hc => k.some (h.cells c hc) id⟩
theorem PxS.set {W5 : World} {B : Nat} {r : Nat → Nat} {n v : Nat} {wr : World} (h : PxS W5 B r n wr) (hn : n < 3) (hv : v = r n) : PxS W5 B r (n + 1) (wr.setCell ⟨B, n, none⟩ (.float .f32 v)) := by
  subst hv
  refine ⟨h.kept.trans (Kept.setCell (Kept.refl (fun b => b = B) wr) (p := ⟨B, n, none⟩) (Or.inr rfl) _), fun c hc => ?_⟩
  by_cases e : c = n
  · subst e
    rw [if_pos (.inl (Nat.lt_succ_self _))]
    exact cell_set_eq (h.cells c hc)
  · have := cell_set_ne (B := B) (j := n) (v := .float .f32 (r n)) (h.cells c hc) (Or.inr (fun q => e q.symm))
    rw [this]
    by_cases q : c < n ∨ c = 3
    · rw [if_pos q, if_pos (by omega)]
    · rw [if_neg q, if_neg (by omega)]

set_option linter.unusedSimpArgs false in
set_option linter.unusedVariables false in
set_option maxHeartbeats 16000000 in
set_option maxRecDepth 100000 in
theorem tetra_ok (S : Int) (lo hi b o n cap : Nat) (E : Int → Int → Int → Nat → Nat) (p : Nat → Nat) (w : World) (s1 : 2 ≤ S) (s2 : S ≤ 17) (hp : brk p = false)
    (hE : ∀ (x y z : Int) (wr : World), Kept None' w wr → 0 ≤ x → x < S → 0 ≤ y → y < S → 0 ≤ z → z < S → Calls Try.prog 71 #[.agg #[.int .i64 S, .float .f32 lo, .float .f32 hi, .slice (some ⟨b, o, none⟩) n cap], .int .i64 x, .int .i64 y, .int .i64 z] wr fun e w' =>
      e = .returned (.agg #[.float .f32 (E x y z 0), .float .f32 (E x y z 1), .float .f32 (E x y z 2)]) ∧ Kept None' wr w') :
    Calls Try.prog 86 #[.agg #[.int .i64 S, .float .f32 lo, .float .f32 hi, .slice (some ⟨b, o, none⟩) n cap], .agg #[.float .f32 (p 0), .float .f32 (p 1), .float .f32 (p 2), .float .f32 (p 3)]] w (PxIs (teP E S lo hi p) w) := by
  obtain ⟨f, hf⟩ : ∃ f : Nat → Int, ∀ c, axI S lo hi (p c) = f c := ⟨_, fun _ => rfl⟩
  obtain ⟨x, hx⟩ : ∃ x : Nat → Nat, ∀ c, axS S lo hi (p c) = x c := ⟨_, fun _ => rfl⟩
  have hfb : ∀ c, 0 ≤ f c ∧ f c ≤ S - 2 := fun c => by rw [← hf]; exact ax_bd s1 s2 lo hi (p c)
  have hP := fun w => places_ok S lo hi (some ⟨b, o, none⟩) n cap p w s1 s2 hp
  simp only [hf, hx] at hP
  have hT : ∀ c, teP E S lo hi p c = if c = 3 then cl .f32 (p 3) else teR E f x c := fun c => by
    unfold teP
    rw [hp]
    simp only [Bool.false_eq_true, if_false, hf, hx]
  have HT := Lib.hid hT
  have HP := Lib.hid hP
  have HE := Lib.hid hE
  have HFB := Lib.hid hfb
  clear hT hP hE hfb hf hx hp
  go_enter Try.func86, Try.ntmps86
  go_upto_region 5 with (first
    | (go_at_call 114; refine (HP.out _).mono ?_; rintro e w1 ⟨rfl, hk⟩))
  refine of_world (fun W1 hW => ?_)
  have k1 : Kept None' w1 W1 := by rw [hW]; exact (((Kept.refl _ _).alloc _ _).alloc _ _).alloc _ _
  have hB : CubB w.heap.size S lo hi b o n cap W1 := ⟨k1.some (hk.some (by go_simp) id) id, k1.some (hk.some (by go_simp) id) id, k1.some (hk.some (by go_simp) id) id, k1.some (hk.some (by go_simp) id) id⟩
  have c3 : W1.cell? ⟨w.heap.size + 1, 3, none⟩ = some (.float .f32 (p 3)) := k1.some (hk.some (by go_simp) id) id
  have hr : ∀ c, c < 4 → W1.cell? ⟨w.heap.size + 1 + 1, c, none⟩ = some (.float .f32 0) := fun c hc => by
    obtain rfl | rfl | rfl | rfl : c = 0 ∨ c = 1 ∨ c = 2 ∨ c = 3 := by omega
    all_goals exact k1.some (hk.some (by go_simp) id) id
  have h5 : ∀ c, c < 3 → W1.cell? ⟨w1.heap.size, c, none⟩ = some (.int .i64 (f c)) := fun c hc => by
    rw [hW]
    obtain rfl | rfl | rfl : c = 0 ∨ c = 1 ∨ c = 2 := by omega
    all_goals go_simp
  have h6 : ∀ c, c < 3 → W1.cell? ⟨w1.heap.size + 1, c, none⟩ = some (.float .f32 (x c)) := fun c hc => by
    rw [hW]
    obtain rfl | rfl | rfl : c = 0 ∨ c = 1 ∨ c = 2 := by omega
    all_goals go_simp
  have h8 : OrS W1 (w1.heap.size + 1 + 1) (teG x) 0 W1 := ⟨Kept.refl _ _, fun c hc => by
    rw [hW]
    obtain rfl | rfl | rfl : c = 0 ∨ c = 1 ∨ c = 2 := by omega
    all_goals
      unfold ordF
      go_simp⟩
  have zz : ∀ a : Addr, w.heap.size ≤ a.block → W1.frozen? a = false := fun a ha => by
    rw [hW]
    exact (frozen?_alloc_cells _ _ _ _).trans ((frozen?_alloc_cells _ _ _ _).trans ((frozen?_alloc_cells _ _ _ _).trans ((hk.frozen _).trans ((frozen?_alloc_cells _ _ _ _).trans ((frozen?_alloc_cells _ _ _ _).trans ((frozen?_alloc_cells _ _ _ _).trans (frozen_new _ _ ha)))))))
  have hsz : w.heap.size + 3 ≤ w1.heap.size ∧ W1.heap.size = w1.heap.size + 3 := by
    have := hk.size
    refine ⟨by simpa using this, by rw [hW]; simp⟩
  have KW := Lib.hid (((((Kept.refl None' w).alloc _ _).alloc _ _).alloc _ _).trans (hk.trans k1))
  have HB := Lib.hid hB
  have HX := Lib.hid (And.intro c3 hr)
  have H5 := Lib.hid h5
  have H6 := Lib.hid h6
  have H8 := Lib.hid h8
  have Z1 := Lib.hid zz
  have HZ := Lib.hid hsz
  clear hW hk k1 hB c3 hr h5 h6 h8 zz hsz
  generalize hB8 : w1.heap.size + 1 + 1 = B8 at *
  generalize hB6 : w1.heap.size + 1 = B6 at *
  generalize hB5 : w1.heap.size = B5 at *
  generalize hB4 : w.heap.size + 1 + 1 = B4 at *
  generalize hB3 : w.heap.size + 1 = B3 at *
  generalize hB2 : w.heap.size = B2 at *
  have HN := Lib.hid (And.intro hB8 (And.intro hB6 (And.intro hB4 (And.intro hB3 hB2))))
  clear hB8 hB6 hB5 hB4 hB3 hB2
  go_wp2_with fail
  go_loopw [38] (fun s38 wr => ∃ k : Nat, k ≤ 3 ∧ s38 = .int .i64 (k : Int) ∧ OrS W1 B8 (teG x) k wr) (fun s38 _ => (3 - intOf s38).toNat)
  case atStart => exact ⟨0, by omega, rfl, H8.out⟩
  case round =>
    obtain ⟨k, hk, rfl, hS⟩ := hrel
    have HS := Lib.hid hS
    by_cases hlt : k < 3
    · have d1 : decide ((k : Int) < 3) = true := decide_eq_true (by omega)
      have ix := te_idx k hlt
      obtain ⟨oa, hoa⟩ : ∃ v, ordF (teG x) k (k % 2) = v := ⟨_, rfl⟩
      obtain ⟨ob, hob⟩ : ∃ v, ordF (teG x) k (k % 2 + 1) = v := ⟨_, rfl⟩
      have la : oa < 3 := hoa ▸ ordF_lt _ k _ (by omega)
      have lb : ob < 3 := hob ▸ ordF_lt _ k _ (by omega)
      have ca := hS.cells (k % 2) (by omega)
      have cb := hS.cells (k % 2 + 1) (by omega)
      rw [hoa] at ca
      rw [hob] at cb
      have HO := Lib.hid (And.intro hoa hob)
      clear hoa hob
      have xa := hS.kept.some (H6.out oa la) (by have := HN.out; show ¬ B6 = B8; omega)
      have xb := hS.kept.some (H6.out ob lb) (by have := HN.out; show ¬ B6 = B8; omega)
      clear hS
      have a0 : 0 ≤ (oa : Int) := by omega
      have a1 : (oa : Int) < 3 := by omega
      have b0 : 0 ≤ (ob : Int) := by omega
      have b1 : (ob : Int) < 3 := by omega
      have A2 := ext_cell xa
      have A3 := ext_cell xb
      obtain hk2 | hk2 : k % 2 = 0 ∨ k % 2 = 1 := by omega
      all_goals
        rw [hk2] at ix ca cb
        have A0 := ext_cell ca
        have A1 := ext_cell cb
        have HK2 := Lib.hid hk2
        clear hk2
        cases hg : (FloatKind.f32.format.order (x ob) (x oa) == some .gt) with
        | false =>
          clear xa xb ca cb
          go_wp2_with fail
          refine region_ext (by kernel_rfl) (by kernel_rfl) ?_
          repeat (first
            | go_big_quiet_skip
            | (go_big_quiet_want; go_big_quiet_op; first | go_big_quiet_on | go_big_quiet_call (first
              | (fail))))
          refine wpQuiet_nil ?_
          rintro _ ⟨xq, rfl⟩
          have HS1 := Lib.hid (HS.out.step (ext_kept _ xq))
          clear A0 A1 A2 A3
          generalize ext _ xq = W2 at *
          go_wp2_with fail
          go_roundw
          case rel =>
            refine ⟨k + 1, by omega, by go_num, HS1.out.stay ?_⟩
            rw [HO.out.1, HO.out.2]; exact hg
          case measure => simp [intOf]; omega
        | true =>
          clear xa xb
          go_wp2_with fail
          refine region_ext (by kernel_rfl) (by kernel_rfl) ?_
          repeat (first
            | go_big_quiet_skip
            | (go_big_quiet_want; go_big_quiet_op; first | go_big_quiet_on | go_big_quiet_call (first
              | (fail))))
          refine wpQuiet_nil ?_
          rintro _ ⟨xq, rfl⟩
          have kx := ext_kept wr xq
          have ca := kx.some ca id
          have cb := kx.some cb id
          have HS1 := Lib.hid (HS.out.step kx)
          have z0 := (HS1.out.kept.frozen ⟨B8, 0, none⟩).trans (Z1.out _ (by have := HN.out; have := HZ.out; show B2 ≤ B8; omega))
          have z1 := (HS1.out.kept.frozen ⟨B8, 1, none⟩).trans (Z1.out _ (by have := HN.out; have := HZ.out; show B2 ≤ B8; omega))
          have z2 := (HS1.out.kept.frozen ⟨B8, 2, none⟩).trans (Z1.out _ (by have := HN.out; have := HZ.out; show B2 ≤ B8; omega))
          clear A0 A1 A2 A3 kx
          generalize ext _ xq = W2 at *
          have A0 := ext_cell ca
          have A1 := ext_cell cb
          clear ca cb
          go_wp2_with fail
          refine region_plan [0, 1, 2] [3, 4, 5, 6, 7, 8, 9] [10] [11, 12, 13] (by kernel_rfl) (by kernel_rfl) ?_
          simp only [pickO, List.filterMap_cons, List.filterMap_nil, List.getElem?_toArray, List.getElem?_cons_zero, List.getElem?_cons_succ]
          refine wpPure_cons _ rfl (fun w => rfl) ?_
          simp only [Act.put, List.setIfInBounds_toArray, List.set_cons_zero, List.set_cons_succ]
          refine wpPure_cons _ rfl (fun w => rfl) ?_
          simp only [Act.put, List.setIfInBounds_toArray, List.set_cons_zero, List.set_cons_succ]
          refine wpPure_cons _ rfl (fun w => rfl) ?_
          simp only [Act.put, List.setIfInBounds_toArray, List.set_cons_zero, List.set_cons_succ]
          refine wpPure_nil ?_
          repeat (first
            | (refine wpWith_det ?_; go_big_quiet_want; go_big_quiet_op; go_big_quiet_on; refine wpQuiet_nil ?_)
            | (refine wpWith_det ?_; go_big_quiet_skip; refine wpQuiet_nil ?_)
            | fail)
          refine wpWith_nil ?_
          first
            | (refine wpPure_cons (.pointer (some ⟨B8, 0, none⟩)) rfl (fun w => ?_) ?_; (· first | (go_simp; done) | rfl))
            | (refine wpPure_cons (.pointer (some ⟨B8, 1, none⟩)) rfl (fun w => ?_) ?_; (· first | (go_simp; done) | rfl))
          simp only [Act.put, List.setIfInBounds_toArray, List.set_cons_zero, List.set_cons_succ]
          refine wpPure_nil ?_
          rintro _ ⟨xq, rfl⟩
          have kx := ext_kept W2 xq
          have HS2 := Lib.hid (HS1.out.step kx)
          have u0 := HS2.out.cells 0 (by omega)
          have u1 := HS2.out.cells 1 (by omega)
          have u2 := HS2.out.cells 2 (by omega)
          have y0 := (kx.frozen ⟨B8, 0, none⟩).trans z0
          have y1 := (kx.frozen ⟨B8, 1, none⟩).trans z1
          have y2 := (kx.frozen ⟨B8, 2, none⟩).trans z2
          clear A0 A1 kx z0 z1 z2
          generalize ext _ xq = W3 at *
          go_wp2_with fail
          rw [Qn_normal]
          go_wp2_with fail
          go_roundw
          case rel =>
            have hsw := HS2.out.swap' HK2.out HO.out.1 HO.out.2 hg
            exact ⟨k + 1, by omega, by go_num, hsw⟩
          case measure => simp [intOf]; omega
    · obtain rfl : k = 3 := by omega
      have d1 : decide (((3 : Nat) : Int) < 3) = false := by decide
      obtain ⟨oo, hoo⟩ : ∃ oo : Nat → Nat, ∀ i, ordF (teG x) 3 i = oo i := ⟨_, fun _ => rfl⟩
      have hol : ∀ i, i < 3 → oo i < 3 := fun i hi => by rw [← hoo]; exact ordF_lt _ 3 i hi
      have hoi : ∀ i j, i < 3 → j < 3 → oo i = oo j → i = j := fun i j hi hj e => ordF_inj _ 3 i j hi hj (by rw [hoo, hoo]; exact e)
      have n28 : ¬ B2 = B8 := by have := HN.out; have := HZ.out; omega
      have n58 : ¬ B5 = B8 := by have := HN.out; omega
      have n68 : ¬ B6 = B8 := by have := HN.out; omega
      have n38 : ¬ B3 = B8 := by have := HN.out; have := HZ.out; omega
      have n48 : ¬ B4 = B8 := by have := HN.out; have := HZ.out; omega
      go_upto_region 12 with (fail)
      refine of_world (fun W2 hW => ?_)
      have k2 : Kept None' wr W2 := by rw [hW]; exact (Kept.refl _ _).alloc _ _
      have hCo : CoS W2 B5 wr.heap.size E f oo 0 0 W2 := by
        refine ⟨Kept.refl _ _, fun c hc => k2.some (hS.kept.some (H5.out c hc) n58) id, fun q hq => ⟨0, ?_, fun h => by omega⟩⟩
        rw [hW]
        refine (cell_alloc_one wr _ _ q).trans ?_
        obtain rfl | rfl | rfl | rfl | rfl | rfl | rfl | rfl | rfl | rfl | rfl | rfl : q = 0 ∨ q = 1 ∨ q = 2 ∨ q = 3 ∨ q = 4 ∨ q = 5 ∨ q = 6 ∨ q = 7 ∨ q = 8 ∨ q = 9 ∨ q = 10 ∨ q = 11 := by omega
        all_goals rfl
      have hB2 := (HB.out.step hS.kept n28).step k2 id
      have h3 := k2.some (hS.kept.some HX.out.1 n38) id
      have h4 : ∀ c, c < 4 → W2.cell? ⟨B4, c, none⟩ = some (.float .f32 0) := fun c hc => k2.some (hS.kept.some (HX.out.2 c hc) n48) id
      have h6 : ∀ c, c < 3 → W2.cell? ⟨B6, c, none⟩ = some (.float .f32 (x c)) := fun c hc => k2.some (hS.kept.some (H6.out c hc) n68) id
      have h8 : ∀ i, i < 3 → W2.cell? ⟨B8, i, none⟩ = some (.int .i64 (oo i : Nat)) := fun i hi => by rw [← hoo]; exact k2.some (hS.cells i hi) id
      have zz : ∀ a : Addr, B2 ≤ a.block → W2.frozen? a = false := fun a ha => (k2.frozen a).trans ((hS.kept.frozen a).trans (Z1.out a ha))
      have l8 : B8 < wr.heap.size := cell_lt (hS.cells 0 (by omega))
      have hK2 := (kept_over' KW.out hS.kept (fun i hi => by have := HN.out; have := HZ.out; omega)).trans k2
      have HOO := Lib.hid (And.intro hoo (And.intro hol hoi))
      have HCo := Lib.hid hCo
      have HB2 := Lib.hid hB2
      have HX2 := Lib.hid (And.intro h3 h4)
      have H62 := Lib.hid h6
      have H82 := Lib.hid h8
      have Z2 := Lib.hid zz
      have KW2 := Lib.hid hK2
      generalize hB11 : wr.heap.size = B11 at *
      have HN2 := Lib.hid (And.intro l8 hB11)
      clear hW k2 hCo hB2 h3 h4 h6 h8 zz l8 hK2 hoo hol hoi hB11 hS n28 n58 n68 n38 n48
      obtain ⟨t0, t1, t2, t3⟩ := HB2.out
      have p0 := HCo.out.c5 0 (by omega)
      have p1 := HCo.out.c5 1 (by omega)
      have p2 := HCo.out.c5 2 (by omega)
      obtain ⟨v0, g0, -⟩ := HCo.out.c11 0 (by omega)
      obtain ⟨v1, g1, -⟩ := HCo.out.c11 1 (by omega)
      obtain ⟨v2, g2, -⟩ := HCo.out.c11 2 (by omega)
      have bd := HFB.out
      have q0 := bd 0
      have q1 := bd 1
      have q2 := bd 2
      have hC := HE.out (posn f oo 0 0) (posn f oo 0 1) (posn f oo 0 2) W2 KW2.out (by unfold posn; omega) (by unfold posn; omega) (by unfold posn; omega) (by unfold posn; omega) (by unfold posn; omega) (by unfold posn; omega)
      have HC := Lib.hid hC
      have HG := Lib.hid (And.intro g0 (And.intro g1 g2))
      clear bd q0 q1 q2 hC g0 g1 g2
      go_upto_region 13 with (first
        | (go_at_call 71; refine HC.out.mono ?_; rintro e w4 ⟨rfl, hk4⟩; have K4 := Lib.hid hk4; have g0 := hk4.some HG.out.1 id; have g1 := hk4.some HG.out.2.1 id; have g2 := hk4.some HG.out.2.2 id; have z0 := (hk4.frozen ⟨B11, 0, none⟩).trans (Z2.out ⟨B11, 0, none⟩ (by have := HN.out; have := HN2.out; have := HZ.out; show B2 ≤ B11; omega)); have z1 := (hk4.frozen ⟨B11, 1, none⟩).trans (Z2.out ⟨B11, 1, none⟩ (by have := HN.out; have := HN2.out; have := HZ.out; show B2 ≤ B11; omega)); have z2 := (hk4.frozen ⟨B11, 2, none⟩).trans (Z2.out ⟨B11, 2, none⟩ (by have := HN.out; have := HN2.out; have := HZ.out; show B2 ≤ B11; omega)); clear hk4))
      have n511 : B5 ≠ B11 := by have := HN.out; have := HN2.out; omega
      have n811 : ¬ (B8 = B5 ∨ B8 = B11) := by have := HN.out; have := HN2.out; omega
      refine of_world (fun W3 hW => ?_)
      have hCo1 : CoS W2 B5 B11 E f oo 0 1 W3 := by rw [hW]; exact (HCo.out.step K4.out).corner n511 rfl (by omega) rfl rfl rfl
      have HCo1 := Lib.hid hCo1
      have d0 := hCo1.kept.some (H82.out 0 (by omega)) n811
      have d1' := hCo1.kept.some (H82.out 1 (by omega)) n811
      have d2 := hCo1.kept.some (H82.out 2 (by omega)) n811
      have N5 := Lib.hid (And.intro n511 n811)
      clear hW hCo1 g0 g1 g2 z0 z1 z2 t0 t1 t2 t3 p0 p1 p2 n511 n811
      go_wp2_with fail
      clear d0 d1' d2
      go_loopw [76] (fun s76 wr => ∃ m : Nat, m ≤ 3 ∧ s76 = .int .i64 (m : Int) ∧ CoS W2 B5 B11 E f oo m (m + 1) wr) (fun s76 _ => (3 - intOf s76).toNat)
      case atStart => exact ⟨0, by omega, rfl, HCo1.out⟩
      case round =>
        obtain ⟨m, hm, rfl, hS⟩ := hrel
        have HS := Lib.hid hS
        by_cases hlt : m < 3
        · have d1 : decide ((m : Int) < 3) = true := decide_eq_true (by omega)
          have ix : ∀ w, (Instr.index 69 (.agg #[.int .i64 (oo 0 : Nat), .int .i64 (oo 1 : Nat), .int .i64 (oo 2 : Nat)]) (.int .i64 (m : Int))).run Try.prog w = .ok (.int .i64 (oo m : Nat)) w := int3_idx (fun i => ((oo i : Nat) : Int)) m hlt
          obtain ⟨om, hom⟩ : ∃ om, oo m = om := ⟨_, rfl⟩
          have hol : om < 3 := hom ▸ HOO.out.2.1 m hlt
          rw [hom] at ix
          have pb := (posn_bd (f := f) (o := oo) HOO.out.2.2 om m (by omega))
          have pe : posn f oo m om = f om := pb.2 (fun j hj e => by have := HOO.out.2.2 j m (by omega) hlt (e.trans hom.symm); omega)
          have fb := HFB.out om
          have c5 := hS.c5 om hol
          rw [pe] at c5
          have e0 : 0 ≤ (om : Int) := by omega
          have e1 : (om : Int) < 3 := by omega
          have z5 := (hS.kept.frozen ⟨B5, om, none⟩).trans (Z2.out _ (by have := HN.out; have := HZ.out; show B2 ≤ B5; omega))
          have hnext := hS.next N5.out.1 hom hol
          rw [pe] at hnext
          have HX5 := Lib.hid (And.intro hnext hom)
          obtain ⟨fb1, fb2⟩ := fb
          clear hS pb pe hom hnext
          go_upto_region 17 with (fail)
          refine of_world (fun W4 hW => ?_)
          have hCo2 : CoS W2 B5 B11 E f oo (m + 1) (m + 1) W4 := by rw [hW]; exact HX5.out.1
          have HCo2 := Lib.hid hCo2
          have r := fun c => (posn_bd (f := f) (o := oo) HOO.out.2.2 c (m + 1) (by omega)).1
          have q0 := r 0
          have q1 := r 1
          have q2 := r 2
          have b0 := HFB.out 0
          have b1 := HFB.out 1
          have b2 := HFB.out 2
          have hC := HE.out (posn f oo (m + 1) 0) (posn f oo (m + 1) 1) (posn f oo (m + 1) 2) W4 (kept_over' KW2.out hCo2.kept (fun i hi => by have := HN.out; have := HN2.out; have := HZ.out; omega)) (by omega) (by omega) (by omega) (by omega) (by omega) (by omega)
          have HC := Lib.hid hC
          obtain ⟨t0, t1, t2, t3⟩ := HB2.out.step hCo2.kept (by have := HN.out; have := HN2.out; have := HZ.out; omega)
          have p0 := hCo2.c5 0 (by omega)
          have p1 := hCo2.c5 1 (by omega)
          have p2 := hCo2.c5 2 (by omega)
          have z11 : ∀ c, W4.frozen? ⟨B11, c, none⟩ = false := fun c => (hCo2.kept.frozen _).trans (Z2.out _ (by have := HN.out; have := HN2.out; have := HZ.out; show B2 ≤ B11; omega))
          have Z11 := Lib.hid z11
          clear hW r q0 q1 q2 b0 b1 b2 hC hCo2 c5 z5 z11 ix
          obtain ⟨k, hk⟩ : ∃ k, k = 3 * (m + 1) := ⟨_, rfl⟩
          have hkm : (m = 0 ∧ k = 3) ∨ (m = 1 ∧ k = 6) ∨ (m = 2 ∧ k = 9) := by omega
          obtain ⟨g0, y0, -⟩ := HCo2.out.c11 k (by omega)
          obtain ⟨g1, y1, -⟩ := HCo2.out.c11 (k + 1) (by omega)
          obtain ⟨g2, y2, -⟩ := HCo2.out.c11 (k + 2) (by omega)
          have HY := Lib.hid (And.intro y0 (And.intro y1 y2))
          have HK := Lib.hid hk
          clear y0 y1 y2 hk
          generalize hv0 : posn f oo (m + 1) 0 = v0 at *
          generalize hv1 : posn f oo (m + 1) 1 = v1 at *
          generalize hv2 : posn f oo (m + 1) 2 = v2 at *
          have HV := Lib.hid (And.intro hv0 (And.intro hv1 hv2))
          clear hv0 hv1 hv2
          rcases hkm with ⟨rfl, rfl⟩ | ⟨rfl, rfl⟩ | ⟨rfl, rfl⟩
          all_goals
            go_wp2_with (first
              | (go_at_call 71; refine HC.out.mono ?_; rintro e w5 ⟨rfl, hk5⟩; have K5 := Lib.hid hk5; have y0 := hk5.some HY.out.1 id; have y1 := hk5.some HY.out.2.1 id; have y2 := hk5.some HY.out.2.2 id; have z0 := (hk5.frozen _).trans (Z11.out 3); have z1 := (hk5.frozen _).trans (Z11.out 4); have z2 := (hk5.frozen _).trans (Z11.out 5); have z3 := (hk5.frozen _).trans (Z11.out 6); have z4 := (hk5.frozen _).trans (Z11.out 7); have z5 := (hk5.frozen _).trans (Z11.out 8); have z6 := (hk5.frozen _).trans (Z11.out 9); have z7 := (hk5.frozen _).trans (Z11.out 10); have z8 := (hk5.frozen _).trans (Z11.out 11); clear hk5))
            go_roundw
            case rel =>
              first
                | refine ⟨1, by omega, rfl, (HCo2.out.step K5.out).corner N5.out.1 rfl (by omega) ?_ ?_ ?_⟩
                | refine ⟨2, by omega, rfl, (HCo2.out.step K5.out).corner N5.out.1 rfl (by omega) ?_ ?_ ?_⟩
                | refine ⟨3, by omega, rfl, (HCo2.out.step K5.out).corner N5.out.1 rfl (by omega) ?_ ?_ ?_⟩
              all_goals
                unfold teC
                rw [HV.out.1, HV.out.2.1, HV.out.2.2]
            case measure => simp [intOf]
        · obtain rfl : m = 3 := by omega
          have d1 : decide (((3 : Nat) : Int) < 3) = false := by decide
          have n85 : ¬ (B8 = B5 ∨ B8 = B11) := N5.out.2
          have n65 : ¬ (B6 = B5 ∨ B6 = B11) := by have := HN.out; have := HN2.out; omega
          have n35 : ¬ (B3 = B5 ∨ B3 = B11) := by have := HN.out; have := HN2.out; have := HZ.out; omega
          have n45 : ¬ (B4 = B5 ∨ B4 = B11) := by have := HN.out; have := HN2.out; have := HZ.out; omega
          have d0 := hS.kept.some (H82.out 0 (by omega)) n85
          have d1' := hS.kept.some (H82.out 1 (by omega)) n85
          have d2 := hS.kept.some (H82.out 2 (by omega)) n85
          have x0 := hS.kept.some (H62.out (oo 0) (HOO.out.2.1 0 (by omega))) n65
          have x1 := hS.kept.some (H62.out (oo 1) (HOO.out.2.1 1 (by omega))) n65
          have x2 := hS.kept.some (H62.out (oo 2) (HOO.out.2.1 2 (by omega))) n65
          have l0 := HOO.out.2.1 0 (by omega)
          have l1 := HOO.out.2.1 1 (by omega)
          have l2 := HOO.out.2.1 2 (by omega)
          have hTE : ∀ c, c < 3 → teP E S lo hi p c = teV (teC E f oo 0 c) (teC E f oo 1 c) (teC E f oo 2 c) (teC E f oo 3 c) (x (oo 0)) (x (oo 1)) (x (oo 2)) := fun c hc => by
            rw [HT.out, if_neg (by omega)]
            unfold teR
            rw [show ordF (teG x) 3 = oo from funext HOO.out.1]
          have HTP := Lib.hid hTE
          clear hTE
          generalize hs : x (oo 0) = s at *
          generalize ht : x (oo 1) = t at *
          generalize hu : x (oo 2) = u at *
          generalize hO0 : oo 0 = o0 at *
          generalize hO1 : oo 1 = o1 at *
          generalize hO2 : oo 2 = o2 at *
          have a0 : 0 ≤ (o0 : Int) := by omega
          have a1 : (o0 : Int) < 3 := by omega
          have b0 : 0 ≤ (o1 : Int) := by omega
          have b1 : (o1 : Int) < 3 := by omega
          have c0 : 0 ≤ (o2 : Int) := by omega
          have c1 : (o2 : Int) < 3 := by omega
          have A0 := ext_cell d0
          have A1 := ext_cell d1'
          have A2 := ext_cell d2
          have A3 := ext_cell x0
          have A4 := ext_cell x1
          have A5 := ext_cell x2
          clear hS d0 d1' d2 x0 x1 x2 hs ht hu hO0 hO1 hO2 n85 n65
          go_wp2_with fail
          refine region_ext (by kernel_rfl) (by kernel_rfl) ?_
          repeat (first
            | go_big_quiet_skip
            | (go_big_quiet_want; go_big_quiet_op; first | go_big_quiet_on | go_big_quiet_call (first
              | (fail))))
          refine wpQuiet_nil ?_
          rintro _ ⟨xq, rfl⟩
          have HS1 := Lib.hid (HS.out.step (ext_kept _ xq))
          clear A0 A1 A2 A3 A4 A5
          generalize ext _ xq = W4 at *
          have p3 := HS1.out.kept.some HX2.out.1 n35
          clear n35
          go_upto_region 21 with (first | (go_at_call 109; refine (clean_any _ _).mono ?_; rintro e w' ⟨rfl, rfl⟩))
          refine of_world (fun W5 hW => ?_)
          have k5 : Kept None' W4 W5 := by rw [hW]; exact (Kept.refl _ _).alloc _ _
          have hPx : PxS W5 W4.heap.size (teP E S lo hi p) 0 W5 := ⟨Kept.refl _ _, fun c hc => by
            rw [hW]
            refine (cell_alloc_one W4 _ _ c).trans ?_
            obtain rfl | rfl | rfl | rfl : c = 0 ∨ c = 1 ∨ c = 2 ∨ c = 3 := by omega
            · rfl
            · rfl
            · rfl
            · rw [if_pos (Or.inr rfl), HT.out, if_pos rfl]; rfl⟩
          have hS5 := HS1.out.step k5
          have l11 : B11 < W4.heap.size := by
            obtain ⟨v, hv, -⟩ := HS1.out.c11 0 (by omega)
            exact cell_lt hv
          have z17 : ∀ c, W5.frozen? ⟨W4.heap.size, c, none⟩ = false := fun c => by rw [hW]; exact (frozen?_alloc_cells _ _ _ _).trans (frozen_new _ _ (Nat.le_refl _))
          have h4 : ∀ c, c < 4 → W5.cell? ⟨B4, c, none⟩ = some (.float .f32 0) := fun c hc => k5.some (HS1.out.kept.some (HX2.out.2 c hc) n45) id
          have HPx := Lib.hid hPx
          have HS5 := Lib.hid hS5
          have Z17 := Lib.hid z17
          have H4 := Lib.hid h4
          generalize hB17 : W4.heap.size = B17 at *
          have HL := Lib.hid l11
          clear hW k5 hPx hS5 l11 z17 h4 hB17 p3 n45
          go_wp2_with fail
          go_loopw [113] (fun s113 wr => ∃ n : Nat, n ≤ 3 ∧ s113 = .int .i64 (n : Int) ∧ PxS W5 B17 (teP E S lo hi p) n wr) (fun s113 _ => (3 - intOf s113).toNat)
          case atStart => exact ⟨0, by omega, rfl, HPx.out⟩
          case round =>
            obtain ⟨n, hn, rfl, hQ⟩ := hrel
            have HQ := Lib.hid hQ
            by_cases hlt : n < 3
            · have d1 : decide ((n : Int) < 3) = true := decide_eq_true (by omega)
              have nn17 : ¬ B11 = B17 := by have := HL.out; omega
              obtain ⟨va, ga, ea⟩ := HS5.out.c11 (0 + n) (by omega)
              obtain ⟨vb, gb, eb⟩ := HS5.out.c11 (3 + n) (by omega)
              obtain ⟨vd, gd, ed⟩ := HS5.out.c11 (6 + n) (by omega)
              obtain ⟨ve, ge, ee⟩ := HS5.out.c11 (9 + n) (by omega)
              have ea := ea (by omega)
              have eb := eb (by omega)
              have ed := ed (by omega)
              have ee := ee (by omega)
              rw [show (0 + n) / 3 = 0 by omega, show (0 + n) % 3 = n by omega] at ea
              rw [show (3 + n) / 3 = 1 by omega, show (3 + n) % 3 = n by omega] at eb
              rw [show (6 + n) / 3 = 2 by omega, show (6 + n) % 3 = n by omega] at ed
              rw [show (9 + n) / 3 = 3 by omega, show (9 + n) % 3 = n by omega] at ee
              have hTE := HTP.out n hlt
              rw [← ea, ← eb, ← ed, ← ee] at hTE
              have HTE := Lib.hid hTE
              clear ea eb ed ee hTE
              rw [Nat.zero_add] at ga
              have A0 := ext_cell (hQ.kept.some ga nn17)
              have A1 := ext_cell (hQ.kept.some gb nn17)
              have A2 := ext_cell (hQ.kept.some gd nn17)
              have A3 := ext_cell (hQ.kept.some ge nn17)
              have e0 : 0 ≤ (n : Int) := by omega
              have e1 : (n : Int) < 3 := by omega
              have e2 : (n : Int) < 4 := by omega
              clear hQ ga gb gd ge nn17
              go_wp2_with fail
              refine region_ext (by kernel_rfl) (by kernel_rfl) ?_
              repeat (first
                | go_big_quiet_skip
                | (go_big_quiet_want; go_big_quiet_op; first | go_big_quiet_on | go_big_quiet_call (first
                  | (fail))))
              refine wpQuiet_nil ?_
              rintro _ ⟨xq, rfl⟩
              have HQ1 := Lib.hid (HQ.out.step (ext_kept _ xq))
              clear A0 A1 A2 A3
              generalize ext _ xq = W6 at *
              have cq := HQ1.out.cells n (by omega)
              have zq := (HQ1.out.kept.frozen ⟨B17, n, none⟩).trans (Z17.out n)
              cases h1 : (FloatKind.f32.format.order s 0 == some .eq) with
              | true =>
                go_wp2_with (first | (go_at_call 109; refine (clean_any _ _).mono ?_; rintro e w' ⟨rfl, rfl⟩))
                go_roundw
                case rel =>
                  refine ⟨n + 1, by omega, by go_num, (HQ1.out.step ((Kept.refl _ _).drew _)).set hlt ?_⟩
                  rw [HTE.out]
                  unfold teV
                  simp only [h1, Bool.and_true, Bool.true_and, Bool.and_false, Bool.false_and, Bool.and_self, if_true, if_false, Bool.false_eq_true, cl_fV', fC_fV_l, fC_fV_r]
                case measure => simp [intOf]; omega
              | false =>
                cases h2 : (FloatKind.f32.format.order s 1065353216 == some .eq) with
                | true =>
                  cases h3 : (FloatKind.f32.format.order t 0 == some .eq) with
                  | true =>
                    go_wp2_with (first | (go_at_call 109; refine (clean_any _ _).mono ?_; rintro e w' ⟨rfl, rfl⟩))
                    go_roundw
                    case rel =>
                      refine ⟨n + 1, by omega, by go_num, (HQ1.out.step ((Kept.refl _ _).drew _)).set hlt ?_⟩
                      rw [HTE.out]
                      unfold teV
                      simp only [h1, h2, h3, Bool.and_true, Bool.true_and, Bool.and_false, Bool.false_and, Bool.and_self, if_true, if_false, Bool.false_eq_true, cl_fV', fC_fV_l, fC_fV_r]
                    case measure => simp [intOf]; omega
                  | false =>
                    cases h4 : (FloatKind.f32.format.order t 1065353216 == some .eq) with
                    | true =>
                      cases h5 : (FloatKind.f32.format.order u 0 == some .eq) with
                      | true =>
                        go_wp2_with (first | (go_at_call 109; refine (clean_any _ _).mono ?_; rintro e w' ⟨rfl, rfl⟩))
                        go_roundw
                        case rel =>
                          refine ⟨n + 1, by omega, by go_num, (HQ1.out.step ((Kept.refl _ _).drew _)).set hlt ?_⟩
                          rw [HTE.out]
                          unfold teV
                          simp only [h1, h2, h3, h4, h5, Bool.and_true, Bool.true_and, Bool.and_false, Bool.false_and, Bool.and_self, if_true, if_false, Bool.false_eq_true, cl_fV', fC_fV_l, fC_fV_r]
                        case measure => simp [intOf]; omega
                      | false =>
                        cases h6 : (FloatKind.f32.format.order u 1065353216 == some .eq) with
                        | true =>
                          go_wp2_with (first | (go_at_call 109; refine (clean_any _ _).mono ?_; rintro e w' ⟨rfl, rfl⟩))
                          go_roundw
                          case rel =>
                            refine ⟨n + 1, by omega, by go_num, (HQ1.out.step ((Kept.refl _ _).drew _)).set hlt ?_⟩
                            rw [HTE.out]
                            unfold teV
                            simp only [h1, h2, h3, h4, h5, h6, Bool.and_true, Bool.true_and, Bool.and_false, Bool.false_and, Bool.and_self, if_true, if_false, Bool.false_eq_true, cl_fV', fC_fV_l, fC_fV_r]
                          case measure => simp [intOf]; omega
                        | false =>
                          go_wp2_with (first | (go_at_call 109; refine (clean_any _ _).mono ?_; rintro e w' ⟨rfl, rfl⟩))
                          go_roundw
                          case rel =>
                            refine ⟨n + 1, by omega, by go_num, (HQ1.out.step ((Kept.refl _ _).drew _)).set hlt ?_⟩
                            rw [HTE.out]
                            unfold teV
                            simp only [h1, h2, h3, h4, h5, h6, Bool.and_true, Bool.true_and, Bool.and_false, Bool.false_and, Bool.and_self, if_true, if_false, Bool.false_eq_true, cl_fV', fC_fV_l, fC_fV_r]
                          case measure => simp [intOf]; omega
                    | false =>
                      cases h6 : (FloatKind.f32.format.order u 1065353216 == some .eq) with
                      | true =>
                        go_wp2_with (first | (go_at_call 109; refine (clean_any _ _).mono ?_; rintro e w' ⟨rfl, rfl⟩))
                        go_roundw
                        case rel =>
                          refine ⟨n + 1, by omega, by go_num, (HQ1.out.step ((Kept.refl _ _).drew _)).set hlt ?_⟩
                          rw [HTE.out]
                          unfold teV
                          simp only [h1, h2, h3, h4, h6, Bool.and_true, Bool.true_and, Bool.and_false, Bool.false_and, Bool.and_self, if_true, if_false, Bool.false_eq_true, cl_fV', fC_fV_l, fC_fV_r]
                        case measure => simp [intOf]; omega
                      | false =>
                        go_wp2_with (first | (go_at_call 109; refine (clean_any _ _).mono ?_; rintro e w' ⟨rfl, rfl⟩))
                        go_roundw
                        case rel =>
                          refine ⟨n + 1, by omega, by go_num, (HQ1.out.step ((Kept.refl _ _).drew _)).set hlt ?_⟩
                          rw [HTE.out]
                          unfold teV
                          simp only [h1, h2, h3, h4, h6, Bool.and_true, Bool.true_and, Bool.and_false, Bool.false_and, Bool.and_self, if_true, if_false, Bool.false_eq_true, cl_fV', fC_fV_l, fC_fV_r]
                        case measure => simp [intOf]; omega
                | false =>
                  cases h4 : (FloatKind.f32.format.order t 1065353216 == some .eq) with
                  | true =>
                    cases h5 : (FloatKind.f32.format.order u 0 == some .eq) with
                    | true =>
                      go_wp2_with (first | (go_at_call 109; refine (clean_any _ _).mono ?_; rintro e w' ⟨rfl, rfl⟩))
                      go_roundw
                      case rel =>
                        refine ⟨n + 1, by omega, by go_num, (HQ1.out.step ((Kept.refl _ _).drew _)).set hlt ?_⟩
                        rw [HTE.out]
                        unfold teV
                        simp only [h1, h2, h4, h5, Bool.and_true, Bool.true_and, Bool.and_false, Bool.false_and, Bool.and_self, if_true, if_false, Bool.false_eq_true, cl_fV', fC_fV_l, fC_fV_r]
                      case measure => simp [intOf]; omega
                    | false =>
                      cases h6 : (FloatKind.f32.format.order u 1065353216 == some .eq) with
                      | true =>
                        go_wp2_with (first | (go_at_call 109; refine (clean_any _ _).mono ?_; rintro e w' ⟨rfl, rfl⟩))
                        go_roundw
                        case rel =>
                          refine ⟨n + 1, by omega, by go_num, (HQ1.out.step ((Kept.refl _ _).drew _)).set hlt ?_⟩
                          rw [HTE.out]
                          unfold teV
                          simp only [h1, h2, h4, h5, h6, Bool.and_true, Bool.true_and, Bool.and_false, Bool.false_and, Bool.and_self, if_true, if_false, Bool.false_eq_true, cl_fV', fC_fV_l, fC_fV_r]
                        case measure => simp [intOf]; omega
                      | false =>
                        go_wp2_with (first | (go_at_call 109; refine (clean_any _ _).mono ?_; rintro e w' ⟨rfl, rfl⟩))
                        go_roundw
                        case rel =>
                          refine ⟨n + 1, by omega, by go_num, (HQ1.out.step ((Kept.refl _ _).drew _)).set hlt ?_⟩
                          rw [HTE.out]
                          unfold teV
                          simp only [h1, h2, h4, h5, h6, Bool.and_true, Bool.true_and, Bool.and_false, Bool.false_and, Bool.and_self, if_true, if_false, Bool.false_eq_true, cl_fV', fC_fV_l, fC_fV_r]
                        case measure => simp [intOf]; omega
                  | false =>
                    cases h6 : (FloatKind.f32.format.order u 1065353216 == some .eq) with
                    | true =>
                      go_wp2_with (first | (go_at_call 109; refine (clean_any _ _).mono ?_; rintro e w' ⟨rfl, rfl⟩))
                      go_roundw
                      case rel =>
                        refine ⟨n + 1, by omega, by go_num, (HQ1.out.step ((Kept.refl _ _).drew _)).set hlt ?_⟩
                        rw [HTE.out]
                        unfold teV
                        simp only [h1, h2, h4, h6, Bool.and_true, Bool.true_and, Bool.and_false, Bool.false_and, Bool.and_self, if_true, if_false, Bool.false_eq_true, cl_fV', fC_fV_l, fC_fV_r]
                      case measure => simp [intOf]; omega
                    | false =>
                      go_wp2_with (first | (go_at_call 109; refine (clean_any _ _).mono ?_; rintro e w' ⟨rfl, rfl⟩))
                      go_roundw
                      case rel =>
                        refine ⟨n + 1, by omega, by go_num, (HQ1.out.step ((Kept.refl _ _).drew _)).set hlt ?_⟩
                        rw [HTE.out]
                        unfold teV
                        simp only [h1, h2, h4, h6, Bool.and_true, Bool.true_and, Bool.and_false, Bool.false_and, Bool.and_self, if_true, if_false, Bool.false_eq_true, cl_fV', fC_fV_l, fC_fV_r]
                      case measure => simp [intOf]; omega
            · obtain rfl : n = 3 := by omega
              have d1 : decide (((3 : Nat) : Int) < 3) = false := by decide
              have n417 : ¬ B4 = B17 := by have := HL.out; have := HN2.out; have := HN.out; have := HZ.out; omega
              have c0 := hQ.cells 0 (by omega)
              have c1 := hQ.cells 1 (by omega)
              have c2 := hQ.cells 2 (by omega)
              have c3 := hQ.cells 3 (by omega)
              rw [if_pos (by omega)] at c0 c1 c2 c3
              have r0 := hQ.kept.some (H4.out 0 (by omega)) n417
              have r1 := hQ.kept.some (H4.out 1 (by omega)) n417
              have r2 := hQ.kept.some (H4.out 2 (by omega)) n417
              have r3 := hQ.kept.some (H4.out 3 (by omega)) n417
              have zz : ∀ c, wr.frozen? ⟨B4, c, none⟩ = false := fun c => (hQ.kept.frozen _).trans ((HS5.out.kept.frozen _).trans (Z2.out _ (by have := HN.out; show B2 ≤ B4; omega)))
              have z0 := zz 0
              have z1 := zz 1
              have z2 := zz 2
              have z3 := zz 3
              have KE := Lib.hid (kept_over' (kept_over' KW2.out HS5.out.kept (fun i hi => by have := HN.out; have := HN2.out; have := HZ.out; omega)) hQ.kept (fun i hi => by have := HL.out; have := HN.out; have := HN2.out; have := HZ.out; omega))
              clear hQ n417 zz
              go_wp2_with fail
              have cs := cells_set4 (v0 := .float .f32 (teP E S lo hi p 0)) (v1 := .float .f32 (teP E S lo hi p 1)) (v2 := .float .f32 (teP E S lo hi p 2)) (v3 := .float .f32 (teP E S lo hi p 3)) r0 r1 r2 r3
              refine bodyPost_ret (px_ret Try.results86 _ _ B4 _ _ _ _ cs.1 cs.2.1 cs.2.2.1 cs.2.2.2 rfl) rfl ?_
              exact ⟨rfl, kept_set4' KE.out (by have := HN.out; omega)⟩

theorem tetra_any (S : Int) (lo hi b o n cap : Nat) (E : Int → Int → Int → Nat → Nat) (p : Nat → Nat) (w : World) (s1 : 2 ≤ S) (s2 : S ≤ 17)
    (hE : ∀ (x y z : Int) (wr : World), Kept None' w wr → 0 ≤ x → x < S → 0 ≤ y → y < S → 0 ≤ z → z < S → Calls Try.prog 71 #[.agg #[.int .i64 S, .float .f32 lo, .float .f32 hi, .slice (some ⟨b, o, none⟩) n cap], .int .i64 x, .int .i64 y, .int .i64 z] wr fun e w' =>
      e = .returned (.agg #[.float .f32 (E x y z 0), .float .f32 (E x y z 1), .float .f32 (E x y z 2)]) ∧ Kept None' wr w') :
    Calls Try.prog 86 #[.agg #[.int .i64 S, .float .f32 lo, .float .f32 hi, .slice (some ⟨b, o, none⟩) n cap], .agg #[.float .f32 (p 0), .float .f32 (p 1), .float .f32 (p 2), .float .f32 (p 3)]] w (PxIs (teP E S lo hi p) w) := by
  cases hp : brk p with
  | true => exact tetra_bad S lo hi b o n cap E p w s1 s2 hp
  | false => exact tetra_ok S lo hi b o n cap E p w s1 s2 hp hE
end Go.Proofs.Ytkmganophcklgaa
