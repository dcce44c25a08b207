/- The contract of the reference's NearestOf; the place of an entry on its axis is a number; contracts of cube.spot. Conditions: none. -/
import Derived.Test.YtkmganophcklgaaNa
namespace Go.Proofs.Ytkmganophcklgaa
open Go.RowKit
open Fl Fr
open BigFrame

theorem cuK_n (S n : Nat) : cuK (S : Int) ((n % S : Nat) : Int) ((n / S % S : Nat) : Int) ((n / S / S : Nat) : Int) = 3 * n := by
  have h : n % S + S * (n / S % S + S * (n / S / S)) = n := by rw [Nat.mod_add_div, Nat.mod_add_div]
  unfold cuK
  have h2 : (3 * (((n % S : Nat) : Int) + (S : Int) * (((n / S % S : Nat) : Int) + (S : Int) * ((n / S / S : Nat) : Int)))) = ((3 * (n % S + S * (n / S % S + S * (n / S / S))) : Nat) : Int) := by simp
  rw [h2, h]
  rfl
/-- What the reference holds of the nearest entry so far: its place, its distance, whether there is one. -/
structure NfS (W1 : World) (A B C S : Nat) (q : Int × Nat) (wr : World) : Prop where
  kept : Kept (fun k => k = A ∨ k = B ∨ k = C) W1 wr
  a : ∀ c, c < 3 → wr.cell? ⟨A, c, none⟩ = some (.int .i64 (nrR S q.1 c))
  b : ∃ r, wr.cell? ⟨B, 0, none⟩ = some (.float .f32 r) ∧ cl .f32 r = q.2
  c : wr.cell? ⟨C, 0, none⟩ = some (.bool (decide (0 ≤ q.1)))
theorem NfS.step {W1 : World} {A B C S : Nat} {q : Int × Nat} {wr w' : World} (h : NfS W1 A B C S q wr) (k : Kept None' wr w') : NfS W1 A B C S q w' :=
  ⟨h.kept.trans (k.mono fun _ _ x => x.elim), fun c hc => k.some (h.a c hc) id, let ⟨r, h1, h2⟩ := h.b; ⟨r, k.some h1 id, h2⟩, k.some h.c id⟩
theorem NfS.set {W1 : World} {A B C S : Nat} {q : Int × Nat} {wr : World} (h : NfS W1 A B C S q wr) (nAB : A ≠ B) (nAC : A ≠ C) (nBC : B ≠ C) (n d D : Nat) (hd : cl .f32 d = D) (x0 x1 x2 : Int) (h0 : x0 = nrR S n 0) (h1 : x1 = nrR S n 1) (h2 : x2 = nrR S n 2) :
    NfS W1 A B C S ((n : Int), D) (((((wr.setCell ⟨A, 0, none⟩ (.int .i64 x0)).setCell ⟨A, 1, none⟩ (.int .i64 x1)).setCell ⟨A, 2, none⟩ (.int .i64 x2)).setCell ⟨B, 0, none⟩ (.float .f32 d)).setCell ⟨C, 0, none⟩ (.bool true)) := by
  subst h0 h1 h2 hd
  obtain ⟨r, hb, -⟩ := h.b
  obtain ⟨e0, e1, e2⟩ := cells_set3 (v0 := .int .i64 (nrR S n 0)) (v1 := .int .i64 (nrR S n 1)) (v2 := .int .i64 (nrR S n 2)) (h.a 0 (by omega)) (h.a 1 (by omega)) (h.a 2 (by omega))
  have k3 := ((h.kept.setCell (p := ⟨A, 0, none⟩) (Or.inr (Or.inl rfl)) (.int .i64 (nrR S n 0))).setCell (p := ⟨A, 1, none⟩) (Or.inr (Or.inl rfl)) (.int .i64 (nrR S n 1))).setCell (p := ⟨A, 2, none⟩) (Or.inr (Or.inl rfl)) (.int .i64 (nrR S n 2))
  have b3 := cell_set_ne (B := A) (j := 2) (v := .int .i64 (nrR S n 2)) (cell_set_ne (B := A) (j := 1) (v := .int .i64 (nrR S n 1)) (cell_set_ne (B := A) (j := 0) (v := .int .i64 (nrR S n 0)) hb (Or.inl nAB)) (Or.inl nAB)) (Or.inl nAB)
  have c3 := cell_set_ne (B := A) (j := 2) (v := .int .i64 (nrR S n 2)) (cell_set_ne (B := A) (j := 1) (v := .int .i64 (nrR S n 1)) (cell_set_ne (B := A) (j := 0) (v := .int .i64 (nrR S n 0)) h.c (Or.inl nAC)) (Or.inl nAC)) (Or.inl nAC)
  generalize ((wr.setCell ⟨A, 0, none⟩ (.int .i64 (nrR S n 0))).setCell ⟨A, 1, none⟩ (.int .i64 (nrR S n 1))).setCell ⟨A, 2, none⟩ (.int .i64 (nrR S n 2)) = W3 at *
  refine ⟨(k3.setCell (p := ⟨B, 0, none⟩) (Or.inr (Or.inr (Or.inl rfl))) _).setCell (p := ⟨C, 0, none⟩) (Or.inr (Or.inr (Or.inr rfl))) _, fun c hc => ?_, ⟨d, cell_set_ne (cell_set_eq b3) (Or.inl (Ne.symm nBC)), rfl⟩, ?_⟩
  · obtain rfl | rfl | rfl : c = 0 ∨ c = 1 ∨ c = 2 := by omega
    · exact cell_set_ne (cell_set_ne e0 (Or.inl (Ne.symm nAB))) (Or.inl (Ne.symm nAC))
    · exact cell_set_ne (cell_set_ne e1 (Or.inl (Ne.symm nAB))) (Or.inl (Ne.symm nAC))
    · exact cell_set_ne (cell_set_ne e2 (Or.inl (Ne.symm nAB))) (Or.inl (Ne.symm nAC))
  · rw [decide_eq_true (show (0 : Int) ≤ n by omega)]
    exact cell_set_eq (cell_set_ne c3 (Or.inl nBC))

theorem nf_after {W : World} {A B C : Nat} {vb vc : Value} (nAB : A ≠ B) (nAC : A ≠ C) (nBC : B ≠ C) (b0 : W.cell? ⟨B, 0, none⟩ = some vb) (c0 : W.cell? ⟨C, 0, none⟩ = some vc) (zB : W.frozen? ⟨B, 0, none⟩ = false) (zC : W.frozen? ⟨C, 0, none⟩ = false) :
    (∀ x y v, (((W.setCell ⟨A, 0, none⟩ x).setCell ⟨A, 1, none⟩ y).setCell ⟨A, 2, none⟩ v).cell? ⟨B, 0, none⟩ = some vb) ∧ (∀ x y v, (((W.setCell ⟨A, 0, none⟩ x).setCell ⟨A, 1, none⟩ y).setCell ⟨A, 2, none⟩ v).frozen? ⟨B, 0, none⟩ = false) ∧
    (∀ x y v u, ((((W.setCell ⟨A, 0, none⟩ x).setCell ⟨A, 1, none⟩ y).setCell ⟨A, 2, none⟩ v).setCell ⟨B, 0, none⟩ u).cell? ⟨C, 0, none⟩ = some vc) ∧ (∀ x y v u, ((((W.setCell ⟨A, 0, none⟩ x).setCell ⟨A, 1, none⟩ y).setCell ⟨A, 2, none⟩ v).setCell ⟨B, 0, none⟩ u).frozen? ⟨C, 0, none⟩ = false) :=
  ⟨fun _ _ _ => cell_set_ne (cell_set_ne (cell_set_ne b0 (Or.inl nAB)) (Or.inl nAB)) (Or.inl nAB), fun _ _ _ => (World.frozen?_setCell ..).trans ((World.frozen?_setCell ..).trans ((World.frozen?_setCell ..).trans zB)),
    fun _ _ _ _ => cell_set_ne (cell_set_ne (cell_set_ne (cell_set_ne c0 (Or.inl nAC)) (Or.inl nAC)) (Or.inl nAC)) (Or.inl nBC), fun _ _ _ _ => (World.frozen?_setCell ..).trans ((World.frozen?_setCell ..).trans ((World.frozen?_setCell ..).trans ((World.frozen?_setCell ..).trans zC)))⟩

set_option linter.unusedSimpArgs false in
set_option linter.unusedVariables false in
set_option maxHeartbeats 2000000 in
set_option maxRecDepth 100000 in
theorem nearestof1_shows (S : Nat) (lo hi b o n cap T P A B C : Nat) (z p : Nat → Nat) (w W1 : World) (s1 : 2 ≤ S) (s2 : S ≤ 17) (hn3 : n = 3 * (S * (S * S))) (hk : Kept None' w W1) (hB : CubB T S lo hi b o n cap W1) (hx : ∀ c, c < 3 → W1.cell? ⟨P, c, none⟩ = some (.float .f32 (p c)))
    (hc : ∀ q, q < n → w.cell? ⟨b, o + q, none⟩ = some (.float .f32 (z q))) (hcap : n ≤ cap) (hN : w.heap.size ≤ T ∧ T < A ∧ w.heap.size ≤ P ∧ P < A ∧ A < B ∧ B < C) (hz : ∀ a : Addr, w.heap.size ≤ a.block → W1.frozen? a = false) :
    Shows 94 #[.pointer (some ⟨T, 0, none⟩), .pointer (some ⟨P, 0, none⟩), .pointer (some ⟨C, 0, none⟩), .pointer (some ⟨B, 0, none⟩), .pointer (some ⟨A, 0, none⟩)] S (fun n wr => NfS W1 A B C S (nrB z p n) wr) := by
  intro m wr hm hS
  obtain ⟨l1, l2, l3⟩ := place_lt s1 hm
  obtain ⟨m1, m2⟩ := cube_nat s2
  have nT : ¬ (T = A ∨ T = B ∨ T = C) := by omega
  have nP : ¬ (P = A ∨ P = B ∨ P = C) := by omega
  have kw := kept_over' hk hS.kept (fun i hi => by omega)
  have hE := entryof_E S lo hi b o n cap z w (by rw [hn3]; exact cub_n) (by omega) (by omega) hc hcap (m % S : Nat) (m / S % S : Nat) (m / S / S : Nat)
  have hkn := cuK_n S m
  have hE' : ∀ w', Kept None' w w' → Calls Try.prog 20 #[.agg #[.int .i64 (S : Int), .float .f32 lo, .float .f32 hi, .slice (some ⟨b, o, none⟩) n cap], .int .i64 ((m % S : Nat) : Int), .int .i64 ((m / S % S : Nat) : Int), .int .i64 ((m / S / S : Nat) : Int)] w' fun e w'' =>
      e = .returned (.agg #[.float .f32 (cl .f32 (z (3 * m))), .float .f32 (cl .f32 (z (3 * m + 1))), .float .f32 (cl .f32 (z (3 * m + 2)))]) ∧ Kept None' w' w'' := fun w' hk' => (hE w' hk' (Int.natCast_nonneg _) (by exact_mod_cast l1) (Int.natCast_nonneg _) (by exact_mod_cast l2) (Int.natCast_nonneg _) (by exact_mod_cast l3)).mono fun e w'' ⟨h1, h2⟩ => ⟨by
        rw [h1]; unfold entF entE; rw [hkn]; rfl, h2⟩
  have r0 : ((m % S : Nat) : Int) = nrR S m 0 := by rw [nrR_at]; rfl
  have r1 : ((m / S % S : Nat) : Int) = nrR S m 1 := by rw [nrR_at]; rfl
  have r2 : ((m / S / S : Nat) : Int) = nrR S m 2 := by rw [nrR_at]; rfl
  have hNext : (nrT (nrD (fun c => z (3 * m + c)) p) (nrB z p m).2 (nrB z p m).1 = true → nrB z p (m + 1) = ((m : Int), nrD (fun c => z (3 * m + c)) p)) ∧ (nrT (nrD (fun c => z (3 * m + c)) p) (nrB z p m).2 (nrB z p m).1 = false → nrB z p (m + 1) = nrB z p m) :=
    ⟨nrB_yes, nrB_no⟩
  obtain ⟨b1, b2⟩ := nrB_bd z p m
  have HB12 := Lib.hid (And.intro b1 b2)
  have HR := Lib.hid (And.intro r0 (And.intro r1 r2))
  have HC := Lib.hid (hE' wr kw)
  have HN := Lib.hid hNext
  have HH := Lib.hid hN
  have HS := Lib.hid hS
  have HZ := Lib.hid hz
  have HP := Lib.hid (fun c hc => hS.kept.some (hx c hc) nP)
  obtain ⟨t0, t1, t2, t3⟩ := hB.step hS.kept nT
  clear hn3 hcap hE hE' hNext hN b1 b2 r0 r1 r2 kw hk hkn hc hx hz hB nT nP hS l1 l2 l3 m1 m2
  generalize m % S = i at *
  generalize m / S % S = j at *
  generalize m / S / S = k at *
  go_enter Try.func94, Try.ntmps94
  go_upto_region 1 with (first | (go_at_call 20; refine HC.out.mono ?_; rintro e w1 ⟨rfl, hk⟩; have HK := Lib.hid hk; clear hk))
  refine of_world (fun W0 hW => ?_)
  have k0 : Kept None' w1 W0 := by rw [hW]; exact (Kept.refl _ _).alloc _ _
  have e0 : W0.cell? ⟨w1.heap.size, 0, none⟩ = some (.float .f32 (cl .f32 (z (3 * m)))) := by rw [hW]; go_simp
  have e1 : W0.cell? ⟨w1.heap.size, 1, none⟩ = some (.float .f32 (cl .f32 (z (3 * m + 1)))) := by rw [hW]; go_simp
  have e2 : W0.cell? ⟨w1.heap.size, 2, none⟩ = some (.float .f32 (cl .f32 (z (3 * m + 2)))) := by rw [hW]; go_simp
  have k2 := HK.out.trans k0
  have HS0 := Lib.hid (HS.out.step k2)
  have A0 := ext_cell e0
  have A1 := ext_cell e1
  have A2 := ext_cell e2
  have A3 := ext_cell (k2.some (HP.out 0 (by omega)) id)
  have A4 := ext_cell (k2.some (HP.out 1 (by omega)) id)
  have A5 := ext_cell (k2.some (HP.out 2 (by omega)) id)
  clear hW k0 e0 e1 e2 k2
  refine region_with (by kernel_rfl) (by kernel_rfl) ?_
  repeat (first
    | (refine wpWith_det ?_; go_big_quiet_want; go_big_quiet_op; go_big_quiet_on; refine wpQuiet_nil ?_)
    | (refine wpWith_det ?_; go_big_quiet_skip; refine wpQuiet_nil ?_)
    | fail)
  refine wpWith_float (by rfl) rfl (by simp) rfl rfl (fun d0 h0 => ?_)
  simp only [Act.put, List.setIfInBounds_toArray, List.set_cons_zero, List.set_cons_succ]
  repeat (first
    | (refine wpWith_det ?_; go_big_quiet_want; go_big_quiet_op; go_big_quiet_on; refine wpQuiet_nil ?_)
    | (refine wpWith_det ?_; go_big_quiet_skip; refine wpQuiet_nil ?_)
    | fail)
  refine wpWith_float (by rfl) rfl (by simp) rfl rfl (fun d1 h1 => ?_)
  simp only [Act.put, List.setIfInBounds_toArray, List.set_cons_zero, List.set_cons_succ]
  repeat (first
    | (refine wpWith_det ?_; go_big_quiet_want; go_big_quiet_op; go_big_quiet_on; refine wpQuiet_nil ?_)
    | (refine wpWith_det ?_; go_big_quiet_skip; refine wpQuiet_nil ?_)
    | fail)
  refine wpWith_float (by rfl) rfl (by simp) rfl rfl (fun d2 h2 => ?_)
  simp only [Act.put, List.setIfInBounds_toArray, List.set_cons_zero, List.set_cons_succ]
  repeat (first
    | (refine wpWith_det ?_; go_big_quiet_want; go_big_quiet_op; go_big_quiet_on; refine wpQuiet_nil ?_)
    | (refine wpWith_det ?_; go_big_quiet_skip; refine wpQuiet_nil ?_)
    | fail)
  refine wpWith_nil ?_
  rintro _ ⟨xq, rfl⟩
  have HS1 := Lib.hid (HS0.out.step (ext_kept _ xq))
  have HD := Lib.hid (And.intro h0 (And.intro h1 h2))
  clear A0 A1 A2 A3 A4 A5 h0 h1 h2
  generalize ext _ xq = W2 at *
  go_upto_region 2 with fail
  go_cut [17] (fun s17 wx => ∃ d, s17 = .float .f32 d ∧ cl .f32 d = nrD (fun c => z (3 * m + c)) p ∧ Kept None' W2 wx)
  case first =>
    go_wp2_with fail
    go_meet
    refine ⟨_, rfl, nrD_of (by rw [HD.out.1, fC_cl_l]; rfl) (by rw [HD.out.2.1, fC_cl_l]) (by rw [HD.out.2.2, fC_cl_l]) (by simp only [cl_fV', fC_fV_l, fC_fV_r]), ?_⟩
    repeat (first | exact Kept.refl _ _ | refine Kept.drew ?_ _)
  case rest =>
    obtain ⟨d, rfl, hd, hk⟩ := hcut
    have hS := HS1.out.step hk
    have HS2 := Lib.hid hS
    obtain ⟨r, hb, hr⟩ := hS.b
    have hT := nrT_of (best := (nrB z p m).1) hd hr
    have a0 := hS.a 0 (by omega)
    have a1 := hS.a 1 (by omega)
    have a2 := hS.a 2 (by omega)
    have c0 := hS.c
    have zz : ∀ K, w.heap.size ≤ K → ∀ c, wc.frozen? ⟨K, c, none⟩ = false := fun K hK c => (hS.kept.frozen _).trans (HZ.out _ hK)
    have lN := HH.out
    have zA0 := zz A (by omega) 0
    have zA1 := zz A (by omega) 1
    have zA2 := zz A (by omega) 2
    have zB := zz B (by omega) 0
    have zC := zz C (by omega) 0
    have HD2 := Lib.hid (And.intro hd (And.intro hr hT))
    clear hS hd hk hr hT zz lN
    cases hn : nan .f32 d with
    | true =>
      have q := order_nan' hn
      go_wp2_with fail
      go_end0
      refine ⟨rfl, ?_⟩
      have hF : nrT (nrD (fun c => z (3 * m + c)) p) (nrB z p m).2 (nrB z p m).1 = false := by rw [HD2.out.2.2, hn]; rfl
      rw [HN.out.2 hF]
      exact HS2.out
    | false =>
      have q := order_nn hn
      cases hb0 : decide (0 ≤ (nrB z p m).1) with
      | false =>
        rw [hb0] at c0
        have hF : nrT (nrD (fun c => z (3 * m + c)) p) (nrB z p m).2 (nrB z p m).1 = true := by
          have := of_decide_eq_false hb0
          rw [HD2.out.2.2, hn, decide_eq_true (show (nrB z p m).1 < 0 by omega)]; rfl
        have HF := Lib.hid hF
        obtain ⟨y1, y2, y3, y4⟩ := nf_after (A := A) (by have := HH.out; omega) (by have := HH.out; omega) (by have := HH.out; omega) hb c0 zB zC
        clear hF
        go_wp2_with fail
        go_end0
        refine ⟨rfl, ?_⟩
        rw [HN.out.1 HF.out]
        exact HS2.out.set (by have := HH.out; omega) (by have := HH.out; omega) (by have := HH.out; omega) m d _ HD2.out.1 _ _ _ HR.out.1 HR.out.2.1 HR.out.2.2
      | true =>
        rw [hb0] at c0
        have hb1 : decide ((nrB z p m).1 < 0) = false := by have := of_decide_eq_true hb0; exact decide_eq_false (by omega)
        have hT := HD2.out.2.2
        rw [hn, hb1] at hT
        cases ho : (FloatKind.f32.format.order d r == some .lt) with
        | true =>
          rw [ho] at hT
          have HT := Lib.hid hT
          obtain ⟨y1, y2, y3, y4⟩ := nf_after (A := A) (by have := HH.out; omega) (by have := HH.out; omega) (by have := HH.out; omega) hb c0 zB zC
          clear hT hb1
          go_wp2_with fail
          go_end0
          refine ⟨rfl, ?_⟩
          rw [HN.out.1 HT.out]
          exact HS2.out.set (by have := HH.out; omega) (by have := HH.out; omega) (by have := HH.out; omega) m d _ HD2.out.1 _ _ _ HR.out.1 HR.out.2.1 HR.out.2.2
        | false =>
          rw [ho] at hT
          have HT := Lib.hid hT
          clear hT hb1
          go_wp2_with fail
          go_end0
          refine ⟨rfl, ?_⟩
          rw [HN.out.2 HT.out]
          exact HS2.out

theorem i3_ret2 {fn : Func} {t u : Tmp} (hr : fn.results = #[.cell t 69, .tmp u]) (W : World) (tmps : Array Value) (B : Nat) (v0 v1 v2 : Value) (h : W.cell? ⟨B, 0, none⟩ = some v0 ∧ W.cell? ⟨B, 1, none⟩ = some v1 ∧ W.cell? ⟨B, 2, none⟩ = some v2)
    (ht : tmps[t]?.getD undef = .pointer (some ⟨B, 0, none⟩)) : (results fn tmps).run Try.prog W = .ok (.tuple #[.agg #[v0, v1, v2], tmps[u]?.getD undef]) W := by
  obtain ⟨e0, e1, e2⟩ := h
  simp [results, hr, go_sem, ht, e0, e1, e2]
  try rfl
set_option linter.unusedSimpArgs false in
set_option linter.unusedVariables false in
set_option maxHeartbeats 2000000 in
set_option maxRecDepth 100000 in
theorem nearestof_any (S : Nat) (lo hi b o n cap : Nat) (z p : Nat → Nat) (q : Int × Nat) (w : World) (hq : nrB z p (S * (S * S)) = q) (hE : cuE S lo hi n = 0) (hc : ∀ q, q < n → w.cell? ⟨b, o + q, none⟩ = some (.float .f32 (z q))) (hcap : n ≤ cap) :
    Calls Try.prog 44 #[.agg #[.int .i64 (S : Int), .float .f32 lo, .float .f32 hi, .slice (some ⟨b, o, none⟩) n cap], .agg #[.float .f32 (p 0), .float .f32 (p 1), .float .f32 (p 2)]] w fun e w' =>
      e = .returned (.tuple #[.agg #[.int .i64 (nrR S q.1 0), .int .i64 (nrR S q.1 1), .int .i64 (nrR S q.1 2)], .bool (decide (0 ≤ q.1))]) ∧ Kept None' w w' := by
  obtain ⟨s, hs, s1, s2, hn', hn3, hn4⟩ := cuE_nat hE
  obtain rfl : S = s := by omega
  have HC := Lib.hid hc
  have HN3 := Lib.hid hn3
  have HCap := Lib.hid hcap
  have HQ := Lib.hid hq
  clear hq hE hc hs hn' hn3 hn4 hcap
  go_enter Try.func44, Try.ntmps44
  go_upto_region 4 with fail
  refine of_world (fun W0 hW => ?_)
  have k0 : Kept None' w W0 := by rw [hW]; exact ((((((Kept.refl None' w).alloc _ _).alloc _ _).alloc _ _).alloc _ _).alloc _ _).alloc _ _
  have hB : CubB w.heap.size S lo hi b o n cap W0 := by rw [hW]; exact ⟨by go_simp, by go_simp, by go_simp, by go_simp⟩
  have hx : ∀ c, c < 3 → W0.cell? ⟨w.heap.size + 1, c, none⟩ = some (.float .f32 (p c)) := fun c hc => by
    rw [hW]
    obtain rfl | rfl | rfl : c = 0 ∨ c = 1 ∨ c = 2 := by omega
    all_goals go_simp
  have r0 : W0.cell? ⟨w.heap.size + 1 + 1, 0, none⟩ = some (.int .i64 0) := by rw [hW]; go_simp
  have r1 : W0.cell? ⟨w.heap.size + 1 + 1, 1, none⟩ = some (.int .i64 0) := by rw [hW]; go_simp
  have r2 : W0.cell? ⟨w.heap.size + 1 + 1, 2, none⟩ = some (.int .i64 0) := by rw [hW]; go_simp
  have hS0 : NfS W0 (w.heap.size + 1 + 1 + 1) (w.heap.size + 1 + 1 + 1 + 1) (w.heap.size + 1 + 1 + 1 + 1 + 1) S (nrB z p 0) W0 := by
    refine ⟨Kept.refl _ _, fun c hc => ?_, ⟨0, ?_, ?_⟩, ?_⟩
    · rw [hW]
      obtain rfl | rfl | rfl : c = 0 ∨ c = 1 ∨ c = 2 := by omega
      all_goals
        show _ = some (Value.int .i64 0)
        go_simp
    · rw [hW]; go_simp
    · show cl .f32 0 = 0; decide +kernel
    · show _ = some (Value.bool false); rw [hW]; go_simp
  have hz : ∀ a : Addr, w.heap.size ≤ a.block → W0.frozen? a = false := fun a ha => by rw [hW]; exact (frozen?_alloc_cells _ _ _ _).trans ((frozen?_alloc_cells _ _ _ _).trans ((frozen?_alloc_cells _ _ _ _).trans ((frozen?_alloc_cells _ _ _ _).trans ((frozen?_alloc_cells _ _ _ _).trans ((frozen?_alloc_cells _ _ _ _).trans (frozen_new _ _ ha))))))
  have HP := Lib.hid (places_gen S 94 #[.pointer (some ⟨w.heap.size, 0, none⟩), .pointer (some ⟨w.heap.size + 1, 0, none⟩), .pointer (some ⟨w.heap.size + 1 + 1 + 1 + 1 + 1, 0, none⟩), .pointer (some ⟨w.heap.size + 1 + 1 + 1 + 1, 0, none⟩), .pointer (some ⟨w.heap.size + 1 + 1 + 1, 0, none⟩)]
    (fun n wr => NfS W0 (w.heap.size + 1 + 1 + 1) (w.heap.size + 1 + 1 + 1 + 1) (w.heap.size + 1 + 1 + 1 + 1 + 1) S (nrB z p n) wr) W0 s1 s2 Try.call94 (fun n wr wr' h hk => h.step hk) hS0
    (nearestof1_shows S lo hi b o n cap _ _ _ _ _ z p w W0 s1 s2 HN3.out k0 hB hx HC.out HCap.out (by omega) hz))
  obtain ⟨c0, -, -, -⟩ := hB
  have HR := Lib.hid (And.intro r0 (And.intro r1 (And.intro r2 hz)))
  have K0 := Lib.hid k0
  clear hW k0 hx r0 r1 r2 hS0 hz
  generalize hC : w.heap.size + 1 + 1 + 1 + 1 + 1 = C at *
  generalize hB : w.heap.size + 1 + 1 + 1 + 1 = B at *
  generalize hA : w.heap.size + 1 + 1 + 1 = A at *
  generalize hR : w.heap.size + 1 + 1 = R at *
  have HN := Lib.hid (And.intro hA (And.intro hB (And.intro hC hR)))
  clear hA hB hC hR
  go_upto_region 5 with (go_at_call 74; refine HP.out.mono ?_; rintro e w1 ⟨rfl, hS⟩; have HS := Lib.hid hS; clear hS)
  have hS := HS.out
  rw [HQ.out] at hS
  have nR : ¬ (R = A ∨ R = B ∨ R = C) := by have := HN.out; omega
  have a0 := hS.a 0 (by omega)
  have a1 := hS.a 1 (by omega)
  have a2 := hS.a 2 (by omega)
  have cc := hS.c
  have r0 := hS.kept.some HR.out.1 nR
  have r1 := hS.kept.some HR.out.2.1 nR
  have r2 := hS.kept.some HR.out.2.2.1 nR
  have zz : ∀ c, w1.frozen? ⟨R, c, none⟩ = false := fun c => (hS.kept.frozen _).trans (HR.out.2.2.2 _ (by have := HN.out; show w.heap.size ≤ R; omega))
  have z0 := zz 0
  have z1 := zz 1
  have z2 := zz 2
  have cc' : ∀ x, (w1.setCell ⟨R, 0, none⟩ x).cell? ⟨C, 0, none⟩ = some (.bool (decide (0 ≤ q.1))) := fun x => cell_set_ne cc (Or.inl (by have := HN.out; omega))
  have KE := Lib.hid (kept_over' K0.out hS.kept (fun i hi => by have := HN.out; omega))
  clear hS zz nR
  go_region
  all_goals
    go_wp2_with fail
    have cs := cells_set3 (v0 := .int .i64 (nrR S q.1 0)) (v1 := .int .i64 (nrR S q.1 1)) (v2 := .int .i64 (nrR S q.1 2)) r0 r1 r2
    refine bodyPost_ret (i3_ret2 Try.results44 _ _ R _ _ _ ⟨drew_cell' cs.1, drew_cell' cs.2.1, drew_cell' cs.2.2⟩ rfl) rfl ?_
    exact ⟨rfl, Kept.drew (kept_set3 KE.out (by have := HN.out; omega)) 1⟩


theorem cuE_num {S : Int} {lo hi n : Nat} (h : cuE S lo hi n = 0) : isN lo = true ∧ isN hi = true ∧ cuO lo = false ∧ cuO hi = false ∧ (FloatKind.f32.format.order hi lo == some .gt) = true := by
  unfold cuE at h
  by_cases h1 : inB S 2 17 = false
  · rw [if_pos h1] at h; omega
  · rw [if_neg h1] at h
    by_cases h2 : ((n : Int) == 3 * S * S * S) = false
    · rw [if_pos h2] at h; omega
    · rw [if_neg h2] at h
      by_cases h3 : isN lo = false
      · rw [if_pos h3] at h; omega
      · rw [if_neg h3] at h
        by_cases h4 : isN hi = false
        · rw [if_pos h4] at h; omega
        · rw [if_neg h4] at h
          by_cases h5 : (FloatKind.f32.format.order hi lo == some .gt) = false
          · rw [if_pos h5] at h; omega
          · rw [if_neg h5] at h
            by_cases h6 : (cuO lo || cuO hi) = true
            · rw [if_pos h6] at h; omega
            · simp only [Bool.not_eq_false] at h3 h4 h5
              simp only [Bool.not_eq_true, Bool.or_eq_false_iff] at h6
              exact ⟨h3, h4, h6.1, h6.2, h5⟩
theorem dec_20 : FloatKind.f32.format.read 1233125376 = .number false 8388608 (-3) ∧ FloatKind.f32.format.read 3380609024 = .number true 8388608 (-3) := by decide +kernel
theorem mv_20 : mv 8388608 (-3) = 1048576 := by unfold mv; decide +kernel
theorem rv_le2 {s : Bool} {m : Nat} {e : Int} {b : Rat} (h1 : rv (.number s m e) ≤ b) (h2 : -b ≤ rv (.number s m e)) : mv m e ≤ b := by
  unfold rv at h1 h2
  cases s <;> simp at h1 h2 <;> grind
theorem rv_bd {s : Bool} {m : Nat} {e : Int} : rv (.number s m e) ≤ mv m e ∧ -(mv m e) ≤ rv (.number s m e) := by
  have := mv_nonneg m e
  unfold rv
  cases s <;> simp <;> grind
theorem cuO_bd {v : Nat} {s : Bool} {m : Nat} {e : Int} (h : FloatKind.f32.decode v = .number s m e) (ho : cuO v = false) : mv m e ≤ 1048576 := by
  have hr : FloatKind.f32.format.read v = _ := h
  unfold cuO at ho
  simp only [Bool.or_eq_false_iff, beq_eq_false_iff_ne, ne_eq] at ho
  replace ho : ¬ (FloatKind.f32.format.read v).order (FloatKind.f32.format.read 1233125376) = some .gt ∧ ¬ (FloatKind.f32.format.read v).order (FloatKind.f32.format.read 3380609024) = some .lt := ho
  rw [hr, dec_20.1, dec_20.2, order_gt, order_lt] at ho
  have e1 : rv (.number false 8388608 (-3)) = 1048576 := by unfold rv; simp [mv_20]
  have e2 : rv (.number true 8388608 (-3)) = -1048576 := by unfold rv; simp [mv_20]
  rw [e1, e2] at ho
  exact rv_le2 (s := s) (by grind) (by grind)
theorem val_two (l M : Int) (l0 : 0 ≤ l) (h : l ≤ M) (M1 : 1 ≤ M) (M2 : M ≤ 65535) : ∃ gm ge, FloatKind.f32.decode (valP l M) = .number false gm ge ∧ mv gm ge ≤ 2 := by
  have q25 : p2 (-25) = 1 / 33554432 := by decide +kernel
  have q1 : p2 1 = 2 := by decide +kernel
  have e2 : (-(FloatKind.f32.format.fractionBits : Int) - 2) = -25 := by decide
  obtain ⟨l, rfl⟩ : ∃ n : Nat, l = n := ⟨l.toNat, by omega⟩
  obtain ⟨M, rfl⟩ : ∃ n : Nat, M = n := ⟨M.toNat, by omega⟩
  have hMr : (1 : Rat) ≤ (M : Rat) := by have := Rat.natCast_le_natCast.2 (show 1 ≤ M by omega); simpa using this
  have hlM : (l : Rat) ≤ (M : Rat) := Rat.natCast_le_natCast.2 (by omega)
  have hl0 : (0 : Rat) ≤ (l : Rat) := Rat.natCast_nonneg
  obtain ⟨Lm, Li, a1, a2⟩ := ofInt_val .f32 (l : Int) (by omega)
  obtain ⟨Mm, Mi, b1, b2⟩ := ofInt_val .f32 (M : Int) (by omega)
  have sL : decide ((l : Int) < 0) = false := by simp
  have sM : decide ((M : Int) < 0) = false := by simp
  rw [sL] at a1
  rw [sM] at b1
  have a2 : mv Lm Li = (l : Rat) := by rw [a2]; rfl
  have b2 : mv Mm Mi = (M : Rat) := by rw [b2]; rfl
  have hMm : Mm ≠ 0 := by
    intro h0; rw [h0] at b2
    have e0 : mv 0 Mi = 0 := by unfold mv; simp
    rw [e0] at b2; grind
  obtain ⟨c, ce, c1, c2, -⟩ := quo_num a1 b1 hMm
  have hs : (false ^^ false) = false := rfl
  rw [hs] at c1
  rw [e2, q25, a2, b2, abs_le_iff] at c2
  have hc2 : mv c ce ≤ 2 := by
    have h1 : mv c ce * (M : Rat) ≤ 2 * (M : Rat) := by grind
    exact Rat.le_of_mul_le_mul_right h1 (by grind)
  obtain ⟨gm, ge, d1, d2, -⟩ := near_rv (k := .f32) 1 c1 (by rw [q1]; exact hc2) (by decide) (by decide)
  exact ⟨gm, ge, d1, by rw [← q1]; exact d2⟩
/-- The value of a place on an axis is a number. -/
theorem spot_num {S : Int} {lo hi n : Nat} {i : Int} (hE : cuE S lo hi n = 0) (i0 : 0 ≤ i) (i1 : i ≤ S - 1) (s1 : 2 ≤ S) (s2 : S ≤ 17) : nan .f32 (fC .sub .f32 hi lo) = false ∧ nan .f32 (fC .mul .f32 (fC .sub .f32 hi lo) (valP i (S - 1))) = false ∧ isN (fC .add .f32 lo (fC .mul .f32 (fC .sub .f32 hi lo) (valP i (S - 1)))) = true := by
  have q21 : p2 21 = 2097152 := by decide +kernel
  have q22 : p2 22 = 4194304 := by decide +kernel
  have q23 : p2 23 = 8388608 := by decide +kernel
  obtain ⟨n1, n2, o1, o2, -⟩ := cuE_num hE
  obtain ⟨s, m, e, hlo⟩ := isN_spec n1
  obtain ⟨t, k, f, hhi⟩ := isN_spec n2
  have bl := cuO_bd hlo o1
  have bh := cuO_bd hhi o2
  obtain ⟨rl1, rl2⟩ := rv_bd (s := s) (m := m) (e := e)
  obtain ⟨rh1, rh2⟩ := rv_bd (s := t) (m := k) (e := f)
  obtain ⟨u, c, g, hs1, hs2, hs3⟩ := sub_num hhi hlo
  have hc : mv c g ≤ 2097152 := rv_le2 (s := u) (by rw [hs2]; grind) (by rw [hs2]; grind)
  obtain ⟨M, P, d1, d2, -⟩ := near_rv (k := .f32) 21 hs1 (by rw [q21]; exact hc) (by decide) (by decide)
  obtain ⟨gm, ge, v1, v2⟩ := val_two i (S - 1) i0 i1 (by omega) (by omega)
  obtain ⟨x1, x2, x3⟩ := mul_num d1 v1
  have hm : mv (M * gm) (P + ge) ≤ 4194304 := by
    rw [x2]
    have h1 := mv_nonneg M P
    have h2 := mv_nonneg gm ge
    rw [q21] at d2
    have := Rat.mul_le_mul_of_nonneg_left (a := mv gm ge) (b := 2) (c := mv M P) v2 h1
    grind
  obtain ⟨M2, P2, y1, y2, -⟩ := near_rv (k := .f32) 22 x1 (by rw [q22]; exact hm) (by decide) (by decide)
  obtain ⟨u3, c3, g3, z1, z2, z3⟩ := add_num hlo y1
  obtain ⟨ry1, ry2⟩ := rv_bd (s := u ^^ false) (m := M2) (e := P2)
  rw [q22] at y2
  have h3 : mv c3 g3 ≤ 8388608 := rv_le2 (s := u3) (by rw [z2]; grind) (by rw [z2]; grind)
  obtain ⟨M4, P4, w1, -, -⟩ := near_rv (k := .f32) 23 z1 (by rw [q23]; exact h3) (by decide) (by decide)
  exact ⟨hs3, x3, isN_num w1⟩
def spP (S : Int) (lo hi : Nat) (i : Int) : Nat := fC .add .f32 lo (fC .mul .f32 (fC .sub .f32 hi lo) (valP i (S - 1)))
theorem spot_det {S : Int} {lo hi n : Nat} {i : Int} (hE : cuE S lo hi n = 0) (i0 : 0 ≤ i) (i1 : i ≤ S - 1) (s1 : 2 ≤ S) (s2 : S ≤ 17) : ((∀ w, fV .sub .f32 hi lo w = fC .sub .f32 hi lo) ∧ fN .sub .f32 hi lo = 0) ∧ ((∀ w, fV .mul .f32 (fC .sub .f32 hi lo) (valP i (S - 1)) w = fC .mul .f32 (fC .sub .f32 hi lo) (valP i (S - 1))) ∧ fN .mul .f32 (fC .sub .f32 hi lo) (valP i (S - 1)) = 0) ∧
    ((∀ w, fV .add .f32 lo (fC .mul .f32 (fC .sub .f32 hi lo) (valP i (S - 1))) w = spP S lo hi i) ∧ fN .add .f32 lo (fC .mul .f32 (fC .sub .f32 hi lo) (valP i (S - 1))) = 0) := by
  obtain ⟨h1, h2, h3⟩ := spot_num hE i0 i1 s1 s2
  exact ⟨det h1, det h2, det (isN_not h3)⟩

set_option linter.unusedSimpArgs false in
set_option linter.unusedVariables false in
set_option maxHeartbeats 4000000 in
set_option maxRecDepth 100000 in
theorem spot_any (S : Int) (lo hi : Nat) (A : Option Addr) (n cap : Nat) (i : Int) (w : World) (hE : cuE S lo hi n = 0) (i0 : 0 ≤ i) (i1 : i ≤ S - 1) (s1 : 2 ≤ S) (s2 : S ≤ 17) :
    Calls Try.prog 91 #[.agg #[.int .i64 S, .float .f32 lo, .float .f32 hi, .slice A n cap], .float .f32 (valP i (S - 1))] w fun e w' => e = .returned (.float .f32 (spP S lo hi i)) ∧ Kept None' w w' := by
  obtain ⟨⟨a1, a2⟩, ⟨b1, b2⟩, ⟨c1, c2⟩⟩ := spot_det hE i0 i1 s1 s2
  generalize valP i (S - 1) = v at *
  go_enter Try.func91, Try.ntmps91
  go_wp2_with fail
  go_ret
  exact ⟨rfl, (Kept.refl None' w).alloc _ _⟩
end Go.Proofs.Ytkmganophcklgaa
