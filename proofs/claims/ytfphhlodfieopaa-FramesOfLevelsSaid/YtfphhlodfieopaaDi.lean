/- The contract of Diffuse. Conditions: none. -/
import Derived.Test.YtfphhlodfieopaaDh
namespace Go.Proofs.Ytfphhlodfieopaa
open Go.RowKit
open Fl Fr
open BigFrame

set_option linter.unusedSimpArgs false in
set_option linter.unusedVariables false in
set_option maxHeartbeats 8000000 in
set_option maxRecDepth 100000 in
theorem diffuse_e1 (x y W H : Int) (A : Option Addr) (n cap : Nat) (d : Int) (w : World) (E : Int) (hF : frE x y W H n = E) (h0 : ¬ E = 0) :
    Calls Try.prog 49 #[.agg #[.int .i64 x, .int .i64 y, .int .i64 W, .int .i64 H, .slice A n cap], .int .i64 d] w (LvErr E w) := by
  have hb : (E != 0) = true := by simp [h0]
  have HF := Lib.hid hF
  clear hF
  go_enter Try.func49, Try.ntmps49
  go_wp2_with (first
    | (go_at_call 76; refine (check_any _ _ _ _ _ _ _ _).mono ?_; rw [HF.out]; rintro e w1 ⟨rfl, hk1⟩)
    | (go_at_call 60; refine (deep_any _ _).mono ?_; rintro e w' ⟨rfl, rfl⟩)
    | fail)
  go_ret2
  exact ⟨rfl, ((Kept.refl None' w).alloc _ _).trans hk1⟩
set_option linter.unusedSimpArgs false in
set_option linter.unusedVariables false in
set_option maxHeartbeats 8000000 in
set_option maxRecDepth 100000 in
theorem diffuse_e3 (x y W H : Int) (A : Option Addr) (n cap : Nat) (d : Int) (w : World) (hF : frE x y W H n = 0) (h3 : (decide (1 ≤ d) && decide (d ≤ 16)) = false) :
    Calls Try.prog 49 #[.agg #[.int .i64 x, .int .i64 y, .int .i64 W, .int .i64 H, .slice A n cap], .int .i64 d] w (LvErr 3 w) := by
  have HF := Lib.hid hF
  clear hF
  go_enter Try.func49, Try.ntmps49
  go_wp2_with (first
    | (go_at_call 76; refine (check_any _ _ _ _ _ _ _ _).mono ?_; rw [HF.out]; rintro e w1 ⟨rfl, hk1⟩)
    | (go_at_call 60; refine (deep_any _ _).mono ?_; rintro e w' ⟨rfl, rfl⟩)
    | fail)
  go_ret2
  exact ⟨rfl, ((Kept.refl None' w).alloc _ _).trans hk1⟩
theorem GvB.step {X Fb Y Gb At C E G n : Nat} {fx fy W H : Int} {A : Option Addr} {cap : Nat} {x y a : Int} {c e : Nat} {w w' : World} (h : GvB X Fb Y Gb At C E G n fx fy W H A cap x y a c e w) (k : Kept (fun i => i = G) w w') (h1 : X ≠ G) (h2 : Fb ≠ G) (h3 : Y ≠ G) (h4 : Gb ≠ G) (h5 : At ≠ G) (h6 : C ≠ G) (h7 : E ≠ G) : GvB X Fb Y Gb At C E G n fx fy W H A cap x y a c e w' := by
  obtain ⟨r, a1, a2⟩ := h.bE
  exact ⟨k.some h.bx h1, k.some h.by' h3, k.some h.bW h2, k.some h.bH h2, k.some h.bG h4, k.some h.bA h5, k.some h.bC h6, r, k.some a1 h7, a2⟩

set_option linter.unusedSimpArgs false in
set_option linter.unusedVariables false in
set_option maxHeartbeats 8000000 in
set_option maxRecDepth 100000 in
theorem diffuse_ok (x y : Int) (Wn Hn : Nat) (b o n cap : Nat) (z : Nat → Nat) (d M : Int) (w : World) (hF : frE x y Wn Hn n = 0) (d1 : 1 ≤ d) (d2 : d ≤ 16) (hM : wrap64 (wrap64 (2 ^ d.toNat) - 1) = M) (h3 : 1 ≤ M) (h4 : M ≤ 65535)
    (hc : ∀ i, i < n → w.cell? ⟨b, o + i, none⟩ = some (.float .f32 (z i))) (hcap : n ≤ cap) :
    Calls Try.prog 49 #[.agg #[.int .i64 x, .int .i64 y, .int .i64 Wn, .int .i64 Hn, .slice (some ⟨b, o, none⟩) n cap], .int .i64 d] w (LvOk n (dfO Wn Hn M z) w) := by
  obtain ⟨hE, hn⟩ := frE_good hF
  obtain ⟨w1', w2', w3', w4', w5'⟩ := regE_ok hE
  have w6 := (mul_bd w1' w2' w3' w4').2
  have w7 : 4 * (Wn : Int) * Hn = 4 * (Wn * Hn) := Int.mul_assoc ..
  have hn6 : n ≤ 262144 := by omega
  have w8 : (Wn : Int) * Hn = ((Wn * Hn : Nat) : Int) := (Int.natCast_mul ..).symm
  have hnn : n = 4 * (Wn * Hn) := by omega
  have e3 : (decide (1 ≤ d) && decide (d ≤ 16)) = true := by simp; omega
  have HN := Lib.hid hn
  have HNN := Lib.hid hnn
  have HF := Lib.hid hF
  have HM := Lib.hid hM
  have HC := Lib.hid hc
  clear hF hM hc hE hn hnn w5' w6 w7 w8
  go_enter Try.func49, Try.ntmps49
  go_upto_region 6 with (first
    | (go_at_call 76; refine (check_any _ _ _ _ _ _ _ _).mono ?_; rw [HF.out]; rintro e w1 ⟨rfl, hk1⟩)
    | (go_at_call 60; refine (deep_any _ _).mono ?_; rintro e w' ⟨rfl, rfl⟩)
    | fail)
  have f2 : w1.cell? ⟨w.heap.size, 2, none⟩ = some (.int .i64 Wn) := hk1.some (by go_simp) id
  have f3 : w1.cell? ⟨w.heap.size, 3, none⟩ = some (.int .i64 Hn) := hk1.some (by go_simp) id
  have f4 : w1.cell? ⟨w.heap.size, 4, none⟩ = some (.slice (some ⟨b, o, none⟩) n cap) := hk1.some (by go_simp) id
  have zz : ∀ a : Addr, w.heap.size ≤ a.block → w1.frozen? a = false := fun a ha => (hk1.frozen a).trans ((frozen?_alloc_cells _ _ _ _).trans (frozen_new _ _ ha))
  have k1 := ((Kept.refl None' w).alloc _ _).trans hk1
  have s1 : w.heap.size < w1.heap.size := Nat.lt_of_lt_of_le (by show w.heap.size < (w.heap.push _).size; simp) hk1.size
  have Z1 := Lib.hid zz
  have K1 := Lib.hid k1
  clear hk1 zz k1
  have hmk := run_make_row' (P := Try.prog) 24 3 (.int .i64 0) 8 Try.underlying24 int_info rfl .i64 .i64 n (by omega) (by omega)
  go_upto_region 7 with (fail)
  refine of_world (fun W1 hW => ?_)
  have k1 : Kept None' w1 W1 := by rw [hW]; exact (Kept.refl _ _).alloc _ _
  have s2 : w1.heap.size < W1.heap.size := by rw [hW]; show _ < (w1.heap.push _).size; simp
  have hB : ∀ j, j < n → W1.cell? ⟨w1.heap.size, j, none⟩ = some (.int .i64 0) := by
    intro j hj; rw [hW]; exact (cell_alloc_one w1 _ _ j).trans (made_at n j _ hj)
  have f2 := k1.some f2 id
  have f3 := k1.some f3 id
  have f4 := k1.some f4 id
  have HB := Lib.hid (And.intro k1 hB)
  clear hW hmk k1 hB
  have hmk := run_make_row' (P := Try.prog) 25 38 (.float .f32 0) 4 Try.underlying25 (by kernel_rfl) rfl .i64 .i64 n (by omega) (by omega)
  go_upto_region 8 with (fail)
  refine of_world (fun W2 hW => ?_)
  have k2 : Kept None' W1 W2 := by rw [hW]; exact (((Kept.refl _ _).alloc _ _).alloc _ _)
  have s3 : W1.heap.size + 1 < W2.heap.size := by rw [hW]; show _ < ((W1.heap.push _).push _).size; simp
  have hG : ∀ j, j < n → W2.cell? ⟨W1.heap.size, j, none⟩ = some (.float .f32 0) := by
    intro j hj; rw [hW]; exact (cell_alloc_two W1 _ _ _ _ j).trans (made_at n j _ hj)
  have t8 : W2.cell? ⟨W1.heap.size + 1, 0, none⟩ = some (.slice (some ⟨W1.heap.size, 0, none⟩) n n) := by rw [hW]; go_simp
  have f2 := k2.some f2 id
  have f3 := k2.some f3 id
  have f4 := k2.some f4 id
  have kk2 := HB.out.1.trans k2
  have hS0 : DfS w1.heap.size W1.heap.size n (gSt Wn Hn M z 0) (dfO Wn Hn M z) (fun _ => False) W2 :=
    ⟨⟨fun _ => 0, fun j hj => k2.some (HB.out.2 j hj) id, fun _ _ h => h.elim⟩, fun j hj => ⟨0, hG j hj, rfl⟩, fun j => (kk2.frozen _).trans (Z1.out _ (by show w.heap.size ≤ w1.heap.size; omega)), fun j => (kk2.frozen _).trans (Z1.out _ (by show w.heap.size ≤ W1.heap.size; omega))⟩
  have HS0 := Lib.hid hS0
  have KW := Lib.hid (K1.out.trans kk2)
  clear hW hmk k2 hG hS0 kk2
  generalize hBe : w1.heap.size = B at HS0 s1 s2 ⊢
  generalize hGe : W1.heap.size = G at HS0 s2 s3 t8 ⊢
  clear HB hBe hGe Z1
  generalize hFb : w.heap.size = Fb at f2 f3 f4 s1 ⊢
  have HFb := Lib.hid hFb
  clear hFb
  have HF0 := Lib.hid (And.intro f2 (And.intro f3 (And.intro f4 t8)))
  go_wp2_with fail
  clear f2 f3 f4 t8
  go_loopw [36] (fun i wr => ∃ Y : Nat, Y ≤ Hn ∧ i = .int .i64 Y ∧ Kept (BG B G) W2 wr ∧ DfS B G n (gSt Wn Hn M z (3 * (Y * Wn))) (dfO Wn Hn M z) (fun j => j < 4 * (Y * Wn)) wr) (fun i _ => Hn - (intOf i).toNat)
  case atStart => exact ⟨0, by omega, rfl, Kept.refl _ _, by rw [Nat.zero_mul]; exact HS0.out.weak (fun j _ h => by omega)⟩
  case round =>
    obtain ⟨Y, hY, rfl, hkY, hSY⟩ := hrel
    by_cases hYl : Y < Hn
    · have d1 : decide ((Y : Int) < (Hn : Int)) = true := by simp; omega
      have f2 := keptBG hkY HF0.out.1 (by omega) (by omega)
      have sY := hkY.size
      have HY := Lib.hid (And.intro hkY hSY)
      clear hkY hSY
      go_upto_region 11 with (fail)
      refine of_world (fun W3 hW => ?_)
      have k3 : Kept None' wr W3 := by rw [hW]; exact (Kept.refl _ _).alloc _ _
      have tY : W3.cell? ⟨wr.heap.size, 0, none⟩ = some (.int .i64 Y) := by rw [hW]; go_simp
      have s4 : wr.heap.size < W3.heap.size := by rw [hW]; show _ < (wr.heap.push _).size; simp
      have f2 := k3.some f2 id
      have HY3 := Lib.hid (And.intro (HY.out.1.trans k3.bg) (HY.out.2.kept k3 id id))
      clear hW k3 HY
      generalize wr.heap.size = Yb at tY s4 sY ⊢
      have HTY := Lib.hid tY
      go_wp2_with fail
      clear tY f2
      go_loopw [42] (fun i wr => ∃ X : Nat, X ≤ Wn ∧ i = .int .i64 X ∧ Kept (BG B G) W3 wr ∧ DfS B G n (gSt Wn Hn M z (3 * (Y * Wn + X))) (dfO Wn Hn M z) (fun j => j < 4 * (Y * Wn + X)) wr) (fun i _ => Wn - (intOf i).toNat)
      case atStart => exact ⟨0, by omega, rfl, Kept.refl _ _, HY3.out.2⟩
      case round =>
        obtain ⟨X, hX, rfl, hkX, hSX⟩ := hrel
        by_cases hXl : X < Wn
        · have d1' : decide ((X : Int) < (Wn : Int)) = true := by simp; omega
          have hP := px_lt hXl hYl
          have hn := HNN.out
          obtain ⟨P, hPe⟩ : ∃ P, P = Y * Wn + X := ⟨_, rfl⟩
          rw [← hPe] at hP hSX
          have hP1 : (Y : Int) * (Wn : Int) + (X : Int) = (P : Int) := by rw [hPe, Int.natCast_add, Int.natCast_mul]
          obtain ⟨K, hK⟩ : ∃ K, K = 4 * P := ⟨_, rfl⟩
          have hP2 : 4 * (P : Int) = (K : Int) := by omega
          obtain ⟨K3, hK3⟩ : ∃ K3, K3 = K + 3 := ⟨_, rfl⟩
          have hP3 : (K : Int) + 3 = (K3 : Int) := by omega
          have hK3n : K3 < n := by omega
          have m1 : 0 ≤ (Y : Int) * (Wn : Int) := Int.mul_nonneg (by omega) (by omega)
          have m2 : (Y : Int) * (Wn : Int) ≤ 65536 := by omega
          have kX := HY3.out.1.trans hkX
          have sX := hkX.size
          have f2 := keptBG kX HF0.out.1 (by omega) (by omega)
          have f4 := keptBG kX HF0.out.2.2.1 (by omega) (by omega)
          have tY := keptBG hkX HTY.out (by omega) (by omega)
          have HX := Lib.hid (And.intro hkX hSX)
          have HP := Lib.hid hPe
          have HKK := Lib.hid (And.intro hK (And.intro hK3 hP))
          clear hkX hSX hn hPe kX hK hK3 hP
          go_upto_region 14 with (fail)
          refine of_world (fun W3b hW => ?_)
          have k3b : Kept None' wr W3b := by rw [hW]; exact (Kept.refl _ _).alloc _ _
          have tX : W3b.cell? ⟨wr.heap.size, 0, none⟩ = some (.int .i64 X) := by rw [hW]; go_simp
          have s5b : W3b.heap.size = wr.heap.size + 1 := by rw [hW]; show (wr.heap.push _).size = _; simp
          have f2 := k3b.some f2 id
          have f4 := k3b.some f4 id
          have tY := k3b.some tY id
          clear hW
          go_upto_region 15 with (fail)
          refine of_world (fun W4 hW => ?_)
          have k4b : Kept None' W3b W4 := by rw [hW]; exact (Kept.refl _ _).alloc _ _
          have tA : W4.cell? ⟨W3b.heap.size, 0, none⟩ = some (.int .i64 K) := by rw [hW]; go_simp
          have s5c : W3b.heap.size < W4.heap.size := by rw [hW]; show _ < (W3b.heap.push _).size; simp
          have tX := k4b.some tX id
          have f4 := k4b.some f4 id
          have k4 := k3b.trans k4b
          rw [s5b] at tA s5c
          have s5 := s5c
          clear k3b k4b s5b s5c
          have HX4 := Lib.hid (And.intro (HX.out.1.trans k4.bg) (HX.out.2.kept k4 id id))
          have hz := (KW.out.under (HY3.out.1.trans HX4.out.1) (fun i hi => by rw [HFb.out]; rcases hi with h | h <;> omega)).some (HC.out K3 hK3n) id
          obtain ⟨vB, cB⟩ := HX4.out.2.cell K3 hK3n
          have fB := HX4.out.2.fzB K3
          clear hW k4 HX f2 tY
          generalize wr.heap.size = Xb at tX tA s5 sX ⊢
          have HTX := Lib.hid (And.intro tX tA)
          have A0 := ext_cell tA
          have A1 := ext_cell f4
          have A2 := ext_cell hz
          have hL : levelP (z K3) 0 M = dfO Wn Hn M z K3 := by rw [HKK.out.2.1, HKK.out.1]; exact (dfO_3 _ _ _ _ _).symm
          have HL := Lib.hid hL
          clear hL
          refine region_ext_tail 11 (by kernel_rfl) (by kernel_rfl) ?_
          simp only [List.take_succ_cons, List.take_zero, List.drop_succ_cons, List.drop_zero]
          repeat (first
            | go_big_quiet_skip
            | (go_big_quiet_want; go_big_quiet_op; first | go_big_quiet_on | go_big_quiet_call (first
              | (go_at_call 89; exact calls_ext_drew ((level_any _ _ d M _ (by omega) d2 HM.out h3 h4).mono fun e w' ⟨a, b⟩ => ⟨by rw [a, HL.out], b⟩)))))
          refine wpQuiet_nil ?_
          rintro _ ⟨xq, rfl⟩
          have kx := ext_kept W4 xq
          have cB := kx.some cB id
          have fB := (kx.frozen _).trans fB
          have HX5 := Lib.hid (And.intro (HX4.out.1.trans kx.bg) (HX4.out.2.kept kx id id))
          have HTX5 := Lib.hid (And.intro (kx.some HTX.out.1 id) (kx.some HTX.out.2 id))
          have sx := kx.size
          clear A0 A1 A2 f4 hz tX tA HTX HX4 kx
          generalize ext W4 xq = W5 at *
          go_upto_region 16 with (fail)
          refine of_world (fun W6 hW => ?_)
          have k6 : Kept (BG B G) W5 W6 := by rw [hW]; exact Kept.setCell (p := ⟨B, K3, none⟩) (Kept.refl _ _) (Or.inr (Or.inl rfl)) _
          have hS6 : DfS B G n (gSt Wn Hn M z (3 * P)) (dfO Wn Hn M z) (fun j => j < 4 * P ∨ j = 4 * P + 3) W6 := by
            rw [hW]; exact HX5.out.2.set (by omega) K3 _ rfl (fun j hj h => by have := HKK.out.1; have := HKK.out.2.1; omega)
          have s6 := k6.size
          have HX6 := Lib.hid (And.intro (HX5.out.1.trans k6) hS6)
          have HT6 := Lib.hid (And.intro (keptBG k6 HTX5.out.1 (by omega) (by omega)) (keptBG k6 HTX5.out.2 (by omega) (by omega)))
          clear hW k6 hS6 HX5 HTX5 cB fB
          go_wp2_with fail
          go_loopw [65] (fun i wr => ∃ c : Nat, c ≤ 3 ∧ i = .int .i64 c ∧ Kept (BG B G) W6 wr ∧ DfS B G n (gSt Wn Hn M z (3 * P + c)) (dfO Wn Hn M z) (fun j => j < 4 * P + c ∨ j = 4 * P + 3) wr) (fun i _ => 3 - (intOf i).toNat)
          case atStart => exact ⟨0, by omega, rfl, Kept.refl _ _, HX6.out.2⟩
          case round =>
            obtain ⟨c, hc, rfl, hkc, hSc⟩ := hrel
            by_cases hc3 : c < 3
            · have d3 : decide ((c : Int) < 3) = true := by simp; omega
              have sc := hkc.size
              have HCc := Lib.hid (And.intro hkc hSc)
              clear hkc hSc
              go_upto_region 19 with (fail)
              refine of_world (fun W7 hW => ?_)
              have k7 : Kept None' wr W7 := by rw [hW]; exact (Kept.refl _ _).alloc _ _
              have tC : W7.cell? ⟨wr.heap.size, 0, none⟩ = some (.int .i64 c) := by rw [hW]; go_simp
              have s7 : wr.heap.size < W7.heap.size := by rw [hW]; show _ < (wr.heap.push _).size; simp
              have HC7 := Lib.hid (And.intro (HCc.out.1.trans k7.bg) (HCc.out.2.kept k7 id id))
              clear hW k7 HCc
              generalize wr.heap.size = Cb at tC s7 sc ⊢
              obtain ⟨Kc, hKc⟩ : ∃ Kc, Kc = K + c := ⟨_, rfl⟩
              have hP4 : (K : Int) + (c : Int) = (Kc : Int) := by omega
              have hKcn : Kc < n := by have := HKK.out.1; have := HKK.out.2.2; have := HNN.out; omega
              have kc7 := (HY3.out.1.trans HX6.out.1).trans HC7.out.1
              have hz := (KW.out.under kc7 (fun i hi => by rw [HFb.out]; rcases hi with h | h <;> omega)).some (HC.out Kc hKcn) id
              have f2 := keptBG kc7 HF0.out.1 (by omega) (by omega)
              have f3 := keptBG kc7 HF0.out.2.1 (by omega) (by omega)
              have f4 := keptBG kc7 HF0.out.2.2.1 (by omega) (by omega)
              have t8 := keptBG kc7 HF0.out.2.2.2 (by omega) (by omega)
              have tX := keptBG HC7.out.1 HT6.out.1 (by omega) (by omega)
              have tA := keptBG HC7.out.1 HT6.out.2 (by omega) (by omega)
              have tY := keptBG (HX6.out.1.trans HC7.out.1) HTY.out (by omega) (by omega)
              obtain ⟨r, hr, hrq⟩ := HC7.out.2.got Kc hKcn
              have HRQ := Lib.hid hrq
              have HBX := Lib.hid (And.intro tX (And.intro tY (And.intro f2 (And.intro f3 (And.intro t8 (And.intro tA tC))))))
              have HKc := Lib.hid hKc
              clear hrq kc7 f2 f3 tX tY hKc
              have A0 := ext_cell f4
              have A1 := ext_cell tA
              have A2 := ext_cell tC
              have A3 := ext_cell hz
              have A4 := ext_cell t8
              have A5 := ext_cell hr
              refine region_with (by kernel_rfl) (by kernel_rfl) ?_
              repeat (first
                | (refine wpWith_det ?_; go_big_quiet_want; go_big_quiet_op; go_big_quiet_on; refine wpQuiet_nil ?_)
                | fail)
              refine wpWith_float (by rfl) rfl (by simp) rfl rfl (fun r1 hr1 => ?_)
              simp only [Act.put, List.setIfInBounds_toArray, List.set_cons_zero, List.set_cons_succ]
              repeat (first
                | (refine wpWith_det ?_; go_big_quiet_want; go_big_quiet_op; go_big_quiet_on; refine wpQuiet_nil ?_)
                | fail)
              refine wpWith_nil ?_
              rintro _ ⟨xq, rfl⟩
              have hr1 : cl .f32 r1 = fC .add .f32 (z Kc) (gSt Wn Hn M z (3 * P + c) Kc) := by rw [hr1, fC_r HRQ.out]
              obtain ⟨V, hV⟩ : ∃ V, fC .add .f32 (z Kc) (gSt Wn Hn M z (3 * P + c) Kc) = V := ⟨_, rfl⟩
              rw [hV] at hr1
              have HVV := Lib.hid hV
              obtain ⟨N, hN⟩ : ∃ N, levelP V 0 M = N := ⟨_, rfl⟩
              have hN2 : levelP r1 0 M = N := by rw [levelP_l 0 M hr1, hN]
              have hN3 := level_bd V 0 M (by omega) (by omega)
              rw [hN] at hN3
              have hNO : N = dfO Wn Hn M z Kc := by
                rw [← hN, ← HVV.out, HKc.out, HKK.out.1]; exact (dfO_c Wn Hn M z P c hc3).symm
              have kx := ext_kept W7 xq
              have sx7 := kx.size
              have b0 := kx.some HBX.out.1 id
              have b1 := kx.some HBX.out.2.1 id
              have b2 := kx.some HBX.out.2.2.1 id
              have b3 := kx.some HBX.out.2.2.2.1 id
              have b4 := kx.some HBX.out.2.2.2.2.1 id
              have b5 := kx.some HBX.out.2.2.2.2.2.1 id
              have b6 := kx.some HBX.out.2.2.2.2.2.2 id
              have HC8 := Lib.hid (And.intro (HC7.out.1.trans kx.bg) (HC7.out.2.kept kx id id))
              have HBX8 := Lib.hid (And.intro b0 (And.intro b1 (And.intro b2 (And.intro b3 (And.intro b4 (And.intro b5 b6))))))
              have HR1 := Lib.hid hr1
              have HNN2 := Lib.hid (And.intro hN hNO)
              have HN2 := Lib.hid hN2
              obtain ⟨vB, cB⟩ := HC8.out.2.cell Kc hKcn
              have fB := HC8.out.2.fzB Kc
              clear A0 A1 A2 A3 A4 A5 f4 t8 tA tC hz hr hr1 hV hN hN2 hNO kx b0 b1 b2 b3 b4 HC7 HBX
              generalize ext W7 xq = W8 at *
              go_upto_region 22 with (first
                | (go_at_call 89; refine (level_any _ _ d M _ (by omega) d2 HM.out h3 h4).mono ?_; rw [HN2.out]; rintro e w8 ⟨rfl, m8, rfl⟩)
                | fail)
              refine of_world (fun W9 hW => ?_)
              have k9 : Kept (BG B G) W8 W9 := by rw [hW]; exact Kept.setCell (p := ⟨B, Kc, none⟩) ((Kept.refl _ _).drew _) (Or.inr (Or.inl rfl)) _
              have hS9 : DfS B G n (gSt Wn Hn M z (3 * P + c)) (dfO Wn Hn M z) (fun j => j < 4 * P + (c + 1) ∨ j = 4 * P + 3) W9 := by
                rw [hW]; exact (HC8.out.2.kept ((Kept.refl None' _).drew m8) id id).set (by omega) Kc _ HNN2.out.2 (fun j hj h => by have := HKK.out.1; have := HKc.out; omega)
              have s9 := k9.size
              have HS9 := Lib.hid (And.intro (HC8.out.1.trans k9) hS9)
              have HK9 := Lib.hid k9
              have zE : ∀ k c t, ((W9.drewN k).alloc (.cells c t)).frozen? ⟨W9.heap.size, 0, none⟩ = false := fun k c t => (frozen?_alloc_cells _ _ _ _).trans (frozen_new (W9.drewN k) _ (Nat.le_refl _))
              have zC : ∀ k t v, ((W9.drewN k).alloc (.cells #[v] t)).cell? ⟨W9.heap.size, 0, none⟩ = some v := fun k t v => (cell_alloc_one (W9.drewN k) _ _ 0).trans rfl
              clear hW k9 hS9 cB fB b5 b6
              go_upto_region 23 with (first
                | (go_at_call 61; refine (value_any N d M _ (by omega) d2 HM.out h3 h4 hN3.1 hN3.2).mono ?_; rintro e w8 ⟨rfl, rfl⟩)
                | fail)
              refine of_world (fun W10 hW => ?_)
              obtain ⟨re, hre⟩ : ∃ re, fV .sub .f32 r1 (valP N M) W9 = re := ⟨_, rfl⟩
              have hrc : cl .f32 re = fC .sub .f32 V (valP N M) := by rw [← hre, cl_fV', fC_l HR1.out]
              rw [hre] at hW
              have k10 : Kept None' W9 W10 := by rw [hW]; exact Kept.setCell (p := ⟨W9.heap.size, 0, none⟩) (((Kept.refl _ _).drew _).alloc _ _) (Or.inl (Nat.le_refl _)) _
              have tE : W10.cell? ⟨W9.heap.size, 0, none⟩ = some (.float .f32 re) := by rw [hW]; exact cell_set_eq (zC _ _ _)
              have fE : W10.frozen? ⟨W9.heap.size, 0, none⟩ = false := by rw [hW]; exact (World.frozen?_setCell ..).trans (zE _ _ _)
              have s10 : W9.heap.size < W10.heap.size := cell_lt tE
              have kk := HK9.out.trans k10.bg
              have b0 := keptBG kk HBX8.out.1 (by omega) (by omega)
              have b1 := keptBG kk HBX8.out.2.1 (by omega) (by omega)
              have b2 := keptBG kk HBX8.out.2.2.1 (by omega) (by omega)
              have b3 := keptBG kk HBX8.out.2.2.2.1 (by omega) (by omega)
              have b4 := keptBG kk HBX8.out.2.2.2.2.1 (by omega) (by omega)
              have b5 := keptBG kk HBX8.out.2.2.2.2.2.1 (by omega) (by omega)
              have b6 := keptBG kk HBX8.out.2.2.2.2.2.2 (by omega) (by omega)
              have HC10 := Lib.hid (And.intro (HS9.out.1.trans k10.bg) (HS9.out.2.kept k10 id id))
              have hE : dfE M V = if isN (fC .sub .f32 V (valP N M)) then fC .sub .f32 V (valP N M) else 0 := by unfold dfE; rw [HNN2.out.1]
              rw [← hrc, isN_cl] at hE
              clear hW k10 kk hre zC zE HC8 HBX8 HS9 HK9 hrc
              generalize W9.heap.size = Eb at *
              cases hi : isN re with
              | true =>
                rw [hi, if_pos rfl] at hE
                have hV : GvB Xb Fb Yb (G + 1) (Xb + 1) Cb Eb G n x y Wn Hn (some ⟨b, o, none⟩) cap X Y K c (dfE M V) W10 := ⟨b0, b1, b2, b3, b4, b5, b6, re, tE, hE.symm⟩
                have HV := Lib.hid (And.intro hV HC10.out.symm)
                clear b0 b1 b2 b3 b4 b5 b6 hE hV HC10 fE
                go_upto_region 25 with (first
                  | (go_at_call 64; refine (isnum_any _ _).mono ?_; rw [hi]; rintro e w8 ⟨rfl, rfl⟩)
                  | fail)
                clear tE
                have hKY : (K : Int) = 4 * ((Y : Int) * (Wn : Int) + (X : Int)) := by omega
                go_wp2_with (first
                  | (go_at_call 90
                     refine (give_any _ _ _ _ _ _ _ G n c (dfE M V) _ x y (Wn : Int) (Hn : Int) (some ⟨b, o, none⟩) cap (X : Int) (Y : Int) (K : Int) _ _ _ _ HV.out.1 HV.out.2.1.got HV.out.2.1.fzG HN.out hKY hc3 (by omega) (by omega) (by omega) (by omega) (by omega) (by omega) (by omega) (by omega) (by omega) (by omega) (by omega) (by omega)).mono ?_
                     rintro e w9 ⟨rfl, hk9, hg9⟩
                     have HV := Lib.hid (And.intro (GvB.step HV.out.1 hk9 (by omega) (by omega) (by omega) (by omega) (by omega) (by omega) (by omega)) (And.intro (HV.out.2.1.gave hk9 (by omega) hg9) (HV.out.2.2.trans hk9.bgG)))
                     clear hk9 hg9)
                  | fail)
                go_roundw
                case rel =>
                  refine ⟨c + 1, by omega, by go_num, HV.out.2.2, ?_⟩
                  have e : gSt Wn Hn M z (3 * P + (c + 1)) = gv Wn Hn X Y c (dfE M V) 1 1 1065353216 (gv Wn Hn X Y c (dfE M V) 0 1 1084227584 (gv Wn Hn X Y c (dfE M V) (-1) 1 1077936128 (gv Wn Hn X Y c (dfE M V) 1 0 1088421888 (gSt Wn Hn M z (3 * P + c))))) := by
                    rw [← HVV.out, HKc.out, HKK.out.1, HP.out, gSt_succ Wn Hn M z X Y c hXl hc3]
                    rfl
                  rw [e]
                  exact HV.out.2.1
                case measure => simp [intOf]; omega
              | false =>
                rw [hi, if_neg Bool.false_ne_true] at hE
                go_upto_region 25 with (first
                  | (go_at_call 64; refine (isnum_any _ _).mono ?_; rw [hi]; rintro e w8 ⟨rfl, rfl⟩)
                  | fail)
                have tE0 := cell_set_eq (v := .float .f32 0) tE
                have k11 : Kept (fun i => i = Eb) W10 (W10.setCell ⟨Eb, 0, none⟩ (.float .f32 0)) := Kept.setCell (A := fun i => i = Eb) (p := ⟨Eb, 0, none⟩) (Kept.refl _ _) (Or.inr rfl) _
                have hV : GvB Xb Fb Yb (G + 1) (Xb + 1) Cb Eb G n x y Wn Hn (some ⟨b, o, none⟩) cap X Y K c (dfE M V) (W10.setCell ⟨Eb, 0, none⟩ (.float .f32 0)) :=
                  ⟨k11.some b0 (by show ¬ Xb = Eb; omega), k11.some b1 (by show ¬ Yb = Eb; omega), k11.some b2 (by show ¬ Fb = Eb; omega), k11.some b3 (by show ¬ Fb = Eb; omega), k11.some b4 (by show ¬ G + 1 = Eb; omega), k11.some b5 (by show ¬ Xb + 1 = Eb; omega), k11.some b6 (by show ¬ Cb = Eb; omega), 0, tE0, by rw [hE]; rfl⟩
                have hk : Kept (BG B G) W6 (W10.setCell ⟨Eb, 0, none⟩ (.float .f32 0)) := Kept.setCell (p := ⟨Eb, 0, none⟩) HC10.out.1 (Or.inl (by show W6.heap.size ≤ Eb; omega)) _
                have HV := Lib.hid (And.intro hV (And.intro (HC10.out.2.kept k11 (by show ¬ B = Eb; omega) (by show ¬ G = Eb; omega)) hk))
                clear b0 b1 b2 b3 b4 b5 b6 hE hV HC10 fE tE tE0 k11 hk
                generalize W10.setCell ⟨Eb, 0, none⟩ (.float .f32 0) = W11 at *
                have hKY : (K : Int) = 4 * ((Y : Int) * (Wn : Int) + (X : Int)) := by omega
                go_wp2_with (first
                  | (go_at_call 90
                     refine (give_any _ _ _ _ _ _ _ G n c (dfE M V) _ x y (Wn : Int) (Hn : Int) (some ⟨b, o, none⟩) cap (X : Int) (Y : Int) (K : Int) _ _ _ _ HV.out.1 HV.out.2.1.got HV.out.2.1.fzG HN.out hKY hc3 (by omega) (by omega) (by omega) (by omega) (by omega) (by omega) (by omega) (by omega) (by omega) (by omega) (by omega) (by omega)).mono ?_
                     rintro e w9 ⟨rfl, hk9, hg9⟩
                     have HV := Lib.hid (And.intro (GvB.step HV.out.1 hk9 (by omega) (by omega) (by omega) (by omega) (by omega) (by omega) (by omega)) (And.intro (HV.out.2.1.gave hk9 (by omega) hg9) (HV.out.2.2.trans hk9.bgG)))
                     clear hk9 hg9)
                  | fail)
                go_roundw
                case rel =>
                  refine ⟨c + 1, by omega, by go_num, HV.out.2.2, ?_⟩
                  have e : gSt Wn Hn M z (3 * P + (c + 1)) = gv Wn Hn X Y c (dfE M V) 1 1 1065353216 (gv Wn Hn X Y c (dfE M V) 0 1 1084227584 (gv Wn Hn X Y c (dfE M V) (-1) 1 1077936128 (gv Wn Hn X Y c (dfE M V) 1 0 1088421888 (gSt Wn Hn M z (3 * P + c))))) := by
                    rw [← HVV.out, HKc.out, HKK.out.1, HP.out, gSt_succ Wn Hn M z X Y c hXl hc3]
                    rfl
                  rw [e]
                  exact HV.out.2.1
                case measure => simp [intOf]; omega
            · obtain rfl : 3 = c := by omega
              have HCc := Lib.hid (And.intro hkc hSc)
              clear hkc hSc
              go_wp2_with fail
              go_roundw
              case rel =>
                refine ⟨X + 1, by omega, by go_num, HX6.out.1.trans HCc.out.1, ?_⟩
                have e : 3 * (Y * Wn + (X + 1)) = 3 * P + 3 := by rw [HP.out]; omega
                rw [e]
                exact HCc.out.2.weak (fun j _ h => by have := HP.out; omega)
              case measure => simp [intOf]; omega
        · obtain rfl : Wn = X := by omega
          have HX := Lib.hid (And.intro hkX hSX)
          clear hkX hSX
          go_wp2_with fail
          go_roundw
          case rel =>
            refine ⟨Y + 1, by omega, by go_num, HY3.out.1.trans HX.out.1, ?_⟩
            have e : (Y + 1) * Wn = Y * Wn + Wn := Nat.succ_mul ..
            rw [e]
            exact HX.out.2
          case measure => simp [intOf]; omega
    · obtain rfl : Hn = Y := by omega
      have HY := Lib.hid (And.intro hkY hSY)
      clear hkY hSY
      go_wp2_with fail
      go_ret2
      obtain ⟨g, g1, g2⟩ := HY.out.2.out
      have hn := HNN.out
      have hk := Nat.mul_comm Wn Hn
      exact ⟨B, by rw [HFb.out]; omega, rfl, KW.out.under HY.out.1 (fun i hi => by rw [HFb.out]; rcases hi with h | h <;> omega), fun j hj => by rw [← g2 j hj (by omega)]; exact g1 j hj⟩
end Go.Proofs.Ytfphhlodfieopaa
