/- The contract of DiffusedOf. Conditions: none. -/
import Derived.Test.YtfphhlodfieopaaDi
namespace Go.Proofs.Ytfphhlodfieopaa
open Go.RowKit
open Fl Fr
open BigFrame

/-- The neighbours, as the reference lists them. -/
def dxT (r : Nat) : Int := if r = 0 then 1 else if r = 1 then -1 else if r = 2 then 0 else 1
def dyT (r : Nat) : Int := if r = 0 then 0 else 1
def shI (r : Nat) : Int := if r = 0 then 7 else if r = 1 then 3 else if r = 2 then 5 else 1
def shT (r : Nat) : Nat := if r = 0 then 1088421888 else if r = 1 then 1077936128 else if r = 2 then 1084227584 else 1065353216
theorem T_bd (r : Nat) : -1 ≤ dxT r ∧ dxT r ≤ 1 ∧ 0 ≤ dyT r ∧ dyT r ≤ 1 := by
  unfold dxT dyT; (repeat' split) <;> omega
theorem sh_float (r : Nat) : floatOfInt .f32 (shI r) = shT r := by
  unfold shI shT
  split
  · decide +kernel
  split
  · decide +kernel
  split
  · decide +kernel
  · decide +kernel
/-- What r neighbours have got. -/
def gvs (W H x y : Int) (c e : Nat) (q : Nat → Nat) : Nat → (Nat → Nat)
  | 0 => q
  | r + 1 => gv W H x y c e (dxT r) (dyT r) (shT r) (gvs W H x y c e q r)
theorem gvB_in (W H x y dx dy : Int) : gvB W H x y dx dy = (inB (x + dx) 0 (W - 1) && decide (y + dy < H)) := by
  unfold gvB inB
  have : decide (x + dx < W) = decide (x + dx ≤ W - 1) := by
    rw [Bool.eq_iff_iff, decide_eq_true_eq, decide_eq_true_eq]; omega
  rw [this]
theorem gvs_no (W H x y : Int) (c e : Nat) (q : Nat → Nat) (r : Nat) (h : gvB W H x y (dxT r) (dyT r) = false) : gvs W H x y c e q (r + 1) = gvs W H x y c e q r := by
  show gv _ _ _ _ _ _ _ _ _ _ = _
  unfold gv; rw [h]; rfl
theorem gvs_yes (W H x y : Int) (c e : Nat) (q : Nat → Nat) (r : Nat) (h : gvB W H x y (dxT r) (dyT r) = true) (j : Nat) : gvs W H x y c e q (r + 1) j = if j = gvK W x y (dxT r) (dyT r) c then fC .add .f32 (gvs W H x y c e q r j) (fC .quo .f32 (fC .mul .f32 e (shT r)) 1098907648) else gvs W H x y c e q r j := by
  show gv _ _ _ _ _ _ _ _ _ _ _ = _
  unfold gv; rw [h]; rfl
theorem gvs_four (W H M : Int) (z : Nat → Nat) (x y : Int) (k c : Nat) (q : Nat → Nat) : gvs W H x y c (dfE M (fC .add .f32 (z k) (q k))) q 4 = dfG W H M z x y k c q := rfl

set_option linter.unusedSimpArgs false in
set_option linter.unusedVariables false in
set_option maxHeartbeats 8000000 in
set_option maxRecDepth 100000 in
theorem diffusedof_ok (x y : Int) (Wn Hn : Nat) (b o n cap : Nat) (z : Nat → Nat) (d M : Int) (w : World) (hF : frE x y Wn Hn n = 0) (d1 : 1 ≤ d) (d2 : d ≤ 16) (hM : wrap64 (wrap64 (2 ^ d.toNat) - 1) = M) (h3 : 1 ≤ M) (h4 : M ≤ 65535)
    (hc : ∀ i, i < n → w.cell? ⟨b, o + i, none⟩ = some (.float .f32 (z i))) (hcap : n ≤ cap) :
    Calls Try.prog 50 #[.agg #[.int .i64 x, .int .i64 y, .int .i64 Wn, .int .i64 Hn, .slice (some ⟨b, o, none⟩) n cap], .int .i64 d] w fun e w' =>
      ∃ B, w.heap.size ≤ B ∧ e = .returned (.slice (some ⟨B, 0, none⟩) n n) ∧ Kept None' w w' ∧ ∀ j, j < n → w'.cell? ⟨B, j, none⟩ = some (.int .i64 (dfO Wn Hn M z j)) := by
  obtain ⟨hE, hn⟩ := frE_good hF
  obtain ⟨w1', w2', w3', w4', w5'⟩ := regE_ok hE
  have w6 := (mul_bd w1' w2' w3' w4').2
  have w7 : 4 * (Wn : Int) * Hn = 4 * (Wn * Hn) := Int.mul_assoc ..
  have hn6 : n ≤ 262144 := by omega
  have w8 : (Wn : Int) * Hn = ((Wn * Hn : Nat) : Int) := (Int.natCast_mul ..).symm
  have hnn : n = 4 * (Wn * Hn) := by omega
  have HN := Lib.hid hn
  have HNN := Lib.hid hnn
  have HM := Lib.hid hM
  have HC := Lib.hid hc
  clear hF hM hc hE hn hnn w5' w6 w7 w8
  go_enter Try.func50, Try.ntmps50
  go_upto_region 1 with (fail)
  refine of_world (fun w1 hW => ?_)
  have k1 : Kept None' w w1 := by rw [hW]; exact (Kept.refl None' w).alloc _ _
  have f2 : w1.cell? ⟨w.heap.size, 2, none⟩ = some (.int .i64 Wn) := by rw [hW]; go_simp
  have f3 : w1.cell? ⟨w.heap.size, 3, none⟩ = some (.int .i64 Hn) := by rw [hW]; go_simp
  have f4 : w1.cell? ⟨w.heap.size, 4, none⟩ = some (.slice (some ⟨b, o, none⟩) n cap) := by rw [hW]; go_simp
  have zz : ∀ a : Addr, w.heap.size ≤ a.block → w1.frozen? a = false := fun a ha => by rw [hW]; exact (frozen?_alloc_cells _ _ _ _).trans (frozen_new _ _ ha)
  have s1 : w.heap.size < w1.heap.size := by rw [hW]; show w.heap.size < (w.heap.push _).size; simp
  have Z1 := Lib.hid zz
  have K1 := Lib.hid k1
  clear hW zz k1
  have hmk := run_make_row' (P := Try.prog) 25 38 (.float .f32 0) 4 Try.underlying25 (by kernel_rfl) rfl .i64 .i64 n (by omega) (by omega)
  go_upto_region 2 with (fail)
  refine of_world (fun W1 hW => ?_)
  have k1 : Kept None' w1 W1 := by rw [hW]; exact (Kept.refl _ _).alloc _ _
  have s2 : w1.heap.size < W1.heap.size := by rw [hW]; show _ < (w1.heap.push _).size; simp
  have hG : ∀ j, j < n → W1.cell? ⟨w1.heap.size, j, none⟩ = some (.float .f32 0) := by
    intro j hj; rw [hW]; exact (cell_alloc_one w1 _ _ j).trans (made_at n j _ hj)
  have f2 := k1.some f2 id
  have f3 := k1.some f3 id
  have f4 := k1.some f4 id
  have HB := Lib.hid (And.intro k1 hG)
  clear hW hmk k1 hG
  have hmk := run_make_row' (P := Try.prog) 24 3 (.int .i64 0) 8 Try.underlying24 int_info rfl .i64 .i64 n (by omega) (by omega)
  go_upto_region 3 with (fail)
  refine of_world (fun W2 hW => ?_)
  have k2 : Kept None' W1 W2 := by rw [hW]; exact (Kept.refl _ _).alloc _ _
  have s3 : W1.heap.size < W2.heap.size := by rw [hW]; show _ < (W1.heap.push _).size; simp
  have hB : ∀ j, j < n → W2.cell? ⟨W1.heap.size, j, none⟩ = some (.int .i64 0) := by
    intro j hj; rw [hW]; exact (cell_alloc_one W1 _ _ j).trans (made_at n j _ hj)
  have f2 := k2.some f2 id
  have f3 := k2.some f3 id
  have f4 := k2.some f4 id
  have kk2 := HB.out.1.trans k2
  have hS0 : DfS W1.heap.size w1.heap.size n (gSt Wn Hn M z 0) (dfO Wn Hn M z) (fun _ => False) W2 :=
    ⟨⟨fun _ => 0, fun j hj => hB j hj, fun _ _ h => h.elim⟩, fun j hj => ⟨0, k2.some (HB.out.2 j hj) id, rfl⟩, fun j => (kk2.frozen _).trans (Z1.out _ (by show w.heap.size ≤ W1.heap.size; omega)), fun j => (kk2.frozen _).trans (Z1.out _ (by show w.heap.size ≤ w1.heap.size; omega))⟩
  have HS0 := Lib.hid hS0
  have KW := Lib.hid (K1.out.trans kk2)
  clear hW hmk k2 hB hS0 kk2
  generalize hGe : w1.heap.size = G at HS0 s1 s2 ⊢
  generalize hBe : W1.heap.size = B at HS0 s2 s3 ⊢
  clear HB hBe hGe Z1
  generalize hFb : w.heap.size = Fb at f2 f3 f4 s1 ⊢
  have HFb := Lib.hid hFb
  clear hFb
  have HF0 := Lib.hid (And.intro f2 (And.intro f3 f4))
  go_wp2_with fail
  clear f2 f3 f4
  go_loopw [26] (fun i wr => ∃ Y : Nat, Y ≤ Hn ∧ i = .int .i64 Y ∧ Kept (BG B G) W2 wr ∧ DfS B G n (gSt Wn Hn M z (3 * (Y * Wn))) (dfO Wn Hn M z) (fun j => j < 4 * (Y * Wn)) wr) (fun i _ => Hn - (intOf i).toNat)
  case atStart => exact ⟨0, by omega, rfl, Kept.refl _ _, by rw [Nat.zero_mul]; exact HS0.out.weak (fun j _ h => by omega)⟩
  case round =>
    obtain ⟨Y, hY, rfl, hkY, hSY⟩ := hrel
    by_cases hYl : Y < Hn
    · have d1' : decide ((Y : Int) < (Hn : Int)) = true := by simp; omega
      have f2 := keptBG hkY HF0.out.1 (by omega) (by omega)
      have HY := Lib.hid (And.intro hkY hSY)
      clear hkY hSY
      go_wp2_with fail
      clear f2
      go_loopw [32] (fun i wr => ∃ X : Nat, X ≤ Wn ∧ i = .int .i64 X ∧ Kept (BG B G) W2 wr ∧ DfS B G n (gSt Wn Hn M z (3 * (Y * Wn + X))) (dfO Wn Hn M z) (fun j => j < 4 * (Y * Wn + X)) wr) (fun i _ => Wn - (intOf i).toNat)
      case atStart => exact ⟨0, by omega, rfl, HY.out⟩
      case round =>
        obtain ⟨X, hX, rfl, hkX, hSX⟩ := hrel
        by_cases hXl : X < Wn
        · have d1' : decide ((X : Int) < (Wn : Int)) = true := by simp; omega
          have hP := px_lt hXl hYl
          have hn := HNN.out
          obtain ⟨P, hPe⟩ : ∃ P, P = Y * Wn + X := ⟨_, rfl⟩
          rw [← hPe] at hP hSX
          have hP1 : (Y : Int) * (Wn : Int) + (X : Int) = (P : Int) := by rw [hPe, Int.natCast_add, Int.natCast_mul]
          obtain ⟨K, hK⟩ : ∃ K, K = 4 * P := ⟨_, rfl⟩
          have hP2 : 4 * (P : Int) = (K : Int) := by omega
          have m1 : 0 ≤ (Y : Int) * (Wn : Int) := Int.mul_nonneg (by omega) (by omega)
          have m2 : (Y : Int) * (Wn : Int) ≤ 65536 := by omega
          have HX := Lib.hid (And.intro hkX hSX)
          have HP := Lib.hid hPe
          have HKK := Lib.hid (And.intro hK hP)
          clear hkX hSX hn hPe hK hP
          go_wp2_with fail
          go_loopw [35] (fun i wr => ∃ c : Nat, c ≤ 4 ∧ i = .int .i64 c ∧ Kept (BG B G) W2 wr ∧ DfS B G n (gSt Wn Hn M z (3 * P + min c 3)) (dfO Wn Hn M z) (fun j => j < 4 * P + c) wr) (fun i _ => 4 - (intOf i).toNat)
          case atStart => exact ⟨0, by omega, rfl, HX.out⟩
          case round =>
            obtain ⟨c, hc, rfl, hkc, hSc⟩ := hrel
            by_cases hc4 : c < 4
            · have d3 : decide ((c : Int) < 4) = true := by simp; omega
              have HCc := Lib.hid (And.intro hkc hSc)
              clear hkc hSc
              obtain ⟨Kc, hKc⟩ : ∃ Kc, Kc = K + c := ⟨_, rfl⟩
              have hP4 : (K : Int) + (c : Int) = (Kc : Int) := by omega
              have hKcn : Kc < n := by have := HKK.out.1; have := HKK.out.2; have := HNN.out; omega
              have hz := (KW.out.under HCc.out.1 (fun i hi => by rw [HFb.out]; rcases hi with h | h <;> omega)).some (HC.out Kc hKcn) id
              have f2 := keptBG HCc.out.1 HF0.out.1 (by omega) (by omega)
              have f4 := keptBG HCc.out.1 HF0.out.2.2 (by omega) (by omega)
              have HKc := Lib.hid hKc
              clear hKc
              by_cases hc3 : c < 3
              · have e4 : ((c : Int) == 3) = false := by simp; omega
                have hS7 := HCc.out.2
                rw [Nat.min_eq_left (by omega)] at hS7
                have HC7 := Lib.hid (And.intro HCc.out.1 hS7)
                clear hS7 HCc
                obtain ⟨r, hr, hrq⟩ := HC7.out.2.got Kc hKcn
                have HRQ := Lib.hid hrq
                clear hrq
                go_upto_region 15 with (fail)
                clear f2
                have A0 := ext_cell f4
                have A3 := ext_cell hz
                have A5 := ext_cell hr
                refine region_with (by kernel_rfl) (by kernel_rfl) ?_
                repeat (first
                  | (refine wpWith_det ?_; go_big_quiet_want; go_big_quiet_op; go_big_quiet_on; refine wpQuiet_nil ?_)
                  | fail)
                refine wpWith_float (by rfl) rfl (by simp) rfl rfl (fun r1 hr1 => ?_)
                simp only [Act.put, List.setIfInBounds_toArray, List.set_cons_zero, List.set_cons_succ]
                repeat (first
                  | (refine wpWith_det ?_; go_big_quiet_want; go_big_quiet_op; go_big_quiet_on; refine wpQuiet_nil ?_)
                  | fail)
                refine wpWith_nil ?_
                rintro _ ⟨xq, rfl⟩
                have hr1 : cl .f32 r1 = fC .add .f32 (z Kc) (gSt Wn Hn M z (3 * P + c) Kc) := by rw [hr1, fC_r HRQ.out]
                obtain ⟨V, hV⟩ : ∃ V, fC .add .f32 (z Kc) (gSt Wn Hn M z (3 * P + c) Kc) = V := ⟨_, rfl⟩
                rw [hV] at hr1
                have HVV := Lib.hid hV
                obtain ⟨N, hN⟩ : ∃ N, levelP V 0 M = N := ⟨_, rfl⟩
                have hN2 : levelP r1 0 M = N := by rw [levelP_l 0 M hr1, hN]
                have hN3 := level_bd V 0 M (by omega) (by omega)
                rw [hN] at hN3
                have hNO : N = dfO Wn Hn M z Kc := by
                  rw [← hN, ← HVV.out, HKc.out, HKK.out.1]; exact (dfO_c Wn Hn M z P c hc3).symm
                have kx := ext_kept wr xq
                have HC8 := Lib.hid (And.intro (HC7.out.1.trans kx.bg) (HC7.out.2.kept kx id id))
                have HR1 := Lib.hid hr1
                have HNN2 := Lib.hid (And.intro hN hNO)
                have HN2 := Lib.hid hN2
                obtain ⟨vB, cB⟩ := HC8.out.2.cell Kc hKcn
                have fB := HC8.out.2.fzB Kc
                clear A0 A3 A5 f4 hz hr hr1 hV hN hN2 hNO kx HC7
                generalize ext wr xq = W8 at *
                go_upto_region 17 with (first
                  | (go_at_call 91; refine (levelof_any _ _ d M _ (by omega) d2 HM.out h3 h4).mono ?_; rw [HN2.out]; rintro e w8 ⟨rfl, m8, rfl⟩)
                  | fail)
                refine of_world (fun W9 hW => ?_)
                have k9 : Kept (BG B G) W8 W9 := by rw [hW]; exact Kept.setCell (p := ⟨B, Kc, none⟩) ((Kept.refl _ _).drew _) (Or.inr (Or.inl rfl)) _
                have hS9 : DfS B G n (gSt Wn Hn M z (3 * P + c)) (dfO Wn Hn M z) (fun j => j < 4 * P + (c + 1)) W9 := by
                  rw [hW]; exact (HC8.out.2.kept ((Kept.refl None' _).drew m8) id id).set (by omega) Kc _ HNN2.out.2 (fun j hj h => by have := HKK.out.1; have := HKc.out; omega)
                have cN : W9.cell? ⟨B, Kc, none⟩ = some (.int .i64 N) := by rw [hW]; exact cell_set_eq (v := .int .i64 N) cB
                have HS9 := Lib.hid (And.intro (HC8.out.1.trans k9) hS9)
                clear hW k9 hS9 cB fB HC8
                go_upto_region 18 with (first
                  | (go_at_call 19; refine (valueof_any N d M _ (by omega) d2 HM.out h3 h4 hN3.1 hN3.2).mono ?_; rintro e w8 ⟨rfl, rfl⟩)
                  | fail)
                clear cN
                refine of_world (fun W10 hW => ?_)
                obtain ⟨re, hre⟩ : ∃ re, fV .sub .f32 r1 (valP N M) W9 = re := ⟨_, rfl⟩
                have hrc : cl .f32 re = fC .sub .f32 V (valP N M) := by rw [← hre, cl_fV', fC_l HR1.out]
                simp only [hre]
                have k10 : Kept None' W9 W10 := by rw [hW]; exact (Kept.refl _ _).drew _
                have HC10 := Lib.hid (And.intro (HS9.out.1.trans k10.bg) (HS9.out.2.kept k10 id id))
                have hE : dfE M V = if isN (fC .sub .f32 V (valP N M)) then fC .sub .f32 V (valP N M) else 0 := by unfold dfE; rw [HNN2.out.1]
                rw [← hrc, isN_cl] at hE
                clear hW k10 hre HS9 hrc
                cases hi : isN re with
                | true =>
                  rw [hi, if_pos rfl] at hE
                  have HE := Lib.hid hE.symm
                  clear hE
                  go_upto_region 20 with (first
                    | (go_at_call 21; refine (isnumof_any _ _).mono ?_; rw [hi]; rintro e w8 ⟨rfl, mi, rfl⟩)
                    | fail)
                  go_upto_region 21 with (fail)
                  refine of_world (fun W11 hW => ?_)
                  have k11 : Kept None' W10 W11 := by rw [hW]; exact ((Kept.refl _ _).drew _).alloc _ _
                  obtain ⟨S, hSe⟩ : ∃ S, W10.heap.size = S := ⟨_, rfl⟩
                  have hT : ∀ r, r < 4 → W11.cell? ⟨W10.heap.size, r * 3, none⟩ = some (.int .i64 (dxT r)) ∧ W11.cell? ⟨W10.heap.size, r * 3 + 1, none⟩ = some (.int .i64 (dyT r)) ∧ W11.cell? ⟨W10.heap.size, r * 3 + 2, none⟩ = some (.int .i64 (shI r)) := by
                    intro r hr
                    rw [hW]
                    obtain rfl | rfl | rfl | rfl : r = 0 ∨ r = 1 ∨ r = 2 ∨ r = 3 := by omega
                    · exact ⟨(cell_alloc_one (W10.drewN mi) _ _ _).trans rfl, (cell_alloc_one (W10.drewN mi) _ _ _).trans rfl, (cell_alloc_one (W10.drewN mi) _ _ _).trans rfl⟩
                    · exact ⟨(cell_alloc_one (W10.drewN mi) _ _ _).trans rfl, (cell_alloc_one (W10.drewN mi) _ _ _).trans rfl, (cell_alloc_one (W10.drewN mi) _ _ _).trans rfl⟩
                    · exact ⟨(cell_alloc_one (W10.drewN mi) _ _ _).trans rfl, (cell_alloc_one (W10.drewN mi) _ _ _).trans rfl, (cell_alloc_one (W10.drewN mi) _ _ _).trans rfl⟩
                    · exact ⟨(cell_alloc_one (W10.drewN mi) _ _ _).trans rfl, (cell_alloc_one (W10.drewN mi) _ _ _).trans rfl, (cell_alloc_one (W10.drewN mi) _ _ _).trans rfl⟩
                  have s11 : W10.heap.size < W11.heap.size := cell_lt (hT 0 (by omega)).1
                  have HT := Lib.hid hT
                  have HV := Lib.hid (And.intro (HC10.out.1.trans k11.bg) (HC10.out.2.kept k11 id id))
                  have sW := HC10.out.1.size
                  clear hW k11 HC10 hT hSe
                  generalize W10.heap.size = S at HT s11 sW ⊢
                  have HF1 := Lib.hid (And.intro (keptBG HV.out.1 HF0.out.1 (by omega) (by omega)) (keptBG HV.out.1 HF0.out.2.1 (by omega) (by omega)))
                  go_loopw [93] (fun i wr => ∃ r : Nat, r ≤ 4 ∧ i = .int .i64 r ∧ Kept (fun i => i = G) W11 wr ∧ GC G n (gvs Wn Hn X Y c (dfE M V) (gSt Wn Hn M z (3 * P + c)) r) wr) (fun i _ => 4 - (intOf i).toNat)
                  case atStart => exact ⟨0, by omega, rfl, Kept.refl _ _, HV.out.2.got⟩
                  case round =>
                    obtain ⟨r, hr4, rfl, hkr, hgr⟩ := hrel
                    by_cases hrl : r < 4
                    · have dr : decide ((r : Int) < 4) = true := by simp; omega
                      obtain ⟨t0, t1, t2⟩ := HT.out r hrl
                      have t0 := hkr.some t0 (by show ¬ S = G; omega)
                      have t1 := hkr.some t1 (by show ¬ S = G; omega)
                      have t2 := hkr.some t2 (by show ¬ S = G; omega)
                      have f2 := hkr.some HF1.out.1 (by show ¬ Fb = G; omega)
                      have f3 := hkr.some HF1.out.2 (by show ¬ Fb = G; omega)
                      have HR := Lib.hid (And.intro hkr hgr)
                      clear hkr hgr
                      go_upto_region 23 with (fail)
                      refine of_world (fun W12 hW => ?_)
                      have k12 : Kept None' wr W12 := by rw [hW]; exact (Kept.refl _ _).alloc _ _
                      have b0 : W12.cell? ⟨wr.heap.size, 0, none⟩ = some (.int .i64 (dxT r)) := by rw [hW]; go_simp
                      have b1 : W12.cell? ⟨wr.heap.size, 1, none⟩ = some (.int .i64 (dyT r)) := by rw [hW]; go_simp
                      have b2 : W12.cell? ⟨wr.heap.size, 2, none⟩ = some (.int .i64 (shI r)) := by rw [hW]; go_simp
                      have f2 := k12.some f2 id
                      have f3 := k12.some f3 id
                      have HR2 := Lib.hid (And.intro (HR.out.1.trans (k12.mono (fun _ _ h => h.elim))) (HR.out.2.kept k12 id))
                      obtain ⟨q1, q2, q3, q4⟩ := T_bd r
                      have hsh := sh_float r
                      have gno := gvs_no Wn Hn X Y c (dfE M V) (gSt Wn Hn M z (3 * P + c)) r
                      have gyes := gvs_yes Wn Hn X Y c (dfE M V) (gSt Wn Hn M z (3 * P + c)) r
                      clear hW k12 t0 t1 t2 HR
                      generalize wr.heap.size = T at b0 b1 b2 ⊢
                      generalize dxT r = dx at *
                      generalize dyT r = dy at *
                      generalize shI r = sI at *
                      generalize shT r = sT at *
                      cases hb : gvB Wn Hn X Y dx dy with
                      | false =>
                        rw [gvB_in] at hb
                        have gno := gno (by rw [gvB_in]; exact hb)
                        have HG := Lib.hid gno
                        clear gno gyes hsh
                        cases hi1 : inB ((X : Int) + dx) 0 ((Wn : Int) - 1) with
                        | false =>
                          clear hb
                          go_wp2_with (first
                            | (go_at_call 15; refine (in_one _ _ _ _).mono ?_; rw [hi1]; rintro e w8 ⟨rfl, rfl⟩)
                            | fail)
                          go_roundw
                          case rel => exact ⟨r + 1, by omega, by go_num, HR2.out.1, by rw [HG.out]; exact HR2.out.2⟩
                          case measure => simp [intOf]; omega
                        | true =>
                          rw [hi1, Bool.true_and] at hb
                          go_wp2_with (first
                            | (go_at_call 15; refine (in_one _ _ _ _).mono ?_; rw [hi1]; rintro e w8 ⟨rfl, rfl⟩)
                            | fail)
                          go_roundw
                          case rel => exact ⟨r + 1, by omega, by go_num, HR2.out.1, by rw [HG.out]; exact HR2.out.2⟩
                          case measure => simp [intOf]; omega
                      | true =>
                        have gyes := gyes hb
                        rw [gvB_in, Bool.and_eq_true] at hb
                        obtain ⟨hi1, hd1⟩ := hb
                        obtain ⟨h5, h6⟩ := inB_iff.1 hi1
                        have h7 := of_decide_eq_true hd1
                        obtain ⟨-, k2, k3⟩ := gvK_ok HN.out (show c < 4 by omega) h5 (show (X : Int) + dx < Wn by omega) (show 0 ≤ (Y : Int) + dy by omega) h7
                        have hKK : 4 * (((Y : Int) + dy) * (Wn : Int) + (X : Int) + dx) + (c : Int) = (gvK Wn X Y dx dy c : Int) := by
                          have a1 : 0 ≤ ((Y : Int) + dy) * (Wn : Int) := Int.mul_nonneg (by omega) (by omega)
                          unfold gvK
                          generalize ((Y : Int) + dy) * (Wn : Int) = tt at *
                          omega
                        have m3 : 0 ≤ ((Y : Int) + dy) * (Wn : Int) := Int.mul_nonneg (by omega) (by omega)
                        have m4 : ((Y : Int) + dy) * (Wn : Int) ≤ 262144 := by omega
                        generalize gvK Wn X Y dx dy c = K' at *
                        obtain ⟨r2, hr2, hrq⟩ := HR2.out.2 K' k2
                        have hfz : W12.frozen? ⟨G, K', none⟩ = false := (HR2.out.1.frozen _).trans (HV.out.2.fzG K')
                        have HQ := Lib.hid (And.intro gyes hrq)
                        clear gyes hrq gno k3
                        go_upto_region 24 with (first
                          | (go_at_call 15; refine (in_one _ _ _ _).mono ?_; rw [hi1]; rintro e w8 ⟨rfl, rfl⟩)
                          | fail)
                        have A0 := ext_cell b0
                        have A1 := ext_cell b1
                        have A2 := ext_cell b2
                        have A3 := ext_cell f2
                        have A4 := ext_cell hr2
                        refine region_with_tail 26 (by kernel_rfl) (by kernel_rfl) ?_
                        simp only [List.take_succ_cons, List.take_zero, List.drop_succ_cons, List.drop_zero]
                        repeat (first
                          | (refine wpWith_det ?_; go_big_quiet_want; go_big_quiet_op; go_big_quiet_on; refine wpQuiet_nil ?_)
                          | fail)
                        refine wpWith_float (by rfl) rfl (by simp) rfl rfl (fun r3 hr3 => ?_)
                        simp only [Act.put, List.setIfInBounds_toArray, List.set_cons_zero, List.set_cons_succ]
                        refine wpWith_float (by rfl) rfl (by simp) rfl rfl (fun r4 hr4 => ?_)
                        simp only [Act.put, List.setIfInBounds_toArray, List.set_cons_zero, List.set_cons_succ]
                        refine wpWith_float (by rfl) rfl (by simp) rfl rfl (fun r5 hr5 => ?_)
                        simp only [Act.put, List.setIfInBounds_toArray, List.set_cons_zero, List.set_cons_succ]
                        refine wpWith_nil ?_
                        rintro _ ⟨xq, rfl⟩
                        have hv : ∀ j, j < n → gvs Wn Hn X Y c (dfE M V) (gSt Wn Hn M z (3 * P + c)) (r + 1) j = if j = K' then cl .f32 r5 else gvs Wn Hn X Y c (dfE M V) (gSt Wn Hn M z (3 * P + c)) r j := by
                          intro j hj
                          rw [HQ.out.1 j]
                          by_cases e : j = K'
                          · rw [e, if_pos rfl, if_pos rfl, hr5, fC_r hr4, fC_l hr3, fC_l HE.out, fC_l HQ.out.2]
                          · rw [if_neg e, if_neg e]
                        have kx := ext_kept W12 xq
                        have hr2 := kx.some hr2 id
                        have hfz := (kx.frozen ⟨G, K', none⟩).trans hfz
                        have HS := Lib.hid (And.intro hv (And.intro (HR2.out.1.trans (kx.mono (fun _ _ h => h.elim))) (HR2.out.2.kept kx id)))
                        clear A0 A1 A2 A3 A4 hr3 hr4 hr5 hv kx
                        generalize ext W12 xq = W13 at *
                        go_wp2_with fail
                        go_roundw
                        case rel => exact ⟨r + 1, by omega, by go_num, Kept.setCell (A := fun i => i = G) (p := ⟨G, K', none⟩) HS.out.2.1 (Or.inr rfl) _, HS.out.2.2.set K' r5 HS.out.1⟩
                        case measure => simp [intOf]; omega
                    · obtain rfl : 4 = r := by omega
                      have HR := Lib.hid (And.intro hkr hgr)
                      clear hkr hgr
                      go_wp2_with fail
                      go_roundw
                      case rel =>
                        refine ⟨c + 1, by omega, by go_num, HV.out.1.trans HR.out.1.bgG, ?_⟩
                        rw [Nat.min_eq_left (by omega : c + 1 ≤ 3), HP.out, gSt_succ Wn Hn M z X Y c hXl hc3, ← gvs_four, ← HP.out]
                        have e2 : 4 * P + c = Kc := by rw [HKc.out, HKK.out.1]
                        rw [e2, HVV.out]
                        exact HV.out.2.gave HR.out.1 (by omega) HR.out.2
                      case measure => simp [intOf]; omega
                | false =>
                  rw [hi, if_neg Bool.false_ne_true] at hE
                  have HE := Lib.hid (show cl .f32 0 = dfE M V by rw [hE]; rfl)
                  clear hE
                  go_upto_region 20 with (first
                    | (go_at_call 21; refine (isnumof_any _ _).mono ?_; rw [hi]; rintro e w8 ⟨rfl, mi, rfl⟩)
                    | fail)
                  go_upto_region 21 with (fail)
                  refine of_world (fun W11 hW => ?_)
                  have k11 : Kept None' W10 W11 := by rw [hW]; exact ((Kept.refl _ _).drew _).alloc _ _
                  obtain ⟨S, hSe⟩ : ∃ S, W10.heap.size = S := ⟨_, rfl⟩
                  have hT : ∀ r, r < 4 → W11.cell? ⟨W10.heap.size, r * 3, none⟩ = some (.int .i64 (dxT r)) ∧ W11.cell? ⟨W10.heap.size, r * 3 + 1, none⟩ = some (.int .i64 (dyT r)) ∧ W11.cell? ⟨W10.heap.size, r * 3 + 2, none⟩ = some (.int .i64 (shI r)) := by
                    intro r hr
                    rw [hW]
                    obtain rfl | rfl | rfl | rfl : r = 0 ∨ r = 1 ∨ r = 2 ∨ r = 3 := by omega
                    · exact ⟨(cell_alloc_one (W10.drewN mi) _ _ _).trans rfl, (cell_alloc_one (W10.drewN mi) _ _ _).trans rfl, (cell_alloc_one (W10.drewN mi) _ _ _).trans rfl⟩
                    · exact ⟨(cell_alloc_one (W10.drewN mi) _ _ _).trans rfl, (cell_alloc_one (W10.drewN mi) _ _ _).trans rfl, (cell_alloc_one (W10.drewN mi) _ _ _).trans rfl⟩
                    · exact ⟨(cell_alloc_one (W10.drewN mi) _ _ _).trans rfl, (cell_alloc_one (W10.drewN mi) _ _ _).trans rfl, (cell_alloc_one (W10.drewN mi) _ _ _).trans rfl⟩
                    · exact ⟨(cell_alloc_one (W10.drewN mi) _ _ _).trans rfl, (cell_alloc_one (W10.drewN mi) _ _ _).trans rfl, (cell_alloc_one (W10.drewN mi) _ _ _).trans rfl⟩
                  have s11 : W10.heap.size < W11.heap.size := cell_lt (hT 0 (by omega)).1
                  have HT := Lib.hid hT
                  have HV := Lib.hid (And.intro (HC10.out.1.trans k11.bg) (HC10.out.2.kept k11 id id))
                  have sW := HC10.out.1.size
                  clear hW k11 HC10 hT hSe
                  generalize W10.heap.size = S at HT s11 sW ⊢
                  have HF1 := Lib.hid (And.intro (keptBG HV.out.1 HF0.out.1 (by omega) (by omega)) (keptBG HV.out.1 HF0.out.2.1 (by omega) (by omega)))
                  go_loopw [93] (fun i wr => ∃ r : Nat, r ≤ 4 ∧ i = .int .i64 r ∧ Kept (fun i => i = G) W11 wr ∧ GC G n (gvs Wn Hn X Y c (dfE M V) (gSt Wn Hn M z (3 * P + c)) r) wr) (fun i _ => 4 - (intOf i).toNat)
                  case atStart => exact ⟨0, by omega, rfl, Kept.refl _ _, HV.out.2.got⟩
                  case round =>
                    obtain ⟨r, hr4, rfl, hkr, hgr⟩ := hrel
                    by_cases hrl : r < 4
                    · have dr : decide ((r : Int) < 4) = true := by simp; omega
                      obtain ⟨t0, t1, t2⟩ := HT.out r hrl
                      have t0 := hkr.some t0 (by show ¬ S = G; omega)
                      have t1 := hkr.some t1 (by show ¬ S = G; omega)
                      have t2 := hkr.some t2 (by show ¬ S = G; omega)
                      have f2 := hkr.some HF1.out.1 (by show ¬ Fb = G; omega)
                      have f3 := hkr.some HF1.out.2 (by show ¬ Fb = G; omega)
                      have HR := Lib.hid (And.intro hkr hgr)
                      clear hkr hgr
                      go_upto_region 23 with (fail)
                      refine of_world (fun W12 hW => ?_)
                      have k12 : Kept None' wr W12 := by rw [hW]; exact (Kept.refl _ _).alloc _ _
                      have b0 : W12.cell? ⟨wr.heap.size, 0, none⟩ = some (.int .i64 (dxT r)) := by rw [hW]; go_simp
                      have b1 : W12.cell? ⟨wr.heap.size, 1, none⟩ = some (.int .i64 (dyT r)) := by rw [hW]; go_simp
                      have b2 : W12.cell? ⟨wr.heap.size, 2, none⟩ = some (.int .i64 (shI r)) := by rw [hW]; go_simp
                      have f2 := k12.some f2 id
                      have f3 := k12.some f3 id
                      have HR2 := Lib.hid (And.intro (HR.out.1.trans (k12.mono (fun _ _ h => h.elim))) (HR.out.2.kept k12 id))
                      obtain ⟨q1, q2, q3, q4⟩ := T_bd r
                      have hsh := sh_float r
                      have gno := gvs_no Wn Hn X Y c (dfE M V) (gSt Wn Hn M z (3 * P + c)) r
                      have gyes := gvs_yes Wn Hn X Y c (dfE M V) (gSt Wn Hn M z (3 * P + c)) r
                      clear hW k12 t0 t1 t2 HR
                      generalize wr.heap.size = T at b0 b1 b2 ⊢
                      generalize dxT r = dx at *
                      generalize dyT r = dy at *
                      generalize shI r = sI at *
                      generalize shT r = sT at *
                      cases hb : gvB Wn Hn X Y dx dy with
                      | false =>
                        rw [gvB_in] at hb
                        have gno := gno (by rw [gvB_in]; exact hb)
                        have HG := Lib.hid gno
                        clear gno gyes hsh
                        cases hi1 : inB ((X : Int) + dx) 0 ((Wn : Int) - 1) with
                        | false =>
                          clear hb
                          go_wp2_with (first
                            | (go_at_call 15; refine (in_one _ _ _ _).mono ?_; rw [hi1]; rintro e w8 ⟨rfl, rfl⟩)
                            | fail)
                          go_roundw
                          case rel => exact ⟨r + 1, by omega, by go_num, HR2.out.1, by rw [HG.out]; exact HR2.out.2⟩
                          case measure => simp [intOf]; omega
                        | true =>
                          rw [hi1, Bool.true_and] at hb
                          go_wp2_with (first
                            | (go_at_call 15; refine (in_one _ _ _ _).mono ?_; rw [hi1]; rintro e w8 ⟨rfl, rfl⟩)
                            | fail)
                          go_roundw
                          case rel => exact ⟨r + 1, by omega, by go_num, HR2.out.1, by rw [HG.out]; exact HR2.out.2⟩
                          case measure => simp [intOf]; omega
                      | true =>
                        have gyes := gyes hb
                        rw [gvB_in, Bool.and_eq_true] at hb
                        obtain ⟨hi1, hd1⟩ := hb
                        obtain ⟨h5, h6⟩ := inB_iff.1 hi1
                        have h7 := of_decide_eq_true hd1
                        obtain ⟨-, k2, k3⟩ := gvK_ok HN.out (show c < 4 by omega) h5 (show (X : Int) + dx < Wn by omega) (show 0 ≤ (Y : Int) + dy by omega) h7
                        have hKK : 4 * (((Y : Int) + dy) * (Wn : Int) + (X : Int) + dx) + (c : Int) = (gvK Wn X Y dx dy c : Int) := by
                          have a1 : 0 ≤ ((Y : Int) + dy) * (Wn : Int) := Int.mul_nonneg (by omega) (by omega)
                          unfold gvK
                          generalize ((Y : Int) + dy) * (Wn : Int) = tt at *
                          omega
                        have m3 : 0 ≤ ((Y : Int) + dy) * (Wn : Int) := Int.mul_nonneg (by omega) (by omega)
                        have m4 : ((Y : Int) + dy) * (Wn : Int) ≤ 262144 := by omega
                        generalize gvK Wn X Y dx dy c = K' at *
                        obtain ⟨r2, hr2, hrq⟩ := HR2.out.2 K' k2
                        have hfz : W12.frozen? ⟨G, K', none⟩ = false := (HR2.out.1.frozen _).trans (HV.out.2.fzG K')
                        have HQ := Lib.hid (And.intro gyes hrq)
                        clear gyes hrq gno k3
                        go_upto_region 24 with (first
                          | (go_at_call 15; refine (in_one _ _ _ _).mono ?_; rw [hi1]; rintro e w8 ⟨rfl, rfl⟩)
                          | fail)
                        have A0 := ext_cell b0
                        have A1 := ext_cell b1
                        have A2 := ext_cell b2
                        have A3 := ext_cell f2
                        have A4 := ext_cell hr2
                        refine region_with_tail 26 (by kernel_rfl) (by kernel_rfl) ?_
                        simp only [List.take_succ_cons, List.take_zero, List.drop_succ_cons, List.drop_zero]
                        repeat (first
                          | (refine wpWith_det ?_; go_big_quiet_want; go_big_quiet_op; go_big_quiet_on; refine wpQuiet_nil ?_)
                          | fail)
                        refine wpWith_float (by rfl) rfl (by simp) rfl rfl (fun r3 hr3 => ?_)
                        simp only [Act.put, List.setIfInBounds_toArray, List.set_cons_zero, List.set_cons_succ]
                        refine wpWith_float (by rfl) rfl (by simp) rfl rfl (fun r4 hr4 => ?_)
                        simp only [Act.put, List.setIfInBounds_toArray, List.set_cons_zero, List.set_cons_succ]
                        refine wpWith_float (by rfl) rfl (by simp) rfl rfl (fun r5 hr5 => ?_)
                        simp only [Act.put, List.setIfInBounds_toArray, List.set_cons_zero, List.set_cons_succ]
                        refine wpWith_nil ?_
                        rintro _ ⟨xq, rfl⟩
                        have hv : ∀ j, j < n → gvs Wn Hn X Y c (dfE M V) (gSt Wn Hn M z (3 * P + c)) (r + 1) j = if j = K' then cl .f32 r5 else gvs Wn Hn X Y c (dfE M V) (gSt Wn Hn M z (3 * P + c)) r j := by
                          intro j hj
                          rw [HQ.out.1 j]
                          by_cases e : j = K'
                          · rw [e, if_pos rfl, if_pos rfl, hr5, fC_r hr4, fC_l hr3, fC_l HE.out, fC_l HQ.out.2]
                          · rw [if_neg e, if_neg e]
                        have kx := ext_kept W12 xq
                        have hr2 := kx.some hr2 id
                        have hfz := (kx.frozen ⟨G, K', none⟩).trans hfz
                        have HS := Lib.hid (And.intro hv (And.intro (HR2.out.1.trans (kx.mono (fun _ _ h => h.elim))) (HR2.out.2.kept kx id)))
                        clear A0 A1 A2 A3 A4 hr3 hr4 hr5 hv kx
                        generalize ext W12 xq = W13 at *
                        go_wp2_with fail
                        go_roundw
                        case rel => exact ⟨r + 1, by omega, by go_num, Kept.setCell (A := fun i => i = G) (p := ⟨G, K', none⟩) HS.out.2.1 (Or.inr rfl) _, HS.out.2.2.set K' r5 HS.out.1⟩
                        case measure => simp [intOf]; omega
                    · obtain rfl : 4 = r := by omega
                      have HR := Lib.hid (And.intro hkr hgr)
                      clear hkr hgr
                      go_wp2_with fail
                      go_roundw
                      case rel =>
                        refine ⟨c + 1, by omega, by go_num, HV.out.1.trans HR.out.1.bgG, ?_⟩
                        rw [Nat.min_eq_left (by omega : c + 1 ≤ 3), HP.out, gSt_succ Wn Hn M z X Y c hXl hc3, ← gvs_four, ← HP.out]
                        have e2 : 4 * P + c = Kc := by rw [HKc.out, HKK.out.1]
                        rw [e2, HVV.out]
                        exact HV.out.2.gave HR.out.1 (by omega) HR.out.2
                      case measure => simp [intOf]; omega
              · obtain rfl : 3 = c := by omega
                have e4 : (((3 : Nat) : Int) == 3) = true := rfl
                have hP5 : (K : Int) + 3 = (Kc : Int) := by omega
                have hL : levelP (z Kc) 0 M = dfO Wn Hn M z Kc := by rw [HKc.out, HKK.out.1]; exact (dfO_3 _ _ _ _ _).symm
                have HL := Lib.hid hL
                obtain ⟨vB, cB⟩ := HCc.out.2.cell Kc hKcn
                have fB := HCc.out.2.fzB Kc
                clear hL
                go_wp2_with (first
                  | (go_at_call 91; refine (levelof_any _ _ d M _ (by omega) d2 HM.out h3 h4).mono ?_; rw [HL.out]; rintro e w8 ⟨rfl, m8, rfl⟩)
                  | fail)
                go_roundw
                case rel =>
                  refine ⟨3 + 1, by omega, by go_num, Kept.setCell (p := ⟨B, Kc, none⟩) (HCc.out.1.drew _) (Or.inr (Or.inl rfl)) _, ?_⟩
                  exact (HCc.out.2.kept ((Kept.refl None' _).drew m8) id id).set (by omega) Kc _ rfl (fun j hj h => by have := HKK.out.1; have := HKc.out; omega)
                case measure => simp [intOf]
            · obtain rfl : 4 = c := by omega
              have HCc := Lib.hid (And.intro hkc hSc)
              clear hkc hSc
              go_wp2_with fail
              go_roundw
              case rel =>
                refine ⟨X + 1, by omega, by go_num, HCc.out.1, ?_⟩
                have e : 3 * (Y * Wn + (X + 1)) = 3 * P + min 4 3 := by rw [HP.out]; omega
                rw [e]
                exact HCc.out.2.weak (fun j _ h => by have := HP.out; omega)
              case measure => simp [intOf]; omega
        · obtain rfl : Wn = X := by omega
          have HX := Lib.hid (And.intro hkX hSX)
          clear hkX hSX
          go_wp2_with fail
          go_roundw
          case rel =>
            refine ⟨Y + 1, by omega, by go_num, HX.out.1, ?_⟩
            have e : (Y + 1) * Wn = Y * Wn + Wn := Nat.succ_mul ..
            rw [e]
            exact HX.out.2
          case measure => simp [intOf]; omega
    · obtain rfl : Hn = Y := by omega
      have HY := Lib.hid (And.intro hkY hSY)
      clear hkY hSY
      go_wp2_with fail
      go_ret
      obtain ⟨g, g1, g2⟩ := HY.out.2.out
      have hn := HNN.out
      have hk := Nat.mul_comm Wn Hn
      exact ⟨B, by rw [HFb.out]; omega, rfl, KW.out.under HY.out.1 (fun i hi => by rw [HFb.out]; rcases hi with h | h <;> omega), fun j hj => by rw [← g2 j hj (by omega)]; exact g1 j hj⟩
end Go.Proofs.Ytfphhlodfieopaa
