/- The contract of SharpOf over the frame of the law. Conditions: none. -/
import Derived.Test.YtfphhlodfieopaaPc
import Derived.Test.YtfphhlodfieopaaMd
import Derived.Deep.DeepCutAuto
import Derived.Outline
namespace Go.Proofs.Ytfphhlodfieopaa
open Go.RowKit
open Fl Fr
open BigFrame

/-- Where the pixel nearest to a place begins. -/
def shQ (x y W H px py : Int) : Nat := 4 * ((cpl py y H - y) * W + cpl px x W - x).toNat
theorem shQ_ok {x y W H : Int} {n : Nat} (px py : Int) (hE : regE x y W H = 0) (hn : (n : Int) = 4 * W * H) : (shQ x y W H px py : Int) = 4 * ((cpl py y H - y) * W + cpl px x W - x) ∧ shQ x y W H px py + 4 ≤ n := by
  obtain ⟨w1, w2, w3, w4, w5⟩ := regE_ok hE
  obtain ⟨x1, x2⟩ := cpl_bd px x W w1
  obtain ⟨y1, y2⟩ := cpl_bd py y H w3
  unfold shQ
  generalize cpl px x W = px at *
  generalize cpl py y H = py at *
  have h1 : 0 ≤ (py - y) * W := Int.mul_nonneg (by omega) (by omega)
  have h2 : (py - y) * W ≤ (H - 1) * W := Int.mul_le_mul_of_nonneg_right (by omega) (by omega)
  have h3 : (H - 1) * W = W * H - W := by rw [Int.sub_mul, Int.one_mul, Int.mul_comm]
  have h4 : 4 * W * H = 4 * (W * H) := Int.mul_assoc ..
  generalize (py - y) * W = T at *
  generalize W * H = U at *
  generalize (H - 1) * W = U2 at *
  omega
def zq (z : Nat → Nat) (q j : Nat) : Nat := z (q + j)
/-- The k-th of the nine neighbours. -/
def shV (x y W H : Int) (z : Nat → Nat) (px py : Int) (c k : Nat) : Nat := zq z (shQ x y W H (px - 1 + (k : Int) % 3) (py - 1 + (k : Int) / 3)) c
def shSum (v : Nat → Nat) : Nat → Nat
  | 0 => 0
  | 1 => cl .f32 (v 0)
  | k + 2 => fC .add .f32 (shSum v (k + 1)) (v (k + 1))
def shD (p : Nat) (v : Nat → Nat) : Nat := fC .sub .f32 p (fC .quo .f32 (shSum v 9) 1091567616)
def shP (p amount least : Nat) (v : Nat → Nat) : Nat := if ltA (shD p v) least then cl .f32 p else fC .add .f32 p (fC .mul .f32 (shD p v) amount)
theorem cl_shP (p amount least : Nat) (v : Nat → Nat) : cl .f32 (shP p amount least v) = shP p amount least v := by
  unfold shP; split
  · exact cl_cl _ _
  · exact cl_fC _ _ _ _

set_option linter.unusedSimpArgs false in
set_option linter.unusedVariables false in
set_option maxHeartbeats 800000 in
theorem shl1_any (x y W H px py : Int) (Q b o n cap : Nat) (z : Nat → Nat) (w : World) (hE : regE x y W H = 0) (hn4 : (n : Int) = 4 * W * H) (hn : n ≤ cap) (hn6 : n ≤ 65536) (hc : ∀ i, i < n → w.cell? ⟨b, o + i, none⟩ = some (.float .f32 (z i)))
    (hQ : FrC x y W H (some ⟨b, o, none⟩) n cap Q w) (x1 : -2097152 ≤ px) (x2 : px ≤ 2097152) (y1 : -2097152 ≤ py) (y2 : py ≤ 2097152) :
    Calls Try.prog 34 #[.int .i64 px, .int .i64 py, .pointer (some ⟨Q, 0, none⟩)] w fun e w' =>
      e = .returned (.agg #[.float .f32 (zq z (shQ x y W H px py) 0), .float .f32 (zq z (shQ x y W H px py) 1), .float .f32 (zq z (shQ x y W H px py) 2), .float .f32 (zq z (shQ x y W H px py) 3)]) ∧ Kept None' w w' := by
  obtain ⟨hq1, hq2⟩ := shQ_ok px py hE hn4
  have HC := Lib.hid hc
  have HP := fun (w' : World) (hk : Kept None' w w') => pixelat_cl x y W H px py b o n cap _ z w' hE hn hn6 (fun i hi => hk.some (hc i hi) id) x1 x2 y1 y2 hq1 hq2
  have HP := Lib.hid HP
  clear hc hq1 hq2
  generalize shQ x y W H px py = q at *
  obtain ⟨a0, a1, a2, a3, a4⟩ := hQ
  have l0 := cell_lt a0
  go_enter Try.func34, Try.ntmps34
  go_wp2_with (first
    | (go_at_call 35; refine (HP.out _ ((Kept.refl _ _).alloc _ _)).mono ?_; rintro e w1 ⟨rfl, hk1⟩
       have r0 : w1.cell? ⟨w.heap.size, 0, none⟩ = some (.float .f32 0) := hk1.some (by go_simp) id
       have r1 : w1.cell? ⟨w.heap.size, 1, none⟩ = some (.float .f32 0) := hk1.some (by go_simp) id
       have r2 : w1.cell? ⟨w.heap.size, 2, none⟩ = some (.float .f32 0) := hk1.some (by go_simp) id
       have r3 : w1.cell? ⟨w.heap.size, 3, none⟩ = some (.float .f32 0) := hk1.some (by go_simp) id
       have z1 : ∀ a : Addr, w.heap.size ≤ a.block → w1.frozen? a = false := fun a ha => (hk1.frozen a).trans ((frozen?_alloc_cells _ _ _ _).trans (frozen_new _ _ ha))
       have f0 := z1 ⟨w.heap.size, 0, none⟩ (by simp)
       have f1 := z1 ⟨w.heap.size, 1, none⟩ (by simp)
       have f2 := z1 ⟨w.heap.size, 2, none⟩ (by simp)
       have f3 := z1 ⟨w.heap.size, 3, none⟩ (by simp)
       have K1 := Lib.hid (((Kept.refl None' w).alloc _ _).trans hk1)
       clear hk1 z1)
    | fail)
  have cs := cells_set4 (v0 := .float .f32 (z q)) (v1 := .float .f32 (z (q + 1))) (v2 := .float .f32 (z (q + 2))) (v3 := .float .f32 (z (q + 3))) r0 r1 r2 r3
  refine bodyPost_ret (px_ret Try.results34 _ _ w.heap.size _ _ _ _ cs.1 cs.2.1 cs.2.2.1 cs.2.2.2 rfl) rfl ?_
  exact ⟨rfl, kept_set4 K1.out (Nat.le_refl _)⟩

/-- The world of SharpOf: the result, the pixel that was got (p its channels) and the pixel that is made (q its channels). -/
structure SoS (w : World) (p : Nat → Nat) (P Q : Nat) (q : Nat → Nat) (wr : World) : Prop where
  kept : Kept None' w wr
  px : ∀ j, j < 4 → wr.cell? ⟨P, j, none⟩ = some (.float .f32 (p j))
  rs : ∀ j, j < 4 → wr.cell? ⟨w.heap.size, j, none⟩ = some (.float .f32 0)
  qs : ∀ j, j < 4 → wr.cell? ⟨Q, j, none⟩ = some (.float .f32 (q j))
  fz : ∀ a : Addr, w.heap.size ≤ a.block → wr.frozen? a = false
theorem SoS.step {w : World} {p : Nat → Nat} {P Q : Nat} {q : Nat → Nat} {wr w' : World} (h : SoS w p P Q q wr) (k : Kept None' wr w') : SoS w p P Q q w' :=
  ⟨h.kept.trans k, fun j hj => k.some (h.px j hj) id, fun j hj => k.some (h.rs j hj) id, fun j hj => k.some (h.qs j hj) id, fun a ha => (k.frozen a).trans (h.fz a ha)⟩
theorem SoS.set {w : World} {p : Nat → Nat} {P Q : Nat} {q q' : Nat → Nat} {wr : World} (h : SoS w p P Q q wr) (hQ : w.heap.size ≤ Q) (hP : Q ≠ P) (hR : Q ≠ w.heap.size) (c v : Nat) (hq : ∀ j, j < 4 → q' j = if j = c then v else q j) : SoS w p P Q q' (wr.setCell ⟨Q, c, none⟩ (.float .f32 v)) :=
  ⟨h.kept.setCell (Or.inl hQ) _, fun j hj => cell_set_ne (h.px j hj) (Or.inl hP), fun j hj => cell_set_ne (h.rs j hj) (Or.inl hR),
    fun j hj => by
      rw [hq j hj]
      by_cases e : j = c
      · subst e; rw [if_pos rfl]; exact cell_set_eq (h.qs j hj)
      · rw [if_neg e]; exact cell_set_ne (h.qs j hj) (Or.inr (fun x => e x.symm)),
    fun a ha => (World.frozen?_setCell ..).trans (h.fz a ha)⟩

/-- The channels that are made when c are through. -/
def shG (x y W H : Int) (z : Nat → Nat) (px py : Int) (amount least c j : Nat) : Nat := if j = 3 then cl .f32 (zq z (shQ x y W H px py) 3) else if j < c then shP (zq z (shQ x y W H px py) j) amount least (shV x y W H z px py j) else 0
theorem shG_set (x y W H : Int) (z : Nat → Nat) (px py : Int) (amount least c j : Nat) (hc : c < 3) :
    shG x y W H z px py amount least (c + 1) j = if j = c then shP (zq z (shQ x y W H px py) c) amount least (shV x y W H z px py c) else shG x y W H z px py amount least c j := by
  unfold shG
  by_cases e : j = c
  · subst e
    rw [if_neg (by omega), if_pos (by omega), if_pos rfl]
  · rw [if_neg e]
    by_cases e3 : j = 3
    · rw [if_pos e3, if_pos e3]
    · rw [if_neg e3, if_neg e3]
      by_cases e2 : j < c
      · rw [if_pos (by omega), if_pos e2]
      · rw [if_neg (by omega), if_neg e2]

set_option linter.unusedSimpArgs false in
set_option linter.unusedVariables false in
set_option maxHeartbeats 8000000 in
set_option maxRecDepth 100000 in
theorem sharpof_any (x y W H px py : Int) (Q b o n cap : Nat) (z : Nat → Nat) (amount least : Nat) (w : World) (hE : regE x y W H = 0) (hn4 : (n : Int) = 4 * W * H) (hn : n ≤ cap) (hn6 : n ≤ 65536) (hc : ∀ i, i < n → w.cell? ⟨b, o + i, none⟩ = some (.float .f32 (z i)))
    (hQ : FrC x y W H (some ⟨b, o, none⟩) n cap Q w) (x1 : -1048576 ≤ px) (x2 : px ≤ 1048576) (y1 : -1048576 ≤ py) (y2 : py ≤ 1048576) :
    Calls Try.prog 40 #[.func (.func 34) #[] #[.pointer (some ⟨Q, 0, none⟩)], .int .i64 px, .int .i64 py, .float .f32 amount, .float .f32 least] w fun e w' =>
      e = .returned (.agg #[.float .f32 (shP (zq z (shQ x y W H px py) 0) amount least (shV x y W H z px py 0)), .float .f32 (shP (zq z (shQ x y W H px py) 1) amount least (shV x y W H z px py 1)), .float .f32 (shP (zq z (shQ x y W H px py) 2) amount least (shV x y W H z px py 2)), .float .f32 (cl .f32 (zq z (shQ x y W H px py) 3))]) ∧ Kept None' w w' := by
  have HA := fun (w' : World) (hk : Kept None' w w') (px py : Int) => shl1_any x y W H px py Q b o n cap z w' hE hn4 hn hn6 (fun i hi => hk.some (hc i hi) id) (hQ.kept hk)
  have HA := Lib.hid HA
  have HE := Lib.hid hE
  have H4 := Lib.hid hn4
  clear hc hQ hE hn4
  go_enter Try.func40, Try.ntmps40
  go_upto_region 2 with (first
    | (go_at_call 34; refine (HA.out _ ((Kept.refl _ _).alloc _ _) _ _ (by omega) (by omega) (by omega) (by omega)).mono ?_; rintro e w1 ⟨rfl, hk1⟩)
    | fail)
  refine of_world (fun W1 hW => ?_)
  have k1 : Kept None' w1 W1 := by rw [hW]; exact (Kept.refl None' w1).alloc _ _
  have hp1 : ∀ j, j < 4 → W1.cell? ⟨w1.heap.size, j, none⟩ = some (.float .f32 (zq z (shQ x y W H px py) j)) := by
    intro j hj
    rw [hW]
    obtain rfl | rfl | rfl | rfl : j = 0 ∨ j = 1 ∨ j = 2 ∨ j = 3 := by omega
    all_goals go_simp
  have hr1 : ∀ j, j < 4 → W1.cell? ⟨w.heap.size, j, none⟩ = some (.float .f32 0) := by
    intro j hj
    refine (hk1.trans k1).some ?_ id
    obtain rfl | rfl | rfl | rfl : j = 0 ∨ j = 1 ∨ j = 2 ∨ j = 3 := by omega
    all_goals go_simp
  have hf1 : ∀ a : Addr, w.heap.size ≤ a.block → W1.frozen? a = false := fun a ha => ((hk1.trans k1).frozen a).trans ((frozen?_alloc_cells _ _ _ _).trans (frozen_new _ _ ha))
  have hk01 : Kept None' w W1 := (((Kept.refl None' w).alloc _ _).trans hk1).trans k1
  have sz1 : w1.heap.size < W1.heap.size := cell_lt (hp1 0 (by omega))
  have sz0 : w.heap.size < w1.heap.size := by have := hk1.size; simp at this; omega
  have p3 := hp1 3 (by omega)
  have HI := Lib.hid (And.intro hk01 (And.intro hp1 (And.intro hr1 hf1)))
  clear hW k1 hk1 hp1 hr1 hf1 hk01
  generalize hPb : w1.heap.size = P at *
  go_upto_region 3 with (first
    | (go_at_call 25; refine (fix_any _ _).mono ?_; rintro e w' ⟨rfl, rfl⟩)
    | fail)
  refine of_world (fun W0 hW => ?_)
  have k0 : Kept None' W1 W0 := by rw [hW]; exact (Kept.refl None' W1).alloc _ _
  have hS : SoS w (zq z (shQ x y W H px py)) P W1.heap.size (shG x y W H z px py amount least 0) W0 := by
    refine ⟨HI.out.1.trans k0, fun j hj => k0.some (HI.out.2.1 j hj) id, fun j hj => k0.some (HI.out.2.2.1 j hj) id, ?_, fun a ha => (k0.frozen a).trans (HI.out.2.2.2 a ha)⟩
    intro j hj
    rw [hW]
    obtain rfl | rfl | rfl | rfl : j = 0 ∨ j = 1 ∨ j = 2 ∨ j = 3 := by omega
    all_goals
      unfold shG
      simp only [Nat.reduceEqDiff, if_false, if_true, Nat.not_lt_zero]
      go_simp
  generalize hQb : W1.heap.size = R at *
  have HS0 := Lib.hid hS
  clear hW k0 hS p3 HI hPb hQb
  go_wp2_with fail
  go_loopw [26] (fun i wr => ∃ c : Nat, c ≤ 3 ∧ i = .int .i64 c ∧ SoS w (zq z (shQ x y W H px py)) P R (shG x y W H z px py amount least c) wr) (fun i _ => 3 - (intOf i).toNat)
  case atStart => exact ⟨0, by omega, rfl, HS0.out⟩
  case round =>
    obtain ⟨c, hc, rfl, hS⟩ := hrel
    have HS := Lib.hid hS
    clear hS HS0
    by_cases hlt : c < 3
    · have d1 : decide ((c : Int) < 3) = true := by simp; omega
      obtain ⟨wo, rfl⟩ : ∃ wo : World, wo = wr := ⟨_, rfl⟩
      go_wp2_with fail
      go_loopw [14, 29] (fun t i wi => ∃ k r : Nat, k ≤ 9 ∧ i = .int .i64 k ∧ t = .float .f32 r ∧ cl .f32 r = shSum (shV x y W H z px py c) k ∧ Kept None' wo wi) (fun _ i _ => 9 - (intOf i).toNat)
      case atStart => exact ⟨0, 0, by omega, rfl, rfl, (show cl .f32 0 = 0 by decide +kernel), Kept.refl _ _⟩
      case round =>
        obtain ⟨k, r, hk, rfl, rfl, hr, kk⟩ := hrel
        have HI := Lib.hid (And.intro hr kk)
        clear hr kk
        by_cases hlt2 : k < 9
        · have d2 : decide ((k : Int) < 9) = true := by simp; omega
          have hidx := fun (q : Nat) (w : World) => px_idx (zq z q) c (by omega) w
          by_cases h0 : k = 0
          · subst h0
            go_wp2_with (first
              | (go_at_call 34; refine (HA.out _ (HS.out.kept.trans HI.out.2) _ _ (by omega) (by omega) (by omega) (by omega)).mono ?_; rintro e w2 ⟨rfl, hk2⟩)
              | fail)
            go_roundw
            case rel =>
              refine ⟨1, _, by omega, rfl, rfl, ?_, HI.out.2.trans hk2⟩
              show cl .f32 _ = cl .f32 (shV x y W H z px py c 0)
              unfold shV
              simp
            case measure => simp [intOf]
          · have d3 : ((k : Int) == 0) = false := by simp; omega
            go_wp2_with (first
              | (go_at_call 34; refine (HA.out _ (HS.out.kept.trans HI.out.2) _ _ (by omega) (by omega) (by omega) (by omega)).mono ?_; rintro e w2 ⟨rfl, hk2⟩)
              | fail)
            go_roundw
            case rel =>
              refine ⟨k + 1, _, by omega, by go_num, rfl, ?_, (HI.out.2.trans hk2).drew _⟩
              rw [cl_fV', fC_l HI.out.1]
              obtain ⟨m, rfl⟩ : ∃ m, k = m + 1 := ⟨k - 1, by omega⟩
              rfl
            case measure => simp [intOf]; omega
        · obtain rfl : k = 9 := by omega
          have d2 : decide (((9 : Nat) : Int) < 9) = false := by simp
          have s1 := HS.out.step HI.out.2
          have c1 := s1.px c (by omega)
          have HS1 := Lib.hid s1
          clear s1
          go_upto_region 16 with (fail)
          refine of_world (fun W2 hW => ?_)
          obtain ⟨d, hd⟩ : ∃ v, fV .sub .f32 (zq z (shQ x y W H px py) c) (fV .quo .f32 r 1091567616 wr) (wr.drewN (fN .quo .f32 r 1091567616)) = v := ⟨_, rfl⟩
          have hdc : cl .f32 d = shD (zq z (shQ x y W H px py) c) (shV x y W H z px py c) := by
            rw [← hd, cl_fV', fC_fV_r, fC_l HI.out.1]
            rfl
          have k2 : Kept None' wr W2 := by rw [hW]; exact (Kept.refl _ _).drew _
          simp only [hd]
          have s2 := HS1.out.step k2
          have c2 := s2.px c (by omega)
          have qc := s2.qs c (by omega)
          have fc := s2.fz ⟨R, c, none⟩ (by simp; omega)
          have HS2 := Lib.hid s2
          have HD := Lib.hid hdc
          clear hd hdc k2 hW c1 s2
          have hlt' : (FloatKind.f32.format.order (d % 2147483648) least == some .lt) = ltA (shD (zq z (shQ x y W H px py) c) (shV x y W H z px py c)) least := by
            rw [← HD.out, ltA_cl]; rfl
          cases hl : ltA (shD (zq z (shQ x y W H px py) c) (shV x y W H z px py c)) least with
          | true =>
            rw [hl] at hlt'
            have hP : cl .f32 (zq z (shQ x y W H px py) c) = shP (zq z (shQ x y W H px py) c) amount least (shV x y W H z px py c) := by
              unfold shP; rw [hl, if_pos rfl]
            have HP := Lib.hid hP
            clear hP hl
            go_wp2_with (first
              | (go_at_call 82; refine (absof_any _ _).mono ?_; rintro e w' ⟨rfl, rfl⟩)
              | (go_at_call 25; refine (fix_any _ _).mono ?_; rw [HP.out]; rintro e w' ⟨rfl, rfl⟩)
              | fail)
            go_roundw
            case rel => exact ⟨c + 1, by omega, by go_num, HS2.out.set (by omega) (by omega) (by omega) c _ (fun j hj => shG_set x y W H z px py amount least c j hlt)⟩
            case measure => simp [intOf]; omega
          | false =>
            rw [hl] at hlt'
            have hP : ∀ w1 w2, cl .f32 (fV .add .f32 (zq z (shQ x y W H px py) c) (fV .mul .f32 d amount w1) w2) = shP (zq z (shQ x y W H px py) c) amount least (shV x y W H z px py c) := by
              intro w1 w2
              unfold shP; rw [hl, if_neg Bool.false_ne_true, cl_fV', fC_fV_r, fC_l HD.out]
            have HP := Lib.hid hP
            clear hP hl
            go_wp2_with (first
              | (go_at_call 82; refine (absof_any _ _).mono ?_; rintro e w' ⟨rfl, rfl⟩)
              | (go_at_call 25; refine (fix_any _ _).mono ?_; rw [HP.out]; rintro e w' ⟨rfl, rfl⟩)
              | fail)
            go_roundw
            case rel => exact ⟨c + 1, by omega, by go_num, (HS2.out.step ((Kept.refl _ _).drew _)).set (by omega) (by omega) (by omega) c _ (fun j hj => shG_set x y W H z px py amount least c j hlt)⟩
            case measure => simp [intOf]; omega
    · obtain rfl : c = 3 := by omega
      have q0 := HS.out.qs 0 (by omega)
      have q1 := HS.out.qs 1 (by omega)
      have q2 := HS.out.qs 2 (by omega)
      have q3 := HS.out.qs 3 (by omega)
      have r0 := HS.out.rs 0 (by omega)
      have r1 := HS.out.rs 1 (by omega)
      have r2 := HS.out.rs 2 (by omega)
      have r3 := HS.out.rs 3 (by omega)
      have f0 := HS.out.fz ⟨w.heap.size, 0, none⟩ (by simp)
      have f1 := HS.out.fz ⟨w.heap.size, 1, none⟩ (by simp)
      have f2 := HS.out.fz ⟨w.heap.size, 2, none⟩ (by simp)
      have f3 := HS.out.fz ⟨w.heap.size, 3, none⟩ (by simp)
      obtain ⟨v0, e0⟩ : ∃ v, shG x y W H z px py amount least 3 0 = v := ⟨_, rfl⟩
      obtain ⟨v1, e1⟩ : ∃ v, shG x y W H z px py amount least 3 1 = v := ⟨_, rfl⟩
      obtain ⟨v2, e2⟩ : ∃ v, shG x y W H z px py amount least 3 2 = v := ⟨_, rfl⟩
      obtain ⟨v3, e3⟩ : ∃ v, shG x y W H z px py amount least 3 3 = v := ⟨_, rfl⟩
      rw [e0] at q0
      rw [e1] at q1
      rw [e2] at q2
      rw [e3] at q3
      have h0 : shP (zq z (shQ x y W H px py) 0) amount least (shV x y W H z px py 0) = v0 := e0
      have h1 : shP (zq z (shQ x y W H px py) 1) amount least (shV x y W H z px py 1) = v1 := e1
      have h2 : shP (zq z (shQ x y W H px py) 2) amount least (shV x y W H z px py 2) = v2 := e2
      have h3 : cl .f32 (zq z (shQ x y W H px py) 3) = v3 := e3
      have HH := Lib.hid (And.intro h0 (And.intro h1 (And.intro h2 h3)))
      clear e0 e1 e2 e3 h0 h1 h2 h3
      go_wp2_with fail
      have cs := cells_set4 (v0 := .float .f32 v0) (v1 := .float .f32 v1) (v2 := .float .f32 v2) (v3 := .float .f32 v3) r0 r1 r2 r3
      refine bodyPost_ret (px_ret Try.results40 _ _ w.heap.size _ _ _ _ cs.1 cs.2.1 cs.2.2.1 cs.2.2.2 rfl) rfl ?_
      rw [HH.out.1, HH.out.2.1, HH.out.2.2.1, HH.out.2.2.2]
      exact ⟨rfl, kept_set4 HS.out.kept (Nat.le_refl _)⟩
end Go.Proofs.Ytfphhlodfieopaa
