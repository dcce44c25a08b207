/- The contracts of Sharpen's functions. Conditions: none. -/
import Derived.Test.YtfphhlodfieopaaSo
import Derived.Test.YtfphhlodfieopaaVg
import Derived.Test.YtfphhlodfieopaaMp
namespace Go.Proofs.Ytfphhlodfieopaa
open Go.RowKit
open Fl Fr
open BigFrame

/-- The boxes of Sharpen's inner function: what reads the frame at T, the place at X and Y, the bound at L, the amount at M. -/
def ShB (Q T X Y L M : Nat) (px py : Int) (least amount : Nat) (w : World) : Prop :=
  w.cell? ⟨T, 0, none⟩ = some (.func (.func 77) #[] #[.pointer (some ⟨Q, 0, none⟩)]) ∧ w.cell? ⟨X, 0, none⟩ = some (.int .i64 px) ∧ w.cell? ⟨Y, 0, none⟩ = some (.int .i64 py) ∧ w.cell? ⟨L, 0, none⟩ = some (.float .f32 least) ∧ w.cell? ⟨M, 0, none⟩ = some (.float .f32 amount)
theorem ShB.kept {Q T X Y L M : Nat} {px py : Int} {least amount : Nat} {w w' : World} (h : ShB Q T X Y L M px py least amount w) (k : Kept None' w w') : ShB Q T X Y L M px py least amount w' :=
  ⟨k.some h.1 id, k.some h.2.1 id, k.some h.2.2.1 id, k.some h.2.2.2.1 id, k.some h.2.2.2.2 id⟩

set_option linter.unusedSimpArgs false in
set_option linter.unusedVariables false in
set_option maxHeartbeats 4000000 in
set_option maxRecDepth 100000 in
theorem sh21_any (x y W H px py : Int) (Q T X Y L M b o n cap c : Nat) (v : Nat) (z : Nat → Nat) (amount least : Nat) (w : World) (hE : regE x y W H = 0) (hn4 : (n : Int) = 4 * W * H) (hn : n ≤ cap) (hn6 : n ≤ 65536) (hc : ∀ i, i < n → w.cell? ⟨b, o + i, none⟩ = some (.float .f32 (z i)))
    (hQ : FrC x y W H (some ⟨b, o, none⟩) n cap Q w) (hB : ShB Q T X Y L M px py least amount w) (x1 : -1048576 ≤ px) (x2 : px ≤ 1048576) (y1 : -1048576 ≤ py) (y2 : py ≤ 1048576) (hc3 : c < 3) :
    Calls Try.prog 80 #[.int .i64 c, .float .f32 v, .pointer (some ⟨T, 0, none⟩), .pointer (some ⟨X, 0, none⟩), .pointer (some ⟨Y, 0, none⟩), .pointer (some ⟨L, 0, none⟩), .pointer (some ⟨M, 0, none⟩)] w fun e w' =>
      ∃ r, e = .returned (.float .f32 r) ∧ cl .f32 r = shP v amount least (shV x y W H z px py c) ∧ Kept None' w w' := by
  have HA := fun (w' : World) (hk : Kept None' w w') (px py : Int) (x1 : -2097152 ≤ px) (x2 : px ≤ 2097152) (y1 : -2097152 ≤ py) (y2 : py ≤ 2097152) =>
    sh1_any x y W H px py Q b o n cap (shQ x y W H px py) c z w' hE hn hn6 (fun i hi => hk.some (hc i hi) id) (hQ.kept hk) x1 x2 y1 y2 (shQ_ok px py hE hn4).1 (shQ_ok px py hE hn4).2 hc3
  have HA := Lib.hid HA
  have HB := Lib.hid hB
  clear hc hQ hE hn4
  obtain ⟨a0, a1, a2, a3, a4⟩ := hB
  go_enter Try.func80, Try.ntmps80
  go_upto_region 2 with (first
    | (go_at_call 77; refine (HA.out _ (Kept.refl _ _) _ _ (by omega) (by omega) (by omega) (by omega)).mono ?_; rintro e w1 ⟨rfl, hk1⟩)
    | fail)
  go_wp2_with fail
  have HK1 := Lib.hid hk1
  clear hk1 a0 a1 a2 a3 a4
  go_loopw [10, 11] (fun t i wi => ∃ k r : Nat, k ≤ 8 ∧ i = .int .i64 (k + 1 : Nat) ∧ t = .float .f32 r ∧ cl .f32 r = shSum (shV x y W H z px py c) (k + 1) ∧ Kept None' w wi) (fun _ i _ => 9 - (intOf i).toNat)
  case atStart => 
    refine ⟨0, _, by omega, rfl, rfl, ?_, HK1.out⟩
    show cl .f32 _ = cl .f32 (shV x y W H z px py c 0)
    unfold shV zq
    simp
  case round =>
    obtain ⟨k, r, hk, rfl, rfl, hr, kk⟩ := hrel
    obtain ⟨a0, a1, a2, a3, a4⟩ := HB.out.kept kk
    have HI := Lib.hid (And.intro hr kk)
    clear hr kk
    by_cases hlt : k < 8
    · have d1 : decide (((k + 1 : Nat) : Int) < 9) = true := by simp; omega
      go_wp2_with (first
        | (go_at_call 77; refine (HA.out _ HI.out.2 _ _ (by omega) (by omega) (by omega) (by omega)).mono ?_; rintro e w2 ⟨rfl, hk2⟩)
        | fail)
      go_roundw
      case rel =>
        refine ⟨k + 1, _, by omega, by go_num, rfl, ?_, (HI.out.2.trans hk2).drew _⟩
        rw [cl_fV', fC_l HI.out.1]
        rfl
      case measure => simp [intOf]; omega
    · obtain rfl : k = 8 := by omega
      have d1 : decide (((8 + 1 : Nat) : Int) < 9) = false := by simp
      go_upto_region 7 with (fail)
      refine of_world (fun W2 hW => ?_)
      obtain ⟨d, hd⟩ : ∃ u, fV .sub .f32 v (fV .quo .f32 r 1091567616 wr) (wr.drewN (fN .quo .f32 r 1091567616)) = u := ⟨_, rfl⟩
      have hdc : cl .f32 d = shD v (shV x y W H z px py c) := by
        rw [← hd, cl_fV', fC_fV_r, fC_l HI.out.1]
        rfl
      have k2 : Kept None' w W2 := by rw [hW]; exact HI.out.2.drew _
      simp only [hd]
      have A3 := ext_cell (HB.out.kept k2).2.2.2.1
      have hlt' : (FloatKind.f32.format.order (absN d) least == some .lt) = ltA (shD v (shV x y W H z px py c)) least := by
        rw [← hdc, ltA_cl, absN_lt]
      have HD := Lib.hid (And.intro hdc k2)
      clear hd hdc k2 hW a0 a1 a2 a3 a4
      cases hl : ltA (shD v (shV x y W H z px py c)) least with
      | true =>
        rw [hl] at hlt'
        have hP : cl .f32 v = shP v amount least (shV x y W H z px py c) := by unfold shP; rw [hl, if_pos rfl]
        have HP := Lib.hid hP
        clear hP hl
        refine region_ext (by kernel_rfl) (by kernel_rfl) ?_
        repeat (first
          | go_big_quiet_skip
          | (go_big_quiet_want; go_big_quiet_op; first | go_big_quiet_on | go_big_quiet_call (first
            | (go_at_call 81; exact calls_ext_drew (numabs_any _ _)))))
        refine wpQuiet_nil ?_
        rintro _ ⟨xq, rfl⟩
        have K3 := Lib.hid (HD.out.2.trans (ext_kept W2 xq))
        clear A3
        generalize ext W2 xq = W3 at *
        go_wp2_with fail
        go_ret
        exact ⟨_, rfl, HP.out, K3.out⟩
      | false =>
        rw [hl] at hlt'
        have hP : ∀ w1 w2, cl .f32 (fV .add .f32 v (fV .mul .f32 d amount w1) w2) = shP v amount least (shV x y W H z px py c) := by
          intro w1 w2
          unfold shP; rw [hl, if_neg Bool.false_ne_true, cl_fV', fC_fV_r, fC_l HD.out.1]
        have HP := Lib.hid hP
        clear hP hl
        refine region_ext (by kernel_rfl) (by kernel_rfl) ?_
        repeat (first
          | go_big_quiet_skip
          | (go_big_quiet_want; go_big_quiet_op; first | go_big_quiet_on | go_big_quiet_call (first
            | (go_at_call 81; exact calls_ext_drew (numabs_any _ _)))))
        refine wpQuiet_nil ?_
        rintro _ ⟨xq, rfl⟩
        have a4 := (HB.out.kept (HD.out.2.trans (ext_kept W2 xq))).2.2.2.2
        have K3 := Lib.hid (HD.out.2.trans (ext_kept W2 xq))
        clear A3
        generalize ext W2 xq = W3 at *
        go_wp2_with fail
        go_ret
        exact ⟨_, rfl, HP.out _ _, K3.out.drew _⟩
def shF (x y W H : Int) (z : Nat → Nat) (amount least : Nat) (px py : Int) (p : Nat → Nat) (c : Nat) : Nat := if c = 3 then cl .f32 (p 3) else shP (p c) amount least (shV x y W H z px py c)
theorem cl_shF (x y W H : Int) (z : Nat → Nat) (amount least : Nat) (px py : Int) (p : Nat → Nat) (c : Nat) : cl .f32 (shF x y W H z amount least px py p c) = shF x y W H z amount least px py p c := by
  unfold shF
  split
  · exact cl_cl _ _
  · exact cl_shP _ _ _ _

theorem three_sharp (x y W H px py : Int) (Q T X Y L M b o n cap : Nat) (z : Nat → Nat) (amount least : Nat) (p : Nat → Nat) (w : World) (hE : regE x y W H = 0) (hn4 : (n : Int) = 4 * W * H) (hn : n ≤ cap) (hn6 : n ≤ 65536) (hc : ∀ i, i < n → w.cell? ⟨b, o + i, none⟩ = some (.float .f32 (z i)))
    (hQ : FrC x y W H (some ⟨b, o, none⟩) n cap Q w) (hB : ShB Q T X Y L M px py least amount w) (x1 : -1048576 ≤ px) (x2 : px ≤ 1048576) (y1 : -1048576 ≤ py) (y2 : py ≤ 1048576) :
    Calls Try.prog 66 #[.agg #[.float .f32 (p 0), .float .f32 (p 1), .float .f32 (p 2), .float .f32 (p 3)], .func (.func 80) #[] #[.pointer (some ⟨T, 0, none⟩), .pointer (some ⟨X, 0, none⟩), .pointer (some ⟨Y, 0, none⟩), .pointer (some ⟨L, 0, none⟩), .pointer (some ⟨M, 0, none⟩)]] w fun e w' =>
      e = .returned (.agg #[.float .f32 (shF x y W H z amount least px py p 0), .float .f32 (shF x y W H z amount least px py p 1), .float .f32 (shF x y W H z amount least px py p 2), .float .f32 (shF x y W H z amount least px py p 3)]) ∧ Kept None' w w' :=
  three_pxK (p 0) (p 1) (p 2) (p 3) 80 #[.pointer (some ⟨T, 0, none⟩), .pointer (some ⟨X, 0, none⟩), .pointer (some ⟨Y, 0, none⟩), .pointer (some ⟨L, 0, none⟩), .pointer (some ⟨M, 0, none⟩)] (fun c v => shP v amount least (shV x y W H z px py c.toNat)) w Try.call80
    (fun c v wr h0 h3 hk => by
      obtain ⟨c, rfl⟩ := Int.eq_ofNat_of_zero_le h0
      exact sh21_any x y W H px py Q T X Y L M b o n cap c v z amount least wr hE hn4 hn hn6 (fun i hi => hk.some (hc i hi) id) (hQ.kept hk) (hB.kept hk) x1 x2 y1 y2 (by omega))

set_option linter.unusedSimpArgs false in
set_option linter.unusedVariables false in
set_option maxHeartbeats 2000000 in
set_option maxRecDepth 100000 in
theorem sh2_any (x y W H px py : Int) (Q T L M b o n cap : Nat) (z : Nat → Nat) (amount least : Nat) (p : Nat → Nat) (w : World) (hE : regE x y W H = 0) (hn4 : (n : Int) = 4 * W * H) (hn : n ≤ cap) (hn6 : n ≤ 65536) (hc : ∀ i, i < n → w.cell? ⟨b, o + i, none⟩ = some (.float .f32 (z i)))
    (hQ : FrC x y W H (some ⟨b, o, none⟩) n cap Q w) (hT : w.cell? ⟨T, 0, none⟩ = some (.func (.func 77) #[] #[.pointer (some ⟨Q, 0, none⟩)])) (hL : w.cell? ⟨L, 0, none⟩ = some (.float .f32 least)) (hM : w.cell? ⟨M, 0, none⟩ = some (.float .f32 amount))
    (x1 : -1048576 ≤ px) (x2 : px ≤ 1048576) (y1 : -1048576 ≤ py) (y2 : py ≤ 1048576) :
    Calls Try.prog 79 #[.int .i64 px, .int .i64 py, .agg #[.float .f32 (p 0), .float .f32 (p 1), .float .f32 (p 2), .float .f32 (p 3)], .pointer (some ⟨T, 0, none⟩), .pointer (some ⟨L, 0, none⟩), .pointer (some ⟨M, 0, none⟩)] w fun e w' =>
      e = .returned (.agg #[.float .f32 (shF x y W H z amount least px py p 0), .float .f32 (shF x y W H z amount least px py p 1), .float .f32 (shF x y W H z amount least px py p 2), .float .f32 (shF x y W H z amount least px py p 3)]) ∧ Kept None' w w' := by
  have H3 := fun (w' : World) (hk : Kept None' w w') (X Y : Nat) (hB : ShB Q T X Y L M px py least amount w') => three_sharp x y W H px py Q T X Y L M b o n cap z amount least p w' hE hn4 hn hn6 (fun i hi => hk.some (hc i hi) id) (hQ.kept hk) hB x1 x2 y1 y2
  have H3 := Lib.hid H3
  have HT := Lib.hid (And.intro hT (And.intro hL hM))
  clear hc hQ hE hn4 hT hL hM
  generalize shF x y W H z amount least px py p 0 = g0 at *
  generalize shF x y W H z amount least px py p 1 = g1 at *
  generalize shF x y W H z amount least px py p 2 = g2 at *
  generalize shF x y W H z amount least px py p 3 = g3 at *
  go_enter Try.func79, Try.ntmps79
  go_upto_region 1 with (fail)
  refine of_world (fun W0 hW => ?_)
  have k0 : Kept None' w W0 := by rw [hW]; exact ((((Kept.refl None' w).alloc _ _).alloc _ _).alloc _ _).alloc _ _
  have u0 : W0.cell? ⟨w.heap.size, 0, none⟩ = some (.int .i64 px) := by rw [hW]; go_simp
  have u1 : W0.cell? ⟨w.heap.size + 1, 0, none⟩ = some (.int .i64 py) := by rw [hW]; go_simp
  have b0 : W0.cell? ⟨w.heap.size + 1 + 1, 0, none⟩ = some (.float .f32 (p 0)) := by rw [hW]; go_simp
  have b1 : W0.cell? ⟨w.heap.size + 1 + 1, 1, none⟩ = some (.float .f32 (p 1)) := by rw [hW]; go_simp
  have b2 : W0.cell? ⟨w.heap.size + 1 + 1, 2, none⟩ = some (.float .f32 (p 2)) := by rw [hW]; go_simp
  have b3 : W0.cell? ⟨w.heap.size + 1 + 1, 3, none⟩ = some (.float .f32 (p 3)) := by rw [hW]; go_simp
  have s0 : W0.cell? ⟨w.heap.size + 1 + 1 + 1, 0, none⟩ = some (.float .f32 0) := by rw [hW]; go_simp
  have s1 : W0.cell? ⟨w.heap.size + 1 + 1 + 1, 1, none⟩ = some (.float .f32 0) := by rw [hW]; go_simp
  have s2 : W0.cell? ⟨w.heap.size + 1 + 1 + 1, 2, none⟩ = some (.float .f32 0) := by rw [hW]; go_simp
  have s3 : W0.cell? ⟨w.heap.size + 1 + 1 + 1, 3, none⟩ = some (.float .f32 0) := by rw [hW]; go_simp
  have zz : ∀ a : Addr, w.heap.size ≤ a.block → W0.frozen? a = false := fun a ha => by rw [hW]; exact (frozen?_alloc_cells _ _ _ _).trans ((frozen?_alloc_cells _ _ _ _).trans ((frozen?_alloc_cells _ _ _ _).trans ((frozen?_alloc_cells _ _ _ _).trans (frozen_new _ _ ha))))
  have hB : ShB Q T w.heap.size (w.heap.size + 1) L M px py least amount W0 := ⟨k0.some HT.out.1 id, u0, u1, k0.some HT.out.2.1 id, k0.some HT.out.2.2 id⟩
  have Z0 := Lib.hid zz
  have K0 := Lib.hid k0
  have HB := Lib.hid hB
  clear hW zz k0 hB u0 u1
  go_wp2_with (first
    | (go_at_call 66; refine (H3.out _ K0.out _ _ HB.out).mono ?_; rintro e w4 ⟨rfl, hk4⟩
       have r0 := hk4.some s0 id
       have r1 := hk4.some s1 id
       have r2 := hk4.some s2 id
       have r3 := hk4.some s3 id
       have z0 := (hk4.frozen ⟨w.heap.size + 1 + 1 + 1, 0, none⟩).trans (Z0.out ⟨w.heap.size + 1 + 1 + 1, 0, none⟩ (by simp; omega))
       have z1 := (hk4.frozen ⟨w.heap.size + 1 + 1 + 1, 1, none⟩).trans (Z0.out ⟨w.heap.size + 1 + 1 + 1, 1, none⟩ (by simp; omega))
       have z2 := (hk4.frozen ⟨w.heap.size + 1 + 1 + 1, 2, none⟩).trans (Z0.out ⟨w.heap.size + 1 + 1 + 1, 2, none⟩ (by simp; omega))
       have z3 := (hk4.frozen ⟨w.heap.size + 1 + 1 + 1, 3, none⟩).trans (Z0.out ⟨w.heap.size + 1 + 1 + 1, 3, none⟩ (by simp; omega))
       have K4 := Lib.hid (K0.out.trans hk4)
       clear hk4 s0 s1 s2 s3)
    | fail)
  have cs := cells_set4 (v0 := .float .f32 g0) (v1 := .float .f32 g1) (v2 := .float .f32 g2) (v3 := .float .f32 g3) r0 r1 r2 r3
  refine bodyPost_ret (px_ret Try.results79 _ _ (w.heap.size + 1 + 1 + 1) _ _ _ _ cs.1 cs.2.1 cs.2.2.1 cs.2.2.2 rfl) rfl ?_
  exact ⟨rfl, kept_set4 K4.out (by omega)⟩

theorem sh_maps (x y W H : Int) (Q T L M b o n cap : Nat) (z : Nat → Nat) (amount least : Nat) (w : World) (hE : regE x y W H = 0) (hn4 : (n : Int) = 4 * W * H) (hn : n ≤ cap) (hn6 : n ≤ 65536) (hc : ∀ i, i < n → w.cell? ⟨b, o + i, none⟩ = some (.float .f32 (z i)))
    (hQ : FrC x y W H (some ⟨b, o, none⟩) n cap Q w) (hT : w.cell? ⟨T, 0, none⟩ = some (.func (.func 77) #[] #[.pointer (some ⟨Q, 0, none⟩)])) (hL : w.cell? ⟨L, 0, none⟩ = some (.float .f32 least)) (hM : w.cell? ⟨M, 0, none⟩ = some (.float .f32 amount)) :
    Maps 79 #[.pointer (some ⟨T, 0, none⟩), .pointer (some ⟨L, 0, none⟩), .pointer (some ⟨M, 0, none⟩)] (shF x y W H z amount least) w := fun px py p wr hk x1 x2 y1 y2 =>
  (sh2_any x y W H px py Q T L M b o n cap z amount least p wr hE hn4 hn hn6 (fun i hi => hk.some (hc i hi) id) (hQ.kept hk) (hk.some hT id) (hk.some hL id) (hk.some hM id) x1 x2 y1 y2).mono
    fun _ _ ⟨a, b⟩ => ⟨shF x y W H z amount least px py p, a, fun c _ => cl_shF x y W H z amount least px py p c, b⟩
end Go.Proofs.Ytfphhlodfieopaa
