/- The function that SharpensAsSaid makes a frame of. Conditions: none. -/
import Derived.Test.YtfphhlodfieopaaSk
import Derived.Test.YtfphhlodfieopaaMd
namespace Go.Proofs.Ytfphhlodfieopaa
open Go.RowKit
open Fl Fr
open BigFrame

def smF (x y W H : Int) (z : Nat → Nat) (am le : Nat) (px py : Int) (c : Nat) : Nat := shF x y W H z am le px py (fun c => z (4 * ((py - y) * W + px - x).toNat + c)) c

set_option linter.unusedSimpArgs false in
set_option linter.unusedVariables false in
set_option maxHeartbeats 4000000 in
set_option maxRecDepth 100000 in
theorem sm2_any (x y W H px py : Int) (Q T M L b o n cap : Nat) (z : Nat → Nat) (am le : Nat) (w : World) (hE : regE x y W H = 0) (hn4 : (n : Int) = 4 * W * H) (hn : n ≤ cap) (hn6 : n ≤ 65536) (hc : ∀ i, i < n → w.cell? ⟨b, o + i, none⟩ = some (.float .f32 (z i)))
    (hQ : FrC x y W H (some ⟨b, o, none⟩) n cap Q w) (hT : w.cell? ⟨T, 0, none⟩ = some (.func (.func 34) #[] #[.pointer (some ⟨Q, 0, none⟩)])) (hM : w.cell? ⟨M, 0, none⟩ = some (.float .f32 am)) (hL : w.cell? ⟨L, 0, none⟩ = some (.float .f32 le))
    (x1 : x ≤ px) (x2 : px < x + W) (y1 : y ≤ py) (y2 : py < y + H) :
    Calls Try.prog 39 #[.int .i64 px, .int .i64 py, .pointer (some ⟨T, 0, none⟩), .pointer (some ⟨M, 0, none⟩), .pointer (some ⟨L, 0, none⟩)] w fun e w' =>
      e = .returned (.agg #[.float .f32 (smF x y W H z am le px py 0), .float .f32 (smF x y W H z am le px py 1), .float .f32 (smF x y W H z am le px py 2), .float .f32 (smF x y W H z am le px py 3)]) ∧ Kept None' w w' := by
  obtain ⟨bx1, bx2, by1, by2⟩ := regE_place hE
  obtain ⟨w1', w2', w3', w4', w5'⟩ := regE_ok hE
  have hq : shQ x y W H px py = 4 * ((py - y) * W + px - x).toNat := by unfold shQ; rw [cpl_in x1 x2, cpl_in y1 y2]
  have HO := fun (w' : World) (hk : Kept None' w w') => sharpof_any x y W H px py Q b o n cap z am le w' hE hn4 hn hn6 (fun i hi => hk.some (hc i hi) id) (hQ.kept hk) (by omega) (by omega) (by omega) (by omega)
  have f0 : smF x y W H z am le px py 0 = shP (zq z (shQ x y W H px py) 0) am le (shV x y W H z px py 0) := by unfold smF shF; rw [if_neg (by decide), ← hq]; rfl
  have f1 : smF x y W H z am le px py 1 = shP (zq z (shQ x y W H px py) 1) am le (shV x y W H z px py 1) := by unfold smF shF; rw [if_neg (by decide), ← hq]; rfl
  have f2 : smF x y W H z am le px py 2 = shP (zq z (shQ x y W H px py) 2) am le (shV x y W H z px py 2) := by unfold smF shF; rw [if_neg (by decide), ← hq]; rfl
  have f3 : smF x y W H z am le px py 3 = cl .f32 (zq z (shQ x y W H px py) 3) := by unfold smF shF; rw [if_pos rfl, ← hq]; rfl
  rw [← f0, ← f1, ← f2, ← f3] at HO
  generalize smF x y W H z am le px py 0 = g0 at *
  generalize smF x y W H z am le px py 1 = g1 at *
  generalize smF x y W H z am le px py 2 = g2 at *
  generalize smF x y W H z am le px py 3 = g3 at *
  have HO := Lib.hid HO
  clear hc hQ hE hn4 hq f0 f1 f2 f3
  go_enter Try.func39, Try.ntmps39
  go_upto_region 1 with (fail)
  refine of_world (fun W0 hW => ?_)
  have k0 : Kept None' w W0 := by rw [hW]; exact (Kept.refl None' w).alloc _ _
  have s0 : W0.cell? ⟨w.heap.size, 0, none⟩ = some (.float .f32 0) := by rw [hW]; go_simp
  have s1 : W0.cell? ⟨w.heap.size, 1, none⟩ = some (.float .f32 0) := by rw [hW]; go_simp
  have s2 : W0.cell? ⟨w.heap.size, 2, none⟩ = some (.float .f32 0) := by rw [hW]; go_simp
  have s3 : W0.cell? ⟨w.heap.size, 3, none⟩ = some (.float .f32 0) := by rw [hW]; go_simp
  have zz : ∀ a : Addr, w.heap.size ≤ a.block → W0.frozen? a = false := fun a ha => by rw [hW]; exact (frozen?_alloc_cells _ _ _ _).trans (frozen_new _ _ ha)
  have hT := k0.some hT id
  have hM := k0.some hM id
  have hL := k0.some hL id
  have Z0 := Lib.hid zz
  have K0 := Lib.hid k0
  clear hW zz k0
  go_wp2_with (first
    | (go_at_call 40; refine (HO.out _ K0.out).mono ?_; rintro e w4 ⟨rfl, hk4⟩
       have r0 := hk4.some s0 id
       have r1 := hk4.some s1 id
       have r2 := hk4.some s2 id
       have r3 := hk4.some s3 id
       have z0 := (hk4.frozen ⟨w.heap.size, 0, none⟩).trans (Z0.out ⟨w.heap.size, 0, none⟩ (by simp))
       have z1 := (hk4.frozen ⟨w.heap.size, 1, none⟩).trans (Z0.out ⟨w.heap.size, 1, none⟩ (by simp))
       have z2 := (hk4.frozen ⟨w.heap.size, 2, none⟩).trans (Z0.out ⟨w.heap.size, 2, none⟩ (by simp))
       have z3 := (hk4.frozen ⟨w.heap.size, 3, none⟩).trans (Z0.out ⟨w.heap.size, 3, none⟩ (by simp))
       have K4 := Lib.hid (K0.out.trans hk4)
       clear hk4 s0 s1 s2 s3)
    | fail)
  have cs := cells_set4 (v0 := .float .f32 g0) (v1 := .float .f32 g1) (v2 := .float .f32 g2) (v3 := .float .f32 g3) r0 r1 r2 r3
  refine bodyPost_ret (px_ret Try.results39 _ _ w.heap.size _ _ _ _ cs.1 cs.2.1 cs.2.2.1 cs.2.2.2 rfl) rfl ?_
  exact ⟨rfl, kept_set4 K4.out (by omega)⟩

theorem sm_mades (x y W H : Int) (Q T M L b o n cap : Nat) (z : Nat → Nat) (am le : Nat) (w : World) (hE : regE x y W H = 0) (hn4 : (n : Int) = 4 * W * H) (hn : n ≤ cap) (hn6 : n ≤ 65536) (hc : ∀ i, i < n → w.cell? ⟨b, o + i, none⟩ = some (.float .f32 (z i)))
    (hQ : FrC x y W H (some ⟨b, o, none⟩) n cap Q w) (hT : w.cell? ⟨T, 0, none⟩ = some (.func (.func 34) #[] #[.pointer (some ⟨Q, 0, none⟩)])) (hM : w.cell? ⟨M, 0, none⟩ = some (.float .f32 am)) (hL : w.cell? ⟨L, 0, none⟩ = some (.float .f32 le)) :
    Mades 39 #[.pointer (some ⟨T, 0, none⟩), .pointer (some ⟨M, 0, none⟩), .pointer (some ⟨L, 0, none⟩)] (smF x y W H z am le) x y W H w := fun px py wr hk x1 x2 y1 y2 =>
  (sm2_any x y W H px py Q T M L b o n cap z am le wr hE hn4 hn hn6 (fun i hi => hk.some (hc i hi) id) (hQ.kept hk) (hk.some hT id) (hk.some hM id) (hk.some hL id) x1 x2 y1 y2).mono
    fun _ _ ⟨a, b⟩ => ⟨smF x y W H z am le px py, a, fun c _ => cl_shF x y W H z am le px py _ c, b⟩

theorem sm_same (x y : Int) (W : Nat) (H : Int) (z : Nat → Nat) (am le j : Nat) : madeG (smF x y W H z am le) x y W j = mapG (shF x y W H z am le) x y W z j := by
  unfold madeG mapG smF
  have h : ((y + ((j / 4 : Nat) : Int) / (W : Int) - y) * (W : Int) + (x + ((j / 4 : Nat) : Int) % (W : Int)) - x).toNat = j / 4 := by
    have h1 := Int.mul_ediv_add_emod ((j / 4 : Nat) : Int) (W : Int)
    rw [Int.mul_comm] at h1
    have h2 : y + ((j / 4 : Nat) : Int) / (W : Int) - y = ((j / 4 : Nat) : Int) / (W : Int) := by omega
    rw [h2]
    generalize ((j / 4 : Nat) : Int) / (W : Int) * (W : Int) = T at *
    generalize ((j / 4 : Nat) : Int) % (W : Int) = U at *
    omega
  rw [h]
theorem sm_made (x y : Int) (W H : Nat) (Q T M L b o n cap : Nat) (z : Nat → Nat) (am le : Nat) (w : World) (hE : regE x y W H = 0) (hn4 : (n : Int) = 4 * W * H) (hn : n ≤ cap) (hn6 : n ≤ 65536) (hc : ∀ i, i < n → w.cell? ⟨b, o + i, none⟩ = some (.float .f32 (z i)))
    (hQ : FrC x y W H (some ⟨b, o, none⟩) n cap Q w) (hT : w.cell? ⟨T, 0, none⟩ = some (.func (.func 34) #[] #[.pointer (some ⟨Q, 0, none⟩)])) (hM : w.cell? ⟨M, 0, none⟩ = some (.float .f32 am)) (hL : w.cell? ⟨L, 0, none⟩ = some (.float .f32 le)) :
    Calls Try.prog 38 #[.agg #[.int .i64 x, .int .i64 y, .int .i64 W, .int .i64 H], .func (.func 39) #[] #[.pointer (some ⟨T, 0, none⟩), .pointer (some ⟨M, 0, none⟩), .pointer (some ⟨L, 0, none⟩)]] w (FrMade x y W H n (mapG (shF x y W H z am le) x y W z) w) := by
  have hnn : n = 4 * (W * H) := by
    have h1 : ((4 * (W * H) : Nat) : Int) = 4 * W * H := by rw [Int.natCast_mul, Int.natCast_mul, Int.mul_assoc]; rfl
    omega
  have hM := made_gen x y W H 39 #[.pointer (some ⟨T, 0, none⟩), .pointer (some ⟨M, 0, none⟩), .pointer (some ⟨L, 0, none⟩)] (smF x y W H z am le) w hE Try.call39
    (sm_mades x y W H Q T M L b o n cap z am le w hE hn4 hn hn6 hc hQ hT hM hL)
  rw [← hnn] at hM
  exact hM.mono fun _ _ ⟨B, c, h1, h2, h3, h4⟩ => ⟨B, c, h1, h2, h3, fun j hj => by rw [h4 j hj, sm_same]⟩
end Go.Proofs.Ytfphhlodfieopaa
