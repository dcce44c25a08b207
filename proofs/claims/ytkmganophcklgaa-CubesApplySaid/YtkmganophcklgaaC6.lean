/- The contracts of cube.Smoothed and SmoothedOf. Conditions: none. -/
import Derived.Test.YtkmganophcklgaaC5
import Derived.Laws.EntriesVeiled
namespace Go.Proofs.Ytkmganophcklgaa
open Go.RowKit
open Fl Fr
open BigFrame

/-- The entries of a cube as a function of places. -/
def entE (z : Nat → Nat) (S : Int) (i j k : Int) (c : Nat) : Nat := z (cuK S i j k + c)
def entF (z : Nat → Nat) (S : Int) (i j k : Int) (c : Nat) : Nat := cl .f32 (entE z S i j k c)
/-- The singles of the cube that has been smoothed t times. -/
def smG (z : Nat → Nat) (S : Nat) : Nat → Nat → Nat
  | 0 => cubG (entF z S) S
  | t + 1 => cubG (smF (entE (smG z S t) S) S) S
theorem cub_n {S : Nat} : ((3 * (S * (S * S)) : Nat) : Int) = 3 * (S : Int) * S * S := by
  rw [CbS.size3]; simp
theorem entry_E (S : Int) (lo hi : Nat) (b o n cap : Nat) (z : Nat → Nat) (w : World) (hn : (n : Int) = 3 * S * S * S) (s1 : 2 ≤ S) (s2 : S ≤ 17) (hc : ∀ q, q < n → w.cell? ⟨b, o + q, none⟩ = some (.float .f32 (z q))) (hcap : n ≤ cap) :
    ∀ (x y u : Int) (wr : World), Kept None' w wr → 0 ≤ x → x < S → 0 ≤ y → y < S → 0 ≤ u → u < S → Calls Try.prog 71 #[.agg #[.int .i64 S, .float .f32 lo, .float .f32 hi, .slice (some ⟨b, o, none⟩) n cap], .int .i64 x, .int .i64 y, .int .i64 u] wr fun e w' =>
      e = .returned (.agg #[.float .f32 (entE z S x y u 0), .float .f32 (entE z S x y u 1), .float .f32 (entE z S x y u 2)]) ∧ Kept None' wr w' :=
  fun x y u wr hk x0 x1 y0 y1 u0 u1 => entry_any S lo hi b o n cap z x y u wr hn s1 s2 x0 x1 y0 y1 u0 u1 (fun q hq => hk.some (hc q hq) id) hcap
theorem entryof_E (S : Int) (lo hi : Nat) (b o n cap : Nat) (z : Nat → Nat) (w : World) (hn : (n : Int) = 3 * S * S * S) (s1 : 2 ≤ S) (s2 : S ≤ 17) (hc : ∀ q, q < n → w.cell? ⟨b, o + q, none⟩ = some (.float .f32 (z q))) (hcap : n ≤ cap) :
    ∀ (x y u : Int) (wr : World), Kept None' w wr → 0 ≤ x → x < S → 0 ≤ y → y < S → 0 ≤ u → u < S → Calls Try.prog 20 #[.agg #[.int .i64 S, .float .f32 lo, .float .f32 hi, .slice (some ⟨b, o, none⟩) n cap], .int .i64 x, .int .i64 y, .int .i64 u] wr fun e w' =>
      e = .returned (.agg #[.float .f32 (entF z S x y u 0), .float .f32 (entF z S x y u 1), .float .f32 (entF z S x y u 2)]) ∧ Kept None' wr w' :=
  fun x y u wr hk x0 x1 y0 y1 u0 u1 => entryof_any S lo hi b o n cap z x y u wr hn s1 s2 x0 x1 y0 y1 u0 u1 (fun q hq => hk.some (hc q hq) id) hcap

/-- Three singles that are known up to which NaN. -/
def Thr (F : Nat → Nat) (w : World) (e : Ending) (w' : World) : Prop := ∃ r : Nat → Nat, e = .returned (.agg #[.float .f32 (r 0), .float .f32 (r 1), .float .f32 (r 2)]) ∧ (∀ c, c < 3 → cl .f32 (r c) = F c) ∧ Kept None' w w'

set_option linter.unusedSimpArgs false in
set_option linter.unusedVariables false in
set_option maxHeartbeats 4000000 in
set_option maxRecDepth 100000 in
theorem smoothed1_any (i j k : Int) (S : Int) (lo hi b o n cap T : Nat) (F : Nat → Nat) (w : World) (hB : CubB T S lo hi b o n cap w)
    (hC : ∀ wr, Kept None' w wr → Calls Try.prog 71 #[.agg #[.int .i64 S, .float .f32 lo, .float .f32 hi, .slice (some ⟨b, o, none⟩) n cap], .int .i64 i, .int .i64 j, .int .i64 k] wr (Thr F wr)) :
    Calls Try.prog 70 #[.int .i64 i, .int .i64 j, .int .i64 k, .pointer (some ⟨T, 0, none⟩)] w (Thr F w) := by
  have HC := Lib.hid hC
  have HB := Lib.hid hB
  clear hC hB
  go_enter Try.func70, Try.ntmps70
  go_upto_region 1 with (fail)
  refine of_world (fun W0 hW => ?_)
  have k0 : Kept None' w W0 := by rw [hW]; exact (Kept.refl None' w).alloc _ _
  have r0 : W0.cell? ⟨w.heap.size, 0, none⟩ = some (.float .f32 0) := by rw [hW]; go_simp
  have r1 : W0.cell? ⟨w.heap.size, 1, none⟩ = some (.float .f32 0) := by rw [hW]; go_simp
  have r2 : W0.cell? ⟨w.heap.size, 2, none⟩ = some (.float .f32 0) := by rw [hW]; go_simp
  have zz : ∀ c, W0.frozen? ⟨w.heap.size, c, none⟩ = false := fun c => by rw [hW]; exact (frozen?_alloc_cells _ _ _ _).trans (frozen_new _ _ (Nat.le_refl _))
  obtain ⟨t0, t1, t2, t3⟩ := HB.out.step k0 id
  have HR := Lib.hid (And.intro r0 (And.intro r1 (And.intro r2 zz)))
  have K0 := Lib.hid k0
  clear hW zz k0 r0 r1 r2
  go_wp2_with (first
    | (go_at_call 71; refine (HC.out _ K0.out).mono ?_; rintro e w1 ⟨r, rfl, hr, hk⟩; have HRR := Lib.hid hr; have r0 := hk.some HR.out.1 id; have r1 := hk.some HR.out.2.1 id; have r2 := hk.some HR.out.2.2.1 id; have z0 := (hk.frozen ⟨w.heap.size, 0, none⟩).trans (HR.out.2.2.2 0); have z1 := (hk.frozen ⟨w.heap.size, 1, none⟩).trans (HR.out.2.2.2 1); have z2 := (hk.frozen ⟨w.heap.size, 2, none⟩).trans (HR.out.2.2.2 2); have K1 := Lib.hid (K0.out.trans hk); clear hk hr))
  have cs := cells_set3 (v0 := .float .f32 (r 0)) (v1 := .float .f32 (r 1)) (v2 := .float .f32 (r 2)) r0 r1 r2
  refine bodyPost_ret (ar3_ret Try.results70 _ _ w.heap.size _ _ _ cs.1 cs.2.1 cs.2.2 rfl) rfl ?_
  exact ⟨r, rfl, HRR.out, kept_set3 K1.out (Nat.le_refl _)⟩
set_option linter.unusedSimpArgs false in
set_option linter.unusedVariables false in
set_option maxHeartbeats 4000000 in
set_option maxRecDepth 100000 in
theorem smoothed2_any (i j k : Int) (S : Int) (lo hi b o n cap T : Nat) (F : Nat → Nat) (w : World) (hB : CubB T S lo hi b o n cap w)
    (hC : ∀ wr, Kept None' w wr → Calls Try.prog 73 #[.agg #[.int .i64 S, .float .f32 lo, .float .f32 hi, .slice (some ⟨b, o, none⟩) n cap], .int .i64 i, .int .i64 j, .int .i64 k] wr (Thr F wr)) :
    Calls Try.prog 72 #[.int .i64 i, .int .i64 j, .int .i64 k, .pointer (some ⟨T, 0, none⟩)] w (Thr F w) := by
  have HC := Lib.hid hC
  have HB := Lib.hid hB
  clear hC hB
  go_enter Try.func72, Try.ntmps72
  go_upto_region 1 with (fail)
  refine of_world (fun W0 hW => ?_)
  have k0 : Kept None' w W0 := by rw [hW]; exact (Kept.refl None' w).alloc _ _
  have r0 : W0.cell? ⟨w.heap.size, 0, none⟩ = some (.float .f32 0) := by rw [hW]; go_simp
  have r1 : W0.cell? ⟨w.heap.size, 1, none⟩ = some (.float .f32 0) := by rw [hW]; go_simp
  have r2 : W0.cell? ⟨w.heap.size, 2, none⟩ = some (.float .f32 0) := by rw [hW]; go_simp
  have zz : ∀ c, W0.frozen? ⟨w.heap.size, c, none⟩ = false := fun c => by rw [hW]; exact (frozen?_alloc_cells _ _ _ _).trans (frozen_new _ _ (Nat.le_refl _))
  obtain ⟨t0, t1, t2, t3⟩ := HB.out.step k0 id
  have HR := Lib.hid (And.intro r0 (And.intro r1 (And.intro r2 zz)))
  have K0 := Lib.hid k0
  clear hW zz k0 r0 r1 r2
  go_wp2_with (first
    | (go_at_call 73; refine (HC.out _ K0.out).mono ?_; rintro e w1 ⟨r, rfl, hr, hk⟩; have HRR := Lib.hid hr; have r0 := hk.some HR.out.1 id; have r1 := hk.some HR.out.2.1 id; have r2 := hk.some HR.out.2.2.1 id; have z0 := (hk.frozen ⟨w.heap.size, 0, none⟩).trans (HR.out.2.2.2 0); have z1 := (hk.frozen ⟨w.heap.size, 1, none⟩).trans (HR.out.2.2.2 1); have z2 := (hk.frozen ⟨w.heap.size, 2, none⟩).trans (HR.out.2.2.2 2); have K1 := Lib.hid (K0.out.trans hk); clear hk hr))
  have cs := cells_set3 (v0 := .float .f32 (r 0)) (v1 := .float .f32 (r 1)) (v2 := .float .f32 (r 2)) r0 r1 r2
  refine bodyPost_ret (ar3_ret Try.results72 _ _ w.heap.size _ _ _ cs.1 cs.2.1 cs.2.2 rfl) rfl ?_
  exact ⟨r, rfl, HRR.out, kept_set3 K1.out (Nat.le_refl _)⟩

set_option linter.unusedSimpArgs false in
set_option linter.unusedVariables false in
set_option maxHeartbeats 4000000 in
set_option maxRecDepth 100000 in
theorem csmooth1_any (i j k : Int) (S : Int) (lo hi b o n cap T : Nat) (F : Nat → Nat) (w : World) (hB : CubB T S lo hi b o n cap w)
    (hC : ∀ wr, Kept None' w wr → Calls Try.prog 20 #[.agg #[.int .i64 S, .float .f32 lo, .float .f32 hi, .slice (some ⟨b, o, none⟩) n cap], .int .i64 i, .int .i64 j, .int .i64 k] wr (Thr F wr)) :
    Calls Try.prog 19 #[.int .i64 i, .int .i64 j, .int .i64 k, .pointer (some ⟨T, 0, none⟩)] w (Thr F w) := by
  have HC := Lib.hid hC
  have HB := Lib.hid hB
  clear hC hB
  go_enter Try.func19, Try.ntmps19
  go_upto_region 1 with (fail)
  refine of_world (fun W0 hW => ?_)
  have k0 : Kept None' w W0 := by rw [hW]; exact (Kept.refl None' w).alloc _ _
  have r0 : W0.cell? ⟨w.heap.size, 0, none⟩ = some (.float .f32 0) := by rw [hW]; go_simp
  have r1 : W0.cell? ⟨w.heap.size, 1, none⟩ = some (.float .f32 0) := by rw [hW]; go_simp
  have r2 : W0.cell? ⟨w.heap.size, 2, none⟩ = some (.float .f32 0) := by rw [hW]; go_simp
  have zz : ∀ c, W0.frozen? ⟨w.heap.size, c, none⟩ = false := fun c => by rw [hW]; exact (frozen?_alloc_cells _ _ _ _).trans (frozen_new _ _ (Nat.le_refl _))
  obtain ⟨t0, t1, t2, t3⟩ := HB.out.step k0 id
  have HR := Lib.hid (And.intro r0 (And.intro r1 (And.intro r2 zz)))
  have K0 := Lib.hid k0
  clear hW zz k0 r0 r1 r2
  go_wp2_with (first
    | (go_at_call 20; refine (HC.out _ K0.out).mono ?_; rintro e w1 ⟨r, rfl, hr, hk⟩; have HRR := Lib.hid hr; have r0 := hk.some HR.out.1 id; have r1 := hk.some HR.out.2.1 id; have r2 := hk.some HR.out.2.2.1 id; have z0 := (hk.frozen ⟨w.heap.size, 0, none⟩).trans (HR.out.2.2.2 0); have z1 := (hk.frozen ⟨w.heap.size, 1, none⟩).trans (HR.out.2.2.2 1); have z2 := (hk.frozen ⟨w.heap.size, 2, none⟩).trans (HR.out.2.2.2 2); have K1 := Lib.hid (K0.out.trans hk); clear hk hr))
  have cs := cells_set3 (v0 := .float .f32 (r 0)) (v1 := .float .f32 (r 1)) (v2 := .float .f32 (r 2)) r0 r1 r2
  refine bodyPost_ret (ar3_ret Try.results19 _ _ w.heap.size _ _ _ cs.1 cs.2.1 cs.2.2 rfl) rfl ?_
  exact ⟨r, rfl, HRR.out, kept_set3 K1.out (Nat.le_refl _)⟩


theorem smoothed1_gives (S : Nat) (lo hi b o n cap T : Nat) (z : Nat → Nat) (w : World) (hn : (n : Int) = 3 * (S : Int) * S * S) (s1 : 2 ≤ S) (s2 : S ≤ 17) (hB : CubB T S lo hi b o n cap w) (hc : ∀ q, q < n → w.cell? ⟨b, o + q, none⟩ = some (.float .f32 (z q))) (hcap : n ≤ cap) :
    Gives 70 #[.pointer (some ⟨T, 0, none⟩)] (entF z S) S w := fun i j k wr hk i0 i1 j0 j1 k0 k1 =>
  smoothed1_any i j k S lo hi b o n cap T _ wr (hB.step hk id) fun w' hk' => (entry_E S lo hi b o n cap z w hn (by omega) (by omega) hc hcap i j k w' (hk.trans hk') i0 i1 j0 j1 k0 k1).mono
    fun _ _ ⟨a, b⟩ => ⟨fun c => entE z S i j k c, a, fun _ _ => rfl, b⟩
theorem csmooth1_gives (S : Nat) (lo hi b o n cap T : Nat) (z : Nat → Nat) (w : World) (hn : (n : Int) = 3 * (S : Int) * S * S) (s1 : 2 ≤ S) (s2 : S ≤ 17) (hB : CubB T S lo hi b o n cap w) (hc : ∀ q, q < n → w.cell? ⟨b, o + q, none⟩ = some (.float .f32 (z q))) (hcap : n ≤ cap) :
    Gives 19 #[.pointer (some ⟨T, 0, none⟩)] (entF z S) S w := fun i j k wr hk i0 i1 j0 j1 k0 k1 =>
  csmooth1_any i j k S lo hi b o n cap T _ wr (hB.step hk id) fun w' hk' => (entryof_E S lo hi b o n cap z w hn (by omega) (by omega) hc hcap i j k w' (hk.trans hk') i0 i1 j0 j1 k0 k1).mono
    fun _ _ ⟨a, b⟩ => ⟨fun c => entF z S i j k c, a, fun _ _ => cl_cl _ _, b⟩
theorem smoothed2_gives (S : Nat) (lo hi b o n cap T : Nat) (z : Nat → Nat) (w : World) (hn : (n : Int) = 3 * (S : Int) * S * S) (s1 : 2 ≤ S) (s2 : S ≤ 17) (hB : CubB T S lo hi b o n cap w) (hc : ∀ q, q < n → w.cell? ⟨b, o + q, none⟩ = some (.float .f32 (z q))) (hcap : n ≤ cap) :
    Gives 72 #[.pointer (some ⟨T, 0, none⟩)] (smF (entE z S) S) S w := fun i j k wr hk i0 i1 j0 j1 k0 k1 =>
  smoothed2_any i j k S lo hi b o n cap T _ wr (hB.step hk id) fun w' hk' => soft_any S lo hi b o n cap (entE z S) i j k w' (by omega) (by omega) i0 i1 j0 j1 k0 k1
    (fun x y u w2 hk2 => entry_E S lo hi b o n cap z w hn (by omega) (by omega) hc hcap x y u w2 ((hk.trans hk').trans hk2))
theorem smoothedof1_gives (S : Nat) (lo hi b o n cap T : Nat) (z : Nat → Nat) (w : World) (hn : (n : Int) = 3 * (S : Int) * S * S) (s1 : 2 ≤ S) (s2 : S ≤ 17) (hB : CubB T S lo hi b o n cap w) (hc : ∀ q, q < n → w.cell? ⟨b, o + q, none⟩ = some (.float .f32 (z q))) (hcap : n ≤ cap) :
    Gives 76 #[.pointer (some ⟨T, 0, none⟩)] (smF (entE z S) S) S w := fun i j k wr hk i0 i1 j0 j1 k0 k1 =>
  (smoothedof1_any S lo hi b o n cap T (entF z S) i j k wr (by omega) (by omega) i0 i1 j0 j1 k0 k1 (hB.step hk id)
    (fun x y u w2 hk2 => entryof_E S lo hi b o n cap z w hn (by omega) (by omega) hc hcap x y u w2 (hk.trans hk2))).mono fun _ _ ⟨r, a, b, c⟩ => ⟨r, a, fun c' hc' => by rw [b c' hc']; exact smF_cl _ _ _ _ _ _, c⟩

set_option linter.unusedSimpArgs false in
set_option linter.unusedVariables false in
set_option maxHeartbeats 4000000 in
set_option maxRecDepth 100000 in
theorem smoothedof_any (S : Nat) (lo hi b o n cap : Nat) (z : Nat → Nat) (w : World) (hn : (n : Int) = 3 * (S : Int) * S * S) (s1 : 2 ≤ S) (s2 : S ≤ 17) (hc : ∀ q, q < n → w.cell? ⟨b, o + q, none⟩ = some (.float .f32 (z q))) (hcap : n ≤ cap) :
    Calls Try.prog 21 #[.agg #[.int .i64 S, .float .f32 lo, .float .f32 hi, .slice (some ⟨b, o, none⟩) n cap]] w (CuMade S lo hi (3 * (S * (S * S))) (cubG (smF (entE z S) S) S) w) := by
  have HC := Lib.hid hc
  clear hc
  have HN := Lib.hid hn
  clear hn
  go_enter Try.func21, Try.ntmps21
  go_upto_region 1 with (fail)
  refine of_world (fun W0 hW => ?_)
  have k0 : Kept None' w W0 := by rw [hW]; exact ((Kept.refl None' w).alloc _ _).alloc _ _
  have hB : CubB w.heap.size S lo hi b o n cap W0 := by rw [hW]; exact ⟨by go_simp, by go_simp, by go_simp, by go_simp⟩
  have r0 : W0.cell? ⟨w.heap.size + 1, 0, none⟩ = some (.int .i64 0) := by rw [hW]; go_simp
  have r1 : W0.cell? ⟨w.heap.size + 1, 1, none⟩ = some (.float .f32 0) := by rw [hW]; go_simp
  have r2 : W0.cell? ⟨w.heap.size + 1, 2, none⟩ = some (.float .f32 0) := by rw [hW]; go_simp
  have r3 : W0.cell? ⟨w.heap.size + 1, 3, none⟩ = some (.slice none 0 0) := by rw [hW]; go_simp
  have zz : ∀ c, W0.frozen? ⟨w.heap.size + 1, c, none⟩ = false := fun c => by rw [hW]; exact (frozen?_alloc_cells _ _ _ _).trans ((frozen?_alloc_cells _ _ _ _).trans (frozen_new _ _ (by simp)))
  have hsz : W0.heap.size = w.heap.size + 2 := by rw [hW]; simp
  have hg := smoothedof1_gives S lo hi b o n cap w.heap.size z W0 HN.out s1 s2 hB (fun q hq => k0.some (HC.out q hq) id) hcap
  obtain ⟨t0, t1, t2, t3⟩ := hB
  have HG := Lib.hid hg
  have HR := Lib.hid (And.intro r0 (And.intro r1 (And.intro r2 (And.intro r3 (And.intro zz hsz)))))
  have K0 := Lib.hid k0
  clear hW zz k0 r0 r1 r2 r3 hsz hg
  go_wp2_with (first
    | (go_at_call 18; refine (madeof_gen S lo hi 76 #[.pointer (some ⟨w.heap.size, 0, none⟩)] _ W0 s1 s2 Try.call76 HG.out).mono ?_; rintro e w1 ⟨B, cap', hB, rfl, hcp, hcp2, hk, hc⟩; have HX := Lib.hid (And.intro hB (And.intro hcp (And.intro hcp2 hc))); have r0 := hk.some HR.out.1 id; have r1 := hk.some HR.out.2.1 id; have r2 := hk.some HR.out.2.2.1 id; have r3 := hk.some HR.out.2.2.2.1 id; have z0 := (hk.frozen ⟨w.heap.size + 1, 0, none⟩).trans (HR.out.2.2.2.2.1 0); have z1 := (hk.frozen ⟨w.heap.size + 1, 1, none⟩).trans (HR.out.2.2.2.2.1 1); have z2 := (hk.frozen ⟨w.heap.size + 1, 2, none⟩).trans (HR.out.2.2.2.2.1 2); have z3 := (hk.frozen ⟨w.heap.size + 1, 3, none⟩).trans (HR.out.2.2.2.2.1 3); have K1 := Lib.hid (K0.out.trans hk); clear hk hc hB hcp hcp2))
  have cs := cells_set4 (v0 := .int .i64 S) (v1 := .float .f32 lo) (v2 := .float .f32 hi) (v3 := .slice (some ⟨B, 0, none⟩) (3 * (S * (S * S))) cap') r0 r1 r2 r3
  refine bodyPost_ret (cu_ret1 Try.results21 _ _ (w.heap.size + 1) _ _ _ _ cs rfl) rfl ?_
  obtain ⟨hB, hcp, hcp2, hc⟩ := HX.out
  have hsz := HR.out.2.2.2.2.2
  refine ⟨B, cap', by omega, rfl, hcp, hcp2, kept_set4' K1.out (by omega), fun j hj => ?_⟩
  have hne : w.heap.size + 1 ≠ B := by omega
  exact cell_set_ne (cell_set_ne (cell_set_ne (cell_set_ne (hc j hj) (Or.inl hne)) (Or.inl hne)) (Or.inl hne)) (Or.inl hne)
end Go.Proofs.Ytkmganophcklgaa
