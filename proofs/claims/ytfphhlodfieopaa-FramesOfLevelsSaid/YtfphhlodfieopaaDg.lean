/- What is lost and given on: the plain functions; the contract of Diffuse's inner function. Conditions: none. -/
import Derived.Test.YtfphhlodfieopaaNb
import Derived.Test.YtfphhlodfieopaaQw
import Derived.Test.YtfphhlodfieopaaSo
namespace Go.Proofs.Ytfphhlodfieopaa
open Go.RowKit
open Fl Fr
open BigFrame

/-- Values known up to which NaN they are. -/
def GC (G n : Nat) (q : Nat → Nat) (w : World) : Prop := ∀ j, j < n → ∃ r, w.cell? ⟨G, j, none⟩ = some (.float .f32 r) ∧ cl .f32 r = q j
theorem GC.kept {A : Nat → Prop} {G n : Nat} {q : Nat → Nat} {w w' : World} (h : GC G n q w) (k : Kept A w w') (hA : ¬ A G) : GC G n q w' := fun j hj => by
  obtain ⟨r, a, b⟩ := h j hj
  exact ⟨r, k.some a hA, b⟩
theorem GC.set {G n : Nat} {q q' : Nat → Nat} {w : World} (h : GC G n q w) (k v : Nat) (hq : ∀ j, j < n → q' j = if j = k then cl .f32 v else q j) : GC G n q' (w.setCell ⟨G, k, none⟩ (.float .f32 v)) := fun j hj => by
  obtain ⟨r, a, b⟩ := h j hj
  rw [hq j hj]
  by_cases e : j = k
  · subst e; rw [if_pos rfl]; exact ⟨v, cell_set_eq a, rfl⟩
  · rw [if_neg e]; exact ⟨r, cell_set_ne a (Or.inr (fun x => e x.symm)), b⟩
/-- What is lost at k. -/
def dfE (M : Int) (v : Nat) : Nat := if isN (fC .sub .f32 v (valP (levelP v 0 M) M)) then fC .sub .f32 v (valP (levelP v 0 M) M) else 0
/-- Is there such a neighbour. -/
def gvB (W H x y dx dy : Int) : Bool := decide (0 ≤ x + dx) && decide (x + dx < W) && decide (y + dy < H)
/-- Its channel's cell. -/
def gvK (W x y dx dy : Int) (c : Nat) : Nat := (4 * ((y + dy) * W + (x + dx)) + c).toNat
def gv (W H x y : Int) (c e : Nat) (dx dy : Int) (s : Nat) (q : Nat → Nat) : Nat → Nat :=
  if gvB W H x y dx dy then fun j => if j = gvK W x y dx dy c then fC .add .f32 (q j) (fC .quo .f32 (fC .mul .f32 e s) 1098907648) else q j else q
theorem gvK_ok {W H x y dx dy : Int} {n c : Nat} (hn : (n : Int) = 4 * W * H) (hc : c < 4) (h1 : 0 ≤ x + dx) (h2 : x + dx < W) (h3 : 0 ≤ y + dy) (h4 : y + dy < H) :
    (gvK W x y dx dy c : Int) = 4 * (y * W + x) + 4 * (dy * W + dx) + c ∧ gvK W x y dx dy c < n ∧ 4 * ((y + dy) * W + (x + dx)) + c < n := by
  have a1 : 0 ≤ (y + dy) * W := Int.mul_nonneg h3 (by omega)
  have a2 : (y + dy) * W ≤ (H - 1) * W := Int.mul_le_mul_of_nonneg_right (by omega) (by omega)
  have a3 : (H - 1) * W = H * W - W := by rw [Int.sub_mul, Int.one_mul]
  have a4 : 4 * W * H = 4 * (H * W) := by rw [Int.mul_assoc, Int.mul_comm W H]
  have a5 : (y + dy) * W = y * W + dy * W := Int.add_mul ..
  unfold gvK
  generalize (y + dy) * W = t at *
  generalize y * W = t1 at *
  generalize dy * W = t2 at *
  generalize H * W = t3 at *
  generalize (H - 1) * W = t4 at *
  omega

/-- The boxes that the inner function sees. -/
structure GvB (X Fb Y Gb At C E G n : Nat) (fx fy W H : Int) (A : Option Addr) (cap : Nat) (x y a : Int) (c e : Nat) (w : World) : Prop where
  bx : w.cell? ⟨X, 0, none⟩ = some (.int .i64 x)
  by' : w.cell? ⟨Y, 0, none⟩ = some (.int .i64 y)
  bW : w.cell? ⟨Fb, 2, none⟩ = some (.int .i64 W)
  bH : w.cell? ⟨Fb, 3, none⟩ = some (.int .i64 H)
  bG : w.cell? ⟨Gb, 0, none⟩ = some (.slice (some ⟨G, 0, none⟩) n n)
  bA : w.cell? ⟨At, 0, none⟩ = some (.int .i64 a)
  bC : w.cell? ⟨C, 0, none⟩ = some (.int .i64 c)
  bE : ∃ r, w.cell? ⟨E, 0, none⟩ = some (.float .f32 r) ∧ cl .f32 r = e

set_option linter.unusedSimpArgs false in
set_option linter.unusedVariables false in
set_option maxHeartbeats 4000000 in
set_option maxRecDepth 100000 in
theorem give_any (X Fb Y Gb At C E G n c e s : Nat) (fx fy W H : Int) (A : Option Addr) (cap : Nat) (x y a dx dy : Int) (q : Nat → Nat) (w : World)
    (hB : GvB X Fb Y Gb At C E G n fx fy W H A cap x y a c e w) (hG : GC G n q w) (hz : ∀ j, w.frozen? ⟨G, j, none⟩ = false) (hn : (n : Int) = 4 * W * H) (ha : a = 4 * (y * W + x)) (hc : c < 3)
    (w1 : 1 ≤ W) (w2 : W ≤ 256) (w3 : 1 ≤ H) (w4 : H ≤ 256) (x1 : 0 ≤ x) (x2 : x < W) (y1 : 0 ≤ y) (y2 : y < H) (d1 : -1 ≤ dx) (d2 : dx ≤ 1) (d3 : 0 ≤ dy) (d4 : dy ≤ 1) :
    Calls Try.prog 90 #[.int .i64 dx, .int .i64 dy, .float .f32 s, .pointer (some ⟨X, 0, none⟩), .pointer (some ⟨Fb, 0, none⟩), .pointer (some ⟨Y, 0, none⟩), .pointer (some ⟨Gb, 0, none⟩), .pointer (some ⟨At, 0, none⟩), .pointer (some ⟨C, 0, none⟩), .pointer (some ⟨E, 0, none⟩)] w fun en w' =>
      en = .returned (.tuple #[]) ∧ Kept (fun i => i = G) w w' ∧ GC G n (gv W H x y c e dx dy s q) w' := by
  obtain ⟨bx, by', bW, bH, bG, bA, bC, re, bE, hre⟩ := hB
  have hn6 : n ≤ 262144 := by
    have := (mul_bd w1 w2 w3 w4).2
    have e2 : 4 * W * H = 4 * (W * H) := Int.mul_assoc ..
    omega
  have HG := Lib.hid (And.intro hG (And.intro hre hz))
  clear hG hre hz
  cases hb : gvB W H x y dx dy with
  | false =>
    have hq : gv W H x y c e dx dy s q = q := by unfold gv; rw [hb]; rfl
    rw [hq]
    unfold gvB at hb
    have hb' : (decide (0 ≤ x + dx) = false) ∨ (decide (0 ≤ x + dx) = true ∧ decide (x + dx < W) = false) ∨ (decide (0 ≤ x + dx) = true ∧ decide (x + dx < W) = true ∧ decide (y + dy < H) = false) := by
      cases h1 : decide (0 ≤ x + dx)
      · exact Or.inl rfl
      · cases h2 : decide (x + dx < W)
        · exact Or.inr (Or.inl ⟨rfl, rfl⟩)
        · rw [h1, h2] at hb; exact Or.inr (Or.inr ⟨rfl, rfl, by simpa using hb⟩)
    clear hb hq hn ha
    rcases hb' with h1 | ⟨h1, h2⟩ | ⟨h1, h2, h3⟩
    · go_enter Try.func90, Try.ntmps90
      go_wp2_with fail
      go_end0
      exact ⟨rfl, Kept.refl _ _, HG.out.1⟩
    · go_enter Try.func90, Try.ntmps90
      go_wp2_with fail
      go_end0
      exact ⟨rfl, Kept.refl _ _, HG.out.1⟩
    · go_enter Try.func90, Try.ntmps90
      go_wp2_with fail
      go_end0
      exact ⟨rfl, Kept.refl _ _, HG.out.1⟩
  | true =>
    have hb' : decide (0 ≤ x + dx) = true ∧ decide (x + dx < W) = true ∧ decide (y + dy < H) = true := by
      unfold gvB at hb; simp only [Bool.and_eq_true] at hb; exact ⟨hb.1.1, hb.1.2, hb.2⟩
    obtain ⟨g1, g2, g3⟩ := hb'
    have g1' := of_decide_eq_true g1
    have g2' := of_decide_eq_true g2
    have g3' := of_decide_eq_true g3
    obtain ⟨k1, k2, -⟩ := gvK_ok hn (show c < 4 by omega) g1' g2' (show 0 ≤ y + dy by omega) g3'
    have hq : ∀ j, gv W H x y c e dx dy s q j = if j = gvK W x y dx dy c then fC .add .f32 (q j) (fC .quo .f32 (fC .mul .f32 e s) 1098907648) else q j := by
      intro j; unfold gv; rw [hb]; rfl
    rw [← ha] at k1
    have hK : a + 4 * (dy * W + dx) + (c : Int) = (gvK W x y dx dy c : Int) := k1.symm
    generalize gvK W x y dx dy c = K at *
    obtain ⟨r, hr, hrq⟩ := HG.out.1 K k2
    have hfz := HG.out.2.2 K
    have t1 : dy * W = if dy = 0 then 0 else W := by
      have : dy = 0 ∨ dy = 1 := by omega
      rcases this with h | h <;> subst h <;> simp
    have t2 : -1 ≤ dy * W ∧ dy * W ≤ 256 := by rw [t1]; split <;> omega
    have ta : -2000 ≤ a ∧ a ≤ 300000 := by omega
    have HQ := Lib.hid (And.intro hq hrq)
    clear hq hrq hn ha t1 hb k1
    go_enter Try.func90, Try.ntmps90
    go_upto_region 1 with (fail)
    have A0 := ext_cell bG
    have A1 := ext_cell bA
    have A2 := ext_cell bW
    have A3 := ext_cell bC
    have A4 := ext_cell bE
    have A5 := ext_cell hr
    refine region_with_tail 20 (by kernel_rfl) (by kernel_rfl) ?_
    simp only [List.take_succ_cons, List.take_zero, List.drop_succ_cons, List.drop_zero]
    repeat (first
      | (refine wpWith_det ?_; go_big_quiet_want; go_big_quiet_op; go_big_quiet_on; refine wpQuiet_nil ?_)
      | fail)
    refine wpWith_float (by rfl) rfl (by simp) rfl rfl (fun r3 hr3 => ?_)
    simp only [Act.put, List.setIfInBounds_toArray, List.set_cons_zero, List.set_cons_succ]
    refine wpWith_float (by rfl) rfl (by simp) rfl rfl (fun r4 hr4 => ?_)
    simp only [Act.put, List.setIfInBounds_toArray, List.set_cons_zero, List.set_cons_succ]
    refine wpWith_float (by rfl) rfl (by simp) rfl rfl (fun r5 hr5 => ?_)
    simp only [Act.put, List.setIfInBounds_toArray, List.set_cons_zero, List.set_cons_succ]
    refine wpWith_nil ?_
    rintro _ ⟨xq, rfl⟩
    have hv : ∀ j, j < n → gv W H x y c e dx dy s q j = if j = K then cl .f32 r5 else q j := by
      intro j hj
      rw [HQ.out.1 j]
      by_cases e : j = K
      · subst e
        rw [if_pos rfl, if_pos rfl, hr5, fC_r hr4, fC_l hr3, fC_l HG.out.2.1, fC_l HQ.out.2]
      · rw [if_neg e, if_neg e]
    have kx := ext_kept w xq
    have hr := kx.some hr id
    have hfz := (kx.frozen ⟨G, K, none⟩).trans hfz
    have HS := Lib.hid (And.intro hv (And.intro kx (HG.out.1.kept kx id)))
    clear A0 A1 A2 A3 A4 A5 hr3 hr4 hr5 hv kx
    generalize ext w xq = w2 at *
    go_wp2_with fail
    go_end0
    exact ⟨rfl, Kept.setCell (A := fun i => i = G) (p := ⟨G, K, none⟩) (HS.out.2.1.mono (fun _ _ h => h.elim)) (Or.inr rfl) _, HS.out.2.2.set K r5 HS.out.1⟩
end Go.Proofs.Ytfphhlodfieopaa
