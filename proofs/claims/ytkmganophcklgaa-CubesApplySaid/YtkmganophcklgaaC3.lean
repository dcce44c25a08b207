/- What smoothing reckons at an entry: the neighbours, their sum, the mean. Conditions: none. -/
import Derived.Test.YtkmganophcklgaaC2
namespace Go.Proofs.Ytkmganophcklgaa
open Go.RowKit
open Fl Fr
open BigFrame

def nbD (t c : Nat) : Int := if c = t / 2 then (if t % 2 = 0 then -1 else 1) else 0
def nbP (i j k : Int) (t c : Nat) : Int := (if c = 0 then i else if c = 1 then j else k) + nbD t c
def nbV (S i j k : Int) (t : Nat) : Bool := inB (nbP i j k t 0) 0 (S - 1) && inB (nbP i j k t 1) 0 (S - 1) && inB (nbP i j k t 2) 0 (S - 1)
/-- How many of the first t neighbours are there. -/
def nbN (S i j k : Int) : Nat → Nat
  | 0 => 0
  | t + 1 => nbN S i j k t + (if nbV S i j k t = true then 1 else 0)
/-- The sum of the first t neighbours. -/
def nbS (E : Int → Int → Int → Nat → Nat) (S i j k : Int) (c : Nat) : Nat → Nat
  | 0 => 0
  | t + 1 => if nbV S i j k t = true then (if nbN S i j k t = 0 then cl .f32 (E (nbP i j k t 0) (nbP i j k t 1) (nbP i j k t 2) c) else fC .add .f32 (nbS E S i j k c t) (E (nbP i j k t 0) (nbP i j k t 1) (nbP i j k t 2) c)) else nbS E S i j k c t
def smF (E : Int → Int → Int → Nat → Nat) (S i j k : Int) (c : Nat) : Nat :=
  fC .quo .f32 (fC .add .f32 (fC .mul .f32 (E i j k c) 1073741824) (nbS E S i j k c 6)) (floatOfInt .f32 (2 + (nbN S i j k 6 : Int)))
theorem nbN_le (S i j k : Int) (t : Nat) : nbN S i j k t ≤ t := by
  induction t with
  | zero => exact Nat.le_refl _
  | succ t ih => unfold nbN; split <;> omega
theorem nbS_cl (E : Int → Int → Int → Nat → Nat) (S i j k : Int) (c t : Nat) : nbS (fun x y z c => cl .f32 (E x y z c)) S i j k c t = nbS E S i j k c t := by
  induction t with
  | zero => rfl
  | succ t ih => unfold nbS; rw [cl_cl, fC_cl_r, ih]
theorem smF_cl (E : Int → Int → Int → Nat → Nat) (S i j k : Int) (c : Nat) : smF (fun x y z c => cl .f32 (E x y z c)) S i j k c = smF E S i j k c := by
  unfold smF
  rw [nbS_cl, fC_cl_l]
theorem cl_nbS (E : Int → Int → Int → Nat → Nat) (S i j k : Int) (c t : Nat) : cl .f32 (nbS E S i j k c t) = nbS E S i j k c t := by
  induction t with
  | zero => unfold nbS; decide +kernel
  | succ t ih =>
    unfold nbS
    split
    · split
      · exact cl_cl _ _
      · exact cl_fC ..
    · exact ih
theorem nbS_no {E : Int → Int → Int → Nat → Nat} {S i j k : Int} {c t : Nat} (h : nbV S i j k t = false) : nbS E S i j k c (t + 1) = nbS E S i j k c t := by
  rw [nbS, h]; rfl
theorem nbN_no {S i j k : Int} {t : Nat} (h : nbV S i j k t = false) : nbN S i j k (t + 1) = nbN S i j k t := by
  rw [nbN, h]; rfl
theorem nbN_yes {S i j k : Int} {t : Nat} (h : nbV S i j k t = true) : nbN S i j k (t + 1) = nbN S i j k t + 1 := by
  rw [nbN, h]; rfl
theorem nbS_yes {E : Int → Int → Int → Nat → Nat} {S i j k : Int} {c t : Nat} (h : nbV S i j k t = true) : nbS E S i j k c (t + 1) =
    if nbN S i j k t = 0 then cl .f32 (E (nbP i j k t 0) (nbP i j k t 1) (nbP i j k t 2) c) else fC .add .f32 (nbS E S i j k c t) (E (nbP i j k t 0) (nbP i j k t 1) (nbP i j k t 2) c) := by
  rw [nbS, h]; rfl
/-- The one coordinate that is turned decides. -/
theorem nbV_one {S i j k : Int} (_ : 2 ≤ S) (i0 : 0 ≤ i) (i1 : i < S) (j0 : 0 ≤ j) (j1 : j < S) (k0 : 0 ≤ k) (k1 : k < S) {a b : Nat} (ha : a < 3) (hb : b < 2) :
    nbV S i j k (2 * a + b) = (decide (0 ≤ nbP i j k (2 * a + b) a) && decide (nbP i j k (2 * a + b) a < S)) := by
  unfold nbV inB nbP nbD
  obtain rfl | rfl | rfl : a = 0 ∨ a = 1 ∨ a = 2 := by omega
  all_goals
    obtain rfl | rfl : b = 0 ∨ b = 1 := by omega
    all_goals
      simp
      rw [Bool.eq_iff_iff]
      simp only [Bool.and_eq_true, decide_eq_true_eq]
      omega
theorem nbV_in {S i j k : Int} {t : Nat} (h : nbV S i j k t = true) : (0 ≤ nbP i j k t 0 ∧ nbP i j k t 0 < S) ∧ (0 ≤ nbP i j k t 1 ∧ nbP i j k t 1 < S) ∧ (0 ≤ nbP i j k t 2 ∧ nbP i j k t 2 < S) := by
  unfold nbV at h
  simp only [Bool.and_eq_true] at h
  have h0 := inB_iff.1 h.1.1
  have h1 := inB_iff.1 h.1.2
  have h2 := inB_iff.1 h.2
  omega
theorem nbP_bd {S i j k : Int} (i0 : 0 ≤ i) (i1 : i < S) (j0 : 0 ≤ j) (j1 : j < S) (k0 : 0 ≤ k) (k1 : k < S) (t c : Nat) : -1 ≤ nbP i j k t c ∧ nbP i j k t c ≤ S := by
  unfold nbP nbD
  split <;> split <;> (try split) <;> (try split) <;> omega

/-- Three singles in block B that are known up to which NaN; nothing else of W0 has turned. -/
structure SfS (W0 : World) (B : Nat) (g : Nat → Nat) (wr : World) : Prop where
  kept : Kept (fun k => k = B) W0 wr
  cells : ∃ r : Nat → Nat, ∀ c, c < 3 → wr.cell? ⟨B, c, none⟩ = some (.float .f32 (r c)) ∧ cl .f32 (r c) = g c
theorem SfS.step {W0 : World} {B : Nat} {g : Nat → Nat} {wr w2 : World} (h : SfS W0 B g wr) (k : Kept None' wr w2) : SfS W0 B g w2 := by
  obtain ⟨r, hr⟩ := h.cells
  exact ⟨h.kept.trans (k.mono fun _ _ x => x.elim), r, fun c hc => ⟨k.some (hr c hc).1 id, (hr c hc).2⟩⟩
theorem SfS.set {W0 : World} {B : Nat} {g g' : Nat → Nat} {wr : World} (h : SfS W0 B g wr) {x v : Nat} (hx : x < 3) (hv : cl .f32 v = g' x) (hg : ∀ c, c < 3 → c ≠ x → g' c = g c) : SfS W0 B g' (wr.setCell ⟨B, x, none⟩ (.float .f32 v)) := by
  obtain ⟨r, hr⟩ := h.cells
  refine ⟨h.kept.trans (Kept.setCell (Kept.refl (fun k => k = B) wr) (p := ⟨B, x, none⟩) (Or.inr rfl) _), fun c => if c = x then v else r c, fun c hc => ?_⟩
  by_cases e : c = x
  · subst e
    simp only [if_true]
    exact ⟨cell_set_eq (hr c hc).1, hv⟩
  · simp only [if_neg e]
    exact ⟨cell_set_ne (hr c hc).1 (Or.inr (fun q => e q.symm)), by rw [(hr c hc).2, hg c hc e]⟩
theorem SfS.congr {W0 : World} {B : Nat} {g g' : Nat → Nat} {wr : World} (h : SfS W0 B g wr) (hg : ∀ c, c < 3 → g' c = g c) : SfS W0 B g' wr := by
  obtain ⟨r, hr⟩ := h.cells
  exact ⟨h.kept, r, fun c hc => ⟨(hr c hc).1, by rw [(hr c hc).2, hg c hc]⟩⟩
theorem SfS.from {W0 W1 : World} {B : Nat} {g : Nat → Nat} {wr : World} (k : Kept (fun k => k = B) W0 W1) (h : SfS W1 B g wr) : SfS W0 B g wr := ⟨k.trans h.kept, h.cells⟩
theorem ar3_i0 (v0 v1 v2 : Value) (w : World) : (Instr.index 36 (.agg #[v0, v1, v2]) (.int .i64 0)).run Try.prog w = .ok v0 w := by kernel_rfl
theorem ar3_i1 (v0 v1 v2 : Value) (w : World) : (Instr.index 36 (.agg #[v0, v1, v2]) (.int .i64 1)).run Try.prog w = .ok v1 w := by kernel_rfl
theorem ar3_i2 (v0 v1 v2 : Value) (w : World) : (Instr.index 36 (.agg #[v0, v1, v2]) (.int .i64 2)).run Try.prog w = .ok v2 w := by kernel_rfl
theorem ar3_idx (r : Nat → Nat) (c : Nat) (hc : c < 3) (w : World) : (Instr.index 36 (.agg #[.float .f32 (r 0), .float .f32 (r 1), .float .f32 (r 2)]) (.int .i64 (c : Int))).run Try.prog w = .ok (.float .f32 (r c)) w := by
  obtain rfl | rfl | rfl : c = 0 ∨ c = 1 ∨ c = 2 := by omega
  · exact ar3_i0 ..
  · exact ar3_i1 ..
  · exact ar3_i2 ..
end Go.Proofs.Ytkmganophcklgaa
