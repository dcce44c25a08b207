/- What tetra reckons: the order of the axes, the corners, the colour. Conditions: none. -/
import Derived.Test.YtkmganophcklgaaC8
namespace Go.Proofs.Ytkmganophcklgaa
open Go.RowKit
open Fl Fr
open BigFrame

/-- The axes after k comparisons of neighbours. -/
def ordF (g : Nat → Nat → Bool) : Nat → Nat → Nat
  | 0, i => i
  | k + 1, i => if g (ordF g k (k % 2 + 1)) (ordF g k (k % 2)) = true then (if i = k % 2 then ordF g k (k % 2 + 1) else if i = k % 2 + 1 then ordF g k (k % 2) else ordF g k i) else ordF g k i
theorem ordF_lt (g : Nat → Nat → Bool) : ∀ k i, i < 3 → ordF g k i < 3
  | 0, _, h => h
  | k + 1, i, h => by
    have i1 := ordF_lt g k (k % 2 + 1) (by omega)
    have i2 := ordF_lt g k (k % 2) (by omega)
    have i3 := ordF_lt g k i h
    unfold ordF
    split
    · split
      · exact i1
      · split
        · exact i2
        · exact i3
    · exact i3
theorem ordF_inj (g : Nat → Nat → Bool) : ∀ k i j, i < 3 → j < 3 → ordF g k i = ordF g k j → i = j
  | 0, _, _, _, _, e => e
  | k + 1, i, j, hi, hj, e => by
    have ih := ordF_inj g k
    unfold ordF at e
    by_cases h : g (ordF g k (k % 2 + 1)) (ordF g k (k % 2)) = true
    · rw [if_pos h, if_pos h] at e
      by_cases i1 : i = k % 2
      · rw [if_pos i1] at e
        by_cases j1 : j = k % 2
        · omega
        · rw [if_neg j1] at e
          by_cases j2 : j = k % 2 + 1
          · rw [if_pos j2] at e; have := ih _ _ (by omega) (by omega) e; omega
          · rw [if_neg j2] at e; have := ih _ _ (by omega) (by omega) e; omega
      · rw [if_neg i1] at e
        by_cases i2 : i = k % 2 + 1
        · rw [if_pos i2] at e
          by_cases j1 : j = k % 2
          · rw [if_pos j1] at e; have := ih _ _ (by omega) (by omega) e; omega
          · rw [if_neg j1] at e
            by_cases j2 : j = k % 2 + 1
            · omega
            · rw [if_neg j2] at e; have := ih _ _ (by omega) (by omega) e; omega
        · rw [if_neg i2] at e
          by_cases j1 : j = k % 2
          · rw [if_pos j1] at e; have := ih _ _ (by omega) (by omega) e; omega
          · rw [if_neg j1] at e
            by_cases j2 : j = k % 2 + 1
            · rw [if_pos j2] at e; have := ih _ _ (by omega) (by omega) e; omega
            · rw [if_neg j2] at e; exact ih _ _ (by omega) (by omega) e
    · rw [if_neg h, if_neg h] at e
      exact ih _ _ hi hj e
theorem ordF_yes {g : Nat → Nat → Bool} {k : Nat} (h : g (ordF g k (k % 2 + 1)) (ordF g k (k % 2)) = true) (i : Nat) : ordF g (k + 1) i = if i = k % 2 then ordF g k (k % 2 + 1) else if i = k % 2 + 1 then ordF g k (k % 2) else ordF g k i := by
  rw [ordF, if_pos h]
theorem ordF_no {g : Nat → Nat → Bool} {k : Nat} (h : g (ordF g k (k % 2 + 1)) (ordF g k (k % 2)) = false) (i : Nat) : ordF g (k + 1) i = ordF g k i := by
  rw [ordF, if_neg (by rw [h]; decide)]
/-- The place after m steps. -/
def posn (f : Nat → Int) (o : Nat → Nat) : Nat → Nat → Int
  | 0, c => f c
  | m + 1, c => if c = o m then posn f o m c + 1 else posn f o m c
theorem posn_bd {f : Nat → Int} {o : Nat → Nat} (ho : ∀ i j, i < 3 → j < 3 → o i = o j → i = j) (c : Nat) : ∀ m, m ≤ 3 → (f c ≤ posn f o m c ∧ posn f o m c ≤ f c + 1) ∧ ((∀ j, j < m → o j ≠ c) → posn f o m c = f c)
  | 0, _ => ⟨⟨Int.le_refl _, by unfold posn; omega⟩, fun _ => rfl⟩
  | m + 1, hm => by
    obtain ⟨⟨h1, h2⟩, h3⟩ := posn_bd ho c m (by omega)
    unfold posn
    by_cases e : c = o m
    · rw [if_pos e]
      have : posn f o m c = f c := h3 fun j hj q => by
        have := ho j m (by omega) (by omega) (q.trans e)
        omega
      exact ⟨⟨by omega, by omega⟩, fun h => absurd e.symm (h m (by omega))⟩
    · rw [if_neg e]
      exact ⟨⟨h1, h2⟩, fun h => h3 fun j hj => h j (by omega)⟩
/-- The colour between four corners. -/
def teV (a b d e s t u : Nat) : Nat :=
  if (FloatKind.f32.format.order s 0 == some .eq) = true then cl .f32 a
  else if (FloatKind.f32.format.order s 1065353216 == some .eq && FloatKind.f32.format.order t 0 == some .eq) = true then cl .f32 b
  else if (FloatKind.f32.format.order t 1065353216 == some .eq && FloatKind.f32.format.order u 0 == some .eq) = true then cl .f32 d
  else if (FloatKind.f32.format.order u 1065353216 == some .eq) = true then cl .f32 e
  else fC .add .f32 (fC .add .f32 (fC .add .f32 a (fC .mul .f32 (fC .sub .f32 b a) s)) (fC .mul .f32 (fC .sub .f32 d b) t)) (fC .mul .f32 (fC .sub .f32 e d) u)
theorem teV_cl (a b d e s t u : Nat) : teV (cl .f32 a) (cl .f32 b) (cl .f32 d) (cl .f32 e) s t u = teV a b d e s t u := by
  unfold teV
  simp only [cl_cl, fC_cl_l, fC_cl_r]
def teG (x : Nat → Nat) (a b : Nat) : Bool := FloatKind.f32.format.order (x a) (x b) == some .gt
def teC (E : Int → Int → Int → Nat → Nat) (f : Nat → Int) (o : Nat → Nat) (m c : Nat) : Nat := E (posn f o m 0) (posn f o m 1) (posn f o m 2) c
/-- The colours of a pixel that has no NaN. -/
def teR (E : Int → Int → Int → Nat → Nat) (f : Nat → Int) (x : Nat → Nat) (c : Nat) : Nat :=
  let o := ordF (teG x) 3
  teV (teC E f o 0 c) (teC E f o 1 c) (teC E f o 2 c) (teC E f o 3 c) (x (o 0)) (x (o 1)) (x (o 2))
def teP (E : Int → Int → Int → Nat → Nat) (S : Int) (lo hi : Nat) (p : Nat → Nat) (c : Nat) : Nat :=
  if c = 3 then cl .f32 (p 3) else if brk p = true then qn .f32 else teR E (fun c => axI S lo hi (p c)) (fun c => axS S lo hi (p c)) c
theorem teR_cl (E : Int → Int → Int → Nat → Nat) (f : Nat → Int) (x : Nat → Nat) (c : Nat) : teR (fun i j k c => cl .f32 (E i j k c)) f x c = teR E f x c := by
  unfold teR teC
  exact teV_cl ..
theorem teP_cl (E : Int → Int → Int → Nat → Nat) (S : Int) (lo hi : Nat) (p : Nat → Nat) (c : Nat) : teP (fun i j k c => cl .f32 (E i j k c)) S lo hi p c = teP E S lo hi p c := by
  unfold teP
  rw [teR_cl]
theorem teV_canon (a b d e s t u : Nat) : cl .f32 (teV a b d e s t u) = teV a b d e s t u := by
  unfold teV
  split
  · exact cl_cl _ _
  · split
    · exact cl_cl _ _
    · split
      · exact cl_cl _ _
      · split
        · exact cl_cl _ _
        · exact cl_fC ..
end Go.Proofs.Ytkmganophcklgaa
