/- The order of the axes after four comparisons is that after three. Conditions: none. -/
import Derived.Test.YtkmganophcklgaaTe
namespace Go.Proofs.Ytkmganophcklgaa
open Go.RowKit
open Fl Fr
open BigFrame

theorem order_asym {k : FloatKind} {x y : Nat} (h : (k.format.order x y == some .gt) = true) : (k.format.order y x == some .gt) = false := by
  obtain ⟨hx, hy⟩ := order_none h
  have h : k.format.order x y = some .gt := by simpa using h
  unfold Ieee.Format.order at *
  rcases read_cases k x hx with ⟨s, m, e, a⟩ | ⟨s, a⟩ <;> rcases read_cases k y hy with ⟨t, n, i, b⟩ | ⟨t, b⟩
  all_goals
    have a' : k.format.read x = _ := a
    have b' : k.format.read y = _ := b
    rw [a', b'] at h
    rw [a', b']
  · rw [order_gt] at h
    cases q : ((Ieee.Datum.number t n i).order (.number s m e) == some .gt) with
    | false => rfl
    | true =>
      have q : (Ieee.Datum.number t n i).order (.number s m e) = some .gt := by simpa using q
      rw [order_gt] at q
      exfalso; grind
  · cases t <;> simp [Ieee.Datum.order] at h ⊢
  · cases s <;> simp [Ieee.Datum.order] at h ⊢
  · cases s <;> cases t <;> simp [Ieee.Datum.order] at h ⊢ <;> revert h <;> decide
theorem ord_sorted {g : Nat → Nat → Bool} (ha : ∀ a b, g a b = true → g b a = false) : g (ordF g 3 2) (ordF g 3 1) = false := by
  have o1 : ∀ i, ordF g 1 i = if g 1 0 = true then (if i = 0 then 1 else if i = 1 then 0 else i) else i := fun i => rfl
  cases h1 : g 1 0
  · have e0 : ordF g 1 0 = 0 := by rw [o1, h1]; rfl
    have e1 : ordF g 1 1 = 1 := by rw [o1, h1]; rfl
    have e2 : ordF g 1 2 = 2 := by rw [o1, h1]; rfl
    cases h2 : g 2 1
    · have f : ∀ i, ordF g 2 i = ordF g 1 i := fun i => ordF_no (k := 1) (by rw [show 1 % 2 + 1 = 2 from rfl, show 1 % 2 = 1 from rfl, e1, e2]; exact h2) i
      have f3 : ∀ i, ordF g 3 i = ordF g 2 i := fun i => ordF_no (k := 2) (by rw [show 2 % 2 + 1 = 1 from rfl, show 2 % 2 = 0 from rfl, f, f, e0, e1]; exact h1) i
      rw [f3, f3, f, f, e1, e2]; exact h2
    · have f : ∀ i, ordF g 2 i = _ := fun i => ordF_yes (k := 1) (by rw [show 1 % 2 + 1 = 2 from rfl, show 1 % 2 = 1 from rfl, e1, e2]; exact h2) i
      have f0 : ordF g 2 0 = 0 := by rw [f]; simpa using e0
      have f1 : ordF g 2 1 = 2 := by rw [f]; simpa using e2
      have f2 : ordF g 2 2 = 1 := by rw [f]; simpa using e1
      cases h3 : g 2 0
      · have f3 : ∀ i, ordF g 3 i = ordF g 2 i := fun i => ordF_no (k := 2) (by rw [show 2 % 2 + 1 = 1 from rfl, show 2 % 2 = 0 from rfl, f0, f1]; exact h3) i
        rw [f3, f3, f1, f2]; exact ha _ _ h2
      · have f3 : ∀ i, ordF g 3 i = _ := fun i => ordF_yes (k := 2) (by rw [show 2 % 2 + 1 = 1 from rfl, show 2 % 2 = 0 from rfl, f0, f1]; exact h3) i
        have g1 : ordF g 3 1 = 0 := by rw [f3]; simpa using f0
        have g2 : ordF g 3 2 = 1 := by rw [f3]; simpa using f2
        rw [g1, g2]; exact h1
  · have e0 : ordF g 1 0 = 1 := by rw [o1, h1]; rfl
    have e1 : ordF g 1 1 = 0 := by rw [o1, h1]; rfl
    have e2 : ordF g 1 2 = 2 := by rw [o1, h1]; rfl
    have h1' := ha _ _ h1
    cases h2 : g 2 0
    · have f : ∀ i, ordF g 2 i = ordF g 1 i := fun i => ordF_no (k := 1) (by rw [show 1 % 2 + 1 = 2 from rfl, show 1 % 2 = 1 from rfl, e1, e2]; exact h2) i
      have f3 : ∀ i, ordF g 3 i = ordF g 2 i := fun i => ordF_no (k := 2) (by rw [show 2 % 2 + 1 = 1 from rfl, show 2 % 2 = 0 from rfl, f, f, e0, e1]; exact h1') i
      rw [f3, f3, f, f, e1, e2]; exact h2
    · have f : ∀ i, ordF g 2 i = _ := fun i => ordF_yes (k := 1) (by rw [show 1 % 2 + 1 = 2 from rfl, show 1 % 2 = 1 from rfl, e1, e2]; exact h2) i
      have f0 : ordF g 2 0 = 1 := by rw [f]; simpa using e0
      have f1 : ordF g 2 1 = 2 := by rw [f]; simpa using e2
      have f2 : ordF g 2 2 = 0 := by rw [f]; simpa using e1
      cases h3 : g 2 1
      · have f3 : ∀ i, ordF g 3 i = ordF g 2 i := fun i => ordF_no (k := 2) (by rw [show 2 % 2 + 1 = 1 from rfl, show 2 % 2 = 0 from rfl, f0, f1]; exact h3) i
        rw [f3, f3, f1, f2]; exact ha _ _ h2
      · have f3 : ∀ i, ordF g 3 i = _ := fun i => ordF_yes (k := 2) (by rw [show 2 % 2 + 1 = 1 from rfl, show 2 % 2 = 0 from rfl, f0, f1]; exact h3) i
        have g1 : ordF g 3 1 = 1 := by rw [f3]; simpa using f0
        have g2 : ordF g 3 2 = 0 := by rw [f3]; simpa using f2
        rw [g1, g2]; exact h1'
theorem ord_four (x : Nat → Nat) : ordF (teG x) 4 = ordF (teG x) 3 := funext fun i =>
  ordF_no (k := 3) (ord_sorted fun _ _ h => order_asym h) i
end Go.Proofs.Ytkmganophcklgaa
