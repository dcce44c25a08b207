/- Structs of five one-cell fields opened to cells. Conditions: none. -/
import Derived.Test.YtkmganophcklgaaRo
namespace Go.Proofs.Ytkmganophcklgaa
open Go.ChangeShapes Go.WideShapes Go.ChangeAt Go.RowKit Go.Deep

section
variable {H : Type} {enc : TypeId × Value → H} {P : Program} {w : World} {base : Nat} {spare : Nat → Bool} {held : Bool}
theorem op_struct5 {t : TypeId} {f0 f1 f2 f3 f4 : Field} {v : Value} {d : DataW H} {p : List MemPlace} (ht : P.underlying t = some (.struct #[f0, f1, f2, f3, f4])) (hct : P.cellsOf t = 5)
    (ho : f0.offset = 0 ∧ f1.offset = 1 ∧ f2.offset = 2 ∧ f3.offset = 3 ∧ f4.offset = 4) (hc : P.cellsOf f0.type = 1 ∧ P.cellsOf f1.type = 1 ∧ P.cellsOf f2.type = 1 ∧ P.cellsOf f3.type = 1 ∧ P.cellsOf f4.type = 1)
    (h : DataW.Trod enc P w base spare held t v d p) : ∃ (c0 c1 c2 c3 c4 : Value) (y0 y1 y2 y3 y4 : DataW H × List MemPlace) (m : Nat), v = .agg #[c0, c1, c2, c3, c4] ∧
      DataW.trod enc P w base spare held m f0.type [c0] = some y0 ∧ DataW.trod enc P w base spare held m f1.type [c1] = some y1 ∧ DataW.trod enc P w base spare held m f2.type [c2] = some y2 ∧ DataW.trod enc P w base spare held m f3.type [c3] = some y3 ∧ DataW.trod enc P w base spare held m f4.type [c4] = some y4 := by
  obtain ⟨fuel, hf⟩ := h
  obtain ⟨xs, m, -, -, hl, hxs, hx⟩ := DataW.trod_struct ht hf
  obtain ⟨cs, rfl, hlen⟩ := agg_cells (n := 5) (by decide) (hl.trans hct)
  have h0 := hx 0 f0 rfl
  have h1 := hx 1 f1 rfl
  have h2 := hx 2 f2 rfl
  have h3 := hx 3 f3 rfl
  have h4 := hx 4 f4 rfl
  rw [ho.1, hc.1] at h0
  rw [ho.2.1, hc.2.1] at h1
  rw [ho.2.2.1, hc.2.2.1] at h2
  rw [ho.2.2.2.1, hc.2.2.2.1] at h3
  rw [ho.2.2.2.2, hc.2.2.2.2] at h4
  match cs, hlen with
  | [c0, c1, c2, c3, c4], _ =>
    match xs, hxs with
    | [y0, y1, y2, y3, y4], _ =>
      exact ⟨c0, c1, c2, c3, c4, y0, y1, y2, y3, y4, m, rfl, h0, h1, h2, h3, h4⟩

theorem op_struct4 {t : TypeId} {f0 f1 f2 f3 : Field} {v : Value} {d : DataW H} {p : List MemPlace} (ht : P.underlying t = some (.struct #[f0, f1, f2, f3])) (hct : P.cellsOf t = 4)
    (ho : f0.offset = 0 ∧ f1.offset = 1 ∧ f2.offset = 2 ∧ f3.offset = 3) (hc : P.cellsOf f0.type = 1 ∧ P.cellsOf f1.type = 1 ∧ P.cellsOf f2.type = 1 ∧ P.cellsOf f3.type = 1)
    (h : DataW.Trod enc P w base spare held t v d p) : ∃ (c0 c1 c2 c3 : Value) (y0 y1 y2 y3 : DataW H × List MemPlace) (m : Nat), v = .agg #[c0, c1, c2, c3] ∧
      DataW.trod enc P w base spare held m f0.type [c0] = some y0 ∧ DataW.trod enc P w base spare held m f1.type [c1] = some y1 ∧ DataW.trod enc P w base spare held m f2.type [c2] = some y2 ∧ DataW.trod enc P w base spare held m f3.type [c3] = some y3 := by
  obtain ⟨fuel, hf⟩ := h
  obtain ⟨xs, m, -, -, hl, hxs, hx⟩ := DataW.trod_struct ht hf
  obtain ⟨cs, rfl, hlen⟩ := agg_cells (n := 4) (by decide) (hl.trans hct)
  have h0 := hx 0 f0 rfl
  have h1 := hx 1 f1 rfl
  have h2 := hx 2 f2 rfl
  have h3 := hx 3 f3 rfl
  rw [ho.1, hc.1] at h0
  rw [ho.2.1, hc.2.1] at h1
  rw [ho.2.2.1, hc.2.2.1] at h2
  rw [ho.2.2.2, hc.2.2.2] at h3
  match cs, hlen with
  | [c0, c1, c2, c3], _ =>
    match xs, hxs with
    | [y0, y1, y2, y3], _ =>
      exact ⟨c0, c1, c2, c3, y0, y1, y2, y3, m, rfl, h0, h1, h2, h3⟩
theorem op_sl {t e : TypeId} {k : FloatKind} {fuel : Nat} {c : Value} {x : DataW H × List MemPlace} (ht : P.underlying t = some (.slice e)) (he : P.underlying e = some (.float k)) (hc : P.cellsOf e = 1) (h : DataW.trod enc P w base spare held fuel t [c] = some x) :
    ∃ (A : Option Addr) (n cap : Nat) (z : Nat → Nat), c = .slice A n cap ∧ n ≤ cap ∧ cap ≤ maxLen ∧ Rd w A n (fun i => .float k (z i)) ∧ (∀ i, (Lit.float k (z i)).wf = true) := by
  obtain ⟨A, n, cap, z, e1, h1, h2, h3, h4⟩ := op_floats ht he hc h
  exact ⟨A, n, cap, z, by injection e1, h1, h2, h3, h4⟩

theorem op_f1 {t : TypeId} {k : FloatKind} {fuel : Nat} {c : Value} {x : DataW H × List MemPlace} (ht : P.underlying t = some (.float k)) (h : DataW.trod enc P w base spare held fuel t [c] = some x) : ∃ b, c = .float k b := by
  obtain ⟨b, e, -⟩ := trod_float ht h
  exact ⟨b, by injection e⟩
theorem op_i1 {t : TypeId} {k : IntKind} {fuel : Nat} {c : Value} {x : DataW H × List MemPlace} (ht : P.underlying t = some (.int k)) (h : DataW.trod enc P w base spare held fuel t [c] = some x) : ∃ b, c = .int k b ∧ (Lit.int k b).wf = true := by
  obtain ⟨b, e, -, hw⟩ := DataW.trod_int ht h
  exact ⟨b, by injection e, hw⟩
theorem op_b1 {t : TypeId} {fuel : Nat} {c : Value} {x : DataW H × List MemPlace} (ht : P.underlying t = some .bool) (h : DataW.trod enc P w base spare held fuel t [c] = some x) : ∃ b, c = .bool b := by
  obtain ⟨b, e, -⟩ := DataW.trod_bool ht h
  exact ⟨b, by injection e⟩
end
end Go.Proofs.Ytkmganophcklgaa
