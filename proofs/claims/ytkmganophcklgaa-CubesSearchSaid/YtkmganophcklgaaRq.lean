/- How an array of three singles is opened to cells. Conditions: none. -/
import Derived.Test.YtkmganophcklgaaRo
namespace Go.Proofs.Ytkmganophcklgaa
open Go.ChangeShapes Go.WideShapes Go.ChangeAt Go.RowKit Go.Deep

section
variable {H : Type} {enc : TypeId × Value → H} {P : Program} {w : World} {base : Nat} {spare : Nat → Bool} {held : Bool}
theorem op_a3 {t e : TypeId} {k : FloatKind} {v : Value} {d : DataW H} {p : List MemPlace} (ht : P.underlying t = some (.array 3 e)) (he : P.underlying e = some (.float k)) (hce : P.cellsOf e = 1) (hct : P.cellsOf t = 3)
    (h : DataW.Trod enc P w base spare held t v d p) : ∃ b0 b1 b2, v = .agg #[.float k b0, .float k b1, .float k b2] ∧ (Lit.float k b0).wf = true ∧ (Lit.float k b1).wf = true ∧ (Lit.float k b2).wf = true := by
  obtain ⟨fuel, hf⟩ := h
  obtain ⟨_, _, _, _, hl, _, _⟩ := DataW.trod_array ht hf
  obtain ⟨cs, rfl, hcs⟩ := agg_cells (n := 3) (by decide) (hl.trans hct)
  match cs, hcs with
  | [c0, c1, c2], _ =>
    obtain ⟨y0, y1, y2, n, -, h0, h1, h2⟩ := Go.ChangeShapes.trod_array3 ht hce hf
    obtain ⟨b0, e0, w0⟩ := trod_float he h0
    obtain ⟨b1, e1, w1⟩ := trod_float he h1
    obtain ⟨b2, e2, w2⟩ := trod_float he h2
    injection e0 with e0; injection e1 with e1; injection e2 with e2
    subst e0 e1 e2
    exact ⟨b0, b1, b2, rfl, w0, w1, w2⟩
end
end Go.Proofs.Ytkmganophcklgaa
