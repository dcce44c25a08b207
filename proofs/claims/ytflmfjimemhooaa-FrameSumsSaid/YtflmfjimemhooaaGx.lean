/- Contracts of Compress, CompressedOf. Conditions: none. -/
import Derived.Test.YtflmfjimemhooaaGw
import Derived.Laws.ResultCell
namespace Go.Proofs.Ytflmfjimemhooaa
open Go.RowKit
open Fl Fr

theorem cells_set4 {W : World} {B : Nat} {v0 v1 v2 v3 u0 u1 u2 u3 : Value} (r0 : W.cell? ⟨B, 0, none⟩ = some u0) (r1 : W.cell? ⟨B, 1, none⟩ = some u1) (r2 : W.cell? ⟨B, 2, none⟩ = some u2) (r3 : W.cell? ⟨B, 3, none⟩ = some u3) :
    ((((W.setCell ⟨B, 0, none⟩ v0).setCell ⟨B, 1, none⟩ v1).setCell ⟨B, 2, none⟩ v2).setCell ⟨B, 3, none⟩ v3).cell? ⟨B, 0, none⟩ = some v0 ∧
    ((((W.setCell ⟨B, 0, none⟩ v0).setCell ⟨B, 1, none⟩ v1).setCell ⟨B, 2, none⟩ v2).setCell ⟨B, 3, none⟩ v3).cell? ⟨B, 1, none⟩ = some v1 ∧
    ((((W.setCell ⟨B, 0, none⟩ v0).setCell ⟨B, 1, none⟩ v1).setCell ⟨B, 2, none⟩ v2).setCell ⟨B, 3, none⟩ v3).cell? ⟨B, 2, none⟩ = some v2 ∧
    ((((W.setCell ⟨B, 0, none⟩ v0).setCell ⟨B, 1, none⟩ v1).setCell ⟨B, 2, none⟩ v2).setCell ⟨B, 3, none⟩ v3).cell? ⟨B, 3, none⟩ = some v3 :=
  ⟨cell_set_ne (cell_set_ne (cell_set_ne (cell_set_eq r0) (by omega)) (by omega)) (by omega), cell_set_ne (cell_set_ne (cell_set_eq (cell_set_ne r1 (by omega))) (by omega)) (by omega),
   cell_set_ne (cell_set_eq (cell_set_ne (cell_set_ne r2 (by omega)) (by omega))) (by omega), cell_set_eq (cell_set_ne (cell_set_ne (cell_set_ne r3 (by omega)) (by omega)) (by omega))⟩

def maxP (p0 p1 p2 : Nat) : Nat :=
  if FloatKind.f32.format.order p2 (if FloatKind.f32.format.order p1 p0 == some .gt then p1 else p0) == some .gt then p2 else if FloatKind.f32.format.order p1 p0 == some .gt then p1 else p0
def staysP (p0 p1 p2 : Nat) : Bool := !(FloatKind.f32.format.order (maxP p0 p1 p2) 0 == some .gt) || (!isN p0 || !isN p1 || !isN p2)

end Go.Proofs.Ytflmfjimemhooaa
