/- Contracts of Compress, Clip and of those of the reference. Conditions: none. -/
import Derived.Test.YtflmfjimemhooaaIs
import Derived.Test.YtflmfjimemhooaaTw
import Derived.Deep.RegionHeld3
namespace Go.Proofs.Ytflmfjimemhooaa
open Go.RowKit
open Fl Fr

theorem isN_cl (b : Nat) : isN (cl .f32 b) = isN b := by
  cases h : nan .f32 b with
  | true => rw [cl_nan h, isN_nan h, isN_nan (nan_qn _)]
  | false => rw [cl_not h]
theorem isN_fV (op : BinOp) (x y : Nat) (w : World) : isN (fV op .f32 x y w) = isN (fC op .f32 x y) := by rw [← isN_cl, cl_fV']
theorem cl_isN {b : Nat} (h : isN b = true) : cl .f32 b = b := cl_not (isN_not h)

def cmpD (a v : Nat) : Nat := fC .quo .f32 (fC .sub .f32 a v) a
def cmpX (a v fr : Nat) : Nat := fC .quo .f32 (fC .sub .f32 (cmpD a v) fr) (fC .sub .f32 1065353216 fr)
def cmpY (a v fr : Nat) : Nat := if isN (cmpX a v fr) then fC .quo .f32 (cmpX a v fr) (fC .add .f32 1065353216 (cmpX a v fr)) else 1065353216
def cmpR (a fr y : Nat) : Nat := fC .sub .f32 a (fC .mul .f32 (fC .add .f32 fr (fC .mul .f32 (fC .sub .f32 1065353216 fr) y)) a)
def cmpP (a v fr : Nat) (st : Bool) : Nat :=
  if st || !(FloatKind.f32.format.order (cmpD a v) fr == some .gt) then cl .f32 v else cmpR a fr (cmpY a v fr)
theorem cmp_gt {a v fr : Nat} {b : Bool} (h : (FloatKind.f32.format.order (cmpD a v) fr == some .gt) = b) (w1 w2 : World) :
    (FloatKind.f32.format.order (fV .quo .f32 (fV .sub .f32 a v w1) a w2) fr == some .gt) = b := by rw [order_fV_l, fC_fV_l]; exact h
theorem cmp_is {a v fr : Nat} {b : Bool} (h : isN (cmpX a v fr) = b) (w1 w2 w3 w4 w5 : World) :
    isN (fV .quo .f32 (fV .sub .f32 (fV .quo .f32 (fV .sub .f32 a v w1) a w2) fr w3) (fV .sub .f32 1065353216 fr w4) w5) = b := by
  rw [isN_fV, fC_fV_l, fC_fV_r, fC_fV_l, fC_fV_l]; exact h

def cmpZ (a v fr : Nat) : Nat := if FloatKind.f32.format.order (cmpX a v fr) 2139095039 == some .gt then 1065353216 else fC .quo .f32 (cmpX a v fr) (fC .add .f32 1065353216 (cmpX a v fr))
def cmpQ (a fr v : Nat) : Nat := if FloatKind.f32.format.order (cmpD a v) fr == some .gt then cmpR a fr (cmpZ a v fr) else v
theorem cmp_big {a v fr : Nat} {b : Bool} (h : (FloatKind.f32.format.order (cmpX a v fr) 2139095039 == some .gt) = b) (w1 w2 w3 w4 w5 : World) :
    (FloatKind.f32.format.order (fV .quo .f32 (fV .sub .f32 (fV .quo .f32 (fV .sub .f32 a v w1) a w2) fr w3) (fV .sub .f32 1065353216 fr w4) w5) 2139095039 == some .gt) = b := by
  rw [order_fV_l, fC_fV_l, fC_fV_r, fC_fV_l, fC_fV_l]; exact h
def Plain (g : FuncId) (caps : Array Value) (F : Nat → Nat) (w : World) : Prop :=
  ∀ (v : Nat) (wr : World), Kept None' w wr → Calls Try.prog g (#[.float .f32 v] ++ caps) wr fun e w'' => e = .returned (.float .f32 (F v)) ∧ Kept None' wr w''

/-- What a cell holds. -/
def rd (w : World) (a : Addr) : Value := (w.cell? a).getD undef
theorem rd_of {w : World} {a : Addr} {v : Value} (h : w.cell? a = some v) : w.cell? a = some (rd w a) := by unfold rd; rw [h]; rfl

theorem four {P : Nat → Prop} (h0 : P 0) (h1 : P 1) (h2 : P 2) (h3 : P 3) : ∀ j, j < 4 → P j := fun j hj => by
  match j, hj with
  | 0, _ => exact h0
  | 1, _ => exact h1
  | 2, _ => exact h2
  | 3, _ => exact h3
end Go.Proofs.Ytflmfjimemhooaa
