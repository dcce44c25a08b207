/- 'ext w x': the worlds in which of w nothing has turned (new blocks, draws): a class for regions that draw their order. Conditions: none. -/
import Derived.Test.YtflmfjimemhooaaKp
import Derived.Deep.QuietTactic
import Derived.BigQuiet
import Derived.LoopTactic
namespace Go.Proofs.Ytflmfjimemhooaa
open Go.RowKit
open Fl

noncomputable def ext (w x : World) : World := open Classical in if Kept None' w x then x else w
theorem ext_of {w x : World} (h : Kept None' w x) : ext w x = x := by unfold ext; rw [if_pos h]
theorem ext_self (w : World) : ext w w = w := ext_of (Kept.refl _ _)
theorem ext_kept (w x : World) : Kept None' w (ext w x) := by
  unfold ext
  split
  · assumption
  · exact Kept.refl _ _
theorem ext_cell {w : World} {a : Addr} {v : Value} (h : w.cell? a = some v) (x : World) : (ext w x).cell? a = some v := (ext_kept w x).some h (fun f => f)
theorem ext_frozen (w : World) (a : Addr) (x : World) : (ext w x).frozen? a = w.frozen? a := (ext_kept w x).frozen a
theorem ext_step {w x y : World} (h : Kept None' (ext w x) y) : ∃ z, y = ext w z := ⟨y, (ext_of ((ext_kept w x).trans h)).symm⟩
theorem ext_drew (w x : World) (n : Nat) : ∃ z, (ext w x).drewN n = ext w z := ext_step ((Kept.refl _ _).drew n)
theorem calls_ext {P : Program} {f : FuncId} {args : Array Value} {w x : World} {v : Value} (h : Calls P f args (ext w x) fun e w' => e = .returned v ∧ Kept None' (ext w x) w') :
    Calls P f args (ext w x) fun e w'' => e = .returned v ∧ ∃ y, w'' = ext w y := h.mono fun _ _ ⟨he, hk⟩ => ⟨he, ext_step hk⟩
theorem calls_ext_same {P : Program} {f : FuncId} {args : Array Value} {w x : World} {v : Value} (h : Calls P f args (ext w x) fun e w' => e = .returned v ∧ ext w x = w') :
    Calls P f args (ext w x) fun e w'' => e = .returned v ∧ ∃ y, w'' = ext w y := h.mono fun _ _ ⟨he, hk⟩ => ⟨he, x, hk.symm⟩
theorem calls_ext_drew {P : Program} {f : FuncId} {args : Array Value} {w x : World} {v : Value} (h : Calls P f args (ext w x) fun e w' => e = .returned v ∧ ∃ n, w' = (ext w x).drewN n) :
    Calls P f args (ext w x) fun e w'' => e = .returned v ∧ ∃ y, w'' = ext w y := h.mono fun _ _ ⟨he, n, hk⟩ => ⟨he, by rw [hk]; exact ext_drew _ _ _⟩
theorem calls_ext_grown {P : Program} {f : FuncId} {args : Array Value} {w x : World} {v : Value} (h : Calls P f args (ext w x) fun e w' => e = .returned v ∧ Grown (ext w x) w') :
    Calls P f args (ext w x) fun e w'' => e = .returned v ∧ ∃ y, w'' = ext w y := calls_ext (h.mono fun _ _ ⟨he, hk⟩ => ⟨he, grown_kept hk⟩)
theorem region_ext {P : Program} {id : Nat} {Q : Exit → Act → World → Prop} {a : Act} {w : World} {l : List Oper} (hm : P.follows .mixedOrders = true) (hB : Region.lexB .any l.toArray = true)
    (h : wpQuiet P l.toArray (fun w' => ∃ x : World, w' = ext w x) (fun a' => ∀ w', (∃ x : World, w' = ext w x) → Q .normal a' w') l a) : (Code.region id l.toArray true).wp P Q a w :=
  wp_region_quiet (C := fun w' => ∃ x : World, w' = ext w x) hm hB ⟨w.drew, (ext_of (w := w) (x := w.drew) ((Kept.refl _ _).drew 1)).symm⟩ (by simpa using h)
theorem of_world {P : Program} {c : Code} {Q : Exit → Act → World → Prop} {a : Act} {w : World} (h : ∀ W, W = w → c.wp P Q a W) : c.wp P Q a w := h w rfl
end Go.Proofs.Ytflmfjimemhooaa
