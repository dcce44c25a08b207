/- Contracts of the higher functions on pixels: three. Conditions: none. -/
import Derived.Test.YtkmganophcklgaaMw
import Derived.Test.YtkmganophcklgaaKp
import Derived.Deep.RegionWith
import Derived.Handy
namespace Go.Proofs.Ytkmganophcklgaa
open Go.RowKit
open Fl

/-- A function value that answers a single, whatever NaN, and turns only the blocks of A. -/
def Quiets (A : Nat → Prop) (I : Int → World → Prop) (g : FuncId) (caps : Array Value) (p : Int → Nat) (F : Int → Nat) (w : World) : Prop :=
  ∀ (c : Int) (wr : World), 0 ≤ c → c < 3 → Kept A w wr → I c wr →
    Calls Try.prog g (#[.int .i64 c, .float .f32 (p c)] ++ caps) wr fun e w'' => ∃ r, e = .returned (.float .f32 r) ∧ cl .f32 r = F c ∧ Kept A wr w'' ∧ I (c + 1) w''

theorem px_ret {fn : Func} {t : Tmp} (hr : fn.results = #[.cell t 56]) (W : World) (tmps : Array Value) (B : Nat) (v0 v1 v2 v3 : Value) (e0 : W.cell? ⟨B, 0, none⟩ = some v0) (e1 : W.cell? ⟨B, 1, none⟩ = some v1) (e2 : W.cell? ⟨B, 2, none⟩ = some v2) (e3 : W.cell? ⟨B, 3, none⟩ = some v3)
    (ht : tmps[t]?.getD undef = .pointer (some ⟨B, 0, none⟩)) : (results fn tmps).run Try.prog W = .ok (.agg #[v0, v1, v2, v3]) W := by
  simp [results, hr, go_sem, ht, e0, e1, e2, e3]
  try rfl

end Go.Proofs.Ytkmganophcklgaa
