/- Contracts of the higher functions on pixels: three. Conditions: none. -/
import Derived.Test.YtflmfjimemhooaaMw
import Derived.Test.YtflmfjimemhooaaKp
import Derived.Deep.RegionWith
import Derived.Handy
namespace Go.Proofs.Ytflmfjimemhooaa
open Go.RowKit
open Fl

/-- A function value that answers a single, whatever NaN, and turns only the blocks of A. -/
def Quiets (A : Nat → Prop) (I : Int → World → Prop) (g : FuncId) (caps : Array Value) (p : Int → Nat) (F : Int → Nat) (w : World) : Prop :=
  ∀ (c : Int) (wr : World), 0 ≤ c → c < 3 → Kept A w wr → I c wr →
    Calls Try.prog g (#[.int .i64 c, .float .f32 (p c)] ++ caps) wr fun e w'' => ∃ r, e = .returned (.float .f32 r) ∧ cl .f32 r = F c ∧ Kept A wr w'' ∧ I (c + 1) w''

end Go.Proofs.Ytflmfjimemhooaa
