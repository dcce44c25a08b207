/-
  No cell of these rows narrows 'for every input' (looked for: loops, veiled, ifaces, maps, wideKeys, modest, calm, conditions, laid).
  DERIVED. THE GIVEN ROWS OF THIS SEAT. 8 by the template 'for every input the law returns true; each argument reads behind the call as it read before'; 0 by the template 'total and deterministic' (their statements: YtfphhlodfieopaaTotals.lean).
  GIVEN WITH THE SEED: the statements are not yours to turn. If you find one false, say at which input.
  Laid BY PROGRAM, IN A SANDBOX (cutbox-rows.mjs): the forced cells as the released guide's own fill.sh prints them over the translation bed8f127f0a0ccf0… (all of the seat's roots in one cut). By AI agents, Wed Nov 11 2026. No macro, syntax, notation, axiom, sorry.
-/
import Derived.Test.YtfphhlodfieopaaChecked
import GoSem.Claim
import GoSem.ClaimJoined
import GoSem.ClaimMapViews
import Derived.JoinedTies
import Derived.KernelRfl
namespace Go.Proofs.Ytfphhlodfieopaa
/- THE CELL 'sum', in the pinned program and in every row, IS THE sha256 OF THE DUMP (.gsa) THAT YtfphhlodfieopaaProg.lean LOADS. Nothing in Lean hashes anything: it is a label: what it is worth is what the hold of that sum in a sandbox is worth. -/
noncomputable def Try.pinned : Pinned := { name := "ytfphhlodfieopaa", sum := "bed8f127f0a0ccf0f7e40c3eae9caaccdbe9d33d0af1e3e00252bf292498fb49", checked := Try.checked }
namespace Rows
def none {H : Type} : Left H := { results := [], args := [] }

/-- 'dyelaw2.LevelsAsFrames': WHATEVER THE INPUT: true; the input reads as it did. -/
def levelsAsFramesSpec : ChangeSpec := { name := "levelsAsFrames", fn := fun _ => fun
  | [d1, d2, d3] => { results := [.lit (.bool true)], args := [d1, d2, d3] }
  | _ => none }
def levelsAsFramesRow : OpenClaim := { program := "ytfphhlodfieopaa", sum := "bed8f127f0a0ccf0f7e40c3eae9caaccdbe9d33d0af1e3e00252bf292498fb49", func := "dyehouse/dyelaw2.LevelsAsFrames", spec := "levelsAsFrames", inPlace := ["math.RoundToEven", "math.Float32bits"], unfollowed := true, recurses := true, apart := false }
def LevelsAsFramesSaid : Prop := levelsAsFramesRow.holds Try.pinned (OpenSpec.ofChange levelsAsFramesSpec)

/-- ITS FALSE NEIGHBOUR: 'it returns false'. Refute it at one input. -/
def levelsAsFramesWrong : ChangeSpec := { name := "levelsAsFrames", fn := fun _ => fun
  | [d1, d2, d3] => { results := [.lit (.bool false)], args := [d1, d2, d3] }
  | _ => none }
def LevelsAsFramesWrongFalsely : Prop := levelsAsFramesRow.holds Try.pinned (OpenSpec.ofChange levelsAsFramesWrong)

/-- 'dyelaw2.GamutsMatch': WHATEVER THE INPUT: true; the input reads as it did. -/
def gamutsMatchSpec : ChangeSpec := { name := "gamutsMatch", fn := fun _ => fun
  | [d1, d2, d3, d4] => { results := [.lit (.bool true)], args := [d1, d2, d3, d4] }
  | _ => none }
def gamutsMatchRow : OpenClaim := { program := "ytfphhlodfieopaa", sum := "bed8f127f0a0ccf0f7e40c3eae9caaccdbe9d33d0af1e3e00252bf292498fb49", func := "dyehouse/dyelaw2.GamutsMatch", spec := "gamutsMatch", inPlace := ["math.Float32frombits", "math.RoundToEven", "math.Float32bits"], unfollowed := true, recurses := true, apart := false }
def GamutsMatchSaid : Prop := gamutsMatchRow.holds Try.pinned (OpenSpec.ofChange gamutsMatchSpec)

/-- ITS FALSE NEIGHBOUR: 'it returns false'. Refute it at one input. -/
def gamutsMatchWrong : ChangeSpec := { name := "gamutsMatch", fn := fun _ => fun
  | [d1, d2, d3, d4] => { results := [.lit (.bool false)], args := [d1, d2, d3, d4] }
  | _ => none }
def GamutsMatchWrongFalsely : Prop := gamutsMatchRow.holds Try.pinned (OpenSpec.ofChange gamutsMatchWrong)

/-- 'dyelaw2.PacksMatch': WHATEVER THE INPUT: true; the input reads as it did. -/
def packsMatchSpec : ChangeSpec := { name := "packsMatch", fn := fun _ => fun
  | [d1, d2, d3, d4] => { results := [.lit (.bool true)], args := [d1, d2, d3, d4] }
  | _ => none }
def packsMatchRow : OpenClaim := { program := "ytfphhlodfieopaa", sum := "bed8f127f0a0ccf0f7e40c3eae9caaccdbe9d33d0af1e3e00252bf292498fb49", func := "dyehouse/dyelaw2.PacksMatch", spec := "packsMatch", inPlace := ["math.RoundToEven"], apart := false }
def PacksMatchSaid : Prop := packsMatchRow.holds Try.pinned (OpenSpec.ofChange packsMatchSpec)

/-- ITS FALSE NEIGHBOUR: 'it returns false'. Refute it at one input. -/
def packsMatchWrong : ChangeSpec := { name := "packsMatch", fn := fun _ => fun
  | [d1, d2, d3, d4] => { results := [.lit (.bool false)], args := [d1, d2, d3, d4] }
  | _ => none }
def PacksMatchWrongFalsely : Prop := packsMatchRow.holds Try.pinned (OpenSpec.ofChange packsMatchWrong)

/-- 'dyelaw2.SharpensAsSaid': WHATEVER THE INPUT: true; the input reads as it did. -/
def sharpensAsSaidSpec : ChangeSpec := { name := "sharpensAsSaid", fn := fun _ => fun
  | [d1, d2, d3] => { results := [.lit (.bool true)], args := [d1, d2, d3] }
  | _ => none }
def sharpensAsSaidRow : OpenClaim := { program := "ytfphhlodfieopaa", sum := "bed8f127f0a0ccf0f7e40c3eae9caaccdbe9d33d0af1e3e00252bf292498fb49", func := "dyehouse/dyelaw2.SharpensAsSaid", spec := "sharpensAsSaid", inPlace := ["math.Float64bits", "math.Float64frombits", "math.Float32frombits", "math.RoundToEven", "math.Float32bits"], unfollowed := true, recurses := true, apart := false }
def SharpensAsSaidSaid : Prop := sharpensAsSaidRow.holds Try.pinned (OpenSpec.ofChange sharpensAsSaidSpec)

/-- ITS FALSE NEIGHBOUR: 'it returns false'. Refute it at one input. -/
def sharpensAsSaidWrong : ChangeSpec := { name := "sharpensAsSaid", fn := fun _ => fun
  | [d1, d2, d3] => { results := [.lit (.bool false)], args := [d1, d2, d3] }
  | _ => none }
def SharpensAsSaidWrongFalsely : Prop := sharpensAsSaidRow.holds Try.pinned (OpenSpec.ofChange sharpensAsSaidWrong)

/-- 'dyelaw2.GrainsMatch': WHATEVER THE INPUT: true; the input reads as it did. -/
def grainsMatchSpec : ChangeSpec := { name := "grainsMatch", fn := fun _ => fun
  | [d1, d2, d3, d4, d5, d6] => { results := [.lit (.bool true)], args := [d1, d2, d3, d4, d5, d6] }
  | _ => none }
def grainsMatchRow : OpenClaim := { program := "ytfphhlodfieopaa", sum := "bed8f127f0a0ccf0f7e40c3eae9caaccdbe9d33d0af1e3e00252bf292498fb49", func := "dyehouse/dyelaw2.GrainsMatch", spec := "grainsMatch", inPlace := ["math.Float32frombits", "math.RoundToEven", "math.Float32bits"], unfollowed := true, recurses := true, apart := false }
def GrainsMatchSaid : Prop := grainsMatchRow.holds Try.pinned (OpenSpec.ofChange grainsMatchSpec)

/-- ITS FALSE NEIGHBOUR: 'it returns false'. Refute it at one input. -/
def grainsMatchWrong : ChangeSpec := { name := "grainsMatch", fn := fun _ => fun
  | [d1, d2, d3, d4, d5, d6] => { results := [.lit (.bool false)], args := [d1, d2, d3, d4, d5, d6] }
  | _ => none }
def GrainsMatchWrongFalsely : Prop := grainsMatchRow.holds Try.pinned (OpenSpec.ofChange grainsMatchWrong)

/-- 'dyelaw2.FramesOfLevels': WHATEVER THE INPUT: true; the input reads as it did. -/
def framesOfLevelsSpec : ChangeSpec := { name := "framesOfLevels", fn := fun _ => fun
  | [d1, d2, d3, d4] => { results := [.lit (.bool true)], args := [d1, d2, d3, d4] }
  | _ => none }
def framesOfLevelsRow : OpenClaim := { program := "ytfphhlodfieopaa", sum := "bed8f127f0a0ccf0f7e40c3eae9caaccdbe9d33d0af1e3e00252bf292498fb49", func := "dyehouse/dyelaw2.FramesOfLevels", spec := "framesOfLevels", inPlace := ["math.RoundToEven"], unfollowed := true, recurses := true, apart := false }
def FramesOfLevelsSaid : Prop := framesOfLevelsRow.holds Try.pinned (OpenSpec.ofChange framesOfLevelsSpec)

/-- ITS FALSE NEIGHBOUR: 'it returns false'. Refute it at one input. -/
def framesOfLevelsWrong : ChangeSpec := { name := "framesOfLevels", fn := fun _ => fun
  | [d1, d2, d3, d4] => { results := [.lit (.bool false)], args := [d1, d2, d3, d4] }
  | _ => none }
def FramesOfLevelsWrongFalsely : Prop := framesOfLevelsRow.holds Try.pinned (OpenSpec.ofChange framesOfLevelsWrong)

/-- 'dyelaw2.VignettesMatch': WHATEVER THE INPUT: true; the input reads as it did. -/
def vignettesMatchSpec : ChangeSpec := { name := "vignettesMatch", fn := fun _ => fun
  | [d1, d2] => { results := [.lit (.bool true)], args := [d1, d2] }
  | _ => none }
def vignettesMatchRow : OpenClaim := { program := "ytfphhlodfieopaa", sum := "bed8f127f0a0ccf0f7e40c3eae9caaccdbe9d33d0af1e3e00252bf292498fb49", func := "dyehouse/dyelaw2.VignettesMatch", spec := "vignettesMatch", inPlace := ["math.sqrt", "math.Float32frombits", "math.RoundToEven", "math.Float32bits"], unfollowed := true, recurses := true, apart := false }
def VignettesMatchSaid : Prop := vignettesMatchRow.holds Try.pinned (OpenSpec.ofChange vignettesMatchSpec)

/-- ITS FALSE NEIGHBOUR: 'it returns false'. Refute it at one input. -/
def vignettesMatchWrong : ChangeSpec := { name := "vignettesMatch", fn := fun _ => fun
  | [d1, d2] => { results := [.lit (.bool false)], args := [d1, d2] }
  | _ => none }
def VignettesMatchWrongFalsely : Prop := vignettesMatchRow.holds Try.pinned (OpenSpec.ofChange vignettesMatchWrong)

/-- 'dyetop.TopLevels': WHATEVER THE INPUT: true; the input reads as it did. -/
def topLevelsSpec : ChangeSpec := { name := "topLevels", fn := fun _ => fun
  | [d1, d2, d3, d4] => { results := [.lit (.bool true)], args := [d1, d2, d3, d4] }
  | _ => none }
def topLevelsRow : OpenClaim := { program := "ytfphhlodfieopaa", sum := "bed8f127f0a0ccf0f7e40c3eae9caaccdbe9d33d0af1e3e00252bf292498fb49", func := "dyehouse/dyetop.TopLevels", spec := "topLevels", inPlace := ["math.Float32frombits", "math.Float32bits", "math.RoundToEven", "math.Float64bits", "math.Float64frombits"], unfollowed := true, recurses := true, apart := false }
def TopLevelsSaid : Prop := topLevelsRow.holds Try.pinned (OpenSpec.ofChange topLevelsSpec)

/-- ITS FALSE NEIGHBOUR: 'it returns false'. Refute it at one input. -/
def topLevelsWrong : ChangeSpec := { name := "topLevels", fn := fun _ => fun
  | [d1, d2, d3, d4] => { results := [.lit (.bool false)], args := [d1, d2, d3, d4] }
  | _ => none }
def TopLevelsWrongFalsely : Prop := topLevelsRow.holds Try.pinned (OpenSpec.ofChange topLevelsWrong)

/- THE SECOND FORM. 'bulk': how many values and letters a reading holds, each counted each time it is reached (what is shared counts as often as it is met; a slice's spare places count too). A statement '..UptoSaid' is the law's where the arguments, and the package variables that the reading takes, are together of bulk at most 1048576: NARROWER than '..Said'. Prove '..Said' where nothing that the law and all that it calls make is longer than what came in: it says more and counts as full. Else prove '..UptoSaid'. A law counts once. -/
mutual
def uptoBulk {H : Type} : DataW H → Nat
  | .lit (.string bytes) => bytes.length + 1
  | .lit _ => 1
  | .nil => 1
  | .ptr d => uptoBulk d + 1
  | .slice elems spare => uptoBulkAll elems + uptoBulkAll spare + 1
  | .agg parts => uptoBulkAll parts + 1
  | .iface _ d => uptoBulk d + 1
  | .map entries => uptoBulkEntries entries + 1
  | .held _ => 1
def uptoBulkAll {H : Type} : List (DataW H) → Nat
  | [] => 0
  | d :: r => uptoBulk d + uptoBulkAll r
def uptoBulkEntries {H : Type} : List (Lit × DataW H) → Nat
  | [] => 0
  | x :: r => uptoBulkEntry x + uptoBulkEntries r
def uptoBulkEntry {H : Type} : Lit × DataW H → Nat
  | (.string bytes, d) => bytes.length + uptoBulk d + 1
  | (_, d) => uptoBulk d + 1
 end
def uptoSmall : (H : Type) → List (DataW H) → Bool := fun _ ds => decide (uptoBulkAll ds ≤ 1048576)
def OpenSpec.upto (s : _root_.Go.ChangeSpec) : _root_.Go.OpenSpec := { _root_.Go.OpenSpec.ofChange s with cond := some uptoSmall }

/-- 'dyelaw2.LevelsAsFrames', WHERE WHAT IT READS IS OF BULK AT MOST 1048576: true; the input reads as it did. -/
def levelsAsFramesUptoRow : OpenClaim := { program := "ytfphhlodfieopaa", sum := "bed8f127f0a0ccf0f7e40c3eae9caaccdbe9d33d0af1e3e00252bf292498fb49", func := "dyehouse/dyelaw2.LevelsAsFrames", spec := "levelsAsFrames", inPlace := ["math.RoundToEven", "math.Float32bits"], unfollowed := true, recurses := true, apart := false, narrowed := true }
def LevelsAsFramesUptoSaid : Prop := levelsAsFramesUptoRow.holds Try.pinned (OpenSpec.upto levelsAsFramesSpec)

/-- 'dyelaw2.GamutsMatch', WHERE WHAT IT READS IS OF BULK AT MOST 1048576: true; the input reads as it did. -/
def gamutsMatchUptoRow : OpenClaim := { program := "ytfphhlodfieopaa", sum := "bed8f127f0a0ccf0f7e40c3eae9caaccdbe9d33d0af1e3e00252bf292498fb49", func := "dyehouse/dyelaw2.GamutsMatch", spec := "gamutsMatch", inPlace := ["math.Float32frombits", "math.RoundToEven", "math.Float32bits"], unfollowed := true, recurses := true, apart := false, narrowed := true }
def GamutsMatchUptoSaid : Prop := gamutsMatchUptoRow.holds Try.pinned (OpenSpec.upto gamutsMatchSpec)

/-- 'dyelaw2.PacksMatch', WHERE WHAT IT READS IS OF BULK AT MOST 1048576: true; the input reads as it did. -/
def packsMatchUptoRow : OpenClaim := { program := "ytfphhlodfieopaa", sum := "bed8f127f0a0ccf0f7e40c3eae9caaccdbe9d33d0af1e3e00252bf292498fb49", func := "dyehouse/dyelaw2.PacksMatch", spec := "packsMatch", inPlace := ["math.RoundToEven"], apart := false, narrowed := true }
def PacksMatchUptoSaid : Prop := packsMatchUptoRow.holds Try.pinned (OpenSpec.upto packsMatchSpec)

/-- 'dyelaw2.SharpensAsSaid', WHERE WHAT IT READS IS OF BULK AT MOST 1048576: true; the input reads as it did. -/
def sharpensAsSaidUptoRow : OpenClaim := { program := "ytfphhlodfieopaa", sum := "bed8f127f0a0ccf0f7e40c3eae9caaccdbe9d33d0af1e3e00252bf292498fb49", func := "dyehouse/dyelaw2.SharpensAsSaid", spec := "sharpensAsSaid", inPlace := ["math.Float64bits", "math.Float64frombits", "math.Float32frombits", "math.RoundToEven", "math.Float32bits"], unfollowed := true, recurses := true, apart := false, narrowed := true }
def SharpensAsSaidUptoSaid : Prop := sharpensAsSaidUptoRow.holds Try.pinned (OpenSpec.upto sharpensAsSaidSpec)

/-- 'dyelaw2.GrainsMatch', WHERE WHAT IT READS IS OF BULK AT MOST 1048576: true; the input reads as it did. -/
def grainsMatchUptoRow : OpenClaim := { program := "ytfphhlodfieopaa", sum := "bed8f127f0a0ccf0f7e40c3eae9caaccdbe9d33d0af1e3e00252bf292498fb49", func := "dyehouse/dyelaw2.GrainsMatch", spec := "grainsMatch", inPlace := ["math.Float32frombits", "math.RoundToEven", "math.Float32bits"], unfollowed := true, recurses := true, apart := false, narrowed := true }
def GrainsMatchUptoSaid : Prop := grainsMatchUptoRow.holds Try.pinned (OpenSpec.upto grainsMatchSpec)

/-- 'dyelaw2.FramesOfLevels', WHERE WHAT IT READS IS OF BULK AT MOST 1048576: true; the input reads as it did. -/
def framesOfLevelsUptoRow : OpenClaim := { program := "ytfphhlodfieopaa", sum := "bed8f127f0a0ccf0f7e40c3eae9caaccdbe9d33d0af1e3e00252bf292498fb49", func := "dyehouse/dyelaw2.FramesOfLevels", spec := "framesOfLevels", inPlace := ["math.RoundToEven"], unfollowed := true, recurses := true, apart := false, narrowed := true }
def FramesOfLevelsUptoSaid : Prop := framesOfLevelsUptoRow.holds Try.pinned (OpenSpec.upto framesOfLevelsSpec)

/-- 'dyelaw2.VignettesMatch', WHERE WHAT IT READS IS OF BULK AT MOST 1048576: true; the input reads as it did. -/
def vignettesMatchUptoRow : OpenClaim := { program := "ytfphhlodfieopaa", sum := "bed8f127f0a0ccf0f7e40c3eae9caaccdbe9d33d0af1e3e00252bf292498fb49", func := "dyehouse/dyelaw2.VignettesMatch", spec := "vignettesMatch", inPlace := ["math.sqrt", "math.Float32frombits", "math.RoundToEven", "math.Float32bits"], unfollowed := true, recurses := true, apart := false, narrowed := true }
def VignettesMatchUptoSaid : Prop := vignettesMatchUptoRow.holds Try.pinned (OpenSpec.upto vignettesMatchSpec)

/-- 'dyetop.TopLevels', WHERE WHAT IT READS IS OF BULK AT MOST 1048576: true; the input reads as it did. -/
def topLevelsUptoRow : OpenClaim := { program := "ytfphhlodfieopaa", sum := "bed8f127f0a0ccf0f7e40c3eae9caaccdbe9d33d0af1e3e00252bf292498fb49", func := "dyehouse/dyetop.TopLevels", spec := "topLevels", inPlace := ["math.Float32frombits", "math.Float32bits", "math.RoundToEven", "math.Float64bits", "math.Float64frombits"], unfollowed := true, recurses := true, apart := false, narrowed := true }
def TopLevelsUptoSaid : Prop := topLevelsUptoRow.holds Try.pinned (OpenSpec.upto topLevelsSpec)

end Rows
end Go.Proofs.Ytfphhlodfieopaa
