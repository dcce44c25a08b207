/-
  No cell of these rows narrows 'for every input' (looked for: loops, veiled, ifaces, maps, wideKeys, modest, calm, conditions, laid).
  DERIVED. THE GIVEN ROWS OF THIS SEAT. 8 by the template 'for every input the law returns true; each argument reads behind the call as it read before'; 0 by the template 'total and deterministic' (their statements: YtkmganophcklgaaTotals.lean).
  GIVEN WITH THE SEED: the statements are not yours to turn. If you find one false, say at which input.
  Laid BY PROGRAM, IN A SANDBOX (cutbox-rows.mjs): the forced cells as the released guide's own fill.sh prints them over the translation 9064a03ad255d61f… (all of the seat's roots in one cut). By AI agents, Wed Nov 11 2026. No macro, syntax, notation, axiom, sorry.
-/
import Derived.Test.YtkmganophcklgaaChecked
import GoSem.Claim
import GoSem.ClaimJoined
import GoSem.ClaimMapViews
import Derived.JoinedTies
import Derived.KernelRfl
namespace Go.Proofs.Ytkmganophcklgaa
/- THE CELL 'sum', in the pinned program and in every row, IS THE sha256 OF THE DUMP (.gsa) THAT YtkmganophcklgaaProg.lean LOADS. Nothing in Lean hashes anything: it is a label: what it is worth is what the hold of that sum in a sandbox is worth. -/
noncomputable def Try.pinned : Pinned := { name := "ytkmganophcklgaa", sum := "9064a03ad255d61f9085d88c8f9b60f3d61c8d99cd51b05e59142cd145a9ae5b", checked := Try.checked }
namespace Rows
def none {H : Type} : Left H := { results := [], args := [] }

/-- 'dyelaw2.CubesSmooth': WHATEVER THE INPUT: true; the input reads as it did. -/
def cubesSmoothSpec : ChangeSpec := { name := "cubesSmooth", fn := fun _ => fun
  | [d1, d2] => { results := [.lit (.bool true)], args := [d1, d2] }
  | _ => none }
def cubesSmoothRow : OpenClaim := { program := "ytkmganophcklgaa", sum := "9064a03ad255d61f9085d88c8f9b60f3d61c8d99cd51b05e59142cd145a9ae5b", func := "dyehouse/dyelaw2.CubesSmooth", spec := "cubesSmooth", inPlace := ["math.Float32frombits", "math.Float32bits"], unfollowed := true, recurses := true, apart := false }
def CubesSmoothSaid : Prop := cubesSmoothRow.holds Try.pinned (OpenSpec.ofChange cubesSmoothSpec)

/-- ITS FALSE NEIGHBOUR: 'it returns false'. Refute it at one input. -/
def cubesSmoothWrong : ChangeSpec := { name := "cubesSmooth", fn := fun _ => fun
  | [d1, d2] => { results := [.lit (.bool false)], args := [d1, d2] }
  | _ => none }
def CubesSmoothWrongFalsely : Prop := cubesSmoothRow.holds Try.pinned (OpenSpec.ofChange cubesSmoothWrong)

/-- 'dyelaw2.CubesMeasure': WHATEVER THE INPUT: true; the input reads as it did. -/
def cubesMeasureSpec : ChangeSpec := { name := "cubesMeasure", fn := fun _ => fun
  | [d1, d2] => { results := [.lit (.bool true)], args := [d1, d2] }
  | _ => none }
def cubesMeasureRow : OpenClaim := { program := "ytkmganophcklgaa", sum := "9064a03ad255d61f9085d88c8f9b60f3d61c8d99cd51b05e59142cd145a9ae5b", func := "dyehouse/dyelaw2.CubesMeasure", spec := "cubesMeasure", inPlace := ["math.Float32frombits", "math.Float32bits", "math.Float64frombits"], unfollowed := true, recurses := true, apart := false }
def CubesMeasureSaid : Prop := cubesMeasureRow.holds Try.pinned (OpenSpec.ofChange cubesMeasureSpec)

/-- ITS FALSE NEIGHBOUR: 'it returns false'. Refute it at one input. -/
def cubesMeasureWrong : ChangeSpec := { name := "cubesMeasure", fn := fun _ => fun
  | [d1, d2] => { results := [.lit (.bool false)], args := [d1, d2] }
  | _ => none }
def CubesMeasureWrongFalsely : Prop := cubesMeasureRow.holds Try.pinned (OpenSpec.ofChange cubesMeasureWrong)

/-- 'dyelaw2.CubesMatch': WHATEVER THE INPUT: true; the input reads as it did. -/
def cubesMatchSpec : ChangeSpec := { name := "cubesMatch", fn := fun _ => fun
  | [d1, d2, d3, d4, d5] => { results := [.lit (.bool true)], args := [d1, d2, d3, d4, d5] }
  | _ => none }
def cubesMatchRow : OpenClaim := { program := "ytkmganophcklgaa", sum := "9064a03ad255d61f9085d88c8f9b60f3d61c8d99cd51b05e59142cd145a9ae5b", func := "dyehouse/dyelaw2.CubesMatch", spec := "cubesMatch", inPlace := ["math.Float32frombits", "math.archFloor", "math.Float64bits", "math.Float64frombits", "math.archTrunc", "math.Float32bits"], unfollowed := true, recurses := true, apart := false }
def CubesMatchSaid : Prop := cubesMatchRow.holds Try.pinned (OpenSpec.ofChange cubesMatchSpec)

/-- ITS FALSE NEIGHBOUR: 'it returns false'. Refute it at one input. -/
def cubesMatchWrong : ChangeSpec := { name := "cubesMatch", fn := fun _ => fun
  | [d1, d2, d3, d4, d5] => { results := [.lit (.bool false)], args := [d1, d2, d3, d4, d5] }
  | _ => none }
def CubesMatchWrongFalsely : Prop := cubesMatchRow.holds Try.pinned (OpenSpec.ofChange cubesMatchWrong)

/-- 'dyelaw2.CubesSearch': WHATEVER THE INPUT: true; the input reads as it did. -/
def cubesSearchSpec : ChangeSpec := { name := "cubesSearch", fn := fun _ => fun
  | [d1, d2, d3] => { results := [.lit (.bool true)], args := [d1, d2, d3] }
  | _ => none }
def cubesSearchRow : OpenClaim := { program := "ytkmganophcklgaa", sum := "9064a03ad255d61f9085d88c8f9b60f3d61c8d99cd51b05e59142cd145a9ae5b", func := "dyehouse/dyelaw2.CubesSearch", spec := "cubesSearch", inPlace := ["math.archFloor", "math.Float64bits", "math.Float64frombits", "math.archTrunc", "math.Float32frombits", "math.Float32bits"], unfollowed := true, recurses := true, apart := false }
def CubesSearchSaid : Prop := cubesSearchRow.holds Try.pinned (OpenSpec.ofChange cubesSearchSpec)

/-- ITS FALSE NEIGHBOUR: 'it returns false'. Refute it at one input. -/
def cubesSearchWrong : ChangeSpec := { name := "cubesSearch", fn := fun _ => fun
  | [d1, d2, d3] => { results := [.lit (.bool false)], args := [d1, d2, d3] }
  | _ => none }
def CubesSearchWrongFalsely : Prop := cubesSearchRow.holds Try.pinned (OpenSpec.ofChange cubesSearchWrong)

/-- 'dyelaw2.CubesBound': WHATEVER THE INPUT: true; the input reads as it did. -/
def cubesBoundSpec : ChangeSpec := { name := "cubesBound", fn := fun _ => fun
  | [d1, d2] => { results := [.lit (.bool true)], args := [d1, d2] }
  | _ => none }
def cubesBoundRow : OpenClaim := { program := "ytkmganophcklgaa", sum := "9064a03ad255d61f9085d88c8f9b60f3d61c8d99cd51b05e59142cd145a9ae5b", func := "dyehouse/dyelaw2.CubesBound", spec := "cubesBound", inPlace := ["math.Float32frombits", "math.Float64frombits", "math.Float64bits", "math.archFloor", "math.archTrunc"], unfollowed := true, recurses := true, apart := false }
def CubesBoundSaid : Prop := cubesBoundRow.holds Try.pinned (OpenSpec.ofChange cubesBoundSpec)

/-- ITS FALSE NEIGHBOUR: 'it returns false'. Refute it at one input. -/
def cubesBoundWrong : ChangeSpec := { name := "cubesBound", fn := fun _ => fun
  | [d1, d2] => { results := [.lit (.bool false)], args := [d1, d2] }
  | _ => none }
def CubesBoundWrongFalsely : Prop := cubesBoundRow.holds Try.pinned (OpenSpec.ofChange cubesBoundWrong)

/-- 'dyelaw2.CubesApply': WHATEVER THE INPUT: true; the input reads as it did. -/
def cubesApplySpec : ChangeSpec := { name := "cubesApply", fn := fun _ => fun
  | [d1, d2, d3, d4] => { results := [.lit (.bool true)], args := [d1, d2, d3, d4] }
  | _ => none }
def cubesApplyRow : OpenClaim := { program := "ytkmganophcklgaa", sum := "9064a03ad255d61f9085d88c8f9b60f3d61c8d99cd51b05e59142cd145a9ae5b", func := "dyehouse/dyelaw2.CubesApply", spec := "cubesApply", inPlace := ["math.archFloor", "math.Float64bits", "math.Float64frombits", "math.archTrunc", "math.Float32frombits", "math.Float32bits"], unfollowed := true, recurses := true, apart := false }
def CubesApplySaid : Prop := cubesApplyRow.holds Try.pinned (OpenSpec.ofChange cubesApplySpec)

/-- ITS FALSE NEIGHBOUR: 'it returns false'. Refute it at one input. -/
def cubesApplyWrong : ChangeSpec := { name := "cubesApply", fn := fun _ => fun
  | [d1, d2, d3, d4] => { results := [.lit (.bool false)], args := [d1, d2, d3, d4] }
  | _ => none }
def CubesApplyWrongFalsely : Prop := cubesApplyRow.holds Try.pinned (OpenSpec.ofChange cubesApplyWrong)

/-- 'dyelaw2.CubesCompose': WHATEVER THE INPUT: true; the input reads as it did. -/
def cubesComposeSpec : ChangeSpec := { name := "cubesCompose", fn := fun _ => fun
  | [d1, d2, d3, d4] => { results := [.lit (.bool true)], args := [d1, d2, d3, d4] }
  | _ => none }
def cubesComposeRow : OpenClaim := { program := "ytkmganophcklgaa", sum := "9064a03ad255d61f9085d88c8f9b60f3d61c8d99cd51b05e59142cd145a9ae5b", func := "dyehouse/dyelaw2.CubesCompose", spec := "cubesCompose", inPlace := ["math.archFloor", "math.Float64bits", "math.Float64frombits", "math.archTrunc", "math.Float32frombits", "math.Float32bits"], unfollowed := true, recurses := true, apart := false }
def CubesComposeSaid : Prop := cubesComposeRow.holds Try.pinned (OpenSpec.ofChange cubesComposeSpec)

/-- ITS FALSE NEIGHBOUR: 'it returns false'. Refute it at one input. -/
def cubesComposeWrong : ChangeSpec := { name := "cubesCompose", fn := fun _ => fun
  | [d1, d2, d3, d4] => { results := [.lit (.bool false)], args := [d1, d2, d3, d4] }
  | _ => none }
def CubesComposeWrongFalsely : Prop := cubesComposeRow.holds Try.pinned (OpenSpec.ofChange cubesComposeWrong)

/-- 'dyetop.TopGreys': WHATEVER THE INPUT: true; the input reads as it did. -/
def topGreysSpec : ChangeSpec := { name := "topGreys", fn := fun _ => fun
  | [d1, d2, d3] => { results := [.lit (.bool true)], args := [d1, d2, d3] }
  | _ => none }
def topGreysRow : OpenClaim := { program := "ytkmganophcklgaa", sum := "9064a03ad255d61f9085d88c8f9b60f3d61c8d99cd51b05e59142cd145a9ae5b", func := "dyehouse/dyetop.TopGreys", spec := "topGreys", inPlace := ["math.Float32frombits", "math.Float32bits", "math.archFloor", "math.Float64bits", "math.Float64frombits", "math.archTrunc"], unfollowed := true, recurses := true, apart := false }
def TopGreysSaid : Prop := topGreysRow.holds Try.pinned (OpenSpec.ofChange topGreysSpec)

/-- ITS FALSE NEIGHBOUR: 'it returns false'. Refute it at one input. -/
def topGreysWrong : ChangeSpec := { name := "topGreys", fn := fun _ => fun
  | [d1, d2, d3] => { results := [.lit (.bool false)], args := [d1, d2, d3] }
  | _ => none }
def TopGreysWrongFalsely : Prop := topGreysRow.holds Try.pinned (OpenSpec.ofChange topGreysWrong)

/- THE SECOND FORM. 'bulk': how many values and letters a reading holds, each counted each time it is reached (what is shared counts as often as it is met; a slice's spare places count too). A statement '..UptoSaid' is the law's where the arguments, and the package variables that the reading takes, are together of bulk at most 1048576: NARROWER than '..Said'. Prove '..Said' where nothing that the law and all that it calls make is longer than what came in: it says more and counts as full. Else prove '..UptoSaid'. A law counts once. -/
mutual
def uptoBulk {H : Type} : DataW H → Nat
  | .lit (.string bytes) => bytes.length + 1
  | .lit _ => 1
  | .nil => 1
  | .ptr d => uptoBulk d + 1
  | .slice elems spare => uptoBulkAll elems + uptoBulkAll spare + 1
  | .agg parts => uptoBulkAll parts + 1
  | .iface _ d => uptoBulk d + 1
  | .map entries => uptoBulkEntries entries + 1
  | .held _ => 1
def uptoBulkAll {H : Type} : List (DataW H) → Nat
  | [] => 0
  | d :: r => uptoBulk d + uptoBulkAll r
def uptoBulkEntries {H : Type} : List (Lit × DataW H) → Nat
  | [] => 0
  | x :: r => uptoBulkEntry x + uptoBulkEntries r
def uptoBulkEntry {H : Type} : Lit × DataW H → Nat
  | (.string bytes, d) => bytes.length + uptoBulk d + 1
  | (_, d) => uptoBulk d + 1
 end
def uptoSmall : (H : Type) → List (DataW H) → Bool := fun _ ds => decide (uptoBulkAll ds ≤ 1048576)
def OpenSpec.upto (s : _root_.Go.ChangeSpec) : _root_.Go.OpenSpec := { _root_.Go.OpenSpec.ofChange s with cond := some uptoSmall }

/-- 'dyelaw2.CubesSmooth', WHERE WHAT IT READS IS OF BULK AT MOST 1048576: true; the input reads as it did. -/
def cubesSmoothUptoRow : OpenClaim := { program := "ytkmganophcklgaa", sum := "9064a03ad255d61f9085d88c8f9b60f3d61c8d99cd51b05e59142cd145a9ae5b", func := "dyehouse/dyelaw2.CubesSmooth", spec := "cubesSmooth", inPlace := ["math.Float32frombits", "math.Float32bits"], unfollowed := true, recurses := true, apart := false, narrowed := true }
def CubesSmoothUptoSaid : Prop := cubesSmoothUptoRow.holds Try.pinned (OpenSpec.upto cubesSmoothSpec)

/-- 'dyelaw2.CubesMeasure', WHERE WHAT IT READS IS OF BULK AT MOST 1048576: true; the input reads as it did. -/
def cubesMeasureUptoRow : OpenClaim := { program := "ytkmganophcklgaa", sum := "9064a03ad255d61f9085d88c8f9b60f3d61c8d99cd51b05e59142cd145a9ae5b", func := "dyehouse/dyelaw2.CubesMeasure", spec := "cubesMeasure", inPlace := ["math.Float32frombits", "math.Float32bits", "math.Float64frombits"], unfollowed := true, recurses := true, apart := false, narrowed := true }
def CubesMeasureUptoSaid : Prop := cubesMeasureUptoRow.holds Try.pinned (OpenSpec.upto cubesMeasureSpec)

/-- 'dyelaw2.CubesMatch', WHERE WHAT IT READS IS OF BULK AT MOST 1048576: true; the input reads as it did. -/
def cubesMatchUptoRow : OpenClaim := { program := "ytkmganophcklgaa", sum := "9064a03ad255d61f9085d88c8f9b60f3d61c8d99cd51b05e59142cd145a9ae5b", func := "dyehouse/dyelaw2.CubesMatch", spec := "cubesMatch", inPlace := ["math.Float32frombits", "math.archFloor", "math.Float64bits", "math.Float64frombits", "math.archTrunc", "math.Float32bits"], unfollowed := true, recurses := true, apart := false, narrowed := true }
def CubesMatchUptoSaid : Prop := cubesMatchUptoRow.holds Try.pinned (OpenSpec.upto cubesMatchSpec)

/-- 'dyelaw2.CubesSearch', WHERE WHAT IT READS IS OF BULK AT MOST 1048576: true; the input reads as it did. -/
def cubesSearchUptoRow : OpenClaim := { program := "ytkmganophcklgaa", sum := "9064a03ad255d61f9085d88c8f9b60f3d61c8d99cd51b05e59142cd145a9ae5b", func := "dyehouse/dyelaw2.CubesSearch", spec := "cubesSearch", inPlace := ["math.archFloor", "math.Float64bits", "math.Float64frombits", "math.archTrunc", "math.Float32frombits", "math.Float32bits"], unfollowed := true, recurses := true, apart := false, narrowed := true }
def CubesSearchUptoSaid : Prop := cubesSearchUptoRow.holds Try.pinned (OpenSpec.upto cubesSearchSpec)

/-- 'dyelaw2.CubesBound', WHERE WHAT IT READS IS OF BULK AT MOST 1048576: true; the input reads as it did. -/
def cubesBoundUptoRow : OpenClaim := { program := "ytkmganophcklgaa", sum := "9064a03ad255d61f9085d88c8f9b60f3d61c8d99cd51b05e59142cd145a9ae5b", func := "dyehouse/dyelaw2.CubesBound", spec := "cubesBound", inPlace := ["math.Float32frombits", "math.Float64frombits", "math.Float64bits", "math.archFloor", "math.archTrunc"], unfollowed := true, recurses := true, apart := false, narrowed := true }
def CubesBoundUptoSaid : Prop := cubesBoundUptoRow.holds Try.pinned (OpenSpec.upto cubesBoundSpec)

/-- 'dyelaw2.CubesApply', WHERE WHAT IT READS IS OF BULK AT MOST 1048576: true; the input reads as it did. -/
def cubesApplyUptoRow : OpenClaim := { program := "ytkmganophcklgaa", sum := "9064a03ad255d61f9085d88c8f9b60f3d61c8d99cd51b05e59142cd145a9ae5b", func := "dyehouse/dyelaw2.CubesApply", spec := "cubesApply", inPlace := ["math.archFloor", "math.Float64bits", "math.Float64frombits", "math.archTrunc", "math.Float32frombits", "math.Float32bits"], unfollowed := true, recurses := true, apart := false, narrowed := true }
def CubesApplyUptoSaid : Prop := cubesApplyUptoRow.holds Try.pinned (OpenSpec.upto cubesApplySpec)

/-- 'dyelaw2.CubesCompose', WHERE WHAT IT READS IS OF BULK AT MOST 1048576: true; the input reads as it did. -/
def cubesComposeUptoRow : OpenClaim := { program := "ytkmganophcklgaa", sum := "9064a03ad255d61f9085d88c8f9b60f3d61c8d99cd51b05e59142cd145a9ae5b", func := "dyehouse/dyelaw2.CubesCompose", spec := "cubesCompose", inPlace := ["math.archFloor", "math.Float64bits", "math.Float64frombits", "math.archTrunc", "math.Float32frombits", "math.Float32bits"], unfollowed := true, recurses := true, apart := false, narrowed := true }
def CubesComposeUptoSaid : Prop := cubesComposeUptoRow.holds Try.pinned (OpenSpec.upto cubesComposeSpec)

/-- 'dyetop.TopGreys', WHERE WHAT IT READS IS OF BULK AT MOST 1048576: true; the input reads as it did. -/
def topGreysUptoRow : OpenClaim := { program := "ytkmganophcklgaa", sum := "9064a03ad255d61f9085d88c8f9b60f3d61c8d99cd51b05e59142cd145a9ae5b", func := "dyehouse/dyetop.TopGreys", spec := "topGreys", inPlace := ["math.Float32frombits", "math.Float32bits", "math.archFloor", "math.Float64bits", "math.Float64frombits", "math.archTrunc"], unfollowed := true, recurses := true, apart := false, narrowed := true }
def TopGreysUptoSaid : Prop := topGreysUptoRow.holds Try.pinned (OpenSpec.upto topGreysSpec)

end Rows
end Go.Proofs.Ytkmganophcklgaa
