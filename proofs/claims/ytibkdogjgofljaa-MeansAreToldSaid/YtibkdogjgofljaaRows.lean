/-
  No cell of these rows narrows 'for every input' (looked for: loops, veiled, ifaces, maps, wideKeys, modest, calm, conditions, laid).
  DERIVED. THE GIVEN ROWS OF THIS SEAT. 8 by the template 'for every input the law returns true; each argument reads behind the call as it read before'; 0 by the template 'total and deterministic' (their statements: YtibkdogjgofljaaTotals.lean).
  GIVEN WITH THE SEED: the statements are not yours to turn. If you find one false, say at which input.
  Laid BY PROGRAM, IN A SANDBOX (cutbox-rows.mjs): the forced cells as the released guide's own fill.sh prints them over the translation 5428fa357e5882f9… (all of the seat's roots in one cut). By AI agents, Wed Nov 11 2026. No macro, syntax, notation, axiom, sorry.
-/
import Derived.Test.YtibkdogjgofljaaChecked
import GoSem.Claim
import GoSem.ClaimJoined
import GoSem.ClaimMapViews
import Derived.JoinedTies
import Derived.KernelRfl
namespace Go.Proofs.Ytibkdogjgofljaa
/- THE CELL 'sum', in the pinned program and in every row, IS THE sha256 OF THE DUMP (.gsa) THAT YtibkdogjgofljaaProg.lean LOADS. Nothing in Lean hashes anything: it is a label: what it is worth is what the hold of that sum in a sandbox is worth. -/
noncomputable def Try.pinned : Pinned := { name := "ytibkdogjgofljaa", sum := "5428fa357e5882f9c8f8ee7aec87fb9a14380ff6362acd814d69e4d67e3a78ba", checked := Try.checked }
namespace Rows
def none {H : Type} : Left H := { results := [], args := [] }

/-- 'dyelaw2.LevelsMatch': WHATEVER THE INPUT: true; the input reads as it did. -/
def levelsMatchSpec : ChangeSpec := { name := "levelsMatch", fn := fun _ => fun
  | [d1, d2, d3, d4, d5, d6, d7, d8, d9] => { results := [.lit (.bool true)], args := [d1, d2, d3, d4, d5, d6, d7, d8, d9] }
  | _ => none }
def levelsMatchRow : OpenClaim := { program := "ytibkdogjgofljaa", sum := "5428fa357e5882f9c8f8ee7aec87fb9a14380ff6362acd814d69e4d67e3a78ba", func := "dyehouse/dyelaw2.LevelsMatch", spec := "levelsMatch", inPlace := ["math.RoundToEven", "math.Float32bits"], apart := false }
def LevelsMatchSaid : Prop := levelsMatchRow.holds Try.pinned (OpenSpec.ofChange levelsMatchSpec)

/-- ITS FALSE NEIGHBOUR: 'it returns false'. Refute it at one input. -/
def levelsMatchWrong : ChangeSpec := { name := "levelsMatch", fn := fun _ => fun
  | [d1, d2, d3, d4, d5, d6, d7, d8, d9] => { results := [.lit (.bool false)], args := [d1, d2, d3, d4, d5, d6, d7, d8, d9] }
  | _ => none }
def LevelsMatchWrongFalsely : Prop := levelsMatchRow.holds Try.pinned (OpenSpec.ofChange levelsMatchWrong)

/-- 'dyelaw2.MeansAreTold': WHATEVER THE INPUT: true; the input reads as it did. -/
def meansAreToldSpec : ChangeSpec := { name := "meansAreTold", fn := fun _ => fun
  | [d1, d2, d3, d4] => { results := [.lit (.bool true)], args := [d1, d2, d3, d4] }
  | _ => none }
def meansAreToldRow : OpenClaim := { program := "ytibkdogjgofljaa", sum := "5428fa357e5882f9c8f8ee7aec87fb9a14380ff6362acd814d69e4d67e3a78ba", func := "dyehouse/dyelaw2.MeansAreTold", spec := "meansAreTold", inPlace := ["math.RoundToEven", "math.Float64bits", "math.Float64frombits"], apart := false }
def MeansAreToldSaid : Prop := meansAreToldRow.holds Try.pinned (OpenSpec.ofChange meansAreToldSpec)

/-- ITS FALSE NEIGHBOUR: 'it returns false'. Refute it at one input. -/
def meansAreToldWrong : ChangeSpec := { name := "meansAreTold", fn := fun _ => fun
  | [d1, d2, d3, d4] => { results := [.lit (.bool false)], args := [d1, d2, d3, d4] }
  | _ => none }
def MeansAreToldWrongFalsely : Prop := meansAreToldRow.holds Try.pinned (OpenSpec.ofChange meansAreToldWrong)

/-- 'dyelaw2.HashesMatch': WHATEVER THE INPUT: true; the input reads as it did. -/
def hashesMatchSpec : ChangeSpec := { name := "hashesMatch", fn := fun _ => fun
  | [d1, d2, d3, d4] => { results := [.lit (.bool true)], args := [d1, d2, d3, d4] }
  | _ => none }
def hashesMatchRow : OpenClaim := { program := "ytibkdogjgofljaa", sum := "5428fa357e5882f9c8f8ee7aec87fb9a14380ff6362acd814d69e4d67e3a78ba", func := "dyehouse/dyelaw2.HashesMatch", spec := "hashesMatch", inPlace := ["math.Float32frombits", "math.Float64bits", "math.Float64frombits", "math.archFloor", "math.archTrunc"], unfollowed := true, recurses := true, apart := false }
def HashesMatchSaid : Prop := hashesMatchRow.holds Try.pinned (OpenSpec.ofChange hashesMatchSpec)

/-- ITS FALSE NEIGHBOUR: 'it returns false'. Refute it at one input. -/
def hashesMatchWrong : ChangeSpec := { name := "hashesMatch", fn := fun _ => fun
  | [d1, d2, d3, d4] => { results := [.lit (.bool false)], args := [d1, d2, d3, d4] }
  | _ => none }
def HashesMatchWrongFalsely : Prop := hashesMatchRow.holds Try.pinned (OpenSpec.ofChange hashesMatchWrong)

/-- 'dyelaw2.BitsMatch': WHATEVER THE INPUT: true; the input reads as it did. -/
def bitsMatchSpec : ChangeSpec := { name := "bitsMatch", fn := fun _ => fun
  | [d1, d2] => { results := [.lit (.bool true)], args := [d1, d2] }
  | _ => none }
def bitsMatchRow : OpenClaim := { program := "ytibkdogjgofljaa", sum := "5428fa357e5882f9c8f8ee7aec87fb9a14380ff6362acd814d69e4d67e3a78ba", func := "dyehouse/dyelaw2.BitsMatch", spec := "bitsMatch", inPlace := ["math.Float32frombits", "math.Float64bits", "math.Float64frombits", "math.archFloor", "math.archTrunc", "math.Float32bits"], unfollowed := true, recurses := true, apart := false }
def BitsMatchSaid : Prop := bitsMatchRow.holds Try.pinned (OpenSpec.ofChange bitsMatchSpec)

/-- ITS FALSE NEIGHBOUR: 'it returns false'. Refute it at one input. -/
def bitsMatchWrong : ChangeSpec := { name := "bitsMatch", fn := fun _ => fun
  | [d1, d2] => { results := [.lit (.bool false)], args := [d1, d2] }
  | _ => none }
def BitsMatchWrongFalsely : Prop := bitsMatchRow.holds Try.pinned (OpenSpec.ofChange bitsMatchWrong)

/-- 'dyelaw2.MixesMatch': WHATEVER THE INPUT: true; the input reads as it did. -/
def mixesMatchSpec : ChangeSpec := { name := "mixesMatch", fn := fun _ => fun
  | [d1, d2, d3] => { results := [.lit (.bool true)], args := [d1, d2, d3] }
  | _ => none }
def mixesMatchRow : OpenClaim := { program := "ytibkdogjgofljaa", sum := "5428fa357e5882f9c8f8ee7aec87fb9a14380ff6362acd814d69e4d67e3a78ba", func := "dyehouse/dyelaw2.MixesMatch", spec := "mixesMatch", inPlace := ["math.Float32frombits", "math.Float64bits", "math.Float64frombits", "math.archFloor", "math.archTrunc", "math.Float32bits"], unfollowed := true, recurses := true, apart := false }
def MixesMatchSaid : Prop := mixesMatchRow.holds Try.pinned (OpenSpec.ofChange mixesMatchSpec)

/-- ITS FALSE NEIGHBOUR: 'it returns false'. Refute it at one input. -/
def mixesMatchWrong : ChangeSpec := { name := "mixesMatch", fn := fun _ => fun
  | [d1, d2, d3] => { results := [.lit (.bool false)], args := [d1, d2, d3] }
  | _ => none }
def MixesMatchWrongFalsely : Prop := mixesMatchRow.holds Try.pinned (OpenSpec.ofChange mixesMatchWrong)

/-- 'dyelaw2.OrdersMatch': WHATEVER THE INPUT: true; the input reads as it did. -/
def ordersMatchSpec : ChangeSpec := { name := "ordersMatch", fn := fun _ => fun
  | [d1, d2] => { results := [.lit (.bool true)], args := [d1, d2] }
  | _ => none }
def ordersMatchRow : OpenClaim := { program := "ytibkdogjgofljaa", sum := "5428fa357e5882f9c8f8ee7aec87fb9a14380ff6362acd814d69e4d67e3a78ba", func := "dyehouse/dyelaw2.OrdersMatch", spec := "ordersMatch", inPlace := ["math.Float32bits", "math.Float32frombits", "math.Float64bits", "math.Float64frombits", "math.archFloor", "math.archTrunc"], unfollowed := true, recurses := true, apart := false }
def OrdersMatchSaid : Prop := ordersMatchRow.holds Try.pinned (OpenSpec.ofChange ordersMatchSpec)

/-- ITS FALSE NEIGHBOUR: 'it returns false'. Refute it at one input. -/
def ordersMatchWrong : ChangeSpec := { name := "ordersMatch", fn := fun _ => fun
  | [d1, d2] => { results := [.lit (.bool false)], args := [d1, d2] }
  | _ => none }
def OrdersMatchWrongFalsely : Prop := ordersMatchRow.holds Try.pinned (OpenSpec.ofChange ordersMatchWrong)

/-- 'dyelaw2.NearMatches': WHATEVER THE INPUT: true; the input reads as it did. -/
def nearMatchesSpec : ChangeSpec := { name := "nearMatches", fn := fun _ => fun
  | [d1, d2, d3] => { results := [.lit (.bool true)], args := [d1, d2, d3] }
  | _ => none }
def nearMatchesRow : OpenClaim := { program := "ytibkdogjgofljaa", sum := "5428fa357e5882f9c8f8ee7aec87fb9a14380ff6362acd814d69e4d67e3a78ba", func := "dyehouse/dyelaw2.NearMatches", spec := "nearMatches", inPlace := ["math.RoundToEven", "math.Float32frombits", "math.Float64bits", "math.Float64frombits", "math.archFloor", "math.archTrunc"], unfollowed := true, recurses := true, apart := false }
def NearMatchesSaid : Prop := nearMatchesRow.holds Try.pinned (OpenSpec.ofChange nearMatchesSpec)

/-- ITS FALSE NEIGHBOUR: 'it returns false'. Refute it at one input. -/
def nearMatchesWrong : ChangeSpec := { name := "nearMatches", fn := fun _ => fun
  | [d1, d2, d3] => { results := [.lit (.bool false)], args := [d1, d2, d3] }
  | _ => none }
def NearMatchesWrongFalsely : Prop := nearMatchesRow.holds Try.pinned (OpenSpec.ofChange nearMatchesWrong)

/-- 'dyelaw2.MinisMatch': WHATEVER THE INPUT: true; the input reads as it did. -/
def minisMatchSpec : ChangeSpec := { name := "minisMatch", fn := fun _ => fun
  | [d1, d2, d3, d4] => { results := [.lit (.bool true)], args := [d1, d2, d3, d4] }
  | _ => none }
def minisMatchRow : OpenClaim := { program := "ytibkdogjgofljaa", sum := "5428fa357e5882f9c8f8ee7aec87fb9a14380ff6362acd814d69e4d67e3a78ba", func := "dyehouse/dyelaw2.MinisMatch", spec := "minisMatch", inPlace := ["math.Float32bits", "math.Float64bits", "math.Float64frombits", "math.RoundToEven", "math.Float32frombits", "math.archFloor", "math.archTrunc"], unfollowed := true, recurses := true, apart := false }
def MinisMatchSaid : Prop := minisMatchRow.holds Try.pinned (OpenSpec.ofChange minisMatchSpec)

/-- ITS FALSE NEIGHBOUR: 'it returns false'. Refute it at one input. -/
def minisMatchWrong : ChangeSpec := { name := "minisMatch", fn := fun _ => fun
  | [d1, d2, d3, d4] => { results := [.lit (.bool false)], args := [d1, d2, d3, d4] }
  | _ => none }
def MinisMatchWrongFalsely : Prop := minisMatchRow.holds Try.pinned (OpenSpec.ofChange minisMatchWrong)

/- THE SECOND FORM. 'bulk': how many values and letters a reading holds, each counted each time it is reached (what is shared counts as often as it is met; a slice's spare places count too). A statement '..UptoSaid' is the law's where the arguments, and the package variables that the reading takes, are together of bulk at most 1048576: NARROWER than '..Said'. Prove '..Said' where nothing that the law and all that it calls make is longer than what came in: it says more and counts as full. Else prove '..UptoSaid'. A law counts once. -/
mutual
def uptoBulk {H : Type} : DataW H → Nat
  | .lit (.string bytes) => bytes.length + 1
  | .lit _ => 1
  | .nil => 1
  | .ptr d => uptoBulk d + 1
  | .slice elems spare => uptoBulkAll elems + uptoBulkAll spare + 1
  | .agg parts => uptoBulkAll parts + 1
  | .iface _ d => uptoBulk d + 1
  | .map entries => uptoBulkEntries entries + 1
  | .held _ => 1
def uptoBulkAll {H : Type} : List (DataW H) → Nat
  | [] => 0
  | d :: r => uptoBulk d + uptoBulkAll r
def uptoBulkEntries {H : Type} : List (Lit × DataW H) → Nat
  | [] => 0
  | x :: r => uptoBulkEntry x + uptoBulkEntries r
def uptoBulkEntry {H : Type} : Lit × DataW H → Nat
  | (.string bytes, d) => bytes.length + uptoBulk d + 1
  | (_, d) => uptoBulk d + 1
 end
def uptoSmall : (H : Type) → List (DataW H) → Bool := fun _ ds => decide (uptoBulkAll ds ≤ 1048576)
def OpenSpec.upto (s : _root_.Go.ChangeSpec) : _root_.Go.OpenSpec := { _root_.Go.OpenSpec.ofChange s with cond := some uptoSmall }

/-- 'dyelaw2.LevelsMatch', WHERE WHAT IT READS IS OF BULK AT MOST 1048576: true; the input reads as it did. -/
def levelsMatchUptoRow : OpenClaim := { program := "ytibkdogjgofljaa", sum := "5428fa357e5882f9c8f8ee7aec87fb9a14380ff6362acd814d69e4d67e3a78ba", func := "dyehouse/dyelaw2.LevelsMatch", spec := "levelsMatch", inPlace := ["math.RoundToEven", "math.Float32bits"], apart := false, narrowed := true }
def LevelsMatchUptoSaid : Prop := levelsMatchUptoRow.holds Try.pinned (OpenSpec.upto levelsMatchSpec)

/-- 'dyelaw2.MeansAreTold', WHERE WHAT IT READS IS OF BULK AT MOST 1048576: true; the input reads as it did. -/
def meansAreToldUptoRow : OpenClaim := { program := "ytibkdogjgofljaa", sum := "5428fa357e5882f9c8f8ee7aec87fb9a14380ff6362acd814d69e4d67e3a78ba", func := "dyehouse/dyelaw2.MeansAreTold", spec := "meansAreTold", inPlace := ["math.RoundToEven", "math.Float64bits", "math.Float64frombits"], apart := false, narrowed := true }
def MeansAreToldUptoSaid : Prop := meansAreToldUptoRow.holds Try.pinned (OpenSpec.upto meansAreToldSpec)

/-- 'dyelaw2.HashesMatch', WHERE WHAT IT READS IS OF BULK AT MOST 1048576: true; the input reads as it did. -/
def hashesMatchUptoRow : OpenClaim := { program := "ytibkdogjgofljaa", sum := "5428fa357e5882f9c8f8ee7aec87fb9a14380ff6362acd814d69e4d67e3a78ba", func := "dyehouse/dyelaw2.HashesMatch", spec := "hashesMatch", inPlace := ["math.Float32frombits", "math.Float64bits", "math.Float64frombits", "math.archFloor", "math.archTrunc"], unfollowed := true, recurses := true, apart := false, narrowed := true }
def HashesMatchUptoSaid : Prop := hashesMatchUptoRow.holds Try.pinned (OpenSpec.upto hashesMatchSpec)

/-- 'dyelaw2.BitsMatch', WHERE WHAT IT READS IS OF BULK AT MOST 1048576: true; the input reads as it did. -/
def bitsMatchUptoRow : OpenClaim := { program := "ytibkdogjgofljaa", sum := "5428fa357e5882f9c8f8ee7aec87fb9a14380ff6362acd814d69e4d67e3a78ba", func := "dyehouse/dyelaw2.BitsMatch", spec := "bitsMatch", inPlace := ["math.Float32frombits", "math.Float64bits", "math.Float64frombits", "math.archFloor", "math.archTrunc", "math.Float32bits"], unfollowed := true, recurses := true, apart := false, narrowed := true }
def BitsMatchUptoSaid : Prop := bitsMatchUptoRow.holds Try.pinned (OpenSpec.upto bitsMatchSpec)

/-- 'dyelaw2.MixesMatch', WHERE WHAT IT READS IS OF BULK AT MOST 1048576: true; the input reads as it did. -/
def mixesMatchUptoRow : OpenClaim := { program := "ytibkdogjgofljaa", sum := "5428fa357e5882f9c8f8ee7aec87fb9a14380ff6362acd814d69e4d67e3a78ba", func := "dyehouse/dyelaw2.MixesMatch", spec := "mixesMatch", inPlace := ["math.Float32frombits", "math.Float64bits", "math.Float64frombits", "math.archFloor", "math.archTrunc", "math.Float32bits"], unfollowed := true, recurses := true, apart := false, narrowed := true }
def MixesMatchUptoSaid : Prop := mixesMatchUptoRow.holds Try.pinned (OpenSpec.upto mixesMatchSpec)

/-- 'dyelaw2.OrdersMatch', WHERE WHAT IT READS IS OF BULK AT MOST 1048576: true; the input reads as it did. -/
def ordersMatchUptoRow : OpenClaim := { program := "ytibkdogjgofljaa", sum := "5428fa357e5882f9c8f8ee7aec87fb9a14380ff6362acd814d69e4d67e3a78ba", func := "dyehouse/dyelaw2.OrdersMatch", spec := "ordersMatch", inPlace := ["math.Float32bits", "math.Float32frombits", "math.Float64bits", "math.Float64frombits", "math.archFloor", "math.archTrunc"], unfollowed := true, recurses := true, apart := false, narrowed := true }
def OrdersMatchUptoSaid : Prop := ordersMatchUptoRow.holds Try.pinned (OpenSpec.upto ordersMatchSpec)

/-- 'dyelaw2.NearMatches', WHERE WHAT IT READS IS OF BULK AT MOST 1048576: true; the input reads as it did. -/
def nearMatchesUptoRow : OpenClaim := { program := "ytibkdogjgofljaa", sum := "5428fa357e5882f9c8f8ee7aec87fb9a14380ff6362acd814d69e4d67e3a78ba", func := "dyehouse/dyelaw2.NearMatches", spec := "nearMatches", inPlace := ["math.RoundToEven", "math.Float32frombits", "math.Float64bits", "math.Float64frombits", "math.archFloor", "math.archTrunc"], unfollowed := true, recurses := true, apart := false, narrowed := true }
def NearMatchesUptoSaid : Prop := nearMatchesUptoRow.holds Try.pinned (OpenSpec.upto nearMatchesSpec)

/-- 'dyelaw2.MinisMatch', WHERE WHAT IT READS IS OF BULK AT MOST 1048576: true; the input reads as it did. -/
def minisMatchUptoRow : OpenClaim := { program := "ytibkdogjgofljaa", sum := "5428fa357e5882f9c8f8ee7aec87fb9a14380ff6362acd814d69e4d67e3a78ba", func := "dyehouse/dyelaw2.MinisMatch", spec := "minisMatch", inPlace := ["math.Float32bits", "math.Float64bits", "math.Float64frombits", "math.RoundToEven", "math.Float32frombits", "math.archFloor", "math.archTrunc"], unfollowed := true, recurses := true, apart := false, narrowed := true }
def MinisMatchUptoSaid : Prop := minisMatchUptoRow.holds Try.pinned (OpenSpec.upto minisMatchSpec)

end Rows
end Go.Proofs.Ytibkdogjgofljaa
