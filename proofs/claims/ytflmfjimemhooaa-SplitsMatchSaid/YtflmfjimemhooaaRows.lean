/-
  No cell of these rows narrows 'for every input' (looked for: loops, veiled, ifaces, maps, wideKeys, modest, calm, conditions, laid).
  DERIVED. THE GIVEN ROWS OF THIS SEAT. 6 by the template 'for every input the law returns true; each argument reads behind the call as it read before'; 0 by the template 'total and deterministic' (their statements: YtflmfjimemhooaaTotals.lean).
  GIVEN WITH THE SEED: the statements are not yours to turn. If you find one false, say at which input.
  Laid BY PROGRAM, IN A SANDBOX (cutbox-rows.mjs): the forced cells as the released guide's own fill.sh prints them over the translation 7981f600538fd5b6… (all of the seat's roots in one cut). By AI agents, Wed Nov 11 2026. No macro, syntax, notation, axiom, sorry.
-/
import Derived.Test.YtflmfjimemhooaaChecked
import GoSem.Claim
import GoSem.ClaimJoined
import GoSem.ClaimMapViews
import Derived.JoinedTies
import Derived.KernelRfl
namespace Go.Proofs.Ytflmfjimemhooaa
/- THE CELL 'sum', in the pinned program and in every row, IS THE sha256 OF THE DUMP (.gsa) THAT YtflmfjimemhooaaProg.lean LOADS. Nothing in Lean hashes anything: it is a label: what it is worth is what the hold of that sum in a sandbox is worth. -/
noncomputable def Try.pinned : Pinned := { name := "ytflmfjimemhooaa", sum := "7981f600538fd5b634257e098006773860c547413a0c59ba390cd8e9f80e32db", checked := Try.checked }
namespace Rows
def none {H : Type} : Left H := { results := [], args := [] }

/-- 'dyelaw2.FrameSums': WHATEVER THE INPUT: true; the input reads as it did. -/
def frameSumsSpec : ChangeSpec := { name := "frameSums", fn := fun _ => fun
  | [d] => { results := [.lit (.bool true)], args := [d] }
  | _ => none }
def frameSumsRow : OpenClaim := { program := "ytflmfjimemhooaa", sum := "7981f600538fd5b634257e098006773860c547413a0c59ba390cd8e9f80e32db", func := "dyehouse/dyelaw2.FrameSums", spec := "frameSums", inPlace := ["math.Float32frombits", "math.Float32bits"], unfollowed := true, recurses := true, apart := false }
def FrameSumsSaid : Prop := frameSumsRow.holds Try.pinned (OpenSpec.ofChange frameSumsSpec)

/-- ITS FALSE NEIGHBOUR: 'it returns false'. Refute it at one input. -/
def frameSumsWrong : ChangeSpec := { name := "frameSums", fn := fun _ => fun
  | [d] => { results := [.lit (.bool false)], args := [d] }
  | _ => none }
def FrameSumsWrongFalsely : Prop := frameSumsRow.holds Try.pinned (OpenSpec.ofChange frameSumsWrong)

/-- 'dyelaw2.DoneMatches': WHATEVER THE INPUT: true; the input reads as it did. -/
def doneMatchesSpec : ChangeSpec := { name := "doneMatches", fn := fun _ => fun
  | [d1, d2] => { results := [.lit (.bool true)], args := [d1, d2] }
  | _ => none }
def doneMatchesRow : OpenClaim := { program := "ytflmfjimemhooaa", sum := "7981f600538fd5b634257e098006773860c547413a0c59ba390cd8e9f80e32db", func := "dyehouse/dyelaw2.DoneMatches", spec := "doneMatches", unfollowed := true, recurses := true, apart := false }
def DoneMatchesSaid : Prop := doneMatchesRow.holds Try.pinned (OpenSpec.ofChange doneMatchesSpec)

/-- ITS FALSE NEIGHBOUR: 'it returns false'. Refute it at one input. -/
def doneMatchesWrong : ChangeSpec := { name := "doneMatches", fn := fun _ => fun
  | [d1, d2] => { results := [.lit (.bool false)], args := [d1, d2] }
  | _ => none }
def DoneMatchesWrongFalsely : Prop := doneMatchesRow.holds Try.pinned (OpenSpec.ofChange doneMatchesWrong)

/-- 'dyelaw2.SplitsMatch': WHATEVER THE INPUT: true; the input reads as it did. -/
def splitsMatchSpec : ChangeSpec := { name := "splitsMatch", fn := fun _ => fun
  | [d1, d2, d3, d4] => { results := [.lit (.bool true)], args := [d1, d2, d3, d4] }
  | _ => none }
def splitsMatchRow : OpenClaim := { program := "ytflmfjimemhooaa", sum := "7981f600538fd5b634257e098006773860c547413a0c59ba390cd8e9f80e32db", func := "dyehouse/dyelaw2.SplitsMatch", spec := "splitsMatch", unfollowed := true, recurses := true, apart := false }
def SplitsMatchSaid : Prop := splitsMatchRow.holds Try.pinned (OpenSpec.ofChange splitsMatchSpec)

/-- ITS FALSE NEIGHBOUR: 'it returns false'. Refute it at one input. -/
def splitsMatchWrong : ChangeSpec := { name := "splitsMatch", fn := fun _ => fun
  | [d1, d2, d3, d4] => { results := [.lit (.bool false)], args := [d1, d2, d3, d4] }
  | _ => none }
def SplitsMatchWrongFalsely : Prop := splitsMatchRow.holds Try.pinned (OpenSpec.ofChange splitsMatchWrong)

/-- 'dyelaw2.CollectsMatch': WHATEVER THE INPUT: true; the input reads as it did. -/
def collectsMatchSpec : ChangeSpec := { name := "collectsMatch", fn := fun _ => fun
  | [d1, d2, d3, d4] => { results := [.lit (.bool true)], args := [d1, d2, d3, d4] }
  | _ => none }
def collectsMatchRow : OpenClaim := { program := "ytflmfjimemhooaa", sum := "7981f600538fd5b634257e098006773860c547413a0c59ba390cd8e9f80e32db", func := "dyehouse/dyelaw2.CollectsMatch", spec := "collectsMatch", inPlace := ["math.Float32frombits", "math.Float32bits"], unfollowed := true, recurses := true, apart := false }
def CollectsMatchSaid : Prop := collectsMatchRow.holds Try.pinned (OpenSpec.ofChange collectsMatchSpec)

/-- ITS FALSE NEIGHBOUR: 'it returns false'. Refute it at one input. -/
def collectsMatchWrong : ChangeSpec := { name := "collectsMatch", fn := fun _ => fun
  | [d1, d2, d3, d4] => { results := [.lit (.bool false)], args := [d1, d2, d3, d4] }
  | _ => none }
def CollectsMatchWrongFalsely : Prop := collectsMatchRow.holds Try.pinned (OpenSpec.ofChange collectsMatchWrong)

/-- 'dyelaw2.SimulationsMatch': WHATEVER THE INPUT: true; the input reads as it did. -/
def simulationsMatchSpec : ChangeSpec := { name := "simulationsMatch", fn := fun _ => fun
  | [d1, d2, d3] => { results := [.lit (.bool true)], args := [d1, d2, d3] }
  | _ => none }
def simulationsMatchRow : OpenClaim := { program := "ytflmfjimemhooaa", sum := "7981f600538fd5b634257e098006773860c547413a0c59ba390cd8e9f80e32db", func := "dyehouse/dyelaw2.SimulationsMatch", spec := "simulationsMatch", unfollowed := true, recurses := true, apart := false }
def SimulationsMatchSaid : Prop := simulationsMatchRow.holds Try.pinned (OpenSpec.ofChange simulationsMatchSpec)

/-- ITS FALSE NEIGHBOUR: 'it returns false'. Refute it at one input. -/
def simulationsMatchWrong : ChangeSpec := { name := "simulationsMatch", fn := fun _ => fun
  | [d1, d2, d3] => { results := [.lit (.bool false)], args := [d1, d2, d3] }
  | _ => none }
def SimulationsMatchWrongFalsely : Prop := simulationsMatchRow.holds Try.pinned (OpenSpec.ofChange simulationsMatchWrong)

/-- 'dyetop.TopWorks': WHATEVER THE INPUT: true; the input reads as it did. -/
def topWorksSpec : ChangeSpec := { name := "topWorks", fn := fun _ => fun
  | [d1, d2, d3] => { results := [.lit (.bool true)], args := [d1, d2, d3] }
  | _ => none }
def topWorksRow : OpenClaim := { program := "ytflmfjimemhooaa", sum := "7981f600538fd5b634257e098006773860c547413a0c59ba390cd8e9f80e32db", func := "dyehouse/dyetop.TopWorks", spec := "topWorks", inPlace := ["math.Float32frombits", "math.Float32bits"], unfollowed := true, recurses := true, apart := false }
def TopWorksSaid : Prop := topWorksRow.holds Try.pinned (OpenSpec.ofChange topWorksSpec)

/-- ITS FALSE NEIGHBOUR: 'it returns false'. Refute it at one input. -/
def topWorksWrong : ChangeSpec := { name := "topWorks", fn := fun _ => fun
  | [d1, d2, d3] => { results := [.lit (.bool false)], args := [d1, d2, d3] }
  | _ => none }
def TopWorksWrongFalsely : Prop := topWorksRow.holds Try.pinned (OpenSpec.ofChange topWorksWrong)

/- THE SECOND FORM. 'bulk': how many values and letters a reading holds, each counted each time it is reached (what is shared counts as often as it is met; a slice's spare places count too). A statement '..UptoSaid' is the law's where the arguments, and the package variables that the reading takes, are together of bulk at most 1048576: NARROWER than '..Said'. Prove '..Said' where nothing that the law and all that it calls make is longer than what came in: it says more and counts as full. Else prove '..UptoSaid'. A law counts once. -/
mutual
def uptoBulk {H : Type} : DataW H → Nat
  | .lit (.string bytes) => bytes.length + 1
  | .lit _ => 1
  | .nil => 1
  | .ptr d => uptoBulk d + 1
  | .slice elems spare => uptoBulkAll elems + uptoBulkAll spare + 1
  | .agg parts => uptoBulkAll parts + 1
  | .iface _ d => uptoBulk d + 1
  | .map entries => uptoBulkEntries entries + 1
  | .held _ => 1
def uptoBulkAll {H : Type} : List (DataW H) → Nat
  | [] => 0
  | d :: r => uptoBulk d + uptoBulkAll r
def uptoBulkEntries {H : Type} : List (Lit × DataW H) → Nat
  | [] => 0
  | x :: r => uptoBulkEntry x + uptoBulkEntries r
def uptoBulkEntry {H : Type} : Lit × DataW H → Nat
  | (.string bytes, d) => bytes.length + uptoBulk d + 1
  | (_, d) => uptoBulk d + 1
 end
def uptoSmall : (H : Type) → List (DataW H) → Bool := fun _ ds => decide (uptoBulkAll ds ≤ 1048576)
def OpenSpec.upto (s : _root_.Go.ChangeSpec) : _root_.Go.OpenSpec := { _root_.Go.OpenSpec.ofChange s with cond := some uptoSmall }

/-- 'dyelaw2.FrameSums', WHERE WHAT IT READS IS OF BULK AT MOST 1048576: true; the input reads as it did. -/
def frameSumsUptoRow : OpenClaim := { program := "ytflmfjimemhooaa", sum := "7981f600538fd5b634257e098006773860c547413a0c59ba390cd8e9f80e32db", func := "dyehouse/dyelaw2.FrameSums", spec := "frameSums", inPlace := ["math.Float32frombits", "math.Float32bits"], unfollowed := true, recurses := true, apart := false, narrowed := true }
def FrameSumsUptoSaid : Prop := frameSumsUptoRow.holds Try.pinned (OpenSpec.upto frameSumsSpec)

/-- 'dyelaw2.DoneMatches', WHERE WHAT IT READS IS OF BULK AT MOST 1048576: true; the input reads as it did. -/
def doneMatchesUptoRow : OpenClaim := { program := "ytflmfjimemhooaa", sum := "7981f600538fd5b634257e098006773860c547413a0c59ba390cd8e9f80e32db", func := "dyehouse/dyelaw2.DoneMatches", spec := "doneMatches", unfollowed := true, recurses := true, apart := false, narrowed := true }
def DoneMatchesUptoSaid : Prop := doneMatchesUptoRow.holds Try.pinned (OpenSpec.upto doneMatchesSpec)

/-- 'dyelaw2.SplitsMatch', WHERE WHAT IT READS IS OF BULK AT MOST 1048576: true; the input reads as it did. -/
def splitsMatchUptoRow : OpenClaim := { program := "ytflmfjimemhooaa", sum := "7981f600538fd5b634257e098006773860c547413a0c59ba390cd8e9f80e32db", func := "dyehouse/dyelaw2.SplitsMatch", spec := "splitsMatch", unfollowed := true, recurses := true, apart := false, narrowed := true }
def SplitsMatchUptoSaid : Prop := splitsMatchUptoRow.holds Try.pinned (OpenSpec.upto splitsMatchSpec)

/-- 'dyelaw2.CollectsMatch', WHERE WHAT IT READS IS OF BULK AT MOST 1048576: true; the input reads as it did. -/
def collectsMatchUptoRow : OpenClaim := { program := "ytflmfjimemhooaa", sum := "7981f600538fd5b634257e098006773860c547413a0c59ba390cd8e9f80e32db", func := "dyehouse/dyelaw2.CollectsMatch", spec := "collectsMatch", inPlace := ["math.Float32frombits", "math.Float32bits"], unfollowed := true, recurses := true, apart := false, narrowed := true }
def CollectsMatchUptoSaid : Prop := collectsMatchUptoRow.holds Try.pinned (OpenSpec.upto collectsMatchSpec)

/-- 'dyelaw2.SimulationsMatch', WHERE WHAT IT READS IS OF BULK AT MOST 1048576: true; the input reads as it did. -/
def simulationsMatchUptoRow : OpenClaim := { program := "ytflmfjimemhooaa", sum := "7981f600538fd5b634257e098006773860c547413a0c59ba390cd8e9f80e32db", func := "dyehouse/dyelaw2.SimulationsMatch", spec := "simulationsMatch", unfollowed := true, recurses := true, apart := false, narrowed := true }
def SimulationsMatchUptoSaid : Prop := simulationsMatchUptoRow.holds Try.pinned (OpenSpec.upto simulationsMatchSpec)

/-- 'dyetop.TopWorks', WHERE WHAT IT READS IS OF BULK AT MOST 1048576: true; the input reads as it did. -/
def topWorksUptoRow : OpenClaim := { program := "ytflmfjimemhooaa", sum := "7981f600538fd5b634257e098006773860c547413a0c59ba390cd8e9f80e32db", func := "dyehouse/dyetop.TopWorks", spec := "topWorks", inPlace := ["math.Float32frombits", "math.Float32bits"], unfollowed := true, recurses := true, apart := false, narrowed := true }
def TopWorksUptoSaid : Prop := topWorksUptoRow.holds Try.pinned (OpenSpec.upto topWorksSpec)

end Rows
end Go.Proofs.Ytflmfjimemhooaa
