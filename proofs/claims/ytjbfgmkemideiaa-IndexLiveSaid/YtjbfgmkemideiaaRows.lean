/-
  No cell of these rows narrows 'for every input' (looked for: loops, veiled, ifaces, maps, wideKeys, modest, calm, conditions, laid).
  DERIVED. THE GIVEN ROWS OF THIS SEAT. 18 by the template 'for every input the law returns true; each argument reads behind the call as it read before'; 0 by the template 'total and deterministic' (their statements: YtjbfgmkemideiaaTotals.lean).
  GIVEN WITH THE SEED: the statements are not yours to turn. If you find one false, say at which input.
  Laid BY PROGRAM, IN A SANDBOX (cutbox-rows.mjs): the forced cells as the released guide's own fill.sh prints them over the translation ad361f431c9ffc3d… (all of the seat's roots in one cut). By AI agents, Wed Nov 11 2026. No macro, syntax, notation, axiom, sorry.
-/
import Derived.Test.YtjbfgmkemideiaaChecked
import GoSem.Claim
import GoSem.ClaimJoined
import GoSem.ClaimMapViews
import Derived.JoinedTies
import Derived.KernelRfl
namespace Go.Proofs.Ytjbfgmkemideiaa
/- THE CELL 'sum', in the pinned program and in every row, IS THE sha256 OF THE DUMP (.gsa) THAT YtjbfgmkemideiaaProg.lean LOADS. Nothing in Lean hashes anything: it is a label: what it is worth is what the hold of that sum in a sandbox is worth. -/
noncomputable def Try.pinned : Pinned := { name := "ytjbfgmkemideiaa", sum := "ad361f431c9ffc3d9d39848ef9959625e556cd706bfde6f36b89f9df5312a06e", checked := Try.checked }
namespace Rows
def none {H : Type} : Left H := { results := [], args := [] }

/-- 'stemmalaw17.IndexGets': WHATEVER THE INPUT: true; the input reads as it did. -/
def indexGetsSpec : ChangeSpec := { name := "indexGets", fn := fun _ => fun
  | [d] => { results := [.lit (.bool true)], args := [d] }
  | _ => none }
def indexGetsRow : OpenClaim := { program := "ytjbfgmkemideiaa", sum := "ad361f431c9ffc3d9d39848ef9959625e556cd706bfde6f36b89f9df5312a06e", func := "stemma/stemmalaw17.IndexGets", spec := "indexGets", unfollowed := true, recurses := true, plainKeys := false, apart := false }
def IndexGetsSaid : Prop := indexGetsRow.holds Try.pinned (OpenSpec.ofChange indexGetsSpec)

/-- ITS FALSE NEIGHBOUR: 'it returns false'. Refute it at one input. -/
def indexGetsWrong : ChangeSpec := { name := "indexGets", fn := fun _ => fun
  | [d] => { results := [.lit (.bool false)], args := [d] }
  | _ => none }
def IndexGetsWrongFalsely : Prop := indexGetsRow.holds Try.pinned (OpenSpec.ofChange indexGetsWrong)

/-- 'stemmalaw17.IndexPuts': WHATEVER THE INPUT: true; the input reads as it did. -/
def indexPutsSpec : ChangeSpec := { name := "indexPuts", fn := fun _ => fun
  | [d] => { results := [.lit (.bool true)], args := [d] }
  | _ => none }
def indexPutsRow : OpenClaim := { program := "ytjbfgmkemideiaa", sum := "ad361f431c9ffc3d9d39848ef9959625e556cd706bfde6f36b89f9df5312a06e", func := "stemma/stemmalaw17.IndexPuts", spec := "indexPuts", unfollowed := true, recurses := true, plainKeys := false, apart := false }
def IndexPutsSaid : Prop := indexPutsRow.holds Try.pinned (OpenSpec.ofChange indexPutsSpec)

/-- ITS FALSE NEIGHBOUR: 'it returns false'. Refute it at one input. -/
def indexPutsWrong : ChangeSpec := { name := "indexPuts", fn := fun _ => fun
  | [d] => { results := [.lit (.bool false)], args := [d] }
  | _ => none }
def IndexPutsWrongFalsely : Prop := indexPutsRow.holds Try.pinned (OpenSpec.ofChange indexPutsWrong)

/-- 'stemmalaw17.IndexBack': WHATEVER THE INPUT: true; the input reads as it did. -/
def indexBackSpec : ChangeSpec := { name := "indexBack", fn := fun _ => fun
  | [d1, d2] => { results := [.lit (.bool true)], args := [d1, d2] }
  | _ => none }
def indexBackRow : OpenClaim := { program := "ytjbfgmkemideiaa", sum := "ad361f431c9ffc3d9d39848ef9959625e556cd706bfde6f36b89f9df5312a06e", func := "stemma/stemmalaw17.IndexBack", spec := "indexBack", unfollowed := true, recurses := true, plainKeys := false, apart := false }
def IndexBackSaid : Prop := indexBackRow.holds Try.pinned (OpenSpec.ofChange indexBackSpec)

/-- ITS FALSE NEIGHBOUR: 'it returns false'. Refute it at one input. -/
def indexBackWrong : ChangeSpec := { name := "indexBack", fn := fun _ => fun
  | [d1, d2] => { results := [.lit (.bool false)], args := [d1, d2] }
  | _ => none }
def IndexBackWrongFalsely : Prop := indexBackRow.holds Try.pinned (OpenSpec.ofChange indexBackWrong)

/-- 'stemmalaw06.HashesNames': WHATEVER THE INPUT: true; the input reads as it did. -/
def hashesNamesSpec : ChangeSpec := { name := "hashesNames", fn := fun _ => fun
  | [d] => { results := [.lit (.bool true)], args := [d] }
  | _ => none }
def hashesNamesRow : OpenClaim := { program := "ytjbfgmkemideiaa", sum := "ad361f431c9ffc3d9d39848ef9959625e556cd706bfde6f36b89f9df5312a06e", func := "stemma/stemmalaw06.HashesNames", spec := "hashesNames", unfollowed := true, recurses := true, plainKeys := false, apart := false }
def HashesNamesSaid : Prop := hashesNamesRow.holds Try.pinned (OpenSpec.ofChange hashesNamesSpec)

/-- ITS FALSE NEIGHBOUR: 'it returns false'. Refute it at one input. -/
def hashesNamesWrong : ChangeSpec := { name := "hashesNames", fn := fun _ => fun
  | [d] => { results := [.lit (.bool false)], args := [d] }
  | _ => none }
def HashesNamesWrongFalsely : Prop := hashesNamesRow.holds Try.pinned (OpenSpec.ofChange hashesNamesWrong)

/-- 'stemmalaw06.HashesSorts': WHATEVER THE INPUT: true; the input reads as it did. -/
def hashesSortsSpec : ChangeSpec := { name := "hashesSorts", fn := fun _ => fun
  | [d1, d2, d3] => { results := [.lit (.bool true)], args := [d1, d2, d3] }
  | _ => none }
def hashesSortsRow : OpenClaim := { program := "ytjbfgmkemideiaa", sum := "ad361f431c9ffc3d9d39848ef9959625e556cd706bfde6f36b89f9df5312a06e", func := "stemma/stemmalaw06.HashesSorts", spec := "hashesSorts", unfollowed := true, recurses := true, plainKeys := false, apart := false }
def HashesSortsSaid : Prop := hashesSortsRow.holds Try.pinned (OpenSpec.ofChange hashesSortsSpec)

/-- ITS FALSE NEIGHBOUR: 'it returns false'. Refute it at one input. -/
def hashesSortsWrong : ChangeSpec := { name := "hashesSorts", fn := fun _ => fun
  | [d1, d2, d3] => { results := [.lit (.bool false)], args := [d1, d2, d3] }
  | _ => none }
def HashesSortsWrongFalsely : Prop := hashesSortsRow.holds Try.pinned (OpenSpec.ofChange hashesSortsWrong)

/-- 'stemmalaw06.HashesGets': WHATEVER THE INPUT: true; the input reads as it did. -/
def hashesGetsSpec : ChangeSpec := { name := "hashesGets", fn := fun _ => fun
  | [d1, d2] => { results := [.lit (.bool true)], args := [d1, d2] }
  | _ => none }
def hashesGetsRow : OpenClaim := { program := "ytjbfgmkemideiaa", sum := "ad361f431c9ffc3d9d39848ef9959625e556cd706bfde6f36b89f9df5312a06e", func := "stemma/stemmalaw06.HashesGets", spec := "hashesGets", unfollowed := true, recurses := true, plainKeys := false, apart := false }
def HashesGetsSaid : Prop := hashesGetsRow.holds Try.pinned (OpenSpec.ofChange hashesGetsSpec)

/-- ITS FALSE NEIGHBOUR: 'it returns false'. Refute it at one input. -/
def hashesGetsWrong : ChangeSpec := { name := "hashesGets", fn := fun _ => fun
  | [d1, d2] => { results := [.lit (.bool false)], args := [d1, d2] }
  | _ => none }
def HashesGetsWrongFalsely : Prop := hashesGetsRow.holds Try.pinned (OpenSpec.ofChange hashesGetsWrong)

/-- 'stemmalaw06.HashesPuts': WHATEVER THE INPUT: true; the input reads as it did. -/
def hashesPutsSpec : ChangeSpec := { name := "hashesPuts", fn := fun _ => fun
  | [d] => { results := [.lit (.bool true)], args := [d] }
  | _ => none }
def hashesPutsRow : OpenClaim := { program := "ytjbfgmkemideiaa", sum := "ad361f431c9ffc3d9d39848ef9959625e556cd706bfde6f36b89f9df5312a06e", func := "stemma/stemmalaw06.HashesPuts", spec := "hashesPuts", unfollowed := true, recurses := true, plainKeys := false, apart := false }
def HashesPutsSaid : Prop := hashesPutsRow.holds Try.pinned (OpenSpec.ofChange hashesPutsSpec)

/-- ITS FALSE NEIGHBOUR: 'it returns false'. Refute it at one input. -/
def hashesPutsWrong : ChangeSpec := { name := "hashesPuts", fn := fun _ => fun
  | [d] => { results := [.lit (.bool false)], args := [d] }
  | _ => none }
def HashesPutsWrongFalsely : Prop := hashesPutsRow.holds Try.pinned (OpenSpec.ofChange hashesPutsWrong)

/-- 'stemmalaw15.BranchNobody': WHATEVER THE INPUT: true; the input reads as it did. -/
def branchNobodySpec : ChangeSpec := { name := "branchNobody", fn := fun _ => fun
  | [d1, d2] => { results := [.lit (.bool true)], args := [d1, d2] }
  | _ => none }
def branchNobodyRow : OpenClaim := { program := "ytjbfgmkemideiaa", sum := "ad361f431c9ffc3d9d39848ef9959625e556cd706bfde6f36b89f9df5312a06e", func := "stemma/stemmalaw15.BranchNobody", spec := "branchNobody", inPlace := ["maps.clone"], unfollowed := true, recurses := true, plainKeys := false, apart := false }
def BranchNobodySaid : Prop := branchNobodyRow.holds Try.pinned (OpenSpec.ofChange branchNobodySpec)

/-- ITS FALSE NEIGHBOUR: 'it returns false'. Refute it at one input. -/
def branchNobodyWrong : ChangeSpec := { name := "branchNobody", fn := fun _ => fun
  | [d1, d2] => { results := [.lit (.bool false)], args := [d1, d2] }
  | _ => none }
def BranchNobodyWrongFalsely : Prop := branchNobodyRow.holds Try.pinned (OpenSpec.ofChange branchNobodyWrong)

/-- 'stemmalaw06.HashesSets': WHATEVER THE INPUT: true; the input reads as it did. -/
def hashesSetsSpec : ChangeSpec := { name := "hashesSets", fn := fun _ => fun
  | [d1, d2] => { results := [.lit (.bool true)], args := [d1, d2] }
  | _ => none }
def hashesSetsRow : OpenClaim := { program := "ytjbfgmkemideiaa", sum := "ad361f431c9ffc3d9d39848ef9959625e556cd706bfde6f36b89f9df5312a06e", func := "stemma/stemmalaw06.HashesSets", spec := "hashesSets", unfollowed := true, recurses := true, plainKeys := false, apart := false }
def HashesSetsSaid : Prop := hashesSetsRow.holds Try.pinned (OpenSpec.ofChange hashesSetsSpec)

/-- ITS FALSE NEIGHBOUR: 'it returns false'. Refute it at one input. -/
def hashesSetsWrong : ChangeSpec := { name := "hashesSets", fn := fun _ => fun
  | [d1, d2] => { results := [.lit (.bool false)], args := [d1, d2] }
  | _ => none }
def HashesSetsWrongFalsely : Prop := hashesSetsRow.holds Try.pinned (OpenSpec.ofChange hashesSetsWrong)

/-- 'stemmalaw15.BranchPlays': WHATEVER THE INPUT: true; the input reads as it did. -/
def branchPlaysSpec : ChangeSpec := { name := "branchPlays", fn := fun _ => fun
  | [d1, d2] => { results := [.lit (.bool true)], args := [d1, d2] }
  | _ => none }
def branchPlaysRow : OpenClaim := { program := "ytjbfgmkemideiaa", sum := "ad361f431c9ffc3d9d39848ef9959625e556cd706bfde6f36b89f9df5312a06e", func := "stemma/stemmalaw15.BranchPlays", spec := "branchPlays", unfollowed := true, recurses := true, plainKeys := false, apart := false }
def BranchPlaysSaid : Prop := branchPlaysRow.holds Try.pinned (OpenSpec.ofChange branchPlaysSpec)

/-- ITS FALSE NEIGHBOUR: 'it returns false'. Refute it at one input. -/
def branchPlaysWrong : ChangeSpec := { name := "branchPlays", fn := fun _ => fun
  | [d1, d2] => { results := [.lit (.bool false)], args := [d1, d2] }
  | _ => none }
def BranchPlaysWrongFalsely : Prop := branchPlaysRow.holds Try.pinned (OpenSpec.ofChange branchPlaysWrong)

/-- 'stemmalaw15.BranchApart': WHATEVER THE INPUT: true; the input reads as it did. -/
def branchApartSpec : ChangeSpec := { name := "branchApart", fn := fun _ => fun
  | [d1, d2, d3] => { results := [.lit (.bool true)], args := [d1, d2, d3] }
  | _ => none }
def branchApartRow : OpenClaim := { program := "ytjbfgmkemideiaa", sum := "ad361f431c9ffc3d9d39848ef9959625e556cd706bfde6f36b89f9df5312a06e", func := "stemma/stemmalaw15.BranchApart", spec := "branchApart", unfollowed := true, recurses := true, plainKeys := false, apart := false }
def BranchApartSaid : Prop := branchApartRow.holds Try.pinned (OpenSpec.ofChange branchApartSpec)

/-- ITS FALSE NEIGHBOUR: 'it returns false'. Refute it at one input. -/
def branchApartWrong : ChangeSpec := { name := "branchApart", fn := fun _ => fun
  | [d1, d2, d3] => { results := [.lit (.bool false)], args := [d1, d2, d3] }
  | _ => none }
def BranchApartWrongFalsely : Prop := branchApartRow.holds Try.pinned (OpenSpec.ofChange branchApartWrong)

/-- 'stemmalaw15.BranchLoads': WHATEVER THE INPUT: true; the input reads as it did. -/
def branchLoadsSpec : ChangeSpec := { name := "branchLoads", fn := fun _ => fun
  | [d] => { results := [.lit (.bool true)], args := [d] }
  | _ => none }
def branchLoadsRow : OpenClaim := { program := "ytjbfgmkemideiaa", sum := "ad361f431c9ffc3d9d39848ef9959625e556cd706bfde6f36b89f9df5312a06e", func := "stemma/stemmalaw15.BranchLoads", spec := "branchLoads", unfollowed := true, recurses := true, plainKeys := false, apart := false }
def BranchLoadsSaid : Prop := branchLoadsRow.holds Try.pinned (OpenSpec.ofChange branchLoadsSpec)

/-- ITS FALSE NEIGHBOUR: 'it returns false'. Refute it at one input. -/
def branchLoadsWrong : ChangeSpec := { name := "branchLoads", fn := fun _ => fun
  | [d] => { results := [.lit (.bool false)], args := [d] }
  | _ => none }
def BranchLoadsWrongFalsely : Prop := branchLoadsRow.holds Try.pinned (OpenSpec.ofChange branchLoadsWrong)

/-- 'stemmalaw06.HashesBack': WHATEVER THE INPUT: true; the input reads as it did. -/
def hashesBackSpec : ChangeSpec := { name := "hashesBack", fn := fun _ => fun
  | [d1, d2] => { results := [.lit (.bool true)], args := [d1, d2] }
  | _ => none }
def hashesBackRow : OpenClaim := { program := "ytjbfgmkemideiaa", sum := "ad361f431c9ffc3d9d39848ef9959625e556cd706bfde6f36b89f9df5312a06e", func := "stemma/stemmalaw06.HashesBack", spec := "hashesBack", unfollowed := true, recurses := true, plainKeys := false, apart := false }
def HashesBackSaid : Prop := hashesBackRow.holds Try.pinned (OpenSpec.ofChange hashesBackSpec)

/-- ITS FALSE NEIGHBOUR: 'it returns false'. Refute it at one input. -/
def hashesBackWrong : ChangeSpec := { name := "hashesBack", fn := fun _ => fun
  | [d1, d2] => { results := [.lit (.bool false)], args := [d1, d2] }
  | _ => none }
def HashesBackWrongFalsely : Prop := hashesBackRow.holds Try.pinned (OpenSpec.ofChange hashesBackWrong)

/-- 'stemmalaw06.HashesAlgebra': WHATEVER THE INPUT: true; the input reads as it did. -/
def hashesAlgebraSpec : ChangeSpec := { name := "hashesAlgebra", fn := fun _ => fun
  | [d1, d2, d3] => { results := [.lit (.bool true)], args := [d1, d2, d3] }
  | _ => none }
def hashesAlgebraRow : OpenClaim := { program := "ytjbfgmkemideiaa", sum := "ad361f431c9ffc3d9d39848ef9959625e556cd706bfde6f36b89f9df5312a06e", func := "stemma/stemmalaw06.HashesAlgebra", spec := "hashesAlgebra", unfollowed := true, recurses := true, plainKeys := false, apart := false }
def HashesAlgebraSaid : Prop := hashesAlgebraRow.holds Try.pinned (OpenSpec.ofChange hashesAlgebraSpec)

/-- ITS FALSE NEIGHBOUR: 'it returns false'. Refute it at one input. -/
def hashesAlgebraWrong : ChangeSpec := { name := "hashesAlgebra", fn := fun _ => fun
  | [d1, d2, d3] => { results := [.lit (.bool false)], args := [d1, d2, d3] }
  | _ => none }
def HashesAlgebraWrongFalsely : Prop := hashesAlgebraRow.holds Try.pinned (OpenSpec.ofChange hashesAlgebraWrong)

/-- 'stemmalaw15.BranchForks': WHATEVER THE INPUT: true; the input reads as it did. -/
def branchForksSpec : ChangeSpec := { name := "branchForks", fn := fun _ => fun
  | [d1, d2] => { results := [.lit (.bool true)], args := [d1, d2] }
  | _ => none }
def branchForksRow : OpenClaim := { program := "ytjbfgmkemideiaa", sum := "ad361f431c9ffc3d9d39848ef9959625e556cd706bfde6f36b89f9df5312a06e", func := "stemma/stemmalaw15.BranchForks", spec := "branchForks", inPlace := ["maps.clone"], unfollowed := true, recurses := true, plainKeys := false, apart := false }
def BranchForksSaid : Prop := branchForksRow.holds Try.pinned (OpenSpec.ofChange branchForksSpec)

/-- ITS FALSE NEIGHBOUR: 'it returns false'. Refute it at one input. -/
def branchForksWrong : ChangeSpec := { name := "branchForks", fn := fun _ => fun
  | [d1, d2] => { results := [.lit (.bool false)], args := [d1, d2] }
  | _ => none }
def BranchForksWrongFalsely : Prop := branchForksRow.holds Try.pinned (OpenSpec.ofChange branchForksWrong)

/-- 'stemmalaw15.BranchBack': WHATEVER THE INPUT: true; the input reads as it did. -/
def branchBackSpec : ChangeSpec := { name := "branchBack", fn := fun _ => fun
  | [d] => { results := [.lit (.bool true)], args := [d] }
  | _ => none }
def branchBackRow : OpenClaim := { program := "ytjbfgmkemideiaa", sum := "ad361f431c9ffc3d9d39848ef9959625e556cd706bfde6f36b89f9df5312a06e", func := "stemma/stemmalaw15.BranchBack", spec := "branchBack", unfollowed := true, recurses := true, plainKeys := false, apart := false }
def BranchBackSaid : Prop := branchBackRow.holds Try.pinned (OpenSpec.ofChange branchBackSpec)

/-- ITS FALSE NEIGHBOUR: 'it returns false'. Refute it at one input. -/
def branchBackWrong : ChangeSpec := { name := "branchBack", fn := fun _ => fun
  | [d] => { results := [.lit (.bool false)], args := [d] }
  | _ => none }
def BranchBackWrongFalsely : Prop := branchBackRow.holds Try.pinned (OpenSpec.ofChange branchBackWrong)

/-- 'stemmalaw17.IndexJoins': WHATEVER THE INPUT: true; the input reads as it did. -/
def indexJoinsSpec : ChangeSpec := { name := "indexJoins", fn := fun _ => fun
  | [d1, d2] => { results := [.lit (.bool true)], args := [d1, d2] }
  | _ => none }
def indexJoinsRow : OpenClaim := { program := "ytjbfgmkemideiaa", sum := "ad361f431c9ffc3d9d39848ef9959625e556cd706bfde6f36b89f9df5312a06e", func := "stemma/stemmalaw17.IndexJoins", spec := "indexJoins", unfollowed := true, recurses := true, plainKeys := false, apart := false }
def IndexJoinsSaid : Prop := indexJoinsRow.holds Try.pinned (OpenSpec.ofChange indexJoinsSpec)

/-- ITS FALSE NEIGHBOUR: 'it returns false'. Refute it at one input. -/
def indexJoinsWrong : ChangeSpec := { name := "indexJoins", fn := fun _ => fun
  | [d1, d2] => { results := [.lit (.bool false)], args := [d1, d2] }
  | _ => none }
def IndexJoinsWrongFalsely : Prop := indexJoinsRow.holds Try.pinned (OpenSpec.ofChange indexJoinsWrong)

/-- 'stemmalaw17.IndexLive': WHATEVER THE INPUT: true; the input reads as it did. -/
def indexLiveSpec : ChangeSpec := { name := "indexLive", fn := fun _ => fun
  | [d1, d2] => { results := [.lit (.bool true)], args := [d1, d2] }
  | _ => none }
def indexLiveRow : OpenClaim := { program := "ytjbfgmkemideiaa", sum := "ad361f431c9ffc3d9d39848ef9959625e556cd706bfde6f36b89f9df5312a06e", func := "stemma/stemmalaw17.IndexLive", spec := "indexLive", unfollowed := true, recurses := true, plainKeys := false, apart := false }
def IndexLiveSaid : Prop := indexLiveRow.holds Try.pinned (OpenSpec.ofChange indexLiveSpec)

/-- ITS FALSE NEIGHBOUR: 'it returns false'. Refute it at one input. -/
def indexLiveWrong : ChangeSpec := { name := "indexLive", fn := fun _ => fun
  | [d1, d2] => { results := [.lit (.bool false)], args := [d1, d2] }
  | _ => none }
def IndexLiveWrongFalsely : Prop := indexLiveRow.holds Try.pinned (OpenSpec.ofChange indexLiveWrong)

/- THE SECOND FORM. 'bulk': how many values and letters a reading holds, each counted each time it is reached (what is shared counts as often as it is met; a slice's spare places count too). A statement '..UptoSaid' is the law's where the arguments, and the package variables that the reading takes, are together of bulk at most 1048576: NARROWER than '..Said'. Prove '..Said' where nothing that the law and all that it calls make is longer than what came in: it says more and counts as full. Else prove '..UptoSaid'. A law counts once. -/
mutual
def uptoBulk {H : Type} : DataW H → Nat
  | .lit (.string bytes) => bytes.length + 1
  | .lit _ => 1
  | .nil => 1
  | .ptr d => uptoBulk d + 1
  | .slice elems spare => uptoBulkAll elems + uptoBulkAll spare + 1
  | .agg parts => uptoBulkAll parts + 1
  | .iface _ d => uptoBulk d + 1
  | .map entries => uptoBulkEntries entries + 1
  | .held _ => 1
def uptoBulkAll {H : Type} : List (DataW H) → Nat
  | [] => 0
  | d :: r => uptoBulk d + uptoBulkAll r
def uptoBulkEntries {H : Type} : List (Lit × DataW H) → Nat
  | [] => 0
  | x :: r => uptoBulkEntry x + uptoBulkEntries r
def uptoBulkEntry {H : Type} : Lit × DataW H → Nat
  | (.string bytes, d) => bytes.length + uptoBulk d + 1
  | (_, d) => uptoBulk d + 1
 end
def uptoSmall : (H : Type) → List (DataW H) → Bool := fun _ ds => decide (uptoBulkAll ds ≤ 1048576)
def OpenSpec.upto (s : _root_.Go.ChangeSpec) : _root_.Go.OpenSpec := { _root_.Go.OpenSpec.ofChange s with cond := some uptoSmall }

/-- 'stemmalaw17.IndexGets', WHERE WHAT IT READS IS OF BULK AT MOST 1048576: true; the input reads as it did. -/
def indexGetsUptoRow : OpenClaim := { program := "ytjbfgmkemideiaa", sum := "ad361f431c9ffc3d9d39848ef9959625e556cd706bfde6f36b89f9df5312a06e", func := "stemma/stemmalaw17.IndexGets", spec := "indexGets", unfollowed := true, recurses := true, plainKeys := false, apart := false, narrowed := true }
def IndexGetsUptoSaid : Prop := indexGetsUptoRow.holds Try.pinned (OpenSpec.upto indexGetsSpec)

/-- 'stemmalaw17.IndexPuts', WHERE WHAT IT READS IS OF BULK AT MOST 1048576: true; the input reads as it did. -/
def indexPutsUptoRow : OpenClaim := { program := "ytjbfgmkemideiaa", sum := "ad361f431c9ffc3d9d39848ef9959625e556cd706bfde6f36b89f9df5312a06e", func := "stemma/stemmalaw17.IndexPuts", spec := "indexPuts", unfollowed := true, recurses := true, plainKeys := false, apart := false, narrowed := true }
def IndexPutsUptoSaid : Prop := indexPutsUptoRow.holds Try.pinned (OpenSpec.upto indexPutsSpec)

/-- 'stemmalaw17.IndexBack', WHERE WHAT IT READS IS OF BULK AT MOST 1048576: true; the input reads as it did. -/
def indexBackUptoRow : OpenClaim := { program := "ytjbfgmkemideiaa", sum := "ad361f431c9ffc3d9d39848ef9959625e556cd706bfde6f36b89f9df5312a06e", func := "stemma/stemmalaw17.IndexBack", spec := "indexBack", unfollowed := true, recurses := true, plainKeys := false, apart := false, narrowed := true }
def IndexBackUptoSaid : Prop := indexBackUptoRow.holds Try.pinned (OpenSpec.upto indexBackSpec)

/-- 'stemmalaw06.HashesNames', WHERE WHAT IT READS IS OF BULK AT MOST 1048576: true; the input reads as it did. -/
def hashesNamesUptoRow : OpenClaim := { program := "ytjbfgmkemideiaa", sum := "ad361f431c9ffc3d9d39848ef9959625e556cd706bfde6f36b89f9df5312a06e", func := "stemma/stemmalaw06.HashesNames", spec := "hashesNames", unfollowed := true, recurses := true, plainKeys := false, apart := false, narrowed := true }
def HashesNamesUptoSaid : Prop := hashesNamesUptoRow.holds Try.pinned (OpenSpec.upto hashesNamesSpec)

/-- 'stemmalaw06.HashesSorts', WHERE WHAT IT READS IS OF BULK AT MOST 1048576: true; the input reads as it did. -/
def hashesSortsUptoRow : OpenClaim := { program := "ytjbfgmkemideiaa", sum := "ad361f431c9ffc3d9d39848ef9959625e556cd706bfde6f36b89f9df5312a06e", func := "stemma/stemmalaw06.HashesSorts", spec := "hashesSorts", unfollowed := true, recurses := true, plainKeys := false, apart := false, narrowed := true }
def HashesSortsUptoSaid : Prop := hashesSortsUptoRow.holds Try.pinned (OpenSpec.upto hashesSortsSpec)

/-- 'stemmalaw06.HashesGets', WHERE WHAT IT READS IS OF BULK AT MOST 1048576: true; the input reads as it did. -/
def hashesGetsUptoRow : OpenClaim := { program := "ytjbfgmkemideiaa", sum := "ad361f431c9ffc3d9d39848ef9959625e556cd706bfde6f36b89f9df5312a06e", func := "stemma/stemmalaw06.HashesGets", spec := "hashesGets", unfollowed := true, recurses := true, plainKeys := false, apart := false, narrowed := true }
def HashesGetsUptoSaid : Prop := hashesGetsUptoRow.holds Try.pinned (OpenSpec.upto hashesGetsSpec)

/-- 'stemmalaw06.HashesPuts', WHERE WHAT IT READS IS OF BULK AT MOST 1048576: true; the input reads as it did. -/
def hashesPutsUptoRow : OpenClaim := { program := "ytjbfgmkemideiaa", sum := "ad361f431c9ffc3d9d39848ef9959625e556cd706bfde6f36b89f9df5312a06e", func := "stemma/stemmalaw06.HashesPuts", spec := "hashesPuts", unfollowed := true, recurses := true, plainKeys := false, apart := false, narrowed := true }
def HashesPutsUptoSaid : Prop := hashesPutsUptoRow.holds Try.pinned (OpenSpec.upto hashesPutsSpec)

/-- 'stemmalaw15.BranchNobody', WHERE WHAT IT READS IS OF BULK AT MOST 1048576: true; the input reads as it did. -/
def branchNobodyUptoRow : OpenClaim := { program := "ytjbfgmkemideiaa", sum := "ad361f431c9ffc3d9d39848ef9959625e556cd706bfde6f36b89f9df5312a06e", func := "stemma/stemmalaw15.BranchNobody", spec := "branchNobody", inPlace := ["maps.clone"], unfollowed := true, recurses := true, plainKeys := false, apart := false, narrowed := true }
def BranchNobodyUptoSaid : Prop := branchNobodyUptoRow.holds Try.pinned (OpenSpec.upto branchNobodySpec)

/-- 'stemmalaw06.HashesSets', WHERE WHAT IT READS IS OF BULK AT MOST 1048576: true; the input reads as it did. -/
def hashesSetsUptoRow : OpenClaim := { program := "ytjbfgmkemideiaa", sum := "ad361f431c9ffc3d9d39848ef9959625e556cd706bfde6f36b89f9df5312a06e", func := "stemma/stemmalaw06.HashesSets", spec := "hashesSets", unfollowed := true, recurses := true, plainKeys := false, apart := false, narrowed := true }
def HashesSetsUptoSaid : Prop := hashesSetsUptoRow.holds Try.pinned (OpenSpec.upto hashesSetsSpec)

/-- 'stemmalaw15.BranchPlays', WHERE WHAT IT READS IS OF BULK AT MOST 1048576: true; the input reads as it did. -/
def branchPlaysUptoRow : OpenClaim := { program := "ytjbfgmkemideiaa", sum := "ad361f431c9ffc3d9d39848ef9959625e556cd706bfde6f36b89f9df5312a06e", func := "stemma/stemmalaw15.BranchPlays", spec := "branchPlays", unfollowed := true, recurses := true, plainKeys := false, apart := false, narrowed := true }
def BranchPlaysUptoSaid : Prop := branchPlaysUptoRow.holds Try.pinned (OpenSpec.upto branchPlaysSpec)

/-- 'stemmalaw15.BranchApart', WHERE WHAT IT READS IS OF BULK AT MOST 1048576: true; the input reads as it did. -/
def branchApartUptoRow : OpenClaim := { program := "ytjbfgmkemideiaa", sum := "ad361f431c9ffc3d9d39848ef9959625e556cd706bfde6f36b89f9df5312a06e", func := "stemma/stemmalaw15.BranchApart", spec := "branchApart", unfollowed := true, recurses := true, plainKeys := false, apart := false, narrowed := true }
def BranchApartUptoSaid : Prop := branchApartUptoRow.holds Try.pinned (OpenSpec.upto branchApartSpec)

/-- 'stemmalaw15.BranchLoads', WHERE WHAT IT READS IS OF BULK AT MOST 1048576: true; the input reads as it did. -/
def branchLoadsUptoRow : OpenClaim := { program := "ytjbfgmkemideiaa", sum := "ad361f431c9ffc3d9d39848ef9959625e556cd706bfde6f36b89f9df5312a06e", func := "stemma/stemmalaw15.BranchLoads", spec := "branchLoads", unfollowed := true, recurses := true, plainKeys := false, apart := false, narrowed := true }
def BranchLoadsUptoSaid : Prop := branchLoadsUptoRow.holds Try.pinned (OpenSpec.upto branchLoadsSpec)

/-- 'stemmalaw06.HashesBack', WHERE WHAT IT READS IS OF BULK AT MOST 1048576: true; the input reads as it did. -/
def hashesBackUptoRow : OpenClaim := { program := "ytjbfgmkemideiaa", sum := "ad361f431c9ffc3d9d39848ef9959625e556cd706bfde6f36b89f9df5312a06e", func := "stemma/stemmalaw06.HashesBack", spec := "hashesBack", unfollowed := true, recurses := true, plainKeys := false, apart := false, narrowed := true }
def HashesBackUptoSaid : Prop := hashesBackUptoRow.holds Try.pinned (OpenSpec.upto hashesBackSpec)

/-- 'stemmalaw06.HashesAlgebra', WHERE WHAT IT READS IS OF BULK AT MOST 1048576: true; the input reads as it did. -/
def hashesAlgebraUptoRow : OpenClaim := { program := "ytjbfgmkemideiaa", sum := "ad361f431c9ffc3d9d39848ef9959625e556cd706bfde6f36b89f9df5312a06e", func := "stemma/stemmalaw06.HashesAlgebra", spec := "hashesAlgebra", unfollowed := true, recurses := true, plainKeys := false, apart := false, narrowed := true }
def HashesAlgebraUptoSaid : Prop := hashesAlgebraUptoRow.holds Try.pinned (OpenSpec.upto hashesAlgebraSpec)

/-- 'stemmalaw15.BranchForks', WHERE WHAT IT READS IS OF BULK AT MOST 1048576: true; the input reads as it did. -/
def branchForksUptoRow : OpenClaim := { program := "ytjbfgmkemideiaa", sum := "ad361f431c9ffc3d9d39848ef9959625e556cd706bfde6f36b89f9df5312a06e", func := "stemma/stemmalaw15.BranchForks", spec := "branchForks", inPlace := ["maps.clone"], unfollowed := true, recurses := true, plainKeys := false, apart := false, narrowed := true }
def BranchForksUptoSaid : Prop := branchForksUptoRow.holds Try.pinned (OpenSpec.upto branchForksSpec)

/-- 'stemmalaw15.BranchBack', WHERE WHAT IT READS IS OF BULK AT MOST 1048576: true; the input reads as it did. -/
def branchBackUptoRow : OpenClaim := { program := "ytjbfgmkemideiaa", sum := "ad361f431c9ffc3d9d39848ef9959625e556cd706bfde6f36b89f9df5312a06e", func := "stemma/stemmalaw15.BranchBack", spec := "branchBack", unfollowed := true, recurses := true, plainKeys := false, apart := false, narrowed := true }
def BranchBackUptoSaid : Prop := branchBackUptoRow.holds Try.pinned (OpenSpec.upto branchBackSpec)

/-- 'stemmalaw17.IndexJoins', WHERE WHAT IT READS IS OF BULK AT MOST 1048576: true; the input reads as it did. -/
def indexJoinsUptoRow : OpenClaim := { program := "ytjbfgmkemideiaa", sum := "ad361f431c9ffc3d9d39848ef9959625e556cd706bfde6f36b89f9df5312a06e", func := "stemma/stemmalaw17.IndexJoins", spec := "indexJoins", unfollowed := true, recurses := true, plainKeys := false, apart := false, narrowed := true }
def IndexJoinsUptoSaid : Prop := indexJoinsUptoRow.holds Try.pinned (OpenSpec.upto indexJoinsSpec)

/-- 'stemmalaw17.IndexLive', WHERE WHAT IT READS IS OF BULK AT MOST 1048576: true; the input reads as it did. -/
def indexLiveUptoRow : OpenClaim := { program := "ytjbfgmkemideiaa", sum := "ad361f431c9ffc3d9d39848ef9959625e556cd706bfde6f36b89f9df5312a06e", func := "stemma/stemmalaw17.IndexLive", spec := "indexLive", unfollowed := true, recurses := true, plainKeys := false, apart := false, narrowed := true }
def IndexLiveUptoSaid : Prop := indexLiveUptoRow.holds Try.pinned (OpenSpec.upto indexLiveSpec)

end Rows
end Go.Proofs.Ytjbfgmkemideiaa
