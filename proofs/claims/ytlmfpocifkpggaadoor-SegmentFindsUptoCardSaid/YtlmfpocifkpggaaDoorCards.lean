/-
  DERIVED. GIVEN WITH THE SEED: THE CARDS: each row of YtlmfpocifkpggaaDoorRows.lean that lists a variable, with what it lists TIED to the program's text (the seventh form; the later family's looks); each row that meets fmt, with fmt's text TOLD by the authors' own Lean function (tested against real Go, not proved from fmt's source: count such statements apart). THE CARD IS WHAT COUNTS. Prove the row's statement (the work); the ties are given (YtlmfpocifkpggaaDoorTie.lean); close each card by the builder's one call (the guide's Derived/Test/ToyasCard.lean, 'card_holds'). Laid BY PROGRAM, IN A SANDBOX (cutbox-door.mjs). By AI agents, Wed Nov 11 2026. No macro, syntax, notation, axiom, sorry.
-/
import Derived.Test.YtlmfpocifkpggaaDoorRows
import GoSem.ClaimSeven
namespace Go.Proofs.YtlmfpocifkpggaaDoor
namespace Rows

/-- THE TIED CARD OF 'stemmalaw18.SegmentNames'. -/
def segmentNamesCard : Claim7 := { stood := { row := segmentNamesRow, standIns := [], harness := (true, "6d95b7728b3454ada059b4728920d45142e5f743f353f08ead69d324c99a08f7"), looks := true }, kinds := [], alts := [], laidByText := true, laidKinds := [.data, .data, .data, .data, .sentinel, .sentinel], laidTests := true, laidLooks := .later }
def SegmentNamesCardSaid : Prop := Claim7.holds Tryd.pinned (.plain (OpenSpec.ofChange segmentNamesSpec)) segmentNamesCard

/-- THE TIED CARD OF 'stemmalaw18.SegmentPuts'. -/
def segmentPutsCard : Claim7 := { stood := { row := segmentPutsRow, standIns := [], harness := (true, "6d95b7728b3454ada059b4728920d45142e5f743f353f08ead69d324c99a08f7"), looks := true }, kinds := [], alts := [], laidByText := true, laidKinds := [.data, .data, .data, .data, .sentinel, .sentinel], laidTests := true, laidLooks := .later }
def SegmentPutsCardSaid : Prop := Claim7.holds Tryd.pinned (.plain (OpenSpec.ofChange segmentPutsSpec)) segmentPutsCard

/-- THE TIED CARD OF 'stemmalaw18.SegmentGets'. -/
def segmentGetsCard : Claim7 := { stood := { row := segmentGetsRow, standIns := [], harness := (true, "6d95b7728b3454ada059b4728920d45142e5f743f353f08ead69d324c99a08f7"), looks := true }, kinds := [], alts := [], laidByText := true, laidKinds := [.data, .data, .data, .data, .sentinel, .sentinel], laidTests := true, laidLooks := .later }
def SegmentGetsCardSaid : Prop := Claim7.holds Tryd.pinned (.plain (OpenSpec.ofChange segmentGetsSpec)) segmentGetsCard

/-- THE TIED CARD OF 'stemmalaw18.SegmentBack'. -/
def segmentBackCard : Claim7 := { stood := { row := segmentBackRow, standIns := [], harness := (true, "6d95b7728b3454ada059b4728920d45142e5f743f353f08ead69d324c99a08f7"), looks := true }, kinds := [], alts := [], laidByText := true, laidKinds := [.data, .data, .data, .data, .sentinel, .sentinel], laidTests := true, laidLooks := .later }
def SegmentBackCardSaid : Prop := Claim7.holds Tryd.pinned (.plain (OpenSpec.ofChange segmentBackSpec)) segmentBackCard

/-- THE TIED CARD OF 'stemmalaw18.SegmentFinds'. -/
def segmentFindsCard : Claim7 := { stood := { row := segmentFindsRow, standIns := [], harness := (true, "6d95b7728b3454ada059b4728920d45142e5f743f353f08ead69d324c99a08f7"), looks := true }, kinds := [], alts := [], laidByText := true, laidKinds := [.data, .data, .data, .data, .data, .data, .sentinel, .sentinel], laidTests := true, laidLooks := .later }
def SegmentFindsCardSaid : Prop := Claim7.holds Tryd.pinned (.plain (OpenSpec.ofChange segmentFindsSpec)) segmentFindsCard

/-- THE SECOND FORM's CARD OF 'stemmalaw18.SegmentNames'. -/
def segmentNamesUptoCard : Claim7 := { stood := { row := segmentNamesUptoRow, standIns := [], harness := (true, "6d95b7728b3454ada059b4728920d45142e5f743f353f08ead69d324c99a08f7"), looks := true }, kinds := [], alts := [], laidByText := true, laidKinds := [.data, .data, .data, .data, .sentinel, .sentinel], laidTests := true, laidLooks := .later }
def SegmentNamesUptoCardSaid : Prop := Claim7.holds Tryd.pinned (.plain (OpenSpec.upto segmentNamesSpec)) segmentNamesUptoCard

/-- THE SECOND FORM's CARD OF 'stemmalaw18.SegmentPuts'. -/
def segmentPutsUptoCard : Claim7 := { stood := { row := segmentPutsUptoRow, standIns := [], harness := (true, "6d95b7728b3454ada059b4728920d45142e5f743f353f08ead69d324c99a08f7"), looks := true }, kinds := [], alts := [], laidByText := true, laidKinds := [.data, .data, .data, .data, .sentinel, .sentinel], laidTests := true, laidLooks := .later }
def SegmentPutsUptoCardSaid : Prop := Claim7.holds Tryd.pinned (.plain (OpenSpec.upto segmentPutsSpec)) segmentPutsUptoCard

/-- THE SECOND FORM's CARD OF 'stemmalaw18.SegmentGets'. -/
def segmentGetsUptoCard : Claim7 := { stood := { row := segmentGetsUptoRow, standIns := [], harness := (true, "6d95b7728b3454ada059b4728920d45142e5f743f353f08ead69d324c99a08f7"), looks := true }, kinds := [], alts := [], laidByText := true, laidKinds := [.data, .data, .data, .data, .sentinel, .sentinel], laidTests := true, laidLooks := .later }
def SegmentGetsUptoCardSaid : Prop := Claim7.holds Tryd.pinned (.plain (OpenSpec.upto segmentGetsSpec)) segmentGetsUptoCard

/-- THE SECOND FORM's CARD OF 'stemmalaw18.SegmentBack'. -/
def segmentBackUptoCard : Claim7 := { stood := { row := segmentBackUptoRow, standIns := [], harness := (true, "6d95b7728b3454ada059b4728920d45142e5f743f353f08ead69d324c99a08f7"), looks := true }, kinds := [], alts := [], laidByText := true, laidKinds := [.data, .data, .data, .data, .sentinel, .sentinel], laidTests := true, laidLooks := .later }
def SegmentBackUptoCardSaid : Prop := Claim7.holds Tryd.pinned (.plain (OpenSpec.upto segmentBackSpec)) segmentBackUptoCard

/-- THE SECOND FORM's CARD OF 'stemmalaw18.SegmentFinds'. -/
def segmentFindsUptoCard : Claim7 := { stood := { row := segmentFindsUptoRow, standIns := [], harness := (true, "6d95b7728b3454ada059b4728920d45142e5f743f353f08ead69d324c99a08f7"), looks := true }, kinds := [], alts := [], laidByText := true, laidKinds := [.data, .data, .data, .data, .data, .data, .sentinel, .sentinel], laidTests := true, laidLooks := .later }
def SegmentFindsUptoCardSaid : Prop := Claim7.holds Tryd.pinned (.plain (OpenSpec.upto segmentFindsSpec)) segmentFindsUptoCard
end Rows
end Go.Proofs.YtlmfpocifkpggaaDoor
