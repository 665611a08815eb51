/-
  DERIVED. GIVEN WITH THE SEED: THE CARDS: each row of YtlmfpocifkpggaaGreatDoorRows.lean that lists a variable, with what it lists TIED to the program's text (the seventh form; the later family's looks); each row that meets fmt, with fmt's text TOLD by the authors' own Lean function (tested against real Go, not proved from fmt's source: count such statements apart). THE CARD IS WHAT COUNTS. Prove the row's statement (the work); the ties are given (YtlmfpocifkpggaaGreatDoorTie.lean); close each card by the builder's one call (the guide's Derived/Test/ToyasCard.lean, 'card_holds'). Laid BY PROGRAM, IN A SANDBOX (cutbox-door.mjs). By AI agents, Wed Nov 11 2026. No macro, syntax, notation, axiom, sorry.
-/
import Derived.Test.YtlmfpocifkpggaaGreatDoorRows
import GoSem.ClaimSeven
namespace Go.Proofs.YtlmfpocifkpggaaGreatDoor
namespace Rows

/-- THE TIED CARD OF 'stemmalaw20.ChunksTwice'. -/
def chunksTwiceCard : Claim7 := { stood := { row := chunksTwiceRow, standIns := [], harness := (true, "4243d31051ed730dab84e2901f3579bac18f73ffe758a9608ddeb68be49b537e"), looks := true }, kinds := [], alts := [], laidByText := true, laidKinds := [.data, .data, .data, .data, .data, .data, .sentinel, .sentinel], laidTests := true, laidLooks := .later }
def ChunksTwiceCardSaid : Prop := Claim7.holds Tryz.pinned (.plain (OpenSpec.ofChange chunksTwiceSpec)) chunksTwiceCard

/-- THE TIED CARD OF 'stemmalaw20.ChunksOpens'. -/
def chunksOpensCard : Claim7 := { stood := { row := chunksOpensRow, standIns := [], harness := (true, "4243d31051ed730dab84e2901f3579bac18f73ffe758a9608ddeb68be49b537e"), looks := true }, kinds := [], alts := [], laidByText := true, laidKinds := [.data, .data, .data, .data, .data, .data, .sentinel, .sentinel], laidTests := true, laidLooks := .later }
def ChunksOpensCardSaid : Prop := Claim7.holds Tryz.pinned (.plain (OpenSpec.ofChange chunksOpensSpec)) chunksOpensCard

/-- THE TIED CARD OF 'stemmalaw20.ChunksNobody'. -/
def chunksNobodyCard : Claim7 := { stood := { row := chunksNobodyRow, standIns := [], harness := (true, "4243d31051ed730dab84e2901f3579bac18f73ffe758a9608ddeb68be49b537e"), looks := true }, kinds := [], alts := [], laidByText := true, laidKinds := [.data, .data, .data, .data, .data, .data, .sentinel, .sentinel], laidTests := true, laidLooks := .later }
def ChunksNobodyCardSaid : Prop := Claim7.holds Tryz.pinned (.plain (OpenSpec.ofChange chunksNobodySpec)) chunksNobodyCard

/-- THE TIED CARD OF 'stemmalaw20.ChunksCompacts'. -/
def chunksCompactsCard : Claim7 := { stood := { row := chunksCompactsRow, standIns := [], harness := (true, "4243d31051ed730dab84e2901f3579bac18f73ffe758a9608ddeb68be49b537e"), looks := true }, kinds := [], alts := [], laidByText := true, laidKinds := [.data, .data, .data, .data, .data, .data, .sentinel, .sentinel], laidTests := true, laidLooks := .later }
def ChunksCompactsCardSaid : Prop := Claim7.holds Tryz.pinned (.plain (OpenSpec.ofChange chunksCompactsSpec)) chunksCompactsCard

/-- THE TIED CARD OF 'stemmalaw20.ChunksFull'. -/
def chunksFullCard : Claim7 := { stood := { row := chunksFullRow, standIns := [], harness := (true, "4243d31051ed730dab84e2901f3579bac18f73ffe758a9608ddeb68be49b537e"), looks := true }, kinds := [], alts := [], laidByText := true, laidKinds := [.data, .data, .data, .data, .data, .data, .sentinel, .sentinel], laidTests := true, laidLooks := .later }
def ChunksFullCardSaid : Prop := Claim7.holds Tryz.pinned (.plain (OpenSpec.ofChange chunksFullSpec)) chunksFullCard

/-- THE TIED CARD OF 'stemmalaw20.ChunksCrash'. -/
def chunksCrashCard : Claim7 := { stood := { row := chunksCrashRow, standIns := [], harness := (true, "4243d31051ed730dab84e2901f3579bac18f73ffe758a9608ddeb68be49b537e"), looks := true }, kinds := [], alts := [], laidByText := true, laidKinds := [.data, .data, .data, .data, .data, .data, .sentinel, .sentinel], laidTests := true, laidLooks := .later }
def ChunksCrashCardSaid : Prop := Claim7.holds Tryz.pinned (.plain (OpenSpec.ofChange chunksCrashSpec)) chunksCrashCard

/-- THE SECOND FORM's CARD OF 'stemmalaw20.ChunksTwice'. -/
def chunksTwiceUptoCard : Claim7 := { stood := { row := chunksTwiceUptoRow, standIns := [], harness := (true, "4243d31051ed730dab84e2901f3579bac18f73ffe758a9608ddeb68be49b537e"), looks := true }, kinds := [], alts := [], laidByText := true, laidKinds := [.data, .data, .data, .data, .data, .data, .sentinel, .sentinel], laidTests := true, laidLooks := .later }
def ChunksTwiceUptoCardSaid : Prop := Claim7.holds Tryz.pinned (.plain (OpenSpec.upto chunksTwiceSpec)) chunksTwiceUptoCard

/-- THE SECOND FORM's CARD OF 'stemmalaw20.ChunksOpens'. -/
def chunksOpensUptoCard : Claim7 := { stood := { row := chunksOpensUptoRow, standIns := [], harness := (true, "4243d31051ed730dab84e2901f3579bac18f73ffe758a9608ddeb68be49b537e"), looks := true }, kinds := [], alts := [], laidByText := true, laidKinds := [.data, .data, .data, .data, .data, .data, .sentinel, .sentinel], laidTests := true, laidLooks := .later }
def ChunksOpensUptoCardSaid : Prop := Claim7.holds Tryz.pinned (.plain (OpenSpec.upto chunksOpensSpec)) chunksOpensUptoCard

/-- THE SECOND FORM's CARD OF 'stemmalaw20.ChunksNobody'. -/
def chunksNobodyUptoCard : Claim7 := { stood := { row := chunksNobodyUptoRow, standIns := [], harness := (true, "4243d31051ed730dab84e2901f3579bac18f73ffe758a9608ddeb68be49b537e"), looks := true }, kinds := [], alts := [], laidByText := true, laidKinds := [.data, .data, .data, .data, .data, .data, .sentinel, .sentinel], laidTests := true, laidLooks := .later }
def ChunksNobodyUptoCardSaid : Prop := Claim7.holds Tryz.pinned (.plain (OpenSpec.upto chunksNobodySpec)) chunksNobodyUptoCard

/-- THE SECOND FORM's CARD OF 'stemmalaw20.ChunksCompacts'. -/
def chunksCompactsUptoCard : Claim7 := { stood := { row := chunksCompactsUptoRow, standIns := [], harness := (true, "4243d31051ed730dab84e2901f3579bac18f73ffe758a9608ddeb68be49b537e"), looks := true }, kinds := [], alts := [], laidByText := true, laidKinds := [.data, .data, .data, .data, .data, .data, .sentinel, .sentinel], laidTests := true, laidLooks := .later }
def ChunksCompactsUptoCardSaid : Prop := Claim7.holds Tryz.pinned (.plain (OpenSpec.upto chunksCompactsSpec)) chunksCompactsUptoCard

/-- THE SECOND FORM's CARD OF 'stemmalaw20.ChunksFull'. -/
def chunksFullUptoCard : Claim7 := { stood := { row := chunksFullUptoRow, standIns := [], harness := (true, "4243d31051ed730dab84e2901f3579bac18f73ffe758a9608ddeb68be49b537e"), looks := true }, kinds := [], alts := [], laidByText := true, laidKinds := [.data, .data, .data, .data, .data, .data, .sentinel, .sentinel], laidTests := true, laidLooks := .later }
def ChunksFullUptoCardSaid : Prop := Claim7.holds Tryz.pinned (.plain (OpenSpec.upto chunksFullSpec)) chunksFullUptoCard

/-- THE SECOND FORM's CARD OF 'stemmalaw20.ChunksCrash'. -/
def chunksCrashUptoCard : Claim7 := { stood := { row := chunksCrashUptoRow, standIns := [], harness := (true, "4243d31051ed730dab84e2901f3579bac18f73ffe758a9608ddeb68be49b537e"), looks := true }, kinds := [], alts := [], laidByText := true, laidKinds := [.data, .data, .data, .data, .data, .data, .sentinel, .sentinel], laidTests := true, laidLooks := .later }
def ChunksCrashUptoCardSaid : Prop := Claim7.holds Tryz.pinned (.plain (OpenSpec.upto chunksCrashSpec)) chunksCrashUptoCard
end Rows
end Go.Proofs.YtlmfpocifkpggaaGreatDoor
