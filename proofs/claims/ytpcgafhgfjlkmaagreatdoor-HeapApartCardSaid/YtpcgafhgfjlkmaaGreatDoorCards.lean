/-
  DERIVED. GIVEN WITH THE SEED: THE CARDS: each row of YtpcgafhgfjlkmaaGreatDoorRows.lean that lists a variable, with what it lists TIED to the program's text (the seventh form; the later family's looks); each row that meets fmt, with fmt's text TOLD by the authors' own Lean function (tested against real Go, not proved from fmt's source: count such statements apart). THE CARD IS WHAT COUNTS. Prove the row's statement (the work); the ties are given (YtpcgafhgfjlkmaaGreatDoorTie.lean); close each card by the builder's one call (the guide's Derived/Test/ToyasCard.lean, 'card_holds'). Laid BY PROGRAM, IN A SANDBOX (cutbox-door.mjs). By AI agents, Wed Nov 11 2026. No macro, syntax, notation, axiom, sorry.
-/
import Derived.Test.YtpcgafhgfjlkmaaGreatDoorRows
import GoSem.ClaimSeven
namespace Go.Proofs.YtpcgafhgfjlkmaaGreatDoor
namespace Rows

/-- THE TIED CARD OF 'commonagelaw23.HeapStale'. -/
def heapStaleCard : Claim7 := { stood := { row := heapStaleRow, standIns := [], harness := (true, "d1a7fcd9d8ae4d2d19c08546e7d3df0c0b9df7c2b07e7cfbbe2009a9abf912f1"), looks := true }, kinds := [], alts := [], laidByText := true, laidKinds := [.data, .data], laidTests := true, laidLooks := .later }
def HeapStaleCardSaid : Prop := Claim7.holds Tryz.pinned (.plain (OpenSpec.ofChange heapStaleSpec)) heapStaleCard

/-- THE TIED CARD OF 'commonagelaw23.HeapApart'. -/
def heapApartCard : Claim7 := { stood := { row := heapApartRow, standIns := [], harness := (true, "d1a7fcd9d8ae4d2d19c08546e7d3df0c0b9df7c2b07e7cfbbe2009a9abf912f1"), looks := true }, kinds := [], alts := [], laidByText := true, laidKinds := [.data, .data], laidTests := true, laidLooks := .later }
def HeapApartCardSaid : Prop := Claim7.holds Tryz.pinned (.plain (OpenSpec.ofChange heapApartSpec)) heapApartCard

/-- THE TIED CARD OF 'commonagelaw23.HeapPlaces'. -/
def heapPlacesCard : Claim7 := { stood := { row := heapPlacesRow, standIns := [], harness := (true, "d1a7fcd9d8ae4d2d19c08546e7d3df0c0b9df7c2b07e7cfbbe2009a9abf912f1"), looks := true }, kinds := [], alts := [], laidByText := true, laidKinds := [.data, .data], laidTests := true, laidLooks := .later }
def HeapPlacesCardSaid : Prop := Claim7.holds Tryz.pinned (.plain (OpenSpec.ofChange heapPlacesSpec)) heapPlacesCard

/-- THE TIED CARD OF 'commonagelaw23.HeapDrains'. -/
def heapDrainsCard : Claim7 := { stood := { row := heapDrainsRow, standIns := [], harness := (true, "d1a7fcd9d8ae4d2d19c08546e7d3df0c0b9df7c2b07e7cfbbe2009a9abf912f1"), looks := true }, kinds := [], alts := [], laidByText := true, laidKinds := [.data, .data], laidTests := true, laidLooks := .later }
def HeapDrainsCardSaid : Prop := Claim7.holds Tryz.pinned (.plain (OpenSpec.ofChange heapDrainsSpec)) heapDrainsCard

/-- THE TIED CARD OF 'commonagelaw23.HeapZero'. -/
def heapZeroCard : Claim7 := { stood := { row := heapZeroRow, standIns := [], harness := (true, "d1a7fcd9d8ae4d2d19c08546e7d3df0c0b9df7c2b07e7cfbbe2009a9abf912f1"), looks := true }, kinds := [], alts := [], laidByText := true, laidKinds := [.data, .data], laidTests := true, laidLooks := .later }
def HeapZeroCardSaid : Prop := Claim7.holds Tryz.pinned (.plain (OpenSpec.ofChange heapZeroSpec)) heapZeroCard

/-- THE TIED CARD OF 'commonagelaw23.HeapNone'. -/
def heapNoneCard : Claim7 := { stood := { row := heapNoneRow, standIns := [], harness := (true, "d1a7fcd9d8ae4d2d19c08546e7d3df0c0b9df7c2b07e7cfbbe2009a9abf912f1"), looks := true }, kinds := [], alts := [], laidByText := true, laidKinds := [.data, .data], laidTests := true, laidLooks := .later }
def HeapNoneCardSaid : Prop := Claim7.holds Tryz.pinned (.plain (OpenSpec.ofChange heapNoneSpec)) heapNoneCard

/-- THE TIED CARD OF 'commonagelaw23.HeapRefused'. -/
def heapRefusedCard : Claim7 := { stood := { row := heapRefusedRow, standIns := [], harness := (true, "d1a7fcd9d8ae4d2d19c08546e7d3df0c0b9df7c2b07e7cfbbe2009a9abf912f1"), looks := true }, kinds := [], alts := [], laidByText := true, laidKinds := [.data, .data], laidTests := true, laidLooks := .later }
def HeapRefusedCardSaid : Prop := Claim7.holds Tryz.pinned (.plain (OpenSpec.ofChange heapRefusedSpec)) heapRefusedCard

/-- THE TIED CARD OF 'commonagelaw23.HeapWrites'. -/
def heapWritesCard : Claim7 := { stood := { row := heapWritesRow, standIns := [], harness := (true, "d1a7fcd9d8ae4d2d19c08546e7d3df0c0b9df7c2b07e7cfbbe2009a9abf912f1"), looks := true }, kinds := [], alts := [], laidByText := true, laidKinds := [.data, .data], laidTests := true, laidLooks := .later }
def HeapWritesCardSaid : Prop := Claim7.holds Tryz.pinned (.plain (OpenSpec.ofChange heapWritesSpec)) heapWritesCard

/-- THE TIED CARD OF 'commonagelaw23.HeapPinned'. -/
def heapPinnedCard : Claim7 := { stood := { row := heapPinnedRow, standIns := [], harness := (true, "d1a7fcd9d8ae4d2d19c08546e7d3df0c0b9df7c2b07e7cfbbe2009a9abf912f1"), looks := true }, kinds := [], alts := [], laidByText := true, laidKinds := [.data, .data], laidTests := true, laidLooks := .later }
def HeapPinnedCardSaid : Prop := Claim7.holds Tryz.pinned (.plain (OpenSpec.ofChange heapPinnedSpec)) heapPinnedCard

/-- THE SECOND FORM's CARD OF 'commonagelaw23.HeapStale'. -/
def heapStaleUptoCard : Claim7 := { stood := { row := heapStaleUptoRow, standIns := [], harness := (true, "d1a7fcd9d8ae4d2d19c08546e7d3df0c0b9df7c2b07e7cfbbe2009a9abf912f1"), looks := true }, kinds := [], alts := [], laidByText := true, laidKinds := [.data, .data], laidTests := true, laidLooks := .later }
def HeapStaleUptoCardSaid : Prop := Claim7.holds Tryz.pinned (.plain (OpenSpec.upto heapStaleSpec)) heapStaleUptoCard

/-- THE SECOND FORM's CARD OF 'commonagelaw23.HeapApart'. -/
def heapApartUptoCard : Claim7 := { stood := { row := heapApartUptoRow, standIns := [], harness := (true, "d1a7fcd9d8ae4d2d19c08546e7d3df0c0b9df7c2b07e7cfbbe2009a9abf912f1"), looks := true }, kinds := [], alts := [], laidByText := true, laidKinds := [.data, .data], laidTests := true, laidLooks := .later }
def HeapApartUptoCardSaid : Prop := Claim7.holds Tryz.pinned (.plain (OpenSpec.upto heapApartSpec)) heapApartUptoCard

/-- THE SECOND FORM's CARD OF 'commonagelaw23.HeapPlaces'. -/
def heapPlacesUptoCard : Claim7 := { stood := { row := heapPlacesUptoRow, standIns := [], harness := (true, "d1a7fcd9d8ae4d2d19c08546e7d3df0c0b9df7c2b07e7cfbbe2009a9abf912f1"), looks := true }, kinds := [], alts := [], laidByText := true, laidKinds := [.data, .data], laidTests := true, laidLooks := .later }
def HeapPlacesUptoCardSaid : Prop := Claim7.holds Tryz.pinned (.plain (OpenSpec.upto heapPlacesSpec)) heapPlacesUptoCard

/-- THE SECOND FORM's CARD OF 'commonagelaw23.HeapDrains'. -/
def heapDrainsUptoCard : Claim7 := { stood := { row := heapDrainsUptoRow, standIns := [], harness := (true, "d1a7fcd9d8ae4d2d19c08546e7d3df0c0b9df7c2b07e7cfbbe2009a9abf912f1"), looks := true }, kinds := [], alts := [], laidByText := true, laidKinds := [.data, .data], laidTests := true, laidLooks := .later }
def HeapDrainsUptoCardSaid : Prop := Claim7.holds Tryz.pinned (.plain (OpenSpec.upto heapDrainsSpec)) heapDrainsUptoCard

/-- THE SECOND FORM's CARD OF 'commonagelaw23.HeapZero'. -/
def heapZeroUptoCard : Claim7 := { stood := { row := heapZeroUptoRow, standIns := [], harness := (true, "d1a7fcd9d8ae4d2d19c08546e7d3df0c0b9df7c2b07e7cfbbe2009a9abf912f1"), looks := true }, kinds := [], alts := [], laidByText := true, laidKinds := [.data, .data], laidTests := true, laidLooks := .later }
def HeapZeroUptoCardSaid : Prop := Claim7.holds Tryz.pinned (.plain (OpenSpec.upto heapZeroSpec)) heapZeroUptoCard

/-- THE SECOND FORM's CARD OF 'commonagelaw23.HeapNone'. -/
def heapNoneUptoCard : Claim7 := { stood := { row := heapNoneUptoRow, standIns := [], harness := (true, "d1a7fcd9d8ae4d2d19c08546e7d3df0c0b9df7c2b07e7cfbbe2009a9abf912f1"), looks := true }, kinds := [], alts := [], laidByText := true, laidKinds := [.data, .data], laidTests := true, laidLooks := .later }
def HeapNoneUptoCardSaid : Prop := Claim7.holds Tryz.pinned (.plain (OpenSpec.upto heapNoneSpec)) heapNoneUptoCard

/-- THE SECOND FORM's CARD OF 'commonagelaw23.HeapRefused'. -/
def heapRefusedUptoCard : Claim7 := { stood := { row := heapRefusedUptoRow, standIns := [], harness := (true, "d1a7fcd9d8ae4d2d19c08546e7d3df0c0b9df7c2b07e7cfbbe2009a9abf912f1"), looks := true }, kinds := [], alts := [], laidByText := true, laidKinds := [.data, .data], laidTests := true, laidLooks := .later }
def HeapRefusedUptoCardSaid : Prop := Claim7.holds Tryz.pinned (.plain (OpenSpec.upto heapRefusedSpec)) heapRefusedUptoCard

/-- THE SECOND FORM's CARD OF 'commonagelaw23.HeapWrites'. -/
def heapWritesUptoCard : Claim7 := { stood := { row := heapWritesUptoRow, standIns := [], harness := (true, "d1a7fcd9d8ae4d2d19c08546e7d3df0c0b9df7c2b07e7cfbbe2009a9abf912f1"), looks := true }, kinds := [], alts := [], laidByText := true, laidKinds := [.data, .data], laidTests := true, laidLooks := .later }
def HeapWritesUptoCardSaid : Prop := Claim7.holds Tryz.pinned (.plain (OpenSpec.upto heapWritesSpec)) heapWritesUptoCard

/-- THE SECOND FORM's CARD OF 'commonagelaw23.HeapPinned'. -/
def heapPinnedUptoCard : Claim7 := { stood := { row := heapPinnedUptoRow, standIns := [], harness := (true, "d1a7fcd9d8ae4d2d19c08546e7d3df0c0b9df7c2b07e7cfbbe2009a9abf912f1"), looks := true }, kinds := [], alts := [], laidByText := true, laidKinds := [.data, .data], laidTests := true, laidLooks := .later }
def HeapPinnedUptoCardSaid : Prop := Claim7.holds Tryz.pinned (.plain (OpenSpec.upto heapPinnedSpec)) heapPinnedUptoCard
end Rows
end Go.Proofs.YtpcgafhgfjlkmaaGreatDoor
