/-
  DERIVED. GIVEN WITH THE SEED: THE CARDS: each row of YtldomapkmopomaaGreatDoorRows.lean that lists a variable, with what it lists TIED to the program's text (the seventh form; the later family's looks); each row that meets fmt, with fmt's text TOLD by the authors' own Lean function (tested against real Go, not proved from fmt's source: count such statements apart). THE CARD IS WHAT COUNTS. Prove the row's statement (the work); the ties are given (YtldomapkmopomaaGreatDoorTie.lean); close each card by the builder's one call (the guide's Derived/Test/ToyasCard.lean, 'card_holds'). Laid BY PROGRAM, IN A SANDBOX (cutbox-door.mjs). By AI agents, Wed Nov 11 2026. No macro, syntax, notation, axiom, sorry.
-/
import Derived.Test.YtldomapkmopomaaGreatDoorRows
import GoSem.ClaimSeven
namespace Go.Proofs.YtldomapkmopomaaGreatDoor
namespace Rows

/-- THE TIED CARD OF 'commonagelaw22.CycleNone'. -/
def cycleNoneCard : Claim7 := { stood := { row := cycleNoneRow, standIns := [], harness := (true, "4405538b94c001e33faf4670eeee26c3e636e52ac29f93920c4c18005baf7a05"), looks := true }, kinds := [], alts := [], laidByText := true, laidKinds := [.data, .data], laidTests := true, laidLooks := .later }
def CycleNoneCardSaid : Prop := Claim7.holds Tryz.pinned (.plain (OpenSpec.ofChange cycleNoneSpec)) cycleNoneCard

/-- THE TIED CARD OF 'commonagelaw22.CycleSame'. -/
def cycleSameCard : Claim7 := { stood := { row := cycleSameRow, standIns := [], harness := (true, "4405538b94c001e33faf4670eeee26c3e636e52ac29f93920c4c18005baf7a05"), looks := true }, kinds := [], alts := [], laidByText := true, laidKinds := [.data, .data], laidTests := true, laidLooks := .later }
def CycleSameCardSaid : Prop := Claim7.holds Tryz.pinned (.plain (OpenSpec.ofChange cycleSameSpec)) cycleSameCard

/-- THE TIED CARD OF 'commonagelaw22.CycleTwice'. -/
def cycleTwiceCard : Claim7 := { stood := { row := cycleTwiceRow, standIns := [], harness := (true, "4405538b94c001e33faf4670eeee26c3e636e52ac29f93920c4c18005baf7a05"), looks := true }, kinds := [], alts := [], laidByText := true, laidKinds := [.data, .data], laidTests := true, laidLooks := .later }
def CycleTwiceCardSaid : Prop := Claim7.holds Tryz.pinned (.plain (OpenSpec.ofChange cycleTwiceSpec)) cycleTwiceCard

/-- THE TIED CARD OF 'commonagelaw22.CycleKeeps'. -/
def cycleKeepsCard : Claim7 := { stood := { row := cycleKeepsRow, standIns := [], harness := (true, "4405538b94c001e33faf4670eeee26c3e636e52ac29f93920c4c18005baf7a05"), looks := true }, kinds := [], alts := [], laidByText := true, laidKinds := [.data, .data], laidTests := true, laidLooks := .later }
def CycleKeepsCardSaid : Prop := Claim7.holds Tryz.pinned (.plain (OpenSpec.ofChange cycleKeepsSpec)) cycleKeepsCard

/-- THE TIED CARD OF 'commonagelaw22.CyclePhases'. -/
def cyclePhasesCard : Claim7 := { stood := { row := cyclePhasesRow, standIns := [], harness := (true, "4405538b94c001e33faf4670eeee26c3e636e52ac29f93920c4c18005baf7a05"), looks := true }, kinds := [], alts := [], laidByText := true, laidKinds := [.data, .data], laidTests := true, laidLooks := .later }
def CyclePhasesCardSaid : Prop := Claim7.holds Tryz.pinned (.plain (OpenSpec.ofChange cyclePhasesSpec)) cyclePhasesCard

/-- THE TIED CARD OF 'commonagelaw22.CycleFrees'. -/
def cycleFreesCard : Claim7 := { stood := { row := cycleFreesRow, standIns := [], harness := (true, "4405538b94c001e33faf4670eeee26c3e636e52ac29f93920c4c18005baf7a05"), looks := true }, kinds := [], alts := [], laidByText := true, laidKinds := [.data, .data], laidTests := true, laidLooks := .later }
def CycleFreesCardSaid : Prop := Claim7.holds Tryz.pinned (.plain (OpenSpec.ofChange cycleFreesSpec)) cycleFreesCard

/-- THE TIED CARD OF 'commonagelaw22.CyclePlays'. -/
def cyclePlaysCard : Claim7 := { stood := { row := cyclePlaysRow, standIns := [], harness := (true, "4405538b94c001e33faf4670eeee26c3e636e52ac29f93920c4c18005baf7a05"), looks := true }, kinds := [], alts := [], laidByText := true, laidKinds := [.data, .data], laidTests := true, laidLooks := .later }
def CyclePlaysCardSaid : Prop := Claim7.holds Tryz.pinned (.plain (OpenSpec.ofChange cyclePlaysSpec)) cyclePlaysCard

/-- THE SECOND FORM's CARD OF 'commonagelaw22.CycleNone'. -/
def cycleNoneUptoCard : Claim7 := { stood := { row := cycleNoneUptoRow, standIns := [], harness := (true, "4405538b94c001e33faf4670eeee26c3e636e52ac29f93920c4c18005baf7a05"), looks := true }, kinds := [], alts := [], laidByText := true, laidKinds := [.data, .data], laidTests := true, laidLooks := .later }
def CycleNoneUptoCardSaid : Prop := Claim7.holds Tryz.pinned (.plain (OpenSpec.upto cycleNoneSpec)) cycleNoneUptoCard

/-- THE SECOND FORM's CARD OF 'commonagelaw22.CycleSame'. -/
def cycleSameUptoCard : Claim7 := { stood := { row := cycleSameUptoRow, standIns := [], harness := (true, "4405538b94c001e33faf4670eeee26c3e636e52ac29f93920c4c18005baf7a05"), looks := true }, kinds := [], alts := [], laidByText := true, laidKinds := [.data, .data], laidTests := true, laidLooks := .later }
def CycleSameUptoCardSaid : Prop := Claim7.holds Tryz.pinned (.plain (OpenSpec.upto cycleSameSpec)) cycleSameUptoCard

/-- THE SECOND FORM's CARD OF 'commonagelaw22.CycleTwice'. -/
def cycleTwiceUptoCard : Claim7 := { stood := { row := cycleTwiceUptoRow, standIns := [], harness := (true, "4405538b94c001e33faf4670eeee26c3e636e52ac29f93920c4c18005baf7a05"), looks := true }, kinds := [], alts := [], laidByText := true, laidKinds := [.data, .data], laidTests := true, laidLooks := .later }
def CycleTwiceUptoCardSaid : Prop := Claim7.holds Tryz.pinned (.plain (OpenSpec.upto cycleTwiceSpec)) cycleTwiceUptoCard

/-- THE SECOND FORM's CARD OF 'commonagelaw22.CycleKeeps'. -/
def cycleKeepsUptoCard : Claim7 := { stood := { row := cycleKeepsUptoRow, standIns := [], harness := (true, "4405538b94c001e33faf4670eeee26c3e636e52ac29f93920c4c18005baf7a05"), looks := true }, kinds := [], alts := [], laidByText := true, laidKinds := [.data, .data], laidTests := true, laidLooks := .later }
def CycleKeepsUptoCardSaid : Prop := Claim7.holds Tryz.pinned (.plain (OpenSpec.upto cycleKeepsSpec)) cycleKeepsUptoCard

/-- THE SECOND FORM's CARD OF 'commonagelaw22.CyclePhases'. -/
def cyclePhasesUptoCard : Claim7 := { stood := { row := cyclePhasesUptoRow, standIns := [], harness := (true, "4405538b94c001e33faf4670eeee26c3e636e52ac29f93920c4c18005baf7a05"), looks := true }, kinds := [], alts := [], laidByText := true, laidKinds := [.data, .data], laidTests := true, laidLooks := .later }
def CyclePhasesUptoCardSaid : Prop := Claim7.holds Tryz.pinned (.plain (OpenSpec.upto cyclePhasesSpec)) cyclePhasesUptoCard

/-- THE SECOND FORM's CARD OF 'commonagelaw22.CycleFrees'. -/
def cycleFreesUptoCard : Claim7 := { stood := { row := cycleFreesUptoRow, standIns := [], harness := (true, "4405538b94c001e33faf4670eeee26c3e636e52ac29f93920c4c18005baf7a05"), looks := true }, kinds := [], alts := [], laidByText := true, laidKinds := [.data, .data], laidTests := true, laidLooks := .later }
def CycleFreesUptoCardSaid : Prop := Claim7.holds Tryz.pinned (.plain (OpenSpec.upto cycleFreesSpec)) cycleFreesUptoCard

/-- THE SECOND FORM's CARD OF 'commonagelaw22.CyclePlays'. -/
def cyclePlaysUptoCard : Claim7 := { stood := { row := cyclePlaysUptoRow, standIns := [], harness := (true, "4405538b94c001e33faf4670eeee26c3e636e52ac29f93920c4c18005baf7a05"), looks := true }, kinds := [], alts := [], laidByText := true, laidKinds := [.data, .data], laidTests := true, laidLooks := .later }
def CyclePlaysUptoCardSaid : Prop := Claim7.holds Tryz.pinned (.plain (OpenSpec.upto cyclePlaysSpec)) cyclePlaysUptoCard
end Rows
end Go.Proofs.YtldomapkmopomaaGreatDoor
