/-
  DERIVED. GIVEN WITH THE SEED: THE CARDS: each row of YtebiafomiemgbaaGreatDoorRows.lean that lists a variable, with what it lists TIED to the program's text (the seventh form; the later family's looks); each row that meets fmt, with fmt's text TOLD by the authors' own Lean function (tested against real Go, not proved from fmt's source: count such statements apart). THE CARD IS WHAT COUNTS. Prove the row's statement (the work); the ties are given (YtebiafomiemgbaaGreatDoorTie.lean); close each card by the builder's one call (the guide's Derived/Test/ToyasCard.lean, 'card_holds'). Laid BY PROGRAM, IN A SANDBOX (cutbox-door.mjs). By AI agents, Wed Nov 11 2026. No macro, syntax, notation, axiom, sorry.
-/
import Derived.Test.YtebiafomiemgbaaGreatDoorRows
import GoSem.ClaimSeven
namespace Go.Proofs.YtebiafomiemgbaaGreatDoor
namespace Rows

/-- THE TIED CARD OF 'commonagelaw24.FarmApart'. -/
def farmApartCard : Claim7 := { stood := { row := farmApartRow, standIns := [], harness := (true, "006d53b4b18a4c9dc6684499708fe33db118283174e06481e32c100a68d0a6c2"), looks := true }, kinds := [], alts := [], laidByText := true, laidKinds := [.data, .data], laidTests := true, laidLooks := .later }
def FarmApartCardSaid : Prop := Claim7.holds Tryz.pinned (.plain (OpenSpec.ofChange farmApartSpec)) farmApartCard

/-- THE TIED CARD OF 'commonagelaw24.FarmAlone'. -/
def farmAloneCard : Claim7 := { stood := { row := farmAloneRow, standIns := [], harness := (true, "006d53b4b18a4c9dc6684499708fe33db118283174e06481e32c100a68d0a6c2"), looks := true }, kinds := [], alts := [], laidByText := true, laidKinds := [.data, .data], laidTests := true, laidLooks := .later }
def FarmAloneCardSaid : Prop := Claim7.holds Tryz.pinned (.plain (OpenSpec.ofChange farmAloneSpec)) farmAloneCard

/-- THE TIED CARD OF 'commonagelaw24.FarmWorkers'. -/
def farmWorkersCard : Claim7 := { stood := { row := farmWorkersRow, standIns := [], harness := (true, "006d53b4b18a4c9dc6684499708fe33db118283174e06481e32c100a68d0a6c2"), looks := true }, kinds := [], alts := [], laidByText := true, laidKinds := [.data, .data], laidTests := true, laidLooks := .later }
def FarmWorkersCardSaid : Prop := Claim7.holds Tryz.pinned (.plain (OpenSpec.ofChange farmWorkersSpec)) farmWorkersCard

/-- THE TIED CARD OF 'commonagelaw24.FarmAssists'. -/
def farmAssistsCard : Claim7 := { stood := { row := farmAssistsRow, standIns := [], harness := (true, "006d53b4b18a4c9dc6684499708fe33db118283174e06481e32c100a68d0a6c2"), looks := true }, kinds := [], alts := [], laidByText := true, laidKinds := [.data, .data], laidTests := true, laidLooks := .later }
def FarmAssistsCardSaid : Prop := Claim7.holds Tryz.pinned (.plain (OpenSpec.ofChange farmAssistsSpec)) farmAssistsCard

/-- THE TIED CARD OF 'commonagelaw24.FarmRegions'. -/
def farmRegionsCard : Claim7 := { stood := { row := farmRegionsRow, standIns := [], harness := (true, "006d53b4b18a4c9dc6684499708fe33db118283174e06481e32c100a68d0a6c2"), looks := true }, kinds := [], alts := [], laidByText := true, laidKinds := [.data, .data], laidTests := true, laidLooks := .later }
def FarmRegionsCardSaid : Prop := Claim7.holds Tryz.pinned (.plain (OpenSpec.ofChange farmRegionsSpec)) farmRegionsCard

/-- THE TIED CARD OF 'commonagelaw24.FarmUsed'. -/
def farmUsedCard : Claim7 := { stood := { row := farmUsedRow, standIns := [], harness := (true, "006d53b4b18a4c9dc6684499708fe33db118283174e06481e32c100a68d0a6c2"), looks := true }, kinds := [], alts := [], laidByText := true, laidKinds := [.data, .data], laidTests := true, laidLooks := .later }
def FarmUsedCardSaid : Prop := Claim7.holds Tryz.pinned (.plain (OpenSpec.ofChange farmUsedSpec)) farmUsedCard

/-- THE TIED CARD OF 'commonagelaw24.FarmRests'. -/
def farmRestsCard : Claim7 := { stood := { row := farmRestsRow, standIns := [], harness := (true, "006d53b4b18a4c9dc6684499708fe33db118283174e06481e32c100a68d0a6c2"), looks := true }, kinds := [], alts := [], laidByText := true, laidKinds := [.data, .data], laidTests := true, laidLooks := .later }
def FarmRestsCardSaid : Prop := Claim7.holds Tryz.pinned (.plain (OpenSpec.ofChange farmRestsSpec)) farmRestsCard

/-- THE TIED CARD OF 'commonagelaw27.MachineApart'. -/
def machineApartCard : Claim7 := { stood := { row := machineApartRow, standIns := [], harness := (true, "006d53b4b18a4c9dc6684499708fe33db118283174e06481e32c100a68d0a6c2"), looks := true }, kinds := [], alts := [], laidByText := true, laidKinds := [.data, .data], laidTests := true, laidLooks := .later }
def MachineApartCardSaid : Prop := Claim7.holds Tryz.pinned (.plain (OpenSpec.ofChange machineApartSpec)) machineApartCard

/-- THE TIED CARD OF 'commonagelaw27.MachineForged'. -/
def machineForgedCard : Claim7 := { stood := { row := machineForgedRow, standIns := [], harness := (true, "006d53b4b18a4c9dc6684499708fe33db118283174e06481e32c100a68d0a6c2"), looks := true }, kinds := [], alts := [], laidByText := true, laidKinds := [.data, .data], laidTests := true, laidLooks := .later }
def MachineForgedCardSaid : Prop := Claim7.holds Tryz.pinned (.plain (OpenSpec.ofChange machineForgedSpec)) machineForgedCard

/-- THE TIED CARD OF 'commonagelaw27.MachineSwaps'. -/
def machineSwapsCard : Claim7 := { stood := { row := machineSwapsRow, standIns := [], harness := (true, "006d53b4b18a4c9dc6684499708fe33db118283174e06481e32c100a68d0a6c2"), looks := true }, kinds := [], alts := [], laidByText := true, laidKinds := [.data, .data], laidTests := true, laidLooks := .later }
def MachineSwapsCardSaid : Prop := Claim7.holds Tryz.pinned (.plain (OpenSpec.ofChange machineSwapsSpec)) machineSwapsCard

/-- THE TIED CARD OF 'commonagelaw27.MachineIdle'. -/
def machineIdleCard : Claim7 := { stood := { row := machineIdleRow, standIns := [], harness := (true, "006d53b4b18a4c9dc6684499708fe33db118283174e06481e32c100a68d0a6c2"), looks := true }, kinds := [], alts := [], laidByText := true, laidKinds := [.data, .data], laidTests := true, laidLooks := .later }
def MachineIdleCardSaid : Prop := Claim7.holds Tryz.pinned (.plain (OpenSpec.ofChange machineIdleSpec)) machineIdleCard

/-- THE TIED CARD OF 'commonagelaw27.MachineWrong'. -/
def machineWrongCard : Claim7 := { stood := { row := machineWrongRow, standIns := [], harness := (true, "006d53b4b18a4c9dc6684499708fe33db118283174e06481e32c100a68d0a6c2"), looks := true }, kinds := [], alts := [], laidByText := true, laidKinds := [.data, .data], laidTests := true, laidLooks := .later }
def MachineWrongCardSaid : Prop := Claim7.holds Tryz.pinned (.plain (OpenSpec.ofChange machineWrongSpec)) machineWrongCard

/-- THE SECOND FORM's CARD OF 'commonagelaw24.FarmApart'. -/
def farmApartUptoCard : Claim7 := { stood := { row := farmApartUptoRow, standIns := [], harness := (true, "006d53b4b18a4c9dc6684499708fe33db118283174e06481e32c100a68d0a6c2"), looks := true }, kinds := [], alts := [], laidByText := true, laidKinds := [.data, .data], laidTests := true, laidLooks := .later }
def FarmApartUptoCardSaid : Prop := Claim7.holds Tryz.pinned (.plain (OpenSpec.upto farmApartSpec)) farmApartUptoCard

/-- THE SECOND FORM's CARD OF 'commonagelaw24.FarmAlone'. -/
def farmAloneUptoCard : Claim7 := { stood := { row := farmAloneUptoRow, standIns := [], harness := (true, "006d53b4b18a4c9dc6684499708fe33db118283174e06481e32c100a68d0a6c2"), looks := true }, kinds := [], alts := [], laidByText := true, laidKinds := [.data, .data], laidTests := true, laidLooks := .later }
def FarmAloneUptoCardSaid : Prop := Claim7.holds Tryz.pinned (.plain (OpenSpec.upto farmAloneSpec)) farmAloneUptoCard

/-- THE SECOND FORM's CARD OF 'commonagelaw24.FarmWorkers'. -/
def farmWorkersUptoCard : Claim7 := { stood := { row := farmWorkersUptoRow, standIns := [], harness := (true, "006d53b4b18a4c9dc6684499708fe33db118283174e06481e32c100a68d0a6c2"), looks := true }, kinds := [], alts := [], laidByText := true, laidKinds := [.data, .data], laidTests := true, laidLooks := .later }
def FarmWorkersUptoCardSaid : Prop := Claim7.holds Tryz.pinned (.plain (OpenSpec.upto farmWorkersSpec)) farmWorkersUptoCard

/-- THE SECOND FORM's CARD OF 'commonagelaw24.FarmAssists'. -/
def farmAssistsUptoCard : Claim7 := { stood := { row := farmAssistsUptoRow, standIns := [], harness := (true, "006d53b4b18a4c9dc6684499708fe33db118283174e06481e32c100a68d0a6c2"), looks := true }, kinds := [], alts := [], laidByText := true, laidKinds := [.data, .data], laidTests := true, laidLooks := .later }
def FarmAssistsUptoCardSaid : Prop := Claim7.holds Tryz.pinned (.plain (OpenSpec.upto farmAssistsSpec)) farmAssistsUptoCard

/-- THE SECOND FORM's CARD OF 'commonagelaw24.FarmRegions'. -/
def farmRegionsUptoCard : Claim7 := { stood := { row := farmRegionsUptoRow, standIns := [], harness := (true, "006d53b4b18a4c9dc6684499708fe33db118283174e06481e32c100a68d0a6c2"), looks := true }, kinds := [], alts := [], laidByText := true, laidKinds := [.data, .data], laidTests := true, laidLooks := .later }
def FarmRegionsUptoCardSaid : Prop := Claim7.holds Tryz.pinned (.plain (OpenSpec.upto farmRegionsSpec)) farmRegionsUptoCard

/-- THE SECOND FORM's CARD OF 'commonagelaw24.FarmUsed'. -/
def farmUsedUptoCard : Claim7 := { stood := { row := farmUsedUptoRow, standIns := [], harness := (true, "006d53b4b18a4c9dc6684499708fe33db118283174e06481e32c100a68d0a6c2"), looks := true }, kinds := [], alts := [], laidByText := true, laidKinds := [.data, .data], laidTests := true, laidLooks := .later }
def FarmUsedUptoCardSaid : Prop := Claim7.holds Tryz.pinned (.plain (OpenSpec.upto farmUsedSpec)) farmUsedUptoCard

/-- THE SECOND FORM's CARD OF 'commonagelaw24.FarmRests'. -/
def farmRestsUptoCard : Claim7 := { stood := { row := farmRestsUptoRow, standIns := [], harness := (true, "006d53b4b18a4c9dc6684499708fe33db118283174e06481e32c100a68d0a6c2"), looks := true }, kinds := [], alts := [], laidByText := true, laidKinds := [.data, .data], laidTests := true, laidLooks := .later }
def FarmRestsUptoCardSaid : Prop := Claim7.holds Tryz.pinned (.plain (OpenSpec.upto farmRestsSpec)) farmRestsUptoCard

/-- THE SECOND FORM's CARD OF 'commonagelaw27.MachineApart'. -/
def machineApartUptoCard : Claim7 := { stood := { row := machineApartUptoRow, standIns := [], harness := (true, "006d53b4b18a4c9dc6684499708fe33db118283174e06481e32c100a68d0a6c2"), looks := true }, kinds := [], alts := [], laidByText := true, laidKinds := [.data, .data], laidTests := true, laidLooks := .later }
def MachineApartUptoCardSaid : Prop := Claim7.holds Tryz.pinned (.plain (OpenSpec.upto machineApartSpec)) machineApartUptoCard

/-- THE SECOND FORM's CARD OF 'commonagelaw27.MachineForged'. -/
def machineForgedUptoCard : Claim7 := { stood := { row := machineForgedUptoRow, standIns := [], harness := (true, "006d53b4b18a4c9dc6684499708fe33db118283174e06481e32c100a68d0a6c2"), looks := true }, kinds := [], alts := [], laidByText := true, laidKinds := [.data, .data], laidTests := true, laidLooks := .later }
def MachineForgedUptoCardSaid : Prop := Claim7.holds Tryz.pinned (.plain (OpenSpec.upto machineForgedSpec)) machineForgedUptoCard

/-- THE SECOND FORM's CARD OF 'commonagelaw27.MachineSwaps'. -/
def machineSwapsUptoCard : Claim7 := { stood := { row := machineSwapsUptoRow, standIns := [], harness := (true, "006d53b4b18a4c9dc6684499708fe33db118283174e06481e32c100a68d0a6c2"), looks := true }, kinds := [], alts := [], laidByText := true, laidKinds := [.data, .data], laidTests := true, laidLooks := .later }
def MachineSwapsUptoCardSaid : Prop := Claim7.holds Tryz.pinned (.plain (OpenSpec.upto machineSwapsSpec)) machineSwapsUptoCard

/-- THE SECOND FORM's CARD OF 'commonagelaw27.MachineIdle'. -/
def machineIdleUptoCard : Claim7 := { stood := { row := machineIdleUptoRow, standIns := [], harness := (true, "006d53b4b18a4c9dc6684499708fe33db118283174e06481e32c100a68d0a6c2"), looks := true }, kinds := [], alts := [], laidByText := true, laidKinds := [.data, .data], laidTests := true, laidLooks := .later }
def MachineIdleUptoCardSaid : Prop := Claim7.holds Tryz.pinned (.plain (OpenSpec.upto machineIdleSpec)) machineIdleUptoCard

/-- THE SECOND FORM's CARD OF 'commonagelaw27.MachineWrong'. -/
def machineWrongUptoCard : Claim7 := { stood := { row := machineWrongUptoRow, standIns := [], harness := (true, "006d53b4b18a4c9dc6684499708fe33db118283174e06481e32c100a68d0a6c2"), looks := true }, kinds := [], alts := [], laidByText := true, laidKinds := [.data, .data], laidTests := true, laidLooks := .later }
def MachineWrongUptoCardSaid : Prop := Claim7.holds Tryz.pinned (.plain (OpenSpec.upto machineWrongSpec)) machineWrongUptoCard
end Rows
end Go.Proofs.YtebiafomiemgbaaGreatDoor
