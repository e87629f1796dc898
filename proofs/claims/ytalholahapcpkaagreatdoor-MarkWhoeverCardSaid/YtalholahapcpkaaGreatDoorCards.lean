/-
  DERIVED. GIVEN WITH THE SEED: THE CARDS: each row of YtalholahapcpkaaGreatDoorRows.lean that lists a variable, with what it lists TIED to the program's text (the seventh form; the later family's looks); each row that meets fmt, with fmt's text TOLD by the authors' own Lean function (tested against real Go, not proved from fmt's source: count such statements apart). THE CARD IS WHAT COUNTS. Prove the row's statement (the work); the ties are given (YtalholahapcpkaaGreatDoorTie.lean); close each card by the builder's one call (the guide's Derived/Test/ToyasCard.lean, 'card_holds'). Laid BY PROGRAM, IN A SANDBOX (cutbox-door.mjs). By AI agents, Wed Nov 11 2026. No macro, syntax, notation, axiom, sorry.
-/
import Derived.Test.YtalholahapcpkaaGreatDoorRows
import GoSem.ClaimSeven
namespace Go.Proofs.YtalholahapcpkaaGreatDoor
namespace Rows

/-- THE TIED CARD OF 'commonagelaw20.SweepJust'. -/
def sweepJustCard : Claim7 := { stood := { row := sweepJustRow, standIns := [], harness := (true, "0cc4552dcbe8892a481828f8fa7b102a75b95c5f50e93e755d081dfcec13db35"), looks := true }, kinds := [], alts := [], laidByText := true, laidKinds := [.data, .data], laidTests := true, laidLooks := .later }
def SweepJustCardSaid : Prop := Claim7.holds Tryz.pinned (.plain (OpenSpec.ofChange sweepJustSpec)) sweepJustCard

/-- THE TIED CARD OF 'commonagelaw20.SweepNone'. -/
def sweepNoneCard : Claim7 := { stood := { row := sweepNoneRow, standIns := [], harness := (true, "0cc4552dcbe8892a481828f8fa7b102a75b95c5f50e93e755d081dfcec13db35"), looks := true }, kinds := [], alts := [], laidByText := true, laidKinds := [.data, .data], laidTests := true, laidLooks := .later }
def SweepNoneCardSaid : Prop := Claim7.holds Tryz.pinned (.plain (OpenSpec.ofChange sweepNoneSpec)) sweepNoneCard

/-- THE TIED CARD OF 'commonagelaw20.SweepAgain'. -/
def sweepAgainCard : Claim7 := { stood := { row := sweepAgainRow, standIns := [], harness := (true, "0cc4552dcbe8892a481828f8fa7b102a75b95c5f50e93e755d081dfcec13db35"), looks := true }, kinds := [], alts := [], laidByText := true, laidKinds := [.data, .data], laidTests := true, laidLooks := .later }
def SweepAgainCardSaid : Prop := Claim7.holds Tryz.pinned (.plain (OpenSpec.ofChange sweepAgainSpec)) sweepAgainCard

/-- THE TIED CARD OF 'commonagelaw20.SweepPlays'. -/
def sweepPlaysCard : Claim7 := { stood := { row := sweepPlaysRow, standIns := [], harness := (true, "0cc4552dcbe8892a481828f8fa7b102a75b95c5f50e93e755d081dfcec13db35"), looks := true }, kinds := [], alts := [], laidByText := true, laidKinds := [.data, .data], laidTests := true, laidLooks := .later }
def SweepPlaysCardSaid : Prop := Claim7.holds Tryz.pinned (.plain (OpenSpec.ofChange sweepPlaysSpec)) sweepPlaysCard

/-- THE TIED CARD OF 'commonagelaw19.MarkNone'. -/
def markNoneCard : Claim7 := { stood := { row := markNoneRow, standIns := [], harness := (true, "0cc4552dcbe8892a481828f8fa7b102a75b95c5f50e93e755d081dfcec13db35"), looks := true }, kinds := [], alts := [], laidByText := true, laidKinds := [.data, .data], laidTests := true, laidLooks := .later }
def MarkNoneCardSaid : Prop := Claim7.holds Tryz.pinned (.plain (OpenSpec.ofChange markNoneSpec)) markNoneCard

/-- THE TIED CARD OF 'commonagelaw19.MarkPlays'. -/
def markPlaysCard : Claim7 := { stood := { row := markPlaysRow, standIns := [], harness := (true, "0cc4552dcbe8892a481828f8fa7b102a75b95c5f50e93e755d081dfcec13db35"), looks := true }, kinds := [], alts := [], laidByText := true, laidKinds := [.data, .data], laidTests := true, laidLooks := .later }
def MarkPlaysCardSaid : Prop := Claim7.holds Tryz.pinned (.plain (OpenSpec.ofChange markPlaysSpec)) markPlaysCard

/-- THE TIED CARD OF 'commonagelaw19.MarkSnapshot'. -/
def markSnapshotCard : Claim7 := { stood := { row := markSnapshotRow, standIns := [], harness := (true, "0cc4552dcbe8892a481828f8fa7b102a75b95c5f50e93e755d081dfcec13db35"), looks := true }, kinds := [], alts := [], laidByText := true, laidKinds := [.data, .data], laidTests := true, laidLooks := .later }
def MarkSnapshotCardSaid : Prop := Claim7.holds Tryz.pinned (.plain (OpenSpec.ofChange markSnapshotSpec)) markSnapshotCard

/-- THE TIED CARD OF 'commonagelaw19.MarkExact'. -/
def markExactCard : Claim7 := { stood := { row := markExactRow, standIns := [], harness := (true, "0cc4552dcbe8892a481828f8fa7b102a75b95c5f50e93e755d081dfcec13db35"), looks := true }, kinds := [], alts := [], laidByText := true, laidKinds := [.data, .data], laidTests := true, laidLooks := .later }
def MarkExactCardSaid : Prop := Claim7.holds Tryz.pinned (.plain (OpenSpec.ofChange markExactSpec)) markExactCard

/-- THE TIED CARD OF 'commonagelaw19.MarkAgain'. -/
def markAgainCard : Claim7 := { stood := { row := markAgainRow, standIns := [], harness := (true, "0cc4552dcbe8892a481828f8fa7b102a75b95c5f50e93e755d081dfcec13db35"), looks := true }, kinds := [], alts := [], laidByText := true, laidKinds := [.data, .data], laidTests := true, laidLooks := .later }
def MarkAgainCardSaid : Prop := Claim7.holds Tryz.pinned (.plain (OpenSpec.ofChange markAgainSpec)) markAgainCard

/-- THE TIED CARD OF 'commonagelaw19.MarkWhoever'. -/
def markWhoeverCard : Claim7 := { stood := { row := markWhoeverRow, standIns := [], harness := (true, "0cc4552dcbe8892a481828f8fa7b102a75b95c5f50e93e755d081dfcec13db35"), looks := true }, kinds := [], alts := [], laidByText := true, laidKinds := [.data, .data], laidTests := true, laidLooks := .later }
def MarkWhoeverCardSaid : Prop := Claim7.holds Tryz.pinned (.plain (OpenSpec.ofChange markWhoeverSpec)) markWhoeverCard

/-- THE SECOND FORM's CARD OF 'commonagelaw20.SweepJust'. -/
def sweepJustUptoCard : Claim7 := { stood := { row := sweepJustUptoRow, standIns := [], harness := (true, "0cc4552dcbe8892a481828f8fa7b102a75b95c5f50e93e755d081dfcec13db35"), looks := true }, kinds := [], alts := [], laidByText := true, laidKinds := [.data, .data], laidTests := true, laidLooks := .later }
def SweepJustUptoCardSaid : Prop := Claim7.holds Tryz.pinned (.plain (OpenSpec.upto sweepJustSpec)) sweepJustUptoCard

/-- THE SECOND FORM's CARD OF 'commonagelaw20.SweepNone'. -/
def sweepNoneUptoCard : Claim7 := { stood := { row := sweepNoneUptoRow, standIns := [], harness := (true, "0cc4552dcbe8892a481828f8fa7b102a75b95c5f50e93e755d081dfcec13db35"), looks := true }, kinds := [], alts := [], laidByText := true, laidKinds := [.data, .data], laidTests := true, laidLooks := .later }
def SweepNoneUptoCardSaid : Prop := Claim7.holds Tryz.pinned (.plain (OpenSpec.upto sweepNoneSpec)) sweepNoneUptoCard

/-- THE SECOND FORM's CARD OF 'commonagelaw20.SweepAgain'. -/
def sweepAgainUptoCard : Claim7 := { stood := { row := sweepAgainUptoRow, standIns := [], harness := (true, "0cc4552dcbe8892a481828f8fa7b102a75b95c5f50e93e755d081dfcec13db35"), looks := true }, kinds := [], alts := [], laidByText := true, laidKinds := [.data, .data], laidTests := true, laidLooks := .later }
def SweepAgainUptoCardSaid : Prop := Claim7.holds Tryz.pinned (.plain (OpenSpec.upto sweepAgainSpec)) sweepAgainUptoCard

/-- THE SECOND FORM's CARD OF 'commonagelaw20.SweepPlays'. -/
def sweepPlaysUptoCard : Claim7 := { stood := { row := sweepPlaysUptoRow, standIns := [], harness := (true, "0cc4552dcbe8892a481828f8fa7b102a75b95c5f50e93e755d081dfcec13db35"), looks := true }, kinds := [], alts := [], laidByText := true, laidKinds := [.data, .data], laidTests := true, laidLooks := .later }
def SweepPlaysUptoCardSaid : Prop := Claim7.holds Tryz.pinned (.plain (OpenSpec.upto sweepPlaysSpec)) sweepPlaysUptoCard

/-- THE SECOND FORM's CARD OF 'commonagelaw19.MarkNone'. -/
def markNoneUptoCard : Claim7 := { stood := { row := markNoneUptoRow, standIns := [], harness := (true, "0cc4552dcbe8892a481828f8fa7b102a75b95c5f50e93e755d081dfcec13db35"), looks := true }, kinds := [], alts := [], laidByText := true, laidKinds := [.data, .data], laidTests := true, laidLooks := .later }
def MarkNoneUptoCardSaid : Prop := Claim7.holds Tryz.pinned (.plain (OpenSpec.upto markNoneSpec)) markNoneUptoCard

/-- THE SECOND FORM's CARD OF 'commonagelaw19.MarkPlays'. -/
def markPlaysUptoCard : Claim7 := { stood := { row := markPlaysUptoRow, standIns := [], harness := (true, "0cc4552dcbe8892a481828f8fa7b102a75b95c5f50e93e755d081dfcec13db35"), looks := true }, kinds := [], alts := [], laidByText := true, laidKinds := [.data, .data], laidTests := true, laidLooks := .later }
def MarkPlaysUptoCardSaid : Prop := Claim7.holds Tryz.pinned (.plain (OpenSpec.upto markPlaysSpec)) markPlaysUptoCard

/-- THE SECOND FORM's CARD OF 'commonagelaw19.MarkSnapshot'. -/
def markSnapshotUptoCard : Claim7 := { stood := { row := markSnapshotUptoRow, standIns := [], harness := (true, "0cc4552dcbe8892a481828f8fa7b102a75b95c5f50e93e755d081dfcec13db35"), looks := true }, kinds := [], alts := [], laidByText := true, laidKinds := [.data, .data], laidTests := true, laidLooks := .later }
def MarkSnapshotUptoCardSaid : Prop := Claim7.holds Tryz.pinned (.plain (OpenSpec.upto markSnapshotSpec)) markSnapshotUptoCard

/-- THE SECOND FORM's CARD OF 'commonagelaw19.MarkExact'. -/
def markExactUptoCard : Claim7 := { stood := { row := markExactUptoRow, standIns := [], harness := (true, "0cc4552dcbe8892a481828f8fa7b102a75b95c5f50e93e755d081dfcec13db35"), looks := true }, kinds := [], alts := [], laidByText := true, laidKinds := [.data, .data], laidTests := true, laidLooks := .later }
def MarkExactUptoCardSaid : Prop := Claim7.holds Tryz.pinned (.plain (OpenSpec.upto markExactSpec)) markExactUptoCard

/-- THE SECOND FORM's CARD OF 'commonagelaw19.MarkAgain'. -/
def markAgainUptoCard : Claim7 := { stood := { row := markAgainUptoRow, standIns := [], harness := (true, "0cc4552dcbe8892a481828f8fa7b102a75b95c5f50e93e755d081dfcec13db35"), looks := true }, kinds := [], alts := [], laidByText := true, laidKinds := [.data, .data], laidTests := true, laidLooks := .later }
def MarkAgainUptoCardSaid : Prop := Claim7.holds Tryz.pinned (.plain (OpenSpec.upto markAgainSpec)) markAgainUptoCard

/-- THE SECOND FORM's CARD OF 'commonagelaw19.MarkWhoever'. -/
def markWhoeverUptoCard : Claim7 := { stood := { row := markWhoeverUptoRow, standIns := [], harness := (true, "0cc4552dcbe8892a481828f8fa7b102a75b95c5f50e93e755d081dfcec13db35"), looks := true }, kinds := [], alts := [], laidByText := true, laidKinds := [.data, .data], laidTests := true, laidLooks := .later }
def MarkWhoeverUptoCardSaid : Prop := Claim7.holds Tryz.pinned (.plain (OpenSpec.upto markWhoeverSpec)) markWhoeverUptoCard
end Rows
end Go.Proofs.YtalholahapcpkaaGreatDoor
