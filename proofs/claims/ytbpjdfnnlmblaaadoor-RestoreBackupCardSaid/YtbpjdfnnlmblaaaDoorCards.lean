/-
  DERIVED. GIVEN WITH THE SEED: THE CARDS: each row of YtbpjdfnnlmblaaaDoorRows.lean that lists a variable, with what it lists TIED to the program's text (the seventh form; the later family's looks); each row that meets fmt, with fmt's text TOLD by the authors' own Lean function (tested against real Go, not proved from fmt's source: count such statements apart). THE CARD IS WHAT COUNTS. Prove the row's statement (the work); the ties are given (YtbpjdfnnlmblaaaDoorTie.lean); close each card by the builder's one call (the guide's Derived/Test/ToyasCard.lean, 'card_holds'). Laid BY PROGRAM, IN A SANDBOX (cutbox-door.mjs). By AI agents, Wed Nov 11 2026. No macro, syntax, notation, axiom, sorry.
-/
import Derived.Test.YtbpjdfnnlmblaaaDoorRows
import GoSem.ClaimSeven
namespace Go.Proofs.YtbpjdfnnlmblaaaDoor
namespace Rows

/-- THE TIED CARD OF 'custodylaw36.BackupRoundTrip'. -/
def backupRoundTripCard : Claim7 := { stood := { row := backupRoundTripRow, standIns := [], harness := (true, "b9c45009aa0d4e52ac0e983efa508ab38c32b83b26b3eebfe1d0c36039e0050e"), looks := false }, kinds := [], alts := [], laidByText := true, laidKinds := [.data], laidTests := true, laidLooks := .later }
def BackupRoundTripCardSaid : Prop := Claim7.holds Tryd.pinned (.plain (OpenSpec.ofChange backupRoundTripSpec)) backupRoundTripCard

/-- THE TIED CARD OF 'custodylaw36.BackupComplete'. -/
def backupCompleteCard : Claim7 := { stood := { row := backupCompleteRow, standIns := [], harness := (true, "b9c45009aa0d4e52ac0e983efa508ab38c32b83b26b3eebfe1d0c36039e0050e"), looks := false }, kinds := [], alts := [], laidByText := true, laidKinds := [.data], laidTests := true, laidLooks := .later }
def BackupCompleteCardSaid : Prop := Claim7.holds Tryd.pinned (.plain (OpenSpec.ofChange backupCompleteSpec)) backupCompleteCard

/-- THE TIED CARD OF 'custodylaw37.RestoreBackup'. -/
def restoreBackupCard : Claim7 := { stood := { row := restoreBackupRow, standIns := [], harness := (true, "b9c45009aa0d4e52ac0e983efa508ab38c32b83b26b3eebfe1d0c36039e0050e"), looks := false }, kinds := [], alts := [], laidByText := true, laidKinds := [.data], laidTests := true, laidLooks := .later }
def RestoreBackupCardSaid : Prop := Claim7.holds Tryd.pinned (.plain (OpenSpec.ofChange restoreBackupSpec)) restoreBackupCard

/-- THE SECOND FORM's CARD OF 'custodylaw36.BackupRoundTrip'. -/
def backupRoundTripUptoCard : Claim7 := { stood := { row := backupRoundTripUptoRow, standIns := [], harness := (true, "b9c45009aa0d4e52ac0e983efa508ab38c32b83b26b3eebfe1d0c36039e0050e"), looks := false }, kinds := [], alts := [], laidByText := true, laidKinds := [.data], laidTests := true, laidLooks := .later }
def BackupRoundTripUptoCardSaid : Prop := Claim7.holds Tryd.pinned (.plain (OpenSpec.upto backupRoundTripSpec)) backupRoundTripUptoCard

/-- THE SECOND FORM's CARD OF 'custodylaw36.BackupComplete'. -/
def backupCompleteUptoCard : Claim7 := { stood := { row := backupCompleteUptoRow, standIns := [], harness := (true, "b9c45009aa0d4e52ac0e983efa508ab38c32b83b26b3eebfe1d0c36039e0050e"), looks := false }, kinds := [], alts := [], laidByText := true, laidKinds := [.data], laidTests := true, laidLooks := .later }
def BackupCompleteUptoCardSaid : Prop := Claim7.holds Tryd.pinned (.plain (OpenSpec.upto backupCompleteSpec)) backupCompleteUptoCard

/-- THE SECOND FORM's CARD OF 'custodylaw37.RestoreBackup'. -/
def restoreBackupUptoCard : Claim7 := { stood := { row := restoreBackupUptoRow, standIns := [], harness := (true, "b9c45009aa0d4e52ac0e983efa508ab38c32b83b26b3eebfe1d0c36039e0050e"), looks := false }, kinds := [], alts := [], laidByText := true, laidKinds := [.data], laidTests := true, laidLooks := .later }
def RestoreBackupUptoCardSaid : Prop := Claim7.holds Tryd.pinned (.plain (OpenSpec.upto restoreBackupSpec)) restoreBackupUptoCard
end Rows
end Go.Proofs.YtbpjdfnnlmblaaaDoor
