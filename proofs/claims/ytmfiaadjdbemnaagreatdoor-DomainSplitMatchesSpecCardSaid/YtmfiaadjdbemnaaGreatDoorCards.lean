/-
  DERIVED. GIVEN WITH THE SEED: THE CARDS: each row of YtmfiaadjdbemnaaGreatDoorRows.lean that lists a variable, with what it lists TIED to the program's text (the seventh form; the later family's looks); each row that meets fmt, with fmt's text TOLD by the authors' own Lean function (tested against real Go, not proved from fmt's source: count such statements apart). THE CARD IS WHAT COUNTS. Prove the row's statement (the work); the ties are given (YtmfiaadjdbemnaaGreatDoorTie.lean); close each card by the builder's one call (the guide's Derived/Test/ToyasCard.lean, 'card_holds'). Laid BY PROGRAM, IN A SANDBOX (cutbox-door.mjs). By AI agents, Wed Nov 11 2026. No macro, syntax, notation, axiom, sorry.
-/
import Derived.Test.YtmfiaadjdbemnaaGreatDoorRows
import GoSem.ClaimSeven
namespace Go.Proofs.YtmfiaadjdbemnaaGreatDoor
namespace Rows

/-- THE TIED CARD OF 'custodylaw38.DomainFoundingMatchesSpec'. -/
def domainFoundingMatchesSpecCard : Claim7 := { stood := { row := domainFoundingMatchesSpecRow, standIns := [], harness := (true, "a5dcf76deec2abc7806224c84d1adb717f7e06cf6f1274f1f28f1c38dba14600"), looks := false }, kinds := [], alts := [], laidByText := true, laidKinds := [.data, .data], laidTests := true, laidLooks := .later }
def DomainFoundingMatchesSpecCardSaid : Prop := Claim7.holds Tryz.pinned (.plain (OpenSpec.ofChange domainFoundingMatchesSpecSpec)) domainFoundingMatchesSpecCard

/-- THE TIED CARD OF 'custodylaw38.DomainBackupMatchesSpec'. -/
def domainBackupMatchesSpecCard : Claim7 := { stood := { row := domainBackupMatchesSpecRow, standIns := [], harness := (true, "a5dcf76deec2abc7806224c84d1adb717f7e06cf6f1274f1f28f1c38dba14600"), looks := false }, kinds := [], alts := [], laidByText := true, laidKinds := [.data, .data], laidTests := true, laidLooks := .later }
def DomainBackupMatchesSpecCardSaid : Prop := Claim7.holds Tryz.pinned (.plain (OpenSpec.ofChange domainBackupMatchesSpecSpec)) domainBackupMatchesSpecCard

/-- THE TIED CARD OF 'custodylaw38.DomainSplitMatchesSpec'. -/
def domainSplitMatchesSpecCard : Claim7 := { stood := { row := domainSplitMatchesSpecRow, standIns := [], harness := (true, "a5dcf76deec2abc7806224c84d1adb717f7e06cf6f1274f1f28f1c38dba14600"), looks := false }, kinds := [], alts := [], laidByText := true, laidKinds := [.data, .data], laidTests := true, laidLooks := .later }
def DomainSplitMatchesSpecCardSaid : Prop := Claim7.holds Tryz.pinned (.plain (OpenSpec.ofChange domainSplitMatchesSpecSpec)) domainSplitMatchesSpecCard

/-- THE TIED CARD OF 'custodylaw38.DomainMergeMatchesSpec'. -/
def domainMergeMatchesSpecCard : Claim7 := { stood := { row := domainMergeMatchesSpecRow, standIns := [], harness := (true, "a5dcf76deec2abc7806224c84d1adb717f7e06cf6f1274f1f28f1c38dba14600"), looks := false }, kinds := [], alts := [], laidByText := true, laidKinds := [.data, .data], laidTests := true, laidLooks := .later }
def DomainMergeMatchesSpecCardSaid : Prop := Claim7.holds Tryz.pinned (.plain (OpenSpec.ofChange domainMergeMatchesSpecSpec)) domainMergeMatchesSpecCard

/-- THE TIED CARD OF 'custodylaw38.DomainAnyThresholdOpens'. -/
def domainAnyThresholdOpensCard : Claim7 := { stood := { row := domainAnyThresholdOpensRow, standIns := [], harness := (true, "a5dcf76deec2abc7806224c84d1adb717f7e06cf6f1274f1f28f1c38dba14600"), looks := false }, kinds := [], alts := [], laidByText := true, laidKinds := [.data], laidTests := true, laidLooks := .later }
def DomainAnyThresholdOpensCardSaid : Prop := Claim7.holds Tryz.pinned (.plain (OpenSpec.ofChange domainAnyThresholdOpensSpec)) domainAnyThresholdOpensCard

/-- THE TIED CARD OF 'custodylaw38.DomainSplitsAndMerges'. -/
def domainSplitsAndMergesCard : Claim7 := { stood := { row := domainSplitsAndMergesRow, standIns := [], harness := (true, "a5dcf76deec2abc7806224c84d1adb717f7e06cf6f1274f1f28f1c38dba14600"), looks := false }, kinds := [], alts := [], laidByText := true, laidKinds := [.data], laidTests := true, laidLooks := .later }
def DomainSplitsAndMergesCardSaid : Prop := Claim7.holds Tryz.pinned (.plain (OpenSpec.ofChange domainSplitsAndMergesSpec)) domainSplitsAndMergesCard

/-- THE SECOND FORM's CARD OF 'custodylaw38.DomainFoundingMatchesSpec'. -/
def domainFoundingMatchesSpecUptoCard : Claim7 := { stood := { row := domainFoundingMatchesSpecUptoRow, standIns := [], harness := (true, "a5dcf76deec2abc7806224c84d1adb717f7e06cf6f1274f1f28f1c38dba14600"), looks := false }, kinds := [], alts := [], laidByText := true, laidKinds := [.data, .data], laidTests := true, laidLooks := .later }
def DomainFoundingMatchesSpecUptoCardSaid : Prop := Claim7.holds Tryz.pinned (.plain (OpenSpec.upto domainFoundingMatchesSpecSpec)) domainFoundingMatchesSpecUptoCard

/-- THE SECOND FORM's CARD OF 'custodylaw38.DomainBackupMatchesSpec'. -/
def domainBackupMatchesSpecUptoCard : Claim7 := { stood := { row := domainBackupMatchesSpecUptoRow, standIns := [], harness := (true, "a5dcf76deec2abc7806224c84d1adb717f7e06cf6f1274f1f28f1c38dba14600"), looks := false }, kinds := [], alts := [], laidByText := true, laidKinds := [.data, .data], laidTests := true, laidLooks := .later }
def DomainBackupMatchesSpecUptoCardSaid : Prop := Claim7.holds Tryz.pinned (.plain (OpenSpec.upto domainBackupMatchesSpecSpec)) domainBackupMatchesSpecUptoCard

/-- THE SECOND FORM's CARD OF 'custodylaw38.DomainSplitMatchesSpec'. -/
def domainSplitMatchesSpecUptoCard : Claim7 := { stood := { row := domainSplitMatchesSpecUptoRow, standIns := [], harness := (true, "a5dcf76deec2abc7806224c84d1adb717f7e06cf6f1274f1f28f1c38dba14600"), looks := false }, kinds := [], alts := [], laidByText := true, laidKinds := [.data, .data], laidTests := true, laidLooks := .later }
def DomainSplitMatchesSpecUptoCardSaid : Prop := Claim7.holds Tryz.pinned (.plain (OpenSpec.upto domainSplitMatchesSpecSpec)) domainSplitMatchesSpecUptoCard

/-- THE SECOND FORM's CARD OF 'custodylaw38.DomainMergeMatchesSpec'. -/
def domainMergeMatchesSpecUptoCard : Claim7 := { stood := { row := domainMergeMatchesSpecUptoRow, standIns := [], harness := (true, "a5dcf76deec2abc7806224c84d1adb717f7e06cf6f1274f1f28f1c38dba14600"), looks := false }, kinds := [], alts := [], laidByText := true, laidKinds := [.data, .data], laidTests := true, laidLooks := .later }
def DomainMergeMatchesSpecUptoCardSaid : Prop := Claim7.holds Tryz.pinned (.plain (OpenSpec.upto domainMergeMatchesSpecSpec)) domainMergeMatchesSpecUptoCard

/-- THE SECOND FORM's CARD OF 'custodylaw38.DomainAnyThresholdOpens'. -/
def domainAnyThresholdOpensUptoCard : Claim7 := { stood := { row := domainAnyThresholdOpensUptoRow, standIns := [], harness := (true, "a5dcf76deec2abc7806224c84d1adb717f7e06cf6f1274f1f28f1c38dba14600"), looks := false }, kinds := [], alts := [], laidByText := true, laidKinds := [.data], laidTests := true, laidLooks := .later }
def DomainAnyThresholdOpensUptoCardSaid : Prop := Claim7.holds Tryz.pinned (.plain (OpenSpec.upto domainAnyThresholdOpensSpec)) domainAnyThresholdOpensUptoCard

/-- THE SECOND FORM's CARD OF 'custodylaw38.DomainSplitsAndMerges'. -/
def domainSplitsAndMergesUptoCard : Claim7 := { stood := { row := domainSplitsAndMergesUptoRow, standIns := [], harness := (true, "a5dcf76deec2abc7806224c84d1adb717f7e06cf6f1274f1f28f1c38dba14600"), looks := false }, kinds := [], alts := [], laidByText := true, laidKinds := [.data], laidTests := true, laidLooks := .later }
def DomainSplitsAndMergesUptoCardSaid : Prop := Claim7.holds Tryz.pinned (.plain (OpenSpec.upto domainSplitsAndMergesSpec)) domainSplitsAndMergesUptoCard
end Rows
end Go.Proofs.YtmfiaadjdbemnaaGreatDoor
