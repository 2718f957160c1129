/-
  DERIVED. GIVEN WITH THE SEED: THE CARDS: each row of YtackbjbmadkkhaaDoorRows.lean that lists a variable, with what it lists TIED to the program's text (the seventh form; the later family's looks); each row that meets fmt, with fmt's text TOLD by the authors' own Lean function (tested against real Go, not proved from fmt's source: count such statements apart). THE CARD IS WHAT COUNTS. Prove the row's statement (the work); the ties are given (YtackbjbmadkkhaaDoorTie.lean); close each card by the builder's one call (the guide's Derived/Test/ToyasCard.lean, 'card_holds'). Laid BY PROGRAM, IN A SANDBOX (cutbox-door.mjs). By AI agents, Wed Nov 11 2026. No macro, syntax, notation, axiom, sorry.
-/
import Derived.Test.YtackbjbmadkkhaaDoorRows
import GoSem.ClaimSeven
namespace Go.Proofs.YtackbjbmadkkhaaDoor
namespace Rows

/-- THE TIED CARD OF 'custodylaw04.SealMatchesSpec'. -/
def sealMatchesSpecCard : Claim7 := { stood := { row := sealMatchesSpecRow, standIns := [], harness := (true, "a829a06efc43d8119a9ed529831183ef1639e0080ce9b82ea98f0d14de33cda8"), looks := false }, kinds := [], alts := [], laidByText := true, laidKinds := [.data, .data], laidTests := true, laidLooks := .later }
def SealMatchesSpecCardSaid : Prop := Claim7.holds Tryd.pinned (.plain (OpenSpec.ofChange sealMatchesSpecSpec)) sealMatchesSpecCard

/-- THE TIED CARD OF 'custodylaw04.SealOpensAsSpecified'. -/
def sealOpensAsSpecifiedCard : Claim7 := { stood := { row := sealOpensAsSpecifiedRow, standIns := [], harness := (true, "a829a06efc43d8119a9ed529831183ef1639e0080ce9b82ea98f0d14de33cda8"), looks := false }, kinds := [], alts := [], laidByText := true, laidKinds := [.data, .data], laidTests := true, laidLooks := .later }
def SealOpensAsSpecifiedCardSaid : Prop := Claim7.holds Tryd.pinned (.plain (OpenSpec.ofChange sealOpensAsSpecifiedSpec)) sealOpensAsSpecifiedCard

/-- THE TIED CARD OF 'custodylaw04.SealRoundTrip'. -/
def sealRoundTripCard : Claim7 := { stood := { row := sealRoundTripRow, standIns := [], harness := (true, "a829a06efc43d8119a9ed529831183ef1639e0080ce9b82ea98f0d14de33cda8"), looks := false }, kinds := [], alts := [], laidByText := true, laidKinds := [.data, .data], laidTests := true, laidLooks := .later }
def SealRoundTripCardSaid : Prop := Claim7.holds Tryd.pinned (.plain (OpenSpec.ofChange sealRoundTripSpec)) sealRoundTripCard

/-- THE TIED CARD OF 'custodylaw04.SealChanged'. -/
def sealChangedCard : Claim7 := { stood := { row := sealChangedRow, standIns := [], harness := (true, "a829a06efc43d8119a9ed529831183ef1639e0080ce9b82ea98f0d14de33cda8"), looks := false }, kinds := [], alts := [], laidByText := true, laidKinds := [.data, .data], laidTests := true, laidLooks := .later }
def SealChangedCardSaid : Prop := Claim7.holds Tryd.pinned (.plain (OpenSpec.ofChange sealChangedSpec)) sealChangedCard

/-- THE TIED CARD OF 'custodylaw04.SealInjective'. -/
def sealInjectiveCard : Claim7 := { stood := { row := sealInjectiveRow, standIns := [], harness := (true, "a829a06efc43d8119a9ed529831183ef1639e0080ce9b82ea98f0d14de33cda8"), looks := false }, kinds := [], alts := [], laidByText := true, laidKinds := [.data, .data], laidTests := true, laidLooks := .later }
def SealInjectiveCardSaid : Prop := Claim7.holds Tryd.pinned (.plain (OpenSpec.ofChange sealInjectiveSpec)) sealInjectiveCard

/-- THE SECOND FORM's CARD OF 'custodylaw04.SealMatchesSpec'. -/
def sealMatchesSpecUptoCard : Claim7 := { stood := { row := sealMatchesSpecUptoRow, standIns := [], harness := (true, "a829a06efc43d8119a9ed529831183ef1639e0080ce9b82ea98f0d14de33cda8"), looks := false }, kinds := [], alts := [], laidByText := true, laidKinds := [.data, .data], laidTests := true, laidLooks := .later }
def SealMatchesSpecUptoCardSaid : Prop := Claim7.holds Tryd.pinned (.plain (OpenSpec.upto sealMatchesSpecSpec)) sealMatchesSpecUptoCard

/-- THE SECOND FORM's CARD OF 'custodylaw04.SealOpensAsSpecified'. -/
def sealOpensAsSpecifiedUptoCard : Claim7 := { stood := { row := sealOpensAsSpecifiedUptoRow, standIns := [], harness := (true, "a829a06efc43d8119a9ed529831183ef1639e0080ce9b82ea98f0d14de33cda8"), looks := false }, kinds := [], alts := [], laidByText := true, laidKinds := [.data, .data], laidTests := true, laidLooks := .later }
def SealOpensAsSpecifiedUptoCardSaid : Prop := Claim7.holds Tryd.pinned (.plain (OpenSpec.upto sealOpensAsSpecifiedSpec)) sealOpensAsSpecifiedUptoCard

/-- THE SECOND FORM's CARD OF 'custodylaw04.SealRoundTrip'. -/
def sealRoundTripUptoCard : Claim7 := { stood := { row := sealRoundTripUptoRow, standIns := [], harness := (true, "a829a06efc43d8119a9ed529831183ef1639e0080ce9b82ea98f0d14de33cda8"), looks := false }, kinds := [], alts := [], laidByText := true, laidKinds := [.data, .data], laidTests := true, laidLooks := .later }
def SealRoundTripUptoCardSaid : Prop := Claim7.holds Tryd.pinned (.plain (OpenSpec.upto sealRoundTripSpec)) sealRoundTripUptoCard

/-- THE SECOND FORM's CARD OF 'custodylaw04.SealChanged'. -/
def sealChangedUptoCard : Claim7 := { stood := { row := sealChangedUptoRow, standIns := [], harness := (true, "a829a06efc43d8119a9ed529831183ef1639e0080ce9b82ea98f0d14de33cda8"), looks := false }, kinds := [], alts := [], laidByText := true, laidKinds := [.data, .data], laidTests := true, laidLooks := .later }
def SealChangedUptoCardSaid : Prop := Claim7.holds Tryd.pinned (.plain (OpenSpec.upto sealChangedSpec)) sealChangedUptoCard

/-- THE SECOND FORM's CARD OF 'custodylaw04.SealInjective'. -/
def sealInjectiveUptoCard : Claim7 := { stood := { row := sealInjectiveUptoRow, standIns := [], harness := (true, "a829a06efc43d8119a9ed529831183ef1639e0080ce9b82ea98f0d14de33cda8"), looks := false }, kinds := [], alts := [], laidByText := true, laidKinds := [.data, .data], laidTests := true, laidLooks := .later }
def SealInjectiveUptoCardSaid : Prop := Claim7.holds Tryd.pinned (.plain (OpenSpec.upto sealInjectiveSpec)) sealInjectiveUptoCard
end Rows
end Go.Proofs.YtackbjbmadkkhaaDoor
