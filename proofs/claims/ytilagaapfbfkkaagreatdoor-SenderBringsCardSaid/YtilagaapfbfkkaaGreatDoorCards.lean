/-
  DERIVED. GIVEN WITH THE SEED: THE CARDS: each row of YtilagaapfbfkkaaGreatDoorRows.lean that lists a variable, with what it lists TIED to the program's text (the seventh form; the later family's looks); each row that meets fmt, with fmt's text TOLD by the authors' own Lean function (tested against real Go, not proved from fmt's source: count such statements apart). THE CARD IS WHAT COUNTS. Prove the row's statement (the work); the ties are given (YtilagaapfbfkkaaGreatDoorTie.lean); close each card by the builder's one call (the guide's Derived/Test/ToyasCard.lean, 'card_holds'). Laid BY PROGRAM, IN A SANDBOX (cutbox-door.mjs). By AI agents, Wed Nov 11 2026. No macro, syntax, notation, axiom, sorry.
-/
import Derived.Test.YtilagaapfbfkkaaGreatDoorRows
import GoSem.ClaimSeven
namespace Go.Proofs.YtilagaapfbfkkaaGreatDoor
namespace Rows

/-- THE TIED CARD OF 'pouchlaw23.SenderBrings'. -/
def senderBringsCard : Claim7 := { stood := { row := senderBringsRow, standIns := [], harness := (true, "76bad400b5f84237c97d618575a550a7937679ab6827994315aff8ae23e665d0"), looks := true }, kinds := [], alts := [], laidByText := true, laidKinds := [.data, .data, .data, .data, .sentinel, .sentinel, .pinned], laidTests := true, laidLooks := .later }
def SenderBringsCardSaid : Prop := Claim7.holds Tryz.pinned (.plain (OpenSpec.ofChange senderBringsSpec)) senderBringsCard

/-- THE TIED CARD OF 'pouchlaw23.SenderLongs'. -/
def senderLongsCard : Claim7 := { stood := { row := senderLongsRow, standIns := [], harness := (true, "76bad400b5f84237c97d618575a550a7937679ab6827994315aff8ae23e665d0"), looks := true }, kinds := [], alts := [], laidByText := true, laidKinds := [.data, .data, .data, .data, .sentinel, .sentinel, .pinned], laidTests := true, laidLooks := .later }
def SenderLongsCardSaid : Prop := Claim7.holds Tryz.pinned (.plain (OpenSpec.ofChange senderLongsSpec)) senderLongsCard

/-- THE TIED CARD OF 'pouchlaw23.SenderLmtp'. -/
def senderLmtpCard : Claim7 := { stood := { row := senderLmtpRow, standIns := [], harness := (true, "76bad400b5f84237c97d618575a550a7937679ab6827994315aff8ae23e665d0"), looks := true }, kinds := [], alts := [], laidByText := true, laidKinds := [.data, .data, .data, .data, .sentinel, .sentinel, .pinned], laidTests := true, laidLooks := .later }
def SenderLmtpCardSaid : Prop := Claim7.holds Tryz.pinned (.plain (OpenSpec.ofChange senderLmtpSpec)) senderLmtpCard

/-- THE TIED CARD OF 'pouchlaw23.SenderSilent'. -/
def senderSilentCard : Claim7 := { stood := { row := senderSilentRow, standIns := [], harness := (true, "76bad400b5f84237c97d618575a550a7937679ab6827994315aff8ae23e665d0"), looks := true }, kinds := [], alts := [], laidByText := true, laidKinds := [.data, .data, .data, .data, .sentinel, .sentinel, .pinned], laidTests := true, laidLooks := .later }
def SenderSilentCardSaid : Prop := Claim7.holds Tryz.pinned (.plain (OpenSpec.ofChange senderSilentSpec)) senderSilentCard

/-- THE TIED CARD OF 'pouchlaw23.SenderOpens'. -/
def senderOpensCard : Claim7 := { stood := { row := senderOpensRow, standIns := [], harness := (true, "76bad400b5f84237c97d618575a550a7937679ab6827994315aff8ae23e665d0"), looks := true }, kinds := [], alts := [], laidByText := true, laidKinds := [.data, .data, .data, .data, .sentinel, .sentinel, .pinned], laidTests := true, laidLooks := .later }
def SenderOpensCardSaid : Prop := Claim7.holds Tryz.pinned (.plain (OpenSpec.ofChange senderOpensSpec)) senderOpensCard

/-- THE TIED CARD OF 'pouchlaw23.SenderGreeting'. -/
def senderGreetingCard : Claim7 := { stood := { row := senderGreetingRow, standIns := [], harness := (true, "76bad400b5f84237c97d618575a550a7937679ab6827994315aff8ae23e665d0"), looks := true }, kinds := [], alts := [], laidByText := true, laidKinds := [.data, .data, .data, .data, .sentinel, .sentinel, .pinned], laidTests := true, laidLooks := .later }
def SenderGreetingCardSaid : Prop := Claim7.holds Tryz.pinned (.plain (OpenSpec.ofChange senderGreetingSpec)) senderGreetingCard

/-- THE TIED CARD OF 'pouchlaw23.SenderHelloing'. -/
def senderHelloingCard : Claim7 := { stood := { row := senderHelloingRow, standIns := [], harness := (true, "76bad400b5f84237c97d618575a550a7937679ab6827994315aff8ae23e665d0"), looks := true }, kinds := [], alts := [], laidByText := true, laidKinds := [.data, .data, .data, .data, .sentinel, .sentinel, .pinned], laidTests := true, laidLooks := .later }
def SenderHelloingCardSaid : Prop := Claim7.holds Tryz.pinned (.plain (OpenSpec.ofChange senderHelloingSpec)) senderHelloingCard

/-- THE TIED CARD OF 'pouchlaw23.SenderFroms'. -/
def senderFromsCard : Claim7 := { stood := { row := senderFromsRow, standIns := [], harness := (true, "76bad400b5f84237c97d618575a550a7937679ab6827994315aff8ae23e665d0"), looks := true }, kinds := [], alts := [], laidByText := true, laidKinds := [.data, .data, .data, .data, .sentinel, .sentinel, .pinned], laidTests := true, laidLooks := .later }
def SenderFromsCardSaid : Prop := Claim7.holds Tryz.pinned (.plain (OpenSpec.ofChange senderFromsSpec)) senderFromsCard

/-- THE TIED CARD OF 'pouchlaw23.SenderNames'. -/
def senderNamesCard : Claim7 := { stood := { row := senderNamesRow, standIns := [], harness := (true, "76bad400b5f84237c97d618575a550a7937679ab6827994315aff8ae23e665d0"), looks := true }, kinds := [], alts := [], laidByText := true, laidKinds := [.data, .data, .data, .data, .sentinel, .sentinel, .pinned], laidTests := true, laidLooks := .later }
def SenderNamesCardSaid : Prop := Claim7.holds Tryz.pinned (.plain (OpenSpec.ofChange senderNamesSpec)) senderNamesCard

/-- THE TIED CARD OF 'pouchlaw23.SenderAsks'. -/
def senderAsksCard : Claim7 := { stood := { row := senderAsksRow, standIns := [], harness := (true, "76bad400b5f84237c97d618575a550a7937679ab6827994315aff8ae23e665d0"), looks := true }, kinds := [], alts := [], laidByText := true, laidKinds := [.data, .data, .data, .data, .sentinel, .sentinel, .pinned], laidTests := true, laidLooks := .later }
def SenderAsksCardSaid : Prop := Claim7.holds Tryz.pinned (.plain (OpenSpec.ofChange senderAsksSpec)) senderAsksCard

/-- THE TIED CARD OF 'pouchlaw23.SenderBodies'. -/
def senderBodiesCard : Claim7 := { stood := { row := senderBodiesRow, standIns := [], harness := (true, "76bad400b5f84237c97d618575a550a7937679ab6827994315aff8ae23e665d0"), looks := true }, kinds := [], alts := [], laidByText := true, laidKinds := [.data, .data, .data, .data, .sentinel, .sentinel, .pinned], laidTests := true, laidLooks := .later }
def SenderBodiesCardSaid : Prop := Claim7.holds Tryz.pinned (.plain (OpenSpec.ofChange senderBodiesSpec)) senderBodiesCard

/-- THE SECOND FORM's CARD OF 'pouchlaw23.SenderBrings'. -/
def senderBringsUptoCard : Claim7 := { stood := { row := senderBringsUptoRow, standIns := [], harness := (true, "76bad400b5f84237c97d618575a550a7937679ab6827994315aff8ae23e665d0"), looks := true }, kinds := [], alts := [], laidByText := true, laidKinds := [.data, .data, .data, .data, .sentinel, .sentinel, .pinned], laidTests := true, laidLooks := .later }
def SenderBringsUptoCardSaid : Prop := Claim7.holds Tryz.pinned (.plain (OpenSpec.upto senderBringsSpec)) senderBringsUptoCard

/-- THE SECOND FORM's CARD OF 'pouchlaw23.SenderLongs'. -/
def senderLongsUptoCard : Claim7 := { stood := { row := senderLongsUptoRow, standIns := [], harness := (true, "76bad400b5f84237c97d618575a550a7937679ab6827994315aff8ae23e665d0"), looks := true }, kinds := [], alts := [], laidByText := true, laidKinds := [.data, .data, .data, .data, .sentinel, .sentinel, .pinned], laidTests := true, laidLooks := .later }
def SenderLongsUptoCardSaid : Prop := Claim7.holds Tryz.pinned (.plain (OpenSpec.upto senderLongsSpec)) senderLongsUptoCard

/-- THE SECOND FORM's CARD OF 'pouchlaw23.SenderLmtp'. -/
def senderLmtpUptoCard : Claim7 := { stood := { row := senderLmtpUptoRow, standIns := [], harness := (true, "76bad400b5f84237c97d618575a550a7937679ab6827994315aff8ae23e665d0"), looks := true }, kinds := [], alts := [], laidByText := true, laidKinds := [.data, .data, .data, .data, .sentinel, .sentinel, .pinned], laidTests := true, laidLooks := .later }
def SenderLmtpUptoCardSaid : Prop := Claim7.holds Tryz.pinned (.plain (OpenSpec.upto senderLmtpSpec)) senderLmtpUptoCard

/-- THE SECOND FORM's CARD OF 'pouchlaw23.SenderSilent'. -/
def senderSilentUptoCard : Claim7 := { stood := { row := senderSilentUptoRow, standIns := [], harness := (true, "76bad400b5f84237c97d618575a550a7937679ab6827994315aff8ae23e665d0"), looks := true }, kinds := [], alts := [], laidByText := true, laidKinds := [.data, .data, .data, .data, .sentinel, .sentinel, .pinned], laidTests := true, laidLooks := .later }
def SenderSilentUptoCardSaid : Prop := Claim7.holds Tryz.pinned (.plain (OpenSpec.upto senderSilentSpec)) senderSilentUptoCard

/-- THE SECOND FORM's CARD OF 'pouchlaw23.SenderOpens'. -/
def senderOpensUptoCard : Claim7 := { stood := { row := senderOpensUptoRow, standIns := [], harness := (true, "76bad400b5f84237c97d618575a550a7937679ab6827994315aff8ae23e665d0"), looks := true }, kinds := [], alts := [], laidByText := true, laidKinds := [.data, .data, .data, .data, .sentinel, .sentinel, .pinned], laidTests := true, laidLooks := .later }
def SenderOpensUptoCardSaid : Prop := Claim7.holds Tryz.pinned (.plain (OpenSpec.upto senderOpensSpec)) senderOpensUptoCard

/-- THE SECOND FORM's CARD OF 'pouchlaw23.SenderGreeting'. -/
def senderGreetingUptoCard : Claim7 := { stood := { row := senderGreetingUptoRow, standIns := [], harness := (true, "76bad400b5f84237c97d618575a550a7937679ab6827994315aff8ae23e665d0"), looks := true }, kinds := [], alts := [], laidByText := true, laidKinds := [.data, .data, .data, .data, .sentinel, .sentinel, .pinned], laidTests := true, laidLooks := .later }
def SenderGreetingUptoCardSaid : Prop := Claim7.holds Tryz.pinned (.plain (OpenSpec.upto senderGreetingSpec)) senderGreetingUptoCard

/-- THE SECOND FORM's CARD OF 'pouchlaw23.SenderHelloing'. -/
def senderHelloingUptoCard : Claim7 := { stood := { row := senderHelloingUptoRow, standIns := [], harness := (true, "76bad400b5f84237c97d618575a550a7937679ab6827994315aff8ae23e665d0"), looks := true }, kinds := [], alts := [], laidByText := true, laidKinds := [.data, .data, .data, .data, .sentinel, .sentinel, .pinned], laidTests := true, laidLooks := .later }
def SenderHelloingUptoCardSaid : Prop := Claim7.holds Tryz.pinned (.plain (OpenSpec.upto senderHelloingSpec)) senderHelloingUptoCard

/-- THE SECOND FORM's CARD OF 'pouchlaw23.SenderFroms'. -/
def senderFromsUptoCard : Claim7 := { stood := { row := senderFromsUptoRow, standIns := [], harness := (true, "76bad400b5f84237c97d618575a550a7937679ab6827994315aff8ae23e665d0"), looks := true }, kinds := [], alts := [], laidByText := true, laidKinds := [.data, .data, .data, .data, .sentinel, .sentinel, .pinned], laidTests := true, laidLooks := .later }
def SenderFromsUptoCardSaid : Prop := Claim7.holds Tryz.pinned (.plain (OpenSpec.upto senderFromsSpec)) senderFromsUptoCard

/-- THE SECOND FORM's CARD OF 'pouchlaw23.SenderNames'. -/
def senderNamesUptoCard : Claim7 := { stood := { row := senderNamesUptoRow, standIns := [], harness := (true, "76bad400b5f84237c97d618575a550a7937679ab6827994315aff8ae23e665d0"), looks := true }, kinds := [], alts := [], laidByText := true, laidKinds := [.data, .data, .data, .data, .sentinel, .sentinel, .pinned], laidTests := true, laidLooks := .later }
def SenderNamesUptoCardSaid : Prop := Claim7.holds Tryz.pinned (.plain (OpenSpec.upto senderNamesSpec)) senderNamesUptoCard

/-- THE SECOND FORM's CARD OF 'pouchlaw23.SenderAsks'. -/
def senderAsksUptoCard : Claim7 := { stood := { row := senderAsksUptoRow, standIns := [], harness := (true, "76bad400b5f84237c97d618575a550a7937679ab6827994315aff8ae23e665d0"), looks := true }, kinds := [], alts := [], laidByText := true, laidKinds := [.data, .data, .data, .data, .sentinel, .sentinel, .pinned], laidTests := true, laidLooks := .later }
def SenderAsksUptoCardSaid : Prop := Claim7.holds Tryz.pinned (.plain (OpenSpec.upto senderAsksSpec)) senderAsksUptoCard

/-- THE SECOND FORM's CARD OF 'pouchlaw23.SenderBodies'. -/
def senderBodiesUptoCard : Claim7 := { stood := { row := senderBodiesUptoRow, standIns := [], harness := (true, "76bad400b5f84237c97d618575a550a7937679ab6827994315aff8ae23e665d0"), looks := true }, kinds := [], alts := [], laidByText := true, laidKinds := [.data, .data, .data, .data, .sentinel, .sentinel, .pinned], laidTests := true, laidLooks := .later }
def SenderBodiesUptoCardSaid : Prop := Claim7.holds Tryz.pinned (.plain (OpenSpec.upto senderBodiesSpec)) senderBodiesUptoCard
end Rows
end Go.Proofs.YtilagaapfbfkkaaGreatDoor
