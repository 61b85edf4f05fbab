/-
  DERIVED. GIVEN WITH THE SEED: THE CARDS: each row of YtbhejifllgnliaaGreatDoorRows.lean that lists a variable, with what it lists TIED to the program's text (the seventh form; the later family's looks); each row that meets fmt, with fmt's text TOLD by the authors' own Lean function (tested against real Go, not proved from fmt's source: count such statements apart). THE CARD IS WHAT COUNTS. Prove the row's statement (the work); the ties are given (YtbhejifllgnliaaGreatDoorTie.lean); close each card by the builder's one call (the guide's Derived/Test/ToyasCard.lean, 'card_holds'). Laid BY PROGRAM, IN A SANDBOX (cutbox-door.mjs). By AI agents, Wed Nov 11 2026. No macro, syntax, notation, axiom, sorry.
-/
import Derived.Test.YtbhejifllgnliaaGreatDoorRows
import GoSem.ClaimSeven
namespace Go.Proofs.YtbhejifllgnliaaGreatDoor
namespace Rows

/-- THE TIED CARD OF 'pouchlaw21.BounceMakes'. -/
def bounceMakesCard : Claim7 := { stood := { row := bounceMakesRow, standIns := [], harness := (true, "f335afdaee253bb16fd20f2986089374ae19bf4f7cbfcae37c358209a22e0655"), looks := true }, kinds := [], alts := [], laidByText := true, laidKinds := [.data, .data, .data, .data, .sentinel, .sentinel, .pinned], laidTests := true, laidLooks := .later }
def BounceMakesCardSaid : Prop := Claim7.holds Tryz.pinned (.plain (OpenSpec.ofChange bounceMakesSpec)) bounceMakesCard

/-- THE TIED CARD OF 'pouchlaw21.BounceEnds'. -/
def bounceEndsCard : Claim7 := { stood := { row := bounceEndsRow, standIns := [], harness := (true, "f335afdaee253bb16fd20f2986089374ae19bf4f7cbfcae37c358209a22e0655"), looks := true }, kinds := [], alts := [], laidByText := true, laidKinds := [.data, .data, .data, .data, .sentinel, .sentinel, .pinned], laidTests := true, laidLooks := .later }
def BounceEndsCardSaid : Prop := Claim7.holds Tryz.pinned (.plain (OpenSpec.ofChange bounceEndsSpec)) bounceEndsCard

/-- THE TIED CARD OF 'pouchlaw21.BounceNames'. -/
def bounceNamesCard : Claim7 := { stood := { row := bounceNamesRow, standIns := [], harness := (true, "f335afdaee253bb16fd20f2986089374ae19bf4f7cbfcae37c358209a22e0655"), looks := true }, kinds := [], alts := [], laidByText := true, laidKinds := [.data, .data, .data, .data, .sentinel, .sentinel, .pinned], laidTests := true, laidLooks := .later }
def BounceNamesCardSaid : Prop := Claim7.holds Tryz.pinned (.plain (OpenSpec.ofChange bounceNamesSpec)) bounceNamesCard

/-- THE TIED CARD OF 'pouchlaw15.MailAny'. -/
def mailAnyCard : Claim7 := { stood := { row := mailAnyRow, standIns := [], harness := (true, "f335afdaee253bb16fd20f2986089374ae19bf4f7cbfcae37c358209a22e0655"), looks := true }, kinds := [], alts := [], laidByText := true, laidKinds := [.data, .data, .data, .data, .sentinel, .sentinel, .pinned], laidTests := true, laidLooks := .later }
def MailAnyCardSaid : Prop := Claim7.holds Tryz.pinned (.plain (OpenSpec.ofChange mailAnySpec)) mailAnyCard

/-- THE TIED CARD OF 'pouchlaw15.MailTurned'. -/
def mailTurnedCard : Claim7 := { stood := { row := mailTurnedRow, standIns := [], harness := (true, "f335afdaee253bb16fd20f2986089374ae19bf4f7cbfcae37c358209a22e0655"), looks := true }, kinds := [], alts := [], laidByText := true, laidKinds := [.data, .data, .data, .data, .sentinel, .sentinel, .pinned], laidTests := true, laidLooks := .later }
def MailTurnedCardSaid : Prop := Claim7.holds Tryz.pinned (.plain (OpenSpec.ofChange mailTurnedSpec)) mailTurnedCard

/-- THE TIED CARD OF 'pouchlaw15.MailChecks'. -/
def mailChecksCard : Claim7 := { stood := { row := mailChecksRow, standIns := [], harness := (true, "f335afdaee253bb16fd20f2986089374ae19bf4f7cbfcae37c358209a22e0655"), looks := true }, kinds := [], alts := [], laidByText := true, laidKinds := [.data, .data, .data, .data, .sentinel, .sentinel, .pinned], laidTests := true, laidLooks := .later }
def MailChecksCardSaid : Prop := Claim7.holds Tryz.pinned (.plain (OpenSpec.ofChange mailChecksSpec)) mailChecksCard

/-- THE SECOND FORM's CARD OF 'pouchlaw21.BounceMakes'. -/
def bounceMakesUptoCard : Claim7 := { stood := { row := bounceMakesUptoRow, standIns := [], harness := (true, "f335afdaee253bb16fd20f2986089374ae19bf4f7cbfcae37c358209a22e0655"), looks := true }, kinds := [], alts := [], laidByText := true, laidKinds := [.data, .data, .data, .data, .sentinel, .sentinel, .pinned], laidTests := true, laidLooks := .later }
def BounceMakesUptoCardSaid : Prop := Claim7.holds Tryz.pinned (.plain (OpenSpec.upto bounceMakesSpec)) bounceMakesUptoCard

/-- THE SECOND FORM's CARD OF 'pouchlaw21.BounceEnds'. -/
def bounceEndsUptoCard : Claim7 := { stood := { row := bounceEndsUptoRow, standIns := [], harness := (true, "f335afdaee253bb16fd20f2986089374ae19bf4f7cbfcae37c358209a22e0655"), looks := true }, kinds := [], alts := [], laidByText := true, laidKinds := [.data, .data, .data, .data, .sentinel, .sentinel, .pinned], laidTests := true, laidLooks := .later }
def BounceEndsUptoCardSaid : Prop := Claim7.holds Tryz.pinned (.plain (OpenSpec.upto bounceEndsSpec)) bounceEndsUptoCard

/-- THE SECOND FORM's CARD OF 'pouchlaw21.BounceNames'. -/
def bounceNamesUptoCard : Claim7 := { stood := { row := bounceNamesUptoRow, standIns := [], harness := (true, "f335afdaee253bb16fd20f2986089374ae19bf4f7cbfcae37c358209a22e0655"), looks := true }, kinds := [], alts := [], laidByText := true, laidKinds := [.data, .data, .data, .data, .sentinel, .sentinel, .pinned], laidTests := true, laidLooks := .later }
def BounceNamesUptoCardSaid : Prop := Claim7.holds Tryz.pinned (.plain (OpenSpec.upto bounceNamesSpec)) bounceNamesUptoCard

/-- THE SECOND FORM's CARD OF 'pouchlaw15.MailAny'. -/
def mailAnyUptoCard : Claim7 := { stood := { row := mailAnyUptoRow, standIns := [], harness := (true, "f335afdaee253bb16fd20f2986089374ae19bf4f7cbfcae37c358209a22e0655"), looks := true }, kinds := [], alts := [], laidByText := true, laidKinds := [.data, .data, .data, .data, .sentinel, .sentinel, .pinned], laidTests := true, laidLooks := .later }
def MailAnyUptoCardSaid : Prop := Claim7.holds Tryz.pinned (.plain (OpenSpec.upto mailAnySpec)) mailAnyUptoCard

/-- THE SECOND FORM's CARD OF 'pouchlaw15.MailTurned'. -/
def mailTurnedUptoCard : Claim7 := { stood := { row := mailTurnedUptoRow, standIns := [], harness := (true, "f335afdaee253bb16fd20f2986089374ae19bf4f7cbfcae37c358209a22e0655"), looks := true }, kinds := [], alts := [], laidByText := true, laidKinds := [.data, .data, .data, .data, .sentinel, .sentinel, .pinned], laidTests := true, laidLooks := .later }
def MailTurnedUptoCardSaid : Prop := Claim7.holds Tryz.pinned (.plain (OpenSpec.upto mailTurnedSpec)) mailTurnedUptoCard

/-- THE SECOND FORM's CARD OF 'pouchlaw15.MailChecks'. -/
def mailChecksUptoCard : Claim7 := { stood := { row := mailChecksUptoRow, standIns := [], harness := (true, "f335afdaee253bb16fd20f2986089374ae19bf4f7cbfcae37c358209a22e0655"), looks := true }, kinds := [], alts := [], laidByText := true, laidKinds := [.data, .data, .data, .data, .sentinel, .sentinel, .pinned], laidTests := true, laidLooks := .later }
def MailChecksUptoCardSaid : Prop := Claim7.holds Tryz.pinned (.plain (OpenSpec.upto mailChecksSpec)) mailChecksUptoCard
end Rows
end Go.Proofs.YtbhejifllgnliaaGreatDoor
