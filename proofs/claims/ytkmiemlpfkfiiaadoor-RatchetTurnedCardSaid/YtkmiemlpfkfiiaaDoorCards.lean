/-
  DERIVED. GIVEN WITH THE SEED: THE CARDS: each row of YtkmiemlpfkfiiaaDoorRows.lean that lists a variable, with what it lists TIED to the program's text (the seventh form; the later family's looks); each row that meets fmt, with fmt's text TOLD by the authors' own Lean function (tested against real Go, not proved from fmt's source: count such statements apart). THE CARD IS WHAT COUNTS. Prove the row's statement (the work); the ties are given (YtkmiemlpfkfiiaaDoorTie.lean); close each card by the builder's one call (the guide's Derived/Test/ToyasCard.lean, 'card_holds'). Laid BY PROGRAM, IN A SANDBOX (cutbox-door.mjs). By AI agents, Wed Nov 11 2026. No macro, syntax, notation, axiom, sorry.
-/
import Derived.Test.YtkmiemlpfkfiiaaDoorRows
import GoSem.ClaimSeven
namespace Go.Proofs.YtkmiemlpfkfiiaaDoor
namespace Rows

/-- THE TIED CARD OF 'despatchlaw19.RatchetEncrypts'. -/
def ratchetEncryptsCard : Claim7 := { stood := { row := ratchetEncryptsRow, standIns := [], harness := (true, "e771f1d2491e9fd79ac0da0d0ccb4a3259b026cc582540a6dbfb0a5d30e7c5c7"), looks := false }, kinds := [], alts := [], laidByText := true, laidKinds := [.data, .data], laidTests := true, laidLooks := .later }
def RatchetEncryptsCardSaid : Prop := Claim7.holds Tryd.pinned (.plain (OpenSpec.ofChange ratchetEncryptsSpec)) ratchetEncryptsCard

/-- THE TIED CARD OF 'despatchlaw19.RatchetCodes'. -/
def ratchetCodesCard : Claim7 := { stood := { row := ratchetCodesRow, standIns := [], harness := (true, "e771f1d2491e9fd79ac0da0d0ccb4a3259b026cc582540a6dbfb0a5d30e7c5c7"), looks := false }, kinds := [], alts := [], laidByText := true, laidKinds := [.data, .data], laidTests := true, laidLooks := .later }
def RatchetCodesCardSaid : Prop := Claim7.holds Tryd.pinned (.plain (OpenSpec.ofChange ratchetCodesSpec)) ratchetCodesCard

/-- THE TIED CARD OF 'despatchlaw19.RatchetDecrypts'. -/
def ratchetDecryptsCard : Claim7 := { stood := { row := ratchetDecryptsRow, standIns := [], harness := (true, "e771f1d2491e9fd79ac0da0d0ccb4a3259b026cc582540a6dbfb0a5d30e7c5c7"), looks := false }, kinds := [], alts := [], laidByText := true, laidKinds := [.data, .data], laidTests := true, laidLooks := .later }
def RatchetDecryptsCardSaid : Prop := Claim7.holds Tryd.pinned (.plain (OpenSpec.ofChange ratchetDecryptsSpec)) ratchetDecryptsCard

/-- THE TIED CARD OF 'despatchlaw19.RatchetFar'. -/
def ratchetFarCard : Claim7 := { stood := { row := ratchetFarRow, standIns := [], harness := (true, "e771f1d2491e9fd79ac0da0d0ccb4a3259b026cc582540a6dbfb0a5d30e7c5c7"), looks := false }, kinds := [], alts := [], laidByText := true, laidKinds := [.data, .data], laidTests := true, laidLooks := .later }
def RatchetFarCardSaid : Prop := Claim7.holds Tryd.pinned (.plain (OpenSpec.ofChange ratchetFarSpec)) ratchetFarCard

/-- THE TIED CARD OF 'despatchlaw19.RatchetTurned'. -/
def ratchetTurnedCard : Claim7 := { stood := { row := ratchetTurnedRow, standIns := [], harness := (true, "e771f1d2491e9fd79ac0da0d0ccb4a3259b026cc582540a6dbfb0a5d30e7c5c7"), looks := false }, kinds := [], alts := [], laidByText := true, laidKinds := [.data, .data], laidTests := true, laidLooks := .later }
def RatchetTurnedCardSaid : Prop := Claim7.holds Tryd.pinned (.plain (OpenSpec.ofChange ratchetTurnedSpec)) ratchetTurnedCard

/-- THE TIED CARD OF 'despatchlaw19.RatchetParts'. -/
def ratchetPartsCard : Claim7 := { stood := { row := ratchetPartsRow, standIns := [], harness := (true, "e771f1d2491e9fd79ac0da0d0ccb4a3259b026cc582540a6dbfb0a5d30e7c5c7"), looks := false }, kinds := [], alts := [], laidByText := true, laidKinds := [.data, .data], laidTests := true, laidLooks := .later }
def RatchetPartsCardSaid : Prop := Claim7.holds Tryd.pinned (.plain (OpenSpec.ofChange ratchetPartsSpec)) ratchetPartsCard

/-- THE SECOND FORM's CARD OF 'despatchlaw19.RatchetEncrypts'. -/
def ratchetEncryptsUptoCard : Claim7 := { stood := { row := ratchetEncryptsUptoRow, standIns := [], harness := (true, "e771f1d2491e9fd79ac0da0d0ccb4a3259b026cc582540a6dbfb0a5d30e7c5c7"), looks := false }, kinds := [], alts := [], laidByText := true, laidKinds := [.data, .data], laidTests := true, laidLooks := .later }
def RatchetEncryptsUptoCardSaid : Prop := Claim7.holds Tryd.pinned (.plain (OpenSpec.upto ratchetEncryptsSpec)) ratchetEncryptsUptoCard

/-- THE SECOND FORM's CARD OF 'despatchlaw19.RatchetCodes'. -/
def ratchetCodesUptoCard : Claim7 := { stood := { row := ratchetCodesUptoRow, standIns := [], harness := (true, "e771f1d2491e9fd79ac0da0d0ccb4a3259b026cc582540a6dbfb0a5d30e7c5c7"), looks := false }, kinds := [], alts := [], laidByText := true, laidKinds := [.data, .data], laidTests := true, laidLooks := .later }
def RatchetCodesUptoCardSaid : Prop := Claim7.holds Tryd.pinned (.plain (OpenSpec.upto ratchetCodesSpec)) ratchetCodesUptoCard

/-- THE SECOND FORM's CARD OF 'despatchlaw19.RatchetDecrypts'. -/
def ratchetDecryptsUptoCard : Claim7 := { stood := { row := ratchetDecryptsUptoRow, standIns := [], harness := (true, "e771f1d2491e9fd79ac0da0d0ccb4a3259b026cc582540a6dbfb0a5d30e7c5c7"), looks := false }, kinds := [], alts := [], laidByText := true, laidKinds := [.data, .data], laidTests := true, laidLooks := .later }
def RatchetDecryptsUptoCardSaid : Prop := Claim7.holds Tryd.pinned (.plain (OpenSpec.upto ratchetDecryptsSpec)) ratchetDecryptsUptoCard

/-- THE SECOND FORM's CARD OF 'despatchlaw19.RatchetFar'. -/
def ratchetFarUptoCard : Claim7 := { stood := { row := ratchetFarUptoRow, standIns := [], harness := (true, "e771f1d2491e9fd79ac0da0d0ccb4a3259b026cc582540a6dbfb0a5d30e7c5c7"), looks := false }, kinds := [], alts := [], laidByText := true, laidKinds := [.data, .data], laidTests := true, laidLooks := .later }
def RatchetFarUptoCardSaid : Prop := Claim7.holds Tryd.pinned (.plain (OpenSpec.upto ratchetFarSpec)) ratchetFarUptoCard

/-- THE SECOND FORM's CARD OF 'despatchlaw19.RatchetTurned'. -/
def ratchetTurnedUptoCard : Claim7 := { stood := { row := ratchetTurnedUptoRow, standIns := [], harness := (true, "e771f1d2491e9fd79ac0da0d0ccb4a3259b026cc582540a6dbfb0a5d30e7c5c7"), looks := false }, kinds := [], alts := [], laidByText := true, laidKinds := [.data, .data], laidTests := true, laidLooks := .later }
def RatchetTurnedUptoCardSaid : Prop := Claim7.holds Tryd.pinned (.plain (OpenSpec.upto ratchetTurnedSpec)) ratchetTurnedUptoCard

/-- THE SECOND FORM's CARD OF 'despatchlaw19.RatchetParts'. -/
def ratchetPartsUptoCard : Claim7 := { stood := { row := ratchetPartsUptoRow, standIns := [], harness := (true, "e771f1d2491e9fd79ac0da0d0ccb4a3259b026cc582540a6dbfb0a5d30e7c5c7"), looks := false }, kinds := [], alts := [], laidByText := true, laidKinds := [.data, .data], laidTests := true, laidLooks := .later }
def RatchetPartsUptoCardSaid : Prop := Claim7.holds Tryd.pinned (.plain (OpenSpec.upto ratchetPartsSpec)) ratchetPartsUptoCard
end Rows
end Go.Proofs.YtkmiemlpfkfiiaaDoor
