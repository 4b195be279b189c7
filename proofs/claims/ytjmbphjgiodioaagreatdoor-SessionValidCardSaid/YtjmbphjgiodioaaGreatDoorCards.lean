/-
  DERIVED. GIVEN WITH THE SEED: THE CARDS: each row of YtjmbphjgiodioaaGreatDoorRows.lean that lists a variable, with what it lists TIED to the program's text (the seventh form; the later family's looks); each row that meets fmt, with fmt's text TOLD by the authors' own Lean function (tested against real Go, not proved from fmt's source: count such statements apart). THE CARD IS WHAT COUNTS. Prove the row's statement (the work); the ties are given (YtjmbphjgiodioaaGreatDoorTie.lean); close each card by the builder's one call (the guide's Derived/Test/ToyasCard.lean, 'card_holds'). Laid BY PROGRAM, IN A SANDBOX (cutbox-door.mjs). By AI agents, Wed Nov 11 2026. No macro, syntax, notation, axiom, sorry.
-/
import Derived.Test.YtjmbphjgiodioaaGreatDoorRows
import GoSem.ClaimSeven
namespace Go.Proofs.YtjmbphjgiodioaaGreatDoor
namespace Rows

/-- THE TIED CARD OF 'learnerlaw52.SessionNew'. -/
def sessionNewCard : Claim7 := { stood := { row := sessionNewRow, standIns := [], harness := (true, "f31064b13494b16e325ad3878a191499acd858a92e40998d6bbdb88437b05cc5"), looks := false }, kinds := [], alts := [], laidByText := true, laidKinds := [.data, .data, .data], laidTests := true, laidLooks := .later }
def SessionNewCardSaid : Prop := Claim7.holds Tryz.pinned (.plain (OpenSpec.ofChange sessionNewSpec)) sessionNewCard

/-- THE TIED CARD OF 'learnerlaw52.SessionValid'. -/
def sessionValidCard : Claim7 := { stood := { row := sessionValidRow, standIns := [], harness := (true, "f31064b13494b16e325ad3878a191499acd858a92e40998d6bbdb88437b05cc5"), looks := false }, kinds := [], alts := [], laidByText := true, laidKinds := [.data, .data, .data], laidTests := true, laidLooks := .later }
def SessionValidCardSaid : Prop := Claim7.holds Tryz.pinned (.plain (OpenSpec.ofChange sessionValidSpec)) sessionValidCard

/-- THE SECOND FORM's CARD OF 'learnerlaw52.SessionNew'. -/
def sessionNewUptoCard : Claim7 := { stood := { row := sessionNewUptoRow, standIns := [], harness := (true, "f31064b13494b16e325ad3878a191499acd858a92e40998d6bbdb88437b05cc5"), looks := false }, kinds := [], alts := [], laidByText := true, laidKinds := [.data, .data, .data], laidTests := true, laidLooks := .later }
def SessionNewUptoCardSaid : Prop := Claim7.holds Tryz.pinned (.plain (OpenSpec.upto sessionNewSpec)) sessionNewUptoCard

/-- THE SECOND FORM's CARD OF 'learnerlaw52.SessionValid'. -/
def sessionValidUptoCard : Claim7 := { stood := { row := sessionValidUptoRow, standIns := [], harness := (true, "f31064b13494b16e325ad3878a191499acd858a92e40998d6bbdb88437b05cc5"), looks := false }, kinds := [], alts := [], laidByText := true, laidKinds := [.data, .data, .data], laidTests := true, laidLooks := .later }
def SessionValidUptoCardSaid : Prop := Claim7.holds Tryz.pinned (.plain (OpenSpec.upto sessionValidSpec)) sessionValidUptoCard
end Rows
end Go.Proofs.YtjmbphjgiodioaaGreatDoor
