/-
  DERIVED. GIVEN WITH THE SEED: THE CARDS: each row of YtlmfbjiejodalaaGreatDoorRows.lean that lists a variable, with what it lists TIED to the program's text (the seventh form; the later family's looks); each row that meets fmt, with fmt's text TOLD by the authors' own Lean function (tested against real Go, not proved from fmt's source: count such statements apart). THE CARD IS WHAT COUNTS. Prove the row's statement (the work); the ties are given (YtlmfbjiejodalaaGreatDoorTie.lean); close each card by the builder's one call (the guide's Derived/Test/ToyasCard.lean, 'card_holds'). Laid BY PROGRAM, IN A SANDBOX (cutbox-door.mjs). By AI agents, Wed Nov 11 2026. No macro, syntax, notation, axiom, sorry.
-/
import Derived.Test.YtlmfbjiejodalaaGreatDoorRows
import GoSem.ClaimSeven
namespace Go.Proofs.YtlmfbjiejodalaaGreatDoor
namespace Rows

/-- THE TIED CARD OF 'learnerlaw53.StoreEncodes'. -/
def storeEncodesCard : Claim7 := { stood := { row := storeEncodesRow, standIns := [], harness := (true, "a77e0472c0c3197adaee935f219c0a9b68291e2965d05743aefe67f6b540c441"), looks := true }, kinds := [], alts := [], laidByText := true, laidKinds := [.data, .data, .data], laidTests := true, laidLooks := .later }
def StoreEncodesCardSaid : Prop := Claim7.holds Tryz.pinned (.plain (OpenSpec.ofChange storeEncodesSpec)) storeEncodesCard

/-- THE TIED CARD OF 'learnerlaw53.StoreDecodes'. -/
def storeDecodesCard : Claim7 := { stood := { row := storeDecodesRow, standIns := [], harness := (true, "a77e0472c0c3197adaee935f219c0a9b68291e2965d05743aefe67f6b540c441"), looks := true }, kinds := [], alts := [], laidByText := true, laidKinds := [.data, .data, .data], laidTests := true, laidLooks := .later }
def StoreDecodesCardSaid : Prop := Claim7.holds Tryz.pinned (.plain (OpenSpec.ofChange storeDecodesSpec)) storeDecodesCard

/-- THE TIED CARD OF 'learnerlaw53.StoreTorn'. -/
def storeTornCard : Claim7 := { stood := { row := storeTornRow, standIns := [], harness := (true, "a77e0472c0c3197adaee935f219c0a9b68291e2965d05743aefe67f6b540c441"), looks := true }, kinds := [], alts := [], laidByText := true, laidKinds := [.data, .data, .data], laidTests := true, laidLooks := .later }
def StoreTornCardSaid : Prop := Claim7.holds Tryz.pinned (.plain (OpenSpec.ofChange storeTornSpec)) storeTornCard

/-- THE SECOND FORM's CARD OF 'learnerlaw53.StoreEncodes'. -/
def storeEncodesUptoCard : Claim7 := { stood := { row := storeEncodesUptoRow, standIns := [], harness := (true, "a77e0472c0c3197adaee935f219c0a9b68291e2965d05743aefe67f6b540c441"), looks := true }, kinds := [], alts := [], laidByText := true, laidKinds := [.data, .data, .data], laidTests := true, laidLooks := .later }
def StoreEncodesUptoCardSaid : Prop := Claim7.holds Tryz.pinned (.plain (OpenSpec.upto storeEncodesSpec)) storeEncodesUptoCard

/-- THE SECOND FORM's CARD OF 'learnerlaw53.StoreDecodes'. -/
def storeDecodesUptoCard : Claim7 := { stood := { row := storeDecodesUptoRow, standIns := [], harness := (true, "a77e0472c0c3197adaee935f219c0a9b68291e2965d05743aefe67f6b540c441"), looks := true }, kinds := [], alts := [], laidByText := true, laidKinds := [.data, .data, .data], laidTests := true, laidLooks := .later }
def StoreDecodesUptoCardSaid : Prop := Claim7.holds Tryz.pinned (.plain (OpenSpec.upto storeDecodesSpec)) storeDecodesUptoCard

/-- THE SECOND FORM's CARD OF 'learnerlaw53.StoreTorn'. -/
def storeTornUptoCard : Claim7 := { stood := { row := storeTornUptoRow, standIns := [], harness := (true, "a77e0472c0c3197adaee935f219c0a9b68291e2965d05743aefe67f6b540c441"), looks := true }, kinds := [], alts := [], laidByText := true, laidKinds := [.data, .data, .data], laidTests := true, laidLooks := .later }
def StoreTornUptoCardSaid : Prop := Claim7.holds Tryz.pinned (.plain (OpenSpec.upto storeTornSpec)) storeTornUptoCard
end Rows
end Go.Proofs.YtlmfbjiejodalaaGreatDoor
