/-
  DERIVED. GIVEN WITH THE SEED: THE CARDS: each row of YtaiegjgiodlpaaaDoorRows.lean that lists a variable, with what it lists TIED to the program's text (the seventh form; the later family's looks); each row that meets fmt, with fmt's text TOLD by the authors' own Lean function (tested against real Go, not proved from fmt's source: count such statements apart). THE CARD IS WHAT COUNTS. Prove the row's statement (the work); the ties are given (YtaiegjgiodlpaaaDoorTie.lean); close each card by the builder's one call (the guide's Derived/Test/ToyasCard.lean, 'card_holds'). Laid BY PROGRAM, IN A SANDBOX (cutbox-door.mjs). By AI agents, Wed Nov 11 2026. No macro, syntax, notation, axiom, sorry.
-/
import Derived.Test.YtaiegjgiodlpaaaDoorRows
import GoSem.ClaimSeven
namespace Go.Proofs.YtaiegjgiodlpaaaDoor
namespace Rows

/-- THE TIED CARD OF 'dumbwaiterlaw15.StshRooms'. -/
def stshRoomsCard : Claim7 := { stood := { row := stshRoomsRow, standIns := [], harness := (true, "560b4fed3346cdf8c4f35e41e48d1ee08836115ea82bb6deae5c5de46c78c619"), looks := false }, kinds := [], alts := [], laidByText := true, laidKinds := [.data, .data], laidTests := true, laidLooks := .later }
def StshRoomsCardSaid : Prop := Claim7.holds Tryd.pinned (.plain (OpenSpec.ofChange stshRoomsSpec)) stshRoomsCard

/-- THE TIED CARD OF 'dumbwaiterlaw15.StshKeeps'. -/
def stshKeepsCard : Claim7 := { stood := { row := stshKeepsRow, standIns := [], harness := (true, "560b4fed3346cdf8c4f35e41e48d1ee08836115ea82bb6deae5c5de46c78c619"), looks := false }, kinds := [], alts := [], laidByText := true, laidKinds := [.data, .data], laidTests := true, laidLooks := .later }
def StshKeepsCardSaid : Prop := Claim7.holds Tryd.pinned (.plain (OpenSpec.ofChange stshKeepsSpec)) stshKeepsCard

/-- THE TIED CARD OF 'dumbwaiterlaw15.StshPlays'. -/
def stshPlaysCard : Claim7 := { stood := { row := stshPlaysRow, standIns := [], harness := (true, "560b4fed3346cdf8c4f35e41e48d1ee08836115ea82bb6deae5c5de46c78c619"), looks := false }, kinds := [], alts := [], laidByText := true, laidKinds := [.data, .data], laidTests := true, laidLooks := .later }
def StshPlaysCardSaid : Prop := Claim7.holds Tryd.pinned (.plain (OpenSpec.ofChange stshPlaysSpec)) stshPlaysCard

/-- THE SECOND FORM's CARD OF 'dumbwaiterlaw15.StshRooms'. -/
def stshRoomsUptoCard : Claim7 := { stood := { row := stshRoomsUptoRow, standIns := [], harness := (true, "560b4fed3346cdf8c4f35e41e48d1ee08836115ea82bb6deae5c5de46c78c619"), looks := false }, kinds := [], alts := [], laidByText := true, laidKinds := [.data, .data], laidTests := true, laidLooks := .later }
def StshRoomsUptoCardSaid : Prop := Claim7.holds Tryd.pinned (.plain (OpenSpec.upto stshRoomsSpec)) stshRoomsUptoCard

/-- THE SECOND FORM's CARD OF 'dumbwaiterlaw15.StshKeeps'. -/
def stshKeepsUptoCard : Claim7 := { stood := { row := stshKeepsUptoRow, standIns := [], harness := (true, "560b4fed3346cdf8c4f35e41e48d1ee08836115ea82bb6deae5c5de46c78c619"), looks := false }, kinds := [], alts := [], laidByText := true, laidKinds := [.data, .data], laidTests := true, laidLooks := .later }
def StshKeepsUptoCardSaid : Prop := Claim7.holds Tryd.pinned (.plain (OpenSpec.upto stshKeepsSpec)) stshKeepsUptoCard

/-- THE SECOND FORM's CARD OF 'dumbwaiterlaw15.StshPlays'. -/
def stshPlaysUptoCard : Claim7 := { stood := { row := stshPlaysUptoRow, standIns := [], harness := (true, "560b4fed3346cdf8c4f35e41e48d1ee08836115ea82bb6deae5c5de46c78c619"), looks := false }, kinds := [], alts := [], laidByText := true, laidKinds := [.data, .data], laidTests := true, laidLooks := .later }
def StshPlaysUptoCardSaid : Prop := Claim7.holds Tryd.pinned (.plain (OpenSpec.upto stshPlaysSpec)) stshPlaysUptoCard
end Rows
end Go.Proofs.YtaiegjgiodlpaaaDoor
