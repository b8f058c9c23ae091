/-
  DERIVED. GIVEN WITH THE SEED: THE CARDS: each row of YtegejdlglonflaaGreatDoorRows.lean that lists a variable, with what it lists TIED to the program's text (the seventh form; the later family's looks); each row that meets fmt, with fmt's text TOLD by the authors' own Lean function (tested against real Go, not proved from fmt's source: count such statements apart). THE CARD IS WHAT COUNTS. Prove the row's statement (the work); the ties are given (YtegejdlglonflaaGreatDoorTie.lean); close each card by the builder's one call (the guide's Derived/Test/ToyasCard.lean, 'card_holds'). Laid BY PROGRAM, IN A SANDBOX (cutbox-door.mjs). By AI agents, Wed Nov 11 2026. No macro, syntax, notation, axiom, sorry.
-/
import Derived.Test.YtegejdlglonflaaGreatDoorRows
import GoSem.ClaimSeven
namespace Go.Proofs.YtegejdlglonflaaGreatDoor
namespace Rows

/-- THE TIED CARD OF 'betrothallaw19.FireHolds'. -/
def fireHoldsCard : Claim7 := { stood := { row := fireHoldsRow, standIns := [], harness := (true, "d7eb91926df4a1df3abd2232c921d08f2d3225cd0d1c632654f2b0183ea5f9ae"), looks := true }, kinds := [], alts := [], laidByText := true, laidKinds := [.data], laidTests := true, laidLooks := .later }
def FireHoldsCardSaid : Prop := Claim7.holds Tryz.pinned (.plain (OpenSpec.ofChange fireHoldsSpec)) fireHoldsCard

/-- THE TIED CARD OF 'betrothallaw19.FirePlays'. -/
def firePlaysCard : Claim7 := { stood := { row := firePlaysRow, standIns := [], harness := (true, "d7eb91926df4a1df3abd2232c921d08f2d3225cd0d1c632654f2b0183ea5f9ae"), looks := true }, kinds := [], alts := [], laidByText := true, laidKinds := [.data], laidTests := true, laidLooks := .later }
def FirePlaysCardSaid : Prop := Claim7.holds Tryz.pinned (.plain (OpenSpec.ofChange firePlaysSpec)) firePlaysCard

/-- THE TIED CARD OF 'betrothallaw19.FireMoves'. -/
def fireMovesCard : Claim7 := { stood := { row := fireMovesRow, standIns := [], harness := (true, "d7eb91926df4a1df3abd2232c921d08f2d3225cd0d1c632654f2b0183ea5f9ae"), looks := true }, kinds := [], alts := [], laidByText := true, laidKinds := [.data, .data], laidTests := true, laidLooks := .later }
def FireMovesCardSaid : Prop := Claim7.holds Tryz.pinned (.plain (OpenSpec.ofChange fireMovesSpec)) fireMovesCard

/-- THE SECOND FORM's CARD OF 'betrothallaw19.FireHolds'. -/
def fireHoldsUptoCard : Claim7 := { stood := { row := fireHoldsUptoRow, standIns := [], harness := (true, "d7eb91926df4a1df3abd2232c921d08f2d3225cd0d1c632654f2b0183ea5f9ae"), looks := true }, kinds := [], alts := [], laidByText := true, laidKinds := [.data], laidTests := true, laidLooks := .later }
def FireHoldsUptoCardSaid : Prop := Claim7.holds Tryz.pinned (.plain (OpenSpec.upto fireHoldsSpec)) fireHoldsUptoCard

/-- THE SECOND FORM's CARD OF 'betrothallaw19.FirePlays'. -/
def firePlaysUptoCard : Claim7 := { stood := { row := firePlaysUptoRow, standIns := [], harness := (true, "d7eb91926df4a1df3abd2232c921d08f2d3225cd0d1c632654f2b0183ea5f9ae"), looks := true }, kinds := [], alts := [], laidByText := true, laidKinds := [.data], laidTests := true, laidLooks := .later }
def FirePlaysUptoCardSaid : Prop := Claim7.holds Tryz.pinned (.plain (OpenSpec.upto firePlaysSpec)) firePlaysUptoCard

/-- THE SECOND FORM's CARD OF 'betrothallaw19.FireMoves'. -/
def fireMovesUptoCard : Claim7 := { stood := { row := fireMovesUptoRow, standIns := [], harness := (true, "d7eb91926df4a1df3abd2232c921d08f2d3225cd0d1c632654f2b0183ea5f9ae"), looks := true }, kinds := [], alts := [], laidByText := true, laidKinds := [.data, .data], laidTests := true, laidLooks := .later }
def FireMovesUptoCardSaid : Prop := Claim7.holds Tryz.pinned (.plain (OpenSpec.upto fireMovesSpec)) fireMovesUptoCard
end Rows
end Go.Proofs.YtegejdlglonflaaGreatDoor
