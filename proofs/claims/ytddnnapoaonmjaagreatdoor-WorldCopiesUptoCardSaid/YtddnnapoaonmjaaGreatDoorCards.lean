/-
  DERIVED. GIVEN WITH THE SEED: THE CARDS: each row of YtddnnapoaonmjaaGreatDoorRows.lean that lists a variable, with what it lists TIED to the program's text (the seventh form; the later family's looks); each row that meets fmt, with fmt's text TOLD by the authors' own Lean function (tested against real Go, not proved from fmt's source: count such statements apart). THE CARD IS WHAT COUNTS. Prove the row's statement (the work); the ties are given (YtddnnapoaonmjaaGreatDoorTie.lean); close each card by the builder's one call (the guide's Derived/Test/ToyasCard.lean, 'card_holds'). Laid BY PROGRAM, IN A SANDBOX (cutbox-door.mjs). By AI agents, Wed Nov 11 2026. No macro, syntax, notation, axiom, sorry.
-/
import Derived.Test.YtddnnapoaonmjaaGreatDoorRows
import GoSem.ClaimSeven
namespace Go.Proofs.YtddnnapoaonmjaaGreatDoor
namespace Rows

/-- THE TIED CARD OF 'betrothallaw16.WorldHolds'. -/
def worldHoldsCard : Claim7 := { stood := { row := worldHoldsRow, standIns := [], harness := (true, "03136c9a1b5ff06f1233c4a0edf98b7ed5271504cbf635d8e31ff2ef51e0db09"), looks := true }, kinds := [], alts := [], laidByText := true, laidKinds := [.data], laidTests := true, laidLooks := .later }
def WorldHoldsCardSaid : Prop := Claim7.holds Tryz.pinned (.plain (OpenSpec.ofChange worldHoldsSpec)) worldHoldsCard

/-- THE TIED CARD OF 'betrothallaw16.WorldCopies'. -/
def worldCopiesCard : Claim7 := { stood := { row := worldCopiesRow, standIns := [], harness := (true, "03136c9a1b5ff06f1233c4a0edf98b7ed5271504cbf635d8e31ff2ef51e0db09"), looks := true }, kinds := [], alts := [], laidByText := true, laidKinds := [.data], laidTests := true, laidLooks := .later }
def WorldCopiesCardSaid : Prop := Claim7.holds Tryz.pinned (.plain (OpenSpec.ofChange worldCopiesSpec)) worldCopiesCard

/-- THE TIED CARD OF 'betrothallaw16.WorldNone'. -/
def worldNoneCard : Claim7 := { stood := { row := worldNoneRow, standIns := [], harness := (true, "03136c9a1b5ff06f1233c4a0edf98b7ed5271504cbf635d8e31ff2ef51e0db09"), looks := true }, kinds := [], alts := [], laidByText := true, laidKinds := [.data], laidTests := true, laidLooks := .later }
def WorldNoneCardSaid : Prop := Claim7.holds Tryz.pinned (.plain (OpenSpec.ofChange worldNoneSpec)) worldNoneCard

/-- THE SECOND FORM's CARD OF 'betrothallaw16.WorldHolds'. -/
def worldHoldsUptoCard : Claim7 := { stood := { row := worldHoldsUptoRow, standIns := [], harness := (true, "03136c9a1b5ff06f1233c4a0edf98b7ed5271504cbf635d8e31ff2ef51e0db09"), looks := true }, kinds := [], alts := [], laidByText := true, laidKinds := [.data], laidTests := true, laidLooks := .later }
def WorldHoldsUptoCardSaid : Prop := Claim7.holds Tryz.pinned (.plain (OpenSpec.upto worldHoldsSpec)) worldHoldsUptoCard

/-- THE SECOND FORM's CARD OF 'betrothallaw16.WorldCopies'. -/
def worldCopiesUptoCard : Claim7 := { stood := { row := worldCopiesUptoRow, standIns := [], harness := (true, "03136c9a1b5ff06f1233c4a0edf98b7ed5271504cbf635d8e31ff2ef51e0db09"), looks := true }, kinds := [], alts := [], laidByText := true, laidKinds := [.data], laidTests := true, laidLooks := .later }
def WorldCopiesUptoCardSaid : Prop := Claim7.holds Tryz.pinned (.plain (OpenSpec.upto worldCopiesSpec)) worldCopiesUptoCard

/-- THE SECOND FORM's CARD OF 'betrothallaw16.WorldNone'. -/
def worldNoneUptoCard : Claim7 := { stood := { row := worldNoneUptoRow, standIns := [], harness := (true, "03136c9a1b5ff06f1233c4a0edf98b7ed5271504cbf635d8e31ff2ef51e0db09"), looks := true }, kinds := [], alts := [], laidByText := true, laidKinds := [.data], laidTests := true, laidLooks := .later }
def WorldNoneUptoCardSaid : Prop := Claim7.holds Tryz.pinned (.plain (OpenSpec.upto worldNoneSpec)) worldNoneUptoCard
end Rows
end Go.Proofs.YtddnnapoaonmjaaGreatDoor
