/-
  DERIVED. GIVEN WITH THE SEED: THE CARDS: each row of YtihmbgdkllmkaaaDoorRows.lean that lists a variable, with what it lists TIED to the program's text (the seventh form; the later family's looks); each row that meets fmt, with fmt's text TOLD by the authors' own Lean function (tested against real Go, not proved from fmt's source: count such statements apart). THE CARD IS WHAT COUNTS. Prove the row's statement (the work); the ties are given (YtihmbgdkllmkaaaDoorTie.lean); close each card by the builder's one call (the guide's Derived/Test/ToyasCard.lean, 'card_holds'). Laid BY PROGRAM, IN A SANDBOX (cutbox-door.mjs). By AI agents, Wed Nov 11 2026. No macro, syntax, notation, axiom, sorry.
-/
import Derived.Test.YtihmbgdkllmkaaaDoorRows
import GoSem.ClaimSeven
namespace Go.Proofs.YtihmbgdkllmkaaaDoor
namespace Rows

/-- THE TIED CARD OF 'betrothallaw14.ChannelHolds'. -/
def channelHoldsCard : Claim7 := { stood := { row := channelHoldsRow, standIns := [], harness := (true, "e70e45441ee6aa4fb1693a22c3c7adbb749d3d21503cf2a8070bc0afe6ab76c9"), looks := false }, kinds := [], alts := [], laidByText := true, laidKinds := [.data], laidTests := true, laidLooks := .later }
def ChannelHoldsCardSaid : Prop := Claim7.holds Tryd.pinned (.plain (OpenSpec.ofChange channelHoldsSpec)) channelHoldsCard

/-- THE TIED CARD OF 'betrothallaw14.ChannelPlays'. -/
def channelPlaysCard : Claim7 := { stood := { row := channelPlaysRow, standIns := [], harness := (true, "e70e45441ee6aa4fb1693a22c3c7adbb749d3d21503cf2a8070bc0afe6ab76c9"), looks := false }, kinds := [], alts := [], laidByText := true, laidKinds := [.data], laidTests := true, laidLooks := .later }
def ChannelPlaysCardSaid : Prop := Claim7.holds Tryd.pinned (.plain (OpenSpec.ofChange channelPlaysSpec)) channelPlaysCard

/-- THE TIED CARD OF 'betrothallaw14.ChannelNone'. -/
def channelNoneCard : Claim7 := { stood := { row := channelNoneRow, standIns := [], harness := (true, "e70e45441ee6aa4fb1693a22c3c7adbb749d3d21503cf2a8070bc0afe6ab76c9"), looks := false }, kinds := [], alts := [], laidByText := true, laidKinds := [.data], laidTests := true, laidLooks := .later }
def ChannelNoneCardSaid : Prop := Claim7.holds Tryd.pinned (.plain (OpenSpec.ofChange channelNoneSpec)) channelNoneCard

/-- THE TIED CARD OF 'betrothallaw14.ChannelCopies'. -/
def channelCopiesCard : Claim7 := { stood := { row := channelCopiesRow, standIns := [], harness := (true, "e70e45441ee6aa4fb1693a22c3c7adbb749d3d21503cf2a8070bc0afe6ab76c9"), looks := false }, kinds := [], alts := [], laidByText := true, laidKinds := [.data], laidTests := true, laidLooks := .later }
def ChannelCopiesCardSaid : Prop := Claim7.holds Tryd.pinned (.plain (OpenSpec.ofChange channelCopiesSpec)) channelCopiesCard

/-- THE SECOND FORM's CARD OF 'betrothallaw14.ChannelHolds'. -/
def channelHoldsUptoCard : Claim7 := { stood := { row := channelHoldsUptoRow, standIns := [], harness := (true, "e70e45441ee6aa4fb1693a22c3c7adbb749d3d21503cf2a8070bc0afe6ab76c9"), looks := false }, kinds := [], alts := [], laidByText := true, laidKinds := [.data], laidTests := true, laidLooks := .later }
def ChannelHoldsUptoCardSaid : Prop := Claim7.holds Tryd.pinned (.plain (OpenSpec.upto channelHoldsSpec)) channelHoldsUptoCard

/-- THE SECOND FORM's CARD OF 'betrothallaw14.ChannelPlays'. -/
def channelPlaysUptoCard : Claim7 := { stood := { row := channelPlaysUptoRow, standIns := [], harness := (true, "e70e45441ee6aa4fb1693a22c3c7adbb749d3d21503cf2a8070bc0afe6ab76c9"), looks := false }, kinds := [], alts := [], laidByText := true, laidKinds := [.data], laidTests := true, laidLooks := .later }
def ChannelPlaysUptoCardSaid : Prop := Claim7.holds Tryd.pinned (.plain (OpenSpec.upto channelPlaysSpec)) channelPlaysUptoCard

/-- THE SECOND FORM's CARD OF 'betrothallaw14.ChannelNone'. -/
def channelNoneUptoCard : Claim7 := { stood := { row := channelNoneUptoRow, standIns := [], harness := (true, "e70e45441ee6aa4fb1693a22c3c7adbb749d3d21503cf2a8070bc0afe6ab76c9"), looks := false }, kinds := [], alts := [], laidByText := true, laidKinds := [.data], laidTests := true, laidLooks := .later }
def ChannelNoneUptoCardSaid : Prop := Claim7.holds Tryd.pinned (.plain (OpenSpec.upto channelNoneSpec)) channelNoneUptoCard

/-- THE SECOND FORM's CARD OF 'betrothallaw14.ChannelCopies'. -/
def channelCopiesUptoCard : Claim7 := { stood := { row := channelCopiesUptoRow, standIns := [], harness := (true, "e70e45441ee6aa4fb1693a22c3c7adbb749d3d21503cf2a8070bc0afe6ab76c9"), looks := false }, kinds := [], alts := [], laidByText := true, laidKinds := [.data], laidTests := true, laidLooks := .later }
def ChannelCopiesUptoCardSaid : Prop := Claim7.holds Tryd.pinned (.plain (OpenSpec.upto channelCopiesSpec)) channelCopiesUptoCard
end Rows
end Go.Proofs.YtihmbgdkllmkaaaDoor
