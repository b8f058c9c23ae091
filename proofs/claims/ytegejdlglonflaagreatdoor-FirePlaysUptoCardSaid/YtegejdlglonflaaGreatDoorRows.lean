/-
  NARROWER THAN 'FOR EVERY INPUT', by the rows' own cells (each row's printed sentence says how): FireHolds: loops, laid · FirePlays: loops, laid · FireMoves: loops, laid.
  DERIVED. THE GIVEN ROWS OF THIS SEAT. 3 by the template 'for every input the law returns true; each argument reads behind the call as it read before'; 0 by the template 'total and deterministic' (their statements: YtegejdlglonflaaGreatDoorTotals.lean).
  GIVEN WITH THE SEED: the statements are not yours to turn. If you find one false, say at which input.
  Laid BY PROGRAM, IN A SANDBOX (cutbox-rows.mjs): the forced cells as the released guide's own fill.sh prints them over the translation 184370f76403bae5… (all of the seat's roots in one cut). By AI agents, Wed Nov 11 2026. No macro, syntax, notation, axiom, sorry.
-/
import Derived.Test.YtegejdlglonflaaGreatDoorChecked
import GoSem.Claim
import GoSem.ClaimJoined
import GoSem.ClaimMapViews
import Derived.JoinedTies
import Derived.KernelRfl
namespace Go.Proofs.YtegejdlglonflaaGreatDoor
/- THE CELL 'sum', in the pinned program and in every row, IS THE sha256 OF THE DUMP (.gsa) THAT YtegejdlglonflaaGreatDoorProg.lean LOADS. Nothing in Lean hashes anything: it is a label: what it is worth is what the hold of that sum in a sandbox is worth. -/
noncomputable def Tryz.pinned : Pinned := { name := "ytegejdlglonflaagreatdoor", sum := "184370f76403bae5f9510e097af5a2a538800acbe4af67578472c6bc5b1a5f46", checked := Tryz.checked }
namespace Rows
def none {H : Type} : Left H := { results := [], args := [] }

/- WHAT THE LISTED PACKAGE-LEVEL VARIABLES READ AS WHEN THE CALL BEGINS. Each datum BY PROGRAM (the guide's laid-datum.mjs) off the statement by which the dump's own 'gosem.cut.vars' lays the variable. In a bare row this is a premise. The card (YtegejdlglonflaaGreatDoorCards.lean) ties it to the program's text. -/
def laid_betrothal_channel_sides {H : Type} : DataW H := .agg [.lit (.int .i64 1), .lit (.int .i64 2)]
def laid_betrothal_fire_names {H : Type} : DataW H := .agg [.lit (.string []), .lit (.string [108, 111, 99, 107]), .lit (.string [115, 116, 111, 114, 101]), .lit (.string [110, 101, 120, 116]), .lit (.string [116, 97, 107, 101]), .lit (.string [119, 97, 107, 101]), .lit (.string [102, 114, 101, 101]), .lit (.string [101, 110, 100])]

/-- 'betrothallaw19.FireHolds': WHATEVER THE INPUT: true; the input reads as it did. -/
def fireHoldsSpec : ChangeSpec := { name := "fireHolds", fn := fun _ => fun
  | [d1, d2] => { results := [.lit (.bool true)], args := [d1, d2] }
  | _ => none }
def fireHoldsRow : OpenClaim := { program := "ytegejdlglonflaagreatdoor", sum := "184370f76403bae5f9510e097af5a2a538800acbe4af67578472c6bc5b1a5f46", func := "betrothal/betrothallaw19.FireHolds", spec := "fireHolds", unfollowed := true, recurses := true, named := ["betrothal/channel.sides"], loops := true, apart := false, laid := [("betrothal/channel.sides", laid_betrothal_channel_sides)] }
def FireHoldsSaid : Prop := fireHoldsRow.holds Tryz.pinned (OpenSpec.ofChange fireHoldsSpec)

/-- ITS FALSE NEIGHBOUR: 'it returns false'. Refute it at one input. -/
def fireHoldsWrong : ChangeSpec := { name := "fireHolds", fn := fun _ => fun
  | [d1, d2] => { results := [.lit (.bool false)], args := [d1, d2] }
  | _ => none }
def FireHoldsWrongFalsely : Prop := fireHoldsRow.holds Tryz.pinned (OpenSpec.ofChange fireHoldsWrong)

/-- 'betrothallaw19.FirePlays': WHATEVER THE INPUT: true; the input reads as it did. -/
def firePlaysSpec : ChangeSpec := { name := "firePlays", fn := fun _ => fun
  | [d1, d2, d3] => { results := [.lit (.bool true)], args := [d1, d2, d3] }
  | _ => none }
def firePlaysRow : OpenClaim := { program := "ytegejdlglonflaagreatdoor", sum := "184370f76403bae5f9510e097af5a2a538800acbe4af67578472c6bc5b1a5f46", func := "betrothal/betrothallaw19.FirePlays", spec := "firePlays", unfollowed := true, recurses := true, named := ["betrothal/channel.sides"], loops := true, apart := false, laid := [("betrothal/channel.sides", laid_betrothal_channel_sides)] }
def FirePlaysSaid : Prop := firePlaysRow.holds Tryz.pinned (OpenSpec.ofChange firePlaysSpec)

/-- ITS FALSE NEIGHBOUR: 'it returns false'. Refute it at one input. -/
def firePlaysWrong : ChangeSpec := { name := "firePlays", fn := fun _ => fun
  | [d1, d2, d3] => { results := [.lit (.bool false)], args := [d1, d2, d3] }
  | _ => none }
def FirePlaysWrongFalsely : Prop := firePlaysRow.holds Tryz.pinned (OpenSpec.ofChange firePlaysWrong)

/-- 'betrothallaw19.FireMoves': WHATEVER THE INPUT: true; the input reads as it did. -/
def fireMovesSpec : ChangeSpec := { name := "fireMoves", fn := fun _ => fun
  | [d1, d2, d3, d4, d5, d6, d7] => { results := [.lit (.bool true)], args := [d1, d2, d3, d4, d5, d6, d7] }
  | _ => none }
def fireMovesRow : OpenClaim := { program := "ytegejdlglonflaagreatdoor", sum := "184370f76403bae5f9510e097af5a2a538800acbe4af67578472c6bc5b1a5f46", func := "betrothal/betrothallaw19.FireMoves", spec := "fireMoves", unfollowed := true, recurses := true, named := ["betrothal/channel.sides", "betrothal/fire.names"], loops := true, apart := false, laid := [("betrothal/channel.sides", laid_betrothal_channel_sides), ("betrothal/fire.names", laid_betrothal_fire_names)] }
def FireMovesSaid : Prop := fireMovesRow.holds Tryz.pinned (OpenSpec.ofChange fireMovesSpec)

/-- ITS FALSE NEIGHBOUR: 'it returns false'. Refute it at one input. -/
def fireMovesWrong : ChangeSpec := { name := "fireMoves", fn := fun _ => fun
  | [d1, d2, d3, d4, d5, d6, d7] => { results := [.lit (.bool false)], args := [d1, d2, d3, d4, d5, d6, d7] }
  | _ => none }
def FireMovesWrongFalsely : Prop := fireMovesRow.holds Tryz.pinned (OpenSpec.ofChange fireMovesWrong)

/- THE SECOND FORM. 'bulk': how many values and letters a reading holds, each counted each time it is reached (what is shared counts as often as it is met; a slice's spare places count too). A statement '..UptoSaid' is the law's where the arguments, and the package variables that the reading takes, are together of bulk at most 1048576: NARROWER than '..Said'. Prove '..Said' where nothing that the law and all that it calls make is longer than what came in: it says more and counts as full. Else prove '..UptoSaid'. A law counts once. -/
mutual
def uptoBulk {H : Type} : DataW H → Nat
  | .lit (.string bytes) => bytes.length + 1
  | .lit _ => 1
  | .nil => 1
  | .ptr d => uptoBulk d + 1
  | .slice elems spare => uptoBulkAll elems + uptoBulkAll spare + 1
  | .agg parts => uptoBulkAll parts + 1
  | .iface _ d => uptoBulk d + 1
  | .map entries => uptoBulkEntries entries + 1
  | .held _ => 1
def uptoBulkAll {H : Type} : List (DataW H) → Nat
  | [] => 0
  | d :: r => uptoBulk d + uptoBulkAll r
def uptoBulkEntries {H : Type} : List (Lit × DataW H) → Nat
  | [] => 0
  | x :: r => uptoBulkEntry x + uptoBulkEntries r
def uptoBulkEntry {H : Type} : Lit × DataW H → Nat
  | (.string bytes, d) => bytes.length + uptoBulk d + 1
  | (_, d) => uptoBulk d + 1
 end
def uptoSmall : (H : Type) → List (DataW H) → Bool := fun _ ds => decide (uptoBulkAll ds ≤ 1048576)
def OpenSpec.upto (s : _root_.Go.ChangeSpec) : _root_.Go.OpenSpec := { _root_.Go.OpenSpec.ofChange s with cond := some uptoSmall }

/-- 'betrothallaw19.FireHolds', WHERE WHAT IT READS IS OF BULK AT MOST 1048576: true; the input reads as it did. -/
def fireHoldsUptoRow : OpenClaim := { program := "ytegejdlglonflaagreatdoor", sum := "184370f76403bae5f9510e097af5a2a538800acbe4af67578472c6bc5b1a5f46", func := "betrothal/betrothallaw19.FireHolds", spec := "fireHolds", unfollowed := true, recurses := true, named := ["betrothal/channel.sides"], loops := true, apart := false, laid := [("betrothal/channel.sides", laid_betrothal_channel_sides)], narrowed := true }
def FireHoldsUptoSaid : Prop := fireHoldsUptoRow.holds Tryz.pinned (OpenSpec.upto fireHoldsSpec)

/-- 'betrothallaw19.FirePlays', WHERE WHAT IT READS IS OF BULK AT MOST 1048576: true; the input reads as it did. -/
def firePlaysUptoRow : OpenClaim := { program := "ytegejdlglonflaagreatdoor", sum := "184370f76403bae5f9510e097af5a2a538800acbe4af67578472c6bc5b1a5f46", func := "betrothal/betrothallaw19.FirePlays", spec := "firePlays", unfollowed := true, recurses := true, named := ["betrothal/channel.sides"], loops := true, apart := false, laid := [("betrothal/channel.sides", laid_betrothal_channel_sides)], narrowed := true }
def FirePlaysUptoSaid : Prop := firePlaysUptoRow.holds Tryz.pinned (OpenSpec.upto firePlaysSpec)

/-- 'betrothallaw19.FireMoves', WHERE WHAT IT READS IS OF BULK AT MOST 1048576: true; the input reads as it did. -/
def fireMovesUptoRow : OpenClaim := { program := "ytegejdlglonflaagreatdoor", sum := "184370f76403bae5f9510e097af5a2a538800acbe4af67578472c6bc5b1a5f46", func := "betrothal/betrothallaw19.FireMoves", spec := "fireMoves", unfollowed := true, recurses := true, named := ["betrothal/channel.sides", "betrothal/fire.names"], loops := true, apart := false, laid := [("betrothal/channel.sides", laid_betrothal_channel_sides), ("betrothal/fire.names", laid_betrothal_fire_names)], narrowed := true }
def FireMovesUptoSaid : Prop := fireMovesUptoRow.holds Tryz.pinned (OpenSpec.upto fireMovesSpec)

end Rows
end Go.Proofs.YtegejdlglonflaaGreatDoor
