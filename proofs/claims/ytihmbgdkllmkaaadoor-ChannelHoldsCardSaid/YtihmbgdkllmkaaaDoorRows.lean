/-
  NARROWER THAN 'FOR EVERY INPUT', by the rows' own cells (each row's printed sentence says how): ChannelHolds: laid · ChannelPlays: loops, laid · ChannelNone: loops, laid · ChannelCopies: loops, laid.
  DERIVED. THE GIVEN ROWS OF THIS SEAT. 4 by the template 'for every input the law returns true; each argument reads behind the call as it read before'; 0 by the template 'total and deterministic' (their statements: YtihmbgdkllmkaaaDoorTotals.lean).
  GIVEN WITH THE SEED: the statements are not yours to turn. If you find one false, say at which input.
  Laid BY PROGRAM, IN A SANDBOX (cutbox-rows.mjs): the forced cells as the released guide's own fill.sh prints them over the translation 7b729e7b12406c18… (all of the seat's roots in one cut). By AI agents, Wed Nov 11 2026. No macro, syntax, notation, axiom, sorry.
-/
import Derived.Test.YtihmbgdkllmkaaaDoorChecked
import GoSem.Claim
import GoSem.ClaimJoined
import GoSem.ClaimMapViews
import Derived.JoinedTies
import Derived.KernelRfl
namespace Go.Proofs.YtihmbgdkllmkaaaDoor
/- THE CELL 'sum', in the pinned program and in every row, IS THE sha256 OF THE DUMP (.gsa) THAT YtihmbgdkllmkaaaDoorProg.lean LOADS. Nothing in Lean hashes anything: it is a label: what it is worth is what the hold of that sum in a sandbox is worth. -/
noncomputable def Tryd.pinned : Pinned := { name := "ytihmbgdkllmkaaadoor", sum := "7b729e7b12406c188d49b84b4fc45437fe0dd0735a831760108499d6c5d7ef6b", checked := Tryd.checked }
namespace Rows
def none {H : Type} : Left H := { results := [], args := [] }

/- WHAT THE LISTED PACKAGE-LEVEL VARIABLES READ AS WHEN THE CALL BEGINS. Each datum BY PROGRAM (the guide's laid-datum.mjs) off the statement by which the dump's own 'gosem.cut.vars' lays the variable. In a bare row this is a premise. The card (YtihmbgdkllmkaaaDoorCards.lean) ties it to the program's text. -/
def laid_betrothal_channel_sides {H : Type} : DataW H := .agg [.lit (.int .i64 1), .lit (.int .i64 2)]

/-- 'betrothallaw14.ChannelHolds': WHATEVER THE INPUT: true; the input reads as it did. -/
def channelHoldsSpec : ChangeSpec := { name := "channelHolds", fn := fun _ => fun
  | [d1, d2, d3] => { results := [.lit (.bool true)], args := [d1, d2, d3] }
  | _ => none }
def channelHoldsRow : OpenClaim := { program := "ytihmbgdkllmkaaadoor", sum := "7b729e7b12406c188d49b84b4fc45437fe0dd0735a831760108499d6c5d7ef6b", func := "betrothal/betrothallaw14.ChannelHolds", spec := "channelHolds", unfollowed := true, recurses := true, named := ["betrothal/channel.sides"], apart := false, laid := [("betrothal/channel.sides", laid_betrothal_channel_sides)] }
def ChannelHoldsSaid : Prop := channelHoldsRow.holds Tryd.pinned (OpenSpec.ofChange channelHoldsSpec)

/-- ITS FALSE NEIGHBOUR: 'it returns false'. Refute it at one input. -/
def channelHoldsWrong : ChangeSpec := { name := "channelHolds", fn := fun _ => fun
  | [d1, d2, d3] => { results := [.lit (.bool false)], args := [d1, d2, d3] }
  | _ => none }
def ChannelHoldsWrongFalsely : Prop := channelHoldsRow.holds Tryd.pinned (OpenSpec.ofChange channelHoldsWrong)

/-- 'betrothallaw14.ChannelPlays': WHATEVER THE INPUT: true; the input reads as it did. -/
def channelPlaysSpec : ChangeSpec := { name := "channelPlays", fn := fun _ => fun
  | [d1, d2, d3] => { results := [.lit (.bool true)], args := [d1, d2, d3] }
  | _ => none }
def channelPlaysRow : OpenClaim := { program := "ytihmbgdkllmkaaadoor", sum := "7b729e7b12406c188d49b84b4fc45437fe0dd0735a831760108499d6c5d7ef6b", func := "betrothal/betrothallaw14.ChannelPlays", spec := "channelPlays", unfollowed := true, recurses := true, named := ["betrothal/channel.sides"], loops := true, apart := false, laid := [("betrothal/channel.sides", laid_betrothal_channel_sides)] }
def ChannelPlaysSaid : Prop := channelPlaysRow.holds Tryd.pinned (OpenSpec.ofChange channelPlaysSpec)

/-- ITS FALSE NEIGHBOUR: 'it returns false'. Refute it at one input. -/
def channelPlaysWrong : ChangeSpec := { name := "channelPlays", fn := fun _ => fun
  | [d1, d2, d3] => { results := [.lit (.bool false)], args := [d1, d2, d3] }
  | _ => none }
def ChannelPlaysWrongFalsely : Prop := channelPlaysRow.holds Tryd.pinned (OpenSpec.ofChange channelPlaysWrong)

/-- 'betrothallaw14.ChannelNone': WHATEVER THE INPUT: true; the input reads as it did. -/
def channelNoneSpec : ChangeSpec := { name := "channelNone", fn := fun _ => fun
  | [d1, d2] => { results := [.lit (.bool true)], args := [d1, d2] }
  | _ => none }
def channelNoneRow : OpenClaim := { program := "ytihmbgdkllmkaaadoor", sum := "7b729e7b12406c188d49b84b4fc45437fe0dd0735a831760108499d6c5d7ef6b", func := "betrothal/betrothallaw14.ChannelNone", spec := "channelNone", unfollowed := true, recurses := true, named := ["betrothal/channel.sides"], loops := true, apart := false, laid := [("betrothal/channel.sides", laid_betrothal_channel_sides)] }
def ChannelNoneSaid : Prop := channelNoneRow.holds Tryd.pinned (OpenSpec.ofChange channelNoneSpec)

/-- ITS FALSE NEIGHBOUR: 'it returns false'. Refute it at one input. -/
def channelNoneWrong : ChangeSpec := { name := "channelNone", fn := fun _ => fun
  | [d1, d2] => { results := [.lit (.bool false)], args := [d1, d2] }
  | _ => none }
def ChannelNoneWrongFalsely : Prop := channelNoneRow.holds Tryd.pinned (OpenSpec.ofChange channelNoneWrong)

/-- 'betrothallaw14.ChannelCopies': WHATEVER THE INPUT: true; the input reads as it did. -/
def channelCopiesSpec : ChangeSpec := { name := "channelCopies", fn := fun _ => fun
  | [d1, d2] => { results := [.lit (.bool true)], args := [d1, d2] }
  | _ => none }
def channelCopiesRow : OpenClaim := { program := "ytihmbgdkllmkaaadoor", sum := "7b729e7b12406c188d49b84b4fc45437fe0dd0735a831760108499d6c5d7ef6b", func := "betrothal/betrothallaw14.ChannelCopies", spec := "channelCopies", unfollowed := true, recurses := true, named := ["betrothal/channel.sides"], loops := true, apart := false, laid := [("betrothal/channel.sides", laid_betrothal_channel_sides)] }
def ChannelCopiesSaid : Prop := channelCopiesRow.holds Tryd.pinned (OpenSpec.ofChange channelCopiesSpec)

/-- ITS FALSE NEIGHBOUR: 'it returns false'. Refute it at one input. -/
def channelCopiesWrong : ChangeSpec := { name := "channelCopies", fn := fun _ => fun
  | [d1, d2] => { results := [.lit (.bool false)], args := [d1, d2] }
  | _ => none }
def ChannelCopiesWrongFalsely : Prop := channelCopiesRow.holds Tryd.pinned (OpenSpec.ofChange channelCopiesWrong)

/- THE SECOND FORM. 'bulk': how many values and letters a reading holds, each counted each time it is reached (what is shared counts as often as it is met; a slice's spare places count too). A statement '..UptoSaid' is the law's where the arguments, and the package variables that the reading takes, are together of bulk at most 1048576: NARROWER than '..Said'. Prove '..Said' where nothing that the law and all that it calls make is longer than what came in: it says more and counts as full. Else prove '..UptoSaid'. A law counts once. -/
mutual
def uptoBulk {H : Type} : DataW H → Nat
  | .lit (.string bytes) => bytes.length + 1
  | .lit _ => 1
  | .nil => 1
  | .ptr d => uptoBulk d + 1
  | .slice elems spare => uptoBulkAll elems + uptoBulkAll spare + 1
  | .agg parts => uptoBulkAll parts + 1
  | .iface _ d => uptoBulk d + 1
  | .map entries => uptoBulkEntries entries + 1
  | .held _ => 1
def uptoBulkAll {H : Type} : List (DataW H) → Nat
  | [] => 0
  | d :: r => uptoBulk d + uptoBulkAll r
def uptoBulkEntries {H : Type} : List (Lit × DataW H) → Nat
  | [] => 0
  | x :: r => uptoBulkEntry x + uptoBulkEntries r
def uptoBulkEntry {H : Type} : Lit × DataW H → Nat
  | (.string bytes, d) => bytes.length + uptoBulk d + 1
  | (_, d) => uptoBulk d + 1
 end
def uptoSmall : (H : Type) → List (DataW H) → Bool := fun _ ds => decide (uptoBulkAll ds ≤ 1048576)
def OpenSpec.upto (s : _root_.Go.ChangeSpec) : _root_.Go.OpenSpec := { _root_.Go.OpenSpec.ofChange s with cond := some uptoSmall }

/-- 'betrothallaw14.ChannelHolds', WHERE WHAT IT READS IS OF BULK AT MOST 1048576: true; the input reads as it did. -/
def channelHoldsUptoRow : OpenClaim := { program := "ytihmbgdkllmkaaadoor", sum := "7b729e7b12406c188d49b84b4fc45437fe0dd0735a831760108499d6c5d7ef6b", func := "betrothal/betrothallaw14.ChannelHolds", spec := "channelHolds", unfollowed := true, recurses := true, named := ["betrothal/channel.sides"], apart := false, laid := [("betrothal/channel.sides", laid_betrothal_channel_sides)], narrowed := true }
def ChannelHoldsUptoSaid : Prop := channelHoldsUptoRow.holds Tryd.pinned (OpenSpec.upto channelHoldsSpec)

/-- 'betrothallaw14.ChannelPlays', WHERE WHAT IT READS IS OF BULK AT MOST 1048576: true; the input reads as it did. -/
def channelPlaysUptoRow : OpenClaim := { program := "ytihmbgdkllmkaaadoor", sum := "7b729e7b12406c188d49b84b4fc45437fe0dd0735a831760108499d6c5d7ef6b", func := "betrothal/betrothallaw14.ChannelPlays", spec := "channelPlays", unfollowed := true, recurses := true, named := ["betrothal/channel.sides"], loops := true, apart := false, laid := [("betrothal/channel.sides", laid_betrothal_channel_sides)], narrowed := true }
def ChannelPlaysUptoSaid : Prop := channelPlaysUptoRow.holds Tryd.pinned (OpenSpec.upto channelPlaysSpec)

/-- 'betrothallaw14.ChannelNone', WHERE WHAT IT READS IS OF BULK AT MOST 1048576: true; the input reads as it did. -/
def channelNoneUptoRow : OpenClaim := { program := "ytihmbgdkllmkaaadoor", sum := "7b729e7b12406c188d49b84b4fc45437fe0dd0735a831760108499d6c5d7ef6b", func := "betrothal/betrothallaw14.ChannelNone", spec := "channelNone", unfollowed := true, recurses := true, named := ["betrothal/channel.sides"], loops := true, apart := false, laid := [("betrothal/channel.sides", laid_betrothal_channel_sides)], narrowed := true }
def ChannelNoneUptoSaid : Prop := channelNoneUptoRow.holds Tryd.pinned (OpenSpec.upto channelNoneSpec)

/-- 'betrothallaw14.ChannelCopies', WHERE WHAT IT READS IS OF BULK AT MOST 1048576: true; the input reads as it did. -/
def channelCopiesUptoRow : OpenClaim := { program := "ytihmbgdkllmkaaadoor", sum := "7b729e7b12406c188d49b84b4fc45437fe0dd0735a831760108499d6c5d7ef6b", func := "betrothal/betrothallaw14.ChannelCopies", spec := "channelCopies", unfollowed := true, recurses := true, named := ["betrothal/channel.sides"], loops := true, apart := false, laid := [("betrothal/channel.sides", laid_betrothal_channel_sides)], narrowed := true }
def ChannelCopiesUptoSaid : Prop := channelCopiesUptoRow.holds Tryd.pinned (OpenSpec.upto channelCopiesSpec)

end Rows
end Go.Proofs.YtihmbgdkllmkaaaDoor
