/-
  NARROWER THAN 'FOR EVERY INPUT', by the rows' own cells (each row's printed sentence says how): WorldHolds: loops, laid · WorldCopies: loops, laid · WorldNone: loops, laid.
  DERIVED. THE GIVEN ROWS OF THIS SEAT. 3 by the template 'for every input the law returns true; each argument reads behind the call as it read before'; 0 by the template 'total and deterministic' (their statements: YtddnnapoaonmjaaGreatDoorTotals.lean).
  GIVEN WITH THE SEED: the statements are not yours to turn. If you find one false, say at which input.
  Laid BY PROGRAM, IN A SANDBOX (cutbox-rows.mjs): the forced cells as the released guide's own fill.sh prints them over the translation 46e6f30fc3fde8f4… (all of the seat's roots in one cut). By AI agents, Wed Nov 11 2026. No macro, syntax, notation, axiom, sorry.
-/
import Derived.Test.YtddnnapoaonmjaaGreatDoorChecked
import GoSem.Claim
import GoSem.ClaimJoined
import GoSem.ClaimMapViews
import Derived.JoinedTies
import Derived.KernelRfl
namespace Go.Proofs.YtddnnapoaonmjaaGreatDoor
/- THE CELL 'sum', in the pinned program and in every row, IS THE sha256 OF THE DUMP (.gsa) THAT YtddnnapoaonmjaaGreatDoorProg.lean LOADS. Nothing in Lean hashes anything: it is a label: what it is worth is what the hold of that sum in a sandbox is worth. -/
noncomputable def Tryz.pinned : Pinned := { name := "ytddnnapoaonmjaagreatdoor", sum := "46e6f30fc3fde8f46efbf9d2ec7e46e878b799b3868db88cba64b2e5a3602775", checked := Tryz.checked }
namespace Rows
def none {H : Type} : Left H := { results := [], args := [] }

/- WHAT THE LISTED PACKAGE-LEVEL VARIABLES READ AS WHEN THE CALL BEGINS. Each datum BY PROGRAM (the guide's laid-datum.mjs) off the statement by which the dump's own 'gosem.cut.vars' lays the variable. In a bare row this is a premise. The card (YtddnnapoaonmjaaGreatDoorCards.lean) ties it to the program's text. -/
def laid_betrothal_channel_sides {H : Type} : DataW H := .agg [.lit (.int .i64 1), .lit (.int .i64 2)]

/-- 'betrothallaw16.WorldHolds': WHATEVER THE INPUT: true; the input reads as it did. -/
def worldHoldsSpec : ChangeSpec := { name := "worldHolds", fn := fun _ => fun
  | [d1, d2] => { results := [.lit (.bool true)], args := [d1, d2] }
  | _ => none }
def worldHoldsRow : OpenClaim := { program := "ytddnnapoaonmjaagreatdoor", sum := "46e6f30fc3fde8f46efbf9d2ec7e46e878b799b3868db88cba64b2e5a3602775", func := "betrothal/betrothallaw16.WorldHolds", spec := "worldHolds", unfollowed := true, recurses := true, named := ["betrothal/channel.sides"], loops := true, apart := false, laid := [("betrothal/channel.sides", laid_betrothal_channel_sides)] }
def WorldHoldsSaid : Prop := worldHoldsRow.holds Tryz.pinned (OpenSpec.ofChange worldHoldsSpec)

/-- ITS FALSE NEIGHBOUR: 'it returns false'. Refute it at one input. -/
def worldHoldsWrong : ChangeSpec := { name := "worldHolds", fn := fun _ => fun
  | [d1, d2] => { results := [.lit (.bool false)], args := [d1, d2] }
  | _ => none }
def WorldHoldsWrongFalsely : Prop := worldHoldsRow.holds Tryz.pinned (OpenSpec.ofChange worldHoldsWrong)

/-- 'betrothallaw16.WorldCopies': WHATEVER THE INPUT: true; the input reads as it did. -/
def worldCopiesSpec : ChangeSpec := { name := "worldCopies", fn := fun _ => fun
  | [d1, d2] => { results := [.lit (.bool true)], args := [d1, d2] }
  | _ => none }
def worldCopiesRow : OpenClaim := { program := "ytddnnapoaonmjaagreatdoor", sum := "46e6f30fc3fde8f46efbf9d2ec7e46e878b799b3868db88cba64b2e5a3602775", func := "betrothal/betrothallaw16.WorldCopies", spec := "worldCopies", unfollowed := true, recurses := true, named := ["betrothal/channel.sides"], loops := true, apart := false, laid := [("betrothal/channel.sides", laid_betrothal_channel_sides)] }
def WorldCopiesSaid : Prop := worldCopiesRow.holds Tryz.pinned (OpenSpec.ofChange worldCopiesSpec)

/-- ITS FALSE NEIGHBOUR: 'it returns false'. Refute it at one input. -/
def worldCopiesWrong : ChangeSpec := { name := "worldCopies", fn := fun _ => fun
  | [d1, d2] => { results := [.lit (.bool false)], args := [d1, d2] }
  | _ => none }
def WorldCopiesWrongFalsely : Prop := worldCopiesRow.holds Tryz.pinned (OpenSpec.ofChange worldCopiesWrong)

/-- 'betrothallaw16.WorldNone': WHATEVER THE INPUT: true; the input reads as it did. -/
def worldNoneSpec : ChangeSpec := { name := "worldNone", fn := fun _ => fun
  | [d1, d2] => { results := [.lit (.bool true)], args := [d1, d2] }
  | _ => none }
def worldNoneRow : OpenClaim := { program := "ytddnnapoaonmjaagreatdoor", sum := "46e6f30fc3fde8f46efbf9d2ec7e46e878b799b3868db88cba64b2e5a3602775", func := "betrothal/betrothallaw16.WorldNone", spec := "worldNone", unfollowed := true, recurses := true, named := ["betrothal/channel.sides"], loops := true, apart := false, laid := [("betrothal/channel.sides", laid_betrothal_channel_sides)] }
def WorldNoneSaid : Prop := worldNoneRow.holds Tryz.pinned (OpenSpec.ofChange worldNoneSpec)

/-- ITS FALSE NEIGHBOUR: 'it returns false'. Refute it at one input. -/
def worldNoneWrong : ChangeSpec := { name := "worldNone", fn := fun _ => fun
  | [d1, d2] => { results := [.lit (.bool false)], args := [d1, d2] }
  | _ => none }
def WorldNoneWrongFalsely : Prop := worldNoneRow.holds Tryz.pinned (OpenSpec.ofChange worldNoneWrong)

/- THE SECOND FORM. 'bulk': how many values and letters a reading holds, each counted each time it is reached (what is shared counts as often as it is met; a slice's spare places count too). A statement '..UptoSaid' is the law's where the arguments, and the package variables that the reading takes, are together of bulk at most 1048576: NARROWER than '..Said'. Prove '..Said' where nothing that the law and all that it calls make is longer than what came in: it says more and counts as full. Else prove '..UptoSaid'. A law counts once. -/
mutual
def uptoBulk {H : Type} : DataW H → Nat
  | .lit (.string bytes) => bytes.length + 1
  | .lit _ => 1
  | .nil => 1
  | .ptr d => uptoBulk d + 1
  | .slice elems spare => uptoBulkAll elems + uptoBulkAll spare + 1
  | .agg parts => uptoBulkAll parts + 1
  | .iface _ d => uptoBulk d + 1
  | .map entries => uptoBulkEntries entries + 1
  | .held _ => 1
def uptoBulkAll {H : Type} : List (DataW H) → Nat
  | [] => 0
  | d :: r => uptoBulk d + uptoBulkAll r
def uptoBulkEntries {H : Type} : List (Lit × DataW H) → Nat
  | [] => 0
  | x :: r => uptoBulkEntry x + uptoBulkEntries r
def uptoBulkEntry {H : Type} : Lit × DataW H → Nat
  | (.string bytes, d) => bytes.length + uptoBulk d + 1
  | (_, d) => uptoBulk d + 1
 end
def uptoSmall : (H : Type) → List (DataW H) → Bool := fun _ ds => decide (uptoBulkAll ds ≤ 1048576)
def OpenSpec.upto (s : _root_.Go.ChangeSpec) : _root_.Go.OpenSpec := { _root_.Go.OpenSpec.ofChange s with cond := some uptoSmall }

/-- 'betrothallaw16.WorldHolds', WHERE WHAT IT READS IS OF BULK AT MOST 1048576: true; the input reads as it did. -/
def worldHoldsUptoRow : OpenClaim := { program := "ytddnnapoaonmjaagreatdoor", sum := "46e6f30fc3fde8f46efbf9d2ec7e46e878b799b3868db88cba64b2e5a3602775", func := "betrothal/betrothallaw16.WorldHolds", spec := "worldHolds", unfollowed := true, recurses := true, named := ["betrothal/channel.sides"], loops := true, apart := false, laid := [("betrothal/channel.sides", laid_betrothal_channel_sides)], narrowed := true }
def WorldHoldsUptoSaid : Prop := worldHoldsUptoRow.holds Tryz.pinned (OpenSpec.upto worldHoldsSpec)

/-- 'betrothallaw16.WorldCopies', WHERE WHAT IT READS IS OF BULK AT MOST 1048576: true; the input reads as it did. -/
def worldCopiesUptoRow : OpenClaim := { program := "ytddnnapoaonmjaagreatdoor", sum := "46e6f30fc3fde8f46efbf9d2ec7e46e878b799b3868db88cba64b2e5a3602775", func := "betrothal/betrothallaw16.WorldCopies", spec := "worldCopies", unfollowed := true, recurses := true, named := ["betrothal/channel.sides"], loops := true, apart := false, laid := [("betrothal/channel.sides", laid_betrothal_channel_sides)], narrowed := true }
def WorldCopiesUptoSaid : Prop := worldCopiesUptoRow.holds Tryz.pinned (OpenSpec.upto worldCopiesSpec)

/-- 'betrothallaw16.WorldNone', WHERE WHAT IT READS IS OF BULK AT MOST 1048576: true; the input reads as it did. -/
def worldNoneUptoRow : OpenClaim := { program := "ytddnnapoaonmjaagreatdoor", sum := "46e6f30fc3fde8f46efbf9d2ec7e46e878b799b3868db88cba64b2e5a3602775", func := "betrothal/betrothallaw16.WorldNone", spec := "worldNone", unfollowed := true, recurses := true, named := ["betrothal/channel.sides"], loops := true, apart := false, laid := [("betrothal/channel.sides", laid_betrothal_channel_sides)], narrowed := true }
def WorldNoneUptoSaid : Prop := worldNoneUptoRow.holds Tryz.pinned (OpenSpec.upto worldNoneSpec)

end Rows
end Go.Proofs.YtddnnapoaonmjaaGreatDoor
