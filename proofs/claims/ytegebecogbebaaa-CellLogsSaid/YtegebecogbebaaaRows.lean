/-
  No cell of these rows narrows 'for every input' (looked for: loops, veiled, ifaces, maps, wideKeys, modest, calm, conditions, laid).
  DERIVED. THE GIVEN ROWS OF THIS SEAT. 10 by the template 'for every input the law returns true; each argument reads behind the call as it read before'; 0 by the template 'total and deterministic' (their statements: YtegebecogbebaaaTotals.lean).
  GIVEN WITH THE SEED: the statements are not yours to turn. If you find one false, say at which input.
  Laid BY PROGRAM, IN A SANDBOX (cutbox-rows.mjs): the forced cells as the released guide's own fill.sh prints them over the translation 11c527baa544800a… (all of the seat's roots in one cut). By AI agents, Wed Nov 11 2026. No macro, syntax, notation, axiom, sorry.
-/
import Derived.Test.YtegebecogbebaaaChecked
import GoSem.Claim
import GoSem.ClaimJoined
import GoSem.ClaimMapViews
import Derived.JoinedTies
import Derived.KernelRfl
namespace Go.Proofs.Ytegebecogbebaaa
/- THE CELL 'sum', in the pinned program and in every row, IS THE sha256 OF THE DUMP (.gsa) THAT YtegebecogbebaaaProg.lean LOADS. Nothing in Lean hashes anything: it is a label: what it is worth is what the hold of that sum in a sandbox is worth. -/
noncomputable def Try.pinned : Pinned := { name := "ytegebecogbebaaa", sum := "11c527baa544800a37a6ed140f29a50627497a2743051391c1c6d75b3635ac91", checked := Try.checked }
namespace Rows
def none {H : Type} : Left H := { results := [], args := [] }

/-- 'betrothallaw03.SpinHolds': WHATEVER THE INPUT: true; the input reads as it did. -/
def spinHoldsSpec : ChangeSpec := { name := "spinHolds", fn := fun _ => fun
  | [d1, d2, d3] => { results := [.lit (.bool true)], args := [d1, d2, d3] }
  | _ => none }
def spinHoldsRow : OpenClaim := { program := "ytegebecogbebaaa", sum := "11c527baa544800a37a6ed140f29a50627497a2743051391c1c6d75b3635ac91", func := "betrothal/betrothallaw03.SpinHolds", spec := "spinHolds", unfollowed := true, recurses := true, apart := false }
def SpinHoldsSaid : Prop := spinHoldsRow.holds Try.pinned (OpenSpec.ofChange spinHoldsSpec)

/-- ITS FALSE NEIGHBOUR: 'it returns false'. Refute it at one input. -/
def spinHoldsWrong : ChangeSpec := { name := "spinHolds", fn := fun _ => fun
  | [d1, d2, d3] => { results := [.lit (.bool false)], args := [d1, d2, d3] }
  | _ => none }
def SpinHoldsWrongFalsely : Prop := spinHoldsRow.holds Try.pinned (OpenSpec.ofChange spinHoldsWrong)

/-- 'betrothallaw01.CellHolds': WHATEVER THE INPUT: true; the input reads as it did. -/
def cellHoldsSpec : ChangeSpec := { name := "cellHolds", fn := fun _ => fun
  | [d1, d2] => { results := [.lit (.bool true)], args := [d1, d2] }
  | _ => none }
def cellHoldsRow : OpenClaim := { program := "ytegebecogbebaaa", sum := "11c527baa544800a37a6ed140f29a50627497a2743051391c1c6d75b3635ac91", func := "betrothal/betrothallaw01.CellHolds", spec := "cellHolds", unfollowed := true, recurses := true, apart := false }
def CellHoldsSaid : Prop := cellHoldsRow.holds Try.pinned (OpenSpec.ofChange cellHoldsSpec)

/-- ITS FALSE NEIGHBOUR: 'it returns false'. Refute it at one input. -/
def cellHoldsWrong : ChangeSpec := { name := "cellHolds", fn := fun _ => fun
  | [d1, d2] => { results := [.lit (.bool false)], args := [d1, d2] }
  | _ => none }
def CellHoldsWrongFalsely : Prop := cellHoldsRow.holds Try.pinned (OpenSpec.ofChange cellHoldsWrong)

/-- 'betrothallaw01.CellLogs': WHATEVER THE INPUT: true; the input reads as it did. -/
def cellLogsSpec : ChangeSpec := { name := "cellLogs", fn := fun _ => fun
  | [d1, d2, d3] => { results := [.lit (.bool true)], args := [d1, d2, d3] }
  | _ => none }
def cellLogsRow : OpenClaim := { program := "ytegebecogbebaaa", sum := "11c527baa544800a37a6ed140f29a50627497a2743051391c1c6d75b3635ac91", func := "betrothal/betrothallaw01.CellLogs", spec := "cellLogs", unfollowed := true, recurses := true, apart := false }
def CellLogsSaid : Prop := cellLogsRow.holds Try.pinned (OpenSpec.ofChange cellLogsSpec)

/-- ITS FALSE NEIGHBOUR: 'it returns false'. Refute it at one input. -/
def cellLogsWrong : ChangeSpec := { name := "cellLogs", fn := fun _ => fun
  | [d1, d2, d3] => { results := [.lit (.bool false)], args := [d1, d2, d3] }
  | _ => none }
def CellLogsWrongFalsely : Prop := cellLogsRow.holds Try.pinned (OpenSpec.ofChange cellLogsWrong)

/-- 'betrothallaw03.SpinNone': WHATEVER THE INPUT: true; the input reads as it did. -/
def spinNoneSpec : ChangeSpec := { name := "spinNone", fn := fun _ => fun
  | [d1, d2, d3] => { results := [.lit (.bool true)], args := [d1, d2, d3] }
  | _ => none }
def spinNoneRow : OpenClaim := { program := "ytegebecogbebaaa", sum := "11c527baa544800a37a6ed140f29a50627497a2743051391c1c6d75b3635ac91", func := "betrothal/betrothallaw03.SpinNone", spec := "spinNone", unfollowed := true, recurses := true, apart := false }
def SpinNoneSaid : Prop := spinNoneRow.holds Try.pinned (OpenSpec.ofChange spinNoneSpec)

/-- ITS FALSE NEIGHBOUR: 'it returns false'. Refute it at one input. -/
def spinNoneWrong : ChangeSpec := { name := "spinNone", fn := fun _ => fun
  | [d1, d2, d3] => { results := [.lit (.bool false)], args := [d1, d2, d3] }
  | _ => none }
def SpinNoneWrongFalsely : Prop := spinNoneRow.holds Try.pinned (OpenSpec.ofChange spinNoneWrong)

/-- 'betrothallaw01.CellPlays': WHATEVER THE INPUT: true; the input reads as it did. -/
def cellPlaysSpec : ChangeSpec := { name := "cellPlays", fn := fun _ => fun
  | [d1, d2] => { results := [.lit (.bool true)], args := [d1, d2] }
  | _ => none }
def cellPlaysRow : OpenClaim := { program := "ytegebecogbebaaa", sum := "11c527baa544800a37a6ed140f29a50627497a2743051391c1c6d75b3635ac91", func := "betrothal/betrothallaw01.CellPlays", spec := "cellPlays", unfollowed := true, recurses := true, apart := false }
def CellPlaysSaid : Prop := cellPlaysRow.holds Try.pinned (OpenSpec.ofChange cellPlaysSpec)

/-- ITS FALSE NEIGHBOUR: 'it returns false'. Refute it at one input. -/
def cellPlaysWrong : ChangeSpec := { name := "cellPlays", fn := fun _ => fun
  | [d1, d2] => { results := [.lit (.bool false)], args := [d1, d2] }
  | _ => none }
def CellPlaysWrongFalsely : Prop := cellPlaysRow.holds Try.pinned (OpenSpec.ofChange cellPlaysWrong)

/-- 'betrothallaw01.CellNone': WHATEVER THE INPUT: true; the input reads as it did. -/
def cellNoneSpec : ChangeSpec := { name := "cellNone", fn := fun _ => fun
  | [d1, d2, d3, d4] => { results := [.lit (.bool true)], args := [d1, d2, d3, d4] }
  | _ => none }
def cellNoneRow : OpenClaim := { program := "ytegebecogbebaaa", sum := "11c527baa544800a37a6ed140f29a50627497a2743051391c1c6d75b3635ac91", func := "betrothal/betrothallaw01.CellNone", spec := "cellNone", unfollowed := true, recurses := true, apart := false }
def CellNoneSaid : Prop := cellNoneRow.holds Try.pinned (OpenSpec.ofChange cellNoneSpec)

/-- ITS FALSE NEIGHBOUR: 'it returns false'. Refute it at one input. -/
def cellNoneWrong : ChangeSpec := { name := "cellNone", fn := fun _ => fun
  | [d1, d2, d3, d4] => { results := [.lit (.bool false)], args := [d1, d2, d3, d4] }
  | _ => none }
def CellNoneWrongFalsely : Prop := cellNoneRow.holds Try.pinned (OpenSpec.ofChange cellNoneWrong)

/-- 'betrothallaw03.SpinPlays': WHATEVER THE INPUT: true; the input reads as it did. -/
def spinPlaysSpec : ChangeSpec := { name := "spinPlays", fn := fun _ => fun
  | [d1, d2] => { results := [.lit (.bool true)], args := [d1, d2] }
  | _ => none }
def spinPlaysRow : OpenClaim := { program := "ytegebecogbebaaa", sum := "11c527baa544800a37a6ed140f29a50627497a2743051391c1c6d75b3635ac91", func := "betrothal/betrothallaw03.SpinPlays", spec := "spinPlays", unfollowed := true, recurses := true, apart := false }
def SpinPlaysSaid : Prop := spinPlaysRow.holds Try.pinned (OpenSpec.ofChange spinPlaysSpec)

/-- ITS FALSE NEIGHBOUR: 'it returns false'. Refute it at one input. -/
def spinPlaysWrong : ChangeSpec := { name := "spinPlays", fn := fun _ => fun
  | [d1, d2] => { results := [.lit (.bool false)], args := [d1, d2] }
  | _ => none }
def SpinPlaysWrongFalsely : Prop := spinPlaysRow.holds Try.pinned (OpenSpec.ofChange spinPlaysWrong)

/-- 'betrothallaw12.FlagNone': WHATEVER THE INPUT: true; the input reads as it did. -/
def flagNoneSpec : ChangeSpec := { name := "flagNone", fn := fun _ => fun
  | [d1, d2] => { results := [.lit (.bool true)], args := [d1, d2] }
  | _ => none }
def flagNoneRow : OpenClaim := { program := "ytegebecogbebaaa", sum := "11c527baa544800a37a6ed140f29a50627497a2743051391c1c6d75b3635ac91", func := "betrothal/betrothallaw12.FlagNone", spec := "flagNone", unfollowed := true, recurses := true, apart := false }
def FlagNoneSaid : Prop := flagNoneRow.holds Try.pinned (OpenSpec.ofChange flagNoneSpec)

/-- ITS FALSE NEIGHBOUR: 'it returns false'. Refute it at one input. -/
def flagNoneWrong : ChangeSpec := { name := "flagNone", fn := fun _ => fun
  | [d1, d2] => { results := [.lit (.bool false)], args := [d1, d2] }
  | _ => none }
def FlagNoneWrongFalsely : Prop := flagNoneRow.holds Try.pinned (OpenSpec.ofChange flagNoneWrong)

/-- 'betrothallaw12.FlagHolds': WHATEVER THE INPUT: true; the input reads as it did. -/
def flagHoldsSpec : ChangeSpec := { name := "flagHolds", fn := fun _ => fun
  | [d] => { results := [.lit (.bool true)], args := [d] }
  | _ => none }
def flagHoldsRow : OpenClaim := { program := "ytegebecogbebaaa", sum := "11c527baa544800a37a6ed140f29a50627497a2743051391c1c6d75b3635ac91", func := "betrothal/betrothallaw12.FlagHolds", spec := "flagHolds", unfollowed := true, recurses := true, apart := false }
def FlagHoldsSaid : Prop := flagHoldsRow.holds Try.pinned (OpenSpec.ofChange flagHoldsSpec)

/-- ITS FALSE NEIGHBOUR: 'it returns false'. Refute it at one input. -/
def flagHoldsWrong : ChangeSpec := { name := "flagHolds", fn := fun _ => fun
  | [d] => { results := [.lit (.bool false)], args := [d] }
  | _ => none }
def FlagHoldsWrongFalsely : Prop := flagHoldsRow.holds Try.pinned (OpenSpec.ofChange flagHoldsWrong)

/-- 'betrothallaw12.FlagPlays': WHATEVER THE INPUT: true; the input reads as it did. -/
def flagPlaysSpec : ChangeSpec := { name := "flagPlays", fn := fun _ => fun
  | [d1, d2] => { results := [.lit (.bool true)], args := [d1, d2] }
  | _ => none }
def flagPlaysRow : OpenClaim := { program := "ytegebecogbebaaa", sum := "11c527baa544800a37a6ed140f29a50627497a2743051391c1c6d75b3635ac91", func := "betrothal/betrothallaw12.FlagPlays", spec := "flagPlays", unfollowed := true, recurses := true, apart := false }
def FlagPlaysSaid : Prop := flagPlaysRow.holds Try.pinned (OpenSpec.ofChange flagPlaysSpec)

/-- ITS FALSE NEIGHBOUR: 'it returns false'. Refute it at one input. -/
def flagPlaysWrong : ChangeSpec := { name := "flagPlays", fn := fun _ => fun
  | [d1, d2] => { results := [.lit (.bool false)], args := [d1, d2] }
  | _ => none }
def FlagPlaysWrongFalsely : Prop := flagPlaysRow.holds Try.pinned (OpenSpec.ofChange flagPlaysWrong)

/- THE SECOND FORM. 'bulk': how many values and letters a reading holds, each counted each time it is reached (what is shared counts as often as it is met; a slice's spare places count too). A statement '..UptoSaid' is the law's where the arguments, and the package variables that the reading takes, are together of bulk at most 1048576: NARROWER than '..Said'. Prove '..Said' where nothing that the law and all that it calls make is longer than what came in: it says more and counts as full. Else prove '..UptoSaid'. A law counts once. -/
mutual
def uptoBulk {H : Type} : DataW H → Nat
  | .lit (.string bytes) => bytes.length + 1
  | .lit _ => 1
  | .nil => 1
  | .ptr d => uptoBulk d + 1
  | .slice elems spare => uptoBulkAll elems + uptoBulkAll spare + 1
  | .agg parts => uptoBulkAll parts + 1
  | .iface _ d => uptoBulk d + 1
  | .map entries => uptoBulkEntries entries + 1
  | .held _ => 1
def uptoBulkAll {H : Type} : List (DataW H) → Nat
  | [] => 0
  | d :: r => uptoBulk d + uptoBulkAll r
def uptoBulkEntries {H : Type} : List (Lit × DataW H) → Nat
  | [] => 0
  | x :: r => uptoBulkEntry x + uptoBulkEntries r
def uptoBulkEntry {H : Type} : Lit × DataW H → Nat
  | (.string bytes, d) => bytes.length + uptoBulk d + 1
  | (_, d) => uptoBulk d + 1
 end
def uptoSmall : (H : Type) → List (DataW H) → Bool := fun _ ds => decide (uptoBulkAll ds ≤ 1048576)
def OpenSpec.upto (s : _root_.Go.ChangeSpec) : _root_.Go.OpenSpec := { _root_.Go.OpenSpec.ofChange s with cond := some uptoSmall }

/-- 'betrothallaw03.SpinHolds', WHERE WHAT IT READS IS OF BULK AT MOST 1048576: true; the input reads as it did. -/
def spinHoldsUptoRow : OpenClaim := { program := "ytegebecogbebaaa", sum := "11c527baa544800a37a6ed140f29a50627497a2743051391c1c6d75b3635ac91", func := "betrothal/betrothallaw03.SpinHolds", spec := "spinHolds", unfollowed := true, recurses := true, apart := false, narrowed := true }
def SpinHoldsUptoSaid : Prop := spinHoldsUptoRow.holds Try.pinned (OpenSpec.upto spinHoldsSpec)

/-- 'betrothallaw01.CellHolds', WHERE WHAT IT READS IS OF BULK AT MOST 1048576: true; the input reads as it did. -/
def cellHoldsUptoRow : OpenClaim := { program := "ytegebecogbebaaa", sum := "11c527baa544800a37a6ed140f29a50627497a2743051391c1c6d75b3635ac91", func := "betrothal/betrothallaw01.CellHolds", spec := "cellHolds", unfollowed := true, recurses := true, apart := false, narrowed := true }
def CellHoldsUptoSaid : Prop := cellHoldsUptoRow.holds Try.pinned (OpenSpec.upto cellHoldsSpec)

/-- 'betrothallaw01.CellLogs', WHERE WHAT IT READS IS OF BULK AT MOST 1048576: true; the input reads as it did. -/
def cellLogsUptoRow : OpenClaim := { program := "ytegebecogbebaaa", sum := "11c527baa544800a37a6ed140f29a50627497a2743051391c1c6d75b3635ac91", func := "betrothal/betrothallaw01.CellLogs", spec := "cellLogs", unfollowed := true, recurses := true, apart := false, narrowed := true }
def CellLogsUptoSaid : Prop := cellLogsUptoRow.holds Try.pinned (OpenSpec.upto cellLogsSpec)

/-- 'betrothallaw03.SpinNone', WHERE WHAT IT READS IS OF BULK AT MOST 1048576: true; the input reads as it did. -/
def spinNoneUptoRow : OpenClaim := { program := "ytegebecogbebaaa", sum := "11c527baa544800a37a6ed140f29a50627497a2743051391c1c6d75b3635ac91", func := "betrothal/betrothallaw03.SpinNone", spec := "spinNone", unfollowed := true, recurses := true, apart := false, narrowed := true }
def SpinNoneUptoSaid : Prop := spinNoneUptoRow.holds Try.pinned (OpenSpec.upto spinNoneSpec)

/-- 'betrothallaw01.CellPlays', WHERE WHAT IT READS IS OF BULK AT MOST 1048576: true; the input reads as it did. -/
def cellPlaysUptoRow : OpenClaim := { program := "ytegebecogbebaaa", sum := "11c527baa544800a37a6ed140f29a50627497a2743051391c1c6d75b3635ac91", func := "betrothal/betrothallaw01.CellPlays", spec := "cellPlays", unfollowed := true, recurses := true, apart := false, narrowed := true }
def CellPlaysUptoSaid : Prop := cellPlaysUptoRow.holds Try.pinned (OpenSpec.upto cellPlaysSpec)

/-- 'betrothallaw01.CellNone', WHERE WHAT IT READS IS OF BULK AT MOST 1048576: true; the input reads as it did. -/
def cellNoneUptoRow : OpenClaim := { program := "ytegebecogbebaaa", sum := "11c527baa544800a37a6ed140f29a50627497a2743051391c1c6d75b3635ac91", func := "betrothal/betrothallaw01.CellNone", spec := "cellNone", unfollowed := true, recurses := true, apart := false, narrowed := true }
def CellNoneUptoSaid : Prop := cellNoneUptoRow.holds Try.pinned (OpenSpec.upto cellNoneSpec)

/-- 'betrothallaw03.SpinPlays', WHERE WHAT IT READS IS OF BULK AT MOST 1048576: true; the input reads as it did. -/
def spinPlaysUptoRow : OpenClaim := { program := "ytegebecogbebaaa", sum := "11c527baa544800a37a6ed140f29a50627497a2743051391c1c6d75b3635ac91", func := "betrothal/betrothallaw03.SpinPlays", spec := "spinPlays", unfollowed := true, recurses := true, apart := false, narrowed := true }
def SpinPlaysUptoSaid : Prop := spinPlaysUptoRow.holds Try.pinned (OpenSpec.upto spinPlaysSpec)

/-- 'betrothallaw12.FlagNone', WHERE WHAT IT READS IS OF BULK AT MOST 1048576: true; the input reads as it did. -/
def flagNoneUptoRow : OpenClaim := { program := "ytegebecogbebaaa", sum := "11c527baa544800a37a6ed140f29a50627497a2743051391c1c6d75b3635ac91", func := "betrothal/betrothallaw12.FlagNone", spec := "flagNone", unfollowed := true, recurses := true, apart := false, narrowed := true }
def FlagNoneUptoSaid : Prop := flagNoneUptoRow.holds Try.pinned (OpenSpec.upto flagNoneSpec)

/-- 'betrothallaw12.FlagHolds', WHERE WHAT IT READS IS OF BULK AT MOST 1048576: true; the input reads as it did. -/
def flagHoldsUptoRow : OpenClaim := { program := "ytegebecogbebaaa", sum := "11c527baa544800a37a6ed140f29a50627497a2743051391c1c6d75b3635ac91", func := "betrothal/betrothallaw12.FlagHolds", spec := "flagHolds", unfollowed := true, recurses := true, apart := false, narrowed := true }
def FlagHoldsUptoSaid : Prop := flagHoldsUptoRow.holds Try.pinned (OpenSpec.upto flagHoldsSpec)

/-- 'betrothallaw12.FlagPlays', WHERE WHAT IT READS IS OF BULK AT MOST 1048576: true; the input reads as it did. -/
def flagPlaysUptoRow : OpenClaim := { program := "ytegebecogbebaaa", sum := "11c527baa544800a37a6ed140f29a50627497a2743051391c1c6d75b3635ac91", func := "betrothal/betrothallaw12.FlagPlays", spec := "flagPlays", unfollowed := true, recurses := true, apart := false, narrowed := true }
def FlagPlaysUptoSaid : Prop := flagPlaysUptoRow.holds Try.pinned (OpenSpec.upto flagPlaysSpec)

end Rows
end Go.Proofs.Ytegebecogbebaaa
