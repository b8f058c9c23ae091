/-
  NARROWER THAN 'FOR EVERY INPUT', by the rows' own cells (each row's printed sentence says how): QueueFull: loops · QueueSame: loops · QueuePlays: loops · QueueCopies: loops · CondNone: loops · CondCopies: loops.
  DERIVED. THE GIVEN ROWS OF THIS SEAT. 8 by the template 'for every input the law returns true; each argument reads behind the call as it read before'; 0 by the template 'total and deterministic' (their statements: YtihmbgdkllmkaaaTotals.lean).
  GIVEN WITH THE SEED: the statements are not yours to turn. If you find one false, say at which input.
  Laid BY PROGRAM, IN A SANDBOX (cutbox-rows.mjs): the forced cells as the released guide's own fill.sh prints them over the translation 3f1768701bdf6d30… (all of the seat's roots in one cut). By AI agents, Wed Nov 11 2026. No macro, syntax, notation, axiom, sorry.
-/
import Derived.Test.YtihmbgdkllmkaaaChecked
import GoSem.Claim
import GoSem.ClaimJoined
import GoSem.ClaimMapViews
import Derived.JoinedTies
import Derived.KernelRfl
namespace Go.Proofs.Ytihmbgdkllmkaaa
/- THE CELL 'sum', in the pinned program and in every row, IS THE sha256 OF THE DUMP (.gsa) THAT YtihmbgdkllmkaaaProg.lean LOADS. Nothing in Lean hashes anything: it is a label: what it is worth is what the hold of that sum in a sandbox is worth. -/
noncomputable def Try.pinned : Pinned := { name := "ytihmbgdkllmkaaa", sum := "3f1768701bdf6d30b0eca4b6baf9de6eac08f398efe4410638413328fe8aeb80", checked := Try.checked }
namespace Rows
def none {H : Type} : Left H := { results := [], args := [] }

/-- 'betrothallaw13.QueueFull': WHATEVER THE INPUT: true; the input reads as it did. -/
def queueFullSpec : ChangeSpec := { name := "queueFull", fn := fun _ => fun
  | [d1, d2] => { results := [.lit (.bool true)], args := [d1, d2] }
  | _ => none }
def queueFullRow : OpenClaim := { program := "ytihmbgdkllmkaaa", sum := "3f1768701bdf6d30b0eca4b6baf9de6eac08f398efe4410638413328fe8aeb80", func := "betrothal/betrothallaw13.QueueFull", spec := "queueFull", unfollowed := true, recurses := true, loops := true, apart := false }
def QueueFullSaid : Prop := queueFullRow.holds Try.pinned (OpenSpec.ofChange queueFullSpec)

/-- ITS FALSE NEIGHBOUR: 'it returns false'. Refute it at one input. -/
def queueFullWrong : ChangeSpec := { name := "queueFull", fn := fun _ => fun
  | [d1, d2] => { results := [.lit (.bool false)], args := [d1, d2] }
  | _ => none }
def QueueFullWrongFalsely : Prop := queueFullRow.holds Try.pinned (OpenSpec.ofChange queueFullWrong)

/-- 'betrothallaw13.QueueSame': WHATEVER THE INPUT: true; the input reads as it did. -/
def queueSameSpec : ChangeSpec := { name := "queueSame", fn := fun _ => fun
  | [d1, d2] => { results := [.lit (.bool true)], args := [d1, d2] }
  | _ => none }
def queueSameRow : OpenClaim := { program := "ytihmbgdkllmkaaa", sum := "3f1768701bdf6d30b0eca4b6baf9de6eac08f398efe4410638413328fe8aeb80", func := "betrothal/betrothallaw13.QueueSame", spec := "queueSame", unfollowed := true, recurses := true, loops := true, apart := false }
def QueueSameSaid : Prop := queueSameRow.holds Try.pinned (OpenSpec.ofChange queueSameSpec)

/-- ITS FALSE NEIGHBOUR: 'it returns false'. Refute it at one input. -/
def queueSameWrong : ChangeSpec := { name := "queueSame", fn := fun _ => fun
  | [d1, d2] => { results := [.lit (.bool false)], args := [d1, d2] }
  | _ => none }
def QueueSameWrongFalsely : Prop := queueSameRow.holds Try.pinned (OpenSpec.ofChange queueSameWrong)

/-- 'betrothallaw13.QueueHolds': WHATEVER THE INPUT: true; the input reads as it did. -/
def queueHoldsSpec : ChangeSpec := { name := "queueHolds", fn := fun _ => fun
  | [d] => { results := [.lit (.bool true)], args := [d] }
  | _ => none }
def queueHoldsRow : OpenClaim := { program := "ytihmbgdkllmkaaa", sum := "3f1768701bdf6d30b0eca4b6baf9de6eac08f398efe4410638413328fe8aeb80", func := "betrothal/betrothallaw13.QueueHolds", spec := "queueHolds", unfollowed := true, recurses := true, apart := false }
def QueueHoldsSaid : Prop := queueHoldsRow.holds Try.pinned (OpenSpec.ofChange queueHoldsSpec)

/-- ITS FALSE NEIGHBOUR: 'it returns false'. Refute it at one input. -/
def queueHoldsWrong : ChangeSpec := { name := "queueHolds", fn := fun _ => fun
  | [d] => { results := [.lit (.bool false)], args := [d] }
  | _ => none }
def QueueHoldsWrongFalsely : Prop := queueHoldsRow.holds Try.pinned (OpenSpec.ofChange queueHoldsWrong)

/-- 'betrothallaw13.QueuePlays': WHATEVER THE INPUT: true; the input reads as it did. -/
def queuePlaysSpec : ChangeSpec := { name := "queuePlays", fn := fun _ => fun
  | [d1, d2, d3] => { results := [.lit (.bool true)], args := [d1, d2, d3] }
  | _ => none }
def queuePlaysRow : OpenClaim := { program := "ytihmbgdkllmkaaa", sum := "3f1768701bdf6d30b0eca4b6baf9de6eac08f398efe4410638413328fe8aeb80", func := "betrothal/betrothallaw13.QueuePlays", spec := "queuePlays", unfollowed := true, recurses := true, loops := true, apart := false }
def QueuePlaysSaid : Prop := queuePlaysRow.holds Try.pinned (OpenSpec.ofChange queuePlaysSpec)

/-- ITS FALSE NEIGHBOUR: 'it returns false'. Refute it at one input. -/
def queuePlaysWrong : ChangeSpec := { name := "queuePlays", fn := fun _ => fun
  | [d1, d2, d3] => { results := [.lit (.bool false)], args := [d1, d2, d3] }
  | _ => none }
def QueuePlaysWrongFalsely : Prop := queuePlaysRow.holds Try.pinned (OpenSpec.ofChange queuePlaysWrong)

/-- 'betrothallaw13.QueueCopies': WHATEVER THE INPUT: true; the input reads as it did. -/
def queueCopiesSpec : ChangeSpec := { name := "queueCopies", fn := fun _ => fun
  | [d1, d2, d3] => { results := [.lit (.bool true)], args := [d1, d2, d3] }
  | _ => none }
def queueCopiesRow : OpenClaim := { program := "ytihmbgdkllmkaaa", sum := "3f1768701bdf6d30b0eca4b6baf9de6eac08f398efe4410638413328fe8aeb80", func := "betrothal/betrothallaw13.QueueCopies", spec := "queueCopies", unfollowed := true, recurses := true, loops := true, apart := false }
def QueueCopiesSaid : Prop := queueCopiesRow.holds Try.pinned (OpenSpec.ofChange queueCopiesSpec)

/-- ITS FALSE NEIGHBOUR: 'it returns false'. Refute it at one input. -/
def queueCopiesWrong : ChangeSpec := { name := "queueCopies", fn := fun _ => fun
  | [d1, d2, d3] => { results := [.lit (.bool false)], args := [d1, d2, d3] }
  | _ => none }
def QueueCopiesWrongFalsely : Prop := queueCopiesRow.holds Try.pinned (OpenSpec.ofChange queueCopiesWrong)

/-- 'betrothallaw15.CondHolds': WHATEVER THE INPUT: true; the input reads as it did. -/
def condHoldsSpec : ChangeSpec := { name := "condHolds", fn := fun _ => fun
  | [d] => { results := [.lit (.bool true)], args := [d] }
  | _ => none }
def condHoldsRow : OpenClaim := { program := "ytihmbgdkllmkaaa", sum := "3f1768701bdf6d30b0eca4b6baf9de6eac08f398efe4410638413328fe8aeb80", func := "betrothal/betrothallaw15.CondHolds", spec := "condHolds", unfollowed := true, recurses := true, apart := false }
def CondHoldsSaid : Prop := condHoldsRow.holds Try.pinned (OpenSpec.ofChange condHoldsSpec)

/-- ITS FALSE NEIGHBOUR: 'it returns false'. Refute it at one input. -/
def condHoldsWrong : ChangeSpec := { name := "condHolds", fn := fun _ => fun
  | [d] => { results := [.lit (.bool false)], args := [d] }
  | _ => none }
def CondHoldsWrongFalsely : Prop := condHoldsRow.holds Try.pinned (OpenSpec.ofChange condHoldsWrong)

/-- 'betrothallaw15.CondNone': WHATEVER THE INPUT: true; the input reads as it did. -/
def condNoneSpec : ChangeSpec := { name := "condNone", fn := fun _ => fun
  | [d1, d2] => { results := [.lit (.bool true)], args := [d1, d2] }
  | _ => none }
def condNoneRow : OpenClaim := { program := "ytihmbgdkllmkaaa", sum := "3f1768701bdf6d30b0eca4b6baf9de6eac08f398efe4410638413328fe8aeb80", func := "betrothal/betrothallaw15.CondNone", spec := "condNone", unfollowed := true, recurses := true, loops := true, apart := false }
def CondNoneSaid : Prop := condNoneRow.holds Try.pinned (OpenSpec.ofChange condNoneSpec)

/-- ITS FALSE NEIGHBOUR: 'it returns false'. Refute it at one input. -/
def condNoneWrong : ChangeSpec := { name := "condNone", fn := fun _ => fun
  | [d1, d2] => { results := [.lit (.bool false)], args := [d1, d2] }
  | _ => none }
def CondNoneWrongFalsely : Prop := condNoneRow.holds Try.pinned (OpenSpec.ofChange condNoneWrong)

/-- 'betrothallaw15.CondCopies': WHATEVER THE INPUT: true; the input reads as it did. -/
def condCopiesSpec : ChangeSpec := { name := "condCopies", fn := fun _ => fun
  | [d1, d2] => { results := [.lit (.bool true)], args := [d1, d2] }
  | _ => none }
def condCopiesRow : OpenClaim := { program := "ytihmbgdkllmkaaa", sum := "3f1768701bdf6d30b0eca4b6baf9de6eac08f398efe4410638413328fe8aeb80", func := "betrothal/betrothallaw15.CondCopies", spec := "condCopies", unfollowed := true, recurses := true, loops := true, apart := false }
def CondCopiesSaid : Prop := condCopiesRow.holds Try.pinned (OpenSpec.ofChange condCopiesSpec)

/-- ITS FALSE NEIGHBOUR: 'it returns false'. Refute it at one input. -/
def condCopiesWrong : ChangeSpec := { name := "condCopies", fn := fun _ => fun
  | [d1, d2] => { results := [.lit (.bool false)], args := [d1, d2] }
  | _ => none }
def CondCopiesWrongFalsely : Prop := condCopiesRow.holds Try.pinned (OpenSpec.ofChange condCopiesWrong)

/- THE SECOND FORM. 'bulk': how many values and letters a reading holds, each counted each time it is reached (what is shared counts as often as it is met; a slice's spare places count too). A statement '..UptoSaid' is the law's where the arguments, and the package variables that the reading takes, are together of bulk at most 1048576: NARROWER than '..Said'. Prove '..Said' where nothing that the law and all that it calls make is longer than what came in: it says more and counts as full. Else prove '..UptoSaid'. A law counts once. -/
mutual
def uptoBulk {H : Type} : DataW H → Nat
  | .lit (.string bytes) => bytes.length + 1
  | .lit _ => 1
  | .nil => 1
  | .ptr d => uptoBulk d + 1
  | .slice elems spare => uptoBulkAll elems + uptoBulkAll spare + 1
  | .agg parts => uptoBulkAll parts + 1
  | .iface _ d => uptoBulk d + 1
  | .map entries => uptoBulkEntries entries + 1
  | .held _ => 1
def uptoBulkAll {H : Type} : List (DataW H) → Nat
  | [] => 0
  | d :: r => uptoBulk d + uptoBulkAll r
def uptoBulkEntries {H : Type} : List (Lit × DataW H) → Nat
  | [] => 0
  | x :: r => uptoBulkEntry x + uptoBulkEntries r
def uptoBulkEntry {H : Type} : Lit × DataW H → Nat
  | (.string bytes, d) => bytes.length + uptoBulk d + 1
  | (_, d) => uptoBulk d + 1
 end
def uptoSmall : (H : Type) → List (DataW H) → Bool := fun _ ds => decide (uptoBulkAll ds ≤ 1048576)
def OpenSpec.upto (s : _root_.Go.ChangeSpec) : _root_.Go.OpenSpec := { _root_.Go.OpenSpec.ofChange s with cond := some uptoSmall }

/-- 'betrothallaw13.QueueFull', WHERE WHAT IT READS IS OF BULK AT MOST 1048576: true; the input reads as it did. -/
def queueFullUptoRow : OpenClaim := { program := "ytihmbgdkllmkaaa", sum := "3f1768701bdf6d30b0eca4b6baf9de6eac08f398efe4410638413328fe8aeb80", func := "betrothal/betrothallaw13.QueueFull", spec := "queueFull", unfollowed := true, recurses := true, loops := true, apart := false, narrowed := true }
def QueueFullUptoSaid : Prop := queueFullUptoRow.holds Try.pinned (OpenSpec.upto queueFullSpec)

/-- 'betrothallaw13.QueueSame', WHERE WHAT IT READS IS OF BULK AT MOST 1048576: true; the input reads as it did. -/
def queueSameUptoRow : OpenClaim := { program := "ytihmbgdkllmkaaa", sum := "3f1768701bdf6d30b0eca4b6baf9de6eac08f398efe4410638413328fe8aeb80", func := "betrothal/betrothallaw13.QueueSame", spec := "queueSame", unfollowed := true, recurses := true, loops := true, apart := false, narrowed := true }
def QueueSameUptoSaid : Prop := queueSameUptoRow.holds Try.pinned (OpenSpec.upto queueSameSpec)

/-- 'betrothallaw13.QueueHolds', WHERE WHAT IT READS IS OF BULK AT MOST 1048576: true; the input reads as it did. -/
def queueHoldsUptoRow : OpenClaim := { program := "ytihmbgdkllmkaaa", sum := "3f1768701bdf6d30b0eca4b6baf9de6eac08f398efe4410638413328fe8aeb80", func := "betrothal/betrothallaw13.QueueHolds", spec := "queueHolds", unfollowed := true, recurses := true, apart := false, narrowed := true }
def QueueHoldsUptoSaid : Prop := queueHoldsUptoRow.holds Try.pinned (OpenSpec.upto queueHoldsSpec)

/-- 'betrothallaw13.QueuePlays', WHERE WHAT IT READS IS OF BULK AT MOST 1048576: true; the input reads as it did. -/
def queuePlaysUptoRow : OpenClaim := { program := "ytihmbgdkllmkaaa", sum := "3f1768701bdf6d30b0eca4b6baf9de6eac08f398efe4410638413328fe8aeb80", func := "betrothal/betrothallaw13.QueuePlays", spec := "queuePlays", unfollowed := true, recurses := true, loops := true, apart := false, narrowed := true }
def QueuePlaysUptoSaid : Prop := queuePlaysUptoRow.holds Try.pinned (OpenSpec.upto queuePlaysSpec)

/-- 'betrothallaw13.QueueCopies', WHERE WHAT IT READS IS OF BULK AT MOST 1048576: true; the input reads as it did. -/
def queueCopiesUptoRow : OpenClaim := { program := "ytihmbgdkllmkaaa", sum := "3f1768701bdf6d30b0eca4b6baf9de6eac08f398efe4410638413328fe8aeb80", func := "betrothal/betrothallaw13.QueueCopies", spec := "queueCopies", unfollowed := true, recurses := true, loops := true, apart := false, narrowed := true }
def QueueCopiesUptoSaid : Prop := queueCopiesUptoRow.holds Try.pinned (OpenSpec.upto queueCopiesSpec)

/-- 'betrothallaw15.CondHolds', WHERE WHAT IT READS IS OF BULK AT MOST 1048576: true; the input reads as it did. -/
def condHoldsUptoRow : OpenClaim := { program := "ytihmbgdkllmkaaa", sum := "3f1768701bdf6d30b0eca4b6baf9de6eac08f398efe4410638413328fe8aeb80", func := "betrothal/betrothallaw15.CondHolds", spec := "condHolds", unfollowed := true, recurses := true, apart := false, narrowed := true }
def CondHoldsUptoSaid : Prop := condHoldsUptoRow.holds Try.pinned (OpenSpec.upto condHoldsSpec)

/-- 'betrothallaw15.CondNone', WHERE WHAT IT READS IS OF BULK AT MOST 1048576: true; the input reads as it did. -/
def condNoneUptoRow : OpenClaim := { program := "ytihmbgdkllmkaaa", sum := "3f1768701bdf6d30b0eca4b6baf9de6eac08f398efe4410638413328fe8aeb80", func := "betrothal/betrothallaw15.CondNone", spec := "condNone", unfollowed := true, recurses := true, loops := true, apart := false, narrowed := true }
def CondNoneUptoSaid : Prop := condNoneUptoRow.holds Try.pinned (OpenSpec.upto condNoneSpec)

/-- 'betrothallaw15.CondCopies', WHERE WHAT IT READS IS OF BULK AT MOST 1048576: true; the input reads as it did. -/
def condCopiesUptoRow : OpenClaim := { program := "ytihmbgdkllmkaaa", sum := "3f1768701bdf6d30b0eca4b6baf9de6eac08f398efe4410638413328fe8aeb80", func := "betrothal/betrothallaw15.CondCopies", spec := "condCopies", unfollowed := true, recurses := true, loops := true, apart := false, narrowed := true }
def CondCopiesUptoSaid : Prop := condCopiesUptoRow.holds Try.pinned (OpenSpec.upto condCopiesSpec)

end Rows
end Go.Proofs.Ytihmbgdkllmkaaa
