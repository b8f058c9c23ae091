/-
  act of law 03 (betrothallaw03/law.go): Tries.
-/
import Derived.Test.YtegebecogbebaaaAct03d
import Derived.Test.YtegebecogbebaaaRangeTriesL
import Derived.Test.YtegebecogbebaaaRangeTries
import Derived.Test.YtegebecogbebaaaExT
import Derived.Test.YtegebecogbebaaaLedRet
import Derived.Test.YtegebecogbebaaaAppendIn
import Derived.Test.YtegebecogbebaaaQuietRound
import Derived.RegionIn
import Derived.BigRegionIn
import Derived.Sort.QuietIn
namespace Go.Proofs.Ytegebecogbebaaa
open Go.RowKit Go.Shelf
set_option maxRecDepth 100000
set_option linter.unusedVariables false
set_option linter.unusedSimpArgs false
attribute [local go_sem] Oper.semAt_some

theorem TriesFin.unique {d : Nat → Bool} {er : Nat → Nat} {most : Int} {b b' : Nat × Bool} (h : TriesFin d er most b) (h' : TriesFin d er most b') : b = b' := by
  rcases h with ⟨rfl, h1⟩ | ⟨k, rfl, h1, h2, h3, h4⟩ | ⟨h1, h2, h3, h4⟩
  · rcases h' with ⟨rfl, _⟩ | ⟨k', rfl, g1, g2, g3, g4⟩ | ⟨g1, g2, g3, g4⟩
    · rfl
    · have := (h1 k' (by simp; omega)).1; rw [g3] at this; cases this
    · have := (h1 b'.1 (by simp; omega)).2; exact absurd this g4
  · rcases h' with ⟨rfl, g⟩ | ⟨k', rfl, g1, g2, g3, g4⟩ | ⟨g1, g2, g3, g4⟩
    · have := (g k (by simp; omega)).1; rw [h3] at this; cases this
    · rcases Nat.lt_trichotomy k k' with hh | hh | hh
      · have := (g2 k hh).1; rw [h3] at this; cases this
      · rw [hh]
      · have := (h2 k' hh).1; rw [g3] at this; cases this
    · rcases Nat.lt_trichotomy k b'.1 with hh | hh | hh
      · have := (g3 k hh).1; rw [h3] at this; cases this
      · rw [hh] at h4; exact absurd h4 g4
      · exact absurd (h2 b'.1 hh).2 g4
  · rcases h' with ⟨rfl, g⟩ | ⟨k', rfl, g1, g2, g3, g4⟩ | ⟨g1, g2, g3, g4⟩
    · exact absurd (g b.1 (by simp; omega)).2 h4
    · rcases Nat.lt_trichotomy k' b.1 with hh | hh | hh
      · have := (h3 k' hh).1; rw [g3] at this; cases this
      · rw [hh] at g4; exact absurd g4 h4
      · exact absurd (g2 b.1 hh).2 h4
    · obtain ⟨x, y⟩ := b
      obtain ⟨x', y'⟩ := b'
      simp only at *
      subst h1 g1
      rcases Nat.lt_trichotomy x x' with hh | hh | hh
      · exact absurd (g3 x hh).2 h4
      · rw [hh]
      · exact absurd (h3 x' hh).2 g4
theorem tryS_fin {s : Ar} {at_ most : Int} {b : Nat × Bool} (h : TriesFin (tryD s at_) (tryE s at_) most b) : tryS s at_ (b.1 + cond b.2 1 0) = tryS s at_ b.1 := by
  rcases h with ⟨rfl, _⟩ | ⟨k, rfl, _⟩ | ⟨h1, h2, h3, h4⟩
  · rfl
  · rfl
  · by_cases hat : 0 ≤ at_ ∧ at_ < (s.C.length : Int)
    · exact absurd (tryE_in s at_ _ hat) h4
    · rw [tryS_out s at_ _ hat, tryS_out s at_ _ hat]
theorem TriesFin.le {d : Nat → Bool} {er : Nat → Nat} {most : Int} {b : Nat × Bool} (h : TriesFin d er most b) : b.1 ≤ most.toNat := by
  rcases h with ⟨rfl, _⟩ | ⟨k, rfl, h1, _⟩ | ⟨_, h2, _⟩
  · exact Nat.le_refl _
  · simp; omega
  · omega
theorem Led.rTr {T : List Nat} {w0 w : World} {l : List Thing} {vc vl : Value} {s : Ar} {at_ most : Int} (h : Led T w0 w l) (i : Nat) (hi : l[i]? = some (refT vc vl s)) (hm : most ≤ 1000) (hL : s.L.length ≤ 1000000) :
    Calls Try.prog 71 #[.agg #[vc, .int .i64 (s.most : Int), vl], .int .i64 at_, .int .i64 most] w fun e w' => ∃ vc' vl' aa cp b, e = .returned (.tuple #[.agg #[vc', .int .i64 (s.most : Int), vl'], .slice aa b.1 cp]) ∧ TriesFin (tryD s at_) (tryE s at_) most b ∧ Led T w0 w' (l.set i (refT vc' vl' (tryS s at_ b.1)) ++ [Proofs.Ytegebecogbebaaa.row 4 1 (.slice aa b.1 cp) b.1 (boolVs (tryL s at_ b.1))]) := by
  obtain ⟨T', hA, hB⟩ := h.frameR i hi
  refine (rTries T' w vc vl s at_ most hm hL hA).mono ?_
  rintro e w' ⟨vc', vl', aa, cp, b, rfl, hF, h2⟩
  exact ⟨vc', vl', aa, cp, b, rfl, hF, hB _ _ _ h2⟩
/-- The box of a slice of booleans, and its row. -/
def allT (b : Nat) (l : List Bool) : Thing := exT fun x : Option Addr × Nat => pairT (box b 67 #[.slice x.1 l.length x.2]) (row 4 1 (.slice x.1 l.length x.2) l.length (boolVs l))
end Go.Proofs.Ytegebecogbebaaa
