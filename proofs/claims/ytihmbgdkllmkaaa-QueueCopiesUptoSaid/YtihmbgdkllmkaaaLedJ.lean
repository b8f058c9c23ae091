/-
  The ledger: what a callee made beside what was there. No program is in sight.
-/
import Derived.Test.YtihmbgdkllmkaaaLedC
namespace Go.Proofs.Ytihmbgdkllmkaaa
open Go.RowKit
set_option linter.unusedVariables false
section
variable {T : List Nat} {w0 w w' : World} {l l' : List Thing}
theorem Led.reindex (h : Led T w0 w l) (σ : Nat → Nat) (h1 : ∀ i t, l'[i]? = some t → l[σ i]? = some t) (h2 : ∀ i j, i < l'.length → j < l'.length → σ i = σ j → i = j) : Led T w0 w l' := by
  obtain ⟨hb, F, g1, g2⟩ := h
  refine ⟨hb, fun i => F (σ i), fun i t hi => g1 _ t (h1 i t hi), fun i j hi hj hij => ?_⟩
  have e1 := h1 i _ (List.getElem?_eq_getElem hi)
  have e2 := h1 j _ (List.getElem?_eq_getElem hj)
  exact g2 _ _ (List.getElem?_eq_some_iff.1 e1).1 (List.getElem?_eq_some_iff.1 e2).1 (fun e => hij (h2 i j hi hj e))
theorem Led.swapEnd {a b c : List Thing} (h : Led T w0 w (a ++ b ++ c)) : Led T w0 w (a ++ c ++ b) := by
  refine h.reindex (fun i => if i < a.length then i else if i < a.length + c.length then i + b.length else i - c.length) ?_ ?_
  · intro i t hi
    have hl := (List.getElem?_eq_some_iff.1 hi).1
    simp only [List.length_append] at hl
    by_cases h1 : i < a.length
    · rw [if_pos h1]
      rw [List.append_assoc, List.getElem?_append_left h1] at hi
      rw [List.append_assoc, List.getElem?_append_left h1]
      exact hi
    · rw [if_neg h1]
      rw [List.append_assoc, List.getElem?_append_right (by omega)] at hi
      by_cases h2 : i < a.length + c.length
      · rw [if_pos h2]
        rw [List.getElem?_append_left (by omega)] at hi
        rw [List.append_assoc, List.getElem?_append_right (by omega), List.getElem?_append_right (by omega)]
        rw [show i + b.length - a.length - b.length = i - a.length from by omega]
        exact hi
      · rw [if_neg h2]
        rw [List.getElem?_append_right (by omega)] at hi
        rw [List.append_assoc, List.getElem?_append_right (by omega), List.getElem?_append_left (by omega)]
        rw [show i - c.length - a.length = i - a.length - c.length from by omega]
        exact hi
  · intro i j hi hj
    simp only [List.length_append] at hi hj
    repeat' split
    all_goals omega
theorem Led.join {m : List Thing} (h : Led T w0 w l) (h' : Led [] w w' m) : Led T w0 w' (l ++ m) := by
  have hz := h.size
  obtain ⟨hb, F, g1, g2⟩ := h
  obtain ⟨hb', F', g1', g2'⟩ := h'
  have hnew : ∀ j, j < m.length → ∀ x ∈ F' j, w.heap.size ≤ x := fun j hj x hx => ((g1' j _ (List.getElem?_eq_getElem hj)).2 x hx).elim (fun h => by simp at h) id
  have hold : ∀ j, j < l.length → ∀ x ∈ F j, x < w.heap.size := fun j hj x hx => l[j].lt (g1 j l[j] (List.getElem?_eq_getElem hj)).1 x hx
  refine ⟨hb.trans hb' (by simp), fun j => if j < l.length then F j else F' (j - l.length), ?_, ?_⟩
  · intro j u hj
    by_cases hjl : j < l.length
    · rw [List.getElem?_append_left hjl] at hj
      simp only [if_pos hjl]
      exact ⟨u.keep (g1 j u hj).1 (fun k hk => hb'.block k (u.lt (g1 j u hj).1 k hk) (by simp)), (g1 j u hj).2⟩
    · rw [List.getElem?_append_right (by omega)] at hj
      simp only [if_neg hjl]
      have hj' := (List.getElem?_eq_some_iff.1 hj).1
      exact ⟨(g1' _ u hj).1, fun k hk => .inr (by have := hnew _ hj' k hk; omega)⟩
  · intro i j hi hj hij x hx hx2
    dsimp only at hx hx2
    simp only [List.length_append] at hi hj
    by_cases h1 : i < l.length
    · rw [if_pos h1] at hx
      by_cases h2 : j < l.length
      · rw [if_pos h2] at hx2; exact g2 i j h1 h2 hij x hx hx2
      · rw [if_neg h2] at hx2
        have := hnew _ (by omega) x hx2
        have := hold i h1 x hx
        omega
    · rw [if_neg h1] at hx
      by_cases h2 : j < l.length
      · rw [if_pos h2] at hx2
        have := hnew _ (by omega) x hx
        have := hold j h2 x hx2
        omega
      · rw [if_neg h2] at hx2
        exact g2' _ _ (by omega) (by omega) (by omega) x hx hx2
end
end Go.Proofs.Ytihmbgdkllmkaaa
