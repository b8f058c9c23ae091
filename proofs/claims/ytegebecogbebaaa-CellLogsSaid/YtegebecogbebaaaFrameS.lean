/-
  The frame of the last things of a ledger.
-/
import Derived.Test.YtegebecogbebaaaLed
namespace Go.Proofs.Ytegebecogbebaaa
open Go.RowKit
set_option maxRecDepth 100000
set_option linter.unusedVariables false

theorem Led.frameS {T : List Nat} {w0 w : World} {l1 ts : List Thing} (h : Led T w0 w (l1 ++ ts)) : ∃ T', Led T' w w ts ∧ ∀ w' ts', Led T' w w' ts' → Led T w0 w' (l1 ++ ts') := by
  have hz := h.size
  obtain ⟨hb, F, h1, h2⟩ := h
  have hT : ∀ m, m < ts.length → ∀ k ∈ F (l1.length + m), k ∈ (List.range ts.length).flatMap (fun i => F (l1.length + i)) := fun m hm k hk => List.mem_flatMap.2 ⟨m, List.mem_range.2 hm, hk⟩
  have hT' : ∀ k ∈ (List.range ts.length).flatMap (fun i => F (l1.length + i)), ∃ m, m < ts.length ∧ k ∈ F (l1.length + m) := fun k hk => by
    obtain ⟨m, hm, hk⟩ := List.mem_flatMap.1 hk
    exact ⟨m, List.mem_range.1 hm, hk⟩
  have hl1 : ∀ m, m < l1.length → ∀ x ∈ F m, x ∉ (List.range ts.length).flatMap (fun i => F (l1.length + i)) := fun m hm x hx hc => by
    obtain ⟨n, hn, hc⟩ := hT' x hc
    exact h2 m (l1.length + n) (by simp; omega) (by simp; omega) (by omega) x hx hc
  have hold : ∀ m, m < (l1 ++ ts).length → ∀ k ∈ F m, k ∈ T ∨ w0.heap.size ≤ k := fun m hm k hk => (h1 m _ (List.getElem?_eq_getElem hm)).2 k hk
  refine ⟨(List.range ts.length).flatMap (fun i => F (l1.length + i)), ⟨Touch.refl _ _, fun m => F (l1.length + m), ?_, ?_⟩, ?_⟩
  · intro m u hm
    have hm' := (List.getElem?_eq_some_iff.1 hm).1
    obtain ⟨a, b⟩ := h1 (l1.length + m) u (by rw [List.getElem?_append_right (by omega)]; simpa using hm)
    exact ⟨a, fun k hk => .inl (hT m hm' k hk)⟩
  · intro m n hm hn hmn
    exact h2 _ _ (by simp; omega) (by simp; omega) (by omega)
  · rintro w' ts' ⟨hTw, F', h1', h2'⟩
    have hoth : ∀ m, m < l1.length → ∀ n, n < ts'.length → ∀ x ∈ F m, x ∉ F' n := fun m hm n hn x hx hc => by
      have hm' : m < (l1 ++ ts).length := by simp; omega
      have hlt := (l1 ++ ts)[m].lt (h1 m _ (List.getElem?_eq_getElem hm')).1 x hx
      exact ((h1' n _ (List.getElem?_eq_getElem hn)).2 x hc).elim (hl1 m hm x hx) (fun h => by omega)
    refine ⟨hb.trans hTw (fun k hk => ?_), fun m => if m < l1.length then F m else F' (m - l1.length), ?_, ?_⟩
    · obtain ⟨n, hn, hk⟩ := hT' k hk
      exact hold (l1.length + n) (by simp; omega) k hk
    · intro m u hm
      by_cases hml : m < l1.length
      · rw [List.getElem?_append_left hml] at hm
        simp only [if_pos hml]
        obtain ⟨hu, hu2⟩ := h1 m u (by rw [List.getElem?_append_left hml]; exact hm)
        exact ⟨u.keep hu (fun k hk => hTw.block k (u.lt hu k hk) (hl1 m hml k hk)), hu2⟩
      · rw [List.getElem?_append_right (by omega)] at hm
        simp only [if_neg hml]
        obtain ⟨a, b⟩ := h1' _ u hm
        refine ⟨a, fun k hk => (b k hk).elim (fun h => ?_) (fun h => .inr (by omega))⟩
        obtain ⟨n, hn, hk'⟩ := hT' k h
        exact hold (l1.length + n) (by simp; omega) k hk'
    · intro m n hm hn hmn x hx hx2
      dsimp only at hx hx2
      simp only [List.length_append] at hm hn
      by_cases hml : m < l1.length
      · rw [if_pos hml] at hx
        by_cases hnl : n < l1.length
        · rw [if_pos hnl] at hx2; exact h2 m n (by simp; omega) (by simp; omega) hmn x hx hx2
        · rw [if_neg hnl] at hx2; exact hoth m hml _ (by omega) x hx hx2
      · rw [if_neg hml] at hx
        by_cases hnl : n < l1.length
        · rw [if_pos hnl] at hx2; exact hoth n hnl _ (by omega) x hx2 hx
        · rw [if_neg hnl] at hx2; exact h2' _ _ (by omega) (by omega) (by omega) x hx hx2
end Go.Proofs.Ytegebecogbebaaa
