/-
  Things of the ledger that hide a value; two things as one.
-/
import Derived.Test.YtegebecogbebaaaLed
namespace Go.Proofs.Ytegebecogbebaaa
open Go.RowKit
set_option maxRecDepth 100000
set_option linter.unusedVariables false

/-- One of the things f x, whichever. -/
def exT {α : Type} (f : α → Thing) : Thing where
  holds w fp := ∃ x, (f x).holds w fp
  keep := fun ⟨x, h⟩ he => ⟨x, (f x).keep h he⟩
  lt := fun ⟨x, h⟩ => (f x).lt h
/-- Two things that lie apart, as one. -/
def pairT (a b : Thing) : Thing where
  holds w fp := ∃ f1 f2, fp = f1 ++ f2 ∧ a.holds w f1 ∧ b.holds w f2 ∧ ∀ k ∈ f1, k ∉ f2
  keep := fun ⟨f1, f2, h, ha, hb, hd⟩ he => ⟨f1, f2, h, a.keep ha (fun k hk => he k (by rw [h]; exact List.mem_append_left _ hk)), b.keep hb (fun k hk => he k (by rw [h]; exact List.mem_append_right _ hk)), hd⟩
  lt := fun ⟨f1, f2, h, ha, hb, hd⟩ k hk => by
    rw [h] at hk
    exact (List.mem_append.1 hk).elim (a.lt ha k) (b.lt hb k)
section
variable {T : List Nat} {w0 w : World} {l : List Thing}
theorem Led.unex {α : Type} {f : α → Thing} (h : Led T w0 w l) (i : Nat) (hi : l[i]? = some (exT f)) : ∃ x, Led T w0 w (l.set i (f x)) := by
  obtain ⟨fp, ⟨x, hx⟩, _, hs⟩ := h.step i hi
  exact ⟨x, hs w (f x) fp hx (Went.refl _ _)⟩
theorem Led.ex {α : Type} {f : α → Thing} {x : α} (h : Led T w0 w l) (i : Nat) (hi : l[i]? = some (f x)) : Led T w0 w (l.set i (exT f)) := by
  obtain ⟨fp, hx, _, hs⟩ := h.step i hi
  exact hs w (exT f) fp ⟨x, hx⟩ (Went.refl _ _)
theorem Led.unpair {a b : Thing} (h : Led T w0 w l) (i : Nat) (hi : l[i]? = some (pairT a b)) : Led T w0 w (l.set i a ++ [b]) := by
  obtain ⟨hb, F, h1, h2⟩ := h
  have hi' := (List.getElem?_eq_some_iff.1 hi).1
  obtain ⟨⟨f1, f2, hf, ha, hbb, hd⟩, hg⟩ := h1 i _ hi
  have hF1 : ∀ k ∈ f1, k ∈ F i := fun k hk => by rw [hf]; exact List.mem_append_left _ hk
  have hF2 : ∀ k ∈ f2, k ∈ F i := fun k hk => by rw [hf]; exact List.mem_append_right _ hk
  refine ⟨hb, fun m => if m = i then f1 else if m = l.length then f2 else F m, ?_, ?_⟩
  · intro m u hm
    by_cases hmi : m = i
    · subst hmi
      rw [List.getElem?_append_left (by simpa using hi'), List.getElem?_set_self hi'] at hm
      cases hm
      simp only [if_true]
      exact ⟨ha, fun k hk => hg k (hF1 k hk)⟩
    · by_cases hml : m = l.length
      · subst hml
        simp at hm
        subst hm
        simp only [if_neg hmi, if_true]
        exact ⟨hbb, fun k hk => hg k (hF2 k hk)⟩
      · have hm' : m < l.length := by have := (List.getElem?_eq_some_iff.1 hm).1; simp at this; omega
        rw [List.getElem?_append_left (by simpa using hm'), List.getElem?_set_ne (fun e => hmi e.symm)] at hm
        simp only [if_neg hmi, if_neg hml]
        exact h1 m u hm
  · intro m n hm hn hmn x hx hx2
    dsimp only at hx hx2
    simp only [List.length_append, List.length_set, List.length_cons, List.length_nil] at hm hn
    by_cases hmi : m = i
    · rw [if_pos hmi] at hx
      rw [if_neg (by omega)] at hx2
      by_cases hnl : n = l.length
      · rw [if_pos hnl] at hx2; exact hd x hx hx2
      · rw [if_neg hnl] at hx2; exact h2 i n hi' (by omega) (by omega) x (hF1 x hx) hx2
    · rw [if_neg hmi] at hx
      by_cases hml : m = l.length
      · rw [if_pos hml] at hx
        by_cases hni : n = i
        · rw [if_pos hni] at hx2; exact hd x hx2 hx
        · rw [if_neg hni, if_neg (by omega)] at hx2; exact h2 i n hi' (by omega) (by omega) x (hF2 x hx) hx2
      · rw [if_neg hml] at hx
        by_cases hni : n = i
        · rw [if_pos hni] at hx2; exact h2 m i (by omega) hi' hmi x hx (hF1 x hx2)
        · rw [if_neg hni] at hx2
          by_cases hnl : n = l.length
          · rw [if_pos hnl] at hx2; exact h2 m i (by omega) hi' hmi x hx (hF2 x hx2)
          · rw [if_neg hnl] at hx2; exact h2 m n (by omega) (by omega) hmn x hx hx2
theorem Led.pair {a b : Thing} (h : Led T w0 w (l ++ [b])) (i : Nat) (hi : l[i]? = some a) : Led T w0 w (l.set i (pairT a b)) := by
  obtain ⟨hb, F, h1, h2⟩ := h
  have hi' := (List.getElem?_eq_some_iff.1 hi).1
  obtain ⟨ha, hga⟩ := h1 i a (by rw [List.getElem?_append_left hi']; exact hi)
  obtain ⟨hbb, hgb⟩ := h1 l.length b (by simp)
  refine ⟨hb, fun m => if m = i then F i ++ F l.length else F m, ?_, ?_⟩
  · intro m u hm
    have hm' : m < l.length := by have := (List.getElem?_eq_some_iff.1 hm).1; simpa using this
    by_cases hmi : m = i
    · subst hmi
      rw [List.getElem?_set_self hi'] at hm
      cases hm
      simp only [if_true]
      exact ⟨⟨_, _, rfl, ha, hbb, h2 m l.length (by simp; omega) (by simp) (by omega)⟩, fun k hk => (List.mem_append.1 hk).elim (hga k) (hgb k)⟩
    · rw [List.getElem?_set_ne (fun e => hmi e.symm)] at hm
      simp only [if_neg hmi]
      exact h1 m u (by rw [List.getElem?_append_left hm']; exact hm)
  · intro m n hm hn hmn x hx hx2
    dsimp only at hx hx2
    simp only [List.length_set] at hm hn
    by_cases hmi : m = i
    · rw [if_pos hmi] at hx
      rw [if_neg (by omega)] at hx2
      exact (List.mem_append.1 hx).elim (fun h => h2 i n (by simp; omega) (by simp; omega) (by omega) x h hx2) (fun h => h2 l.length n (by simp) (by simp; omega) (by omega) x h hx2)
    · rw [if_neg hmi] at hx
      by_cases hni : n = i
      · rw [if_pos hni] at hx2
        exact (List.mem_append.1 hx2).elim (fun h => h2 m i (by simp; omega) (by simp; omega) hmi x hx h) (fun h => h2 m l.length (by simp; omega) (by simp) (by omega) x hx h)
      · rw [if_neg hni] at hx2
        exact h2 m n (by simp; omega) (by simp; omega) hmn x hx hx2
end
end Go.Proofs.Ytegebecogbebaaa
