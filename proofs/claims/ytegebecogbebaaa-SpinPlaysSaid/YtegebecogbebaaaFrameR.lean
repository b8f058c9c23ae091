/-
  The frame, with what the call made; rows of booleans.
-/
import Derived.Test.YtegebecogbebaaaRef03
import Derived.Test.YtegebecogbebaaaLedRange
import Derived.Test.YtegebecogbebaaaAppendAny
namespace Go.Proofs.Ytegebecogbebaaa
open Go.RowKit Go.Shelf
set_option maxRecDepth 100000
set_option linter.unusedVariables false
set_option linter.unusedSimpArgs false

theorem Led.frameR {T : List Nat} {w0 w : World} {l : List Thing} {t : Thing} (h : Led T w0 w l) (i : Nat) (hi : l[i]? = some t) : ∃ T', Led T' w w [t] ∧ ∀ w' t' rest, Led T' w w' (t' :: rest) → Led T w0 w' (l.set i t' ++ rest) := by
  have hz := h.size
  obtain ⟨hb, F, h1, h2⟩ := h
  have hi' := (List.getElem?_eq_some_iff.1 hi).1
  obtain ⟨ha1, ha2⟩ := h1 i t hi
  refine ⟨F i, ⟨Touch.refl _ _, fun _ => F i, ?_, ?_⟩, ?_⟩
  · intro j u hj
    cases j with
    | zero => simp at hj; subst hj; exact ⟨ha1, fun k hk => .inl hk⟩
    | succ j => simp at hj
  · intro j k hj hk hjk; simp at hj hk; omega
  · rintro w' t' rest ⟨hT, F', h1', h2'⟩
    have hsz := hT.size
    have hnew : ∀ m, m < (t' :: rest).length → ∀ x ∈ F' m, x ∈ F i ∨ w.heap.size ≤ x := fun m hm x hx => (h1' m _ (List.getElem?_eq_getElem hm)).2 x hx
    have hoth : ∀ m, m < l.length → m ≠ i → ∀ n, n < (t' :: rest).length → ∀ x ∈ F m, x ∉ F' n := fun m hm hmi n hn x hx hc => by
      have hlt := l[m].lt (h1 m l[m] (List.getElem?_eq_getElem hm)).1 x hx
      exact (hnew n hn x hc).elim (h2 m i hm hi' hmi x hx) (fun h => by omega)
    refine ⟨hb.trans hT ha2, fun m => if m = i then F' 0 else if m < l.length then F m else F' (m - l.length + 1), ?_, ?_⟩
    · intro m u hm
      by_cases hmi : m = i
      · subst hmi
        rw [List.getElem?_append_left (by simpa using hi'), List.getElem?_set_self hi'] at hm
        cases hm
        simp only [if_true]
        obtain ⟨a, b⟩ := h1' 0 t' rfl
        exact ⟨a, fun k hk => (b k hk).elim (ha2 k) (fun h => .inr (by omega))⟩
      · by_cases hml : m < l.length
        · rw [List.getElem?_append_left (by simpa using hml), List.getElem?_set_ne (fun e => hmi e.symm)] at hm
          simp only [if_neg hmi, if_pos hml]
          obtain ⟨hu, hu2⟩ := h1 m u hm
          exact ⟨u.keep hu (fun k hk => hT.block k (u.lt hu k hk) (fun hc => h2 m i hml hi' hmi k hk hc)), hu2⟩
        · rw [List.getElem?_append_right (by simp; omega)] at hm
          simp only [if_neg hmi, if_neg hml]
          rw [List.length_set] at hm
          obtain ⟨a, b⟩ := h1' (m - l.length + 1) u (by rw [List.getElem?_cons_succ]; exact hm)
          exact ⟨a, fun k hk => (b k hk).elim (ha2 k) (fun h => .inr (by omega))⟩
    · intro m n hm hn hmn x hx hx2
      dsimp only at hx hx2
      simp only [List.length_append, List.length_set] at hm hn
      have e1 : ∀ m, m < l.length + rest.length → ¬ m < l.length → m - l.length + 1 < (t' :: rest).length := fun m h1 h2 => by simp; omega
      by_cases hmi : m = i
      · rw [if_pos hmi] at hx
        rw [if_neg (by omega)] at hx2
        by_cases hnl : n < l.length
        · rw [if_pos hnl] at hx2; exact hoth n hnl (by omega) 0 (by simp) x hx2 hx
        · rw [if_neg hnl] at hx2; exact h2' 0 _ (by simp) (e1 n hn hnl) (by omega) x hx hx2
      · rw [if_neg hmi] at hx
        by_cases hml : m < l.length
        · rw [if_pos hml] at hx
          by_cases hni : n = i
          · rw [if_pos hni] at hx2; exact hoth m hml hmi 0 (by simp) x hx hx2
          · rw [if_neg hni] at hx2
            by_cases hnl : n < l.length
            · rw [if_pos hnl] at hx2; exact h2 m n hml hnl hmn x hx hx2
            · rw [if_neg hnl] at hx2; exact hoth m hml hmi _ (e1 n hn hnl) x hx hx2
        · rw [if_neg hml] at hx
          by_cases hni : n = i
          · rw [if_pos hni] at hx2; exact h2' _ 0 (e1 m hm hml) (by simp) (by omega) x hx hx2
          · rw [if_neg hni] at hx2
            by_cases hnl : n < l.length
            · rw [if_pos hnl] at hx2; exact hoth n hnl hni _ (e1 m hm hml) x hx2 hx
            · rw [if_neg hnl] at hx2; exact h2' _ _ (e1 m hm hml) (e1 n hn hnl) (by omega) x hx hx2

/-- A row of booleans. -/
def boolVs (l : List Bool) : List Value := l.map Value.bool
abbrev boolT (v : Value) (l : List Bool) : Thing := row 4 1 v l.length (boolVs l)
theorem info_bool : (Try.prog.info? 4).map (fun i => (i.zero, i.size, i.bytes)) = some (some (.bool false), 1, 1) := by kernel_rfl
theorem bool_one (l : List Bool) : ∀ u ∈ boolVs l, u.oneCell' = true := by
  intro u hu
  simp only [boolVs, List.mem_map] at hu
  obtain ⟨x, _, rfl⟩ := hu
  rfl
theorem own_bool {W : World} {g : Nat} (x : Bool) (h : Blk W g 4 #[.bool x]) : W.ownsRow 0 4 1 (.slice (some ⟨g, 0, none⟩) 1 1) 1 (boolVs [x]) :=
  ⟨rfl, .inr ⟨g, 1, #[.bool x], rfl, Nat.zero_le _, h, Nat.le_refl _, by simp [maxLen], rfl, rfl⟩⟩
theorem boolT_nil {T : List Nat} {w0 w : World} {l : List Thing} (h : Led T w0 w l) : Led T w0 w (l ++ [boolT (.slice none 0 0) []]) :=
  h.new (t' := boolT (.slice none 0 0) []) (f' := []) ⟨rfl, World.ownsRow_nil _ _ _ _⟩ ⟨Touch.refl _ _, by simp⟩
end Go.Proofs.Ytegebecogbebaaa
