/-
  A ledger of memory: a list of things that lie apart from each other, in blocks of the call's own. No program is in sight.
-/
import Derived.Test.YtihmbgdkllmkaaaRange
namespace Go.Proofs.Ytihmbgdkllmkaaa
open Go.RowKit

/-- What is said of some blocks: it depends on them alone. -/
structure Thing where
  holds : World → List Nat → Prop
  keep : ∀ {w w' : World} {fp : List Nat}, holds w fp → (∀ k ∈ fp, w'.heap[k]? = w.heap[k]?) → holds w' fp
  lt : ∀ {w : World} {fp : List Nat}, holds w fp → ∀ k ∈ fp, k < w.heap.size

/-- What lies at fp then, from what lay at f: nothing else has turned; it is that, or new. -/
structure Went (f f' : List Nat) (w w' : World) : Prop where
  touch : Touch f w w'
  fp : ∀ k ∈ f', k ∈ f ∨ w.heap.size ≤ k
theorem Went.refl (f : List Nat) (w : World) : Went f f w w := ⟨Touch.refl _ _, fun _ h => .inl h⟩

/-- Since w0 only the blocks T have turned; the things l lie apart from each other, in T or in what is new. -/
def Led (T : List Nat) (w0 w : World) (l : List Thing) : Prop :=
  Touch T w0 w ∧ ∃ F : Nat → List Nat, (∀ i t, l[i]? = some t → t.holds w (F i) ∧ ∀ k ∈ F i, k ∈ T ∨ w0.heap.size ≤ k) ∧ (∀ i j, i < l.length → j < l.length → i ≠ j → ∀ k ∈ F i, k ∉ F j)

section
variable {T : List Nat} {w0 w w' : World} {l : List Thing} {t t' : Thing} {i : Nat}
theorem Led.tch (h : Led T w0 w l) : Touch T w0 w := h.1
theorem Led.below (h : Led [] w0 w l) : Below w0.heap.size w0 w := h.1.below
theorem Led.size (h : Led T w0 w l) : w0.heap.size ≤ w.heap.size := h.1.size
theorem Led.nil (T : List Nat) (w0 : World) : Led T w0 w0 [] := ⟨Touch.refl _ _, fun _ => [], by simp, by simp⟩
theorem Led.nil' (w0 : World) : Led [] w0 w0 [] := Led.nil _ _
theorem Led.get (h : Led T w0 w l) (i : Nat) (hi : l[i]? = some t) : ∃ f, t.holds w f ∧ ∀ k ∈ f, k ∈ T ∨ w0.heap.size ≤ k := by
  obtain ⟨_, F, h1, _⟩ := h
  exact ⟨F i, h1 i t hi⟩
/-- One thing turns. -/
theorem Led.step (h : Led T w0 w l) (i : Nat) (hi : l[i]? = some t) : ∃ f, t.holds w f ∧ (∀ k ∈ f, k ∈ T ∨ w0.heap.size ≤ k) ∧ ∀ w' t' f', t'.holds w' f' → Went f f' w w' → Led T w0 w' (l.set i t') := by
  have hz := h.size
  obtain ⟨hb, F, h1, h2⟩ := h
  have hi' := (List.getElem?_eq_some_iff.1 hi).1
  obtain ⟨ht, hge⟩ := h1 i t hi
  refine ⟨F i, ht, hge, fun w' t' f' ht' hm => ⟨hb.trans hm.touch hge, fun j => if j = i then f' else F j, ?_, ?_⟩⟩
  · intro j u hj
    by_cases hji : j = i
    · subst hji
      rw [List.getElem?_set_self hi'] at hj
      cases hj
      simp only [if_true]
      exact ⟨ht', fun k hk => (hm.fp k hk).elim (hge k) (fun h => .inr (by omega))⟩
    · rw [List.getElem?_set_ne (fun e => hji e.symm)] at hj
      simp only [hji, if_false]
      obtain ⟨hu, hu2⟩ := h1 j u hj
      have hj' := (List.getElem?_eq_some_iff.1 hj).1
      exact ⟨u.keep hu (fun k hk => hm.touch.block k (u.lt hu k hk) (h2 j i hj' hi' hji k hk)), hu2⟩
  · intro j k hj hk hjk x hx hx2
    dsimp only at hx hx2
    simp only [List.length_set] at hj hk
    have hnew : ∀ m, m < l.length → m ≠ i → ∀ x ∈ f', x ∉ F m := fun m hm' hmi x hx hx2 => by
      rcases hm.fp x hx with h | h
      · exact h2 i m hi' hm' (fun e => hmi e.symm) x h hx2
      · have hu := h1 m (l[m]) (List.getElem?_eq_getElem hm')
        have := l[m].lt hu.1 x hx2
        omega
    by_cases hji : j = i
    · subst hji
      rw [if_pos rfl] at hx
      rw [if_neg (fun e => hjk (Eq.symm e))] at hx2
      exact hnew k hk (fun e => hjk (Eq.symm e)) x hx hx2
    · rw [if_neg hji] at hx
      by_cases hki : k = i
      · subst hki
        rw [if_pos rfl] at hx2
        exact hnew j hj hji x hx2 hx
      · rw [if_neg hki] at hx2
        exact h2 j k hj hk hjk x hx hx2
/-- A new thing. -/
theorem Led.new (h : Led T w0 w l) {f' : List Nat} (ht' : t'.holds w' f') (hm : Went [] f' w w') : Led T w0 w' (l ++ [t']) := by
  have hz := h.size
  obtain ⟨hb, F, h1, h2⟩ := h
  have hkeep : ∀ j (u : Thing), l[j]? = some u → u.holds w' (F j) := fun j u hj => u.keep (h1 j u hj).1 (fun k hk => hm.touch.block k (u.lt (h1 j u hj).1 k hk) (by simp))
  have hold : ∀ j, j < l.length → ∀ x ∈ F j, x < w.heap.size := fun j hj x hx => l[j].lt (h1 j l[j] (List.getElem?_eq_getElem hj)).1 x hx
  have hnew : ∀ x ∈ f', w.heap.size ≤ x := fun x hx => (hm.fp x hx).elim (fun h => by simp at h) id
  refine ⟨hb.trans hm.touch (by simp), fun j => if j = l.length then f' else F j, ?_, ?_⟩
  · intro j u hj
    by_cases hjl : j = l.length
    · subst hjl
      simp at hj
      subst hj
      simp only [if_true]
      exact ⟨ht', fun k hk => .inr (by have := hnew k hk; omega)⟩
    · have hj' : j < l.length := by have := (List.getElem?_eq_some_iff.1 hj).1; simp at this; omega
      rw [List.getElem?_append_left hj'] at hj
      simp only [hjl, if_false]
      exact ⟨hkeep j u hj, (h1 j u hj).2⟩
  · intro j k hj hk hjk x hx hx2
    dsimp only at hx hx2
    simp only [List.length_append, List.length_cons, List.length_nil] at hj hk
    by_cases hjl : j = l.length
    · rw [if_pos hjl] at hx
      rw [if_neg (by omega)] at hx2
      have := hold k (by omega) x hx2
      have := hnew x hx
      omega
    · rw [if_neg hjl] at hx
      by_cases hkl : k = l.length
      · rw [if_pos hkl] at hx2
        have := hold j (by omega) x hx
        have := hnew x hx2
        omega
      · rw [if_neg hkl] at hx2
        exact h2 j k (by omega) (by omega) hjk x hx hx2
/-- The frame: what is shown of one thing alone. -/
theorem Led.frame1 (h : Led T w0 w l) (i : Nat) (hi : l[i]? = some t) : ∃ T', Led T' w w [t] ∧ ∀ w' t' rest, Led T' w w' (t' :: rest) → Led T w0 w' (l.set i t') := by
  obtain ⟨f, ht, hge, hs⟩ := h.step i hi
  refine ⟨f, ⟨Touch.refl _ _, fun _ => f, ?_, ?_⟩, ?_⟩
  · intro j u hj
    cases j with
    | zero => simp at hj; subst hj; exact ⟨ht, fun k hk => .inl hk⟩
    | succ j => simp at hj
  · intro j k hj hk hjk; simp at hj hk; omega
  · rintro w' t' rest ⟨hT, F', h1', h2'⟩
    obtain ⟨a, b⟩ := h1' 0 t' rfl
    exact hs w' t' (F' 0) a ⟨hT, b⟩
/-- The frame: what is shown of two things alone. -/
theorem Led.frame2 {t1 t2 : Thing} (h : Led T w0 w l) (i j : Nat) (hi : l[i]? = some t1) (hj : l[j]? = some t2) (hij : i ≠ j) :
    ∃ T', Led T' w w [t1, t2] ∧ ∀ w' t1' t2' rest, Led T' w w' (t1' :: t2' :: rest) → Led T w0 w' ((l.set i t1').set j t2') := by
  have hz := h.size
  obtain ⟨hb, F, h1, h2⟩ := h
  have hi' := (List.getElem?_eq_some_iff.1 hi).1
  have hj' := (List.getElem?_eq_some_iff.1 hj).1
  obtain ⟨ha1, ha2⟩ := h1 i t1 hi
  obtain ⟨hb1, hb2⟩ := h1 j t2 hj
  have hT2 : ∀ k ∈ F i ++ F j, k ∈ T ∨ w0.heap.size ≤ k := fun k hk => (List.mem_append.1 hk).elim (ha2 k) (hb2 k)
  refine ⟨F i ++ F j, ⟨Touch.refl _ _, fun m => if m = 0 then F i else F j, ?_, ?_⟩, ?_⟩
  · intro m u hm
    match m, hm with
    | 0, hm => simp at hm; subst hm; exact ⟨ha1, fun k hk => .inl (List.mem_append_left _ hk)⟩
    | 1, hm => simp at hm; subst hm; exact ⟨hb1, fun k hk => .inl (List.mem_append_right _ hk)⟩
    | m + 2, hm => simp at hm
  · intro m n hm hn hmn x hx hx2
    dsimp only at hx hx2
    simp only [List.length_cons, List.length_nil] at hm hn
    by_cases h0 : m = 0
    · rw [if_pos h0] at hx; rw [if_neg (by omega)] at hx2; exact h2 i j hi' hj' hij x hx hx2
    · rw [if_neg h0] at hx; rw [if_pos (by omega)] at hx2; exact h2 i j hi' hj' hij x hx2 hx
  · rintro w' t1' t2' rest ⟨hT, F', h1', h2'⟩
    obtain ⟨a1, b1⟩ := h1' 0 t1' rfl
    obtain ⟨a2, b2⟩ := h1' 1 t2' rfl
    have h01 := h2' 0 1 (by simp) (by simp) (by omega)
    have hoth : ∀ m, m < l.length → m ≠ i → m ≠ j → ∀ x ∈ F m, x ∉ F' 0 ∧ x ∉ F' 1 := fun m hm hmi hmj x hx => by
      have hlt := l[m].lt (h1 m l[m] (List.getElem?_eq_getElem hm)).1 x hx
      have hn : x ∉ F i ++ F j := fun hc => (List.mem_append.1 hc).elim (h2 m i hm hi' hmi x hx) (h2 m j hm hj' hmj x hx)
      exact ⟨fun hc => (b1 x hc).elim hn (fun h => by omega), fun hc => (b2 x hc).elim hn (fun h => by omega)⟩
    refine ⟨hb.trans hT hT2, fun m => if m = i then F' 0 else if m = j then F' 1 else F m, ?_, ?_⟩
    · intro m u hm
      by_cases hmj : m = j
      · subst hmj
        rw [List.getElem?_set_self (by simpa using hj')] at hm
        cases hm
        simp only [if_neg (Ne.symm hij), if_true]
        exact ⟨a2, fun k hk => (b2 k hk).elim (hT2 k) (fun h => .inr (by omega))⟩
      · rw [List.getElem?_set_ne (fun e => hmj e.symm)] at hm
        by_cases hmi : m = i
        · subst hmi
          rw [List.getElem?_set_self hi'] at hm
          cases hm
          simp only [if_true]
          exact ⟨a1, fun k hk => (b1 k hk).elim (hT2 k) (fun h => .inr (by omega))⟩
        · rw [List.getElem?_set_ne (fun e => hmi e.symm)] at hm
          simp only [if_neg hmi, if_neg hmj]
          obtain ⟨hu, hu2⟩ := h1 m u hm
          have hm' := (List.getElem?_eq_some_iff.1 hm).1
          exact ⟨u.keep hu (fun k hk => hT.block k (u.lt hu k hk) (fun hc => (List.mem_append.1 hc).elim (h2 m i hm' hi' hmi k hk) (h2 m j hm' hj' hmj k hk))), hu2⟩
    · intro m n hm hn hmn x hx hx2
      dsimp only at hx hx2
      simp only [List.length_set] at hm hn
      by_cases hmi : m = i
      · rw [if_pos hmi] at hx
        rw [if_neg (by omega)] at hx2
        by_cases hnj : n = j
        · rw [if_pos hnj] at hx2; exact h01 x hx hx2
        · rw [if_neg hnj] at hx2; exact (hoth n hn (by omega) hnj x hx2).1 hx
      · rw [if_neg hmi] at hx
        by_cases hmj : m = j
        · rw [if_pos hmj] at hx
          by_cases hni : n = i
          · rw [if_pos hni] at hx2; exact h01 x hx2 hx
          · rw [if_neg hni, if_neg (by omega)] at hx2; exact (hoth n hn hni (by omega) x hx2).2 hx
        · rw [if_neg hmj] at hx
          by_cases hni : n = i
          · rw [if_pos hni] at hx2; exact (hoth m hm hmi hmj x hx).1 hx2
          · rw [if_neg hni] at hx2
            by_cases hnj : n = j
            · rw [if_pos hnj] at hx2; exact (hoth m hm hmi hmj x hx).2 hx2
            · rw [if_neg hnj] at hx2; exact h2 m n hm hn hmn x hx hx2
/-- The last thing stands in for another. -/
theorem Led.stand (h : Led T w0 w (l ++ [t'])) (i : Nat) : Led T w0 w (l.set i t') := by
  obtain ⟨hb, F, h1, h2⟩ := h
  refine ⟨hb, fun j => if j = i then F l.length else F j, ?_, ?_⟩
  · intro j u hj
    have hj' : j < l.length := by have := (List.getElem?_eq_some_iff.1 hj).1; simpa using this
    by_cases hji : j = i
    · subst hji
      rw [List.getElem?_set_self hj'] at hj
      cases hj
      simp only [if_true]
      exact h1 l.length t' (by simp)
    · rw [List.getElem?_set_ne (fun e => hji e.symm)] at hj
      simp only [if_neg hji]
      exact h1 j u (by rw [List.getElem?_append_left hj']; exact hj)
  · intro j k hj hk hjk x hx hx2
    dsimp only at hx hx2
    simp only [List.length_set] at hj hk
    by_cases hji : j = i
    · rw [if_pos hji] at hx
      rw [if_neg (by omega)] at hx2
      exact h2 l.length k (by simp) (by simp; omega) (by omega) x hx hx2
    · rw [if_neg hji] at hx
      by_cases hki : k = i
      · rw [if_pos hki] at hx2
        exact h2 j l.length (by simp; omega) (by simp) (by omega) x hx hx2
      · rw [if_neg hki] at hx2
        exact h2 j k (by simp; omega) (by simp; omega) hjk x hx hx2
/-- Some of the things, in another order. -/
theorem Led.sel (h : Led T w0 w l) (is : List Nat) {l' : List Thing} (he : is.map (fun i => l[i]?) = l'.map some) (hn : is.Nodup) : Led T w0 w l' := by
  obtain ⟨hb, F, h1, h2⟩ := h
  have hlen : is.length = l'.length := by have := congrArg List.length he; simpa using this
  have hget : ∀ j (hj : j < l'.length), l[is[j]'(by omega)]? = some l'[j] := fun j hj => by
    have := congrArg (fun x => x[j]?) he
    simp only [List.getElem?_map] at this
    rw [List.getElem?_eq_getElem (by omega), List.getElem?_eq_getElem hj] at this
    simpa using this
  refine ⟨hb, fun j => F (is.getD j 0), ?_, ?_⟩
  · intro j u hj
    obtain ⟨hj', rfl⟩ := List.getElem?_eq_some_iff.1 hj
    have : is.getD j 0 = is[j]'(by omega) := by simp [List.getD, show j < is.length by omega]
    simp only [this]
    exact h1 _ _ (hget j hj')
  · intro j k hj hk hjk x hx hx2
    have e1 : is.getD j 0 = is[j]'(by omega) := by simp [List.getD, show j < is.length by omega]
    have e2 : is.getD k 0 = is[k]'(by omega) := by simp [List.getD, show k < is.length by omega]
    simp only [e1] at hx
    simp only [e2] at hx2
    refine h2 _ _ (List.getElem?_eq_some_iff.1 (hget j hj)).1 (List.getElem?_eq_some_iff.1 (hget k hk)).1 (fun e => hjk ?_) x hx hx2
    exact (List.getElem_inj hn).1 e
theorem Led.pick (h : Led T w0 w l) (is : List Nat) (hn : is.Nodup) (hl : ∀ i ∈ is, i < l.length) : Led T w0 w (is.filterMap fun i => l[i]?) := by
  refine h.sel is ?_ hn
  clear hn h
  induction is with
  | nil => rfl
  | cons i is ih =>
    have hi := hl i (by simp)
    rw [List.filterMap_cons, List.getElem?_eq_getElem hi]
    simp only [List.map_cons]
    rw [List.getElem?_eq_getElem hi, ih (fun j hj => hl j (by simp [hj]))]
theorem Led.touch (h : Led T w0 w l) (ht : Touch [] w w') : Led T w0 w' l := by
  have hz := h.size
  obtain ⟨hb, F, h1, h2⟩ := h
  exact ⟨hb.trans ht (by simp), F, fun i t hi => ⟨t.keep (h1 i t hi).1 (fun k hk => ht.block k (t.lt (h1 i t hi).1 k hk) (by simp)), (h1 i t hi).2⟩, h2⟩
theorem Led.drewN (h : Led T w0 w l) (n : Nat) : Led T w0 (w.drewN n) l := h.touch ((Touch.refl [] w).drewN n)
theorem Led.drew (h : Led T w0 w l) : Led T w0 w.drew l := h.touch ((Touch.refl [] w).drew)
theorem Led.alloc_ (h : Led T w0 w l) (o : Obj) : Led T w0 (w.alloc o) l := h.touch ((Touch.refl [] w).alloc o)
end

/-- A box: a block that is known whole. -/
def box (b : Nat) (t : TypeId) (cs : Array Value) : Thing where
  holds w fp := fp = [b] ∧ Blk w b t cs
  keep := fun ⟨h1, h2⟩ he => ⟨h1, h2.keep (he b (by simp [h1]))⟩
  lt := fun ⟨h1, h2⟩ k hk => by subst h1; simp at hk; subst hk; exact h2.lt
/-- The row of a slice. -/
def row (e : TypeId) (size : Nat) (v : Value) (n : Nat) (xs : List Value) : Thing where
  holds w fp := fp = sb v ∧ w.ownsRow 0 e size v n xs
  keep := fun ⟨h1, h2⟩ he => ⟨h1, own_keep h2 (fun k hk => he k (h1 ▸ hk))⟩
  lt := fun ⟨h1, h2⟩ k hk => own_lt h2 k (h1 ▸ hk)
/-- A block of which nothing is known. -/
def some1 (b : Nat) : Thing where
  holds w fp := fp = [b] ∧ b < w.heap.size
  keep := fun {w w' fp} ⟨h1, h2⟩ he => ⟨h1, by
    have := he b (by simp [h1])
    rw [Array.getElem?_eq_getElem h2] at this
    exact (Array.getElem?_eq_some_iff.1 this).1⟩
  lt := fun ⟨h1, h2⟩ k hk => by subst h1; simp at hk; subst hk; exact h2
/-- A loop's deferred calls: none. -/
def mark (b : Nat) : Thing where
  holds w fp := fp = [b] ∧ w.heap[b]? = some (.deferred (some []))
  keep := fun ⟨h1, h2⟩ he => ⟨h1, (he b (by simp [h1])).trans h2⟩
  lt := fun ⟨h1, h2⟩ k hk => by subst h1; simp at hk; subst hk; exact (Array.getElem?_eq_some_iff.1 h2).1

section
variable {T : List Nat} {w0 w w' : World} {l : List Thing} {t t' : Thing} {i : Nat}
theorem Led.box (h : Led T w0 w l) (i : Nat) {b : Nat} {t : TypeId} {cs : Array Value} (hi : l[i]? = some (box b t cs)) : Blk w b t cs := let ⟨_, h, _⟩ := h.get i hi; h.2
theorem Led.boxge (h : Led T w0 w l) (i : Nat) {b : Nat} {t : TypeId} {cs : Array Value} (hi : l[i]? = some (Proofs.Ytihmbgdkllmkaaa.box b t cs)) : b ∈ T ∨ w0.heap.size ≤ b := let ⟨_, h, hg⟩ := h.get i hi; hg b (by simp [h.1])
theorem Led.row (h : Led T w0 w l) (i : Nat) {e : TypeId} {size : Nat} {v : Value} {n : Nat} {xs : List Value} (hi : l[i]? = some (row e size v n xs)) : w.ownsRow 0 e size v n xs := let ⟨_, h, _⟩ := h.get i hi; h.2
theorem Led.mark (h : Led T w0 w l) (i : Nat) {b : Nat} (hi : l[i]? = some (mark b)) : w.heap[b]? = some (.deferred (some [])) := let ⟨_, h, _⟩ := h.get i hi; h.2
theorem Led.alloc (h : Led T w0 w l) (t : TypeId) (cs : Array Value) : Led T w0 (w.alloc (.cells cs t)) (l ++ [Proofs.Ytihmbgdkllmkaaa.box w.heap.size t cs]) :=
  h.new (t' := Proofs.Ytihmbgdkllmkaaa.box w.heap.size t cs) ⟨rfl, Blk.new w t cs⟩ ⟨(Touch.refl [] w).alloc _, fun k hk => .inr (by simp at hk; omega)⟩
theorem Led.set (h : Led T w0 w l) (i : Nat) {b : Nat} {t : TypeId} {cs : Array Value} (hi : l[i]? = some (Proofs.Ytihmbgdkllmkaaa.box b t cs)) (j : Nat) (u : Value) : Led T w0 (w.setCell ⟨b, j, none⟩ u) (l.set i (Proofs.Ytihmbgdkllmkaaa.box b t (cs.setIfInBounds j u))) := by
  obtain ⟨f, ⟨hf, hb⟩, _, hs⟩ := h.step i hi
  subst hf
  exact hs _ _ [b] ⟨rfl, hb.set j u⟩ ⟨(Touch.refl _ w).setCell _ _ (.inl (by simp)), fun k hk => .inl hk⟩
theorem Led.rowset (h : Led T w0 w l) (i : Nat) {e : TypeId} {size g n cap : Nat} {xs : List Value} (hi : l[i]? = some (Proofs.Ytihmbgdkllmkaaa.row e size (.slice (some ⟨g, 0, none⟩) n cap) n xs)) (j : Nat) (u : Value) :
    Led T w0 (w.setCell ⟨g, j, none⟩ u) (l.set i (Proofs.Ytihmbgdkllmkaaa.row e size (.slice (some ⟨g, 0, none⟩) n cap) n (xs.set j u))) := by
  obtain ⟨f, ⟨hf, hb⟩, _, hs⟩ := h.step i hi
  subst hf
  exact hs _ _ _ ⟨rfl, own_set hb j u⟩ ⟨(Touch.refl _ w).setCell _ _ (.inl (by simp [sb, Value.ownBlock])), fun k hk => .inl hk⟩
/-- An append to a row. -/
theorem Led.grown (h : Led T w0 w l) (i : Nat) {e : TypeId} {size n n' : Nat} {v v' : Value} {xs xs' : List Value} (hi : l[i]? = some (Proofs.Ytihmbgdkllmkaaa.row e size v n xs)) (hg : w.grownBy w' v.ownBlock) (ho : w'.ownsRow 0 e size v' n' xs') (hat : v'.ownBlock = v.ownBlock ∨ v'.ownBlock = some w.heap.size) :
    Led T w0 w' (l.set i (Proofs.Ytihmbgdkllmkaaa.row e size v' n' xs')) := by
  obtain ⟨f, ⟨hf, hb⟩, _, hs⟩ := h.step i hi
  subst hf
  refine hs _ _ _ ⟨rfl, ho⟩ ⟨Touch.of_grown hg (fun k hk => .inl (by simp [sb, hk])), fun k hk => ?_⟩
  rcases hat with h | h
  · exact .inl (by rw [sb, ← h]; exact hk)
  · exact .inr (by rw [sb, h] at hk; simp at hk; omega)
/-- A turn of a block of which nothing is known. -/
theorem Led.putObj (h : Led T w0 w l) (i : Nat) {b : Nat} (hi : l[i]? = some (some1 b)) (o : Obj) : Led T w0 (w.putObj b o) l := by
  obtain ⟨f, ⟨hf, hb⟩, _, hs⟩ := h.step i hi
  subst hf
  have := hs (w.putObj b o) (some1 b) [b] ⟨rfl, by simpa using hb⟩ ⟨(Touch.refl _ w).putObj (.inr (by simp)) o, fun k hk => .inl hk⟩
  rwa [show l.set i (some1 b) = l from by
    apply List.ext_getElem?
    intro j
    by_cases hj : i = j
    · subst hj; rw [List.getElem?_set_self (List.getElem?_eq_some_iff.1 hi).1, hi]
    · rw [List.getElem?_set_ne hj]] at this
/-- Ahead of a loop over an iterator: its two blocks. -/
theorem Led.loop (h : Led T w0 w l) (o : Obj) : Led T w0 ((w.alloc (.deferred (some []))).alloc o) (l ++ [Proofs.Ytihmbgdkllmkaaa.mark w.heap.size, some1 (w.heap.size + 1)]) := by
  have h1 := h.new (t' := Proofs.Ytihmbgdkllmkaaa.mark w.heap.size) (w' := w.alloc (.deferred (some []))) (f' := [w.heap.size]) ⟨rfl, heap_alloc_new w _⟩ ⟨(Touch.refl [] w).alloc _, fun k hk => .inr (by simp at hk; omega)⟩
  have h2 := h1.new (t' := some1 (w.heap.size + 1)) (w' := (w.alloc (.deferred (some []))).alloc o) (f' := [w.heap.size + 1]) ⟨rfl, by simp⟩ ⟨(Touch.refl [] _).alloc _, fun k hk => .inr (by simp at hk; simp; omega)⟩
  simpa using h2
end
end Go.Proofs.Ytihmbgdkllmkaaa
