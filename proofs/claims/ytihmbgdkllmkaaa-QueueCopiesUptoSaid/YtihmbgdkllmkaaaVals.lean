/-
  Values that never turn, as one thing of the ledger; a row with spare cells. No program is in sight.
-/
import Derived.Test.YtihmbgdkllmkaaaVal
import Derived.Test.YtihmbgdkllmkaaaLedC
namespace Go.Proofs.Ytihmbgdkllmkaaa
open Go.RowKit
set_option linter.unusedVariables false
set_option linter.unusedSimpArgs false

section
variable {T : List Nat} {w0 w w' : World} {l : List Thing} {t1 t2 t12 : Thing}
/-- The last two things, as one. -/
theorem Led.merge (h : Led T w0 w (l ++ [t1, t2])) (hm : ∀ f1 f2, t1.holds w f1 → t2.holds w f2 → t12.holds w (f1 ++ f2)) : Led T w0 w (l ++ [t12]) := by
  obtain ⟨hb, F, h1, h2⟩ := h
  have e1 : (l ++ [t1, t2])[l.length]? = some t1 := by simp
  have e2 : (l ++ [t1, t2])[l.length + 1]? = some t2 := by simp
  obtain ⟨a1, a2⟩ := h1 _ _ e1
  obtain ⟨b1, b2⟩ := h1 _ _ e2
  refine ⟨hb, fun i => if i = l.length then F l.length ++ F (l.length + 1) else F i, ?_, ?_⟩
  · intro i t hi
    by_cases hil : i = l.length
    · subst hil
      simp at hi
      subst hi
      simp only [if_true]
      exact ⟨hm _ _ a1 b1, fun k hk => (List.mem_append.1 hk).elim (a2 k) (b2 k)⟩
    · have hi' : i < l.length := by have := (List.getElem?_eq_some_iff.1 hi).1; simp at this; omega
      simp only [hil, if_false]
      exact h1 i t (by rw [List.getElem?_append_left hi'] at hi ⊢; exact hi)
  · intro i j hi hj hij x hx hx2
    dsimp only at hx hx2
    simp only [List.length_append, List.length_cons, List.length_nil] at hi hj
    by_cases hil : i = l.length
    · rw [if_pos hil] at hx
      rw [if_neg (by omega)] at hx2
      rcases List.mem_append.1 hx with hx | hx
      · exact h2 l.length j (by simp) (by simp; omega) (by omega) x hx hx2
      · exact h2 (l.length + 1) j (by simp) (by simp; omega) (by omega) x hx hx2
    · rw [if_neg hil] at hx
      by_cases hjl : j = l.length
      · rw [if_pos hjl] at hx2
        rcases List.mem_append.1 hx2 with hx2 | hx2
        · exact h2 i l.length (by simp; omega) (by simp) (by omega) x hx hx2
        · exact h2 i (l.length + 1) (by simp; omega) (by simp) (by omega) x hx hx2
      · rw [if_neg hjl] at hx2
        exact h2 i j (by simp; omega) (by simp; omega) hij x hx hx2
end

/-- Values in memory, as one thing. -/
def valsT (l : List MT) : Thing where
  holds w fp := fp = MT.blocksAll l ∧ ∀ t ∈ l, t.In w
  keep := fun ⟨h1, h2⟩ he => ⟨h1, fun t ht => (h2 t ht).keep (fun k hk => he k (h1 ▸ MT.blocksAll_mem.2 ⟨t, ht, hk⟩))⟩
  lt := fun ⟨h1, h2⟩ k hk => by
    subst h1
    obtain ⟨t, ht, hk⟩ := MT.blocksAll_mem.1 hk
    exact (h2 t ht).lt k hk
section
variable {T : List Nat} {w0 w w' : World} {l : List Thing} {vs us : List MT}
theorem Led.valsIn (h : Led T w0 w l) (i : Nat) (hi : l[i]? = some (valsT vs)) : ∀ t ∈ vs, t.In w := let ⟨_, h, _⟩ := h.get i hi; h.2
theorem Led.vals0 (h : Led T w0 w l) : Led T w0 w (l ++ [valsT []]) := h.new (t' := valsT []) (f' := []) ⟨rfl, by simp⟩ ⟨Touch.refl _ _, by simp⟩
/-- New values. -/
theorem Led.valsNew (h : Led T w0 w l) (ht : Touch [] w w') (hin : ∀ t ∈ vs, t.In w') (hn : ∀ t ∈ vs, ∀ k ∈ t.blocks, w.heap.size ≤ k) : Led T w0 w' (l ++ [valsT vs]) :=
  h.new (t' := valsT vs) (f' := MT.blocksAll vs) ⟨rfl, hin⟩ ⟨ht, fun k hk => by obtain ⟨t, ht, hk⟩ := MT.blocksAll_mem.1 hk; exact .inr (hn t ht k hk)⟩
theorem Led.valsJoin (h : Led T w0 w (l ++ [valsT vs, valsT us])) : Led T w0 w (l ++ [valsT (vs ++ us)]) :=
  h.merge (fun f1 f2 ⟨a1, a2⟩ ⟨b1, b2⟩ => ⟨by rw [a1, b1, MT.blocksAll_append], fun t ht => (List.mem_append.1 ht).elim (a2 t) (b2 t)⟩)
end

/-- The row of a slice, which may have spare cells behind its capacity. -/
def rowS (w : World) (e : TypeId) (size : Nat) (v : Value) (n : Nat) (xs : List Value) : Prop :=
  xs.length = n * size ∧ ((v = .slice none 0 0 ∧ n = 0) ∨
   ∃ g cap cur, v = .slice (some ⟨g, 0, none⟩) n cap ∧ w.heap[g]? = some (.cells cur e (0, 0)) ∧ n ≤ cap ∧ cap ≤ maxLen ∧ cap * size ≤ cur.size ∧ cur.toList.take (n * size) = xs)
section
variable {w w' : World} {e : TypeId} {size : Nat} {v : Value} {n : Nat} {xs : List Value} {S : List Nat}
theorem rowS_of_own (h : w.ownsRow 0 e size v n xs) : rowS w e size v n xs := by
  refine ⟨h.1, ?_⟩
  rcases h.2 with hn | ⟨g, cap, cur, h1, _, h2, h3, h4, h5, h6⟩
  · exact .inl hn
  · exact .inr ⟨g, cap, cur, h1, h2, h3, h4, Nat.le_of_eq h5.symm, h6⟩
theorem rowS_nil (w : World) (e : TypeId) (size : Nat) : rowS w e size (.slice none 0 0) 0 [] := ⟨by simp, .inl ⟨rfl, rfl⟩⟩
theorem rowS_keep (h : rowS w e size v n xs) (he : ∀ k ∈ sb v, w'.heap[k]? = w.heap[k]?) : rowS w' e size v n xs := by
  refine ⟨h.1, ?_⟩
  rcases h.2 with hn | ⟨g, cap, cur, rfl, hg, rest⟩
  · exact .inl hn
  · exact .inr ⟨g, cap, cur, rfl, (he g (by simp [sb, Value.ownBlock])).trans hg, rest⟩
theorem rowS_lt (h : rowS w e size v n xs) : ∀ k ∈ sb v, k < w.heap.size := by
  intro k hk
  rcases h.2 with ⟨rfl, _⟩ | ⟨g, cap, cur, rfl, hg, rest⟩
  · simp [sb, Value.ownBlock] at hk
  · have : k = g := by simpa [sb, Value.ownBlock] using hk
    subst this
    exact (Array.getElem?_eq_some_iff.1 hg).1
theorem rowS_val (h : rowS w e size v n xs) : ∃ a cap, v = .slice a n cap ∧ n ≤ cap ∧ cap ≤ maxLen := by
  rcases h.2 with ⟨hv, h0⟩ | ⟨g, cap, cur, hv, _, h1, h2, _⟩
  · exact ⟨none, 0, by rw [hv, h0], by omega, by simp [maxLen]⟩
  · exact ⟨_, cap, hv, h1, h2⟩
theorem rowS_form (h : rowS w e size v n xs) (hn : 0 < n) : ∃ g cap cur, v = .slice (some ⟨g, 0, none⟩) n cap ∧ Blk w g e cur ∧ n ≤ cap ∧ cap ≤ maxLen ∧ cap * size ≤ cur.size ∧ cur.toList.take (n * size) = xs := by
  rcases h.2 with ⟨_, h0⟩ | ⟨g, cap, cur, hv, hg, h1, h2, h3, h4⟩
  · omega
  · exact ⟨g, cap, cur, hv, hg, h1, h2, h3, h4⟩
theorem rowS_cell {g cap : Nat} (h : rowS w e size (.slice (some ⟨g, 0, none⟩) n cap) n xs) (j : Nat) (hj : j < xs.length) : w.cell? ⟨g, j, none⟩ = some xs[j] := by
  rcases h.2 with ⟨hv, _⟩ | ⟨g', cap', cur, hv, hg, h1, h2, h3, h4⟩
  · cases hv
  · injection hv with ha _ hc
    injection ha with ha
    injection ha with ha
    subst ha
    rw [cell_of_row w g j cur e (0, 0) hg]
    have : xs[j]? = cur.toList[j]? := by rw [← h4, List.getElem?_take, if_pos (by rw [← h.1]; exact hj)]
    rw [List.getElem?_eq_getElem hj] at this
    simpa using this.symm
theorem rowS_frozen {g cap : Nat} (h : rowS w e size (.slice (some ⟨g, 0, none⟩) n cap) n xs) (j : Nat) : w.frozen? ⟨g, j, none⟩ = false := by
  rcases h.2 with ⟨hv, _⟩ | ⟨g', cap', cur, hv, hg, h1, h2, h3, h4⟩
  · cases hv
  · injection hv with ha _ hc
    injection ha with ha
    injection ha with ha
    subst ha
    exact Blk.frozen (show Blk w g e cur from hg) j
theorem rowS_set {g cap : Nat} (h : rowS w e size (.slice (some ⟨g, 0, none⟩) n cap) n xs) (j : Nat) (u : Value) :
    rowS (w.setCell ⟨g, j, none⟩ u) e size (.slice (some ⟨g, 0, none⟩) n cap) n (xs.set j u) := by
  refine ⟨by rw [List.length_set]; exact h.1, ?_⟩
  rcases h.2 with ⟨hv, _⟩ | ⟨g', cap', cur, hv, hg, h1, h2, h3, h4⟩
  · cases hv
  · injection hv with ha _ hc
    injection ha with ha
    injection ha with ha
    subst ha; subst hc
    refine .inr ⟨g, cap, cur.setIfInBounds j u, rfl, Blk.set (show Blk w g e cur from hg) j u, h1, h2, by simpa using h3, ?_⟩
    rw [← h4]
    simp [List.take_set]
theorem rowS_cells {g cap : Nat} (h : rowS w e size (.slice (some ⟨g, 0, none⟩) n cap) n xs) : ∀ j u, xs[j]? = some u → w.cell? ((⟨g, 0, none⟩ : Addr).add j) = some u := by
  intro j u hu
  obtain ⟨hj, rfl⟩ := List.getElem?_eq_some_iff.1 hu
  rw [Addr.add_lit, Nat.zero_add]
  exact rowS_cell h j hj
/-- A part of a row, its capacity cut. -/
theorem rowS_cut (h : rowS w e size v n xs) (m c : Nat) (hm : m ≤ c) (hc : c ≤ n) {a : Option Addr} {cap : Nat} (hv : v = .slice a n cap) (hnn : a ≠ none ∨ c = 0) : rowS w e size (.slice a m c) m (xs.take (m * size)) := by
  have hms : m * size ≤ n * size := Nat.mul_le_mul_right _ (by omega)
  refine ⟨by rw [List.length_take, h.1]; omega, ?_⟩
  rcases h.2 with ⟨hv', h0⟩ | ⟨g, cap', cur, hv', hg, h1, h2, h3, h4⟩
  · rw [hv'] at hv
    injection hv with ha _ _
    subst ha
    obtain rfl : c = 0 := by omega
    obtain rfl : m = 0 := by omega
    exact .inl ⟨rfl, rfl⟩
  · rw [hv'] at hv
    injection hv with ha _ hcap
    subst ha
    refine .inr ⟨g, c, cur, rfl, hg, hm, by omega, Nat.le_trans (Nat.mul_le_mul_right _ (by omega)) h3, ?_⟩
    rw [← h4, List.take_take, Nat.min_eq_left hms]
end

/-- append onto such a row, out of whatever cells. -/
theorem run_append_S {P : Program} (w : World) (t ty e : TypeId) (i : TypeInfo) (z : Value) (size bytes : Nat) (ht : P.underlying t = some (.slice e)) (hi : P.info? e = some i) (hz : i.zero = some z)
    (hsize : i.size = size) (hby : i.bytes = bytes) (hzs : z.cells.size = size) (hsz : 0 < size)
    (v : Value) (n : Nat) (xs : List Value) (hown : rowS w e size v n xs)
    (sa : Option Addr) (m c : Nat) (news : List Value) (hl : news.length = m * size) (hsa : m = 0 ∨ ∃ a, sa = some a ∧ ∀ j u, news[j]? = some u → w.cell? (a.add j) = some u) (h1 : ∀ u ∈ news, u.oneCell' = true)
    (h63 : n + m ≤ maxLen) (hbytes : (n + m) * bytes ≤ 140737488355328) :
    ∃ aa cap w', (Builtin.append_ #[t, t] ty #[v, .slice sa m c]).run P w = .ok (.slice aa (n + m) cap) w' ∧ rowS w' e size (.slice aa (n + m) cap) (n + m) (xs ++ news) ∧ w.grownBy w' v.ownBlock ∧
      ((Value.slice aa (n + m) cap).ownBlock = v.ownBlock ∨ (Value.slice aa (n + m) cap).ownBlock = some w.heap.size) := by
  subst hsize
  subst hby
  have hsmall : n + m ≤ 9223372036854775807 := by simp only [maxLen] at h63; omega
  have hlen : (xs ++ news).length = (n + m) * i.size := by rw [List.length_append, hown.1, hl, Nat.add_mul]
  by_cases hm : m = 0
  · subst hm
    have hn : news = [] := List.eq_nil_of_length_eq_zero (by simpa using hl)
    subst hn
    obtain ⟨aa, cap, rfl, hnc, _⟩ := rowS_val hown
    refine ⟨aa, cap, w, ?_, by simpa using hown, World.grownBy.refl w _, .inl rfl⟩
    cases aa <;> cases sa <;> simp [Builtin.append_, run_underlying ht, sizeOf, typeInfo, hi, Builtin.lenOf, Builtin.firstCells, loadCells, loadCellsFrom, storeCells, hnc]
  · obtain ⟨a, rfl, hnews⟩ : ∃ a, sa = some a ∧ ∀ j u, news[j]? = some u → w.cell? (a.add j) = some u := hsa.resolve_left hm
    have grown : ∀ (old : Nat), old < n + m → ∀ (row : Option Nat),
        rowS (w.drew.alloc (.cells (xs.toArray ++ news.toArray ++ Builtin.zeroCells z.cells (grownCap w (n + m) old e - (n + m))) e)) e i.size
          (.slice (some ⟨w.heap.size, 0, none⟩) (n + m) (grownCap w (n + m) old e)) (n + m) (xs ++ news) ∧
        w.grownBy (w.drew.alloc (.cells (xs.toArray ++ news.toArray ++ Builtin.zeroCells z.cells (grownCap w (n + m) old e - (n + m))) e)) row := by
      intro old ho row
      have hge := grownCap_ge w (n + m) old e
      have hcm : grownCap w (n + m) old e ≤ maxLen := grownCap_le_maxLen w (n + m) old e h63
      refine ⟨⟨hlen, .inr ⟨w.heap.size, _, _, rfl, heap_alloc_new w.drew _, hge, hcm, ?_, ?_⟩⟩, ⟨rfl, rfl, rfl, by simp, fun k hk _ => Below.heap_alloc w.drew _ k hk⟩⟩
      · simp only [Array.size_append, List.size_toArray, size_zeroCells, hzs, hown.1, hl, ← Nat.add_mul]
        refine Nat.le_of_eq ?_
        congr 1
        omega
      · simp only [Array.toList_append, List.append_assoc]
        rw [← List.append_assoc, ← hlen]
        exact List.take_left
    rcases hown.2 with ⟨rfl, rfl⟩ | ⟨g, cap, cur, rfl, hg, hnc, hcm, hcs, htake⟩
    · have hx : xs = [] := List.eq_nil_of_length_eq_zero (by simpa using hown.1)
      subst hx
      have hr := run_append_nil (P := P) w t ty e i z ht hi hz a m c news hl hnews (by omega) (by omega) (by have hb := hbytes; simp only [Nat.zero_add] at hb; omega)
      have hgr := grown 0 (by omega) (Value.ownBlock (.slice none 0 0))
      simp only [Nat.zero_add, List.nil_append, Array.empty_append] at hgr ⊢
      exact ⟨_, _, _, hr, hgr.1, hgr.2, Or.inr rfl⟩
    · by_cases hroom : n + m ≤ cap
      · have hfit : n * i.size + news.length ≤ cur.size := by
          rw [hl, ← Nat.add_mul]
          exact Nat.le_trans (Nat.mul_le_mul_right _ hroom) hcs
        have hr := run_append_room (P := P) w t ty e i ht hi g n cap cur hg a m c news hl hnews h1 hroom hfit
        refine ⟨_, _, _, hr, ⟨hlen, .inr ⟨g, cap, _, rfl, setRow_heap w g cur _ e _ hg, hroom, hcm, ?_, ?_⟩⟩, ⟨rfl, rfl, rfl, by simp, fun k _ hk => setRow_other w g k _ (fun e => hk (by simp [Value.ownBlock, e]))⟩, Or.inl rfl⟩
        · simp only [List.size_toArray, List.length_append, List.length_take, List.length_drop, Array.length_toList]
          omega
        · rw [htake, ← hlen]
          exact List.take_left
      · have hr := run_append_grow (P := P) w t ty e i z ht hi hz ⟨g, 0, none⟩ n cap xs hown.1 (rowS_cells hown) a m c news hl hnews (by omega) (by omega) (growslice_fits (by omega) hbytes)
        have hgr := grown cap (by omega) (Value.ownBlock (.slice (some ⟨g, 0, none⟩) n cap))
        exact ⟨_, _, _, hr, hgr.1, hgr.2, Or.inr rfl⟩

/-- The row of a slice, as a thing. -/
def rowT (e : TypeId) (size : Nat) (v : Value) (n : Nat) (xs : List Value) : Thing where
  holds w fp := fp = sb v ∧ rowS w e size v n xs
  keep := fun ⟨h1, h2⟩ he => ⟨h1, rowS_keep h2 (fun k hk => he k (h1 ▸ hk))⟩
  lt := fun ⟨h1, h2⟩ k hk => rowS_lt h2 k (h1 ▸ hk)
section
variable {T : List Nat} {w0 w w' : World} {l : List Thing}
theorem Led.rowSAt (h : Led T w0 w l) (i : Nat) {e : TypeId} {size : Nat} {v : Value} {n : Nat} {xs : List Value} (hi : l[i]? = some (rowT e size v n xs)) : rowS w e size v n xs := let ⟨_, h, _⟩ := h.get i hi; h.2
theorem Led.rowSnil (h : Led T w0 w l) (e : TypeId) (size : Nat) : Led T w0 w (l ++ [rowT e size (.slice none 0 0) 0 []]) := h.new (t' := rowT e size (.slice none 0 0) 0 []) (f' := []) ⟨rfl, rowS_nil _ _ _⟩ ⟨Touch.refl _ _, by simp⟩
theorem Led.grownS (h : Led T w0 w l) (i : Nat) {e : TypeId} {size n n' : Nat} {v v' : Value} {xs xs' : List Value} (hi : l[i]? = some (rowT e size v n xs)) (hg : w.grownBy w' v.ownBlock) (ho : rowS w' e size v' n' xs') (hat : v'.ownBlock = v.ownBlock ∨ v'.ownBlock = some w.heap.size) :
    Led T w0 w' (l.set i (rowT e size v' n' xs')) := by
  obtain ⟨f, ⟨hf, hb⟩, _, hs⟩ := h.step i hi
  subst hf
  refine hs _ _ _ ⟨rfl, ho⟩ ⟨Touch.of_grown hg (fun k hk => .inl (by simp [sb, hk])), fun k hk => ?_⟩
  rcases hat with h | h
  · exact .inl (by rw [sb, ← h]; exact hk)
  · exact .inr (by rw [sb, h] at hk; simp at hk; omega)
end
end Go.Proofs.Ytihmbgdkllmkaaa
