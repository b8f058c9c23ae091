/-
  Words for memory, over no program: which blocks a call may have turned ('Touch'), a block that is known whole ('Blk'), a row that a slice owns.
-/
import Derived.Below
import Derived.Laws.OwnMore
import Derived.Laws.Rows
import Derived.Deep.Draws
import Derived.Deep.AppendLies
namespace Go.Proofs.Ytihmbgdkllmkaaa
open Go.RowKit

/-- Blocks outside S are as they were; no block has gone; the streams are as they were. -/
structure Touch (S : List Nat) (w w' : World) : Prop where
  os : w'.os = w.os
  tape : w'.tape = w.tape
  output : w'.output = w.output
  size : w.heap.size ≤ w'.heap.size
  block : ∀ k, k < w.heap.size → k ∉ S → w'.heap[k]? = w.heap[k]?

section
variable {S S' : List Nat} {w w1 w2 : World}
theorem Touch.refl (S : List Nat) (w : World) : Touch S w w := ⟨rfl, rfl, rfl, Nat.le_refl _, fun _ _ _ => rfl⟩
theorem Touch.mono (h : Touch S w w1) (hS : ∀ k ∈ S, k ∈ S' ∨ w.heap.size ≤ k) : Touch S' w w1 :=
  ⟨h.os, h.tape, h.output, h.size, fun k hk hn => h.block k hk (fun hc => (hS k hc).elim hn (fun h2 => by omega))⟩
theorem Touch.trans (h : Touch S w w1) (h' : Touch S' w1 w2) (hS : ∀ k ∈ S', k ∈ S ∨ w.heap.size ≤ k) : Touch S w w2 :=
  ⟨h'.os.trans h.os, h'.tape.trans h.tape, h'.output.trans h.output, Nat.le_trans h.size h'.size, fun k hk hn =>
    (h'.block k (Nat.lt_of_lt_of_le hk h.size) (fun hc => (hS k hc).elim hn (fun h2 => by omega))).trans (h.block k hk hn)⟩
theorem Touch.trans' (h : Touch S w w1) (h' : Touch S w1 w2) : Touch S w w2 := h.trans h' (fun _ hk => .inl hk)
theorem Touch.alloc (h : Touch S w w1) (o : Obj) : Touch S w (w1.alloc o) :=
  ⟨h.os, h.tape, h.output, Nat.le_trans h.size (by simp), fun k hk hn => (Below.heap_alloc w1 o k (Nat.lt_of_lt_of_le hk h.size)).trans (h.block k hk hn)⟩
theorem Touch.drew (h : Touch S w w1) : Touch S w w1.drew := ⟨h.os, h.tape, h.output, h.size, h.block⟩
theorem Touch.drewN (h : Touch S w w1) (n : Nat) : Touch S w (w1.drewN n) := ⟨h.os, h.tape, h.output, h.size, h.block⟩
theorem Touch.setCell (h : Touch S w w1) (p : Addr) (u : Value) (hp : p.block ∈ S ∨ w.heap.size ≤ p.block) : Touch S w (w1.setCell p u) :=
  ⟨h.os, h.tape, h.output, by simpa [World.setCell] using h.size, fun k hk hn => (Below.heap_setCell w1 p u k (by
    rintro rfl
    exact hp.elim hn (fun h2 => by omega))).trans (h.block k hk hn)⟩
theorem Touch.grown (h : Touch S w w1) {row : Option Nat} (hg : w1.grownBy w2 row) (hr : ∀ k, row = some k → k ∈ S ∨ w.heap.size ≤ k) : Touch S w w2 :=
  ⟨hg.os.trans h.os, hg.tape.trans h.tape, hg.output.trans h.output, Nat.le_trans h.size hg.size, fun k hk hn =>
    (hg.block k (Nat.lt_of_lt_of_le hk h.size) (fun e => (hr k e.symm).elim hn (fun h2 => by omega))).trans (h.block k hk hn)⟩
theorem Touch.below (h : Touch [] w w1) : Below w.heap.size w w1 := ⟨h.os, h.tape, h.output, h.size, fun k hk => h.block k hk (by simp)⟩
theorem Touch.below_of (h : Touch S w w1) {B : Nat} (hB : B ≤ w.heap.size) (hS : ∀ k ∈ S, B ≤ k) : Below B w w1 :=
  ⟨h.os, h.tape, h.output, h.size, fun k hk => h.block k (by omega) (fun hc => by have := hS k hc; omega)⟩
theorem Touch.of_below (h : Below w.heap.size w w1) (S : List Nat) : Touch S w w1 := ⟨h.os, h.tape, h.output, h.size, fun k hk _ => h.block k hk⟩
theorem Touch.of_grown {row : Option Nat} (hg : w.grownBy w1 row) (hr : ∀ k, row = some k → k ∈ S ∨ w.heap.size ≤ k) : Touch S w w1 := (Touch.refl S w).grown hg hr
end

/-- Block g is just the cells cs, of element type t; none is frozen. -/
def Blk (w : World) (g : Nat) (t : TypeId) (cs : Array Value) : Prop := w.heap[g]? = some (.cells cs t (0, 0))

section
variable {w w' : World} {g : Nat} {t : TypeId} {cs : Array Value} {S : List Nat}
theorem Blk.lt (h : Blk w g t cs) : g < w.heap.size := (Array.getElem?_eq_some_iff.1 h).1
theorem Blk.cell (h : Blk w g t cs) (i : Nat) : w.cell? ⟨g, i, none⟩ = cs[i]? := cell_of_row w g i cs t (0, 0) h
theorem Blk.frozen (h : Blk w g t cs) (i : Nat) : w.frozen? ⟨g, i, none⟩ = false := by
  unfold Blk at h
  simp [World.frozen?, h]
theorem Blk.new (w : World) (t : TypeId) (cs : Array Value) : Blk (w.alloc (.cells cs t)) w.heap.size t cs := heap_alloc_new w _
theorem Blk.keep (h : Blk w g t cs) (he : w'.heap[g]? = w.heap[g]?) : Blk w' g t cs := he.trans h
theorem Blk.alloc (h : Blk w g t cs) (o : Obj) : Blk (w.alloc o) g t cs := h.keep (Below.heap_alloc w o g h.lt)
theorem Blk.drewN (h : Blk w g t cs) (n : Nat) : Blk (w.drewN n) g t cs := h
theorem Blk.drew (h : Blk w g t cs) : Blk w.drew g t cs := h
theorem Blk.set (h : Blk w g t cs) (i : Nat) (u : Value) : Blk (w.setCell ⟨g, i, none⟩ u) g t (cs.setIfInBounds i u) := by
  unfold Blk at h ⊢
  simp [World.setCell, Array.getElem?_modify, h]
theorem Blk.far (h : Blk w g t cs) {p : Addr} (hp : g ≠ p.block) (u : Value) : Blk (w.setCell p u) g t cs := h.keep (Below.heap_setCell w p u g hp)
theorem Blk.touch (h : Blk w g t cs) (ht : Touch S w w') (hg : g ∉ S) : Blk w' g t cs := h.keep (ht.block g h.lt hg)
theorem Blk.grown {row : Option Nat} (h : Blk w g t cs) (hb : w.grownBy w' row) (hg : some g ≠ row) : Blk w' g t cs := h.keep (hb.block g h.lt hg)
theorem Blk.ne {g' : Nat} {t' : TypeId} {cs' : Array Value} (h : Blk w g t cs) (h' : Blk w g' t' cs') (hne : t ≠ t') : g ≠ g' := by
  rintro rfl
  unfold Blk at h h'
  rw [h] at h'
  injection h' with h'
  injection h' with _ ht
  exact hne ht
end

/-- The blocks of a slice's own row. -/
def sb (v : Value) : List Nat := v.ownBlock.toList

section
variable {w w' : World} {e : TypeId} {size : Nat} {v : Value} {n : Nat} {xs : List Value} {S : List Nat}
theorem own_ne {g : Nat} {t : TypeId} {cs : Array Value} (h : w.ownsRow 0 e size v n xs) (hg : Blk w g t cs) (hne : t ≠ e) : g ∉ sb v := by
  rcases h.2 with ⟨rfl, _⟩ | ⟨g', cap, cur, rfl, _, hh, _⟩
  · simp [sb, Value.ownBlock]
  · intro he
    have : g = g' := by simpa [sb, Value.ownBlock] using he
    subst this
    exact Blk.ne hg (show Blk w g e cur from hh) hne rfl
theorem own_ne2 {e' : TypeId} {size' n' : Nat} {v' : Value} {xs' : List Value} (h : w.ownsRow 0 e size v n xs) (h' : w.ownsRow 0 e' size' v' n' xs') (hne : e ≠ e') : ∀ k ∈ sb v, k ∉ sb v' := by
  rcases h.2 with ⟨rfl, _⟩ | ⟨g', cap, cur, rfl, _, hh, _⟩
  · simp [sb, Value.ownBlock]
  · intro k hk
    have : k = g' := by simpa [sb, Value.ownBlock] using hk
    subst this
    exact own_ne h' (show Blk w k e cur from hh) hne
theorem own_lt (h : w.ownsRow 0 e size v n xs) : ∀ k ∈ sb v, k < w.heap.size := by
  intro k hk
  exact (h.lt k (by simpa [sb] using hk)).2
theorem own_keep (h : w.ownsRow 0 e size v n xs) (he : ∀ k ∈ sb v, w'.heap[k]? = w.heap[k]?) : w'.ownsRow 0 e size v n xs := by
  refine ⟨h.1, ?_⟩
  rcases h.2 with hn | ⟨g, cap, cur, rfl, hb, hgg, rest⟩
  · exact .inl hn
  · exact .inr ⟨g, cap, cur, rfl, hb, (he g (by simp [sb, Value.ownBlock])).trans hgg, rest⟩
theorem own_touch (h : w.ownsRow 0 e size v n xs) (ht : Touch S w w') (hd : ∀ k ∈ sb v, k ∉ S) : w'.ownsRow 0 e size v n xs :=
  own_keep h (fun k hk => ht.block k (own_lt h k hk) (hd k hk))
theorem own_drewN (h : w.ownsRow 0 e size v n xs) (k : Nat) : (w.drewN k).ownsRow 0 e size v n xs := own_keep h (fun _ _ => rfl)
theorem own_drew (h : w.ownsRow 0 e size v n xs) : w.drew.ownsRow 0 e size v n xs := own_keep h (fun _ _ => rfl)
theorem own_setCell (h : w.ownsRow 0 e size v n xs) (p : Addr) (u : Value) (hp : p.block ∉ sb v) : (w.setCell p u).ownsRow 0 e size v n xs :=
  own_keep h (fun k hk => Below.heap_setCell w p u k (fun he => hp (he ▸ hk)))
/-- What an owned row that is not empty looks like. -/
theorem own_form (h : w.ownsRow 0 e size v n xs) (hn : 0 < n) : ∃ g cap cur, v = .slice (some ⟨g, 0, none⟩) n cap ∧ Blk w g e cur ∧ n ≤ cap ∧ cap ≤ maxLen ∧ cur.size = cap * size ∧ cur.toList.take (n * size) = xs := by
  rcases h.2 with ⟨_, h0⟩ | ⟨g, cap, cur, hv, _, hg, h1, h2, h3, h4⟩
  · omega
  · exact ⟨g, cap, cur, hv, hg, h1, h2, h3, h4⟩
theorem own_val (h : w.ownsRow 0 e size v n xs) : ∃ a cap, v = .slice a n cap ∧ n ≤ cap ∧ cap ≤ maxLen := by
  rcases h.2 with ⟨hv, h0⟩ | ⟨g, cap, cur, hv, _, hg, h1, h2, h3, h4⟩
  · exact ⟨none, 0, by rw [hv, h0], by omega, by simp [maxLen]⟩
  · exact ⟨_, cap, hv, h1, h2⟩
/-- A store into an owned row. -/
theorem own_set {g cap : Nat} (h : w.ownsRow 0 e size (.slice (some ⟨g, 0, none⟩) n cap) n xs) (j : Nat) (u : Value) :
    (w.setCell ⟨g, j, none⟩ u).ownsRow 0 e size (.slice (some ⟨g, 0, none⟩) n cap) n (xs.set j u) := by
  refine ⟨by rw [List.length_set]; exact h.1, ?_⟩
  rcases h.2 with ⟨hv, _⟩ | ⟨g', cap', cur, hv, hb, hg, h1, h2, h3, h4⟩
  · cases hv
  · injection hv with ha _ hc
    injection ha with ha
    injection ha with ha
    subst ha; subst hc
    refine .inr ⟨g, cap, cur.setIfInBounds j u, rfl, hb, Blk.set (show Blk w g e cur from hg) j u, h1, h2, by simpa using h3, ?_⟩
    rw [← h4]
    simp [List.take_set]
theorem own_cell {g cap : Nat} (h : w.ownsRow 0 e size (.slice (some ⟨g, 0, none⟩) n cap) n xs) (j : Nat) (hj : j < xs.length) : w.cell? ⟨g, j, none⟩ = some xs[j] := by
  have := h.cells (g := g) rfl j xs[j] (List.getElem?_eq_getElem hj)
  rwa [show (⟨g, 0, none⟩ : Addr).add j = ⟨g, j, none⟩ from by unfold Addr.add; split <;> simp_all] at this
theorem own_frozen {g cap : Nat} (h : w.ownsRow 0 e size (.slice (some ⟨g, 0, none⟩) n cap) n xs) (j : Nat) : w.frozen? ⟨g, j, none⟩ = false := by
  rcases h.2 with ⟨hv, _⟩ | ⟨g', cap', cur, hv, hb, hg, h1, h2, h3, h4⟩
  · cases hv
  · injection hv with ha _ hc
    injection ha with ha
    injection ha with ha
    subst ha
    exact Blk.frozen (show Blk w g e cur from hg) j
end
end Go.Proofs.Ytihmbgdkllmkaaa
