/-
  The plain model of layer 1: an arena is a list of words, how many there may be, and all accesses. No program is in sight.
-/
import Derived.Test.YtihmbgdkllmkaaaMem
namespace Go.Proofs.Ytihmbgdkllmkaaa
open Go.RowKit

/-- An access: its operation, its cell, what the cell held, what it holds, whether it was done. -/
structure Acc where
  op : Nat
  at_ : Nat
  old : Nat
  new : Nat
  did : Bool
deriving DecidableEq

def Acc.cells (x : Acc) : List Value := [.int .i64 x.op, .int .i64 x.at_, .int .u64 x.old, .int .u64 x.new, .bool x.did]
def Acc.zero : Acc := ⟨0, 0, 0, 0, false⟩
theorem Acc.cells_length (x : Acc) : x.cells.length = 5 := rfl
def accCells (l : List Acc) : List Value := l.flatMap Acc.cells
theorem accCells_length (l : List Acc) : (accCells l).length = l.length * 5 := by
  induction l with
  | nil => rfl
  | cons x l ih => simp only [accCells, List.flatMap_cons, List.length_append, Acc.cells_length, List.length_cons] at ih ⊢; omega
theorem accCells_append (a b : List Acc) : accCells (a ++ b) = accCells a ++ accCells b := by simp [accCells]
theorem accCells_get (l : List Acc) (i : Nat) (hi : i < l.length) (j : Nat) (hj : j < 5) : (accCells l)[i * 5 + j]? = l[i].cells[j]? := by
  induction l generalizing i with
  | nil => simp at hi
  | cons x l ih =>
    simp only [accCells, List.flatMap_cons]
    cases i with
    | zero =>
      rw [List.getElem?_append_left (by simp [Acc.cells_length]; omega)]
      simp
    | succ i =>
      rw [List.getElem?_append_right (by simp [Acc.cells_length]; omega)]
      have := ih i (by simpa using hi)
      simp only [Acc.cells_length, List.getElem_cons_succ]
      rw [show (i + 1) * 5 + j - 5 = i * 5 + j from by omega]
      exact this
theorem accCells_set (l : List Acc) (i : Nat) (hi : i < l.length) (x : Acc) :
    accCells (l.set i x) = ((((((accCells l).set (i * 5) (.int .i64 x.op)).set (i * 5 + 1) (.int .i64 x.at_)).set (i * 5 + 2) (.int .u64 x.old)).set (i * 5 + 3) (.int .u64 x.new)).set (i * 5 + 4) (.bool x.did)) := by
  induction l generalizing i with
  | nil => simp at hi
  | cons y l ih =>
    cases i with
    | zero => simp [accCells, Acc.cells]
    | succ i =>
      have := ih i (by simpa using hi)
      simp only [accCells, List.set_cons_succ, List.flatMap_cons] at this ⊢
      rw [this]
      simp only [Acc.cells, List.cons_append, List.nil_append]
      rw [show (i + 1) * 5 = i * 5 + 1 + 1 + 1 + 1 + 1 from by omega]
      simp only [List.set_cons_succ]

/-- An arena: its words, how many there may be, all accesses. -/
structure Ar where
  C : List Nat
  most : Nat
  L : List Acc

/-- r is what is remembered of L: the last 1024, each at its number modulo 1024. -/
def Ring (L r : List Acc) : Prop := r.length = min L.length 1024 ∧ ∀ j, L.length ≤ j + 1024 → j < L.length → r[j % 1024]? = L[j]?

theorem Ring.nil : Ring [] [] := ⟨rfl, fun j _ h => by simp at h⟩
theorem Ring.push {L r : List Acc} (h : Ring L r) (hl : r.length < 1024) (x : Acc) : Ring (L ++ [x]) (r ++ [x]) := by
  obtain ⟨h1, h2⟩ := h
  have hL : L.length < 1024 := by omega
  refine ⟨by simp; omega, fun j hj1 hj2 => ?_⟩
  simp only [List.length_append, List.length_cons, List.length_nil] at hj1 hj2
  rw [Nat.mod_eq_of_lt (by omega)]
  by_cases hj : j < L.length
  · rw [List.getElem?_append_left (by omega), List.getElem?_append_left hj]
    have := h2 j (by omega) hj
    rwa [Nat.mod_eq_of_lt (by omega)] at this
  · have e : j = L.length := by omega
    have e2 : r.length = L.length := by omega
    rw [List.getElem?_append_right (by omega), List.getElem?_append_right (by omega), e2, e]
theorem Ring.turn {L r : List Acc} (h : Ring L r) (hl : ¬ r.length < 1024) (x : Acc) : Ring (L ++ [x]) (r.set (L.length % 1024) x) := by
  obtain ⟨h1, h2⟩ := h
  have hr : r.length = 1024 := by omega
  refine ⟨by simp; omega, fun j hj1 hj2 => ?_⟩
  simp only [List.length_append, List.length_cons, List.length_nil] at hj1 hj2
  by_cases hj : j < L.length
  · rw [List.getElem?_append_left hj, List.getElem?_set_ne (by omega)]
    exact h2 j (by omega) hj
  · have e : j = L.length := by omega
    subst e
    rw [List.getElem?_set_self (by have := Nat.mod_lt L.length (show 0 < 1024 by omega); omega)]
    simp

/-- The words, as cells. -/
def words (l : List Nat) : List Value := l.map fun (n : Nat) => .int .u64 (n : Int)
theorem words_length (l : List Nat) : (words l).length = l.length := by simp [words]
theorem words_append (a b : List Nat) : words (a ++ b) = words a ++ words b := by simp [words]
theorem words_get (l : List Nat) (i : Nat) (hi : i < l.length) : (words l)[i]? = some (.int .u64 (l[i] : Int)) := by simp [words, hi]
theorem words_set (l : List Nat) (i : Nat) (n : Nat) : words (l.set i n) = (words l).set i (.int .u64 (n : Int)) := by simp [words, List.map_set]

/-- A word's range. -/
def Wd (n : Nat) : Prop := n < 18446744073709551616

/-- An arena at block g in memory: its struct, the row of its accesses, the row of its words. -/
structure ArAt (w : World) (g : Nat) (v1 v2 : Value) (r : List Acc) (s : Ar) : Prop where
  blk : Blk w g 131 #[.int .u64 (s.L.length : Int), v1, .int .i64 (s.most : Int), v2]
  log : w.ownsRow 0 175 5 v1 r.length (accCells r)
  cel : w.ownsRow 0 127 1 v2 s.C.length (words s.C)
  ring : Ring s.L r
  most1 : 1 ≤ s.most
  most2 : s.most ≤ 65536
  len : s.C.length ≤ s.most
  wd : ∀ n ∈ s.C, Wd n

/-- The same, its blocks named: fp. -/
def IsAr (w : World) (g : Nat) (fp : List Nat) (s : Ar) : Prop := ∃ v1 v2 r, ArAt w g v1 v2 r s ∧ fp = g :: (sb v1 ++ sb v2)

theorem IsAr.keep {w w' : World} {g : Nat} {fp : List Nat} {s : Ar} (h : IsAr w g fp s) (he : ∀ k ∈ fp, w'.heap[k]? = w.heap[k]?) : IsAr w' g fp s := by
  obtain ⟨v1, v2, r, h, rfl⟩ := h
  exact ⟨v1, v2, r, ⟨h.blk.keep (he g (by simp)), own_keep h.log (fun k hk => he k (by simp [hk])), own_keep h.cel (fun k hk => he k (by simp [hk])), h.ring, h.most1, h.most2, h.len, h.wd⟩, rfl⟩
theorem IsAr.lt {w : World} {g : Nat} {fp : List Nat} {s : Ar} (h : IsAr w g fp s) : ∀ k ∈ fp, k < w.heap.size := by
  obtain ⟨v1, v2, r, h, rfl⟩ := h
  intro k hk
  simp only [List.mem_cons, List.mem_append] at hk
  rcases hk with rfl | hk | hk
  · exact h.blk.lt
  · exact own_lt h.log k hk
  · exact own_lt h.cel k hk
theorem IsAr.touch {w w' : World} {g : Nat} {fp S : List Nat} {s : Ar} (h : IsAr w g fp s) (ht : Touch S w w') (hd : ∀ k ∈ fp, k ∉ S) : IsAr w' g fp s :=
  h.keep fun k hk => ht.block k (h.lt k hk) (hd k hk)
theorem IsAr.drewN {w : World} {g : Nat} {fp : List Nat} {s : Ar} (h : IsAr w g fp s) (n : Nat) : IsAr (w.drewN n) g fp s := h.keep fun _ _ => rfl
theorem IsAr.alloc {w : World} {g : Nat} {fp : List Nat} {s : Ar} (h : IsAr w g fp s) (o : Obj) : IsAr (w.alloc o) g fp s := h.keep fun k hk => Below.heap_alloc w o k (h.lt k hk)

/-- A step of what lies at fp: nothing else has turned; what it lies at then is that, or new. -/
structure Moved (fp fp' : List Nat) (w w' : World) : Prop where
  touch : Touch fp w w'
  fp : ∀ k ∈ fp', k ∈ fp ∨ w.heap.size ≤ k
theorem Moved.refl (fp : List Nat) (w : World) : Moved fp fp w w := ⟨Touch.refl _ _, fun _ h => .inl h⟩
theorem Moved.trans {a b c : List Nat} {w w1 w2 : World} (h : Moved a b w w1) (h' : Moved b c w1 w2) : Moved a c w w2 :=
  ⟨h.touch.trans h'.touch h.fp, fun k hk => (h'.fp k hk).elim (fun h2 => h.fp k h2) (fun h2 => .inr (Nat.le_trans h.touch.size h2))⟩
theorem Moved.drewN {a b : List Nat} {w w1 : World} (h : Moved a b w w1) (n : Nat) : Moved a b w (w1.drewN n) := ⟨h.touch.drewN n, h.fp⟩
theorem Moved.alloc {a b : List Nat} {w w1 : World} (h : Moved a b w w1) (o : Obj) : Moved a b w (w1.alloc o) := ⟨h.touch.alloc o, h.fp⟩
end Go.Proofs.Ytihmbgdkllmkaaa
