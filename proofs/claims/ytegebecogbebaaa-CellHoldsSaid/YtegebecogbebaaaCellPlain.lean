/-
  The plain law of CellHolds: the accesses to a cell form a chain. No program is in sight.
-/
import Derived.Test.YtegebecogbebaaaCell
namespace Go.Proofs.Ytegebecogbebaaa
open Go.RowKit

/-- What the cells hold behind accesses, by these alone. -/
def hasOf (m : Nat) (L : List Acc) : List Nat := L.foldl (fun h c => h.set c.at_ c.new) (List.replicate m 0)
theorem hasOf_length (m : Nat) (L : List Acc) : (hasOf m L).length = m := by
  have : ∀ (L : List Acc) (h : List Nat), (L.foldl (fun h c => h.set c.at_ c.new) h).length = h.length := by
    intro L
    induction L with
    | nil => intro h; rfl
    | cons c L ih => intro h; rw [List.foldl_cons, ih]; simp
  rw [hasOf, this]; simp
theorem hasOf_snoc (m : Nat) (L : List Acc) (c : Acc) : hasOf m (L ++ [c]) = (hasOf m L).set c.at_ c.new := by simp [hasOf]

/-- An access fits: its cell, what was there, whether it is done, what is there then; x: the number that was asked for. -/
def Fits (m : Nat) (has : List Nat) (x : Nat) (c : Acc) : Prop :=
  c.at_ < m ∧ c.old = has.getD c.at_ 0 ∧ c.did = (c.op != 3 || c.old == x) ∧ ((c.op = 1 ∨ c.did = false) → c.new = c.old) ∧ c.op < 5 ∧ Wd c.old ∧ Wd c.new

structure Good (m : Nat) (ax : List Nat) (s : Ar) : Prop where
  C : s.C = hasOf m s.L
  len : ax.length = s.L.length
  acc : ∀ j (hj : j < s.L.length), Fits m (hasOf m (s.L.take j)) (ax.getD j 0) s.L[j]

theorem Good.clen {m : Nat} {ax : List Nat} {s : Ar} (h : Good m ax s) : s.C.length = m := by rw [h.C, hasOf_length]
theorem Good.step {m : Nat} {ax : List Nat} {s : Ar} (h : Good m ax s) (op q x : Nat) (hq : q < m) (chg : Nat → Nat × Bool) (hw : ∀ was, Wd was → Wd (chg was).1) (hwd : ∀ n ∈ s.C, Wd n) (hop : op < 5)
    (hd : ∀ was, (chg was).2 = (op != 3 || was == x)) (h1 : op = 1 → ∀ was, (chg was).1 = was) : Good m (ax ++ [x]) (s.doBy op (q : Int) chg).1 := by
  have hcl := h.clen
  have hin : (0 : Int) ≤ (q : Int) ∧ (q : Int) < (s.C.length : Int) := ⟨by omega, by omega⟩
  have hold : Wd (s.C.getD q 0) := by
    have : s.C.getD q 0 = s.C[q]'(by omega) := by simp [List.getD, show q < s.C.length by omega]
    rw [this]; exact hwd _ (List.getElem_mem _)
  have e : (s.doBy op (q : Int) chg).1 = s.acc op q (if (chg (s.C.getD q 0)).2 then (chg (s.C.getD q 0)).1 else s.C.getD q 0) (chg (s.C.getD q 0)).2 := by
    simp only [Ar.doBy, if_pos hin, Int.toNat_natCast]
  rw [e]
  refine ⟨?_, by simp [Ar.acc, h.len], fun j hj => ?_⟩
  · simp only [Ar.acc, hasOf_snoc, ← h.C]
  · simp only [Ar.acc, List.length_append, List.length_cons, List.length_nil] at hj
    by_cases hjl : j < s.L.length
    · have := h.acc j hjl
      simp only [Ar.acc]
      rw [List.getElem_append_left hjl, List.take_append_of_le_length (by omega)]
      have e2 : (ax ++ [x]).getD j 0 = ax.getD j 0 := by simp only [List.getD]; rw [List.getElem?_append_left (by rw [h.len]; exact hjl)]
      rw [e2]; exact this
    · have hjj : j = s.L.length := by omega
      subst hjj
      simp only [Ar.acc]
      rw [List.getElem_append_right (by omega)]
      have e2 : (ax ++ [x]).getD s.L.length 0 = x := by simp only [List.getD]; rw [List.getElem?_append_right (by rw [h.len]; omega), h.len]; simp
      rw [e2, List.take_left' rfl, ← h.C]
      simp only [Nat.sub_self, List.getElem_cons_zero]
      refine ⟨hq, rfl, hd _, ?_, hop, hold, ?_⟩
      · intro ho
        show (if (chg (s.C.getD q 0)).2 then (chg (s.C.getD q 0)).1 else s.C.getD q 0) = s.C.getD q 0
        rcases ho with ho | ho
        · rw [h1 ho]; split <;> rfl
        · rw [show (chg (s.C.getD q 0)).2 = false from ho]; rfl
      · show Wd (if (chg (s.C.getD q 0)).2 then (chg (s.C.getD q 0)).1 else s.C.getD q 0)
        split
        · exact hw _ hold
        · exact hold
theorem doBy_len {s : Ar} {op q : Nat} {chg : Nat → Nat × Bool} (hq : q < s.C.length) : (s.doBy op (q : Int) chg).1.L.length = s.L.length + 1 := by
  simp only [Ar.doBy]; rw [if_pos ⟨by omega, by omega⟩]; simp [Ar.acc]
theorem doBy_err0 {s : Ar} {op q : Nat} {chg : Nat → Nat × Bool} (hq : q < s.C.length) : (s.doBy op (q : Int) chg).2.2 = 0 := by
  simp only [Ar.doBy]; rw [if_pos ⟨by omega, by omega⟩]
theorem doBy_wd {s : Ar} {op q : Nat} {chg : Nat → Nat × Bool} (hq : q < s.C.length) (hw : ∀ was, Wd was → Wd (chg was).1) (hwd : ∀ n ∈ s.C, Wd n) : ∀ n ∈ (s.doBy op (q : Int) chg).1.C, Wd n := by
  simp only [Ar.doBy]; rw [if_pos ⟨by omega, by omega⟩]
  have hold : Wd (s.C.getD q 0) := by
    have : s.C.getD q 0 = s.C[q] := by simp [List.getD, hq]
    rw [this]; exact hwd _ (List.getElem_mem _)
  refine wd_set hwd _ _ ?_
  simp only [Int.toNat_natCast]
  split
  · exact hw _ hold
  · exact hold
end Go.Proofs.Ytegebecogbebaaa
