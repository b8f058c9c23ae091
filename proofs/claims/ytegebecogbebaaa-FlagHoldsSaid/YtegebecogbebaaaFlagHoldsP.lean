/-
  FlagHolds: what a flag of one cell does, in the ledger; how acts go on; a []uint8 of a row.
-/
import Derived.Test.YtegebecogbebaaaWorks12
namespace Go.Proofs.Ytegebecogbebaaa
open Go.RowKit Go.Shelf
set_option maxRecDepth 100000
set_option linter.unusedVariables false
set_option linter.unusedSimpArgs false

/-- An arena of one cell. -/
def oneC (c : Nat) (Lg : List Acc) : Ar := ⟨[c], 1, Lg⟩
section
variable {T : List Nat} {w0 w : World} {l : List Thing} {g c : Nat} {Lg : List Acc} (h : Led T w0 w l) (i : Nat) (hi : l[i]? = some (arena g (oneC c Lg))) (hn : Lg.length < 4611686018427387904) (hc : c ≤ 2)
include h hi hn hc
theorem Led.lookC : Calls Try.prog 44 #[.pointer (some ⟨g, 0, none⟩), .int .i64 0] w fun e w' => ∃ Lg', e = .returned (.tuple #[.int .i64 (c : Int), .int .i64 0]) ∧ Lg'.length = Lg.length + 1 ∧ Led T w0 w' (l.set i (arena g (oneC c Lg'))) := by
  refine (h.flLook i hi 0 (oneC c (Lg ++ [⟨1, 0, c, c, true⟩])) c 0 hn rfl ?_).mono ?_
  · show flagV c 0 = (c, 0)
    simp [flagV]; omega
  · rintro e w' ⟨rfl, hh⟩
    exact ⟨_, rfl, by simp, hh⟩
theorem Led.claimC : Calls Try.prog 42 #[.pointer (some ⟨g, 0, none⟩), .int .i64 0] w fun e w' => ∃ Lg', e = .returned (.tuple #[.int .i64 (c : Int), .int .i64 0]) ∧ Lg'.length = Lg.length + 1 ∧ Led T w0 w' (l.set i (arena g (oneC (if c = 0 then 1 else c) Lg'))) := by
  refine (h.flClaim i hi 0 (oneC (if c = 0 then 1 else c) (Lg ++ [⟨3, 0, c, if c = 0 then 1 else c, c == 0⟩])) c 0 hn ?_ ?_).mono ?_
  · by_cases h0 : c = 0
    · subst h0; rfl
    · simp [oneC, Ar.swap, Ar.doBy, Ar.acc, chgSwap, h0]
  · show flagV c 0 = (c, 0)
    simp [flagV]; omega
  · rintro e w' ⟨rfl, hh⟩
    exact ⟨_, rfl, by simp, hh⟩
theorem Led.takeC : Calls Try.prog 43 #[.pointer (some ⟨g, 0, none⟩), .int .i64 0] w fun e w' => ∃ Lg', e = .returned (.tuple #[.int .i64 (c : Int), .int .i64 0]) ∧ Lg'.length = Lg.length + 1 ∧ Led T w0 w' (l.set i (arena g (oneC (if c = 0 then 2 else c) Lg'))) := by
  refine (h.flTake i hi 0 (oneC (if c = 0 then 2 else c) (Lg ++ [⟨3, 0, c, if c = 0 then 2 else c, c == 0⟩])) c 0 hn ?_ ?_).mono ?_
  · by_cases h0 : c = 0
    · subst h0; rfl
    · simp [oneC, Ar.swap, Ar.doBy, Ar.acc, chgSwap, h0]
  · show flagV c 0 = (c, 0)
    simp [flagV]; omega
  · rintro e w' ⟨rfl, hh⟩
    exact ⟨_, rfl, by simp, hh⟩
theorem Led.unclaimC : Calls Try.prog 46 #[.pointer (some ⟨g, 0, none⟩), .int .i64 0] w fun e w' => ∃ Lg', e = .returned (.int .i64 0) ∧ Lg'.length = Lg.length + 1 ∧ Led T w0 w' (l.set i (arena g (oneC 0 Lg'))) := by
  have _ := hc
  refine (h.flUnclaim i hi 0 (oneC 0 (Lg ++ [⟨2, 0, c, 0, true⟩])) 0 hn rfl rfl).mono ?_
  rintro e w' ⟨rfl, hh⟩
  exact ⟨_, rfl, by simp, hh⟩
theorem Led.settleC : Calls Try.prog 47 #[.pointer (some ⟨g, 0, none⟩), .int .i64 0] w fun e w' => ∃ Lg', e = .returned (.int .i64 0) ∧ Lg'.length = Lg.length + 1 ∧ Led T w0 w' (l.set i (arena g (oneC 2 Lg'))) := by
  have _ := hc
  refine (h.flSettle i hi 0 (oneC 2 (Lg ++ [⟨2, 0, c, 2, true⟩])) 0 hn rfl rfl).mono ?_
  rintro e w' ⟨rfl, hh⟩
  exact ⟨_, rfl, by simp, hh⟩
end

theorem stAt_snoc (L : List FAct) (x : FAct) (k : Nat) (hk : k ≤ L.length) : stAt (L ++ [x]) k = stAt L k := by
  induction k with
  | zero => rfl
  | succ k ih =>
    have : (L ++ [x]).getD k ⟨0, false, 0⟩ = L.getD k ⟨0, false, 0⟩ := by simp [List.getD, List.getElem?_append_left (show k < L.length by omega)]
    simp only [stAt, this, ih (by omega)]
/-- The acts so far follow; the flag holds c then. -/
def FH (L : List FAct) (c : Nat) : Prop := okTo L L.length ∧ stAt L L.length = (c : Int)
theorem FH.nil : FH [] 0 := ⟨fun j hj => by simp at hj, rfl⟩
theorem FH.snoc {L : List FAct} {c c' : Nat} (h : FH L c) (x : FAct) (h1 : actB x (c : Int) = true) (h2 : aftB x.step (c : Int) = (c' : Int)) : FH (L ++ [x]) c' := by
  have hg : (L ++ [x]).getD L.length ⟨0, false, 0⟩ = x := by simp [List.getD]
  refine ⟨fun j hj => ?_, ?_⟩
  · simp only [List.length_append, List.length_cons, List.length_nil] at hj
    by_cases e : j = L.length
    · subst e
      rw [hg, stAt_snoc L x _ (Nat.le_refl _), h.2]
      exact h1
    · have h3 := h.1 j (by omega)
      rw [stAt_snoc L x j (by omega)]
      have : (L ++ [x]).getD j ⟨0, false, 0⟩ = L.getD j ⟨0, false, 0⟩ := by simp [List.getD, List.getElem?_append_left (show j < L.length by omega)]
      rw [this]
      exact h3
  · simp only [List.length_append, List.length_cons, List.length_nil, Nat.zero_add, stAt]
    rw [hg, stAt_snoc L x _ (Nat.le_refl _), h.2]
    exact h2
theorem FH.far {L : List FAct} {c : Nat} (h : FH L c) : Far L L.length := ⟨Nat.le_refl _, h.1, fun hh => by omega⟩

/-- The bytes of a slice. -/
def BytesAt (w : World) (a : Option Addr) (z : List Nat) : Prop := (∀ x ∈ z, x < 256) ∧ ∀ i (hi : i < z.length), ∃ b o, a = some ⟨b, o, none⟩ ∧ b < w.heap.size ∧ w.cell? ⟨b, o + i, none⟩ = some (.int .u8 (z[i] : Int))
end Go.Proofs.Ytegebecogbebaaa
