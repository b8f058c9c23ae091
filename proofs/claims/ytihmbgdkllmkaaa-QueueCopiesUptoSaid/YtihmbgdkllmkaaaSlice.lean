/-
  Slices of slices, in memory of which the address is known. No program is in sight.
-/
import Derived.Test.YtihmbgdkllmkaaaVals
namespace Go.Proofs.Ytihmbgdkllmkaaa
open Go.RowKit
set_option linter.unusedVariables false
set_option linter.unusedSimpArgs false

section
variable {P : Program} {t e : TypeId} {i : TypeInfo} (ht : P.underlying t = some (.slice e)) (hi : P.info? e = some i)
include ht hi
theorem run_slice_from (a : Option Addr) (n cap lo : Nat) (hlo : lo ≤ n) (hn : n ≤ cap) : ∃ sa : Option Addr, (n = lo ∨ sa = a.map (·.add (lo * i.size))) ∧ ∀ W, (Instr.slice t (.slice a n cap) (some (.int .i64 (lo : Int))) none none).run P W = .ok (.slice sa (n - lo) (cap - lo)) W := by
  refine ⟨if cap = lo then a else a.map (·.add (lo * i.size)), ?_, fun W => ?_⟩
  · by_cases hc : cap = lo
    · exact .inl (by omega)
    · exact .inr (by rw [if_neg hc])
  · have h1 : (0 : Int) ≤ (lo : Int) ∧ (lo : Int) ≤ (n : Int) := by omega
    simp [Instr.slice, run_underlying ht, Instr.sliceBounds, Instr.sliceBound, asIntOf, h1, sizeOf, typeInfo, hi]
    intro h; omega
theorem run_slice_to (a : Option Addr) (n cap up : Nat) (hup : up ≤ cap) (W : World) : (Instr.slice t (.slice a n cap) none (some (.int .i64 (up : Int))) none).run P W = .ok (.slice a up cap) W := by
  have h1 : (0 : Int) ≤ (up : Int) ∧ (up : Int) ≤ (cap : Int) := by omega
  have h2 : (if cap = 0 then a else a.map (·.add (0 * i.size))) = a := by
    split
    · rfl
    · cases a with
      | none => rfl
      | some a => simp [Addr.add]
  simp only [Nat.zero_mul] at h2
  simp [Instr.slice, run_underlying ht, Instr.sliceBounds, Instr.sliceBound, asIntOf, h1, sizeOf, typeInfo, hi]
  rw [if_pos hup, h2]
theorem run_slice_cut (a : Option Addr) (n cap up : Nat) (hup : up ≤ cap) (W : World) : (Instr.slice t (.slice a n cap) none (some (.int .i64 (up : Int))) (some (.int .i64 (up : Int)))).run P W = .ok (.slice a up up) W := by
  have h1 : (0 : Int) ≤ (up : Int) ∧ (up : Int) ≤ (cap : Int) := by omega
  have h3 : (0 : Int) ≤ (up : Int) ∧ (up : Int) ≤ (up : Int) := by omega
  have h2 : (if up = 0 then a else a.map (·.add (0 * i.size))) = a := by
    split
    · rfl
    · cases a with
      | none => rfl
      | some a => simp [Addr.add]
  simp only [Nat.zero_mul] at h2
  simp [Instr.slice, run_underlying ht, Instr.sliceBounds, Instr.sliceBound, asIntOf, h1, h3, sizeOf, typeInfo, hi]
  rw [if_pos hup, h2]
end
/-- The cells of a part of a row, as a source. -/
theorem rowS_src {w : World} {e size g n cap lo : Nat} {xs : List Value} (h : rowS w e size (.slice (some ⟨g, 0, none⟩) n cap) n xs) {sa : Option Addr} {k : Nat} (hk : lo * k = lo * size) (hs : n = lo ∨ sa = (some (⟨g, 0, none⟩ : Addr)).map (·.add (lo * k))) :
    n - lo = 0 ∨ ∃ a, sa = some a ∧ ∀ j u, (xs.drop (lo * size))[j]? = some u → w.cell? (a.add j) = some u := by
  rcases hs with h0 | rfl
  · exact .inl (by omega)
  · refine .inr ⟨_, rfl, fun j u hu => ?_⟩
    show w.cell? (((⟨g, 0, none⟩ : Addr).add (lo * k)).add j) = some u
    rw [hk, Addr.add_lit, Addr.add_lit, Nat.zero_add]
    rw [List.getElem?_drop] at hu
    obtain ⟨hj, rfl⟩ := List.getElem?_eq_some_iff.1 hu
    exact rowS_cell h _ hj
end Go.Proofs.Ytihmbgdkllmkaaa
