/-
  The arena of layer 1 as a thing of the ledger.
-/
import Derived.Test.YtihmbgdkllmkaaaLedC
import Derived.Test.YtihmbgdkllmkaaaSpin
namespace Go.Proofs.Ytihmbgdkllmkaaa
open Go.RowKit Go.Shelf
set_option linter.unusedVariables false

/-- The arena at g is s. -/
def arena (g : Nat) (s : Ar) : Thing where
  holds w fp := IsAr w g fp s
  keep := fun h he => h.keep he
  lt := fun h => h.lt
section
variable {T : List Nat} {w0 w w' : World} {l : List Thing} {g : Nat} {s s' : Ar}
theorem Led.isAr (h : Led T w0 w l) (i : Nat) (hi : l[i]? = some (arena g s)) : ∃ fp, IsAr w g fp s := let ⟨f, h, _⟩ := h.get i hi; ⟨f, h⟩
theorem Led.artAll (h : Led T w0 w l) (i : Nat) (hi : l[i]? = some (arena g s)) : (∀ n ∈ s.C, Wd n) ∧ 1 ≤ s.most ∧ s.most ≤ 65536 ∧ s.C.length ≤ s.most := by
  obtain ⟨f, ⟨v1, v2, r, hA, _⟩, _⟩ := h.get i hi
  exact ⟨hA.wd, hA.most1, hA.most2, hA.len⟩
/-- A call on an arena. -/
theorem Led.ar (h : Led T w0 w l) (i : Nat) (hi : l[i]? = some (arena g s)) {f : Nat} {args : Array Value} {R : Ending → Prop} (hc : ∀ fp, IsAr w g fp s → Calls Try.prog f args w fun e w' => R e ∧ ArTo w w' g fp s') :
    Calls Try.prog f args w fun e w' => R e ∧ Led T w0 w' (l.set i (arena g s')) := by
  obtain ⟨fp, hI, _, hs⟩ := h.step i hi
  refine (hc fp hI).mono ?_
  rintro e w' ⟨he, fp', hI', hM⟩
  exact ⟨he, hs w' (arena g s') fp' hI' ⟨hM.touch, hM.fp⟩⟩
/-- A call that reads an arena. -/
theorem Led.arq (h : Led T w0 w l) (i : Nat) (hi : l[i]? = some (arena g s)) {f : Nat} {args : Array Value} {R : Ending → World → Prop} (hc : ∀ fp, IsAr w g fp s → Calls Try.prog f args w R) : Calls Try.prog f args w R := by
  obtain ⟨fp, hI, _, _⟩ := h.step i hi
  exact hc fp hI
theorem Led.arNew (h : Led T w0 w l) (most : Nat) (h1 : 1 ≤ most) (h2 : most ≤ 65536) : Calls Try.prog 34 #[.int .i64 (most : Int)] w
    fun e w' => e = .returned (.tuple #[.pointer (some ⟨w.heap.size, 0, none⟩), .int .i64 0]) ∧ Led T w0 w' (l ++ [arena w.heap.size (Ar.fresh most)]) := by
  refine (New_ok most w h1 h2).mono ?_
  rintro e w' ⟨rfl, hI, ht⟩
  exact ⟨rfl, h.new (t' := arena w.heap.size (Ar.fresh most)) hI ⟨ht, fun k hk => .inr (by simp at hk; omega)⟩⟩
end
end Go.Proofs.Ytihmbgdkllmkaaa
