/-
  The ledger's laws for walks: cells of boxes.
-/
import Derived.Test.YtihmbgdkllmkaaaLed
import Derived.RangeFuncLeaves
import Derived.Shelf.Abstract
import Derived.Deep.QuietTactic
import Derived.BigQuiet
import Derived.Lib.Hide
import Derived.WalkKit
import Derived.WalkLawsBesides
import Derived.WalkSpells
import Derived.RegionTactic
import Derived.BigRegion
import Derived.Deep.RegionLaw
import Derived.Deep.RegionHeld3
namespace Go.Proofs.Ytihmbgdkllmkaaa
open Go.RowKit Go.Shelf
set_option linter.unusedVariables false

section
variable {T : List Nat} {w0 w w' : World} {l : List Thing} {b : Nat} {t : TypeId}
theorem Led.c1 (h : Led T w0 w l) (i : Nat) {x0 : Value} (hi : l[i]? = some (Proofs.Ytihmbgdkllmkaaa.box b t #[x0])) : w.cell? ⟨b, 0, none⟩ = some x0 ∧ w.frozen? ⟨b, 0, none⟩ = false ∧ b < w.heap.size ∧ b < w.heap.size + 1 ∧ b < w.heap.size + 1 + 1 := by
  have hb := h.box i hi
  have hl := hb.lt
  exact ⟨hb.cell 0, hb.frozen 0, hl, Nat.lt_succ_of_lt hl, Nat.lt_succ_of_lt (Nat.lt_succ_of_lt hl)⟩
theorem Led.c2 (h : Led T w0 w l) (i : Nat) {x0 x1 : Value} (hi : l[i]? = some (Proofs.Ytihmbgdkllmkaaa.box b t #[x0, x1])) : w.cell? ⟨b, 0, none⟩ = some x0 ∧ w.cell? ⟨b, 1, none⟩ = some x1 ∧ w.frozen? ⟨b, 0, none⟩ = false ∧ w.frozen? ⟨b, 1, none⟩ = false ∧ b < w.heap.size ∧ b < w.heap.size + 1 ∧ b < w.heap.size + 1 + 1 := by
  have hb := h.box i hi
  have hl := hb.lt
  exact ⟨hb.cell 0, hb.cell 1, hb.frozen 0, hb.frozen 1, hl, Nat.lt_succ_of_lt hl, Nat.lt_succ_of_lt (Nat.lt_succ_of_lt hl)⟩
theorem Led.c3 (h : Led T w0 w l) (i : Nat) {x0 x1 x2 : Value} (hi : l[i]? = some (Proofs.Ytihmbgdkllmkaaa.box b t #[x0, x1, x2])) : w.cell? ⟨b, 0, none⟩ = some x0 ∧ w.cell? ⟨b, 1, none⟩ = some x1 ∧ w.cell? ⟨b, 2, none⟩ = some x2 ∧ w.frozen? ⟨b, 0, none⟩ = false ∧ w.frozen? ⟨b, 1, none⟩ = false ∧ w.frozen? ⟨b, 2, none⟩ = false ∧ b < w.heap.size ∧ b < w.heap.size + 1 ∧ b < w.heap.size + 1 + 1 := by
  have hb := h.box i hi
  have hl := hb.lt
  exact ⟨hb.cell 0, hb.cell 1, hb.cell 2, hb.frozen 0, hb.frozen 1, hb.frozen 2, hl, Nat.lt_succ_of_lt hl, Nat.lt_succ_of_lt (Nat.lt_succ_of_lt hl)⟩
theorem Led.c4 (h : Led T w0 w l) (i : Nat) {x0 x1 x2 x3 : Value} (hi : l[i]? = some (Proofs.Ytihmbgdkllmkaaa.box b t #[x0, x1, x2, x3])) : w.cell? ⟨b, 0, none⟩ = some x0 ∧ w.cell? ⟨b, 1, none⟩ = some x1 ∧ w.cell? ⟨b, 2, none⟩ = some x2 ∧ w.cell? ⟨b, 3, none⟩ = some x3 ∧ w.frozen? ⟨b, 0, none⟩ = false ∧ w.frozen? ⟨b, 1, none⟩ = false ∧ w.frozen? ⟨b, 2, none⟩ = false ∧ w.frozen? ⟨b, 3, none⟩ = false ∧ b < w.heap.size ∧ b < w.heap.size + 1 ∧ b < w.heap.size + 1 + 1 := by
  have hb := h.box i hi
  have hl := hb.lt
  exact ⟨hb.cell 0, hb.cell 1, hb.cell 2, hb.cell 3, hb.frozen 0, hb.frozen 1, hb.frozen 2, hb.frozen 3, hl, Nat.lt_succ_of_lt hl, Nat.lt_succ_of_lt (Nat.lt_succ_of_lt hl)⟩
theorem Led.c5 (h : Led T w0 w l) (i : Nat) {x0 x1 x2 x3 x4 : Value} (hi : l[i]? = some (Proofs.Ytihmbgdkllmkaaa.box b t #[x0, x1, x2, x3, x4])) : w.cell? ⟨b, 0, none⟩ = some x0 ∧ w.cell? ⟨b, 1, none⟩ = some x1 ∧ w.cell? ⟨b, 2, none⟩ = some x2 ∧ w.cell? ⟨b, 3, none⟩ = some x3 ∧ w.cell? ⟨b, 4, none⟩ = some x4 ∧
    w.frozen? ⟨b, 0, none⟩ = false ∧ w.frozen? ⟨b, 1, none⟩ = false ∧ w.frozen? ⟨b, 2, none⟩ = false ∧ w.frozen? ⟨b, 3, none⟩ = false ∧ w.frozen? ⟨b, 4, none⟩ = false ∧ b < w.heap.size ∧ b < w.heap.size + 1 ∧ b < w.heap.size + 1 + 1 := by
  have hb := h.box i hi
  have hl := hb.lt
  exact ⟨hb.cell 0, hb.cell 1, hb.cell 2, hb.cell 3, hb.cell 4, hb.frozen 0, hb.frozen 1, hb.frozen 2, hb.frozen 3, hb.frozen 4, hl, Nat.lt_succ_of_lt hl, Nat.lt_succ_of_lt (Nat.lt_succ_of_lt hl)⟩
/-- Two boxes lie apart. -/
theorem Led.ne (h : Led T w0 w l) (i j : Nat) {b' : Nat} {t' : TypeId} {cs cs' : Array Value} (hi : l[i]? = some (Proofs.Ytihmbgdkllmkaaa.box b t cs)) (hj : l[j]? = some (Proofs.Ytihmbgdkllmkaaa.box b' t' cs')) (hij : i ≠ j) : b ≠ b' := by
  obtain ⟨_, F, h1, h2⟩ := h
  have e1 := (h1 i _ hi).1.1
  have e2 := (h1 j _ hj).1.1
  have := h2 i j (List.getElem?_eq_some_iff.1 hi).1 (List.getElem?_eq_some_iff.1 hj).1 hij b (by rw [e1]; simp)
  rw [e2] at this
  simpa using this
/-- A row lies apart from a box. -/
theorem Led.nerow (h : Led T w0 w l) (i j : Nat) {e : TypeId} {size n : Nat} {v : Value} {xs : List Value} {cs : Array Value} (hi : l[i]? = some (Proofs.Ytihmbgdkllmkaaa.box b t cs)) (hj : l[j]? = some (Proofs.Ytihmbgdkllmkaaa.row e size v n xs)) (hij : i ≠ j) : b ∉ sb v := by
  obtain ⟨_, F, h1, h2⟩ := h
  have e1 := (h1 i _ hi).1.1
  have e2 := (h1 j _ hj).1.1
  have := h2 i j (List.getElem?_eq_some_iff.1 hi).1 (List.getElem?_eq_some_iff.1 hj).1 hij b (by rw [e1]; simp)
  rwa [e2] at this
end

/-- The world gets a name. -/
theorem wp_name {P : Program} {c : Code} {Q : Exit → Act → World → Prop} {a : Act} {W : World} (h : ∀ w2, W = w2 → c.wp P Q a w2) : c.wp P Q a W := h W rfl
theorem wpIn_name {F : Fence} {n : Nat} {P : Program} {c : Code} {Q : Exit → Act → World → Prop} {a : Act} {W : World} (h : ∀ w2, W = w2 → c.wpIn F n P Q a w2) : c.wpIn F n P Q a W := h W rfl
section
variable {T : List Nat} {w0 w w' : World} {l : List Thing} {t1 t2 t3 : TypeId} {c1 c2 c3 : Array Value}
theorem Led.al1 (h : Led T w0 w l) (e : w.alloc (.cells c1 t1) = w') : Led T w0 w' (l ++ [Proofs.Ytihmbgdkllmkaaa.box w.heap.size t1 c1]) := e ▸ h.alloc t1 c1
theorem Led.al2 (h : Led T w0 w l) (e : (w.alloc (.cells c1 t1)).alloc (.cells c2 t2) = w') : Led T w0 w' (l ++ [Proofs.Ytihmbgdkllmkaaa.box w.heap.size t1 c1, Proofs.Ytihmbgdkllmkaaa.box (w.heap.size + 1) t2 c2]) := by
  have := (h.alloc t1 c1).alloc t2 c2
  rw [e] at this
  simpa using this
theorem Led.al3 (h : Led T w0 w l) (e : ((w.alloc (.cells c1 t1)).alloc (.cells c2 t2)).alloc (.cells c3 t3) = w') : Led T w0 w' (l ++ [Proofs.Ytihmbgdkllmkaaa.box w.heap.size t1 c1, Proofs.Ytihmbgdkllmkaaa.box (w.heap.size + 1) t2 c2, Proofs.Ytihmbgdkllmkaaa.box (w.heap.size + 1 + 1) t3 c3]) := by
  have := ((h.alloc t1 c1).alloc t2 c2).alloc t3 c3
  rw [e] at this
  simpa using this
end

section
variable {T : List Nat} {w0 w w' : World} {l : List Thing} {t1 t2 t3 : TypeId} {c1 c2 c3 : Array Value}
theorem Led.tal1 (h : Led T w0 w l) (e : Touch [] (w.alloc (.cells c1 t1)) w') : Led T w0 w' (l ++ [Proofs.Ytihmbgdkllmkaaa.box w.heap.size t1 c1]) := (h.al1 rfl).touch e
theorem Led.tal2 (h : Led T w0 w l) (e : Touch [] ((w.alloc (.cells c1 t1)).alloc (.cells c2 t2)) w') : Led T w0 w' (l ++ [Proofs.Ytihmbgdkllmkaaa.box w.heap.size t1 c1, Proofs.Ytihmbgdkllmkaaa.box (w.heap.size + 1) t2 c2]) := (h.al2 rfl).touch e
theorem Led.tal3 (h : Led T w0 w l) (e : Touch [] (((w.alloc (.cells c1 t1)).alloc (.cells c2 t2)).alloc (.cells c3 t3)) w') : Led T w0 w' (l ++ [Proofs.Ytihmbgdkllmkaaa.box w.heap.size t1 c1, Proofs.Ytihmbgdkllmkaaa.box (w.heap.size + 1) t2 c2, Proofs.Ytihmbgdkllmkaaa.box (w.heap.size + 1 + 1) t3 c3]) := (h.al3 rfl).touch e
end

end Go.Proofs.Ytihmbgdkllmkaaa
