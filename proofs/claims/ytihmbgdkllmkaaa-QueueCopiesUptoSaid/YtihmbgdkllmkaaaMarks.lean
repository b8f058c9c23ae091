/-
  Many loops over iterators, one behind another: their marks as one thing; rows of integers.
-/
import Derived.Test.YtihmbgdkllmkaaaQC
import Derived.Test.YtihmbgdkllmkaaaRetC
namespace Go.Proofs.Ytihmbgdkllmkaaa
open Go.RowKit Go.Shelf
set_option linter.unusedVariables false
set_option linter.unusedSimpArgs false

/-- The marks of loops that are over. -/
def marksT (Ds : List Nat) : Thing where
  holds w fp := fp = Ds ∧ Ds.Nodup ∧ ∀ D ∈ Ds, w.heap[D]? = some (.deferred (some []))
  keep := fun ⟨h1, h2, h3⟩ he => ⟨h1, h2, fun D hD => (he D (h1 ▸ hD)).trans (h3 D hD)⟩
  lt := fun ⟨h1, h2, h3⟩ k hk => by subst h1; exact (Array.getElem?_eq_some_iff.1 (h3 k hk)).1
theorem shutAll_touch (ks : List Nat) : ∀ (w : World), Touch ks w (shutAll w ks) := by
  induction ks with
  | nil => intro w; exact Touch.refl _ _
  | cons k ks ih =>
    intro w
    have h1 : Touch (k :: ks) w (w.putObj k (.deferred none)) := (Touch.refl _ w).putObj (.inr (by simp)) _
    exact h1.trans (ih _) (fun x hx => .inl (by simp [hx]))
section
variable {T : List Nat} {w0 w w' : World} {l : List Thing} {Ds : List Nat} {D : Nat}
theorem Led.marks0 (h : Led T w0 w l) : Led T w0 w (l ++ [marksT []]) := h.new (t' := marksT []) (f' := []) ⟨rfl, by simp, by simp⟩ ⟨Touch.refl _ _, by simp⟩
theorem Led.marksAt (h : Led T w0 w l) (i : Nat) (hi : l[i]? = some (marksT Ds)) : Ds.Nodup ∧ ∀ D ∈ Ds, w.heap[D]? = some (.deferred (some [])) := let ⟨_, h, _⟩ := h.get i hi; h.2
/-- One mark more (at the end: the mark, the marks). -/
theorem Led.addMark (h : Led T w0 w (l ++ [Proofs.Ytihmbgdkllmkaaa.mark D, marksT Ds])) : Led T w0 w (l ++ [marksT (D :: Ds)]) := by
  have hd : D ∉ Ds := by
    obtain ⟨_, F, h1, h2⟩ := h
    have e1 : (l ++ [Proofs.Ytihmbgdkllmkaaa.mark D, marksT Ds])[l.length]? = some (Proofs.Ytihmbgdkllmkaaa.mark D) := by simp
    have e2 : (l ++ [Proofs.Ytihmbgdkllmkaaa.mark D, marksT Ds])[l.length + 1]? = some (marksT Ds) := by simp
    have a1 := (h1 _ _ e1).1.1
    have a2 := (h1 _ _ e2).1.1
    have := h2 l.length (l.length + 1) (by simp) (by simp) (by omega) D (by rw [a1]; simp)
    rwa [a2] at this
  refine h.merge ?_
  rintro f1 f2 ⟨a1, a2⟩ ⟨b1, b2, b3⟩
  refine ⟨by rw [a1, b1]; rfl, List.nodup_cons.2 ⟨hd, b2⟩, fun x hx => ?_⟩
  rcases List.mem_cons.1 hx with rfl | hx
  · exact a2
  · exact b3 x hx
theorem Led.shutM (h : Led T w0 w l) (i : Nat) (hi : l[i]? = some (marksT Ds)) : Led T w0 (Proofs.Ytihmbgdkllmkaaa.shutAll w Ds) (l.set i (Proofs.Ytihmbgdkllmkaaa.fact True)) := by
  obtain ⟨f, ⟨hf, hm⟩, _, hs⟩ := h.step i hi
  subst hf
  exact hs _ (Proofs.Ytihmbgdkllmkaaa.fact True) [] ⟨rfl, trivial⟩ ⟨shutAll_touch _ _, by simp⟩
/-- A bool in a cell is returned, behind as many loops as there were. -/
theorem led_retM {n : Nat} {W : World} {fn : Func} {ra : Tmp} (hres : fn.results = #[ResultVar.cell ra 4]) {tmps : Array Value} {b : Nat} (htm : tmps.getD ra undef = .pointer (some ⟨b, 0, none⟩))
    (HK : Led T w W l) (i : Nat) {u : Value} (hi : l[i]? = some (box b 4 #[u])) {c : Bool} (hc : c = true) (m : Nat) (him : m ≠ i) (hm : l[m]? = some (marksT Ds)) {R : Ending → World → Prop}
    (hR : ∀ W', Touch T w W' → R (.returned (.bool true)) W') :
    bodyPostM Fence.wide n Try.prog fn R .ret { tmps := tmps, defers := Ds.map fun k => { target := .collected k, args := #[] } } (W.setCell ⟨b, 0, none⟩ (.bool c)) := by
  subst hc
  have h1 := HK.set i hi 0 (.bool true)
  have hi' := (List.getElem?_eq_some_iff.1 hi).1
  have e1 : #[u].setIfInBounds 0 (.bool true) = #[.bool true] := rfl
  rw [e1] at h1
  have hm1 : (l.set i (box b 4 #[.bool true]))[m]? = some (marksT Ds) := by rw [List.getElem?_set_ne (Ne.symm him)]; exact hm
  obtain ⟨hnd, hat⟩ := h1.marksAt m hm1
  have h2 := h1.shutM m hm1
  refine leave_marks (v := .bool true) Ds _ hat hnd (results_bool hres htm (h2.c1w (t := 4) i ?_)) (hR _ h2.tch)
  rw [List.getElem?_set_ne him, List.getElem?_set_self hi']
end

/-- Numbers as cells. -/
def natCells (l : List Nat) : List Value := l.map fun (z : Nat) => Value.int .i64 (z : Int)
theorem natCells_length (l : List Nat) : (natCells l).length = l.length := by simp [natCells]
theorem natCells_one (l : List Nat) : ∀ u ∈ natCells l, u.oneCell' = true := by
  intro u hu
  obtain ⟨z, _, rfl⟩ := List.mem_map.1 hu
  rfl
theorem natCells_get (l : List Nat) (i : Nat) (hi : i < l.length) : (natCells l)[i]? = some (.int .i64 (l[i] : Int)) := by simp [natCells, hi]
theorem nat_cell {w : World} {e cap n : Nat} {a : Option Addr} {zs : List Nat} (h : rowS w e 1 (.slice a n cap) n (natCells zs)) (hn : zs.length = n) {i : Nat} (hi : i < zs.length) : ∃ g, a = some ⟨g, 0, none⟩ ∧ g < w.heap.size ∧ w.cell? ⟨g, i, none⟩ = some (.int .i64 (zs[i] : Int)) := by
  subst hn
  obtain ⟨g, cap', cur, hv, hg, _⟩ := rowS_form h (by omega)
  injection hv with h1 _ h3
  subst h1 h3
  refine ⟨g, rfl, rowS_lt h g (by simp [sb, Value.ownBlock]), ?_⟩
  rw [rowS_cell h i (by rw [natCells_length]; exact hi)]
  simp [natCells]
end Go.Proofs.Ytihmbgdkllmkaaa
