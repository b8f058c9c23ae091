/-
  How a function with one result in a cell, a bool, returns: with the ledger.
-/
import Derived.Test.YtihmbgdkllmkaaaProg
import Derived.Test.YtihmbgdkllmkaaaRangeC
namespace Go.Proofs.Ytihmbgdkllmkaaa
open Go.RowKit Go.Shelf
set_option linter.unusedVariables false

theorem results_bool {fn : Func} {ra : Tmp} (hres : fn.results = #[ResultVar.cell ra 4]) {tmps : Array Value} {b : Nat} (htm : tmps.getD ra undef = .pointer (some ⟨b, 0, none⟩)) {W : World} {c : Bool} (hc : W.cell? ⟨b, 0, none⟩ = some (.bool c)) :
    (results fn tmps).run Try.prog W = .ok (.bool c) W := by
  rw [Array.getD_eq_getD_getElem?] at htm
  simp only [results, hres]
  simp [go_sem, htm, hc]
theorem Led.c1w {T : List Nat} {w0 w : World} {l : List Thing} (h : Led T w0 w l) (i : Nat) {b : Nat} {t : TypeId} {x0 : Value} (hi : l[i]? = some (Proofs.Ytihmbgdkllmkaaa.box b t #[x0])) : w.cell? ⟨b, 0, none⟩ = some x0 := (h.c1 i hi).1

section
variable {n : Nat} {T : List Nat} {w W : World} {l : List Thing} {fn : Func} {ra : Tmp} (hres : fn.results = #[ResultVar.cell ra 4]) {tmps : Array Value} {b : Nat} (htm : tmps.getD ra undef = .pointer (some ⟨b, 0, none⟩))
  (HK : Led T w W l) (i : Nat) {u : Value} (hi : l[i]? = some (box b 4 #[u])) {c : Bool} (hc : c = true) {R : Ending → World → Prop}
include hres htm HK hi hc
theorem led_ret0 (hR : ∀ W', Led T w W' (l.set i (box b 4 #[.bool true])) → R (.returned (.bool true)) W') :
    bodyPostM Fence.wide n Try.prog fn R .ret { tmps := tmps, defers := [] } (W.setCell ⟨b, 0, none⟩ (.bool c)) := by
  subst hc
  have h1 := HK.set i hi 0 (.bool true)
  have hi' := (List.getElem?_eq_some_iff.1 hi).1
  have e1 : #[u].setIfInBounds 0 (.bool true) = #[.bool true] := rfl
  rw [e1] at h1
  exact leave_marks (v := .bool true) [] _ (by simp) (by simp) (results_bool hres htm (h1.c1w (t := 4) i (by rw [List.getElem?_set_self hi']))) (hR _ h1)
theorem led_ret1 {D : Nat} (m : Nat) (hm : l[m]? = some (mark D)) (hR : ∀ W', Led T w W' ((l.set i (box b 4 #[.bool true])).set m (some1 D)) → R (.returned (.bool true)) W') :
    bodyPostM Fence.wide n Try.prog fn R .ret { tmps := tmps, defers := [{ target := .collected D, args := #[] }] } (W.setCell ⟨b, 0, none⟩ (.bool c)) := by
  subst hc
  have h1 := HK.set i hi 0 (.bool true)
  have hi' := (List.getElem?_eq_some_iff.1 hi).1
  have e1 : #[u].setIfInBounds 0 (.bool true) = #[.bool true] := rfl
  rw [e1] at h1
  have hne : i ≠ m := by
    rintro rfl
    rw [hi] at hm
    have := congrArg (fun t => t.map fun t => t.holds w [D]) hm
    have h2 := HK.get i hi
    obtain ⟨f, ⟨hf, hb⟩, _⟩ := h2
    obtain ⟨f', ⟨hf', hb'⟩, _⟩ := HK.get i (hi.trans hm)
    obtain ⟨f3, ⟨hf3, hb3⟩, _⟩ := HK.get i (t := mark D) (hi.trans hm)
    have e := Option.some.inj hm
    have h5 : (box b 4 #[u]).holds W [b] := ⟨rfl, hb⟩
    rw [e] at h5
    obtain ⟨h6, h7⟩ := h5
    have : b = D := by simpa using h6
    subst this
    unfold Blk at hb
    rw [hb] at h7
    cases h7
  have hm1 : (l.set i (box b 4 #[.bool true]))[m]? = some (mark D) := by rw [List.getElem?_set_ne hne]; exact hm
  have h2 := h1.shut m hm1
  refine leave_marks (v := .bool true) [D] _ (by simpa using h1.mark m hm1) (by simp) (results_bool hres htm (h2.c1w (t := 4) i ?_)) (hR _ h2)
  rw [List.getElem?_set_ne hne.symm, List.getElem?_set_self hi']
theorem led_ret2 {D D' : Nat} (m m' : Nat) (hm : l[m]? = some (mark D)) (hm' : l[m']? = some (mark D')) (hmm : m ≠ m') (him : i ≠ m) (him' : i ≠ m') (hR : ∀ W', Led T w W' (((l.set i (box b 4 #[.bool true])).set m (some1 D)).set m' (some1 D')) → R (.returned (.bool true)) W') :
    bodyPostM Fence.wide n Try.prog fn R .ret { tmps := tmps, defers := [{ target := .collected D, args := #[] }, { target := .collected D', args := #[] }] } (W.setCell ⟨b, 0, none⟩ (.bool c)) := by
  subst hc
  have h1 := HK.set i hi 0 (.bool true)
  have hi' := (List.getElem?_eq_some_iff.1 hi).1
  have e1 : #[u].setIfInBounds 0 (.bool true) = #[.bool true] := rfl
  rw [e1] at h1
  have hm1 : (l.set i (box b 4 #[.bool true]))[m]? = some (mark D) := by rw [List.getElem?_set_ne him]; exact hm
  have hm1' : (l.set i (box b 4 #[.bool true]))[m']? = some (mark D') := by rw [List.getElem?_set_ne him']; exact hm'
  have hDD : D ≠ D' := by
    obtain ⟨_, F, g1, g2⟩ := h1
    have a1 := (g1 m _ hm1).1.1
    have a2 := (g1 m' _ hm1').1.1
    have := g2 m m' (List.getElem?_eq_some_iff.1 hm1).1 (List.getElem?_eq_some_iff.1 hm1').1 hmm D (by rw [a1]; simp)
    rw [a2] at this
    simpa using this
  have h2 := h1.shut m hm1
  have hm2' : ((l.set i (box b 4 #[.bool true])).set m (some1 D))[m']? = some (mark D') := by rw [List.getElem?_set_ne hmm]; exact hm1'
  have h3 := h2.shut m' hm2'
  refine leave_marks (v := .bool true) [D, D'] _ (by simpa using ⟨h1.mark m hm1, h1.mark m' hm1'⟩) (by simpa using hDD) (results_bool hres htm (h3.c1w (t := 4) i ?_)) (hR _ h3)
  rw [List.getElem?_set_ne him'.symm, List.getElem?_set_ne him.symm, List.getElem?_set_self hi']
end
end Go.Proofs.Ytihmbgdkllmkaaa
