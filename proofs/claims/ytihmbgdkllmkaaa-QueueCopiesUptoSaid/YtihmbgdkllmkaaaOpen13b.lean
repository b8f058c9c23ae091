/-
  An argument that is two calls of law 13, opened.
-/
import Derived.Test.YtihmbgdkllmkaaaOpen13
import Derived.Test.YtihmbgdkllmkaaaQueueCopiesW
namespace Go.Proofs.Ytihmbgdkllmkaaa
open Go.ChangeShapes Go.WideShapes Go.Deep Go.RowKit
set_option linter.unusedVariables false
set_option maxRecDepth 100000

theorem list8 {α : Type} {l : List α} (h : l.length = 8) : ∃ a b c d e f g i, l = [a, b, c, d, e, f, g, i] := by
  match l, h with
  | [a, b, c, d, e, f, g, i], _ => exact ⟨a, b, c, d, e, f, g, i, rfl⟩
theorem list2 {α : Type} {l : List α} (h : l.length = 2) : ∃ a b, l = [a, b] := by
  match l, h with
  | [a, b], _ => exact ⟨a, b, rfl⟩
section
variable {H : Type} {enc : TypeId × Value → H} {w : World} {base : Nat} {spare : Nat → Bool} {held : Bool}
theorem cells_two13 : Try.prog.cellsOf 61 = 8 := by kernel_rfl
theorem open_two {r : Reach} {b0 : Nat} {v : Value} {d : DataW H} {p : List MemPlace} (hv : Value.okWide Try.prog w r b0 61 v) (h : DataW.Trod enc Try.prog w base spare held 61 v d p) : ∃ x y : CB, v = twoVal x y ∧ ∀ z ∈ [x, y], z.Opened w (Rows.uptoBulk d) := by
  simp only [Value.okWide, Try.underlying61] at hv
  obtain ⟨cs, rfl, hsz, _⟩ := hv
  obtain ⟨fuel, hf⟩ := h
  obtain ⟨xs, n, _, hx, hl, hlen, hfe⟩ := DataW.trod_array Try.underlying61 hf
  injection hx with hx _
  subst hx
  rw [cells_two13] at hl
  obtain ⟨c0, c1, c2, c3, c4, c5, c6, c7, hcs⟩ := list8 hl
  obtain ⟨x0, x1, rfl⟩ := list2 hlen
  have f0 := hfe 0 (by omega)
  have f1 := hfe 1 (by omega)
  rw [hcs, cells_act13] at f0 f1
  simp only [Nat.zero_mul, Nat.one_mul, List.drop_zero, List.drop_succ_cons, List.take_succ_cons, List.take_zero, List.getElem?_cons_zero, List.getElem?_cons_succ] at f0 f1
  obtain ⟨d0, p0⟩ := x0
  obtain ⟨d1, p1⟩ := x1
  obtain ⟨x, hx, hxo⟩ := open_act_cells _ _ _ _ f0
  obtain ⟨y, hy, hyo⟩ := open_act_cells _ _ _ _ f1
  simp only [CB.cells, List.cons.injEq, and_true] at hx hy
  obtain ⟨rfl, rfl, rfl, rfl⟩ := hx
  obtain ⟨rfl, rfl, rfl, rfl⟩ := hy
  refine ⟨x, y, ?_, fun z hz => ?_⟩
  · have : cs = twoCells x y := by
      have h2 : cs.toList = (twoCells x y).toList := by simpa [Value.cells, twoCells] using hcs
      exact Array.ext' h2
    rw [this]
    rfl
  · simp only [List.map_cons, List.map_nil, Rows.uptoBulk, Rows.uptoBulkAll]
    simp at hz
    rcases hz with rfl | rfl
    · exact ⟨hxo.1, fun e he => by have := hxo.2.1 e he; omega, hxo.2.2⟩
    · exact ⟨hyo.1, fun e he => by have := hyo.2.1 e he; omega, hyo.2.2⟩
end
end Go.Proofs.Ytihmbgdkllmkaaa
