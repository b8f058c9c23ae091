/-
  A []Act of law 03 in a row, opened.
-/
import Derived.Test.YtegebecogbebaaaSpinPlaysW
import Derived.Test.YtegebecogbebaaaOpen
import Derived.OpenShut
namespace Go.Proofs.Ytegebecogbebaaa
open Go.RowKit Go.ChangeShapes Go.WideShapes Go.ChangeAt
set_option maxRecDepth 100000
set_option linter.constructorNameAsVariable false

theorem open_calls03 {H : Type} {enc : TypeId × Value → H} {w : World} {base : Nat} {spare : Nat → Bool} {held : Bool} {r : Reach} {b0 : Nat}
    {v : Value} {d : DataW H} {p : List MemPlace} (hv : Value.okWide Try.prog w r b0 81 v) (h : DataW.Trod enc Try.prog w base spare held 81 v d p) :
    ∃ (a : Option Addr) (len cap : Nat) (l : List Call03), v = .slice a len cap ∧ len ≤ maxLen ∧ l.length = len ∧ StructsAt w a 3 Call03.cells l ∧ ∀ a ∈ l, a.Ok := by
  obtain ⟨a, len, cap, rows, rfl, hlm, hrl, hr⟩ := open_int_structs [.i64, .i64, .i64] Try.underlying81 Try.underlying83 (by kernel_rfl) (by kernel_rfl) rfl
    (fun j f k hf hk => by
      match j with
      | 0 => simp at hf hk; subst hf; subst hk; exact Try.underlying3
      | 1 => simp at hf hk; subst hf; subst hk; exact Try.underlying3
      | 2 => simp at hf hk; subst hf; subst hk; exact Try.underlying3
      | j + 3 => simp at hk) (by simp) hv h
  have hform : ∀ r ∈ rows, ∃ a : Call03, a.Ok ∧ r = [a.what, a.at_, a.n] := by
    intro r hrm
    obtain ⟨i, hi, rfl⟩ := List.mem_iff_getElem.1 hrm
    obtain ⟨h4, hwf, _⟩ := hr i hi
    generalize rows[i] = r at h4 hwf
    match r, h4 with
    | [p, q, x], _ =>
      have b0 := bounds_i64 (hwf 0 .i64 p rfl rfl)
      have b1 := bounds_i64 (hwf 1 .i64 q rfl rfl)
      have b2 := bounds_i64 (hwf 2 .i64 x rfl rfl)
      exact ⟨⟨p, q, x⟩, ⟨b0, b1, b2⟩, rfl⟩
  obtain ⟨l, hll, hl⟩ := list_of_forall (p := fun i (a : Call03) => ∃ hi : i < rows.length, a.Ok ∧ rows[i] = [a.what, a.at_, a.n]) len (fun i hi => by
    obtain ⟨a, h1, h2⟩ := hform rows[i] (List.getElem_mem (by omega))
    exact ⟨a, by omega, h1, h2⟩)
  refine ⟨a, len, cap, l, rfl, hlm, hll, fun i hi => ?_, fun x hx => ?_⟩
  · obtain ⟨hi', _, he⟩ := hl i hi
    obtain ⟨_, _, b, o, ha, hb, hc⟩ := hr i hi'
    refine ⟨b, o, ha, hb, fun j hj => ?_⟩
    rw [he] at hc
    match j, hj with
    | 0, _ => exact hc 0 .i64 _ rfl rfl
    | 1, _ => exact hc 1 .i64 _ rfl rfl
    | 2, _ => exact hc 2 .i64 _ rfl rfl
  · obtain ⟨i, hi, rfl⟩ := List.mem_iff_getElem.1 hx
    exact (hl i hi).2.1
end Go.Proofs.Ytegebecogbebaaa
