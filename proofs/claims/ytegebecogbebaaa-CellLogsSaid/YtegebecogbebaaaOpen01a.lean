/-
  One Act of law 01 by value in a row, opened.
-/
import Derived.Test.YtegebecogbebaaaRefT
import Derived.Test.YtegebecogbebaaaOpen
import Derived.OpenShut
import Derived.Lib.SmallJoins
namespace Go.Proofs.Ytegebecogbebaaa
open Go.RowKit Go.ChangeShapes Go.WideShapes Go.ChangeAt
set_option maxRecDepth 100000

theorem open_call01 {H : Type} {enc : TypeId × Value → H} {w : World} {base : Nat} {spare : Nat → Bool} {held : Bool} {r : Reach} {b0 : Nat}
    {v : Value} {d : DataW H} {p : List MemPlace} (hv : Value.okWide Try.prog w r b0 41 v) (h : DataW.Trod enc Try.prog w base spare held 41 v d p) :
    ∃ c : Call01, v = .agg #[.int .i64 c.what, .int .i64 c.at_, .int .u64 (c.x : Int), .int .u64 (c.y : Int)] ∧ c.Ok := by
  obtain ⟨v0, v1, v2, v3, y0, y1, y2, y3, n, rfl, _, _, h0, h1, h2, h3⟩ := Go.Joins.open_agg4 Try.underlying41 (by kernel_rfl) (by kernel_rfl) hv h
  obtain ⟨z0, e0, _, g0⟩ := DataW.trod_int Try.underlying3 h0
  obtain ⟨z1, e1, _, g1⟩ := DataW.trod_int Try.underlying3 h1
  obtain ⟨z2, e2, _, g2⟩ := DataW.trod_int Try.underlying39 h2
  obtain ⟨z3, e3, _, g3⟩ := DataW.trod_int Try.underlying39 h3
  simp only [List.cons.injEq, and_true] at e0 e1 e2 e3
  subst e0 e1 e2 e3
  have b0 := bounds_i64 g0
  have b1 := bounds_i64 g1
  have b2 := bounds_u64 g2
  have b3 := bounds_u64 g3
  obtain ⟨x', rfl⟩ := Int.eq_ofNat_of_zero_le b2.1
  obtain ⟨y', rfl⟩ := Int.eq_ofNat_of_zero_le b3.1
  exact ⟨⟨z0, z1, x', y'⟩, rfl, b0, b1, by unfold Wd; show x' < 18446744073709551616; omega, by unfold Wd; show y' < 18446744073709551616; omega⟩
end Go.Proofs.Ytegebecogbebaaa
