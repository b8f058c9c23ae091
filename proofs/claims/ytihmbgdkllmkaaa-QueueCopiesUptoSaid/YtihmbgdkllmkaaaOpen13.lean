/-
  An argument that is calls of law 13, opened.
-/
import Derived.Test.YtihmbgdkllmkaaaOpenV
import Derived.Test.YtihmbgdkllmkaaaFew13
namespace Go.Proofs.Ytihmbgdkllmkaaa
open Go.ChangeShapes Go.WideShapes Go.Deep Go.RowKit
set_option linter.unusedVariables false
set_option maxRecDepth 100000

def CB.cells (x : CB) : List Value := [.int .i64 x.what, .int .i64 x.n, .int .i64 x.m, .slice x.a x.l.length x.cap]
theorem list4 {α : Type} {l : List α} (h : l.length = 4) : ∃ a b c d, l = [a, b, c, d] := by
  match l, h with
  | [a, b, c, d], _ => exact ⟨a, b, c, d, rfl⟩
section
variable {H : Type} {enc : TypeId × Value → H} {w : World} {base : Nat} {spare : Nat → Bool} {held : Bool}
theorem cells_act13 : Try.prog.cellsOf 58 = 4 := by kernel_rfl
theorem cells_ents : Try.prog.cellsOf 32 = 1 := by kernel_rfl
/-- What an opened call is. -/
def CB.Opened (x : CB) (w : World) (N : Nat) : Prop := x.In w ∧ (∀ e ∈ x.l, e.v.nodes ≤ N) ∧ x.l.length ≤ maxLen
theorem open_act_cells (fuel : Nat) (cs : List Value) (d : DataW H) (p : List MemPlace) (h : DataW.trod enc Try.prog w base spare held fuel 58 cs = some (d, p)) : ∃ x : CB, cs = x.cells ∧ x.Opened w (Rows.uptoBulk d) := by
  obtain ⟨xs, n, _, hx, hl, hlen, hf⟩ := DataW.trod_struct Try.underlying58 h
  injection hx with hx _
  subst hx
  rw [cells_act13] at hl
  obtain ⟨c0, c1, c2, c3, rfl⟩ := list4 hl
  obtain ⟨x0, x1, x2, x3, rfl⟩ := list4 hlen
  have f0 : DataW.trod enc Try.prog w base spare held n 3 (List.take (Try.prog.cellsOf 3) (List.drop 0 [c0, c1, c2, c3])) = some x0 := hf 0 _ rfl
  have f1 : DataW.trod enc Try.prog w base spare held n 3 (List.take (Try.prog.cellsOf 3) (List.drop 1 [c0, c1, c2, c3])) = some x1 := hf 1 _ rfl
  have f2 : DataW.trod enc Try.prog w base spare held n 3 (List.take (Try.prog.cellsOf 3) (List.drop 2 [c0, c1, c2, c3])) = some x2 := hf 2 _ rfl
  have f3 : DataW.trod enc Try.prog w base spare held n 32 (List.take (Try.prog.cellsOf 32) (List.drop 3 [c0, c1, c2, c3])) = some x3 := hf 3 _ rfl
  rw [cells_int] at f0 f1 f2
  rw [cells_ents] at f3
  simp only [List.drop_zero, List.drop_succ_cons, List.take_succ_cons, List.take_zero] at f0 f1 f2 f3
  obtain ⟨z0, hz0, hx0, g0⟩ := DataW.trod_int Try.underlying3 f0
  obtain ⟨z1, hz1, hx1, g1⟩ := DataW.trod_int Try.underlying3 f1
  obtain ⟨z2, hz2, hx2, g2⟩ := DataW.trod_int Try.underlying3 f2
  injection hz0 with hz0 _
  injection hz1 with hz1 _
  injection hz2 with hz2 _
  subst hz0 hz1 hz2
  obtain ⟨x3, p3⟩ := x3
  obtain ⟨a, cap, l, rfl, hl1, hl2, hl3⟩ := open_ents f3
  refine ⟨⟨z0, z1, z2, a, cap, l⟩, rfl, ⟨hl2, fun e he => (hl3 e he).1⟩, fun e he => ?_, hl1⟩
  have := (hl3 e he).2.1
  simp only [List.map_cons, List.map_nil, Rows.uptoBulk, Rows.uptoBulkAll]
  omega
/-- Calls in a slice. -/
theorem open_acts {fuel : Nat} {c : Value} {d : DataW H} {p : List MemPlace} (h : DataW.trod enc Try.prog w base spare held fuel 51 [c] = some (d, p)) : ∃ (a : Option Addr) (cap : Nat) (l : List CB), c = .slice a l.length cap ∧ l.length ≤ maxLen ∧ CBsAt w a l ∧ ∀ x ∈ l, x.Opened w (Rows.uptoBulk d) := by
  rcases open_slice Try.underlying51 h with ⟨hcs, hx2⟩ | ⟨a, len, cap, m, n', D, Pl, hcs, hb, hlc, hm, hmm, hx2, hi⟩
  · injection hcs with hcs _
    subst hcs
    exact ⟨none, 0, [], rfl, by simp [maxLen], fun i hi => by simp at hi, by simp⟩
  · injection hcs with hcs _
    subst hcs
    have hlm : len ≤ m := by rw [hmm]; split <;> omega
    injection hx2 with hx2 _
    subst hx2
    obtain ⟨l, hll, hp⟩ := list_of_forall (p := fun i (t : CB) => (∀ j, j < 4 → w.cell? ((a.add (i * 4)).add j) = t.cells[j]?) ∧ t.Opened w (Rows.uptoBulk (D i))) len (fun i hil => by
      obtain ⟨cs', hc, ht'⟩ := hi i (by omega)
      rw [cells_act13] at hc
      obtain ⟨_, hcl, hat⟩ := World.cells?_some hc
      obtain ⟨t, rfl, ht1⟩ := open_act_cells _ _ _ _ ht'
      exact ⟨t, hat, ht1⟩)
    subst hll
    refine ⟨some a, cap, l, rfl, by omega, fun i hil => ?_, fun x hx => ?_⟩
    · obtain ⟨hat, _⟩ := hp i hil
      obtain ⟨b, o, sp⟩ := a
      have hsp : sp = none := by
        obtain ⟨hat0, _⟩ := hp 0 (by omega)
        have h00 := hat0 0 (by omega)
        rw [add_add'] at h00
        have h01 : w.cell? ((⟨b, o, sp⟩ : Addr).add 0) = some (.int .i64 (l[0]'(by omega)).what) := by simp only [Nat.zero_mul, Nat.add_zero] at h00; exact h00
        simpa [Addr.add] using World.cell?_spot h01
      subst hsp
      have hc : ∀ j, j < 4 → w.cell? ⟨b, o + i * 4 + j, none⟩ = l[i].cells[j]? := fun j hj => by
        have := hat j hj
        rw [add_add', Addr.add_lit, ← Nat.add_assoc] at this
        exact this
      exact ⟨b, o, rfl, World.block_lt_of_cell? w _ (u := .int .i64 l[i].what) (hc 0 (by omega)), hc 0 (by omega), hc 1 (by omega), hc 2 (by omega), hc 3 (by omega)⟩
    · obtain ⟨i, hil, rfl⟩ := List.mem_iff_getElem.1 hx
      obtain ⟨_, h1, h2, h3⟩ := hp i hil
      have hbi : Rows.uptoBulk (D i) ≤ Rows.uptoBulkAll ((List.range l.length).map D) := bulk_mem (List.mem_map.2 ⟨i, List.mem_range.2 hil, rfl⟩)
      refine ⟨h1, fun e he => ?_, h3⟩
      have := h2 e he
      simp only [Rows.uptoBulk]
      omega
/-- Such an argument. -/
theorem open_acts_arg {r : Reach} {b0 : Nat} {v : Value} {d : DataW H} {p : List MemPlace} (hv : Value.okWide Try.prog w r b0 51 v) (h : DataW.Trod enc Try.prog w base spare held 51 v d p) : ∃ (a : Option Addr) (cap : Nat) (l : List CB), v = .slice a l.length cap ∧ l.length ≤ maxLen ∧ CBsAt w a l ∧ ∀ x ∈ l, x.Opened w (Rows.uptoBulk d) := by
  obtain ⟨a, len, cap, rfl⟩ := okWide_slice Try.underlying51 hv
  obtain ⟨fuel, hf⟩ := h
  exact open_acts (c := .slice a len cap) hf
end
end Go.Proofs.Ytihmbgdkllmkaaa
