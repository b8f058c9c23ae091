/-
  Texts 5 of 5 that ChannelPlays rests on, laid together by program: OpenV, Open14.
-/
import Derived.Test.YtihmbgdkllmkaaaDoorCP1
import Derived.Test.YtihmbgdkllmkaaaDoorCP2
import Derived.Test.YtihmbgdkllmkaaaDoorCP3
import Derived.Test.YtihmbgdkllmkaaaDoorCP4
import Derived.Test.YtihmbgdkllmkaaaDoorRows
import Derived.Deep.Slices
import Derived.Deep.Fields
import Derived.ChangeSame
import Derived.ProofKit
import Derived.OpenShut
/-
  Arguments that are values (trees) or entries, opened: MT with In, its parts no more than the bulk of what was read.
-/
namespace Go.Proofs.YtihmbgdkllmkaaaDoor
open Go.ChangeShapes Go.WideShapes Go.Deep Go.RowKit
set_option linter.unusedVariables false
set_option maxRecDepth 100000

theorem list_of_forall {α : Type} {p : Nat → α → Prop} : ∀ (n : Nat), (∀ i, i < n → ∃ x, p i x) → ∃ l : List α, l.length = n ∧ ∀ i (hi : i < l.length), p i l[i] := by
  intro n
  induction n with
  | zero => intro _; exact ⟨[], rfl, fun i hi => by simp at hi⟩
  | succ n ih =>
    intro h
    obtain ⟨l, hl, hp⟩ := ih (fun i hi => h i (by omega))
    obtain ⟨x, hx⟩ := h n (by omega)
    refine ⟨l ++ [x], by simp [hl], fun i hi => ?_⟩
    by_cases hin : i < l.length
    · rw [List.getElem_append_left hin]; exact hp i hin
    · have : i = n := by simp at hi; omega
      subst this
      rw [List.getElem_append_right (by omega)]
      simpa using hx
theorem add_add' (a : Addr) (i j : Nat) : (a.add i).add j = a.add (i + j) := by
  unfold Addr.add
  by_cases hi : i = 0 <;> by_cases hj : j = 0 <;> simp [hi, hj, Nat.add_assoc]
theorem list3 {α : Type} {l : List α} (h : l.length = 3) : ∃ a b c, l = [a, b, c] := by
  match l, h with
  | [a, b, c], _ => exact ⟨a, b, c, rfl⟩
theorem nodesAll_le {H : Type} (l : List MT) (ds : List (DataW H)) (hl : l.length = ds.length) (h : ∀ i (hi : i < l.length) (hd : i < ds.length), l[i].nodes ≤ Rows.uptoBulk ds[i]) : MT.nodesAll l ≤ Rows.uptoBulkAll ds := by
  induction l generalizing ds with
  | nil => simp [MT.nodesAll]
  | cons t r ih =>
    match ds, hl with
    | d :: ds, hl =>
      simp only [MT.nodesAll, Rows.uptoBulkAll]
      have h0 := h 0 (by simp) (by simp)
      have h1 := ih ds (by simpa using hl) (fun i hi hd => h (i + 1) (by simpa using hi) (by simpa using hd))
      simp only [List.getElem_cons_zero] at h0
      omega
theorem bulk_mem {H : Type} {d : DataW H} {l : List (DataW H)} (h : d ∈ l) : Rows.uptoBulk d ≤ Rows.uptoBulkAll l := by
  induction l with
  | nil => cases h
  | cons x r ih =>
    simp only [Rows.uptoBulkAll]
    rcases List.mem_cons.1 h with rfl | h
    · omega
    · have := ih h; omega
/-- Its numbers are words. -/
def ME.Fits (x : ME) : Prop := (-9223372036854775808 ≤ x.sync ∧ x.sync ≤ 9223372036854775807) ∧ (-9223372036854775808 ≤ x.thread ∧ x.thread ≤ 9223372036854775807) ∧ (-9223372036854775808 ≤ x.branch ∧ x.branch ≤ 9223372036854775807) ∧ (-9223372036854775808 ≤ x.flag ∧ x.flag ≤ 9223372036854775807)
section
variable {H : Type} {enc : TypeId × Value → H} {w : World} {base : Nat} {spare : Nat → Bool} {held : Bool}
theorem cells_val : Tryd.prog.cellsOf 40 = 3 := by kernel_rfl
theorem cells_int : Tryd.prog.cellsOf 3 = 1 := by kernel_rfl
theorem cells_kind : Tryd.prog.cellsOf 37 = 1 := by kernel_rfl
theorem cells_i64 : Tryd.prog.cellsOf 2 = 1 := by kernel_rfl
theorem cells_vals : Tryd.prog.cellsOf 38 = 1 := by kernel_rfl
theorem cells_ent : Tryd.prog.cellsOf 42 = 7 := by kernel_rfl
theorem open_val_cells : ∀ (N : Nat) (d : DataW H), Rows.uptoBulk d ≤ N → ∀ (fuel : Nat) (cs : List Value) (p : List MemPlace), DataW.trod enc Tryd.prog w base spare held fuel 40 cs = some (d, p) → ∃ t : MT, cs = t.cells ∧ t.In w ∧ t.nodes ≤ Rows.uptoBulk d := by
  intro N
  induction N with
  | zero => intro d hd fuel cs p h; obtain ⟨xs, n, _, hx, _⟩ := DataW.trod_struct Tryd.underlying40 h; injection hx with hx _; subst hx; simp [Rows.uptoBulk] at hd
  | succ N ih =>
    intro d hd fuel cs p h
    obtain ⟨xs, n, _, hx, hl, hlen, hf⟩ := DataW.trod_struct Tryd.underlying40 h
    injection hx with hx _
    subst hx
    rw [cells_val] at hl
    obtain ⟨c0, c1, c2, rfl⟩ := list3 hl
    obtain ⟨x0, x1, x2, rfl⟩ := list3 hlen
    have f0 : DataW.trod enc Tryd.prog w base spare held n 37 (List.take (Tryd.prog.cellsOf 37) (List.drop 0 [c0, c1, c2])) = some x0 := hf 0 _ rfl
    have f1 : DataW.trod enc Tryd.prog w base spare held n 2 (List.take (Tryd.prog.cellsOf 2) (List.drop 1 [c0, c1, c2])) = some x1 := hf 1 _ rfl
    have f2 : DataW.trod enc Tryd.prog w base spare held n 38 (List.take (Tryd.prog.cellsOf 38) (List.drop 2 [c0, c1, c2])) = some x2 := hf 2 _ rfl
    rw [cells_kind] at f0
    rw [cells_i64] at f1
    rw [cells_vals] at f2
    simp only [List.drop_zero, List.drop_succ_cons, List.take_succ_cons, List.take_zero] at f0 f1 f2
    obtain ⟨z0, hz0, hx0, _⟩ := DataW.trod_int Tryd.underlying37 f0
    obtain ⟨z1, hz1, hx1, _⟩ := DataW.trod_int Tryd.underlying2 f1
    injection hz0 with hz0 _
    injection hz1 with hz1 _
    subst hz0 hz1 hx0 hx1
    simp only [List.map_cons, List.map_nil, Rows.uptoBulk, Rows.uptoBulkAll] at hd ⊢
    rcases open_slice Tryd.underlying38 f2 with ⟨hcs, hx2⟩ | ⟨a, len, cap, m, n', D, Pl, hcs, hb, hlc, hm, hmm, hx2, hi⟩
    · injection hcs with hcs _
      subst hcs
      exact ⟨.mk z0 z1 none 0 [], rfl, MT.in_mk (by simp) (fun i hi => by simp at hi) (by simp), by simp [MT.nodes, MT.nodesAll]⟩
    · injection hcs with hcs _
      subst hcs
      have hlm : len ≤ m := by rw [hmm]; split <;> omega
      subst hx2
      simp only [Rows.uptoBulk] at hd ⊢
      obtain ⟨l, hll, hp⟩ := list_of_forall (p := fun i (t : MT) => (∀ j, j < 3 → w.cell? ((a.add (i * 3)).add j) = t.cells[j]?) ∧ t.In w ∧ t.nodes ≤ Rows.uptoBulk (D i)) len (fun i hil => by
        obtain ⟨cs', hc, ht'⟩ := hi i (by omega)
        rw [cells_val] at hc
        obtain ⟨_, hcl, hat⟩ := World.cells?_some hc
        have hbi : Rows.uptoBulk (D i) ≤ Rows.uptoBulkAll ((List.range len).map D) := bulk_mem (List.mem_map.2 ⟨i, List.mem_range.2 hil, rfl⟩)
        obtain ⟨t, rfl, ht1, ht2⟩ := ih (D i) (by omega) _ _ _ ht'
        exact ⟨t, hat, ht1, ht2⟩)
      subst hll
      refine ⟨.mk z0 z1 (some a) cap l, rfl, MT.in_mk (by simp only [maxLen] at hm; omega) (fun i hil => ?_) (fun t ht => ?_), ?_⟩
      · obtain ⟨hat, _, _⟩ := hp i hil
        obtain ⟨b, o, sp⟩ := a
        have hsp : sp = none := by
          obtain ⟨hat0, _, _⟩ := hp 0 (by omega)
          have h00 := hat0 0 (by omega)
          rw [add_add'] at h00
          have h01 : w.cell? ((⟨b, o, sp⟩ : Addr).add 0) = some (.int .i64 (l[0]'(by omega)).kind) := by simp only [Nat.zero_mul, Nat.add_zero] at h00; exact h00
          simpa [Addr.add] using World.cell?_spot h01
        subst hsp
        have h0 := hat 0 (by omega)
        rw [add_add', Addr.add_lit] at h0
        refine ⟨b, o, rfl, World.block_lt_of_cell? w _ (u := .int .i64 l[i].kind) h0, fun j hj => ?_⟩
        have := hat j hj
        rw [add_add', Addr.add_lit, ← Nat.add_assoc] at this
        exact this
      · obtain ⟨i, hil, rfl⟩ := List.mem_iff_getElem.1 ht
        exact (hp i hil).2.1
      · have := nodesAll_le l ((List.range l.length).map D) (by simp) (fun i hil hd => by simp; exact (hp i hil).2.2)
        simp only [MT.nodes]
        omega
theorem list7 {α : Type} {l : List α} (h : l.length = 7) : ∃ a b c d e f g, l = [a, b, c, d, e, f, g] := by
  match l, h with
  | [a, b, c, d, e, f, g], _ => exact ⟨a, b, c, d, e, f, g, rfl⟩
theorem list5 {α : Type} {l : List α} (h : l.length = 5) : ∃ a b c d e, l = [a, b, c, d, e] := by
  match l, h with
  | [a, b, c, d, e], _ => exact ⟨a, b, c, d, e, rfl⟩
theorem open_ent_cells (fuel : Nat) (cs : List Value) (d : DataW H) (p : List MemPlace) (h : DataW.trod enc Tryd.prog w base spare held fuel 42 cs = some (d, p)) : ∃ x : ME, cs = x.cells ∧ x.v.In w ∧ x.v.nodes ≤ Rows.uptoBulk d ∧ x.Fits := by
  obtain ⟨xs, n, _, hx, hl, hlen, hf⟩ := DataW.trod_struct Tryd.underlying42 h
  injection hx with hx _
  subst hx
  rw [cells_ent] at hl
  obtain ⟨c0, c1, c2, c3, c4, c5, c6, rfl⟩ := list7 hl
  obtain ⟨x0, x1, x2, x3, x4, rfl⟩ := list5 hlen
  have f0 : DataW.trod enc Tryd.prog w base spare held n 3 (List.take (Tryd.prog.cellsOf 3) (List.drop 0 [c0, c1, c2, c3, c4, c5, c6])) = some x0 := hf 0 _ rfl
  have f1 : DataW.trod enc Tryd.prog w base spare held n 3 (List.take (Tryd.prog.cellsOf 3) (List.drop 1 [c0, c1, c2, c3, c4, c5, c6])) = some x1 := hf 1 _ rfl
  have f2 : DataW.trod enc Tryd.prog w base spare held n 3 (List.take (Tryd.prog.cellsOf 3) (List.drop 2 [c0, c1, c2, c3, c4, c5, c6])) = some x2 := hf 2 _ rfl
  have f3 : DataW.trod enc Tryd.prog w base spare held n 3 (List.take (Tryd.prog.cellsOf 3) (List.drop 3 [c0, c1, c2, c3, c4, c5, c6])) = some x3 := hf 3 _ rfl
  have f4 : DataW.trod enc Tryd.prog w base spare held n 40 (List.take (Tryd.prog.cellsOf 40) (List.drop 4 [c0, c1, c2, c3, c4, c5, c6])) = some x4 := hf 4 _ rfl
  rw [cells_int] at f0 f1 f2 f3
  rw [cells_val] at f4
  simp only [List.drop_zero, List.drop_succ_cons, List.take_succ_cons, List.take_zero] at f0 f1 f2 f3 f4
  obtain ⟨z0, hz0, hx0, g0⟩ := DataW.trod_int Tryd.underlying3 f0
  obtain ⟨z1, hz1, hx1, g1⟩ := DataW.trod_int Tryd.underlying3 f1
  obtain ⟨z2, hz2, hx2, g2⟩ := DataW.trod_int Tryd.underlying3 f2
  obtain ⟨z3, hz3, hx3, g3⟩ := DataW.trod_int Tryd.underlying3 f3
  injection hz0 with hz0 _
  injection hz1 with hz1 _
  injection hz2 with hz2 _
  injection hz3 with hz3 _
  subst hz0 hz1 hz2 hz3
  obtain ⟨x4, p4⟩ := x4
  obtain ⟨t, ht, hin, hno⟩ := open_val_cells _ x4 (Nat.le_refl _) _ _ _ f4
  have ht' : c4 = .int .i64 t.kind ∧ c5 = .int .i64 t.num ∧ c6 = t.sl := by simpa [MT.cells] using ht
  obtain ⟨rfl, rfl, rfl⟩ := ht'
  refine ⟨⟨z0, z1, z2, z3, t⟩, rfl, hin, ?_, bounds_i64 g0, bounds_i64 g1, bounds_i64 g2, bounds_i64 g3⟩
  simp only [List.map_cons, List.map_nil, Rows.uptoBulk, Rows.uptoBulkAll]
  show t.nodes ≤ _
  omega
/-- An entry by value. -/
theorem open_ent {r : Reach} {b0 : Nat} {v : Value} {d : DataW H} {p : List MemPlace} (hv : Value.okWide Tryd.prog w r b0 42 v) (h : DataW.Trod enc Tryd.prog w base spare held 42 v d p) : ∃ x : ME, v = x.val ∧ x.v.In w ∧ x.v.nodes ≤ Rows.uptoBulk d ∧ x.Fits := by
  obtain ⟨cs, rfl, hsz⟩ := okWide_struct Tryd.underlying42 hv
  obtain ⟨fuel, hf⟩ := h
  obtain ⟨x, hx, h1, h2, h3⟩ := open_ent_cells fuel _ d p hf
  refine ⟨x, ?_, h1, h2, h3⟩
  have : cs = x.cells.toArray := by
    apply Array.ext'
    simpa [Value.cells] using hx
  rw [this]
  rfl
/-- Entries in a slice. -/
theorem open_ents {fuel : Nat} {c : Value} {d : DataW H} {p : List MemPlace} (h : DataW.trod enc Tryd.prog w base spare held fuel 56 [c] = some (d, p)) : ∃ (a : Option Addr) (cap : Nat) (l : List ME), c = .slice a l.length cap ∧ l.length ≤ maxLen ∧ EntsAt w a l ∧ ∀ x ∈ l, x.v.In w ∧ x.v.nodes ≤ Rows.uptoBulk d ∧ x.Fits := by
  rcases open_slice Tryd.underlying56 h with ⟨hcs, hx2⟩ | ⟨a, len, cap, m, n', D, Pl, hcs, hb, hlc, hm, hmm, hx2, hi⟩
  · injection hcs with hcs _
    subst hcs
    exact ⟨none, 0, [], rfl, by simp [maxLen], fun i hi => by simp at hi, by simp⟩
  · injection hcs with hcs _
    subst hcs
    have hlm : len ≤ m := by rw [hmm]; split <;> omega
    injection hx2 with hx2 _
    subst hx2
    obtain ⟨l, hll, hp⟩ := list_of_forall (p := fun i (t : ME) => (∀ j, j < 7 → w.cell? ((a.add (i * 7)).add j) = t.cells[j]?) ∧ t.v.In w ∧ t.v.nodes ≤ Rows.uptoBulk (D i) ∧ t.Fits) len (fun i hil => by
      obtain ⟨cs', hc, ht'⟩ := hi i (by omega)
      rw [cells_ent] at hc
      obtain ⟨_, hcl, hat⟩ := World.cells?_some hc
      obtain ⟨t, rfl, ht1, ht2, ht3⟩ := open_ent_cells _ _ _ _ ht'
      exact ⟨t, hat, ht1, ht2, ht3⟩)
    subst hll
    refine ⟨some a, cap, l, rfl, by omega, fun i hil => ?_, fun x hx => ?_⟩
    · obtain ⟨hat, _, _⟩ := hp i hil
      obtain ⟨b, o, sp⟩ := a
      have hsp : sp = none := by
        obtain ⟨hat0, _, _⟩ := hp 0 (by omega)
        have h00 := hat0 0 (by omega)
        rw [add_add'] at h00
        have h01 : w.cell? ((⟨b, o, sp⟩ : Addr).add 0) = some (.int .i64 (l[0]'(by omega)).sync) := by simp only [Nat.zero_mul, Nat.add_zero] at h00; exact h00
        simpa [Addr.add] using World.cell?_spot h01
      subst hsp
      have hc : ∀ j, j < 7 → w.cell? ⟨b, o + i * 7 + j, none⟩ = l[i].cells[j]? := fun j hj => by
        have := hat j hj
        rw [add_add', Addr.add_lit, ← Nat.add_assoc] at this
        exact this
      exact ⟨b, o, rfl, World.block_lt_of_cell? w _ (u := .int .i64 l[i].sync) (hc 0 (by omega)), hc 0 (by omega), hc 1 (by omega), hc 2 (by omega), hc 3 (by omega), hc 4 (by omega), hc 5 (by omega), hc 6 (by omega)⟩
    · obtain ⟨i, hil, rfl⟩ := List.mem_iff_getElem.1 hx
      obtain ⟨_, h1, h2, h3⟩ := hp i hil
      have hbi : Rows.uptoBulk (D i) ≤ Rows.uptoBulkAll ((List.range l.length).map D) := bulk_mem (List.mem_map.2 ⟨i, List.mem_range.2 hil, rfl⟩)
      refine ⟨h1, ?_, h3⟩
      simp only [Rows.uptoBulk]
      omega
end
end Go.Proofs.YtihmbgdkllmkaaaDoor

/-
  Arguments that are calls of law 14, opened: a slice of them, and two of them.
-/
namespace Go.Proofs.YtihmbgdkllmkaaaDoor
open Go.ChangeShapes Go.WideShapes Go.Deep Go.RowKit
set_option linter.unusedVariables false
set_option maxRecDepth 100000

theorem list8 {α : Type} {l : List α} (h : l.length = 8) : ∃ a b c d e f g i, l = [a, b, c, d, e, f, g, i] := by
  match l, h with
  | [a, b, c, d, e, f, g, i], _ => exact ⟨a, b, c, d, e, f, g, i, rfl⟩
theorem list2 {α : Type} {l : List α} (h : l.length = 2) : ∃ a b, l = [a, b] := by
  match l, h with
  | [a, b], _ => exact ⟨a, b, rfl⟩
theorem list10 {α : Type} {l : List α} (h : l.length = 10) : ∃ a b c d e f g i j k, l = [a, b, c, d, e, f, g, i, j, k] := by
  match l, h with
  | [a, b, c, d, e, f, g, i, j, k], _ => exact ⟨a, b, c, d, e, f, g, i, j, k, rfl⟩
theorem list4' {α : Type} {l : List α} (h : l.length = 4) : ∃ a b c d, l = [a, b, c, d] := by
  match l, h with
  | [a, b, c, d], _ => exact ⟨a, b, c, d, rfl⟩
theorem list20 {α : Type} {l : List α} (h : l.length = 20) : ∃ a0 a1 a2 a3 a4 a5 a6 a7 a8 a9 b0 b1 b2 b3 b4 b5 b6 b7 b8 b9, l = [a0, a1, a2, a3, a4, a5, a6, a7, a8, a9, b0, b1, b2, b3, b4, b5, b6, b7, b8, b9] := by
  match l, h with
  | [a0, a1, a2, a3, a4, a5, a6, a7, a8, a9, b0, b1, b2, b3, b4, b5, b6, b7, b8, b9], _ => exact ⟨a0, a1, a2, a3, a4, a5, a6, a7, a8, a9, b0, b1, b2, b3, b4, b5, b6, b7, b8, b9, rfl⟩
/-- Two calls, as one value. -/
def twoCells14 (x y : C4) : Array Value := (x.cells ++ y.cells).toArray
def twoVal14 (x y : C4) : Value := .agg (twoCells14 x y)
section
variable {H : Type} {enc : TypeId × Value → H} {w : World} {base : Nat} {spare : Nat → Bool} {held : Bool}
theorem cells_side : Tryd.prog.cellsOf 45 = 1 := by kernel_rfl
theorem cells_act14 : Tryd.prog.cellsOf 68 = 10 := by kernel_rfl
theorem cells_two14 : Tryd.prog.cellsOf 87 = 20 := by kernel_rfl
/-- What an opened call is. -/
def C4.Opened (x : C4) (w : World) (N : Nat) : Prop := x.e.v.In w ∧ x.e.v.nodes ≤ N
theorem open_act14_cells (fuel : Nat) (cs : List Value) (d : DataW H) (p : List MemPlace) (h : DataW.trod enc Tryd.prog w base spare held fuel 68 cs = some (d, p)) : ∃ x : C4, cs = x.cells ∧ x.Opened w (Rows.uptoBulk d) := by
  obtain ⟨xs, n, _, hx, hl, hlen, hf⟩ := DataW.trod_struct Tryd.underlying68 h
  injection hx with hx _
  subst hx
  rw [cells_act14] at hl
  obtain ⟨c0, c1, c2, c3, c4, c5, c6, c7, c8, c9, rfl⟩ := list10 hl
  obtain ⟨x0, x1, x2, x3, rfl⟩ := list4' hlen
  have f0 : DataW.trod enc Tryd.prog w base spare held n 3 (List.take (Tryd.prog.cellsOf 3) (List.drop 0 [c0, c1, c2, c3, c4, c5, c6, c7, c8, c9])) = some x0 := hf 0 _ rfl
  have f1 : DataW.trod enc Tryd.prog w base spare held n 45 (List.take (Tryd.prog.cellsOf 45) (List.drop 1 [c0, c1, c2, c3, c4, c5, c6, c7, c8, c9])) = some x1 := hf 1 _ rfl
  have f2 : DataW.trod enc Tryd.prog w base spare held n 3 (List.take (Tryd.prog.cellsOf 3) (List.drop 2 [c0, c1, c2, c3, c4, c5, c6, c7, c8, c9])) = some x2 := hf 2 _ rfl
  have f3 : DataW.trod enc Tryd.prog w base spare held n 42 (List.take (Tryd.prog.cellsOf 42) (List.drop 3 [c0, c1, c2, c3, c4, c5, c6, c7, c8, c9])) = some x3 := hf 3 _ rfl
  rw [cells_int] at f0 f2
  rw [cells_side] at f1
  rw [cells_ent] at f3
  simp only [List.drop_zero, List.drop_succ_cons, List.take_succ_cons, List.take_zero] at f0 f1 f2 f3
  obtain ⟨z0, hz0, hx0, g0⟩ := DataW.trod_int Tryd.underlying3 f0
  obtain ⟨z1, hz1, hx1, g1⟩ := DataW.trod_int Tryd.underlying45 f1
  obtain ⟨z2, hz2, hx2, g2⟩ := DataW.trod_int Tryd.underlying3 f2
  injection hz0 with hz0 _
  injection hz1 with hz1 _
  injection hz2 with hz2 _
  subst hz0 hz1 hz2
  obtain ⟨x3, p3⟩ := x3
  obtain ⟨e, he, h1, h2, _⟩ := open_ent_cells _ _ _ _ f3
  refine ⟨⟨z0, z1, z2, e⟩, ?_, h1, ?_⟩
  · simp only [C4.cells]; rw [← he]
  · show e.v.nodes ≤ _
    simp only [List.map_cons, List.map_nil, Rows.uptoBulk, Rows.uptoBulkAll]
    omega
/-- One call. -/
theorem open_act14 {r : Reach} {b0 : Nat} {v : Value} {d : DataW H} {p : List MemPlace} (hv : Value.okWide Tryd.prog w r b0 68 v) (h : DataW.Trod enc Tryd.prog w base spare held 68 v d p) : ∃ x : C4, v = .agg x.cells.toArray ∧ x.Opened w (Rows.uptoBulk d) := by
  simp only [Value.okWide, Tryd.underlying68] at hv
  obtain ⟨cs, rfl, hsz, _⟩ := hv
  obtain ⟨fuel, hf⟩ := h
  obtain ⟨x, hx, hxo⟩ := open_act14_cells _ _ _ _ hf
  refine ⟨x, ?_, hxo⟩
  have h2 : cs.toList = x.cells := by simpa [Value.cells] using hx
  rw [← h2]
/-- Calls in a slice. -/
theorem open_acts14 {fuel : Nat} {c : Value} {d : DataW H} {p : List MemPlace} (h : DataW.trod enc Tryd.prog w base spare held fuel 50 [c] = some (d, p)) : ∃ (a : Option Addr) (cap : Nat) (l : List C4), c = .slice a l.length cap ∧ l.length ≤ maxLen ∧ C4sAt w a l ∧ ∀ x ∈ l, x.Opened w (Rows.uptoBulk d) := by
  rcases open_slice Tryd.underlying50 h with ⟨hcs, hx2⟩ | ⟨a, len, cap, m, n', D, Pl, hcs, hb, hlc, hm, hmm, hx2, hi⟩
  · injection hcs with hcs _
    subst hcs
    exact ⟨none, 0, [], rfl, by simp [maxLen], fun i hi => by simp at hi, by simp⟩
  · injection hcs with hcs _
    subst hcs
    have hlm : len ≤ m := by rw [hmm]; split <;> omega
    injection hx2 with hx2 _
    subst hx2
    obtain ⟨l, hll, hp⟩ := list_of_forall (p := fun i (t : C4) => (∀ j, j < 10 → w.cell? ((a.add (i * 10)).add j) = t.cells[j]?) ∧ t.Opened w (Rows.uptoBulk (D i))) len (fun i hil => by
      obtain ⟨cs', hc, ht'⟩ := hi i (by omega)
      rw [cells_act14] at hc
      obtain ⟨_, hcl, hat⟩ := World.cells?_some hc
      obtain ⟨t, rfl, ht1⟩ := open_act14_cells _ _ _ _ ht'
      exact ⟨t, hat, ht1⟩)
    subst hll
    refine ⟨some a, cap, l, rfl, by omega, fun i hil => ?_, fun x hx => ?_⟩
    · obtain ⟨hat, _⟩ := hp i hil
      obtain ⟨b, o, sp⟩ := a
      have hsp : sp = none := by
        obtain ⟨hat0, _⟩ := hp 0 (by omega)
        have h00 := hat0 0 (by omega)
        rw [add_add'] at h00
        have h01 : w.cell? ((⟨b, o, sp⟩ : Addr).add 0) = some (.int .i64 (l[0]'(by omega)).what) := by simp only [Nat.zero_mul, Nat.add_zero] at h00; exact h00
        simpa [Addr.add] using World.cell?_spot h01
      subst hsp
      have hc : ∀ j, j < 10 → w.cell? ⟨b, o + i * 10 + j, none⟩ = l[i].cells[j]? := fun j hj => by
        have := hat j hj
        rw [add_add', Addr.add_lit, ← Nat.add_assoc] at this
        exact this
      exact ⟨b, o, rfl, World.block_lt_of_cell? w _ (u := .int .i64 l[i].what) (hc 0 (by omega)), hc 0 (by omega), hc 1 (by omega), hc 2 (by omega), hc 3 (by omega), hc 4 (by omega), hc 5 (by omega), hc 6 (by omega), hc 7 (by omega), hc 8 (by omega), hc 9 (by omega)⟩
    · obtain ⟨i, hil, rfl⟩ := List.mem_iff_getElem.1 hx
      obtain ⟨_, h1, h2⟩ := hp i hil
      have hbi : Rows.uptoBulk (D i) ≤ Rows.uptoBulkAll ((List.range l.length).map D) := bulk_mem (List.mem_map.2 ⟨i, List.mem_range.2 hil, rfl⟩)
      refine ⟨h1, ?_⟩
      simp only [Rows.uptoBulk]
      omega
/-- Such an argument. -/
theorem open_acts14_arg {r : Reach} {b0 : Nat} {v : Value} {d : DataW H} {p : List MemPlace} (hv : Value.okWide Tryd.prog w r b0 50 v) (h : DataW.Trod enc Tryd.prog w base spare held 50 v d p) : ∃ (a : Option Addr) (cap : Nat) (l : List C4), v = .slice a l.length cap ∧ l.length ≤ maxLen ∧ C4sAt w a l ∧ ∀ x ∈ l, x.Opened w (Rows.uptoBulk d) := by
  obtain ⟨a, len, cap, rfl⟩ := okWide_slice Tryd.underlying50 hv
  obtain ⟨fuel, hf⟩ := h
  exact open_acts14 (c := .slice a len cap) hf
theorem open_two14 {r : Reach} {b0 : Nat} {v : Value} {d : DataW H} {p : List MemPlace} (hv : Value.okWide Tryd.prog w r b0 87 v) (h : DataW.Trod enc Tryd.prog w base spare held 87 v d p) : ∃ x y : C4, v = twoVal14 x y ∧ ∀ z ∈ [x, y], z.Opened w (Rows.uptoBulk d) := by
  simp only [Value.okWide, Tryd.underlying87] at hv
  obtain ⟨cs, rfl, hsz, _⟩ := hv
  obtain ⟨fuel, hf⟩ := h
  obtain ⟨xs, n, _, hx, hl, hlen, hfe⟩ := DataW.trod_array Tryd.underlying87 hf
  injection hx with hx _
  subst hx
  rw [cells_two14] at hl
  obtain ⟨a0, a1, a2, a3, a4, a5, a6, a7, a8, a9, b0, b1, b2, b3, b4, b5, b6, b7, b8, b9, hcs⟩ := list20 hl
  obtain ⟨x0, x1, rfl⟩ := list2 hlen
  have f0 := hfe 0 (by omega)
  have f1 := hfe 1 (by omega)
  rw [hcs, cells_act14] at f0 f1
  simp only [Nat.zero_mul, Nat.one_mul, List.drop_zero, List.drop_succ_cons, List.take_succ_cons, List.take_zero, List.getElem?_cons_zero, List.getElem?_cons_succ] at f0 f1
  obtain ⟨d0, p0⟩ := x0
  obtain ⟨d1, p1⟩ := x1
  obtain ⟨x, hx, hxo⟩ := open_act14_cells _ _ _ _ f0
  obtain ⟨y, hy, hyo⟩ := open_act14_cells _ _ _ _ f1
  refine ⟨x, y, ?_, fun z hz => ?_⟩
  · have : cs = twoCells14 x y := by
      have h2 : cs.toList = (twoCells14 x y).toList := by
        have h3 : cs.toList = [a0, a1, a2, a3, a4, a5, a6, a7, a8, a9] ++ [b0, b1, b2, b3, b4, b5, b6, b7, b8, b9] := by simpa [Value.cells] using hcs
        rw [h3, hx, hy]; simp [twoCells14]
      exact Array.ext' h2
    rw [this]
    rfl
  · simp only [List.map_cons, List.map_nil, Rows.uptoBulk, Rows.uptoBulkAll]
    simp at hz
    rcases hz with rfl | rfl
    · exact ⟨hxo.1, by have := hxo.2; omega⟩
    · exact ⟨hyo.1, by have := hyo.2; omega⟩
end
end Go.Proofs.YtihmbgdkllmkaaaDoor
