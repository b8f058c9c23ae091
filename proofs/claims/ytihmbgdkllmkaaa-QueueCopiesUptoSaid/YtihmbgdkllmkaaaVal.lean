/-
  The plain model of layer 4: a value with the addresses of its parts. No program is in sight.
-/
import Derived.Test.YtihmbgdkllmkaaaLed
namespace Go.Proofs.Ytihmbgdkllmkaaa
open Go.RowKit
set_option linter.unusedVariables false
set_option linter.unusedSimpArgs false

/-- A value, with the addresses of its parts. -/
inductive MT where
  | mk (k n : Int) (a : Option Addr) (cap : Nat) (l : List MT)

namespace MT
def kind : MT → Int | .mk k _ _ _ _ => k
def num : MT → Int | .mk _ n _ _ _ => n
def parts : MT → List MT | .mk _ _ _ _ l => l
def addr : MT → Option Addr | .mk _ _ a _ _ => a
def cap : MT → Nat | .mk _ _ _ c _ => c
def sl (t : MT) : Value := .slice t.addr t.parts.length t.cap
def cells (t : MT) : List Value := [.int .i64 t.kind, .int .i64 t.num, t.sl]
def val (t : MT) : Value := .agg #[.int .i64 t.kind, .int .i64 t.num, t.sl]
@[simp] theorem cells_length (t : MT) : t.cells.length = 3 := rfl
/-- The zero value. -/
def zero : MT := .mk 0 0 none 0 []

theorem ind {P : MT → Prop} (h : ∀ k n a c l, (∀ t ∈ l, P t) → P (.mk k n a c l)) : ∀ t, P t
  | .mk k n a c l => h k n a c l (fun t ht => ind h t)
termination_by t => SizeOf.sizeOf t
decreasing_by
  simp_wf
  have := List.sizeOf_lt_of_mem ht
  omega

mutual
/-- How many parts there are. -/
def nodes : MT → Nat
  | .mk _ _ _ _ l => nodesAll l + 1
def nodesAll : List MT → Nat
  | [] => 0
  | t :: r => nodes t + nodesAll r
end
theorem nodes_pos (t : MT) : 1 ≤ t.nodes := by cases t; simp [nodes]
theorem nodesAll_append (a b : List MT) : nodesAll (a ++ b) = nodesAll a + nodesAll b := by
  induction a with
  | nil => simp [nodesAll]
  | cons t r ih => simp only [List.cons_append, nodesAll, ih]; omega
theorem nodes_mem {t : MT} {l : List MT} (h : t ∈ l) : t.nodes ≤ nodesAll l := by
  induction l with
  | nil => cases h
  | cons x r ih =>
    simp only [nodesAll]
    rcases List.mem_cons.1 h with rfl | h
    · omega
    · have := ih h; omega
theorem length_le (l : List MT) : l.length ≤ nodesAll l := by
  induction l with
  | nil => simp [nodesAll]
  | cons x r ih => have := nodes_pos x; simp only [nodesAll, List.length_cons]; omega
theorem nodes_eq (t : MT) : t.nodes = nodesAll t.parts + 1 := by cases t; rfl
theorem parts_lt {t u : MT} (h : u ∈ t.parts) : u.nodes < t.nodes := by have := nodes_mem h; rw [nodes_eq t]; omega

/-- A value without its addresses. -/
inductive PT where
  | mk (k n : Int) (l : List PT)
mutual
def plain : MT → PT
  | .mk k n _ _ l => .mk k n (plainAll l)
def plainAll : List MT → List PT
  | [] => []
  | t :: r => plain t :: plainAll r
end
theorem plainAll_map (l : List MT) : plainAll l = l.map plain := by
  induction l with
  | nil => rfl
  | cons t r ih => simp only [plainAll, List.map_cons, ih]
theorem plain_eq (t : MT) : t.plain = .mk t.kind t.num (t.parts.map plain) := by cases t; simp only [plain, plainAll_map]; rfl

mutual
/-- The blocks of its parts. -/
def blocks : MT → List Nat
  | .mk _ _ a _ l => (if l.length = 0 then [] else (a.map Addr.block).toList) ++ blocksAll l
def blocksAll : List MT → List Nat
  | [] => []
  | t :: r => blocks t ++ blocksAll r
end
theorem blocksAll_mem {l : List MT} {k : Nat} : k ∈ blocksAll l ↔ ∃ t ∈ l, k ∈ t.blocks := by
  induction l with
  | nil => simp [blocksAll]
  | cons t r ih => simp [blocksAll, ih]
theorem blocksAll_append (a b : List MT) : blocksAll (a ++ b) = blocksAll a ++ blocksAll b := by
  induction a with
  | nil => rfl
  | cons t r ih => simp [blocksAll, ih]

/-- A row of values lies at an address. -/
def RowAt (w : World) (a : Option Addr) (l : List MT) : Prop := ∀ i (hi : i < l.length), ∃ b o, a = some ⟨b, o, none⟩ ∧ b < w.heap.size ∧ ∀ j, j < 3 → w.cell? ⟨b, o + i * 3 + j, none⟩ = (l[i]).cells[j]?
mutual
/-- The parts of a value lie in memory. -/
def In (w : World) : MT → Prop
  | .mk _ _ a _ l => (l.length ≤ 9223372036854775807 ∧ RowAt w a l) ∧ InAll w l
def InAll (w : World) : List MT → Prop
  | [] => True
  | t :: r => In w t ∧ InAll w r
end
theorem inAll_iff {w : World} {l : List MT} : InAll w l ↔ ∀ t ∈ l, t.In w := by
  induction l with
  | nil => simp [InAll]
  | cons t r ih => simp [InAll, ih]
theorem In.len {w : World} {t : MT} (h : t.In w) : t.parts.length ≤ 9223372036854775807 := by cases t; exact h.1.1
theorem In.row {w : World} {t : MT} (h : t.In w) : RowAt w t.addr t.parts := by cases t; exact h.1.2
theorem In.part {w : World} {t u : MT} (h : t.In w) (hu : u ∈ t.parts) : u.In w := by cases t; exact inAll_iff.1 h.2 u hu
theorem in_mk {w : World} {k n : Int} {a : Option Addr} {c : Nat} {l : List MT} (h1 : l.length ≤ 9223372036854775807) (h2 : RowAt w a l) (h3 : ∀ t ∈ l, t.In w) : (MT.mk k n a c l).In w := ⟨⟨h1, h2⟩, inAll_iff.2 h3⟩
theorem in_zero (w : World) : zero.In w := in_mk (by simp) (fun i hi => by simp at hi) (by simp)

theorem RowAt.keep {w w' : World} {a : Option Addr} {l : List MT} (h : RowAt w a l) (he : ∀ b, (∃ o, a = some ⟨b, o, none⟩) → 0 < l.length → w'.heap[b]? = w.heap[b]?) : RowAt w' a l := by
  intro i hi
  obtain ⟨b, o, ha, hb, hc⟩ := h i hi
  have e := he b ⟨o, ha⟩ (by omega)
  refine ⟨b, o, ha, ?_, fun j hj => ?_⟩
  · rw [Array.getElem?_eq_getElem hb] at e
    exact (Array.getElem?_eq_some_iff.1 e).1
  · rw [← hc j hj]
    exact World.cell?_of_block (a := ⟨b, o + i * 3 + j, none⟩) e
theorem In.keep {w w' : World} : ∀ {t : MT}, t.In w → (∀ k ∈ t.blocks, w'.heap[k]? = w.heap[k]?) → t.In w' := by
  intro t
  induction t using MT.ind with
  | h k n a c l ih =>
    intro h he
    refine in_mk h.len (h.row.keep ?_) ?_
    · rintro b ⟨o, rfl⟩ hl
      refine he b ?_
      simp only [blocks]
      rw [if_neg (by have : 0 < l.length := hl; omega)]
      simp
    · intro t ht
      refine ih t ht (h.part ht) (fun k hk => he k ?_)
      simp only [blocks]
      exact List.mem_append_right _ (blocksAll_mem.2 ⟨t, ht, hk⟩)
theorem In.lt {w : World} : ∀ {t : MT}, t.In w → ∀ k ∈ t.blocks, k < w.heap.size := by
  intro t
  induction t using MT.ind with
  | h k n a c l ih =>
    intro h b hb
    simp only [blocks, List.mem_append] at hb
    rcases hb with hb | hb
    · by_cases hl : l.length = 0
      · simp [hl] at hb
      · rw [if_neg hl] at hb
        obtain ⟨b', o, ha, hlt, _⟩ := h.row 0 (by simp [parts]; omega)
        simp only [addr] at ha
        subst ha
        simp at hb
        subst hb
        exact hlt
    · obtain ⟨t, ht, hk⟩ := blocksAll_mem.1 hb
      exact ih t ht (h.part ht) b hk
theorem In.touch {w w' : World} {t : MT} {S : List Nat} (h : t.In w) (ht : Touch S w w') (hS : ∀ k ∈ t.blocks, k ∉ S) : t.In w' := h.keep (fun k hk => ht.block k (h.lt k hk) (hS k hk))
theorem In.touch0 {w w' : World} {t : MT} (h : t.In w) (ht : Touch [] w w') : t.In w' := h.touch ht (by simp)
theorem In.below {w w' : World} {t : MT} (h : t.In w) (hb : Below w.heap.size w w') : t.In w' := h.touch0 (Touch.of_below hb [])
theorem In.alloc {w : World} {t : MT} (h : t.In w) (o : Obj) : t.In (w.alloc o) := h.touch0 ((Touch.refl [] w).alloc o)
theorem RowAt.cellAt {w : World} {a : Option Addr} {l : List MT} (h : RowAt w a l) {i : Nat} (hi : i < l.length) : ∃ b o, a = some ⟨b, o, none⟩ ∧ b < w.heap.size ∧ w.cell? ⟨b, o + i * 3, none⟩ = some (.int .i64 (l[i]).kind) ∧ w.cell? ⟨b, o + i * 3 + 1, none⟩ = some (.int .i64 (l[i]).num) ∧ w.cell? ⟨b, o + i * 3 + 2, none⟩ = some (l[i]).sl := by
  obtain ⟨b, o, ha, hb, hc⟩ := h i hi
  exact ⟨b, o, ha, hb, hc 0 (by omega), hc 1 (by omega), hc 2 (by omega)⟩
end MT

/-- A value in memory, as a thing. -/
def valT (t : MT) : Thing where
  holds w fp := fp = t.blocks ∧ t.In w
  keep := fun ⟨h1, h2⟩ he => ⟨h1, h2.keep (fun k hk => he k (h1 ▸ hk))⟩
  lt := fun ⟨h1, h2⟩ k hk => h2.lt k (h1 ▸ hk)
theorem Led.valIn {T : List Nat} {w0 w : World} {l : List Thing} {t : MT} (h : Led T w0 w l) (i : Nat) (hi : l[i]? = some (valT t)) : t.In w := let ⟨_, h, _⟩ := h.get i hi; h.2
end Go.Proofs.Ytihmbgdkllmkaaa
