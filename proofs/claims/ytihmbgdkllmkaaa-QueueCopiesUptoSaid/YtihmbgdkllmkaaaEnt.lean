/-
  The plain model of layer 13: entries, with the addresses of their values; a queue as a thing. No program is in sight but for the types' numbers.
-/
import Derived.Test.YtihmbgdkllmkaaaRefV
namespace Go.Proofs.Ytihmbgdkllmkaaa
open Go.RowKit
set_option linter.unusedVariables false
set_option linter.unusedSimpArgs false

/-- An entry, with the addresses of its value. -/
structure ME where
  sync : Int
  thread : Int
  branch : Int
  flag : Int
  v : MT
/-- An entry without addresses. -/
structure PE where
  sync : Int
  thread : Int
  branch : Int
  flag : Int
  v : MT.PT
namespace ME
def plain (e : ME) : PE := ⟨e.sync, e.thread, e.branch, e.flag, e.v.plain⟩
def cells (e : ME) : List Value := [.int .i64 e.sync, .int .i64 e.thread, .int .i64 e.branch, .int .i64 e.flag, .int .i64 e.v.kind, .int .i64 e.v.num, .slice e.v.addr e.v.parts.length e.v.cap]
def val (e : ME) : Value := .agg #[.int .i64 e.sync, .int .i64 e.thread, .int .i64 e.branch, .int .i64 e.flag, .int .i64 e.v.kind, .int .i64 e.v.num, .slice e.v.addr e.v.parts.length e.v.cap]
theorem cells_length (e : ME) : e.cells.length = 7 := rfl
def zero : ME := ⟨0, 0, 0, 0, MT.zero⟩
end ME
theorem ent_eq (e : ME) : e.val = .agg #[.int .i64 e.sync, .int .i64 e.thread, .int .i64 e.branch, .int .i64 e.flag, .int .i64 e.v.kind, .int .i64 e.v.num, .slice e.v.addr e.v.parts.length e.v.cap] := rfl
/-- It may be an entry. -/
def PE.Ok (p : PE) : Prop := 0 ≤ p.sync ∧ 0 ≤ p.thread ∧ 0 ≤ p.branch ∧ 0 ≤ p.flag ∧ (p.v = .mk 0 0 [] ∨ p.v.Ok)
theorem MT.PT.ok_kind {k n : Int} {l : List MT.PT} (h : (MT.PT.mk k n l).Ok) : k ≠ 0 := by
  rintro rfl
  have := h.2.1
  simp [Shape] at this
theorem PE.Ok.nodes {p : PE} (h : p.Ok) : p.v.nodes ≤ 256 := by
  rcases h.2.2.2.2 with h | h
  · rw [h]; simp [MT.PT.nodes, MT.PT.nodesAll]
  · exact h.1

def entCells (l : List ME) : List Value := l.flatMap ME.cells
theorem entCells_length (l : List ME) : (entCells l).length = l.length * 7 := by
  induction l with
  | nil => rfl
  | cons x l ih => simp only [entCells, List.flatMap_cons, List.length_append, ME.cells_length, List.length_cons] at ih ⊢; omega
theorem entCells_append (a b : List ME) : entCells (a ++ b) = entCells a ++ entCells b := by simp [entCells]
theorem entCells_take (l : List ME) (i : Nat) : entCells (l.take i) = (entCells l).take (i * 7) := by
  induction l generalizing i with
  | nil => simp [entCells]
  | cons x l ih =>
    cases i with
    | zero => simp [entCells]
    | succ i =>
      simp only [List.take_succ_cons]
      have h1 : entCells (x :: l) = x.cells ++ entCells l := by simp [entCells]
      have h2 : entCells (x :: l.take i) = x.cells ++ entCells (l.take i) := by simp [entCells]
      rw [h1, h2, ih i, List.take_append, List.take_of_length_le (l := x.cells) (by rw [ME.cells_length]; omega), ME.cells_length, show (i + 1) * 7 - 7 = i * 7 by omega]
theorem entCells_drop (l : List ME) (i : Nat) : entCells (l.drop i) = (entCells l).drop (i * 7) := by
  induction l generalizing i with
  | nil => simp [entCells]
  | cons x l ih =>
    cases i with
    | zero => simp [entCells]
    | succ i =>
      simp only [List.drop_succ_cons]
      have h1 : entCells (x :: l) = x.cells ++ entCells l := by simp [entCells]
      rw [h1, ih i, List.drop_append, List.drop_of_length_le (l := x.cells) (by rw [ME.cells_length]; omega), ME.cells_length, List.nil_append, show (i + 1) * 7 - 7 = i * 7 by omega]
theorem entCells_get (l : List ME) (i : Nat) (hi : i < l.length) (j : Nat) (hj : j < 7) : (entCells l)[i * 7 + j]? = l[i].cells[j]? := by
  induction l generalizing i with
  | nil => simp at hi
  | cons x l ih =>
    simp only [entCells, List.flatMap_cons]
    cases i with
    | zero =>
      rw [List.getElem?_append_left (by simp [ME.cells_length]; omega)]
      simp
    | succ i =>
      rw [List.getElem?_append_right (by simp [ME.cells_length]; omega)]
      have := ih i (by simpa using hi)
      simp only [ME.cells_length, List.getElem_cons_succ]
      rw [show (i + 1) * 7 + j - 7 = i * 7 + j from by omega]
      exact this
theorem entCells_set (l : List ME) (i : Nat) (hi : i < l.length) (x : ME) :
    entCells (l.set i x) = ((((((((entCells l).set (i * 7) (.int .i64 x.sync)).set (i * 7 + 1) (.int .i64 x.thread)).set (i * 7 + 2) (.int .i64 x.branch)).set (i * 7 + 3) (.int .i64 x.flag)).set (i * 7 + 4) (.int .i64 x.v.kind)).set (i * 7 + 5) (.int .i64 x.v.num)).set (i * 7 + 6) (.slice x.v.addr x.v.parts.length x.v.cap)) := by
  induction l generalizing i with
  | nil => simp at hi
  | cons y l ih =>
    cases i with
    | zero => simp [entCells, ME.cells]
    | succ i =>
      have := ih i (by simpa using hi)
      simp only [entCells, List.set_cons_succ, List.flatMap_cons] at this ⊢
      rw [this]
      simp only [ME.cells, List.cons_append, List.nil_append]
      rw [show (i + 1) * 7 = i * 7 + 1 + 1 + 1 + 1 + 1 + 1 + 1 from by omega]
      simp only [List.set_cons_succ]
theorem ents_one (l : List ME) : ∀ u ∈ entCells l, u.oneCell' = true := by
  intro u hu
  obtain ⟨t, _, hu⟩ := List.mem_flatMap.1 hu
  simp only [ME.cells, List.mem_cons, List.not_mem_nil, or_false] at hu
  rcases hu with rfl | rfl | rfl | rfl | rfl | rfl | rfl <;> rfl

/-- The cells of one entry. -/
def EntAt (w : World) (b o : Nat) (e : ME) : Prop := w.cell? ⟨b, o, none⟩ = some (.int .i64 e.sync) ∧ w.cell? ⟨b, o + 1, none⟩ = some (.int .i64 e.thread) ∧ w.cell? ⟨b, o + 2, none⟩ = some (.int .i64 e.branch) ∧ w.cell? ⟨b, o + 3, none⟩ = some (.int .i64 e.flag) ∧
  w.cell? ⟨b, o + 4, none⟩ = some (.int .i64 e.v.kind) ∧ w.cell? ⟨b, o + 5, none⟩ = some (.int .i64 e.v.num) ∧ w.cell? ⟨b, o + 6, none⟩ = some (.slice e.v.addr e.v.parts.length e.v.cap)
theorem EntAt.touch {w w' : World} {b o : Nat} {e : ME} (h : EntAt w b o e) (ht : Touch [] w w') : EntAt w' b o e :=
  ⟨ht.cellOf h.1, ht.cellOf h.2.1, ht.cellOf h.2.2.1, ht.cellOf h.2.2.2.1, ht.cellOf h.2.2.2.2.1, ht.cellOf h.2.2.2.2.2.1, ht.cellOf h.2.2.2.2.2.2⟩
/-- Entries lie at an address. -/
def EntsAt (w : World) (a : Option Addr) (l : List ME) : Prop := ∀ i (hi : i < l.length), ∃ b o, a = some ⟨b, o, none⟩ ∧ b < w.heap.size ∧ EntAt w b (o + i * 7) l[i]
theorem EntsAt.touch {w w' : World} {a : Option Addr} {l : List ME} (h : EntsAt w a l) (ht : Touch [] w w') : EntsAt w' a l := fun i hi => by
  obtain ⟨b, o, ha, hb, he⟩ := h i hi
  exact ⟨b, o, ha, Nat.lt_of_lt_of_le hb ht.size, he.touch ht⟩
theorem EntsAt.src {w : World} {a : Option Addr} {l : List ME} (h : EntsAt w a l) : l.length = 0 ∨ ∃ ad, a = some ad ∧ ∀ j u, (entCells l)[j]? = some u → w.cell? (ad.add j) = some u := by
  by_cases hl : l.length = 0
  · exact .inl hl
  · obtain ⟨b, o, rfl, _, _⟩ := h 0 (by omega)
    refine .inr ⟨_, rfl, fun j u hu => ?_⟩
    have hlen := entCells_length l
    obtain ⟨hj, _⟩ := List.getElem?_eq_some_iff.1 hu
    obtain ⟨b', o', he, _, hc⟩ := h (j / 7) (by omega)
    injection he with he
    injection he with h1 h2
    subst h1 h2
    have hg := entCells_get l (j / 7) (by omega) (j % 7) (by omega)
    rw [show j / 7 * 7 + j % 7 = j by omega, hu] at hg
    rw [Addr.add_lit, show o + j = o + j / 7 * 7 + j % 7 by omega]
    obtain ⟨c0, c1, c2, c3, c4, c5, c6⟩ := hc
    generalize l[j / 7] = e at *
    have hm : j % 7 = 0 ∨ j % 7 = 1 ∨ j % 7 = 2 ∨ j % 7 = 3 ∨ j % 7 = 4 ∨ j % 7 = 5 ∨ j % 7 = 6 := by omega
    rcases hm with hm | hm | hm | hm | hm | hm | hm <;> rw [hm] at hg ⊢ <;> simp [ME.cells] at hg <;> subst hg <;> assumption
theorem ents_of_row {w : World} {e g n cap : Nat} {l : List ME} (hn : l.length = n) (h : rowS w e 7 (.slice (some ⟨g, 0, none⟩) n cap) n (entCells l)) : EntsAt w (some ⟨g, 0, none⟩) l := by
  subst hn
  intro i hi
  have hl := entCells_length l
  have hc : ∀ q, q < 7 → w.cell? ⟨g, 0 + i * 7 + q, none⟩ = l[i].cells[q]? := fun q hq => by
    have hlt : i * 7 + q < (entCells l).length := by omega
    rw [Nat.zero_add, rowS_cell h _ hlt, ← entCells_get l i hi q hq, List.getElem?_eq_getElem hlt]
  exact ⟨g, 0, rfl, rowS_lt h g (by simp [sb, Value.ownBlock]), hc 0 (by omega), hc 1 (by omega), hc 2 (by omega), hc 3 (by omega), hc 4 (by omega), hc 5 (by omega), hc 6 (by omega)⟩
theorem ents_of_rowS {w : World} {e cap : Nat} {a : Option Addr} {l : List ME} (h : rowS w e 7 (.slice a l.length cap) l.length (entCells l)) : EntsAt w a l := by
  by_cases hl : l.length = 0
  · intro i hi; omega
  · obtain ⟨g, cap', cur, hv, _⟩ := rowS_form h (by omega)
    injection hv with h1 _ h3
    subst h1 h3
    exact ents_of_row rfl h

section
variable {T : List Nat} {w0 w w' : World} {l : List Thing} {t1 t2 t12 : Thing}
/-- The last thing, as two. -/
theorem Led.split (h : Led T w0 w (l ++ [t12])) (hs : ∀ f, t12.holds w f → ∃ f1 f2, t1.holds w f1 ∧ t2.holds w f2 ∧ (∀ k ∈ f1, k ∈ f) ∧ (∀ k ∈ f2, k ∈ f) ∧ ∀ k ∈ f1, k ∉ f2) : Led T w0 w (l ++ [t1, t2]) := by
  obtain ⟨hb, F, h1, h2⟩ := h
  have e1 : (l ++ [t12])[l.length]? = some t12 := by simp
  obtain ⟨a1, a2⟩ := h1 _ _ e1
  obtain ⟨f1, f2, b1, b2, s1, s2, dj⟩ := hs _ a1
  refine ⟨hb, fun i => if i = l.length then f1 else if i = l.length + 1 then f2 else F i, ?_, ?_⟩
  · intro i t hi
    have hlt := (List.getElem?_eq_some_iff.1 hi).1
    simp only [List.length_append, List.length_cons, List.length_nil] at hlt
    by_cases hil : i = l.length
    · subst hil
      simp at hi
      subst hi
      simp only [if_true]
      exact ⟨b1, fun k hk => a2 k (s1 k hk)⟩
    · by_cases hil2 : i = l.length + 1
      · subst hil2
        simp at hi
        subst hi
        simp only [if_neg hil, if_true]
        exact ⟨b2, fun k hk => a2 k (s2 k hk)⟩
      · simp only [if_neg hil, if_neg hil2]
        exact h1 i t (by rw [List.getElem?_append_left (by omega)] at hi ⊢; exact hi)
  · intro i j hi hj hij x hx hx2
    dsimp only at hx hx2
    simp only [List.length_append, List.length_cons, List.length_nil] at hi hj
    have hold : ∀ m, m < l.length → ∀ k ∈ F m, k ∉ F l.length := fun m hm k hk => h2 m l.length (by simp; omega) (by simp) (by omega) k hk
    by_cases hil : i = l.length
    · rw [if_pos hil] at hx
      rw [if_neg (by omega)] at hx2
      by_cases hj2 : j = l.length + 1
      · rw [if_pos hj2] at hx2; exact dj x hx hx2
      · rw [if_neg hj2] at hx2; exact hold j (by omega) x hx2 (s1 x hx)
    · rw [if_neg hil] at hx
      by_cases hi2 : i = l.length + 1
      · rw [if_pos hi2] at hx
        by_cases hjl : j = l.length
        · rw [if_pos hjl] at hx2; exact dj x hx2 hx
        · rw [if_neg hjl, if_neg (by omega)] at hx2; exact hold j (by omega) x hx2 (s2 x hx)
      · rw [if_neg hi2] at hx
        by_cases hjl : j = l.length
        · rw [if_pos hjl] at hx2; exact hold i (by omega) x hx (s1 x hx2)
        · rw [if_neg hjl] at hx2
          by_cases hj2 : j = l.length + 1
          · rw [if_pos hj2] at hx2; exact hold i (by omega) x hx (s2 x hx2)
          · rw [if_neg hj2] at hx2; exact h2 i j (by simp; omega) (by simp; omega) hij x hx hx2
end

/-- A queue at block g with the entries es. -/
def queueT (g : Nat) (es : List ME) : Thing where
  holds w fp := ∃ v, fp = g :: sb v ∧ Blk w g 67 #[.bool true, v] ∧ rowS w 27 7 v es.length (entCells es)
  keep := fun ⟨v, h1, h2, h3⟩ he => ⟨v, h1, h2.keep (he g (by simp [h1])), rowS_keep h3 (fun k hk => he k (by simp [h1, hk]))⟩
  lt := fun ⟨v, h1, h2, h3⟩ k hk => by
    subst h1
    rcases List.mem_cons.1 hk with rfl | hk
    · exact h2.lt
    · exact rowS_lt h3 k hk
section
variable {T : List Nat} {w0 w w' : World} {l : List Thing} {g : Nat} {es : List ME} {v : Value}
theorem Led.openQ (h : Led T w0 w (l ++ [queueT g es])) : ∃ a cap, es.length ≤ cap ∧ cap ≤ maxLen ∧ Led T w0 w (l ++ [Proofs.Ytihmbgdkllmkaaa.box g 67 #[.bool true, .slice a es.length cap], rowT 27 7 (.slice a es.length cap) es.length (entCells es)]) := by
  obtain ⟨f, ⟨v, h1, h2, h3⟩, _⟩ := h.get l.length (t := queueT g es) (by simp)
  obtain ⟨a, cap, rfl, hc1, hc2⟩ := rowS_val h3
  refine ⟨a, cap, hc1, hc2, h.split ?_⟩
  rintro f ⟨v', e1, e2, e3⟩
  have hv : v' = .slice a es.length cap := by
    unfold Blk at h2 e2
    rw [h2] at e2
    injection e2 with e2
    injection e2 with e2 _
    simp at e2
    exact e2.symm
  subst hv
  refine ⟨[g], sb (.slice a es.length cap), ⟨rfl, e2⟩, ⟨rfl, e3⟩, by simp [e1], fun k hk => by simp [e1, hk], ?_⟩
  intro k hk hk2
  simp at hk
  subst hk
  rcases e3.2 with ⟨he, _⟩ | ⟨g', cap', cur, he, hg, _⟩
  · rw [he] at hk2; simp [sb, Value.ownBlock] at hk2
  · rw [he] at hk2
    have : k = g' := by simpa [sb, Value.ownBlock] using hk2
    subst this
    unfold Blk at e2
    rw [e2] at hg
    injection hg with hg
    injection hg with _ ht
    exact absurd ht (by decide)
theorem Led.shutQ (h : Led T w0 w (l ++ [Proofs.Ytihmbgdkllmkaaa.box g 67 #[.bool true, v], rowT 27 7 v es.length (entCells es)])) : Led T w0 w (l ++ [queueT g es]) :=
  h.merge (fun f1 f2 ⟨a1, a2⟩ ⟨b1, b2⟩ => ⟨v, by rw [a1, b1]; rfl, a2, b2⟩)
theorem Led.q0 (h : Led T w0 w l) (i : Nat) (hi : l[i]? = some (queueT g es)) : ∃ a cap, Blk w g 67 #[.bool true, .slice a es.length cap] ∧ es.length ≤ cap ∧ cap ≤ maxLen ∧ rowS w 27 7 (.slice a es.length cap) es.length (entCells es) := by
  obtain ⟨f, ⟨v, h1, h2, h3⟩, _⟩ := h.get i hi
  obtain ⟨a, cap, rfl, hc1, hc2⟩ := rowS_val h3
  exact ⟨a, cap, h2, hc1, hc2, h3⟩
theorem Led.c7 {b t : Nat} (h : Led T w0 w l) (i : Nat) {x0 x1 x2 x3 x4 x5 x6 : Value} (hi : l[i]? = some (Proofs.Ytihmbgdkllmkaaa.box b t #[x0, x1, x2, x3, x4, x5, x6])) : w.cell? ⟨b, 0, none⟩ = some x0 ∧ w.cell? ⟨b, 1, none⟩ = some x1 ∧ w.cell? ⟨b, 2, none⟩ = some x2 ∧ w.cell? ⟨b, 3, none⟩ = some x3 ∧ w.cell? ⟨b, 4, none⟩ = some x4 ∧ w.cell? ⟨b, 5, none⟩ = some x5 ∧ w.cell? ⟨b, 6, none⟩ = some x6 ∧
    (w.frozen? ⟨b, 0, none⟩ = false ∧ w.frozen? ⟨b, 1, none⟩ = false ∧ w.frozen? ⟨b, 2, none⟩ = false ∧ w.frozen? ⟨b, 3, none⟩ = false ∧ w.frozen? ⟨b, 4, none⟩ = false ∧ w.frozen? ⟨b, 5, none⟩ = false ∧ w.frozen? ⟨b, 6, none⟩ = false) ∧ b < w.heap.size ∧ b < w.heap.size + 1 ∧ b < w.heap.size + 1 + 1 := by
  have hb := h.box i hi
  have hl := hb.lt
  exact ⟨hb.cell 0, hb.cell 1, hb.cell 2, hb.cell 3, hb.cell 4, hb.cell 5, hb.cell 6, ⟨hb.frozen 0, hb.frozen 1, hb.frozen 2, hb.frozen 3, hb.frozen 4, hb.frozen 5, hb.frozen 6⟩, hl, Nat.lt_succ_of_lt hl, Nat.lt_succ_of_lt (Nat.lt_succ_of_lt hl)⟩
end
end Go.Proofs.Ytihmbgdkllmkaaa
