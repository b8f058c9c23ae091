/-
  Copies of values' top rows, as one thing: exact until they are turned, loose from then on. No program is in sight.
-/
import Derived.Test.YtihmbgdkllmkaaaQC
import Derived.Test.YtihmbgdkllmkaaaStill
namespace Go.Proofs.Ytihmbgdkllmkaaa
open Go.RowKit
set_option linter.unusedVariables false
set_option linter.unusedSimpArgs false

/-- The top rows of values. -/
def exactT (ts : List MT) : Thing where
  holds w fp := (∀ k ∈ fp, k < w.heap.size) ∧ ∀ t ∈ ts, (∀ k ∈ sb (.slice t.addr t.parts.length t.cap), k ∈ fp) ∧ rowS w 25 3 (.slice t.addr t.parts.length t.cap) t.parts.length (valCells t.parts)
  keep := fun {w w' fp} ⟨h1, h2⟩ he => ⟨fun k hk => by
    have := he k hk
    rw [Array.getElem?_eq_getElem (h1 k hk)] at this
    exact (Array.getElem?_eq_some_iff.1 this).1, fun t ht => ⟨(h2 t ht).1, rowS_keep (h2 t ht).2 (fun k hk => he k ((h2 t ht).1 k hk))⟩⟩
  lt := fun h k hk => h.1 k hk
/-- Top rows of values of which nothing is known but that they are such. -/
def looseT (sh : List (Option Addr × Nat × Nat)) : Thing where
  holds w fp := (∀ k ∈ fp, k < w.heap.size) ∧ ∀ s ∈ sh, (∀ k ∈ sb (.slice s.1 s.2.1 s.2.2), k ∈ fp) ∧ ∃ parts : List MT, parts.length = s.2.1 ∧ rowS w 25 3 (.slice s.1 s.2.1 s.2.2) s.2.1 (valCells parts)
  keep := fun {w w' fp} ⟨h1, h2⟩ he => ⟨fun k hk => by
    have := he k hk
    rw [Array.getElem?_eq_getElem (h1 k hk)] at this
    exact (Array.getElem?_eq_some_iff.1 this).1, fun s hs => by
      obtain ⟨g1, parts, g2, g3⟩ := h2 s hs
      exact ⟨g1, parts, g2, rowS_keep g3 (fun k hk => he k (g1 k hk))⟩⟩
  lt := fun h k hk => h.1 k hk
def MT.sh (t : MT) : Option Addr × Nat × Nat := (t.addr, t.parts.length, t.cap)
section
variable {T : List Nat} {w0 w w' : World} {l : List Thing} {ts : List MT} {sh : List (Option Addr × Nat × Nat)}
theorem Led.exact0 (h : Led T w0 w l) : Led T w0 w (l ++ [exactT []]) := h.new (t' := exactT []) (f' := []) ⟨by simp, by simp⟩ ⟨Touch.refl _ _, by simp⟩
/-- One row more. -/
theorem Led.exactAdd {t : MT} (h : Led T w0 w (l ++ [rowT 25 3 (.slice t.addr t.parts.length t.cap) t.parts.length (valCells t.parts)])) (j : Nat) (hj : l[j]? = some (exactT ts)) : Led T w0 w (l.set j (exactT (ts ++ [t]))) := by
  refine h.mergeAt j hj ?_
  rintro f1 f2 ⟨a1, a2⟩ ⟨rfl, b2⟩
  refine ⟨fun k hk => (List.mem_append.1 hk).elim (a1 k) (rowS_lt b2 k), fun t' ht' => ?_⟩
  rcases List.mem_append.1 ht' with ht' | ht'
  · exact ⟨fun k hk => List.mem_append_left _ ((a2 t' ht').1 k hk), (a2 t' ht').2⟩
  · obtain rfl : t' = t := by simpa using ht'
    exact ⟨fun k hk => List.mem_append_right _ hk, b2⟩
theorem Led.exactAt (h : Led T w0 w l) (i : Nat) (hi : l[i]? = some (exactT ts)) : ∀ t ∈ ts, rowS w 25 3 (.slice t.addr t.parts.length t.cap) t.parts.length (valCells t.parts) := by
  obtain ⟨f, hf, _⟩ := h.get i hi
  exact fun t ht => (hf.2 t ht).2
theorem exactT_in {W : World} (h : ∃ f, (exactT ts).holds W f) {t : MT} (ht : t ∈ ts) (hl : t.parts.length ≤ 9223372036854775807) (hp : ∀ u ∈ t.parts, u.In W) : t.In W := by
  obtain ⟨f, _, h2⟩ := h
  obtain ⟨_, hr⟩ := h2 t ht
  cases t with
  | mk k n a c l =>
    refine MT.in_mk hl ?_ hp
    by_cases h0 : l.length = 0
    · intro i hi; omega
    · obtain ⟨g, cap', cur, hv, _⟩ := rowS_form hr (by simpa [MT.parts] using Nat.pos_of_ne_zero h0)
      injection hv with h1 _ h3
      have h1' : a = some ⟨g, 0, none⟩ := h1
      subst h1'
      exact row_at_of (v := .slice none 0 0) (cap := c) hr
theorem Led.loosen (h : Led T w0 w l) (i : Nat) (hi : l[i]? = some (exactT ts)) : Led T w0 w (l.set i (looseT (ts.map MT.sh))) :=
  h.retype i hi (fun f ⟨h1, h2⟩ => ⟨h1, fun s hs => by
    obtain ⟨t, ht, rfl⟩ := List.mem_map.1 hs
    exact ⟨(h2 t ht).1, t.parts, rfl, (h2 t ht).2⟩⟩)
theorem Led.looseAt (h : Led T w0 w l) (i : Nat) (hi : l[i]? = some (looseT sh)) {a : Option Addr} {n c : Nat} (hs : (a, n, c) ∈ sh) {k : Nat} (hk : k < n) : ∃ g z, a = some ⟨g, 0, none⟩ ∧ w.cell? ⟨g, k * 3 + 1, none⟩ = some (.int .i64 z) ∧ w.frozen? ⟨g, k * 3 + 1, none⟩ = false ∧ g < w.heap.size := by
  obtain ⟨f, hf, _⟩ := h.get i hi
  obtain ⟨h1, parts, h2, h3⟩ := hf.2 _ hs
  obtain ⟨g, cap', cur, hv, _⟩ := rowS_form h3 (by simp only; omega)
  injection hv with e1 _ e3
  simp only at e1 h2
  subst e1
  have hlen := valCells_length parts
  have hlt : k * 3 + 1 < (valCells parts).length := by omega
  refine ⟨g, (parts[k]'(by omega)).num, rfl, ?_, rowS_frozen h3 _, rowS_lt h3 g (by simp [sb, Value.ownBlock])⟩
  rw [rowS_cell h3 _ hlt]
  have := valCells_get parts k (by omega) 1 (by omega)
  rw [List.getElem?_eq_getElem hlt] at this
  rw [this]
  rfl
theorem valCells_setnum (parts : List MT) (j : Nat) (z : Int) : ∃ parts' : List MT, parts'.length = parts.length ∧ valCells parts' = (valCells parts).set (j * 3 + 1) (.int .i64 z) := by
  induction parts generalizing j with
  | nil => exact ⟨[], rfl, by simp [valCells]⟩
  | cons t r ih =>
    cases j with
    | zero =>
      cases t with
      | mk k n a c l => exact ⟨.mk k z a c l :: r, rfl, rfl⟩
    | succ j =>
      obtain ⟨r', h1, h2⟩ := ih j
      refine ⟨t :: r', by simp [h1], ?_⟩
      simp only [valCells, List.flatMap_cons] at h2 ⊢
      rw [h2]
      simp only [MT.cells, List.cons_append, List.nil_append]
      rw [show (j + 1) * 3 + 1 = j * 3 + 1 + 1 + 1 + 1 from by omega]
      rfl
theorem Led.looseSet (h : Led T w0 w l) (i : Nat) (hi : l[i]? = some (looseT sh)) {g n c : Nat} (hs : (some ⟨g, 0, none⟩, n, c) ∈ sh) (k : Nat) (z : Int) : Led T w0 (w.setCell ⟨g, k * 3 + 1, none⟩ (.int .i64 z)) l := by
  obtain ⟨f, hf, _, hst⟩ := h.step i hi
  have hgf : g ∈ f := (hf.2 _ hs).1 g (by simp [sb, Value.ownBlock])
  have hnew : (looseT sh).holds (w.setCell ⟨g, k * 3 + 1, none⟩ (.int .i64 z)) f := by
    refine ⟨fun k hk => by simpa using hf.1 k hk, fun s hs' => ?_⟩
    obtain ⟨g1, parts, g2, g3⟩ := hf.2 s hs'
    refine ⟨g1, ?_⟩
    by_cases hb : g ∈ sb (.slice s.1 s.2.1 s.2.2)
    · rcases g3.2 with ⟨hv, _⟩ | ⟨g', cap', cur, hv, _⟩
      · rw [hv] at hb; simp [sb, Value.ownBlock] at hb
      · rw [hv] at hb g3 ⊢
        have : g = g' := by simpa [sb, Value.ownBlock] using hb
        subst this
        obtain ⟨parts', h1, h2⟩ := valCells_setnum parts k z
        refine ⟨parts', by omega, ?_⟩
        rw [h2]
        exact rowS_set g3 _ _
    · exact ⟨parts, g2, rowS_keep g3 (fun k' hk' => ((Touch.refl [g] w).setCell _ _ (.inl (by simp))).block k' (rowS_lt g3 k' hk') (by
        intro hc
        have : k' = g := by simpa using hc
        subst this
        exact hb hk'))⟩
  have h2 := hst _ _ f hnew ⟨(Touch.refl _ w).setCell _ _ (.inl hgf), fun k hk => .inl hk⟩
  rwa [show l.set i (looseT sh) = l from by
    apply List.ext_getElem?
    intro j
    by_cases hj : i = j
    · subst hj; rw [List.getElem?_set_self (List.getElem?_eq_some_iff.1 hi).1, hi]
    · rw [List.getElem?_set_ne hj]] at h2
theorem entCells_setsync (cs : List ME) (j : Nat) (z : Int) : ∃ cs' : List ME, cs'.length = cs.length ∧ cs'.map (fun c => c.v.sh) = cs.map (fun c => c.v.sh) ∧ entCells cs' = (entCells cs).set (j * 7) (.int .i64 z) := by
  induction cs generalizing j with
  | nil => exact ⟨[], rfl, rfl, by simp [entCells]⟩
  | cons t r ih =>
    cases j with
    | zero => exact ⟨{ t with sync := z } :: r, rfl, rfl, rfl⟩
    | succ j =>
      obtain ⟨r', h1, h2, h3⟩ := ih j
      refine ⟨t :: r', by simp [h1], by simp [h2], ?_⟩
      simp only [entCells, List.flatMap_cons] at h3 ⊢
      rw [h3]
      simp only [ME.cells, List.cons_append, List.nil_append]
      rw [show (j + 1) * 7 = j * 7 + 1 + 1 + 1 + 1 + 1 + 1 + 1 from by omega]
      rfl
/-- Push, the values gone into what never turns. -/
theorem Led.qPushS {P : World → Prop} {g : Nat} {es xs : List ME} {a : Option Addr} {cap : Nat} (h : Led T w0 w l) (i j : Nat) (hi : l[i]? = some (queueT g es)) (hj : l[j]? = some (stillT P)) (hij : i ≠ j) (hsrc : ∀ W, Beside l i W → EntsAt W a xs ∧ ∀ x ∈ xs, x.v.In W) (hn : xs.length ≤ 1099511627776) (hes : es.length ≤ 4096) :
    Calls Try.prog 14 #[.pointer (some ⟨g, 0, none⟩), .slice a xs.length cap] w fun e w' => ∃ (k : Nat) (err : Int) (ys : List ME), e = .returned (.int .i64 err) ∧ PushR es.length (xs.map ME.plain) k err ∧ ys.map ME.plain = (xs.map ME.plain).take k ∧ Led T w0 w' ((l.set i (queueT g (es ++ ys))).set j (stillT fun W => P W ∧ ∀ y ∈ ys, y.v.In W)) := by
  obtain ⟨T', h1, _, hk, hb⟩ := h.frameK i hi
  refine (Push_q T' w g es xs a cap h1 (fun W hW => hsrc W (hk W hW)) hn hes).mono ?_
  rintro e w' ⟨k, err, ys, rfl, hR, hp, hL⟩
  refine ⟨k, err, ys, rfl, hR, hp, Led.settle (hb _ _ _ hL) j ?_ (fun W f hW hf => ⟨hW, fun y hy => hf.2 _ (List.mem_map.2 ⟨y, hy, rfl⟩)⟩)⟩
  rwa [List.getElem?_set_ne hij]
end
end Go.Proofs.Ytihmbgdkllmkaaa
