/-
  Arguments that are slices of structs of integers, opened to their cells: no program is in sight.
-/
import Derived.Test.YtegebecogbebaaaMem
import Derived.Deep.Slices
import Derived.Deep.Fields
import Derived.ChangeSame
import Derived.ProofKit
namespace Go.Proofs.Ytegebecogbebaaa
open Go.ChangeShapes Go.WideShapes Go.Deep Go.RowKit
set_option linter.unusedVariables false

theorem list_of_forall {α : Type} {p : Nat → α → Prop} : ∀ (n : Nat), (∀ i, i < n → ∃ x, p i x) → ∃ l : List α, l.length = n ∧ ∀ i (hi : i < l.length), p i l[i] := by
  intro n
  induction n with
  | zero => intro _; exact ⟨[], rfl, fun i hi => by simp at hi⟩
  | succ n ih =>
    intro h
    obtain ⟨l, hl, hp⟩ := ih (fun i hi => h i (by omega))
    obtain ⟨x, hx⟩ := h n (by omega)
    refine ⟨l ++ [x], by simp [hl], fun i hi => ?_⟩
    by_cases hin : i < l.length
    · rw [List.getElem_append_left hin]; exact hp i hin
    · have : i = n := by simp at hi; omega
      subst this
      rw [List.getElem_append_right (by omega)]
      simpa using hx

/-- The cells of a slice of structs of sz cells each. -/
def StructsAt {α : Type} (w : World) (a : Option Addr) (sz : Nat) (enc : α → List Value) (l : List α) : Prop :=
  ∀ i (hi : i < l.length), ∃ b o, a = some ⟨b, o, none⟩ ∧ b < w.heap.size ∧ ∀ j, j < sz → w.cell? ⟨b, o + i * sz + j, none⟩ = (enc l[i])[j]?

theorem add_add' (a : Addr) (i j : Nat) : (a.add i).add j = a.add (i + j) := by
  unfold Addr.add
  by_cases hi : i = 0 <;> by_cases hj : j = 0 <;> simp [hi, hj, Nat.add_assoc]

theorem open_int_structs {H : Type} {enc : TypeId × Value → H} {P : Program} {w : World} {base : Nat} {spare : Nat → Bool} {held : Bool} {r : Reach} {b0 : Nat} (ks : List IntKind) {t e : TypeId} {fs : Array Field}
    (ht : P.underlying t = some (.slice e)) (he : P.underlying e = some (.struct fs)) (hone : oneCellFields P fs = true) (hC : P.cellsOf e = ks.length) (hsz : fs.size = ks.length)
    (hks : ∀ (j : Nat) (f : Field) (k : IntKind), fs[j]? = some f → ks[j]? = some k → P.underlying f.type = some (.int k)) (hpos : 0 < ks.length)
    {v : Value} {d : DataW H} {p : List MemPlace} (hv : Value.okWide P w r b0 t v) (h : DataW.Trod enc P w base spare held t v d p) :
    ∃ (a : Option Addr) (len cap : Nat) (rows : List (List Int)), v = .slice a len cap ∧ len ≤ maxLen ∧ rows.length = len ∧
      ∀ i (hi : i < rows.length), (rows[i]).length = ks.length ∧ (∀ (j : Nat) (k : IntKind) (n : Int), ks[j]? = some k → (rows[i])[j]? = some n → (Lit.int k n).wf = true) ∧
        ∃ b o, a = some ⟨b, o, none⟩ ∧ b < w.heap.size ∧ ∀ (j : Nat) (k : IntKind) (n : Int), ks[j]? = some k → (rows[i])[j]? = some n → w.cell? ⟨b, o + i * ks.length + j, none⟩ = some (.int k n) := by
  obtain ⟨a0, len, cap, rfl⟩ := okWide_slice ht hv
  obtain ⟨fuel, hf⟩ := h
  rcases open_slice ht hf with ⟨hcs, _⟩ | ⟨a, l', c', m, n, D, Pl, hcs, hb, hl, hm, hmm, hx, hi⟩
  · simp [Value.cells] at hcs
    obtain ⟨rfl, rfl, rfl⟩ := hcs
    exact ⟨none, 0, 0, [], rfl, by simp [maxLen], rfl, fun i hi => by simp at hi⟩
  · simp [Value.cells] at hcs
    obtain ⟨rfl, rfl, rfl⟩ := hcs
    have hlm : len ≤ m := by rw [hmm]; split <;> omega
    obtain ⟨rows, hrl, hrows⟩ := list_of_forall (p := fun i (row : List Int) => row.length = ks.length ∧ (∀ (j : Nat) (k : IntKind) (n : Int), ks[j]? = some k → row[j]? = some n → (Lit.int k n).wf = true) ∧
        ∃ b o, some a = some (⟨b, o, none⟩ : Addr) ∧ b < w.heap.size ∧ ∀ (j : Nat) (k : IntKind) (n : Int), ks[j]? = some k → row[j]? = some n → w.cell? ⟨b, o + i * ks.length + j, none⟩ = some (.int k n)) len (fun i hil => by
      obtain ⟨cs', hc, ht'⟩ := hi i (by omega)
      rw [hC] at hc
      obtain ⟨ys, n', hn', hy, hlen, hyl, hfld⟩ := DataW.trod_struct he ht'
      obtain ⟨_, hcl, hat⟩ := World.cells?_some hc
      have hfield : ∀ j, j < ks.length → ∃ z : Int, ∃ k, ks[j]? = some k ∧ cs'[j]? = some (.int k z) ∧ (Lit.int k z).wf = true := fun j hj => by
        obtain ⟨f, hfj⟩ : ∃ f, fs[j]? = some f := ⟨_, Array.getElem?_eq_getElem (by omega)⟩
        obtain ⟨k, hkj⟩ : ∃ k, ks[j]? = some k := ⟨_, List.getElem?_eq_getElem hj⟩
        obtain ⟨ho, hk1⟩ := hone_of hone j f hfj
        have h1 := hfld j f hfj
        rw [ho, hk1, List.getElem?_eq_getElem (by omega)] at h1
        have hone' : (cs'.drop j).take 1 = [cs'[j]'(by omega)] := by rw [List.drop_eq_getElem_cons (by omega)]; rfl
        rw [hone'] at h1
        obtain ⟨z, hz1, _, hz3⟩ := DataW.trod_int (hks j f k hfj hkj) h1
        injection hz1 with hz1
        exact ⟨z, k, hkj, by rw [List.getElem?_eq_getElem (by omega), hz1], hz3⟩
      obtain ⟨row, hrow, hr⟩ := list_of_forall ks.length hfield
      obtain ⟨b, o, sp⟩ := a
      have h0 := hat 0 hpos
      obtain ⟨z0, k0, hk0, hc0, _⟩ := hfield 0 hpos
      rw [hc0, add_add'] at h0
      have hsp : sp = none := by
        have hcell0 : ∃ cs0, w.cells? base ((⟨b, o, sp⟩ : Addr).add (0 * P.cellsOf e)) (P.cellsOf e) = some cs0 := let ⟨cs0, h, _⟩ := hi 0 (by omega); ⟨cs0, h⟩
        obtain ⟨cs0, hcs0⟩ := hcell0
        rw [hC] at hcs0
        obtain ⟨_, hcl0, hat0⟩ := World.cells?_some hcs0
        have h00 := hat0 0 hpos
        rw [add_add', List.getElem?_eq_getElem (by omega)] at h00
        simpa [Addr.add] using World.cell?_spot h00
      subst hsp
      refine ⟨row, hrow, fun j k n hkj hnj => ?_, b, o, rfl, ?_, fun j k n hkj hnj => ?_⟩
      · have hj : j < row.length := (List.getElem?_eq_some_iff.1 hnj).1
        obtain ⟨k', hk', hc', hw'⟩ := hr j hj
        rw [hkj] at hk'
        injection hk' with hk'
        subst hk'
        rw [List.getElem?_eq_getElem hj] at hnj
        injection hnj with hnj
        rw [← hnj]; exact hw'
      · exact World.block_lt_of_cell? w _ (u := .int k0 z0) (by rw [Addr.add_lit] at h0; exact h0)
      · have hj : j < row.length := (List.getElem?_eq_some_iff.1 hnj).1
        obtain ⟨k', hk', hc', hw'⟩ := hr j hj
        rw [hkj] at hk'
        injection hk' with hk'
        subst hk'
        have := hat j (by omega)
        rw [hc', add_add', Addr.add_lit, ← Nat.add_assoc] at this
        rw [this]
        rw [List.getElem?_eq_getElem hj] at hnj
        injection hnj with hnj
        rw [hnj])
    exact ⟨some a, len, cap, rows, rfl, by omega, hrl, hrows⟩
end Go.Proofs.Ytegebecogbebaaa
