/-
  The calls of a queue, in a caller's ledger: the queue is one thing, the values of all entries another.
-/
import Derived.Test.YtihmbgdkllmkaaaQ6
import Derived.Test.YtihmbgdkllmkaaaQ7
namespace Go.Proofs.Ytihmbgdkllmkaaa
open Go.RowKit
set_option maxRecDepth 100000
set_option linter.unusedVariables false
set_option linter.unusedSimpArgs false

section
variable {T : List Nat} {w0 w w' : World} {l : List Thing} {g : Nat} {es : List ME}
theorem Led.valsInto {vs us : List MT} (h : Led T w0 w (l ++ [valsT us])) (j : Nat) (hj : l[j]? = some (valsT vs)) : Led T w0 w (l.set j (valsT (vs ++ us))) := by
  have hlt := (List.getElem?_eq_some_iff.1 hj).1
  have h1 : Led T w0 w ((l.take j ++ l.drop (j + 1)) ++ [valsT vs, valsT us]) := by
    refine h.reindex (fun i => if i < j then i else if i < l.length - 1 then i + 1 else if i = l.length - 1 then j else l.length) ?_ ?_
    · intro i t hi
      have hil := (List.getElem?_eq_some_iff.1 hi).1
      simp only [List.length_append, List.length_take, List.length_drop, List.length_cons, List.length_nil] at hil
      by_cases c1 : i < j
      · rw [if_pos c1]
        rw [List.getElem?_append_left (by simp; omega), List.getElem?_append_left (by simp; omega), List.getElem?_take_of_lt c1] at hi
        rw [List.getElem?_append_left (by omega)]; exact hi
      · rw [if_neg c1]
        by_cases c2 : i < l.length - 1
        · rw [if_pos c2]
          rw [List.getElem?_append_left (by simp; omega), List.getElem?_append_right (by simp; omega), List.getElem?_drop] at hi
          rw [List.getElem?_append_left (by omega)]
          rw [List.length_take, show j + 1 + (i - min j l.length) = i + 1 by omega] at hi
          exact hi
        · rw [if_neg c2]
          rw [List.getElem?_append_right (by simp; omega)] at hi
          by_cases c3 : i = l.length - 1
          · rw [if_pos c3, List.getElem?_append_left hlt, hj]
            rw [show i - (l.take j ++ l.drop (j + 1)).length = 0 by simp; omega] at hi
            simpa using hi
          · rw [if_neg c3, List.getElem?_append_right (Nat.le_refl _), Nat.sub_self]
            rw [show i - (l.take j ++ l.drop (j + 1)).length = 1 by simp; omega] at hi
            simpa using hi
    · intro a b ha hb hab
      simp only [List.length_append, List.length_take, List.length_drop, List.length_cons, List.length_nil] at ha hb
      split at hab <;> split at hab <;> (try split at hab) <;> (try split at hab) <;> (try split at hab) <;> (try split at hab) <;> omega
  have h2 := h1.valsJoin
  refine h2.reindex (fun i => if i < j then i else if i = j then l.length - 1 else i - 1) ?_ ?_
  · intro i t hi
    have hil := (List.getElem?_eq_some_iff.1 hi).1
    simp only [List.length_set] at hil
    by_cases c1 : i < j
    · rw [if_pos c1, List.getElem?_append_left (by simp; omega), List.getElem?_append_left (by simp; omega), List.getElem?_take_of_lt c1]
      rwa [List.getElem?_set_ne (by omega)] at hi
    · rw [if_neg c1]
      by_cases c2 : i = j
      · subst c2
        rw [if_pos rfl, List.getElem?_append_right (by simp; omega), show l.length - 1 - (l.take i ++ l.drop (i + 1)).length = 0 by simp; omega]
        rw [List.getElem?_set_self hlt] at hi
        simpa using hi
      · rw [if_neg c2, List.getElem?_append_left (by simp; omega), List.getElem?_append_right (by simp; omega), List.getElem?_drop, List.length_take, show j + 1 + (i - 1 - min j l.length) = i by omega]
        rwa [List.getElem?_set_ne (by omega)] at hi
  · intro a b ha hb hab
    simp only [List.length_set] at ha hb
    split at hab <;> split at hab <;> (try split at hab) <;> (try split at hab) <;> omega

/-- What is kept beside the thing i. -/
def Beside (l : List Thing) (i : Nat) (W : World) : Prop := ∀ j u, j ≠ i → l[j]? = some u → ∃ f, u.holds W f
theorem Led.qPush {vs : List MT} {xs : List ME} {a : Option Addr} {cap : Nat} (h : Led T w0 w l) (i j : Nat) (hi : l[i]? = some (queueT g es)) (hj : l[j]? = some (valsT vs)) (hij : i ≠ j) (hsrc : ∀ W, Beside l i W → EntsAt W a xs ∧ ∀ x ∈ xs, x.v.In W) (hn : xs.length ≤ 1099511627776) (hes : es.length ≤ 4096) :
    Calls Try.prog 14 #[.pointer (some ⟨g, 0, none⟩), .slice a xs.length cap] w fun e w' => ∃ k err ys, e = .returned (.int .i64 err) ∧ PushR es.length (xs.map ME.plain) k err ∧ ys.map ME.plain = (xs.map ME.plain).take k ∧ Led T w0 w' ((l.set i (queueT g (es ++ ys))).set j (valsT (vs ++ ys.map ME.v))) := by
  obtain ⟨T', h1, _, hk, hb⟩ := h.frameK i hi
  refine (Push_q T' w g es xs a cap h1 (fun W hW => hsrc W (hk W hW)) hn hes).mono ?_
  rintro e w' ⟨k, err, ys, rfl, hR, hp, hL⟩
  refine ⟨k, err, ys, rfl, hR, hp, (hb _ _ _ hL).valsInto j ?_⟩
  rwa [List.getElem?_set_ne hij]
theorem Led.qDrop (h : Led T w0 w l) (i : Nat) (hi : l[i]? = some (queueT g es)) (z : Int) (hes : es.length ≤ 1048576) :
    Calls Try.prog 18 #[.pointer (some ⟨g, 0, none⟩), .int .i64 z] w fun e w' => (∃ x, 0 ≤ z ∧ es[z.toNat]? = some x ∧ e = .returned (.tuple #[x.val, .bool true]) ∧ Led T w0 w' (l.set i (queueT g (es.eraseIdx z.toNat)))) ∨
      (¬ (0 ≤ z ∧ z < (es.length : Int)) ∧ e = .returned (.tuple #[ME.zero.val, .bool false]) ∧ Led T w0 w' (l.set i (queueT g es))) := by
  obtain ⟨T', h1, hb⟩ := h.frame1 i hi
  refine (Drop_q T' w g es z h1 hes).mono ?_
  rintro e w' (⟨x, h0, hx, rfl, hL⟩ | ⟨hn, rfl, hL⟩)
  · exact .inl ⟨x, h0, hx, rfl, hb _ _ _ hL⟩
  · exact .inr ⟨hn, rfl, hb _ _ _ hL⟩
theorem Led.qPurge {a : Option Addr} {cap : Nat} {zs : List Int} (h : Led T w0 w l) (i : Nat) (hi : l[i]? = some (queueT g es)) (hsrc : ∀ W, Beside l i W → IntsAt W a zs) (hes : es.length ≤ 1048576) (hzs : zs.length ≤ 1048576) :
    Calls Try.prog 23 #[.pointer (some ⟨g, 0, none⟩), .slice a zs.length cap] w fun e w' => e = .returned (.int .i64 ((es.length - (es.filter fun e => !decide (e.plain.sync ∈ zs)).length : Nat) : Int)) ∧ Led T w0 w' (l.set i (queueT g (es.filter fun e => !decide (e.plain.sync ∈ zs)))) := by
  obtain ⟨T', h1, _, hk, hb⟩ := h.frameK i hi
  refine (Purge_q T' w g es a cap zs h1 (fun W hW => hsrc W (hk W hW)) hes hzs).mono ?_
  rintro e w' ⟨rfl, hL⟩
  refine ⟨rfl, ?_⟩
  have := hb _ _ [] hL
  rwa [List.append_nil] at this
theorem Led.qAt1 {vs : List MT} (h : Led T w0 w l) (i j : Nat) (hi : l[i]? = some (queueT g es)) (hj : l[j]? = some (valsT vs)) (hes : ∀ e ∈ es, e.v ∈ vs ∧ e.v.nodes ≤ 256) (z : Int) :
    Calls Try.prog 31 #[.pointer (some ⟨g, 0, none⟩), .int .i64 z] w fun e w' => ∃ x c, e = .returned (.tuple #[x.val, .bool c]) ∧ AtR (es.map ME.plain) z x c ∧ Led T w0 w' (l.set j (valsT (vs ++ [x.v]))) := by
  refine (At_q w g es z (h.qAt i hi) (fun e he => ⟨h.valsIn j hj _ (hes e he).1, (hes e he).2⟩)).mono ?_
  rintro e w' ⟨x, c, rfl, hR, hin, hb, ht⟩
  exact ⟨x, c, rfl, hR, (h.valsNew (vs := [x.v]) ht (by simpa using hin) (by simpa using hb)).valsInto j hj⟩
theorem ents_box {W : World} {b c : Nat} {xs : List ME} {cs : Array Value} (hcs : cs = (entCells xs).toArray) (h : ∃ f, (box b c cs).holds W f) : EntsAt W (some ⟨b, 0, none⟩) xs := by
  obtain ⟨f, _, hb⟩ := h
  subst hcs
  intro i hi
  have hl := entCells_length xs
  have hc : ∀ q, q < 7 → W.cell? ⟨b, 0 + i * 7 + q, none⟩ = xs[i].cells[q]? := fun q hq => by
    rw [Nat.zero_add, hb.cell (i * 7 + q), ← entCells_get xs i hi q hq, List.getElem?_toArray]
  exact ⟨b, 0, rfl, hb.lt, hc 0 (by omega), hc 1 (by omega), hc 2 (by omega), hc 3 (by omega), hc 4 (by omega), hc 5 (by omega), hc 6 (by omega)⟩
theorem ints_box {W : World} {b c : Nat} {zs : List Int} {cs : Array Value} (hcs : cs = (zs.map (Value.int .i64)).toArray) (h : ∃ f, (box b c cs).holds W f) : IntsAt W (some ⟨b, 0, none⟩) zs := by
  obtain ⟨f, _, hb⟩ := h
  subst hcs
  intro i hi
  exact ⟨b, 0, rfl, hb.lt, by rw [Nat.zero_add, hb.cell i]; simp [hi]⟩
end
end Go.Proofs.Ytihmbgdkllmkaaa
