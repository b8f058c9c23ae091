/-
  A map of integers to true, as a set; clear of the end of a row. No program is in sight.
-/
import Derived.Test.YtihmbgdkllmkaaaRangeC
import Derived.Test.YtihmbgdkllmkaaaSlice
import Derived.MapKept
namespace Go.Proofs.Ytihmbgdkllmkaaa
open Go.RowKit
set_option linter.unusedVariables false
set_option linter.unusedSimpArgs false

/-- The entries are the integers xs, each with true. -/
def IsSet (es : List MapEntry) (xs : List Int) : Prop := es.map (fun e => (e.key, e.val)) = xs.map (fun x => (Value.int .i64 x, Value.bool true))
theorem IsSet.nil : IsSet [] [] := rfl
theorem IsSet.cons {e : MapEntry} {es : List MapEntry} {xs : List Int} (h : IsSet (e :: es) xs) : ∃ x r, xs = x :: r ∧ e.key = .int .i64 x ∧ e.val = .bool true ∧ IsSet es r := by
  cases xs with
  | nil => simp [IsSet] at h
  | cons x r => simp [IsSet] at h; exact ⟨x, r, rfl, h.1.1, h.1.2, h.2⟩
theorem find_set (y : Int) : ∀ (es : List MapEntry) (xs : List Int) (i : Nat), IsSet es xs → (y ∉ xs ∧ Instr.findNow (.int .i64) (.int .i64 y) es i = some none) ∨ (y ∈ xs ∧ ∃ j, xs[j]? = some y ∧ Instr.findNow (.int .i64) (.int .i64 y) es i = some (some (i + j, .bool true))) := by
  intro es
  induction es with
  | nil =>
    intro xs i h
    cases xs with
    | nil => exact .inl ⟨by simp, rfl⟩
    | cons x r => simp [IsSet] at h
  | cons e es ih =>
    intro xs i h
    obtain ⟨x, r, rfl, hk, hv, hr⟩ := h.cons
    by_cases hxy : y = x
    · subst hxy
      refine .inr ⟨by simp, 0, rfl, ?_⟩
      simp [Instr.findNow, Instr.sameNow, hk, hv]
    · have hf : Instr.sameNow (.int .i64) (.int .i64 y) e.key = some false := by simp [Instr.sameNow, hk, hxy]
      rcases ih r (i + 1) hr with ⟨h1, h2⟩ | ⟨h1, j, h2, h3⟩
      · exact .inl ⟨by simp [hxy, h1], by simp only [Instr.findNow, hf]; exact h2⟩
      · exact .inr ⟨by simp [h1], j + 1, by simpa using h2, by simp only [Instr.findNow, hf]; rw [h3]; congr 3; omega⟩

section
variable {P : Program} {w : World} {t K E : TypeId} {r clock : Nat} {es : Array MapEntry} {xs : List Int}
theorem run_checkKey_i (b : Bool) (n : Nat) (hk : P.underlying K = some (.int .i64)) (x : Int) : (Instr.checkKey b (n + 1) K (.int .i64 x)).run P w = .ok () w := by
  simp [Instr.checkKey, run_underlying hk]
theorem run_findKey_i (hk : P.underlying K = some (.int .i64)) (x : Int) (l : List MapEntry) {o : Option (Nat × Value)} (hf : Instr.findNow (.int .i64) (.int .i64 x) l 0 = some o) : (Instr.findKey K (.int .i64 x) l).run P w = .ok o w := by
  simp [Instr.findKey, run_underlying hk, hf]
theorem run_getObj_m (hr : w.heap[r]? = some (.map es clock)) : (getObj r).run P w = .ok (.map es clock) w := by
  simp [getObj, Sem.run, hr]
theorem run_setObj_m (o : Obj) (hr : w.heap[r]? = some (.map es clock)) : (setObj r o).run P w = .ok () (w.putObj r o) := by
  simp [setObj, Sem.run, hr, World.putObj]
/-- gone[y] = true. -/
theorem run_setAdd (ht : P.underlying t = some (.map K E)) (hk : P.underlying K = some (.int .i64)) (hr : w.heap[r]? = some (.map es clock)) (hs : IsSet es.toList xs) (y : Int) :
    ∃ es' clock' xs', (Instr.mapUpdate t (.map (some r)) (.int .i64 y) (.bool true)).run P w = .ok () (w.putObj r (.map es' clock')) ∧ IsSet es'.toList xs' ∧ ∀ z, z ∈ xs' ↔ z = y ∨ z ∈ xs := by
  rcases find_set y es.toList xs 0 hs with ⟨h1, h2⟩ | ⟨h1, j, h2, h3⟩
  · refine ⟨es.push ⟨.int .i64 y, .bool true, clock⟩, clock + 1, xs ++ [y], ?_, ?_, fun z => ?_⟩
    · simp [Instr.mapUpdate, run_underlying ht, run_getObj_m hr, run_checkKey_i false 9999 hk, run_findKey_i hk y es.toList h2, run_setObj_m _ hr]
    · unfold IsSet at hs ⊢
      simp only [Array.toList_push, List.map_append, hs, List.map_cons, List.map_nil]
    · simp [or_comm]
  · rw [Nat.zero_add] at h3
    have hlen : es.toList.length = xs.length := by have := congrArg List.length hs; simpa using this
    have hj : j < xs.length := (List.getElem?_eq_some_iff.1 h2).1
    have hjs : j < es.size := by simpa using (by omega : j < es.toList.length)
    have hkey : es[j].key = .int .i64 y ∧ es[j].val = .bool true := by
      have h := congrArg (fun l => l[j]?) hs
      simp only [List.getElem?_map, h2] at h
      rw [List.getElem?_eq_getElem (by simpa using hjs)] at h
      simpa using h
    refine ⟨es.modify j fun e => { e with key := .int .i64 y, val := .bool true }, clock, xs, ?_, ?_, fun z => ⟨.inr, fun h => h.elim (fun e => e ▸ h1) id⟩⟩
    · have hst : ∀ W, (Instr.keyThatStays (.int .i64 y) (.int .i64 y)).run P W = .ok (.int .i64 y) W := fun W => by simp [Instr.keyThatStays, Instr.sameBits]
      simp [Instr.mapUpdate, run_underlying ht, run_getObj_m hr, run_checkKey_i false 9999 hk, run_findKey_i hk y es.toList h3, run_setObj_m _ hr, Array.getElem?_eq_getElem hjs, hkey.1, hst]
    · unfold IsSet at hs ⊢
      rw [← hs]
      apply List.ext_getElem
      · simp
      · intro i h1' h2'
        simp only [List.getElem_map, Array.getElem_toList]
        by_cases hij : j = i
        · subst hij
          simp [Array.getElem_modify, hkey.1, hkey.2]
        · simp [Array.getElem_modify, hij]
/-- gone[y]. -/
theorem run_setHas (ht : P.underlying t = some (.map K E)) (hk : P.underlying K = some (.int .i64)) (hr : w.heap[r]? = some (.map es clock)) (hs : IsSet es.toList xs) (hz : (zeroValue E).run P w = .ok (.bool false) w) (y : Int) :
    (Instr.lookup t (.map (some r)) (.int .i64 y) false).run P w = .ok (.bool (decide (y ∈ xs))) w := by
  rcases find_set y es.toList xs 0 hs with ⟨h1, h2⟩ | ⟨h1, j, h2, h3⟩
  · simp [Instr.lookup, run_underlying ht, run_getObj_m hr, run_checkKey_i es.isEmpty 9999 hk, run_findKey_i hk y es.toList h2, hz, h1]
  · simp [Instr.lookup, run_underlying ht, run_getObj_m hr, run_checkKey_i es.isEmpty 9999 hk, run_findKey_i hk y es.toList h3, h1]
end
/-- A set of integers at r: those of p. -/
def setT (r : Nat) (xs : List Int) : Thing where
  holds w fp := fp = [r] ∧ ∃ es clock ys, w.heap[r]? = some (.map es clock) ∧ IsSet es.toList ys ∧ ∀ z, z ∈ ys ↔ z ∈ xs
  keep := fun ⟨h1, es, c, ys, h2, h3⟩ he => ⟨h1, es, c, ys, (he r (by simp [h1])).trans h2, h3⟩
  lt := fun ⟨h1, es, c, ys, h2, _⟩ k hk => by subst h1; simp at hk; subst hk; exact (Array.getElem?_eq_some_iff.1 h2).1

/-- clear of the end of a row. -/
theorem run_clear_row {P : Program} (w : World) (t ty e : TypeId) (i : TypeInfo) (z : Value) (size : Nat) (ht : P.underlying t = some (.slice e)) (hi : P.info? e = some i) (hz : i.zero = some z) (hsize : i.size = size) (hzs : z.cells.size = size) (h1 : ∀ u ∈ z.cells.toList, u.oneCell' = true)
    (g n cap lo c : Nat) (xs : List Value) (h : rowS w e size (.slice (some ⟨g, 0, none⟩) n cap) n xs) (hlo : lo ≤ n) {sa : Option Addr} {k : Nat} (hk : lo * k = lo * size) (hs : n = lo ∨ sa = (some (⟨g, 0, none⟩ : Addr)).map (·.add (lo * k))) :
    ∃ w', (Builtin.clear_ #[t] ty #[.slice sa (n - lo) c]).run P w = .ok (.tuple #[]) w' ∧ rowS w' e size (.slice (some ⟨g, 0, none⟩) lo cap) lo (xs.take (lo * size)) ∧ w.grownBy w' (some g) := by
  have hms : lo * size ≤ n * size := Nat.mul_le_mul_right _ hlo
  rcases h.2 with ⟨hv, _⟩ | ⟨g', cap', cur, hv, hg, hc1, hc2, hc3, hc4⟩
  · cases hv
  injection hv with ha _ hcc
  injection ha with ha
  injection ha with ha
  subst ha hcc
  have hns : n * size ≤ cur.size := Nat.le_trans (Nat.mul_le_mul_right _ hc1) hc3
  have hrow : ∀ cur' : Array Value, cur'.size = cur.size → cur'.toList.take (lo * size) = cur.toList.take (lo * size) → ∀ w', w'.heap[g]? = some (.cells cur' e (0, 0)) → rowS w' e size (.slice (some ⟨g, 0, none⟩) lo cap) lo (xs.take (lo * size)) := fun cur' e1 e2 w' hw => by
    refine ⟨by rw [List.length_take, h.1]; omega, .inr ⟨g, cap, cur', rfl, hw, by omega, hc2, by omega, ?_⟩⟩
    rw [e2, ← hc4, List.take_take, Nat.min_eq_left hms]
  by_cases hnl : n = lo
  · subst hnl
    refine ⟨w, ?_, hrow cur rfl rfl w hg, World.grownBy.refl w _⟩
    rw [Nat.sub_self]
    cases sa <;> simp [Builtin.clear_, run_underlying ht]
  · have hs' := hs.resolve_left hnl
    subst hs'
    have hst := run_storeCells_at P g (lo * size) e (Builtin.zeroCells z.cells (n - lo)).toList 0 cur w hg (by
      have hsz : (Builtin.zeroCells z.cells (n - lo)).toList.length = (n - lo) * size := by rw [Array.length_toList, size_zeroCells, hzs]
      have : (n - lo) * size = n * size - lo * size := Nat.sub_mul _ _ _
      rw [hsz]
      omega) (by
      intro u hu
      simp only [Builtin.zeroCells, Array.toList_map, List.mem_map] at hu
      obtain ⟨q, hq, rfl⟩ := hu
      have hq2 : q < (n - lo) * z.cells.size := by simpa using hq
      have hpos : 0 < z.cells.size := by
        rcases Nat.eq_zero_or_pos z.cells.size with h0 | h0
        · rw [h0] at hq2; omega
        · exact h0
      have hlt := Nat.mod_lt q hpos
      rw [getElem!_pos z.cells (q % z.cells.size) hlt]
      exact h1 _ (by simp))
    have hsz : (Builtin.zeroCells z.cells (n - lo)).toList.length = (n - lo) * size := by rw [Array.length_toList, size_zeroCells, hzs]
    have hmul : (n - lo) * size = n * size - lo * size := Nat.sub_mul _ _ _
    simp only [Nat.add_zero] at hst
    obtain ⟨m, hm⟩ : ∃ m, n - lo = m + 1 := ⟨n - lo - 1, by omega⟩
    obtain ⟨zs, hzs2⟩ : ∃ zs, (Builtin.zeroCells z.cells (n - lo)).toList = zs := ⟨_, rfl⟩
    rw [hzs2] at hst hsz
    refine ⟨w.setRow g (cur.toList.take (lo * size) ++ zs ++ cur.toList.drop (lo * size + zs.length)).toArray, ?_, hrow _ ?_ ?_ _ (setRow_heap w g cur _ e _ hg), ⟨rfl, rfl, rfl, by simp, fun q _ hq => setRow_other w g q _ (fun e => hq (by simp [e]))⟩⟩
    · rw [hm] at hzs2 ⊢
      simp [Builtin.clear_, run_underlying ht, zeroValue, typeInfo, hi, hz, hk, Addr.add_lit, hzs2, hst]
    · simp only [List.size_toArray, List.length_append, List.length_take, List.length_drop, Array.length_toList, hsz]
      omega
    · simp only [List.append_assoc]
      rw [List.take_left' (by simp; omega)]
end Go.Proofs.Ytihmbgdkllmkaaa
