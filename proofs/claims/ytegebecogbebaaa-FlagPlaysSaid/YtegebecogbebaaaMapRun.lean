/-
  Maps of integer keys whose entries are known: what an insertion and a lookup do. No program is in sight.
-/
import Derived.Test.YtegebecogbebaaaLedRange
import Derived.MapKept
namespace Go.Proofs.Ytegebecogbebaaa
open Go.RowKit

section
variable {P : Program} {w : World} {t K E : TypeId} {kk k : IntKind} {r : Nat} {es : Array MapEntry} {clock : Nat}
theorem run_checkKey_int (b : Bool) (n : Nat) (hk : P.underlying K = some (.int kk)) (x : Int) : (Instr.checkKey b (n + 1) K (.int k x)).run P w = .ok () w := by
  simp [Instr.checkKey, run_underlying hk]
theorem run_findKey_int (hk : P.underlying K = some (.int kk)) (x : Int) (l : List MapEntry) {o : Option (Nat × Value)} (hf : Instr.findNow (.int kk) (.int k x) l 0 = some o) : (Instr.findKey K (.int k x) l).run P w = .ok o w := by
  simp [Instr.findKey, run_underlying hk, hf]
theorem run_getObj_map (hr : w.heap[r]? = some (.map es clock)) : (getObj r).run P w = .ok (.map es clock) w := by
  simp [getObj, Sem.run, hr]
theorem run_setObj_any (o : Obj) (hr : w.heap[r]? = some (.map es clock)) : (setObj r o).run P w = .ok () (w.putObj r o) := by
  simp [setObj, Sem.run, hr, World.putObj]
theorem run_mapUpdate_new (ht : P.underlying t = some (.map K E)) (hk : P.underlying K = some (.int kk)) (hr : w.heap[r]? = some (.map es clock)) (x : Int) (hf : Instr.findNow (.int kk) (.int k x) es.toList 0 = some none) (v : Value) :
    (Instr.mapUpdate t (.map (some r)) (.int k x) v).run P w = .ok () (w.putObj r (.map (es.push ⟨.int k x, v, clock⟩) (clock + 1))) := by
  simp [Instr.mapUpdate, run_underlying ht, run_getObj_map hr, run_checkKey_int false 9999 hk, run_findKey_int hk x es.toList hf, run_setObj_any _ hr]
theorem run_lookup_has (ht : P.underlying t = some (.map K E)) (hk : P.underlying K = some (.int kk)) (hr : w.heap[r]? = some (.map es clock)) (x : Int) {i : Nat} {v : Value} (hf : Instr.findNow (.int kk) (.int k x) es.toList 0 = some (some (i, v))) :
    (Instr.lookup t (.map (some r)) (.int k x) true).run P w = .ok (.tuple #[v, .bool true]) w := by
  simp [Instr.lookup, run_underlying ht, run_getObj_map hr, run_checkKey_int es.isEmpty 9999 hk, run_findKey_int hk x es.toList hf]
theorem run_lookup_not (ht : P.underlying t = some (.map K E)) (hk : P.underlying K = some (.int kk)) (hr : w.heap[r]? = some (.map es clock)) (x : Int) (hf : Instr.findNow (.int kk) (.int k x) es.toList 0 = some none) {z : Value} (hz : (zeroValue E).run P w = .ok z w) :
    (Instr.lookup t (.map (some r)) (.int k x) true).run P w = .ok (.tuple #[z, .bool false]) w := by
  simp [Instr.lookup, run_underlying ht, run_getObj_map hr, run_checkKey_int es.isEmpty 9999 hk, run_findKey_int hk x es.toList hf, hz]
end
section
variable {T : List Nat} {w0 w : World} {l : List Thing}
theorem Led.ex (h : Led T w0 w l) (i : Nat) {b : Nat} {o : Obj} (hi : l[i]? = some (exact1 b o)) : w.heap[b]? = some o := let ⟨_, h, _⟩ := h.get i hi; h.2
theorem Led.exput (h : Led T w0 w l) (i : Nat) {b : Nat} {o : Obj} (hi : l[i]? = some (exact1 b o)) (o' : Obj) : Led T w0 (w.putObj b o') (l.set i (exact1 b o')) := by
  obtain ⟨f, ⟨hf, hb⟩, _, hs⟩ := h.step i hi
  subst hf
  exact hs _ (exact1 b o') [b] ⟨rfl, World.putObj_heap_same (Array.getElem?_eq_some_iff.1 hb).1⟩ ⟨(Touch.refl _ w).putObj (.inr (by simp)) _, fun k hk => .inl hk⟩
theorem Led.exnew (h : Led T w0 w l) (o : Obj) : Led T w0 (w.alloc o) (l ++ [exact1 w.heap.size o]) :=
  h.new (t' := exact1 w.heap.size o) (f' := [w.heap.size]) ⟨rfl, heap_alloc_new w o⟩ ⟨(Touch.refl [] w).alloc _, fun k hk => .inr (by simp at hk; omega)⟩
end
end Go.Proofs.Ytegebecogbebaaa
