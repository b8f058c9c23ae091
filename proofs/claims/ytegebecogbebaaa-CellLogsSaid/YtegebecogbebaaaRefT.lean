/-
  The reference's arena of layer 1 as a thing of the ledger; its calls.
-/
import Derived.Test.YtegebecogbebaaaRefDo3
import Derived.Test.YtegebecogbebaaaCopy
namespace Go.Proofs.Ytegebecogbebaaa
open Go.RowKit Go.Shelf
set_option maxRecDepth 100000
set_option linter.unusedVariables false

/-- The reference's arena of which the two slices are vc, vl is s. -/
def refT (vc vl : Value) (s : Ar) : Thing where
  holds w fp := RefAt w vc vl s ∧ (∀ k ∈ sb vc ++ sb vl, k ∈ fp) ∧ ∀ k ∈ fp, k < w.heap.size
  keep := fun {w w' fp} ⟨h1, h2, h3⟩ he => ⟨h1.keep (fun b hb => he b (h2 b hb)), h2, fun k hk => by
    have := he k hk
    rw [Array.getElem?_eq_getElem (h3 k hk)] at this
    exact (Array.getElem?_eq_some_iff.1 this).1⟩
  lt := fun ⟨_, _, h⟩ => h
section
variable {T : List Nat} {w0 w w' : World} {l : List Thing} {vc vl : Value} {s s' : Ar}
theorem Led.refAt (h : Led T w0 w l) (i : Nat) (hi : l[i]? = some (refT vc vl s)) : RefAt w vc vl s := let ⟨_, h, _⟩ := h.get i hi; h.1
theorem Led.refStep (h : Led T w0 w l) (i : Nat) (hi : l[i]? = some (refT vc vl s)) {vc' vl' : Value} (hr : RefAt w' vc' vl' s') (ht : Touch [] w w') (hn : ∀ b ∈ sb vc' ++ sb vl', b ∈ sb vc ++ sb vl ∨ w.heap.size ≤ b) : Led T w0 w' (l.set i (refT vc' vl' s')) := by
  obtain ⟨f, ⟨h1, h2, h3⟩, _, hs⟩ := h.step i hi
  refine hs w' (refT vc' vl' s') (f ++ (sb vc' ++ sb vl')) ⟨hr, fun k hk => List.mem_append_right _ hk, fun k hk => ?_⟩ ⟨ht.mono (by simp), fun k hk => ?_⟩
  · rcases List.mem_append.1 hk with h | h
    · exact Nat.lt_of_lt_of_le (h3 k h) ht.size
    · rcases List.mem_append.1 h with h | h
      · exact own_lt hr.cel k h
      · exact own_lt hr.log k h
  · rcases List.mem_append.1 hk with h | h
    · exact .inl h
    · exact (hn k h).imp (h2 k) id
theorem Led.refDid (h : Led T w0 w l) (i : Nat) (hi : l[i]? = some (refT vc vl s)) {f : Nat} {args : Array Value} {r : Ar × Acc × Nat} (hc : RefAt w vc vl s → Calls Try.prog f args w (RefDid w vc vl s r)) :
    Calls Try.prog f args w fun e w' => ∃ vc' vl', e = .returned (.tuple #[refV vc' s.most vl', r.2.1.val, .int .i64 (r.2.2 : Int)]) ∧ Led T w0 w' (l.set i (refT vc' vl' r.1)) := by
  refine (hc (h.refAt i hi)).mono ?_
  rintro e w' ⟨vc', vl', rfl, hr, ht, hn⟩
  exact ⟨vc', vl', rfl, h.refStep i hi hr ht hn⟩
theorem Led.refAlloc (h : Led T w0 w l) (i : Nat) (hi : l[i]? = some (refT vc vl s)) (n : Int) :
    Calls Try.prog 60 #[refV vc s.most vl, .int .i64 n] w fun e w' => ∃ vc', e = .returned (.tuple #[refV vc' s.most vl, .int .i64 ((s.allocA n).2.1 : Int), .int .i64 ((s.allocA n).2.2 : Int)]) ∧ Led T w0 w' (l.set i (refT vc' vl (s.allocA n).1)) := by
  refine (Proofs.Ytegebecogbebaaa.refAlloc w vc vl s n (h.refAt i hi)).mono ?_
  rintro e w' ⟨vc', rfl, hr, ht, hn⟩
  refine ⟨vc', rfl, h.refStep i hi hr ht (fun b hb => ?_)⟩
  rcases List.mem_append.1 hb with hb | hb
  · exact (hn b hb).imp (fun h => List.mem_append_left _ h) id
  · exact .inl (List.mem_append_right _ hb)
end
/-- A reference's arena without cells and accesses. -/
theorem refT_nil {T : List Nat} {w0 w : World} {l : List Thing} (h : Led T w0 w l) (most : Nat) (hm : most ≤ 65536) : Led T w0 w (l ++ [refT (.slice none 0 0) (.slice none 0 0) ⟨[], most, []⟩]) :=
  h.new (t' := refT (.slice none 0 0) (.slice none 0 0) ⟨[], most, []⟩) (f' := []) ⟨⟨World.ownsRow_nil _ _ _ _, World.ownsRow_nil _ _ _ _, by simp, hm⟩, by simp [sb, Value.ownBlock], by simp⟩ ⟨Touch.refl _ _, by simp⟩

/-- A call of law 01: what, where, two numbers. -/
structure Call01 where
  what : Int
  at_ : Int
  x : Nat
  y : Nat
def Call01.cells (a : Call01) : List Value := [.int .i64 a.what, .int .i64 a.at_, .int .u64 (a.x : Int), .int .u64 (a.y : Int)]
def Call01.Ok (a : Call01) : Prop := (-9223372036854775808 ≤ a.what ∧ a.what ≤ 9223372036854775807) ∧ (-9223372036854775808 ≤ a.at_ ∧ a.at_ ≤ 9223372036854775807) ∧ Wd a.x ∧ Wd a.y
/-- The arena behind a call. -/
def actS (s : Ar) (c : Call01) : Ar :=
  if c.what = 0 then (s.allocA c.at_).1 else if c.what = 1 then (s.load c.at_).1 else if c.what = 2 then (s.store c.at_ c.x).1 else if c.what = 3 ∨ c.what = 4 then (s.swap c.at_ c.x c.y).1 else if c.what = 5 then (s.add c.at_ c.x).1 else s
/-- What act tells, and what it leaves. -/
def Acted (T : List Nat) (w : World) (s : Ar) (c : Call01) (e : Ending) (w' : World) : Prop :=
  ∃ g' vc' vl' rest, e = .returned (.tuple #[.pointer (some ⟨g', 0, none⟩), refV vc' s.most vl', .bool true]) ∧ Led T w w' (arena g' (actS s c) :: refT vc' vl' (actS s c) :: rest)
end Go.Proofs.Ytegebecogbebaaa
