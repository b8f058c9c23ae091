/-
  A range over a function, with the ledger between the rounds.
-/
import Derived.Test.YtihmbgdkllmkaaaLedC
import Derived.Test.YtihmbgdkllmkaaaRange
namespace Go.Proofs.Ytihmbgdkllmkaaa
open Go.RowKit Go.Shelf
set_option linter.unusedVariables false

/-- A block that is known whole, whatever it is. -/
def exact1 (b : Nat) (o : Obj) : Thing where
  holds w fp := fp = [b] ∧ w.heap[b]? = some o
  keep := fun ⟨h1, h2⟩ he => ⟨h1, (he b (by simp [h1])).trans h2⟩
  lt := fun ⟨h1, h2⟩ k hk => by subst h1; simp at hk; subst hk; exact (Array.getElem?_eq_some_iff.1 h2).1
/-- The two blocks of a loop. -/
def marks (D : Nat) (o : Obj) : List Thing := [mark D, exact1 (D + 1) o]
def marks1 (D : Nat) : List Thing := [mark D, some1 (D + 1)]

section
variable {T : List Nat} {w0 w w' : World} {l : List Thing} {D : Nat}
theorem Led.sub_end {m : List Thing} (h : Led T w0 w (l ++ m)) : Led T w0 w l := by
  obtain ⟨hb, F, h1, h2⟩ := h
  exact ⟨hb, F, fun i t hi => h1 i t (by rw [List.getElem?_append_left (List.getElem?_eq_some_iff.1 hi).1]; exact hi), fun i j hi hj => h2 i j (by simp; omega) (by simp; omega)⟩
theorem Led.exact_of_some (h : Led T w0 w (l ++ marks1 D)) : ∃ o, Led T w0 w (l ++ marks D o) := by
  have hi : (l ++ marks1 D)[l.length + 1]? = some (some1 (D + 1)) := by simp [marks1]
  obtain ⟨f, ⟨hf, hb⟩, _, hs⟩ := h.step (l.length + 1) hi
  subst hf
  refine ⟨w.heap[D + 1], ?_⟩
  have := hs w (exact1 (D + 1) w.heap[D + 1]) [D + 1] ⟨rfl, Array.getElem?_eq_getElem hb⟩ (Went.refl _ _)
  simpa [marks1, marks, List.set_append] using this
theorem Led.some_of_exact {o : Obj} (h : Led T w0 w (l ++ marks D o)) : Led T w0 w (l ++ marks1 D) := by
  have hi : (l ++ marks D o)[l.length + 1]? = some (exact1 (D + 1) o) := by simp [marks]
  obtain ⟨f, ⟨hf, hb⟩, _, hs⟩ := h.step (l.length + 1) hi
  subst hf
  have := hs w (some1 (D + 1)) [D + 1] ⟨rfl, (Array.getElem?_eq_some_iff.1 hb).1⟩ (Went.refl _ _)
  simpa [marks1, marks, List.set_append] using this
theorem Led.put_exact {o o' : Obj} {m : List Thing} (h : Led T w0 w (l ++ marks D o ++ m)) : Led T w0 (w.putObj (D + 1) o') (l ++ marks D o' ++ m) := by
  have hi : (l ++ marks D o ++ m)[l.length + 1]? = some (exact1 (D + 1) o) := by simp [marks]
  obtain ⟨f, ⟨hf, hb⟩, _, hs⟩ := h.step (l.length + 1) hi
  subst hf
  have := hs (w.putObj (D + 1) o') (exact1 (D + 1) o') [D + 1] ⟨rfl, World.putObj_heap_same (Array.getElem?_eq_some_iff.1 hb).1⟩ ⟨(Touch.refl _ w).putObj (.inr (by simp)) o', fun k hk => .inl hk⟩
  simpa [marks1, marks, List.set_append] using this
theorem Led.put_some {o' : Obj} (h : Led T w0 w (l ++ marks1 D)) : Led T w0 (w.putObj (D + 1) o') (l ++ marks1 D) := by
  obtain ⟨o, ho⟩ := h.exact_of_some
  have := Led.put_exact (m := []) (o' := o') (by simpa using ho)
  simp only [List.append_nil] at this
  exact this.some_of_exact
theorem Led.at_mark {o : Obj} {m : List Thing} (h : Led T w0 w (l ++ marks D o ++ m)) : w.heap[D]? = some (.deferred (some [])) ∧ w.heap[D + 1]? = some o := by
  have h1 : (l ++ marks D o ++ m)[l.length]? = some (Proofs.Ytihmbgdkllmkaaa.mark D) := by simp [marks]
  have h2 : (l ++ marks D o ++ m)[l.length + 1]? = some (exact1 (D + 1) o) := by simp [marks]
  obtain ⟨_, ⟨_, h3⟩, _⟩ := h.get _ h2
  exact ⟨h.mark _ h1, h3⟩
theorem Led.kept {l' : List Thing} {o : Obj} {m m' : List Thing} (h : Led T w0 w (l ++ marks D o ++ m)) (h' : Led T w0 w' (l' ++ marks D o ++ m')) : Kept D w w' := by
  obtain ⟨a, b⟩ := h.at_mark
  obtain ⟨c, d⟩ := h'.at_mark
  exact ⟨c.trans a.symm, d.trans b.symm⟩
end

/-- What a round's body owes: the ledger behind it. X c l': it may leave by the jump c with the things l'. -/
def bodyL (T : List Nat) (w0 : World) (D : Nat) (o : Obj) (l' : List Thing) (X : Code → List Thing → Prop) : Exit → Act → World → Prop
  | .normal, _, W => ∃ m, Led T w0 W (l' ++ marks D o ++ m)
  | .ret, _, W => ∃ lx m, X .ret lx ∧ Led T w0 W (lx ++ marks D o ++ m)
  | .exit id, _, W => ∃ lx m, X (.exit id) lx ∧ Led T w0 W (lx ++ marks D o ++ m)
  | .goto t, _, W => ∃ lx m, X (.goto t) lx ∧ Led T w0 W (lx ++ marks D o ++ m)
  | .panic _, _, _ => False
  | .outgrown, _, _ => False

theorem wp_rangeL {β : Type} {P : Program} {n : Nat} {g : Operand} {ps : Array Tmp} {assign body : Code} {Q : Exit → Act → World → Prop} {a : Act} {w w0 : World} {T : List Nat}
    {gf : Nat} {lb : Array Value} (hg : a.eval g = .func (.func gf) #[] lb) (eg : ∀ args w, (callFunc gf args).run P w = .ok (.enter gf args) w)
    (R : β → List Thing) (X : Code → List Thing → Prop) (Fin : β → Prop) (arg : β → Array Value → β → Prop)
    (hps : ∀ b xs b', arg b xs b' → xs.size = ps.size) (b0 : β) (h0 : Led T w0 w (R b0))
    (hround : ∀ b xs b' W o0, arg b xs b' → Led T w0 W (R b ++ marks w.heap.size o0) →
      assign.wpIn (Fence.wide.inRound (w.heap.size + 1)) (n - 1 - 1) P (Exit.then (fun a1 W1 => ∃ m, Led T w0 W1 (R b ++ marks w.heap.size o0 ++ m) ∧
        ∀ W2 o, Led T w0 W2 (R b ++ marks w.heap.size o ++ m) → body.wpIn (Fence.wide.inRound (w.heap.size + 1)) (n - 1 - 1) P (bodyL T w0 w.heap.size o (R b') X) a1 W2) (fun _ _ _ => False))
        { tmps := (ps.zip xs).foldl (fun t (p, v) => t.setIfInBounds p v) a.tmps, defers := [] } W)
    (hiter : ∀ (J' : β → World → Prop) (Jx' : World → Prop), (∀ b W, J' b W → Led T w0 W (R b ++ marks1 w.heap.size)) →
      (∀ b W b' W', J' b W → Led T w0 W' (R b' ++ marks1 w.heap.size) → Kept w.heap.size W W' → J' b' W') →
      (∀ b xs b' W, arg b xs b' → J' b W → YieldAt Fence.wide (n - 1 - 1) P (w.heap.size + 1) xs W (Told (J' b') Jx')) →
      ∀ W, J' b0 W → CallsIn Fence.wide (n - 1) P gf (#[.func (.yield (w.heap.size + 1)) #[] #[]] ++ lb) W (IterEnd Fin J' Jx'))
    (hdone : ∀ b W, Fin b → Led T w0 W (R b ++ marks1 w.heap.size) → Q .normal { a with defers := { target := .collected w.heap.size, args := #[] } :: a.defers } W)
    (hstop : ∀ c W lx, X c lx → Led T w0 W (lx ++ marks1 w.heap.size) → c.wpIn Fence.wide n P Q { a with defers := { target := .collected w.heap.size, args := #[] } :: a.defers } W) :
    (Code.rangeFunc g ps assign body).wpIn Fence.wide n P Q a w := by
  refine wp_range hg eg (fun b W => Led T w0 W (R b ++ marks1 w.heap.size)) (fun c W => ∃ lx, X c lx ∧ Led T w0 W (lx ++ marks1 w.heap.size)) Fin arg hps (fun b W o h => h.put_some) (fun c W o ⟨lx, hx, h⟩ => ⟨lx, hx, h.put_some⟩) b0 (fun o => h0.loop o) ?_ ?_
    (fun b W hF hj _ _ => hdone b W hF hj) (fun c W ⟨lx, hx, h⟩ _ _ => hstop c W lx hx h)
  · intro b xs b' W harg hj hlt
    obtain ⟨o0, ho⟩ := hj.exact_of_some
    refine wpIn_mono (hround b xs b' W o0 harg ho) ?_
    rintro ex a1 Wa hpost
    cases ex with
    | ret => exact hpost
    | exit id => exact hpost
    | goto t => exact hpost
    | panic ch => exact hpost
    | outgrown => exact hpost
    | normal =>
      obtain ⟨m, hL, hb⟩ := hpost
      refine ⟨Led.kept (m := []) (by simpa using ho) hL, fun o => ?_⟩
      have hL2 := hL.put_exact (o' := o)
      refine wpIn_mono (hb _ o hL2) ?_
      rintro e a3 W3 hp
      cases e with
      | normal => obtain ⟨m3, h3⟩ := hp; exact ⟨hL2.kept h3, h3.sub_end.some_of_exact⟩
      | ret => obtain ⟨lx, m3, hx, h3⟩ := hp; exact ⟨hL2.kept h3, lx, hx, h3.sub_end.some_of_exact⟩
      | exit id => obtain ⟨lx, m3, hx, h3⟩ := hp; exact ⟨hL2.kept h3, lx, hx, h3.sub_end.some_of_exact⟩
      | goto t => obtain ⟨lx, m3, hx, h3⟩ := hp; exact ⟨hL2.kept h3, lx, hx, h3.sub_end.some_of_exact⟩
      | panic ch => exact hp
      | outgrown => exact hp
  · intro J' Jx' hJ hC hCx hY W hW'
    exact hiter J' Jx' (fun b W h => (hJ b W h).1) (fun b W b' W' h1 h2 h3 => hC b W b' W' h1 h2 h3) hY W hW'

/-- A plain fact. -/
def fact (p : Prop) : Thing where
  holds _ fp := fp = [] ∧ p
  keep := fun h _ => h
  lt := fun ⟨h1, _⟩ k hk => by subst h1; simp at hk
section
variable {T : List Nat} {w0 w w' : World} {l : List Thing}
theorem Led.fact (h : Led T w0 w l) (i : Nat) {p : Prop} (hi : l[i]? = some (fact p)) : p := let ⟨_, h, _⟩ := h.get i hi; h.2
theorem Led.addFact (h : Led T w0 w l) {p : Prop} (hp : p) : Led T w0 w (l ++ [Proofs.Ytihmbgdkllmkaaa.fact p]) := h.new (t' := Proofs.Ytihmbgdkllmkaaa.fact p) (f' := []) ⟨rfl, hp⟩ ⟨Touch.refl _ _, by simp⟩
theorem Led.setFact (h : Led T w0 w l) (i : Nat) {p q : Prop} (hi : l[i]? = some (Proofs.Ytihmbgdkllmkaaa.fact p)) (hq : q) : Led T w0 w (l.set i (Proofs.Ytihmbgdkllmkaaa.fact q)) := by
  obtain ⟨f, ⟨hf, _⟩, _, hs⟩ := h.step i hi
  subst hf
  exact hs w (Proofs.Ytihmbgdkllmkaaa.fact q) [] ⟨rfl, hq⟩ (Went.refl _ _)
/-- A mark is come to. -/
theorem Led.shut (h : Led T w0 w l) (i : Nat) {D : Nat} (hi : l[i]? = some (Proofs.Ytihmbgdkllmkaaa.mark D)) : Led T w0 (w.putObj D (.deferred none)) (l.set i (some1 D)) := by
  obtain ⟨f, ⟨hf, hm⟩, _, hs⟩ := h.step i hi
  subst hf
  exact hs _ (some1 D) [D] ⟨rfl, by simpa using (Array.getElem?_eq_some_iff.1 hm).1⟩ ⟨(Touch.refl _ w).putObj (.inr (by simp)) _, fun k hk => .inl hk⟩
theorem Led.head2 {t1 t2 : Thing} {rest : List Thing} (h : Led T w0 w (t1 :: t2 :: rest)) : ∃ rest, Led T w0 w (t1 :: t2 :: rest) := ⟨_, h⟩
end
end Go.Proofs.Ytihmbgdkllmkaaa
