/-
  A range over a function, in the wide fence: one law for whatever the iterator does. J b W: what holds between two rounds, at the state b of the caller's own; Jx c W: a round has left by the jump c. The law keeps its two blocks of book-keeping (D: the rounds' deferred calls; D + 1: the loop's record) for itself. No program is in sight.
-/
import Derived.Test.YtihmbgdkllmkaaaMem
import Derived.RangeFuncNested
import Derived.RangeFuncLeaves
import Derived.RangeFuncRecord
namespace Go.Proofs.Ytihmbgdkllmkaaa
open Go.RowKit

/-- The loop's two blocks lie as they lay. -/
def Kept (D : Nat) (W W' : World) : Prop := W'.heap[D]? = W.heap[D]? ∧ W'.heap[D + 1]? = W.heap[D + 1]?
theorem Kept.refl (D : Nat) (W : World) : Kept D W W := ⟨rfl, rfl⟩
theorem Kept.trans {D : Nat} {A B C : World} (h : Kept D A B) (h' : Kept D B C) : Kept D A C := ⟨h'.1.trans h.1, h'.2.trans h.2⟩
theorem Touch.kept {S : List Nat} {W W' : World} {D : Nat} (h : Touch S W W') (hD : D + 1 < W.heap.size) (h1 : D ∉ S) (h2 : D + 1 ∉ S) : Kept D W W' := ⟨h.block D (by omega) h1, h.block (D + 1) hD h2⟩

/-- What a round's body owes, by the way in which it is left. -/
def bodyQ (D : Nat) (W : World) (J : World → Prop) (Jx : Code → World → Prop) : Exit → Act → World → Prop
  | .normal, _, W' => Kept D W W' ∧ J W'
  | .ret, _, W' => Kept D W W' ∧ Jx .ret W'
  | .exit id, _, W' => Kept D W W' ∧ Jx (.exit id) W'
  | .goto t, _, W' => Kept D W W' ∧ Jx (.goto t) W'
  | .panic _, _, _ => False
  | .outgrown, _, _ => False

/-- How an iterator ends: it has gone through, or a round has said no more. -/
def IterEnd {β : Type} (Fin : β → Prop) (J : β → World → Prop) (Jx : World → Prop) (e : Ending) (W : World) : Prop := (∃ v, e = .returned v) ∧ ((∃ b, Fin b ∧ J b W) ∨ Jx W)
/-- What yield tells: go on, or no more. -/
def Told (J Jx : World → Prop) (e : Ending) (W : World) : Prop := (e = .returned (.bool true) ∧ J W) ∨ (e = .returned (.bool false) ∧ Jx W)
theorem nodepth {n : Nat} : Fence.wide.depth.isSome = true → 1 ≤ n := fun h => by simp [Fence.wide] at h

theorem wp_range {β : Type} {P : Program} {n : Nat} {g : Operand} {ps : Array Tmp} {assign body : Code} {Q : Exit → Act → World → Prop} {a : Act} {w : World}
    {gf : Nat} {lb : Array Value} (hg : a.eval g = .func (.func gf) #[] lb) (eg : ∀ args w, (callFunc gf args).run P w = .ok (.enter gf args) w)
    (J : β → World → Prop) (Jx : Code → World → Prop) (Fin : β → Prop) (arg : β → Array Value → β → Prop)
    (hps : ∀ b xs b', arg b xs b' → xs.size = ps.size)
    (hJ : ∀ b W o, J b W → J b (W.putObj (w.heap.size + 1) o)) (hJx : ∀ c W o, Jx c W → Jx c (W.putObj (w.heap.size + 1) o))
    (b0 : β) (h0 : ∀ o, J b0 ((w.alloc (.deferred (some []))).alloc o))
    (hround : ∀ b xs b' W, arg b xs b' → J b W → w.heap.size + 1 < W.heap.size →
      assign.wpIn (Fence.wide.inRound (w.heap.size + 1)) (n - 1 - 1) P (Exit.then (fun a1 W1 => Kept w.heap.size W W1 ∧
        ∀ o, body.wpIn (Fence.wide.inRound (w.heap.size + 1)) (n - 1 - 1) P (bodyQ w.heap.size (W1.putObj (w.heap.size + 1) o) (J b') Jx) a1 (W1.putObj (w.heap.size + 1) o)) (fun _ _ _ => False))
        { tmps := (ps.zip xs).foldl (fun t (p, v) => t.setIfInBounds p v) a.tmps, defers := [] } W)
    (hiter : ∀ (J' : β → World → Prop) (Jx' : World → Prop), (∀ b W, J' b W → J b W ∧ w.heap.size + 1 < W.heap.size) → (∀ b W b' W', J' b W → J b' W' → Kept w.heap.size W W' → J' b' W') →
      (∀ W W', Jx' W → (∀ c, Jx c W → Jx c W') → Kept w.heap.size W W' → Jx' W') →
      (∀ b xs b' W, arg b xs b' → J' b W → YieldAt Fence.wide (n - 1 - 1) P (w.heap.size + 1) xs W (Told (J' b') Jx')) →
      ∀ W, J' b0 W → CallsIn Fence.wide (n - 1) P gf (#[.func (.yield (w.heap.size + 1)) #[] #[]] ++ lb) W (IterEnd Fin J' Jx'))
    (hdone : ∀ b W, Fin b → J b W → W.heap[w.heap.size]? = some (.deferred (some [])) → w.heap.size + 1 < W.heap.size → Q .normal { a with defers := { target := .collected w.heap.size, args := #[] } :: a.defers } W)
    (hstop : ∀ c W, Jx c W → W.heap[w.heap.size]? = some (.deferred (some [])) → w.heap.size + 1 < W.heap.size → c.wpIn Fence.wide n P Q { a with defers := { target := .collected w.heap.size, args := #[] } :: a.defers } W) :
    (Code.rangeFunc g ps assign body).wpIn Fence.wide n P Q a w := by
  refine wpIn_rangeFunc ?_
  intro fn _
  obtain ⟨rec, hrec⟩ : ∃ rec : LoopState → Option Code → Loop, rec = fun st pe => { state := st, pending := pe, fn, tmps := a.tmps, params := ps, assign, body, defers := w.heap.size } := ⟨_, rfl⟩
  obtain ⟨W1, hW1⟩ : ∃ W1, (w.alloc (.deferred (some []))).alloc (.loop (rec .ready none)) = W1 := ⟨_, rfl⟩
  have hL1 : W1.heap[w.heap.size + 1]? = some (.loop (rec .ready none)) := by
    rw [← hW1]; have := World.alloc_heap_new (w.alloc (.deferred (some []))) (.loop (rec .ready none)); rwa [World.size_alloc] at this
  have hK1 : W1.heap[w.heap.size]? = some (.deferred (some [])) := by
    rw [← hW1]; exact (Below.heap_alloc _ _ _ (by simp)).trans (World.alloc_heap_new w _)
  refine ⟨w.heap.size + 1, [{ target := .collected w.heap.size, args := #[] }], W1, { target := .fn (.func gf) lb, args := #[.func (.yield (w.heap.size + 1)) #[] #[]] }, W1, gf,
    #[.func (.yield (w.heap.size + 1)) #[] #[]] ++ lb, W1, ?_, ?_, ?_, ?_, fun h => by simp [Fence.wide] at h, ?_⟩
  · rw [← hW1, hrec]; exact run_enterLoop_outer _ _ _ _ _
  · simp only [resolve, hg]
    simp [go_sem]
  · intro f' _; trivial
  · simp [invoke, go_sem, eg]
  · refine (hiter (fun b W => J b W ∧ W.heap[w.heap.size + 1]? = some (.loop (rec .ready none)) ∧ W.heap[w.heap.size]? = some (.deferred (some [])))
      (fun W => ∃ c, Jx c W ∧ W.heap[w.heap.size + 1]? = some (.loop (rec .done (some c))) ∧ W.heap[w.heap.size]? = some (.deferred (some [])))
      (fun b W h => ⟨h.1, (Array.getElem?_eq_some_iff.1 h.2.1).1⟩) (fun b W b' W' h h' hk => ⟨h', hk.2.trans h.2.1, hk.1.trans h.2.2⟩)
      (fun W W' ⟨c, h1, h2, h3⟩ hc hk => ⟨c, hc c h1, hk.2.trans h2, hk.1.trans h3⟩) ?_ W1 ⟨by rw [← hW1]; exact h0 _, hL1, hK1⟩).mono ?_
    · rintro b xs b' W harg ⟨hj, hl, hk⟩
      have hlt : w.heap.size + 1 < W.heap.size := (Array.getElem?_eq_some_iff.1 hl).1
      have hy := run_yield (P := P) (args := xs) hl (by rw [hrec]; exact hps _ _ _ harg)
      rw [hrec] at hy
      refine ⟨fn, _, assign, body, hy, roundIn_of_wpIn trivial (wpIn_mono (hround b xs b' W harg hj hlt) ?_)⟩
      rintro ex a1 Wa hpost
      cases ex with
      | ret => exact hpost.elim
      | exit id => exact hpost.elim
      | goto t => exact hpost.elim
      | panic ch => exact hpost.elim
      | outgrown => exact hpost.elim
      | normal =>
      obtain ⟨hka, hbody⟩ := hpost
      have hl1 := hka.2.trans hl
      have hk1 := hka.1.trans hk
      have hlt1 : w.heap.size + 1 < Wa.heap.size := (Array.getElem?_eq_some_iff.1 hl1).1
      refine ⟨_, run_beginRound hl1 (by rw [hrec]), ?_⟩
      have hl2 : (Wa.putObj (w.heap.size + 1) (.loop { rec .ready none with state := .busy })).heap[w.heap.size + 1]? = some (.loop { rec .ready none with state := .busy }) := World.putObj_heap_same hlt1
      have hk2 : (Wa.putObj (w.heap.size + 1) (.loop { rec .ready none with state := .busy })).heap[w.heap.size]? = some (.deferred (some [])) := (World.putObj_heap_other (by omega)).trans hk1
      refine wpIn_mono (hbody _) ?_
      have fin : ∀ (jump : Option Code) (W3 : World), Kept w.heap.size (Wa.putObj (w.heap.size + 1) (.loop { rec .ready none with state := .busy })) W3 →
          (Instr.endRound (w.heap.size + 1) jump).run P W3 = .ok (.bool jump.isNone) (W3.putObj (w.heap.size + 1) (.loop (rec (if jump.isNone then .ready else .done) jump))) ∧
          (W3.putObj (w.heap.size + 1) (.loop (rec (if jump.isNone then .ready else .done) jump))).heap[w.heap.size + 1]? = some (.loop (rec (if jump.isNone then .ready else .done) jump)) ∧
          (W3.putObj (w.heap.size + 1) (.loop (rec (if jump.isNone then .ready else .done) jump))).heap[w.heap.size]? = some (.deferred (some [])) := fun jump W3 hk3 => by
        have hl3 := hk3.2.trans hl2
        have := run_endRound (P := P) jump hl3
        rw [hrec] at this ⊢
        exact ⟨this, World.putObj_heap_same (Array.getElem?_eq_some_iff.1 hl3).1, (World.putObj_heap_other (by omega)).trans (hk3.1.trans hk2)⟩
      rintro e a3 W3 hp
      cases e with
      | normal =>
        obtain ⟨hk3, hj3⟩ := hp
        obtain ⟨hr, hl4, hk4⟩ := fin none W3 hk3
        exact ⟨_, _, hr, .inl ⟨rfl, hJ _ _ _ hj3, hl4, hk4⟩⟩
      | ret =>
        obtain ⟨hk3, hj3⟩ := hp
        obtain ⟨hr, hl4, hk4⟩ := fin (some .ret) W3 hk3
        exact ⟨_, _, hr, .inr ⟨rfl, .ret, hJx _ _ _ hj3, hl4, hk4⟩⟩
      | exit id =>
        obtain ⟨hk3, hj3⟩ := hp
        obtain ⟨hr, hl4, hk4⟩ := fin (some (.exit id)) W3 hk3
        exact ⟨_, _, hr, .inr ⟨rfl, .exit id, hJx _ _ _ hj3, hl4, hk4⟩⟩
      | goto t =>
        obtain ⟨hk3, hj3⟩ := hp
        obtain ⟨hr, hl4, hk4⟩ := fin (some (.goto t)) W3 hk3
        exact ⟨_, _, hr, .inr ⟨rfl, .goto t, hJx _ _ _ hj3, hl4, hk4⟩⟩
      | panic ch => exact hp.elim
      | outgrown => exact hp.elim
    · rintro e W2 ⟨⟨v, rfl⟩, (⟨b, hF, hj, hl, hk⟩ | ⟨c, hj, hl, hk⟩)⟩
      · exact ⟨none, _, by have := run_endLoop (P := P) hl (by rw [hrec]; simp); rw [hrec] at this; exact this, hdone b _ hF (hJ _ _ _ hj) ((World.putObj_heap_other (by omega)).trans hk) (by rw [World.putObj_size]; exact (Array.getElem?_eq_some_iff.1 hl).1)⟩
      · exact ⟨some c, _, by have := run_endLoop (P := P) hl (by rw [hrec]; simp); rw [hrec] at this; exact this, hstop c _ (hJx _ _ _ hj) ((World.putObj_heap_other (by omega)).trans hk) (by rw [World.putObj_size]; exact (Array.getElem?_eq_some_iff.1 hl).1)⟩

theorem Touch.putObj {S : List Nat} {w w1 : World} (h : Touch S w w1) {l : Nat} (hl : w.heap.size ≤ l ∨ l ∈ S) (o : Obj) : Touch S w (w1.putObj l o) :=
  ⟨h.os, h.tape, h.output, by simpa using h.size, fun k hk hn => (World.putObj_heap_other (by rintro rfl; rcases hl with h1 | h1; omega; exact hn h1)).trans (h.block k hk hn)⟩
theorem Blk.putObj {w : World} {g : Nat} {t : TypeId} {cs : Array Value} (h : Blk w g t cs) {l : Nat} (hl : g ≠ l) (o : Obj) : Blk (w.putObj l o) g t cs := h.keep (World.putObj_heap_other hl)

/-- The marks are come to: their blocks are shut. -/
def shutAll (w : World) : List Nat → World
  | [] => w
  | k :: ks => shutAll (w.putObj k (.deferred none)) ks
theorem shutAll_other (ks : List Nat) : ∀ (w : World) (b : Nat), b ∉ ks → (shutAll w ks).heap[b]? = w.heap[b]? := by
  induction ks with
  | nil => intro w b _; rfl
  | cons k ks ih =>
    intro w b hb
    simp only [List.mem_cons, not_or] at hb
    rw [shutAll, ih _ _ hb.2, World.putObj_heap_other hb.1]
theorem shutAll_below (ks : List Nat) : ∀ (w w1 : World) (B : Nat), (∀ k ∈ ks, B ≤ k) → Below B w w1 → Below B w (shutAll w1 ks) := by
  induction ks with
  | nil => intro w w1 B _ h; exact h
  | cons k ks ih =>
    intro w w1 B hk h
    refine ih _ _ _ (fun j hj => hk j (by simp [hj])) ?_
    have := hk k (by simp)
    exact ⟨h.os, h.tape, h.output, by simpa using h.size, fun i hi => (World.putObj_heap_other (by omega)).trans (h.block i hi)⟩
theorem shutAll_size (ks : List Nat) : ∀ w : World, (shutAll w ks).heap.size = w.heap.size := by
  induction ks with
  | nil => intro w; rfl
  | cons k ks ih => intro w; rw [shutAll, ih]; simp
/-- A function that held loops over iterators returns. -/
theorem leave_marks {P : Program} {fn : Func} {R : Ending → World → Prop} {n : Nat} {tmps : Array Value} {v : Value} (ks : List Nat) : ∀ (w : World), (∀ k ∈ ks, w.heap[k]? = some (.deferred (some []))) → ks.Nodup →
    (results fn tmps).run P (shutAll w ks) = .ok v (shutAll w ks) → R (.returned v) (shutAll w ks) →
    bodyPostM Fence.wide n P fn R .ret { tmps := tmps, defers := ks.map fun k => { target := .collected k, args := #[] } } w := by
  induction ks with
  | nil => intro w _ _ hr hR; exact ⟨_, hr, hR⟩
  | cons k ks ih =>
    intro w hk hnd hr hR
    rw [List.nodup_cons] at hnd
    refine ⟨by simp, .inl ⟨_, _, rfl, run_takeDeferred (hk k (by simp)), ?_⟩⟩
    exact ih _ (fun j hj => (World.putObj_heap_other (by rintro rfl; exact hnd.1 hj)).trans (hk j (by simp [hj]))) hnd.2 hr hR
theorem Blk.shut {w : World} {g : Nat} {t : TypeId} {cs : Array Value} (h : Blk w g t cs) (ks : List Nat) (hk : ∀ k ∈ ks, w.heap[k]? = some (.deferred (some []))) : Blk (shutAll w ks) g t cs := by
  refine h.keep (shutAll_other ks w g (fun hc => ?_))
  have := hk g hc
  unfold Blk at h
  rw [h] at this
  cases this
theorem Blk.ne_deferred {w : World} {g k : Nat} {t : TypeId} {cs : Array Value} (h : Blk w g t cs) (hk : w.heap[k]? = some (.deferred (some []))) : g ≠ k := by
  rintro rfl
  unfold Blk at h
  rw [h] at hk
  cases hk
end Go.Proofs.Ytihmbgdkllmkaaa
