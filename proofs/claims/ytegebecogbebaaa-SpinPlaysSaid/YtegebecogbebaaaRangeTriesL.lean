/-
  A loop over the iterator of Tries (spin.go), in the ledger.
-/
import Derived.Test.YtegebecogbebaaaLedRange
import Derived.Test.YtegebecogbebaaaRefTries
namespace Go.Proofs.Ytegebecogbebaaa
open Go.RowKit Go.Shelf
set_option maxRecDepth 100000
set_option linter.unusedVariables false

theorem range_triesL {n : Nat} {gop : Operand} {ps : Array Tmp} {assign body : Code} {Q : Exit → Act → World → Prop} {a : Act} {w w0 : World} {T : List Nat} {g : Nat} {s : Ar} {at_ most : Int} {bm ba bt : Nat}
    (hg : a.eval gop = .func (.func 62) #[] #[.pointer (some ⟨bm, 0, none⟩), .pointer (some ⟨ba, 0, none⟩), .pointer (some ⟨bt, 0, none⟩)])
    (hps : ps.size = 2) (hmost : most ≤ 9223372036854775807) (hn : s.L.length + most.toNat < 4611686018427387904) (R : Nat → List Thing) (X : Code → List Thing → Prop) (im ia it : Nat)
    (hm : ∀ k, (R k)[im]? = some (box bm 3 #[.int .i64 most])) (ha : ∀ k, (R k)[ia]? = some (box ba 24 #[.pointer (some ⟨g, 0, none⟩)])) (ht : ∀ k, (R k)[it]? = some (box bt 3 #[.int .i64 at_]))
    (h0 : Led T w0 w (arena g s :: R 0))
    (hround : ∀ (k : Nat) (W : World) (o0 : Obj), (k : Int) < most → tryE s at_ k = 0 → allNo (tryD s at_) (tryE s at_) k → Led T w0 W ((arena g (tryS s at_ (k + 1)) :: R k) ++ marks w.heap.size o0) →
      assign.wpIn (Fence.wide.inRound (w.heap.size + 1)) (n - 1 - 1) Try.prog (Exit.then (fun a1 W1 => ∃ m, Led T w0 W1 ((arena g (tryS s at_ (k + 1)) :: R k) ++ marks w.heap.size o0 ++ m) ∧
        ∀ W2 o, Led T w0 W2 ((arena g (tryS s at_ (k + 1)) :: R k) ++ marks w.heap.size o ++ m) → body.wpIn (Fence.wide.inRound (w.heap.size + 1)) (n - 1 - 1) Try.prog (bodyL T w0 w.heap.size o (arena g (tryS s at_ (k + 1)) :: R (k + 1)) X) a1 W2) (fun _ _ _ => False))
        { tmps := (ps.zip #[.int .i64 (k : Int), .bool (tryD s at_ k)]).foldl (fun t (p, v) => t.setIfInBounds p v) a.tmps, defers := [] } W)
    (hdone : ∀ b W, TriesFin (tryD s at_) (tryE s at_) most b → Led T w0 W ((arena g (tryS s at_ (b.1 + cond b.2 1 0)) :: R b.1) ++ marks1 w.heap.size) → Q .normal { a with defers := { target := .collected w.heap.size, args := #[] } :: a.defers } W)
    (hstop : ∀ c W lx, X c lx → Led T w0 W (lx ++ marks1 w.heap.size) → c.wpIn Fence.wide n Try.prog Q { a with defers := { target := .collected w.heap.size, args := #[] } :: a.defers } W) :
    (Code.rangeFunc gop ps assign body).wpIn Fence.wide n Try.prog Q a w := by
  refine wp_rangeL hg (enters_of Try.func62 (by kernel_rfl) rfl) (fun b : Nat × Bool => arena g (tryS s at_ (b.1 + cond b.2 1 0)) :: R b.1) X (TriesFin (tryD s at_) (tryE s at_) most)
    (fun b xs b' => ∃ k : Nat, b = (k, true) ∧ xs = #[.int .i64 (k : Int), .bool (tryD s at_ k)] ∧ b' = (k + 1, false) ∧ (k : Int) < most ∧ tryE s at_ k = 0 ∧ allNo (tryD s at_) (tryE s at_) k)
    (fun b xs b' ⟨k, _, hx, _⟩ => by rw [hx, hps]; rfl) (0, false) h0 ?_ ?_ (fun b W hF hj => hdone b W hF hj) hstop
  · rintro b xs b' W o0 ⟨k, rfl, rfl, rfl, h1, h2, h3⟩ hj
    exact hround k W o0 h1 h2 h3 hj
  · intro J' Jx' hJ hC hY W hW'
    have hget : ∀ (b : Nat × Bool) (l2 : List Thing) (i : Nat) (t : Thing), (R b.1)[i]? = some t → ((arena g (tryS s at_ (b.1 + cond b.2 1 0)) :: R b.1) ++ l2)[i + 1]? = some t := fun b l2 i t h => by
      rw [List.getElem?_append_left (by have := (List.getElem?_eq_some_iff.1 h).1; simp; omega), List.getElem?_cons_succ]
      exact h
    have hI := tries_iter (n - 1) (w.heap.size + 1) (some ⟨g, 0, none⟩) bm ba bt at_ most hmost (tryD s at_) (tryE s at_) (fun b W => J' b W ∧ (b.2 = false → b.1 ≤ most.toNat)) Jx' ?_ ?_ ?_ W ⟨hW', fun _ => Nat.zero_le _⟩
    · refine hI.mono ?_
      rintro e W2 ⟨hv, (⟨b, hF, hb⟩ | hx)⟩
      · exact ⟨hv, .inl ⟨b, hF, hb.1⟩⟩
      · exact ⟨hv, .inr hx⟩
    · intro b W hb
      have hl := hJ b W hb.1
      exact ⟨(hl.c1 _ (hget b _ im _ (hm b.1))).1, (hl.c1 _ (hget b _ ia _ (ha b.1))).1, (hl.c1 _ (hget b _ it _ (ht b.1))).1⟩
    · intro k W hb
      obtain ⟨o, hl⟩ := (hJ _ W hb.1).exact_of_some
      have hk := hb.2 rfl
      refine (hl.ar 0 rfl (fun fp hI => Try_any _ g fp _ hI at_ (by have := tryS_L s at_ k; simp only [cond_false, Nat.add_zero]; simp at hk; omega))).mono ?_
      rintro e W' ⟨rfl, h2⟩
      refine ⟨rfl, hC _ _ (k, true) _ hb.1 (Led.some_of_exact (o := o) h2) (Led.kept (T := T) (w0 := w0) (o := o) (m := []) (m' := []) (l := arena g (tryS s at_ k) :: R k) (l' := arena g (tryS s at_ (k + 1)) :: R k) (by rw [List.append_nil]; exact hl) (by rw [List.append_nil]; exact h2)), fun h => by cases h⟩
    · intro k W h1 h2 h3 hb
      refine YieldAt.mono (hY (k, true) _ (k + 1, false) W ⟨k, rfl, rfl, rfl, h1, h2, h3⟩ hb.1) ?_
      rintro e W' (⟨rfl, h⟩ | ⟨rfl, h⟩)
      · exact .inl ⟨rfl, h, fun _ => by simp; omega⟩
      · exact .inr ⟨rfl, h⟩
end Go.Proofs.Ytegebecogbebaaa
