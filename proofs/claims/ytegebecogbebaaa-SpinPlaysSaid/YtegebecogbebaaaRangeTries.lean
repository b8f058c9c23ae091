/-
  A loop over the iterator of Tries, over an arena of the law's own and boxes of other types: one law for the law's walk.
-/
import Derived.Test.YtegebecogbebaaaWk
import Derived.RangeFuncBound
namespace Go.Proofs.Ytegebecogbebaaa
open Go.RowKit Go.Shelf
set_option maxRecDepth 100000
set_option linter.unusedVariables false

theorem tryS_len (s : Ar) (at_ : Int) (k : Nat) : (tryS s at_ k).L.length ≤ s.L.length + k := by
  induction k with
  | zero => exact Nat.le_refl _
  | succ k ih =>
    simp only [tryS, Ar.swap, Ar.doBy]
    split
    · simp [Ar.acc]; omega
    · simp; omega

/-- Boxes: their blocks, types and cells. -/
abbrev Boxes := List (Nat × TypeId × Array Value)
def Boxes.In (bs : Boxes) (W : World) : Prop := ∀ x ∈ bs, Blk W x.1 x.2.1 x.2.2

/-- Between two rounds of a loop that began in ws: b.1 rounds are over; b.2: one more try has been done. -/
def LoopJ (S : List Nat) (ws : World) (B : Nat) (w0 : World) (g : Nat) (s : Ar) (at_ most : Int) (R : Nat → Boxes) (b : Nat × Bool) (W : World) : Prop :=
  b.1 + (cond b.2 1 0) ≤ most.toNat + 1 ∧ Wk (ws.heap.size :: (ws.heap.size + 1) :: S) B w0 W g (tryS s at_ (b.1 + cond b.2 1 0)) ∧ (R b.1).In W ∧ Same S ws W

section
variable {S : List Nat} {ws : World} {B : Nat} {w0 : World} {g : Nat} {s : Ar} {at_ most : Int} {R : Nat → Boxes} {b : Nat × Bool} {W : World}
theorem LoopJ.putObj (h : LoopJ S ws B w0 g s at_ most R b W) (hB : B ≤ ws.heap.size) (hS : ∀ k ∈ S, k < ws.heap.size) (hR : ∀ k x, x ∈ R k → x.1 < ws.heap.size ∧ Other x.2.1) (o : Obj) : LoopJ S ws B w0 g s at_ most R b (W.putObj (ws.heap.size + 1) o) :=
  ⟨h.1, h.2.1.putObj (l := ws.heap.size + 1) (by simp) (by omega) o, fun x hx => (h.2.2.1 x hx).putObj (by have := (hR _ x hx).1; omega) o, fun k hk => (World.putObj_heap_other (by have := hS k hk; omega)).trans (h.2.2.2 k hk)⟩
theorem LoopJ.try {k : Nat} (h : LoopJ S ws B w0 g s at_ most R (k, false) W) (hk : k ≤ most.toNat) (hB : B ≤ w0.heap.size) (hR : ∀ k x, x ∈ R k → x.1 < ws.heap.size ∧ Other x.2.1) (hn : s.L.length + most.toNat < 4611686018427387904) :
    Calls Try.prog 18 #[.pointer (some ⟨g, 0, none⟩), .int .i64 at_] W fun e W' => e = .returned (.tuple #[.bool (tryD s at_ k), .int .i64 (tryE s at_ k : Int)]) ∧ LoopJ S ws B w0 g s at_ most R (k, true) W' ∧ Kept ws.heap.size W W' := by
  refine (h.2.1.Try hB ?_ at_ _ _ _ rfl rfl rfl).mono ?_
  · have := tryS_len s at_ k
    simp only [cond_false, Nat.add_zero]
    omega
  · rintro e W' ⟨rfl, hW, hK, hD, _⟩
    exact ⟨rfl, ⟨by simp; omega, hW, fun x hx => hK _ _ _ (h.2.2.1 x hx) (hR _ x hx).2, h.2.2.2.trans (hD.sub (by intro k hk; simp [hk]))⟩, hD.kept⟩
end

theorem range_tries {n : Nat} {gop : Operand} {ps : Array Tmp} {assign body : Code} {Q : Exit → Act → World → Prop} {a : Act} {w : World} {S : List Nat} {B : Nat} {w0 : World} {g : Nat} {s : Ar} {at_ most : Int} {bm ba bt : Nat}
    (hg : a.eval gop = .func (.func 62) #[] #[.pointer (some ⟨bm, 0, none⟩), .pointer (some ⟨ba, 0, none⟩), .pointer (some ⟨bt, 0, none⟩)])
    (hps : ps.size = 2) (hB : B ≤ w0.heap.size) (hW : Wk S B w0 w g s) (hmost : most ≤ 9223372036854775807) (hn : s.L.length + most.toNat < 4611686018427387904)
    (R : Nat → Boxes) (Jx : Code → World → Prop) (hR : ∀ k x, x ∈ R k → x.1 < w.heap.size ∧ Other x.2.1) (hm : ∀ k, (bm, 3, #[.int .i64 most]) ∈ R k) (ha : ∀ k, (ba, 24, #[.pointer (some ⟨g, 0, none⟩)]) ∈ R k) (ht : ∀ k, (bt, 3, #[.int .i64 at_]) ∈ R k)
    (hR0 : (R 0).In w) (hJx : ∀ c W o, Jx c W → Jx c (W.putObj (w.heap.size + 1) o))
    (hround : ∀ (k : Nat) (W : World), (k : Int) < most → tryE s at_ k = 0 → tryAll s at_ k → LoopJ S w B w0 g s at_ most R (k, true) W →
      assign.wpIn (Fence.wide.inRound (w.heap.size + 1)) (n - 1 - 1) Try.prog (Exit.then (fun a1 W1 => Kept w.heap.size W W1 ∧
        ∀ o, body.wpIn (Fence.wide.inRound (w.heap.size + 1)) (n - 1 - 1) Try.prog (bodyQ w.heap.size (W1.putObj (w.heap.size + 1) o) (LoopJ S w B w0 g s at_ most R (k + 1, false)) Jx) a1 (W1.putObj (w.heap.size + 1) o)) (fun _ _ _ => False))
        { tmps := (ps.zip #[.int .i64 (k : Int), .bool (tryD s at_ k)]).foldl (fun t (p, v) => t.setIfInBounds p v) a.tmps, defers := [] } W)
    (hdone : ∀ b W, TriesFin (tryD s at_) (tryE s at_) most b → LoopJ S w B w0 g s at_ most R b W → W.heap[w.heap.size]? = some (.deferred (some [])) → Q .normal { a with defers := { target := .collected w.heap.size, args := #[] } :: a.defers } W)
    (hstop : ∀ c W, Jx c W → W.heap[w.heap.size]? = some (.deferred (some [])) → c.wpIn Fence.wide n Try.prog Q { a with defers := { target := .collected w.heap.size, args := #[] } :: a.defers } W) :
    (Code.rangeFunc gop ps assign body).wpIn Fence.wide n Try.prog Q a w := by
  have hs := hW.size hB
  refine wp_range hg (enters_of Try.func62 (by kernel_rfl) rfl) (LoopJ S w B w0 g s at_ most R) Jx (TriesFin (tryD s at_) (tryE s at_) most)
    (fun b xs b' => ∃ k : Nat, b = (k, true) ∧ xs = #[.int .i64 (k : Int), .bool (tryD s at_ k)] ∧ b' = (k + 1, false) ∧ (k : Int) < most ∧ tryE s at_ k = 0 ∧ tryAll s at_ k)
    (fun b xs b' ⟨k, _, hx, _⟩ => by rw [hx, hps]; rfl) (fun b W o h => h.putObj hs hW.lt hR o) hJx (0, false)
    (fun o => ⟨by simp, hW.loop hB _ _, fun x hx => ((hR0 x hx).alloc _).alloc _, fun k hk => (((Touch.refl [] w).alloc _).alloc _).block k (hW.lt k hk) (by simp)⟩) ?_ ?_ (fun b W hF hj hk _ => hdone b W hF hj hk) (fun c W hj hk _ => hstop c W hj hk)
  · rintro b xs b' W ⟨k, rfl, rfl, rfl, h1, h2, h3⟩ hj _
    exact hround k W h1 h2 h3 hj
  · intro J' Jx' hJ hC hCx hY W hW'
    have hI := tries_iter (n - 1) (w.heap.size + 1) (some ⟨g, 0, none⟩) bm ba bt at_ most hmost (tryD s at_) (tryE s at_) (fun b W => J' b W ∧ (b.2 = false → b.1 ≤ most.toNat)) Jx' ?_ ?_ ?_ W ⟨hW', fun _ => Nat.zero_le _⟩
    · refine hI.mono ?_
      rintro e W2 ⟨hv, (⟨b, hF, hb⟩ | hx)⟩
      · exact ⟨hv, .inl ⟨b, hF, hb.1⟩⟩
      · exact ⟨hv, .inr hx⟩
    · intro b W hb
      obtain ⟨hj, _⟩ := hJ _ _ hb.1
      refine ⟨?_, ?_, ?_⟩
      · have := (hj.2.2.1 _ (hm b.1)).cell 0; simpa using this
      · have := (hj.2.2.1 _ (ha b.1)).cell 0; simpa using this
      · have := (hj.2.2.1 _ (ht b.1)).cell 0; simpa using this
    · intro k W hb
      obtain ⟨hj, _⟩ := hJ _ _ hb.1
      refine (LoopJ.try hj (hb.2 rfl) hB hR hn).mono ?_
      rintro e W' ⟨rfl, hj', hk⟩
      exact ⟨rfl, hC _ _ _ _ hb.1 hj' hk, fun h => by cases h⟩
    · intro k W h1 h2 h3 hb
      refine YieldAt.mono (hY (k, true) _ (k + 1, false) W ⟨k, rfl, rfl, rfl, h1, h2, h3⟩ hb.1) ?_
      rintro e W' (⟨rfl, h⟩ | ⟨rfl, h⟩)
      · exact .inl ⟨rfl, h, fun _ => by simp; omega⟩
      · exact .inr ⟨rfl, h⟩

theorem Tries_any (p : Option Addr) (at_ most : Int) (w : World) : Calls Try.prog 32 #[.pointer p, .int .i64 at_, .int .i64 most] w fun e w' =>
    e = .returned (.func (.func 62) #[] #[.pointer (some ⟨w.heap.size + 1 + 1, 0, none⟩), .pointer (some ⟨w.heap.size, 0, none⟩), .pointer (some ⟨w.heap.size + 1, 0, none⟩)]) ∧
    ((w.alloc (.cells #[.pointer p] 24)).alloc (.cells #[.int .i64 at_] 3)).alloc (.cells #[.int .i64 most] 3) = w' := by
  go_enter Try.func32, Try.ntmps32
  go_wp2
  go_ret
  exact ⟨rfl, rfl⟩
theorem Tries_wk {S : List Nat} {B : Nat} {w0 w : World} {g : Nat} {s : Ar} (hB : B ≤ w0.heap.size) (h : Wk S B w0 w g s) (at_ most : Int) : Calls Try.prog 32 #[.pointer (some ⟨g, 0, none⟩), .int .i64 at_, .int .i64 most] w fun e w' =>
    ∃ bm ba bt, e = .returned (.func (.func 62) #[] #[.pointer (some ⟨bm, 0, none⟩), .pointer (some ⟨ba, 0, none⟩), .pointer (some ⟨bt, 0, none⟩)]) ∧ Wk S B w0 w' g s ∧ Keep w w' ∧ Same S w w' ∧ w.heap.size ≤ w'.heap.size ∧
      Blk w' bm 3 #[.int .i64 most] ∧ Blk w' ba 24 #[.pointer (some ⟨g, 0, none⟩)] ∧ Blk w' bt 3 #[.int .i64 at_] := by
  refine (Tries_any _ _ _ _).mono ?_
  rintro e w' ⟨rfl, rfl⟩
  have hs := h.size hB
  refine ⟨_, _, _, rfl, ((h.alloc hs _).alloc (by simp; omega) _).alloc (by simp; omega) _, Keep.of_touch ((((Touch.refl [] w).alloc _).alloc _).alloc _), fun k hk => ((((Touch.refl [] w).alloc _).alloc _).alloc _).block k (h.lt k hk) (by simp), by simp; omega, ?_, ?_, ?_⟩
  · have := Blk.new ((w.alloc (.cells #[.pointer (some ⟨g, 0, none⟩)] 24)).alloc (.cells #[.int .i64 at_] 3)) 3 #[.int .i64 most]
    simpa using this
  · exact ((Blk.new w _ _).alloc _).alloc _
  · have := (Blk.new (w.alloc (.cells #[.pointer (some ⟨g, 0, none⟩)] 24)) 3 #[.int .i64 at_]).alloc (.cells #[.int .i64 most] 3)
    simpa using this
theorem tries_not_nil (fn : Fn) (x y : Array Value) (w : World) : (binOp .eql 71 (.func fn x y) .nilFunc).run Try.prog w = .ok (.bool false) w := by kernel_rfl
end Go.Proofs.Ytegebecogbebaaa
