/-
  Layer 1: the iterator that Log makes (cell.go), and a loop over it.
-/
import Derived.Test.YtegebecogbebaaaLog
namespace Go.Proofs.Ytegebecogbebaaa
open Go.RowKit Go.Shelf
set_option maxRecDepth 100000
set_option linter.unusedVariables false
set_option linter.unusedSimpArgs false
attribute [local go_sem] Oper.semAt_some

set_option maxHeartbeats 1000000 in
theorem log_iter (n l bl bf gg : Nat) (L : List Acc) (hL : L.length < 4611686018427387904) (J : Nat → World → Prop) (Jx : World → Prop)
    (hmem : ∀ k W, J k W → LogAt W bl bf gg L) (hal : ∀ k W o, J k W → J k (W.alloc o))
    (hY : ∀ (k : Nat) (W : World) (hk : k < (logL L).length), J k W → YieldAt Fence.wide (n - 1) Try.prog l #[.int .u64 ((logF L : Int) + (k : Int)), ((logL L)[k]).val] W (Told (J (k + 1)) Jx))
    (W : World) (h0 : J 0 W) :
    CallsIn Fence.wide n Try.prog 59 #[.func (.yield l) #[] #[], .pointer (some ⟨bl, 0, none⟩), .pointer (some ⟨bf, 0, none⟩)] W (IterEnd (fun k => k = (logL L).length) J Jx) := by
  refine callsIn_of_wp Try.func59 rfl trivial ?_ rfl
  simp only [Try.ntmps59, List.size_toArray, List.length_cons, List.length_nil, Nat.reduceAdd, Nat.reduceSub, Array.replicate_succ, Array.replicate_zero, List.push_toArray, List.append_toArray, List.nil_append, List.cons_append]
  have HM := Lib.hid hmem
  have HY := Lib.hid hY
  have HAL := Lib.hid hal
  obtain ⟨cap, b1, b2, b3⟩ := hmem 0 W h0
  have q1 := b1.cell 0
  simp at q1
  have hLL : (logL L).length ≤ 1024 := by rw [logL_len]; omega
  have hFF : logF L < 4611686018427387904 := by unfold logF; omega
  have H3 := Lib.hid b3
  clear hmem hY hal b1 b2 b3
  gi_wp2
  gi_loopw [8] (fun i wr => ∃ k : Nat, i = .int .i64 (k : Int) ∧ J k wr ∧ k ≤ (logL L).length) (fun i _ => (logL L).length - (intOf i).toNat)
  case atStart => exact ⟨0, rfl, h0, Nat.zero_le _⟩
  case round =>
    obtain ⟨k, rfl, hj, hk⟩ := hrel
    obtain ⟨cap', b1, b2, b3⟩ := HM.out _ _ hj
    by_cases hlt : k < (logL L).length
    · have hlt' : (k : Int) < ((logL L).length : Int) := by omega
      have q2 := b2.cell 0
      simp at q2
      have hcs : ∀ j, j < 5 → wr.cell? ⟨gg, k * 5 + j, none⟩ = ((logL L)[k]).cells[j]? := fun j hj => by
        have hln := accCells_length (logL L)
        have h1 := b3.cells (g := gg) rfl (k * 5 + j) ((accCells (logL L))[k * 5 + j]'(by omega)) (List.getElem?_eq_getElem _)
        rw [Addr.add_lit, Nat.zero_add] at h1
        rw [h1, ← List.getElem?_eq_getElem, accCells_get (logL L) k hlt j hj]
      have c0 := hcs 0 (by omega)
      have c1 := hcs 1 (by omega)
      have c2 := hcs 2 (by omega)
      have c3 := hcs 3 (by omega)
      have c4 := hcs 4 (by omega)
      have hgl : gg < wr.heap.size := own_lt b3 gg (by simp [sb, Value.ownBlock])
      have hbl := b2.lt
      have hy0 := HY.out k (wr.alloc ((logL L)[k]).box) hlt (HAL.out _ _ _ hj)
      have HJ := Lib.hid hj
      clear hcs b1 b2 b3 hj
      generalize (logL L)[k] = x at c0 c1 c2 c3 c4 hy0
      simp only [Acc.cells, List.getElem?_cons_succ, List.getElem?_cons_zero, Nat.add_zero] at c0 c1 c2 c3 c4
      obtain ⟨fn, tmps, assign, body, hy, hR⟩ := hy0
      have HR := Lib.hid hR
      clear hR
      gi_wp2_with fail
      refine ⟨nodepth, HR.out.mono ?_⟩
      rintro e W2 (⟨rfl, hj2⟩ | ⟨rfl, hj2⟩)
      · have HJ2 := Lib.hid hj2
        clear hj2 hy
        gi_wp2
        go_roundw
        case rel => exact ⟨k + 1, by go_num, HJ2.out, hlt⟩
        case measure => simp [intOf]; omega
      · have HJ2 := Lib.hid hj2
        clear hj2 hy
        gi_wp2
        refine bodyPost_ret (results_none rfl _ _ _) rfl ?_
        exact ⟨⟨_, rfl⟩, .inr HJ2.out⟩
    · obtain rfl : k = (logL L).length := by omega
      have hlt' : ¬ (((logL L).length : Nat) : Int) < ((logL L).length : Int) := by omega
      have HJ := Lib.hid hj
      clear b1 b2 b3 hj
      gi_wp2
      go_end0
      exact ⟨⟨_, rfl⟩, .inl ⟨_, rfl, HJ.out⟩⟩

/-- A loop over a log: I k W: k accesses have come. -/
theorem range_log {n : Nat} {gop : Operand} {ps : Array Tmp} {assign body : Code} {Q : Exit → Act → World → Prop} {a : Act} {w : World} {bl bf gg : Nat} {L : List Acc}
    (hg : a.eval gop = .func (.func 59) #[] #[.pointer (some ⟨bl, 0, none⟩), .pointer (some ⟨bf, 0, none⟩)])
    (hps : ps.size = 2) (hL : L.length < 4611686018427387904)
    (I : Nat → World → Prop) (Jx : Code → World → Prop) (hI : ∀ k W, I k W → LogAt W bl bf gg L) (hal : ∀ k W o, w.heap.size + 1 < W.heap.size → I k W → I k (W.alloc o))
    (hput : ∀ k W o, I k W → I k (W.putObj (w.heap.size + 1) o)) (hJx : ∀ c W o, Jx c W → Jx c (W.putObj (w.heap.size + 1) o)) (h0 : ∀ o, I 0 ((w.alloc (.deferred (some []))).alloc o))
    (hround : ∀ (k : Nat) (W : World) (hk : k < (logL L).length), I k W → w.heap.size + 1 < W.heap.size →
      assign.wpIn (Fence.wide.inRound (w.heap.size + 1)) (n - 1 - 1) Try.prog (Exit.then (fun a1 W1 => Kept w.heap.size W W1 ∧
        ∀ o, body.wpIn (Fence.wide.inRound (w.heap.size + 1)) (n - 1 - 1) Try.prog (bodyQ w.heap.size (W1.putObj (w.heap.size + 1) o) (I (k + 1)) Jx) a1 (W1.putObj (w.heap.size + 1) o)) (fun _ _ _ => False))
        { tmps := (ps.zip #[.int .u64 ((logF L : Int) + (k : Int)), ((logL L)[k]).val]).foldl (fun t (p, v) => t.setIfInBounds p v) a.tmps, defers := [] } W)
    (hdone : ∀ W, I (logL L).length W → W.heap[w.heap.size]? = some (.deferred (some [])) → w.heap.size + 1 < W.heap.size → Q .normal { a with defers := { target := .collected w.heap.size, args := #[] } :: a.defers } W)
    (hstop : ∀ c W, Jx c W → W.heap[w.heap.size]? = some (.deferred (some [])) → w.heap.size + 1 < W.heap.size → c.wpIn Fence.wide n Try.prog Q { a with defers := { target := .collected w.heap.size, args := #[] } :: a.defers } W) :
    (Code.rangeFunc gop ps assign body).wpIn Fence.wide n Try.prog Q a w := by
  refine wp_range hg (enters_of Try.func59 (by kernel_rfl) rfl) I Jx (fun k => k = (logL L).length)
    (fun b xs b' => ∃ hk : b < (logL L).length, xs = #[.int .u64 ((logF L : Int) + (b : Int)), ((logL L)[b]).val] ∧ b' = b + 1)
    (fun b xs b' ⟨_, hx, _⟩ => by rw [hx, hps]; rfl) (fun b W o h => hput b W o h) hJx 0 h0 ?_ ?_ (fun b W hF hj hk hl => hdone W (hF ▸ hj) hk hl) (fun c W hj hk hl => hstop c W hj hk hl)
  · rintro b xs b' W ⟨hk, rfl, rfl⟩ hj hl
    exact hround b W hk hj hl
  · intro J' Jx' hJ hC hCx hY W hW'
    refine log_iter (n - 1) (w.heap.size + 1) bl bf gg L hL J' Jx' (fun k W h => hI k W (hJ k W h).1) (fun k W o h => ?_) (fun k W hk h => hY k _ (k + 1) W ⟨hk, rfl, rfl⟩ h) W hW'
    obtain ⟨h1, h2⟩ := hJ k W h
    exact hC k W k _ h (hal k W o h2 h1) ⟨Below.heap_alloc W o _ (by omega), Below.heap_alloc W o _ h2⟩
end Go.Proofs.Ytegebecogbebaaa
