/-
  Layer 1: Alloc (cell.go): for every arena that was made by New.
-/
import Derived.Test.YtihmbgdkllmkaaaCell
import Derived.Test.YtihmbgdkllmkaaaZeros
namespace Go.Proofs.Ytihmbgdkllmkaaa
open Go.RowKit Go.Shelf
set_option maxRecDepth 100000
set_option linter.unusedVariables false

theorem info_uint64 : (Try.prog.info? 127).map (fun i => (i.zero, i.size, i.bytes)) = some (some (.int .u64 0), 1, 8) := by kernel_rfl

/-- Alloc: the arena then, the place, an error. -/
def Ar.allocA (s : Ar) (n : Int) : Ar × Nat × Nat :=
  if n < 0 then (s, 0, 2) else if (s.most : Int) - (s.C.length : Int) < n then (s, 0, 6) else ({ s with C := s.C ++ List.replicate n.toNat 0 }, s.C.length, 0)

theorem words_replicate (k : Nat) : words (List.replicate k 0) = List.replicate k (.int .u64 0) := by simp [words]

theorem alloc_close {w w0 w1 : World} {g k : Nat} {v1 v2 v' : Value} {r : List Acc} {s : Ar} (hA : ArAt w g v1 v2 r s) (hq : Quiet w w0) (hk : s.C.length + k ≤ s.most)
    (hown : w1.ownsRow 0 127 1 v' (s.C.length + k) (words s.C ++ List.replicate k (.int .u64 0))) (hgrow : w0.grownBy w1 v2.ownBlock) (hat : v'.ownBlock = v2.ownBlock ∨ v'.ownBlock = some w0.heap.size) :
    ArTo w (w1.setCell ⟨g, 3, none⟩ v') g (g :: (sb v1 ++ sb v2)) { s with C := s.C ++ List.replicate k 0 } := by
  obtain ⟨nq, rfl⟩ := hq
  have hgn : some g ≠ v2.ownBlock := fun h => own_ne hA.cel hA.blk (by decide) (by simp [sb, ← h])
  have B1 := (hA.blk.drewN nq).grown hgrow hgn
  have hgo := own_ne hown B1 (by decide)
  have h12 := own_ne2 hA.log hA.cel (by decide)
  have hT : Touch (g :: (sb v1 ++ sb v2)) w w1 := ((Touch.refl _ w).drewN nq).grown hgrow (fun j hj => .inl (by simp [sb, hj]))
  have hL : w1.ownsRow 0 175 5 v1 r.length (accCells r) := own_keep (own_drewN hA.log nq) (fun j hj => hgrow.block j (own_lt hA.log j hj) (fun h => h12 j hj (by simp [sb, ← h])))
  refine ⟨g :: (sb v1 ++ sb v'), ⟨v1, v', r, ⟨?_, ?_, ?_, hA.ring, hA.most1, hA.most2, ?_, ?_⟩, rfl⟩, hT.setCell _ _ (.inl (by simp)), ?_⟩
  · have := B1.set 3 v'
    simpa using this
  · exact own_setCell hL _ _ (own_ne hL B1 (by decide))
  · have := own_setCell hown ⟨g, 3, none⟩ v' hgo
    rw [words_append, words_replicate]
    simpa using this
  · simp; omega
  · intro n hn
    rcases List.mem_append.1 hn with h | h
    · exact hA.wd n h
    · rw [List.eq_of_mem_replicate h]; unfold Wd; omega
  · intro j hj
    simp only [List.mem_cons, List.mem_append] at hj ⊢
    rcases hj with h | h | h
    · exact .inl (.inl h)
    · exact .inl (.inr (.inl h))
    · rcases hat with h2 | h2
      · exact .inl (.inr (.inr (by simpa [sb, h2] using h)))
      · have : j = w.heap.size := by simpa [sb, h2] using h
        exact .inr (by omega)

set_option maxHeartbeats 1000000 in
theorem Alloc_any (w : World) (g : Nat) (fp : List Nat) (s : Ar) (n : Int) (hI : IsAr w g fp s) : Calls Try.prog 77 #[.pointer (some ⟨g, 0, none⟩), .int .i64 n] w fun e w' =>
    e = .returned (.tuple #[.int .i64 ((s.allocA n).2.1 : Int), .int .i64 ((s.allocA n).2.2 : Int)]) ∧ ArTo w w' g fp (s.allocA n).1 := by
  obtain ⟨i0, hi, hz0, hz1, hz2⟩ := info_parts info_uint64
  have hR := Lib.hid (fun (w' : World) (hq : Quiet w w') => show ArTo w w' g fp s from (by obtain ⟨k, rfl⟩ := hq; exact ⟨fp, hI.drewN k, (Moved.refl _ _).drewN k⟩))
  obtain ⟨v1, v2, r, hA, rfl⟩ := hI
  obtain ⟨a2, cap, rfl, hc1, hc2⟩ := own_val hA.cel
  have h3 := hA.blk.cell 3
  have h2 := hA.blk.cell 2
  have f3 := hA.blk.frozen 3
  simp at h3 h2
  have hm1 := hA.most1
  have hm2 := hA.most2
  have hle := hA.len
  have hgl := hA.blk.lt
  have HA := Lib.hid hA
  clear hA
  by_cases hn : n < 0
  · have hv : s.allocA n = (s, 0, 2) := by simp [Ar.allocA, hn]
    rw [hv]
    go_enter Try.func77, Try.ntmps77
    go_wp2_with (go_at_call 108; refine (missing_no _ _ _ h2 hm1).mono ?_; rintro e w' ⟨rfl, rfl⟩)
    go_ret2
    exact ⟨rfl, hR.out _ (Quiet.refl w)⟩
  · by_cases hf : (s.most : Int) - (s.C.length : Int) < n
    · have hv : s.allocA n = (s, 0, 6) := by simp [Ar.allocA, hn, hf]
      rw [hv]
      go_enter Try.func77, Try.ntmps77
      go_wp2_with (go_at_call 108; refine (missing_no _ _ _ h2 hm1).mono ?_; rintro e w' ⟨rfl, rfl⟩)
      go_quiet (fail)
      go_wp2
      go_ret2
      exact ⟨rfl, hR.out _ ⟨_, rfl⟩⟩
    · obtain ⟨k, rfl⟩ := Int.eq_ofNat_of_zero_le (Int.not_lt.1 hn)
      have hv : s.allocA (k : Int) = ({ s with C := s.C ++ List.replicate k 0 }, s.C.length, 0) := by simp [Ar.allocA, hn, hf]
      rw [hv]
      have hk : s.C.length + k ≤ s.most := by omega
      have hcel := HA.out.cel
      have HC := Lib.hid hcel
      have hgn : some g ≠ (Value.slice a2 s.C.length cap).ownBlock := fun h => own_ne hcel HA.out.blk (by decide) (by simp [sb, ← h])
      have HG := Lib.hid hgn
      clear hv hcel hgn
      go_enter Try.func77, Try.ntmps77
      go_wp2_with (go_at_call 108; refine (missing_no _ _ _ h2 hm1).mono ?_; rintro e w' ⟨rfl, rfl⟩)
      go_quiet (fail)
      go_wp2_with (at_builtin; refine wpList_append_zeros _ rfl (.tmp 31) (.tmp 32) 98 3 rfl 127 i0 (.int .u64 0) .i64 .i64 Try.underlying98 Try.underlying3 hi hz0 hz1 hz2 rfl rfl _ _ _ rfl (own_drewN HC.out _) k rfl (by omega) ?_; intro aa cap' w1 hown hgrow hat; have B1 := (HA.out.blk.drewN _).grown hgrow HG.out; have k3 := B1.cell 3; have e3 := B1.frozen 3; simp at k3; have H1 := Lib.hid hown; have H2 := Lib.hid hgrow; have H3 := Lib.hid hat; clear hown hgrow hat B1)
      go_ret2
      exact ⟨rfl, alloc_close HA.out ⟨_, rfl⟩ hk H1.out H2.out H3.out⟩
end Go.Proofs.Ytihmbgdkllmkaaa
