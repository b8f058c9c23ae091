/-
  The reference of law 01 (betrothalref01): its arena as a value; New, Alloc, Do, Last.
-/
import Derived.Test.YtegebecogbebaaaAlloc
import Derived.Test.YtegebecogbebaaaAppendAny
import Derived.Test.YtegebecogbebaaaNote
namespace Go.Proofs.Ytegebecogbebaaa
open Go.RowKit Go.Shelf
set_option maxRecDepth 100000
set_option linter.unusedVariables false

/-- The reference's arena as a value. -/
def refV (vc : Value) (most : Nat) (vl : Value) : Value := .agg #[vc, .int .i64 (most : Int), vl]
/-- What its two slices hold. -/
structure RefAt (w : World) (vc vl : Value) (s : Ar) : Prop where
  cel : w.ownsRow 0 39 1 vc s.C.length (words s.C)
  log : w.ownsRow 0 54 5 vl s.L.length (accCells s.L)
  clen : s.C.length ≤ 65536
  most : s.most ≤ 65536
theorem RefAt.touch {w w' : World} {vc vl : Value} {s : Ar} (h : RefAt w vc vl s) (ht : Touch [] w w') : RefAt w' vc vl s := ⟨own_touch h.cel ht (by simp), own_touch h.log ht (by simp), h.clen, h.most⟩
theorem RefAt.keep {w w' : World} {vc vl : Value} {s : Ar} (h : RefAt w vc vl s) (hs : ∀ b ∈ sb vc ++ sb vl, w'.heap[b]? = w.heap[b]?) : RefAt w' vc vl s :=
  ⟨own_keep h.cel (fun b hb => hs b (List.mem_append_left _ hb)), own_keep h.log (fun b hb => hs b (List.mem_append_right _ hb)), h.clen, h.most⟩
theorem words_one (l : List Nat) : ∀ u ∈ words l, u.oneCell' = true := by
  intro u hu
  simp only [words, List.mem_map] at hu
  obtain ⟨n, _, rfl⟩ := hu
  rfl
theorem accs_one (l : List Acc) : ∀ u ∈ accCells l, u.oneCell' = true := by
  intro u hu
  simp only [accCells, List.mem_flatMap] at hu
  obtain ⟨x, _, hx⟩ := hu
  exact acc_one x u hx

theorem own_empty (W : World) (e : TypeId) (size : Nat) : (W.alloc (.cells #[] e)).ownsRow 0 e size (.slice (some ⟨W.heap.size, 0, none⟩) 0 0) 0 [] :=
  ⟨by simp, .inr ⟨W.heap.size, 0, #[], rfl, Nat.zero_le _, heap_alloc_new W _, Nat.le_refl _, by simp [maxLen], by simp, by simp⟩⟩

set_option maxHeartbeats 1000000 in
theorem refAlloc (w : World) (vc vl : Value) (s : Ar) (n : Int) (h : RefAt w vc vl s) : Calls Try.prog 60 #[refV vc s.most vl, .int .i64 n] w fun e w' =>
    ∃ vc', e = .returned (.tuple #[refV vc' s.most vl, .int .i64 ((s.allocA n).2.1 : Int), .int .i64 ((s.allocA n).2.2 : Int)]) ∧ RefAt w' vc' vl (s.allocA n).1 ∧ Touch [] w w' ∧ ∀ b ∈ sb vc', b ∈ sb vc ∨ w.heap.size ≤ b := by
  obtain ⟨i0, hi, hz0, hz1, hz2⟩ := info_parts info_uint64
  obtain ⟨aa, cp, rfl, hc1, hc2⟩ := own_val h.cel
  obtain ⟨la, lp, rfl, hl1, hl2⟩ := own_val h.log
  have HA := Lib.hid h
  have hcl := h.clen
  have hml := h.most
  clear h
  unfold refV
  by_cases hn : n < 0
  · have hv : s.allocA n = (s, 0, 2) := by simp [Ar.allocA, hn]
    rw [hv]
    go_enter Try.func60, Try.ntmps60
    go_wp2
    refine bodyPost_ret (v := .tuple #[.agg #[.slice aa s.C.length cp, .int .i64 (s.most : Int), .slice la s.L.length lp], .int .i64 0, .int .i64 2]) (by simp [results, Try.results60, go_sem]) rfl ?_
    refine ⟨_, rfl, HA.out.touch ?_, ?_, fun b hb => .inl hb⟩
    all_goals exact ((Touch.refl [] w).alloc _).alloc _
  · by_cases hf : (s.most : Int) - (s.C.length : Int) < n
    · have hv : s.allocA n = (s, 0, 6) := by simp [Ar.allocA, hn, hf]
      rw [hv]
      go_enter Try.func60, Try.ntmps60
      go_wp2
      refine bodyPost_ret (v := .tuple #[.agg #[.slice aa s.C.length cp, .int .i64 (s.most : Int), .slice la s.L.length lp], .int .i64 0, .int .i64 6]) (by simp [results, Try.results60, go_sem]) rfl ?_
      refine ⟨_, rfl, HA.out.touch ?_, ?_, fun b hb => .inl hb⟩
      all_goals exact ((Touch.refl [] w).alloc _).alloc _
    · obtain ⟨k, rfl⟩ := Int.eq_ofNat_of_zero_le (Int.not_lt.1 hn)
      have hv : s.allocA (k : Int) = ({ s with C := s.C ++ List.replicate k 0 }, s.C.length, 0) := by simp [Ar.allocA, hn, hf]
      rw [hv]
      have hk : s.C.length + k ≤ s.most := by omega
      have HB : Hid (Blk (((w.alloc (.cells #[.slice aa s.C.length cp, .int .i64 (s.most : Int), .slice la s.L.length lp] 59)).alloc (.cells #[.slice none 0 0, .int .i64 0, .slice none 0 0] 59)).alloc (.cells #[] 39)) w.heap.size 59 #[.slice aa s.C.length cp, .int .i64 (s.most : Int), .slice la s.L.length lp]) :=
        ((Blk.new w _ _).alloc _).alloc _
      have HR : Hid (Blk (((w.alloc (.cells #[.slice aa s.C.length cp, .int .i64 (s.most : Int), .slice la s.L.length lp] 59)).alloc (.cells #[.slice none 0 0, .int .i64 0, .slice none 0 0] 59)).alloc (.cells #[] 39)) (w.heap.size + 1) 59 #[.slice none 0 0, .int .i64 0, .slice none 0 0]) := by
        have := (Blk.new (w.alloc (.cells #[.slice aa s.C.length cp, .int .i64 (s.most : Int), .slice la s.L.length lp] 59)) 59 #[.slice none 0 0, .int .i64 0, .slice none 0 0]).alloc (.cells #[] 39)
        rw [World.size_alloc] at this
        exact this
      have HT0 : Hid (Touch [] w (((w.alloc (.cells #[.slice aa s.C.length cp, .int .i64 (s.most : Int), .slice la s.L.length lp] 59)).alloc (.cells #[.slice none 0 0, .int .i64 0, .slice none 0 0] 59)).alloc (.cells #[] 39))) := (((Touch.refl [] w).alloc _).alloc _).alloc _
      have HE : Hid ((((w.alloc (.cells #[.slice aa s.C.length cp, .int .i64 (s.most : Int), .slice la s.L.length lp] 59)).alloc (.cells #[.slice none 0 0, .int .i64 0, .slice none 0 0] 59)).alloc (.cells #[] 39)).ownsRow 0 39 1 (.slice (some ⟨w.heap.size + 1 + 1, 0, none⟩) 0 0) 0 []) := by
        have := own_empty ((w.alloc (.cells #[.slice aa s.C.length cp, .int .i64 (s.most : Int), .slice la s.L.length lp] 59)).alloc (.cells #[.slice none 0 0, .int .i64 0, .slice none 0 0] 59)) 39 1
        rw [World.size_alloc, World.size_alloc] at this
        exact this
      have hbl : w.heap.size < w.heap.size + 1 + 1 := by omega
      clear hv hl1 hl2 hc1 hc2
      go_enter Try.func60, Try.ntmps60
      go_wp2_with (at_builtin; go_must (refine wpList_append_src _ rfl (.tmp 23) (.tmp 25) 38 rfl 39 i0 (.int .u64 0) 1 8 Try.underlying38 hi hz0 hz1 hz2 rfl (by decide) (.slice (some ⟨w.heap.size + 1 + 1, 0, none⟩) 0 0) 0 [] rfl HE.out (.slice aa s.C.length cp) s.C.length (words s.C) rfl (own_touch HA.out.cel HT0.out (by simp)) (words_one _) (by simp only [maxLen]; omega) (by omega) ?_); intro a1 c1 w1 hown hgrow hat; refine Hid.out ?_)
      rw [Nat.zero_add, List.nil_append] at hown
      rw [Nat.zero_add] at hat
      have HT1 : Hid (Touch [] w w1) := HT0.out.grown hgrow (fun j hj => .inr (by simp [Value.ownBlock] at hj; omega))
      have HB1 : Hid (Blk w1 w.heap.size 59 #[.slice aa s.C.length cp, .int .i64 (s.most : Int), .slice la s.L.length lp]) := HB.out.grown hgrow (by simp [Value.ownBlock]; omega)
      have HR1 : Hid (Blk w1 (w.heap.size + 1) 59 #[.slice none 0 0, .int .i64 0, .slice none 0 0]) := HR.out.grown hgrow (by simp [Value.ownBlock])
      have HO1 := Lib.hid hown
      have HN1 : Hid (∀ j ∈ sb (.slice a1 s.C.length c1), w.heap.size ≤ j) := by
        intro j hj
        rcases hat with h1 | h1
        · rw [sb, h1] at hj
          have : j = w.heap.size + 1 + 1 := by simpa [Value.ownBlock] using hj
          omega
        · rw [sb, h1] at hj
          have : j = w.heap.size + 1 + 1 + 1 := by simpa using hj
          omega
      clear hown hgrow hat HB HE HT0 HR
      refine Lib.hid ?_
      go_wp2_with (at_builtin; go_must (refine wpList_append_zeros _ rfl (.tmp 26) (.tmp 27) 38 3 rfl 39 i0 (.int .u64 0) .i64 .i64 Try.underlying38 Try.underlying3 hi hz0 hz1 hz2 rfl rfl (.slice a1 s.C.length c1) s.C.length (words s.C) rfl HO1.out k rfl (by omega) ?_); intro a2 c2 w2 hown hgrow hat; refine Hid.out ?_)
      have HT2 : Hid (Touch [] w w2) := HT1.out.grown hgrow (fun j hj => .inr (HN1.out j (by simp [sb, hj])))
      have hn0 : w.heap.size ∉ sb (.slice a1 s.C.length c1) := own_ne HO1.out HB1.out (by decide)
      have HB2 : Hid (Blk w2 w.heap.size 59 #[.slice aa s.C.length cp, .int .i64 (s.most : Int), .slice la s.L.length lp]) := HB1.out.grown hgrow (fun hc => hn0 (by simp [sb, ← hc]))
      have HR2 : Hid (Blk w2 (w.heap.size + 1) 59 #[.slice none 0 0, .int .i64 0, .slice none 0 0]) := HR1.out.grown hgrow (fun hc => own_ne HO1.out HR1.out (by decide) (by simp [sb, ← hc]))
      have HO2 := Lib.hid hown
      have HN2 : Hid (∀ j ∈ sb (.slice a2 (s.C.length + k) c2), w.heap.size ≤ j) := by
        intro j hj
        rcases hat with h1 | h1
        · exact HN1.out j (by rw [sb, ← h1]; exact hj)
        · rw [sb, h1] at hj
          have : j = w1.heap.size := by simpa using hj
          have := HT1.out.size
          omega
      have b0 := HB2.out.cell 0
      have b1 := HB2.out.cell 1
      have b2 := HB2.out.cell 2
      have r0 := HR2.out.cell 0
      have r1 := HR2.out.cell 1
      have r2 := HR2.out.cell 2
      have g0 := HB2.out.frozen 0
      have e0 := HR2.out.frozen 0
      have e1 := HR2.out.frozen 1
      have e2 := HR2.out.frozen 2
      simp at b0 b1 b2 r0 r1 r2
      clear hown hgrow hat hn0 HB1 HR1 HT1
      refine Lib.hid ?_
      go_wp2
      have hf := (((HR2.out.far (p := ⟨w.heap.size, 0, none⟩) (by simp) (.slice a2 (s.C.length + k) c2)).set 0 (.slice a2 (s.C.length + k) c2)).set 1 (.int .i64 (s.most : Int))).set 2 (.slice la s.L.length lp)
      have q0 := hf.cell 0
      have q1 := hf.cell 1
      have q2 := hf.cell 2
      simp at q0 q1 q2
      have HTF : Hid (Touch [] w ((((w2.setCell ⟨w.heap.size, 0, none⟩ (.slice a2 (s.C.length + k) c2)).setCell ⟨w.heap.size + 1, 0, none⟩ (.slice a2 (s.C.length + k) c2)).setCell ⟨w.heap.size + 1, 1, none⟩ (.int .i64 (s.most : Int))).setCell ⟨w.heap.size + 1, 2, none⟩ (.slice la s.L.length lp))) :=
        (((HT2.out.setCell ⟨w.heap.size, 0, none⟩ _ (.inr (Nat.le_refl _))).setCell ⟨w.heap.size + 1, 0, none⟩ _ (.inr (Nat.le_succ _))).setCell ⟨w.heap.size + 1, 1, none⟩ _ (.inr (Nat.le_succ _))).setCell ⟨w.heap.size + 1, 2, none⟩ _ (.inr (Nat.le_succ _))
      have n0 := own_ne HO2.out HB2.out (by decide)
      have n1 := own_ne HO2.out HR2.out (by decide)
      refine bodyPost_ret (v := .tuple #[.agg #[.slice a2 (s.C.length + k) c2, .int .i64 (s.most : Int), .slice la s.L.length lp], .int .i64 (s.C.length : Int), .int .i64 0]) (by simp [results, Try.results60, go_sem, q0, q1, q2]) rfl ?_
      refine ⟨_, rfl, ⟨?_, own_touch HA.out.log HTF.out (by simp), by simp; omega, hml⟩, HTF.out, fun b hb => .inr (HN2.out b hb)⟩
      have := own_setCell (own_setCell (own_setCell (own_setCell HO2.out ⟨w.heap.size, 0, none⟩ (.slice a2 (s.C.length + k) c2) n0) ⟨w.heap.size + 1, 0, none⟩ (.slice a2 (s.C.length + k) c2) n1) ⟨w.heap.size + 1, 1, none⟩ (.int .i64 (s.most : Int)) n1) ⟨w.heap.size + 1, 2, none⟩ (.slice la s.L.length lp) n1
      simp only [List.length_append, List.length_replicate, words_append, words_replicate]
      exact this
end Go.Proofs.Ytegebecogbebaaa
