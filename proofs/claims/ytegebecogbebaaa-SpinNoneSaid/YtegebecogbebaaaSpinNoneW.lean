/-
  SpinNone (betrothallaw03/law.go): its walk: for every index, count and choice it returns true, and nothing that was there has turned.
-/
import Derived.Test.YtegebecogbebaaaNone
import Derived.Test.YtegebecogbebaaaWorks03
namespace Go.Proofs.Ytegebecogbebaaa
open Go.RowKit Go.Shelf
set_option maxRecDepth 100000
set_option linter.unusedVariables false
set_option linter.unusedSimpArgs false
attribute [local go_sem] Oper.semAt_some

/-- The block of a zero arena. -/
abbrev zeroArena : Obj := .cells #[.int .u64 0, .slice none 0 0, .int .i64 0, .slice none 0 0] 66
theorem noAr_zero (w : World) : NoAr (w.alloc zeroArena) (.pointer (some ⟨w.heap.size, 0, none⟩)) := .inr ⟨_, rfl, by simp⟩


set_option maxHeartbeats 4000000 in
theorem spinNone_in (n : Nat) (at_ most : Int) (zero : Bool) (w : World) (hmost : most ≤ 9223372036854775807) : CallsIn Fence.wide n Try.prog 6 #[.int .i64 at_, .int .i64 most, .bool zero] w fun e w' => e = .returned (.bool true) ∧ Below w.heap.size w w' := by
  have HR := Lib.hid (Blk.new w 4 #[.bool false])
  have HB := Lib.hid ((Below.refl w.heap.size w).alloc (Nat.le_refl _) (.cells #[.bool false] 4))
  cases zero with
  | false =>
    refine callsIn_of_wp_marks Try.func6 rfl trivial ?_ rfl
    simp only [Try.ntmps6, List.size_toArray, List.length_cons, List.length_nil, Nat.reduceAdd, Nat.reduceSub, Array.replicate_succ, Array.replicate_zero, List.push_toArray, List.append_toArray, List.nil_append, List.cons_append]
    have HN0 : Hid (NoAr (w.alloc (.cells #[.bool false] 4)) (.pointer none)) := .inl rfl
    have HR0 := HR
    have HB0 := HB
    have hnil := tries_not_nil
    gi_wp2_with fail
    refine ⟨trivial, nodepth, ?_⟩
    refine (callsIn_wide.2 (SpinNew_none _ _ HN0.out)).mono ?_
    rintro e w' ⟨rfl, rfl⟩
    gi_wp2_with fail
    refine ⟨trivial, nodepth, ?_⟩
    refine (callsIn_wide.2 (Try_none _ _ HN0.out _)).mono ?_
    rintro e w1 ⟨rfl, ht⟩
    have HT1 := Lib.hid ht
    clear ht
    have HN1 := Lib.hid (HN0.out.touch HT1.out (by simp))
    gi_wp2_with fail
    refine ⟨trivial, nodepth, ?_⟩
    refine (callsIn_wide.2 (Held_none _ _ HN1.out _)).mono ?_
    rintro e w' ⟨rfl, rfl⟩
    gi_wp2_with fail
    refine ⟨trivial, nodepth, ?_⟩
    refine (callsIn_wide.2 (States_none _ _ (HN1.out.touch ((Touch.refl [] w1).alloc _) (by simp)) _)).mono ?_
    rintro e w' ⟨rfl, rfl⟩
    gi_wp2_with fail
    refine ⟨trivial, nodepth, ?_⟩
    refine (callsIn_wide.2 (Tries_any _ _ _ _)).mono ?_
    rintro e w' ⟨rfl, rfl⟩
    gi_wp2_with fail
    obtain ⟨w2, hw2⟩ : ∃ w2, (((w1.alloc (.cells #[.int .i64 at_, .int .i64 0] 3)).alloc (.cells #[.pointer none] 24)).alloc (.cells #[.int .i64 at_] 3)).alloc (.cells #[.int .i64 most] 3) = w2 := ⟨_, rfl⟩
    have HT2 := Lib.hid (show Touch [] w1 w2 from hw2 ▸ ((((Touch.refl [] w1).alloc _).alloc _).alloc _).alloc _)
    have HN2 := Lib.hid (HN1.out.touch HT2.out (by simp))
    have hm : Blk w2 (w1.heap.size + 1 + 1 + 1) 3 #[.int .i64 most] := by rw [← hw2]; have := Blk.new (((w1.alloc (.cells #[.int .i64 at_, .int .i64 0] 3)).alloc (.cells #[.pointer none] 24)).alloc (.cells #[.int .i64 at_] 3)) 3 #[.int .i64 most]; simpa using this
    have ha : Blk w2 (w1.heap.size + 1) 24 #[.pointer none] := by rw [← hw2]; have := ((Blk.new (w1.alloc (.cells #[.int .i64 at_, .int .i64 0] 3)) 24 #[.pointer none]).alloc (.cells #[.int .i64 at_] 3)).alloc (.cells #[.int .i64 most] 3); simpa using this
    have hat : Blk w2 (w1.heap.size + 1 + 1) 3 #[.int .i64 at_] := by rw [← hw2]; have := (Blk.new ((w1.alloc (.cells #[.int .i64 at_, .int .i64 0] 3)).alloc (.cells #[.pointer none] 24)) 3 #[.int .i64 at_]).alloc (.cells #[.int .i64 most] 3); simpa using this
    have HM := Lib.hid hm
    have HA := Lib.hid ha
    have HAT := Lib.hid hat
    rw [hw2]
    clear hm ha hat hw2
    refine range_tries_none (pa := none) (at_ := at_) (most := most) (bm := w1.heap.size + 1 + 1 + 1) (ba := w1.heap.size + 1) (bt := w1.heap.size + 1 + 1) rfl hmost HN2.out HM.out HA.out HAT.out ?_
    intro w3 ht hK
    have HT3 := Lib.hid ht
    have HD := Lib.hid hK
    have HN3 := Lib.hid (HN2.out.touch ht (by simp))
    obtain ⟨D1, hD1⟩ : ∃ D1, w2.heap.size = D1 := ⟨_, rfl⟩
    have hD1B : w.heap.size ≤ D1 := by have := HT1.out.size; have := HT2.out.size; simp at *; omega
    have HDlt : Hid (D1 < w3.heap.size) := (Array.getElem?_eq_some_iff.1 (hD1 ▸ hK)).1
    rw [hD1] at HD ⊢
    clear ht hK hD1
    gi_wp2_with fail
    refine ⟨trivial, nodepth, ?_⟩
    refine (callsIn_wide.2 (num03 _ _)).mono ?_
    rintro e w' ⟨rfl, rfl⟩
    gi_wp2_with fail
    refine ⟨trivial, nodepth, ?_⟩
    refine (callsIn_wide.2 (num03 _ _)).mono ?_
    rintro e w' ⟨rfl, rfl⟩
    gi_wp2_with fail
    refine ⟨trivial, nodepth, ?_⟩
    refine (callsIn_wide.2 (num03 _ _)).mono ?_
    rintro e w' ⟨rfl, rfl⟩
    gi_wp2_with fail
    refine ⟨trivial, nodepth, ?_⟩
    refine (callsIn_wide.2 (num03 _ _)).mono ?_
    rintro e w' ⟨rfl, rfl⟩
    gi_wp2_with fail
    refine ⟨trivial, nodepth, ?_⟩
    refine (callsIn_wide.2 (Free_none _ _ HN3.out _)).mono ?_
    rintro e w4 ⟨rfl, ht⟩
    have HT4 := Lib.hid ht
    clear ht
    gi_wp2_with fail
    refine ⟨trivial, nodepth, ?_⟩
    refine (callsIn_wide.2 (num03 _ _)).mono ?_
    rintro e w' ⟨rfl, rfl⟩
    gi_wp2_with fail
    refine ⟨trivial, nodepth, ?_⟩
    refine (callsIn_wide.2 (works03 _)).mono ?_
    rintro e w5 ⟨rfl, hb⟩
    have HB5 := Lib.hid hb
    clear hb
    have HT15 : Hid (Touch [] (w.alloc (.cells #[.bool false] 4)) w5) := ((((HT1.out.trans HT2.out (by simp)).trans HT3.out (by simp)).trans HT4.out (by simp)).trans (Touch.of_below HB5.out []) (by simp))
    have HR5 := Lib.hid (HR0.out.touch HT15.out (by simp))
    have HD5 : Hid (w5.heap[D1]? = some (.deferred (some []))) := ((HT4.out.trans (Touch.of_below HB5.out []) (by simp)).block D1 HDlt.out (by simp)).trans HD.out
    have c0 := HR5.out.cell 0
    have f0 := HR5.out.frozen 0
    simp at c0
    gi_wp2
    have hb2 := HR5.out.set 0 (.bool true)
    simp only [List.setIfInBounds_toArray, List.set_cons_zero] at hb2
    have hms : ∀ k ∈ [D1], (w5.setCell ⟨w.heap.size, 0, none⟩ (.bool true)).heap[k]? = some (.deferred (some [])) := by
      intro k hk
      simp only [List.mem_singleton] at hk
      subst hk
      exact (Below.heap_setCell _ _ _ _ (HR5.out.ne_deferred HD5.out).symm).trans HD5.out
    have hc := (hb2.shut _ hms).cell 0
    simp only [List.getElem?_toArray, List.getElem?_cons_zero] at hc
    refine leave_marks (v := .bool true) [D1] _ hms (by simp) (by simp [results, Try.results6, go_sem, hc]) ⟨rfl, ?_⟩
    exact shutAll_below _ _ _ _ (by simp; omega) ((HB0.out.trans (HT15.out.below_of (by simp <;> omega) (by simp))).setCell (p := ⟨w.heap.size, 0, none⟩) (Nat.le_refl _) _)
  | true =>
    refine callsIn_of_wp_marks Try.func6 rfl trivial ?_ rfl
    simp only [Try.ntmps6, List.size_toArray, List.length_cons, List.length_nil, Nat.reduceAdd, Nat.reduceSub, Array.replicate_succ, Array.replicate_zero, List.push_toArray, List.append_toArray, List.nil_append, List.cons_append]
    have HN0 : Hid (NoAr ((w.alloc (.cells #[.bool false] 4)).alloc zeroArena) (.pointer (some ⟨w.heap.size + 1, 0, none⟩))) := by have := noAr_zero (w.alloc (.cells #[.bool false] 4)); rw [World.size_alloc] at this; exact this
    have HR0 := Lib.hid (HR.out.alloc zeroArena)
    have HB0 := Lib.hid (HB.out.alloc (by simp) zeroArena)
    have hnil := tries_not_nil
    gi_wp2_with fail
    refine ⟨trivial, nodepth, ?_⟩
    refine (callsIn_wide.2 (SpinNew_none _ _ HN0.out)).mono ?_
    rintro e w' ⟨rfl, rfl⟩
    gi_wp2_with fail
    refine ⟨trivial, nodepth, ?_⟩
    refine (callsIn_wide.2 (Try_none _ _ HN0.out _)).mono ?_
    rintro e w1 ⟨rfl, ht⟩
    have HT1 := Lib.hid ht
    clear ht
    have HN1 := Lib.hid (HN0.out.touch HT1.out (by simp))
    gi_wp2_with fail
    refine ⟨trivial, nodepth, ?_⟩
    refine (callsIn_wide.2 (Held_none _ _ HN1.out _)).mono ?_
    rintro e w' ⟨rfl, rfl⟩
    gi_wp2_with fail
    refine ⟨trivial, nodepth, ?_⟩
    refine (callsIn_wide.2 (States_none _ _ (HN1.out.touch ((Touch.refl [] w1).alloc _) (by simp)) _)).mono ?_
    rintro e w' ⟨rfl, rfl⟩
    gi_wp2_with fail
    refine ⟨trivial, nodepth, ?_⟩
    refine (callsIn_wide.2 (Tries_any _ _ _ _)).mono ?_
    rintro e w' ⟨rfl, rfl⟩
    gi_wp2_with fail
    obtain ⟨w2, hw2⟩ : ∃ w2, (((w1.alloc (.cells #[.int .i64 at_, .int .i64 0] 3)).alloc (.cells #[.pointer (some ⟨w.heap.size + 1, 0, none⟩)] 24)).alloc (.cells #[.int .i64 at_] 3)).alloc (.cells #[.int .i64 most] 3) = w2 := ⟨_, rfl⟩
    have HT2 := Lib.hid (show Touch [] w1 w2 from hw2 ▸ ((((Touch.refl [] w1).alloc _).alloc _).alloc _).alloc _)
    have HN2 := Lib.hid (HN1.out.touch HT2.out (by simp))
    have hm : Blk w2 (w1.heap.size + 1 + 1 + 1) 3 #[.int .i64 most] := by rw [← hw2]; have := Blk.new (((w1.alloc (.cells #[.int .i64 at_, .int .i64 0] 3)).alloc (.cells #[.pointer (some ⟨w.heap.size + 1, 0, none⟩)] 24)).alloc (.cells #[.int .i64 at_] 3)) 3 #[.int .i64 most]; simpa using this
    have ha : Blk w2 (w1.heap.size + 1) 24 #[.pointer (some ⟨w.heap.size + 1, 0, none⟩)] := by rw [← hw2]; have := ((Blk.new (w1.alloc (.cells #[.int .i64 at_, .int .i64 0] 3)) 24 #[.pointer (some ⟨w.heap.size + 1, 0, none⟩)]).alloc (.cells #[.int .i64 at_] 3)).alloc (.cells #[.int .i64 most] 3); simpa using this
    have hat : Blk w2 (w1.heap.size + 1 + 1) 3 #[.int .i64 at_] := by rw [← hw2]; have := (Blk.new ((w1.alloc (.cells #[.int .i64 at_, .int .i64 0] 3)).alloc (.cells #[.pointer (some ⟨w.heap.size + 1, 0, none⟩)] 24)) 3 #[.int .i64 at_]).alloc (.cells #[.int .i64 most] 3); simpa using this
    have HM := Lib.hid hm
    have HA := Lib.hid ha
    have HAT := Lib.hid hat
    rw [hw2]
    clear hm ha hat hw2
    refine range_tries_none (pa := (some ⟨w.heap.size + 1, 0, none⟩)) (at_ := at_) (most := most) (bm := w1.heap.size + 1 + 1 + 1) (ba := w1.heap.size + 1) (bt := w1.heap.size + 1 + 1) rfl hmost HN2.out HM.out HA.out HAT.out ?_
    intro w3 ht hK
    have HT3 := Lib.hid ht
    have HD := Lib.hid hK
    have HN3 := Lib.hid (HN2.out.touch ht (by simp))
    obtain ⟨D1, hD1⟩ : ∃ D1, w2.heap.size = D1 := ⟨_, rfl⟩
    have hD1B : w.heap.size ≤ D1 := by have := HT1.out.size; have := HT2.out.size; simp at *; omega
    have HDlt : Hid (D1 < w3.heap.size) := (Array.getElem?_eq_some_iff.1 (hD1 ▸ hK)).1
    rw [hD1] at HD ⊢
    clear ht hK hD1
    gi_wp2_with fail
    refine ⟨trivial, nodepth, ?_⟩
    refine (callsIn_wide.2 (num03 _ _)).mono ?_
    rintro e w' ⟨rfl, rfl⟩
    gi_wp2_with fail
    refine ⟨trivial, nodepth, ?_⟩
    refine (callsIn_wide.2 (num03 _ _)).mono ?_
    rintro e w' ⟨rfl, rfl⟩
    gi_wp2_with fail
    refine ⟨trivial, nodepth, ?_⟩
    refine (callsIn_wide.2 (num03 _ _)).mono ?_
    rintro e w' ⟨rfl, rfl⟩
    gi_wp2_with fail
    refine ⟨trivial, nodepth, ?_⟩
    refine (callsIn_wide.2 (num03 _ _)).mono ?_
    rintro e w' ⟨rfl, rfl⟩
    gi_wp2_with fail
    refine ⟨trivial, nodepth, ?_⟩
    refine (callsIn_wide.2 (Free_none _ _ HN3.out _)).mono ?_
    rintro e w4 ⟨rfl, ht⟩
    have HT4 := Lib.hid ht
    clear ht
    gi_wp2_with fail
    refine ⟨trivial, nodepth, ?_⟩
    refine (callsIn_wide.2 (num03 _ _)).mono ?_
    rintro e w' ⟨rfl, rfl⟩
    gi_wp2_with fail
    refine ⟨trivial, nodepth, ?_⟩
    refine (callsIn_wide.2 (works03 _)).mono ?_
    rintro e w5 ⟨rfl, hb⟩
    have HB5 := Lib.hid hb
    clear hb
    have HT15 : Hid (Touch [] ((w.alloc (.cells #[.bool false] 4)).alloc zeroArena) w5) := ((((HT1.out.trans HT2.out (by simp)).trans HT3.out (by simp)).trans HT4.out (by simp)).trans (Touch.of_below HB5.out []) (by simp))
    have HR5 := Lib.hid (HR0.out.touch HT15.out (by simp))
    have HD5 : Hid (w5.heap[D1]? = some (.deferred (some []))) := ((HT4.out.trans (Touch.of_below HB5.out []) (by simp)).block D1 HDlt.out (by simp)).trans HD.out
    have c0 := HR5.out.cell 0
    have f0 := HR5.out.frozen 0
    simp at c0
    gi_wp2
    have hb2 := HR5.out.set 0 (.bool true)
    simp only [List.setIfInBounds_toArray, List.set_cons_zero] at hb2
    have hms : ∀ k ∈ [D1], (w5.setCell ⟨w.heap.size, 0, none⟩ (.bool true)).heap[k]? = some (.deferred (some [])) := by
      intro k hk
      simp only [List.mem_singleton] at hk
      subst hk
      exact (Below.heap_setCell _ _ _ _ (HR5.out.ne_deferred HD5.out).symm).trans HD5.out
    have hc := (hb2.shut _ hms).cell 0
    simp only [List.getElem?_toArray, List.getElem?_cons_zero] at hc
    refine leave_marks (v := .bool true) [D1] _ hms (by simp) (by simp [results, Try.results6, go_sem, hc]) ⟨rfl, ?_⟩
    exact shutAll_below _ _ _ _ (by simp; omega) ((HB0.out.trans (HT15.out.below_of (by simp <;> omega) (by simp))).setCell (p := ⟨w.heap.size, 0, none⟩) (Nat.le_refl _) _)
theorem spinNone_any (at_ most : Int) (zero : Bool) (w : World) (hmost : most ≤ 9223372036854775807) : Calls Try.prog 6 #[.int .i64 at_, .int .i64 most, .bool zero] w fun e w' => e = .returned (.bool true) ∧ Below w.heap.size w w' := (callsIn_wide (n := 0)).1 (spinNone_in 0 at_ most zero w hmost)
end Go.Proofs.Ytegebecogbebaaa
