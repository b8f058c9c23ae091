/-
  CellNone (betrothallaw01/law.go): its walk: for every index, two numbers and choice it returns true, and nothing that was there has turned.
-/
import Derived.Test.YtegebecogbebaaaNone
import Derived.Test.YtegebecogbebaaaWorks01
namespace Go.Proofs.Ytegebecogbebaaa
open Go.RowKit Go.Shelf
set_option maxRecDepth 100000
set_option linter.unusedVariables false
set_option linter.unusedSimpArgs false
attribute [local go_sem] Oper.semAt_some

theorem noAr_zero1 (w : World) : NoAr (w.alloc (.cells #[.int .u64 0, .slice none 0 0, .int .i64 0, .slice none 0 0] 66)) (.pointer (some ⟨w.heap.size, 0, none⟩)) := .inr ⟨_, rfl, by simp⟩


set_option maxHeartbeats 4000000 in
theorem cellNone_in (n : Nat) (at_ : Int) (x y : Nat) (hx : Wd x) (zero : Bool) (w : World) : CallsIn Fence.wide n Try.prog 8 #[.int .i64 at_, .int .u64 (x : Int), .int .u64 (y : Int), .bool zero] w fun e w' => e = .returned (.bool true) ∧ Below w.heap.size w w' := by
  have hB := Nat.le_refl w.heap.size
  have HR := Lib.hid (Blk.new w 4 #[.bool false])
  have HB := Lib.hid ((Below.refl w.heap.size w).alloc (Nat.le_refl _) (.cells #[.bool false] 4))
  cases zero with
  | false =>
    refine callsIn_of_wp_marks Try.func8 rfl trivial ?_ rfl
    simp only [Try.ntmps8, List.size_toArray, List.length_cons, List.length_nil, Nat.reduceAdd, Nat.reduceSub, Array.replicate_succ, Array.replicate_zero, List.push_toArray, List.append_toArray, List.nil_append, List.cons_append]
    have HN0 : Hid (NoAr (w.alloc (.cells #[.bool false] 4)) (.pointer none)) := .inl rfl
    have HR0 := HR
    have HB0 := HB
    have hnil := log_not_nil
    gi_wp2_with fail
    refine ⟨trivial, nodepth, ?_⟩
    refine (callsIn_wide.2 (Alloc_none _ _ HN0.out _)).mono ?_
    rintro e w' ⟨rfl, rfl⟩
    gi_wp2_with fail
    refine ⟨trivial, nodepth, ?_⟩
    refine (callsIn_wide.2 (Load_none _ _ HN0.out _)).mono ?_
    rintro e w' ⟨rfl, rfl⟩
    gi_wp2_with fail
    refine ⟨trivial, nodepth, ?_⟩
    refine (callsIn_wide.2 (Store_none _ _ HN0.out _ _)).mono ?_
    rintro e w1 ⟨rfl, ht⟩
    have HT1 := Lib.hid ht
    clear ht
    have HN1 := Lib.hid (HN0.out.touch HT1.out (by simp))
    gi_wp2_with fail
    refine ⟨trivial, nodepth, ?_⟩
    refine (callsIn_wide.2 (Swap_none _ _ HN1.out _ _ _)).mono ?_
    rintro e w2 ⟨rfl, ht⟩
    have HT2 := Lib.hid ht
    clear ht
    have HN2 := Lib.hid (HN1.out.touch HT2.out (by simp))
    gi_wp2_with fail
    refine ⟨trivial, nodepth, ?_⟩
    refine (callsIn_wide.2 (Add_none _ _ HN2.out _ _)).mono ?_
    rintro e w3 ⟨rfl, ht⟩
    have HT3 := Lib.hid ht
    clear ht
    have HN3 := Lib.hid (HN2.out.touch HT3.out (by simp))
    gi_wp2_with fail
    refine ⟨trivial, nodepth, ?_⟩
    refine (callsIn_wide.2 (Log_none _ _ HN3.out)).mono ?_
    rintro e w' ⟨rfl, rfl⟩
    gi_wp2_with fail
    refine range_log_none rfl ?_
    intro w4 ht hK
    have HT4 := Lib.hid ht
    have HN4 := Lib.hid (HN3.out.touch ht (by simp))
    have HT04 : Hid (Touch [] (w.alloc (.cells #[.bool false] 4)) w4) := ((HT1.out.trans HT2.out (by simp)).trans HT3.out (by simp)).trans HT4.out (by simp)
    have HR4 := Lib.hid (HR0.out.touch HT04.out (by simp))
    have HB4 := Lib.hid (HB0.out.trans (HT04.out.below_of (by simp <;> omega) (by simp)))
    obtain ⟨D1, hD1⟩ : ∃ D1, w3.heap.size = D1 := ⟨_, rfl⟩
    have HD14 : Hid (w4.heap[D1]? = some (.deferred (some []))) := hD1 ▸ hK
    have hD1l : D1 < w4.heap.size := (Array.getElem?_eq_some_iff.1 HD14.out).1
    have hD1B : w.heap.size ≤ D1 := by have := HT1.out.size; have := HT2.out.size; have := HT3.out.size; simp at *; omega
    have hSl : ∀ k ∈ D1 :: [], k < w4.heap.size := by
      have := HT04.out.size
      simp at *
      omega
    rw [hD1]
    have HSl := Lib.hid hSl
    clear ht hK hD1 hSl
    gi_wp2_with fail
    refine ⟨trivial, nodepth, ?_⟩
    refine (callsIn_wide.2 (Wk.New (S := D1 :: []) hB 9 (by omega) (by omega) HB4.out HSl.out)).mono ?_
    rintro e w5 ⟨rfl, hW, hK, hS, hz5⟩
    obtain ⟨g, hg⟩ : ∃ g, w4.heap.size = g := ⟨_, rfl⟩
    rw [hg] at hW ⊢
    have HW5 := Lib.hid hW
    have HR5 := Lib.hid (hK _ _ _ HR4.out other_bool)
    have HN5 := Lib.hid (HN4.out.same hS (by simp))
    have HD15 := Lib.hid ((hS D1 (by simp)).trans HD14.out)
    clear hW hK hS hg
    gi_wp2_with fail
    refine ⟨trivial, nodepth, ?_⟩
    refine (callsIn_wide.2 (HW5.out.Alloc hB 1 ⟨[0], 9, []⟩ 0 0 rfl)).mono ?_
    rintro e w6 ⟨rfl, hW, hK, hS, hz6⟩
    have HW6 := Lib.hid hW
    have HR6 := Lib.hid (hK _ _ _ HR5.out other_bool)
    have HN6 := Lib.hid (HN5.out.same hS (by simp))
    have HD16 := Lib.hid ((hS D1 (by simp)).trans HD15.out)
    clear hW hK hS
    gi_wp2_with fail
    refine ⟨trivial, nodepth, ?_⟩
    refine (callsIn_wide.2 (Log_wk hB HW6.out (by simp))).mono ?_
    rintro e w7 ⟨bl, bf, gg, rfl, hL, hW, ht, hge⟩
    have HW7 := Lib.hid hW
    have HL7 := Lib.hid hL
    have HR7 := Lib.hid (HR6.out.touch ht (by simp))
    have HN7 := Lib.hid (HN6.out.touch ht (by simp))
    have HD17 := Lib.hid ((ht.block D1 (HW6.out.lt D1 (by simp)) (by simp)).trans HD16.out)
    clear hL hW ht hge
    gi_wp2_with fail
    refine ⟨trivial, nodepth, ?_⟩
    refine (callsIn_wide.2 (HW7.out.Store hB (by simp) 0 x hx ⟨[x], 9, [⟨2, 0, 0, x, true⟩]⟩ 0 rfl rfl)).mono ?_
    rintro e w8 ⟨rfl, hW, hK, hS, hz8⟩
    have HW8 := Lib.hid hW
    have HR8 := Lib.hid (hK _ _ _ HR7.out other_bool)
    have HN8 := Lib.hid (HN7.out.same hS (by simp))
    have HD18 := Lib.hid ((hS D1 (by simp)).trans HD17.out)
    have HL8 := Lib.hid (HL7.out.keep (hS.sub (by simp)))
    clear hW hK hS
    gi_wp2_with fail
    refine range_log_empty rfl HL8.out ?_
    intro w9 ht hK
    have HW9 := Lib.hid (HW8.out.touch hB ht (by simp) (by simp))
    have HR9 := Lib.hid (HR8.out.touch ht (by simp))
    have HN9 := Lib.hid (HN8.out.touch ht (by simp))
    have HD19 := Lib.hid ((ht.block D1 (HW8.out.lt D1 (by simp)) (by simp)).trans HD18.out)
    obtain ⟨D2, hD2⟩ : ∃ D2, w8.heap.size = D2 := ⟨_, rfl⟩
    have HD29 : Hid (w9.heap[D2]? = some (.deferred (some []))) := hD2 ▸ hK
    have hD12 : D1 ≠ D2 := by have := HW8.out.lt D1 (by simp); omega
    have hD2B : w.heap.size ≤ D2 := by have := HW8.out.size hB; omega
    rw [hD2]
    clear ht hK hD2
    gi_wp2_with fail
    refine ⟨trivial, nodepth, ?_⟩
    refine (callsIn_wide.2 (num01 _ _)).mono ?_
    rintro e w' ⟨rfl, rfl⟩
    gi_wp2_with fail
    refine ⟨trivial, nodepth, ?_⟩
    refine (callsIn_wide.2 (num01 _ _)).mono ?_
    rintro e w' ⟨rfl, rfl⟩
    gi_wp2_with fail
    refine ⟨trivial, nodepth, ?_⟩
    refine (callsIn_wide.2 (num01 _ _)).mono ?_
    rintro e w' ⟨rfl, rfl⟩
    gi_wp2_with fail
    refine ⟨trivial, nodepth, ?_⟩
    refine (callsIn_wide.2 (num01 _ _)).mono ?_
    rintro e w' ⟨rfl, rfl⟩
    gi_wp2_with fail
    refine ⟨trivial, nodepth, ?_⟩
    refine (callsIn_wide.2 (num01 _ _)).mono ?_
    rintro e w' ⟨rfl, rfl⟩
    gi_wp2_with fail
    refine ⟨trivial, nodepth, ?_⟩
    refine (callsIn_wide.2 (num01 _ _)).mono ?_
    rintro e w' ⟨rfl, rfl⟩
    gi_wp2_with fail
    refine ⟨trivial, nodepth, ?_⟩
    refine (callsIn_wide.2 (num01 _ _)).mono ?_
    rintro e w' ⟨rfl, rfl⟩
    gi_wp2_with fail
    refine ⟨trivial, nodepth, ?_⟩
    refine (callsIn_wide.2 (Len_none _ _ HN9.out)).mono ?_
    rintro e w' ⟨rfl, rfl⟩
    gi_wp2_with fail
    refine ⟨trivial, nodepth, ?_⟩
    refine (callsIn_wide.2 (Most_none _ _ HN9.out)).mono ?_
    rintro e w' ⟨rfl, rfl⟩
    gi_wp2_with fail
    refine ⟨trivial, nodepth, ?_⟩
    refine (callsIn_wide.2 (Count_none _ _ HN9.out)).mono ?_
    rintro e w' ⟨rfl, rfl⟩
    gi_wp2_with fail
    refine ⟨trivial, nodepth, ?_⟩
    refine (callsIn_wide.2 (Copy_none _ _ HN9.out)).mono ?_
    rintro e w' ⟨rfl, rfl⟩
    gi_wp2_with fail
    refine ⟨trivial, nodepth, ?_⟩
    refine (callsIn_wide.2 (Same_none _ _ _ HN9.out (.inl rfl))).mono ?_
    rintro e w' ⟨rfl, rfl⟩
    gi_wp2_with fail
    refine ⟨trivial, nodepth, ?_⟩
    refine (callsIn_wide.2 (HW9.out.SameL _ HN9.out)).mono ?_
    rintro e w' ⟨rfl, rfl⟩
    gi_wp2_with fail
    refine ⟨trivial, nodepth, ?_⟩
    refine (callsIn_wide.2 (works01 _)).mono ?_
    rintro e wA ⟨rfl, hb⟩
    have HBA := Lib.hid hb
    have HRA := Lib.hid (HR9.out.touch (Touch.of_below hb []) (by simp))
    have HD1A : Hid (wA.heap[D1]? = some (.deferred (some []))) := (hb.block D1 (Array.getElem?_eq_some_iff.1 HD19.out).1).trans HD19.out
    have HD2A : Hid (wA.heap[D2]? = some (.deferred (some []))) := (hb.block D2 (Array.getElem?_eq_some_iff.1 HD29.out).1).trans HD29.out
    have c0 := HRA.out.cell 0
    have f0 := HRA.out.frozen 0
    simp at c0
    clear hb
    gi_wp2
    have hb2 := HRA.out.set 0 (.bool true)
    simp only [List.setIfInBounds_toArray, List.set_cons_zero] at hb2
    have hms : ∀ k ∈ [D2, D1], (wA.setCell ⟨w.heap.size, 0, none⟩ (.bool true)).heap[k]? = some (.deferred (some [])) := by
      intro k hk
      simp only [List.mem_cons, List.not_mem_nil, or_false] at hk
      rcases hk with rfl | rfl
      · exact (Below.heap_setCell _ _ _ _ (HRA.out.ne_deferred HD2A.out).symm).trans HD2A.out
      · exact (Below.heap_setCell _ _ _ _ (HRA.out.ne_deferred HD1A.out).symm).trans HD1A.out
    have hc := (hb2.shut _ hms).cell 0
    simp only [List.getElem?_toArray, List.getElem?_cons_zero] at hc
    refine leave_marks (v := .bool true) [D2, D1] _ hms (by simp [hD12.symm]) (by simp [results, Try.results8, go_sem, hc]) ⟨rfl, ?_⟩
    exact shutAll_below _ _ _ _ (by simp; omega) ((HW9.out.below.trans (HBA.out.mono (HW9.out.size hB))).setCell (p := ⟨w.heap.size, 0, none⟩) (Nat.le_refl _) _)
  | true =>
    refine callsIn_of_wp_marks Try.func8 rfl trivial ?_ rfl
    simp only [Try.ntmps8, List.size_toArray, List.length_cons, List.length_nil, Nat.reduceAdd, Nat.reduceSub, Array.replicate_succ, Array.replicate_zero, List.push_toArray, List.append_toArray, List.nil_append, List.cons_append]
    have HN0 : Hid (NoAr ((w.alloc (.cells #[.bool false] 4)).alloc (.cells #[.int .u64 0, .slice none 0 0, .int .i64 0, .slice none 0 0] 66)) (.pointer (some ⟨w.heap.size + 1, 0, none⟩))) := by have := noAr_zero1 (w.alloc (.cells #[.bool false] 4)); rw [World.size_alloc] at this; exact this
    have HR0 := Lib.hid (HR.out.alloc (.cells #[.int .u64 0, .slice none 0 0, .int .i64 0, .slice none 0 0] 66))
    have HB0 := Lib.hid (HB.out.alloc (by simp) (.cells #[.int .u64 0, .slice none 0 0, .int .i64 0, .slice none 0 0] 66))
    have hnil := log_not_nil
    gi_wp2_with fail
    refine ⟨trivial, nodepth, ?_⟩
    refine (callsIn_wide.2 (Alloc_none _ _ HN0.out _)).mono ?_
    rintro e w' ⟨rfl, rfl⟩
    gi_wp2_with fail
    refine ⟨trivial, nodepth, ?_⟩
    refine (callsIn_wide.2 (Load_none _ _ HN0.out _)).mono ?_
    rintro e w' ⟨rfl, rfl⟩
    gi_wp2_with fail
    refine ⟨trivial, nodepth, ?_⟩
    refine (callsIn_wide.2 (Store_none _ _ HN0.out _ _)).mono ?_
    rintro e w1 ⟨rfl, ht⟩
    have HT1 := Lib.hid ht
    clear ht
    have HN1 := Lib.hid (HN0.out.touch HT1.out (by simp))
    gi_wp2_with fail
    refine ⟨trivial, nodepth, ?_⟩
    refine (callsIn_wide.2 (Swap_none _ _ HN1.out _ _ _)).mono ?_
    rintro e w2 ⟨rfl, ht⟩
    have HT2 := Lib.hid ht
    clear ht
    have HN2 := Lib.hid (HN1.out.touch HT2.out (by simp))
    gi_wp2_with fail
    refine ⟨trivial, nodepth, ?_⟩
    refine (callsIn_wide.2 (Add_none _ _ HN2.out _ _)).mono ?_
    rintro e w3 ⟨rfl, ht⟩
    have HT3 := Lib.hid ht
    clear ht
    have HN3 := Lib.hid (HN2.out.touch HT3.out (by simp))
    gi_wp2_with fail
    refine ⟨trivial, nodepth, ?_⟩
    refine (callsIn_wide.2 (Log_none _ _ HN3.out)).mono ?_
    rintro e w' ⟨rfl, rfl⟩
    gi_wp2_with fail
    refine range_log_none rfl ?_
    intro w4 ht hK
    have HT4 := Lib.hid ht
    have HN4 := Lib.hid (HN3.out.touch ht (by simp))
    have HT04 : Hid (Touch [] ((w.alloc (.cells #[.bool false] 4)).alloc (.cells #[.int .u64 0, .slice none 0 0, .int .i64 0, .slice none 0 0] 66)) w4) := ((HT1.out.trans HT2.out (by simp)).trans HT3.out (by simp)).trans HT4.out (by simp)
    have HR4 := Lib.hid (HR0.out.touch HT04.out (by simp))
    have HB4 := Lib.hid (HB0.out.trans (HT04.out.below_of (by simp <;> omega) (by simp)))
    obtain ⟨D1, hD1⟩ : ∃ D1, w3.heap.size = D1 := ⟨_, rfl⟩
    have HD14 : Hid (w4.heap[D1]? = some (.deferred (some []))) := hD1 ▸ hK
    have hD1l : D1 < w4.heap.size := (Array.getElem?_eq_some_iff.1 HD14.out).1
    have hD1B : w.heap.size ≤ D1 := by have := HT1.out.size; have := HT2.out.size; have := HT3.out.size; simp at *; omega
    have hSl : ∀ k ∈ D1 :: [w.heap.size + 1], k < w4.heap.size := by
      have := HT04.out.size
      simp at *
      omega
    rw [hD1]
    have HSl := Lib.hid hSl
    clear ht hK hD1 hSl
    gi_wp2_with fail
    refine ⟨trivial, nodepth, ?_⟩
    refine (callsIn_wide.2 (Wk.New (S := D1 :: [w.heap.size + 1]) hB 9 (by omega) (by omega) HB4.out HSl.out)).mono ?_
    rintro e w5 ⟨rfl, hW, hK, hS, hz5⟩
    obtain ⟨g, hg⟩ : ∃ g, w4.heap.size = g := ⟨_, rfl⟩
    rw [hg] at hW ⊢
    have HW5 := Lib.hid hW
    have HR5 := Lib.hid (hK _ _ _ HR4.out other_bool)
    have HN5 := Lib.hid (HN4.out.same hS (by simp))
    have HD15 := Lib.hid ((hS D1 (by simp)).trans HD14.out)
    clear hW hK hS hg
    gi_wp2_with fail
    refine ⟨trivial, nodepth, ?_⟩
    refine (callsIn_wide.2 (HW5.out.Alloc hB 1 ⟨[0], 9, []⟩ 0 0 rfl)).mono ?_
    rintro e w6 ⟨rfl, hW, hK, hS, hz6⟩
    have HW6 := Lib.hid hW
    have HR6 := Lib.hid (hK _ _ _ HR5.out other_bool)
    have HN6 := Lib.hid (HN5.out.same hS (by simp))
    have HD16 := Lib.hid ((hS D1 (by simp)).trans HD15.out)
    clear hW hK hS
    gi_wp2_with fail
    refine ⟨trivial, nodepth, ?_⟩
    refine (callsIn_wide.2 (Log_wk hB HW6.out (by simp))).mono ?_
    rintro e w7 ⟨bl, bf, gg, rfl, hL, hW, ht, hge⟩
    have HW7 := Lib.hid hW
    have HL7 := Lib.hid hL
    have HR7 := Lib.hid (HR6.out.touch ht (by simp))
    have HN7 := Lib.hid (HN6.out.touch ht (by simp))
    have HD17 := Lib.hid ((ht.block D1 (HW6.out.lt D1 (by simp)) (by simp)).trans HD16.out)
    clear hL hW ht hge
    gi_wp2_with fail
    refine ⟨trivial, nodepth, ?_⟩
    refine (callsIn_wide.2 (HW7.out.Store hB (by simp) 0 x hx ⟨[x], 9, [⟨2, 0, 0, x, true⟩]⟩ 0 rfl rfl)).mono ?_
    rintro e w8 ⟨rfl, hW, hK, hS, hz8⟩
    have HW8 := Lib.hid hW
    have HR8 := Lib.hid (hK _ _ _ HR7.out other_bool)
    have HN8 := Lib.hid (HN7.out.same hS (by simp))
    have HD18 := Lib.hid ((hS D1 (by simp)).trans HD17.out)
    have HL8 := Lib.hid (HL7.out.keep (hS.sub (by simp)))
    clear hW hK hS
    gi_wp2_with fail
    refine range_log_empty rfl HL8.out ?_
    intro w9 ht hK
    have HW9 := Lib.hid (HW8.out.touch hB ht (by simp) (by simp))
    have HR9 := Lib.hid (HR8.out.touch ht (by simp))
    have HN9 := Lib.hid (HN8.out.touch ht (by simp))
    have HD19 := Lib.hid ((ht.block D1 (HW8.out.lt D1 (by simp)) (by simp)).trans HD18.out)
    obtain ⟨D2, hD2⟩ : ∃ D2, w8.heap.size = D2 := ⟨_, rfl⟩
    have HD29 : Hid (w9.heap[D2]? = some (.deferred (some []))) := hD2 ▸ hK
    have hD12 : D1 ≠ D2 := by have := HW8.out.lt D1 (by simp); omega
    have hD2B : w.heap.size ≤ D2 := by have := HW8.out.size hB; omega
    rw [hD2]
    clear ht hK hD2
    gi_wp2_with fail
    refine ⟨trivial, nodepth, ?_⟩
    refine (callsIn_wide.2 (num01 _ _)).mono ?_
    rintro e w' ⟨rfl, rfl⟩
    gi_wp2_with fail
    refine ⟨trivial, nodepth, ?_⟩
    refine (callsIn_wide.2 (num01 _ _)).mono ?_
    rintro e w' ⟨rfl, rfl⟩
    gi_wp2_with fail
    refine ⟨trivial, nodepth, ?_⟩
    refine (callsIn_wide.2 (num01 _ _)).mono ?_
    rintro e w' ⟨rfl, rfl⟩
    gi_wp2_with fail
    refine ⟨trivial, nodepth, ?_⟩
    refine (callsIn_wide.2 (num01 _ _)).mono ?_
    rintro e w' ⟨rfl, rfl⟩
    gi_wp2_with fail
    refine ⟨trivial, nodepth, ?_⟩
    refine (callsIn_wide.2 (num01 _ _)).mono ?_
    rintro e w' ⟨rfl, rfl⟩
    gi_wp2_with fail
    refine ⟨trivial, nodepth, ?_⟩
    refine (callsIn_wide.2 (num01 _ _)).mono ?_
    rintro e w' ⟨rfl, rfl⟩
    gi_wp2_with fail
    refine ⟨trivial, nodepth, ?_⟩
    refine (callsIn_wide.2 (num01 _ _)).mono ?_
    rintro e w' ⟨rfl, rfl⟩
    gi_wp2_with fail
    refine ⟨trivial, nodepth, ?_⟩
    refine (callsIn_wide.2 (Len_none _ _ HN9.out)).mono ?_
    rintro e w' ⟨rfl, rfl⟩
    gi_wp2_with fail
    refine ⟨trivial, nodepth, ?_⟩
    refine (callsIn_wide.2 (Most_none _ _ HN9.out)).mono ?_
    rintro e w' ⟨rfl, rfl⟩
    gi_wp2_with fail
    refine ⟨trivial, nodepth, ?_⟩
    refine (callsIn_wide.2 (Count_none _ _ HN9.out)).mono ?_
    rintro e w' ⟨rfl, rfl⟩
    gi_wp2_with fail
    refine ⟨trivial, nodepth, ?_⟩
    refine (callsIn_wide.2 (Copy_none _ _ HN9.out)).mono ?_
    rintro e w' ⟨rfl, rfl⟩
    gi_wp2_with fail
    refine ⟨trivial, nodepth, ?_⟩
    refine (callsIn_wide.2 (Same_none _ _ _ HN9.out (.inl rfl))).mono ?_
    rintro e w' ⟨rfl, rfl⟩
    gi_wp2_with fail
    refine ⟨trivial, nodepth, ?_⟩
    refine (callsIn_wide.2 (HW9.out.SameL _ HN9.out)).mono ?_
    rintro e w' ⟨rfl, rfl⟩
    gi_wp2_with fail
    refine ⟨trivial, nodepth, ?_⟩
    refine (callsIn_wide.2 (works01 _)).mono ?_
    rintro e wA ⟨rfl, hb⟩
    have HBA := Lib.hid hb
    have HRA := Lib.hid (HR9.out.touch (Touch.of_below hb []) (by simp))
    have HD1A : Hid (wA.heap[D1]? = some (.deferred (some []))) := (hb.block D1 (Array.getElem?_eq_some_iff.1 HD19.out).1).trans HD19.out
    have HD2A : Hid (wA.heap[D2]? = some (.deferred (some []))) := (hb.block D2 (Array.getElem?_eq_some_iff.1 HD29.out).1).trans HD29.out
    have c0 := HRA.out.cell 0
    have f0 := HRA.out.frozen 0
    simp at c0
    clear hb
    gi_wp2
    have hb2 := HRA.out.set 0 (.bool true)
    simp only [List.setIfInBounds_toArray, List.set_cons_zero] at hb2
    have hms : ∀ k ∈ [D2, D1], (wA.setCell ⟨w.heap.size, 0, none⟩ (.bool true)).heap[k]? = some (.deferred (some [])) := by
      intro k hk
      simp only [List.mem_cons, List.not_mem_nil, or_false] at hk
      rcases hk with rfl | rfl
      · exact (Below.heap_setCell _ _ _ _ (HRA.out.ne_deferred HD2A.out).symm).trans HD2A.out
      · exact (Below.heap_setCell _ _ _ _ (HRA.out.ne_deferred HD1A.out).symm).trans HD1A.out
    have hc := (hb2.shut _ hms).cell 0
    simp only [List.getElem?_toArray, List.getElem?_cons_zero] at hc
    refine leave_marks (v := .bool true) [D2, D1] _ hms (by simp [hD12.symm]) (by simp [results, Try.results8, go_sem, hc]) ⟨rfl, ?_⟩
    exact shutAll_below _ _ _ _ (by simp; omega) ((HW9.out.below.trans (HBA.out.mono (HW9.out.size hB))).setCell (p := ⟨w.heap.size, 0, none⟩) (Nat.le_refl _) _)
theorem cellNone_any (at_ : Int) (x y : Nat) (hx : Wd x) (zero : Bool) (w : World) : Calls Try.prog 8 #[.int .i64 at_, .int .u64 (x : Int), .int .u64 (y : Int), .bool zero] w fun e w' => e = .returned (.bool true) ∧ Below w.heap.size w w' := (callsIn_wide (n := 0)).1 (cellNone_in 0 at_ x y hx zero w)
end Go.Proofs.Ytegebecogbebaaa
