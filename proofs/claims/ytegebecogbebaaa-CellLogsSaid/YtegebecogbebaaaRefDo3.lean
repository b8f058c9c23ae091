/-
  The reference of law 01: Do: an addition; all four.
-/
import Derived.Test.YtegebecogbebaaaRefDo2
namespace Go.Proofs.Ytegebecogbebaaa
open Go.RowKit Go.Shelf
set_option maxRecDepth 100000
set_option linter.unusedVariables false
set_option linter.unusedSimpArgs false


set_option maxHeartbeats 4000000 in
theorem refDo_add (w : World) (vc vl : Value) (s : Ar) (q : Nat) (was : Nat) (n now : Nat) (y : Int) (hnow : IntKind.u64.wrap ((was : Int) + (n : Int)) = (now : Int)) (h : RefAt w vc vl s) (hq : q < s.C.length) (HWAS : Hid (s.C[q] = was)) (hL : s.L.length ≤ 1048576) :
    Calls Try.prog 61 #[refV vc s.most vl, .int .i64 4, .int .i64 (q : Int), .int .u64 (n : Int), .int .u64 y] w (RefDid w vc vl s (s.acc 4 q now true, ⟨4, q, was, now, true⟩, 0)) := by
  obtain ⟨i0, hi, iz0, iz1, iz2⟩ := info_parts info_uint64
  obtain ⟨j0, hj, jz0, jz1, jz2⟩ := info_parts info_access
  obtain ⟨ca, cp, cur, rfl, hcur, hc1, hc2, hc3, hc4⟩ := own_form h.cel (by omega)
  obtain ⟨la, lp, rfl, hl1, hl2⟩ := own_val h.log
  have HA := Lib.hid h
  have hcl := h.clen
  have hcal : ca < w.heap.size := hcur.lt
  clear h hcur hc1 hc2 hc3 hc4 hl1 hl2
  unfold refV
  go_enter Try.func61, Try.ntmps61
  have hlt1 : ¬ (q : Int) < 0 := by omega
  have hlt2 : ¬ (s.C.length : Int) ≤ (q : Int) := by omega
  go_upto_region 3 with fail
  obtain ⟨W, hW⟩ : ∃ W, ((w.alloc (.cells #[.slice (some ⟨ca, 0, none⟩) s.C.length cp, .int .i64 (s.most : Int), .slice la s.L.length lp] 59)).alloc (.cells #[.slice none 0 0, .int .i64 0, .slice none 0 0] 59)).alloc (.cells #[.int .i64 0, .int .i64 0, .int .u64 0, .int .u64 0, .bool false] 54) = W := ⟨_, rfl⟩
  rw [hW]
  have HTW : Hid (Touch [] w W) := hW ▸ (((Touch.refl [] w).alloc _).alloc _).alloc _
  have HLW := Lib.hid ((((Led.nil' w).alloc 59 #[.slice (some ⟨ca, 0, none⟩) s.C.length cp, .int .i64 (s.most : Int), .slice la s.L.length lp]).alloc 59 #[.slice none 0 0, .int .i64 0, .slice none 0 0]).alloc 54 #[.int .i64 0, .int .i64 0, .int .u64 0, .int .u64 0, .bool false])
  rw [hW] at HLW
  simp only [List.nil_append, List.cons_append, World.size_alloc] at HLW
  have HRW := Lib.hid (HA.out.touch HTW.out)
  have cW : W.cell? ⟨ca, q, none⟩ = some (.int .u64 (was : Int)) := by
    rw [own_cell HRW.out.cel q (by rw [words_length]; exact hq)]
    simp [words, HWAS.out]
  obtain ⟨b0, _, _, _, _, _, hl5⟩ := HLW.out.c3 0 rfl
  have HE := Lib.hid (own_empty W 39 1)
  have HTE := Lib.hid ((Touch.refl [] W).alloc (.cells #[] 39))
  clear hW
  go_upto_region 17 with (at_builtin; go_must (refine wpList_append_src _ rfl (.tmp 51) (.tmp 53) 38 rfl 39 i0 (.int .u64 0) 1 8 Try.underlying38 hi iz0 iz1 iz2 rfl (by decide) (.slice (some ⟨W.heap.size, 0, none⟩) 0 0) 0 [] rfl HE.out (.slice (some ⟨ca, 0, none⟩) s.C.length cp) s.C.length (words s.C) rfl (own_touch HRW.out.cel HTE.out (by simp)) (words_one _) (by simp only [maxLen]; omega) (by omega) ?_); intro a1 c1 w1 hown hgrow hat; refine Hid.out ?_)
  rw [Nat.zero_add, List.nil_append] at hown
  rw [Nat.zero_add] at hat
  obtain ⟨g1, c1', cur1, hv1, hcur1, _, _, _, _⟩ := own_form hown (by omega)
  injection hv1 with e1 e2 e3
  subst e1 e3
  have HL1 := Lib.hid ((HLW.out.new (t' := row 39 1 (.slice (some ⟨W.heap.size, 0, none⟩) 0 0) 0 []) ⟨rfl, HE.out⟩ ⟨(Touch.refl [] W).alloc _, fun k hk => .inr (by simp [sb, Value.ownBlock] at hk; omega)⟩).grown 3 rfl hgrow hown hat)
  simp only [List.nil_append, List.cons_append, List.set_cons_succ, List.set_cons_zero] at HL1
  have hwd := HLW.out.size
  have o1 : w1.cell? ⟨g1, q, none⟩ = some (.int .u64 (was : Int)) := by
    rw [own_cell hown q (by rw [words_length]; exact hq)]
    simp [words, HWAS.out]
  have o2 := own_frozen hown q
  obtain ⟨b0, _, _, _, _, _, hl5⟩ := HL1.out.c3 0 rfl
  clear hown hgrow hat hcur1 e2 HLW HE HTE cW HTW HRW
  refine Lib.hid ?_
  go_upto_region 17 with fail
  obtain ⟨V, hV⟩ : ∃ V, (w1.setCell ⟨g1, q, none⟩ (.int .u64 (now : Int))).alloc (.cells #[.int .i64 4, .int .i64 (q : Int), .int .u64 (was : Int), .int .u64 (now : Int), .bool true] 54) = V := ⟨_, rfl⟩
  have HLV := Lib.hid ((HL1.out.rowset 3 rfl q (.int .u64 (now : Int))).alloc 54 #[.int .i64 4, .int .i64 (q : Int), .int .u64 (was : Int), .int .u64 (now : Int), .bool true])
  rw [hV, ← words_set] at HLV
  simp only [List.nil_append, List.cons_append, List.set_cons_succ, List.set_cons_zero, World.size_setCell] at HLV
  obtain ⟨b17, hb17⟩ : ∃ b17, w1.heap.size = b17 := ⟨_, rfl⟩
  rw [hV, hb17]
  rw [hb17] at HLV
  clear hV hb17 o1 o2 HL1 b0 hl5
  obtain ⟨v0, v1, v2, _, _, _, hl5⟩ := HLV.out.c3 0 rfl
  obtain ⟨x0, x1, x2, x3, x4, _, _, _, _, _, hl17⟩ := HLV.out.c5 4 rfl
  obtain ⟨_, _, _, _, _, _, hl10⟩ := HLV.out.c3 1 rfl
  obtain ⟨_, _, _, _, _, _, _, _, _, _, hl11⟩ := HLV.out.c5 2 rfl
  have n1 := HLV.out.ne 4 1 rfl rfl (by decide)
  have n2 := HLV.out.ne 4 2 rfl rfl (by decide)
  have n3 := Ne.symm n1
  have n4 := Ne.symm n2
  have n5 : w.heap.size ≠ w.heap.size + 1 + 1 := by omega
  have n6 : w.heap.size + 1 + 1 ≠ w.heap.size := by omega
  have HRV : Hid (V.ownsRow 0 54 5 (.slice la s.L.length lp) s.L.length (accCells s.L)) := own_keep HA.out.log (fun k hk => HLV.out.below.block k (own_lt HA.out.log k hk))
  -- the three orders in which the makers of memory come up
  have HLa := Lib.hid ((HLV.out.empty 54 5).drew)
  have HLb := Lib.hid (((HLV.out.empty 54 5).alloc 54 #[.int .i64 4, .int .i64 (q : Int), .int .u64 (was : Int), .int .u64 (now : Int), .bool true]).drew)
  have HLc := Lib.hid ((((HLV.out.alloc 54 #[.int .i64 4, .int .i64 (q : Int), .int .u64 (was : Int), .int .u64 (now : Int), .bool true]).empty 54 5).drew).pick [0, 1, 2, 3, 4, 6, 5] (by decide) (by simp))
  simp only [List.nil_append, List.cons_append, World.size_alloc, List.filterMap_cons, List.filterMap_nil, List.getElem?_cons_zero, List.getElem?_cons_succ] at HLa HLb HLc
  have HRa := Lib.hid (own_drew (HRV.out.alloc (.cells #[] 54)))
  have HRb := Lib.hid (own_drew ((HRV.out.alloc (.cells #[] 54)).alloc (.cells #[.int .i64 4, .int .i64 (q : Int), .int .u64 (was : Int), .int .u64 (now : Int), .bool true] 54)))
  have HRc := Lib.hid (own_drew ((HRV.out.alloc (.cells #[.int .i64 4, .int .i64 (q : Int), .int .u64 (was : Int), .int .u64 (now : Int), .bool true] 54)).alloc (.cells #[] 54)))
  go_region_held3 (fun w' => w'.cell? ⟨w.heap.size, 1, none⟩ = some (.int .i64 (s.most : Int)) ∧ w'.cell? ⟨w.heap.size, 2, none⟩ = some (.slice la s.L.length lp) ∧ w'.cell? ⟨b17, 0, none⟩ = some (.int .i64 4) ∧ w'.cell? ⟨b17, 1, none⟩ = some (.int .i64 (q : Int)) ∧ w'.cell? ⟨b17, 2, none⟩ = some (.int .u64 (was : Int)) ∧ w'.cell? ⟨b17, 3, none⟩ = some (.int .u64 (now : Int)) ∧ w'.cell? ⟨b17, 4, none⟩ = some (.bool true)) (go_keep) (first
    | (refine step_append_src _ (by rfl) (.tmp 68) (.tmp 70) 57 (by rfl) 54 j0 _ 5 40 Try.underlying57 hj jz0 jz1 jz2 rfl (by decide) (.slice (some ⟨V.heap.size, 0, none⟩) 0 0) 0 [] (by rfl) (HLa.out.row 5 rfl) (.slice la s.L.length lp) s.L.length (accCells s.L) (by rfl) HRa.out (accs_one _) (by simp only [maxLen]; omega) (by omega) ?_; intro a2 c2 w2 hown hgrow hat; simp only [Nat.zero_add, List.nil_append] at hown hat ⊢; have HL2 := Lib.hid (HLa.out.grown 5 rfl hgrow hown hat); simp only [List.set_cons_succ, List.set_cons_zero] at HL2; obtain ⟨v0, v1, v2, _, _, _, hl5⟩ := HL2.out.c3 0 rfl; obtain ⟨x0, x1, x2, x3, x4, _, _, _, _, _, hl17⟩ := HL2.out.c5 4 rfl; obtain ⟨p10, _, _, q10, _, _, hl10⟩ := HL2.out.c3 1 rfl; obtain ⟨p11, _, _, _, _, q11, _, _, _, _, hl11⟩ := HL2.out.c5 2 rfl; clear hown hgrow hat)
    | (refine step_append_src _ (by rfl) (.tmp 68) (.tmp 70) 57 (by rfl) 54 j0 _ 5 40 Try.underlying57 hj jz0 jz1 jz2 rfl (by decide) (.slice (some ⟨V.heap.size, 0, none⟩) 0 0) 0 [] (by rfl) (HLb.out.row 5 rfl) (.slice la s.L.length lp) s.L.length (accCells s.L) (by rfl) HRb.out (accs_one _) (by simp only [maxLen]; omega) (by omega) ?_; intro a2 c2 w2 hown hgrow hat; simp only [Nat.zero_add, List.nil_append] at hown hat ⊢; have HL2 := Lib.hid (HLb.out.grown 5 rfl hgrow hown hat); simp only [List.set_cons_succ, List.set_cons_zero] at HL2; obtain ⟨v0, v1, v2, _, _, _, hl5⟩ := HL2.out.c3 0 rfl; obtain ⟨x0, x1, x2, x3, x4, _, _, _, _, _, hl17⟩ := HL2.out.c5 4 rfl; obtain ⟨p10, _, _, q10, _, _, hl10⟩ := HL2.out.c3 1 rfl; obtain ⟨p11, _, _, _, _, q11, _, _, _, _, hl11⟩ := HL2.out.c5 2 rfl; clear hown hgrow hat)
    | (refine step_append_src _ (by rfl) (.tmp 68) (.tmp 70) 57 (by rfl) 54 j0 _ 5 40 Try.underlying57 hj jz0 jz1 jz2 rfl (by decide) (.slice (some ⟨V.heap.size + 1, 0, none⟩) 0 0) 0 [] (by rfl) (HLc.out.row 5 rfl) (.slice la s.L.length lp) s.L.length (accCells s.L) (by rfl) HRc.out (accs_one _) (by simp only [maxLen]; omega) (by omega) ?_; intro a2 c2 w2 hown hgrow hat; simp only [Nat.zero_add, List.nil_append] at hown hat ⊢; have HL2 := Lib.hid (HLc.out.grown 5 rfl hgrow hown hat); simp only [List.set_cons_succ, List.set_cons_zero] at HL2; obtain ⟨v0, v1, v2, _, _, _, hl5⟩ := HL2.out.c3 0 rfl; obtain ⟨x0, x1, x2, x3, x4, _, _, _, _, _, hl17⟩ := HL2.out.c5 4 rfl; obtain ⟨p10, _, _, q10, _, _, hl10⟩ := HL2.out.c3 1 rfl; obtain ⟨p11, _, _, _, _, q11, _, _, _, _, hl11⟩ := HL2.out.c5 2 rfl; clear hown hgrow hat)
    | (refine step_append_src _ (by rfl) (.tmp 71) (.tmp 73) 57 (by rfl) 54 j0 _ 5 40 Try.underlying57 hj jz0 jz1 jz2 rfl (by decide) (.slice a2 s.L.length c2) s.L.length (accCells s.L) (by rfl) ((HL2.out.alloc _ _).row 5 rfl) (.slice (some ⟨w2.heap.size, 0, none⟩) 1 1) 1 (Acc.cells ⟨4, q, was, now, true⟩) (by rfl) (own_box1 ((HL2.out.alloc _ _).box 6 rfl)) (acc_one _) (by simp only [maxLen]; omega) (by omega) ?_; intro a3 c3 w3 hown hgrow hat; have HL3 := Lib.hid ((HL2.out.alloc _ _).grown 5 rfl hgrow hown hat); simp only [List.set_cons_succ, List.set_cons_zero, List.cons_append, List.nil_append] at HL3; obtain ⟨v0, v1, v2, _, _, _, hl5⟩ := HL3.out.c3 0 rfl; obtain ⟨x0, x1, x2, x3, x4, _, _, _, _, _, hl17⟩ := HL3.out.c5 4 rfl; obtain ⟨p10, p101, p102, q10, q101, q102, hl10⟩ := HL3.out.c3 1 rfl; obtain ⟨p11, p111, p112, p113, p114, q11, q111, q112, q113, q114, hl11⟩ := HL3.out.c5 2 rfl; clear hown hgrow hat)
    | (refine step_append_src _ (by rfl) (.tmp 71) (.tmp 73) 57 (by rfl) 54 j0 _ 5 40 Try.underlying57 hj jz0 jz1 jz2 rfl (by decide) (.slice a2 s.L.length c2) s.L.length (accCells s.L) (by rfl) (HL2.out.row 5 rfl) (.slice (some ⟨_, 0, none⟩) 1 1) 1 (Acc.cells ⟨4, q, was, now, true⟩) (by rfl) (own_box1 (HL2.out.box 6 rfl)) (acc_one _) (by simp only [maxLen]; omega) (by omega) ?_; intro a3 c3 w3 hown hgrow hat; have HL3 := Lib.hid (HL2.out.grown 5 rfl hgrow hown hat); simp only [List.set_cons_succ, List.set_cons_zero, List.cons_append, List.nil_append] at HL3; obtain ⟨v0, v1, v2, _, _, _, hl5⟩ := HL3.out.c3 0 rfl; obtain ⟨x0, x1, x2, x3, x4, _, _, _, _, _, hl17⟩ := HL3.out.c5 4 rfl; obtain ⟨p10, p101, p102, q10, q101, q102, hl10⟩ := HL3.out.c3 1 rfl; obtain ⟨p11, p111, p112, p113, p114, q11, q111, q112, q113, q114, hl11⟩ := HL3.out.c5 2 rfl; clear hown hgrow hat))
  all_goals go_wp2
  all_goals have HLF := Lib.hid ((((((((HL3.out.set 1 rfl 0 (.slice (some ⟨g1, 0, none⟩) s.C.length c1)).set 1 rfl 1 (.int .i64 (s.most : Int))).set 1 rfl 2 (.slice a3 (s.L.length + 1) c3)).set 2 rfl 0 (.int .i64 4)).set 2 rfl 1 (.int .i64 (q : Int))).set 2 rfl 2 (.int .u64 (was : Int))).set 2 rfl 3 (.int .u64 (now : Int))).set 2 rfl 4 (.bool true))
  all_goals simp only [List.set_cons_succ, List.set_cons_zero, List.setIfInBounds_toArray] at HLF
  all_goals obtain ⟨y0, y1, y2, _, _, _, _⟩ := HLF.out.c3 1 rfl
  all_goals obtain ⟨z0, z1, z2, z3, z4, _, _, _, _, _, _⟩ := HLF.out.c5 2 rfl
  all_goals refine bodyPost_ret (v := .tuple #[.agg #[.slice (some ⟨g1, 0, none⟩) s.C.length c1, .int .i64 (s.most : Int), .slice a3 (s.L.length + 1) c3], .agg #[.int .i64 4, .int .i64 (q : Int), .int .u64 (was : Int), .int .u64 (now : Int), .bool true], .int .i64 0]) (by simp [results, Try.results61, go_sem, y0, y1, y2, z0, z1, z2, z3, z4]) rfl ?_
  all_goals exact refDo_close (x := ⟨4, q, was, now, true⟩) HA.out HLF.out rfl rfl HWAS.out hq

theorem doBy_in (s : Ar) (op q : Nat) (chg : Nat → Nat × Bool) (hq : q < s.C.length) (now : Nat) (did : Bool) (h1 : (if (chg s.C[q]).2 then (chg s.C[q]).1 else s.C[q]) = now) (h2 : (chg s.C[q]).2 = did) :
    s.doBy op (q : Int) chg = (s.acc op q now did, ⟨op, q, s.C[q], now, did⟩, 0) := by
  have hg : s.C.getD q 0 = s.C[q] := by simp [List.getD, hq]
  simp only [Ar.doBy]
  rw [if_pos ⟨by omega, by omega⟩]
  simp only [Int.toNat_natCast, hg, h1]
  rw [h2]
section
variable (w : World) (vc vl : Value) (s : Ar) (at_ : Int) (h : RefAt w vc vl s) (hL : s.L.length ≤ 1048576)
include h hL
theorem refLoad (x y : Int) : Calls Try.prog 61 #[refV vc s.most vl, .int .i64 1, .int .i64 at_, .int .u64 x, .int .u64 y] w (RefDid w vc vl s (s.load at_)) := by
  by_cases hin : 0 ≤ at_ ∧ at_ < (s.C.length : Int)
  · obtain ⟨q, rfl⟩ := Int.eq_ofNat_of_zero_le hin.1
    have hq : q < s.C.length := by omega
    rw [Ar.load, doBy_in s 1 q chgLoad hq s.C[q] true (by simp [chgLoad]) rfl]
    exact refDo_load w vc vl s q s.C[q] x y h hq rfl hL
  · exact refDo_out w vc vl s 1 at_ x y h hin _
theorem refStore (v : Nat) (y : Int) : Calls Try.prog 61 #[refV vc s.most vl, .int .i64 2, .int .i64 at_, .int .u64 (v : Int), .int .u64 y] w (RefDid w vc vl s (s.store at_ v)) := by
  by_cases hin : 0 ≤ at_ ∧ at_ < (s.C.length : Int)
  · obtain ⟨q, rfl⟩ := Int.eq_ofNat_of_zero_le hin.1
    have hq : q < s.C.length := by omega
    rw [Ar.store, doBy_in s 2 q (chgStore v) hq v true (by simp [chgStore]) rfl]
    exact refDo_store w vc vl s q s.C[q] v y h hq rfl hL
  · exact refDo_out w vc vl s 2 at_ v y h hin _
theorem refSwap (x y : Nat) : Calls Try.prog 61 #[refV vc s.most vl, .int .i64 3, .int .i64 at_, .int .u64 (x : Int), .int .u64 (y : Int)] w (RefDid w vc vl s (s.swap at_ x y)) := by
  by_cases hin : 0 ≤ at_ ∧ at_ < (s.C.length : Int)
  · obtain ⟨q, rfl⟩ := Int.eq_ofNat_of_zero_le hin.1
    have hq : q < s.C.length := by omega
    by_cases hx : s.C[q] = x
    · rw [Ar.swap, doBy_in s 3 q (chgSwap x y) hq y true (by simp [chgSwap, hx]) (by simp [chgSwap, hx])]
      have := refDo_swapY w vc vl s q s.C[q] y h hq rfl hL
      rwa [hx] at this ⊢
    · rw [Ar.swap, doBy_in s 3 q (chgSwap x y) hq s.C[q] false (by simp [chgSwap, hx]) (by simp [chgSwap, hx])]
      exact refDo_swapN w vc vl s q s.C[q] x y (by simp; omega) h hq rfl hL
  · exact refDo_out w vc vl s 3 at_ x y h hin _
theorem refAdd (n : Nat) (y : Int) : Calls Try.prog 61 #[refV vc s.most vl, .int .i64 4, .int .i64 at_, .int .u64 (n : Int), .int .u64 y] w (RefDid w vc vl s (s.add at_ n)) := by
  by_cases hin : 0 ≤ at_ ∧ at_ < (s.C.length : Int)
  · obtain ⟨q, rfl⟩ := Int.eq_ofNat_of_zero_le hin.1
    have hq : q < s.C.length := by omega
    rw [Ar.add, doBy_in s 4 q (chgAdd n) hq ((s.C[q] + n) % 18446744073709551616) true (by simp [chgAdd]) rfl]
    exact refDo_add w vc vl s q s.C[q] n ((s.C[q] + n) % 18446744073709551616) y (by rw [IntKind.wrap_u64]; omega) h hq rfl hL
  · exact refDo_out w vc vl s 4 at_ n y h hin _
end
end Go.Proofs.Ytegebecogbebaaa
