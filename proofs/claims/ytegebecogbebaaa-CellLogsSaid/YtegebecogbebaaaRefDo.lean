/-
  The reference of law 01: Do.
-/
import Derived.Test.YtegebecogbebaaaRef01
import Derived.Test.YtegebecogbebaaaLedAr
import Derived.Deep.Cut
import Derived.Deep.RegionHeld3
namespace Go.Proofs.Ytegebecogbebaaa
open Go.RowKit Go.Shelf
set_option maxRecDepth 100000
set_option linter.unusedVariables false
set_option linter.unusedSimpArgs false

/-- What an access of the reference tells and leaves. -/
def RefDid (w : World) (vc vl : Value) (s : Ar) (r : Ar × Acc × Nat) (e : Ending) (w' : World) : Prop :=
  ∃ vc' vl', e = .returned (.tuple #[refV vc' s.most vl', r.2.1.val, .int .i64 (r.2.2 : Int)]) ∧ RefAt w' vc' vl' r.1 ∧ Touch [] w w' ∧ ∀ b ∈ sb vc' ++ sb vl', b ∈ sb vc ++ sb vl ∨ w.heap.size ≤ b

set_option maxHeartbeats 1000000 in
theorem refDo_out (w : World) (vc vl : Value) (s : Ar) (op : Nat) (at_ : Int) (x y : Int) (h : RefAt w vc vl s) (hat : ¬ (0 ≤ at_ ∧ at_ < (s.C.length : Int))) (chg : Nat → Nat × Bool) :
    Calls Try.prog 61 #[refV vc s.most vl, .int .i64 (op : Int), .int .i64 at_, .int .u64 x, .int .u64 y] w (RefDid w vc vl s (s.doBy op at_ chg)) := by
  obtain ⟨aa, cp, rfl, hc1, hc2⟩ := own_val h.cel
  obtain ⟨la, lp, rfl, hl1, hl2⟩ := own_val h.log
  have HA := Lib.hid h
  have hcl := h.clen
  clear h
  have hv : s.doBy op at_ chg = (s, Acc.zero, 4) := by simp only [Ar.doBy]; rw [if_neg hat]
  rw [hv]
  unfold refV
  clear hv
  go_enter Try.func61, Try.ntmps61
  by_cases h1 : at_ < 0
  · go_wp2
    refine bodyPost_ret (v := .tuple #[.agg #[.slice aa s.C.length cp, .int .i64 (s.most : Int), .slice la s.L.length lp], Acc.zero.val, .int .i64 4]) (by simp [results, Try.results61, go_sem, Acc.val, Acc.zero]) rfl ?_
    exact ⟨_, _, rfl, HA.out.touch ((((Touch.refl [] w).alloc _).alloc _).alloc _), (((Touch.refl [] w).alloc _).alloc _).alloc _, fun b hb => .inl hb⟩
  · have h2 : (s.C.length : Int) ≤ at_ := by omega
    go_wp2
    refine bodyPost_ret (v := .tuple #[.agg #[.slice aa s.C.length cp, .int .i64 (s.most : Int), .slice la s.L.length lp], Acc.zero.val, .int .i64 4]) (by simp [results, Try.results61, go_sem, Acc.val, Acc.zero]) rfl ?_
    exact ⟨_, _, rfl, HA.out.touch ((((Touch.refl [] w).alloc _).alloc _).alloc _), (((Touch.refl [] w).alloc _).alloc _).alloc _, fun b hb => .inl hb⟩

theorem own_one (W : World) (x : Acc) : (W.alloc x.box).ownsRow 0 54 5 (.slice (some ⟨W.heap.size, 0, none⟩) 1 1) 1 x.cells :=
  ⟨by simp [Acc.cells], .inr ⟨W.heap.size, 1, x.cells.toArray, rfl, Nat.zero_le _, heap_alloc_new W _, Nat.le_refl _, by simp [maxLen], by simp [Acc.cells], by simp [Acc.cells]⟩⟩


theorem own_box1 {W : World} {g : Nat} {x : Acc} (h : Blk W g 54 x.cells.toArray) : W.ownsRow 0 54 5 (.slice (some ⟨g, 0, none⟩) 1 1) 1 x.cells :=
  ⟨by simp [Acc.cells], .inr ⟨g, 1, x.cells.toArray, rfl, Nat.zero_le _, h, Nat.le_refl _, by simp [maxLen], by simp [Acc.cells], by simp [Acc.cells]⟩⟩
theorem Led.empty {T : List Nat} {w0 w : World} {l : List Thing} (h : Led T w0 w l) (e : TypeId) (size : Nat) : Led T w0 (w.alloc (.cells #[] e)) (l ++ [Proofs.Ytegebecogbebaaa.row e size (.slice (some ⟨w.heap.size, 0, none⟩) 0 0) 0 []]) :=
  h.new (t' := Proofs.Ytegebecogbebaaa.row e size (.slice (some ⟨w.heap.size, 0, none⟩) 0 0) 0 []) ⟨rfl, own_empty w e size⟩ ⟨(Touch.refl [] w).alloc _, fun k hk => .inr (by simp [sb, Value.ownBlock] at hk; omega)⟩
theorem Led.rowge {w0 w : World} {l : List Thing} (h : Led [] w0 w l) (i : Nat) {e : TypeId} {size : Nat} {v : Value} {n : Nat} {xs : List Value} (hi : l[i]? = some (Proofs.Ytegebecogbebaaa.row e size v n xs)) : ∀ k ∈ sb v, w0.heap.size ≤ k := by
  obtain ⟨f, ⟨hf, _⟩, hg⟩ := h.get i hi
  subst hf
  exact fun k hk => (hg k hk).elim (fun h => by simp at h) id
theorem refDo_close {w WF : World} {vc vl cv lv : Value} {s : Ar} {l : List Thing} {x : Acc} (h : RefAt w vc vl s) (HL : Led [] w WF l) (h3 : l[3]? = some (row 39 1 cv s.C.length (words (s.C.set x.at_ x.new))))
    (h5 : l[5]? = some (row 54 5 lv (s.L.length + 1) (accCells s.L ++ x.cells))) {hq' : x.at_ < s.C.length} (hwas : s.C[x.at_] = x.old) (hq : x.at_ < s.C.length) :
    RefDid w vc vl s (s.acc x.op x.at_ x.new x.did, x, 0) (.returned (.tuple #[refV cv s.most lv, x.val, .int .i64 ((0 : Nat) : Int)])) WF := by
  have hg : s.C.getD x.at_ 0 = x.old := by simp [List.getD, hq, hwas]
  refine ⟨cv, lv, rfl, ⟨?_, ?_, ?_, h.most⟩, Touch.of_below HL.below [], ?_⟩
  · have := HL.row 3 h3
    simpa [Ar.acc] using this
  · have := HL.row 5 h5
    simp only [Ar.acc, hg, List.length_append, List.length_cons, List.length_nil, accCells_append]
    simpa [accCells] using this
  · simpa [Ar.acc] using h.clen
  · intro b hb
    rcases List.mem_append.1 hb with hb | hb
    · exact .inr (HL.rowge 3 h3 b hb)
    · exact .inr (HL.rowge 5 h5 b hb)

set_option maxHeartbeats 4000000 in
theorem refDo_load (w : World) (vc vl : Value) (s : Ar) (q : Nat) (was : Nat) (x y : Int) (h : RefAt w vc vl s) (hq : q < s.C.length) (HWAS : Hid (s.C[q] = was)) (hL : s.L.length ≤ 1048576) :
    Calls Try.prog 61 #[refV vc s.most vl, .int .i64 1, .int .i64 (q : Int), .int .u64 x, .int .u64 y] w (RefDid w vc vl s (s.acc 1 q was true, ⟨1, q, was, was, true⟩, 0)) := by
  obtain ⟨i0, hi, iz0, iz1, iz2⟩ := info_parts info_uint64
  obtain ⟨j0, hj, jz0, jz1, jz2⟩ := info_parts info_access
  obtain ⟨ca, cp, cur, rfl, hcur, hc1, hc2, hc3, hc4⟩ := own_form h.cel (by omega)
  obtain ⟨la, lp, rfl, hl1, hl2⟩ := own_val h.log
  have HA := Lib.hid h
  have hcl := h.clen
  have hcal : ca < w.heap.size := hcur.lt
  clear h hcur hc1 hc2 hc3 hc4 hl1 hl2
  unfold refV
  go_enter Try.func61, Try.ntmps61
  have hlt1 : ¬ (q : Int) < 0 := by omega
  have hlt2 : ¬ (s.C.length : Int) ≤ (q : Int) := by omega
  go_upto_region 3 with fail
  obtain ⟨W, hW⟩ : ∃ W, ((w.alloc (.cells #[.slice (some ⟨ca, 0, none⟩) s.C.length cp, .int .i64 (s.most : Int), .slice la s.L.length lp] 59)).alloc (.cells #[.slice none 0 0, .int .i64 0, .slice none 0 0] 59)).alloc (.cells #[.int .i64 0, .int .i64 0, .int .u64 0, .int .u64 0, .bool false] 54) = W := ⟨_, rfl⟩
  rw [hW]
  have HTW : Hid (Touch [] w W) := hW ▸ (((Touch.refl [] w).alloc _).alloc _).alloc _
  have HLW := Lib.hid ((((Led.nil' w).alloc 59 #[.slice (some ⟨ca, 0, none⟩) s.C.length cp, .int .i64 (s.most : Int), .slice la s.L.length lp]).alloc 59 #[.slice none 0 0, .int .i64 0, .slice none 0 0]).alloc 54 #[.int .i64 0, .int .i64 0, .int .u64 0, .int .u64 0, .bool false])
  rw [hW] at HLW
  simp only [List.nil_append, List.cons_append, World.size_alloc] at HLW
  have HRW := Lib.hid (HA.out.touch HTW.out)
  have cW : W.cell? ⟨ca, q, none⟩ = some (.int .u64 (was : Int)) := by
    rw [own_cell HRW.out.cel q (by rw [words_length]; exact hq)]
    simp [words, HWAS.out]
  obtain ⟨b0, _, _, _, _, _, hl5⟩ := HLW.out.c3 0 rfl
  have HE := Lib.hid (own_empty W 39 1)
  have HTE := Lib.hid ((Touch.refl [] W).alloc (.cells #[] 39))
  clear hW
  go_upto_region 17 with (at_builtin; go_must (refine wpList_append_src _ rfl (.tmp 51) (.tmp 53) 38 rfl 39 i0 (.int .u64 0) 1 8 Try.underlying38 hi iz0 iz1 iz2 rfl (by decide) (.slice (some ⟨W.heap.size, 0, none⟩) 0 0) 0 [] rfl HE.out (.slice (some ⟨ca, 0, none⟩) s.C.length cp) s.C.length (words s.C) rfl (own_touch HRW.out.cel HTE.out (by simp)) (words_one _) (by simp only [maxLen]; omega) (by omega) ?_); intro a1 c1 w1 hown hgrow hat; refine Hid.out ?_)
  rw [Nat.zero_add, List.nil_append] at hown
  rw [Nat.zero_add] at hat
  obtain ⟨g1, c1', cur1, hv1, hcur1, _, _, _, _⟩ := own_form hown (by omega)
  injection hv1 with e1 e2 e3
  subst e1 e3
  have HL1 := Lib.hid ((HLW.out.new (t' := row 39 1 (.slice (some ⟨W.heap.size, 0, none⟩) 0 0) 0 []) ⟨rfl, HE.out⟩ ⟨(Touch.refl [] W).alloc _, fun k hk => .inr (by simp [sb, Value.ownBlock] at hk; omega)⟩).grown 3 rfl hgrow hown hat)
  simp only [List.nil_append, List.cons_append, List.set_cons_succ, List.set_cons_zero] at HL1
  have hwd := HLW.out.size
  have o1 : w1.cell? ⟨g1, q, none⟩ = some (.int .u64 (was : Int)) := by
    rw [own_cell hown q (by rw [words_length]; exact hq)]
    simp [words, HWAS.out]
  have o2 := own_frozen hown q
  obtain ⟨b0, _, _, _, _, _, hl5⟩ := HL1.out.c3 0 rfl
  clear hown hgrow hat hcur1 e2 HLW HE HTE cW HTW HRW
  refine Lib.hid ?_
  go_upto_region 17 with fail
  obtain ⟨V, hV⟩ : ∃ V, (w1.setCell ⟨g1, q, none⟩ (.int .u64 (was : Int))).alloc (.cells #[.int .i64 1, .int .i64 (q : Int), .int .u64 (was : Int), .int .u64 (was : Int), .bool true] 54) = V := ⟨_, rfl⟩
  have HLV := Lib.hid ((HL1.out.rowset 3 rfl q (.int .u64 (was : Int))).alloc 54 #[.int .i64 1, .int .i64 (q : Int), .int .u64 (was : Int), .int .u64 (was : Int), .bool true])
  rw [hV, ← words_set] at HLV
  simp only [List.nil_append, List.cons_append, List.set_cons_succ, List.set_cons_zero, World.size_setCell] at HLV
  obtain ⟨b17, hb17⟩ : ∃ b17, w1.heap.size = b17 := ⟨_, rfl⟩
  rw [hV, hb17]
  rw [hb17] at HLV
  clear hV hb17 o1 o2 HL1 b0 hl5
  obtain ⟨v0, v1, v2, _, _, _, hl5⟩ := HLV.out.c3 0 rfl
  obtain ⟨x0, x1, x2, x3, x4, _, _, _, _, _, hl17⟩ := HLV.out.c5 4 rfl
  obtain ⟨_, _, _, _, _, _, hl10⟩ := HLV.out.c3 1 rfl
  obtain ⟨_, _, _, _, _, _, _, _, _, _, hl11⟩ := HLV.out.c5 2 rfl
  have n1 := HLV.out.ne 4 1 rfl rfl (by decide)
  have n2 := HLV.out.ne 4 2 rfl rfl (by decide)
  have n3 := Ne.symm n1
  have n4 := Ne.symm n2
  have n5 : w.heap.size ≠ w.heap.size + 1 + 1 := by omega
  have n6 : w.heap.size + 1 + 1 ≠ w.heap.size := by omega
  have HRV : Hid (V.ownsRow 0 54 5 (.slice la s.L.length lp) s.L.length (accCells s.L)) := own_keep HA.out.log (fun k hk => HLV.out.below.block k (own_lt HA.out.log k hk))
  -- the three orders in which the makers of memory come up
  have HLa := Lib.hid ((HLV.out.empty 54 5).drew)
  have HLb := Lib.hid (((HLV.out.empty 54 5).alloc 54 #[.int .i64 1, .int .i64 (q : Int), .int .u64 (was : Int), .int .u64 (was : Int), .bool true]).drew)
  have HLc := Lib.hid ((((HLV.out.alloc 54 #[.int .i64 1, .int .i64 (q : Int), .int .u64 (was : Int), .int .u64 (was : Int), .bool true]).empty 54 5).drew).pick [0, 1, 2, 3, 4, 6, 5] (by decide) (by simp))
  simp only [List.nil_append, List.cons_append, World.size_alloc, List.filterMap_cons, List.filterMap_nil, List.getElem?_cons_zero, List.getElem?_cons_succ] at HLa HLb HLc
  have HRa := Lib.hid (own_drew (HRV.out.alloc (.cells #[] 54)))
  have HRb := Lib.hid (own_drew ((HRV.out.alloc (.cells #[] 54)).alloc (.cells #[.int .i64 1, .int .i64 (q : Int), .int .u64 (was : Int), .int .u64 (was : Int), .bool true] 54)))
  have HRc := Lib.hid (own_drew ((HRV.out.alloc (.cells #[.int .i64 1, .int .i64 (q : Int), .int .u64 (was : Int), .int .u64 (was : Int), .bool true] 54)).alloc (.cells #[] 54)))
  go_region_held3 (fun w' => w'.cell? ⟨w.heap.size, 1, none⟩ = some (.int .i64 (s.most : Int)) ∧ w'.cell? ⟨w.heap.size, 2, none⟩ = some (.slice la s.L.length lp) ∧ w'.cell? ⟨b17, 0, none⟩ = some (.int .i64 1) ∧ w'.cell? ⟨b17, 1, none⟩ = some (.int .i64 (q : Int)) ∧ w'.cell? ⟨b17, 2, none⟩ = some (.int .u64 (was : Int)) ∧ w'.cell? ⟨b17, 3, none⟩ = some (.int .u64 (was : Int)) ∧ w'.cell? ⟨b17, 4, none⟩ = some (.bool true)) (go_keep) (first
    | (refine step_append_src _ (by rfl) (.tmp 68) (.tmp 70) 57 (by rfl) 54 j0 _ 5 40 Try.underlying57 hj jz0 jz1 jz2 rfl (by decide) (.slice (some ⟨V.heap.size, 0, none⟩) 0 0) 0 [] (by rfl) (HLa.out.row 5 rfl) (.slice la s.L.length lp) s.L.length (accCells s.L) (by rfl) HRa.out (accs_one _) (by simp only [maxLen]; omega) (by omega) ?_; intro a2 c2 w2 hown hgrow hat; simp only [Nat.zero_add, List.nil_append] at hown hat ⊢; have HL2 := Lib.hid (HLa.out.grown 5 rfl hgrow hown hat); simp only [List.set_cons_succ, List.set_cons_zero] at HL2; obtain ⟨v0, v1, v2, _, _, _, hl5⟩ := HL2.out.c3 0 rfl; obtain ⟨x0, x1, x2, x3, x4, _, _, _, _, _, hl17⟩ := HL2.out.c5 4 rfl; obtain ⟨p10, _, _, q10, _, _, hl10⟩ := HL2.out.c3 1 rfl; obtain ⟨p11, _, _, _, _, q11, _, _, _, _, hl11⟩ := HL2.out.c5 2 rfl; clear hown hgrow hat)
    | (refine step_append_src _ (by rfl) (.tmp 68) (.tmp 70) 57 (by rfl) 54 j0 _ 5 40 Try.underlying57 hj jz0 jz1 jz2 rfl (by decide) (.slice (some ⟨V.heap.size, 0, none⟩) 0 0) 0 [] (by rfl) (HLb.out.row 5 rfl) (.slice la s.L.length lp) s.L.length (accCells s.L) (by rfl) HRb.out (accs_one _) (by simp only [maxLen]; omega) (by omega) ?_; intro a2 c2 w2 hown hgrow hat; simp only [Nat.zero_add, List.nil_append] at hown hat ⊢; have HL2 := Lib.hid (HLb.out.grown 5 rfl hgrow hown hat); simp only [List.set_cons_succ, List.set_cons_zero] at HL2; obtain ⟨v0, v1, v2, _, _, _, hl5⟩ := HL2.out.c3 0 rfl; obtain ⟨x0, x1, x2, x3, x4, _, _, _, _, _, hl17⟩ := HL2.out.c5 4 rfl; obtain ⟨p10, _, _, q10, _, _, hl10⟩ := HL2.out.c3 1 rfl; obtain ⟨p11, _, _, _, _, q11, _, _, _, _, hl11⟩ := HL2.out.c5 2 rfl; clear hown hgrow hat)
    | (refine step_append_src _ (by rfl) (.tmp 68) (.tmp 70) 57 (by rfl) 54 j0 _ 5 40 Try.underlying57 hj jz0 jz1 jz2 rfl (by decide) (.slice (some ⟨V.heap.size + 1, 0, none⟩) 0 0) 0 [] (by rfl) (HLc.out.row 5 rfl) (.slice la s.L.length lp) s.L.length (accCells s.L) (by rfl) HRc.out (accs_one _) (by simp only [maxLen]; omega) (by omega) ?_; intro a2 c2 w2 hown hgrow hat; simp only [Nat.zero_add, List.nil_append] at hown hat ⊢; have HL2 := Lib.hid (HLc.out.grown 5 rfl hgrow hown hat); simp only [List.set_cons_succ, List.set_cons_zero] at HL2; obtain ⟨v0, v1, v2, _, _, _, hl5⟩ := HL2.out.c3 0 rfl; obtain ⟨x0, x1, x2, x3, x4, _, _, _, _, _, hl17⟩ := HL2.out.c5 4 rfl; obtain ⟨p10, _, _, q10, _, _, hl10⟩ := HL2.out.c3 1 rfl; obtain ⟨p11, _, _, _, _, q11, _, _, _, _, hl11⟩ := HL2.out.c5 2 rfl; clear hown hgrow hat)
    | (refine step_append_src _ (by rfl) (.tmp 71) (.tmp 73) 57 (by rfl) 54 j0 _ 5 40 Try.underlying57 hj jz0 jz1 jz2 rfl (by decide) (.slice a2 s.L.length c2) s.L.length (accCells s.L) (by rfl) ((HL2.out.alloc _ _).row 5 rfl) (.slice (some ⟨w2.heap.size, 0, none⟩) 1 1) 1 (Acc.cells ⟨1, q, was, was, true⟩) (by rfl) (own_box1 ((HL2.out.alloc _ _).box 6 rfl)) (acc_one _) (by simp only [maxLen]; omega) (by omega) ?_; intro a3 c3 w3 hown hgrow hat; have HL3 := Lib.hid ((HL2.out.alloc _ _).grown 5 rfl hgrow hown hat); simp only [List.set_cons_succ, List.set_cons_zero, List.cons_append, List.nil_append] at HL3; obtain ⟨v0, v1, v2, _, _, _, hl5⟩ := HL3.out.c3 0 rfl; obtain ⟨x0, x1, x2, x3, x4, _, _, _, _, _, hl17⟩ := HL3.out.c5 4 rfl; obtain ⟨p10, p101, p102, q10, q101, q102, hl10⟩ := HL3.out.c3 1 rfl; obtain ⟨p11, p111, p112, p113, p114, q11, q111, q112, q113, q114, hl11⟩ := HL3.out.c5 2 rfl; clear hown hgrow hat)
    | (refine step_append_src _ (by rfl) (.tmp 71) (.tmp 73) 57 (by rfl) 54 j0 _ 5 40 Try.underlying57 hj jz0 jz1 jz2 rfl (by decide) (.slice a2 s.L.length c2) s.L.length (accCells s.L) (by rfl) (HL2.out.row 5 rfl) (.slice (some ⟨_, 0, none⟩) 1 1) 1 (Acc.cells ⟨1, q, was, was, true⟩) (by rfl) (own_box1 (HL2.out.box 6 rfl)) (acc_one _) (by simp only [maxLen]; omega) (by omega) ?_; intro a3 c3 w3 hown hgrow hat; have HL3 := Lib.hid (HL2.out.grown 5 rfl hgrow hown hat); simp only [List.set_cons_succ, List.set_cons_zero, List.cons_append, List.nil_append] at HL3; obtain ⟨v0, v1, v2, _, _, _, hl5⟩ := HL3.out.c3 0 rfl; obtain ⟨x0, x1, x2, x3, x4, _, _, _, _, _, hl17⟩ := HL3.out.c5 4 rfl; obtain ⟨p10, p101, p102, q10, q101, q102, hl10⟩ := HL3.out.c3 1 rfl; obtain ⟨p11, p111, p112, p113, p114, q11, q111, q112, q113, q114, hl11⟩ := HL3.out.c5 2 rfl; clear hown hgrow hat))
  all_goals go_wp2
  all_goals have HLF := Lib.hid ((((((((HL3.out.set 1 rfl 0 (.slice (some ⟨g1, 0, none⟩) s.C.length c1)).set 1 rfl 1 (.int .i64 (s.most : Int))).set 1 rfl 2 (.slice a3 (s.L.length + 1) c3)).set 2 rfl 0 (.int .i64 1)).set 2 rfl 1 (.int .i64 (q : Int))).set 2 rfl 2 (.int .u64 (was : Int))).set 2 rfl 3 (.int .u64 (was : Int))).set 2 rfl 4 (.bool true))
  all_goals simp only [List.set_cons_succ, List.set_cons_zero, List.setIfInBounds_toArray] at HLF
  all_goals obtain ⟨y0, y1, y2, _, _, _, _⟩ := HLF.out.c3 1 rfl
  all_goals obtain ⟨z0, z1, z2, z3, z4, _, _, _, _, _, _⟩ := HLF.out.c5 2 rfl
  all_goals refine bodyPost_ret (v := .tuple #[.agg #[.slice (some ⟨g1, 0, none⟩) s.C.length c1, .int .i64 (s.most : Int), .slice a3 (s.L.length + 1) c3], .agg #[.int .i64 1, .int .i64 (q : Int), .int .u64 (was : Int), .int .u64 (was : Int), .bool true], .int .i64 0]) (by simp [results, Try.results61, go_sem, y0, y1, y2, z0, z1, z2, z3, z4]) rfl ?_
  all_goals exact refDo_close (x := ⟨1, q, was, was, true⟩) HA.out HLF.out rfl rfl HWAS.out hq
set_option maxHeartbeats 4000000 in
theorem refDo_store (w : World) (vc vl : Value) (s : Ar) (q : Nat) (was : Nat) (v : Nat) (y : Int) (h : RefAt w vc vl s) (hq : q < s.C.length) (HWAS : Hid (s.C[q] = was)) (hL : s.L.length ≤ 1048576) :
    Calls Try.prog 61 #[refV vc s.most vl, .int .i64 2, .int .i64 (q : Int), .int .u64 (v : Int), .int .u64 y] w (RefDid w vc vl s (s.acc 2 q v true, ⟨2, q, was, v, true⟩, 0)) := by
  obtain ⟨i0, hi, iz0, iz1, iz2⟩ := info_parts info_uint64
  obtain ⟨j0, hj, jz0, jz1, jz2⟩ := info_parts info_access
  obtain ⟨ca, cp, cur, rfl, hcur, hc1, hc2, hc3, hc4⟩ := own_form h.cel (by omega)
  obtain ⟨la, lp, rfl, hl1, hl2⟩ := own_val h.log
  have HA := Lib.hid h
  have hcl := h.clen
  have hcal : ca < w.heap.size := hcur.lt
  clear h hcur hc1 hc2 hc3 hc4 hl1 hl2
  unfold refV
  go_enter Try.func61, Try.ntmps61
  have hlt1 : ¬ (q : Int) < 0 := by omega
  have hlt2 : ¬ (s.C.length : Int) ≤ (q : Int) := by omega
  go_upto_region 3 with fail
  obtain ⟨W, hW⟩ : ∃ W, ((w.alloc (.cells #[.slice (some ⟨ca, 0, none⟩) s.C.length cp, .int .i64 (s.most : Int), .slice la s.L.length lp] 59)).alloc (.cells #[.slice none 0 0, .int .i64 0, .slice none 0 0] 59)).alloc (.cells #[.int .i64 0, .int .i64 0, .int .u64 0, .int .u64 0, .bool false] 54) = W := ⟨_, rfl⟩
  rw [hW]
  have HTW : Hid (Touch [] w W) := hW ▸ (((Touch.refl [] w).alloc _).alloc _).alloc _
  have HLW := Lib.hid ((((Led.nil' w).alloc 59 #[.slice (some ⟨ca, 0, none⟩) s.C.length cp, .int .i64 (s.most : Int), .slice la s.L.length lp]).alloc 59 #[.slice none 0 0, .int .i64 0, .slice none 0 0]).alloc 54 #[.int .i64 0, .int .i64 0, .int .u64 0, .int .u64 0, .bool false])
  rw [hW] at HLW
  simp only [List.nil_append, List.cons_append, World.size_alloc] at HLW
  have HRW := Lib.hid (HA.out.touch HTW.out)
  have cW : W.cell? ⟨ca, q, none⟩ = some (.int .u64 (was : Int)) := by
    rw [own_cell HRW.out.cel q (by rw [words_length]; exact hq)]
    simp [words, HWAS.out]
  obtain ⟨b0, _, _, _, _, _, hl5⟩ := HLW.out.c3 0 rfl
  have HE := Lib.hid (own_empty W 39 1)
  have HTE := Lib.hid ((Touch.refl [] W).alloc (.cells #[] 39))
  clear hW
  go_upto_region 17 with (at_builtin; go_must (refine wpList_append_src _ rfl (.tmp 51) (.tmp 53) 38 rfl 39 i0 (.int .u64 0) 1 8 Try.underlying38 hi iz0 iz1 iz2 rfl (by decide) (.slice (some ⟨W.heap.size, 0, none⟩) 0 0) 0 [] rfl HE.out (.slice (some ⟨ca, 0, none⟩) s.C.length cp) s.C.length (words s.C) rfl (own_touch HRW.out.cel HTE.out (by simp)) (words_one _) (by simp only [maxLen]; omega) (by omega) ?_); intro a1 c1 w1 hown hgrow hat; refine Hid.out ?_)
  rw [Nat.zero_add, List.nil_append] at hown
  rw [Nat.zero_add] at hat
  obtain ⟨g1, c1', cur1, hv1, hcur1, _, _, _, _⟩ := own_form hown (by omega)
  injection hv1 with e1 e2 e3
  subst e1 e3
  have HL1 := Lib.hid ((HLW.out.new (t' := row 39 1 (.slice (some ⟨W.heap.size, 0, none⟩) 0 0) 0 []) ⟨rfl, HE.out⟩ ⟨(Touch.refl [] W).alloc _, fun k hk => .inr (by simp [sb, Value.ownBlock] at hk; omega)⟩).grown 3 rfl hgrow hown hat)
  simp only [List.nil_append, List.cons_append, List.set_cons_succ, List.set_cons_zero] at HL1
  have hwd := HLW.out.size
  have o1 : w1.cell? ⟨g1, q, none⟩ = some (.int .u64 (was : Int)) := by
    rw [own_cell hown q (by rw [words_length]; exact hq)]
    simp [words, HWAS.out]
  have o2 := own_frozen hown q
  obtain ⟨b0, _, _, _, _, _, hl5⟩ := HL1.out.c3 0 rfl
  clear hown hgrow hat hcur1 e2 HLW HE HTE cW HTW HRW
  refine Lib.hid ?_
  go_upto_region 17 with fail
  obtain ⟨V, hV⟩ : ∃ V, (w1.setCell ⟨g1, q, none⟩ (.int .u64 (v : Int))).alloc (.cells #[.int .i64 2, .int .i64 (q : Int), .int .u64 (was : Int), .int .u64 (v : Int), .bool true] 54) = V := ⟨_, rfl⟩
  have HLV := Lib.hid ((HL1.out.rowset 3 rfl q (.int .u64 (v : Int))).alloc 54 #[.int .i64 2, .int .i64 (q : Int), .int .u64 (was : Int), .int .u64 (v : Int), .bool true])
  rw [hV, ← words_set] at HLV
  simp only [List.nil_append, List.cons_append, List.set_cons_succ, List.set_cons_zero, World.size_setCell] at HLV
  obtain ⟨b17, hb17⟩ : ∃ b17, w1.heap.size = b17 := ⟨_, rfl⟩
  rw [hV, hb17]
  rw [hb17] at HLV
  clear hV hb17 o1 o2 HL1 b0 hl5
  obtain ⟨v0, v1, v2, _, _, _, hl5⟩ := HLV.out.c3 0 rfl
  obtain ⟨x0, x1, x2, x3, x4, _, _, _, _, _, hl17⟩ := HLV.out.c5 4 rfl
  obtain ⟨_, _, _, _, _, _, hl10⟩ := HLV.out.c3 1 rfl
  obtain ⟨_, _, _, _, _, _, _, _, _, _, hl11⟩ := HLV.out.c5 2 rfl
  have n1 := HLV.out.ne 4 1 rfl rfl (by decide)
  have n2 := HLV.out.ne 4 2 rfl rfl (by decide)
  have n3 := Ne.symm n1
  have n4 := Ne.symm n2
  have n5 : w.heap.size ≠ w.heap.size + 1 + 1 := by omega
  have n6 : w.heap.size + 1 + 1 ≠ w.heap.size := by omega
  have HRV : Hid (V.ownsRow 0 54 5 (.slice la s.L.length lp) s.L.length (accCells s.L)) := own_keep HA.out.log (fun k hk => HLV.out.below.block k (own_lt HA.out.log k hk))
  -- the three orders in which the makers of memory come up
  have HLa := Lib.hid ((HLV.out.empty 54 5).drew)
  have HLb := Lib.hid (((HLV.out.empty 54 5).alloc 54 #[.int .i64 2, .int .i64 (q : Int), .int .u64 (was : Int), .int .u64 (v : Int), .bool true]).drew)
  have HLc := Lib.hid ((((HLV.out.alloc 54 #[.int .i64 2, .int .i64 (q : Int), .int .u64 (was : Int), .int .u64 (v : Int), .bool true]).empty 54 5).drew).pick [0, 1, 2, 3, 4, 6, 5] (by decide) (by simp))
  simp only [List.nil_append, List.cons_append, World.size_alloc, List.filterMap_cons, List.filterMap_nil, List.getElem?_cons_zero, List.getElem?_cons_succ] at HLa HLb HLc
  have HRa := Lib.hid (own_drew (HRV.out.alloc (.cells #[] 54)))
  have HRb := Lib.hid (own_drew ((HRV.out.alloc (.cells #[] 54)).alloc (.cells #[.int .i64 2, .int .i64 (q : Int), .int .u64 (was : Int), .int .u64 (v : Int), .bool true] 54)))
  have HRc := Lib.hid (own_drew ((HRV.out.alloc (.cells #[.int .i64 2, .int .i64 (q : Int), .int .u64 (was : Int), .int .u64 (v : Int), .bool true] 54)).alloc (.cells #[] 54)))
  go_region_held3 (fun w' => w'.cell? ⟨w.heap.size, 1, none⟩ = some (.int .i64 (s.most : Int)) ∧ w'.cell? ⟨w.heap.size, 2, none⟩ = some (.slice la s.L.length lp) ∧ w'.cell? ⟨b17, 0, none⟩ = some (.int .i64 2) ∧ w'.cell? ⟨b17, 1, none⟩ = some (.int .i64 (q : Int)) ∧ w'.cell? ⟨b17, 2, none⟩ = some (.int .u64 (was : Int)) ∧ w'.cell? ⟨b17, 3, none⟩ = some (.int .u64 (v : Int)) ∧ w'.cell? ⟨b17, 4, none⟩ = some (.bool true)) (go_keep) (first
    | (refine step_append_src _ (by rfl) (.tmp 68) (.tmp 70) 57 (by rfl) 54 j0 _ 5 40 Try.underlying57 hj jz0 jz1 jz2 rfl (by decide) (.slice (some ⟨V.heap.size, 0, none⟩) 0 0) 0 [] (by rfl) (HLa.out.row 5 rfl) (.slice la s.L.length lp) s.L.length (accCells s.L) (by rfl) HRa.out (accs_one _) (by simp only [maxLen]; omega) (by omega) ?_; intro a2 c2 w2 hown hgrow hat; simp only [Nat.zero_add, List.nil_append] at hown hat ⊢; have HL2 := Lib.hid (HLa.out.grown 5 rfl hgrow hown hat); simp only [List.set_cons_succ, List.set_cons_zero] at HL2; obtain ⟨v0, v1, v2, _, _, _, hl5⟩ := HL2.out.c3 0 rfl; obtain ⟨x0, x1, x2, x3, x4, _, _, _, _, _, hl17⟩ := HL2.out.c5 4 rfl; obtain ⟨p10, _, _, q10, _, _, hl10⟩ := HL2.out.c3 1 rfl; obtain ⟨p11, _, _, _, _, q11, _, _, _, _, hl11⟩ := HL2.out.c5 2 rfl; clear hown hgrow hat)
    | (refine step_append_src _ (by rfl) (.tmp 68) (.tmp 70) 57 (by rfl) 54 j0 _ 5 40 Try.underlying57 hj jz0 jz1 jz2 rfl (by decide) (.slice (some ⟨V.heap.size, 0, none⟩) 0 0) 0 [] (by rfl) (HLb.out.row 5 rfl) (.slice la s.L.length lp) s.L.length (accCells s.L) (by rfl) HRb.out (accs_one _) (by simp only [maxLen]; omega) (by omega) ?_; intro a2 c2 w2 hown hgrow hat; simp only [Nat.zero_add, List.nil_append] at hown hat ⊢; have HL2 := Lib.hid (HLb.out.grown 5 rfl hgrow hown hat); simp only [List.set_cons_succ, List.set_cons_zero] at HL2; obtain ⟨v0, v1, v2, _, _, _, hl5⟩ := HL2.out.c3 0 rfl; obtain ⟨x0, x1, x2, x3, x4, _, _, _, _, _, hl17⟩ := HL2.out.c5 4 rfl; obtain ⟨p10, _, _, q10, _, _, hl10⟩ := HL2.out.c3 1 rfl; obtain ⟨p11, _, _, _, _, q11, _, _, _, _, hl11⟩ := HL2.out.c5 2 rfl; clear hown hgrow hat)
    | (refine step_append_src _ (by rfl) (.tmp 68) (.tmp 70) 57 (by rfl) 54 j0 _ 5 40 Try.underlying57 hj jz0 jz1 jz2 rfl (by decide) (.slice (some ⟨V.heap.size + 1, 0, none⟩) 0 0) 0 [] (by rfl) (HLc.out.row 5 rfl) (.slice la s.L.length lp) s.L.length (accCells s.L) (by rfl) HRc.out (accs_one _) (by simp only [maxLen]; omega) (by omega) ?_; intro a2 c2 w2 hown hgrow hat; simp only [Nat.zero_add, List.nil_append] at hown hat ⊢; have HL2 := Lib.hid (HLc.out.grown 5 rfl hgrow hown hat); simp only [List.set_cons_succ, List.set_cons_zero] at HL2; obtain ⟨v0, v1, v2, _, _, _, hl5⟩ := HL2.out.c3 0 rfl; obtain ⟨x0, x1, x2, x3, x4, _, _, _, _, _, hl17⟩ := HL2.out.c5 4 rfl; obtain ⟨p10, _, _, q10, _, _, hl10⟩ := HL2.out.c3 1 rfl; obtain ⟨p11, _, _, _, _, q11, _, _, _, _, hl11⟩ := HL2.out.c5 2 rfl; clear hown hgrow hat)
    | (refine step_append_src _ (by rfl) (.tmp 71) (.tmp 73) 57 (by rfl) 54 j0 _ 5 40 Try.underlying57 hj jz0 jz1 jz2 rfl (by decide) (.slice a2 s.L.length c2) s.L.length (accCells s.L) (by rfl) ((HL2.out.alloc _ _).row 5 rfl) (.slice (some ⟨w2.heap.size, 0, none⟩) 1 1) 1 (Acc.cells ⟨2, q, was, v, true⟩) (by rfl) (own_box1 ((HL2.out.alloc _ _).box 6 rfl)) (acc_one _) (by simp only [maxLen]; omega) (by omega) ?_; intro a3 c3 w3 hown hgrow hat; have HL3 := Lib.hid ((HL2.out.alloc _ _).grown 5 rfl hgrow hown hat); simp only [List.set_cons_succ, List.set_cons_zero, List.cons_append, List.nil_append] at HL3; obtain ⟨v0, v1, v2, _, _, _, hl5⟩ := HL3.out.c3 0 rfl; obtain ⟨x0, x1, x2, x3, x4, _, _, _, _, _, hl17⟩ := HL3.out.c5 4 rfl; obtain ⟨p10, p101, p102, q10, q101, q102, hl10⟩ := HL3.out.c3 1 rfl; obtain ⟨p11, p111, p112, p113, p114, q11, q111, q112, q113, q114, hl11⟩ := HL3.out.c5 2 rfl; clear hown hgrow hat)
    | (refine step_append_src _ (by rfl) (.tmp 71) (.tmp 73) 57 (by rfl) 54 j0 _ 5 40 Try.underlying57 hj jz0 jz1 jz2 rfl (by decide) (.slice a2 s.L.length c2) s.L.length (accCells s.L) (by rfl) (HL2.out.row 5 rfl) (.slice (some ⟨_, 0, none⟩) 1 1) 1 (Acc.cells ⟨2, q, was, v, true⟩) (by rfl) (own_box1 (HL2.out.box 6 rfl)) (acc_one _) (by simp only [maxLen]; omega) (by omega) ?_; intro a3 c3 w3 hown hgrow hat; have HL3 := Lib.hid (HL2.out.grown 5 rfl hgrow hown hat); simp only [List.set_cons_succ, List.set_cons_zero, List.cons_append, List.nil_append] at HL3; obtain ⟨v0, v1, v2, _, _, _, hl5⟩ := HL3.out.c3 0 rfl; obtain ⟨x0, x1, x2, x3, x4, _, _, _, _, _, hl17⟩ := HL3.out.c5 4 rfl; obtain ⟨p10, p101, p102, q10, q101, q102, hl10⟩ := HL3.out.c3 1 rfl; obtain ⟨p11, p111, p112, p113, p114, q11, q111, q112, q113, q114, hl11⟩ := HL3.out.c5 2 rfl; clear hown hgrow hat))
  all_goals go_wp2
  all_goals have HLF := Lib.hid ((((((((HL3.out.set 1 rfl 0 (.slice (some ⟨g1, 0, none⟩) s.C.length c1)).set 1 rfl 1 (.int .i64 (s.most : Int))).set 1 rfl 2 (.slice a3 (s.L.length + 1) c3)).set 2 rfl 0 (.int .i64 2)).set 2 rfl 1 (.int .i64 (q : Int))).set 2 rfl 2 (.int .u64 (was : Int))).set 2 rfl 3 (.int .u64 (v : Int))).set 2 rfl 4 (.bool true))
  all_goals simp only [List.set_cons_succ, List.set_cons_zero, List.setIfInBounds_toArray] at HLF
  all_goals obtain ⟨y0, y1, y2, _, _, _, _⟩ := HLF.out.c3 1 rfl
  all_goals obtain ⟨z0, z1, z2, z3, z4, _, _, _, _, _, _⟩ := HLF.out.c5 2 rfl
  all_goals refine bodyPost_ret (v := .tuple #[.agg #[.slice (some ⟨g1, 0, none⟩) s.C.length c1, .int .i64 (s.most : Int), .slice a3 (s.L.length + 1) c3], .agg #[.int .i64 2, .int .i64 (q : Int), .int .u64 (was : Int), .int .u64 (v : Int), .bool true], .int .i64 0]) (by simp [results, Try.results61, go_sem, y0, y1, y2, z0, z1, z2, z3, z4]) rfl ?_
  all_goals exact refDo_close (x := ⟨2, q, was, v, true⟩) HA.out HLF.out rfl rfl HWAS.out hq
end Go.Proofs.Ytegebecogbebaaa
