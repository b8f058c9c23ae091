/-
  act of law 03 (betrothallaw03/law.go): Tries: the walk.
-/
import Derived.Test.YtegebecogbebaaaAct03e
namespace Go.Proofs.Ytegebecogbebaaa
open Go.RowKit Go.Shelf
set_option maxRecDepth 100000
set_option linter.unusedVariables false
set_option linter.unusedSimpArgs false
attribute [local go_sem] Oper.semAt_some

/-- The things of the loop over Tries. -/
def triR (rf : Thing) (b4 b5 b6 b7 b8 ba bt bm b9 : Nat) (rw1 : Thing) (c4 c5 c8 : Array Value) (g : Nat) (s : Ar) (at_ n : Int) (k : Nat) : List Thing :=
  [rf, box b4 59 c4, box b5 83 c5, box b6 59 #[.slice none 0 0, .int .i64 0, .slice none 0 0], box b7 4 #[.bool false], rw1, box b8 59 c8, box ba 24 #[.pointer (some ⟨g, 0, none⟩)], box bt 3 #[.int .i64 at_], box bm 3 #[.int .i64 n], allT b9 (tryL s at_ k)]
set_option maxHeartbeats 8000000 in
theorem act03_tries_in (r : Nat) (T : List Nat) (w : World) (g : Nat) (s : Ar) (vc vl : Value) (at_ n : Int) (hn : n ≤ 20) (h : Led T w w [arena g s, refT vc vl s]) (hL : s.L.length ≤ 1000000) :
    CallsIn Fence.wide r Try.prog 39 #[.pointer (some ⟨g, 0, none⟩), refV vc s.most vl, .agg #[.int .i64 7, .int .i64 at_, .int .i64 n]] w (Acted03 T w g s) := by
  obtain ⟨i0, hi, iz0, iz1, iz2⟩ := info_parts info_bool
  obtain ⟨ca, cp, rfl, _, _⟩ := own_val (h.refAt 1 rfl).cel
  obtain ⟨la, lp, rfl, _, _⟩ := own_val (h.refAt 1 rfl).log
  have HL0 := Lib.hid h
  clear h
  unfold refV
  refine callsIn_of_wp_marks Try.func39 rfl trivial ?_ rfl
  simp only [Try.ntmps39, List.size_toArray, List.length_cons, List.length_nil, Nat.reduceAdd, Nat.reduceSub, Array.replicate_succ, Array.replicate_zero, List.push_toArray, List.append_toArray, List.nil_append, List.cons_append]
  gi_wp2_with fail
  refine ⟨trivial, nodepth, ?_⟩
  refine (callsIn_wide.2 (((((HL0.out.alloc _ _).alloc _ _).alloc _ _).alloc _ _).rTr 1 rfl (by omega) hL)).mono ?_
  rintro e w1 ⟨vc', vl', aa, ap, b, rfl, hF, h1⟩
  simp only [List.nil_append, List.cons_append, List.set_cons_succ, List.set_cons_zero, World.size_alloc] at h1
  obtain ⟨ca1, cp1, rfl, _, _⟩ := own_val (h1.refAt 1 rfl).cel
  obtain ⟨la1, lp1, rfl, _, _⟩ := own_val (h1.refAt 1 rfl).log
  have HL1 := Lib.hid h1
  have HF := Lib.hid hF
  clear h1 hF
  obtain ⟨b7, hb7⟩ : ∃ b, w.heap.size + 1 + 1 + 1 = b := ⟨_, rfl⟩
  rw [hb7] at HL1 ⊢
  obtain ⟨b6, hb6⟩ : ∃ b, w.heap.size + 1 + 1 = b := ⟨_, rfl⟩
  rw [hb6] at HL1 ⊢
  obtain ⟨b5, hb5⟩ : ∃ b, w.heap.size + 1 = b := ⟨_, rfl⟩
  rw [hb5] at HL1 ⊢
  obtain ⟨b4, hb4⟩ : ∃ b, w.heap.size = b := ⟨_, rfl⟩
  rw [hb4] at HL1 ⊢
  clear hb7 hb6 hb5 hb4
  obtain ⟨a0, a1, a2, _, _, _, za, za1, za2⟩ := HL1.out.c3 3 rfl
  gi_wp2_with fail
  refine ⟨trivial, nodepth, ?_⟩
  refine (callsIn_wide.2 (Tries_any _ _ _ _)).mono ?_
  rintro e w2 ⟨rfl, hw2⟩
  have HL2 := Lib.hid ((HL1.out.alloc _ _).al3 hw2)
  simp only [List.nil_append, List.cons_append, World.size_alloc] at HL2 ⊢
  clear hw2 a0 a1 a2 za za1 za2
  obtain ⟨bm, hbm⟩ : ∃ b, w1.heap.size + 1 + 1 + 1 = b := ⟨_, rfl⟩
  rw [hbm] at HL2 ⊢
  obtain ⟨bt, hbt⟩ : ∃ b, w1.heap.size + 1 + 1 = b := ⟨_, rfl⟩
  rw [hbt] at HL2 ⊢
  obtain ⟨ba, hba⟩ : ∃ b, w1.heap.size + 1 = b := ⟨_, rfl⟩
  rw [hba] at HL2 ⊢
  obtain ⟨b8, hb8⟩ : ∃ b, w1.heap.size = b := ⟨_, rfl⟩
  rw [hb8] at HL2 ⊢
  clear hbm hbt hba hb8 HL1
  have hnil := tries_not_nil
  gi_wp2_with fail
  refine wpIn_name ?_
  intro w3 hw3
  have HL3 := Lib.hid (boolT_nil (HL2.out.al1 hw3))
  simp only [List.nil_append, List.cons_append] at HL3
  obtain ⟨b9, hb9⟩ : ∃ b, w2.heap.size = b := ⟨_, rfl⟩
  rw [hb9] at HL3 ⊢
  clear hb9 hw3 HL2 hnil
  have HL4 : Hid (Led T w w3 (arena g s :: triR (refT (.slice ca1 (tryS s at_ b.1).C.length cp1) (.slice la1 (tryS s at_ b.1).L.length lp1) (tryS s at_ b.1)) b4 b5 b6 b7 b8 ba bt bm b9 (row 4 1 (.slice aa b.1 ap) b.1 (boolVs (tryL s at_ b.1))) #[.slice ca s.C.length cp, .int .i64 (s.most : Int), .slice la s.L.length lp] #[.int .i64 7, .int .i64 at_, .int .i64 n] #[.slice ca1 (tryS s at_ b.1).C.length cp1, .int .i64 (s.most : Int), .slice la1 (tryS s at_ b.1).L.length lp1] g s at_ n 0)) :=
    (Led.pair (l := [_, _, _, _, _, _, _, _, _, _, _, _]) HL3.out 11 rfl).ex (f := fun x : Option Addr × Nat => pairT (box b9 67 #[.slice x.1 0 x.2]) (row 4 1 (.slice x.1 0 x.2) 0 (boolVs []))) (x := (none, 0)) 11 rfl
  clear HL3
  refine range_triesL (bm := bm) (ba := ba) (bt := bt) (g := g) (s := s) (at_ := at_) (most := n) rfl rfl (by omega) (by omega) (triR (refT (.slice ca1 (tryS s at_ b.1).C.length cp1) (.slice la1 (tryS s at_ b.1).L.length lp1) (tryS s at_ b.1)) b4 b5 b6 b7 b8 ba bt bm b9 (row 4 1 (.slice aa b.1 ap) b.1 (boolVs (tryL s at_ b.1))) #[.slice ca s.C.length cp, .int .i64 (s.most : Int), .slice la s.L.length lp] #[.int .i64 7, .int .i64 at_, .int .i64 n] #[.slice ca1 (tryS s at_ b.1).C.length cp1, .int .i64 (s.most : Int), .slice la1 (tryS s at_ b.1).L.length lp1] g s at_ n) (fun _ _ => False) 9 7 8 (fun _ => rfl) (fun _ => rfl) (fun _ => rfl) HL4.out ?hround ?hdone ?hstop
  case hstop => intro c W lx hx _; exact hx.elim
  case hround =>
    intro k W o0 hk hE hA h
    obtain ⟨D, hD⟩ : ∃ D, w3.heap.size = D := ⟨_, rfl⟩
    rw [hD] at h ⊢
    have HK := Lib.hid h
    clear h hD hE hA
    gi_wp2
    refine ⟨[], by simpa using HK.out, fun W2 o h2 => ?_⟩
    simp only [triR, marks, List.nil_append, List.cons_append, List.append_nil] at h2
    obtain ⟨⟨a3, c3⟩, h3⟩ := h2.unex 11 rfl
    have h4 := h3.unpair 11 rfl
    simp only [List.set_cons_succ, List.set_cons_zero, List.cons_append, List.nil_append, tryL_len] at h4
    have HK2 := Lib.hid h4
    clear h2 h3 h4 HK
    obtain ⟨n0, fn, zn, zn1, zn2⟩ := HK2.out.c1 11 rfl
    gi_wp2_with (gi_at_builtin; go_must (refine wpListIn_append_lies _ rfl (.tmp 165) (.tmp 167) 67 rfl 4 i0 (.bool false) 1 1 Try.underlying67 hi iz0 iz1 iz2 rfl (by decide) (.slice a3 k c3) k (boolVs (tryL s at_ k)) rfl ((HK2.out.alloc _ _).row 14 rfl) ⟨W2.heap.size, 0, none⟩ 1 1 [.bool (tryD s at_ k)] rfl rfl (one_new _ _ _) (by simp [Value.oneCell']) (by omega) (by simp only [maxLen]; omega) (by omega) ?_); intro gg cap5 w5 hown hgrow hat hlt5; refine Hid.out ?_)
    have HL5 := Lib.hid ((HK2.out.al1 rfl).grown 14 rfl hgrow hown (hat.imp (fun h => h.symm) (fun h => congrArg some h)))
    simp only [List.set_cons_zero, List.set_cons_succ, List.cons_append, List.nil_append] at HL5
    clear hgrow hat hown HK2 n0 fn zn zn1 zn2
    refine Lib.hid ?_
    obtain ⟨n0, fn, zn, zn1, zn2⟩ := HL5.out.c1 11 rfl
    gi_wp2
    have HL6 := Lib.hid (HL5.out.set 11 rfl 0 (.slice (some ⟨gg, 0, none⟩) (k + 1) cap5))
    simp only [List.set_cons_zero, List.set_cons_succ, List.setIfInBounds_toArray] at HL6
    have eq : allT b9 (tryL s at_ (k + 1)) = exT fun x : Option Addr × Nat => pairT (box b9 67 #[.slice x.1 (k + 1) x.2]) (row 4 1 (.slice x.1 (k + 1) x.2) (k + 1) (boolVs (tryL s at_ k) ++ [.bool (tryD s at_ k)])) := by
      unfold allT
      rw [tryL_len, tryL_succ]
      rfl
    simp only [triR, bodyL]
    rw [eq]
    have HL7 := (Led.pair (l := [_, _, _, _, _, _, _, _, _, _, _, _, _, _, _]) (HL6.out.sel [0, 1, 2, 3, 4, 5, 6, 7, 8, 9, 10, 11, 12, 13, 15, 14] rfl (by decide)) 11 rfl).ex (f := fun x : Option Addr × Nat => pairT (box b9 67 #[.slice x.1 (k + 1) x.2]) (row 4 1 (.slice x.1 (k + 1) x.2) (k + 1) (boolVs (tryL s at_ k) ++ [.bool (tryD s at_ k)]))) (x := (some ⟨gg, 0, none⟩, cap5)) 11 rfl
    simp only [List.set_cons_zero, List.set_cons_succ] at HL7
    refine ⟨[box W2.heap.size 4 #[.bool (tryD s at_ k)]], ?_⟩
    simp only [marks, List.cons_append, List.nil_append]
    exact HL7
  case hdone =>
    intro b' W hF' h
    rw [tryS_fin hF', hF'.unique HF.out] at h
    obtain ⟨D, hD⟩ : ∃ D, w3.heap.size = D := ⟨_, rfl⟩
    rw [hD] at h ⊢
    simp only [triR, marks1, List.nil_append, List.cons_append] at h
    obtain ⟨⟨a3, c3⟩, h3⟩ := h.unex 11 rfl
    have h4 := h3.unpair 11 rfl
    simp only [List.set_cons_succ, List.set_cons_zero, List.cons_append, List.nil_append, tryL_len] at h4
    have HK := Lib.hid h4
    clear h h3 h4 hD hF' HL4
    obtain ⟨n0, fn, zn, zn1, zn2⟩ := HK.out.c1 11 rfl
    obtain ⟨p0, p1, p2, f0, f1, f2, z6, _, _⟩ := HK.out.c3 4 rfl
    obtain ⟨q0, fq, z7, _, _⟩ := HK.out.c1 5 rfl
    obtain ⟨r0, r1, r2, _, _, _, zr, _, _⟩ := HK.out.c3 7 rfl
    have n1 := HK.out.ne 4 7 rfl rfl (by decide)
    have n2 := HK.out.ne 5 7 rfl rfl (by decide)
    have n5 := HK.out.ne 4 5 rfl rfl (by decide)
    have n7 := HK.out.ne 4 11 rfl rfl (by decide)
    have n8 := HK.out.ne 5 11 rfl rfl (by decide)
    have n3 := Ne.symm n1
    have n4 := Ne.symm n2
    have n6 := Ne.symm n5
    have n9 := Ne.symm n7
    have n10 := Ne.symm n8
    gi_wp2_with fail
    refine wpIn_wide.2 ?_
    go_region_held3 (fun w' => w'.cell? ⟨b8, 0, none⟩ = some (.slice ca1 (tryS s at_ b.1).C.length cp1) ∧ w'.cell? ⟨b8, 1, none⟩ = some (.int .i64 (s.most : Int)) ∧ w'.cell? ⟨b8, 2, none⟩ = some (.slice la1 (tryS s at_ b.1).L.length lp1) ∧ w'.cell? ⟨b9, 0, none⟩ = some (.slice a3 b.1 c3)) (go_keep)
      (first
      | (go_at_call 72; refine (bools_same _ _ _ b.1 (tryL s at_ b.1) (tryL_len _ _ _) (by have := HF.out.le; omega) (HK.out.drew.row 14 rfl) (HK.out.drew.row 6 rfl)).mono ?_; rintro e w5 ⟨rfl, ht⟩; have HL5 := Lib.hid (HK.out.drew.touch ht); clear ht; obtain ⟨n0, fn, zn, zn1, zn2⟩ := HL5.out.c1 11 rfl; obtain ⟨p0, p1, p2, f0, f1, f2, z6, _, _⟩ := HL5.out.c3 4 rfl; obtain ⟨q0, fq, z7, _, _⟩ := HL5.out.c1 5 rfl; obtain ⟨r0, r1, r2, _, _, _, zr, _, _⟩ := HL5.out.c3 7 rfl))
    gi_wp2
    have HL6 := Lib.hid ((((HL5.out.set 4 rfl 0 (.slice ca1 (tryS s at_ b.1).C.length cp1)).set 4 rfl 1 (.int .i64 (s.most : Int))).set 4 rfl 2 (.slice la1 (tryS s at_ b.1).L.length lp1)).set 5 rfl 0 (.bool true))
    simp only [List.set_cons_succ, List.set_cons_zero, List.setIfInBounds_toArray] at HL6
    have h7 := HL6.out.shut 12 rfl
    simp only [List.set_cons_succ, List.set_cons_zero] at h7
    have h8 : Led T w (shutAll ((((w5.setCell ⟨b6, 0, none⟩ (.slice ca1 (tryS s at_ b.1).C.length cp1)).setCell ⟨b6, 1, none⟩ (.int .i64 (s.most : Int))).setCell ⟨b6, 2, none⟩ (.slice la1 (tryS s at_ b.1).L.length lp1)).setCell ⟨b7, 0, none⟩ (.bool true)) [D]) _ := h7
    obtain ⟨y0, y1, y2, _, _, _, _, _, _⟩ := h8.c3 4 rfl
    obtain ⟨y3, _, _, _, _⟩ := h8.c1 5 rfl
    refine leave_marks (v := .tuple #[.agg #[.slice ca1 (tryS s at_ b.1).C.length cp1, .int .i64 (s.most : Int), .slice la1 (tryS s at_ b.1).L.length lp1], .bool true]) [D] _ (by simpa using HL6.out.mark 12 rfl) (by simp) (by simp [results, Try.results39, go_sem, y0, y1, y2, y3]) ?_
    exact ⟨tryS s at_ b.1, _, _, [], rfl, ⟨tryS_most _ _ _, by have := tryS_L s at_ b.1; have := HF.out.le; omega⟩, h7.sel [0, 1] rfl (by decide)⟩
end Go.Proofs.Ytegebecogbebaaa
