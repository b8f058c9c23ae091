/-
  The reference of layer 3 (betrothalref03/ref.go), in the ledger: New, Try, Free, Held.
-/
import Derived.Test.YtegebecogbebaaaRefGo
namespace Go.Proofs.Ytegebecogbebaaa
open Go.RowKit Go.Shelf
set_option maxRecDepth 100000
set_option linter.unusedVariables false
set_option linter.unusedSimpArgs false

set_option maxHeartbeats 4000000 in
theorem rTry (T : List Nat) (w : World) (vc vl : Value) (s : Ar) (at_ : Int) (hL : s.L.length ≤ 1048576) (h : Led T w w [refT vc vl s]) :
    Calls Try.prog 68 #[refV vc s.most vl, .int .i64 at_] w (RefGo T w (s.swap at_ 0 1).1 (fun vc' vl' => .tuple #[refV vc' s.most vl', .bool (s.swap at_ 0 1).2.1.did, .int .i64 ((s.swap at_ 0 1).2.2 : Int)])) := by
  obtain ⟨ca, cp, rfl, _, _⟩ := own_val (h.refAt 0 rfl).cel
  obtain ⟨la, lp, rfl, _, _⟩ := own_val (h.refAt 0 rfl).log
  have HL0 := Lib.hid h
  clear h
  unfold refV
  go_enter Try.func68, Try.ntmps68
  go_wp2_with fail
  refine (((HL0.out.alloc _ _).alloc _ _).refGo 0 rfl (fun T h => rSwap T _ _ _ s at_ 0 1 hL h)).mono ?_
  rintro e w1 ⟨vc', vl', rfl, hL⟩
  simp only [List.nil_append, List.cons_append, List.set_cons_succ, List.set_cons_zero, World.size_alloc] at hL
  obtain ⟨ca1, cp1, rfl, _, _⟩ := own_val (hL.refAt 0 rfl).cel
  obtain ⟨la1, lp1, rfl, _, _⟩ := own_val (hL.refAt 0 rfl).log
  have HL1 := Lib.hid hL
  clear hL
  unfold refV
  obtain ⟨b4, hb4⟩ : ∃ b, w.heap.size + 1 = b := ⟨_, rfl⟩
  rw [hb4] at HL1 ⊢
  obtain ⟨b2, hb2⟩ : ∃ b, w.heap.size = b := ⟨_, rfl⟩
  rw [hb2] at HL1 ⊢
  clear hb4 hb2
  obtain ⟨p0, p1, p2, f0, f1, f2, z4, z41, z42⟩ := HL1.out.c3 2 rfl
  go_wp2
  refine post_name ?_
  intro w2 hw2
  have HL3 := Lib.hid ((((HL1.out.set 2 rfl 0 (.slice ca1 (s.swap at_ 0 1).1.C.length cp1)).set 2 rfl 1 (.int .i64 (s.most : Int))).set 2 rfl 2 (.slice la1 (s.swap at_ 0 1).1.L.length lp1)).al1 hw2)
  simp only [List.set_cons_succ, List.set_cons_zero, List.setIfInBounds_toArray, List.cons_append, List.nil_append] at HL3
  clear hw2
  obtain ⟨y0, y1, y2, _, _, _, _, _, _⟩ := HL3.out.c3 2 rfl
  refine bodyPost_ret (v := .tuple #[.agg #[.slice ca1 (s.swap at_ 0 1).1.C.length cp1, .int .i64 (s.most : Int), .slice la1 (s.swap at_ 0 1).1.L.length lp1], .bool (s.swap at_ 0 1).2.1.did, .int .i64 ((s.swap at_ 0 1).2.2 : Int)]) (by simp [results, Try.results68, go_sem, y0, y1, y2, Ar.swap, Ar.load]) rfl ?_
  exact ⟨_, _, _, rfl, HL3.out⟩
set_option maxHeartbeats 4000000 in
theorem rHeld (T : List Nat) (w : World) (vc vl : Value) (s : Ar) (at_ : Int) (hL : s.L.length ≤ 1048576) (h : Led T w w [refT vc vl s]) :
    Calls Try.prog 70 #[refV vc s.most vl, .int .i64 at_] w (RefGo T w (s.load at_).1 (fun vc' vl' => .tuple #[refV vc' s.most vl', .bool (s.heldB at_), .int .i64 ((s.load at_).2.2 : Int)])) := by
  have HE : Hid (s.heldB at_ = (((s.load at_).2.1.old : Int) != 0)) := by
    unfold Hid Ar.heldB
    by_cases he : (s.load at_).2.2 = 0
    · rw [if_pos he]
    · rw [if_neg he]
      have : (s.load at_).2.1.old = 0 := doBy_old0 s 1 at_ chgLoad he
      rw [this]; rfl
  rw [HE.out]
  obtain ⟨ca, cp, rfl, _, _⟩ := own_val (h.refAt 0 rfl).cel
  obtain ⟨la, lp, rfl, _, _⟩ := own_val (h.refAt 0 rfl).log
  have HL0 := Lib.hid h
  clear h
  unfold refV
  go_enter Try.func70, Try.ntmps70
  go_wp2_with fail
  refine (((HL0.out.alloc _ _).alloc _ _).refGo 0 rfl (fun T h => rLoad T _ _ _ s at_ hL h)).mono ?_
  rintro e w1 ⟨vc', vl', rfl, hL⟩
  simp only [List.nil_append, List.cons_append, List.set_cons_succ, List.set_cons_zero, World.size_alloc] at hL
  obtain ⟨ca1, cp1, rfl, _, _⟩ := own_val (hL.refAt 0 rfl).cel
  obtain ⟨la1, lp1, rfl, _, _⟩ := own_val (hL.refAt 0 rfl).log
  have HL1 := Lib.hid hL
  clear hL
  unfold refV
  obtain ⟨b4, hb4⟩ : ∃ b, w.heap.size + 1 = b := ⟨_, rfl⟩
  rw [hb4] at HL1 ⊢
  obtain ⟨b2, hb2⟩ : ∃ b, w.heap.size = b := ⟨_, rfl⟩
  rw [hb2] at HL1 ⊢
  clear hb4 hb2
  obtain ⟨p0, p1, p2, f0, f1, f2, z4, z41, z42⟩ := HL1.out.c3 2 rfl
  go_wp2
  refine post_name ?_
  intro w2 hw2
  have HL3 := Lib.hid ((((HL1.out.set 2 rfl 0 (.slice ca1 (s.load at_).1.C.length cp1)).set 2 rfl 1 (.int .i64 (s.most : Int))).set 2 rfl 2 (.slice la1 (s.load at_).1.L.length lp1)).al1 hw2)
  simp only [List.set_cons_succ, List.set_cons_zero, List.setIfInBounds_toArray, List.cons_append, List.nil_append] at HL3
  clear hw2
  obtain ⟨y0, y1, y2, _, _, _, _, _, _⟩ := HL3.out.c3 2 rfl
  refine bodyPost_ret (v := .tuple #[.agg #[.slice ca1 (s.load at_).1.C.length cp1, .int .i64 (s.most : Int), .slice la1 (s.load at_).1.L.length lp1], .bool (((s.load at_).2.1.old : Int) != 0), .int .i64 ((s.load at_).2.2 : Int)]) (by simp [results, Try.results70, go_sem, y0, y1, y2, Ar.swap, Ar.load]) rfl ?_
  exact ⟨_, _, _, rfl, HL3.out⟩
set_option maxHeartbeats 4000000 in
theorem rFree (T : List Nat) (w : World) (vc vl : Value) (s : Ar) (at_ : Int) (hL : s.L.length ≤ 1048576) (h : Led T w w [refT vc vl s]) :
    Calls Try.prog 69 #[refV vc s.most vl, .int .i64 at_] w (RefGo T w (s.swap at_ 1 0).1 (fun vc' vl' => .tuple #[refV vc' s.most vl', .int .i64 (s.freeE at_ : Int)])) := by
  have HE : Hid ((s.freeE at_ : Int) = (if (s.swap at_ 1 0).2.2 = 0 then (if (s.swap at_ 1 0).2.1.did then 0 else 30) else (s.swap at_ 1 0).2.2 : Nat)) := rfl
  rcases doBy_err s 3 at_ (chgSwap 1 0) with he | ⟨he, hz⟩
  · change (s.swap at_ 1 0).2.2 = 0 at he
    rw [he, if_pos rfl] at HE
    cases hd : (s.swap at_ 1 0).2.1.did with
    | true =>
      rw [hd, if_pos rfl] at HE
      have HSW := Lib.hid (rSwap (x := 1) (y := 0) (s := s) (at_ := at_) (hL := hL))
      rw [hd, he] at HSW
      obtain ⟨ca, cp, rfl, _, _⟩ := own_val (h.refAt 0 rfl).cel
      obtain ⟨la, lp, rfl, _, _⟩ := own_val (h.refAt 0 rfl).log
      have HL0 := Lib.hid h
      clear h
      unfold refV
      go_enter Try.func69, Try.ntmps69
      go_wp2_with fail
      refine (((HL0.out.alloc _ _).alloc _ _).refGo 0 rfl (fun T h => HSW.out T _ _ _ h)).mono ?_
      rintro e w1 ⟨vc', vl', rfl, hL⟩
      simp only [List.nil_append, List.cons_append, List.set_cons_succ, List.set_cons_zero, World.size_alloc] at hL
      obtain ⟨ca1, cp1, rfl, _, _⟩ := own_val (hL.refAt 0 rfl).cel
      obtain ⟨la1, lp1, rfl, _, _⟩ := own_val (hL.refAt 0 rfl).log
      have HL1 := Lib.hid hL
      clear hL
      unfold refV
      obtain ⟨b4, hb4⟩ : ∃ b, w.heap.size + 1 = b := ⟨_, rfl⟩
      rw [hb4] at HL1 ⊢
      obtain ⟨b2, hb2⟩ : ∃ b, w.heap.size = b := ⟨_, rfl⟩
      rw [hb2] at HL1 ⊢
      clear hb4 hb2
      obtain ⟨p0, p1, p2, f0, f1, f2, z4, z41, z42⟩ := HL1.out.c3 2 rfl
      go_wp2
      refine post_name ?_
      intro w2 hw2
      have HL3 := Lib.hid ((((HL1.out.set 2 rfl 0 (.slice ca1 (s.swap at_ 1 0).1.C.length cp1)).set 2 rfl 1 (.int .i64 (s.most : Int))).set 2 rfl 2 (.slice la1 (s.swap at_ 1 0).1.L.length lp1)).al1 hw2)
      simp only [List.set_cons_succ, List.set_cons_zero, List.setIfInBounds_toArray, List.cons_append, List.nil_append] at HL3
      clear hw2
      obtain ⟨y0, y1, y2, _, _, _, _, _, _⟩ := HL3.out.c3 2 rfl
      refine bodyPost_ret (v := .tuple #[.agg #[.slice ca1 (s.swap at_ 1 0).1.C.length cp1, .int .i64 (s.most : Int), .slice la1 (s.swap at_ 1 0).1.L.length lp1], .int .i64 0]) (by simp [results, Try.results69, go_sem, y0, y1, y2, Ar.swap, Ar.load]) rfl ?_
      exact ⟨_, _, _, by rw [HE.out]; rfl, HL3.out⟩
    | false =>
      rw [hd, if_neg (by simp)] at HE
      have HSW := Lib.hid (rSwap (x := 1) (y := 0) (s := s) (at_ := at_) (hL := hL))
      rw [hd, he] at HSW
      obtain ⟨ca, cp, rfl, _, _⟩ := own_val (h.refAt 0 rfl).cel
      obtain ⟨la, lp, rfl, _, _⟩ := own_val (h.refAt 0 rfl).log
      have HL0 := Lib.hid h
      clear h
      unfold refV
      go_enter Try.func69, Try.ntmps69
      go_wp2_with fail
      refine (((HL0.out.alloc _ _).alloc _ _).refGo 0 rfl (fun T h => HSW.out T _ _ _ h)).mono ?_
      rintro e w1 ⟨vc', vl', rfl, hL⟩
      simp only [List.nil_append, List.cons_append, List.set_cons_succ, List.set_cons_zero, World.size_alloc] at hL
      obtain ⟨ca1, cp1, rfl, _, _⟩ := own_val (hL.refAt 0 rfl).cel
      obtain ⟨la1, lp1, rfl, _, _⟩ := own_val (hL.refAt 0 rfl).log
      have HL1 := Lib.hid hL
      clear hL
      unfold refV
      obtain ⟨b4, hb4⟩ : ∃ b, w.heap.size + 1 = b := ⟨_, rfl⟩
      rw [hb4] at HL1 ⊢
      obtain ⟨b2, hb2⟩ : ∃ b, w.heap.size = b := ⟨_, rfl⟩
      rw [hb2] at HL1 ⊢
      clear hb4 hb2
      obtain ⟨p0, p1, p2, f0, f1, f2, z4, z41, z42⟩ := HL1.out.c3 2 rfl
      go_wp2
      refine post_name ?_
      intro w2 hw2
      have HL3 := Lib.hid ((((HL1.out.set 2 rfl 0 (.slice ca1 (s.swap at_ 1 0).1.C.length cp1)).set 2 rfl 1 (.int .i64 (s.most : Int))).set 2 rfl 2 (.slice la1 (s.swap at_ 1 0).1.L.length lp1)).al1 hw2)
      simp only [List.set_cons_succ, List.set_cons_zero, List.setIfInBounds_toArray, List.cons_append, List.nil_append] at HL3
      clear hw2
      obtain ⟨y0, y1, y2, _, _, _, _, _, _⟩ := HL3.out.c3 2 rfl
      refine bodyPost_ret (v := .tuple #[.agg #[.slice ca1 (s.swap at_ 1 0).1.C.length cp1, .int .i64 (s.most : Int), .slice la1 (s.swap at_ 1 0).1.L.length lp1], .int .i64 30]) (by simp [results, Try.results69, go_sem, y0, y1, y2, Ar.swap, Ar.load]) rfl ?_
      exact ⟨_, _, _, by rw [HE.out]; rfl, HL3.out⟩
  · change (s.swap at_ 1 0).2.2 = 4 at he
    rw [he, if_neg (by simp)] at HE
    have HSW := Lib.hid (rSwap (x := 1) (y := 0) (s := s) (at_ := at_) (hL := hL))
    rw [he] at HSW
    obtain ⟨ca, cp, rfl, _, _⟩ := own_val (h.refAt 0 rfl).cel
    obtain ⟨la, lp, rfl, _, _⟩ := own_val (h.refAt 0 rfl).log
    have HL0 := Lib.hid h
    clear h
    unfold refV
    go_enter Try.func69, Try.ntmps69
    go_wp2_with fail
    refine (((HL0.out.alloc _ _).alloc _ _).refGo 0 rfl (fun T h => HSW.out T _ _ _ h)).mono ?_
    rintro e w1 ⟨vc', vl', rfl, hL⟩
    simp only [List.nil_append, List.cons_append, List.set_cons_succ, List.set_cons_zero, World.size_alloc] at hL
    obtain ⟨ca1, cp1, rfl, _, _⟩ := own_val (hL.refAt 0 rfl).cel
    obtain ⟨la1, lp1, rfl, _, _⟩ := own_val (hL.refAt 0 rfl).log
    have HL1 := Lib.hid hL
    clear hL
    unfold refV
    obtain ⟨b4, hb4⟩ : ∃ b, w.heap.size + 1 = b := ⟨_, rfl⟩
    rw [hb4] at HL1 ⊢
    obtain ⟨b2, hb2⟩ : ∃ b, w.heap.size = b := ⟨_, rfl⟩
    rw [hb2] at HL1 ⊢
    clear hb4 hb2
    obtain ⟨p0, p1, p2, f0, f1, f2, z4, z41, z42⟩ := HL1.out.c3 2 rfl
    go_wp2
    refine post_name ?_
    intro w2 hw2
    have HL3 := Lib.hid ((((HL1.out.set 2 rfl 0 (.slice ca1 (s.swap at_ 1 0).1.C.length cp1)).set 2 rfl 1 (.int .i64 (s.most : Int))).set 2 rfl 2 (.slice la1 (s.swap at_ 1 0).1.L.length lp1)).al1 hw2)
    simp only [List.set_cons_succ, List.set_cons_zero, List.setIfInBounds_toArray, List.cons_append, List.nil_append] at HL3
    clear hw2
    obtain ⟨y0, y1, y2, _, _, _, _, _, _⟩ := HL3.out.c3 2 rfl
    refine bodyPost_ret (v := .tuple #[.agg #[.slice ca1 (s.swap at_ 1 0).1.C.length cp1, .int .i64 (s.most : Int), .slice la1 (s.swap at_ 1 0).1.L.length lp1], .int .i64 4]) (by simp [results, Try.results69, go_sem, y0, y1, y2, Ar.swap, Ar.load]) rfl ?_
    exact ⟨_, _, _, by rw [HE.out]; rfl, HL3.out⟩
set_option maxHeartbeats 4000000 in
theorem rNew3 (T : List Nat) (w : World) (vc vl : Value) (s : Ar) (h : Led T w w [refT vc vl s]) :
    Calls Try.prog 67 #[refV vc s.most vl] w (RefGo T w (s.allocA 1).1 (fun vc' vl' => .tuple #[refV vc' s.most vl', .int .i64 ((s.allocA 1).2.1 : Int), .int .i64 ((s.allocA 1).2.2 : Int)])) := by
  obtain ⟨ca, cp, rfl, _, _⟩ := own_val (h.refAt 0 rfl).cel
  obtain ⟨la, lp, rfl, _, _⟩ := own_val (h.refAt 0 rfl).log
  have HL0 := Lib.hid h
  clear h
  unfold refV
  go_enter Try.func67, Try.ntmps67
  go_wp2_with fail
  refine (((HL0.out.alloc _ _).alloc _ _).refAlloc 0 rfl 1).mono ?_
  rintro e w1 ⟨vc', rfl, hL⟩
  simp only [List.nil_append, List.cons_append, List.set_cons_succ, List.set_cons_zero, World.size_alloc] at hL
  obtain ⟨ca1, cp1, rfl, _, _⟩ := own_val (hL.refAt 0 rfl).cel
  have HL1 := Lib.hid hL
  clear hL
  unfold refV
  obtain ⟨b4, hb4⟩ : ∃ b, w.heap.size + 1 = b := ⟨_, rfl⟩
  rw [hb4] at HL1 ⊢
  obtain ⟨b2, hb2⟩ : ∃ b, w.heap.size = b := ⟨_, rfl⟩
  rw [hb2] at HL1 ⊢
  clear hb4 hb2
  obtain ⟨p0, p1, p2, f0, f1, f2, z4, z41, z42⟩ := HL1.out.c3 2 rfl
  go_wp2
  refine post_name ?_
  intro w2 hw2
  have HL3 := Lib.hid (((HL1.out.set 2 rfl 0 (.slice ca1 (s.allocA 1).1.C.length cp1)).set 2 rfl 1 (.int .i64 (s.most : Int))).set 2 rfl 2 (.slice la s.L.length lp))
  simp only [List.set_cons_succ, List.set_cons_zero, List.setIfInBounds_toArray] at HL3
  rw [hw2] at HL3
  clear hw2
  obtain ⟨y0, y1, y2, _, _, _, _, _, _⟩ := HL3.out.c3 2 rfl
  refine bodyPost_ret (v := .tuple #[.agg #[.slice ca1 (s.allocA 1).1.C.length cp1, .int .i64 (s.most : Int), .slice la s.L.length lp], .int .i64 ((s.allocA 1).2.1 : Int), .int .i64 ((s.allocA 1).2.2 : Int)]) (by simp [results, Try.results67, go_sem, y0, y1, y2]) rfl ?_
  exact ⟨_, _, _, rfl, HL3.out⟩
end Go.Proofs.Ytegebecogbebaaa
