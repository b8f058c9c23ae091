/-
  act of law 03 (betrothallaw03/law.go): States, of no such cell.
-/
import Derived.Test.YtegebecogbebaaaAct03c
namespace Go.Proofs.Ytegebecogbebaaa
open Go.RowKit Go.Shelf
set_option maxRecDepth 100000
set_option linter.unusedVariables false
set_option linter.unusedSimpArgs false

set_option maxHeartbeats 8000000 in
theorem act03_states_out (T : List Nat) (w : World) (g : Nat) (s : Ar) (vc vl : Value) (at_ n : Int) (hat : In64 at_) (hmx : at_ ≠ 9223372036854775807) (hin : ¬ ∀ j, j < 2 → inR s (([at_, at_ + 1] : List Int).getD j 0)) (h : Led T w w [arena g s, refT vc vl s]) (hL : s.L.length ≤ 1000000) :
    Calls Try.prog 39 #[.pointer (some ⟨g, 0, none⟩), refV vc s.most vl, .agg #[.int .i64 8, .int .i64 at_, .int .i64 n]] w (Acted03 T w g s) := by
  have HIN := Lib.hid hin
  unfold In64 at hat
  clear hin
  obtain ⟨hwd, _, _, _⟩ := h.artAll 0 rfl
  obtain ⟨ca, cp, rfl, _, _⟩ := own_val (h.refAt 1 rfl).cel
  obtain ⟨la, lp, rfl, _, _⟩ := own_val (h.refAt 1 rfl).log
  have HL0 := Lib.hid h
  have HW := Lib.hid hwd
  have hwr : IntKind.i64.wrap (at_ + 1) = at_ + 1 := IntWalk.i64_in _ (by omega)
  have hne : (at_ == 9223372036854775807) = false := by simp; omega
  clear h hwd
  unfold refV
  go_enter Try.func39, Try.ntmps39
  go_upto_region 36 with fail
  refine wp_name ?_
  intro w1 hw1
  have HL1 := Lib.hid (HL0.out.al4 hw1)
  simp only [List.nil_append, List.cons_append] at HL1
  clear hw1 HL0
  obtain ⟨b7, hb7⟩ : ∃ b, w.heap.size + 1 + 1 + 1 = b := ⟨_, rfl⟩
  rw [hb7] at HL1 ⊢
  obtain ⟨b6, hb6⟩ : ∃ b, w.heap.size + 1 + 1 = b := ⟨_, rfl⟩
  rw [hb6] at HL1 ⊢
  obtain ⟨b5, hb5⟩ : ∃ b, w.heap.size + 1 = b := ⟨_, rfl⟩
  rw [hb5] at HL1 ⊢
  obtain ⟨b4, hb4⟩ : ∃ b, w.heap.size = b := ⟨_, rfl⟩
  rw [hb4] at HL1 ⊢
  clear hb7 hb6 hb5 hb4
  obtain ⟨p0, p1, p2, _, _, _, z4, z41, z42⟩ := HL1.out.c3 2 rfl
  obtain ⟨a0, a1, a2, _, _, _, z5, z51, z52⟩ := HL1.out.c3 3 rfl
  go_wp2_with fail
  refine (Led.rSt_out (l1 := [_, _, _, _, _]) ((HL1.out.ints at_ (at_ + 1)).sel [0, 2, 3, 4, 5, 1, 6] rfl (by decide)) rfl (by decide) HIN.out).mono ?_
  rintro e w2 ⟨vc', vl', rfl, h2⟩
  simp only [List.nil_append, List.cons_append] at h2
  obtain ⟨ca1, cp1, rfl, _, _⟩ := own_val (h2.refAt 5 rfl).cel
  obtain ⟨la1, lp1, rfl, _, _⟩ := own_val (h2.refAt 5 rfl).log
  have HL2 := Lib.hid h2
  clear h2 HL1 p0 p1 p2 z4 z41 z42 a0 a1 a2 z5 z51 z52
  go_upto_region 37 with fail
  refine wp_name ?_
  intro w3 hw3
  have HL3 := Lib.hid (HL2.out.al1 hw3)
  simp only [List.nil_append, List.cons_append] at HL3
  clear hw3
  obtain ⟨b8, hb8⟩ : ∃ b, w2.heap.size = b := ⟨_, rfl⟩
  rw [hb8] at HL3 ⊢
  clear hb8 HL2
  obtain ⟨a0, a1, a2, _, _, _, z5, z51, z52⟩ := HL3.out.c3 2 rfl
  go_wp2_with fail
  refine (Led.sSt_out (l1 := [_, _, _, _, _, _, _]) ((HL3.out.ints at_ (at_ + 1)).sel [1, 2, 3, 4, 5, 6, 7, 0, 8] rfl (by decide)) rfl (by decide) HIN.out).mono ?_
  rintro e w4 ⟨rfl, h4⟩
  simp only [List.nil_append, List.cons_append] at h4
  have HL4 := Lib.hid h4
  clear h4 HL3 a0 a1 a2 z5 z51 z52
  obtain ⟨p0, p1, p2, f0, f1, f2, z6, _, _⟩ := HL4.out.c3 2 rfl
  obtain ⟨q0, fq, z7, _, _⟩ := HL4.out.c1 3 rfl
  obtain ⟨r0, r1, r2, _, _, _, zr, _, _⟩ := HL4.out.c3 6 rfl
  have n1 := HL4.out.ne 2 6 rfl rfl (by decide)
  have n2 := HL4.out.ne 3 6 rfl rfl (by decide)
  have n5 := HL4.out.ne 2 3 rfl rfl (by decide)
  have n3 := Ne.symm n1
  have n4 := Ne.symm n2
  have n6 := Ne.symm n5
  go_wp2_with fail
  go_region_held3 (fun w' => w'.cell? ⟨b8, 0, none⟩ = some (.slice ca1 s.C.length cp1) ∧ w'.cell? ⟨b8, 1, none⟩ = some (.int .i64 (s.most : Int)) ∧ w'.cell? ⟨b8, 2, none⟩ = some (.slice la1 s.L.length lp1)) (go_keep)
    (first
    | (go_at_call 72; refine (bools_same _ _ _ 0 [] rfl (by omega) (World.ownsRow_nil _ _ _ _) (World.ownsRow_nil _ _ _ _)).mono ?_; rintro e w5 ⟨rfl, ht⟩; have HL5 := Lib.hid (HL4.out.drew.touch ht); clear ht; obtain ⟨p0, p1, p2, f0, f1, f2, z6, _, _⟩ := HL5.out.c3 2 rfl; obtain ⟨q0, fq, z7, _, _⟩ := HL5.out.c1 3 rfl; obtain ⟨r0, r1, r2, _, _, _, zr, _, _⟩ := HL5.out.c3 6 rfl)
    | (go_at_call 16; refine (num03 _ _).mono ?_; rintro e w' ⟨rfl, rfl⟩))
  go_wp2
  have HL6 := Lib.hid ((((HL5.out.set 2 rfl 0 (.slice ca1 s.C.length cp1)).set 2 rfl 1 (.int .i64 (s.most : Int))).set 2 rfl 2 (.slice la1 s.L.length lp1)).set 3 rfl 0 (.bool true))
  simp only [List.set_cons_succ, List.set_cons_zero, List.setIfInBounds_toArray] at HL6
  obtain ⟨y0, y1, y2, _, _, _, _, _, _⟩ := HL6.out.c3 2 rfl
  obtain ⟨y3, _, _, _, _⟩ := HL6.out.c1 3 rfl
  refine bodyPost_ret (v := .tuple #[.agg #[.slice ca1 s.C.length cp1, .int .i64 (s.most : Int), .slice la1 s.L.length lp1], .bool true]) (by simp [results, Try.results39, go_sem, y0, y1, y2, y3]) rfl ?_
  exact ⟨s, _, _, [], rfl, ⟨rfl, by omega⟩, HL6.out.sel [7, 4] rfl (by decide)⟩
end Go.Proofs.Ytegebecogbebaaa
