/-
  The reference's Do, Swap, Load and layer 3's Try, Held where there is no such cell: the arena is returned as it was.
-/
import Derived.Test.YtegebecogbebaaaFrameR
import Derived.Test.YtegebecogbebaaaTries
namespace Go.Proofs.Ytegebecogbebaaa
open Go.RowKit Go.Shelf
set_option maxRecDepth 100000
set_option linter.unusedVariables false
set_option linter.unusedSimpArgs false

set_option maxHeartbeats 1000000 in
theorem refDo_no (w : World) (vc vl : Value) (s : Ar) (op : Nat) (at_ : Int) (x y : Int) (h : RefAt w vc vl s) (hat : ¬ (0 ≤ at_ ∧ at_ < (s.C.length : Int))) :
    Calls Try.prog 61 #[refV vc s.most vl, .int .i64 (op : Int), .int .i64 at_, .int .u64 x, .int .u64 y] w fun e w' => e = .returned (.tuple #[refV vc s.most vl, .agg #[.int .i64 0, .int .i64 0, .int .u64 0, .int .u64 0, .bool false], .int .i64 4]) ∧ Touch [] w w' := by
  obtain ⟨aa, cp, rfl, hc1, hc2⟩ := own_val h.cel
  obtain ⟨la, lp, rfl, hl1, hl2⟩ := own_val h.log
  have hcl := h.clen
  clear h
  unfold refV
  go_enter Try.func61, Try.ntmps61
  by_cases h1 : at_ < 0
  · go_wp2
    refine bodyPost_ret (v := .tuple #[.agg #[.slice aa s.C.length cp, .int .i64 (s.most : Int), .slice la s.L.length lp], .agg #[.int .i64 0, .int .i64 0, .int .u64 0, .int .u64 0, .bool false], .int .i64 4]) (by simp [results, Try.results61, go_sem]) rfl ?_
    exact ⟨rfl, (((Touch.refl [] w).alloc _).alloc _).alloc _⟩
  · have h2 : (s.C.length : Int) ≤ at_ := by omega
    go_wp2
    refine bodyPost_ret (v := .tuple #[.agg #[.slice aa s.C.length cp, .int .i64 (s.most : Int), .slice la s.L.length lp], .agg #[.int .i64 0, .int .i64 0, .int .u64 0, .int .u64 0, .bool false], .int .i64 4]) (by simp [results, Try.results61, go_sem]) rfl ?_
    exact ⟨rfl, (((Touch.refl [] w).alloc _).alloc _).alloc _⟩
set_option maxHeartbeats 4000000 in
theorem rSwap_no (w : World) (vc vl : Value) (s : Ar) (at_ : Int) (x y : Nat) (h : RefAt w vc vl s) (hat : ¬ (0 ≤ at_ ∧ at_ < (s.C.length : Int))) :
    Calls Try.prog 88 #[refV vc s.most vl, .int .i64 at_, .int .u64 (x : Int), .int .u64 (y : Int)] w fun e w' => e = .returned (.tuple #[refV vc s.most vl, .int .u64 0, .bool false, .int .i64 4]) ∧ Touch [] w w' := by
  have HC := Lib.hid (fun W (ht : Touch [] w W) => refDo_no W vc vl s 3 at_ x y (h.touch ht) hat)
  obtain ⟨ca, cp, rfl, _, _⟩ := own_val h.cel
  obtain ⟨la, lp, rfl, _, _⟩ := own_val h.log
  clear h hat
  unfold refV at HC ⊢
  go_enter Try.func88, Try.ntmps88
  go_wp2_with fail
  refine (HC.out _ (((Touch.refl [] w).alloc _).alloc _)).mono ?_
  rintro e w1 ⟨rfl, ht⟩
  have HL1 := Lib.hid ((Led.nil' w).tal2 ht)
  simp only [List.nil_append, List.cons_append] at HL1
  clear ht HC
  obtain ⟨b4, hb4⟩ : ∃ b, w.heap.size + 1 = b := ⟨_, rfl⟩
  rw [hb4] at HL1 ⊢
  obtain ⟨b2, hb2⟩ : ∃ b, w.heap.size = b := ⟨_, rfl⟩
  rw [hb2] at HL1 ⊢
  clear hb4 hb2
  obtain ⟨p0, p1, p2, f0, f1, f2, z4, _, _⟩ := HL1.out.c3 1 rfl
  go_wp2_with fail
  refine wp_name ?_
  intro w2 hw2
  have HL2 := Lib.hid (HL1.out.al2 hw2)
  simp only [List.nil_append, List.cons_append] at HL2
  clear hw2
  obtain ⟨b8, hb8⟩ : ∃ b, w1.heap.size + 1 = b := ⟨_, rfl⟩
  rw [hb8] at HL2 ⊢
  obtain ⟨b7, hb7⟩ : ∃ b, w1.heap.size = b := ⟨_, rfl⟩
  rw [hb7] at HL2 ⊢
  clear hb8 hb7 HL1 p0 p1 p2 f0 f1 f2 z4
  obtain ⟨p0, p1, p2, f0, f1, f2, z4, _, _⟩ := HL2.out.c3 1 rfl
  obtain ⟨r0, r1, r2, _, _, _, zr, _, _⟩ := HL2.out.c3 2 rfl
  obtain ⟨_, _, q2, _, q4, _, _, _, _, _, zq, _, _⟩ := HL2.out.c5 3 rfl
  have n1 := HL2.out.ne 1 2 rfl rfl (by decide)
  have n2 := HL2.out.ne 1 3 rfl rfl (by decide)
  have n3 := Ne.symm n1
  have n4 := Ne.symm n2
  go_region_held3 (fun w' => w'.cell? ⟨b7, 0, none⟩ = some (.slice ca s.C.length cp) ∧ w'.cell? ⟨b7, 1, none⟩ = some (.int .i64 (s.most : Int)) ∧ w'.cell? ⟨b7, 2, none⟩ = some (.slice la s.L.length lp) ∧ w'.cell? ⟨b8, 2, none⟩ = some (.int .u64 0) ∧ w'.cell? ⟨b8, 4, none⟩ = some (.bool false)) (go_keep) (first | fail)
  go_wp2
  have HL3 := Lib.hid ((((HL2.out.set 1 rfl 0 (.slice ca s.C.length cp)).set 1 rfl 1 (.int .i64 (s.most : Int))).set 1 rfl 2 (.slice la s.L.length lp)).drew)
  simp only [List.set_cons_succ, List.set_cons_zero, List.setIfInBounds_toArray] at HL3
  obtain ⟨y0, y1, y2, _, _, _, _, _, _⟩ := HL3.out.c3 1 rfl
  refine bodyPost_ret (v := .tuple #[.agg #[.slice ca s.C.length cp, .int .i64 (s.most : Int), .slice la s.L.length lp], .int .u64 0, .bool false, .int .i64 4]) (by simp [results, Try.results88, go_sem, y0, y1, y2]) rfl ?_
  exact ⟨rfl, HL3.out.tch⟩
set_option maxHeartbeats 4000000 in
theorem rTry_no (w : World) (vc vl : Value) (s : Ar) (at_ : Int) (h : RefAt w vc vl s) (hat : ¬ (0 ≤ at_ ∧ at_ < (s.C.length : Int))) :
    Calls Try.prog 68 #[refV vc s.most vl, .int .i64 at_] w fun e w' => e = .returned (.tuple #[refV vc s.most vl, .bool false, .int .i64 4]) ∧ Touch [] w w' := by
  have HC := Lib.hid (fun W (ht : Touch [] w W) => rSwap_no W vc vl s at_ 0 1 (h.touch ht) hat)
  obtain ⟨ca, cp, rfl, _, _⟩ := own_val h.cel
  obtain ⟨la, lp, rfl, _, _⟩ := own_val h.log
  clear h hat
  unfold refV at HC ⊢
  go_enter Try.func68, Try.ntmps68
  go_wp2_with fail
  refine (HC.out _ (((Touch.refl [] w).alloc _).alloc _)).mono ?_
  rintro e w1 ⟨rfl, ht⟩
  have HL1 := Lib.hid ((Led.nil' w).tal2 ht)
  simp only [List.nil_append, List.cons_append] at HL1
  clear ht HC
  obtain ⟨b4, hb4⟩ : ∃ b, w.heap.size + 1 = b := ⟨_, rfl⟩
  rw [hb4] at HL1 ⊢
  obtain ⟨b2, hb2⟩ : ∃ b, w.heap.size = b := ⟨_, rfl⟩
  rw [hb2] at HL1 ⊢
  clear hb4 hb2
  obtain ⟨p0, p1, p2, f0, f1, f2, z4, z41, z42⟩ := HL1.out.c3 1 rfl
  go_wp2
  refine post_name ?_
  intro w2 hw2
  have HL3 := Lib.hid ((((HL1.out.set 1 rfl 0 (.slice ca s.C.length cp)).set 1 rfl 1 (.int .i64 (s.most : Int))).set 1 rfl 2 (.slice la s.L.length lp)).al1 hw2)
  simp only [List.set_cons_succ, List.set_cons_zero, List.setIfInBounds_toArray, List.cons_append, List.nil_append] at HL3
  clear hw2
  obtain ⟨y0, y1, y2, _, _, _, _, _, _⟩ := HL3.out.c3 1 rfl
  refine bodyPost_ret (v := .tuple #[.agg #[.slice ca s.C.length cp, .int .i64 (s.most : Int), .slice la s.L.length lp], .bool false, .int .i64 4]) (by simp [results, Try.results68, go_sem, y0, y1, y2]) rfl ?_
  exact ⟨rfl, HL3.out.tch⟩
end Go.Proofs.Ytegebecogbebaaa
