/-
  act of law 01 (betrothallaw01/law.go): Store, Alloc, Copy; all calls.
-/
import Derived.Test.YtegebecogbebaaaAct01
namespace Go.Proofs.Ytegebecogbebaaa
open Go.RowKit Go.Shelf
set_option maxRecDepth 100000
set_option linter.unusedVariables false
set_option linter.unusedSimpArgs false


set_option maxHeartbeats 4000000 in
theorem act_store (T : List Nat) (w : World) (g : Nat) (s : Ar) (vc vl : Value) (at_ : Int) (x y : Nat) (hx : Wd x) (h : Led T w w [arena g s, refT vc vl s]) (hL2 : s.L.length ≤ 1048576) :
    Calls Try.prog 30 #[.pointer (some ⟨g, 0, none⟩), refV vc s.most vl, .agg #[.int .i64 2, .int .i64 at_, .int .u64 (x : Int), .int .u64 (y : Int)]] w (Acted T w s ⟨2, at_, x, y⟩) := by
  obtain ⟨ca, cp, rfl, _, _⟩ := own_val (h.refAt 1 rfl).cel
  obtain ⟨la, lp, rfl, _, _⟩ := own_val (h.refAt 1 rfl).log
  have HL0 := Lib.hid h
  clear h
  unfold refV
  go_enter Try.func30, Try.ntmps30
  go_wp2_with fail
  refine ((((HL0.out.alloc _ _).alloc _ _).alloc _ _).refDid 1 rfl (fun hr => refStore _ _ _ s at_ hr hL2 x 0)).mono ?_
  rintro e w1 ⟨vc', vl', rfl, hL⟩
  simp only [List.nil_append, List.cons_append, List.set_cons_succ, List.set_cons_zero, World.size_alloc] at hL
  obtain ⟨ca1, cp1, rfl, _, _⟩ := own_val (hL.refAt 1 rfl).cel
  obtain ⟨la1, lp1, rfl, _, _⟩ := own_val (hL.refAt 1 rfl).log
  have HL1 := Lib.hid hL
  clear hL
  unfold refV
  obtain ⟨b7, hb7⟩ : ∃ b, w.heap.size + 1 + 1 = b := ⟨_, rfl⟩
  rw [hb7] at HL1 ⊢
  obtain ⟨b5, hb5⟩ : ∃ b, w.heap.size + 1 = b := ⟨_, rfl⟩
  rw [hb5] at HL1 ⊢
  obtain ⟨b4, hb4⟩ : ∃ b, w.heap.size = b := ⟨_, rfl⟩
  rw [hb4] at HL1 ⊢
  clear hb7 hb5 hb4
  obtain ⟨a0, a1, a2, a3, _, _, _, _, za, za1, za2⟩ := HL1.out.c4 3 rfl
  obtain ⟨_, _, _, _, _, _, z7, z71, z72⟩ := HL1.out.c3 4 rfl
  go_wp2_with fail
  refine wp_name ?_
  intro w2 hw2
  have HL2 := Lib.hid (HL1.out.al2 hw2)
  simp only [List.nil_append, List.cons_append] at HL2
  clear hw2 a0 a1 a2 a3 za za1 za2 z7 z71 z72
  obtain ⟨b15, hb15⟩ : ∃ b, w1.heap.size + 1 = b := ⟨_, rfl⟩
  rw [hb15] at HL2 ⊢
  obtain ⟨b14, hb14⟩ : ∃ b, w1.heap.size = b := ⟨_, rfl⟩
  rw [hb14] at HL2 ⊢
  clear hb15 hb14 HL1
  obtain ⟨a0, a1, a2, a3, _, _, _, _, za, za1, za2⟩ := HL2.out.c4 3 rfl
  obtain ⟨p0, p1, p2, f70, f71, f72, z7, z71, z72⟩ := HL2.out.c3 4 rfl
  obtain ⟨r0, r1, r2, _, _, _, zr, zr1, zr2⟩ := HL2.out.c3 5 rfl
  have n1 := HL2.out.ne 4 5 rfl rfl (by decide)
  have n2 := HL2.out.ne 4 3 rfl rfl (by decide)
  have n3 := Ne.symm n1
  have n4 := Ne.symm n2
  go_region_held3 (fun w' => w'.cell? ⟨b14, 0, none⟩ = some (.slice ca1 (s.store at_ x).1.C.length cp1) ∧ w'.cell? ⟨b14, 1, none⟩ = some (.int .i64 (s.most : Int)) ∧ w'.cell? ⟨b14, 2, none⟩ = some (.slice la1 (s.store at_ x).1.L.length lp1) ∧ w'.cell? ⟨b5, 1, none⟩ = some (.int .i64 at_) ∧ w'.cell? ⟨b5, 2, none⟩ = some (.int .u64 (x : Int))) (go_keep)
    (first
    | (go_at_call 23; refine (HL2.out.drew.ar 0 rfl (fun fp hI => Store_any _ g fp s at_ hI (by omega) x hx)).mono ?_; rintro e w3 ⟨rfl, hL⟩; have HL3 := Lib.hid hL; simp only [List.set_cons_succ, List.set_cons_zero] at HL3; obtain ⟨a0, a1, a2, a3, _, _, _, _, za, za1, za2⟩ := HL3.out.c4 3 rfl; obtain ⟨p0, p1, p2, f70, f71, f72, z7, z71, z72⟩ := HL3.out.c3 4 rfl; obtain ⟨r0, r1, r2, _, _, _, zr, zr1, zr2⟩ := HL3.out.c3 5 rfl; clear hL)
    | (go_at_call 28; refine (num01 _ _).mono ?_; rintro e w' ⟨rfl, rfl⟩))
  go_wp2
  have HL4 := Lib.hid (((HL3.out.set 4 rfl 0 (.slice ca1 (s.store at_ x).1.C.length cp1)).set 4 rfl 1 (.int .i64 (s.most : Int))).set 4 rfl 2 (.slice la1 (s.store at_ x).1.L.length lp1))
  simp only [List.set_cons_succ, List.set_cons_zero, List.setIfInBounds_toArray] at HL4
  obtain ⟨y0, y1, y2, _, _, _, _, _, _⟩ := HL4.out.c3 4 rfl
  refine bodyPost_ret (v := .tuple #[.pointer (some ⟨g, 0, none⟩), .agg #[.slice ca1 (s.store at_ x).1.C.length cp1, .int .i64 (s.most : Int), .slice la1 (s.store at_ x).1.L.length lp1], .bool true]) (by simp [results, Try.results30, go_sem, y0, y1, y2]) rfl ?_
  exact ⟨g, _, _, _, rfl, HL4.out⟩
set_option maxHeartbeats 4000000 in
theorem act_alloc (T : List Nat) (w : World) (g : Nat) (s : Ar) (vc vl : Value) (at_ : Int) (x y : Nat) (h : Led T w w [arena g s, refT vc vl s]) (hL2 : s.L.length ≤ 1048576) :
    Calls Try.prog 30 #[.pointer (some ⟨g, 0, none⟩), refV vc s.most vl, .agg #[.int .i64 0, .int .i64 at_, .int .u64 (x : Int), .int .u64 (y : Int)]] w (Acted T w s ⟨0, at_, x, y⟩) := by
  obtain ⟨ca, cp, rfl, _, _⟩ := own_val (h.refAt 1 rfl).cel
  obtain ⟨la, lp, rfl, _, _⟩ := own_val (h.refAt 1 rfl).log
  have HL0 := Lib.hid h
  clear h
  unfold refV
  go_enter Try.func30, Try.ntmps30
  go_wp2_with fail
  refine ((((HL0.out.alloc _ _).alloc _ _).alloc _ _).refAlloc 1 rfl at_).mono ?_
  rintro e w1 ⟨vc', rfl, hL⟩
  simp only [List.nil_append, List.cons_append, List.set_cons_succ, List.set_cons_zero, World.size_alloc] at hL
  obtain ⟨ca1, cp1, rfl, _, _⟩ := own_val (hL.refAt 1 rfl).cel
  skip
  have HL1 := Lib.hid hL
  clear hL
  unfold refV
  obtain ⟨b7, hb7⟩ : ∃ b, w.heap.size + 1 + 1 = b := ⟨_, rfl⟩
  rw [hb7] at HL1 ⊢
  obtain ⟨b5, hb5⟩ : ∃ b, w.heap.size + 1 = b := ⟨_, rfl⟩
  rw [hb5] at HL1 ⊢
  obtain ⟨b4, hb4⟩ : ∃ b, w.heap.size = b := ⟨_, rfl⟩
  rw [hb4] at HL1 ⊢
  clear hb7 hb5 hb4
  obtain ⟨a0, a1, a2, a3, _, _, _, _, za, za1, za2⟩ := HL1.out.c4 3 rfl
  obtain ⟨_, _, _, _, _, _, z7, z71, z72⟩ := HL1.out.c3 4 rfl
  go_wp2_with fail
  refine ((HL1.out.alloc _ _).ar 0 rfl (fun fp hI => Alloc_any _ g fp s at_ hI)).mono ?_
  rintro e w2 ⟨rfl, hL⟩
  simp only [List.nil_append, List.cons_append, List.set_cons_succ, List.set_cons_zero, World.size_alloc] at hL
  have HL2 := Lib.hid hL
  clear hL a0 a1 a2 a3 za za1 za2 z7 z71 z72
  obtain ⟨b14, hb14⟩ : ∃ b, w1.heap.size = b := ⟨_, rfl⟩
  rw [hb14] at HL2 ⊢
  clear hb14 HL1
  obtain ⟨p0, p1, p2, f70, f71, f72, z7, z71, z72⟩ := HL2.out.c3 4 rfl
  obtain ⟨r0, r1, r2, _, _, _, zr, zr1, zr2⟩ := HL2.out.c3 5 rfl
  have n1 := HL2.out.ne 4 5 rfl rfl (by decide)
  have n3 := Ne.symm n1
  go_wp2_with fail
  go_region_held3 (fun w' => w'.cell? ⟨b14, 0, none⟩ = some (.slice ca1 (s.allocA at_).1.C.length cp1) ∧ w'.cell? ⟨b14, 1, none⟩ = some (.int .i64 (s.most : Int)) ∧ w'.cell? ⟨b14, 2, none⟩ = some (.slice la s.L.length lp)) (go_keep) (first | (go_at_call 28; refine (num01 _ _).mono ?_; rintro e w' ⟨rfl, rfl⟩))
  go_wp2
  have HL3 := Lib.hid ((((HL2.out.set 4 rfl 0 (.slice ca1 (s.allocA at_).1.C.length cp1)).set 4 rfl 1 (.int .i64 (s.most : Int))).set 4 rfl 2 (.slice la s.L.length lp)).drew)
  simp only [List.set_cons_succ, List.set_cons_zero, List.setIfInBounds_toArray] at HL3
  obtain ⟨y0, y1, y2, _, _, _, _, _, _⟩ := HL3.out.c3 4 rfl
  refine bodyPost_ret (v := .tuple #[.pointer (some ⟨g, 0, none⟩), .agg #[.slice ca1 (s.allocA at_).1.C.length cp1, .int .i64 (s.most : Int), .slice la s.L.length lp], .bool true]) (by simp [results, Try.results30, go_sem, y0, y1, y2]) rfl ?_
  exact ⟨g, _, _, _, rfl, HL3.out⟩
set_option maxHeartbeats 4000000 in
theorem act_copy (T : List Nat) (w : World) (g : Nat) (s : Ar) (vc vl : Value) (what at_ : Int) (x y : Nat) (h0 : (what == 0) = false) (h1 : (what == 1) = false) (h2 : (what == 2) = false) (h3 : (what == 3) = false) (h4 : (what == 4) = false) (h5 : (what == 5) = false)
    (h : Led T w w [arena g s, refT vc vl s]) :
    Calls Try.prog 30 #[.pointer (some ⟨g, 0, none⟩), refV vc s.most vl, .agg #[.int .i64 what, .int .i64 at_, .int .u64 (x : Int), .int .u64 (y : Int)]] w (Acted T w s ⟨what, at_, x, y⟩) := by
  obtain ⟨ca, cp, rfl, _, _⟩ := own_val (h.refAt 1 rfl).cel
  obtain ⟨la, lp, rfl, _, _⟩ := own_val (h.refAt 1 rfl).log
  have HS : Hid (actS s ⟨what, at_, x, y⟩ = s) := by
    simp only [beq_eq_false_iff_ne] at h0 h1 h2 h3 h4 h5
    simp [Hid, actS, h0, h1, h2, h3, h4, h5]
  have HL0 := Lib.hid h
  clear h
  unfold refV
  go_enter Try.func30, Try.ntmps30
  go_wp2_with fail
  refine wp_name ?_
  intro w2 hw2
  have HL2 := Lib.hid (HL0.out.al3 hw2)
  simp only [List.nil_append, List.cons_append] at HL2
  clear hw2
  obtain ⟨b7, hb7⟩ : ∃ b, w.heap.size + 1 + 1 = b := ⟨_, rfl⟩
  rw [hb7] at HL2 ⊢
  obtain ⟨b5, hb5⟩ : ∃ b, w.heap.size + 1 = b := ⟨_, rfl⟩
  rw [hb5] at HL2 ⊢
  obtain ⟨b4, hb4⟩ : ∃ b, w.heap.size = b := ⟨_, rfl⟩
  rw [hb4] at HL2 ⊢
  clear hb7 hb5 hb4
  obtain ⟨a0, a1, a2, _, _, _, za, za1, za2⟩ := HL2.out.c3 2 rfl
  obtain ⟨p0, p1, p2, f70, f71, f72, z7, z71, z72⟩ := HL2.out.c3 4 rfl
  have n1 := HL2.out.ne 4 2 rfl rfl (by decide)
  have n3 := Ne.symm n1
  go_region_held3 (fun w' => w'.cell? ⟨b4, 0, none⟩ = some (.slice ca s.C.length cp) ∧ w'.cell? ⟨b4, 1, none⟩ = some (.int .i64 (s.most : Int)) ∧ w'.cell? ⟨b4, 2, none⟩ = some (.slice la s.L.length lp)) (go_keep)
    (first
    | (go_at_call 37; refine (HL2.out.drew.arCopy 0 rfl).mono ?_; rintro e w3 ⟨g', rfl, hL⟩; have HL3 := Lib.hid (hL.stand 0); simp only [List.set_cons_succ, List.set_cons_zero] at HL3; obtain ⟨a0, a1, a2, _, _, _, za, za1, za2⟩ := HL3.out.c3 2 rfl; obtain ⟨p0, p1, p2, f70, f71, f72, z7, z71, z72⟩ := HL3.out.c3 4 rfl; clear hL))
  go_wp2
  have HL4 := Lib.hid (((HL3.out.set 4 rfl 0 (.slice ca s.C.length cp)).set 4 rfl 1 (.int .i64 (s.most : Int))).set 4 rfl 2 (.slice la s.L.length lp))
  simp only [List.set_cons_succ, List.set_cons_zero, List.setIfInBounds_toArray] at HL4
  obtain ⟨y0, y1, y2, _, _, _, _, _, _⟩ := HL4.out.c3 4 rfl
  refine bodyPost_ret (v := .tuple #[.pointer (some ⟨g', 0, none⟩), .agg #[.slice ca s.C.length cp, .int .i64 (s.most : Int), .slice la s.L.length lp], .bool true]) (by simp [results, Try.results30, go_sem, y0, y1, y2]) rfl ?_
  exact ⟨g', _, _, _, rfl, by rw [HS.out]; exact HL4.out⟩

/-- act, whatever is called. -/
theorem act01 (T : List Nat) (w : World) (g : Nat) (s : Ar) (vc vl : Value) (c : Call01) (hc : c.Ok) (h : Led T w w [arena g s, refT vc vl s]) (hL2 : s.L.length ≤ 1048576) :
    Calls Try.prog 30 #[.pointer (some ⟨g, 0, none⟩), refV vc s.most vl, .agg #[.int .i64 c.what, .int .i64 c.at_, .int .u64 (c.x : Int), .int .u64 (c.y : Int)]] w (Acted T w s c) := by
  obtain ⟨what, at_, x, y⟩ := c
  obtain ⟨_, _, hx, hy⟩ := hc
  by_cases h0 : what = 0
  · subst h0; exact act_alloc T w g s vc vl at_ x y h hL2
  by_cases h1 : what = 1
  · subst h1; exact act_load T w g s vc vl at_ x y h hL2
  by_cases h2 : what = 2
  · subst h2; exact act_store T w g s vc vl at_ x y hx h hL2
  by_cases h3 : what = 3
  · subst h3; exact act_swap T w g s vc vl at_ x y hx hy h hL2
  by_cases h4 : what = 4
  · subst h4; exact act_swap4 T w g s vc vl at_ x y hx hy h hL2
  by_cases h5 : what = 5
  · subst h5; exact act_add T w g s vc vl at_ x y hx h hL2
  exact act_copy T w g s vc vl what at_ x y (by simpa using h0) (by simpa using h1) (by simpa using h2) (by simpa using h3) (by simpa using h4) (by simpa using h5) h
end Go.Proofs.Ytegebecogbebaaa
