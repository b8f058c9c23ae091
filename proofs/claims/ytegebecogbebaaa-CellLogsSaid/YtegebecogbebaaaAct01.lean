/-
  act of law 01 (betrothallaw01/law.go): a call by the arena and by the reference.
-/
import Derived.Test.YtegebecogbebaaaRefT
import Derived.Test.YtegebecogbebaaaWorks01
namespace Go.Proofs.Ytegebecogbebaaa
open Go.RowKit Go.Shelf
set_option maxRecDepth 100000
set_option linter.unusedVariables false
set_option linter.unusedSimpArgs false

theorem still_of {P : Program} {f : FuncId} {args : Array Value} {w : World} {v : Value} (h : Calls P f args w fun e w' => e = .returned v ∧ w = w') : Calls P f args w fun e w' => e = .returned v ∧ w' = w := h.mono fun _ _ ⟨h1, h2⟩ => ⟨h1, h2.symm⟩



set_option maxHeartbeats 4000000 in
theorem act_load (T : List Nat) (w : World) (g : Nat) (s : Ar) (vc vl : Value) (at_ : Int) (x y : Nat) (h : Led T w w [arena g s, refT vc vl s]) (hL2 : s.L.length ≤ 1048576) :
    Calls Try.prog 30 #[.pointer (some ⟨g, 0, none⟩), refV vc s.most vl, .agg #[.int .i64 1, .int .i64 at_, .int .u64 (x : Int), .int .u64 (y : Int)]] w (Acted T w s ⟨1, at_, x, y⟩) := by
  obtain ⟨ca, cp, rfl, _, _⟩ := own_val (h.refAt 1 rfl).cel
  obtain ⟨la, lp, rfl, _, _⟩ := own_val (h.refAt 1 rfl).log
  have HL0 := Lib.hid h
  clear h
  unfold refV
  go_enter Try.func30, Try.ntmps30
  go_wp2_with fail
  refine ((((HL0.out.alloc _ _).alloc _ _).alloc _ _).refDid 1 rfl (fun hr => refLoad _ _ _ s at_ hr hL2 0 0)).mono ?_
  rintro e w1 ⟨vc', vl', rfl, hL⟩
  simp only [List.nil_append, List.cons_append, List.set_cons_succ, List.set_cons_zero, World.size_alloc] at hL
  obtain ⟨ca1, cp1, rfl, _, _⟩ := own_val (hL.refAt 1 rfl).cel
  obtain ⟨la1, lp1, rfl, _, _⟩ := own_val (hL.refAt 1 rfl).log
  have HL1 := Lib.hid hL
  clear hL
  unfold refV
  obtain ⟨b7, hb7⟩ : ∃ b, w.heap.size + 1 + 1 = b := ⟨_, rfl⟩
  rw [hb7] at HL1 ⊢
  obtain ⟨b5, hb5⟩ : ∃ b, w.heap.size + 1 = b := ⟨_, rfl⟩
  rw [hb5] at HL1 ⊢
  obtain ⟨b4, hb4⟩ : ∃ b, w.heap.size = b := ⟨_, rfl⟩
  rw [hb4] at HL1 ⊢
  clear hb7 hb5 hb4
  obtain ⟨a0, a1, a2, a3, _, _, _, _, za, za1, za2⟩ := HL1.out.c4 3 rfl
  obtain ⟨_, _, _, _, _, _, z7, z71, z72⟩ := HL1.out.c3 4 rfl
  go_wp2_with fail
  refine (((HL1.out.alloc _ _).alloc _ _).ar 0 rfl (fun fp hI => Load_any _ g fp s at_ hI (by omega))).mono ?_
  rintro e w2 ⟨rfl, hL⟩
  simp only [List.nil_append, List.cons_append, List.set_cons_succ, List.set_cons_zero, World.size_alloc] at hL
  have HL2 := Lib.hid hL
  clear hL a0 a1 a2 a3 za za1 za2 z7 z71 z72
  obtain ⟨b15, hb15⟩ : ∃ b, w1.heap.size + 1 = b := ⟨_, rfl⟩
  rw [hb15] at HL2 ⊢
  obtain ⟨b14, hb14⟩ : ∃ b, w1.heap.size = b := ⟨_, rfl⟩
  rw [hb14] at HL2 ⊢
  clear hb15 hb14 HL1
  obtain ⟨p0, p1, p2, f70, f71, f72, z7, z71, z72⟩ := HL2.out.c3 4 rfl
  obtain ⟨r0, r1, r2, _, _, _, zr, zr1, zr2⟩ := HL2.out.c3 5 rfl
  obtain ⟨_, _, q2, _, q4, _, _, _, _, _, zq, zq1, zq2⟩ := HL2.out.c5 6 rfl
  have n1 := HL2.out.ne 4 5 rfl rfl (by decide)
  have n2 := HL2.out.ne 4 6 rfl rfl (by decide)
  have n3 := Ne.symm n1
  have n4 := Ne.symm n2
  go_wp2_with fail
  go_region_held3 (fun w' => w'.cell? ⟨b14, 0, none⟩ = some (.slice ca1 (s.load at_).1.C.length cp1) ∧ w'.cell? ⟨b14, 1, none⟩ = some (.int .i64 (s.most : Int)) ∧ w'.cell? ⟨b14, 2, none⟩ = some (.slice la1 (s.load at_).1.L.length lp1) ∧ w'.cell? ⟨b15, 2, none⟩ = some (.int .u64 ((s.load at_).2.1.old : Int))) (go_keep)
    (first | (go_at_call 28; refine (num01 _ _).mono ?_; rintro e w' ⟨rfl, rfl⟩))
  go_wp2
  have HL3 := Lib.hid ((((HL2.out.set 4 rfl 0 (.slice ca1 (s.load at_).1.C.length cp1)).set 4 rfl 1 (.int .i64 (s.most : Int))).set 4 rfl 2 (.slice la1 (s.load at_).1.L.length lp1)).drew)
  simp only [List.set_cons_succ, List.set_cons_zero, List.setIfInBounds_toArray] at HL3
  obtain ⟨y0, y1, y2, _, _, _, _, _, _⟩ := HL3.out.c3 4 rfl
  refine bodyPost_ret (v := .tuple #[.pointer (some ⟨g, 0, none⟩), .agg #[.slice ca1 (s.load at_).1.C.length cp1, .int .i64 (s.most : Int), .slice la1 (s.load at_).1.L.length lp1], .bool true]) (by simp [results, Try.results30, go_sem, y0, y1, y2]) rfl ?_
  exact ⟨g, _, _, _, rfl, HL3.out⟩
set_option maxHeartbeats 4000000 in
theorem act_add (T : List Nat) (w : World) (g : Nat) (s : Ar) (vc vl : Value) (at_ : Int) (x y : Nat) (hx : Wd x) (h : Led T w w [arena g s, refT vc vl s]) (hL2 : s.L.length ≤ 1048576) :
    Calls Try.prog 30 #[.pointer (some ⟨g, 0, none⟩), refV vc s.most vl, .agg #[.int .i64 5, .int .i64 at_, .int .u64 (x : Int), .int .u64 (y : Int)]] w (Acted T w s ⟨5, at_, x, y⟩) := by
  obtain ⟨ca, cp, rfl, _, _⟩ := own_val (h.refAt 1 rfl).cel
  obtain ⟨la, lp, rfl, _, _⟩ := own_val (h.refAt 1 rfl).log
  have HL0 := Lib.hid h
  clear h
  unfold refV
  go_enter Try.func30, Try.ntmps30
  go_wp2_with fail
  refine ((((HL0.out.alloc _ _).alloc _ _).alloc _ _).refDid 1 rfl (fun hr => refAdd _ _ _ s at_ hr hL2 x 0)).mono ?_
  rintro e w1 ⟨vc', vl', rfl, hL⟩
  simp only [List.nil_append, List.cons_append, List.set_cons_succ, List.set_cons_zero, World.size_alloc] at hL
  obtain ⟨ca1, cp1, rfl, _, _⟩ := own_val (hL.refAt 1 rfl).cel
  obtain ⟨la1, lp1, rfl, _, _⟩ := own_val (hL.refAt 1 rfl).log
  have HL1 := Lib.hid hL
  clear hL
  unfold refV
  obtain ⟨b7, hb7⟩ : ∃ b, w.heap.size + 1 + 1 = b := ⟨_, rfl⟩
  rw [hb7] at HL1 ⊢
  obtain ⟨b5, hb5⟩ : ∃ b, w.heap.size + 1 = b := ⟨_, rfl⟩
  rw [hb5] at HL1 ⊢
  obtain ⟨b4, hb4⟩ : ∃ b, w.heap.size = b := ⟨_, rfl⟩
  rw [hb4] at HL1 ⊢
  clear hb7 hb5 hb4
  obtain ⟨a0, a1, a2, a3, _, _, _, _, za, za1, za2⟩ := HL1.out.c4 3 rfl
  obtain ⟨_, _, _, _, _, _, z7, z71, z72⟩ := HL1.out.c3 4 rfl
  go_wp2_with fail
  refine (((HL1.out.alloc _ _).alloc _ _).ar 0 rfl (fun fp hI => Add_any _ g fp s at_ hI (by omega) x hx)).mono ?_
  rintro e w2 ⟨rfl, hL⟩
  simp only [List.nil_append, List.cons_append, List.set_cons_succ, List.set_cons_zero, World.size_alloc] at hL
  have HL2 := Lib.hid hL
  clear hL a0 a1 a2 a3 za za1 za2 z7 z71 z72
  obtain ⟨b15, hb15⟩ : ∃ b, w1.heap.size + 1 = b := ⟨_, rfl⟩
  rw [hb15] at HL2 ⊢
  obtain ⟨b14, hb14⟩ : ∃ b, w1.heap.size = b := ⟨_, rfl⟩
  rw [hb14] at HL2 ⊢
  clear hb15 hb14 HL1
  obtain ⟨p0, p1, p2, f70, f71, f72, z7, z71, z72⟩ := HL2.out.c3 4 rfl
  obtain ⟨r0, r1, r2, _, _, _, zr, zr1, zr2⟩ := HL2.out.c3 5 rfl
  obtain ⟨_, _, q2, _, q4, _, _, _, _, _, zq, zq1, zq2⟩ := HL2.out.c5 6 rfl
  have n1 := HL2.out.ne 4 5 rfl rfl (by decide)
  have n2 := HL2.out.ne 4 6 rfl rfl (by decide)
  have n3 := Ne.symm n1
  have n4 := Ne.symm n2
  go_wp2_with fail
  go_region_held3 (fun w' => w'.cell? ⟨b14, 0, none⟩ = some (.slice ca1 (s.add at_ x).1.C.length cp1) ∧ w'.cell? ⟨b14, 1, none⟩ = some (.int .i64 (s.most : Int)) ∧ w'.cell? ⟨b14, 2, none⟩ = some (.slice la1 (s.add at_ x).1.L.length lp1) ∧ w'.cell? ⟨b15, 2, none⟩ = some (.int .u64 ((s.add at_ x).2.1.old : Int))) (go_keep) (first | (go_at_call 28; refine (num01 _ _).mono ?_; rintro e w' ⟨rfl, rfl⟩))
  go_wp2
  have HL3 := Lib.hid ((((HL2.out.set 4 rfl 0 (.slice ca1 (s.add at_ x).1.C.length cp1)).set 4 rfl 1 (.int .i64 (s.most : Int))).set 4 rfl 2 (.slice la1 (s.add at_ x).1.L.length lp1)).drew)
  simp only [List.set_cons_succ, List.set_cons_zero, List.setIfInBounds_toArray] at HL3
  obtain ⟨y0, y1, y2, _, _, _, _, _, _⟩ := HL3.out.c3 4 rfl
  refine bodyPost_ret (v := .tuple #[.pointer (some ⟨g, 0, none⟩), .agg #[.slice ca1 (s.add at_ x).1.C.length cp1, .int .i64 (s.most : Int), .slice la1 (s.add at_ x).1.L.length lp1], .bool true]) (by simp [results, Try.results30, go_sem, y0, y1, y2]) rfl ?_
  exact ⟨g, _, _, _, rfl, HL3.out⟩
set_option maxHeartbeats 4000000 in
theorem act_swap (T : List Nat) (w : World) (g : Nat) (s : Ar) (vc vl : Value) (at_ : Int) (x y : Nat) (hx : Wd x) (hy : Wd y) (h : Led T w w [arena g s, refT vc vl s]) (hL2 : s.L.length ≤ 1048576) :
    Calls Try.prog 30 #[.pointer (some ⟨g, 0, none⟩), refV vc s.most vl, .agg #[.int .i64 3, .int .i64 at_, .int .u64 (x : Int), .int .u64 (y : Int)]] w (Acted T w s ⟨3, at_, x, y⟩) := by
  obtain ⟨ca, cp, rfl, _, _⟩ := own_val (h.refAt 1 rfl).cel
  obtain ⟨la, lp, rfl, _, _⟩ := own_val (h.refAt 1 rfl).log
  have HL0 := Lib.hid h
  clear h
  unfold refV
  go_enter Try.func30, Try.ntmps30
  go_wp2_with fail
  refine ((((HL0.out.alloc _ _).alloc _ _).alloc _ _).refDid 1 rfl (fun hr => refSwap _ _ _ s at_ hr hL2 x y)).mono ?_
  rintro e w1 ⟨vc', vl', rfl, hL⟩
  simp only [List.nil_append, List.cons_append, List.set_cons_succ, List.set_cons_zero, World.size_alloc] at hL
  obtain ⟨ca1, cp1, rfl, _, _⟩ := own_val (hL.refAt 1 rfl).cel
  obtain ⟨la1, lp1, rfl, _, _⟩ := own_val (hL.refAt 1 rfl).log
  have HL1 := Lib.hid hL
  clear hL
  unfold refV
  obtain ⟨b7, hb7⟩ : ∃ b, w.heap.size + 1 + 1 = b := ⟨_, rfl⟩
  rw [hb7] at HL1 ⊢
  obtain ⟨b5, hb5⟩ : ∃ b, w.heap.size + 1 = b := ⟨_, rfl⟩
  rw [hb5] at HL1 ⊢
  obtain ⟨b4, hb4⟩ : ∃ b, w.heap.size = b := ⟨_, rfl⟩
  rw [hb4] at HL1 ⊢
  clear hb7 hb5 hb4
  obtain ⟨a0, a1, a2, a3, _, _, _, _, za, za1, za2⟩ := HL1.out.c4 3 rfl
  obtain ⟨_, _, _, _, _, _, z7, z71, z72⟩ := HL1.out.c3 4 rfl
  go_wp2_with fail
  refine (((HL1.out.alloc _ _).alloc _ _).ar 0 rfl (fun fp hI => Swap_any _ g fp s at_ hI (by omega) x y hx hy)).mono ?_
  rintro e w2 ⟨rfl, hL⟩
  simp only [List.nil_append, List.cons_append, List.set_cons_succ, List.set_cons_zero, World.size_alloc] at hL
  have HL2 := Lib.hid hL
  clear hL a0 a1 a2 a3 za za1 za2 z7 z71 z72
  obtain ⟨b15, hb15⟩ : ∃ b, w1.heap.size + 1 = b := ⟨_, rfl⟩
  rw [hb15] at HL2 ⊢
  obtain ⟨b14, hb14⟩ : ∃ b, w1.heap.size = b := ⟨_, rfl⟩
  rw [hb14] at HL2 ⊢
  clear hb15 hb14 HL1
  obtain ⟨p0, p1, p2, f70, f71, f72, z7, z71, z72⟩ := HL2.out.c3 4 rfl
  obtain ⟨r0, r1, r2, _, _, _, zr, zr1, zr2⟩ := HL2.out.c3 5 rfl
  obtain ⟨_, _, q2, _, q4, _, _, _, _, _, zq, zq1, zq2⟩ := HL2.out.c5 6 rfl
  have n1 := HL2.out.ne 4 5 rfl rfl (by decide)
  have n2 := HL2.out.ne 4 6 rfl rfl (by decide)
  have n3 := Ne.symm n1
  have n4 := Ne.symm n2
  go_wp2_with fail
  go_region_held3 (fun w' => w'.cell? ⟨b14, 0, none⟩ = some (.slice ca1 (s.swap at_ x y).1.C.length cp1) ∧ w'.cell? ⟨b14, 1, none⟩ = some (.int .i64 (s.most : Int)) ∧ w'.cell? ⟨b14, 2, none⟩ = some (.slice la1 (s.swap at_ x y).1.L.length lp1) ∧ w'.cell? ⟨b15, 2, none⟩ = some (.int .u64 ((s.swap at_ x y).2.1.old : Int)) ∧ w'.cell? ⟨b15, 4, none⟩ = some (.bool (s.swap at_ x y).2.1.did)) (go_keep) (first | (go_at_call 28; refine (num01 _ _).mono ?_; rintro e w' ⟨rfl, rfl⟩))
  go_wp2
  have HL3 := Lib.hid ((((HL2.out.set 4 rfl 0 (.slice ca1 (s.swap at_ x y).1.C.length cp1)).set 4 rfl 1 (.int .i64 (s.most : Int))).set 4 rfl 2 (.slice la1 (s.swap at_ x y).1.L.length lp1)).drew)
  simp only [List.set_cons_succ, List.set_cons_zero, List.setIfInBounds_toArray] at HL3
  obtain ⟨y0, y1, y2, _, _, _, _, _, _⟩ := HL3.out.c3 4 rfl
  refine bodyPost_ret (v := .tuple #[.pointer (some ⟨g, 0, none⟩), .agg #[.slice ca1 (s.swap at_ x y).1.C.length cp1, .int .i64 (s.most : Int), .slice la1 (s.swap at_ x y).1.L.length lp1], .bool true]) (by simp [results, Try.results30, go_sem, y0, y1, y2]) rfl ?_
  exact ⟨g, _, _, _, rfl, HL3.out⟩
set_option maxHeartbeats 4000000 in
theorem act_swap4 (T : List Nat) (w : World) (g : Nat) (s : Ar) (vc vl : Value) (at_ : Int) (x y : Nat) (hx : Wd x) (hy : Wd y) (h : Led T w w [arena g s, refT vc vl s]) (hL2 : s.L.length ≤ 1048576) :
    Calls Try.prog 30 #[.pointer (some ⟨g, 0, none⟩), refV vc s.most vl, .agg #[.int .i64 4, .int .i64 at_, .int .u64 (x : Int), .int .u64 (y : Int)]] w (Acted T w s ⟨4, at_, x, y⟩) := by
  obtain ⟨ca, cp, rfl, _, _⟩ := own_val (h.refAt 1 rfl).cel
  obtain ⟨la, lp, rfl, _, _⟩ := own_val (h.refAt 1 rfl).log
  have HL0 := Lib.hid h
  clear h
  unfold refV
  go_enter Try.func30, Try.ntmps30
  go_wp2_with fail
  refine ((((HL0.out.alloc _ _).alloc _ _).alloc _ _).refDid 1 rfl (fun hr => refSwap _ _ _ s at_ hr hL2 x y)).mono ?_
  rintro e w1 ⟨vc', vl', rfl, hL⟩
  simp only [List.nil_append, List.cons_append, List.set_cons_succ, List.set_cons_zero, World.size_alloc] at hL
  obtain ⟨ca1, cp1, rfl, _, _⟩ := own_val (hL.refAt 1 rfl).cel
  obtain ⟨la1, lp1, rfl, _, _⟩ := own_val (hL.refAt 1 rfl).log
  have HL1 := Lib.hid hL
  clear hL
  unfold refV
  obtain ⟨b7, hb7⟩ : ∃ b, w.heap.size + 1 + 1 = b := ⟨_, rfl⟩
  rw [hb7] at HL1 ⊢
  obtain ⟨b5, hb5⟩ : ∃ b, w.heap.size + 1 = b := ⟨_, rfl⟩
  rw [hb5] at HL1 ⊢
  obtain ⟨b4, hb4⟩ : ∃ b, w.heap.size = b := ⟨_, rfl⟩
  rw [hb4] at HL1 ⊢
  clear hb7 hb5 hb4
  obtain ⟨a0, a1, a2, a3, _, _, _, _, za, za1, za2⟩ := HL1.out.c4 3 rfl
  obtain ⟨_, _, _, _, _, _, z7, z71, z72⟩ := HL1.out.c3 4 rfl
  go_wp2_with fail
  refine (((HL1.out.alloc _ _).alloc _ _).ar 0 rfl (fun fp hI => Swap_any _ g fp s at_ hI (by omega) x y hx hy)).mono ?_
  rintro e w2 ⟨rfl, hL⟩
  simp only [List.nil_append, List.cons_append, List.set_cons_succ, List.set_cons_zero, World.size_alloc] at hL
  have HL2 := Lib.hid hL
  clear hL a0 a1 a2 a3 za za1 za2 z7 z71 z72
  obtain ⟨b15, hb15⟩ : ∃ b, w1.heap.size + 1 = b := ⟨_, rfl⟩
  rw [hb15] at HL2 ⊢
  obtain ⟨b14, hb14⟩ : ∃ b, w1.heap.size = b := ⟨_, rfl⟩
  rw [hb14] at HL2 ⊢
  clear hb15 hb14 HL1
  obtain ⟨p0, p1, p2, f70, f71, f72, z7, z71, z72⟩ := HL2.out.c3 4 rfl
  obtain ⟨r0, r1, r2, _, _, _, zr, zr1, zr2⟩ := HL2.out.c3 5 rfl
  obtain ⟨_, _, q2, _, q4, _, _, _, _, _, zq, zq1, zq2⟩ := HL2.out.c5 6 rfl
  have n1 := HL2.out.ne 4 5 rfl rfl (by decide)
  have n2 := HL2.out.ne 4 6 rfl rfl (by decide)
  have n3 := Ne.symm n1
  have n4 := Ne.symm n2
  go_wp2_with fail
  go_region_held3 (fun w' => w'.cell? ⟨b14, 0, none⟩ = some (.slice ca1 (s.swap at_ x y).1.C.length cp1) ∧ w'.cell? ⟨b14, 1, none⟩ = some (.int .i64 (s.most : Int)) ∧ w'.cell? ⟨b14, 2, none⟩ = some (.slice la1 (s.swap at_ x y).1.L.length lp1) ∧ w'.cell? ⟨b15, 2, none⟩ = some (.int .u64 ((s.swap at_ x y).2.1.old : Int)) ∧ w'.cell? ⟨b15, 4, none⟩ = some (.bool (s.swap at_ x y).2.1.did)) (go_keep) (first | (go_at_call 28; refine (num01 _ _).mono ?_; rintro e w' ⟨rfl, rfl⟩))
  go_wp2
  have HL3 := Lib.hid ((((HL2.out.set 4 rfl 0 (.slice ca1 (s.swap at_ x y).1.C.length cp1)).set 4 rfl 1 (.int .i64 (s.most : Int))).set 4 rfl 2 (.slice la1 (s.swap at_ x y).1.L.length lp1)).drew)
  simp only [List.set_cons_succ, List.set_cons_zero, List.setIfInBounds_toArray] at HL3
  obtain ⟨y0, y1, y2, _, _, _, _, _, _⟩ := HL3.out.c3 4 rfl
  refine bodyPost_ret (v := .tuple #[.pointer (some ⟨g, 0, none⟩), .agg #[.slice ca1 (s.swap at_ x y).1.C.length cp1, .int .i64 (s.most : Int), .slice la1 (s.swap at_ x y).1.L.length lp1], .bool true]) (by simp [results, Try.results30, go_sem, y0, y1, y2]) rfl ?_
  exact ⟨g, _, _, _, rfl, HL3.out⟩
end Go.Proofs.Ytegebecogbebaaa
