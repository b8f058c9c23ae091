/-
  act of law 03 (betrothallaw03/law.go): a call by the arena and by the reference: all but Tries and States.
-/
import Derived.Test.YtegebecogbebaaaRefTries
import Derived.Test.YtegebecogbebaaaWorks03
namespace Go.Proofs.Ytegebecogbebaaa
open Go.RowKit Go.Shelf
set_option maxRecDepth 100000
set_option linter.unusedVariables false
set_option linter.unusedSimpArgs false

/-- A call of law 03: what, where, a number. -/
structure Call03 where
  what : Int
  at_ : Int
  n : Int
def Call03.cells (a : Call03) : List Value := [.int .i64 a.what, .int .i64 a.at_, .int .i64 a.n]
def In64 (x : Int) : Prop := -9223372036854775808 ≤ x ∧ x ≤ 9223372036854775807
def Call03.Ok (a : Call03) : Prop := In64 a.what ∧ In64 a.at_ ∧ In64 a.n
/-- What act tells, and what it leaves. -/
def Acted03 (T : List Nat) (w : World) (g : Nat) (s : Ar) (e : Ending) (w' : World) : Prop :=
  ∃ s' vc' vl' rest, e = .returned (.tuple #[refV vc' s.most vl', .bool true]) ∧ (s'.most = s.most ∧ s'.L.length ≤ s.L.length + 21) ∧ Led T w w' (arena g s' :: refT vc' vl' s' :: rest)
theorem Led.al4 {T : List Nat} {w0 w w' : World} {l : List Thing} {t1 t2 t3 t4 : TypeId} {c1 c2 c3 c4 : Array Value} (h : Led T w0 w l) (e : (((w.alloc (.cells c1 t1)).alloc (.cells c2 t2)).alloc (.cells c3 t3)).alloc (.cells c4 t4) = w') : Led T w0 w' (l ++ [Proofs.Ytegebecogbebaaa.box w.heap.size t1 c1, Proofs.Ytegebecogbebaaa.box (w.heap.size + 1) t2 c2, Proofs.Ytegebecogbebaaa.box (w.heap.size + 1 + 1) t3 c3, Proofs.Ytegebecogbebaaa.box (w.heap.size + 1 + 1 + 1) t4 c4]) := by
  have := (((h.alloc t1 c1).alloc t2 c2).alloc t3 c3).alloc t4 c4
  rw [e] at this
  simpa using this
theorem allocA_few (s : Ar) (n : Int) : (s.allocA n).1.most = s.most ∧ (s.allocA n).1.L.length ≤ s.L.length + 21 := by
  unfold Ar.allocA
  repeat' split
  all_goals exact ⟨rfl, by simp⟩
theorem doBy_few (s : Ar) (op : Nat) (at_ : Int) (chg : Nat → Nat × Bool) : (s.doBy op at_ chg).1.most = s.most ∧ (s.doBy op at_ chg).1.L.length ≤ s.L.length + 21 := ⟨doBy_most s op at_ chg, by have := doBy_L_len s op at_ chg; omega⟩

set_option maxHeartbeats 4000000 in
theorem act03_new (T : List Nat) (w : World) (g : Nat) (s : Ar) (vc vl : Value) (at_ : Int) (n : Int) (h : Led T w w [arena g s, refT vc vl s]) (hL : s.L.length ≤ 1000000) :
    Calls Try.prog 39 #[.pointer (some ⟨g, 0, none⟩), refV vc s.most vl, .agg #[.int .i64 0, .int .i64 at_, .int .i64 n]] w (Acted03 T w g s) := by
  obtain ⟨hwd, _, _, _⟩ := h.artAll 0 rfl
  obtain ⟨ca, cp, rfl, _, _⟩ := own_val (h.refAt 1 rfl).cel
  obtain ⟨la, lp, rfl, _, _⟩ := own_val (h.refAt 1 rfl).log
  have HL0 := Lib.hid h
  have HW := Lib.hid hwd
  clear h hwd
  unfold refV
  go_enter Try.func39, Try.ntmps39
  go_wp2_with fail
  refine (((((HL0.out.alloc _ _).alloc _ _).alloc _ _).alloc _ _).refGo 1 rfl (fun T h => rNew3 T _ _ _ s h)).mono ?_
  rintro e w1 ⟨vc', vl', rfl, hL⟩
  simp only [List.nil_append, List.cons_append, List.set_cons_succ, List.set_cons_zero, World.size_alloc] at hL
  obtain ⟨ca1, cp1, rfl, _, _⟩ := own_val (hL.refAt 1 rfl).cel
  obtain ⟨la1, lp1, rfl, _, _⟩ := own_val (hL.refAt 1 rfl).log
  have HL1 := Lib.hid hL
  clear hL
  unfold refV
  obtain ⟨b7, hb7⟩ : ∃ b, w.heap.size + 1 + 1 + 1 = b := ⟨_, rfl⟩
  rw [hb7] at HL1 ⊢
  obtain ⟨b6, hb6⟩ : ∃ b, w.heap.size + 1 + 1 = b := ⟨_, rfl⟩
  rw [hb6] at HL1 ⊢
  obtain ⟨b5, hb5⟩ : ∃ b, w.heap.size + 1 = b := ⟨_, rfl⟩
  rw [hb5] at HL1 ⊢
  obtain ⟨b4, hb4⟩ : ∃ b, w.heap.size = b := ⟨_, rfl⟩
  rw [hb4] at HL1 ⊢
  clear hb7 hb6 hb5 hb4
  obtain ⟨a0, a1, a2, _, _, _, za, za1, za2⟩ := HL1.out.c3 3 rfl
  go_wp2_with fail
  refine ((HL1.out.alloc _ _).ar 0 rfl (fun fp hI => SpinNew_any _ g fp s hI)).mono ?_
  rintro e w2 ⟨rfl, hL⟩
  simp only [List.nil_append, List.cons_append, List.set_cons_succ, List.set_cons_zero] at hL
  have HL2 := Lib.hid hL
  clear hL a0 a1 a2 za za1 za2
  obtain ⟨b8, hb8⟩ : ∃ b, w1.heap.size = b := ⟨_, rfl⟩
  rw [hb8] at HL2 ⊢
  clear hb8 HL1
  obtain ⟨p0, p1, p2, f0, f1, f2, z6, _, _⟩ := HL2.out.c3 4 rfl
  obtain ⟨q0, fq, z7, _, _⟩ := HL2.out.c1 5 rfl
  obtain ⟨r0, r1, r2, _, _, _, zr, _, _⟩ := HL2.out.c3 6 rfl
  have n1 := HL2.out.ne 4 6 rfl rfl (by decide)
  have n2 := HL2.out.ne 5 6 rfl rfl (by decide)
  have n5 := HL2.out.ne 4 5 rfl rfl (by decide)
  have n3 := Ne.symm n1
  have n4 := Ne.symm n2
  have n6 := Ne.symm n5
  go_wp2_with fail
  go_region_held3 (fun w' => w'.cell? ⟨b8, 0, none⟩ = some (.slice ca1 (s.allocA 1).1.C.length cp1) ∧ w'.cell? ⟨b8, 1, none⟩ = some (.int .i64 (s.most : Int)) ∧ w'.cell? ⟨b8, 2, none⟩ = some (.slice la1 (s.allocA 1).1.L.length lp1)) (go_keep)
    (first | (go_at_call 16; refine (num03 _ _).mono ?_; rintro e w' ⟨rfl, rfl⟩))
  go_wp2
  have HL4 := Lib.hid (((((HL2.out.set 4 rfl 0 (.slice ca1 (s.allocA 1).1.C.length cp1)).set 4 rfl 1 (.int .i64 (s.most : Int))).set 4 rfl 2 (.slice la1 (s.allocA 1).1.L.length lp1)).set 5 rfl 0 (.bool true)).drew)
  simp only [List.set_cons_succ, List.set_cons_zero, List.setIfInBounds_toArray] at HL4
  obtain ⟨y0, y1, y2, _, _, _, _, _, _⟩ := HL4.out.c3 4 rfl
  obtain ⟨y3, _, _, _, _⟩ := HL4.out.c1 5 rfl
  refine bodyPost_ret (v := .tuple #[.agg #[.slice ca1 (s.allocA 1).1.C.length cp1, .int .i64 (s.most : Int), .slice la1 (s.allocA 1).1.L.length lp1], .bool true]) (by simp [results, Try.results39, go_sem, y0, y1, y2, y3]) rfl ?_
  exact ⟨_, _, _, _, rfl, allocA_few s 1, HL4.out⟩
set_option maxHeartbeats 4000000 in
theorem act03_try1 (T : List Nat) (w : World) (g : Nat) (s : Ar) (vc vl : Value) (at_ : Int) (n : Int) (h : Led T w w [arena g s, refT vc vl s]) (hL : s.L.length ≤ 1000000) :
    Calls Try.prog 39 #[.pointer (some ⟨g, 0, none⟩), refV vc s.most vl, .agg #[.int .i64 1, .int .i64 at_, .int .i64 n]] w (Acted03 T w g s) := by
  obtain ⟨hwd, _, _, _⟩ := h.artAll 0 rfl
  obtain ⟨ca, cp, rfl, _, _⟩ := own_val (h.refAt 1 rfl).cel
  obtain ⟨la, lp, rfl, _, _⟩ := own_val (h.refAt 1 rfl).log
  have HL0 := Lib.hid h
  have HW := Lib.hid hwd
  clear h hwd
  unfold refV
  go_enter Try.func39, Try.ntmps39
  go_wp2_with fail
  refine (((((HL0.out.alloc _ _).alloc _ _).alloc _ _).alloc _ _).refGo 1 rfl (fun T h => rTry T _ _ _ s at_ (by omega) h)).mono ?_
  rintro e w1 ⟨vc', vl', rfl, hL⟩
  simp only [List.nil_append, List.cons_append, List.set_cons_succ, List.set_cons_zero, World.size_alloc] at hL
  obtain ⟨ca1, cp1, rfl, _, _⟩ := own_val (hL.refAt 1 rfl).cel
  obtain ⟨la1, lp1, rfl, _, _⟩ := own_val (hL.refAt 1 rfl).log
  have HL1 := Lib.hid hL
  clear hL
  unfold refV
  obtain ⟨b7, hb7⟩ : ∃ b, w.heap.size + 1 + 1 + 1 = b := ⟨_, rfl⟩
  rw [hb7] at HL1 ⊢
  obtain ⟨b6, hb6⟩ : ∃ b, w.heap.size + 1 + 1 = b := ⟨_, rfl⟩
  rw [hb6] at HL1 ⊢
  obtain ⟨b5, hb5⟩ : ∃ b, w.heap.size + 1 = b := ⟨_, rfl⟩
  rw [hb5] at HL1 ⊢
  obtain ⟨b4, hb4⟩ : ∃ b, w.heap.size = b := ⟨_, rfl⟩
  rw [hb4] at HL1 ⊢
  clear hb7 hb6 hb5 hb4
  obtain ⟨a0, a1, a2, _, _, _, za, za1, za2⟩ := HL1.out.c3 3 rfl
  go_wp2_with fail
  refine ((HL1.out.alloc _ _).ar 0 rfl (fun fp hI => Try_any _ g fp s hI at_ (by omega))).mono ?_
  rintro e w2 ⟨rfl, hL⟩
  simp only [List.nil_append, List.cons_append, List.set_cons_succ, List.set_cons_zero] at hL
  have HL2 := Lib.hid hL
  clear hL a0 a1 a2 za za1 za2
  obtain ⟨b8, hb8⟩ : ∃ b, w1.heap.size = b := ⟨_, rfl⟩
  rw [hb8] at HL2 ⊢
  clear hb8 HL1
  obtain ⟨p0, p1, p2, f0, f1, f2, z6, _, _⟩ := HL2.out.c3 4 rfl
  obtain ⟨q0, fq, z7, _, _⟩ := HL2.out.c1 5 rfl
  obtain ⟨r0, r1, r2, _, _, _, zr, _, _⟩ := HL2.out.c3 6 rfl
  have n1 := HL2.out.ne 4 6 rfl rfl (by decide)
  have n2 := HL2.out.ne 5 6 rfl rfl (by decide)
  have n5 := HL2.out.ne 4 5 rfl rfl (by decide)
  have n3 := Ne.symm n1
  have n4 := Ne.symm n2
  have n6 := Ne.symm n5
  go_wp2_with fail
  go_region_held3 (fun w' => w'.cell? ⟨b8, 0, none⟩ = some (.slice ca1 (s.swap at_ 0 1).1.C.length cp1) ∧ w'.cell? ⟨b8, 1, none⟩ = some (.int .i64 (s.most : Int)) ∧ w'.cell? ⟨b8, 2, none⟩ = some (.slice la1 (s.swap at_ 0 1).1.L.length lp1)) (go_keep)
    (first | (go_at_call 16; refine (num03 _ _).mono ?_; rintro e w' ⟨rfl, rfl⟩))
  go_wp2
  have HL4 := Lib.hid (((((HL2.out.set 4 rfl 0 (.slice ca1 (s.swap at_ 0 1).1.C.length cp1)).set 4 rfl 1 (.int .i64 (s.most : Int))).set 4 rfl 2 (.slice la1 (s.swap at_ 0 1).1.L.length lp1)).set 5 rfl 0 (.bool true)).drew)
  simp only [List.set_cons_succ, List.set_cons_zero, List.setIfInBounds_toArray] at HL4
  obtain ⟨y0, y1, y2, _, _, _, _, _, _⟩ := HL4.out.c3 4 rfl
  obtain ⟨y3, _, _, _, _⟩ := HL4.out.c1 5 rfl
  refine bodyPost_ret (v := .tuple #[.agg #[.slice ca1 (s.swap at_ 0 1).1.C.length cp1, .int .i64 (s.most : Int), .slice la1 (s.swap at_ 0 1).1.L.length lp1], .bool true]) (by simp [results, Try.results39, go_sem, y0, y1, y2, y3]) rfl ?_
  exact ⟨_, _, _, _, rfl, doBy_few s 3 at_ _, HL4.out⟩
set_option maxHeartbeats 4000000 in
theorem act03_try2 (T : List Nat) (w : World) (g : Nat) (s : Ar) (vc vl : Value) (at_ : Int) (n : Int) (h : Led T w w [arena g s, refT vc vl s]) (hL : s.L.length ≤ 1000000) :
    Calls Try.prog 39 #[.pointer (some ⟨g, 0, none⟩), refV vc s.most vl, .agg #[.int .i64 2, .int .i64 at_, .int .i64 n]] w (Acted03 T w g s) := by
  obtain ⟨hwd, _, _, _⟩ := h.artAll 0 rfl
  obtain ⟨ca, cp, rfl, _, _⟩ := own_val (h.refAt 1 rfl).cel
  obtain ⟨la, lp, rfl, _, _⟩ := own_val (h.refAt 1 rfl).log
  have HL0 := Lib.hid h
  have HW := Lib.hid hwd
  clear h hwd
  unfold refV
  go_enter Try.func39, Try.ntmps39
  go_wp2_with fail
  refine (((((HL0.out.alloc _ _).alloc _ _).alloc _ _).alloc _ _).refGo 1 rfl (fun T h => rTry T _ _ _ s at_ (by omega) h)).mono ?_
  rintro e w1 ⟨vc', vl', rfl, hL⟩
  simp only [List.nil_append, List.cons_append, List.set_cons_succ, List.set_cons_zero, World.size_alloc] at hL
  obtain ⟨ca1, cp1, rfl, _, _⟩ := own_val (hL.refAt 1 rfl).cel
  obtain ⟨la1, lp1, rfl, _, _⟩ := own_val (hL.refAt 1 rfl).log
  have HL1 := Lib.hid hL
  clear hL
  unfold refV
  obtain ⟨b7, hb7⟩ : ∃ b, w.heap.size + 1 + 1 + 1 = b := ⟨_, rfl⟩
  rw [hb7] at HL1 ⊢
  obtain ⟨b6, hb6⟩ : ∃ b, w.heap.size + 1 + 1 = b := ⟨_, rfl⟩
  rw [hb6] at HL1 ⊢
  obtain ⟨b5, hb5⟩ : ∃ b, w.heap.size + 1 = b := ⟨_, rfl⟩
  rw [hb5] at HL1 ⊢
  obtain ⟨b4, hb4⟩ : ∃ b, w.heap.size = b := ⟨_, rfl⟩
  rw [hb4] at HL1 ⊢
  clear hb7 hb6 hb5 hb4
  obtain ⟨a0, a1, a2, _, _, _, za, za1, za2⟩ := HL1.out.c3 3 rfl
  go_wp2_with fail
  refine ((HL1.out.alloc _ _).ar 0 rfl (fun fp hI => Try_any _ g fp s hI at_ (by omega))).mono ?_
  rintro e w2 ⟨rfl, hL⟩
  simp only [List.nil_append, List.cons_append, List.set_cons_succ, List.set_cons_zero] at hL
  have HL2 := Lib.hid hL
  clear hL a0 a1 a2 za za1 za2
  obtain ⟨b8, hb8⟩ : ∃ b, w1.heap.size = b := ⟨_, rfl⟩
  rw [hb8] at HL2 ⊢
  clear hb8 HL1
  obtain ⟨p0, p1, p2, f0, f1, f2, z6, _, _⟩ := HL2.out.c3 4 rfl
  obtain ⟨q0, fq, z7, _, _⟩ := HL2.out.c1 5 rfl
  obtain ⟨r0, r1, r2, _, _, _, zr, _, _⟩ := HL2.out.c3 6 rfl
  have n1 := HL2.out.ne 4 6 rfl rfl (by decide)
  have n2 := HL2.out.ne 5 6 rfl rfl (by decide)
  have n5 := HL2.out.ne 4 5 rfl rfl (by decide)
  have n3 := Ne.symm n1
  have n4 := Ne.symm n2
  have n6 := Ne.symm n5
  go_wp2_with fail
  go_region_held3 (fun w' => w'.cell? ⟨b8, 0, none⟩ = some (.slice ca1 (s.swap at_ 0 1).1.C.length cp1) ∧ w'.cell? ⟨b8, 1, none⟩ = some (.int .i64 (s.most : Int)) ∧ w'.cell? ⟨b8, 2, none⟩ = some (.slice la1 (s.swap at_ 0 1).1.L.length lp1)) (go_keep)
    (first | (go_at_call 16; refine (num03 _ _).mono ?_; rintro e w' ⟨rfl, rfl⟩))
  go_wp2
  have HL4 := Lib.hid (((((HL2.out.set 4 rfl 0 (.slice ca1 (s.swap at_ 0 1).1.C.length cp1)).set 4 rfl 1 (.int .i64 (s.most : Int))).set 4 rfl 2 (.slice la1 (s.swap at_ 0 1).1.L.length lp1)).set 5 rfl 0 (.bool true)).drew)
  simp only [List.set_cons_succ, List.set_cons_zero, List.setIfInBounds_toArray] at HL4
  obtain ⟨y0, y1, y2, _, _, _, _, _, _⟩ := HL4.out.c3 4 rfl
  obtain ⟨y3, _, _, _, _⟩ := HL4.out.c1 5 rfl
  refine bodyPost_ret (v := .tuple #[.agg #[.slice ca1 (s.swap at_ 0 1).1.C.length cp1, .int .i64 (s.most : Int), .slice la1 (s.swap at_ 0 1).1.L.length lp1], .bool true]) (by simp [results, Try.results39, go_sem, y0, y1, y2, y3]) rfl ?_
  exact ⟨_, _, _, _, rfl, doBy_few s 3 at_ _, HL4.out⟩
set_option maxHeartbeats 4000000 in
theorem act03_try3 (T : List Nat) (w : World) (g : Nat) (s : Ar) (vc vl : Value) (at_ : Int) (n : Int) (h : Led T w w [arena g s, refT vc vl s]) (hL : s.L.length ≤ 1000000) :
    Calls Try.prog 39 #[.pointer (some ⟨g, 0, none⟩), refV vc s.most vl, .agg #[.int .i64 3, .int .i64 at_, .int .i64 n]] w (Acted03 T w g s) := by
  obtain ⟨hwd, _, _, _⟩ := h.artAll 0 rfl
  obtain ⟨ca, cp, rfl, _, _⟩ := own_val (h.refAt 1 rfl).cel
  obtain ⟨la, lp, rfl, _, _⟩ := own_val (h.refAt 1 rfl).log
  have HL0 := Lib.hid h
  have HW := Lib.hid hwd
  clear h hwd
  unfold refV
  go_enter Try.func39, Try.ntmps39
  go_wp2_with fail
  refine (((((HL0.out.alloc _ _).alloc _ _).alloc _ _).alloc _ _).refGo 1 rfl (fun T h => rTry T _ _ _ s at_ (by omega) h)).mono ?_
  rintro e w1 ⟨vc', vl', rfl, hL⟩
  simp only [List.nil_append, List.cons_append, List.set_cons_succ, List.set_cons_zero, World.size_alloc] at hL
  obtain ⟨ca1, cp1, rfl, _, _⟩ := own_val (hL.refAt 1 rfl).cel
  obtain ⟨la1, lp1, rfl, _, _⟩ := own_val (hL.refAt 1 rfl).log
  have HL1 := Lib.hid hL
  clear hL
  unfold refV
  obtain ⟨b7, hb7⟩ : ∃ b, w.heap.size + 1 + 1 + 1 = b := ⟨_, rfl⟩
  rw [hb7] at HL1 ⊢
  obtain ⟨b6, hb6⟩ : ∃ b, w.heap.size + 1 + 1 = b := ⟨_, rfl⟩
  rw [hb6] at HL1 ⊢
  obtain ⟨b5, hb5⟩ : ∃ b, w.heap.size + 1 = b := ⟨_, rfl⟩
  rw [hb5] at HL1 ⊢
  obtain ⟨b4, hb4⟩ : ∃ b, w.heap.size = b := ⟨_, rfl⟩
  rw [hb4] at HL1 ⊢
  clear hb7 hb6 hb5 hb4
  obtain ⟨a0, a1, a2, _, _, _, za, za1, za2⟩ := HL1.out.c3 3 rfl
  go_wp2_with fail
  refine ((HL1.out.alloc _ _).ar 0 rfl (fun fp hI => Try_any _ g fp s hI at_ (by omega))).mono ?_
  rintro e w2 ⟨rfl, hL⟩
  simp only [List.nil_append, List.cons_append, List.set_cons_succ, List.set_cons_zero] at hL
  have HL2 := Lib.hid hL
  clear hL a0 a1 a2 za za1 za2
  obtain ⟨b8, hb8⟩ : ∃ b, w1.heap.size = b := ⟨_, rfl⟩
  rw [hb8] at HL2 ⊢
  clear hb8 HL1
  obtain ⟨p0, p1, p2, f0, f1, f2, z6, _, _⟩ := HL2.out.c3 4 rfl
  obtain ⟨q0, fq, z7, _, _⟩ := HL2.out.c1 5 rfl
  obtain ⟨r0, r1, r2, _, _, _, zr, _, _⟩ := HL2.out.c3 6 rfl
  have n1 := HL2.out.ne 4 6 rfl rfl (by decide)
  have n2 := HL2.out.ne 5 6 rfl rfl (by decide)
  have n5 := HL2.out.ne 4 5 rfl rfl (by decide)
  have n3 := Ne.symm n1
  have n4 := Ne.symm n2
  have n6 := Ne.symm n5
  go_wp2_with fail
  go_region_held3 (fun w' => w'.cell? ⟨b8, 0, none⟩ = some (.slice ca1 (s.swap at_ 0 1).1.C.length cp1) ∧ w'.cell? ⟨b8, 1, none⟩ = some (.int .i64 (s.most : Int)) ∧ w'.cell? ⟨b8, 2, none⟩ = some (.slice la1 (s.swap at_ 0 1).1.L.length lp1)) (go_keep)
    (first | (go_at_call 16; refine (num03 _ _).mono ?_; rintro e w' ⟨rfl, rfl⟩))
  go_wp2
  have HL4 := Lib.hid (((((HL2.out.set 4 rfl 0 (.slice ca1 (s.swap at_ 0 1).1.C.length cp1)).set 4 rfl 1 (.int .i64 (s.most : Int))).set 4 rfl 2 (.slice la1 (s.swap at_ 0 1).1.L.length lp1)).set 5 rfl 0 (.bool true)).drew)
  simp only [List.set_cons_succ, List.set_cons_zero, List.setIfInBounds_toArray] at HL4
  obtain ⟨y0, y1, y2, _, _, _, _, _, _⟩ := HL4.out.c3 4 rfl
  obtain ⟨y3, _, _, _, _⟩ := HL4.out.c1 5 rfl
  refine bodyPost_ret (v := .tuple #[.agg #[.slice ca1 (s.swap at_ 0 1).1.C.length cp1, .int .i64 (s.most : Int), .slice la1 (s.swap at_ 0 1).1.L.length lp1], .bool true]) (by simp [results, Try.results39, go_sem, y0, y1, y2, y3]) rfl ?_
  exact ⟨_, _, _, _, rfl, doBy_few s 3 at_ _, HL4.out⟩
set_option maxHeartbeats 4000000 in
theorem act03_held (T : List Nat) (w : World) (g : Nat) (s : Ar) (vc vl : Value) (at_ : Int) (n : Int) (h : Led T w w [arena g s, refT vc vl s]) (hL : s.L.length ≤ 1000000) :
    Calls Try.prog 39 #[.pointer (some ⟨g, 0, none⟩), refV vc s.most vl, .agg #[.int .i64 6, .int .i64 at_, .int .i64 n]] w (Acted03 T w g s) := by
  obtain ⟨hwd, _, _, _⟩ := h.artAll 0 rfl
  obtain ⟨ca, cp, rfl, _, _⟩ := own_val (h.refAt 1 rfl).cel
  obtain ⟨la, lp, rfl, _, _⟩ := own_val (h.refAt 1 rfl).log
  have HL0 := Lib.hid h
  have HW := Lib.hid hwd
  clear h hwd
  unfold refV
  go_enter Try.func39, Try.ntmps39
  go_wp2_with fail
  refine (((((HL0.out.alloc _ _).alloc _ _).alloc _ _).alloc _ _).refGo 1 rfl (fun T h => rHeld T _ _ _ s at_ (by omega) h)).mono ?_
  rintro e w1 ⟨vc', vl', rfl, hL⟩
  simp only [List.nil_append, List.cons_append, List.set_cons_succ, List.set_cons_zero, World.size_alloc] at hL
  obtain ⟨ca1, cp1, rfl, _, _⟩ := own_val (hL.refAt 1 rfl).cel
  obtain ⟨la1, lp1, rfl, _, _⟩ := own_val (hL.refAt 1 rfl).log
  have HL1 := Lib.hid hL
  clear hL
  unfold refV
  obtain ⟨b7, hb7⟩ : ∃ b, w.heap.size + 1 + 1 + 1 = b := ⟨_, rfl⟩
  rw [hb7] at HL1 ⊢
  obtain ⟨b6, hb6⟩ : ∃ b, w.heap.size + 1 + 1 = b := ⟨_, rfl⟩
  rw [hb6] at HL1 ⊢
  obtain ⟨b5, hb5⟩ : ∃ b, w.heap.size + 1 = b := ⟨_, rfl⟩
  rw [hb5] at HL1 ⊢
  obtain ⟨b4, hb4⟩ : ∃ b, w.heap.size = b := ⟨_, rfl⟩
  rw [hb4] at HL1 ⊢
  clear hb7 hb6 hb5 hb4
  obtain ⟨a0, a1, a2, _, _, _, za, za1, za2⟩ := HL1.out.c3 3 rfl
  go_wp2_with fail
  refine ((HL1.out.alloc _ _).ar 0 rfl (fun fp hI => Held_any _ g fp s hI at_ (by omega))).mono ?_
  rintro e w2 ⟨rfl, hL⟩
  simp only [List.nil_append, List.cons_append, List.set_cons_succ, List.set_cons_zero] at hL
  have HL2 := Lib.hid hL
  clear hL a0 a1 a2 za za1 za2
  obtain ⟨b8, hb8⟩ : ∃ b, w1.heap.size = b := ⟨_, rfl⟩
  rw [hb8] at HL2 ⊢
  clear hb8 HL1
  obtain ⟨p0, p1, p2, f0, f1, f2, z6, _, _⟩ := HL2.out.c3 4 rfl
  obtain ⟨q0, fq, z7, _, _⟩ := HL2.out.c1 5 rfl
  obtain ⟨r0, r1, r2, _, _, _, zr, _, _⟩ := HL2.out.c3 6 rfl
  have n1 := HL2.out.ne 4 6 rfl rfl (by decide)
  have n2 := HL2.out.ne 5 6 rfl rfl (by decide)
  have n5 := HL2.out.ne 4 5 rfl rfl (by decide)
  have n3 := Ne.symm n1
  have n4 := Ne.symm n2
  have n6 := Ne.symm n5
  go_wp2_with fail
  go_region_held3 (fun w' => w'.cell? ⟨b8, 0, none⟩ = some (.slice ca1 (s.load at_).1.C.length cp1) ∧ w'.cell? ⟨b8, 1, none⟩ = some (.int .i64 (s.most : Int)) ∧ w'.cell? ⟨b8, 2, none⟩ = some (.slice la1 (s.load at_).1.L.length lp1)) (go_keep)
    (first | (go_at_call 16; refine (num03 _ _).mono ?_; rintro e w' ⟨rfl, rfl⟩))
  go_wp2
  have HL4 := Lib.hid (((((HL2.out.set 4 rfl 0 (.slice ca1 (s.load at_).1.C.length cp1)).set 4 rfl 1 (.int .i64 (s.most : Int))).set 4 rfl 2 (.slice la1 (s.load at_).1.L.length lp1)).set 5 rfl 0 (.bool true)).drew)
  simp only [List.set_cons_succ, List.set_cons_zero, List.setIfInBounds_toArray] at HL4
  obtain ⟨y0, y1, y2, _, _, _, _, _, _⟩ := HL4.out.c3 4 rfl
  obtain ⟨y3, _, _, _, _⟩ := HL4.out.c1 5 rfl
  refine bodyPost_ret (v := .tuple #[.agg #[.slice ca1 (s.load at_).1.C.length cp1, .int .i64 (s.most : Int), .slice la1 (s.load at_).1.L.length lp1], .bool true]) (by simp [results, Try.results39, go_sem, y0, y1, y2, y3]) rfl ?_
  exact ⟨_, _, _, _, rfl, doBy_few s 1 at_ _, HL4.out⟩
set_option maxHeartbeats 4000000 in
theorem act03_free4 (T : List Nat) (w : World) (g : Nat) (s : Ar) (vc vl : Value) (at_ : Int) (n : Int) (h : Led T w w [arena g s, refT vc vl s]) (hL : s.L.length ≤ 1000000) :
    Calls Try.prog 39 #[.pointer (some ⟨g, 0, none⟩), refV vc s.most vl, .agg #[.int .i64 4, .int .i64 at_, .int .i64 n]] w (Acted03 T w g s) := by
  obtain ⟨hwd, _, _, _⟩ := h.artAll 0 rfl
  obtain ⟨ca, cp, rfl, _, _⟩ := own_val (h.refAt 1 rfl).cel
  obtain ⟨la, lp, rfl, _, _⟩ := own_val (h.refAt 1 rfl).log
  have HL0 := Lib.hid h
  have HW := Lib.hid hwd
  clear h hwd
  unfold refV
  go_enter Try.func39, Try.ntmps39
  go_wp2_with fail
  refine (((((HL0.out.alloc _ _).alloc _ _).alloc _ _).alloc _ _).refGo 1 rfl (fun T h => rFree T _ _ _ s at_ (by omega) h)).mono ?_
  rintro e w1 ⟨vc', vl', rfl, hL⟩
  simp only [List.nil_append, List.cons_append, List.set_cons_succ, List.set_cons_zero, World.size_alloc] at hL
  obtain ⟨ca1, cp1, rfl, _, _⟩ := own_val (hL.refAt 1 rfl).cel
  obtain ⟨la1, lp1, rfl, _, _⟩ := own_val (hL.refAt 1 rfl).log
  have HL1 := Lib.hid hL
  clear hL
  unfold refV
  obtain ⟨b7, hb7⟩ : ∃ b, w.heap.size + 1 + 1 + 1 = b := ⟨_, rfl⟩
  rw [hb7] at HL1 ⊢
  obtain ⟨b6, hb6⟩ : ∃ b, w.heap.size + 1 + 1 = b := ⟨_, rfl⟩
  rw [hb6] at HL1 ⊢
  obtain ⟨b5, hb5⟩ : ∃ b, w.heap.size + 1 = b := ⟨_, rfl⟩
  rw [hb5] at HL1 ⊢
  obtain ⟨b4, hb4⟩ : ∃ b, w.heap.size = b := ⟨_, rfl⟩
  rw [hb4] at HL1 ⊢
  clear hb7 hb6 hb5 hb4
  obtain ⟨a0, a1, a2, _, _, _, za, za1, za2⟩ := HL1.out.c3 3 rfl
  go_wp2_with fail
  refine wp_name ?_
  intro w2 hw2
  have HL2 := Lib.hid (HL1.out.al1 hw2)
  simp only [List.nil_append, List.cons_append] at HL2
  clear hw2 a0 a1 a2 za za1 za2
  obtain ⟨b8, hb8⟩ : ∃ b, w1.heap.size = b := ⟨_, rfl⟩
  rw [hb8] at HL2 ⊢
  clear hb8 HL1
  obtain ⟨a0, a1, a2, _, _, _, za, za1, za2⟩ := HL2.out.c3 3 rfl
  obtain ⟨p0, p1, p2, f0, f1, f2, z6, _, _⟩ := HL2.out.c3 4 rfl
  obtain ⟨q0, fq, z7, _, _⟩ := HL2.out.c1 5 rfl
  obtain ⟨r0, r1, r2, _, _, _, zr, _, _⟩ := HL2.out.c3 6 rfl
  have n1 := HL2.out.ne 4 6 rfl rfl (by decide)
  have n2 := HL2.out.ne 5 6 rfl rfl (by decide)
  have n5 := HL2.out.ne 4 5 rfl rfl (by decide)
  have n7 := HL2.out.ne 4 3 rfl rfl (by decide)
  have n8 := HL2.out.ne 5 3 rfl rfl (by decide)
  have n3 := Ne.symm n1
  have n4 := Ne.symm n2
  have n6 := Ne.symm n5
  have n9 := Ne.symm n7
  have n10 := Ne.symm n8
  go_region_held3 (fun w' => w'.cell? ⟨b8, 0, none⟩ = some (.slice ca1 (s.swap at_ 1 0).1.C.length cp1) ∧ w'.cell? ⟨b8, 1, none⟩ = some (.int .i64 (s.most : Int)) ∧ w'.cell? ⟨b8, 2, none⟩ = some (.slice la1 (s.swap at_ 1 0).1.L.length lp1) ∧ w'.cell? ⟨b5, 1, none⟩ = some (.int .i64 at_)) (go_keep)
    (first
    | (go_at_call 17; refine (HL2.out.drew.ar 0 rfl (fun fp hI => Free_any _ g fp s hI at_ (by omega))).mono ?_; rintro e w3 ⟨rfl, hL⟩; have HL3 := Lib.hid hL; simp only [List.set_cons_succ, List.set_cons_zero] at HL3; obtain ⟨a0, a1, a2, _, _, _, za, za1, za2⟩ := HL3.out.c3 3 rfl; obtain ⟨p0, p1, p2, f0, f1, f2, z6, _, _⟩ := HL3.out.c3 4 rfl; obtain ⟨q0, fq, z7, _, _⟩ := HL3.out.c1 5 rfl; obtain ⟨r0, r1, r2, _, _, _, zr, _, _⟩ := HL3.out.c3 6 rfl; clear hL)
    | (go_at_call 16; refine (num03 _ _).mono ?_; rintro e w' ⟨rfl, rfl⟩))
  go_wp2
  have HL4 := Lib.hid (((((HL3.out.set 4 rfl 0 (.slice ca1 (s.swap at_ 1 0).1.C.length cp1)).set 4 rfl 1 (.int .i64 (s.most : Int))).set 4 rfl 2 (.slice la1 (s.swap at_ 1 0).1.L.length lp1)).set 5 rfl 0 (.bool true)))
  simp only [List.set_cons_succ, List.set_cons_zero, List.setIfInBounds_toArray] at HL4
  obtain ⟨y0, y1, y2, _, _, _, _, _, _⟩ := HL4.out.c3 4 rfl
  obtain ⟨y3, _, _, _, _⟩ := HL4.out.c1 5 rfl
  refine bodyPost_ret (v := .tuple #[.agg #[.slice ca1 (s.swap at_ 1 0).1.C.length cp1, .int .i64 (s.most : Int), .slice la1 (s.swap at_ 1 0).1.L.length lp1], .bool true]) (by simp [results, Try.results39, go_sem, y0, y1, y2, y3]) rfl ?_
  exact ⟨_, _, _, _, rfl, doBy_few s 3 at_ _, HL4.out⟩
set_option maxHeartbeats 4000000 in
theorem act03_free5 (T : List Nat) (w : World) (g : Nat) (s : Ar) (vc vl : Value) (at_ : Int) (n : Int) (h : Led T w w [arena g s, refT vc vl s]) (hL : s.L.length ≤ 1000000) :
    Calls Try.prog 39 #[.pointer (some ⟨g, 0, none⟩), refV vc s.most vl, .agg #[.int .i64 5, .int .i64 at_, .int .i64 n]] w (Acted03 T w g s) := by
  obtain ⟨hwd, _, _, _⟩ := h.artAll 0 rfl
  obtain ⟨ca, cp, rfl, _, _⟩ := own_val (h.refAt 1 rfl).cel
  obtain ⟨la, lp, rfl, _, _⟩ := own_val (h.refAt 1 rfl).log
  have HL0 := Lib.hid h
  have HW := Lib.hid hwd
  clear h hwd
  unfold refV
  go_enter Try.func39, Try.ntmps39
  go_wp2_with fail
  refine (((((HL0.out.alloc _ _).alloc _ _).alloc _ _).alloc _ _).refGo 1 rfl (fun T h => rFree T _ _ _ s at_ (by omega) h)).mono ?_
  rintro e w1 ⟨vc', vl', rfl, hL⟩
  simp only [List.nil_append, List.cons_append, List.set_cons_succ, List.set_cons_zero, World.size_alloc] at hL
  obtain ⟨ca1, cp1, rfl, _, _⟩ := own_val (hL.refAt 1 rfl).cel
  obtain ⟨la1, lp1, rfl, _, _⟩ := own_val (hL.refAt 1 rfl).log
  have HL1 := Lib.hid hL
  clear hL
  unfold refV
  obtain ⟨b7, hb7⟩ : ∃ b, w.heap.size + 1 + 1 + 1 = b := ⟨_, rfl⟩
  rw [hb7] at HL1 ⊢
  obtain ⟨b6, hb6⟩ : ∃ b, w.heap.size + 1 + 1 = b := ⟨_, rfl⟩
  rw [hb6] at HL1 ⊢
  obtain ⟨b5, hb5⟩ : ∃ b, w.heap.size + 1 = b := ⟨_, rfl⟩
  rw [hb5] at HL1 ⊢
  obtain ⟨b4, hb4⟩ : ∃ b, w.heap.size = b := ⟨_, rfl⟩
  rw [hb4] at HL1 ⊢
  clear hb7 hb6 hb5 hb4
  obtain ⟨a0, a1, a2, _, _, _, za, za1, za2⟩ := HL1.out.c3 3 rfl
  go_wp2_with fail
  refine wp_name ?_
  intro w2 hw2
  have HL2 := Lib.hid (HL1.out.al1 hw2)
  simp only [List.nil_append, List.cons_append] at HL2
  clear hw2 a0 a1 a2 za za1 za2
  obtain ⟨b8, hb8⟩ : ∃ b, w1.heap.size = b := ⟨_, rfl⟩
  rw [hb8] at HL2 ⊢
  clear hb8 HL1
  obtain ⟨a0, a1, a2, _, _, _, za, za1, za2⟩ := HL2.out.c3 3 rfl
  obtain ⟨p0, p1, p2, f0, f1, f2, z6, _, _⟩ := HL2.out.c3 4 rfl
  obtain ⟨q0, fq, z7, _, _⟩ := HL2.out.c1 5 rfl
  obtain ⟨r0, r1, r2, _, _, _, zr, _, _⟩ := HL2.out.c3 6 rfl
  have n1 := HL2.out.ne 4 6 rfl rfl (by decide)
  have n2 := HL2.out.ne 5 6 rfl rfl (by decide)
  have n5 := HL2.out.ne 4 5 rfl rfl (by decide)
  have n7 := HL2.out.ne 4 3 rfl rfl (by decide)
  have n8 := HL2.out.ne 5 3 rfl rfl (by decide)
  have n3 := Ne.symm n1
  have n4 := Ne.symm n2
  have n6 := Ne.symm n5
  have n9 := Ne.symm n7
  have n10 := Ne.symm n8
  go_region_held3 (fun w' => w'.cell? ⟨b8, 0, none⟩ = some (.slice ca1 (s.swap at_ 1 0).1.C.length cp1) ∧ w'.cell? ⟨b8, 1, none⟩ = some (.int .i64 (s.most : Int)) ∧ w'.cell? ⟨b8, 2, none⟩ = some (.slice la1 (s.swap at_ 1 0).1.L.length lp1) ∧ w'.cell? ⟨b5, 1, none⟩ = some (.int .i64 at_)) (go_keep)
    (first
    | (go_at_call 17; refine (HL2.out.drew.ar 0 rfl (fun fp hI => Free_any _ g fp s hI at_ (by omega))).mono ?_; rintro e w3 ⟨rfl, hL⟩; have HL3 := Lib.hid hL; simp only [List.set_cons_succ, List.set_cons_zero] at HL3; obtain ⟨a0, a1, a2, _, _, _, za, za1, za2⟩ := HL3.out.c3 3 rfl; obtain ⟨p0, p1, p2, f0, f1, f2, z6, _, _⟩ := HL3.out.c3 4 rfl; obtain ⟨q0, fq, z7, _, _⟩ := HL3.out.c1 5 rfl; obtain ⟨r0, r1, r2, _, _, _, zr, _, _⟩ := HL3.out.c3 6 rfl; clear hL)
    | (go_at_call 16; refine (num03 _ _).mono ?_; rintro e w' ⟨rfl, rfl⟩))
  go_wp2
  have HL4 := Lib.hid (((((HL3.out.set 4 rfl 0 (.slice ca1 (s.swap at_ 1 0).1.C.length cp1)).set 4 rfl 1 (.int .i64 (s.most : Int))).set 4 rfl 2 (.slice la1 (s.swap at_ 1 0).1.L.length lp1)).set 5 rfl 0 (.bool true)))
  simp only [List.set_cons_succ, List.set_cons_zero, List.setIfInBounds_toArray] at HL4
  obtain ⟨y0, y1, y2, _, _, _, _, _, _⟩ := HL4.out.c3 4 rfl
  obtain ⟨y3, _, _, _, _⟩ := HL4.out.c1 5 rfl
  refine bodyPost_ret (v := .tuple #[.agg #[.slice ca1 (s.swap at_ 1 0).1.C.length cp1, .int .i64 (s.most : Int), .slice la1 (s.swap at_ 1 0).1.L.length lp1], .bool true]) (by simp [results, Try.results39, go_sem, y0, y1, y2, y3]) rfl ?_
  exact ⟨_, _, _, _, rfl, doBy_few s 3 at_ _, HL4.out⟩
set_option maxHeartbeats 4000000 in
theorem act03_store (T : List Nat) (w : World) (g : Nat) (s : Ar) (vc vl : Value) (at_ : Int) (n : Int) (m : Nat) (hm : IntKind.u64.wrap n = (m : Int)) (hmw : Wd m) (h : Led T w w [arena g s, refT vc vl s]) (hL : s.L.length ≤ 1000000) :
    Calls Try.prog 39 #[.pointer (some ⟨g, 0, none⟩), refV vc s.most vl, .agg #[.int .i64 9, .int .i64 at_, .int .i64 n]] w (Acted03 T w g s) := by
  obtain ⟨hwd, _, _, _⟩ := h.artAll 0 rfl
  obtain ⟨ca, cp, rfl, _, _⟩ := own_val (h.refAt 1 rfl).cel
  obtain ⟨la, lp, rfl, _, _⟩ := own_val (h.refAt 1 rfl).log
  have HL0 := Lib.hid h
  have HW := Lib.hid hwd
  clear h hwd
  unfold refV
  go_enter Try.func39, Try.ntmps39
  go_wp2_with fail
  refine (((((HL0.out.alloc _ _).alloc _ _).alloc _ _).alloc _ _).refGo 1 rfl (fun T h => rStore T _ _ _ s at_ m (by omega) h)).mono ?_
  rintro e w1 ⟨vc', vl', rfl, hL⟩
  simp only [List.nil_append, List.cons_append, List.set_cons_succ, List.set_cons_zero, World.size_alloc] at hL
  obtain ⟨ca1, cp1, rfl, _, _⟩ := own_val (hL.refAt 1 rfl).cel
  obtain ⟨la1, lp1, rfl, _, _⟩ := own_val (hL.refAt 1 rfl).log
  have HL1 := Lib.hid hL
  clear hL
  unfold refV
  obtain ⟨b7, hb7⟩ : ∃ b, w.heap.size + 1 + 1 + 1 = b := ⟨_, rfl⟩
  rw [hb7] at HL1 ⊢
  obtain ⟨b6, hb6⟩ : ∃ b, w.heap.size + 1 + 1 = b := ⟨_, rfl⟩
  rw [hb6] at HL1 ⊢
  obtain ⟨b5, hb5⟩ : ∃ b, w.heap.size + 1 = b := ⟨_, rfl⟩
  rw [hb5] at HL1 ⊢
  obtain ⟨b4, hb4⟩ : ∃ b, w.heap.size = b := ⟨_, rfl⟩
  rw [hb4] at HL1 ⊢
  clear hb7 hb6 hb5 hb4
  obtain ⟨a0, a1, a2, _, _, _, za, za1, za2⟩ := HL1.out.c3 3 rfl
  go_wp2_with fail
  refine wp_name ?_
  intro w2 hw2
  have HL2 := Lib.hid (HL1.out.al1 hw2)
  simp only [List.nil_append, List.cons_append] at HL2
  clear hw2 a0 a1 a2 za za1 za2
  obtain ⟨b8, hb8⟩ : ∃ b, w1.heap.size = b := ⟨_, rfl⟩
  rw [hb8] at HL2 ⊢
  clear hb8 HL1
  obtain ⟨a0, a1, a2, _, _, _, za, za1, za2⟩ := HL2.out.c3 3 rfl
  obtain ⟨p0, p1, p2, f0, f1, f2, z6, _, _⟩ := HL2.out.c3 4 rfl
  obtain ⟨q0, fq, z7, _, _⟩ := HL2.out.c1 5 rfl
  obtain ⟨r0, r1, r2, _, _, _, zr, _, _⟩ := HL2.out.c3 6 rfl
  have n1 := HL2.out.ne 4 6 rfl rfl (by decide)
  have n2 := HL2.out.ne 5 6 rfl rfl (by decide)
  have n5 := HL2.out.ne 4 5 rfl rfl (by decide)
  have n7 := HL2.out.ne 4 3 rfl rfl (by decide)
  have n8 := HL2.out.ne 5 3 rfl rfl (by decide)
  have n3 := Ne.symm n1
  have n4 := Ne.symm n2
  have n6 := Ne.symm n5
  have n9 := Ne.symm n7
  have n10 := Ne.symm n8
  go_region_held3 (fun w' => w'.cell? ⟨b8, 0, none⟩ = some (.slice ca1 (s.store at_ m).1.C.length cp1) ∧ w'.cell? ⟨b8, 1, none⟩ = some (.int .i64 (s.most : Int)) ∧ w'.cell? ⟨b8, 2, none⟩ = some (.slice la1 (s.store at_ m).1.L.length lp1) ∧ w'.cell? ⟨b5, 1, none⟩ = some (.int .i64 at_)∧ w'.cell? ⟨b5, 2, none⟩ = some (.int .i64 n)) (go_keep)
    (first
    | (go_at_call 23; refine (HL2.out.drew.ar 0 rfl (fun fp hI => Store_any _ g fp s at_ hI (by omega) m hmw)).mono ?_; rintro e w3 ⟨rfl, hL⟩; have HL3 := Lib.hid hL; simp only [List.set_cons_succ, List.set_cons_zero] at HL3; obtain ⟨a0, a1, a2, _, _, _, za, za1, za2⟩ := HL3.out.c3 3 rfl; obtain ⟨p0, p1, p2, f0, f1, f2, z6, _, _⟩ := HL3.out.c3 4 rfl; obtain ⟨q0, fq, z7, _, _⟩ := HL3.out.c1 5 rfl; obtain ⟨r0, r1, r2, _, _, _, zr, _, _⟩ := HL3.out.c3 6 rfl; clear hL)
    | (go_at_call 16; refine (num03 _ _).mono ?_; rintro e w' ⟨rfl, rfl⟩))
  go_wp2
  have HL4 := Lib.hid (((((HL3.out.set 4 rfl 0 (.slice ca1 (s.store at_ m).1.C.length cp1)).set 4 rfl 1 (.int .i64 (s.most : Int))).set 4 rfl 2 (.slice la1 (s.store at_ m).1.L.length lp1)).set 5 rfl 0 (.bool true)))
  simp only [List.set_cons_succ, List.set_cons_zero, List.setIfInBounds_toArray] at HL4
  obtain ⟨y0, y1, y2, _, _, _, _, _, _⟩ := HL4.out.c3 4 rfl
  obtain ⟨y3, _, _, _, _⟩ := HL4.out.c1 5 rfl
  refine bodyPost_ret (v := .tuple #[.agg #[.slice ca1 (s.store at_ m).1.C.length cp1, .int .i64 (s.most : Int), .slice la1 (s.store at_ m).1.L.length lp1], .bool true]) (by simp [results, Try.results39, go_sem, y0, y1, y2, y3]) rfl ?_
  exact ⟨_, _, _, _, rfl, doBy_few s 2 at_ _, HL4.out⟩
end Go.Proofs.Ytegebecogbebaaa
