/-
  act of law 12 (betrothallaw12/law.go): a call by the arena and by the reference.
-/
import Derived.Test.YtegebecogbebaaaRefGo
import Derived.Test.YtegebecogbebaaaWorks12
namespace Go.Proofs.Ytegebecogbebaaa
open Go.RowKit Go.Shelf
set_option maxRecDepth 100000
set_option linter.unusedVariables false
set_option linter.unusedSimpArgs false

/-- A call of law 12: what, where, a number. -/
structure Call12 where
  what : Int
  at_ : Int
  n : Nat
def Call12.cells (a : Call12) : List Value := [.int .i64 a.what, .int .i64 a.at_, .int .u64 (a.n : Int)]
def Call12.Ok (a : Call12) : Prop := (-9223372036854775808 ≤ a.what ∧ a.what ≤ 9223372036854775807) ∧ (-9223372036854775808 ≤ a.at_ ∧ a.at_ ≤ 9223372036854775807) ∧ Wd a.n
/-- The arena behind a call. -/
def act12S (s : Ar) (c : Call12) : Ar :=
  if c.what = 0 then (s.allocA 1).1 else if c.what = 1 then (s.swap c.at_ 0 1).1 else if c.what = 2 then (s.store c.at_ 0).1 else if c.what = 3 ∨ c.what = 4 then (s.swap c.at_ 0 2).1 else if c.what = 5 then (s.store c.at_ 2).1 else if c.what = 6 then (s.load c.at_).1 else if c.what = 7 then (s.store c.at_ c.n).1 else s
/-- What act tells, and what it leaves. -/
def Acted12 (T : List Nat) (w : World) (g : Nat) (s : Ar) (c : Call12) (e : Ending) (w' : World) : Prop :=
  ∃ vc' vl' rest, e = .returned (.tuple #[refV vc' s.most vl', .bool true]) ∧ Led T w w' (arena g (act12S s c) :: refT vc' vl' (act12S s c) :: rest)

set_option maxHeartbeats 4000000 in
theorem act12_new (T : List Nat) (w : World) (g : Nat) (s : Ar) (vc vl : Value) (at_ : Int) (n : Nat) (h : Led T w w [arena g s, refT vc vl s]) (hL : s.L.length ≤ 1048576) :
    Calls Try.prog 50 #[.pointer (some ⟨g, 0, none⟩), refV vc s.most vl, .agg #[.int .i64 0, .int .i64 at_, .int .u64 (n : Int)]] w (Acted12 T w g s ⟨0, at_, n⟩) := by
  obtain ⟨hwd, _, _, _⟩ := h.artAll 0 rfl
  obtain ⟨ca, cp, rfl, _, _⟩ := own_val (h.refAt 1 rfl).cel
  obtain ⟨la, lp, rfl, _, _⟩ := own_val (h.refAt 1 rfl).log
  have HL0 := Lib.hid h
  have HW := Lib.hid hwd
  clear h hwd
  unfold refV
  go_enter Try.func50, Try.ntmps50
  go_wp2_with fail
  refine ((((HL0.out.alloc _ _).alloc _ _).alloc _ _).refGo 1 rfl (fun T h => rNew12 T _ _ _ s h)).mono ?_
  rintro e w1 ⟨vc', vl', rfl, hL⟩
  simp only [List.nil_append, List.cons_append, List.set_cons_succ, List.set_cons_zero, World.size_alloc] at hL
  obtain ⟨ca1, cp1, rfl, _, _⟩ := own_val (hL.refAt 1 rfl).cel
  obtain ⟨la1, lp1, rfl, _, _⟩ := own_val (hL.refAt 1 rfl).log
  have HL1 := Lib.hid hL
  clear hL
  unfold refV
  obtain ⟨b6, hb6⟩ : ∃ b, w.heap.size + 1 + 1 = b := ⟨_, rfl⟩
  rw [hb6] at HL1 ⊢
  obtain ⟨b5, hb5⟩ : ∃ b, w.heap.size + 1 = b := ⟨_, rfl⟩
  rw [hb5] at HL1 ⊢
  obtain ⟨b4, hb4⟩ : ∃ b, w.heap.size = b := ⟨_, rfl⟩
  rw [hb4] at HL1 ⊢
  clear hb6 hb5 hb4
  obtain ⟨a0, a1, a2, _, _, _, za, za1, za2⟩ := HL1.out.c3 3 rfl
  go_wp2_with fail
  refine ((HL1.out.alloc _ _).flNew 0 rfl (s.allocA 1).1 (s.allocA 1).2.1 (s.allocA 1).2.2 rfl).mono ?_
  rintro e w2 ⟨rfl, hL⟩
  simp only [List.nil_append, List.cons_append, List.set_cons_succ, List.set_cons_zero] at hL
  have HL2 := Lib.hid hL
  clear hL a0 a1 a2 za za1 za2
  obtain ⟨b8, hb8⟩ : ∃ b, w1.heap.size = b := ⟨_, rfl⟩
  rw [hb8] at HL2 ⊢
  clear hb8 HL1
  obtain ⟨p0, p1, p2, f0, f1, f2, z6, _, _⟩ := HL2.out.c3 4 rfl
  obtain ⟨r0, r1, r2, _, _, _, zr, _, _⟩ := HL2.out.c3 5 rfl
  have n1 := HL2.out.ne 4 5 rfl rfl (by decide)
  have n3 := Ne.symm n1
  go_wp2_with fail
  go_region_held3 (fun w' => w'.cell? ⟨b8, 0, none⟩ = some (.slice ca1 (s.allocA 1).1.C.length cp1) ∧ w'.cell? ⟨b8, 1, none⟩ = some (.int .i64 (s.most : Int)) ∧ w'.cell? ⟨b8, 2, none⟩ = some (.slice la1 (s.allocA 1).1.L.length lp1)) (go_keep)
    (first | (go_at_call 45; refine (num12 _ _).mono ?_; rintro e w' ⟨rfl, rfl⟩))
  go_wp2
  have HL3 := Lib.hid ((((HL2.out.set 4 rfl 0 (.slice ca1 (s.allocA 1).1.C.length cp1)).set 4 rfl 1 (.int .i64 (s.most : Int))).set 4 rfl 2 (.slice la1 (s.allocA 1).1.L.length lp1)).drew)
  simp only [List.set_cons_succ, List.set_cons_zero, List.setIfInBounds_toArray] at HL3
  obtain ⟨y0, y1, y2, _, _, _, _, _, _⟩ := HL3.out.c3 4 rfl
  refine bodyPost_ret (v := .tuple #[.agg #[.slice ca1 (s.allocA 1).1.C.length cp1, .int .i64 (s.most : Int), .slice la1 (s.allocA 1).1.L.length lp1], .bool true]) (by simp [results, Try.results50, go_sem, y0, y1, y2]) rfl ?_
  exact ⟨_, _, _, rfl, HL3.out⟩
set_option maxHeartbeats 4000000 in
theorem act12_claim (T : List Nat) (w : World) (g : Nat) (s : Ar) (vc vl : Value) (at_ : Int) (n : Nat) (h : Led T w w [arena g s, refT vc vl s]) (hL : s.L.length ≤ 1048576) :
    Calls Try.prog 50 #[.pointer (some ⟨g, 0, none⟩), refV vc s.most vl, .agg #[.int .i64 1, .int .i64 at_, .int .u64 (n : Int)]] w (Acted12 T w g s ⟨1, at_, n⟩) := by
  obtain ⟨hwd, _, _, _⟩ := h.artAll 0 rfl
  obtain ⟨ca, cp, rfl, _, _⟩ := own_val (h.refAt 1 rfl).cel
  obtain ⟨la, lp, rfl, _, _⟩ := own_val (h.refAt 1 rfl).log
  have HL0 := Lib.hid h
  have HW := Lib.hid hwd
  clear h hwd
  unfold refV
  go_enter Try.func50, Try.ntmps50
  go_wp2_with fail
  refine ((((HL0.out.alloc _ _).alloc _ _).alloc _ _).refGo 1 rfl (fun T h => rClaim T _ _ _ s at_ hL HW.out h)).mono ?_
  rintro e w1 ⟨vc', vl', rfl, hL⟩
  simp only [List.nil_append, List.cons_append, List.set_cons_succ, List.set_cons_zero, World.size_alloc] at hL
  obtain ⟨ca1, cp1, rfl, _, _⟩ := own_val (hL.refAt 1 rfl).cel
  obtain ⟨la1, lp1, rfl, _, _⟩ := own_val (hL.refAt 1 rfl).log
  have HL1 := Lib.hid hL
  clear hL
  unfold refV
  obtain ⟨b6, hb6⟩ : ∃ b, w.heap.size + 1 + 1 = b := ⟨_, rfl⟩
  rw [hb6] at HL1 ⊢
  obtain ⟨b5, hb5⟩ : ∃ b, w.heap.size + 1 = b := ⟨_, rfl⟩
  rw [hb5] at HL1 ⊢
  obtain ⟨b4, hb4⟩ : ∃ b, w.heap.size = b := ⟨_, rfl⟩
  rw [hb4] at HL1 ⊢
  clear hb6 hb5 hb4
  obtain ⟨a0, a1, a2, _, _, _, za, za1, za2⟩ := HL1.out.c3 3 rfl
  go_wp2_with fail
  refine ((HL1.out.alloc _ _).flClaim 0 rfl at_ (s.swap at_ 0 1).1 (flagV (s.swap at_ 0 1).2.1.old (s.swap at_ 0 1).2.2).1 (flagV (s.swap at_ 0 1).2.1.old (s.swap at_ 0 1).2.2).2 (by omega) rfl rfl).mono ?_
  rintro e w2 ⟨rfl, hL⟩
  simp only [List.nil_append, List.cons_append, List.set_cons_succ, List.set_cons_zero] at hL
  have HL2 := Lib.hid hL
  clear hL a0 a1 a2 za za1 za2
  obtain ⟨b8, hb8⟩ : ∃ b, w1.heap.size = b := ⟨_, rfl⟩
  rw [hb8] at HL2 ⊢
  clear hb8 HL1
  obtain ⟨p0, p1, p2, f0, f1, f2, z6, _, _⟩ := HL2.out.c3 4 rfl
  obtain ⟨r0, r1, r2, _, _, _, zr, _, _⟩ := HL2.out.c3 5 rfl
  have n1 := HL2.out.ne 4 5 rfl rfl (by decide)
  have n3 := Ne.symm n1
  go_wp2_with fail
  go_region_held3 (fun w' => w'.cell? ⟨b8, 0, none⟩ = some (.slice ca1 (s.swap at_ 0 1).1.C.length cp1) ∧ w'.cell? ⟨b8, 1, none⟩ = some (.int .i64 (s.most : Int)) ∧ w'.cell? ⟨b8, 2, none⟩ = some (.slice la1 (s.swap at_ 0 1).1.L.length lp1)) (go_keep)
    (first | (go_at_call 45; refine (num12 _ _).mono ?_; rintro e w' ⟨rfl, rfl⟩))
  go_wp2
  have HL3 := Lib.hid ((((HL2.out.set 4 rfl 0 (.slice ca1 (s.swap at_ 0 1).1.C.length cp1)).set 4 rfl 1 (.int .i64 (s.most : Int))).set 4 rfl 2 (.slice la1 (s.swap at_ 0 1).1.L.length lp1)).drew)
  simp only [List.set_cons_succ, List.set_cons_zero, List.setIfInBounds_toArray] at HL3
  obtain ⟨y0, y1, y2, _, _, _, _, _, _⟩ := HL3.out.c3 4 rfl
  refine bodyPost_ret (v := .tuple #[.agg #[.slice ca1 (s.swap at_ 0 1).1.C.length cp1, .int .i64 (s.most : Int), .slice la1 (s.swap at_ 0 1).1.L.length lp1], .bool true]) (by simp [results, Try.results50, go_sem, y0, y1, y2]) rfl ?_
  exact ⟨_, _, _, rfl, HL3.out⟩
set_option maxHeartbeats 4000000 in
theorem act12_take3 (T : List Nat) (w : World) (g : Nat) (s : Ar) (vc vl : Value) (at_ : Int) (n : Nat) (h : Led T w w [arena g s, refT vc vl s]) (hL : s.L.length ≤ 1048576) :
    Calls Try.prog 50 #[.pointer (some ⟨g, 0, none⟩), refV vc s.most vl, .agg #[.int .i64 3, .int .i64 at_, .int .u64 (n : Int)]] w (Acted12 T w g s ⟨3, at_, n⟩) := by
  obtain ⟨hwd, _, _, _⟩ := h.artAll 0 rfl
  obtain ⟨ca, cp, rfl, _, _⟩ := own_val (h.refAt 1 rfl).cel
  obtain ⟨la, lp, rfl, _, _⟩ := own_val (h.refAt 1 rfl).log
  have HL0 := Lib.hid h
  have HW := Lib.hid hwd
  clear h hwd
  unfold refV
  go_enter Try.func50, Try.ntmps50
  go_wp2_with fail
  refine ((((HL0.out.alloc _ _).alloc _ _).alloc _ _).refGo 1 rfl (fun T h => rTake T _ _ _ s at_ hL HW.out h)).mono ?_
  rintro e w1 ⟨vc', vl', rfl, hL⟩
  simp only [List.nil_append, List.cons_append, List.set_cons_succ, List.set_cons_zero, World.size_alloc] at hL
  obtain ⟨ca1, cp1, rfl, _, _⟩ := own_val (hL.refAt 1 rfl).cel
  obtain ⟨la1, lp1, rfl, _, _⟩ := own_val (hL.refAt 1 rfl).log
  have HL1 := Lib.hid hL
  clear hL
  unfold refV
  obtain ⟨b6, hb6⟩ : ∃ b, w.heap.size + 1 + 1 = b := ⟨_, rfl⟩
  rw [hb6] at HL1 ⊢
  obtain ⟨b5, hb5⟩ : ∃ b, w.heap.size + 1 = b := ⟨_, rfl⟩
  rw [hb5] at HL1 ⊢
  obtain ⟨b4, hb4⟩ : ∃ b, w.heap.size = b := ⟨_, rfl⟩
  rw [hb4] at HL1 ⊢
  clear hb6 hb5 hb4
  obtain ⟨a0, a1, a2, _, _, _, za, za1, za2⟩ := HL1.out.c3 3 rfl
  go_wp2_with fail
  refine ((HL1.out.alloc _ _).flTake 0 rfl at_ (s.swap at_ 0 2).1 (flagV (s.swap at_ 0 2).2.1.old (s.swap at_ 0 2).2.2).1 (flagV (s.swap at_ 0 2).2.1.old (s.swap at_ 0 2).2.2).2 (by omega) rfl rfl).mono ?_
  rintro e w2 ⟨rfl, hL⟩
  simp only [List.nil_append, List.cons_append, List.set_cons_succ, List.set_cons_zero] at hL
  have HL2 := Lib.hid hL
  clear hL a0 a1 a2 za za1 za2
  obtain ⟨b8, hb8⟩ : ∃ b, w1.heap.size = b := ⟨_, rfl⟩
  rw [hb8] at HL2 ⊢
  clear hb8 HL1
  obtain ⟨p0, p1, p2, f0, f1, f2, z6, _, _⟩ := HL2.out.c3 4 rfl
  obtain ⟨r0, r1, r2, _, _, _, zr, _, _⟩ := HL2.out.c3 5 rfl
  have n1 := HL2.out.ne 4 5 rfl rfl (by decide)
  have n3 := Ne.symm n1
  go_wp2_with fail
  go_region_held3 (fun w' => w'.cell? ⟨b8, 0, none⟩ = some (.slice ca1 (s.swap at_ 0 2).1.C.length cp1) ∧ w'.cell? ⟨b8, 1, none⟩ = some (.int .i64 (s.most : Int)) ∧ w'.cell? ⟨b8, 2, none⟩ = some (.slice la1 (s.swap at_ 0 2).1.L.length lp1)) (go_keep)
    (first | (go_at_call 45; refine (num12 _ _).mono ?_; rintro e w' ⟨rfl, rfl⟩))
  go_wp2
  have HL3 := Lib.hid ((((HL2.out.set 4 rfl 0 (.slice ca1 (s.swap at_ 0 2).1.C.length cp1)).set 4 rfl 1 (.int .i64 (s.most : Int))).set 4 rfl 2 (.slice la1 (s.swap at_ 0 2).1.L.length lp1)).drew)
  simp only [List.set_cons_succ, List.set_cons_zero, List.setIfInBounds_toArray] at HL3
  obtain ⟨y0, y1, y2, _, _, _, _, _, _⟩ := HL3.out.c3 4 rfl
  refine bodyPost_ret (v := .tuple #[.agg #[.slice ca1 (s.swap at_ 0 2).1.C.length cp1, .int .i64 (s.most : Int), .slice la1 (s.swap at_ 0 2).1.L.length lp1], .bool true]) (by simp [results, Try.results50, go_sem, y0, y1, y2]) rfl ?_
  exact ⟨_, _, _, rfl, HL3.out⟩
set_option maxHeartbeats 4000000 in
theorem act12_take4 (T : List Nat) (w : World) (g : Nat) (s : Ar) (vc vl : Value) (at_ : Int) (n : Nat) (h : Led T w w [arena g s, refT vc vl s]) (hL : s.L.length ≤ 1048576) :
    Calls Try.prog 50 #[.pointer (some ⟨g, 0, none⟩), refV vc s.most vl, .agg #[.int .i64 4, .int .i64 at_, .int .u64 (n : Int)]] w (Acted12 T w g s ⟨4, at_, n⟩) := by
  obtain ⟨hwd, _, _, _⟩ := h.artAll 0 rfl
  obtain ⟨ca, cp, rfl, _, _⟩ := own_val (h.refAt 1 rfl).cel
  obtain ⟨la, lp, rfl, _, _⟩ := own_val (h.refAt 1 rfl).log
  have HL0 := Lib.hid h
  have HW := Lib.hid hwd
  clear h hwd
  unfold refV
  go_enter Try.func50, Try.ntmps50
  go_wp2_with fail
  refine ((((HL0.out.alloc _ _).alloc _ _).alloc _ _).refGo 1 rfl (fun T h => rTake T _ _ _ s at_ hL HW.out h)).mono ?_
  rintro e w1 ⟨vc', vl', rfl, hL⟩
  simp only [List.nil_append, List.cons_append, List.set_cons_succ, List.set_cons_zero, World.size_alloc] at hL
  obtain ⟨ca1, cp1, rfl, _, _⟩ := own_val (hL.refAt 1 rfl).cel
  obtain ⟨la1, lp1, rfl, _, _⟩ := own_val (hL.refAt 1 rfl).log
  have HL1 := Lib.hid hL
  clear hL
  unfold refV
  obtain ⟨b6, hb6⟩ : ∃ b, w.heap.size + 1 + 1 = b := ⟨_, rfl⟩
  rw [hb6] at HL1 ⊢
  obtain ⟨b5, hb5⟩ : ∃ b, w.heap.size + 1 = b := ⟨_, rfl⟩
  rw [hb5] at HL1 ⊢
  obtain ⟨b4, hb4⟩ : ∃ b, w.heap.size = b := ⟨_, rfl⟩
  rw [hb4] at HL1 ⊢
  clear hb6 hb5 hb4
  obtain ⟨a0, a1, a2, _, _, _, za, za1, za2⟩ := HL1.out.c3 3 rfl
  go_wp2_with fail
  refine ((HL1.out.alloc _ _).flTake 0 rfl at_ (s.swap at_ 0 2).1 (flagV (s.swap at_ 0 2).2.1.old (s.swap at_ 0 2).2.2).1 (flagV (s.swap at_ 0 2).2.1.old (s.swap at_ 0 2).2.2).2 (by omega) rfl rfl).mono ?_
  rintro e w2 ⟨rfl, hL⟩
  simp only [List.nil_append, List.cons_append, List.set_cons_succ, List.set_cons_zero] at hL
  have HL2 := Lib.hid hL
  clear hL a0 a1 a2 za za1 za2
  obtain ⟨b8, hb8⟩ : ∃ b, w1.heap.size = b := ⟨_, rfl⟩
  rw [hb8] at HL2 ⊢
  clear hb8 HL1
  obtain ⟨p0, p1, p2, f0, f1, f2, z6, _, _⟩ := HL2.out.c3 4 rfl
  obtain ⟨r0, r1, r2, _, _, _, zr, _, _⟩ := HL2.out.c3 5 rfl
  have n1 := HL2.out.ne 4 5 rfl rfl (by decide)
  have n3 := Ne.symm n1
  go_wp2_with fail
  go_region_held3 (fun w' => w'.cell? ⟨b8, 0, none⟩ = some (.slice ca1 (s.swap at_ 0 2).1.C.length cp1) ∧ w'.cell? ⟨b8, 1, none⟩ = some (.int .i64 (s.most : Int)) ∧ w'.cell? ⟨b8, 2, none⟩ = some (.slice la1 (s.swap at_ 0 2).1.L.length lp1)) (go_keep)
    (first | (go_at_call 45; refine (num12 _ _).mono ?_; rintro e w' ⟨rfl, rfl⟩))
  go_wp2
  have HL3 := Lib.hid ((((HL2.out.set 4 rfl 0 (.slice ca1 (s.swap at_ 0 2).1.C.length cp1)).set 4 rfl 1 (.int .i64 (s.most : Int))).set 4 rfl 2 (.slice la1 (s.swap at_ 0 2).1.L.length lp1)).drew)
  simp only [List.set_cons_succ, List.set_cons_zero, List.setIfInBounds_toArray] at HL3
  obtain ⟨y0, y1, y2, _, _, _, _, _, _⟩ := HL3.out.c3 4 rfl
  refine bodyPost_ret (v := .tuple #[.agg #[.slice ca1 (s.swap at_ 0 2).1.C.length cp1, .int .i64 (s.most : Int), .slice la1 (s.swap at_ 0 2).1.L.length lp1], .bool true]) (by simp [results, Try.results50, go_sem, y0, y1, y2]) rfl ?_
  exact ⟨_, _, _, rfl, HL3.out⟩
set_option maxHeartbeats 4000000 in
theorem act12_look (T : List Nat) (w : World) (g : Nat) (s : Ar) (vc vl : Value) (at_ : Int) (n : Nat) (h : Led T w w [arena g s, refT vc vl s]) (hL : s.L.length ≤ 1048576) :
    Calls Try.prog 50 #[.pointer (some ⟨g, 0, none⟩), refV vc s.most vl, .agg #[.int .i64 6, .int .i64 at_, .int .u64 (n : Int)]] w (Acted12 T w g s ⟨6, at_, n⟩) := by
  obtain ⟨hwd, _, _, _⟩ := h.artAll 0 rfl
  obtain ⟨ca, cp, rfl, _, _⟩ := own_val (h.refAt 1 rfl).cel
  obtain ⟨la, lp, rfl, _, _⟩ := own_val (h.refAt 1 rfl).log
  have HL0 := Lib.hid h
  have HW := Lib.hid hwd
  clear h hwd
  unfold refV
  go_enter Try.func50, Try.ntmps50
  go_wp2_with fail
  refine ((((HL0.out.alloc _ _).alloc _ _).alloc _ _).refGo 1 rfl (fun T h => rLook T _ _ _ s at_ hL HW.out h)).mono ?_
  rintro e w1 ⟨vc', vl', rfl, hL⟩
  simp only [List.nil_append, List.cons_append, List.set_cons_succ, List.set_cons_zero, World.size_alloc] at hL
  obtain ⟨ca1, cp1, rfl, _, _⟩ := own_val (hL.refAt 1 rfl).cel
  obtain ⟨la1, lp1, rfl, _, _⟩ := own_val (hL.refAt 1 rfl).log
  have HL1 := Lib.hid hL
  clear hL
  unfold refV
  obtain ⟨b6, hb6⟩ : ∃ b, w.heap.size + 1 + 1 = b := ⟨_, rfl⟩
  rw [hb6] at HL1 ⊢
  obtain ⟨b5, hb5⟩ : ∃ b, w.heap.size + 1 = b := ⟨_, rfl⟩
  rw [hb5] at HL1 ⊢
  obtain ⟨b4, hb4⟩ : ∃ b, w.heap.size = b := ⟨_, rfl⟩
  rw [hb4] at HL1 ⊢
  clear hb6 hb5 hb4
  obtain ⟨a0, a1, a2, _, _, _, za, za1, za2⟩ := HL1.out.c3 3 rfl
  go_wp2_with fail
  refine ((HL1.out.alloc _ _).flLook 0 rfl at_ (s.load at_).1 (flagV (s.load at_).2.1.old (s.load at_).2.2).1 (flagV (s.load at_).2.1.old (s.load at_).2.2).2 (by omega) rfl rfl).mono ?_
  rintro e w2 ⟨rfl, hL⟩
  simp only [List.nil_append, List.cons_append, List.set_cons_succ, List.set_cons_zero] at hL
  have HL2 := Lib.hid hL
  clear hL a0 a1 a2 za za1 za2
  obtain ⟨b8, hb8⟩ : ∃ b, w1.heap.size = b := ⟨_, rfl⟩
  rw [hb8] at HL2 ⊢
  clear hb8 HL1
  obtain ⟨p0, p1, p2, f0, f1, f2, z6, _, _⟩ := HL2.out.c3 4 rfl
  obtain ⟨r0, r1, r2, _, _, _, zr, _, _⟩ := HL2.out.c3 5 rfl
  have n1 := HL2.out.ne 4 5 rfl rfl (by decide)
  have n3 := Ne.symm n1
  go_wp2_with fail
  go_region_held3 (fun w' => w'.cell? ⟨b8, 0, none⟩ = some (.slice ca1 (s.load at_).1.C.length cp1) ∧ w'.cell? ⟨b8, 1, none⟩ = some (.int .i64 (s.most : Int)) ∧ w'.cell? ⟨b8, 2, none⟩ = some (.slice la1 (s.load at_).1.L.length lp1)) (go_keep)
    (first | (go_at_call 45; refine (num12 _ _).mono ?_; rintro e w' ⟨rfl, rfl⟩))
  go_wp2
  have HL3 := Lib.hid ((((HL2.out.set 4 rfl 0 (.slice ca1 (s.load at_).1.C.length cp1)).set 4 rfl 1 (.int .i64 (s.most : Int))).set 4 rfl 2 (.slice la1 (s.load at_).1.L.length lp1)).drew)
  simp only [List.set_cons_succ, List.set_cons_zero, List.setIfInBounds_toArray] at HL3
  obtain ⟨y0, y1, y2, _, _, _, _, _, _⟩ := HL3.out.c3 4 rfl
  refine bodyPost_ret (v := .tuple #[.agg #[.slice ca1 (s.load at_).1.C.length cp1, .int .i64 (s.most : Int), .slice la1 (s.load at_).1.L.length lp1], .bool true]) (by simp [results, Try.results50, go_sem, y0, y1, y2]) rfl ?_
  exact ⟨_, _, _, rfl, HL3.out⟩
set_option maxHeartbeats 4000000 in
theorem act12_unclaim (T : List Nat) (w : World) (g : Nat) (s : Ar) (vc vl : Value) (at_ : Int) (n : Nat) (h : Led T w w [arena g s, refT vc vl s]) (hL : s.L.length ≤ 1048576) :
    Calls Try.prog 50 #[.pointer (some ⟨g, 0, none⟩), refV vc s.most vl, .agg #[.int .i64 2, .int .i64 at_, .int .u64 (n : Int)]] w (Acted12 T w g s ⟨2, at_, n⟩) := by
  obtain ⟨hwd, _, _, _⟩ := h.artAll 0 rfl
  obtain ⟨ca, cp, rfl, _, _⟩ := own_val (h.refAt 1 rfl).cel
  obtain ⟨la, lp, rfl, _, _⟩ := own_val (h.refAt 1 rfl).log
  have HL0 := Lib.hid h
  have HW := Lib.hid hwd
  clear h hwd
  unfold refV
  go_enter Try.func50, Try.ntmps50
  go_wp2_with fail
  refine ((((HL0.out.alloc _ _).alloc _ _).alloc _ _).refGo 1 rfl (fun T h => rUnclaim T _ _ _ s at_ hL h)).mono ?_
  rintro e w1 ⟨vc', vl', rfl, hL⟩
  simp only [List.nil_append, List.cons_append, List.set_cons_succ, List.set_cons_zero, World.size_alloc] at hL
  obtain ⟨ca1, cp1, rfl, _, _⟩ := own_val (hL.refAt 1 rfl).cel
  obtain ⟨la1, lp1, rfl, _, _⟩ := own_val (hL.refAt 1 rfl).log
  have HL1 := Lib.hid hL
  clear hL
  unfold refV
  obtain ⟨b6, hb6⟩ : ∃ b, w.heap.size + 1 + 1 = b := ⟨_, rfl⟩
  rw [hb6] at HL1 ⊢
  obtain ⟨b5, hb5⟩ : ∃ b, w.heap.size + 1 = b := ⟨_, rfl⟩
  rw [hb5] at HL1 ⊢
  obtain ⟨b4, hb4⟩ : ∃ b, w.heap.size = b := ⟨_, rfl⟩
  rw [hb4] at HL1 ⊢
  clear hb6 hb5 hb4
  obtain ⟨a0, a1, a2, _, _, _, za, za1, za2⟩ := HL1.out.c3 3 rfl
  go_wp2_with fail
  refine wp_name ?_
  intro w2 hw2
  have HL2 := Lib.hid (HL1.out.al1 hw2)
  simp only [List.nil_append, List.cons_append] at HL2
  clear hw2 a0 a1 a2 za za1 za2
  obtain ⟨b8, hb8⟩ : ∃ b, w1.heap.size = b := ⟨_, rfl⟩
  rw [hb8] at HL2 ⊢
  clear hb8 HL1
  obtain ⟨a0, a1, a2, _, _, _, za, za1, za2⟩ := HL2.out.c3 3 rfl
  obtain ⟨p0, p1, p2, f0, f1, f2, z6, _, _⟩ := HL2.out.c3 4 rfl
  obtain ⟨r0, r1, r2, _, _, _, zr, _, _⟩ := HL2.out.c3 5 rfl
  have n1 := HL2.out.ne 4 5 rfl rfl (by decide)
  have n2 := HL2.out.ne 4 3 rfl rfl (by decide)
  have n3 := Ne.symm n1
  have n4 := Ne.symm n2
  go_region_held3 (fun w' => w'.cell? ⟨b8, 0, none⟩ = some (.slice ca1 (s.store at_ 0).1.C.length cp1) ∧ w'.cell? ⟨b8, 1, none⟩ = some (.int .i64 (s.most : Int)) ∧ w'.cell? ⟨b8, 2, none⟩ = some (.slice la1 (s.store at_ 0).1.L.length lp1) ∧ w'.cell? ⟨b5, 1, none⟩ = some (.int .i64 at_)) (go_keep)
    (first
    | (go_at_call 46; refine (HL2.out.drew.flUnclaim 0 rfl at_ (s.store at_ 0).1 (s.store at_ 0).2.2 (by omega) rfl rfl).mono ?_; rintro e w3 ⟨rfl, hL⟩; have HL3 := Lib.hid hL; simp only [List.set_cons_succ, List.set_cons_zero] at HL3; obtain ⟨a0, a1, a2, _, _, _, za, za1, za2⟩ := HL3.out.c3 3 rfl; obtain ⟨p0, p1, p2, f0, f1, f2, z6, _, _⟩ := HL3.out.c3 4 rfl; obtain ⟨r0, r1, r2, _, _, _, zr, _, _⟩ := HL3.out.c3 5 rfl; clear hL)
    | (go_at_call 45; refine (num12 _ _).mono ?_; rintro e w' ⟨rfl, rfl⟩))
  go_wp2
  have HL4 := Lib.hid (((HL3.out.set 4 rfl 0 (.slice ca1 (s.store at_ 0).1.C.length cp1)).set 4 rfl 1 (.int .i64 (s.most : Int))).set 4 rfl 2 (.slice la1 (s.store at_ 0).1.L.length lp1))
  simp only [List.set_cons_succ, List.set_cons_zero, List.setIfInBounds_toArray] at HL4
  obtain ⟨y0, y1, y2, _, _, _, _, _, _⟩ := HL4.out.c3 4 rfl
  refine bodyPost_ret (v := .tuple #[.agg #[.slice ca1 (s.store at_ 0).1.C.length cp1, .int .i64 (s.most : Int), .slice la1 (s.store at_ 0).1.L.length lp1], .bool true]) (by simp [results, Try.results50, go_sem, y0, y1, y2]) rfl ?_
  exact ⟨_, _, _, rfl, HL4.out⟩
set_option maxHeartbeats 4000000 in
theorem act12_settle (T : List Nat) (w : World) (g : Nat) (s : Ar) (vc vl : Value) (at_ : Int) (n : Nat) (h : Led T w w [arena g s, refT vc vl s]) (hL : s.L.length ≤ 1048576) :
    Calls Try.prog 50 #[.pointer (some ⟨g, 0, none⟩), refV vc s.most vl, .agg #[.int .i64 5, .int .i64 at_, .int .u64 (n : Int)]] w (Acted12 T w g s ⟨5, at_, n⟩) := by
  obtain ⟨hwd, _, _, _⟩ := h.artAll 0 rfl
  obtain ⟨ca, cp, rfl, _, _⟩ := own_val (h.refAt 1 rfl).cel
  obtain ⟨la, lp, rfl, _, _⟩ := own_val (h.refAt 1 rfl).log
  have HL0 := Lib.hid h
  have HW := Lib.hid hwd
  clear h hwd
  unfold refV
  go_enter Try.func50, Try.ntmps50
  go_wp2_with fail
  refine ((((HL0.out.alloc _ _).alloc _ _).alloc _ _).refGo 1 rfl (fun T h => rSettle T _ _ _ s at_ hL h)).mono ?_
  rintro e w1 ⟨vc', vl', rfl, hL⟩
  simp only [List.nil_append, List.cons_append, List.set_cons_succ, List.set_cons_zero, World.size_alloc] at hL
  obtain ⟨ca1, cp1, rfl, _, _⟩ := own_val (hL.refAt 1 rfl).cel
  obtain ⟨la1, lp1, rfl, _, _⟩ := own_val (hL.refAt 1 rfl).log
  have HL1 := Lib.hid hL
  clear hL
  unfold refV
  obtain ⟨b6, hb6⟩ : ∃ b, w.heap.size + 1 + 1 = b := ⟨_, rfl⟩
  rw [hb6] at HL1 ⊢
  obtain ⟨b5, hb5⟩ : ∃ b, w.heap.size + 1 = b := ⟨_, rfl⟩
  rw [hb5] at HL1 ⊢
  obtain ⟨b4, hb4⟩ : ∃ b, w.heap.size = b := ⟨_, rfl⟩
  rw [hb4] at HL1 ⊢
  clear hb6 hb5 hb4
  obtain ⟨a0, a1, a2, _, _, _, za, za1, za2⟩ := HL1.out.c3 3 rfl
  go_wp2_with fail
  refine wp_name ?_
  intro w2 hw2
  have HL2 := Lib.hid (HL1.out.al1 hw2)
  simp only [List.nil_append, List.cons_append] at HL2
  clear hw2 a0 a1 a2 za za1 za2
  obtain ⟨b8, hb8⟩ : ∃ b, w1.heap.size = b := ⟨_, rfl⟩
  rw [hb8] at HL2 ⊢
  clear hb8 HL1
  obtain ⟨a0, a1, a2, _, _, _, za, za1, za2⟩ := HL2.out.c3 3 rfl
  obtain ⟨p0, p1, p2, f0, f1, f2, z6, _, _⟩ := HL2.out.c3 4 rfl
  obtain ⟨r0, r1, r2, _, _, _, zr, _, _⟩ := HL2.out.c3 5 rfl
  have n1 := HL2.out.ne 4 5 rfl rfl (by decide)
  have n2 := HL2.out.ne 4 3 rfl rfl (by decide)
  have n3 := Ne.symm n1
  have n4 := Ne.symm n2
  go_region_held3 (fun w' => w'.cell? ⟨b8, 0, none⟩ = some (.slice ca1 (s.store at_ 2).1.C.length cp1) ∧ w'.cell? ⟨b8, 1, none⟩ = some (.int .i64 (s.most : Int)) ∧ w'.cell? ⟨b8, 2, none⟩ = some (.slice la1 (s.store at_ 2).1.L.length lp1) ∧ w'.cell? ⟨b5, 1, none⟩ = some (.int .i64 at_)) (go_keep)
    (first
    | (go_at_call 47; refine (HL2.out.drew.flSettle 0 rfl at_ (s.store at_ 2).1 (s.store at_ 2).2.2 (by omega) rfl rfl).mono ?_; rintro e w3 ⟨rfl, hL⟩; have HL3 := Lib.hid hL; simp only [List.set_cons_succ, List.set_cons_zero] at HL3; obtain ⟨a0, a1, a2, _, _, _, za, za1, za2⟩ := HL3.out.c3 3 rfl; obtain ⟨p0, p1, p2, f0, f1, f2, z6, _, _⟩ := HL3.out.c3 4 rfl; obtain ⟨r0, r1, r2, _, _, _, zr, _, _⟩ := HL3.out.c3 5 rfl; clear hL)
    | (go_at_call 45; refine (num12 _ _).mono ?_; rintro e w' ⟨rfl, rfl⟩))
  go_wp2
  have HL4 := Lib.hid (((HL3.out.set 4 rfl 0 (.slice ca1 (s.store at_ 2).1.C.length cp1)).set 4 rfl 1 (.int .i64 (s.most : Int))).set 4 rfl 2 (.slice la1 (s.store at_ 2).1.L.length lp1))
  simp only [List.set_cons_succ, List.set_cons_zero, List.setIfInBounds_toArray] at HL4
  obtain ⟨y0, y1, y2, _, _, _, _, _, _⟩ := HL4.out.c3 4 rfl
  refine bodyPost_ret (v := .tuple #[.agg #[.slice ca1 (s.store at_ 2).1.C.length cp1, .int .i64 (s.most : Int), .slice la1 (s.store at_ 2).1.L.length lp1], .bool true]) (by simp [results, Try.results50, go_sem, y0, y1, y2]) rfl ?_
  exact ⟨_, _, _, rfl, HL4.out⟩
set_option maxHeartbeats 4000000 in
theorem act12_store (T : List Nat) (w : World) (g : Nat) (s : Ar) (vc vl : Value) (at_ : Int) (n : Nat) (hn : Wd n) (h : Led T w w [arena g s, refT vc vl s]) (hL : s.L.length ≤ 1048576) :
    Calls Try.prog 50 #[.pointer (some ⟨g, 0, none⟩), refV vc s.most vl, .agg #[.int .i64 7, .int .i64 at_, .int .u64 (n : Int)]] w (Acted12 T w g s ⟨7, at_, n⟩) := by
  obtain ⟨hwd, _, _, _⟩ := h.artAll 0 rfl
  obtain ⟨ca, cp, rfl, _, _⟩ := own_val (h.refAt 1 rfl).cel
  obtain ⟨la, lp, rfl, _, _⟩ := own_val (h.refAt 1 rfl).log
  have HL0 := Lib.hid h
  have HW := Lib.hid hwd
  clear h hwd
  unfold refV
  go_enter Try.func50, Try.ntmps50
  go_wp2_with fail
  refine ((((HL0.out.alloc _ _).alloc _ _).alloc _ _).refGo 1 rfl (fun T h => rStore T _ _ _ s at_ n hL h)).mono ?_
  rintro e w1 ⟨vc', vl', rfl, hL⟩
  simp only [List.nil_append, List.cons_append, List.set_cons_succ, List.set_cons_zero, World.size_alloc] at hL
  obtain ⟨ca1, cp1, rfl, _, _⟩ := own_val (hL.refAt 1 rfl).cel
  obtain ⟨la1, lp1, rfl, _, _⟩ := own_val (hL.refAt 1 rfl).log
  have HL1 := Lib.hid hL
  clear hL
  unfold refV
  obtain ⟨b6, hb6⟩ : ∃ b, w.heap.size + 1 + 1 = b := ⟨_, rfl⟩
  rw [hb6] at HL1 ⊢
  obtain ⟨b5, hb5⟩ : ∃ b, w.heap.size + 1 = b := ⟨_, rfl⟩
  rw [hb5] at HL1 ⊢
  obtain ⟨b4, hb4⟩ : ∃ b, w.heap.size = b := ⟨_, rfl⟩
  rw [hb4] at HL1 ⊢
  clear hb6 hb5 hb4
  obtain ⟨a0, a1, a2, _, _, _, za, za1, za2⟩ := HL1.out.c3 3 rfl
  go_wp2_with fail
  refine wp_name ?_
  intro w2 hw2
  have HL2 := Lib.hid (HL1.out.al1 hw2)
  simp only [List.nil_append, List.cons_append] at HL2
  clear hw2 a0 a1 a2 za za1 za2
  obtain ⟨b8, hb8⟩ : ∃ b, w1.heap.size = b := ⟨_, rfl⟩
  rw [hb8] at HL2 ⊢
  clear hb8 HL1
  obtain ⟨a0, a1, a2, _, _, _, za, za1, za2⟩ := HL2.out.c3 3 rfl
  obtain ⟨p0, p1, p2, f0, f1, f2, z6, _, _⟩ := HL2.out.c3 4 rfl
  obtain ⟨r0, r1, r2, _, _, _, zr, _, _⟩ := HL2.out.c3 5 rfl
  have n1 := HL2.out.ne 4 5 rfl rfl (by decide)
  have n2 := HL2.out.ne 4 3 rfl rfl (by decide)
  have n3 := Ne.symm n1
  have n4 := Ne.symm n2
  go_region_held3 (fun w' => w'.cell? ⟨b8, 0, none⟩ = some (.slice ca1 (s.store at_ n).1.C.length cp1) ∧ w'.cell? ⟨b8, 1, none⟩ = some (.int .i64 (s.most : Int)) ∧ w'.cell? ⟨b8, 2, none⟩ = some (.slice la1 (s.store at_ n).1.L.length lp1) ∧ w'.cell? ⟨b5, 1, none⟩ = some (.int .i64 at_)∧ w'.cell? ⟨b5, 2, none⟩ = some (.int .u64 (n : Int))) (go_keep)
    (first
    | (go_at_call 23; refine (HL2.out.drew.ar 0 rfl (fun fp hI => Store_any _ g fp s at_ hI (by omega) n hn)).mono ?_; rintro e w3 ⟨rfl, hL⟩; have HL3 := Lib.hid hL; simp only [List.set_cons_succ, List.set_cons_zero] at HL3; obtain ⟨a0, a1, a2, _, _, _, za, za1, za2⟩ := HL3.out.c3 3 rfl; obtain ⟨p0, p1, p2, f0, f1, f2, z6, _, _⟩ := HL3.out.c3 4 rfl; obtain ⟨r0, r1, r2, _, _, _, zr, _, _⟩ := HL3.out.c3 5 rfl; clear hL)
    | (go_at_call 45; refine (num12 _ _).mono ?_; rintro e w' ⟨rfl, rfl⟩))
  go_wp2
  have HL4 := Lib.hid (((HL3.out.set 4 rfl 0 (.slice ca1 (s.store at_ n).1.C.length cp1)).set 4 rfl 1 (.int .i64 (s.most : Int))).set 4 rfl 2 (.slice la1 (s.store at_ n).1.L.length lp1))
  simp only [List.set_cons_succ, List.set_cons_zero, List.setIfInBounds_toArray] at HL4
  obtain ⟨y0, y1, y2, _, _, _, _, _, _⟩ := HL4.out.c3 4 rfl
  refine bodyPost_ret (v := .tuple #[.agg #[.slice ca1 (s.store at_ n).1.C.length cp1, .int .i64 (s.most : Int), .slice la1 (s.store at_ n).1.L.length lp1], .bool true]) (by simp [results, Try.results50, go_sem, y0, y1, y2]) rfl ?_
  exact ⟨_, _, _, rfl, HL4.out⟩
set_option maxHeartbeats 4000000 in
theorem act12_none (T : List Nat) (w : World) (g : Nat) (s : Ar) (vc vl : Value) (what at_ : Int) (n : Nat) (h0 : (what == 0) = false) (h1 : (what == 1) = false) (h2 : (what == 2) = false) (h3 : (what == 3) = false) (h4 : (what == 4) = false) (h5 : (what == 5) = false) (h6 : (what == 6) = false) (h7 : (what == 7) = false)
    (h : Led T w w [arena g s, refT vc vl s]) :
    Calls Try.prog 50 #[.pointer (some ⟨g, 0, none⟩), refV vc s.most vl, .agg #[.int .i64 what, .int .i64 at_, .int .u64 (n : Int)]] w (Acted12 T w g s ⟨what, at_, n⟩) := by
  have HS : Hid (act12S s ⟨what, at_, n⟩ = s) := by
    simp only [beq_eq_false_iff_ne] at h0 h1 h2 h3 h4 h5 h6 h7
    simp [Hid, act12S, h0, h1, h2, h3, h4, h5, h6, h7]
  obtain ⟨hwd, _, _, _⟩ := h.artAll 0 rfl
  obtain ⟨ca, cp, rfl, _, _⟩ := own_val (h.refAt 1 rfl).cel
  obtain ⟨la, lp, rfl, _, _⟩ := own_val (h.refAt 1 rfl).log
  have HL0 := Lib.hid h
  have HW := Lib.hid hwd
  clear h hwd
  unfold refV
  go_enter Try.func50, Try.ntmps50
  go_wp2_with fail
  refine post_name ?_
  intro w2 hw2
  have HL2 := Lib.hid (HL0.out.al3 hw2)
  simp only [List.nil_append, List.cons_append] at HL2
  clear hw2
  obtain ⟨y0, y1, y2, _, _, _, _, _, _⟩ := HL2.out.c3 4 rfl
  refine bodyPost_ret (v := .tuple #[.agg #[.slice ca s.C.length cp, .int .i64 (s.most : Int), .slice la s.L.length lp], .bool true]) (by simp [results, Try.results50, go_sem, y0, y1, y2]) rfl ?_
  exact ⟨_, _, _, rfl, by rw [HS.out]; exact HL2.out⟩
/-- act, whatever is called. -/
theorem act12 (T : List Nat) (w : World) (g : Nat) (s : Ar) (vc vl : Value) (c : Call12) (hc : c.Ok) (h : Led T w w [arena g s, refT vc vl s]) (hL : s.L.length ≤ 1048576) :
    Calls Try.prog 50 #[.pointer (some ⟨g, 0, none⟩), refV vc s.most vl, .agg #[.int .i64 c.what, .int .i64 c.at_, .int .u64 (c.n : Int)]] w (Acted12 T w g s c) := by
  obtain ⟨what, at_, n⟩ := c
  obtain ⟨_, _, hn⟩ := hc
  by_cases h0 : what = 0
  · subst h0; exact act12_new T w g s vc vl at_ n h hL
  by_cases h1 : what = 1
  · subst h1; exact act12_claim T w g s vc vl at_ n h hL
  by_cases h2 : what = 2
  · subst h2; exact act12_unclaim T w g s vc vl at_ n h hL
  by_cases h3 : what = 3
  · subst h3; exact act12_take3 T w g s vc vl at_ n h hL
  by_cases h4 : what = 4
  · subst h4; exact act12_take4 T w g s vc vl at_ n h hL
  by_cases h5 : what = 5
  · subst h5; exact act12_settle T w g s vc vl at_ n h hL
  by_cases h6 : what = 6
  · subst h6; exact act12_look T w g s vc vl at_ n h hL
  by_cases h7 : what = 7
  · subst h7; exact act12_store T w g s vc vl at_ n hn h hL
  exact act12_none T w g s vc vl what at_ n (by simpa using h0) (by simpa using h1) (by simpa using h2) (by simpa using h3) (by simpa using h4) (by simpa using h5) (by simpa using h6) (by simpa using h7) h
end Go.Proofs.Ytegebecogbebaaa
