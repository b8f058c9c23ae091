/-
  The reference's Load, Store, Swap (betrothalref01), and those of layer 12 (betrothalref12), in the ledger.
-/
import Derived.Test.YtegebecogbebaaaRefT
import Derived.Test.YtegebecogbebaaaFlag
import Derived.Deep.RegionHeld3
namespace Go.Proofs.Ytegebecogbebaaa
open Go.RowKit Go.Shelf
set_option maxRecDepth 100000
set_option linter.unusedVariables false
set_option linter.unusedSimpArgs false

/-- A call of the reference's: it tells E, and the reference's arena is s' then. -/
def RefGo (T : List Nat) (w : World) (s' : Ar) (E : Value → Value → Value) (e : Ending) (w' : World) : Prop := ∃ vc' vl' rest, e = .returned (E vc' vl') ∧ Led T w w' (refT vc' vl' s' :: rest)
theorem Led.refGo {T0 : List Nat} {w0 w : World} {l : List Thing} {vc vl : Value} {s s' : Ar} {E : Value → Value → Value} {f : Nat} {args : Array Value} (h : Led T0 w0 w l) (i : Nat) (hi : l[i]? = some (refT vc vl s))
    (hc : ∀ T, Led T w w [refT vc vl s] → Calls Try.prog f args w (RefGo T w s' E)) : Calls Try.prog f args w fun e w' => ∃ vc' vl', e = .returned (E vc' vl') ∧ Led T0 w0 w' (l.set i (refT vc' vl' s')) := by
  obtain ⟨T', h1, h2⟩ := h.frame1 i hi
  refine (hc T' h1).mono ?_
  rintro e w' ⟨vc', vl', rest, rfl, h3⟩
  exact ⟨vc', vl', rfl, h2 _ _ _ h3⟩

theorem post_name {P : Program} {fn : Func} {R : Ending → World → Prop} {ex : Exit} {a : Act} {W : World} (h : ∀ w2, W = w2 → bodyPost P fn R ex a w2) : bodyPost P fn R ex a W := h W rfl
set_option maxHeartbeats 4000000 in
theorem rLoad (T : List Nat) (w : World) (vc vl : Value) (s : Ar) (at_ : Int) (hL : s.L.length ≤ 1048576) (h : Led T w w [refT vc vl s]) :
    Calls Try.prog 89 #[refV vc s.most vl, .int .i64 at_] w (RefGo T w (s.load at_).1 (fun vc' vl' => .tuple #[refV vc' s.most vl', .int .u64 ((s.load at_).2.1.old : Int), .int .i64 ((s.load at_).2.2 : Int)])) := by
  obtain ⟨ca, cp, rfl, _, _⟩ := own_val (h.refAt 0 rfl).cel
  obtain ⟨la, lp, rfl, _, _⟩ := own_val (h.refAt 0 rfl).log
  have HL0 := Lib.hid h
  clear h
  unfold refV
  go_enter Try.func89, Try.ntmps89
  go_wp2_with fail
  refine (((HL0.out.alloc _ _).alloc _ _).refDid 0 rfl (fun hr => refLoad _ _ _ s at_ hr hL 0 0)).mono ?_
  rintro e w1 ⟨vc', vl', rfl, hL⟩
  simp only [List.nil_append, List.cons_append, List.set_cons_succ, List.set_cons_zero, World.size_alloc] at hL
  obtain ⟨ca1, cp1, rfl, _, _⟩ := own_val (hL.refAt 0 rfl).cel
  obtain ⟨la1, lp1, rfl, _, _⟩ := own_val (hL.refAt 0 rfl).log
  have HL1 := Lib.hid hL
  clear hL
  unfold refV
  obtain ⟨b4, hb4⟩ : ∃ b, w.heap.size + 1 = b := ⟨_, rfl⟩
  rw [hb4] at HL1 ⊢
  obtain ⟨b2, hb2⟩ : ∃ b, w.heap.size = b := ⟨_, rfl⟩
  rw [hb2] at HL1 ⊢
  clear hb4 hb2
  obtain ⟨p0, p1, p2, f0, f1, f2, z4, _, _⟩ := HL1.out.c3 2 rfl
  go_wp2_with fail
  refine wp_name ?_
  intro w2 hw2
  have HL2 := Lib.hid (HL1.out.al2 hw2)
  simp only [List.nil_append, List.cons_append] at HL2
  clear hw2
  obtain ⟨b8, hb8⟩ : ∃ b, w1.heap.size + 1 = b := ⟨_, rfl⟩
  rw [hb8] at HL2 ⊢
  obtain ⟨b7, hb7⟩ : ∃ b, w1.heap.size = b := ⟨_, rfl⟩
  rw [hb7] at HL2 ⊢
  clear hb8 hb7 HL1 p0 p1 p2 f0 f1 f2 z4
  obtain ⟨p0, p1, p2, f0, f1, f2, z4, _, _⟩ := HL2.out.c3 2 rfl
  obtain ⟨r0, r1, r2, _, _, _, zr, _, _⟩ := HL2.out.c3 3 rfl
  obtain ⟨_, _, q2, _, q4, _, _, _, _, _, zq, _, _⟩ := HL2.out.c5 4 rfl
  have n1 := HL2.out.ne 2 3 rfl rfl (by decide)
  have n2 := HL2.out.ne 2 4 rfl rfl (by decide)
  have n3 := Ne.symm n1
  have n4 := Ne.symm n2
  go_region_held3 (fun w' => w'.cell? ⟨b7, 0, none⟩ = some (.slice ca1 (s.load at_).1.C.length cp1) ∧ w'.cell? ⟨b7, 1, none⟩ = some (.int .i64 (s.most : Int)) ∧ w'.cell? ⟨b7, 2, none⟩ = some (.slice la1 (s.load at_).1.L.length lp1) ∧ w'.cell? ⟨b8, 2, none⟩ = some (.int .u64 ((s.load at_).2.1.old : Int))) (go_keep) (first | fail)
  go_wp2
  have HL3 := Lib.hid ((((HL2.out.set 2 rfl 0 (.slice ca1 (s.load at_).1.C.length cp1)).set 2 rfl 1 (.int .i64 (s.most : Int))).set 2 rfl 2 (.slice la1 (s.load at_).1.L.length lp1)).drew)
  simp only [List.set_cons_succ, List.set_cons_zero, List.setIfInBounds_toArray] at HL3
  obtain ⟨y0, y1, y2, _, _, _, _, _, _⟩ := HL3.out.c3 2 rfl
  refine bodyPost_ret (v := .tuple #[.agg #[.slice ca1 (s.load at_).1.C.length cp1, .int .i64 (s.most : Int), .slice la1 (s.load at_).1.L.length lp1], .int .u64 ((s.load at_).2.1.old : Int), .int .i64 ((s.load at_).2.2 : Int)]) (by simp [results, Try.results89, go_sem, y0, y1, y2]) rfl ?_
  exact ⟨_, _, _, rfl, HL3.out⟩
set_option maxHeartbeats 4000000 in
theorem rSwap (T : List Nat) (w : World) (vc vl : Value) (s : Ar) (at_ : Int) (x y : Nat) (hL : s.L.length ≤ 1048576) (h : Led T w w [refT vc vl s]) :
    Calls Try.prog 88 #[refV vc s.most vl, .int .i64 at_, .int .u64 (x : Int), .int .u64 (y : Int)] w (RefGo T w (s.swap at_ x y).1 (fun vc' vl' => .tuple #[refV vc' s.most vl', .int .u64 ((s.swap at_ x y).2.1.old : Int), .bool (s.swap at_ x y).2.1.did, .int .i64 ((s.swap at_ x y).2.2 : Int)])) := by
  obtain ⟨ca, cp, rfl, _, _⟩ := own_val (h.refAt 0 rfl).cel
  obtain ⟨la, lp, rfl, _, _⟩ := own_val (h.refAt 0 rfl).log
  have HL0 := Lib.hid h
  clear h
  unfold refV
  go_enter Try.func88, Try.ntmps88
  go_wp2_with fail
  refine (((HL0.out.alloc _ _).alloc _ _).refDid 0 rfl (fun hr => refSwap _ _ _ s at_ hr hL x y)).mono ?_
  rintro e w1 ⟨vc', vl', rfl, hL⟩
  simp only [List.nil_append, List.cons_append, List.set_cons_succ, List.set_cons_zero, World.size_alloc] at hL
  obtain ⟨ca1, cp1, rfl, _, _⟩ := own_val (hL.refAt 0 rfl).cel
  obtain ⟨la1, lp1, rfl, _, _⟩ := own_val (hL.refAt 0 rfl).log
  have HL1 := Lib.hid hL
  clear hL
  unfold refV
  obtain ⟨b4, hb4⟩ : ∃ b, w.heap.size + 1 = b := ⟨_, rfl⟩
  rw [hb4] at HL1 ⊢
  obtain ⟨b2, hb2⟩ : ∃ b, w.heap.size = b := ⟨_, rfl⟩
  rw [hb2] at HL1 ⊢
  clear hb4 hb2
  obtain ⟨p0, p1, p2, f0, f1, f2, z4, _, _⟩ := HL1.out.c3 2 rfl
  go_wp2_with fail
  refine wp_name ?_
  intro w2 hw2
  have HL2 := Lib.hid (HL1.out.al2 hw2)
  simp only [List.nil_append, List.cons_append] at HL2
  clear hw2
  obtain ⟨b8, hb8⟩ : ∃ b, w1.heap.size + 1 = b := ⟨_, rfl⟩
  rw [hb8] at HL2 ⊢
  obtain ⟨b7, hb7⟩ : ∃ b, w1.heap.size = b := ⟨_, rfl⟩
  rw [hb7] at HL2 ⊢
  clear hb8 hb7 HL1 p0 p1 p2 f0 f1 f2 z4
  obtain ⟨p0, p1, p2, f0, f1, f2, z4, _, _⟩ := HL2.out.c3 2 rfl
  obtain ⟨r0, r1, r2, _, _, _, zr, _, _⟩ := HL2.out.c3 3 rfl
  obtain ⟨_, _, q2, _, q4, _, _, _, _, _, zq, _, _⟩ := HL2.out.c5 4 rfl
  have n1 := HL2.out.ne 2 3 rfl rfl (by decide)
  have n2 := HL2.out.ne 2 4 rfl rfl (by decide)
  have n3 := Ne.symm n1
  have n4 := Ne.symm n2
  go_region_held3 (fun w' => w'.cell? ⟨b7, 0, none⟩ = some (.slice ca1 (s.swap at_ x y).1.C.length cp1) ∧ w'.cell? ⟨b7, 1, none⟩ = some (.int .i64 (s.most : Int)) ∧ w'.cell? ⟨b7, 2, none⟩ = some (.slice la1 (s.swap at_ x y).1.L.length lp1) ∧ w'.cell? ⟨b8, 2, none⟩ = some (.int .u64 ((s.swap at_ x y).2.1.old : Int)) ∧ w'.cell? ⟨b8, 4, none⟩ = some (.bool (s.swap at_ x y).2.1.did)) (go_keep) (first | fail)
  go_wp2
  have HL3 := Lib.hid ((((HL2.out.set 2 rfl 0 (.slice ca1 (s.swap at_ x y).1.C.length cp1)).set 2 rfl 1 (.int .i64 (s.most : Int))).set 2 rfl 2 (.slice la1 (s.swap at_ x y).1.L.length lp1)).drew)
  simp only [List.set_cons_succ, List.set_cons_zero, List.setIfInBounds_toArray] at HL3
  obtain ⟨y0, y1, y2, _, _, _, _, _, _⟩ := HL3.out.c3 2 rfl
  refine bodyPost_ret (v := .tuple #[.agg #[.slice ca1 (s.swap at_ x y).1.C.length cp1, .int .i64 (s.most : Int), .slice la1 (s.swap at_ x y).1.L.length lp1], .int .u64 ((s.swap at_ x y).2.1.old : Int), .bool (s.swap at_ x y).2.1.did, .int .i64 ((s.swap at_ x y).2.2 : Int)]) (by simp [results, Try.results88, go_sem, y0, y1, y2]) rfl ?_
  exact ⟨_, _, _, rfl, HL3.out⟩
set_option maxHeartbeats 4000000 in
theorem rStore (T : List Nat) (w : World) (vc vl : Value) (s : Ar) (at_ : Int) (x : Nat) (hL : s.L.length ≤ 1048576) (h : Led T w w [refT vc vl s]) :
    Calls Try.prog 74 #[refV vc s.most vl, .int .i64 at_, .int .u64 (x : Int)] w (RefGo T w (s.store at_ x).1 (fun vc' vl' => .tuple #[refV vc' s.most vl', .int .i64 ((s.store at_ x).2.2 : Int)])) := by
  obtain ⟨ca, cp, rfl, _, _⟩ := own_val (h.refAt 0 rfl).cel
  obtain ⟨la, lp, rfl, _, _⟩ := own_val (h.refAt 0 rfl).log
  have HL0 := Lib.hid h
  clear h
  unfold refV
  go_enter Try.func74, Try.ntmps74
  go_wp2_with fail
  refine (((HL0.out.alloc _ _).alloc _ _).refDid 0 rfl (fun hr => refStore _ _ _ s at_ hr hL x 0)).mono ?_
  rintro e w1 ⟨vc', vl', rfl, hL⟩
  simp only [List.nil_append, List.cons_append, List.set_cons_succ, List.set_cons_zero, World.size_alloc] at hL
  obtain ⟨ca1, cp1, rfl, _, _⟩ := own_val (hL.refAt 0 rfl).cel
  obtain ⟨la1, lp1, rfl, _, _⟩ := own_val (hL.refAt 0 rfl).log
  have HL1 := Lib.hid hL
  clear hL
  unfold refV
  obtain ⟨b4, hb4⟩ : ∃ b, w.heap.size + 1 = b := ⟨_, rfl⟩
  rw [hb4] at HL1 ⊢
  obtain ⟨b2, hb2⟩ : ∃ b, w.heap.size = b := ⟨_, rfl⟩
  rw [hb2] at HL1 ⊢
  clear hb4 hb2
  obtain ⟨p0, p1, p2, f0, f1, f2, z4, _, _⟩ := HL1.out.c3 2 rfl
  go_wp2_with fail
  refine post_name ?_
  intro w2 hw2
  have HL3 := Lib.hid ((((HL1.out.set 2 rfl 0 (.slice ca1 (s.store at_ x).1.C.length cp1)).set 2 rfl 1 (.int .i64 (s.most : Int))).set 2 rfl 2 (.slice la1 (s.store at_ x).1.L.length lp1)).al2 hw2)
  simp only [List.set_cons_succ, List.set_cons_zero, List.setIfInBounds_toArray, List.cons_append, List.nil_append] at HL3
  clear hw2
  obtain ⟨y0, y1, y2, _, _, _, _, _, _⟩ := HL3.out.c3 2 rfl
  refine bodyPost_ret (v := .tuple #[.agg #[.slice ca1 (s.store at_ x).1.C.length cp1, .int .i64 (s.most : Int), .slice la1 (s.store at_ x).1.L.length lp1], .int .i64 ((s.store at_ x).2.2 : Int)]) (by simp [results, Try.results74, go_sem, y0, y1, y2]) rfl ?_
  exact ⟨_, _, _, rfl, HL3.out⟩

theorem had12 (v no : Nat) (hv : Wd v) (h0 : no ≠ 0 → v = 0) (w : World) : Calls Try.prog 93 #[.int .u64 (v : Int), .int .i64 (no : Int)] w fun e w' => e = .returned (.tuple #[.int .i64 ((flagV v no).1 : Int), .int .i64 ((flagV v no).2 : Int)]) ∧ w = w' := by
  by_cases he : no = 0
  · subst he
    by_cases h2 : 2 < v
    · have HF : Hid (flagV v 0 = (0, 120)) := by simp [Hid, flagV, h2]
      have h2' : (2 : Int) < (v : Int) := by omega
      clear h0
      go_enter Try.func93, Try.ntmps93
      go_wp2
      go_ret2
      exact ⟨by rw [HF.out]; rfl, rfl⟩
    · have HF : Hid (flagV v 0 = (v, 0)) := by simp [Hid, flagV, h2]
      have h2' : ¬ (2 : Int) < (v : Int) := by omega
      have hc : IntKind.i64.wrap (v : Int) = (v : Int) := IntWalk.i64_in _ (by omega)
      clear h0
      go_enter Try.func93, Try.ntmps93
      go_wp2
      go_ret2
      exact ⟨by rw [HF.out]; rfl, rfl⟩
  · obtain rfl := h0 he
    have HF : Hid (flagV 0 no = (0, no)) := by simp [Hid, flagV, he]
    have he' : ((no : Int) == 0) = false := by simp; omega
    clear h0 he
    go_enter Try.func93, Try.ntmps93
    go_wp2
    go_ret2
    exact ⟨by rw [HF.out]; rfl, rfl⟩
theorem doBy_old0 (s : Ar) (op : Nat) (at_ : Int) (chg : Nat → Nat × Bool) (h : (s.doBy op at_ chg).2.2 ≠ 0) : (s.doBy op at_ chg).2.1.old = 0 := by
  rcases doBy_err s op at_ chg with h1 | ⟨_, h1⟩
  · exact absurd h1 h
  · rw [h1]; rfl
theorem doBy_wd' (s : Ar) (op : Nat) (at_ : Int) (chg : Nat → Nat × Bool) (h : ∀ n ∈ s.C, Wd n) : Wd (s.doBy op at_ chg).2.1.old := by
  have h0 : Wd 0 := by unfold Wd; omega
  simp only [Ar.doBy]
  split
  · simp only [List.getD]
    cases hc : s.C[at_.toNat]? with
    | none => exact h0
    | some x => exact h x (List.mem_of_getElem? hc)
  · exact h0

set_option maxHeartbeats 4000000 in
theorem rClaim (T : List Nat) (w : World) (vc vl : Value) (s : Ar) (at_ : Int) (hL : s.L.length ≤ 1048576) (hwd : ∀ n ∈ s.C, Wd n) (h : Led T w w [refT vc vl s]) :
    Calls Try.prog 82 #[refV vc s.most vl, .int .i64 at_] w (RefGo T w (s.swap at_ 0 1).1 (fun vc' vl' => .tuple #[refV vc' s.most vl', .int .i64 ((flagV (s.swap at_ 0 1).2.1.old (s.swap at_ 0 1).2.2).1 : Int), .int .i64 ((flagV (s.swap at_ 0 1).2.1.old (s.swap at_ 0 1).2.2).2 : Int)])) := by
  obtain ⟨ca, cp, rfl, _, _⟩ := own_val (h.refAt 0 rfl).cel
  obtain ⟨la, lp, rfl, _, _⟩ := own_val (h.refAt 0 rfl).log
  have HL0 := Lib.hid h
  clear h
  unfold refV
  go_enter Try.func82, Try.ntmps82
  go_wp2_with fail
  refine (((HL0.out.alloc _ _).alloc _ _).refGo 0 rfl (fun T h => rSwap T _ _ _ s at_ 0 1 hL h)).mono ?_
  rintro e w1 ⟨vc', vl', rfl, hL⟩
  simp only [List.nil_append, List.cons_append, List.set_cons_succ, List.set_cons_zero, World.size_alloc] at hL
  obtain ⟨ca1, cp1, rfl, _, _⟩ := own_val (hL.refAt 0 rfl).cel
  obtain ⟨la1, lp1, rfl, _, _⟩ := own_val (hL.refAt 0 rfl).log
  have HL1 := Lib.hid hL
  clear hL
  unfold refV
  obtain ⟨b4, hb4⟩ : ∃ b, w.heap.size + 1 = b := ⟨_, rfl⟩
  rw [hb4] at HL1 ⊢
  obtain ⟨b2, hb2⟩ : ∃ b, w.heap.size = b := ⟨_, rfl⟩
  rw [hb2] at HL1 ⊢
  clear hb4 hb2
  obtain ⟨p0, p1, p2, f0, f1, f2, z4, z41, z42⟩ := HL1.out.c3 2 rfl
  go_wp2_with fail
  refine (had12 _ _ (doBy_wd' s _ at_ _ hwd) (doBy_old0 s _ at_ _) _).mono ?_
  rintro e w' ⟨rfl, rfl⟩
  go_wp2
  refine post_name ?_
  intro w2 hw2
  have HL3 := Lib.hid ((((HL1.out.set 2 rfl 0 (.slice ca1 (s.swap at_ 0 1).1.C.length cp1)).set 2 rfl 1 (.int .i64 (s.most : Int))).set 2 rfl 2 (.slice la1 (s.swap at_ 0 1).1.L.length lp1)).al1 hw2)
  simp only [List.set_cons_succ, List.set_cons_zero, List.setIfInBounds_toArray, List.cons_append, List.nil_append] at HL3
  clear hw2
  obtain ⟨y0, y1, y2, _, _, _, _, _, _⟩ := HL3.out.c3 2 rfl
  refine bodyPost_ret (v := .tuple #[.agg #[.slice ca1 (s.swap at_ 0 1).1.C.length cp1, .int .i64 (s.most : Int), .slice la1 (s.swap at_ 0 1).1.L.length lp1], .int .i64 ((flagV (s.swap at_ 0 1).2.1.old (s.swap at_ 0 1).2.2).1 : Int), .int .i64 ((flagV (s.swap at_ 0 1).2.1.old (s.swap at_ 0 1).2.2).2 : Int)]) (by simp [results, Try.results82, go_sem, y0, y1, y2, Ar.swap, Ar.load]) rfl ?_
  exact ⟨_, _, _, rfl, HL3.out⟩
set_option maxHeartbeats 4000000 in
theorem rTake (T : List Nat) (w : World) (vc vl : Value) (s : Ar) (at_ : Int) (hL : s.L.length ≤ 1048576) (hwd : ∀ n ∈ s.C, Wd n) (h : Led T w w [refT vc vl s]) :
    Calls Try.prog 84 #[refV vc s.most vl, .int .i64 at_] w (RefGo T w (s.swap at_ 0 2).1 (fun vc' vl' => .tuple #[refV vc' s.most vl', .int .i64 ((flagV (s.swap at_ 0 2).2.1.old (s.swap at_ 0 2).2.2).1 : Int), .int .i64 ((flagV (s.swap at_ 0 2).2.1.old (s.swap at_ 0 2).2.2).2 : Int)])) := by
  obtain ⟨ca, cp, rfl, _, _⟩ := own_val (h.refAt 0 rfl).cel
  obtain ⟨la, lp, rfl, _, _⟩ := own_val (h.refAt 0 rfl).log
  have HL0 := Lib.hid h
  clear h
  unfold refV
  go_enter Try.func84, Try.ntmps84
  go_wp2_with fail
  refine (((HL0.out.alloc _ _).alloc _ _).refGo 0 rfl (fun T h => rSwap T _ _ _ s at_ 0 2 hL h)).mono ?_
  rintro e w1 ⟨vc', vl', rfl, hL⟩
  simp only [List.nil_append, List.cons_append, List.set_cons_succ, List.set_cons_zero, World.size_alloc] at hL
  obtain ⟨ca1, cp1, rfl, _, _⟩ := own_val (hL.refAt 0 rfl).cel
  obtain ⟨la1, lp1, rfl, _, _⟩ := own_val (hL.refAt 0 rfl).log
  have HL1 := Lib.hid hL
  clear hL
  unfold refV
  obtain ⟨b4, hb4⟩ : ∃ b, w.heap.size + 1 = b := ⟨_, rfl⟩
  rw [hb4] at HL1 ⊢
  obtain ⟨b2, hb2⟩ : ∃ b, w.heap.size = b := ⟨_, rfl⟩
  rw [hb2] at HL1 ⊢
  clear hb4 hb2
  obtain ⟨p0, p1, p2, f0, f1, f2, z4, z41, z42⟩ := HL1.out.c3 2 rfl
  go_wp2_with fail
  refine (had12 _ _ (doBy_wd' s _ at_ _ hwd) (doBy_old0 s _ at_ _) _).mono ?_
  rintro e w' ⟨rfl, rfl⟩
  go_wp2
  refine post_name ?_
  intro w2 hw2
  have HL3 := Lib.hid ((((HL1.out.set 2 rfl 0 (.slice ca1 (s.swap at_ 0 2).1.C.length cp1)).set 2 rfl 1 (.int .i64 (s.most : Int))).set 2 rfl 2 (.slice la1 (s.swap at_ 0 2).1.L.length lp1)).al1 hw2)
  simp only [List.set_cons_succ, List.set_cons_zero, List.setIfInBounds_toArray, List.cons_append, List.nil_append] at HL3
  clear hw2
  obtain ⟨y0, y1, y2, _, _, _, _, _, _⟩ := HL3.out.c3 2 rfl
  refine bodyPost_ret (v := .tuple #[.agg #[.slice ca1 (s.swap at_ 0 2).1.C.length cp1, .int .i64 (s.most : Int), .slice la1 (s.swap at_ 0 2).1.L.length lp1], .int .i64 ((flagV (s.swap at_ 0 2).2.1.old (s.swap at_ 0 2).2.2).1 : Int), .int .i64 ((flagV (s.swap at_ 0 2).2.1.old (s.swap at_ 0 2).2.2).2 : Int)]) (by simp [results, Try.results84, go_sem, y0, y1, y2, Ar.swap, Ar.load]) rfl ?_
  exact ⟨_, _, _, rfl, HL3.out⟩
set_option maxHeartbeats 4000000 in
theorem rLook (T : List Nat) (w : World) (vc vl : Value) (s : Ar) (at_ : Int) (hL : s.L.length ≤ 1048576) (hwd : ∀ n ∈ s.C, Wd n) (h : Led T w w [refT vc vl s]) :
    Calls Try.prog 86 #[refV vc s.most vl, .int .i64 at_] w (RefGo T w (s.load at_).1 (fun vc' vl' => .tuple #[refV vc' s.most vl', .int .i64 ((flagV (s.load at_).2.1.old (s.load at_).2.2).1 : Int), .int .i64 ((flagV (s.load at_).2.1.old (s.load at_).2.2).2 : Int)])) := by
  obtain ⟨ca, cp, rfl, _, _⟩ := own_val (h.refAt 0 rfl).cel
  obtain ⟨la, lp, rfl, _, _⟩ := own_val (h.refAt 0 rfl).log
  have HL0 := Lib.hid h
  clear h
  unfold refV
  go_enter Try.func86, Try.ntmps86
  go_wp2_with fail
  refine (((HL0.out.alloc _ _).alloc _ _).refGo 0 rfl (fun T h => rLoad T _ _ _ s at_ hL h)).mono ?_
  rintro e w1 ⟨vc', vl', rfl, hL⟩
  simp only [List.nil_append, List.cons_append, List.set_cons_succ, List.set_cons_zero, World.size_alloc] at hL
  obtain ⟨ca1, cp1, rfl, _, _⟩ := own_val (hL.refAt 0 rfl).cel
  obtain ⟨la1, lp1, rfl, _, _⟩ := own_val (hL.refAt 0 rfl).log
  have HL1 := Lib.hid hL
  clear hL
  unfold refV
  obtain ⟨b4, hb4⟩ : ∃ b, w.heap.size + 1 = b := ⟨_, rfl⟩
  rw [hb4] at HL1 ⊢
  obtain ⟨b2, hb2⟩ : ∃ b, w.heap.size = b := ⟨_, rfl⟩
  rw [hb2] at HL1 ⊢
  clear hb4 hb2
  obtain ⟨p0, p1, p2, f0, f1, f2, z4, z41, z42⟩ := HL1.out.c3 2 rfl
  go_wp2_with fail
  refine (had12 _ _ (doBy_wd' s _ at_ _ hwd) (doBy_old0 s _ at_ _) _).mono ?_
  rintro e w' ⟨rfl, rfl⟩
  go_wp2
  refine post_name ?_
  intro w2 hw2
  have HL3 := Lib.hid ((((HL1.out.set 2 rfl 0 (.slice ca1 (s.load at_).1.C.length cp1)).set 2 rfl 1 (.int .i64 (s.most : Int))).set 2 rfl 2 (.slice la1 (s.load at_).1.L.length lp1)).al1 hw2)
  simp only [List.set_cons_succ, List.set_cons_zero, List.setIfInBounds_toArray, List.cons_append, List.nil_append] at HL3
  clear hw2
  obtain ⟨y0, y1, y2, _, _, _, _, _, _⟩ := HL3.out.c3 2 rfl
  refine bodyPost_ret (v := .tuple #[.agg #[.slice ca1 (s.load at_).1.C.length cp1, .int .i64 (s.most : Int), .slice la1 (s.load at_).1.L.length lp1], .int .i64 ((flagV (s.load at_).2.1.old (s.load at_).2.2).1 : Int), .int .i64 ((flagV (s.load at_).2.1.old (s.load at_).2.2).2 : Int)]) (by simp [results, Try.results86, go_sem, y0, y1, y2, Ar.swap, Ar.load]) rfl ?_
  exact ⟨_, _, _, rfl, HL3.out⟩
set_option maxHeartbeats 4000000 in
theorem rUnclaim (T : List Nat) (w : World) (vc vl : Value) (s : Ar) (at_ : Int) (hL : s.L.length ≤ 1048576) (h : Led T w w [refT vc vl s]) :
    Calls Try.prog 83 #[refV vc s.most vl, .int .i64 at_] w (RefGo T w (s.store at_ 0).1 (fun vc' vl' => .tuple #[refV vc' s.most vl', .int .i64 ((s.store at_ 0).2.2 : Int)])) := by
  obtain ⟨ca, cp, rfl, _, _⟩ := own_val (h.refAt 0 rfl).cel
  obtain ⟨la, lp, rfl, _, _⟩ := own_val (h.refAt 0 rfl).log
  have HL0 := Lib.hid h
  clear h
  unfold refV
  go_enter Try.func83, Try.ntmps83
  go_wp2_with fail
  refine (((HL0.out.alloc _ _).alloc _ _).refGo 0 rfl (fun T h => rStore T _ _ _ s at_ 0 hL h)).mono ?_
  rintro e w1 ⟨vc', vl', rfl, hL⟩
  simp only [List.nil_append, List.cons_append, List.set_cons_succ, List.set_cons_zero, World.size_alloc] at hL
  obtain ⟨ca1, cp1, rfl, _, _⟩ := own_val (hL.refAt 0 rfl).cel
  obtain ⟨la1, lp1, rfl, _, _⟩ := own_val (hL.refAt 0 rfl).log
  have HL1 := Lib.hid hL
  clear hL
  unfold refV
  obtain ⟨b4, hb4⟩ : ∃ b, w.heap.size + 1 = b := ⟨_, rfl⟩
  rw [hb4] at HL1 ⊢
  obtain ⟨b2, hb2⟩ : ∃ b, w.heap.size = b := ⟨_, rfl⟩
  rw [hb2] at HL1 ⊢
  clear hb4 hb2
  obtain ⟨p0, p1, p2, f0, f1, f2, z4, z41, z42⟩ := HL1.out.c3 2 rfl
  go_wp2
  refine post_name ?_
  intro w2 hw2
  have HL3 := Lib.hid (((HL1.out.set 2 rfl 0 (.slice ca1 (s.store at_ 0).1.C.length cp1)).set 2 rfl 1 (.int .i64 (s.most : Int))).set 2 rfl 2 (.slice la1 (s.store at_ 0).1.L.length lp1))
  simp only [List.set_cons_succ, List.set_cons_zero, List.setIfInBounds_toArray] at HL3
  rw [hw2] at HL3
  clear hw2
  obtain ⟨y0, y1, y2, _, _, _, _, _, _⟩ := HL3.out.c3 2 rfl
  refine bodyPost_ret (v := .tuple #[.agg #[.slice ca1 (s.store at_ 0).1.C.length cp1, .int .i64 (s.most : Int), .slice la1 (s.store at_ 0).1.L.length lp1], .int .i64 ((s.store at_ 0).2.2 : Int)]) (by simp [results, Try.results83, go_sem, y0, y1, y2]) rfl ?_
  exact ⟨_, _, _, rfl, HL3.out⟩
set_option maxHeartbeats 4000000 in
theorem rSettle (T : List Nat) (w : World) (vc vl : Value) (s : Ar) (at_ : Int) (hL : s.L.length ≤ 1048576) (h : Led T w w [refT vc vl s]) :
    Calls Try.prog 85 #[refV vc s.most vl, .int .i64 at_] w (RefGo T w (s.store at_ 2).1 (fun vc' vl' => .tuple #[refV vc' s.most vl', .int .i64 ((s.store at_ 2).2.2 : Int)])) := by
  obtain ⟨ca, cp, rfl, _, _⟩ := own_val (h.refAt 0 rfl).cel
  obtain ⟨la, lp, rfl, _, _⟩ := own_val (h.refAt 0 rfl).log
  have HL0 := Lib.hid h
  clear h
  unfold refV
  go_enter Try.func85, Try.ntmps85
  go_wp2_with fail
  refine (((HL0.out.alloc _ _).alloc _ _).refGo 0 rfl (fun T h => rStore T _ _ _ s at_ 2 hL h)).mono ?_
  rintro e w1 ⟨vc', vl', rfl, hL⟩
  simp only [List.nil_append, List.cons_append, List.set_cons_succ, List.set_cons_zero, World.size_alloc] at hL
  obtain ⟨ca1, cp1, rfl, _, _⟩ := own_val (hL.refAt 0 rfl).cel
  obtain ⟨la1, lp1, rfl, _, _⟩ := own_val (hL.refAt 0 rfl).log
  have HL1 := Lib.hid hL
  clear hL
  unfold refV
  obtain ⟨b4, hb4⟩ : ∃ b, w.heap.size + 1 = b := ⟨_, rfl⟩
  rw [hb4] at HL1 ⊢
  obtain ⟨b2, hb2⟩ : ∃ b, w.heap.size = b := ⟨_, rfl⟩
  rw [hb2] at HL1 ⊢
  clear hb4 hb2
  obtain ⟨p0, p1, p2, f0, f1, f2, z4, z41, z42⟩ := HL1.out.c3 2 rfl
  go_wp2
  refine post_name ?_
  intro w2 hw2
  have HL3 := Lib.hid (((HL1.out.set 2 rfl 0 (.slice ca1 (s.store at_ 2).1.C.length cp1)).set 2 rfl 1 (.int .i64 (s.most : Int))).set 2 rfl 2 (.slice la1 (s.store at_ 2).1.L.length lp1))
  simp only [List.set_cons_succ, List.set_cons_zero, List.setIfInBounds_toArray] at HL3
  rw [hw2] at HL3
  clear hw2
  obtain ⟨y0, y1, y2, _, _, _, _, _, _⟩ := HL3.out.c3 2 rfl
  refine bodyPost_ret (v := .tuple #[.agg #[.slice ca1 (s.store at_ 2).1.C.length cp1, .int .i64 (s.most : Int), .slice la1 (s.store at_ 2).1.L.length lp1], .int .i64 ((s.store at_ 2).2.2 : Int)]) (by simp [results, Try.results85, go_sem, y0, y1, y2]) rfl ?_
  exact ⟨_, _, _, rfl, HL3.out⟩
set_option maxHeartbeats 4000000 in
theorem rNew12 (T : List Nat) (w : World) (vc vl : Value) (s : Ar) (h : Led T w w [refT vc vl s]) :
    Calls Try.prog 81 #[refV vc s.most vl] w (RefGo T w (s.allocA 1).1 (fun vc' vl' => .tuple #[refV vc' s.most vl', .int .i64 ((s.allocA 1).2.1 : Int), .int .i64 ((s.allocA 1).2.2 : Int)])) := by
  obtain ⟨ca, cp, rfl, _, _⟩ := own_val (h.refAt 0 rfl).cel
  obtain ⟨la, lp, rfl, _, _⟩ := own_val (h.refAt 0 rfl).log
  have HL0 := Lib.hid h
  clear h
  unfold refV
  go_enter Try.func81, Try.ntmps81
  go_wp2_with fail
  refine (((HL0.out.alloc _ _).alloc _ _).refAlloc 0 rfl 1).mono ?_
  rintro e w1 ⟨vc', rfl, hL⟩
  simp only [List.nil_append, List.cons_append, List.set_cons_succ, List.set_cons_zero, World.size_alloc] at hL
  obtain ⟨ca1, cp1, rfl, _, _⟩ := own_val (hL.refAt 0 rfl).cel
  have HL1 := Lib.hid hL
  clear hL
  unfold refV
  obtain ⟨b4, hb4⟩ : ∃ b, w.heap.size + 1 = b := ⟨_, rfl⟩
  rw [hb4] at HL1 ⊢
  obtain ⟨b2, hb2⟩ : ∃ b, w.heap.size = b := ⟨_, rfl⟩
  rw [hb2] at HL1 ⊢
  clear hb4 hb2
  obtain ⟨p0, p1, p2, f0, f1, f2, z4, z41, z42⟩ := HL1.out.c3 2 rfl
  go_wp2
  refine post_name ?_
  intro w2 hw2
  have HL3 := Lib.hid (((HL1.out.set 2 rfl 0 (.slice ca1 (s.allocA 1).1.C.length cp1)).set 2 rfl 1 (.int .i64 (s.most : Int))).set 2 rfl 2 (.slice la s.L.length lp))
  simp only [List.set_cons_succ, List.set_cons_zero, List.setIfInBounds_toArray] at HL3
  rw [hw2] at HL3
  clear hw2
  obtain ⟨y0, y1, y2, _, _, _, _, _, _⟩ := HL3.out.c3 2 rfl
  refine bodyPost_ret (v := .tuple #[.agg #[.slice ca1 (s.allocA 1).1.C.length cp1, .int .i64 (s.most : Int), .slice la s.L.length lp], .int .i64 ((s.allocA 1).2.1 : Int), .int .i64 ((s.allocA 1).2.2 : Int)]) (by simp [results, Try.results81, go_sem, y0, y1, y2]) rfl ?_
  exact ⟨_, _, _, rfl, HL3.out⟩
end Go.Proofs.Ytegebecogbebaaa
