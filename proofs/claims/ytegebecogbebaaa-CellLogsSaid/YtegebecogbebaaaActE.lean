/-
  act of law 01 at whatever arena of the reference: whatever it tells, only the arena turns.
-/
import Derived.Test.YtegebecogbebaaaAct01
import Derived.Deep.RegionLaw
namespace Go.Proofs.Ytegebecogbebaaa
open Go.RowKit Go.Shelf
set_option maxRecDepth 100000
set_option linter.unusedVariables false
set_option linter.unusedSimpArgs false

/-- What act leaves of an arena, whatever it tells. -/
def ActedE (T : List Nat) (w : World) (e : Ending) (w' : World) : Prop := ∃ v g' s' rest, e = .returned v ∧ Led T w w' (arena g' s' :: rest)

theorem wpAnyH_takeD {P : Program} {ops : Array Oper} {Q : Exit → Act → World → Prop} {md : Region.Mode} {S : World → Prop} {i : Nat} {oi : Oper} {v : Value} {d : Option Tmp} {fuel : Nat} {listed : Array Bool} {a : Act} {w : World} (hi : ops[i]? = some oi) (hd : oi.dst = d)
    (hs : Region.noSelect ops = true) (hf : Region.free md ops listed i = true) (hr : (Region.ready md ops listed).contains i = true)
    (hQ : ∀ c a w, Q (.panic c) (a.put d v) w → Q (.panic c) a w) (hy : YieldsIf P ops S oi v a) (hS : S w)
    (h : wpAnyH P md ops Q S fuel (listed.setIfInBounds i true) (a.put d v) w) : wpAnyH P md ops Q S (fuel + 1) listed a w := by
  subst hd
  exact wpAnyH_take hi hs hf hr hQ hy hS h

set_option maxHeartbeats 4000000 in
theorem actE_load (T : List Nat) (w : World) (g : Nat) (s r : Ar) (vc vl : Value) (at_ : Int) (x y : Nat) (h : Led T w w [arena g s, refT vc vl r]) (hL2 : s.L.length ≤ 1048576) (hR2 : r.L.length ≤ 1048576) :
    Calls Try.prog 30 #[.pointer (some ⟨g, 0, none⟩), refV vc r.most vl, .agg #[.int .i64 1, .int .i64 at_, .int .u64 (x : Int), .int .u64 (y : Int)]] w (ActedE T w) := by
  obtain ⟨ca, cp, rfl, _, _⟩ := own_val (h.refAt 1 rfl).cel
  obtain ⟨la, lp, rfl, _, _⟩ := own_val (h.refAt 1 rfl).log
  have HL0 := Lib.hid h
  clear h
  unfold refV
  go_enter Try.func30, Try.ntmps30
  go_wp2_with fail
  refine ((((HL0.out.alloc _ _).alloc _ _).alloc _ _).refDid 1 rfl (fun hr => refLoad _ _ _ r at_ hr hR2 0 0)).mono ?_
  rintro e w1 ⟨vc', vl', rfl, hL⟩
  simp only [List.nil_append, List.cons_append, List.set_cons_succ, List.set_cons_zero, World.size_alloc] at hL
  obtain ⟨ca1, cp1, rfl, _, _⟩ := own_val (hL.refAt 1 rfl).cel
  obtain ⟨la1, lp1, rfl, _, _⟩ := own_val (hL.refAt 1 rfl).log
  have HL1 := Lib.hid hL
  clear hL
  obtain ⟨q, hq⟩ : ∃ q, r.load at_ = q := ⟨_, rfl⟩
  rw [hq] at HL1 ⊢
  clear hq
  unfold refV
  obtain ⟨b7, hb7⟩ : ∃ b, w.heap.size + 1 + 1 = b := ⟨_, rfl⟩
  rw [hb7] at HL1 ⊢
  obtain ⟨b5, hb5⟩ : ∃ b, w.heap.size + 1 = b := ⟨_, rfl⟩
  rw [hb5] at HL1 ⊢
  obtain ⟨b4, hb4⟩ : ∃ b, w.heap.size = b := ⟨_, rfl⟩
  rw [hb4] at HL1 ⊢
  clear hb7 hb5 hb4
  obtain ⟨a0, a1, a2, a3, _, _, _, _, za, za1, za2⟩ := HL1.out.c4 3 rfl
  obtain ⟨_, _, _, _, _, _, z7, z71, z72⟩ := HL1.out.c3 4 rfl
  go_wp2_with fail
  refine (((HL1.out.alloc _ _).alloc _ _).ar 0 rfl (fun fp hI => Load_any _ g fp s at_ hI (by omega))).mono ?_
  rintro e w2 ⟨rfl, hL⟩
  simp only [List.nil_append, List.cons_append, List.set_cons_succ, List.set_cons_zero, World.size_alloc] at hL
  have HL2 := Lib.hid hL
  clear hL a0 a1 a2 a3 za za1 za2 z7 z71 z72
  obtain ⟨b15, hb15⟩ : ∃ b, w1.heap.size + 1 = b := ⟨_, rfl⟩
  rw [hb15] at HL2 ⊢
  obtain ⟨b14, hb14⟩ : ∃ b, w1.heap.size = b := ⟨_, rfl⟩
  rw [hb14] at HL2 ⊢
  clear hb15 hb14 HL1
  obtain ⟨p0, p1, p2, f70, f71, f72, z7, z71, z72⟩ := HL2.out.c3 4 rfl
  obtain ⟨r0, r1, r2, _, _, _, zr, zr1, zr2⟩ := HL2.out.c3 5 rfl
  obtain ⟨_, _, q2, _, q4, _, _, _, _, _, zq, zq1, zq2⟩ := HL2.out.c5 6 rfl
  have n1 := HL2.out.ne 4 5 rfl rfl (by decide)
  have n2 := HL2.out.ne 4 6 rfl rfl (by decide)
  have n3 := Ne.symm n1
  have n4 := Ne.symm n2
  cases hb0 : (((s.load at_).2.1.old : Int) == (q.2.1.old : Int)) with
  | false =>
    go_wp2_with fail
    refine wp_region_held_drew (S := fun w' => w'.cell? ⟨b14, 0, none⟩ = some (.slice ca1 q.1.C.length cp1) ∧ w'.cell? ⟨b14, 1, none⟩ = some (.int .i64 (r.most : Int)) ∧ w'.cell? ⟨b14, 2, none⟩ = some (.slice la1 q.1.L.length lp1)∧ w'.cell? ⟨b15, 2, none⟩ = some (.int .u64 (q.2.1.old : Int))) (by kernel_rfl) ?_ (fun hHeld => ?_)
    · (try dsimp only)
      go_keep
    refine wpAnyH_takeD (i := 0) (d := some 80) (v := ?_) rfl rfl (by kernel_rfl) (by kernel_rfl) (by kernel_rfl) (fun _ _ _ h => h) (Or.inl ⟨by rfl, ?_⟩) (by assumption) ?_
    rotate_left
    · intro w hSw
      (try dsimp only at hSw)
      first | (go_simp; done) | (go_simp; with_reducible rfl)
    (try simp only [Act.put, List.setIfInBounds_toArray, List.set_cons_zero, List.set_cons_succ])
    refine wpAnyH_takeD (i := 1) (d := some 81) (v := ?_) rfl rfl (by kernel_rfl) (by kernel_rfl) (by kernel_rfl) (fun _ _ _ h => h) (Or.inl ⟨by rfl, ?_⟩) (by assumption) ?_
    rotate_left
    · intro w hSw
      (try dsimp only at hSw)
      first | (go_simp; done) | (go_simp; with_reducible rfl)
    (try simp only [Act.put, List.setIfInBounds_toArray, List.set_cons_zero, List.set_cons_succ])
    refine wpAnyH_takeD (i := 2) (d := some 82) (v := ?_) rfl rfl (by kernel_rfl) (by kernel_rfl) (by kernel_rfl) (fun _ _ _ h => h) (Or.inl ⟨by rfl, ?_⟩) (by assumption) ?_
    rotate_left
    · intro w hSw
      (try dsimp only at hSw)
      first | (go_simp; done) | (go_simp; with_reducible rfl)
    (try simp only [Act.put, List.setIfInBounds_toArray, List.set_cons_zero, List.set_cons_succ])
    refine wpAnyH_takeD (i := 3) (d := some 83) (v := ?_) rfl rfl (by kernel_rfl) (by kernel_rfl) (by kernel_rfl) (fun _ _ _ h => h) (Or.inl ⟨by rfl, ?_⟩) (by assumption) ?_
    rotate_left
    · intro w hSw
      (try dsimp only at hSw)
      first | (go_simp; done) | (go_simp; with_reducible rfl)
    (try simp only [Act.put, List.setIfInBounds_toArray, List.set_cons_zero, List.set_cons_succ])
    refine wpAnyH_takeD (i := 4) (d := some 84) (v := ?_) rfl rfl (by kernel_rfl) (by kernel_rfl) (by kernel_rfl) (fun _ _ _ h => h) (Or.inl ⟨by rfl, ?_⟩) (by assumption) ?_
    rotate_left
    · intro w hSw
      (try dsimp only at hSw)
      first | (go_simp; done) | (go_simp; with_reducible rfl)
    (try simp only [Act.put, List.setIfInBounds_toArray, List.set_cons_zero, List.set_cons_succ])
    refine wpAnyH_takeD (i := 5) (d := some 85) (v := ?_) rfl rfl (by kernel_rfl) (by kernel_rfl) (by kernel_rfl) (fun _ _ _ h => h) (Or.inl ⟨by rfl, ?_⟩) (by assumption) ?_
    rotate_left
    · intro w hSw
      (try dsimp only at hSw)
      first | (go_simp; done) | (go_simp; with_reducible rfl)
    (try simp only [Act.put, List.setIfInBounds_toArray, List.set_cons_zero, List.set_cons_succ])
    refine wpAnyH_takeD (i := 6) (d := some 86) (v := ?_) rfl rfl (by kernel_rfl) (by kernel_rfl) (by kernel_rfl) (fun _ _ _ h => h) (Or.inl ⟨by rfl, ?_⟩) (by assumption) ?_
    rotate_left
    · intro w hSw
      (try dsimp only at hSw)
      first | (go_simp; done) | (go_simp; with_reducible rfl)
    (try simp only [Act.put, List.setIfInBounds_toArray, List.set_cons_zero, List.set_cons_succ])
    refine wpAnyH_takeD (i := 7) (d := some 87) (v := undef) rfl rfl (by kernel_rfl) (by kernel_rfl) (by kernel_rfl) (fun _ _ _ h => h) (Or.inr ⟨by rfl, rfl⟩) (by assumption) ?_
    (try simp only [Act.put, List.setIfInBounds_toArray, List.set_cons_zero, List.set_cons_succ])
    refine wpAnyH_takeD (i := 8) (d := some 88) (v := undef) rfl rfl (by kernel_rfl) (by kernel_rfl) (by kernel_rfl) (fun _ _ _ h => h) (Or.inr ⟨by rfl, rfl⟩) (by assumption) ?_
    (try simp only [Act.put, List.setIfInBounds_toArray, List.set_cons_zero, List.set_cons_succ])
    refine wpAnyH_takeD (i := 9) (d := some 89) (v := undef) rfl rfl (by kernel_rfl) (by kernel_rfl) (by kernel_rfl) (fun _ _ _ h => h) (Or.inr ⟨by rfl, rfl⟩) (by assumption) ?_
    (try simp only [Act.put, List.setIfInBounds_toArray, List.set_cons_zero, List.set_cons_succ])
    refine wpAnyH_takeD (i := 10) (d := some 90) (v := undef) rfl rfl (by kernel_rfl) (by kernel_rfl) (by kernel_rfl) (fun _ _ _ h => h) (Or.inr ⟨by rfl, rfl⟩) (by assumption) ?_
    (try simp only [Act.put, List.setIfInBounds_toArray, List.set_cons_zero, List.set_cons_succ])
    refine wpAnyH_takeD (i := 11) (d := some 91) (v := ?_) rfl rfl (by kernel_rfl) (by kernel_rfl) (by kernel_rfl) (fun _ _ _ h => h) (Or.inl ⟨by rfl, ?_⟩) (by assumption) ?_
    rotate_left
    · intro w hSw
      (try dsimp only at hSw)
      first | (go_simp; done) | (go_simp; with_reducible rfl)
    (try simp only [Act.put, List.setIfInBounds_toArray, List.set_cons_zero, List.set_cons_succ])
    refine wpAnyH_takeD (i := 12) (d := some 6) (v := ?_) rfl rfl (by kernel_rfl) (by kernel_rfl) (by kernel_rfl) (fun _ _ _ h => h) (Or.inl ⟨by rfl, ?_⟩) (by assumption) ?_
    rotate_left
    · intro w hSw
      (try dsimp only at hSw)
      first | (go_simp; done) | (go_simp; with_reducible rfl)
    (try simp only [Act.put, List.setIfInBounds_toArray, List.set_cons_zero, List.set_cons_succ])
    refine wpAnyH_ready (rs := [13]) (by kernel_rfl) (by simp) ?_
    refine AllReadyH.cons rfl (fun K hK => ?_) AllReadyH.nil
    go_simp
    refine hK.out _ _ ?_ (fun hHeld => ?_)
    · (try dsimp only)
      go_keep
    clear hK K
    (try simp only [Act.put, List.setIfInBounds_toArray, List.set_cons_zero, List.set_cons_succ])
    refine wpAnyH_takeD (i := 14) (d := some 8) (v := ?_) rfl rfl (by kernel_rfl) (by kernel_rfl) (by kernel_rfl) (fun _ _ _ h => h) (Or.inl ⟨by rfl, ?_⟩) (by assumption) ?_
    rotate_left
    · intro w hSw
      (try dsimp only at hSw)
      first | (go_simp; done) | (go_simp; with_reducible rfl)
    (try simp only [Act.put, List.setIfInBounds_toArray, List.set_cons_zero, List.set_cons_succ])
    refine wpAnyH_done (by kernel_rfl) ?_ _
    go_wp2
    have HL3 := Lib.hid ((((HL2.out.set 4 rfl 0 (.slice ca1 q.1.C.length cp1)).set 4 rfl 1 (.int .i64 (r.most : Int))).set 4 rfl 2 (.slice la1 q.1.L.length lp1)).drew)
    simp only [List.set_cons_succ, List.set_cons_zero, List.setIfInBounds_toArray] at HL3
    obtain ⟨y0, y1, y2, _, _, _, _, _, _⟩ := HL3.out.c3 4 rfl
    refine bodyPost_ret (v := .tuple #[.pointer (some ⟨g, 0, none⟩), .agg #[.slice ca1 q.1.C.length cp1, .int .i64 (r.most : Int), .slice la1 q.1.L.length lp1], .bool false]) (by simp [results, Try.results30, go_sem, y0, y1, y2]) rfl ?_
    exact ⟨_, g, _, _, rfl, HL3.out⟩
  | true =>
    cases hb1 : (((s.load at_).2.2 : Int) == (q.2.2 : Int)) with
    | false =>
      go_wp2_with fail
      go_region_held3 (fun w' => w'.cell? ⟨b14, 0, none⟩ = some (.slice ca1 q.1.C.length cp1) ∧ w'.cell? ⟨b14, 1, none⟩ = some (.int .i64 (r.most : Int)) ∧ w'.cell? ⟨b14, 2, none⟩ = some (.slice la1 q.1.L.length lp1)∧ w'.cell? ⟨b15, 2, none⟩ = some (.int .u64 (q.2.1.old : Int))) (go_keep) (first | (go_at_call 28; refine (num01 _ _).mono ?_; rintro e w' ⟨rfl, rfl⟩))
      go_wp2
      have HL3 := Lib.hid ((((HL2.out.set 4 rfl 0 (.slice ca1 q.1.C.length cp1)).set 4 rfl 1 (.int .i64 (r.most : Int))).set 4 rfl 2 (.slice la1 q.1.L.length lp1)).drew)
      simp only [List.set_cons_succ, List.set_cons_zero, List.setIfInBounds_toArray] at HL3
      obtain ⟨y0, y1, y2, _, _, _, _, _, _⟩ := HL3.out.c3 4 rfl
      refine bodyPost_ret (v := .tuple #[.pointer (some ⟨g, 0, none⟩), .agg #[.slice ca1 q.1.C.length cp1, .int .i64 (r.most : Int), .slice la1 q.1.L.length lp1], .bool false]) (by simp [results, Try.results30, go_sem, y0, y1, y2]) rfl ?_
      exact ⟨_, g, _, _, rfl, HL3.out⟩
    | true =>
      go_wp2_with fail
      go_region_held3 (fun w' => w'.cell? ⟨b14, 0, none⟩ = some (.slice ca1 q.1.C.length cp1) ∧ w'.cell? ⟨b14, 1, none⟩ = some (.int .i64 (r.most : Int)) ∧ w'.cell? ⟨b14, 2, none⟩ = some (.slice la1 q.1.L.length lp1)∧ w'.cell? ⟨b15, 2, none⟩ = some (.int .u64 (q.2.1.old : Int))) (go_keep) (first | (go_at_call 28; refine (num01 _ _).mono ?_; rintro e w' ⟨rfl, rfl⟩))
      go_wp2
      have HL3 := Lib.hid ((((HL2.out.set 4 rfl 0 (.slice ca1 q.1.C.length cp1)).set 4 rfl 1 (.int .i64 (r.most : Int))).set 4 rfl 2 (.slice la1 q.1.L.length lp1)).drew)
      simp only [List.set_cons_succ, List.set_cons_zero, List.setIfInBounds_toArray] at HL3
      obtain ⟨y0, y1, y2, _, _, _, _, _, _⟩ := HL3.out.c3 4 rfl
      refine bodyPost_ret (v := .tuple #[.pointer (some ⟨g, 0, none⟩), .agg #[.slice ca1 q.1.C.length cp1, .int .i64 (r.most : Int), .slice la1 q.1.L.length lp1], .bool true]) (by simp [results, Try.results30, go_sem, y0, y1, y2]) rfl ?_
      exact ⟨_, g, _, _, rfl, HL3.out⟩
set_option maxHeartbeats 4000000 in
theorem actE_add (T : List Nat) (w : World) (g : Nat) (s r : Ar) (vc vl : Value) (at_ : Int) (x y : Nat) (hx : Wd x) (h : Led T w w [arena g s, refT vc vl r]) (hL2 : s.L.length ≤ 1048576) (hR2 : r.L.length ≤ 1048576) :
    Calls Try.prog 30 #[.pointer (some ⟨g, 0, none⟩), refV vc r.most vl, .agg #[.int .i64 5, .int .i64 at_, .int .u64 (x : Int), .int .u64 (y : Int)]] w (ActedE T w) := by
  obtain ⟨ca, cp, rfl, _, _⟩ := own_val (h.refAt 1 rfl).cel
  obtain ⟨la, lp, rfl, _, _⟩ := own_val (h.refAt 1 rfl).log
  have HL0 := Lib.hid h
  clear h
  unfold refV
  go_enter Try.func30, Try.ntmps30
  go_wp2_with fail
  refine ((((HL0.out.alloc _ _).alloc _ _).alloc _ _).refDid 1 rfl (fun hr => refAdd _ _ _ r at_ hr hR2 x 0)).mono ?_
  rintro e w1 ⟨vc', vl', rfl, hL⟩
  simp only [List.nil_append, List.cons_append, List.set_cons_succ, List.set_cons_zero, World.size_alloc] at hL
  obtain ⟨ca1, cp1, rfl, _, _⟩ := own_val (hL.refAt 1 rfl).cel
  obtain ⟨la1, lp1, rfl, _, _⟩ := own_val (hL.refAt 1 rfl).log
  have HL1 := Lib.hid hL
  clear hL
  obtain ⟨q, hq⟩ : ∃ q, r.add at_ x = q := ⟨_, rfl⟩
  rw [hq] at HL1 ⊢
  clear hq
  unfold refV
  obtain ⟨b7, hb7⟩ : ∃ b, w.heap.size + 1 + 1 = b := ⟨_, rfl⟩
  rw [hb7] at HL1 ⊢
  obtain ⟨b5, hb5⟩ : ∃ b, w.heap.size + 1 = b := ⟨_, rfl⟩
  rw [hb5] at HL1 ⊢
  obtain ⟨b4, hb4⟩ : ∃ b, w.heap.size = b := ⟨_, rfl⟩
  rw [hb4] at HL1 ⊢
  clear hb7 hb5 hb4
  obtain ⟨a0, a1, a2, a3, _, _, _, _, za, za1, za2⟩ := HL1.out.c4 3 rfl
  obtain ⟨_, _, _, _, _, _, z7, z71, z72⟩ := HL1.out.c3 4 rfl
  go_wp2_with fail
  refine (((HL1.out.alloc _ _).alloc _ _).ar 0 rfl (fun fp hI => Add_any _ g fp s at_ hI (by omega) x hx)).mono ?_
  rintro e w2 ⟨rfl, hL⟩
  simp only [List.nil_append, List.cons_append, List.set_cons_succ, List.set_cons_zero, World.size_alloc] at hL
  have HL2 := Lib.hid hL
  clear hL a0 a1 a2 a3 za za1 za2 z7 z71 z72
  obtain ⟨b15, hb15⟩ : ∃ b, w1.heap.size + 1 = b := ⟨_, rfl⟩
  rw [hb15] at HL2 ⊢
  obtain ⟨b14, hb14⟩ : ∃ b, w1.heap.size = b := ⟨_, rfl⟩
  rw [hb14] at HL2 ⊢
  clear hb15 hb14 HL1
  obtain ⟨p0, p1, p2, f70, f71, f72, z7, z71, z72⟩ := HL2.out.c3 4 rfl
  obtain ⟨r0, r1, r2, _, _, _, zr, zr1, zr2⟩ := HL2.out.c3 5 rfl
  obtain ⟨_, _, q2, _, q4, _, _, _, _, _, zq, zq1, zq2⟩ := HL2.out.c5 6 rfl
  have n1 := HL2.out.ne 4 5 rfl rfl (by decide)
  have n2 := HL2.out.ne 4 6 rfl rfl (by decide)
  have n3 := Ne.symm n1
  have n4 := Ne.symm n2
  cases hb0 : (((s.add at_ x).2.1.old : Int) == (q.2.1.old : Int)) with
  | false =>
    go_wp2_with fail
    refine wp_region_held_drew (S := fun w' => w'.cell? ⟨b14, 0, none⟩ = some (.slice ca1 q.1.C.length cp1) ∧ w'.cell? ⟨b14, 1, none⟩ = some (.int .i64 (r.most : Int)) ∧ w'.cell? ⟨b14, 2, none⟩ = some (.slice la1 q.1.L.length lp1)∧ w'.cell? ⟨b15, 2, none⟩ = some (.int .u64 (q.2.1.old : Int))) (by kernel_rfl) ?_ (fun hHeld => ?_)
    · (try dsimp only)
      go_keep
    refine wpAnyH_takeD (i := 0) (d := some 181) (v := ?_) rfl rfl (by kernel_rfl) (by kernel_rfl) (by kernel_rfl) (fun _ _ _ h => h) (Or.inl ⟨by rfl, ?_⟩) (by assumption) ?_
    rotate_left
    · intro w hSw
      (try dsimp only at hSw)
      first | (go_simp; done) | (go_simp; with_reducible rfl)
    (try simp only [Act.put, List.setIfInBounds_toArray, List.set_cons_zero, List.set_cons_succ])
    refine wpAnyH_takeD (i := 1) (d := some 182) (v := ?_) rfl rfl (by kernel_rfl) (by kernel_rfl) (by kernel_rfl) (fun _ _ _ h => h) (Or.inl ⟨by rfl, ?_⟩) (by assumption) ?_
    rotate_left
    · intro w hSw
      (try dsimp only at hSw)
      first | (go_simp; done) | (go_simp; with_reducible rfl)
    (try simp only [Act.put, List.setIfInBounds_toArray, List.set_cons_zero, List.set_cons_succ])
    refine wpAnyH_takeD (i := 2) (d := some 183) (v := ?_) rfl rfl (by kernel_rfl) (by kernel_rfl) (by kernel_rfl) (fun _ _ _ h => h) (Or.inl ⟨by rfl, ?_⟩) (by assumption) ?_
    rotate_left
    · intro w hSw
      (try dsimp only at hSw)
      first | (go_simp; done) | (go_simp; with_reducible rfl)
    (try simp only [Act.put, List.setIfInBounds_toArray, List.set_cons_zero, List.set_cons_succ])
    refine wpAnyH_takeD (i := 3) (d := some 184) (v := ?_) rfl rfl (by kernel_rfl) (by kernel_rfl) (by kernel_rfl) (fun _ _ _ h => h) (Or.inl ⟨by rfl, ?_⟩) (by assumption) ?_
    rotate_left
    · intro w hSw
      (try dsimp only at hSw)
      first | (go_simp; done) | (go_simp; with_reducible rfl)
    (try simp only [Act.put, List.setIfInBounds_toArray, List.set_cons_zero, List.set_cons_succ])
    refine wpAnyH_takeD (i := 4) (d := some 185) (v := ?_) rfl rfl (by kernel_rfl) (by kernel_rfl) (by kernel_rfl) (fun _ _ _ h => h) (Or.inl ⟨by rfl, ?_⟩) (by assumption) ?_
    rotate_left
    · intro w hSw
      (try dsimp only at hSw)
      first | (go_simp; done) | (go_simp; with_reducible rfl)
    (try simp only [Act.put, List.setIfInBounds_toArray, List.set_cons_zero, List.set_cons_succ])
    refine wpAnyH_takeD (i := 5) (d := some 186) (v := ?_) rfl rfl (by kernel_rfl) (by kernel_rfl) (by kernel_rfl) (fun _ _ _ h => h) (Or.inl ⟨by rfl, ?_⟩) (by assumption) ?_
    rotate_left
    · intro w hSw
      (try dsimp only at hSw)
      first | (go_simp; done) | (go_simp; with_reducible rfl)
    (try simp only [Act.put, List.setIfInBounds_toArray, List.set_cons_zero, List.set_cons_succ])
    refine wpAnyH_takeD (i := 6) (d := some 187) (v := ?_) rfl rfl (by kernel_rfl) (by kernel_rfl) (by kernel_rfl) (fun _ _ _ h => h) (Or.inl ⟨by rfl, ?_⟩) (by assumption) ?_
    rotate_left
    · intro w hSw
      (try dsimp only at hSw)
      first | (go_simp; done) | (go_simp; with_reducible rfl)
    (try simp only [Act.put, List.setIfInBounds_toArray, List.set_cons_zero, List.set_cons_succ])
    refine wpAnyH_takeD (i := 7) (d := some 188) (v := undef) rfl rfl (by kernel_rfl) (by kernel_rfl) (by kernel_rfl) (fun _ _ _ h => h) (Or.inr ⟨by rfl, rfl⟩) (by assumption) ?_
    (try simp only [Act.put, List.setIfInBounds_toArray, List.set_cons_zero, List.set_cons_succ])
    refine wpAnyH_takeD (i := 8) (d := some 189) (v := undef) rfl rfl (by kernel_rfl) (by kernel_rfl) (by kernel_rfl) (fun _ _ _ h => h) (Or.inr ⟨by rfl, rfl⟩) (by assumption) ?_
    (try simp only [Act.put, List.setIfInBounds_toArray, List.set_cons_zero, List.set_cons_succ])
    refine wpAnyH_takeD (i := 9) (d := some 190) (v := undef) rfl rfl (by kernel_rfl) (by kernel_rfl) (by kernel_rfl) (fun _ _ _ h => h) (Or.inr ⟨by rfl, rfl⟩) (by assumption) ?_
    (try simp only [Act.put, List.setIfInBounds_toArray, List.set_cons_zero, List.set_cons_succ])
    refine wpAnyH_takeD (i := 10) (d := some 191) (v := undef) rfl rfl (by kernel_rfl) (by kernel_rfl) (by kernel_rfl) (fun _ _ _ h => h) (Or.inr ⟨by rfl, rfl⟩) (by assumption) ?_
    (try simp only [Act.put, List.setIfInBounds_toArray, List.set_cons_zero, List.set_cons_succ])
    refine wpAnyH_takeD (i := 11) (d := some 192) (v := ?_) rfl rfl (by kernel_rfl) (by kernel_rfl) (by kernel_rfl) (fun _ _ _ h => h) (Or.inl ⟨by rfl, ?_⟩) (by assumption) ?_
    rotate_left
    · intro w hSw
      (try dsimp only at hSw)
      first | (go_simp; done) | (go_simp; with_reducible rfl)
    (try simp only [Act.put, List.setIfInBounds_toArray, List.set_cons_zero, List.set_cons_succ])
    refine wpAnyH_takeD (i := 12) (d := some 6) (v := ?_) rfl rfl (by kernel_rfl) (by kernel_rfl) (by kernel_rfl) (fun _ _ _ h => h) (Or.inl ⟨by rfl, ?_⟩) (by assumption) ?_
    rotate_left
    · intro w hSw
      (try dsimp only at hSw)
      first | (go_simp; done) | (go_simp; with_reducible rfl)
    (try simp only [Act.put, List.setIfInBounds_toArray, List.set_cons_zero, List.set_cons_succ])
    refine wpAnyH_ready (rs := [13]) (by kernel_rfl) (by simp) ?_
    refine AllReadyH.cons rfl (fun K hK => ?_) AllReadyH.nil
    go_simp
    refine hK.out _ _ ?_ (fun hHeld => ?_)
    · (try dsimp only)
      go_keep
    clear hK K
    (try simp only [Act.put, List.setIfInBounds_toArray, List.set_cons_zero, List.set_cons_succ])
    refine wpAnyH_takeD (i := 14) (d := some 8) (v := ?_) rfl rfl (by kernel_rfl) (by kernel_rfl) (by kernel_rfl) (fun _ _ _ h => h) (Or.inl ⟨by rfl, ?_⟩) (by assumption) ?_
    rotate_left
    · intro w hSw
      (try dsimp only at hSw)
      first | (go_simp; done) | (go_simp; with_reducible rfl)
    (try simp only [Act.put, List.setIfInBounds_toArray, List.set_cons_zero, List.set_cons_succ])
    refine wpAnyH_done (by kernel_rfl) ?_ _
    go_wp2
    have HL3 := Lib.hid ((((HL2.out.set 4 rfl 0 (.slice ca1 q.1.C.length cp1)).set 4 rfl 1 (.int .i64 (r.most : Int))).set 4 rfl 2 (.slice la1 q.1.L.length lp1)).drew)
    simp only [List.set_cons_succ, List.set_cons_zero, List.setIfInBounds_toArray] at HL3
    obtain ⟨y0, y1, y2, _, _, _, _, _, _⟩ := HL3.out.c3 4 rfl
    refine bodyPost_ret (v := .tuple #[.pointer (some ⟨g, 0, none⟩), .agg #[.slice ca1 q.1.C.length cp1, .int .i64 (r.most : Int), .slice la1 q.1.L.length lp1], .bool false]) (by simp [results, Try.results30, go_sem, y0, y1, y2]) rfl ?_
    exact ⟨_, g, _, _, rfl, HL3.out⟩
  | true =>
    cases hb1 : (((s.add at_ x).2.2 : Int) == (q.2.2 : Int)) with
    | false =>
      go_wp2_with fail
      go_region_held3 (fun w' => w'.cell? ⟨b14, 0, none⟩ = some (.slice ca1 q.1.C.length cp1) ∧ w'.cell? ⟨b14, 1, none⟩ = some (.int .i64 (r.most : Int)) ∧ w'.cell? ⟨b14, 2, none⟩ = some (.slice la1 q.1.L.length lp1)∧ w'.cell? ⟨b15, 2, none⟩ = some (.int .u64 (q.2.1.old : Int))) (go_keep) (first | (go_at_call 28; refine (num01 _ _).mono ?_; rintro e w' ⟨rfl, rfl⟩))
      go_wp2
      have HL3 := Lib.hid ((((HL2.out.set 4 rfl 0 (.slice ca1 q.1.C.length cp1)).set 4 rfl 1 (.int .i64 (r.most : Int))).set 4 rfl 2 (.slice la1 q.1.L.length lp1)).drew)
      simp only [List.set_cons_succ, List.set_cons_zero, List.setIfInBounds_toArray] at HL3
      obtain ⟨y0, y1, y2, _, _, _, _, _, _⟩ := HL3.out.c3 4 rfl
      refine bodyPost_ret (v := .tuple #[.pointer (some ⟨g, 0, none⟩), .agg #[.slice ca1 q.1.C.length cp1, .int .i64 (r.most : Int), .slice la1 q.1.L.length lp1], .bool false]) (by simp [results, Try.results30, go_sem, y0, y1, y2]) rfl ?_
      exact ⟨_, g, _, _, rfl, HL3.out⟩
    | true =>
      go_wp2_with fail
      go_region_held3 (fun w' => w'.cell? ⟨b14, 0, none⟩ = some (.slice ca1 q.1.C.length cp1) ∧ w'.cell? ⟨b14, 1, none⟩ = some (.int .i64 (r.most : Int)) ∧ w'.cell? ⟨b14, 2, none⟩ = some (.slice la1 q.1.L.length lp1)∧ w'.cell? ⟨b15, 2, none⟩ = some (.int .u64 (q.2.1.old : Int))) (go_keep) (first | (go_at_call 28; refine (num01 _ _).mono ?_; rintro e w' ⟨rfl, rfl⟩))
      go_wp2
      have HL3 := Lib.hid ((((HL2.out.set 4 rfl 0 (.slice ca1 q.1.C.length cp1)).set 4 rfl 1 (.int .i64 (r.most : Int))).set 4 rfl 2 (.slice la1 q.1.L.length lp1)).drew)
      simp only [List.set_cons_succ, List.set_cons_zero, List.setIfInBounds_toArray] at HL3
      obtain ⟨y0, y1, y2, _, _, _, _, _, _⟩ := HL3.out.c3 4 rfl
      refine bodyPost_ret (v := .tuple #[.pointer (some ⟨g, 0, none⟩), .agg #[.slice ca1 q.1.C.length cp1, .int .i64 (r.most : Int), .slice la1 q.1.L.length lp1], .bool true]) (by simp [results, Try.results30, go_sem, y0, y1, y2]) rfl ?_
      exact ⟨_, g, _, _, rfl, HL3.out⟩
set_option maxHeartbeats 4000000 in
theorem actE_swap (T : List Nat) (w : World) (g : Nat) (s r : Ar) (vc vl : Value) (at_ : Int) (x y : Nat) (hx : Wd x) (hy : Wd y) (h : Led T w w [arena g s, refT vc vl r]) (hL2 : s.L.length ≤ 1048576) (hR2 : r.L.length ≤ 1048576) :
    Calls Try.prog 30 #[.pointer (some ⟨g, 0, none⟩), refV vc r.most vl, .agg #[.int .i64 3, .int .i64 at_, .int .u64 (x : Int), .int .u64 (y : Int)]] w (ActedE T w) := by
  obtain ⟨ca, cp, rfl, _, _⟩ := own_val (h.refAt 1 rfl).cel
  obtain ⟨la, lp, rfl, _, _⟩ := own_val (h.refAt 1 rfl).log
  have HL0 := Lib.hid h
  clear h
  unfold refV
  go_enter Try.func30, Try.ntmps30
  go_wp2_with fail
  refine ((((HL0.out.alloc _ _).alloc _ _).alloc _ _).refDid 1 rfl (fun hr => refSwap _ _ _ r at_ hr hR2 x y)).mono ?_
  rintro e w1 ⟨vc', vl', rfl, hL⟩
  simp only [List.nil_append, List.cons_append, List.set_cons_succ, List.set_cons_zero, World.size_alloc] at hL
  obtain ⟨ca1, cp1, rfl, _, _⟩ := own_val (hL.refAt 1 rfl).cel
  obtain ⟨la1, lp1, rfl, _, _⟩ := own_val (hL.refAt 1 rfl).log
  have HL1 := Lib.hid hL
  clear hL
  obtain ⟨q, hq⟩ : ∃ q, r.swap at_ x y = q := ⟨_, rfl⟩
  rw [hq] at HL1 ⊢
  clear hq
  unfold refV
  obtain ⟨b7, hb7⟩ : ∃ b, w.heap.size + 1 + 1 = b := ⟨_, rfl⟩
  rw [hb7] at HL1 ⊢
  obtain ⟨b5, hb5⟩ : ∃ b, w.heap.size + 1 = b := ⟨_, rfl⟩
  rw [hb5] at HL1 ⊢
  obtain ⟨b4, hb4⟩ : ∃ b, w.heap.size = b := ⟨_, rfl⟩
  rw [hb4] at HL1 ⊢
  clear hb7 hb5 hb4
  obtain ⟨a0, a1, a2, a3, _, _, _, _, za, za1, za2⟩ := HL1.out.c4 3 rfl
  obtain ⟨_, _, _, _, _, _, z7, z71, z72⟩ := HL1.out.c3 4 rfl
  go_wp2_with fail
  refine (((HL1.out.alloc _ _).alloc _ _).ar 0 rfl (fun fp hI => Swap_any _ g fp s at_ hI (by omega) x y hx hy)).mono ?_
  rintro e w2 ⟨rfl, hL⟩
  simp only [List.nil_append, List.cons_append, List.set_cons_succ, List.set_cons_zero, World.size_alloc] at hL
  have HL2 := Lib.hid hL
  clear hL a0 a1 a2 a3 za za1 za2 z7 z71 z72
  obtain ⟨b15, hb15⟩ : ∃ b, w1.heap.size + 1 = b := ⟨_, rfl⟩
  rw [hb15] at HL2 ⊢
  obtain ⟨b14, hb14⟩ : ∃ b, w1.heap.size = b := ⟨_, rfl⟩
  rw [hb14] at HL2 ⊢
  clear hb15 hb14 HL1
  obtain ⟨p0, p1, p2, f70, f71, f72, z7, z71, z72⟩ := HL2.out.c3 4 rfl
  obtain ⟨r0, r1, r2, _, _, _, zr, zr1, zr2⟩ := HL2.out.c3 5 rfl
  obtain ⟨_, _, q2, _, q4, _, _, _, _, _, zq, zq1, zq2⟩ := HL2.out.c5 6 rfl
  have n1 := HL2.out.ne 4 5 rfl rfl (by decide)
  have n2 := HL2.out.ne 4 6 rfl rfl (by decide)
  have n3 := Ne.symm n1
  have n4 := Ne.symm n2
  cases hb0 : (((s.swap at_ x y).2.1.old : Int) == (q.2.1.old : Int)) with
  | false =>
    go_wp2_with fail
    refine wp_region_held_drew (S := fun w' => w'.cell? ⟨b14, 0, none⟩ = some (.slice ca1 q.1.C.length cp1) ∧ w'.cell? ⟨b14, 1, none⟩ = some (.int .i64 (r.most : Int)) ∧ w'.cell? ⟨b14, 2, none⟩ = some (.slice la1 q.1.L.length lp1)∧ w'.cell? ⟨b15, 2, none⟩ = some (.int .u64 (q.2.1.old : Int)) ∧ w'.cell? ⟨b15, 4, none⟩ = some (.bool q.2.1.did)) (by kernel_rfl) ?_ (fun hHeld => ?_)
    · (try dsimp only)
      go_keep
    refine wpAnyH_takeD (i := 0) (d := some 142) (v := ?_) rfl rfl (by kernel_rfl) (by kernel_rfl) (by kernel_rfl) (fun _ _ _ h => h) (Or.inl ⟨by rfl, ?_⟩) (by assumption) ?_
    rotate_left
    · intro w hSw
      (try dsimp only at hSw)
      first | (go_simp; done) | (go_simp; with_reducible rfl)
    (try simp only [Act.put, List.setIfInBounds_toArray, List.set_cons_zero, List.set_cons_succ])
    refine wpAnyH_takeD (i := 1) (d := some 143) (v := ?_) rfl rfl (by kernel_rfl) (by kernel_rfl) (by kernel_rfl) (fun _ _ _ h => h) (Or.inl ⟨by rfl, ?_⟩) (by assumption) ?_
    rotate_left
    · intro w hSw
      (try dsimp only at hSw)
      first | (go_simp; done) | (go_simp; with_reducible rfl)
    (try simp only [Act.put, List.setIfInBounds_toArray, List.set_cons_zero, List.set_cons_succ])
    refine wpAnyH_takeD (i := 2) (d := some 144) (v := ?_) rfl rfl (by kernel_rfl) (by kernel_rfl) (by kernel_rfl) (fun _ _ _ h => h) (Or.inl ⟨by rfl, ?_⟩) (by assumption) ?_
    rotate_left
    · intro w hSw
      (try dsimp only at hSw)
      first | (go_simp; done) | (go_simp; with_reducible rfl)
    (try simp only [Act.put, List.setIfInBounds_toArray, List.set_cons_zero, List.set_cons_succ])
    refine wpAnyH_takeD (i := 3) (d := some 145) (v := ?_) rfl rfl (by kernel_rfl) (by kernel_rfl) (by kernel_rfl) (fun _ _ _ h => h) (Or.inl ⟨by rfl, ?_⟩) (by assumption) ?_
    rotate_left
    · intro w hSw
      (try dsimp only at hSw)
      first | (go_simp; done) | (go_simp; with_reducible rfl)
    (try simp only [Act.put, List.setIfInBounds_toArray, List.set_cons_zero, List.set_cons_succ])
    refine wpAnyH_takeD (i := 4) (d := some 146) (v := ?_) rfl rfl (by kernel_rfl) (by kernel_rfl) (by kernel_rfl) (fun _ _ _ h => h) (Or.inl ⟨by rfl, ?_⟩) (by assumption) ?_
    rotate_left
    · intro w hSw
      (try dsimp only at hSw)
      first | (go_simp; done) | (go_simp; with_reducible rfl)
    (try simp only [Act.put, List.setIfInBounds_toArray, List.set_cons_zero, List.set_cons_succ])
    refine wpAnyH_takeD (i := 5) (d := some 147) (v := ?_) rfl rfl (by kernel_rfl) (by kernel_rfl) (by kernel_rfl) (fun _ _ _ h => h) (Or.inl ⟨by rfl, ?_⟩) (by assumption) ?_
    rotate_left
    · intro w hSw
      (try dsimp only at hSw)
      first | (go_simp; done) | (go_simp; with_reducible rfl)
    (try simp only [Act.put, List.setIfInBounds_toArray, List.set_cons_zero, List.set_cons_succ])
    refine wpAnyH_takeD (i := 6) (d := some 148) (v := ?_) rfl rfl (by kernel_rfl) (by kernel_rfl) (by kernel_rfl) (fun _ _ _ h => h) (Or.inl ⟨by rfl, ?_⟩) (by assumption) ?_
    rotate_left
    · intro w hSw
      (try dsimp only at hSw)
      first | (go_simp; done) | (go_simp; with_reducible rfl)
    (try simp only [Act.put, List.setIfInBounds_toArray, List.set_cons_zero, List.set_cons_succ])
    refine wpAnyH_takeD (i := 7) (d := some 149) (v := undef) rfl rfl (by kernel_rfl) (by kernel_rfl) (by kernel_rfl) (fun _ _ _ h => h) (Or.inr ⟨by rfl, rfl⟩) (by assumption) ?_
    (try simp only [Act.put, List.setIfInBounds_toArray, List.set_cons_zero, List.set_cons_succ])
    refine wpAnyH_takeD (i := 8) (d := some 150) (v := undef) rfl rfl (by kernel_rfl) (by kernel_rfl) (by kernel_rfl) (fun _ _ _ h => h) (Or.inr ⟨by rfl, rfl⟩) (by assumption) ?_
    (try simp only [Act.put, List.setIfInBounds_toArray, List.set_cons_zero, List.set_cons_succ])
    refine wpAnyH_takeD (i := 9) (d := some 151) (v := undef) rfl rfl (by kernel_rfl) (by kernel_rfl) (by kernel_rfl) (fun _ _ _ h => h) (Or.inr ⟨by rfl, rfl⟩) (by assumption) ?_
    (try simp only [Act.put, List.setIfInBounds_toArray, List.set_cons_zero, List.set_cons_succ])
    refine wpAnyH_takeD (i := 10) (d := some 152) (v := undef) rfl rfl (by kernel_rfl) (by kernel_rfl) (by kernel_rfl) (fun _ _ _ h => h) (Or.inr ⟨by rfl, rfl⟩) (by assumption) ?_
    (try simp only [Act.put, List.setIfInBounds_toArray, List.set_cons_zero, List.set_cons_succ])
    refine wpAnyH_takeD (i := 11) (d := some 153) (v := ?_) rfl rfl (by kernel_rfl) (by kernel_rfl) (by kernel_rfl) (fun _ _ _ h => h) (Or.inl ⟨by rfl, ?_⟩) (by assumption) ?_
    rotate_left
    · intro w hSw
      (try dsimp only at hSw)
      first | (go_simp; done) | (go_simp; with_reducible rfl)
    (try simp only [Act.put, List.setIfInBounds_toArray, List.set_cons_zero, List.set_cons_succ])
    refine wpAnyH_takeD (i := 12) (d := some 154) (v := ?_) rfl rfl (by kernel_rfl) (by kernel_rfl) (by kernel_rfl) (fun _ _ _ h => h) (Or.inl ⟨by rfl, ?_⟩) (by assumption) ?_
    rotate_left
    · intro w hSw
      (try dsimp only at hSw)
      first | (go_simp; done) | (go_simp; with_reducible rfl)
    (try simp only [Act.put, List.setIfInBounds_toArray, List.set_cons_zero, List.set_cons_succ])
    refine wpAnyH_takeD (i := 13) (d := some 155) (v := undef) rfl rfl (by kernel_rfl) (by kernel_rfl) (by kernel_rfl) (fun _ _ _ h => h) (Or.inr ⟨by rfl, rfl⟩) (by assumption) ?_
    (try simp only [Act.put, List.setIfInBounds_toArray, List.set_cons_zero, List.set_cons_succ])
    refine wpAnyH_takeD (i := 14) (d := some 156) (v := undef) rfl rfl (by kernel_rfl) (by kernel_rfl) (by kernel_rfl) (fun _ _ _ h => h) (Or.inr ⟨by rfl, rfl⟩) (by assumption) ?_
    (try simp only [Act.put, List.setIfInBounds_toArray, List.set_cons_zero, List.set_cons_succ])
    refine wpAnyH_takeD (i := 15) (d := some 157) (v := undef) rfl rfl (by kernel_rfl) (by kernel_rfl) (by kernel_rfl) (fun _ _ _ h => h) (Or.inr ⟨by rfl, rfl⟩) (by assumption) ?_
    (try simp only [Act.put, List.setIfInBounds_toArray, List.set_cons_zero, List.set_cons_succ])
    refine wpAnyH_takeD (i := 16) (d := some 158) (v := undef) rfl rfl (by kernel_rfl) (by kernel_rfl) (by kernel_rfl) (fun _ _ _ h => h) (Or.inr ⟨by rfl, rfl⟩) (by assumption) ?_
    (try simp only [Act.put, List.setIfInBounds_toArray, List.set_cons_zero, List.set_cons_succ])
    refine wpAnyH_takeD (i := 17) (d := some 159) (v := ?_) rfl rfl (by kernel_rfl) (by kernel_rfl) (by kernel_rfl) (fun _ _ _ h => h) (Or.inl ⟨by rfl, ?_⟩) (by assumption) ?_
    rotate_left
    · intro w hSw
      (try dsimp only at hSw)
      first | (go_simp; done) | (go_simp; with_reducible rfl)
    (try simp only [Act.put, List.setIfInBounds_toArray, List.set_cons_zero, List.set_cons_succ])
    refine wpAnyH_takeD (i := 18) (d := some 6) (v := ?_) rfl rfl (by kernel_rfl) (by kernel_rfl) (by kernel_rfl) (fun _ _ _ h => h) (Or.inl ⟨by rfl, ?_⟩) (by assumption) ?_
    rotate_left
    · intro w hSw
      (try dsimp only at hSw)
      first | (go_simp; done) | (go_simp; with_reducible rfl)
    (try simp only [Act.put, List.setIfInBounds_toArray, List.set_cons_zero, List.set_cons_succ])
    refine wpAnyH_ready (rs := [19]) (by kernel_rfl) (by simp) ?_
    refine AllReadyH.cons rfl (fun K hK => ?_) AllReadyH.nil
    go_simp
    refine hK.out _ _ ?_ (fun hHeld => ?_)
    · (try dsimp only)
      go_keep
    clear hK K
    (try simp only [Act.put, List.setIfInBounds_toArray, List.set_cons_zero, List.set_cons_succ])
    refine wpAnyH_takeD (i := 20) (d := some 8) (v := ?_) rfl rfl (by kernel_rfl) (by kernel_rfl) (by kernel_rfl) (fun _ _ _ h => h) (Or.inl ⟨by rfl, ?_⟩) (by assumption) ?_
    rotate_left
    · intro w hSw
      (try dsimp only at hSw)
      first | (go_simp; done) | (go_simp; with_reducible rfl)
    (try simp only [Act.put, List.setIfInBounds_toArray, List.set_cons_zero, List.set_cons_succ])
    refine wpAnyH_done (by kernel_rfl) ?_ _
    go_wp2
    have HL3 := Lib.hid ((((HL2.out.set 4 rfl 0 (.slice ca1 q.1.C.length cp1)).set 4 rfl 1 (.int .i64 (r.most : Int))).set 4 rfl 2 (.slice la1 q.1.L.length lp1)).drew)
    simp only [List.set_cons_succ, List.set_cons_zero, List.setIfInBounds_toArray] at HL3
    obtain ⟨y0, y1, y2, _, _, _, _, _, _⟩ := HL3.out.c3 4 rfl
    refine bodyPost_ret (v := .tuple #[.pointer (some ⟨g, 0, none⟩), .agg #[.slice ca1 q.1.C.length cp1, .int .i64 (r.most : Int), .slice la1 q.1.L.length lp1], .bool false]) (by simp [results, Try.results30, go_sem, y0, y1, y2]) rfl ?_
    exact ⟨_, g, _, _, rfl, HL3.out⟩
  | true =>
    cases hb1 : ((s.swap at_ x y).2.1.did == q.2.1.did) with
    | false =>
      go_wp2_with fail
      refine wp_region_held_drew (S := fun w' => w'.cell? ⟨b14, 0, none⟩ = some (.slice ca1 q.1.C.length cp1) ∧ w'.cell? ⟨b14, 1, none⟩ = some (.int .i64 (r.most : Int)) ∧ w'.cell? ⟨b14, 2, none⟩ = some (.slice la1 q.1.L.length lp1)∧ w'.cell? ⟨b15, 2, none⟩ = some (.int .u64 (q.2.1.old : Int)) ∧ w'.cell? ⟨b15, 4, none⟩ = some (.bool q.2.1.did)) (by kernel_rfl) ?_ (fun hHeld => ?_)
      · (try dsimp only)
        go_keep
      refine wpAnyH_takeD (i := 0) (d := some 142) (v := ?_) rfl rfl (by kernel_rfl) (by kernel_rfl) (by kernel_rfl) (fun _ _ _ h => h) (Or.inl ⟨by rfl, ?_⟩) (by assumption) ?_
      rotate_left
      · intro w hSw
        (try dsimp only at hSw)
        first | (go_simp; done) | (go_simp; with_reducible rfl)
      (try simp only [Act.put, List.setIfInBounds_toArray, List.set_cons_zero, List.set_cons_succ])
      refine wpAnyH_takeD (i := 1) (d := some 143) (v := ?_) rfl rfl (by kernel_rfl) (by kernel_rfl) (by kernel_rfl) (fun _ _ _ h => h) (Or.inl ⟨by rfl, ?_⟩) (by assumption) ?_
      rotate_left
      · intro w hSw
        (try dsimp only at hSw)
        first | (go_simp; done) | (go_simp; with_reducible rfl)
      (try simp only [Act.put, List.setIfInBounds_toArray, List.set_cons_zero, List.set_cons_succ])
      refine wpAnyH_takeD (i := 2) (d := some 144) (v := ?_) rfl rfl (by kernel_rfl) (by kernel_rfl) (by kernel_rfl) (fun _ _ _ h => h) (Or.inl ⟨by rfl, ?_⟩) (by assumption) ?_
      rotate_left
      · intro w hSw
        (try dsimp only at hSw)
        first | (go_simp; done) | (go_simp; with_reducible rfl)
      (try simp only [Act.put, List.setIfInBounds_toArray, List.set_cons_zero, List.set_cons_succ])
      refine wpAnyH_takeD (i := 3) (d := some 145) (v := ?_) rfl rfl (by kernel_rfl) (by kernel_rfl) (by kernel_rfl) (fun _ _ _ h => h) (Or.inl ⟨by rfl, ?_⟩) (by assumption) ?_
      rotate_left
      · intro w hSw
        (try dsimp only at hSw)
        first | (go_simp; done) | (go_simp; with_reducible rfl)
      (try simp only [Act.put, List.setIfInBounds_toArray, List.set_cons_zero, List.set_cons_succ])
      refine wpAnyH_takeD (i := 4) (d := some 146) (v := ?_) rfl rfl (by kernel_rfl) (by kernel_rfl) (by kernel_rfl) (fun _ _ _ h => h) (Or.inl ⟨by rfl, ?_⟩) (by assumption) ?_
      rotate_left
      · intro w hSw
        (try dsimp only at hSw)
        first | (go_simp; done) | (go_simp; with_reducible rfl)
      (try simp only [Act.put, List.setIfInBounds_toArray, List.set_cons_zero, List.set_cons_succ])
      refine wpAnyH_takeD (i := 5) (d := some 147) (v := ?_) rfl rfl (by kernel_rfl) (by kernel_rfl) (by kernel_rfl) (fun _ _ _ h => h) (Or.inl ⟨by rfl, ?_⟩) (by assumption) ?_
      rotate_left
      · intro w hSw
        (try dsimp only at hSw)
        first | (go_simp; done) | (go_simp; with_reducible rfl)
      (try simp only [Act.put, List.setIfInBounds_toArray, List.set_cons_zero, List.set_cons_succ])
      refine wpAnyH_takeD (i := 6) (d := some 148) (v := ?_) rfl rfl (by kernel_rfl) (by kernel_rfl) (by kernel_rfl) (fun _ _ _ h => h) (Or.inl ⟨by rfl, ?_⟩) (by assumption) ?_
      rotate_left
      · intro w hSw
        (try dsimp only at hSw)
        first | (go_simp; done) | (go_simp; with_reducible rfl)
      (try simp only [Act.put, List.setIfInBounds_toArray, List.set_cons_zero, List.set_cons_succ])
      refine wpAnyH_takeD (i := 7) (d := some 149) (v := ?_) rfl rfl (by kernel_rfl) (by kernel_rfl) (by kernel_rfl) (fun _ _ _ h => h) (Or.inl ⟨by rfl, ?_⟩) (by assumption) ?_
      rotate_left
      · intro w hSw
        (try dsimp only at hSw)
        first | (go_simp; done) | (go_simp; with_reducible rfl)
      (try simp only [Act.put, List.setIfInBounds_toArray, List.set_cons_zero, List.set_cons_succ])
      refine wpAnyH_takeD (i := 8) (d := some 150) (v := ?_) rfl rfl (by kernel_rfl) (by kernel_rfl) (by kernel_rfl) (fun _ _ _ h => h) (Or.inl ⟨by rfl, ?_⟩) (by assumption) ?_
      rotate_left
      · intro w hSw
        (try dsimp only at hSw)
        first | (go_simp; done) | (go_simp; with_reducible rfl)
      (try simp only [Act.put, List.setIfInBounds_toArray, List.set_cons_zero, List.set_cons_succ])
      refine wpAnyH_takeD (i := 9) (d := some 151) (v := ?_) rfl rfl (by kernel_rfl) (by kernel_rfl) (by kernel_rfl) (fun _ _ _ h => h) (Or.inl ⟨by rfl, ?_⟩) (by assumption) ?_
      rotate_left
      · intro w hSw
        (try dsimp only at hSw)
        first | (go_simp; done) | (go_simp; with_reducible rfl)
      (try simp only [Act.put, List.setIfInBounds_toArray, List.set_cons_zero, List.set_cons_succ])
      refine wpAnyH_takeD (i := 10) (d := some 152) (v := ?_) rfl rfl (by kernel_rfl) (by kernel_rfl) (by kernel_rfl) (fun _ _ _ h => h) (Or.inl ⟨by rfl, ?_⟩) (by assumption) ?_
      rotate_left
      · intro w hSw
        (try dsimp only at hSw)
        first | (go_simp; done) | (go_simp; with_reducible rfl)
      (try simp only [Act.put, List.setIfInBounds_toArray, List.set_cons_zero, List.set_cons_succ])
      refine wpAnyH_takeD (i := 11) (d := some 153) (v := ?_) rfl rfl (by kernel_rfl) (by kernel_rfl) (by kernel_rfl) (fun _ _ _ h => h) (Or.inl ⟨by rfl, ?_⟩) (by assumption) ?_
      rotate_left
      · intro w hSw
        (try dsimp only at hSw)
        first | (go_simp; done) | (go_simp; with_reducible rfl)
      (try simp only [Act.put, List.setIfInBounds_toArray, List.set_cons_zero, List.set_cons_succ])
      refine wpAnyH_takeD (i := 12) (d := some 154) (v := ?_) rfl rfl (by kernel_rfl) (by kernel_rfl) (by kernel_rfl) (fun _ _ _ h => h) (Or.inl ⟨by rfl, ?_⟩) (by assumption) ?_
      rotate_left
      · intro w hSw
        (try dsimp only at hSw)
        first | (go_simp; done) | (go_simp; with_reducible rfl)
      (try simp only [Act.put, List.setIfInBounds_toArray, List.set_cons_zero, List.set_cons_succ])
      refine wpAnyH_takeD (i := 13) (d := some 155) (v := undef) rfl rfl (by kernel_rfl) (by kernel_rfl) (by kernel_rfl) (fun _ _ _ h => h) (Or.inr ⟨by rfl, rfl⟩) (by assumption) ?_
      (try simp only [Act.put, List.setIfInBounds_toArray, List.set_cons_zero, List.set_cons_succ])
      refine wpAnyH_takeD (i := 14) (d := some 156) (v := undef) rfl rfl (by kernel_rfl) (by kernel_rfl) (by kernel_rfl) (fun _ _ _ h => h) (Or.inr ⟨by rfl, rfl⟩) (by assumption) ?_
      (try simp only [Act.put, List.setIfInBounds_toArray, List.set_cons_zero, List.set_cons_succ])
      refine wpAnyH_takeD (i := 15) (d := some 157) (v := undef) rfl rfl (by kernel_rfl) (by kernel_rfl) (by kernel_rfl) (fun _ _ _ h => h) (Or.inr ⟨by rfl, rfl⟩) (by assumption) ?_
      (try simp only [Act.put, List.setIfInBounds_toArray, List.set_cons_zero, List.set_cons_succ])
      refine wpAnyH_takeD (i := 16) (d := some 158) (v := undef) rfl rfl (by kernel_rfl) (by kernel_rfl) (by kernel_rfl) (fun _ _ _ h => h) (Or.inr ⟨by rfl, rfl⟩) (by assumption) ?_
      (try simp only [Act.put, List.setIfInBounds_toArray, List.set_cons_zero, List.set_cons_succ])
      refine wpAnyH_takeD (i := 17) (d := some 159) (v := ?_) rfl rfl (by kernel_rfl) (by kernel_rfl) (by kernel_rfl) (fun _ _ _ h => h) (Or.inl ⟨by rfl, ?_⟩) (by assumption) ?_
      rotate_left
      · intro w hSw
        (try dsimp only at hSw)
        first | (go_simp; done) | (go_simp; with_reducible rfl)
      (try simp only [Act.put, List.setIfInBounds_toArray, List.set_cons_zero, List.set_cons_succ])
      refine wpAnyH_takeD (i := 18) (d := some 6) (v := ?_) rfl rfl (by kernel_rfl) (by kernel_rfl) (by kernel_rfl) (fun _ _ _ h => h) (Or.inl ⟨by rfl, ?_⟩) (by assumption) ?_
      rotate_left
      · intro w hSw
        (try dsimp only at hSw)
        first | (go_simp; done) | (go_simp; with_reducible rfl)
      (try simp only [Act.put, List.setIfInBounds_toArray, List.set_cons_zero, List.set_cons_succ])
      refine wpAnyH_ready (rs := [19]) (by kernel_rfl) (by simp) ?_
      refine AllReadyH.cons rfl (fun K hK => ?_) AllReadyH.nil
      go_simp
      refine hK.out _ _ ?_ (fun hHeld => ?_)
      · (try dsimp only)
        go_keep
      clear hK K
      (try simp only [Act.put, List.setIfInBounds_toArray, List.set_cons_zero, List.set_cons_succ])
      refine wpAnyH_takeD (i := 20) (d := some 8) (v := ?_) rfl rfl (by kernel_rfl) (by kernel_rfl) (by kernel_rfl) (fun _ _ _ h => h) (Or.inl ⟨by rfl, ?_⟩) (by assumption) ?_
      rotate_left
      · intro w hSw
        (try dsimp only at hSw)
        first | (go_simp; done) | (go_simp; with_reducible rfl)
      (try simp only [Act.put, List.setIfInBounds_toArray, List.set_cons_zero, List.set_cons_succ])
      refine wpAnyH_done (by kernel_rfl) ?_ _
      go_wp2
      have HL3 := Lib.hid ((((HL2.out.set 4 rfl 0 (.slice ca1 q.1.C.length cp1)).set 4 rfl 1 (.int .i64 (r.most : Int))).set 4 rfl 2 (.slice la1 q.1.L.length lp1)).drew)
      simp only [List.set_cons_succ, List.set_cons_zero, List.setIfInBounds_toArray] at HL3
      obtain ⟨y0, y1, y2, _, _, _, _, _, _⟩ := HL3.out.c3 4 rfl
      refine bodyPost_ret (v := .tuple #[.pointer (some ⟨g, 0, none⟩), .agg #[.slice ca1 q.1.C.length cp1, .int .i64 (r.most : Int), .slice la1 q.1.L.length lp1], .bool false]) (by simp [results, Try.results30, go_sem, y0, y1, y2]) rfl ?_
      exact ⟨_, g, _, _, rfl, HL3.out⟩
    | true =>
      cases hb2 : (((s.swap at_ x y).2.2 : Int) == (q.2.2 : Int)) with
      | false =>
        go_wp2_with fail
        go_region_held3 (fun w' => w'.cell? ⟨b14, 0, none⟩ = some (.slice ca1 q.1.C.length cp1) ∧ w'.cell? ⟨b14, 1, none⟩ = some (.int .i64 (r.most : Int)) ∧ w'.cell? ⟨b14, 2, none⟩ = some (.slice la1 q.1.L.length lp1)∧ w'.cell? ⟨b15, 2, none⟩ = some (.int .u64 (q.2.1.old : Int)) ∧ w'.cell? ⟨b15, 4, none⟩ = some (.bool q.2.1.did)) (go_keep) (first | (go_at_call 28; refine (num01 _ _).mono ?_; rintro e w' ⟨rfl, rfl⟩))
        go_wp2
        have HL3 := Lib.hid ((((HL2.out.set 4 rfl 0 (.slice ca1 q.1.C.length cp1)).set 4 rfl 1 (.int .i64 (r.most : Int))).set 4 rfl 2 (.slice la1 q.1.L.length lp1)).drew)
        simp only [List.set_cons_succ, List.set_cons_zero, List.setIfInBounds_toArray] at HL3
        obtain ⟨y0, y1, y2, _, _, _, _, _, _⟩ := HL3.out.c3 4 rfl
        refine bodyPost_ret (v := .tuple #[.pointer (some ⟨g, 0, none⟩), .agg #[.slice ca1 q.1.C.length cp1, .int .i64 (r.most : Int), .slice la1 q.1.L.length lp1], .bool false]) (by simp [results, Try.results30, go_sem, y0, y1, y2]) rfl ?_
        exact ⟨_, g, _, _, rfl, HL3.out⟩
      | true =>
        go_wp2_with fail
        go_region_held3 (fun w' => w'.cell? ⟨b14, 0, none⟩ = some (.slice ca1 q.1.C.length cp1) ∧ w'.cell? ⟨b14, 1, none⟩ = some (.int .i64 (r.most : Int)) ∧ w'.cell? ⟨b14, 2, none⟩ = some (.slice la1 q.1.L.length lp1)∧ w'.cell? ⟨b15, 2, none⟩ = some (.int .u64 (q.2.1.old : Int)) ∧ w'.cell? ⟨b15, 4, none⟩ = some (.bool q.2.1.did)) (go_keep) (first | (go_at_call 28; refine (num01 _ _).mono ?_; rintro e w' ⟨rfl, rfl⟩))
        go_wp2
        have HL3 := Lib.hid ((((HL2.out.set 4 rfl 0 (.slice ca1 q.1.C.length cp1)).set 4 rfl 1 (.int .i64 (r.most : Int))).set 4 rfl 2 (.slice la1 q.1.L.length lp1)).drew)
        simp only [List.set_cons_succ, List.set_cons_zero, List.setIfInBounds_toArray] at HL3
        obtain ⟨y0, y1, y2, _, _, _, _, _, _⟩ := HL3.out.c3 4 rfl
        refine bodyPost_ret (v := .tuple #[.pointer (some ⟨g, 0, none⟩), .agg #[.slice ca1 q.1.C.length cp1, .int .i64 (r.most : Int), .slice la1 q.1.L.length lp1], .bool true]) (by simp [results, Try.results30, go_sem, y0, y1, y2]) rfl ?_
        exact ⟨_, g, _, _, rfl, HL3.out⟩
set_option maxHeartbeats 4000000 in
theorem actE_swap4 (T : List Nat) (w : World) (g : Nat) (s r : Ar) (vc vl : Value) (at_ : Int) (x y : Nat) (hx : Wd x) (hy : Wd y) (h : Led T w w [arena g s, refT vc vl r]) (hL2 : s.L.length ≤ 1048576) (hR2 : r.L.length ≤ 1048576) :
    Calls Try.prog 30 #[.pointer (some ⟨g, 0, none⟩), refV vc r.most vl, .agg #[.int .i64 4, .int .i64 at_, .int .u64 (x : Int), .int .u64 (y : Int)]] w (ActedE T w) := by
  obtain ⟨ca, cp, rfl, _, _⟩ := own_val (h.refAt 1 rfl).cel
  obtain ⟨la, lp, rfl, _, _⟩ := own_val (h.refAt 1 rfl).log
  have HL0 := Lib.hid h
  clear h
  unfold refV
  go_enter Try.func30, Try.ntmps30
  go_wp2_with fail
  refine ((((HL0.out.alloc _ _).alloc _ _).alloc _ _).refDid 1 rfl (fun hr => refSwap _ _ _ r at_ hr hR2 x y)).mono ?_
  rintro e w1 ⟨vc', vl', rfl, hL⟩
  simp only [List.nil_append, List.cons_append, List.set_cons_succ, List.set_cons_zero, World.size_alloc] at hL
  obtain ⟨ca1, cp1, rfl, _, _⟩ := own_val (hL.refAt 1 rfl).cel
  obtain ⟨la1, lp1, rfl, _, _⟩ := own_val (hL.refAt 1 rfl).log
  have HL1 := Lib.hid hL
  clear hL
  obtain ⟨q, hq⟩ : ∃ q, r.swap at_ x y = q := ⟨_, rfl⟩
  rw [hq] at HL1 ⊢
  clear hq
  unfold refV
  obtain ⟨b7, hb7⟩ : ∃ b, w.heap.size + 1 + 1 = b := ⟨_, rfl⟩
  rw [hb7] at HL1 ⊢
  obtain ⟨b5, hb5⟩ : ∃ b, w.heap.size + 1 = b := ⟨_, rfl⟩
  rw [hb5] at HL1 ⊢
  obtain ⟨b4, hb4⟩ : ∃ b, w.heap.size = b := ⟨_, rfl⟩
  rw [hb4] at HL1 ⊢
  clear hb7 hb5 hb4
  obtain ⟨a0, a1, a2, a3, _, _, _, _, za, za1, za2⟩ := HL1.out.c4 3 rfl
  obtain ⟨_, _, _, _, _, _, z7, z71, z72⟩ := HL1.out.c3 4 rfl
  go_wp2_with fail
  refine (((HL1.out.alloc _ _).alloc _ _).ar 0 rfl (fun fp hI => Swap_any _ g fp s at_ hI (by omega) x y hx hy)).mono ?_
  rintro e w2 ⟨rfl, hL⟩
  simp only [List.nil_append, List.cons_append, List.set_cons_succ, List.set_cons_zero, World.size_alloc] at hL
  have HL2 := Lib.hid hL
  clear hL a0 a1 a2 a3 za za1 za2 z7 z71 z72
  obtain ⟨b15, hb15⟩ : ∃ b, w1.heap.size + 1 = b := ⟨_, rfl⟩
  rw [hb15] at HL2 ⊢
  obtain ⟨b14, hb14⟩ : ∃ b, w1.heap.size = b := ⟨_, rfl⟩
  rw [hb14] at HL2 ⊢
  clear hb15 hb14 HL1
  obtain ⟨p0, p1, p2, f70, f71, f72, z7, z71, z72⟩ := HL2.out.c3 4 rfl
  obtain ⟨r0, r1, r2, _, _, _, zr, zr1, zr2⟩ := HL2.out.c3 5 rfl
  obtain ⟨_, _, q2, _, q4, _, _, _, _, _, zq, zq1, zq2⟩ := HL2.out.c5 6 rfl
  have n1 := HL2.out.ne 4 5 rfl rfl (by decide)
  have n2 := HL2.out.ne 4 6 rfl rfl (by decide)
  have n3 := Ne.symm n1
  have n4 := Ne.symm n2
  cases hb0 : (((s.swap at_ x y).2.1.old : Int) == (q.2.1.old : Int)) with
  | false =>
    go_wp2_with fail
    refine wp_region_held_drew (S := fun w' => w'.cell? ⟨b14, 0, none⟩ = some (.slice ca1 q.1.C.length cp1) ∧ w'.cell? ⟨b14, 1, none⟩ = some (.int .i64 (r.most : Int)) ∧ w'.cell? ⟨b14, 2, none⟩ = some (.slice la1 q.1.L.length lp1)∧ w'.cell? ⟨b15, 2, none⟩ = some (.int .u64 (q.2.1.old : Int)) ∧ w'.cell? ⟨b15, 4, none⟩ = some (.bool q.2.1.did)) (by kernel_rfl) ?_ (fun hHeld => ?_)
    · (try dsimp only)
      go_keep
    refine wpAnyH_takeD (i := 0) (d := some 142) (v := ?_) rfl rfl (by kernel_rfl) (by kernel_rfl) (by kernel_rfl) (fun _ _ _ h => h) (Or.inl ⟨by rfl, ?_⟩) (by assumption) ?_
    rotate_left
    · intro w hSw
      (try dsimp only at hSw)
      first | (go_simp; done) | (go_simp; with_reducible rfl)
    (try simp only [Act.put, List.setIfInBounds_toArray, List.set_cons_zero, List.set_cons_succ])
    refine wpAnyH_takeD (i := 1) (d := some 143) (v := ?_) rfl rfl (by kernel_rfl) (by kernel_rfl) (by kernel_rfl) (fun _ _ _ h => h) (Or.inl ⟨by rfl, ?_⟩) (by assumption) ?_
    rotate_left
    · intro w hSw
      (try dsimp only at hSw)
      first | (go_simp; done) | (go_simp; with_reducible rfl)
    (try simp only [Act.put, List.setIfInBounds_toArray, List.set_cons_zero, List.set_cons_succ])
    refine wpAnyH_takeD (i := 2) (d := some 144) (v := ?_) rfl rfl (by kernel_rfl) (by kernel_rfl) (by kernel_rfl) (fun _ _ _ h => h) (Or.inl ⟨by rfl, ?_⟩) (by assumption) ?_
    rotate_left
    · intro w hSw
      (try dsimp only at hSw)
      first | (go_simp; done) | (go_simp; with_reducible rfl)
    (try simp only [Act.put, List.setIfInBounds_toArray, List.set_cons_zero, List.set_cons_succ])
    refine wpAnyH_takeD (i := 3) (d := some 145) (v := ?_) rfl rfl (by kernel_rfl) (by kernel_rfl) (by kernel_rfl) (fun _ _ _ h => h) (Or.inl ⟨by rfl, ?_⟩) (by assumption) ?_
    rotate_left
    · intro w hSw
      (try dsimp only at hSw)
      first | (go_simp; done) | (go_simp; with_reducible rfl)
    (try simp only [Act.put, List.setIfInBounds_toArray, List.set_cons_zero, List.set_cons_succ])
    refine wpAnyH_takeD (i := 4) (d := some 146) (v := ?_) rfl rfl (by kernel_rfl) (by kernel_rfl) (by kernel_rfl) (fun _ _ _ h => h) (Or.inl ⟨by rfl, ?_⟩) (by assumption) ?_
    rotate_left
    · intro w hSw
      (try dsimp only at hSw)
      first | (go_simp; done) | (go_simp; with_reducible rfl)
    (try simp only [Act.put, List.setIfInBounds_toArray, List.set_cons_zero, List.set_cons_succ])
    refine wpAnyH_takeD (i := 5) (d := some 147) (v := ?_) rfl rfl (by kernel_rfl) (by kernel_rfl) (by kernel_rfl) (fun _ _ _ h => h) (Or.inl ⟨by rfl, ?_⟩) (by assumption) ?_
    rotate_left
    · intro w hSw
      (try dsimp only at hSw)
      first | (go_simp; done) | (go_simp; with_reducible rfl)
    (try simp only [Act.put, List.setIfInBounds_toArray, List.set_cons_zero, List.set_cons_succ])
    refine wpAnyH_takeD (i := 6) (d := some 148) (v := ?_) rfl rfl (by kernel_rfl) (by kernel_rfl) (by kernel_rfl) (fun _ _ _ h => h) (Or.inl ⟨by rfl, ?_⟩) (by assumption) ?_
    rotate_left
    · intro w hSw
      (try dsimp only at hSw)
      first | (go_simp; done) | (go_simp; with_reducible rfl)
    (try simp only [Act.put, List.setIfInBounds_toArray, List.set_cons_zero, List.set_cons_succ])
    refine wpAnyH_takeD (i := 7) (d := some 149) (v := undef) rfl rfl (by kernel_rfl) (by kernel_rfl) (by kernel_rfl) (fun _ _ _ h => h) (Or.inr ⟨by rfl, rfl⟩) (by assumption) ?_
    (try simp only [Act.put, List.setIfInBounds_toArray, List.set_cons_zero, List.set_cons_succ])
    refine wpAnyH_takeD (i := 8) (d := some 150) (v := undef) rfl rfl (by kernel_rfl) (by kernel_rfl) (by kernel_rfl) (fun _ _ _ h => h) (Or.inr ⟨by rfl, rfl⟩) (by assumption) ?_
    (try simp only [Act.put, List.setIfInBounds_toArray, List.set_cons_zero, List.set_cons_succ])
    refine wpAnyH_takeD (i := 9) (d := some 151) (v := undef) rfl rfl (by kernel_rfl) (by kernel_rfl) (by kernel_rfl) (fun _ _ _ h => h) (Or.inr ⟨by rfl, rfl⟩) (by assumption) ?_
    (try simp only [Act.put, List.setIfInBounds_toArray, List.set_cons_zero, List.set_cons_succ])
    refine wpAnyH_takeD (i := 10) (d := some 152) (v := undef) rfl rfl (by kernel_rfl) (by kernel_rfl) (by kernel_rfl) (fun _ _ _ h => h) (Or.inr ⟨by rfl, rfl⟩) (by assumption) ?_
    (try simp only [Act.put, List.setIfInBounds_toArray, List.set_cons_zero, List.set_cons_succ])
    refine wpAnyH_takeD (i := 11) (d := some 153) (v := ?_) rfl rfl (by kernel_rfl) (by kernel_rfl) (by kernel_rfl) (fun _ _ _ h => h) (Or.inl ⟨by rfl, ?_⟩) (by assumption) ?_
    rotate_left
    · intro w hSw
      (try dsimp only at hSw)
      first | (go_simp; done) | (go_simp; with_reducible rfl)
    (try simp only [Act.put, List.setIfInBounds_toArray, List.set_cons_zero, List.set_cons_succ])
    refine wpAnyH_takeD (i := 12) (d := some 154) (v := ?_) rfl rfl (by kernel_rfl) (by kernel_rfl) (by kernel_rfl) (fun _ _ _ h => h) (Or.inl ⟨by rfl, ?_⟩) (by assumption) ?_
    rotate_left
    · intro w hSw
      (try dsimp only at hSw)
      first | (go_simp; done) | (go_simp; with_reducible rfl)
    (try simp only [Act.put, List.setIfInBounds_toArray, List.set_cons_zero, List.set_cons_succ])
    refine wpAnyH_takeD (i := 13) (d := some 155) (v := undef) rfl rfl (by kernel_rfl) (by kernel_rfl) (by kernel_rfl) (fun _ _ _ h => h) (Or.inr ⟨by rfl, rfl⟩) (by assumption) ?_
    (try simp only [Act.put, List.setIfInBounds_toArray, List.set_cons_zero, List.set_cons_succ])
    refine wpAnyH_takeD (i := 14) (d := some 156) (v := undef) rfl rfl (by kernel_rfl) (by kernel_rfl) (by kernel_rfl) (fun _ _ _ h => h) (Or.inr ⟨by rfl, rfl⟩) (by assumption) ?_
    (try simp only [Act.put, List.setIfInBounds_toArray, List.set_cons_zero, List.set_cons_succ])
    refine wpAnyH_takeD (i := 15) (d := some 157) (v := undef) rfl rfl (by kernel_rfl) (by kernel_rfl) (by kernel_rfl) (fun _ _ _ h => h) (Or.inr ⟨by rfl, rfl⟩) (by assumption) ?_
    (try simp only [Act.put, List.setIfInBounds_toArray, List.set_cons_zero, List.set_cons_succ])
    refine wpAnyH_takeD (i := 16) (d := some 158) (v := undef) rfl rfl (by kernel_rfl) (by kernel_rfl) (by kernel_rfl) (fun _ _ _ h => h) (Or.inr ⟨by rfl, rfl⟩) (by assumption) ?_
    (try simp only [Act.put, List.setIfInBounds_toArray, List.set_cons_zero, List.set_cons_succ])
    refine wpAnyH_takeD (i := 17) (d := some 159) (v := ?_) rfl rfl (by kernel_rfl) (by kernel_rfl) (by kernel_rfl) (fun _ _ _ h => h) (Or.inl ⟨by rfl, ?_⟩) (by assumption) ?_
    rotate_left
    · intro w hSw
      (try dsimp only at hSw)
      first | (go_simp; done) | (go_simp; with_reducible rfl)
    (try simp only [Act.put, List.setIfInBounds_toArray, List.set_cons_zero, List.set_cons_succ])
    refine wpAnyH_takeD (i := 18) (d := some 6) (v := ?_) rfl rfl (by kernel_rfl) (by kernel_rfl) (by kernel_rfl) (fun _ _ _ h => h) (Or.inl ⟨by rfl, ?_⟩) (by assumption) ?_
    rotate_left
    · intro w hSw
      (try dsimp only at hSw)
      first | (go_simp; done) | (go_simp; with_reducible rfl)
    (try simp only [Act.put, List.setIfInBounds_toArray, List.set_cons_zero, List.set_cons_succ])
    refine wpAnyH_ready (rs := [19]) (by kernel_rfl) (by simp) ?_
    refine AllReadyH.cons rfl (fun K hK => ?_) AllReadyH.nil
    go_simp
    refine hK.out _ _ ?_ (fun hHeld => ?_)
    · (try dsimp only)
      go_keep
    clear hK K
    (try simp only [Act.put, List.setIfInBounds_toArray, List.set_cons_zero, List.set_cons_succ])
    refine wpAnyH_takeD (i := 20) (d := some 8) (v := ?_) rfl rfl (by kernel_rfl) (by kernel_rfl) (by kernel_rfl) (fun _ _ _ h => h) (Or.inl ⟨by rfl, ?_⟩) (by assumption) ?_
    rotate_left
    · intro w hSw
      (try dsimp only at hSw)
      first | (go_simp; done) | (go_simp; with_reducible rfl)
    (try simp only [Act.put, List.setIfInBounds_toArray, List.set_cons_zero, List.set_cons_succ])
    refine wpAnyH_done (by kernel_rfl) ?_ _
    go_wp2
    have HL3 := Lib.hid ((((HL2.out.set 4 rfl 0 (.slice ca1 q.1.C.length cp1)).set 4 rfl 1 (.int .i64 (r.most : Int))).set 4 rfl 2 (.slice la1 q.1.L.length lp1)).drew)
    simp only [List.set_cons_succ, List.set_cons_zero, List.setIfInBounds_toArray] at HL3
    obtain ⟨y0, y1, y2, _, _, _, _, _, _⟩ := HL3.out.c3 4 rfl
    refine bodyPost_ret (v := .tuple #[.pointer (some ⟨g, 0, none⟩), .agg #[.slice ca1 q.1.C.length cp1, .int .i64 (r.most : Int), .slice la1 q.1.L.length lp1], .bool false]) (by simp [results, Try.results30, go_sem, y0, y1, y2]) rfl ?_
    exact ⟨_, g, _, _, rfl, HL3.out⟩
  | true =>
    cases hb1 : ((s.swap at_ x y).2.1.did == q.2.1.did) with
    | false =>
      go_wp2_with fail
      refine wp_region_held_drew (S := fun w' => w'.cell? ⟨b14, 0, none⟩ = some (.slice ca1 q.1.C.length cp1) ∧ w'.cell? ⟨b14, 1, none⟩ = some (.int .i64 (r.most : Int)) ∧ w'.cell? ⟨b14, 2, none⟩ = some (.slice la1 q.1.L.length lp1)∧ w'.cell? ⟨b15, 2, none⟩ = some (.int .u64 (q.2.1.old : Int)) ∧ w'.cell? ⟨b15, 4, none⟩ = some (.bool q.2.1.did)) (by kernel_rfl) ?_ (fun hHeld => ?_)
      · (try dsimp only)
        go_keep
      refine wpAnyH_takeD (i := 0) (d := some 142) (v := ?_) rfl rfl (by kernel_rfl) (by kernel_rfl) (by kernel_rfl) (fun _ _ _ h => h) (Or.inl ⟨by rfl, ?_⟩) (by assumption) ?_
      rotate_left
      · intro w hSw
        (try dsimp only at hSw)
        first | (go_simp; done) | (go_simp; with_reducible rfl)
      (try simp only [Act.put, List.setIfInBounds_toArray, List.set_cons_zero, List.set_cons_succ])
      refine wpAnyH_takeD (i := 1) (d := some 143) (v := ?_) rfl rfl (by kernel_rfl) (by kernel_rfl) (by kernel_rfl) (fun _ _ _ h => h) (Or.inl ⟨by rfl, ?_⟩) (by assumption) ?_
      rotate_left
      · intro w hSw
        (try dsimp only at hSw)
        first | (go_simp; done) | (go_simp; with_reducible rfl)
      (try simp only [Act.put, List.setIfInBounds_toArray, List.set_cons_zero, List.set_cons_succ])
      refine wpAnyH_takeD (i := 2) (d := some 144) (v := ?_) rfl rfl (by kernel_rfl) (by kernel_rfl) (by kernel_rfl) (fun _ _ _ h => h) (Or.inl ⟨by rfl, ?_⟩) (by assumption) ?_
      rotate_left
      · intro w hSw
        (try dsimp only at hSw)
        first | (go_simp; done) | (go_simp; with_reducible rfl)
      (try simp only [Act.put, List.setIfInBounds_toArray, List.set_cons_zero, List.set_cons_succ])
      refine wpAnyH_takeD (i := 3) (d := some 145) (v := ?_) rfl rfl (by kernel_rfl) (by kernel_rfl) (by kernel_rfl) (fun _ _ _ h => h) (Or.inl ⟨by rfl, ?_⟩) (by assumption) ?_
      rotate_left
      · intro w hSw
        (try dsimp only at hSw)
        first | (go_simp; done) | (go_simp; with_reducible rfl)
      (try simp only [Act.put, List.setIfInBounds_toArray, List.set_cons_zero, List.set_cons_succ])
      refine wpAnyH_takeD (i := 4) (d := some 146) (v := ?_) rfl rfl (by kernel_rfl) (by kernel_rfl) (by kernel_rfl) (fun _ _ _ h => h) (Or.inl ⟨by rfl, ?_⟩) (by assumption) ?_
      rotate_left
      · intro w hSw
        (try dsimp only at hSw)
        first | (go_simp; done) | (go_simp; with_reducible rfl)
      (try simp only [Act.put, List.setIfInBounds_toArray, List.set_cons_zero, List.set_cons_succ])
      refine wpAnyH_takeD (i := 5) (d := some 147) (v := ?_) rfl rfl (by kernel_rfl) (by kernel_rfl) (by kernel_rfl) (fun _ _ _ h => h) (Or.inl ⟨by rfl, ?_⟩) (by assumption) ?_
      rotate_left
      · intro w hSw
        (try dsimp only at hSw)
        first | (go_simp; done) | (go_simp; with_reducible rfl)
      (try simp only [Act.put, List.setIfInBounds_toArray, List.set_cons_zero, List.set_cons_succ])
      refine wpAnyH_takeD (i := 6) (d := some 148) (v := ?_) rfl rfl (by kernel_rfl) (by kernel_rfl) (by kernel_rfl) (fun _ _ _ h => h) (Or.inl ⟨by rfl, ?_⟩) (by assumption) ?_
      rotate_left
      · intro w hSw
        (try dsimp only at hSw)
        first | (go_simp; done) | (go_simp; with_reducible rfl)
      (try simp only [Act.put, List.setIfInBounds_toArray, List.set_cons_zero, List.set_cons_succ])
      refine wpAnyH_takeD (i := 7) (d := some 149) (v := ?_) rfl rfl (by kernel_rfl) (by kernel_rfl) (by kernel_rfl) (fun _ _ _ h => h) (Or.inl ⟨by rfl, ?_⟩) (by assumption) ?_
      rotate_left
      · intro w hSw
        (try dsimp only at hSw)
        first | (go_simp; done) | (go_simp; with_reducible rfl)
      (try simp only [Act.put, List.setIfInBounds_toArray, List.set_cons_zero, List.set_cons_succ])
      refine wpAnyH_takeD (i := 8) (d := some 150) (v := ?_) rfl rfl (by kernel_rfl) (by kernel_rfl) (by kernel_rfl) (fun _ _ _ h => h) (Or.inl ⟨by rfl, ?_⟩) (by assumption) ?_
      rotate_left
      · intro w hSw
        (try dsimp only at hSw)
        first | (go_simp; done) | (go_simp; with_reducible rfl)
      (try simp only [Act.put, List.setIfInBounds_toArray, List.set_cons_zero, List.set_cons_succ])
      refine wpAnyH_takeD (i := 9) (d := some 151) (v := ?_) rfl rfl (by kernel_rfl) (by kernel_rfl) (by kernel_rfl) (fun _ _ _ h => h) (Or.inl ⟨by rfl, ?_⟩) (by assumption) ?_
      rotate_left
      · intro w hSw
        (try dsimp only at hSw)
        first | (go_simp; done) | (go_simp; with_reducible rfl)
      (try simp only [Act.put, List.setIfInBounds_toArray, List.set_cons_zero, List.set_cons_succ])
      refine wpAnyH_takeD (i := 10) (d := some 152) (v := ?_) rfl rfl (by kernel_rfl) (by kernel_rfl) (by kernel_rfl) (fun _ _ _ h => h) (Or.inl ⟨by rfl, ?_⟩) (by assumption) ?_
      rotate_left
      · intro w hSw
        (try dsimp only at hSw)
        first | (go_simp; done) | (go_simp; with_reducible rfl)
      (try simp only [Act.put, List.setIfInBounds_toArray, List.set_cons_zero, List.set_cons_succ])
      refine wpAnyH_takeD (i := 11) (d := some 153) (v := ?_) rfl rfl (by kernel_rfl) (by kernel_rfl) (by kernel_rfl) (fun _ _ _ h => h) (Or.inl ⟨by rfl, ?_⟩) (by assumption) ?_
      rotate_left
      · intro w hSw
        (try dsimp only at hSw)
        first | (go_simp; done) | (go_simp; with_reducible rfl)
      (try simp only [Act.put, List.setIfInBounds_toArray, List.set_cons_zero, List.set_cons_succ])
      refine wpAnyH_takeD (i := 12) (d := some 154) (v := ?_) rfl rfl (by kernel_rfl) (by kernel_rfl) (by kernel_rfl) (fun _ _ _ h => h) (Or.inl ⟨by rfl, ?_⟩) (by assumption) ?_
      rotate_left
      · intro w hSw
        (try dsimp only at hSw)
        first | (go_simp; done) | (go_simp; with_reducible rfl)
      (try simp only [Act.put, List.setIfInBounds_toArray, List.set_cons_zero, List.set_cons_succ])
      refine wpAnyH_takeD (i := 13) (d := some 155) (v := undef) rfl rfl (by kernel_rfl) (by kernel_rfl) (by kernel_rfl) (fun _ _ _ h => h) (Or.inr ⟨by rfl, rfl⟩) (by assumption) ?_
      (try simp only [Act.put, List.setIfInBounds_toArray, List.set_cons_zero, List.set_cons_succ])
      refine wpAnyH_takeD (i := 14) (d := some 156) (v := undef) rfl rfl (by kernel_rfl) (by kernel_rfl) (by kernel_rfl) (fun _ _ _ h => h) (Or.inr ⟨by rfl, rfl⟩) (by assumption) ?_
      (try simp only [Act.put, List.setIfInBounds_toArray, List.set_cons_zero, List.set_cons_succ])
      refine wpAnyH_takeD (i := 15) (d := some 157) (v := undef) rfl rfl (by kernel_rfl) (by kernel_rfl) (by kernel_rfl) (fun _ _ _ h => h) (Or.inr ⟨by rfl, rfl⟩) (by assumption) ?_
      (try simp only [Act.put, List.setIfInBounds_toArray, List.set_cons_zero, List.set_cons_succ])
      refine wpAnyH_takeD (i := 16) (d := some 158) (v := undef) rfl rfl (by kernel_rfl) (by kernel_rfl) (by kernel_rfl) (fun _ _ _ h => h) (Or.inr ⟨by rfl, rfl⟩) (by assumption) ?_
      (try simp only [Act.put, List.setIfInBounds_toArray, List.set_cons_zero, List.set_cons_succ])
      refine wpAnyH_takeD (i := 17) (d := some 159) (v := ?_) rfl rfl (by kernel_rfl) (by kernel_rfl) (by kernel_rfl) (fun _ _ _ h => h) (Or.inl ⟨by rfl, ?_⟩) (by assumption) ?_
      rotate_left
      · intro w hSw
        (try dsimp only at hSw)
        first | (go_simp; done) | (go_simp; with_reducible rfl)
      (try simp only [Act.put, List.setIfInBounds_toArray, List.set_cons_zero, List.set_cons_succ])
      refine wpAnyH_takeD (i := 18) (d := some 6) (v := ?_) rfl rfl (by kernel_rfl) (by kernel_rfl) (by kernel_rfl) (fun _ _ _ h => h) (Or.inl ⟨by rfl, ?_⟩) (by assumption) ?_
      rotate_left
      · intro w hSw
        (try dsimp only at hSw)
        first | (go_simp; done) | (go_simp; with_reducible rfl)
      (try simp only [Act.put, List.setIfInBounds_toArray, List.set_cons_zero, List.set_cons_succ])
      refine wpAnyH_ready (rs := [19]) (by kernel_rfl) (by simp) ?_
      refine AllReadyH.cons rfl (fun K hK => ?_) AllReadyH.nil
      go_simp
      refine hK.out _ _ ?_ (fun hHeld => ?_)
      · (try dsimp only)
        go_keep
      clear hK K
      (try simp only [Act.put, List.setIfInBounds_toArray, List.set_cons_zero, List.set_cons_succ])
      refine wpAnyH_takeD (i := 20) (d := some 8) (v := ?_) rfl rfl (by kernel_rfl) (by kernel_rfl) (by kernel_rfl) (fun _ _ _ h => h) (Or.inl ⟨by rfl, ?_⟩) (by assumption) ?_
      rotate_left
      · intro w hSw
        (try dsimp only at hSw)
        first | (go_simp; done) | (go_simp; with_reducible rfl)
      (try simp only [Act.put, List.setIfInBounds_toArray, List.set_cons_zero, List.set_cons_succ])
      refine wpAnyH_done (by kernel_rfl) ?_ _
      go_wp2
      have HL3 := Lib.hid ((((HL2.out.set 4 rfl 0 (.slice ca1 q.1.C.length cp1)).set 4 rfl 1 (.int .i64 (r.most : Int))).set 4 rfl 2 (.slice la1 q.1.L.length lp1)).drew)
      simp only [List.set_cons_succ, List.set_cons_zero, List.setIfInBounds_toArray] at HL3
      obtain ⟨y0, y1, y2, _, _, _, _, _, _⟩ := HL3.out.c3 4 rfl
      refine bodyPost_ret (v := .tuple #[.pointer (some ⟨g, 0, none⟩), .agg #[.slice ca1 q.1.C.length cp1, .int .i64 (r.most : Int), .slice la1 q.1.L.length lp1], .bool false]) (by simp [results, Try.results30, go_sem, y0, y1, y2]) rfl ?_
      exact ⟨_, g, _, _, rfl, HL3.out⟩
    | true =>
      cases hb2 : (((s.swap at_ x y).2.2 : Int) == (q.2.2 : Int)) with
      | false =>
        go_wp2_with fail
        go_region_held3 (fun w' => w'.cell? ⟨b14, 0, none⟩ = some (.slice ca1 q.1.C.length cp1) ∧ w'.cell? ⟨b14, 1, none⟩ = some (.int .i64 (r.most : Int)) ∧ w'.cell? ⟨b14, 2, none⟩ = some (.slice la1 q.1.L.length lp1)∧ w'.cell? ⟨b15, 2, none⟩ = some (.int .u64 (q.2.1.old : Int)) ∧ w'.cell? ⟨b15, 4, none⟩ = some (.bool q.2.1.did)) (go_keep) (first | (go_at_call 28; refine (num01 _ _).mono ?_; rintro e w' ⟨rfl, rfl⟩))
        go_wp2
        have HL3 := Lib.hid ((((HL2.out.set 4 rfl 0 (.slice ca1 q.1.C.length cp1)).set 4 rfl 1 (.int .i64 (r.most : Int))).set 4 rfl 2 (.slice la1 q.1.L.length lp1)).drew)
        simp only [List.set_cons_succ, List.set_cons_zero, List.setIfInBounds_toArray] at HL3
        obtain ⟨y0, y1, y2, _, _, _, _, _, _⟩ := HL3.out.c3 4 rfl
        refine bodyPost_ret (v := .tuple #[.pointer (some ⟨g, 0, none⟩), .agg #[.slice ca1 q.1.C.length cp1, .int .i64 (r.most : Int), .slice la1 q.1.L.length lp1], .bool false]) (by simp [results, Try.results30, go_sem, y0, y1, y2]) rfl ?_
        exact ⟨_, g, _, _, rfl, HL3.out⟩
      | true =>
        go_wp2_with fail
        go_region_held3 (fun w' => w'.cell? ⟨b14, 0, none⟩ = some (.slice ca1 q.1.C.length cp1) ∧ w'.cell? ⟨b14, 1, none⟩ = some (.int .i64 (r.most : Int)) ∧ w'.cell? ⟨b14, 2, none⟩ = some (.slice la1 q.1.L.length lp1)∧ w'.cell? ⟨b15, 2, none⟩ = some (.int .u64 (q.2.1.old : Int)) ∧ w'.cell? ⟨b15, 4, none⟩ = some (.bool q.2.1.did)) (go_keep) (first | (go_at_call 28; refine (num01 _ _).mono ?_; rintro e w' ⟨rfl, rfl⟩))
        go_wp2
        have HL3 := Lib.hid ((((HL2.out.set 4 rfl 0 (.slice ca1 q.1.C.length cp1)).set 4 rfl 1 (.int .i64 (r.most : Int))).set 4 rfl 2 (.slice la1 q.1.L.length lp1)).drew)
        simp only [List.set_cons_succ, List.set_cons_zero, List.setIfInBounds_toArray] at HL3
        obtain ⟨y0, y1, y2, _, _, _, _, _, _⟩ := HL3.out.c3 4 rfl
        refine bodyPost_ret (v := .tuple #[.pointer (some ⟨g, 0, none⟩), .agg #[.slice ca1 q.1.C.length cp1, .int .i64 (r.most : Int), .slice la1 q.1.L.length lp1], .bool true]) (by simp [results, Try.results30, go_sem, y0, y1, y2]) rfl ?_
        exact ⟨_, g, _, _, rfl, HL3.out⟩
set_option maxHeartbeats 4000000 in
theorem actE_store (T : List Nat) (w : World) (g : Nat) (s r : Ar) (vc vl : Value) (at_ : Int) (x y : Nat) (hx : Wd x) (h : Led T w w [arena g s, refT vc vl r]) (hL2 : s.L.length ≤ 1048576) (hR2 : r.L.length ≤ 1048576) :
    Calls Try.prog 30 #[.pointer (some ⟨g, 0, none⟩), refV vc r.most vl, .agg #[.int .i64 2, .int .i64 at_, .int .u64 (x : Int), .int .u64 (y : Int)]] w (ActedE T w) := by
  obtain ⟨ca, cp, rfl, _, _⟩ := own_val (h.refAt 1 rfl).cel
  obtain ⟨la, lp, rfl, _, _⟩ := own_val (h.refAt 1 rfl).log
  have HL0 := Lib.hid h
  clear h
  unfold refV
  go_enter Try.func30, Try.ntmps30
  go_wp2_with fail
  refine ((((HL0.out.alloc _ _).alloc _ _).alloc _ _).refDid 1 rfl (fun hr => refStore _ _ _ r at_ hr hR2 x 0)).mono ?_
  rintro e w1 ⟨vc', vl', rfl, hL⟩
  simp only [List.nil_append, List.cons_append, List.set_cons_succ, List.set_cons_zero, World.size_alloc] at hL
  obtain ⟨ca1, cp1, rfl, _, _⟩ := own_val (hL.refAt 1 rfl).cel
  obtain ⟨la1, lp1, rfl, _, _⟩ := own_val (hL.refAt 1 rfl).log
  have HL1 := Lib.hid hL
  clear hL
  obtain ⟨q, hq⟩ : ∃ q, r.store at_ x = q := ⟨_, rfl⟩
  rw [hq] at HL1 ⊢
  clear hq
  unfold refV
  obtain ⟨b7, hb7⟩ : ∃ b, w.heap.size + 1 + 1 = b := ⟨_, rfl⟩
  rw [hb7] at HL1 ⊢
  obtain ⟨b5, hb5⟩ : ∃ b, w.heap.size + 1 = b := ⟨_, rfl⟩
  rw [hb5] at HL1 ⊢
  obtain ⟨b4, hb4⟩ : ∃ b, w.heap.size = b := ⟨_, rfl⟩
  rw [hb4] at HL1 ⊢
  clear hb7 hb5 hb4
  obtain ⟨a0, a1, a2, a3, _, _, _, _, za, za1, za2⟩ := HL1.out.c4 3 rfl
  obtain ⟨_, _, _, _, _, _, z7, z71, z72⟩ := HL1.out.c3 4 rfl
  go_wp2_with fail
  refine wp_name ?_
  intro w2 hw2
  have HL2 := Lib.hid (HL1.out.al2 hw2)
  simp only [List.nil_append, List.cons_append] at HL2
  clear hw2 a0 a1 a2 a3 za za1 za2 z7 z71 z72
  obtain ⟨b15, hb15⟩ : ∃ b, w1.heap.size + 1 = b := ⟨_, rfl⟩
  rw [hb15] at HL2 ⊢
  obtain ⟨b14, hb14⟩ : ∃ b, w1.heap.size = b := ⟨_, rfl⟩
  rw [hb14] at HL2 ⊢
  clear hb15 hb14 HL1
  obtain ⟨a0, a1, a2, a3, _, _, _, _, za, za1, za2⟩ := HL2.out.c4 3 rfl
  obtain ⟨p0, p1, p2, f70, f71, f72, z7, z71, z72⟩ := HL2.out.c3 4 rfl
  obtain ⟨r0, r1, r2, _, _, _, zr, zr1, zr2⟩ := HL2.out.c3 5 rfl
  have n1 := HL2.out.ne 4 5 rfl rfl (by decide)
  have n2 := HL2.out.ne 4 3 rfl rfl (by decide)
  have n3 := Ne.symm n1
  have n4 := Ne.symm n2
  go_region_held3 (fun w' => w'.cell? ⟨b14, 0, none⟩ = some (.slice ca1 q.1.C.length cp1) ∧ w'.cell? ⟨b14, 1, none⟩ = some (.int .i64 (r.most : Int)) ∧ w'.cell? ⟨b14, 2, none⟩ = some (.slice la1 q.1.L.length lp1) ∧ w'.cell? ⟨b5, 1, none⟩ = some (.int .i64 at_) ∧ w'.cell? ⟨b5, 2, none⟩ = some (.int .u64 (x : Int))) (go_keep)
    (first
    | (go_at_call 23; refine (HL2.out.drew.ar 0 rfl (fun fp hI => Store_any _ g fp s at_ hI (by omega) x hx)).mono ?_; rintro e w3 ⟨rfl, hL⟩; have HL3 := Lib.hid hL; simp only [List.set_cons_succ, List.set_cons_zero] at HL3; obtain ⟨a0, a1, a2, a3, _, _, _, _, za, za1, za2⟩ := HL3.out.c4 3 rfl; obtain ⟨p0, p1, p2, f70, f71, f72, z7, z71, z72⟩ := HL3.out.c3 4 rfl; obtain ⟨r0, r1, r2, _, _, _, zr, zr1, zr2⟩ := HL3.out.c3 5 rfl; clear hL)
    | (go_at_call 28; refine (num01 _ _).mono ?_; rintro e w' ⟨rfl, rfl⟩))
  go_wp2
  have HL4 := Lib.hid (((HL3.out.set 4 rfl 0 (.slice ca1 q.1.C.length cp1)).set 4 rfl 1 (.int .i64 (r.most : Int))).set 4 rfl 2 (.slice la1 q.1.L.length lp1))
  simp only [List.set_cons_succ, List.set_cons_zero, List.setIfInBounds_toArray] at HL4
  obtain ⟨y0, y1, y2, _, _, _, _, _, _⟩ := HL4.out.c3 4 rfl
  refine bodyPost_ret (v := .tuple #[.pointer (some ⟨g, 0, none⟩), .agg #[.slice ca1 q.1.C.length cp1, .int .i64 (r.most : Int), .slice la1 q.1.L.length lp1], .bool (((s.store at_ x).2.2 : Int) == (q.2.2 : Int))]) (by simp [results, Try.results30, go_sem, y0, y1, y2]) rfl ?_
  exact ⟨_, g, _, _, rfl, HL4.out⟩
set_option maxHeartbeats 4000000 in
theorem actE_alloc (T : List Nat) (w : World) (g : Nat) (s r : Ar) (vc vl : Value) (at_ : Int) (x y : Nat) (h : Led T w w [arena g s, refT vc vl r]) (hL2 : s.L.length ≤ 1048576) (hR2 : r.L.length ≤ 1048576) :
    Calls Try.prog 30 #[.pointer (some ⟨g, 0, none⟩), refV vc r.most vl, .agg #[.int .i64 0, .int .i64 at_, .int .u64 (x : Int), .int .u64 (y : Int)]] w (ActedE T w) := by
  obtain ⟨ca, cp, rfl, _, _⟩ := own_val (h.refAt 1 rfl).cel
  obtain ⟨la, lp, rfl, _, _⟩ := own_val (h.refAt 1 rfl).log
  have HL0 := Lib.hid h
  clear h
  unfold refV
  go_enter Try.func30, Try.ntmps30
  go_wp2_with fail
  refine ((((HL0.out.alloc _ _).alloc _ _).alloc _ _).refAlloc 1 rfl at_).mono ?_
  rintro e w1 ⟨vc', rfl, hL⟩
  simp only [List.nil_append, List.cons_append, List.set_cons_succ, List.set_cons_zero, World.size_alloc] at hL
  obtain ⟨ca1, cp1, rfl, _, _⟩ := own_val (hL.refAt 1 rfl).cel
  skip
  have HL1 := Lib.hid hL
  clear hL
  obtain ⟨q, hq⟩ : ∃ q, r.allocA at_ = q := ⟨_, rfl⟩
  rw [hq] at HL1 ⊢
  clear hq
  unfold refV
  obtain ⟨b7, hb7⟩ : ∃ b, w.heap.size + 1 + 1 = b := ⟨_, rfl⟩
  rw [hb7] at HL1 ⊢
  obtain ⟨b5, hb5⟩ : ∃ b, w.heap.size + 1 = b := ⟨_, rfl⟩
  rw [hb5] at HL1 ⊢
  obtain ⟨b4, hb4⟩ : ∃ b, w.heap.size = b := ⟨_, rfl⟩
  rw [hb4] at HL1 ⊢
  clear hb7 hb5 hb4
  obtain ⟨a0, a1, a2, a3, _, _, _, _, za, za1, za2⟩ := HL1.out.c4 3 rfl
  obtain ⟨_, _, _, _, _, _, z7, z71, z72⟩ := HL1.out.c3 4 rfl
  go_wp2_with fail
  refine ((HL1.out.alloc _ _).ar 0 rfl (fun fp hI => Alloc_any _ g fp s at_ hI)).mono ?_
  rintro e w2 ⟨rfl, hL⟩
  simp only [List.nil_append, List.cons_append, List.set_cons_succ, List.set_cons_zero, World.size_alloc] at hL
  have HL2 := Lib.hid hL
  clear hL a0 a1 a2 a3 za za1 za2 z7 z71 z72
  obtain ⟨b14, hb14⟩ : ∃ b, w1.heap.size = b := ⟨_, rfl⟩
  rw [hb14] at HL2 ⊢
  clear hb14 HL1
  obtain ⟨p0, p1, p2, f70, f71, f72, z7, z71, z72⟩ := HL2.out.c3 4 rfl
  obtain ⟨r0, r1, r2, _, _, _, zr, zr1, zr2⟩ := HL2.out.c3 5 rfl
  have n1 := HL2.out.ne 4 5 rfl rfl (by decide)
  have n3 := Ne.symm n1
  cases hb0 : (((s.allocA at_).2.1 : Int) == (q.2.1 : Int)) with
  | false =>
    go_wp2_with fail
    refine wp_region_held_drew (S := fun w' => w'.cell? ⟨b14, 0, none⟩ = some (.slice ca1 q.1.C.length cp1) ∧ w'.cell? ⟨b14, 1, none⟩ = some (.int .i64 (r.most : Int)) ∧ w'.cell? ⟨b14, 2, none⟩ = some (.slice la r.L.length lp)) (by kernel_rfl) ?_ (fun hHeld => ?_)
    · (try dsimp only)
      go_keep
    refine wpAnyH_takeD (i := 0) (d := some 52) (v := ?_) rfl rfl (by kernel_rfl) (by kernel_rfl) (by kernel_rfl) (fun _ _ _ h => h) (Or.inl ⟨by rfl, ?_⟩) (by assumption) ?_
    rotate_left
    · intro w hSw
      (try dsimp only at hSw)
      first | (go_simp; done) | (go_simp; with_reducible rfl)
    (try simp only [Act.put, List.setIfInBounds_toArray, List.set_cons_zero, List.set_cons_succ])
    refine wpAnyH_takeD (i := 1) (d := some 53) (v := ?_) rfl rfl (by kernel_rfl) (by kernel_rfl) (by kernel_rfl) (fun _ _ _ h => h) (Or.inl ⟨by rfl, ?_⟩) (by assumption) ?_
    rotate_left
    · intro w hSw
      (try dsimp only at hSw)
      first | (go_simp; done) | (go_simp; with_reducible rfl)
    (try simp only [Act.put, List.setIfInBounds_toArray, List.set_cons_zero, List.set_cons_succ])
    refine wpAnyH_takeD (i := 2) (d := some 54) (v := ?_) rfl rfl (by kernel_rfl) (by kernel_rfl) (by kernel_rfl) (fun _ _ _ h => h) (Or.inl ⟨by rfl, ?_⟩) (by assumption) ?_
    rotate_left
    · intro w hSw
      (try dsimp only at hSw)
      first | (go_simp; done) | (go_simp; with_reducible rfl)
    (try simp only [Act.put, List.setIfInBounds_toArray, List.set_cons_zero, List.set_cons_succ])
    refine wpAnyH_takeD (i := 3) (d := some 55) (v := ?_) rfl rfl (by kernel_rfl) (by kernel_rfl) (by kernel_rfl) (fun _ _ _ h => h) (Or.inl ⟨by rfl, ?_⟩) (by assumption) ?_
    rotate_left
    · intro w hSw
      (try dsimp only at hSw)
      first | (go_simp; done) | (go_simp; with_reducible rfl)
    (try simp only [Act.put, List.setIfInBounds_toArray, List.set_cons_zero, List.set_cons_succ])
    refine wpAnyH_takeD (i := 4) (d := some 56) (v := ?_) rfl rfl (by kernel_rfl) (by kernel_rfl) (by kernel_rfl) (fun _ _ _ h => h) (Or.inl ⟨by rfl, ?_⟩) (by assumption) ?_
    rotate_left
    · intro w hSw
      (try dsimp only at hSw)
      first | (go_simp; done) | (go_simp; with_reducible rfl)
    (try simp only [Act.put, List.setIfInBounds_toArray, List.set_cons_zero, List.set_cons_succ])
    refine wpAnyH_takeD (i := 5) (d := some 57) (v := ?_) rfl rfl (by kernel_rfl) (by kernel_rfl) (by kernel_rfl) (fun _ _ _ h => h) (Or.inl ⟨by rfl, ?_⟩) (by assumption) ?_
    rotate_left
    · intro w hSw
      (try dsimp only at hSw)
      first | (go_simp; done) | (go_simp; with_reducible rfl)
    (try simp only [Act.put, List.setIfInBounds_toArray, List.set_cons_zero, List.set_cons_succ])
    refine wpAnyH_takeD (i := 6) (d := some 58) (v := undef) rfl rfl (by kernel_rfl) (by kernel_rfl) (by kernel_rfl) (fun _ _ _ h => h) (Or.inr ⟨by rfl, rfl⟩) (by assumption) ?_
    (try simp only [Act.put, List.setIfInBounds_toArray, List.set_cons_zero, List.set_cons_succ])
    refine wpAnyH_takeD (i := 7) (d := some 59) (v := undef) rfl rfl (by kernel_rfl) (by kernel_rfl) (by kernel_rfl) (fun _ _ _ h => h) (Or.inr ⟨by rfl, rfl⟩) (by assumption) ?_
    (try simp only [Act.put, List.setIfInBounds_toArray, List.set_cons_zero, List.set_cons_succ])
    refine wpAnyH_takeD (i := 8) (d := some 60) (v := undef) rfl rfl (by kernel_rfl) (by kernel_rfl) (by kernel_rfl) (fun _ _ _ h => h) (Or.inr ⟨by rfl, rfl⟩) (by assumption) ?_
    (try simp only [Act.put, List.setIfInBounds_toArray, List.set_cons_zero, List.set_cons_succ])
    refine wpAnyH_takeD (i := 9) (d := some 61) (v := undef) rfl rfl (by kernel_rfl) (by kernel_rfl) (by kernel_rfl) (fun _ _ _ h => h) (Or.inr ⟨by rfl, rfl⟩) (by assumption) ?_
    (try simp only [Act.put, List.setIfInBounds_toArray, List.set_cons_zero, List.set_cons_succ])
    refine wpAnyH_takeD (i := 10) (d := some 62) (v := ?_) rfl rfl (by kernel_rfl) (by kernel_rfl) (by kernel_rfl) (fun _ _ _ h => h) (Or.inl ⟨by rfl, ?_⟩) (by assumption) ?_
    rotate_left
    · intro w hSw
      (try dsimp only at hSw)
      first | (go_simp; done) | (go_simp; with_reducible rfl)
    (try simp only [Act.put, List.setIfInBounds_toArray, List.set_cons_zero, List.set_cons_succ])
    refine wpAnyH_takeD (i := 11) (d := some 6) (v := ?_) rfl rfl (by kernel_rfl) (by kernel_rfl) (by kernel_rfl) (fun _ _ _ h => h) (Or.inl ⟨by rfl, ?_⟩) (by assumption) ?_
    rotate_left
    · intro w hSw
      (try dsimp only at hSw)
      first | (go_simp; done) | (go_simp; with_reducible rfl)
    (try simp only [Act.put, List.setIfInBounds_toArray, List.set_cons_zero, List.set_cons_succ])
    refine wpAnyH_ready (rs := [12]) (by kernel_rfl) (by simp) ?_
    refine AllReadyH.cons rfl (fun K hK => ?_) AllReadyH.nil
    go_simp
    refine hK.out _ _ ?_ (fun hHeld => ?_)
    · (try dsimp only)
      go_keep
    clear hK K
    (try simp only [Act.put, List.setIfInBounds_toArray, List.set_cons_zero, List.set_cons_succ])
    refine wpAnyH_takeD (i := 13) (d := some 8) (v := ?_) rfl rfl (by kernel_rfl) (by kernel_rfl) (by kernel_rfl) (fun _ _ _ h => h) (Or.inl ⟨by rfl, ?_⟩) (by assumption) ?_
    rotate_left
    · intro w hSw
      (try dsimp only at hSw)
      first | (go_simp; done) | (go_simp; with_reducible rfl)
    (try simp only [Act.put, List.setIfInBounds_toArray, List.set_cons_zero, List.set_cons_succ])
    refine wpAnyH_done (by kernel_rfl) ?_ _
    go_wp2
    have HL3 := Lib.hid ((((HL2.out.set 4 rfl 0 (.slice ca1 q.1.C.length cp1)).set 4 rfl 1 (.int .i64 (r.most : Int))).set 4 rfl 2 (.slice la r.L.length lp)).drew)
    simp only [List.set_cons_succ, List.set_cons_zero, List.setIfInBounds_toArray] at HL3
    obtain ⟨y0, y1, y2, _, _, _, _, _, _⟩ := HL3.out.c3 4 rfl
    refine bodyPost_ret (v := .tuple #[.pointer (some ⟨g, 0, none⟩), .agg #[.slice ca1 q.1.C.length cp1, .int .i64 (r.most : Int), .slice la r.L.length lp], .bool false]) (by simp [results, Try.results30, go_sem, y0, y1, y2]) rfl ?_
    exact ⟨_, g, _, _, rfl, HL3.out⟩
  | true =>
    cases hb1 : (((s.allocA at_).2.2 : Int) == (q.2.2 : Int)) with
    | false =>
      go_wp2_with fail
      go_region_held3 (fun w' => w'.cell? ⟨b14, 0, none⟩ = some (.slice ca1 q.1.C.length cp1) ∧ w'.cell? ⟨b14, 1, none⟩ = some (.int .i64 (r.most : Int)) ∧ w'.cell? ⟨b14, 2, none⟩ = some (.slice la r.L.length lp)) (go_keep) (first | (go_at_call 28; refine (num01 _ _).mono ?_; rintro e w' ⟨rfl, rfl⟩))
      go_wp2
      have HL3 := Lib.hid ((((HL2.out.set 4 rfl 0 (.slice ca1 q.1.C.length cp1)).set 4 rfl 1 (.int .i64 (r.most : Int))).set 4 rfl 2 (.slice la r.L.length lp)).drew)
      simp only [List.set_cons_succ, List.set_cons_zero, List.setIfInBounds_toArray] at HL3
      obtain ⟨y0, y1, y2, _, _, _, _, _, _⟩ := HL3.out.c3 4 rfl
      refine bodyPost_ret (v := .tuple #[.pointer (some ⟨g, 0, none⟩), .agg #[.slice ca1 q.1.C.length cp1, .int .i64 (r.most : Int), .slice la r.L.length lp], .bool false]) (by simp [results, Try.results30, go_sem, y0, y1, y2]) rfl ?_
      exact ⟨_, g, _, _, rfl, HL3.out⟩
    | true =>
      go_wp2_with fail
      go_region_held3 (fun w' => w'.cell? ⟨b14, 0, none⟩ = some (.slice ca1 q.1.C.length cp1) ∧ w'.cell? ⟨b14, 1, none⟩ = some (.int .i64 (r.most : Int)) ∧ w'.cell? ⟨b14, 2, none⟩ = some (.slice la r.L.length lp)) (go_keep) (first | (go_at_call 28; refine (num01 _ _).mono ?_; rintro e w' ⟨rfl, rfl⟩))
      go_wp2
      have HL3 := Lib.hid ((((HL2.out.set 4 rfl 0 (.slice ca1 q.1.C.length cp1)).set 4 rfl 1 (.int .i64 (r.most : Int))).set 4 rfl 2 (.slice la r.L.length lp)).drew)
      simp only [List.set_cons_succ, List.set_cons_zero, List.setIfInBounds_toArray] at HL3
      obtain ⟨y0, y1, y2, _, _, _, _, _, _⟩ := HL3.out.c3 4 rfl
      refine bodyPost_ret (v := .tuple #[.pointer (some ⟨g, 0, none⟩), .agg #[.slice ca1 q.1.C.length cp1, .int .i64 (r.most : Int), .slice la r.L.length lp], .bool true]) (by simp [results, Try.results30, go_sem, y0, y1, y2]) rfl ?_
      exact ⟨_, g, _, _, rfl, HL3.out⟩
set_option maxHeartbeats 4000000 in
theorem actE_copy (T : List Nat) (w : World) (g : Nat) (s r : Ar) (vc vl : Value) (what at_ : Int) (x y : Nat) (h0 : (what == 0) = false) (h1 : (what == 1) = false) (h2 : (what == 2) = false) (h3 : (what == 3) = false) (h4 : (what == 4) = false) (h5 : (what == 5) = false)
    (h : Led T w w [arena g s, refT vc vl r]) :
    Calls Try.prog 30 #[.pointer (some ⟨g, 0, none⟩), refV vc r.most vl, .agg #[.int .i64 what, .int .i64 at_, .int .u64 (x : Int), .int .u64 (y : Int)]] w (ActedE T w) := by
  obtain ⟨ca, cp, rfl, _, _⟩ := own_val (h.refAt 1 rfl).cel
  obtain ⟨la, lp, rfl, _, _⟩ := own_val (h.refAt 1 rfl).log
  have HL0 := Lib.hid h
  clear h
  unfold refV
  go_enter Try.func30, Try.ntmps30
  go_wp2_with fail
  refine wp_name ?_
  intro w2 hw2
  have HL2 := Lib.hid (HL0.out.al3 hw2)
  simp only [List.nil_append, List.cons_append] at HL2
  clear hw2
  obtain ⟨b7, hb7⟩ : ∃ b, w.heap.size + 1 + 1 = b := ⟨_, rfl⟩
  rw [hb7] at HL2 ⊢
  obtain ⟨b5, hb5⟩ : ∃ b, w.heap.size + 1 = b := ⟨_, rfl⟩
  rw [hb5] at HL2 ⊢
  obtain ⟨b4, hb4⟩ : ∃ b, w.heap.size = b := ⟨_, rfl⟩
  rw [hb4] at HL2 ⊢
  clear hb7 hb5 hb4
  obtain ⟨a0, a1, a2, _, _, _, za, za1, za2⟩ := HL2.out.c3 2 rfl
  obtain ⟨p0, p1, p2, f70, f71, f72, z7, z71, z72⟩ := HL2.out.c3 4 rfl
  have n1 := HL2.out.ne 4 2 rfl rfl (by decide)
  have n3 := Ne.symm n1
  go_region_held3 (fun w' => w'.cell? ⟨b4, 0, none⟩ = some (.slice ca r.C.length cp) ∧ w'.cell? ⟨b4, 1, none⟩ = some (.int .i64 (r.most : Int)) ∧ w'.cell? ⟨b4, 2, none⟩ = some (.slice la r.L.length lp)) (go_keep)
    (first
    | (go_at_call 37; refine (HL2.out.drew.arCopy 0 rfl).mono ?_; rintro e w3 ⟨g', rfl, hL⟩; have HL3 := Lib.hid (hL.stand 0); simp only [List.set_cons_succ, List.set_cons_zero] at HL3; obtain ⟨a0, a1, a2, _, _, _, za, za1, za2⟩ := HL3.out.c3 2 rfl; obtain ⟨p0, p1, p2, f70, f71, f72, z7, z71, z72⟩ := HL3.out.c3 4 rfl; clear hL))
  go_wp2
  have HL4 := Lib.hid (((HL3.out.set 4 rfl 0 (.slice ca r.C.length cp)).set 4 rfl 1 (.int .i64 (r.most : Int))).set 4 rfl 2 (.slice la r.L.length lp))
  simp only [List.set_cons_succ, List.set_cons_zero, List.setIfInBounds_toArray] at HL4
  obtain ⟨y0, y1, y2, _, _, _, _, _, _⟩ := HL4.out.c3 4 rfl
  refine bodyPost_ret (v := .tuple #[.pointer (some ⟨g', 0, none⟩), .agg #[.slice ca r.C.length cp, .int .i64 (r.most : Int), .slice la r.L.length lp], .bool true]) (by simp [results, Try.results30, go_sem, y0, y1, y2]) rfl ?_
  exact ⟨_, g', _, _, rfl, HL4.out⟩

/-- act, whatever is called. -/
theorem actE (T : List Nat) (w : World) (g : Nat) (s r : Ar) (vc vl : Value) (c : Call01) (hc : c.Ok) (h : Led T w w [arena g s, refT vc vl r]) (hL2 : s.L.length ≤ 1048576) (hR2 : r.L.length ≤ 1048576) :
    Calls Try.prog 30 #[.pointer (some ⟨g, 0, none⟩), refV vc r.most vl, .agg #[.int .i64 c.what, .int .i64 c.at_, .int .u64 (c.x : Int), .int .u64 (c.y : Int)]] w (ActedE T w) := by
  obtain ⟨what, at_, x, y⟩ := c
  obtain ⟨_, _, hx, hy⟩ := hc
  by_cases h0 : what = 0
  · subst h0; exact actE_alloc T w g s r vc vl at_ x y h hL2 hR2
  by_cases h1 : what = 1
  · subst h1; exact actE_load T w g s r vc vl at_ x y h hL2 hR2
  by_cases h2 : what = 2
  · subst h2; exact actE_store T w g s r vc vl at_ x y hx h hL2 hR2
  by_cases h3 : what = 3
  · subst h3; exact actE_swap T w g s r vc vl at_ x y hx hy h hL2 hR2
  by_cases h4 : what = 4
  · subst h4; exact actE_swap4 T w g s r vc vl at_ x y hx hy h hL2 hR2
  by_cases h5 : what = 5
  · subst h5; exact actE_add T w g s r vc vl at_ x y hx h hL2 hR2
  exact actE_copy T w g s r vc vl what at_ x y (by simpa using h0) (by simpa using h1) (by simpa using h2) (by simpa using h3) (by simpa using h4) (by simpa using h5) h
end Go.Proofs.Ytegebecogbebaaa
