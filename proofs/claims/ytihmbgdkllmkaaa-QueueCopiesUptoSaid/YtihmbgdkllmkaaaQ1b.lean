/-
  Layer 13: SameEntry (queue.go), Right and SameEntry of the reference (betrothalref13/ref.go).
-/
import Derived.Test.YtihmbgdkllmkaaaQ1
import Derived.Laws.StructEq
namespace Go.Proofs.Ytihmbgdkllmkaaa
open Go.RowKit Go.Shelf
set_option maxRecDepth 100000
set_option linter.unusedVariables false
set_option linter.unusedSimpArgs false

theorem und_four : Try.prog.underlying 116 = some (.array 4 3) := by kernel_rfl
theorem part_four (x0 x1 x2 x3 : Int) (w : World) : (part 3 #[.int .i64 x0, .int .i64 x1, .int .i64 x2, .int .i64 x3] 0).run Try.prog w = .ok (.int .i64 x0) w ∧ (part 3 #[.int .i64 x0, .int .i64 x1, .int .i64 x2, .int .i64 x3] 1).run Try.prog w = .ok (.int .i64 x1) w ∧
    (part 3 #[.int .i64 x0, .int .i64 x1, .int .i64 x2, .int .i64 x3] 2).run Try.prog w = .ok (.int .i64 x2) w ∧ (part 3 #[.int .i64 x0, .int .i64 x1, .int .i64 x2, .int .i64 x3] 3).run Try.prog w = .ok (.int .i64 x3) w := ⟨by kernel_rfl, by kernel_rfl, by kernel_rfl, by kernel_rfl⟩
theorem size_int (w : World) : (sizeOf 3).run Try.prog w = .ok 1 w := by kernel_rfl
theorem eql_four (a b c d a' b' c' d' : Int) (w : World) : (binOp .eql 116 (.agg #[.int .i64 a, .int .i64 b, .int .i64 c, .int .i64 d]) (.agg #[.int .i64 a', .int .i64 b', .int .i64 c', .int .i64 d'])).run Try.prog w = .ok (.bool (a == a' && (b == b' && (c == c' && d == d')))) w := by
  obtain ⟨p0, p1, p2, p3⟩ := part_four a b c d w
  obtain ⟨q0, q1, q2, q3⟩ := part_four a' b' c' d' w
  have e : ∀ x y : Int, (Op.equalIn 9999 3 (.int .i64 x) (.int .i64 y)).run Try.prog w = .ok (x == y) w := fun x y => run_equalIn_int w 9998 3 .i64 .i64 x y Try.underlying3
  rw [run_eql_struct]
  rw [show (10000 : Nat) = 9999 + 1 from rfl, Op.equalIn]
  simp only [Sem.run_bind, run_underlying und_four, Result.andThen_ok, size_int]
  cases h0 : (a == a') <;> cases h1 : (b == b') <;> cases h2 : (c == c') <;> cases h3 : (d == d') <;> simp [p0, q0, p1, q1, p2, q2, p3, q3, e, h0, h1, h2, h3, List.range', Sem.run_bind, Sem.run_pure, Result.andThen]

theorem wpAnyH_takeD {P : Program} {ops : Array Oper} {Q : Exit → Act → World → Prop} {md : Region.Mode} {S : World → Prop} {i : Nat} {oi : Oper} {v : Value} {d : Option Tmp} {fuel : Nat} {listed : Array Bool} {a : Act} {w : World} (hi : ops[i]? = some oi) (hd : oi.dst = d)
    (hs : Region.noSelect ops = true) (hf : Region.free md ops listed i = true) (hr : (Region.ready md ops listed).contains i = true)
    (hQ : ∀ c a w, Q (.panic c) (a.put d v) w → Q (.panic c) a w) (hy : YieldsIf P ops S oi v a) (hS : S w)
    (h : wpAnyH P md ops Q S fuel (listed.setIfInBounds i true) (a.put d v) w) : wpAnyH P md ops Q S (fuel + 1) listed a w := by
  subst hd
  exact wpAnyH_take hi hs hf hr hQ hy hS h

theorem numbers_raw (s t b f k n : Int) (a : Option Addr) (m c : Nat) (w : World) : Calls Try.prog 64 #[.agg #[.int .i64 s, .int .i64 t, .int .i64 b, .int .i64 f, .int .i64 k, .int .i64 n, .slice a m c]] w fun en w' => en = .returned (.agg #[.int .i64 s, .int .i64 t, .int .i64 b, .int .i64 f]) ∧ Touch [] w w' := by
  have z1 : w.heap.size < w.heap.size + 1 := by omega
  have z2 : w.heap.size < w.heap.size + 1 + 1 := by omega
  go_enter Try.func64, Try.ntmps64
  go_wp2
  refine bodyPost_ret (v := .agg #[.int .i64 s, .int .i64 t, .int .i64 b, .int .i64 f]) (by simp [results, Try.results64, go_sem]) rfl ?_
  exact ⟨rfl, ((Touch.refl [] w).alloc _).alloc _⟩
theorem PE.eq_iff (x y : ME) : x.plain = y.plain ↔ (x.sync = y.sync ∧ x.thread = y.thread ∧ x.branch = y.branch ∧ x.flag = y.flag) ∧ x.v.plain = y.v.plain := by
  obtain ⟨a, b, c, d, v⟩ := x
  obtain ⟨a', b', c', d', v'⟩ := y
  simp only [ME.plain, PE.mk.injEq, and_assoc]
set_option maxHeartbeats 2000000 in
theorem SameEntry_q1 (x y : ME) (w : World) (hx : x.v.In w) (hy : y.v.In w) (hq : (x.sync == y.sync && (x.thread == y.thread && (x.branch == y.branch && x.flag == y.flag))) = true) : Calls Try.prog 22 #[x.val, y.val] w (Tells (x.v.nodes ≤ 256 ∧ y.v.nodes ≤ 256 ∧ x.plain = y.plain) w) := by
  have HN := Lib.hid numbers_raw
  have HC := Lib.hid (fun W (hW : Touch [] w W) => Same_val x.v y.v W (hx.touch0 hW) (hy.touch0 hW))
  clear hx hy
  simp only [ent_eq, val_eq] at HC ⊢
  have z1 : w.heap.size < w.heap.size + 1 := by omega
  have heql := eql_four x.sync x.thread x.branch x.flag y.sync y.thread y.branch y.flag
  rw [hq] at heql
  go_enter Try.func22, Try.ntmps22
  go_wp2_with fail
  refine wp_name ?_
  intro w1 hw1
  have HL1 := Lib.hid ((Led.nil' w).al2 hw1)
  simp only [List.nil_append, List.cons_append] at HL1
  obtain ⟨b2, hb2⟩ : ∃ b, w.heap.size + 1 = b := ⟨_, rfl⟩
  rw [hb2] at HL1 ⊢
  obtain ⟨b1, hb1⟩ : ∃ b, w.heap.size = b := ⟨_, rfl⟩
  rw [hb1] at HL1 ⊢
  clear hb1 hb2 hw1 z1
  have HX1 : Hid (EntAt w1 b1 0 x) := by obtain ⟨c0, c1, c2, c3, c4, c5, c6, _⟩ := HL1.out.c7 0 rfl; exact ⟨c0, c1, c2, c3, c4, c5, c6⟩
  have HY1 : Hid (EntAt w1 b2 0 y) := by obtain ⟨c0, c1, c2, c3, c4, c5, c6, _⟩ := HL1.out.c7 1 rfl; exact ⟨c0, c1, c2, c3, c4, c5, c6⟩
  have HTm := Lib.hid ((Touch.refl [] w1).drew)
  obtain ⟨x0, x1, x2, x3, x4, x5, x6⟩ := HX1.out
  obtain ⟨y0, y1, y2, y3, y4, y5, y6⟩ := HY1.out
  simp only [Nat.zero_add] at x1 x2 x3 x4 x5 x6 y1 y2 y3 y4 y5 y6
  obtain ⟨_, _, _, _, _, _, _, _, zx, _, _⟩ := HL1.out.c7 0 rfl
  obtain ⟨_, _, _, _, _, _, _, _, zy, _, _⟩ := HL1.out.c7 1 rfl
  go_region_held3 (fun w' => w'.cell? ⟨b1, 0, none⟩ = some (.int .i64 x.sync) ∧ w'.cell? ⟨b1, 1, none⟩ = some (.int .i64 x.thread) ∧ w'.cell? ⟨b1, 2, none⟩ = some (.int .i64 x.branch) ∧ w'.cell? ⟨b1, 3, none⟩ = some (.int .i64 x.flag) ∧ w'.cell? ⟨b1, 4, none⟩ = some (.int .i64 x.v.kind) ∧ w'.cell? ⟨b1, 5, none⟩ = some (.int .i64 x.v.num) ∧ w'.cell? ⟨b1, 6, none⟩ = some (.slice x.v.addr x.v.parts.length x.v.cap) ∧
      w'.cell? ⟨b2, 0, none⟩ = some (.int .i64 y.sync) ∧ w'.cell? ⟨b2, 1, none⟩ = some (.int .i64 y.thread) ∧ w'.cell? ⟨b2, 2, none⟩ = some (.int .i64 y.branch) ∧ w'.cell? ⟨b2, 3, none⟩ = some (.int .i64 y.flag) ∧ w'.cell? ⟨b2, 4, none⟩ = some (.int .i64 y.v.kind) ∧ w'.cell? ⟨b2, 5, none⟩ = some (.int .i64 y.v.num) ∧ w'.cell? ⟨b2, 6, none⟩ = some (.slice y.v.addr y.v.parts.length y.v.cap)) (go_keep)
    (first
    | (go_at_call 64; refine (HN.out _ _ _ _ _ _ _ _ _ _).mono ?_; rintro en wn ⟨rfl, ht⟩; have HTm := Lib.hid (HTm.out.trans' ht); clear ht x0 x1 x2 x3 x4 x5 x6 y0 y1 y2 y3 y4 y5 y6; obtain ⟨x0, x1, x2, x3, x4, x5, x6⟩ := HX1.out.touch HTm.out; obtain ⟨y0, y1, y2, y3, y4, y5, y6⟩ := HY1.out.touch HTm.out; simp only [Nat.zero_add] at x1 x2 x3 x4 x5 x6 y1 y2 y3 y4 y5 y6)
    | (go_at_call 65; refine (HC.out _ (HL1.out.tch.trans' HTm.out)).mono ?_; rintro en wc ⟨cc, rfl, hcc, ht⟩; have HTm := Lib.hid (HTm.out.trans' ht); have HCC := Lib.hid hcc; clear ht hcc x0 x1 x2 x3 x4 x5 x6 y0 y1 y2 y3 y4 y5 y6; obtain ⟨x0, x1, x2, x3, x4, x5, x6⟩ := HX1.out.touch HTm.out; obtain ⟨y0, y1, y2, y3, y4, y5, y6⟩ := HY1.out.touch HTm.out; simp only [Nat.zero_add] at x1 x2 x3 x4 x5 x6 y1 y2 y3 y4 y5 y6))
  clear x0 x1 x2 x3 x4 x5 x6 y0 y1 y2 y3 y4 y5 y6
  go_wp2
  go_ret
  refine ⟨_, rfl, ?_, HL1.out.tch.trans' HTm.out⟩
  rw [HCC.out, PE.eq_iff]
  simp at hq
  simp [hq]
set_option maxHeartbeats 2000000 in
theorem SameEntry_q2 (x y : ME) (w : World) (hx : x.v.In w) (hy : y.v.In w) (hq : (x.sync == y.sync && (x.thread == y.thread && (x.branch == y.branch && x.flag == y.flag))) = false) : Calls Try.prog 22 #[x.val, y.val] w (Tells (x.v.nodes ≤ 256 ∧ y.v.nodes ≤ 256 ∧ x.plain = y.plain) w) := by
  have HN := Lib.hid numbers_raw
  have HC := Lib.hid (fun W (hW : Touch [] w W) => Same_val x.v y.v W (hx.touch0 hW) (hy.touch0 hW))
  clear hx hy
  simp only [ent_eq, val_eq] at HC ⊢
  have z1 : w.heap.size < w.heap.size + 1 := by omega
  have heql := eql_four x.sync x.thread x.branch x.flag y.sync y.thread y.branch y.flag
  rw [hq] at heql
  go_enter Try.func22, Try.ntmps22
  go_wp2_with fail
  refine wp_name ?_
  intro w1 hw1
  have HL1 := Lib.hid ((Led.nil' w).al2 hw1)
  simp only [List.nil_append, List.cons_append] at HL1
  obtain ⟨b2, hb2⟩ : ∃ b, w.heap.size + 1 = b := ⟨_, rfl⟩
  rw [hb2] at HL1 ⊢
  obtain ⟨b1, hb1⟩ : ∃ b, w.heap.size = b := ⟨_, rfl⟩
  rw [hb1] at HL1 ⊢
  clear hb1 hb2 hw1 z1
  have HX1 : Hid (EntAt w1 b1 0 x) := by obtain ⟨c0, c1, c2, c3, c4, c5, c6, _⟩ := HL1.out.c7 0 rfl; exact ⟨c0, c1, c2, c3, c4, c5, c6⟩
  have HY1 : Hid (EntAt w1 b2 0 y) := by obtain ⟨c0, c1, c2, c3, c4, c5, c6, _⟩ := HL1.out.c7 1 rfl; exact ⟨c0, c1, c2, c3, c4, c5, c6⟩
  have HTm := Lib.hid ((Touch.refl [] w1).drew)
  obtain ⟨x0, x1, x2, x3, x4, x5, x6⟩ := HX1.out
  obtain ⟨y0, y1, y2, y3, y4, y5, y6⟩ := HY1.out
  simp only [Nat.zero_add] at x1 x2 x3 x4 x5 x6 y1 y2 y3 y4 y5 y6
  obtain ⟨_, _, _, _, _, _, _, _, zx, _, _⟩ := HL1.out.c7 0 rfl
  obtain ⟨_, _, _, _, _, _, _, _, zy, _, _⟩ := HL1.out.c7 1 rfl
  refine wp_region_held_drew (S := fun w' => w'.cell? ⟨b1, 0, none⟩ = some (.int .i64 x.sync) ∧ w'.cell? ⟨b1, 1, none⟩ = some (.int .i64 x.thread) ∧ w'.cell? ⟨b1, 2, none⟩ = some (.int .i64 x.branch) ∧ w'.cell? ⟨b1, 3, none⟩ = some (.int .i64 x.flag) ∧ w'.cell? ⟨b1, 4, none⟩ = some (.int .i64 x.v.kind) ∧ w'.cell? ⟨b1, 5, none⟩ = some (.int .i64 x.v.num) ∧ w'.cell? ⟨b1, 6, none⟩ = some (.slice x.v.addr x.v.parts.length x.v.cap) ∧  w'.cell? ⟨b2, 0, none⟩ = some (.int .i64 y.sync) ∧ w'.cell? ⟨b2, 1, none⟩ = some (.int .i64 y.thread) ∧ w'.cell? ⟨b2, 2, none⟩ = some (.int .i64 y.branch) ∧ w'.cell? ⟨b2, 3, none⟩ = some (.int .i64 y.flag) ∧ w'.cell? ⟨b2, 4, none⟩ = some (.int .i64 y.v.kind) ∧ w'.cell? ⟨b2, 5, none⟩ = some (.int .i64 y.v.num) ∧ w'.cell? ⟨b2, 6, none⟩ = some (.slice y.v.addr y.v.parts.length y.v.cap)) (by kernel_rfl) ?_ (fun hHeld => ?_)
  · (try dsimp only)
    go_keep
  refine wpAnyH_takeD (i := 0) (d := some 5) (v := ?_) rfl rfl (by kernel_rfl) (by kernel_rfl) (by kernel_rfl) (fun _ _ _ h => h) (Or.inl ⟨by rfl, ?_⟩) (by assumption) ?_
  rotate_left
  · intro w hSw
    (try dsimp only at hSw)
    first | (go_simp; done) | (go_simp; with_reducible rfl)
  (try simp only [Act.put, List.setIfInBounds_toArray, List.set_cons_zero, List.set_cons_succ])
  refine wpAnyH_takeD (i := 2) (d := some 7) (v := ?_) rfl rfl (by kernel_rfl) (by kernel_rfl) (by kernel_rfl) (fun _ _ _ h => h) (Or.inl ⟨by rfl, ?_⟩) (by assumption) ?_
  rotate_left
  · intro w hSw
    (try dsimp only at hSw)
    first | (go_simp; done) | (go_simp; with_reducible rfl)
  (try simp only [Act.put, List.setIfInBounds_toArray, List.set_cons_zero, List.set_cons_succ])
  refine wpAnyH_ready (rs := [1]) (by kernel_rfl) (by simp) ?_
  refine AllReadyH.cons rfl (fun K hK => ?_) AllReadyH.nil
  go_simp
  refine (HN.out _ _ _ _ _ _ _ _ _ _).mono ?_
  rintro en wn ⟨rfl, ht⟩
  have HTm := Lib.hid (HTm.out.trans' ht)
  clear ht x0 x1 x2 x3 x4 x5 x6 y0 y1 y2 y3 y4 y5 y6
  obtain ⟨x0, x1, x2, x3, x4, x5, x6⟩ := HX1.out.touch HTm.out
  obtain ⟨y0, y1, y2, y3, y4, y5, y6⟩ := HY1.out.touch HTm.out
  simp only [Nat.zero_add] at x1 x2 x3 x4 x5 x6 y1 y2 y3 y4 y5 y6
  go_simp
  refine hK.out _ _ ?_ (fun hHeld => ?_)
  · (try dsimp only)
    go_keep
  clear hK K
  (try simp only [Act.put, List.setIfInBounds_toArray, List.set_cons_zero, List.set_cons_succ])
  refine wpAnyH_ready (rs := [3]) (by kernel_rfl) (by simp) ?_
  refine AllReadyH.cons rfl (fun K hK => ?_) AllReadyH.nil
  go_simp
  refine (HN.out _ _ _ _ _ _ _ _ _ _).mono ?_
  rintro en wn ⟨rfl, ht⟩
  have HTm := Lib.hid (HTm.out.trans' ht)
  clear ht x0 x1 x2 x3 x4 x5 x6 y0 y1 y2 y3 y4 y5 y6
  obtain ⟨x0, x1, x2, x3, x4, x5, x6⟩ := HX1.out.touch HTm.out
  obtain ⟨y0, y1, y2, y3, y4, y5, y6⟩ := HY1.out.touch HTm.out
  simp only [Nat.zero_add] at x1 x2 x3 x4 x5 x6 y1 y2 y3 y4 y5 y6
  go_simp
  refine hK.out _ _ ?_ (fun hHeld => ?_)
  · (try dsimp only)
    go_keep
  clear hK K
  (try simp only [Act.put, List.setIfInBounds_toArray, List.set_cons_zero, List.set_cons_succ])
  refine wpAnyH_takeD (i := 4) (d := some 9) (v := ?_) rfl rfl (by kernel_rfl) (by kernel_rfl) (by kernel_rfl) (fun _ _ _ h => h) (Or.inl ⟨by rfl, ?_⟩) (by assumption) ?_
  rotate_left
  · intro w hSw
    (try dsimp only at hSw)
    first | (go_simp; done) | (go_simp; with_reducible rfl)
  (try simp only [Act.put, List.setIfInBounds_toArray, List.set_cons_zero, List.set_cons_succ])
  refine wpAnyH_takeD (i := 5) (d := some 10) (v := ?_) rfl rfl (by kernel_rfl) (by kernel_rfl) (by kernel_rfl) (fun _ _ _ h => h) (Or.inl ⟨by rfl, ?_⟩) (by assumption) ?_
  rotate_left
  · intro w hSw
    (try dsimp only at hSw)
    first | (go_simp; done) | (go_simp; with_reducible rfl)
  (try simp only [Act.put, List.setIfInBounds_toArray, List.set_cons_zero, List.set_cons_succ])
  refine wpAnyH_takeD (i := 6) (d := some 11) (v := undef) rfl rfl (by kernel_rfl) (by kernel_rfl) (by kernel_rfl) (fun _ _ _ h => h) (Or.inr ⟨by rfl, rfl⟩) (by assumption) ?_
  (try simp only [Act.put, List.setIfInBounds_toArray, List.set_cons_zero, List.set_cons_succ])
  refine wpAnyH_takeD (i := 7) (d := some 12) (v := undef) rfl rfl (by kernel_rfl) (by kernel_rfl) (by kernel_rfl) (fun _ _ _ h => h) (Or.inr ⟨by rfl, rfl⟩) (by assumption) ?_
  (try simp only [Act.put, List.setIfInBounds_toArray, List.set_cons_zero, List.set_cons_succ])
  refine wpAnyH_takeD (i := 8) (d := some 13) (v := undef) rfl rfl (by kernel_rfl) (by kernel_rfl) (by kernel_rfl) (fun _ _ _ h => h) (Or.inr ⟨by rfl, rfl⟩) (by assumption) ?_
  (try simp only [Act.put, List.setIfInBounds_toArray, List.set_cons_zero, List.set_cons_succ])
  refine wpAnyH_takeD (i := 9) (d := some 14) (v := undef) rfl rfl (by kernel_rfl) (by kernel_rfl) (by kernel_rfl) (fun _ _ _ h => h) (Or.inr ⟨by rfl, rfl⟩) (by assumption) ?_
  (try simp only [Act.put, List.setIfInBounds_toArray, List.set_cons_zero, List.set_cons_succ])
  refine wpAnyH_takeD (i := 10) (d := some 15) (v := undef) rfl rfl (by kernel_rfl) (by kernel_rfl) (by kernel_rfl) (fun _ _ _ h => h) (Or.inr ⟨by rfl, rfl⟩) (by assumption) ?_
  (try simp only [Act.put, List.setIfInBounds_toArray, List.set_cons_zero, List.set_cons_succ])
  refine wpAnyH_takeD (i := 11) (d := some 16) (v := ?_) rfl rfl (by kernel_rfl) (by kernel_rfl) (by kernel_rfl) (fun _ _ _ h => h) (Or.inl ⟨by rfl, ?_⟩) (by assumption) ?_
  rotate_left
  · intro w hSw
    (try dsimp only at hSw)
    first | (go_simp; done) | (go_simp; with_reducible rfl)
  (try simp only [Act.put, List.setIfInBounds_toArray, List.set_cons_zero, List.set_cons_succ])
  refine wpAnyH_takeD (i := 12) (d := some 4) (v := ?_) rfl rfl (by kernel_rfl) (by kernel_rfl) (by kernel_rfl) (fun _ _ _ h => h) (Or.inl ⟨by rfl, ?_⟩) (by assumption) ?_
  rotate_left
  · intro w hSw
    (try dsimp only at hSw)
    first | (go_simp; done) | (go_simp; with_reducible rfl)
  (try simp only [Act.put, List.setIfInBounds_toArray, List.set_cons_zero, List.set_cons_succ])
  refine wpAnyH_done (by kernel_rfl) ?_ _
  clear x0 x1 x2 x3 x4 x5 x6 y0 y1 y2 y3 y4 y5 y6
  go_wp2
  go_ret
  refine Tells.no (fun h => ?_) (HL1.out.tch.trans' HTm.out)
  obtain ⟨⟨h1, h2, h3, h4⟩, _⟩ := (PE.eq_iff x y).1 h.2.2
  simp [h1, h2, h3, h4] at hq
theorem SameEntry_q (x y : ME) (w : World) (hx : x.v.In w) (hy : y.v.In w) : Calls Try.prog 22 #[x.val, y.val] w (Tells (x.v.nodes ≤ 256 ∧ y.v.nodes ≤ 256 ∧ x.plain = y.plain) w) := by
  cases hq : (x.sync == y.sync && (x.thread == y.thread && (x.branch == y.branch && x.flag == y.flag))) with
  | true => exact SameEntry_q1 x y w hx hy hq
  | false => exact SameEntry_q2 x y w hx hy hq
end Go.Proofs.Ytihmbgdkllmkaaa
