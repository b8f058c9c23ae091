/-
  Layer 13: the methods of no queue (nil, or one that was not made).
-/
import Derived.Test.YtihmbgdkllmkaaaQ7
import Derived.Test.YtihmbgdkllmkaaaW13
import Derived.Test.YtihmbgdkllmkaaaScopeIn
import Derived.Test.YtihmbgdkllmkaaaRetC
namespace Go.Proofs.Ytihmbgdkllmkaaa
open Go.RowKit Go.Shelf
set_option maxRecDepth 100000
set_option linter.unusedVariables false
set_option linter.unusedSimpArgs false

/-- There is no queue. -/
def NoQ (W : World) (p : Option Addr) : Prop := p = none ∨ ∃ g, p = some ⟨g, 0, none⟩ ∧ W.cell? ⟨g, 0, none⟩ = some (.bool false)
theorem NoQ.touch {w w' : World} {p : Option Addr} (h : NoQ w p) (ht : Touch [] w w') : NoQ w' p := by
  rcases h with h | ⟨g, h1, h2⟩
  · exact .inl h
  · exact .inr ⟨g, h1, ht.cellOf h2⟩
theorem none_n (w : World) (p : Option Addr) (h : NoQ w p) : Calls Try.prog 55 #[.pointer p] w fun e w' => e = .returned (.bool true) ∧ w = w' := by
  rcases h with rfl | ⟨g, rfl, h⟩
  · exact none_nil w
  · exact none_zero g w h
theorem Len_n (w : World) (p : Option Addr) (h : NoQ w p) : Calls Try.prog 19 #[.pointer p] w fun e w' => e = .returned (.int .i64 0) ∧ Touch [] w w' := by
  have HN := Lib.hid (fun W (hW : Touch [] w W) => none_n W p (h.touch hW))
  clear h
  go_enter Try.func19, Try.ntmps19
  go_wp2_with fail
  refine (HN.out _ (Touch.refl [] w)).mono ?_
  rintro e w' ⟨rfl, rfl⟩
  go_wp2
  all_goals go_ret
  exact ⟨rfl, Touch.refl [] _⟩
theorem Copy_n (w : World) (p : Option Addr) (h : NoQ w p) : Calls Try.prog 28 #[.pointer p] w fun e w' => e = .returned (.pointer none) ∧ Touch [] w w' := by
  have HN := Lib.hid (fun W (hW : Touch [] w W) => none_n W p (h.touch hW))
  clear h
  go_enter Try.func28, Try.ntmps28
  go_wp2_with fail
  refine (HN.out _ (Touch.refl [] w)).mono ?_
  rintro e w' ⟨rfl, rfl⟩
  go_wp2
  all_goals go_ret
  exact ⟨rfl, Touch.refl [] _⟩
theorem Find_n (w : World) (p : Option Addr) (h : NoQ w p) (z : Int) : Calls Try.prog 20 #[.pointer p, .int .i64 z] w fun e w' => e = .returned (.int .i64 (-1)) ∧ Touch [] w w' := by
  have HN := Lib.hid (fun W (hW : Touch [] w W) => none_n W p (h.touch hW))
  clear h
  go_enter Try.func20, Try.ntmps20
  go_wp2_with fail
  refine wp_calls_name ?_
  intro w1 hw1
  have HT1 := Lib.hid ((Led.nil' w).al1 hw1).tch
  clear hw1
  refine (HN.out _ HT1.out).mono ?_
  rintro e w' ⟨rfl, rfl⟩
  go_wp2
  go_ret
  exact ⟨rfl, HT1.out⟩
theorem Next_n (w : World) (p : Option Addr) (h : NoQ w p) (z y : Int) : Calls Try.prog 32 #[.pointer p, .int .i64 z, .int .i64 y] w fun e w' => e = .returned (.tuple #[.int .i64 0, .bool false]) ∧ Touch [] w w' := by
  have HN := Lib.hid (fun W (hW : Touch [] w W) => none_n W p (h.touch hW))
  clear h
  go_enter Try.func32, Try.ntmps32
  go_wp2_with fail
  refine wp_calls_name ?_
  intro w1 hw1
  have HT1 := Lib.hid ((Led.nil' w).al1 hw1).tch
  clear hw1
  refine (HN.out _ HT1.out).mono ?_
  rintro e w' ⟨rfl, rfl⟩
  go_wp2
  go_ret2
  exact ⟨rfl, HT1.out⟩
theorem At_n (w : World) (p : Option Addr) (h : NoQ w p) (z : Int) : Calls Try.prog 31 #[.pointer p, .int .i64 z] w fun e w' => e = .returned (.tuple #[ME.zero.val, .bool false]) ∧ Touch [] w w' := by
  have hbe := build_ent
  simp only [ent_eq, ME.zero, MT.zero, MT.kind, MT.num, MT.addr, MT.parts, MT.cap, List.length_nil] at hbe
  have HN := Lib.hid (fun W (hW : Touch [] w W) => none_n W p (h.touch hW))
  clear h
  go_enter Try.func31, Try.ntmps31
  go_wp2_with fail
  refine wp_calls_name ?_
  intro w1 hw1
  have HL1 := Lib.hid ((Led.nil' w).al1 hw1)
  simp only [List.nil_append, List.cons_append] at HL1
  obtain ⟨b4, hb4⟩ : ∃ b, w.heap.size = b := ⟨_, rfl⟩
  rw [hb4] at HL1 ⊢
  clear hb4 hw1
  refine (HN.out _ HL1.out.tch).mono ?_
  rintro e w' ⟨rfl, rfl⟩
  obtain ⟨r0, r1, r2, r3, r4, r5, r6, ⟨f0, f1, f2, f3, f4, f5, f6⟩, zr, _, _⟩ := HL1.out.c7 0 rfl
  go_wp2
  have HL2 := Lib.hid (HL1.out.setEnt 0 rfl 0 0 0 0 0 0 (.slice none 0 0))
  simp only [List.set_cons_zero] at HL2
  obtain ⟨s0, s1, s2, s3, s4, s5, s6, _⟩ := HL2.out.c7 0 rfl
  refine bodyPost_ret (v := .tuple #[ME.zero.val, .bool false]) (by simp [results, Try.results31, go_sem, s0, s1, s2, s3, s4, s5, s6, ent_eq, ME.zero, MT.zero, MT.kind, MT.num, MT.addr, MT.parts, MT.cap]) rfl ?_
  exact ⟨rfl, HL2.out.tch⟩
theorem Drop_n (w : World) (p : Option Addr) (h : NoQ w p) (z : Int) : Calls Try.prog 18 #[.pointer p, .int .i64 z] w fun e w' => e = .returned (.tuple #[ME.zero.val, .bool false]) ∧ Touch [] w w' := by
  have hbe := build_ent
  simp only [ent_eq, ME.zero, MT.zero, MT.kind, MT.num, MT.addr, MT.parts, MT.cap, List.length_nil] at hbe
  have HN := Lib.hid (fun W (hW : Touch [] w W) => none_n W p (h.touch hW))
  clear h
  go_enter Try.func18, Try.ntmps18
  go_wp2_with fail
  refine wp_calls_name ?_
  intro w1 hw1
  have HL1 := Lib.hid ((Led.nil' w).al1 hw1)
  simp only [List.nil_append, List.cons_append] at HL1
  obtain ⟨b4, hb4⟩ : ∃ b, w.heap.size = b := ⟨_, rfl⟩
  rw [hb4] at HL1 ⊢
  clear hb4 hw1
  refine (HN.out _ HL1.out.tch).mono ?_
  rintro e w' ⟨rfl, rfl⟩
  obtain ⟨r0, r1, r2, r3, r4, r5, r6, ⟨f0, f1, f2, f3, f4, f5, f6⟩, zr, _, _⟩ := HL1.out.c7 0 rfl
  go_wp2
  have HL2 := Lib.hid (HL1.out.setEnt 0 rfl 0 0 0 0 0 0 (.slice none 0 0))
  simp only [List.set_cons_zero] at HL2
  obtain ⟨s0, s1, s2, s3, s4, s5, s6, _⟩ := HL2.out.c7 0 rfl
  refine bodyPost_ret (v := .tuple #[ME.zero.val, .bool false]) (by simp [results, Try.results18, go_sem, s0, s1, s2, s3, s4, s5, s6, ent_eq, ME.zero, MT.zero, MT.kind, MT.num, MT.addr, MT.parts, MT.cap]) rfl ?_
  exact ⟨rfl, HL2.out.tch⟩
theorem Push_n (w : World) (p : Option Addr) (h : NoQ w p) (a : Option Addr) (n c : Nat) : Calls Try.prog 14 #[.pointer p, .slice a n c] w fun e w' => e = .returned (.int .i64 1) ∧ Touch [] w w' := by
  have HN := Lib.hid (fun W (hW : Touch [] w W) => none_n W p (h.touch hW))
  clear h
  go_enter Try.func14, Try.ntmps14
  go_wp2
  refine wp_scope_fwd 0 rfl ?_
  go_wp2_with fail
  refine (HN.out _ (Touch.refl [] w)).mono ?_
  rintro e w' ⟨rfl, rfl⟩
  go_wp2
  go_step3
  refine ⟨rfl, ?_⟩
  go_wp2
  refine noGoto_ret' ?_
  go_ret
  exact ⟨rfl, Touch.refl [] _⟩
theorem Purge_n (w : World) (p : Option Addr) (h : NoQ w p) (a : Option Addr) (n c : Nat) : Calls Try.prog 23 #[.pointer p, .slice a n c] w fun e w' => e = .returned (.int .i64 0) ∧ Touch [] w w' := by
  have HN := Lib.hid (fun W (hW : Touch [] w W) => none_n W p (h.touch hW))
  clear h
  go_enter Try.func23, Try.ntmps23
  go_wp2_with fail
  refine wp_calls_name ?_
  intro w1 hw1
  have HT1 : Hid (Touch [] w w1) := by unfold Hid; rw [← hw1]; first | exact (Touch.refl [] w).alloc _ | exact Touch.refl [] w
  clear hw1
  refine (HN.out _ HT1.out).mono ?_
  rintro e w' ⟨rfl, rfl⟩
  go_wp2
  go_ret
  exact ⟨rfl, HT1.out⟩
theorem All_n (w : World) (p : Option Addr) (h : NoQ w p) : Calls Try.prog 24 #[.pointer p] w fun e w' => ∃ bx, e = .returned (.func (.func 69) #[] #[.pointer (some ⟨bx, 0, none⟩)]) ∧ Led [] w w' [allT bx (.slice none 0 0) []] := by
  have HN := Lib.hid (fun W (hW : Touch [] w W) => none_n W p (h.touch hW))
  clear h
  go_enter Try.func24, Try.ntmps24
  go_wp2_with fail
  refine wp_calls_name ?_
  intro w1 hw1
  have HL1 := Lib.hid (((Led.nil' w).al1 hw1).rowSnil 27 7).vals0
  simp only [List.nil_append, List.cons_append] at HL1
  obtain ⟨b3, hb3⟩ : ∃ b, w.heap.size = b := ⟨_, rfl⟩
  rw [hb3] at HL1 ⊢
  clear hb3 hw1
  refine (HN.out _ HL1.out.tch).mono ?_
  rintro e w' ⟨rfl, rfl⟩
  go_wp2
  go_ret
  exact ⟨b3, rfl, Led.shutAll (l := []) (ys := []) rfl HL1.out⟩
theorem Same_nn_in (n : Nat) (w : World) (p : Option Addr) (h : NoQ w p) : CallsIn Fence.wide n Try.prog 30 #[.pointer p, .pointer none] w fun e w' => e = .returned (.bool true) ∧ Touch [] w w' := by
  have HT := Lib.hid ((Touch.refl [] w).alloc (.cells #[.pointer none] 30))
  have H := Lib.hid (h.touch HT.out)
  clear h
  refine callsIn_of_wp_marks Try.func30 rfl trivial ?_ rfl
  simp only [Try.ntmps30, List.size_toArray, List.length_cons, List.length_nil, Nat.reduceAdd, Nat.reduceSub, Array.replicate_succ, Array.replicate_zero, List.push_toArray, List.append_toArray, List.nil_append, List.cons_append]
  gi_wp2_with fail
  refine wpIn_scope_straight ?_
  gi_wp2_with fail
  refine ⟨trivial, nodepth, ?_⟩
  refine (callsIn_wide.2 (none_n _ _ H.out)).mono ?_
  rintro e w' ⟨rfl, rfl⟩
  gi_wp2_with fail
  refine ⟨trivial, ?_⟩
  gi_wp2_with fail
  refine ⟨trivial, nodepth, ?_⟩
  refine (callsIn_wide.2 (none_n _ _ H.out)).mono ?_
  rintro e w' ⟨rfl, rfl⟩
  gi_wp2_with fail
  refine ⟨trivial, nodepth, ?_⟩
  refine (callsIn_wide.2 (none_nil _)).mono ?_
  rintro e w' ⟨rfl, rfl⟩
  gi_wp2
  refine noGoto_ret' ?_
  exact leave_marks (v := .bool true) [] _ (by simp) (by simp) (by simp [shutAll, results, Try.results30, go_sem]) ⟨rfl, HT.out⟩
theorem Same_nn (w : World) (p : Option Addr) (h : NoQ w p) : Calls Try.prog 30 #[.pointer p, .pointer none] w fun e w' => e = .returned (.bool true) ∧ Touch [] w w' := (callsIn_wide (n := 0)).1 (Same_nn_in 0 w p h)
theorem Same_qn_in (n : Nat) (w : World) (g : Nat) (hq : w.cell? ⟨g, 0, none⟩ = some (.bool true)) (p : Option Addr) (h : NoQ w p) : CallsIn Fence.wide n Try.prog 30 #[.pointer (some ⟨g, 0, none⟩), .pointer p] w fun e w' => e = .returned (.bool false) ∧ Touch [] w w' := by
  have HT := Lib.hid ((Touch.refl [] w).alloc (.cells #[.pointer p] 30))
  have H := Lib.hid (h.touch HT.out)
  have HG := Lib.hid (HT.out.cellOf hq)
  clear h hq
  refine callsIn_of_wp_marks Try.func30 rfl trivial ?_ rfl
  simp only [Try.ntmps30, List.size_toArray, List.length_cons, List.length_nil, Nat.reduceAdd, Nat.reduceSub, Array.replicate_succ, Array.replicate_zero, List.push_toArray, List.append_toArray, List.nil_append, List.cons_append]
  gi_wp2_with fail
  refine wpIn_scope_straight ?_
  gi_wp2_with fail
  refine ⟨trivial, nodepth, ?_⟩
  refine (callsIn_wide.2 (none_no g _ HG.out)).mono ?_
  rintro e w' ⟨rfl, rfl⟩
  gi_wp2_with fail
  refine ⟨trivial, nodepth, ?_⟩
  refine (callsIn_wide.2 (none_n _ _ H.out)).mono ?_
  rintro e w' ⟨rfl, rfl⟩
  gi_wp2_with fail
  refine ⟨trivial, nodepth, ?_⟩
  refine (callsIn_wide.2 (none_no g _ HG.out)).mono ?_
  rintro e w' ⟨rfl, rfl⟩
  gi_wp2_with fail
  refine ⟨trivial, ?_⟩
  gi_wp2
  refine noGoto_ret' ?_
  exact leave_marks (v := .bool false) [] _ (by simp) (by simp) (by simp [shutAll, results, Try.results30, go_sem]) ⟨rfl, HT.out⟩
theorem Same_qn (w : World) (g : Nat) (hq : w.cell? ⟨g, 0, none⟩ = some (.bool true)) (p : Option Addr) (h : NoQ w p) : Calls Try.prog 30 #[.pointer (some ⟨g, 0, none⟩), .pointer p] w fun e w' => e = .returned (.bool false) ∧ Touch [] w w' := (callsIn_wide (n := 0)).1 (Same_qn_in 0 w g hq p h)
end Go.Proofs.Ytihmbgdkllmkaaa
