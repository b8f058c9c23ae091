/-
  Layer 15 (cond.go): no condition (nil, or one that New did not make), and no arena.
-/
import Derived.Test.YtihmbgdkllmkaaaW15
import Derived.Test.YtihmbgdkllmkaaaNoAr
import Derived.Test.YtihmbgdkllmkaaaOver
import Derived.Test.YtihmbgdkllmkaaaScopeIn
namespace Go.Proofs.Ytihmbgdkllmkaaa
open Go.RowKit Go.Shelf
set_option maxRecDepth 100000
set_option linter.unusedVariables false
set_option linter.unusedSimpArgs false
attribute [local go_sem] Oper.semAt_some

/-- There is no condition. -/
def NoC (w : World) (p : Option Addr) : Prop := p = none ∨ ∃ g, p = some ⟨g, 0, none⟩ ∧ w.cell? ⟨g, 2, none⟩ = some (.pointer none)
theorem NoC.touch {w w' : World} {p : Option Addr} (h : NoC w p) (ht : Touch [] w w') : NoC w' p := by
  rcases h with h | ⟨g, h, hc⟩
  · exact .inl h
  · exact .inr ⟨g, h, ht.cellOf hc⟩
theorem cnone_yes (p : Option Addr) (w : World) (h : NoC w p) : Calls Try.prog 79 #[.pointer p] w fun e w' => e = .returned (.bool true) ∧ w = w' := by
  rcases h with rfl | ⟨g, rfl, hc⟩
  · exact cnone_nil w
  · go_enter Try.func79, Try.ntmps79
    go_wp2
    go_ret
    exact ⟨rfl, rfl⟩
section
variable (w : World) (p : Option Addr) (h : NoC w p) (a : Option Addr)
include h
theorem Lock_n : Calls Try.prog 44 #[.pointer p, .pointer a] w fun e w' => e = .returned (.tuple #[.bool false, .int .i64 1]) ∧ w = w' := by
  have H := Lib.hid h
  clear h
  go_enter Try.func44, Try.ntmps44
  go_wp2_with (go_at_call 79; refine (cnone_yes _ _ H.out).mono ?_; rintro e w' ⟨rfl, rfl⟩)
  go_ret2
  exact ⟨rfl, rfl⟩
theorem Unlock_n : Calls Try.prog 46 #[.pointer p, .pointer a] w fun e w' => e = .returned (.int .i64 1) ∧ w = w' := by
  have H := Lib.hid h
  clear h
  go_enter Try.func46, Try.ntmps46
  go_wp2_with (go_at_call 79; refine (cnone_yes _ _ H.out).mono ?_; rintro e w' ⟨rfl, rfl⟩)
  go_ret
  exact ⟨rfl, rfl⟩
theorem Fired_n : Calls Try.prog 41 #[.pointer p, .pointer a] w fun e w' => e = .returned (.tuple #[.bool false, .int .i64 1]) ∧ w = w' := by
  have H := Lib.hid h
  clear h
  go_enter Try.func41, Try.ntmps41
  go_wp2_with (go_at_call 79; refine (cnone_yes _ _ H.out).mono ?_; rintro e w' ⟨rfl, rfl⟩)
  go_ret2
  exact ⟨rfl, rfl⟩
theorem Len_n : Calls Try.prog 42 #[.pointer p] w fun e w' => e = .returned (.int .i64 0) ∧ w = w' := by
  have H := Lib.hid h
  clear h
  go_enter Try.func42, Try.ntmps42
  go_wp2_with (go_at_call 79; refine (cnone_yes _ _ H.out).mono ?_; rintro e w' ⟨rfl, rfl⟩)
  go_ret
  exact ⟨rfl, rfl⟩
theorem Cells_n : Calls Try.prog 45 #[.pointer p] w fun e w' => e = .returned (.tuple #[.int .i64 0, .int .i64 0]) ∧ w = w' := by
  have H := Lib.hid h
  clear h
  go_enter Try.func45, Try.ntmps45
  go_wp2_with (go_at_call 79; refine (cnone_yes _ _ H.out).mono ?_; rintro e w' ⟨rfl, rfl⟩)
  go_ret2
  exact ⟨rfl, rfl⟩
theorem All_n : Calls Try.prog 48 #[.pointer p] w fun e w' => e = .returned (.func (.func 86) #[] #[]) ∧ w = w' := by
  have H := Lib.hid h
  clear h
  go_enter Try.func48, Try.ntmps48
  go_wp2_with (go_at_call 79; refine (cnone_yes _ _ H.out).mono ?_; rintro e w' ⟨rfl, rfl⟩)
  go_ret
  exact ⟨rfl, rfl⟩
theorem Copy_n : Calls Try.prog 49 #[.pointer p] w fun e w' => e = .returned (.pointer none) ∧ w = w' := by
  have H := Lib.hid h
  clear h
  go_enter Try.func49, Try.ntmps49
  go_wp2_with (go_at_call 79; refine (cnone_yes _ _ H.out).mono ?_; rintro e w' ⟨rfl, rfl⟩)
  go_ret
  exact ⟨rfl, rfl⟩
theorem Fire_n : Calls Try.prog 37 #[.pointer p, .pointer a] w fun e w' => e = .returned (.int .i64 1) ∧ w = w' := by
  have H := Lib.hid h
  clear h
  go_enter Try.func37, Try.ntmps37
  go_wp2
  refine wp_scope_fwd 0 rfl ?_
  go_wp2_with (go_at_call 79; refine (cnone_yes _ _ H.out).mono ?_; rintro e w' ⟨rfl, rfl⟩)
  go_step3
  refine ⟨rfl, ?_⟩
  go_wp2
  refine noGoto_ret' ?_
  go_ret
  exact ⟨rfl, rfl⟩
theorem Wait_n (x : ME) : Calls Try.prog 38 #[.pointer p, x.val] w fun e w' => e = .returned (.int .i64 1) ∧ Touch [] w w' := by
  have HT := Lib.hid ((Touch.refl [] w).alloc (.cells #[.int .i64 x.sync, .int .i64 x.thread, .int .i64 x.branch, .int .i64 x.flag, .int .i64 x.v.kind, .int .i64 x.v.num, .slice x.v.addr x.v.parts.length x.v.cap] 27))
  have H := Lib.hid (h.touch HT.out)
  clear h
  rw [ent_eq]
  go_enter Try.func38, Try.ntmps38
  go_wp2_with (go_at_call 79; refine (cnone_yes _ _ H.out).mono ?_; rintro e w' ⟨rfl, rfl⟩)
  go_ret
  exact ⟨rfl, HT.out⟩
theorem Next_n : Calls Try.prog 40 #[.pointer p] w fun e w' => e = .returned (.tuple #[ME.zero.val, .bool false]) ∧ Touch [] w w' := by
  have HT := Lib.hid ((Touch.refl [] w).alloc (.cells #[.int .i64 0, .int .i64 0, .int .i64 0, .int .i64 0, .int .i64 0, .int .i64 0, .slice none 0 0] 27))
  have H := Lib.hid (h.touch HT.out)
  have HB := Lib.hid ((Led.nil' w).alloc 27 #[.int .i64 0, .int .i64 0, .int .i64 0, .int .i64 0, .int .i64 0, .int .i64 0, .slice none 0 0])
  have hbe := build_ent
  rw [zero_val] at hbe
  obtain ⟨x0, x1, x2, x3, x4, x5, x6, ⟨f0, f1, f2, f3, f4, f5, f6⟩, z1, _, _⟩ := HB.out.c7 0 rfl
  clear h
  go_enter Try.func40, Try.ntmps40
  go_wp2_with (go_at_call 79; refine (cnone_yes _ _ H.out).mono ?_; rintro e w' ⟨rfl, rfl⟩)
  refine bodyPost_ret (v := .tuple #[.agg #[.int .i64 0, .int .i64 0, .int .i64 0, .int .i64 0, .int .i64 0, .int .i64 0, .slice none 0 0], .bool false]) (by simp [results, Try.results40, go_sem]) rfl ⟨rfl, HT.out⟩
end
theorem NewC_nil (w : World) : Calls Try.prog 35 #[.pointer none] w fun e w' => e = .returned (.tuple #[.pointer none, .int .i64 1]) ∧ w = w' := by
  go_enter Try.func35, Try.ntmps35
  go_wp2
  refine wp_scope_fwd 0 rfl ?_
  go_wp2_with fail
  refine (Alloc_none _ _ (.inl rfl) _).mono ?_
  rintro e w1 ⟨rfl, rfl⟩
  go_wp2
  go_step3
  refine ⟨rfl, ?_⟩
  go_wp2
  refine noGoto_ret' ?_
  go_ret2
  exact ⟨rfl, rfl⟩
theorem SameC_nil_in (n : Nat) (w : World) (p : Option Addr) (h : NoC w p) : CallsIn Fence.wide n Try.prog 50 #[.pointer p, .pointer none] w fun e w' => e = .returned (.bool true) ∧ Touch [] w w' := by
  have HT := Lib.hid ((Touch.refl [] w).alloc (.cells #[.pointer none] 74))
  have H := Lib.hid (h.touch HT.out)
  clear h
  refine callsIn_of_wp_marks Try.func50 rfl trivial ?_ rfl
  simp only [Try.ntmps50, List.size_toArray, List.length_cons, List.length_nil, Nat.reduceAdd, Nat.reduceSub, Array.replicate_succ, Array.replicate_zero, List.push_toArray, List.append_toArray, List.nil_append, List.cons_append]
  gi_wp2_with fail
  refine wpIn_scope_straight ?_
  gi_wp2_with fail
  refine ⟨trivial, nodepth, ?_⟩
  refine (callsIn_wide.2 (cnone_yes _ _ H.out)).mono ?_
  rintro e w' ⟨rfl, rfl⟩
  gi_wp2_with fail
  refine ⟨trivial, ?_⟩
  gi_wp2_with fail
  refine ⟨trivial, nodepth, ?_⟩
  refine (callsIn_wide.2 (cnone_yes _ _ H.out)).mono ?_
  rintro e w' ⟨rfl, rfl⟩
  gi_wp2_with fail
  refine ⟨trivial, nodepth, ?_⟩
  refine (callsIn_wide.2 (cnone_nil _)).mono ?_
  rintro e w' ⟨rfl, rfl⟩
  gi_wp2
  refine noGoto_ret' ?_
  exact leave_marks (v := .bool true) [] _ (by simp) (by simp) (by simp [shutAll, results, Try.results50, go_sem]) ⟨rfl, HT.out⟩
theorem SameC_nil (w : World) (p : Option Addr) (h : NoC w p) : Calls Try.prog 50 #[.pointer p, .pointer none] w fun e w' => e = .returned (.bool true) ∧ Touch [] w w' := (callsIn_wide (n := 0)).1 (SameC_nil_in 0 w p h)
theorem SameC_left_in (n : Nat) (w : World) (p : Option Addr) (h : NoC w p) (c : Nat) (l f : Int) (q : Nat) (hc : CondAt w c l f q) : CallsIn Fence.wide n Try.prog 50 #[.pointer p, .pointer (some ⟨c, 0, none⟩)] w fun e w' => e = .returned (.bool false) ∧ Touch [] w w' := by
  have HT := Lib.hid ((Touch.refl [] w).alloc (.cells #[.pointer (some ⟨c, 0, none⟩)] 74))
  have H := Lib.hid (h.touch HT.out)
  have HC := Lib.hid (hc.touch HT.out)
  clear h hc
  refine callsIn_of_wp_marks Try.func50 rfl trivial ?_ rfl
  simp only [Try.ntmps50, List.size_toArray, List.length_cons, List.length_nil, Nat.reduceAdd, Nat.reduceSub, Array.replicate_succ, Array.replicate_zero, List.push_toArray, List.append_toArray, List.nil_append, List.cons_append]
  gi_wp2_with fail
  refine wpIn_scope_straight ?_
  gi_wp2_with fail
  refine ⟨trivial, nodepth, ?_⟩
  refine (callsIn_wide.2 (cnone_yes _ _ H.out)).mono ?_
  rintro e w' ⟨rfl, rfl⟩
  gi_wp2_with fail
  refine ⟨trivial, ?_⟩
  gi_wp2_with fail
  refine ⟨trivial, nodepth, ?_⟩
  refine (callsIn_wide.2 (cnone_yes _ _ H.out)).mono ?_
  rintro e w' ⟨rfl, rfl⟩
  gi_wp2_with fail
  refine ⟨trivial, nodepth, ?_⟩
  refine (callsIn_wide.2 (cnone_no _ _ _ _ _ HC.out)).mono ?_
  rintro e w' ⟨rfl, rfl⟩
  gi_wp2
  refine noGoto_ret' ?_
  exact leave_marks (v := .bool false) [] _ (by simp) (by simp) (by simp [shutAll, results, Try.results50, go_sem]) ⟨rfl, HT.out⟩
theorem SameC_left (w : World) (p : Option Addr) (h : NoC w p) (c : Nat) (l f : Int) (q : Nat) (hc : CondAt w c l f q) : Calls Try.prog 50 #[.pointer p, .pointer (some ⟨c, 0, none⟩)] w fun e w' => e = .returned (.bool false) ∧ Touch [] w w' := (callsIn_wide (n := 0)).1 (SameC_left_in 0 w p h c l f q hc)
/-- A loop over nothing. -/
theorem range_none15 {n : Nat} {gop : Operand} {ps : Array Tmp} {assign body : Code} {Q : Exit → Act → World → Prop} {a : Act} {w : World}
    (hg : a.eval gop = .func (.func 86) #[] #[])
    (hdone : ∀ W, Touch [] w W → W.heap[w.heap.size]? = some (.deferred (some [])) → Q .normal { a with defers := { target := .collected w.heap.size, args := #[] } :: a.defers } W) :
    (Code.rangeFunc gop ps assign body).wpIn Fence.wide n Try.prog Q a w := by
  refine wp_range (β := Unit) hg (enters_of Try.func86 (by kernel_rfl) rfl) (fun _ W => Touch [] w W) (fun _ _ => False) (fun _ => True)
    (fun b xs b' => False) (fun b xs b' h => h.elim) (fun b W o h => h.putObj (.inl (by omega)) o) (fun _ _ _ h => h) () (fun o => ((Touch.refl [] w).alloc _).alloc _) (fun b xs b' W h => h.elim) ?_
    (fun b W hF hj hk _ => hdone W hj hk) (fun c W h => h.elim)
  intro J' Jx' hJ hC hCx hY W hW'
  refine callsIn_of_wp Try.func86 rfl trivial ?_ rfl
  simp only [Try.ntmps86, List.size_toArray, List.length_cons, List.length_nil, Nat.reduceAdd, Nat.reduceSub, Array.replicate_succ, Array.replicate_zero, List.push_toArray, List.append_toArray, List.nil_append, List.cons_append]
  have HW := Lib.hid hW'
  clear hW' hJ hC hCx hY
  gi_wp2
  go_end0
  exact ⟨⟨_, rfl⟩, .inl ⟨(), trivial, HW.out⟩⟩
set_option maxHeartbeats 2000000 in
theorem over_none_in (n : Nat) (w : World) : CallsIn Fence.wide n Try.prog 47 #[.func (.func 86) #[] #[], .slice none 0 0, .int .i64 9] w fun e w' => e = .returned (.bool true) ∧ Touch [] w w' := by
  refine callsIn_of_wp_marks Try.func47 rfl trivial ?_ rfl
  simp only [Try.ntmps47, List.size_toArray, List.length_cons, List.length_nil, Nat.reduceAdd, Nat.reduceSub, Array.replicate_succ, Array.replicate_zero, List.push_toArray, List.append_toArray, List.nil_append, List.cons_append]
  have hnil := all_not_nil
  gi_wp2_with fail
  refine wpIn_name ?_
  intro w4 hw4
  have HL3 := Lib.hid (((Led.nil' w).al3 rfl).al1 hw4)
  simp only [List.nil_append, List.cons_append, World.size_alloc] at HL3
  obtain ⟨b7, hb7⟩ : ∃ b, w.heap.size + 1 + 1 + 1 = b := ⟨_, rfl⟩
  rw [hb7] at HL3 ⊢
  obtain ⟨b6, hb6⟩ : ∃ b, w.heap.size + 1 + 1 = b := ⟨_, rfl⟩
  rw [hb6] at HL3 ⊢
  obtain ⟨b5, hb5⟩ : ∃ b, w.heap.size + 1 = b := ⟨_, rfl⟩
  rw [hb5] at HL3 ⊢
  obtain ⟨b4, hb4⟩ : ∃ b, w.heap.size = b := ⟨_, rfl⟩
  rw [hb4] at HL3 ⊢
  clear hb7 hb6 hb5 hb4 hw4 hnil
  refine range_none15 rfl ?_
  intro W ht hmk
  obtain ⟨D, hD⟩ : ∃ D, w4.heap.size = D := ⟨_, rfl⟩
  rw [hD] at hmk ⊢
  have HK : Hid (Led [] w W [box b4 32 #[.slice none 0 0], box b5 3 #[.int .i64 9], box b6 4 #[.bool false], box b7 3 #[.int .i64 0], mark D]) :=
    HL3.out.new (t' := mark D) (f' := [D]) ⟨rfl, hmk⟩ ⟨ht, fun k hk => .inr (by simp at hk; omega)⟩
  clear ht hmk hD
  obtain ⟨n0, fn, zn, _, _⟩ := HK.out.c1 3 rfl
  obtain ⟨l0, _, zl, _, _⟩ := HK.out.c1 0 rfl
  obtain ⟨m0, _, zm, _, _⟩ := HK.out.c1 1 rfl
  obtain ⟨q0, qf, zq, _, _⟩ := HK.out.c1 2 rfl
  gi_wp2
  exact led_ret1 Try.results47 rfl HK.out 2 rfl (by first | rfl | simp) 4 rfl (fun W' h => ⟨rfl, h.tch⟩)
theorem over_none (w : World) : Calls Try.prog 47 #[.func (.func 86) #[] #[], .slice none 0 0, .int .i64 9] w fun e w' => e = .returned (.bool true) ∧ Touch [] w w' :=
  (callsIn_wide (n := 0)).1 (over_none_in 0 w)
end Go.Proofs.Ytihmbgdkllmkaaa
