/-
  Layer 12 (flag.go): effects, the iterator of States, Follows.
-/
import Derived.Test.YtegebecogbebaaaFlag
import Derived.Test.YtegebecogbebaaaMapRun
import Derived.Outline
namespace Go.Proofs.Ytegebecogbebaaa
open Go.RowKit Go.Shelf
set_option maxRecDepth 100000
set_option linter.unusedVariables false
set_option linter.unusedSimpArgs false

theorem eff1 (n : Int) (w : World) : Calls Try.prog 94 #[.int .i64 n] w fun e w' => e = .returned (.func (.func 95) #[] #[.pointer (some ⟨w.heap.size, 0, none⟩)]) ∧ w.alloc (.cells #[.int .i64 n] 88) = w' := by
  go_enter Try.func94, Try.ntmps94
  go_wp2
  go_ret
  exact ⟨rfl, rfl⟩
theorem eff2 (n : Int) (w : World) : Calls Try.prog 96 #[.int .i64 n] w fun e w' => e = .returned (.func (.func 97) #[] #[.pointer (some ⟨w.heap.size, 0, none⟩)]) ∧ w.alloc (.cells #[.int .i64 n] 88) = w' := by
  go_enter Try.func96, Try.ntmps96
  go_wp2
  go_ret
  exact ⟨rfl, rfl⟩
/-- The entries of the map that effects makes. -/
def effEs (b1 b2 b3 b4 : Nat) : List MapEntry :=
  [⟨.int .i64 1, .agg #[.func (.func 98) #[] #[], .func (.func 95) #[] #[.pointer (some ⟨b1, 0, none⟩)]], 0⟩,
   ⟨.int .i64 2, .agg #[.func (.func 99) #[] #[], .func (.func 97) #[] #[.pointer (some ⟨b2, 0, none⟩)]], 1⟩,
   ⟨.int .i64 3, .agg #[.func (.func 100) #[] #[], .func (.func 95) #[] #[.pointer (some ⟨b3, 0, none⟩)]], 2⟩,
   ⟨.int .i64 4, .agg #[.func (.func 99) #[] #[], .func (.func 97) #[] #[.pointer (some ⟨b4, 0, none⟩)]], 3⟩,
   ⟨.int .i64 5, .agg #[.func (.func 100) #[] #[], .func (.func 101) #[] #[]], 4⟩]
/-- The things that effects makes. -/
def effT (M b1 b2 b3 b4 : Nat) : List Thing := [exact1 M (.map (effEs b1 b2 b3 b4).toArray 5), box b1 88 #[.int .i64 1], box b2 88 #[.int .i64 0], box b3 88 #[.int .i64 2], box b4 88 #[.int .i64 2]]

set_option maxHeartbeats 4000000 in
theorem effects_any (w : World) : Calls Try.prog 92 #[] w fun e w' => ∃ M b1 b2 b3 b4, e = .returned (.map (some M)) ∧ Led [] w w' (effT M b1 b2 b3 b4) := by
  have g1 := enters_of Try.func94 (by kernel_rfl) rfl
  have g2 := enters_of Try.func96 (by kernel_rfl) rfl
  have hmm := @run_makeMap Try.prog
  go_enter Try.func92, Try.ntmps92
  go_wp2_with fail
  refine (eff1 _ _).mono ?_
  rintro e w1 ⟨rfl, hw⟩
  have HL1 := Lib.hid (((Led.nil' w).exnew (.map #[] 0)).al1 hw)
  simp only [List.nil_append, List.cons_append, List.set_cons_succ, List.set_cons_zero, List.push_toArray, World.putObj_size] at HL1
  try simp only [World.putObj_size]
  obtain ⟨b1, hb⟩ : ∃ b, (w.alloc (.map #[] 0)).heap.size = b := ⟨_, rfl⟩
  rw [hb] at HL1 ⊢
  clear hw hb
  skip
  have hm := run_mapUpdate_new (P := Try.prog) (k := .i64) Try.underlying151 Try.underlying93 (HL1.out.ex 0 rfl) 1 rfl (.agg #[.func (.func 98) #[] #[], .func (.func 95) #[] #[.pointer (some ⟨b1, 0, none⟩)]])
  simp only [List.push_toArray, List.nil_append, List.cons_append, Nat.zero_add, Nat.reduceAdd] at hm
  go_wp2_with fail
  clear hm
  refine (eff2 _ _).mono ?_
  rintro e w2 ⟨rfl, hw⟩
  have HL2 := Lib.hid ((HL1.out.exput 0 rfl _).al1 hw)
  simp only [List.nil_append, List.cons_append, List.set_cons_succ, List.set_cons_zero, List.push_toArray, World.putObj_size] at HL2
  try simp only [World.putObj_size]
  obtain ⟨b2, hb⟩ : ∃ b, w1.heap.size = b := ⟨_, rfl⟩
  rw [hb] at HL2 ⊢
  clear hw hb
  skip
  have hm := run_mapUpdate_new (P := Try.prog) (k := .i64) Try.underlying151 Try.underlying93 (HL2.out.ex 0 rfl) 2 rfl (.agg #[.func (.func 99) #[] #[], .func (.func 97) #[] #[.pointer (some ⟨b2, 0, none⟩)]])
  simp only [List.push_toArray, List.nil_append, List.cons_append, Nat.zero_add, Nat.reduceAdd] at hm
  go_wp2_with fail
  clear hm
  refine (eff1 _ _).mono ?_
  rintro e w3 ⟨rfl, hw⟩
  have HL3 := Lib.hid ((HL2.out.exput 0 rfl _).al1 hw)
  simp only [List.nil_append, List.cons_append, List.set_cons_succ, List.set_cons_zero, List.push_toArray, World.putObj_size] at HL3
  try simp only [World.putObj_size]
  obtain ⟨b3, hb⟩ : ∃ b, w2.heap.size = b := ⟨_, rfl⟩
  rw [hb] at HL3 ⊢
  clear hw hb
  skip
  have hm := run_mapUpdate_new (P := Try.prog) (k := .i64) Try.underlying151 Try.underlying93 (HL3.out.ex 0 rfl) 3 rfl (.agg #[.func (.func 100) #[] #[], .func (.func 95) #[] #[.pointer (some ⟨b3, 0, none⟩)]])
  simp only [List.push_toArray, List.nil_append, List.cons_append, Nat.zero_add, Nat.reduceAdd] at hm
  go_wp2_with fail
  clear hm
  refine (eff2 _ _).mono ?_
  rintro e w4 ⟨rfl, hw⟩
  have HL4 := Lib.hid ((HL3.out.exput 0 rfl _).al1 hw)
  simp only [List.nil_append, List.cons_append, List.set_cons_succ, List.set_cons_zero, List.push_toArray, World.putObj_size] at HL4
  try simp only [World.putObj_size]
  obtain ⟨b4, hb⟩ : ∃ b, w3.heap.size = b := ⟨_, rfl⟩
  rw [hb] at HL4 ⊢
  clear hw hb
  have hz := run_mapUpdate_new (P := Try.prog) (k := .i64) Try.underlying151 Try.underlying93 ((HL4.out.exput 0 rfl (.map #[⟨.int .i64 1, .agg #[.func (.func 98) #[] #[], .func (.func 95) #[] #[.pointer (some ⟨b1, 0, none⟩)]], 0⟩, ⟨.int .i64 2, .agg #[.func (.func 99) #[] #[], .func (.func 97) #[] #[.pointer (some ⟨b2, 0, none⟩)]], 1⟩, ⟨.int .i64 3, .agg #[.func (.func 100) #[] #[], .func (.func 95) #[] #[.pointer (some ⟨b3, 0, none⟩)]], 2⟩, ⟨.int .i64 4, .agg #[.func (.func 99) #[] #[], .func (.func 97) #[] #[.pointer (some ⟨b4, 0, none⟩)]], 3⟩] 4)).ex 0 rfl) 5 rfl (.agg #[.func (.func 100) #[] #[], .func (.func 101) #[] #[]])
  have hm := run_mapUpdate_new (P := Try.prog) (k := .i64) Try.underlying151 Try.underlying93 (HL4.out.ex 0 rfl) 4 rfl (.agg #[.func (.func 99) #[] #[], .func (.func 97) #[] #[.pointer (some ⟨b4, 0, none⟩)]])
  simp only [List.push_toArray, List.nil_append, List.cons_append, Nat.zero_add, Nat.reduceAdd] at hm
  go_wp2_with fail
  clear hm
  go_ret
  exact ⟨_, b1, b2, b3, b4, rfl, (HL4.out.exput 0 rfl _).exput 0 rfl _⟩

/-- An act of a flag: a step, the owner's or not, what the flag held. -/
structure FAct where
  step : Int
  owner : Bool
  was : Int
deriving DecidableEq
def FAct.cells (x : FAct) : List Value := [.int .i64 x.step, .bool x.owner, .int .i64 x.was]
/-- May a step be done? -/
def mayB (step : Int) (owner : Bool) (now : Int) : Bool :=
  if step = 1 then owner && (now != 1) else if step = 2 ∨ step = 4 then owner && (now == 1) else !owner || (now != 1)
/-- What the flag holds then. -/
def aftB (step now : Int) : Int :=
  if step = 1 then (if now = 0 then 1 else now) else if step = 2 then 0 else if step = 3 then (if now = 0 then 2 else now) else if step = 4 then 2 else now
/-- Does an act follow? -/
def actB (x : FAct) (now : Int) : Bool := decide (1 ≤ x.step ∧ x.step ≤ 5) && decide (x.was = now) && mayB x.step x.owner now

theorem aft95 (now n : Int) (b : Nat) (w : World) (hb : w.cell? ⟨b, 0, none⟩ = some (.int .i64 n)) : Calls Try.prog 95 #[.int .i64 now, .pointer (some ⟨b, 0, none⟩)] w fun e w' => e = .returned (.int .i64 (if now = 0 then n else now)) ∧ w = w' := by
  by_cases h : now = 0
  · subst h
    rw [if_pos rfl]
    go_enter Try.func95, Try.ntmps95
    go_wp2
    go_ret
    exact ⟨rfl, rfl⟩
  · rw [if_neg h]
    have h' : (now == 0) = false := by simpa using h
    clear h
    go_enter Try.func95, Try.ntmps95
    go_wp2
    go_ret
    exact ⟨rfl, rfl⟩
theorem aft97 (now n : Int) (b : Nat) (w : World) (hb : w.cell? ⟨b, 0, none⟩ = some (.int .i64 n)) : Calls Try.prog 97 #[.int .i64 now, .pointer (some ⟨b, 0, none⟩)] w fun e w' => e = .returned (.int .i64 n) ∧ w = w' := by
  go_enter Try.func97, Try.ntmps97
  go_wp2
  go_ret
  exact ⟨rfl, rfl⟩
theorem aft101 (now : Int) (w : World) : Calls Try.prog 101 #[.int .i64 now] w fun e w' => e = .returned (.int .i64 now) ∧ w = w' := by
  go_enter Try.func101, Try.ntmps101
  go_wp2
  go_ret
  exact ⟨rfl, rfl⟩
theorem may98 (step was now : Int) (owner : Bool) (w : World) : Calls Try.prog 98 #[.agg #[.int .i64 step, .bool owner, .int .i64 was, .int .i64 now]] w fun e w' => e = .returned (.bool (owner && (now != 1))) ∧ Touch [] w w' := by
  cases owner with
  | true =>
    go_enter Try.func98, Try.ntmps98
    go_wp2
    go_ret
    exact ⟨by simp, (Touch.refl [] w).alloc _⟩
  | false =>
    go_enter Try.func98, Try.ntmps98
    go_wp2
    go_ret
    exact ⟨by simp, (Touch.refl [] w).alloc _⟩
theorem may99 (step was now : Int) (owner : Bool) (w : World) : Calls Try.prog 99 #[.agg #[.int .i64 step, .bool owner, .int .i64 was, .int .i64 now]] w fun e w' => e = .returned (.bool (owner && (now == 1))) ∧ Touch [] w w' := by
  cases owner with
  | true =>
    go_enter Try.func99, Try.ntmps99
    go_wp2
    go_ret
    exact ⟨by simp, (Touch.refl [] w).alloc _⟩
  | false =>
    go_enter Try.func99, Try.ntmps99
    go_wp2
    go_ret
    exact ⟨by simp, (Touch.refl [] w).alloc _⟩
theorem may100 (step was now : Int) (owner : Bool) (w : World) : Calls Try.prog 100 #[.agg #[.int .i64 step, .bool owner, .int .i64 was, .int .i64 now]] w fun e w' => e = .returned (.bool (!owner || (now != 1))) ∧ Touch [] w w' := by
  cases owner with
  | true =>
    go_enter Try.func100, Try.ntmps100
    go_wp2
    go_ret
    exact ⟨by simp, (Touch.refl [] w).alloc _⟩
  | false =>
    go_enter Try.func100, Try.ntmps100
    go_wp2
    go_ret
    exact ⟨by simp, (Touch.refl [] w).alloc _⟩
end Go.Proofs.Ytegebecogbebaaa
