/-
  Layer 13: none, count, has, numbers, valid, copyEntry (queue.go).
-/
import Derived.Test.YtihmbgdkllmkaaaEnt
namespace Go.Proofs.Ytihmbgdkllmkaaa
open Go.RowKit Go.Shelf
set_option maxRecDepth 100000
set_option linter.unusedVariables false
set_option linter.unusedSimpArgs false

/-- It tells whether p holds; memory is as it was. -/
def Says (p : Prop) (w : World) (e : Ending) (w' : World) : Prop := (∃ c : Bool, e = .returned (.bool c) ∧ (c = true ↔ p)) ∧ w = w'
theorem none_no (g : Nat) (w : World) (hc : w.cell? ⟨g, 0, none⟩ = some (.bool true)) : Calls Try.prog 55 #[.pointer (some ⟨g, 0, none⟩)] w fun e w' => e = .returned (.bool false) ∧ w = w' := by
  go_enter Try.func55, Try.ntmps55
  go_wp2
  all_goals go_ret
  exact ⟨rfl, rfl⟩
theorem none_zero (g : Nat) (w : World) (hc : w.cell? ⟨g, 0, none⟩ = some (.bool false)) : Calls Try.prog 55 #[.pointer (some ⟨g, 0, none⟩)] w fun e w' => e = .returned (.bool true) ∧ w = w' := by
  go_enter Try.func55, Try.ntmps55
  go_wp2
  all_goals go_ret
  exact ⟨rfl, rfl⟩
theorem none_nil (w : World) : Calls Try.prog 55 #[.pointer none] w fun e w' => e = .returned (.bool true) ∧ w = w' := by
  go_enter Try.func55, Try.ntmps55
  go_wp2
  all_goals go_ret
  exact ⟨rfl, rfl⟩
theorem count_q (g n cap : Nat) (a : Option Addr) (w : World) (hc : w.cell? ⟨g, 1, none⟩ = some (.slice a n cap)) : Calls Try.prog 57 #[.pointer (some ⟨g, 0, none⟩)] w fun e w' => e = .returned (.int .i64 (n : Int)) ∧ w = w' := by
  go_enter Try.func57, Try.ntmps57
  go_wp2
  all_goals go_ret
  exact ⟨rfl, rfl⟩
theorem has_q (g n cap : Nat) (a : Option Addr) (i : Int) (w : World) (hc : w.cell? ⟨g, 1, none⟩ = some (.slice a n cap)) : Calls Try.prog 60 #[.pointer (some ⟨g, 0, none⟩), .int .i64 i] w (Says (0 ≤ i ∧ i < (n : Int)) w) := by
  go_enter Try.func60, Try.ntmps60
  go_wp2
  all_goals go_ret
  all_goals exact ⟨⟨_, rfl, by simp; omega⟩, rfl⟩

set_option maxHeartbeats 1000000 in
theorem numbers_q (e : ME) (w : World) : Calls Try.prog 64 #[e.val] w fun en w' => en = .returned (.agg #[.int .i64 e.sync, .int .i64 e.thread, .int .i64 e.branch, .int .i64 e.flag]) ∧ Touch [] w w' := by
  have z1 : w.heap.size < w.heap.size + 1 := by omega
  have z2 : w.heap.size < w.heap.size + 1 + 1 := by omega
  simp only [ent_eq]
  go_enter Try.func64, Try.ntmps64
  go_wp2
  refine bodyPost_ret (v := .agg #[.int .i64 e.sync, .int .i64 e.thread, .int .i64 e.branch, .int .i64 e.flag]) (by simp [results, Try.results64, go_sem]) rfl ?_
  exact ⟨rfl, ((Touch.refl [] w).alloc _).alloc _⟩

section
variable (a b c d : Int) (W : World)
theorem idx0 : (Instr.index 116 (.agg #[.int .i64 a, .int .i64 b, .int .i64 c, .int .i64 d]) (.int .i64 0)).run Try.prog W = .ok (.int .i64 a) W := by kernel_rfl
theorem idx1 : (Instr.index 116 (.agg #[.int .i64 a, .int .i64 b, .int .i64 c, .int .i64 d]) (.int .i64 1)).run Try.prog W = .ok (.int .i64 b) W := by kernel_rfl
theorem idx2 : (Instr.index 116 (.agg #[.int .i64 a, .int .i64 b, .int .i64 c, .int .i64 d]) (.int .i64 2)).run Try.prog W = .ok (.int .i64 c) W := by kernel_rfl
theorem idx3 : (Instr.index 116 (.agg #[.int .i64 a, .int .i64 b, .int .i64 c, .int .i64 d]) (.int .i64 3)).run Try.prog W = .ok (.int .i64 d) W := by kernel_rfl
end
attribute [local go_sem] idx0 idx1 idx2 idx3
/-- Number j of an entry. -/
def ME.nth (e : ME) (j : Nat) : Int := if j = 0 then e.sync else if j = 1 then e.thread else if j = 2 then e.branch else e.flag
set_option maxHeartbeats 1000000 in
theorem valid_q (e : ME) (w : World) (he : e.v.In w) : Calls Try.prog 56 #[e.val] w (Tells e.plain.Ok w) := by
  have HN := Lib.hid (numbers_q e)
  have HC := Lib.hid (fun W (hW : Touch [] w W) => Check_val e.v W (he.touch0 hW))
  clear he
  simp only [ent_eq, val_eq] at HN HC ⊢
  have z1 : w.heap.size < w.heap.size + 1 := by omega
  go_enter Try.func56, Try.ntmps56
  go_wp2_with fail
  refine wp_calls_name ?_
  intro w1 hw1
  have HL1 := Lib.hid ((Led.nil' w).al1 hw1)
  simp only [List.nil_append, List.cons_append] at HL1
  refine (HN.out w1).mono ?_
  rintro en w2 ⟨rfl, ht⟩
  have HL2 := Lib.hid (HL1.out.touch ht)
  obtain ⟨b1, hb1⟩ : ∃ b, w.heap.size = b := ⟨_, rfl⟩
  rw [hb1] at HL2 ⊢
  clear hb1 hw1 HL1 ht z1
  go_wp2_with fail
  go_loopw [7] (fun x wr => ∃ j : Nat, j ≤ 4 ∧ x = .int .i64 (j : Int) ∧ Hid (∀ i, i < j → 0 ≤ e.nth i) ∧ Hid (Led [] w wr [box b1 27 #[.int .i64 e.sync, .int .i64 e.thread, .int .i64 e.branch, .int .i64 e.flag, .int .i64 e.v.kind, .int .i64 e.v.num, .slice e.v.addr e.v.parts.length e.v.cap]])) (fun x _ => 4 - (intOf x).toNat)
  case atStart => exact ⟨0, by omega, rfl, fun i hi => by omega, HL2⟩
  case round =>
    obtain ⟨j, hj, rfl, HD, HK⟩ := hrel
    clear HL2
    have hcase : j = 0 ∨ j = 1 ∨ j = 2 ∨ j = 3 ∨ j = 4 := by omega
    rcases hcase with rfl | rfl | rfl | rfl | rfl
    · have hjj : (0 : Int) < 4 := by decide
      by_cases hneg : e.sync < 0
      · go_wp2
        go_ret
        exact Tells.no (fun h => by have := h.1; simp only [ME.plain] at this; omega) HK.out.tch
      · go_wp2
        go_roundw
        case rel => exact ⟨0 + 1, by omega, by go_num, fun i hi => by
          by_cases h : i < 0
          · exact HD.out i h
          · obtain rfl : i = 0 := by omega
            simp [ME.nth]; omega, HK⟩
        case measure => simp [intOf]
    · have hjj : (1 : Int) < 4 := by decide
      by_cases hneg : e.thread < 0
      · go_wp2
        go_ret
        exact Tells.no (fun h => by have := h.2.1; simp only [ME.plain] at this; omega) HK.out.tch
      · go_wp2
        go_roundw
        case rel => exact ⟨1 + 1, by omega, by go_num, fun i hi => by
          by_cases h : i < 1
          · exact HD.out i h
          · obtain rfl : i = 1 := by omega
            simp [ME.nth]; omega, HK⟩
        case measure => simp [intOf]
    · have hjj : (2 : Int) < 4 := by decide
      by_cases hneg : e.branch < 0
      · go_wp2
        go_ret
        exact Tells.no (fun h => by have := h.2.2.1; simp only [ME.plain] at this; omega) HK.out.tch
      · go_wp2
        go_roundw
        case rel => exact ⟨2 + 1, by omega, by go_num, fun i hi => by
          by_cases h : i < 2
          · exact HD.out i h
          · obtain rfl : i = 2 := by omega
            simp [ME.nth]; omega, HK⟩
        case measure => simp [intOf]
    · have hjj : (3 : Int) < 4 := by decide
      by_cases hneg : e.flag < 0
      · go_wp2
        go_ret
        exact Tells.no (fun h => by have := h.2.2.2.1; simp only [ME.plain] at this; omega) HK.out.tch
      · go_wp2
        go_roundw
        case rel => exact ⟨3 + 1, by omega, by go_num, fun i hi => by
          by_cases h : i < 3
          · exact HD.out i h
          · obtain rfl : i = 3 := by omega
            simp [ME.nth]; omega, HK⟩
        case measure => simp [intOf]
    · have h0 := HD.out 0 (by omega)
      have h1 := HD.out 1 (by omega)
      have h2 := HD.out 2 (by omega)
      have h3 := HD.out 3 (by omega)
      simp [ME.nth] at h0 h1 h2 h3
      have HNN : Hid (0 ≤ e.sync ∧ 0 ≤ e.thread ∧ 0 ≤ e.branch ∧ 0 ≤ e.flag) := ⟨h0, h1, h2, h3⟩
      clear h0 h1 h2 h3 HD
      obtain ⟨x0, x1, x2, x3, x4, x5, x6, _, zx, _, _⟩ := HK.out.c7 0 rfl
      have HPL := Lib.hid (MT.plain_eq e.v)
      by_cases hk : e.v.kind = 0
      · have hk' : (e.v.kind == 0) = true := by simpa using hk
        have HKK := Lib.hid hk
        clear hk
        go_wp2
        all_goals go_ret
        all_goals refine ⟨_, rfl, ?_, HK.out.tch⟩
        all_goals simp only [PE.Ok, ME.plain]
        all_goals rw [HPL.out]
        all_goals have hno : ¬ (MT.PT.mk e.v.kind e.v.num (e.v.parts.map MT.plain)).Ok := fun h => MT.PT.ok_kind h HKK.out
        all_goals have hnn := HNN.out
        all_goals have e1 : (MT.PT.mk e.v.kind e.v.num (e.v.parts.map MT.plain) = MT.PT.mk 0 0 []) ↔ (e.v.num = 0 ∧ e.v.parts.length = 0) := by simp [HKK.out]
        all_goals rw [e1]
        all_goals simp only [hno, or_false, hnn, true_and]
        all_goals first | (simp; omega) | simp [*]
      · have hk' : (e.v.kind == 0) = false := by simpa using hk
        have HKK := Lib.hid hk
        clear hk
        go_wp2_with fail
        refine (HC.out _ HK.out.tch).mono ?_
        rintro en w3 ⟨⟨z, rfl, hz, hzi⟩, ht⟩
        have HL3 := Lib.hid (HK.out.touch ht)
        have HZ := Lib.hid hzi
        clear ht hz hzi
        go_wp2
        go_ret
        refine ⟨_, rfl, ?_, HL3.out.tch⟩
        simp only [PE.Ok, ME.plain, beq_iff_eq]
        rw [HZ.out, HPL.out]
        have hnn := HNN.out
        constructor
        · intro h
          exact ⟨hnn.1, hnn.2.1, hnn.2.2.1, hnn.2.2.2, .inr h⟩
        · rintro ⟨_, _, _, _, h | h⟩
          · simp at h; exact absurd h.1 HKK.out
          · exact h

/-- A copy of an entry. -/
def ClonedE (x : ME) (w : World) (e : Ending) (w' : World) : Prop := ∃ x' : ME, e = .returned x'.val ∧ x'.plain = x.plain ∧ x'.v.In w' ∧ (∀ k ∈ x'.v.blocks, w.heap.size ≤ k) ∧ Touch [] w w'
set_option maxHeartbeats 2000000 in
theorem copyEntry_q (x : ME) (w : World) (he : x.v.In w) (hn : x.v.nodes ≤ 256) : Calls Try.prog 58 #[x.val] w (ClonedE x w) := by
  have HC := Lib.hid (fun W (hW : Touch [] w W) => Copy_val x.v W (he.touch0 hW) hn)
  clear he hn
  simp only [ent_eq, val_eq] at HC ⊢
  have z1 : w.heap.size < w.heap.size + 1 := by omega
  have z2 : w.heap.size < w.heap.size + 1 + 1 := by omega
  go_enter Try.func58, Try.ntmps58
  go_wp2_with fail
  refine wp_calls_name ?_
  intro w1 hw1
  have HL1 := Lib.hid ((Led.nil' w).al2 hw1)
  simp only [List.nil_append, List.cons_append] at HL1
  refine (HC.out _ HL1.out.tch).mono ?_
  rintro en w2 ⟨t', rfl, hpl, hin, hnew, ht⟩
  have HL2 := Lib.hid (HL1.out.valsNew (vs := [t']) ht (by simpa using hin) (by simpa using hnew))
  simp only [List.nil_append, List.cons_append] at HL2
  have HNW : Hid (∀ k ∈ t'.blocks, w.heap.size ≤ k) := fun k hk => Nat.le_trans HL1.out.size (hnew k hk)
  have HPL := Lib.hid hpl
  obtain ⟨b2, hb2⟩ : ∃ b, w.heap.size + 1 = b := ⟨_, rfl⟩
  rw [hb2] at HL2 ⊢
  obtain ⟨b1, hb1⟩ : ∃ b, w.heap.size = b := ⟨_, rfl⟩
  rw [hb1] at HL2 ⊢
  clear hpl hin hnew ht hb1 hb2 z1 z2 hw1 HL1
  obtain ⟨x0, x1, x2, x3, x4, x5, x6, ⟨f0, f1, f2, f3, f4, f5, f6⟩, zx, _, _⟩ := HL2.out.c7 0 rfl
  obtain ⟨y0, y1, y2, y3, y4, y5, y6, ⟨g0, g1, g2, g3, g4, g5, g6⟩, zy, _, _⟩ := HL2.out.c7 1 rfl
  have n1 := HL2.out.ne 0 1 rfl rfl (by decide)
  have n2 := Ne.symm n1
  simp only [val_eq]
  go_wp2
  have HL3 := Lib.hid (((HL2.out.set 0 rfl 4 (.int .i64 t'.kind)).set 0 rfl 5 (.int .i64 t'.num)).set 0 rfl 6 (.slice t'.addr t'.parts.length t'.cap))
  simp only [List.set_cons_succ, List.set_cons_zero, List.setIfInBounds_toArray] at HL3
  have HL4 := Lib.hid (((((((HL3.out.set 1 rfl 0 (.int .i64 x.sync)).set 1 rfl 1 (.int .i64 x.thread)).set 1 rfl 2 (.int .i64 x.branch)).set 1 rfl 3 (.int .i64 x.flag)).set 1 rfl 4 (.int .i64 t'.kind)).set 1 rfl 5 (.int .i64 t'.num)).set 1 rfl 6 (.slice t'.addr t'.parts.length t'.cap))
  simp only [List.set_cons_succ, List.set_cons_zero, List.setIfInBounds_toArray] at HL4
  obtain ⟨q0, q1, q2, q3, q4, q5, q6, _⟩ := HL4.out.c7 1 rfl
  refine bodyPost_ret (v := (ME.mk x.sync x.thread x.branch x.flag t').val) (by simp [results, Try.results58, go_sem, q0, q1, q2, q3, q4, q5, q6, ent_eq]) rfl ?_
  exact ⟨_, rfl, by simp only [ME.plain, HPL.out], HL4.out.valsIn 2 rfl t' (by simp), HNW.out, HL4.out.tch⟩
end Go.Proofs.Ytihmbgdkllmkaaa
