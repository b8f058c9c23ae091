/-
  Layer 4: count and small (val.go).
-/
import Derived.Test.YtihmbgdkllmkaaaVal
import Derived.Test.YtihmbgdkllmkaaaProg
import Derived.Test.YtihmbgdkllmkaaaLedC
namespace Go.Proofs.Ytihmbgdkllmkaaa
open Go.RowKit Go.Shelf
set_option maxRecDepth 100000
set_option linter.unusedVariables false
set_option linter.unusedSimpArgs false

theorem ret_nat {a b : Nat} (h : a = b) : Ending.returned (.int .i64 (a : Int)) = .returned (.int .i64 (b : Int)) := by rw [h]
theorem ret_bool {a b : Bool} (h : a = b) : Ending.returned (.bool a) = .returned (.bool b) := by rw [h]
theorem MT.nodesAll_take_succ {l : List MT} {j : Nat} (hj : j < l.length) : MT.nodesAll (l.take (j + 1)) = MT.nodesAll (l.take j) + (l[j]).nodes := by
  rw [List.take_add_one, List.getElem?_eq_getElem hj, MT.nodesAll_append]
  simp [MT.nodesAll]
theorem MT.nodesAll_take_le (l : List MT) (j : Nat) : MT.nodesAll (l.take j) ≤ MT.nodesAll l := by
  have h := MT.nodesAll_append (l.take j) (l.drop j)
  rw [List.take_append_drop] at h
  omega

set_option maxHeartbeats 2000000 in
theorem count_val : ∀ (t : MT) (m : Nat) (w : World), t.In w → m ≤ 256 →
    Calls Try.prog 118 #[t.val, .int .i64 (m : Int)] w fun e w' => e = .returned (.int .i64 ((min (m + t.nodes) 257 : Nat) : Int)) ∧ Touch [] w w' := by
  intro t
  induction t using MT.ind with
  | h k n a c l ih =>
  intro m w hin hm
  have HIN := Lib.hid hin
  have HIH := Lib.hid ih
  have hlen := hin.len
  simp only [MT.parts] at hlen
  clear hin ih
  simp only [MT.val, MT.kind, MT.num, MT.sl, MT.addr, MT.parts, MT.cap]
  go_enter Try.func118, Try.ntmps118
  go_wp2_with fail
  refine wp_name ?_
  intro w1 hw1
  have HT1 : Hid (Touch [] w w1) := hw1 ▸ (Touch.refl [] w).alloc _
  clear hw1
  go_loopw [1, 12] (fun x i wr => ∃ (j : Nat), j ≤ l.length ∧ i = .int .i64 (j : Int) ∧ x = .int .i64 ((min (m + 1 + MT.nodesAll (l.take j)) 257 : Nat) : Int) ∧ Hid (Touch [] w wr)) (fun _ i _ => l.length - (intOf i).toNat)
  case atStart => exact ⟨0, Nat.zero_le _, rfl, by simp [MT.nodesAll]; omega, HT1⟩
  case round =>
    obtain ⟨j, hj, rfl, rfl, HW⟩ := hrel
    by_cases hjl : j < l.length
    · have hjl' : (j : Int) < (l.length : Int) := by omega
      obtain ⟨b, o, rfl, hb, c0, c1, c2⟩ := (HIN.out.touch0 HW.out).row.cellAt hjl
      have HU := Lib.hid ((HIN.out.touch0 HW.out).part (List.getElem_mem hjl))
      have HI := Lib.hid (HIH.out _ (List.getElem_mem hjl))
      have HS := Lib.hid (MT.nodesAll_take_succ hjl)
      have HP := Lib.hid (MT.nodes_pos l[j])
      simp only [MT.parts] at c0 c1 c2 HU HI
      generalize l[j] = u at c0 c1 c2 HU HI HS HP
      simp only [MT.sl] at c2
      clear HIN HIH
      obtain ⟨N, hN⟩ : ∃ N, min (m + 1 + MT.nodesAll (l.take j)) 257 = N := ⟨_, rfl⟩
      rw [hN]
      have HN := Lib.hid hN
      clear hN
      by_cases hb2 : N ≤ 256
      · have hb3 : ¬ (256 : Int) < (N : Int) := by omega
        go_wp2_with fail
        refine (HI.out N _ (HU.out.alloc _) hb2).mono ?_
        rintro e w2 ⟨rfl, ht⟩
        have HW2 := Lib.hid (HW.out.trans' (((Touch.refl [] wr).alloc _).trans' ht))
        clear ht
        go_wp2
        go_roundw
        case rel => exact ⟨j + 1, by omega, by go_num, by have := HN.out; have := HS.out; rw [HS.out]; congr 2; omega, HW2⟩
        case measure => simp [intOf]; omega
      · have hb3 : (256 : Int) < (N : Int) := by omega
        go_wp2
        go_ret
        refine ⟨ret_nat ?_, HW.out.alloc _⟩
        have h1 := HN.out
        have h2 := MT.nodesAll_take_le l j
        simp only [MT.nodes]
        omega
    · have hjl' : ¬ (j : Int) < (l.length : Int) := by omega
      go_wp2
      go_ret
      refine ⟨ret_nat ?_, HW.out⟩
      rw [List.take_of_length_le (by omega)]
      simp only [MT.nodes]
      omega

set_option maxHeartbeats 1000000 in
theorem small_val (t : MT) (w : World) (h : t.In w) : Calls Try.prog 104 #[t.val] w fun e w' => e = .returned (.bool (decide (t.nodes ≤ 256))) ∧ Touch [] w w' := by
  have H := Lib.hid (fun W (hW : Touch [] w W) => count_val t 0 W (h.touch0 hW) (by omega))
  clear h
  simp only [MT.val, MT.sl] at H ⊢
  go_enter Try.func104, Try.ntmps104
  go_wp2_with fail
  refine (H.out _ ((Touch.refl [] w).alloc _)).mono ?_
  rintro e w2 ⟨rfl, ht⟩
  have HT := Lib.hid (((Touch.refl [] w).alloc _).trans' ht)
  clear ht
  go_wp2
  go_ret
  refine ⟨ret_bool ?_, HT.out⟩
  simp only [decide_eq_decide]
  omega
end Go.Proofs.Ytihmbgdkllmkaaa
