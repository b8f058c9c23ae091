/-
  Law 01: few (betrothallaw01/law.go); the reference's New and Last (betrothalref01).
-/
import Derived.Test.YtegebecogbebaaaRefT
import Derived.Test.YtegebecogbebaaaOpen
import Derived.LoopTactic
namespace Go.Proofs.Ytegebecogbebaaa
open Go.RowKit Go.Shelf
set_option maxRecDepth 100000
set_option linter.unusedVariables false
set_option linter.unusedSimpArgs false

/-- Does a call allot at most 200 cells? -/
def Call01.small (c : Call01) : Bool := !(decide (c.what = 0) && decide (200 < c.at_))
def fewB (l : List Call01) (many : Nat) : Bool := l.all Call01.small && decide (l.length ≤ many)
theorem fewB_bad {l : List Call01} {many k : Nat} (hk : k < l.length) (h : l[k].small = false) : fewB l many = false := by
  have : l.all Call01.small = false := by rw [List.all_eq_false]; exact ⟨l[k], List.getElem_mem _, by simp [h]⟩
  simp [fewB, this]
theorem fewB_end {l : List Call01} {many k : Nat} (hk : ∀ j (hj : j < l.length), j < k → l[j].small = true) (h : ¬ (k < l.length ∧ k ≤ many)) (hk2 : k ≤ many + 1) : fewB l many = decide (l.length ≤ many) := by
  by_cases hl : l.length ≤ many
  · have : l.all Call01.small = true := by
      rw [List.all_eq_true]
      intro x hx
      obtain ⟨i, hi, rfl⟩ := List.mem_iff_getElem.1 hx
      exact hk i hi (by omega)
    simp [fewB, this]
  · simp [fewB, hl]

set_option maxHeartbeats 1000000 in
theorem few01 (a1 : Option Addr) (n1 c1 : Nat) (l : List Call01) (many : Nat) (w : World) (hm : many ≤ 1000000) (hn1 : n1 ≤ 9223372036854775807) (hll : l.length = n1) (hl : StructsAt w a1 4 Call01.cells l) :
    Calls Try.prog 29 #[.slice a1 n1 c1, .int .i64 (many : Int)] w fun e w' => e = .returned (.bool (fewB l many)) ∧ w = w' := by
  have HL := Lib.hid hl
  have HLL := Lib.hid hll
  clear hl hll
  go_enter Try.func29, Try.ntmps29
  go_wp2
  go_loop [5] (fun i => ∃ k : Nat, k ≤ n1 ∧ k ≤ many + 1 ∧ i = .int .i64 (k : Int) ∧ Hid (∀ j (hj : j < l.length), j < k → l[j].small = true)) (fun i => n1 - (intOf i).toNat)
  case atStart => exact ⟨0, Nat.zero_le _, Nat.zero_le _, rfl, fun j _ hj => by omega⟩
  case round =>
    obtain ⟨k, hk, hkm, rfl, HK⟩ := hrel
    by_cases hlt : k < n1
    · have hlt' : decide (k < n1) = true := by simpa using hlt
      have hlti : (k : Int) < (n1 : Int) := by omega
      by_cases hmm : k ≤ many
      · have hmm' : (k : Int) ≤ (many : Int) := by omega
        obtain ⟨b1, o1, rfl, hb1, hv1⟩ := HL.out k (by rw [HLL.out]; exact hlt)
        have HB := Lib.hid (fun h => fewB_bad (l := l) (many := many) (k := k) (by rw [HLL.out]; exact hlt) h)
        have HN : Hid ((l[k]'(by rw [HLL.out]; exact hlt)).small = true → ∀ j (hj : j < l.length), j < k + 1 → l[j].small = true) := fun h j hj hjk => by
          by_cases e : j = k
          · subst e; exact h
          · exact HK.out j hj (by omega)
        obtain ⟨c, hc⟩ : ∃ c, l[k]'(by rw [HLL.out]; exact hlt) = c := ⟨_, rfl⟩
        rw [hc] at hv1 HB HN
        have e0 := hv1 0 (by omega)
        have e1 := hv1 1 (by omega)
        obtain ⟨what, at_, x, y⟩ := c
        simp only [Call01.cells, List.getElem?_cons_succ, List.getElem?_cons_zero, Nat.add_zero] at e0 e1
        clear hc hv1
        by_cases h0 : what = 0
        · have h0' : (what == 0) = true := by simpa using h0
          by_cases h2 : 200 < at_
          · have HF : Hid (fewB l many = false) := HB.out (by simp [Call01.small, h0, h2])
            clear h0
            go_wp2
            go_ret
            exact ⟨by rw [HF.out]; rfl, rfl⟩
          · have HF : Hid (Call01.small ⟨what, at_, x, y⟩ = true) := by simp [Hid, Call01.small, h2]
            clear h0
            go_wp2
            go_round
            case rel => exact ⟨k + 1, by omega, by omega, by go_num, HN.out HF.out⟩
            case measure => simp [intOf]; omega
        · have h0' : (what == 0) = false := by simpa using h0
          have HF : Hid (Call01.small ⟨what, at_, x, y⟩ = true) := by simp [Hid, Call01.small, h0]
          clear h0
          go_wp2
          go_round
          case rel => exact ⟨k + 1, by omega, by omega, by go_num, HN.out HF.out⟩
          case measure => simp [intOf]; omega
      · have hmm' : ¬ (k : Int) ≤ (many : Int) := by omega
        have HF : Hid (fewB l many = decide (n1 ≤ many)) := by rw [← HLL.out]; exact fewB_end HK.out (by omega) hkm
        go_wp2
        go_ret
        exact ⟨by rw [HF.out]; simp, rfl⟩
    · have hlt' : decide (k < n1) = false := by simpa using hlt
      have HF : Hid (fewB l many = decide (n1 ≤ many)) := by rw [← HLL.out]; exact fewB_end HK.out (by rw [HLL.out]; omega) hkm
      go_wp2
      go_ret
      exact ⟨by rw [HF.out]; simp, rfl⟩

/-- The reference's New. -/
theorem refNew (most : Nat) (w : World) (h1 : 1 ≤ most) (h2 : most ≤ 65536) : Calls Try.prog 33 #[.int .i64 (most : Int)] w fun e w' => e = .returned (.tuple #[refV (.slice none 0 0) most (.slice none 0 0), .int .i64 0]) ∧ Touch [] w w' := by
  have h1' : ¬ (most : Int) < 1 := by omega
  have h2' : ¬ 65536 < (most : Int) := by omega
  have HT := Lib.hid ((Touch.refl [] w).alloc (.cells #[.slice none 0 0, .int .i64 (most : Int), .slice none 0 0] 59))
  unfold refV
  go_enter Try.func33, Try.ntmps33
  go_wp2
  refine bodyPost_ret (v := .tuple #[.agg #[.slice none 0 0, .int .i64 (most : Int), .slice none 0 0], .int .i64 0]) (by simp [results, Try.results33, go_sem]) rfl ⟨rfl, HT.out⟩
theorem refNew_no (most : Int) (w : World) (h : most < 1 ∨ 65536 < most) : Calls Try.prog 33 #[.int .i64 most] w fun e w' => e = .returned (.tuple #[refV (.slice none 0 0) 0 (.slice none 0 0), .int .i64 2]) ∧ Touch [] w w' := by
  have HT := Lib.hid ((Touch.refl [] w).alloc (.cells #[.slice none 0 0, .int .i64 0, .slice none 0 0] 59))
  unfold refV
  by_cases h1 : most < 1
  · go_enter Try.func33, Try.ntmps33
    go_wp2
    refine bodyPost_ret (v := .tuple #[.agg #[.slice none 0 0, .int .i64 0, .slice none 0 0], .int .i64 2]) (by simp [results, Try.results33, go_sem]) rfl ⟨rfl, HT.out⟩
  · have h2 : 65536 < most := by omega
    clear h
    go_enter Try.func33, Try.ntmps33
    go_wp2
    refine bodyPost_ret (v := .tuple #[.agg #[.slice none 0 0, .int .i64 0, .slice none 0 0], .int .i64 2]) (by simp [results, Try.results33, go_sem]) rfl ⟨rfl, HT.out⟩
/-- The reference's Last, where all are remembered. -/
theorem refLast (w : World) (vc vl : Value) (s : Ar) (h : RefAt w vc vl s) (hL : s.L.length ≤ 1024) : Calls Try.prog 63 #[refV vc s.most vl] w fun e w' => e = .returned (.tuple #[.int .i64 0, vl]) ∧ Touch [] w w' := by
  obtain ⟨ca, cp, rfl, _, _⟩ := own_val h.cel
  obtain ⟨la, lp, rfl, hl1, hl2⟩ := own_val h.log
  have hsl := h.log
  have HT := Lib.hid ((Touch.refl [] w).alloc (.cells #[.slice ca s.C.length cp, .int .i64 (s.most : Int), .slice la s.L.length lp] 59))
  unfold refV
  clear h hsl
  unfold maxLen at hl2
  have hsub : IntKind.i64.wrap ((s.L.length : Int) - 1024) = (s.L.length : Int) - 1024 := IntWalk.i64_in _ (by omega)
  go_enter Try.func63, Try.ntmps63
  go_wp2
  go_quiet (fail)
  go_wp2
  go_ret2
  exact ⟨rfl, HT.out.drewN _⟩
end Go.Proofs.Ytegebecogbebaaa
