/-
  CondHolds (betrothallaw15/law.go): its walk: for every slice of bytes it returns true, and nothing that was there has turned.
-/
import Derived.Test.YtihmbgdkllmkaaaW15
import Derived.Test.YtihmbgdkllmkaaaBytes
namespace Go.Proofs.Ytihmbgdkllmkaaa
open Go.RowKit Go.Shelf
set_option maxRecDepth 100000
set_option linter.unusedVariables false
set_option linter.unusedSimpArgs false

set_option maxHeartbeats 2000000 in
theorem condHolds_out (a1 : Option Addr) (n1 c1 : Nat) (w : World) (hn1 : n1 ≤ 9223372036854775807) (h : 60 < n1) :
    Calls Try.prog 8 #[.slice a1 n1 c1] w fun e w' => e = .returned (.bool true) ∧ Below w.heap.size w w' := by
  have h' : (60 : Int) < (n1 : Int) := by omega
  go_enter Try.func8, Try.ntmps8
  go_wp2_with fail
  refine (works15 _).mono ?_
  rintro e w' ⟨rfl, hb⟩
  have HB := Lib.hid hb.below
  clear hb
  go_wp2
  go_ret
  exact ⟨rfl, HB.out⟩
/-- Who waits: numbers in order from wt on. -/
def InRow (es : List ME) (wt : Nat) : Prop := ∀ j (h : j < es.length), (es[j]).sync = ((wt + j : Nat) : Int)
theorem InRow.nil (wt : Nat) : InRow [] wt := fun j h => by simp at h
theorem InRow.snoc {es : List ME} {wt cm : Nat} {y : ME} (h : InRow es wt) (hc : es.length + wt = cm) (hy : y.plain = pOf (cm : Int) 0) : InRow (es ++ [y]) wt := by
  intro j hj
  by_cases hlt : j < es.length
  · rw [List.getElem_append_left hlt]; exact h j hlt
  · have : j = es.length := by simp at hj; omega
    subst this
    rw [List.getElem_append_right (Nat.le_refl _)]
    simp
    rw [show y.sync = (cm : Int) from congrArg PE.sync hy]
    omega
theorem InRow.tail {x : ME} {r : List ME} {wt : Nat} (h : InRow (x :: r) wt) : x.sync = (wt : Int) ∧ InRow r (wt + 1) := by
  refine ⟨by have := h 0 (by simp); simpa using this, fun j hj => ?_⟩
  have := h (j + 1) (by simpa using hj)
  simp only [List.getElem_cons_succ] at this
  rw [this]
  omega

set_option maxHeartbeats 8000000 in
theorem condHolds_in (a1 : Option Addr) (n1 c1 : Nat) (z : List Nat) (w : World) (hn1 : n1 ≤ 60) (hll : z.length = n1) (hz : BytesAt w a1 z) :
    Calls Try.prog 8 #[.slice a1 n1 c1] w fun e w' => e = .returned (.bool true) ∧ Below w.heap.size w w' := by
  have h' : ¬ (60 : Int) < (n1 : Int) := by omega
  have HZ := Lib.hid hz
  have HLZ := Lib.hid hll
  clear hz hll
  go_enter Try.func8, Try.ntmps8
  go_wp2_with fail
  refine ((Led.nil' w).arNew 2 (by omega) (by omega)).mono ?_
  rintro e w1 ⟨rfl, hh⟩
  have HL1 := Lib.hid hh
  simp only [List.nil_append] at HL1
  obtain ⟨g, hg⟩ : ∃ b, w.heap.size = b := ⟨_, rfl⟩
  rw [hg] at HL1 ⊢
  clear hh hg
  go_wp2_with fail
  refine (HL1.out.new2 (by omega) 0 rfl).mono ?_
  rintro e w2 ⟨q, c, rfl, hL⟩
  have HL2 := Lib.hid hL
  simp only [List.set_cons_zero, List.cons_append, List.nil_append] at HL2
  clear hL HL1
  go_wp2_with fail
  refine (num15 _ _).mono ?_
  rintro e wn ⟨rfl, rfl⟩
  go_wp2_with fail
  refine (num15 _ _).mono ?_
  rintro e wn ⟨rfl, rfl⟩
  go_wp2_with fail
  go_loopw [7, 8, 9, 10] (fun fi ca we i wr => ∃ (k F cm wt b : Nat) (Lg : List Acc) (es : List ME) (vs : List MT), k ≤ n1 ∧ F ≤ k ∧ cm ≤ k ∧ wt ≤ cm ∧ i = .int .i64 (k : Int) ∧ fi = .int .i64 (F : Int) ∧ ca = .int .i64 (cm : Int) ∧ we = .int .i64 (wt : Int) ∧ ((b = 0 ∧ F = 0) ∨ (b = 1 ∧ 0 < F)) ∧ Lg.length ≤ k ∧ Hid (InRow es wt) ∧ Hid (es.length + wt = cm) ∧
    Hid (Led [] w wr [arena g (twoC 2 0 b Lg), queueT q es, valsT vs, box c 90 #[.int .i64 0, .int .i64 1, .pointer (some ⟨q, 0, none⟩)]])) (fun _ _ _ i _ => n1 - (intOf i).toNat)
  case atStart => exact ⟨0, 0, 0, 0, 0, [], [], [], Nat.zero_le _, Nat.le_refl _, Nat.le_refl _, Nat.le_refl _, rfl, rfl, rfl, rfl, .inl ⟨rfl, rfl⟩, Nat.zero_le _, InRow.nil 0, rfl, HL2⟩
  case round =>
    obtain ⟨k, F, cm, wt, b, Lg, es, vs, hk, hF, hcm, hwt, rfl, rfl, rfl, rfl, hb, hlg, HR, HN, HL⟩ := hrel
    by_cases hlt : k < n1
    · have hlt' : (k : Int) < (n1 : Int) := by omega
      obtain ⟨b1, o1, rfl, hb1, hv1⟩ := HZ.out.2 k (by rw [HLZ.out]; exact hlt)
      have hzb := HZ.out.1 _ (List.getElem_mem (show k < z.length by rw [HLZ.out]; exact hlt))
      obtain ⟨x, hx⟩ : ∃ x, z[k]'(by rw [HLZ.out]; exact hlt) = x := ⟨_, rfl⟩
      rw [hx] at hv1 hzb
      have cb : wr.cell? ⟨b1, o1 + k, none⟩ = some (.int .u8 (x : Int)) := (HL.out.below.cell (p := ⟨b1, o1 + k, none⟩) hb1).trans hv1
      have hk0 : (0 : Int) ≤ (k : Int) := by omega
      have hesn : es.length ≤ 60 := by have := HN.out; omega
      clear hx hv1
      have h4 : x % 4 = 0 ∨ x % 4 = 1 ∨ x % 4 = 2 ∨ x % 4 = 3 := by omega
      rcases h4 with h4 | h4 | h4 | h4
      · have t0 : ((x : Int) % 4 == 0) = true := by simp; omega
        clear h4
        rcases hb with ⟨rfl, rfl⟩ | ⟨rfl, hF0⟩
        · go_wp2_with fail
          refine (HL.out.fire2 0 3 rfl rfl k hlg (by omega) (by decide)).mono ?_
          rintro e w3 ⟨L3, rfl, hl3, hL⟩
          have HL3 := Lib.hid hL
          simp only [List.set_cons_zero, List.set_cons_succ] at HL3
          clear hL HL
          go_wp2_with fail
          refine (num15 _ _).mono ?_
          rintro e wn ⟨rfl, rfl⟩
          have HLL : Hid ((es.length : Int) = ((cm : Nat) : Int) - ((wt : Nat) : Int)) := by have := HN.out; unfold Hid; omega
          go_wp2_with fail
          refine (HL3.out.cLen 1 3 rfl rfl).mono ?_
          rintro e w9 ⟨rfl, rfl⟩
          rw [HLL.out]
          go_wp2_with fail
          go_roundw
          case rel => exact ⟨k + 1, 1, cm, wt, 1, L3, es, _, by omega, by omega, by omega, by omega, by go_num, by go_num, by go_num, by go_num, .inr ⟨rfl, by omega⟩, by omega, HR, HN, HL3⟩
          case measure => simp [intOf]; omega
        · have hFe : ((F : Int) == 0) = false := by simp; omega
          go_wp2_with fail
          refine (HL.out.fire2 0 3 rfl rfl k hlg (by omega) (by decide)).mono ?_
          rintro e w3 ⟨L3, rfl, hl3, hL⟩
          have HL3 := Lib.hid hL
          simp only [List.set_cons_zero, List.set_cons_succ] at HL3
          clear hL HL
          go_wp2_with fail
          refine (num15 _ _).mono ?_
          rintro e wn ⟨rfl, rfl⟩
          have HLL : Hid ((es.length : Int) = ((cm : Nat) : Int) - ((wt : Nat) : Int)) := by have := HN.out; unfold Hid; omega
          go_wp2_with fail
          refine (HL3.out.cLen 1 3 rfl rfl).mono ?_
          rintro e w9 ⟨rfl, rfl⟩
          rw [HLL.out]
          go_wp2_with fail
          go_roundw
          case rel => exact ⟨k + 1, F + 1, cm, wt, 1, L3, es, _, by omega, by omega, by omega, by omega, by go_num, by go_num, by go_num, by go_num, .inr ⟨rfl, by omega⟩, by omega, HR, HN, HL3⟩
          case measure => simp [intOf]; omega
      · have t0 : ((x : Int) % 4 == 0) = false := by simp; omega
        have t1 : ((x : Int) % 4 == 1) = true := by simp; omega
        clear h4
        go_wp2_with fail
        refine (sync15 _ _).mono ?_
        rintro e w3 ⟨rfl, ht⟩
        have HL3 := Lib.hid (HL.out.touch ht)
        clear ht HL
        go_wp2_with fail
        refine (HL3.out.wait2 _ (by omega) 1 2 3 rfl rfl (by decide) (by decide) (by decide) rfl (by omega)).mono ?_
        rintro e w4 ⟨y, rfl, hy, hL⟩
        have HL4 := Lib.hid hL
        simp only [List.set_cons_zero, List.set_cons_succ] at HL4
        have HR2 : Hid (InRow (es ++ [y]) wt) := HR.out.snoc HN.out hy
        have HN2 : Hid ((es ++ [y]).length + wt = cm + 1) := by have := HN.out; unfold Hid; simp; omega
        clear hL HL3 hy HR
        go_wp2_with fail
        refine (num15 _ _).mono ?_
        rintro e wn ⟨rfl, rfl⟩
        have HLL : Hid (((es ++ [y]).length : Int) = ((cm + 1 : Nat) : Int) - ((wt : Nat) : Int)) := by have := HN2.out; unfold Hid; omega
        go_wp2_with fail
        refine (HL4.out.cLen 1 3 rfl rfl).mono ?_
        rintro e w9 ⟨rfl, rfl⟩
        rw [HLL.out]
        go_wp2_with fail
        go_roundw
        case rel => exact ⟨k + 1, F, cm + 1, wt, b, Lg, (es ++ [y]), _, by omega, by omega, by omega, by omega, by go_num, by go_num, by go_num, by go_num, hb, by omega, HR2, HN2, HL4⟩
        case measure => simp [intOf]; omega
      · have t0 : ((x : Int) % 4 == 0) = false := by simp; omega
        have t1 : ((x : Int) % 4 == 1) = false := by simp; omega
        have t2 : ((x : Int) % 4 == 2) = true := by simp; omega
        clear h4
        go_wp2_with fail
        refine (HL.out.cNext 1 3 rfl rfl (by omega)).mono ?_
        rintro e w3 (⟨y, r, rfl, rfl, hL⟩ | ⟨rfl, rfl, hL⟩)
        · obtain ⟨hs, hr⟩ := HR.out.tail
          have HR2 := Lib.hid hr
          have HN2 : Hid (r.length + (wt + 1) = cm) := by have := HN.out; unfold Hid; simp at this; omega
          have hwc : decide ((wt : Int) < (cm : Int)) = true := by have := HN.out; simp at this ⊢; omega
          have hwc' : wt + 1 ≤ cm := by have := HN2.out; omega
          have HL3 := Lib.hid (hL.alloc 27 #[.int .i64 y.sync, .int .i64 y.thread, .int .i64 y.branch, .int .i64 y.flag, .int .i64 y.v.kind, .int .i64 y.v.num, .slice y.v.addr y.v.parts.length y.v.cap])
          simp only [List.set_cons_zero, List.set_cons_succ, List.nil_append, List.cons_append] at HL3
          rw [hs] at HL3
          simp only [ent_eq]
          rw [hs]
          have HL4 : Hid (Led [] w (w3.alloc (.cells #[.int .i64 (wt : Int), .int .i64 y.thread, .int .i64 y.branch, .int .i64 y.flag, .int .i64 y.v.kind, .int .i64 y.v.num, .slice y.v.addr y.v.parts.length y.v.cap] 27)) [arena g (twoC 2 0 b Lg), queueT q r, valsT vs, box c 90 #[.int .i64 0, .int .i64 1, .pointer (some ⟨q, 0, none⟩)]]) := HL3.out.sel [0, 1, 2, 3] rfl (by decide)
          clear hL HL hr HR hs HL3
          have HLL : Hid ((r.length : Int) = ((cm : Nat) : Int) - (((wt + 1) : Nat) : Int)) := by have := HN2.out; unfold Hid; omega
          go_wp2_with fail
          refine (HL4.out.cLen 1 3 rfl rfl).mono ?_
          rintro e w9 ⟨rfl, rfl⟩
          rw [HLL.out]
          go_wp2_with fail
          go_roundw
          case rel => exact ⟨k + 1, F, cm, (wt + 1), b, Lg, r, _, by omega, by omega, by omega, by omega, by go_num, by go_num, by go_num, by go_num, hb, by omega, HR2, HN2, HL4⟩
          case measure => simp [intOf]; omega
        · have hwc : decide (wt < cm) = false := by have := HN.out; simp at this ⊢; omega
          have hwn : cm ≤ wt := by have := HN.out; simp at this; omega
          have HL3 := Lib.hid (hL.alloc 27 #[.int .i64 0, .int .i64 0, .int .i64 0, .int .i64 0, .int .i64 0, .int .i64 0, .slice none 0 0])
          simp only [List.set_cons_zero, List.set_cons_succ, List.nil_append, List.cons_append] at HL3
          have HL4 : Hid (Led [] w (w3.alloc (.cells #[.int .i64 0, .int .i64 0, .int .i64 0, .int .i64 0, .int .i64 0, .int .i64 0, .slice none 0 0] 27)) [arena g (twoC 2 0 b Lg), queueT q [], valsT vs, box c 90 #[.int .i64 0, .int .i64 1, .pointer (some ⟨q, 0, none⟩)]]) := HL3.out.sel [0, 1, 2, 3] rfl (by decide)
          clear hL HL HL3
          rw [zero_val]
          have HLL : Hid ((([] : List ME).length : Int) = ((cm : Nat) : Int) - ((wt : Nat) : Int)) := by have := HN.out; unfold Hid; omega
          go_wp2_with fail
          refine (HL4.out.cLen 1 3 rfl rfl).mono ?_
          rintro e w9 ⟨rfl, rfl⟩
          rw [HLL.out]
          go_wp2_with fail
          go_roundw
          case rel => exact ⟨k + 1, F, cm, wt, b, Lg, ([] : List ME), _, by omega, by omega, by omega, by omega, by go_num, by go_num, by go_num, by go_num, hb, by omega, HR, HN, HL4⟩
          case measure => simp [intOf]; omega
      · have t0 : ((x : Int) % 4 == 0) = false := by simp; omega
        have t1 : ((x : Int) % 4 == 1) = false := by simp; omega
        have t2 : ((x : Int) % 4 == 2) = false := by simp; omega
        clear h4
        rcases hb with ⟨rfl, rfl⟩ | ⟨rfl, hF0⟩
        · go_wp2_with fail
          refine (HL.out.fired2 0 3 rfl rfl k hlg (by omega)).mono ?_
          rintro e w3 ⟨L3, rfl, hl3, hL⟩
          have HL3 := Lib.hid hL
          simp only [List.set_cons_zero, List.set_cons_succ] at HL3
          clear hL HL
          go_wp2_with fail
          refine (num15 _ _).mono ?_
          rintro e wn ⟨rfl, rfl⟩
          have HLL : Hid ((es.length : Int) = ((cm : Nat) : Int) - ((wt : Nat) : Int)) := by have := HN.out; unfold Hid; omega
          go_wp2_with fail
          refine (HL3.out.cLen 1 3 rfl rfl).mono ?_
          rintro e w9 ⟨rfl, rfl⟩
          rw [HLL.out]
          go_wp2_with fail
          go_roundw
          case rel => exact ⟨k + 1, 0, cm, wt, 0, L3, es, _, by omega, by omega, by omega, by omega, by go_num, by go_num, by go_num, by go_num, .inl ⟨rfl, rfl⟩, by omega, HR, HN, HL3⟩
          case measure => simp [intOf]; omega
        · have hFe : decide ((0 : Int) < (F : Int)) = true := by simp; omega
          go_wp2_with fail
          refine (HL.out.fired2 0 3 rfl rfl k hlg (by omega)).mono ?_
          rintro e w3 ⟨L3, rfl, hl3, hL⟩
          have HL3 := Lib.hid hL
          simp only [List.set_cons_zero, List.set_cons_succ] at HL3
          clear hL HL
          go_wp2_with fail
          refine (num15 _ _).mono ?_
          rintro e wn ⟨rfl, rfl⟩
          have HLL : Hid ((es.length : Int) = ((cm : Nat) : Int) - ((wt : Nat) : Int)) := by have := HN.out; unfold Hid; omega
          go_wp2_with fail
          refine (HL3.out.cLen 1 3 rfl rfl).mono ?_
          rintro e w9 ⟨rfl, rfl⟩
          rw [HLL.out]
          go_wp2_with fail
          go_roundw
          case rel => exact ⟨k + 1, F, cm, wt, 1, L3, es, _, by omega, by omega, by omega, by omega, by go_num, by go_num, by go_num, by go_num, .inr ⟨rfl, hF0⟩, by omega, HR, HN, HL3⟩
          case measure => simp [intOf]; omega
    · have hlt' : ¬ (k : Int) < (n1 : Int) := by omega
      go_wp2_with fail
      refine (works15 _).mono ?_
      rintro e w' ⟨rfl, ht⟩
      have HT := Lib.hid (HL.out.tch.trans' ht)
      clear ht HL
      go_wp2
      go_ret
      exact ⟨rfl, HT.out.below⟩
theorem condHolds_any (a1 : Option Addr) (n1 c1 : Nat) (z : List Nat) (w : World) (hn1 : n1 ≤ maxLen) (hll : z.length = n1) (hz : BytesAt w a1 z) :
    Calls Try.prog 8 #[.slice a1 n1 c1] w fun e w' => e = .returned (.bool true) ∧ Below w.heap.size w w' := by
  by_cases h : n1 ≤ 60
  · exact condHolds_in a1 n1 c1 z w h hll hz
  · exact condHolds_out a1 n1 c1 w (by simp only [maxLen] at hn1; omega) (by omega)
end Go.Proofs.Ytihmbgdkllmkaaa
