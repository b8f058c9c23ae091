/-
  few() of law 15 (betrothallaw15/law.go): calls, each with an entry.
-/
import Derived.Test.YtihmbgdkllmkaaaQueueSameW
namespace Go.Proofs.Ytihmbgdkllmkaaa
open Go.RowKit Go.Shelf
set_option maxRecDepth 100000
set_option linter.unusedVariables false
set_option linter.unusedSimpArgs false

/-- A call of law 15: which, and its entry. -/
structure CA where
  what : Int
  e : ME
def CA.cells (x : CA) : List Value := .int .i64 x.what :: x.e.cells
/-- The cells of one call. -/
def CAAt (w : World) (b o : Nat) (x : CA) : Prop := w.cell? ⟨b, o, none⟩ = some (.int .i64 x.what) ∧ EntAt w b (o + 1) x.e
theorem CAAt.touch {w w' : World} {b o : Nat} {x : CA} (h : CAAt w b o x) (ht : Touch [] w w') : CAAt w' b o x := ⟨ht.cellOf h.1, h.2.touch ht⟩
def CAsAt (w : World) (a : Option Addr) (l : List CA) : Prop := ∀ i (hi : i < l.length), ∃ b o, a = some ⟨b, o, none⟩ ∧ b < w.heap.size ∧ CAAt w b (o + i * 8) l[i]
theorem CAsAt.touch {w w' : World} {a : Option Addr} {l : List CA} (h : CAsAt w a l) (ht : Touch [] w w') : CAsAt w' a l := fun i hi => by
  obtain ⟨b, o, ha, hb, he⟩ := h i hi
  exact ⟨b, o, ha, Nat.lt_of_lt_of_le hb ht.size, he.touch ht⟩
/-- At most so many, of values of 20 parts. -/
def Few15 (l : List CA) (most : Int) : Prop := (l.length : Int) ≤ most ∧ ∀ x ∈ l, x.e.v.nodes ≤ 20
set_option maxHeartbeats 1000000 in
theorem few15 (w : World) (a : Option Addr) (cap : Nat) (l : List CA) (most : Int) (hl : l.length ≤ 9223372036854775807) (ha : CAsAt w a l) (hin : ∀ x ∈ l, x.e.v.In w ∧ x.e.v.nodes ≤ 1048576) :
    Calls Try.prog 43 #[.slice a l.length cap, .int .i64 most] w (Tells (Few15 l most) w) := by
  by_cases hm : most < (l.length : Int)
  · go_enter Try.func43, Try.ntmps43
    go_wp2
    go_ret
    exact Tells.no (fun h => by have := h.1; omega) (Touch.refl [] w)
  · have HA := Lib.hid ha
    have HI := Lib.hid hin
    have hm' : ¬ most < (l.length : Int) := hm
    clear ha hin hm
    go_enter Try.func43, Try.ntmps43
    go_wp2
    go_loopw [5] (fun i wr => ∃ k : Nat, i = .int .i64 (k : Int) ∧ k ≤ l.length ∧ Hid (∀ j (h : j < l.length), j < k → l[j].e.v.nodes ≤ 20) ∧ Hid (Touch [] w wr)) (fun i _ => l.length - (intOf i).toNat)
    case atStart => exact ⟨0, rfl, Nat.zero_le _, fun j _ h => by omega, Touch.refl [] w⟩
    case round =>
      obtain ⟨k, rfl, hk, HS, HT⟩ := hrel
      have hk0 : (0 : Int) ≤ (k : Int) := by omega
      by_cases hlt : k < l.length
      · have hlt' : (k : Int) < (l.length : Int) := by omega
        obtain ⟨b, o, rfl, hb, c0, c1, c2, c3, c4, c5, c6, c7⟩ := (HA.out.touch HT.out) k hlt
        obtain ⟨hi1, hi2⟩ := HI.out _ (List.getElem_mem hlt)
        have HSZ := Lib.hid (Size_ref l[k].e.v wr (hi1.touch0 HT.out) hi2)
        obtain ⟨y, hy⟩ : ∃ y, l[k] = y := ⟨_, rfl⟩
        rw [hy] at c0 c1 c2 c3 c4 c5 c6 c7 HSZ
        rw [val_eq] at HSZ
        have HY := Lib.hid hy
        have q5 : wr.cell? ⟨b, o + k * 8 + 1 + 4 + 1, none⟩ = some (.int .i64 y.e.v.num) := c6
        have q6 : wr.cell? ⟨b, o + k * 8 + 1 + 4 + 2, none⟩ = some (.slice y.e.v.addr y.e.v.parts.length y.e.v.cap) := c7
        clear hy hi1 hi2 c6 c7
        by_cases hbig : y.e.v.nodes ≤ 20
        · have hbg : decide ((20 : Int) < ((min y.e.v.nodes 257 : Nat) : Int)) = false := by simp; omega
          obtain ⟨sz, hsz⟩ : ∃ sz, min y.e.v.nodes 257 = sz := ⟨_, rfl⟩
          rw [hsz] at HSZ hbg
          have hs20 : ¬ (20 : Int) < (sz : Int) := by omega
          clear hsz
          go_wp2_with fail
          refine HSZ.out.mono ?_
          rintro e w2 ⟨rfl, ht⟩
          have HT2 := Lib.hid (HT.out.trans' ht)
          clear ht c0 c1 c2 c3 c4 c5 q5 q6
          go_wp2
          go_roundw
          case rel => exact ⟨k + 1, by go_num, hlt, fun j hj hjk => by
            by_cases hjk2 : j < k
            · exact HS.out j hj hjk2
            · obtain rfl : j = k := by omega
              rw [HY.out]; exact hbig, HT2⟩
          case measure => simp [intOf]; omega
        · obtain ⟨sz, hsz⟩ : ∃ sz, min y.e.v.nodes 257 = sz := ⟨_, rfl⟩
          have hs20 : (20 : Int) < (sz : Int) := by omega
          rw [hsz] at HSZ
          clear hsz
          go_wp2_with fail
          refine HSZ.out.mono ?_
          rintro e w2 ⟨rfl, ht⟩
          have HT2 := Lib.hid (HT.out.trans' ht)
          clear ht c0 c1 c2 c3 c4 c5 q5 q6
          go_wp2
          go_ret
          exact Tells.no (fun h => hbig (by rw [← HY.out]; exact h.2 _ (List.getElem_mem hlt))) HT2.out
      · have hlt' : ¬ (k : Int) < (l.length : Int) := by omega
        go_wp2
        go_ret
        exact Tells.yes ⟨by omega, fun x hx => by obtain ⟨i, hi, rfl⟩ := List.mem_iff_getElem.1 hx; exact HS.out i hi (by omega)⟩ HT.out
end Go.Proofs.Ytihmbgdkllmkaaa
