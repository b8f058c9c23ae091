/-
  QueueSame (betrothallaw13/law.go): its walk: for any two entries it returns true, and nothing that was there has turned.
-/
import Derived.Test.YtihmbgdkllmkaaaW13
namespace Go.Proofs.Ytihmbgdkllmkaaa
open Go.RowKit Go.Shelf
set_option maxRecDepth 100000
set_option linter.unusedVariables false
set_option linter.unusedSimpArgs false

/-- Two boxes of entries, and what is told of a third world. -/
theorem two_ents (x y : ME) (w w' : World) (ht : Touch [] ((w.alloc (.cells #[.int .i64 x.sync, .int .i64 x.thread, .int .i64 x.branch, .int .i64 x.flag, .int .i64 x.v.kind, .int .i64 x.v.num, .slice x.v.addr x.v.parts.length x.v.cap] 27)).alloc (.cells #[.int .i64 y.sync, .int .i64 y.thread, .int .i64 y.branch, .int .i64 y.flag, .int .i64 y.v.kind, .int .i64 y.v.num, .slice y.v.addr y.v.parts.length y.v.cap] 27)) w') :
    EntAt w' w.heap.size 0 x ∧ EntAt w' (w.heap.size + 1) 0 y ∧ w.heap.size < w'.heap.size ∧ w.heap.size + 1 < w'.heap.size := by
  have hL := ((Led.nil' w).al2 rfl).touch ht
  obtain ⟨c0, c1, c2, c3, c4, c5, c6, _, z, _⟩ := hL.c7 0 rfl
  obtain ⟨d0, d1, d2, d3, d4, d5, d6, _, z', _⟩ := hL.c7 1 rfl
  exact ⟨⟨c0, c1, c2, c3, c4, c5, c6⟩, ⟨d0, d1, d2, d3, d4, d5, d6⟩, z, z'⟩
theorem Size_small (t : MT) (w : World) (hin : t.In w) (hno : t.nodes ≤ 256) : Calls Try.prog 11 #[t.val] w fun e w' => e = .returned (.int .i64 (t.nodes : Int)) ∧ Touch [] w w' := by
  refine (Size_ref t w hin (by omega)).mono ?_
  rintro e w' ⟨rfl, ht⟩
  exact ⟨by rw [Nat.min_eq_left (by omega)], ht⟩
theorem Size_big (t : MT) (w : World) (hin : t.In w) (hno : t.nodes ≤ 1048576) (h : ¬ t.nodes ≤ 256) : Calls Try.prog 11 #[t.val] w fun e w' => e = .returned (.int .i64 257) ∧ Touch [] w w' := by
  refine (Size_ref t w hin hno).mono ?_
  rintro e w' ⟨rfl, ht⟩
  exact ⟨by rw [Nat.min_eq_right (by omega)]; rfl, ht⟩
theorem bool_eq {a b : Bool} {p q : Prop} (ha : a = true ↔ p) (hb : b = true ↔ q) (h : p ↔ q) : a = b := by
  rw [Bool.eq_iff_iff, ha, hb, h]
set_option maxHeartbeats 4000000 in
theorem queueSame_any (x y : ME) (w : World) (hx : x.v.In w) (hy : y.v.In w) (hnx : x.v.nodes ≤ 1048576) (hny : y.v.nodes ≤ 1048576) :
    Calls Try.prog 4 #[x.val, y.val] w fun e w' => e = .returned (.bool true) ∧ Below w.heap.size w w' := by
  by_cases cx : x.v.nodes ≤ 256
  · have dx : (x.v.nodes : Int) ≤ 256 := by omega
    by_cases cy : y.v.nodes ≤ 256
    · have dy : (y.v.nodes : Int) ≤ 256 := by omega
      have HSX := Lib.hid (fun W (hW : Touch [] w W) => Size_small x.v W (hx.touch0 hW) cx)
      have HSY := Lib.hid (fun W (hW : Touch [] w W) => Size_small y.v W (hy.touch0 hW) cy)
      have HRE := Lib.hid (fun W (hW : Touch [] w W) => SameEntry_ref x y W (hx.touch0 hW) (hy.touch0 hW) hnx hny)
      have HXY := Lib.hid (fun W (hW : Touch [] w W) => SameEntry_q x y W (hx.touch0 hW) (hy.touch0 hW))
      have HYX := Lib.hid (fun W (hW : Touch [] w W) => SameEntry_q y x W (hy.touch0 hW) (hx.touch0 hW))
      have HXX := Lib.hid (fun W (hW : Touch [] w W) => SameEntry_q x x W (hx.touch0 hW) (hx.touch0 hW))
      clear hx hy hnx hny
      simp only [ent_eq, val_eq] at HSX HSY HRE HXY HYX HXX ⊢
      have z1 : w.heap.size < w.heap.size + 1 := by omega
      have z2 : w.heap.size < w.heap.size + 1 + 1 := by omega
      have HT0 := Lib.hid (((Touch.refl [] w).alloc (.cells #[.int .i64 x.sync, .int .i64 x.thread, .int .i64 x.branch, .int .i64 x.flag, .int .i64 x.v.kind, .int .i64 x.v.num, .slice x.v.addr x.v.parts.length x.v.cap] 27)).alloc (.cells #[.int .i64 y.sync, .int .i64 y.thread, .int .i64 y.branch, .int .i64 y.flag, .int .i64 y.v.kind, .int .i64 y.v.num, .slice y.v.addr y.v.parts.length y.v.cap] 27))
      go_enter Try.func4, Try.ntmps4
      go_wp2_with fail
      refine (HSX.out _ HT0.out).mono ?_
      rintro e w1 ⟨rfl, ht⟩
      have HT := Lib.hid ht
      clear ht z1 z2
      obtain ⟨hx, hy, z1, z2⟩ := two_ents x y w w1 HT.out
      obtain ⟨x0, x1, x2, x3, x4, x5, x6⟩ := hx
      obtain ⟨y0, y1, y2, y3, y4, y5, y6⟩ := hy
      simp only [Nat.zero_add] at x1 x2 x3 x4 x5 x6 y1 y2 y3 y4 y5 y6
      go_wp2_with fail
      refine (HSY.out _ (HT0.out.trans' HT.out)).mono ?_
      rintro e w2 ⟨rfl, ht2⟩
      have HTN := Lib.hid (HT.out.trans' ht2)
      clear ht2 HT
      have HT := Lib.hid HTN.out
      clear HTN
      clear x0 x1 x2 x3 x4 x5 x6 y0 y1 y2 y3 y4 y5 y6 z1 z2
      obtain ⟨hx, hy, z1, z2⟩ := two_ents x y w w2 HT.out
      obtain ⟨x0, x1, x2, x3, x4, x5, x6⟩ := hx
      obtain ⟨y0, y1, y2, y3, y4, y5, y6⟩ := hy
      simp only [Nat.zero_add] at x1 x2 x3 x4 x5 x6 y1 y2 y3 y4 y5 y6
      go_wp2_with fail
      refine (HRE.out _ (HT0.out.trans' HT.out)).mono ?_
      rintro e w3 ⟨c1, rfl, hc1, ht2⟩
      have HTN := Lib.hid (HT.out.trans' ht2)
      clear ht2 HT
      have HT := Lib.hid HTN.out
      clear HTN
      clear x0 x1 x2 x3 x4 x5 x6 y0 y1 y2 y3 y4 y5 y6 z1 z2
      obtain ⟨hx, hy, z1, z2⟩ := two_ents x y w w3 HT.out
      obtain ⟨x0, x1, x2, x3, x4, x5, x6⟩ := hx
      obtain ⟨y0, y1, y2, y3, y4, y5, y6⟩ := hy
      simp only [Nat.zero_add] at x1 x2 x3 x4 x5 x6 y1 y2 y3 y4 y5 y6
      have HC1 : Hid (∀ c : Bool, (c = true ↔ x.v.nodes ≤ 256 ∧ y.v.nodes ≤ 256 ∧ x.plain = y.plain) → c = c1) := fun c h => bool_eq h hc1 Iff.rfl
      have HC2 : Hid (∀ c : Bool, (c = true ↔ y.v.nodes ≤ 256 ∧ x.v.nodes ≤ 256 ∧ y.plain = x.plain) → c = c1) := fun c h => bool_eq h hc1 ⟨fun ⟨a, b, c⟩ => ⟨b, a, c.symm⟩, fun ⟨a, b, c⟩ => ⟨b, a, c.symm⟩⟩
      clear hc1
      cases c1
      all_goals
        go_wp2_with fail
        refine (HXY.out _ (HT0.out.trans' HT.out)).mono ?_
        rintro e w4 ⟨c2, rfl, hc2, ht2⟩
        have HTN := Lib.hid (HT.out.trans' ht2)
        clear ht2 HT
        have HT := Lib.hid HTN.out
        clear HTN
        clear x0 x1 x2 x3 x4 x5 x6 y0 y1 y2 y3 y4 y5 y6 z1 z2
        obtain ⟨hx, hy, z1, z2⟩ := two_ents x y w w4 HT.out
        obtain ⟨x0, x1, x2, x3, x4, x5, x6⟩ := hx
        obtain ⟨y0, y1, y2, y3, y4, y5, y6⟩ := hy
        simp only [Nat.zero_add] at x1 x2 x3 x4 x5 x6 y1 y2 y3 y4 y5 y6
        obtain rfl := HC1.out _ hc2
        clear hc2
        go_wp2_with fail
        refine (HYX.out _ (HT0.out.trans' HT.out)).mono ?_
        rintro e w5 ⟨c3, rfl, hc3, ht2⟩
        have HTN := Lib.hid (HT.out.trans' ht2)
        clear ht2 HT
        have HT := Lib.hid HTN.out
        clear HTN
        clear x0 x1 x2 x3 x4 x5 x6 y0 y1 y2 y3 y4 y5 y6 z1 z2
        obtain ⟨hx, hy, z1, z2⟩ := two_ents x y w w5 HT.out
        obtain ⟨x0, x1, x2, x3, x4, x5, x6⟩ := hx
        obtain ⟨y0, y1, y2, y3, y4, y5, y6⟩ := hy
        simp only [Nat.zero_add] at x1 x2 x3 x4 x5 x6 y1 y2 y3 y4 y5 y6
        obtain rfl := HC2.out _ hc3
        clear hc3
        go_wp2_with fail
        refine (HXX.out _ (HT0.out.trans' HT.out)).mono ?_
        rintro e w6 ⟨c4, rfl, hc4, ht2⟩
        have HTN := Lib.hid (HT.out.trans' ht2)
        clear ht2 HT
        have HT := Lib.hid HTN.out
        clear HTN
        clear x0 x1 x2 x3 x4 x5 x6 y0 y1 y2 y3 y4 y5 y6 z1 z2
        obtain ⟨hx, hy, z1, z2⟩ := two_ents x y w w6 HT.out
        obtain ⟨x0, x1, x2, x3, x4, x5, x6⟩ := hx
        obtain ⟨y0, y1, y2, y3, y4, y5, y6⟩ := hy
        simp only [Nat.zero_add] at x1 x2 x3 x4 x5 x6 y1 y2 y3 y4 y5 y6
        obtain rfl : c4 = true := by rw [hc4]; simp [cx]
        clear hc4
        go_wp2_with fail
        refine (works13 _).mono ?_
        rintro e w9 ⟨rfl, ht⟩
        have HT2 := Lib.hid (HT.out.trans' ht)
        clear x0 x1 x2 x3 x4 x5 x6 y0 y1 y2 y3 y4 y5 y6 z1 z2
        clear ht HT
        go_wp2
        go_ret
        exact ⟨rfl, (HT0.out.trans' HT2.out).below⟩
    · have HSX := Lib.hid (fun W (hW : Touch [] w W) => Size_small x.v W (hx.touch0 hW) cx)
      have HSY := Lib.hid (fun W (hW : Touch [] w W) => Size_big y.v W (hy.touch0 hW) hny cy)
      have HRE := Lib.hid (fun W (hW : Touch [] w W) => SameEntry_ref x y W (hx.touch0 hW) (hy.touch0 hW) hnx hny)
      have HXY := Lib.hid (fun W (hW : Touch [] w W) => SameEntry_q x y W (hx.touch0 hW) (hy.touch0 hW))
      have HYX := Lib.hid (fun W (hW : Touch [] w W) => SameEntry_q y x W (hy.touch0 hW) (hx.touch0 hW))
      have HXX := Lib.hid (fun W (hW : Touch [] w W) => SameEntry_q x x W (hx.touch0 hW) (hx.touch0 hW))
      clear hx hy hnx hny
      simp only [ent_eq, val_eq] at HSX HSY HRE HXY HYX HXX ⊢
      have z1 : w.heap.size < w.heap.size + 1 := by omega
      have z2 : w.heap.size < w.heap.size + 1 + 1 := by omega
      have HT0 := Lib.hid (((Touch.refl [] w).alloc (.cells #[.int .i64 x.sync, .int .i64 x.thread, .int .i64 x.branch, .int .i64 x.flag, .int .i64 x.v.kind, .int .i64 x.v.num, .slice x.v.addr x.v.parts.length x.v.cap] 27)).alloc (.cells #[.int .i64 y.sync, .int .i64 y.thread, .int .i64 y.branch, .int .i64 y.flag, .int .i64 y.v.kind, .int .i64 y.v.num, .slice y.v.addr y.v.parts.length y.v.cap] 27))
      go_enter Try.func4, Try.ntmps4
      go_wp2_with fail
      refine (HSX.out _ HT0.out).mono ?_
      rintro e w1 ⟨rfl, ht⟩
      have HT := Lib.hid ht
      clear ht z1 z2
      obtain ⟨hx, hy, z1, z2⟩ := two_ents x y w w1 HT.out
      obtain ⟨x0, x1, x2, x3, x4, x5, x6⟩ := hx
      obtain ⟨y0, y1, y2, y3, y4, y5, y6⟩ := hy
      simp only [Nat.zero_add] at x1 x2 x3 x4 x5 x6 y1 y2 y3 y4 y5 y6
      go_wp2_with fail
      refine (HSY.out _ (HT0.out.trans' HT.out)).mono ?_
      rintro e w2 ⟨rfl, ht2⟩
      have HTN := Lib.hid (HT.out.trans' ht2)
      clear ht2 HT
      have HT := Lib.hid HTN.out
      clear HTN
      clear x0 x1 x2 x3 x4 x5 x6 y0 y1 y2 y3 y4 y5 y6 z1 z2
      obtain ⟨hx, hy, z1, z2⟩ := two_ents x y w w2 HT.out
      obtain ⟨x0, x1, x2, x3, x4, x5, x6⟩ := hx
      obtain ⟨y0, y1, y2, y3, y4, y5, y6⟩ := hy
      simp only [Nat.zero_add] at x1 x2 x3 x4 x5 x6 y1 y2 y3 y4 y5 y6
      go_wp2_with fail
      refine (works13 _).mono ?_
      rintro e w9 ⟨rfl, ht⟩
      have HT2 := Lib.hid (HT.out.trans' ht)
      clear x0 x1 x2 x3 x4 x5 x6 y0 y1 y2 y3 y4 y5 y6 z1 z2
      clear ht HT
      go_wp2
      go_ret
      exact ⟨rfl, (HT0.out.trans' HT2.out).below⟩
  · have HSX := Lib.hid (fun W (hW : Touch [] w W) => Size_big x.v W (hx.touch0 hW) hnx cx)
    have HSY := Lib.hid (fun W (hW : Touch [] w W) => Size_ref y.v W (hy.touch0 hW) hny)
    have HRE := Lib.hid (fun W (hW : Touch [] w W) => SameEntry_ref x y W (hx.touch0 hW) (hy.touch0 hW) hnx hny)
    have HXY := Lib.hid (fun W (hW : Touch [] w W) => SameEntry_q x y W (hx.touch0 hW) (hy.touch0 hW))
    have HYX := Lib.hid (fun W (hW : Touch [] w W) => SameEntry_q y x W (hy.touch0 hW) (hx.touch0 hW))
    have HXX := Lib.hid (fun W (hW : Touch [] w W) => SameEntry_q x x W (hx.touch0 hW) (hx.touch0 hW))
    clear hx hy hnx hny
    simp only [ent_eq, val_eq] at HSX HSY HRE HXY HYX HXX ⊢
    have z1 : w.heap.size < w.heap.size + 1 := by omega
    have z2 : w.heap.size < w.heap.size + 1 + 1 := by omega
    have HT0 := Lib.hid (((Touch.refl [] w).alloc (.cells #[.int .i64 x.sync, .int .i64 x.thread, .int .i64 x.branch, .int .i64 x.flag, .int .i64 x.v.kind, .int .i64 x.v.num, .slice x.v.addr x.v.parts.length x.v.cap] 27)).alloc (.cells #[.int .i64 y.sync, .int .i64 y.thread, .int .i64 y.branch, .int .i64 y.flag, .int .i64 y.v.kind, .int .i64 y.v.num, .slice y.v.addr y.v.parts.length y.v.cap] 27))
    go_enter Try.func4, Try.ntmps4
    go_wp2_with fail
    refine (HSX.out _ HT0.out).mono ?_
    rintro e w1 ⟨rfl, ht⟩
    have HT := Lib.hid ht
    clear ht z1 z2
    obtain ⟨hx, hy, z1, z2⟩ := two_ents x y w w1 HT.out
    obtain ⟨x0, x1, x2, x3, x4, x5, x6⟩ := hx
    obtain ⟨y0, y1, y2, y3, y4, y5, y6⟩ := hy
    simp only [Nat.zero_add] at x1 x2 x3 x4 x5 x6 y1 y2 y3 y4 y5 y6
    go_wp2_with fail
    refine (works13 _).mono ?_
    rintro e w9 ⟨rfl, ht⟩
    have HT2 := Lib.hid (HT.out.trans' ht)
    clear x0 x1 x2 x3 x4 x5 x6 y0 y1 y2 y3 y4 y5 y6 z1 z2
    clear ht HT
    go_wp2
    go_ret
    exact ⟨rfl, (HT0.out.trans' HT2.out).below⟩
end Go.Proofs.Ytihmbgdkllmkaaa
