/-
  few() of law 13 (betrothallaw13/law.go).
-/
import Derived.Test.YtihmbgdkllmkaaaAct13
namespace Go.Proofs.Ytihmbgdkllmkaaa
open Go.RowKit Go.Shelf
set_option maxRecDepth 100000
set_option linter.unusedVariables false
set_option linter.unusedSimpArgs false

/-- The cells of one call. -/
def CBAt (w : World) (b o : Nat) (x : CB) : Prop := w.cell? ⟨b, o, none⟩ = some (.int .i64 x.what) ∧ w.cell? ⟨b, o + 1, none⟩ = some (.int .i64 x.n) ∧ w.cell? ⟨b, o + 2, none⟩ = some (.int .i64 x.m) ∧ w.cell? ⟨b, o + 3, none⟩ = some (.slice x.a x.l.length x.cap)
theorem CBAt.touch {w w' : World} {b o : Nat} {x : CB} (h : CBAt w b o x) (ht : Touch [] w w') : CBAt w' b o x := ⟨ht.cellOf h.1, ht.cellOf h.2.1, ht.cellOf h.2.2.1, ht.cellOf h.2.2.2⟩
def CBsAt (w : World) (a : Option Addr) (l : List CB) : Prop := ∀ i (hi : i < l.length), ∃ b o, a = some ⟨b, o, none⟩ ∧ b < w.heap.size ∧ CBAt w b (o + i * 4) l[i]
theorem CBsAt.touch {w w' : World} {a : Option Addr} {l : List CB} (h : CBsAt w a l) (ht : Touch [] w w') : CBsAt w' a l := fun i hi => by
  obtain ⟨b, o, ha, hb, he⟩ := h i hi
  exact ⟨b, o, ha, Nat.lt_of_lt_of_le hb ht.size, he.touch ht⟩
theorem CB.In.touch {w w' : World} {x : CB} (h : x.In w) (ht : Touch [] w w') : x.In w' := ⟨h.1.touch ht, fun e he => (h.2 e he).touch0 ht⟩
/-- What few tells: if it is true, there are few. -/
def Fews13 (l : List CB) (most : Int) (w : World) (e : Ending) (w' : World) : Prop := ∃ c : Bool, e = .returned (.bool c) ∧ (c = true → (l.length : Int) ≤ most ∧ ∀ x ∈ l, x.Few) ∧ Touch [] w w'
set_option maxHeartbeats 4000000 in
theorem few13 (w : World) (a : Option Addr) (cap : Nat) (l : List CB) (most : Nat) (hmost : most ≤ 1000) (ha : CBsAt w a l) (hin : ∀ x ∈ l, x.In w ∧ (∀ e ∈ x.l, e.v.nodes ≤ 1048576) ∧ x.l.length ≤ 9223372036854775807) (hl : l.length ≤ 9223372036854775807) :
    Calls Try.prog 25 #[.slice a l.length cap, .int .i64 (most : Int)] w (Fews13 l most w) := by
  have HA := Lib.hid ha
  have HI := Lib.hid hin
  clear ha hin
  go_enter Try.func25, Try.ntmps25
  go_wp2_with fail
  go_loopw [5] (fun i wr => ∃ k : Nat, i = .int .i64 (k : Int) ∧ k ≤ l.length ∧ k ≤ most + 1 ∧ Hid (∀ j (h : j < l.length), j < k → l[j].Few) ∧ Hid (Touch [] w wr)) (fun i _ => l.length - (intOf i).toNat)
  case atStart => exact ⟨0, rfl, Nat.zero_le _, Nat.zero_le _, fun j _ h => by omega, Touch.refl [] w⟩
  case round =>
    obtain ⟨k, rfl, hk, hkm, HS, HT⟩ := hrel
    have hk0 : (0 : Int) ≤ (k : Int) := by omega
    by_cases hlt : k < l.length ∧ k ≤ most
    · obtain ⟨hlt, hle⟩ := hlt
      have hlt' : (k : Int) < (l.length : Int) := by omega
      have hle' : (k : Int) ≤ (most : Int) := by omega
      obtain ⟨b, o, rfl, hb, c0, c1, c2, c3⟩ := (HA.out.touch HT.out) k hlt
      have HB2 : Hid (∀ W, Touch [] w W → W.cell? ⟨b, o + k * 4 + 3, none⟩ = some (.slice l[k].a l[k].l.length l[k].cap) ∧ b < W.heap.size) := fun W hW => by
        obtain ⟨b', o', hbo, hb', d0, d1, d2, d3⟩ := (HA.out.touch hW) k hlt
        injection hbo with hbo
        injection hbo with h1 h2
        subst h1 h2
        exact ⟨d3, hb'⟩
      have HX := Lib.hid (HI.out _ (List.getElem_mem hlt))
      obtain ⟨x, hx⟩ : ∃ x, l[k] = x := ⟨_, rfl⟩
      rw [hx] at c3 HB2 HX
      have HXK := Lib.hid hx
      clear hx c0 c1 c2
      obtain ⟨xw, xn, xm, xa, xc, xl⟩ := x
      dsimp only at c3 HB2
      have hxm : xl.length ≤ 9223372036854775807 := HX.out.2.2
      by_cases h6 : (6 : Int) < (xl.length : Int)
      · go_wp2
        go_ret
        exact ⟨false, rfl, by simp, HT.out⟩
      · have h6' : xl.length ≤ 6 := by omega
        go_wp2_with fail
        go_loopw [6] (fun i wr2 => ∃ j : Nat, i = .int .i64 (j : Int) ∧ j ≤ xl.length ∧ Hid (∀ q (h : q < xl.length), q < j → xl[q].v.nodes ≤ 256) ∧ Hid (Touch [] w wr2)) (fun i _ => xl.length - (intOf i).toNat)
        case atStart => exact ⟨0, rfl, Nat.zero_le _, fun j _ h => by omega, HT⟩
        case round =>
          obtain ⟨j, rfl, hj, HS2, HT2⟩ := hrel
          clear HT c3 hb
          have hj0 : (0 : Int) ≤ (j : Int) := by omega
          obtain ⟨c3, hb⟩ := HB2.out _ HT2.out
          by_cases hjl : j < xl.length
          · have hjl' : (j : Int) < (xl.length : Int) := by omega
            have HXW := Lib.hid (HX.out.1.touch HT2.out)
            obtain ⟨b2, o2, hbo, hb2, p0, p1, p2, p3, p4, p5, p6⟩ := HXW.out.1 j hjl
            dsimp only at hbo
            subst hbo
            have HSZ := Lib.hid (Size_ref xl[j].v wr (HXW.out.2 _ (List.getElem_mem hjl)) (HX.out.2.1 _ (List.getElem_mem hjl)))
            obtain ⟨y, hy⟩ : ∃ y, xl[j] = y := ⟨_, rfl⟩
            have hy' : (CB.mk xw xn xm (some ⟨b2, o2, none⟩) xc xl).l[j] = y := hy
            rw [hy'] at p0 p1 p2 p3 p4 p5 p6
            rw [hy] at HSZ
            rw [val_eq] at HSZ
            have HY := Lib.hid hy
            have q5 : wr.cell? ⟨b2, o2 + j * 7 + 4 + 1, none⟩ = some (.int .i64 y.v.num) := p5
            have q6 : wr.cell? ⟨b2, o2 + j * 7 + 4 + 2, none⟩ = some (.slice y.v.addr y.v.parts.length y.v.cap) := p6
            clear hy hy' p0 p1 p2 p3 p5 p6
            by_cases hbig : y.v.nodes ≤ 256
            · obtain ⟨sz, hsz⟩ : ∃ sz, min y.v.nodes 257 = sz := ⟨_, rfl⟩
              rw [hsz] at HSZ
              have hs20 : ¬ (256 : Int) < (sz : Int) := by omega
              clear hsz
              go_wp2_with fail
              refine HSZ.out.mono ?_
              rintro e w2 ⟨rfl, ht⟩
              have HT3 := Lib.hid (HT2.out.trans' ht)
              clear ht p4 q5 q6
              go_wp2
              go_roundw
              case rel => exact ⟨j + 1, by go_num, hjl, fun q hq hqk => by
                by_cases hqk2 : q < j
                · exact HS2.out q hq hqk2
                · obtain rfl : q = j := by omega
                  rw [HY.out]; exact hbig, HT3⟩
              case measure => simp [intOf]; omega
            · obtain ⟨sz, hsz⟩ : ∃ sz, min y.v.nodes 257 = sz := ⟨_, rfl⟩
              have hs20 : (256 : Int) < (sz : Int) := by omega
              rw [hsz] at HSZ
              clear hsz
              go_wp2_with fail
              refine HSZ.out.mono ?_
              rintro e w2 ⟨rfl, ht⟩
              have HT3 := Lib.hid (HT2.out.trans' ht)
              clear ht p4 q5 q6
              go_wp2
              go_ret
              exact ⟨false, rfl, by simp, HT3.out⟩
          · have hjl' : ¬ (j : Int) < (xl.length : Int) := by omega
            have HFW : Hid (∀ j (h : j < l.length), j < k + 1 → l[j].Few) := by
              intro q hq hqk
              by_cases hqk2 : q < k
              · exact HS.out q hq hqk2
              · obtain rfl : q = k := by omega
                rw [HXK.out]
                refine ⟨h6', fun e he => ?_⟩
                obtain ⟨i, hi, rfl⟩ := List.mem_iff_getElem.1 he
                exact HS2.out i hi (by have : i < xl.length := hi; omega)
            go_wp2
            go_roundw
            case rel => exact ⟨k + 1, by go_num, hlt, by omega, HFW, HT2⟩
            case measure => simp [intOf]; omega
    · by_cases hkl : k < l.length
      · have hkl' : (k : Int) < (l.length : Int) := by omega
        have hkm2 : ¬ (k : Int) ≤ (most : Int) := by omega
        have hend : decide ((l.length : Int) ≤ (most : Int)) = false := by simp; omega
        have hend2 : ¬ (l.length : Int) ≤ (most : Int) := by omega
        go_wp2
        go_ret
        exact ⟨_, rfl, fun h => by simp at h, HT.out⟩
      · have hkl' : ¬ (k : Int) < (l.length : Int) := by omega
        obtain rfl : k = l.length := by omega
        go_wp2
        go_ret
        exact ⟨_, rfl, fun h => ⟨by simpa using h, fun x hx => by obtain ⟨i, hi, rfl⟩ := List.mem_iff_getElem.1 hx; exact HS.out i hi hi⟩, HT.out⟩
end Go.Proofs.Ytihmbgdkllmkaaa
