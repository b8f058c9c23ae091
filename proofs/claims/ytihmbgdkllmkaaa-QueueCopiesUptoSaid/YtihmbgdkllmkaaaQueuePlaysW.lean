/-
  QueuePlays (betrothallaw13/law.go): its walk: for all calls and both arguments it returns true, and nothing that was there has turned.
-/
import Derived.Test.YtihmbgdkllmkaaaFew13
import Derived.Test.YtihmbgdkllmkaaaAct13b
import Derived.Test.YtihmbgdkllmkaaaIs13
import Derived.Test.YtihmbgdkllmkaaaW13
namespace Go.Proofs.Ytihmbgdkllmkaaa
open Go.RowKit Go.Shelf
set_option maxRecDepth 100000
set_option linter.unusedVariables false
set_option linter.unusedSimpArgs false

theorem Old.size {w W : World} (h : Old w W) : w.heap.size ≤ W.heap.size := by
  by_cases h0 : w.heap.size = 0
  · omega
  · have h1 := h (w.heap.size - 1) (by omega)
    rw [Array.getElem?_eq_getElem (show w.heap.size - 1 < w.heap.size by omega)] at h1
    have := (Array.getElem?_eq_some_iff.1 h1).1
    omega
theorem Old.touch {w W : World} (h : Old w W) : Touch [] w { W with os := w.os, tape := w.tape, output := w.output } := ⟨rfl, rfl, rfl, h.size, fun k hk _ => h k hk⟩
theorem EntsAt.heap {w W : World} {a : Option Addr} {l : List ME} (h : EntsAt w a l) (he : ∀ k : Nat, W.heap[k]? = w.heap[k]?) : EntsAt W a l := fun i hi => by
  obtain ⟨b, o, ha, hb, c0, c1, c2, c3, c4, c5, c6⟩ := h i hi
  have hc : ∀ j, W.cell? ⟨b, j, none⟩ = w.cell? ⟨b, j, none⟩ := fun j => by simp [World.cell?, he b]
  have hb2 : b < W.heap.size := by
    have := he b
    rw [Array.getElem?_eq_getElem hb] at this
    exact (Array.getElem?_eq_some_iff.1 this).1
  exact ⟨b, o, ha, hb2, (hc _).trans c0, (hc _).trans c1, (hc _).trans c2, (hc _).trans c3, (hc _).trans c4, (hc _).trans c5, (hc _).trans c6⟩
theorem CB.In.old {w W : World} {x : CB} (h : x.In w) (ho : Old w W) : x.In W :=
  have h2 := h.touch ho.touch
  ⟨h2.1.heap (fun _ => rfl), fun e he => (h2.2 e he).keep (fun _ _ => rfl)⟩
theorem build_rq0 (w : World) : (Instr.build 54 #[]).run Try.prog w = .ok (.agg #[.slice none 0 0]) w := run_build w 54 _ _ (by kernel_rfl)
theorem both0 (P : World → Prop) : Both13 P [] [] none 0 := ⟨rfl, Nat.le_refl _, Nat.zero_le _, by simp, fun W _ => ⟨by simp, fun i hi => by simp at hi, by simp⟩⟩
/-- is13, from the ledger. -/
theorem Led.is13 {T : List Nat} {w0 w : World} {l : List Thing} {P : World → Prop} {g : Nat} {es rs : List ME} {a : Option Addr} {cap : Nat} (h : Led T w0 w l) (i j : Nat) (hi : l[i]? = some (queueT g es)) (hj : l[j]? = some (stillT P)) (hB : Both13 P es rs a cap) (n m z : Int) (hm : 0 ≤ z ∧ z ≤ 10000) :
    Calls Try.prog 27 #[.pointer (some ⟨g, 0, none⟩), .agg #[.slice a rs.length cap], .int .i64 n, .int .i64 m, .int .i64 z] w fun e w' => e = .returned (.bool true) ∧ Touch [] w w' := by
  obtain ⟨many, rfl⟩ := Int.eq_ofNat_of_zero_le hm.1
  exact have hP := hB.2.2.2.2 w (h.still j hj)
  Proofs.Ytihmbgdkllmkaaa.is13 w g es rs a cap n m many (h.qAt i hi) (fun e he => ⟨hP.1 e he, hB.2.2.2.1 e he⟩) hP.2.1 (fun r hr => ⟨hP.2.2 r hr, hB.rnodes r hr⟩) hB.1 hB.2.2.1 (by omega)
set_option maxHeartbeats 8000000 in
theorem queuePlays_any (w : World) (a0 : Option Addr) (c0 : Nat) (l : List CB) (n m : Int) (ha : CBsAt w a0 l) (hin : ∀ x ∈ l, x.In w ∧ (∀ e ∈ x.l, e.v.nodes ≤ 1048576) ∧ x.l.length ≤ 9223372036854775807) (hl : l.length ≤ 9223372036854775807) :
    Calls Try.prog 6 #[.slice a0 l.length c0, .int .i64 n, .int .i64 m] w fun e w' => e = .returned (.bool true) ∧ Below w.heap.size w w' := by
  have HA := Lib.hid ha
  have HI := Lib.hid hin
  have HL0 := Lib.hid (Led.old0 w)
  have hb0 := build_rq0
  generalize hTT : List.range w.heap.size = T at HL0
  clear ha hin hTT
  have HF := Lib.hid (few13 w a0 c0 l 40 (by omega) HA.out HI.out hl)
  go_enter Try.func6, Try.ntmps6
  go_wp2_with fail
  refine HF.out.mono ?_
  rintro e w1 ⟨cc, rfl, hcc, ht⟩
  have HL1 := Lib.hid (HL0.out.touch ht)
  have HT := Lib.hid ht
  have HCC := Lib.hid hcc
  clear hcc ht HL0 HF
  cases cc with
  | false =>
    go_wp2_with fail
    refine (works13 _).mono ?_
    rintro e w9 ⟨rfl, ht⟩
    have HT9 := Lib.hid (HT.out.trans' ht)
    clear ht
    go_wp2
    go_ret
    exact ⟨rfl, HT9.out.below⟩
  | true =>
    have HFW := Lib.hid (HCC.out rfl).2
    have hl40 : l.length ≤ 40 := by have := (HCC.out rfl).1; omega
    clear HCC HT
    go_wp2_with fail
    refine (New_q w1 HL1.out).mono ?_
    rintro e w2 ⟨g, rfl, hL⟩
    have HL2 := Lib.hid hL
    simp only [List.nil_append, List.cons_append] at HL2
    clear hL HL1
    go_wp2_with fail
    refine wp_name ?_
    intro w3 hw3
    have HL3 := Lib.hid (HL2.out.al1 hw3)
    simp only [List.nil_append, List.cons_append] at HL3
    obtain ⟨b8, hb8⟩ : ∃ b, w2.heap.size = b := ⟨_, rfl⟩
    rw [hb8] at HL3 ⊢
    clear hw3 hb8 HL2
    go_loopw [7, 9, 10] (fun q fine i wr => ∃ (k g : Nat) (es rs : List ME) (a : Option Addr) (cap : Nat) (P : World → Prop), i = .int .i64 (k : Int) ∧ fine = .bool true ∧ q = .pointer (some ⟨g, 0, none⟩) ∧ k ≤ l.length ∧ Hid (Both13 P es rs a cap) ∧ Hid (∀ W, P W → Old w W) ∧
      Hid (Led T w wr [stillT P, queueT g es, box b8 54 #[.slice a rs.length cap]])) (fun _ _ i _ => l.length - (intOf i).toNat)
    case atStart => exact ⟨0, g, [], [], none, 0, Old w, rfl, rfl, rfl, Nat.zero_le _, both0 _, fun W h => h, HL3⟩
    case round =>
      obtain ⟨k, g, es, rs, a, cap, P, rfl, rfl, rfl, hk, HB, HO, HK⟩ := hrel
      clear HL3
      have hk0 : (0 : Int) ≤ (k : Int) := by omega
      obtain ⟨v0, vf, hl8, _, _⟩ := HK.out.c1 2 rfl
      by_cases hkl : k < l.length
      · have hkl' : (k : Int) < (l.length : Int) := by omega
        have HTw := Lib.hid (HK.out.oldTouch (HO.out _ (HK.out.still 0 rfl)))
        obtain ⟨b, o, rfl, hb, d0, d1, d2, d3⟩ := (HA.out.touch HTw.out) k hkl
        have HX2 : Hid (∀ W, Touch [] w W → CBAt W b (o + k * 4) l[k] ∧ b < W.heap.size) := fun W hW => by
          obtain ⟨b', o', hbo, hb', h⟩ := (HA.out.touch hW) k hkl
          injection hbo with hbo
          injection hbo with h1 h2
          subst h1 h2
          exact ⟨h, hb'⟩
        have HXI := Lib.hid (HI.out _ (List.getElem_mem hkl)).1
        have HXF := Lib.hid (HFW.out _ (List.getElem_mem hkl))
        generalize l[k] = x at d0 d1 d2 d3 HX2 HXI HXF
        have HAC := Lib.hid (HK.out.drew.act13 1 0 rfl rfl (by decide) x HB.out ⟨HXF.out, fun W hW => HXI.out.old (HO.out W hW)⟩)
        simp only [cb_eq] at HAC
        go_wp2_with fail
        go_region_law (first
          | (go_simp; refine HAC.out.mono ?_; rintro e w4 ⟨g2, es2, rs2, a2, cap2, P2, rfl, hB2, hP2, hL⟩; have HL4 := Lib.hid hL; (simp only [List.set_cons_zero, List.set_cons_succ] at HL4); have HB2 := Lib.hid hB2; have HP2 := Lib.hid hP2; clear hL hB2 hP2 v0 vf hl8 d0 d1 d2 d3 hb; obtain ⟨v0, vf, hl8, _, _⟩ := HL4.out.c1 2 rfl))
        all_goals simp only [List.getElem_toArray, List.getElem_cons_succ, List.getElem_cons_zero, Act.put, List.setIfInBounds_toArray, List.set_cons_succ, List.set_cons_zero]
        all_goals
          go_wp2_with fail
          refine wp_name ?_
          intro w5 hw5
          have HL5 : Hid (Led T w w5 [stillT P2, queueT g2 es2, box b8 54 #[.slice a2 rs2.length cap2]]) := by
            have h := HL4.out.set 2 rfl 0 (.slice a2 rs2.length cap2)
            rw [hw5] at h
            exact h
          have HO2 : Hid (∀ W, P2 W → Old w W) := fun W hW => HO.out W (HP2.out W hW)
          clear hw5 HL4 HK HAC v0 vf hl8 HTw HP2 HO HB
          have HTw := Lib.hid (HL5.out.oldTouch (HO2.out _ (HL5.out.still 0 rfl)))
          obtain ⟨⟨d0, d1, d2, d3⟩, hb⟩ := HX2.out _ HTw.out
          obtain ⟨v0, vf, hl8, _, _⟩ := HL5.out.c1 2 rfl
          have HIS := Lib.hid (fun W (hW : Touch [] w5 W) n m z hz => (HL5.out.touch hW).is13 1 0 rfl rfl HB2.out n m z hz)
          have HTm := Lib.hid (Touch.refl [] w5).drew
          have htm : 0 ≤ (k : Int).tmod 4 ∧ (k : Int).tmod 4 ≤ 3 := by rw [Int.tmod_eq_emod_of_nonneg hk0]; omega
          go_region_held3 (fun w' => w'.cell? ⟨b8, 0, none⟩ = some (.slice a2 rs2.length cap2) ∧ w'.cell? ⟨b, o + k * 4 + 1, none⟩ = some (.int .i64 x.n) ∧ w'.cell? ⟨b, o + k * 4 + 2, none⟩ = some (.int .i64 x.m)) (go_keep) (first
            | (go_at_call 27; refine (HIS.out _ HTm.out _ _ _ (by omega)).mono ?_; rintro e w6 ⟨rfl, ht⟩; have HTm := Lib.hid (HTm.out.trans' ht); have HL6 := Lib.hid (HL5.out.touch HTm.out); clear ht v0 vf hl8 d0 d1 d2 d3 hb; obtain ⟨v0, vf, hl8, _, _⟩ := HL6.out.c1 2 rfl; obtain ⟨⟨d0, d1, d2, d3⟩, hb⟩ := HX2.out _ (HTw.out.trans' HTm.out)))
          go_wp2
          go_roundw
          case rel => exact ⟨k + 1, g2, es2, rs2, a2, cap2, P2, by go_num, rfl, rfl, hkl, HB2, HO2, HL6⟩
          case measure => simp [intOf]; omega
      · have hkl' : ¬ (k : Int) < (l.length : Int) := by omega
        have HIS := Lib.hid (HK.out.is13 1 0 rfl rfl HB.out n m 9999 (by omega))
        go_wp2_with fail
        refine HIS.out.mono ?_
        rintro e w6 ⟨rfl, ht⟩
        have HL6 := Lib.hid (HK.out.touch ht)
        clear ht HK v0 vf hl8 HIS
        go_wp2_with fail
        refine (works13 _).mono ?_
        rintro e w9 ⟨rfl, ht⟩
        have HL9 := Lib.hid (HL6.out.touch ht)
        clear ht HL6
        go_wp2
        go_ret
        exact ⟨rfl, (HL9.out.oldTouch (HO.out _ (HL9.out.still 0 rfl))).below⟩
end Go.Proofs.Ytihmbgdkllmkaaa
