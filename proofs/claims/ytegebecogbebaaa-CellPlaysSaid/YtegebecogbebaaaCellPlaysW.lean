/-
  CellPlays (betrothallaw01/law.go): its walk: for every capacity and every slice of calls it returns true, and nothing that was there has turned.
-/
import Derived.Test.YtegebecogbebaaaAct01b
import Derived.Test.YtegebecogbebaaaIs01
namespace Go.Proofs.Ytegebecogbebaaa
open Go.RowKit Go.Shelf
set_option maxRecDepth 100000
set_option linter.unusedVariables false
set_option linter.unusedSimpArgs false

section
variable {T : List Nat} {w0 w : World} {l : List Thing} {g : Nat} {s : Ar} {vc vl : Value}
theorem Led.act01 (h : Led T w0 w l) (i j : Nat) (hi : l[i]? = some (arena g s)) (hj : l[j]? = some (refT vc vl s)) (hij : i ≠ j) (c : Call01) (hc : c.Ok) (hL2 : s.L.length ≤ 1048576) :
    Calls Try.prog 30 #[.pointer (some ⟨g, 0, none⟩), refV vc s.most vl, .agg #[.int .i64 c.what, .int .i64 c.at_, .int .u64 (c.x : Int), .int .u64 (c.y : Int)]] w
      fun e w' => ∃ g' vc' vl', e = .returned (.tuple #[.pointer (some ⟨g', 0, none⟩), refV vc' s.most vl', .bool true]) ∧ Led T w0 w' ((l.set i (arena g' (actS s c))).set j (refT vc' vl' (actS s c))) := by
  obtain ⟨T', h1, h2⟩ := h.frame2 i j hi hj hij
  refine (Proofs.Ytegebecogbebaaa.act01 T' w g s vc vl c hc h1 hL2).mono ?_
  rintro e w' ⟨g', vc', vl', rest, rfl, h3⟩
  exact ⟨g', vc', vl', rfl, h2 _ _ _ _ h3⟩
theorem set_self {l : List Thing} {t : Thing} {i : Nat} (hi : l[i]? = some t) : l.set i t = l := by
  apply List.ext_getElem?
  intro j
  by_cases hj : i = j
  · subst hj; rw [List.getElem?_set_self (List.getElem?_eq_some_iff.1 hi).1, hi]
  · rw [List.getElem?_set_ne hj]
theorem Led.is01 (h : Led T w0 w l) (i j : Nat) (hi : l[i]? = some (arena g s)) (hj : l[j]? = some (refT vc vl s)) (hij : i ≠ j) (many : Nat) (hm : many ≤ 10000) (hL : s.L.length ≤ 1024) :
    Calls Try.prog 34 #[.pointer (some ⟨g, 0, none⟩), refV vc s.most vl, .int .i64 (many : Int)] w fun e w' => e = .returned (.bool true) ∧ Led T w0 w' l := by
  obtain ⟨T', h1, h2⟩ := h.frame2 i j hi hj hij
  refine (Proofs.Ytegebecogbebaaa.is01 T' w g s vc vl many hm h1 hL).mono ?_
  rintro e w' ⟨rfl, rest, h3⟩
  have := h2 _ _ _ _ h3
  rw [set_self hi, set_self hj] at this
  exact ⟨rfl, this⟩
end
theorem Led.act01' {T : List Nat} {w0 w : World} {l : List Thing} {g : Nat} {s : Ar} {vc vl : Value} {most : Nat} (hm : s.most = most) (h : Led T w0 w l) (i j : Nat) (hi : l[i]? = some (arena g s)) (hj : l[j]? = some (refT vc vl s)) (hij : i ≠ j) (c : Call01) (hc : c.Ok) (hL2 : s.L.length ≤ 1048576) :
    Calls Try.prog 30 #[.pointer (some ⟨g, 0, none⟩), .agg #[vc, .int .i64 (most : Int), vl], .agg #[.int .i64 c.what, .int .i64 c.at_, .int .u64 (c.x : Int), .int .u64 (c.y : Int)]] w
      fun e w' => ∃ g' vc' vl', e = .returned (.tuple #[.pointer (some ⟨g', 0, none⟩), .agg #[vc', .int .i64 (most : Int), vl'], .bool true]) ∧ Led T w0 w' ((l.set i (arena g' (actS s c))).set j (refT vc' vl' (actS s c))) := by
  subst hm
  exact h.act01 i j hi hj hij c hc hL2
theorem Led.is01' {T : List Nat} {w0 w : World} {l : List Thing} {g : Nat} {s : Ar} {vc vl : Value} {most : Nat} (hm : s.most = most) (h : Led T w0 w l) (i j : Nat) (hi : l[i]? = some (arena g s)) (hj : l[j]? = some (refT vc vl s)) (hij : i ≠ j) (many : Nat) (hm2 : many ≤ 10000) (hL : s.L.length ≤ 1024) :
    Calls Try.prog 34 #[.pointer (some ⟨g, 0, none⟩), .agg #[vc, .int .i64 (most : Int), vl], .int .i64 (many : Int)] w fun e w' => e = .returned (.bool true) ∧ Led T w0 w' l := by
  subst hm
  exact h.is01 i j hi hj hij many hm2 hL
theorem actS_most (s : Ar) (c : Call01) : (actS s c).most = s.most := by
  simp only [actS, Ar.allocA, Ar.load, Ar.store, Ar.swap, Ar.add, Ar.doBy, Ar.acc]
  repeat' split
  all_goals rfl
theorem actS_len (s : Ar) (c : Call01) : (actS s c).L.length ≤ s.L.length + 1 := by
  simp only [actS, Ar.allocA, Ar.load, Ar.store, Ar.swap, Ar.add, Ar.doBy, Ar.acc]
  repeat' split
  all_goals simp
theorem few_all {l : List Call01} {many : Nat} (h : fewB l many = true) : l.length ≤ many := by
  simp [fewB] at h
  omega

set_option maxHeartbeats 2000000 in
theorem cellPlays_many (most : Int) (a1 : Option Addr) (n1 c1 : Nat) (l : List Call01) (w : World) (hn1 : n1 ≤ 9223372036854775807) (hll : l.length = n1) (hl : StructsAt w a1 4 Call01.cells l) (hf : fewB l 60 = false) :
    Calls Try.prog 7 #[.int .i64 most, .slice a1 n1 c1] w fun e w' => e = .returned (.bool true) ∧ Below w.heap.size w w' := by
  have H := Lib.hid (few01 a1 n1 c1 l 60 w (by omega) hn1 hll hl)
  rw [hf] at H
  clear hl hll hf
  go_enter Try.func7, Try.ntmps7
  go_wp2_with fail
  refine H.out.mono ?_
  rintro e w' ⟨rfl, rfl⟩
  go_wp2_with fail
  refine (works01 _).mono ?_
  rintro e w' ⟨rfl, hb⟩
  have HB := Lib.hid hb
  clear hb
  go_wp2
  go_ret
  exact ⟨rfl, HB.out⟩
set_option maxHeartbeats 2000000 in
theorem cellPlays_none (most : Int) (a1 : Option Addr) (n1 c1 : Nat) (l : List Call01) (w : World) (hn1 : n1 ≤ 60) (hll : l.length = n1) (hl : StructsAt w a1 4 Call01.cells l) (hf : fewB l 60 = true) (hm : most < 1 ∨ 65536 < most) :
    Calls Try.prog 7 #[.int .i64 most, .slice a1 n1 c1] w fun e w' => e = .returned (.bool true) ∧ Below w.heap.size w w' := by
  have H := Lib.hid (few01 a1 n1 c1 l 60 w (by omega) (by omega) hll hl)
  rw [hf] at H
  have HM := Lib.hid hm
  clear hl hll hf hm
  go_enter Try.func7, Try.ntmps7
  go_wp2_with fail
  refine H.out.mono ?_
  rintro e w' ⟨rfl, rfl⟩
  go_wp2_with fail
  refine (New_no _ _ HM.out).mono ?_
  rintro e w' ⟨rfl, rfl⟩
  go_wp2_with fail
  refine (refNew_no _ _ HM.out).mono ?_
  rintro e w1 ⟨rfl, ht⟩
  have HL1 := Lib.hid ((Led.nil' w).touch ht)
  clear ht
  unfold refV
  go_wp2_with fail
  refine (num01 _ _).mono ?_
  rintro e w' ⟨rfl, rfl⟩
  go_wp2_with fail
  refine wp_name ?_
  intro w2 hw2
  have HL2 := Lib.hid (HL1.out.al1 hw2)
  clear hw2
  go_loopw [9] (fun i wr => i = .int .i64 0 ∧ wr = w2) (fun _ _ => 0)
  case atStart => exact ⟨rfl, rfl⟩
  case round =>
    obtain ⟨rfl, rfl⟩ := hrel
    by_cases hlt : (0 : Int) < (n1 : Int)
    all_goals
      go_wp2_with fail
      refine (works01 _).mono ?_
      rintro e w' ⟨rfl, hb⟩
      have HB := Lib.hid hb
      clear hb
      go_wp2
      go_ret
      exact ⟨rfl, HL2.out.below.trans (HB.out.mono HL2.out.size)⟩

set_option maxHeartbeats 8000000 in
theorem cellPlays_in (most : Nat) (a1 : Option Addr) (n1 c1 : Nat) (l : List Call01) (w : World) (hn1 : n1 ≤ 60) (hll : l.length = n1) (hl : StructsAt w a1 4 Call01.cells l) (hok : ∀ a ∈ l, a.Ok) (hf : fewB l 60 = true) (hm1 : 1 ≤ most) (hm2 : most ≤ 65536) :
    Calls Try.prog 7 #[.int .i64 (most : Int), .slice a1 n1 c1] w fun e w' => e = .returned (.bool true) ∧ Below w.heap.size w w' := by
  have H := Lib.hid (few01 a1 n1 c1 l 60 w (by omega) (by omega) hll hl)
  rw [hf] at H
  have HL := Lib.hid hl
  have HLL := Lib.hid hll
  have HOK := Lib.hid hok
  clear hl hll hf hok
  go_enter Try.func7, Try.ntmps7
  go_wp2_with fail
  refine H.out.mono ?_
  rintro e w' ⟨rfl, rfl⟩
  go_wp2_with fail
  refine ((Led.nil' w).arNew most hm1 hm2).mono ?_
  rintro e w1 ⟨rfl, h1⟩
  have HL1 := Lib.hid h1
  clear h1
  obtain ⟨g0, hg0⟩ : ∃ b, w.heap.size = b := ⟨_, rfl⟩
  rw [hg0] at HL1 ⊢
  go_wp2_with fail
  refine (refNew most _ hm1 hm2).mono ?_
  rintro e w2 ⟨rfl, ht⟩
  have HL2 := Lib.hid (refT_nil (HL1.out.touch ht) most hm2)
  simp only [List.nil_append, List.cons_append] at HL2
  clear ht HL1
  unfold refV
  go_wp2_with fail
  refine (num01 _ _).mono ?_
  rintro e w' ⟨rfl, rfl⟩
  go_wp2_with fail
  refine wp_name ?_
  intro w3 hw3
  have HL3 := Lib.hid (HL2.out.al1 hw3)
  simp only [List.nil_append, List.cons_append] at HL3
  obtain ⟨b7, hb7⟩ : ∃ b, w2.heap.size = b := ⟨_, rfl⟩
  rw [hb7] at HL3 ⊢
  clear hw3 hb7 HL2
  go_loopw [5, 9] (fun p i wr => ∃ (k g : Nat) (s : Ar) (vc vl : Value), k ≤ n1 ∧ p = .pointer (some ⟨g, 0, none⟩) ∧ i = .int .i64 (k : Int) ∧ s.L.length ≤ k ∧ Hid (s.most = most) ∧ Hid (Led [] w wr [arena g s, refT vc vl s, box b7 59 #[vc, .int .i64 (most : Int), vl]])) (fun _ i _ => n1 - (intOf i).toNat)
  case atStart => exact ⟨0, g0, ⟨[], most, []⟩, _, _, Nat.zero_le _, rfl, rfl, Nat.le_refl _, rfl, HL3⟩
  case round =>
    obtain ⟨k, g, s, vc, vl, hk, rfl, rfl, hsl, HM, HK⟩ := hrel
    obtain ⟨ca, cp, rfl, _, _⟩ := own_val (HK.out.refAt 1 rfl).cel
    obtain ⟨la, lp, rfl, _, _⟩ := own_val (HK.out.refAt 1 rfl).log
    obtain ⟨p0, p1, p2, f0, f1, f2, z7, _, _⟩ := HK.out.c3 2 rfl
    by_cases hlt : k < n1
    · have hlt' : (k : Int) < (n1 : Int) := by omega
      have hlt2 : decide (k < n1) = true := by simpa using hlt
      have hk0 : (0 : Int) ≤ (k : Int) := by omega
      obtain ⟨b1, o1, rfl, hb1, hv1⟩ := HL.out k (by rw [HLL.out]; exact hlt)
      obtain ⟨c, hc⟩ : ∃ c, l[k]'(by rw [HLL.out]; exact hlt) = c := ⟨_, rfl⟩
      have HC : Hid (c.Ok) := by rw [← hc]; exact HOK.out _ (List.getElem_mem _)
      rw [hc] at hv1
      have HV : Hid (∀ W, Below w.heap.size w W → W.cell? ⟨b1, o1 + k * 4, none⟩ = some (.int .i64 c.what) ∧ W.cell? ⟨b1, o1 + k * 4 + 1, none⟩ = some (.int .i64 c.at_) ∧ W.cell? ⟨b1, o1 + k * 4 + 2, none⟩ = some (.int .u64 (c.x : Int)) ∧ W.cell? ⟨b1, o1 + k * 4 + 3, none⟩ = some (.int .u64 (c.y : Int))) := fun W hW =>
        ⟨(hW.cell (p := ⟨b1, o1 + k * 4, none⟩) hb1).trans (hv1 0 (by omega)), (hW.cell (p := ⟨b1, o1 + k * 4 + 1, none⟩) hb1).trans (hv1 1 (by omega)), (hW.cell (p := ⟨b1, o1 + k * 4 + 2, none⟩) hb1).trans (hv1 2 (by omega)), (hW.cell (p := ⟨b1, o1 + k * 4 + 3, none⟩) hb1).trans (hv1 3 (by omega))⟩
      obtain ⟨v0, v1, v2, v3⟩ := HV.out wr HK.out.below
      have hb1' : b1 < wr.heap.size := Nat.lt_of_lt_of_le hb1 HK.out.size
      have nn3 : b1 ≠ wr.heap.size := by omega
      have nn4 : wr.heap.size ≠ b1 := by omega
      clear hv1 hc
      go_wp2_with fail
      go_region_held3 (fun w' => w'.cell? ⟨b7, 0, none⟩ = some (.slice ca s.C.length cp) ∧ w'.cell? ⟨b7, 1, none⟩ = some (.int .i64 (most : Int)) ∧ w'.cell? ⟨b7, 2, none⟩ = some (.slice la s.L.length lp) ∧ w'.cell? ⟨b1, o1 + k * 4, none⟩ = some (.int .i64 c.what) ∧ w'.cell? ⟨b1, o1 + k * 4 + 1, none⟩ = some (.int .i64 c.at_) ∧ w'.cell? ⟨b1, o1 + k * 4 + 2, none⟩ = some (.int .u64 (c.x : Int)) ∧ w'.cell? ⟨b1, o1 + k * 4 + 3, none⟩ = some (.int .u64 (c.y : Int))) (go_keep)
        (first
        | (go_at_call 30; refine (Led.act01' HM.out HK.out.drew 0 1 rfl rfl (by decide) c HC.out (by omega)).mono ?_; rintro e w4 ⟨g', vc', vl', rfl, hL⟩; simp only [List.set_cons_succ, List.set_cons_zero, List.cons_append, List.nil_append] at hL; obtain ⟨ca1, cp1, rfl, _, _⟩ := own_val (hL.refAt 1 rfl).cel; obtain ⟨la1, lp1, rfl, _, _⟩ := own_val (hL.refAt 1 rfl).log; have HL4 := Lib.hid hL; obtain ⟨p0, p1, p2, f0, f1, f2, z7, _, _⟩ := HL4.out.c3 2 rfl; obtain ⟨v0, v1, v2, v3⟩ := HV.out w4 HL4.out.below; have hb1' : b1 < w4.heap.size := Nat.lt_of_lt_of_le hb1 HL4.out.size; clear hL)
        | (go_at_call 30; refine (Led.act01' HM.out (HK.out.alloc _ _).drew 0 1 rfl rfl (by decide) c HC.out (by omega)).mono ?_; rintro e w4 ⟨g', vc', vl', rfl, hL⟩; simp only [List.set_cons_succ, List.set_cons_zero, List.cons_append, List.nil_append] at hL; obtain ⟨ca1, cp1, rfl, _, _⟩ := own_val (hL.refAt 1 rfl).cel; obtain ⟨la1, lp1, rfl, _, _⟩ := own_val (hL.refAt 1 rfl).log; have HL4 := Lib.hid hL; obtain ⟨p0, p1, p2, f0, f1, f2, z7, _, _⟩ := HL4.out.c3 2 rfl; obtain ⟨v0, v1, v2, v3⟩ := HV.out w4 HL4.out.below; have hb1' : b1 < w4.heap.size := Nat.lt_of_lt_of_le hb1 HL4.out.size; clear hL; obtain ⟨m0, m1, m2, e0, e1, e2, zm, _, _⟩ := HL4.out.c3 3 rfl; have nn1 := HL4.out.ne 2 3 rfl rfl (by decide); have nn2 := Ne.symm nn1))
      · go_wp2_with fail
        refine wp_name ?_
        intro w5 hw5
        have HL5 := Lib.hid (HL4.out.al1 hw5)
        simp only [List.nil_append, List.cons_append] at HL5
        clear hw5
        obtain ⟨b11, hb11⟩ : ∃ b, w4.heap.size = b := ⟨_, rfl⟩
        clear p0 p1 p2 f0 f1 f2 z7 v0 v1 v2 v3
        rw [hb11] at HL5 ⊢
        have HM5 : Hid ((actS s c).most = most) := (actS_most s c).trans HM.out
        have hsl5 : (actS s c).L.length ≤ k + 1 := by have := actS_len s c; omega
        obtain ⟨p0, p1, p2, f0, f1, f2, z7, _, _⟩ := HL5.out.c3 2 rfl
        obtain ⟨m0, m1, m2, e0, e1, e2, zm, _, _⟩ := HL5.out.c3 3 rfl
        have nn1 := HL5.out.ne 2 3 rfl rfl (by decide)
        have nn2 := Ne.symm nn1
        generalize actS s c = s' at HL5 HM5 hsl5 p0 p1 p2 m0 m1 m2 ⊢
        clear HL4
        go_region
        go_wp2_with fail
        have HL6 := Lib.hid ((((HL5.out.set 2 rfl 0 (.slice ca1 s'.C.length cp1)).set 2 rfl 1 (.int .i64 (most : Int))).set 2 rfl 2 (.slice la1 s'.L.length lp1)).drew)
        simp only [List.set_cons_succ, List.set_cons_zero, List.setIfInBounds_toArray] at HL6
        have hmod : (k : Int) % 4 = ((k % 4 : Nat) : Int) := by omega
        rw [hmod]
        refine (Led.is01' HM5.out HL6.out 0 1 rfl rfl (by decide) (k % 4) (by omega) (by omega)).mono ?_
        rintro e w7 ⟨rfl, h7⟩
        have HL7 : Hid (Led [] w w7 [arena g' s', refT (.slice ca1 s'.C.length cp1) (.slice la1 s'.L.length lp1) s', box b7 59 #[.slice ca1 s'.C.length cp1, .int .i64 (most : Int), .slice la1 s'.L.length lp1]]) := Led.sub_end (m := [_]) h7
        clear h7 hmod HL6 HL5
        go_wp2
        go_roundw
        case rel => exact ⟨k + 1, g', s', _, _, by omega, rfl, by go_num, hsl5, HM5, HL7⟩
        case measure => simp [intOf]; omega
      · go_wp2_with fail
        refine wp_name ?_
        intro w5 hw5
        have HL5 := Lib.hid (((HL4.out.set 3 rfl 0 (.slice ca1 (actS s c).C.length cp1)).set 3 rfl 1 (.int .i64 (most : Int))).set 3 rfl 2 (.slice la1 (actS s c).L.length lp1))
        simp only [List.set_cons_succ, List.set_cons_zero, List.setIfInBounds_toArray] at HL5
        rw [hw5] at HL5
        clear hw5
        obtain ⟨b11, hb11⟩ : ∃ b, wr.heap.size = b := ⟨_, rfl⟩
        clear p0 p1 p2 f0 f1 f2 z7 v0 v1 v2 v3
        rw [hb11] at HL5 ⊢
        have HM5 : Hid ((actS s c).most = most) := (actS_most s c).trans HM.out
        have hsl5 : (actS s c).L.length ≤ k + 1 := by have := actS_len s c; omega
        obtain ⟨p0, p1, p2, f0, f1, f2, z7, _, _⟩ := HL5.out.c3 2 rfl
        obtain ⟨m0, m1, m2, e0, e1, e2, zm, _, _⟩ := HL5.out.c3 3 rfl
        have nn1 := HL5.out.ne 2 3 rfl rfl (by decide)
        have nn2 := Ne.symm nn1
        generalize actS s c = s' at HL5 HM5 hsl5 p0 p1 p2 m0 m1 m2 ⊢
        clear HL4
        go_region
        go_wp2_with fail
        have HL6 := Lib.hid ((((HL5.out.set 2 rfl 0 (.slice ca1 s'.C.length cp1)).set 2 rfl 1 (.int .i64 (most : Int))).set 2 rfl 2 (.slice la1 s'.L.length lp1)).drew)
        simp only [List.set_cons_succ, List.set_cons_zero, List.setIfInBounds_toArray] at HL6
        have hmod : (k : Int) % 4 = ((k % 4 : Nat) : Int) := by omega
        rw [hmod]
        refine (Led.is01' HM5.out HL6.out 0 1 rfl rfl (by decide) (k % 4) (by omega) (by omega)).mono ?_
        rintro e w7 ⟨rfl, h7⟩
        have HL7 : Hid (Led [] w w7 [arena g' s', refT (.slice ca1 s'.C.length cp1) (.slice la1 s'.L.length lp1) s', box b7 59 #[.slice ca1 s'.C.length cp1, .int .i64 (most : Int), .slice la1 s'.L.length lp1]]) := Led.sub_end (m := [_]) h7
        clear h7 hmod HL6 HL5
        go_wp2
        go_roundw
        case rel => exact ⟨k + 1, g', s', _, _, by omega, rfl, by go_num, hsl5, HM5, HL7⟩
        case measure => simp [intOf]; omega
    · have hlt' : ¬ (k : Int) < (n1 : Int) := by omega
      have hlt2 : decide (k < n1) = false := by simpa using hlt
      go_wp2_with fail
      refine (Led.is01' HM.out HK.out 0 1 rfl rfl (by decide) 9999 (by omega) (by omega)).mono ?_
      rintro e w7 ⟨rfl, h7⟩
      have HL7 := Lib.hid h7
      clear h7
      go_wp2_with fail
      refine (works01 _).mono ?_
      rintro e w' ⟨rfl, hb⟩
      have HB := Lib.hid hb
      clear hb
      go_wp2
      go_ret
      exact ⟨rfl, HL7.out.below.trans (HB.out.mono HL7.out.size)⟩
theorem cellPlays_any (most : Int) (a1 : Option Addr) (n1 c1 : Nat) (l : List Call01) (w : World) (hn1 : n1 ≤ maxLen) (hll : l.length = n1) (hl : StructsAt w a1 4 Call01.cells l) (hok : ∀ a ∈ l, a.Ok) :
    Calls Try.prog 7 #[.int .i64 most, .slice a1 n1 c1] w fun e w' => e = .returned (.bool true) ∧ Below w.heap.size w w' := by
  cases hf : fewB l 60 with
  | false => exact cellPlays_many most a1 n1 c1 l w (by simp only [maxLen] at hn1; omega) hll hl hf
  | true =>
    have := few_all hf
    by_cases hm : most < 1 ∨ 65536 < most
    · exact cellPlays_none most a1 n1 c1 l w (by omega) hll hl hf hm
    · obtain ⟨m, rfl⟩ := Int.eq_ofNat_of_zero_le (show 0 ≤ most by omega)
      exact cellPlays_in m a1 n1 c1 l w (by omega) hll hl hok hf (by omega) (by omega)
end Go.Proofs.Ytegebecogbebaaa
