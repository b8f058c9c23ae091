/-
  SpinPlays (betrothallaw03/law.go): its walk: for every capacity and every slice of calls it returns true, and nothing that was there has turned.
-/
import Derived.Test.YtegebecogbebaaaIs03
import Derived.Test.YtegebecogbebaaaFew01
import Derived.Test.YtegebecogbebaaaOpen
import Derived.Deep.Cut
namespace Go.Proofs.Ytegebecogbebaaa
open Go.RowKit Go.Shelf
set_option maxRecDepth 100000
set_option linter.unusedVariables false
set_option linter.unusedSimpArgs false

theorem Led.act03' {T : List Nat} {w0 w : World} {l : List Thing} {g : Nat} {s : Ar} {vc vl : Value} {most : Nat} (hm : s.most = most) (h : Led T w0 w l) (i j : Nat) (hi : l[i]? = some (arena g s)) (hj : l[j]? = some (refT vc vl s)) (hij : i ≠ j) (c : Call03) (hc : c.Ok) (h20 : c.what = 7 → c.n ≤ 20) (hL : s.L.length ≤ 1000000) :
    Calls Try.prog 39 #[.pointer (some ⟨g, 0, none⟩), .agg #[vc, .int .i64 (most : Int), vl], .agg #[.int .i64 c.what, .int .i64 c.at_, .int .i64 c.n]] w
      fun e w' => ∃ s' vc' vl', e = .returned (.tuple #[.agg #[vc', .int .i64 (most : Int), vl'], .bool true]) ∧ (s'.most = most ∧ s'.L.length ≤ s.L.length + 21) ∧ Led T w0 w' ((l.set i (arena g s')).set j (refT vc' vl' s')) := by
  subst hm
  obtain ⟨T', h1, h2⟩ := h.frame2 i j hi hj hij
  refine (act03 T' w g s vc vl c hc h20 h1 hL).mono ?_
  rintro e w' ⟨s', vc', vl', rest, rfl, hf, h3⟩
  exact ⟨s', vc', vl', rfl, hf, h2 _ _ _ _ h3⟩
theorem Led.is03' {T : List Nat} {w0 w : World} {l : List Thing} {g : Nat} {s : Ar} {vc vl : Value} {most : Nat} (hm : s.most = most) (h : Led T w0 w l) (i j : Nat) (hi : l[i]? = some (arena g s)) (hj : l[j]? = some (refT vc vl s)) (hij : i ≠ j) (hL : s.L.length ≤ 900000) :
    Calls Try.prog 40 #[.pointer (some ⟨g, 0, none⟩), .agg #[vc, .int .i64 (most : Int), vl]] w fun e w' => e = .returned (.bool true) ∧ Led T w0 w' ((l.set i (arena g s)).set j (refT vc vl s)) := by
  subst hm
  obtain ⟨T', h1, h2⟩ := h.frame2 i j hi hj hij
  refine (is03 T' w g s vc vl h1 hL).mono ?_
  rintro e w' ⟨rfl, rest, h3⟩
  exact ⟨rfl, h2 _ _ _ _ h3⟩

set_option maxHeartbeats 2000000 in
theorem spinPlays_out (most : Int) (a1 : Option Addr) (n1 c1 : Nat) (w : World) (hn1 : n1 ≤ 9223372036854775807) (h : most < 1 ∨ 10 < most ∨ 60 < n1) :
    Calls Try.prog 9 #[.int .i64 most, .slice a1 n1 c1] w fun e w' => e = .returned (.bool true) ∧ Below w.heap.size w w' := by
  by_cases h1 : most < 1
  · clear h
    go_enter Try.func9, Try.ntmps9
    go_wp2_with fail
    refine (works03 _).mono ?_
    rintro e w' ⟨rfl, hb⟩
    have HB := Lib.hid hb
    clear hb
    go_wp2
    go_ret
    exact ⟨rfl, HB.out⟩
  · by_cases h2 : 10 < most
    · clear h
      go_enter Try.func9, Try.ntmps9
      go_wp2_with fail
      refine (works03 _).mono ?_
      rintro e w' ⟨rfl, hb⟩
      have HB := Lib.hid hb
      clear hb
      go_wp2
      go_ret
      exact ⟨rfl, HB.out⟩
    · have h3 : (60 : Int) < (n1 : Int) := by omega
      clear h
      go_enter Try.func9, Try.ntmps9
      go_wp2_with fail
      refine (works03 _).mono ?_
      rintro e w' ⟨rfl, hb⟩
      have HB := Lib.hid hb
      clear hb
      go_wp2
      go_ret
      exact ⟨rfl, HB.out⟩

set_option maxHeartbeats 8000000 in
theorem spinPlays_in (most : Nat) (a1 : Option Addr) (n1 c1 : Nat) (l : List Call03) (w : World) (hn1 : n1 ≤ 60) (hll : l.length = n1) (hl : StructsAt w a1 3 Call03.cells l) (hok : ∀ a ∈ l, a.Ok) (hm1 : 1 ≤ most) (hm2 : most ≤ 10) :
    Calls Try.prog 9 #[.int .i64 (most : Int), .slice a1 n1 c1] w fun e w' => e = .returned (.bool true) ∧ Below w.heap.size w w' := by
  have HL := Lib.hid hl
  have HLL := Lib.hid hll
  have HOK := Lib.hid hok
  clear hl hll hok
  have h1 : ¬ (most : Int) < 1 := by omega
  have h2 : ¬ 10 < (most : Int) := by omega
  have h3 : ¬ (60 : Int) < (n1 : Int) := by omega
  go_enter Try.func9, Try.ntmps9
  go_wp2_with fail
  refine ((Led.nil' w).arNew most hm1 (by omega)).mono ?_
  rintro e w1 ⟨rfl, h1⟩
  have HL1 := Lib.hid h1
  clear h1
  obtain ⟨g, hg0⟩ : ∃ b, w.heap.size = b := ⟨_, rfl⟩
  rw [hg0] at HL1 ⊢
  go_wp2_with fail
  refine (refNew most _ hm1 (by omega)).mono ?_
  rintro e w2 ⟨rfl, ht⟩
  have HL2 := Lib.hid (refT_nil (HL1.out.touch ht) most (by omega))
  simp only [List.nil_append, List.cons_append] at HL2
  clear ht HL1
  unfold refV
  go_wp2_with fail
  refine wp_name ?_
  intro w3 hw3
  have HL3 := Lib.hid (HL2.out.al1 hw3)
  simp only [List.nil_append, List.cons_append] at HL3
  obtain ⟨b7, hb7⟩ : ∃ b, w2.heap.size = b := ⟨_, rfl⟩
  rw [hb7] at HL3 ⊢
  clear hw3 hb7 HL2
  go_loopw [9] (fun i wr => ∃ (k : Nat) (s : Ar) (vc vl : Value), k ≤ n1 ∧ i = .int .i64 (k : Int) ∧ s.L.length ≤ 21 * k ∧ Hid (s.most = most) ∧ Hid (Led [] w wr [arena g s, refT vc vl s, box b7 59 #[vc, .int .i64 (most : Int), vl]])) (fun i _ => n1 - (intOf i).toNat)
  case atStart => exact ⟨0, ⟨[], most, []⟩, _, _, Nat.zero_le _, rfl, Nat.le_refl _, rfl, HL3⟩
  case round =>
    obtain ⟨k, s, vc, vl, hk, rfl, hsl, HM, HK⟩ := hrel
    obtain ⟨ca, cp, rfl, _, _⟩ := own_val (HK.out.refAt 1 rfl).cel
    obtain ⟨la, lp, rfl, _, _⟩ := own_val (HK.out.refAt 1 rfl).log
    obtain ⟨p0, p1, p2, f0, f1, f2, z7, _, _⟩ := HK.out.c3 2 rfl
    by_cases hlt : k < n1
    · have hlt' : (k : Int) < (n1 : Int) := by omega
      have hk0 : (0 : Int) ≤ (k : Int) := by omega
      obtain ⟨b1, o1, rfl, hb1, hv1⟩ := HL.out k (by rw [HLL.out]; exact hlt)
      obtain ⟨c, hc⟩ : ∃ c, l[k]'(by rw [HLL.out]; exact hlt) = c := ⟨_, rfl⟩
      have HC : Hid (c.Ok) := by rw [← hc]; exact HOK.out _ (List.getElem_mem _)
      rw [hc] at hv1
      have HV : Hid (∀ W, Below w.heap.size w W → W.cell? ⟨b1, o1 + k * 3, none⟩ = some (.int .i64 c.what) ∧ W.cell? ⟨b1, o1 + k * 3 + 1, none⟩ = some (.int .i64 c.at_) ∧ W.cell? ⟨b1, o1 + k * 3 + 2, none⟩ = some (.int .i64 c.n)) := fun W hW =>
        ⟨(hW.cell (p := ⟨b1, o1 + k * 3, none⟩) hb1).trans (hv1 0 (by omega)), (hW.cell (p := ⟨b1, o1 + k * 3 + 1, none⟩) hb1).trans (hv1 1 (by omega)), (hW.cell (p := ⟨b1, o1 + k * 3 + 2, none⟩) hb1).trans (hv1 2 (by omega))⟩
      obtain ⟨v0, v1, v2⟩ := HV.out wr HK.out.below
      have hb1' : b1 < wr.heap.size := Nat.lt_of_lt_of_le hb1 HK.out.size
      have nn3 : b1 ≠ wr.heap.size := by omega
      have nn4 : wr.heap.size ≠ b1 := by omega
      clear hv1 hc
      by_cases hw7 : c.what = 7
      · have hw : (c.what == 7) = true := by simpa using hw7
        by_cases hbig : 20 < c.n
        · go_wp2_with fail
          refine (works03 _).mono ?_
          rintro e w' ⟨rfl, hb⟩
          have HB := Lib.hid hb
          clear hb
          go_wp2
          go_ret
          exact ⟨rfl, HK.out.below.trans (HB.out.mono HK.out.size)⟩
        · have H20 : Hid (c.what = 7 → c.n ≤ 20) := fun _ => by omega
          clear hw7
          go_wp2_with fail
          go_region_held3 (fun w' => w'.cell? ⟨b7, 0, none⟩ = some (.slice ca s.C.length cp) ∧ w'.cell? ⟨b7, 1, none⟩ = some (.int .i64 (most : Int)) ∧ w'.cell? ⟨b7, 2, none⟩ = some (.slice la s.L.length lp) ∧ w'.cell? ⟨b1, o1 + k * 3, none⟩ = some (.int .i64 c.what) ∧ w'.cell? ⟨b1, o1 + k * 3 + 1, none⟩ = some (.int .i64 c.at_) ∧ w'.cell? ⟨b1, o1 + k * 3 + 2, none⟩ = some (.int .i64 c.n)) (go_keep)
            (first
            | (go_at_call 39; refine (Led.act03' HM.out HK.out.drew 0 1 rfl rfl (by decide) c HC.out H20.out (by omega)).mono ?_; rintro e w4 ⟨s', vc', vl', rfl, ⟨hm5, hl5⟩, hL⟩; have HM5 := Lib.hid hm5; clear hm5; simp only [List.set_cons_succ, List.set_cons_zero, List.cons_append, List.nil_append] at hL; obtain ⟨ca1, cp1, rfl, _, _⟩ := own_val (hL.refAt 1 rfl).cel; obtain ⟨la1, lp1, rfl, _, _⟩ := own_val (hL.refAt 1 rfl).log; have HL4 := Lib.hid hL; obtain ⟨p0, p1, p2, f0, f1, f2, z7, _, _⟩ := HL4.out.c3 2 rfl; obtain ⟨v0, v1, v2⟩ := HV.out w4 HL4.out.below; have hb1' : b1 < w4.heap.size := Nat.lt_of_lt_of_le hb1 HL4.out.size; clear hL)
            | (go_at_call 39; refine (Led.act03' HM.out (HK.out.alloc _ _).drew 0 1 rfl rfl (by decide) c HC.out H20.out (by omega)).mono ?_; rintro e w4 ⟨s', vc', vl', rfl, ⟨hm5, hl5⟩, hL⟩; have HM5 := Lib.hid hm5; clear hm5; simp only [List.set_cons_succ, List.set_cons_zero, List.cons_append, List.nil_append] at hL; obtain ⟨ca1, cp1, rfl, _, _⟩ := own_val (hL.refAt 1 rfl).cel; obtain ⟨la1, lp1, rfl, _, _⟩ := own_val (hL.refAt 1 rfl).log; have HL4 := Lib.hid hL; obtain ⟨p0, p1, p2, f0, f1, f2, z7, _, _⟩ := HL4.out.c3 2 rfl; obtain ⟨v0, v1, v2⟩ := HV.out w4 HL4.out.below; have hb1' : b1 < w4.heap.size := Nat.lt_of_lt_of_le hb1 HL4.out.size; clear hL; obtain ⟨m0, m1, m2, e0, e1, e2, zm, _, _⟩ := HL4.out.c3 3 rfl; have nn1 := HL4.out.ne 2 3 rfl rfl (by decide); have nn2 := Ne.symm nn1))
          · go_upto_region 11 with fail
            refine wp_name ?_
            intro w5 hw5
            have HL5 := Lib.hid (HL4.out.al1 hw5)
            simp only [List.nil_append, List.cons_append] at HL5
            clear hw5
            obtain ⟨b10, hb10⟩ : ∃ b, w4.heap.size = b := ⟨_, rfl⟩
            clear p0 p1 p2 f0 f1 f2 z7 v0 v1 v2
            rw [hb10] at HL5 ⊢
            have hsl5 : s'.L.length ≤ 21 * (k + 1) := by omega
            obtain ⟨p0, p1, p2, f0, f1, f2, z7, _, _⟩ := HL5.out.c3 2 rfl
            obtain ⟨m0, m1, m2, e0, e1, e2, zm, _, _⟩ := HL5.out.c3 3 rfl
            have nn1 := HL5.out.ne 2 3 rfl rfl (by decide)
            have nn2 := Ne.symm nn1
            have hcl5 := (HL5.out.refAt 1 rfl).clen
            clear HL4
            go_wp2_with fail
            have HL6 := Lib.hid (((HL5.out.set 2 rfl 0 (.slice ca1 s'.C.length cp1)).set 2 rfl 1 (.int .i64 (most : Int))).set 2 rfl 2 (.slice la1 s'.L.length lp1))
            simp only [List.set_cons_succ, List.set_cons_zero, List.setIfInBounds_toArray] at HL6
            clear HL5 p0 p1 p2 f0 f1 f2 z7 m0 m1 m2 e0 e1 e2 zm nn1 nn2
            refine (Led.is03' HM5.out HL6.out 0 1 rfl rfl (by decide) (by omega)).mono ?_
            rintro e w7 ⟨rfl, h7⟩
            simp only [List.set_cons_succ, List.set_cons_zero] at h7
            have HL7 : Hid (Led [] w w7 [arena g s', refT (.slice ca1 s'.C.length cp1) (.slice la1 s'.L.length lp1) s', box b7 59 #[.slice ca1 s'.C.length cp1, .int .i64 (most : Int), .slice la1 s'.L.length lp1]]) := Led.sub_end (m := [_]) h7
            clear h7 HL6
            go_wp2
            go_roundw
            case rel => exact ⟨k + 1, s', _, _, by omega, by go_num, hsl5, HM5, HL7⟩
            case measure => simp [intOf]; omega
          · go_upto_region 11 with fail
            refine wp_name ?_
            intro w5 hw5
            have HL5 := Lib.hid (((HL4.out.set 3 rfl 0 (.slice ca1 s'.C.length cp1)).set 3 rfl 1 (.int .i64 (most : Int))).set 3 rfl 2 (.slice la1 s'.L.length lp1))
            simp only [List.set_cons_succ, List.set_cons_zero, List.setIfInBounds_toArray] at HL5
            rw [hw5] at HL5
            clear hw5
            obtain ⟨b10, hb10⟩ : ∃ b, wr.heap.size = b := ⟨_, rfl⟩
            clear p0 p1 p2 f0 f1 f2 z7 v0 v1 v2
            rw [hb10] at HL5 ⊢
            have hsl5 : s'.L.length ≤ 21 * (k + 1) := by omega
            obtain ⟨p0, p1, p2, f0, f1, f2, z7, _, _⟩ := HL5.out.c3 2 rfl
            obtain ⟨m0, m1, m2, e0, e1, e2, zm, _, _⟩ := HL5.out.c3 3 rfl
            have nn1 := HL5.out.ne 2 3 rfl rfl (by decide)
            have nn2 := Ne.symm nn1
            have hcl5 := (HL5.out.refAt 1 rfl).clen
            clear HL4
            go_wp2_with fail
            have HL6 := Lib.hid (((HL5.out.set 2 rfl 0 (.slice ca1 s'.C.length cp1)).set 2 rfl 1 (.int .i64 (most : Int))).set 2 rfl 2 (.slice la1 s'.L.length lp1))
            simp only [List.set_cons_succ, List.set_cons_zero, List.setIfInBounds_toArray] at HL6
            clear HL5 p0 p1 p2 f0 f1 f2 z7 m0 m1 m2 e0 e1 e2 zm nn1 nn2
            refine (Led.is03' HM5.out HL6.out 0 1 rfl rfl (by decide) (by omega)).mono ?_
            rintro e w7 ⟨rfl, h7⟩
            simp only [List.set_cons_succ, List.set_cons_zero] at h7
            have HL7 : Hid (Led [] w w7 [arena g s', refT (.slice ca1 s'.C.length cp1) (.slice la1 s'.L.length lp1) s', box b7 59 #[.slice ca1 s'.C.length cp1, .int .i64 (most : Int), .slice la1 s'.L.length lp1]]) := Led.sub_end (m := [_]) h7
            clear h7 HL6
            go_wp2
            go_roundw
            case rel => exact ⟨k + 1, s', _, _, by omega, by go_num, hsl5, HM5, HL7⟩
            case measure => simp [intOf]; omega
      · have hw : (c.what == 7) = false := by simpa using hw7
        have H20 : Hid (c.what = 7 → c.n ≤ 20) := fun h => absurd h hw7
        clear hw7
        go_wp2_with fail
        go_region_held3 (fun w' => w'.cell? ⟨b7, 0, none⟩ = some (.slice ca s.C.length cp) ∧ w'.cell? ⟨b7, 1, none⟩ = some (.int .i64 (most : Int)) ∧ w'.cell? ⟨b7, 2, none⟩ = some (.slice la s.L.length lp) ∧ w'.cell? ⟨b1, o1 + k * 3, none⟩ = some (.int .i64 c.what) ∧ w'.cell? ⟨b1, o1 + k * 3 + 1, none⟩ = some (.int .i64 c.at_) ∧ w'.cell? ⟨b1, o1 + k * 3 + 2, none⟩ = some (.int .i64 c.n)) (go_keep)
          (first
          | (go_at_call 39; refine (Led.act03' HM.out HK.out.drew 0 1 rfl rfl (by decide) c HC.out H20.out (by omega)).mono ?_; rintro e w4 ⟨s', vc', vl', rfl, ⟨hm5, hl5⟩, hL⟩; have HM5 := Lib.hid hm5; clear hm5; simp only [List.set_cons_succ, List.set_cons_zero, List.cons_append, List.nil_append] at hL; obtain ⟨ca1, cp1, rfl, _, _⟩ := own_val (hL.refAt 1 rfl).cel; obtain ⟨la1, lp1, rfl, _, _⟩ := own_val (hL.refAt 1 rfl).log; have HL4 := Lib.hid hL; obtain ⟨p0, p1, p2, f0, f1, f2, z7, _, _⟩ := HL4.out.c3 2 rfl; obtain ⟨v0, v1, v2⟩ := HV.out w4 HL4.out.below; have hb1' : b1 < w4.heap.size := Nat.lt_of_lt_of_le hb1 HL4.out.size; clear hL)
          | (go_at_call 39; refine (Led.act03' HM.out (HK.out.alloc _ _).drew 0 1 rfl rfl (by decide) c HC.out H20.out (by omega)).mono ?_; rintro e w4 ⟨s', vc', vl', rfl, ⟨hm5, hl5⟩, hL⟩; have HM5 := Lib.hid hm5; clear hm5; simp only [List.set_cons_succ, List.set_cons_zero, List.cons_append, List.nil_append] at hL; obtain ⟨ca1, cp1, rfl, _, _⟩ := own_val (hL.refAt 1 rfl).cel; obtain ⟨la1, lp1, rfl, _, _⟩ := own_val (hL.refAt 1 rfl).log; have HL4 := Lib.hid hL; obtain ⟨p0, p1, p2, f0, f1, f2, z7, _, _⟩ := HL4.out.c3 2 rfl; obtain ⟨v0, v1, v2⟩ := HV.out w4 HL4.out.below; have hb1' : b1 < w4.heap.size := Nat.lt_of_lt_of_le hb1 HL4.out.size; clear hL; obtain ⟨m0, m1, m2, e0, e1, e2, zm, _, _⟩ := HL4.out.c3 3 rfl; have nn1 := HL4.out.ne 2 3 rfl rfl (by decide); have nn2 := Ne.symm nn1))
        · go_upto_region 11 with fail
          refine wp_name ?_
          intro w5 hw5
          have HL5 := Lib.hid (HL4.out.al1 hw5)
          simp only [List.nil_append, List.cons_append] at HL5
          clear hw5
          obtain ⟨b10, hb10⟩ : ∃ b, w4.heap.size = b := ⟨_, rfl⟩
          clear p0 p1 p2 f0 f1 f2 z7 v0 v1 v2
          rw [hb10] at HL5 ⊢
          have hsl5 : s'.L.length ≤ 21 * (k + 1) := by omega
          obtain ⟨p0, p1, p2, f0, f1, f2, z7, _, _⟩ := HL5.out.c3 2 rfl
          obtain ⟨m0, m1, m2, e0, e1, e2, zm, _, _⟩ := HL5.out.c3 3 rfl
          have nn1 := HL5.out.ne 2 3 rfl rfl (by decide)
          have nn2 := Ne.symm nn1
          have hcl5 := (HL5.out.refAt 1 rfl).clen
          clear HL4
          go_wp2_with fail
          have HL6 := Lib.hid (((HL5.out.set 2 rfl 0 (.slice ca1 s'.C.length cp1)).set 2 rfl 1 (.int .i64 (most : Int))).set 2 rfl 2 (.slice la1 s'.L.length lp1))
          simp only [List.set_cons_succ, List.set_cons_zero, List.setIfInBounds_toArray] at HL6
          clear HL5 p0 p1 p2 f0 f1 f2 z7 m0 m1 m2 e0 e1 e2 zm nn1 nn2
          refine (Led.is03' HM5.out HL6.out 0 1 rfl rfl (by decide) (by omega)).mono ?_
          rintro e w7 ⟨rfl, h7⟩
          simp only [List.set_cons_succ, List.set_cons_zero] at h7
          have HL7 : Hid (Led [] w w7 [arena g s', refT (.slice ca1 s'.C.length cp1) (.slice la1 s'.L.length lp1) s', box b7 59 #[.slice ca1 s'.C.length cp1, .int .i64 (most : Int), .slice la1 s'.L.length lp1]]) := Led.sub_end (m := [_]) h7
          clear h7 HL6
          go_wp2
          go_roundw
          case rel => exact ⟨k + 1, s', _, _, by omega, by go_num, hsl5, HM5, HL7⟩
          case measure => simp [intOf]; omega
        · go_upto_region 11 with fail
          refine wp_name ?_
          intro w5 hw5
          have HL5 := Lib.hid (((HL4.out.set 3 rfl 0 (.slice ca1 s'.C.length cp1)).set 3 rfl 1 (.int .i64 (most : Int))).set 3 rfl 2 (.slice la1 s'.L.length lp1))
          simp only [List.set_cons_succ, List.set_cons_zero, List.setIfInBounds_toArray] at HL5
          rw [hw5] at HL5
          clear hw5
          obtain ⟨b10, hb10⟩ : ∃ b, wr.heap.size = b := ⟨_, rfl⟩
          clear p0 p1 p2 f0 f1 f2 z7 v0 v1 v2
          rw [hb10] at HL5 ⊢
          have hsl5 : s'.L.length ≤ 21 * (k + 1) := by omega
          obtain ⟨p0, p1, p2, f0, f1, f2, z7, _, _⟩ := HL5.out.c3 2 rfl
          obtain ⟨m0, m1, m2, e0, e1, e2, zm, _, _⟩ := HL5.out.c3 3 rfl
          have nn1 := HL5.out.ne 2 3 rfl rfl (by decide)
          have nn2 := Ne.symm nn1
          have hcl5 := (HL5.out.refAt 1 rfl).clen
          clear HL4
          go_wp2_with fail
          have HL6 := Lib.hid (((HL5.out.set 2 rfl 0 (.slice ca1 s'.C.length cp1)).set 2 rfl 1 (.int .i64 (most : Int))).set 2 rfl 2 (.slice la1 s'.L.length lp1))
          simp only [List.set_cons_succ, List.set_cons_zero, List.setIfInBounds_toArray] at HL6
          clear HL5 p0 p1 p2 f0 f1 f2 z7 m0 m1 m2 e0 e1 e2 zm nn1 nn2
          refine (Led.is03' HM5.out HL6.out 0 1 rfl rfl (by decide) (by omega)).mono ?_
          rintro e w7 ⟨rfl, h7⟩
          simp only [List.set_cons_succ, List.set_cons_zero] at h7
          have HL7 : Hid (Led [] w w7 [arena g s', refT (.slice ca1 s'.C.length cp1) (.slice la1 s'.L.length lp1) s', box b7 59 #[.slice ca1 s'.C.length cp1, .int .i64 (most : Int), .slice la1 s'.L.length lp1]]) := Led.sub_end (m := [_]) h7
          clear h7 HL6
          go_wp2
          go_roundw
          case rel => exact ⟨k + 1, s', _, _, by omega, by go_num, hsl5, HM5, HL7⟩
          case measure => simp [intOf]; omega
    · have hlt' : ¬ (k : Int) < (n1 : Int) := by omega
      go_wp2_with fail
      refine (num03 _ _).mono ?_
      rintro e w9 ⟨rfl, rfl⟩
      go_wp2_with fail
      refine (works03 _).mono ?_
      rintro e w' ⟨rfl, hb⟩
      have HB := Lib.hid hb
      clear hb
      go_wp2
      go_ret
      exact ⟨rfl, HK.out.below.trans (HB.out.mono HK.out.size)⟩
theorem spinPlays_any (most : Int) (a1 : Option Addr) (n1 c1 : Nat) (l : List Call03) (w : World) (hn1 : n1 ≤ maxLen) (hll : l.length = n1) (hl : StructsAt w a1 3 Call03.cells l) (hok : ∀ a ∈ l, a.Ok) :
    Calls Try.prog 9 #[.int .i64 most, .slice a1 n1 c1] w fun e w' => e = .returned (.bool true) ∧ Below w.heap.size w w' := by
  by_cases h : most < 1 ∨ 10 < most ∨ 60 < n1
  · exact spinPlays_out most a1 n1 c1 w (by simp only [maxLen] at hn1; omega) h
  · obtain ⟨m, rfl⟩ := Int.eq_ofNat_of_zero_le (show 0 ≤ most by omega)
    exact spinPlays_in m a1 n1 c1 l w (by omega) hll hl hok (by omega) (by omega)
end Go.Proofs.Ytegebecogbebaaa
