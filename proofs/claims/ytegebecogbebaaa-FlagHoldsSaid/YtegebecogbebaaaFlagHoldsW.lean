/-
  FlagHolds (betrothallaw12/law.go): its walk: for every slice of bytes it returns true, and nothing that was there has turned.
-/
import Derived.Test.YtegebecogbebaaaFlagHoldsP
import Derived.Deep.Cut
namespace Go.Proofs.Ytegebecogbebaaa
open Go.RowKit Go.Shelf
set_option maxRecDepth 100000
set_option linter.unusedVariables false
set_option linter.unusedSimpArgs false

theorem Follows_all (w : World) (v : Value) (L : List FAct) (k : Nat) (hk : L.length = k) (hF : Far L L.length) (h : w.ownsRow 0 95 3 v k (factCells L)) (hl : k ≤ 1000000) :
    Calls Try.prog 49 #[v] w fun e w' => e = .returned (.tuple #[.int .i64 0, .bool true]) ∧ Touch [] w w' := by
  subst hk
  exact Follows_is w v L L.length 0 true hF h hl (by simp) (by simp)
set_option maxHeartbeats 2000000 in
theorem flagHolds_out (a1 : Option Addr) (n1 c1 : Nat) (w : World) (hn1 : n1 ≤ 9223372036854775807) (h : 100 < n1) :
    Calls Try.prog 11 #[.slice a1 n1 c1] w fun e w' => e = .returned (.bool true) ∧ Below w.heap.size w w' := by
  have h' : (100 : Int) < (n1 : Int) := by omega
  go_enter Try.func11, Try.ntmps11
  go_wp2_with fail
  refine (works12 _).mono ?_
  rintro e w' ⟨rfl, hb⟩
  have HB := Lib.hid hb
  clear hb
  go_wp2
  go_ret
  exact ⟨rfl, HB.out⟩

set_option maxHeartbeats 8000000 in
theorem flagHolds_in (a1 : Option Addr) (n1 c1 : Nat) (z : List Nat) (w : World) (hn1 : n1 ≤ 100) (hll : z.length = n1) (hz : BytesAt w a1 z) :
    Calls Try.prog 11 #[.slice a1 n1 c1] w fun e w' => e = .returned (.bool true) ∧ Below w.heap.size w w' := by
  obtain ⟨j0, hj, jz0, jz1, jz2⟩ := info_parts info_flagact
  have h' : ¬ (100 : Int) < (n1 : Int) := by omega
  have HZ := Lib.hid hz
  have HLL := Lib.hid hll
  clear hz hll
  go_enter Try.func11, Try.ntmps11
  go_wp2_with fail
  refine ((Led.nil' w).arNew 1 (by omega) (by omega)).mono ?_
  rintro e w1 ⟨rfl, hh⟩
  have HL1 := Lib.hid hh
  simp only [List.nil_append] at HL1
  obtain ⟨g, hg⟩ : ∃ b, w.heap.size = b := ⟨_, rfl⟩
  rw [hg] at HL1 ⊢
  clear hh
  go_wp2_with fail
  refine (HL1.out.flNew 0 rfl ⟨[0], 1, []⟩ 0 0 rfl).mono ?_
  rintro e w2 ⟨rfl, hh⟩
  have HL2 : Hid (Led [] w w2 [arena g (oneC 0 []), row 95 3 (.slice none 0 0) 0 (factCells [])]) := hh.new (t' := row 95 3 (.slice none 0 0) 0 (factCells [])) (f' := []) ⟨rfl, World.ownsRow_nil _ _ _ _⟩ ⟨Touch.refl _ _, by simp⟩
  clear hh HL1
  go_wp2_with fail
  go_loopw [7, 8, 9, 10, 11] (fun v cl sy en i wr => ∃ (k c : Nat) (Lg : List Acc) (L : List FAct), k ≤ n1 ∧ c ≤ 2 ∧ i = .int .i64 (k : Int) ∧ cl = .bool (c == 1) ∧ sy = .bool (c == 2) ∧ en = .int .i64 (if c = 2 then 1 else 0) ∧ Lg.length ≤ 3 * k ∧ Hid (L.length = k) ∧ Hid (FH L c) ∧
    Hid (Led [] w wr [arena g (oneC c Lg), row 95 3 v k (factCells L)])) (fun _ _ _ _ i _ => n1 - (intOf i).toNat)
  case atStart => exact ⟨0, 0, [], [], Nat.zero_le _, by omega, rfl, rfl, rfl, rfl, Nat.zero_le _, rfl, FH.nil, HL2⟩
  case round =>
    obtain ⟨k, c, Lg, L, hk, hc, rfl, rfl, rfl, rfl, hlg, HK, HF, HL⟩ := hrel
    by_cases hlt : k < n1
    · have hlt' : (k : Int) < (n1 : Int) := by omega
      obtain ⟨b1, o1, rfl, hb1, hv1⟩ := HZ.out.2 k (by rw [HLL.out]; exact hlt)
      have hzb := HZ.out.1 _ (List.getElem_mem (show k < z.length by rw [HLL.out]; exact hlt))
      obtain ⟨x, hx⟩ : ∃ x, z[k]'(by rw [HLL.out]; exact hlt) = x := ⟨_, rfl⟩
      rw [hx] at hv1 hzb
      have cb : wr.cell? ⟨b1, o1 + k, none⟩ = some (.int .u8 (x : Int)) := (HL.out.below.cell (p := ⟨b1, o1 + k, none⟩) hb1).trans hv1
      have hk0 : (0 : Int) ≤ (k : Int) := by omega
      clear hx hv1
      obtain ⟨va, vc, rfl, _, _⟩ := own_val (HL.out.row 1 rfl)
      obtain rfl | rfl | rfl : c = 0 ∨ c = 1 ∨ c = 2 := by omega
      · go_wp2_with fail
        go_quiet (fail)
        go_wp2_with fail
        refine ((HL.out.drewN _).lookC 0 rfl (by omega) (by omega)).mono ?_
        rintro e w3 ⟨Lg1, rfl, hl1, hh⟩
        have HL3 := Lib.hid hh
        simp only [List.set_cons_zero] at HL3
        have HG1 : Lg1.length ≤ 3 * k + 1 := by omega
        clear hh hl1 hlg
        cases ho : ((x : Int) % 2 == 0) with
        | true =>
          cases hp : ((x : Int) / 2 % 2 == 0) with
          | true =>
            go_wp2_with fail
            refine ((HL3.out.alloc _ _).claimC 0 rfl (by omega) (by omega)).mono ?_
            rintro e w4 ⟨Lg2, rfl, hl2, hh⟩
            have HL4 := Lib.hid hh
            simp only [List.set_cons_zero, List.cons_append, List.nil_append] at HL4
            have HG2 : Lg2.length ≤ 3 * k + 2 := by omega
            obtain ⟨b16, hb16⟩ : ∃ b, w3.heap.size = b := ⟨_, rfl⟩
            rw [hb16] at HL4 ⊢
            obtain ⟨y0, y1, y2, f0, f1, f2, zy, _, _⟩ := HL4.out.c3 2 rfl
            clear hh hl2 HG1 HL3 hb16
            go_upto_region 31 with fail
            refine wp_name ?_
            intro w5 hw5
            have HL5 := Lib.hid (HL4.out.set 2 rfl 2 (.int .i64 0))
            simp only [List.set_cons_zero, List.set_cons_succ, List.setIfInBounds_toArray] at HL5
            rw [hw5] at HL5
            obtain ⟨y0, y1, y2, f0, f1, f2, zy, _, _⟩ := HL5.out.c3 2 rfl
            clear hw5 HL4
            go_wp2_with (at_builtin; go_must (refine wpList_append_src _ rfl (.tmp 127) (.tmp 129) 92 rfl 95 j0 _ 3 24 Try.underlying92 hj jz0 jz1 jz2 rfl (by decide) (.slice va k vc) k (factCells L) rfl ((HL5.out.alloc _ _).row 1 rfl) (.slice (some ⟨w5.heap.size, 0, none⟩) 1 1) 1 (factCells [⟨1, true, 0⟩]) rfl (own_facts [⟨1, true, 0⟩] rfl (by decide) ((HL5.out.alloc _ _).box 3 rfl)) (fact_one _) (by simp only [maxLen]; omega) (by omega) ?_); intro a2 c2 w6 hown hgrow hat; refine Hid.out ?_)
            have HL6 := Lib.hid ((HL5.out.al1 rfl).grown 1 rfl hgrow hown hat)
            simp only [List.set_cons_zero, List.set_cons_succ, List.cons_append, List.nil_append] at HL6
            rw [← factCells_append] at HL6
            clear hown hgrow hat HL5
            refine Lib.hid ?_
            go_wp2_with fail
            refine (HL6.out.lookC 0 rfl (by omega) (by simp)).mono ?_
            rintro e w7 ⟨Lg3, rfl, hl3, hh⟩
            have HL7 := Lib.hid hh
            simp only [List.set_cons_zero] at HL7
            have HG3 : Lg3.length ≤ 3 * (k + 1) := by omega
            obtain ⟨y0, y1, y2, f0, f1, f2, zy, _, _⟩ := HL7.out.c3 2 rfl
            have HF' : Hid (FH (L ++ [⟨1, true, 0⟩]) 1) := HF.out.snoc _ rfl rfl
            have HK' : Hid ((L ++ [(⟨1, true, 0⟩ : FAct)]).length = k + 1) := by simp [Hid, HK.out]
            clear hh hl3 HG2 HL6
            go_wp2_with fail
            refine (num12 _ _).mono ?_
            rintro e w' ⟨rfl, rfl⟩
            go_wp2_with fail
            refine (num12 _ _).mono ?_
            rintro e w' ⟨rfl, rfl⟩
            go_wp2
            go_roundw
            case rel => exact ⟨k + 1, 1, Lg3, _, by omega, by omega, by go_num, rfl, rfl, rfl, HG3, HK', HF', Led.sub_end (m := [_, _]) HL7.out⟩
            case measure => simp [intOf]; omega
          | false =>
            go_wp2_with fail
            refine ((HL3.out.alloc _ _).takeC 0 rfl (by omega) (by omega)).mono ?_
            rintro e w4 ⟨Lg2, rfl, hl2, hh⟩
            have HL4 := Lib.hid hh
            simp only [List.set_cons_zero, List.cons_append, List.nil_append] at HL4
            have HG2 : Lg2.length ≤ 3 * k + 2 := by omega
            obtain ⟨b16, hb16⟩ : ∃ b, w3.heap.size = b := ⟨_, rfl⟩
            rw [hb16] at HL4 ⊢
            obtain ⟨y0, y1, y2, f0, f1, f2, zy, _, _⟩ := HL4.out.c3 2 rfl
            clear hh hl2 HG1 HL3 hb16
            go_upto_region 31 with fail
            refine wp_name ?_
            intro w5 hw5
            have HL5 := Lib.hid (HL4.out.set 2 rfl 2 (.int .i64 0))
            simp only [List.set_cons_zero, List.set_cons_succ, List.setIfInBounds_toArray] at HL5
            rw [hw5] at HL5
            obtain ⟨y0, y1, y2, f0, f1, f2, zy, _, _⟩ := HL5.out.c3 2 rfl
            clear hw5 HL4
            go_wp2_with (at_builtin; go_must (refine wpList_append_src _ rfl (.tmp 127) (.tmp 129) 92 rfl 95 j0 _ 3 24 Try.underlying92 hj jz0 jz1 jz2 rfl (by decide) (.slice va k vc) k (factCells L) rfl ((HL5.out.alloc _ _).row 1 rfl) (.slice (some ⟨w5.heap.size, 0, none⟩) 1 1) 1 (factCells [⟨3, true, 0⟩]) rfl (own_facts [⟨3, true, 0⟩] rfl (by decide) ((HL5.out.alloc _ _).box 3 rfl)) (fact_one _) (by simp only [maxLen]; omega) (by omega) ?_); intro a2 c2 w6 hown hgrow hat; refine Hid.out ?_)
            have HL6 := Lib.hid ((HL5.out.al1 rfl).grown 1 rfl hgrow hown hat)
            simp only [List.set_cons_zero, List.set_cons_succ, List.cons_append, List.nil_append] at HL6
            rw [← factCells_append] at HL6
            clear hown hgrow hat HL5
            refine Lib.hid ?_
            go_wp2_with fail
            refine (HL6.out.lookC 0 rfl (by omega) (by simp)).mono ?_
            rintro e w7 ⟨Lg3, rfl, hl3, hh⟩
            have HL7 := Lib.hid hh
            simp only [List.set_cons_zero] at HL7
            have HG3 : Lg3.length ≤ 3 * (k + 1) := by omega
            obtain ⟨y0, y1, y2, f0, f1, f2, zy, _, _⟩ := HL7.out.c3 2 rfl
            have HF' : Hid (FH (L ++ [⟨3, true, 0⟩]) 2) := HF.out.snoc _ rfl rfl
            have HK' : Hid ((L ++ [(⟨3, true, 0⟩ : FAct)]).length = k + 1) := by simp [Hid, HK.out]
            clear hh hl3 HG2 HL6
            go_wp2_with fail
            refine (num12 _ _).mono ?_
            rintro e w' ⟨rfl, rfl⟩
            go_wp2_with fail
            refine (num12 _ _).mono ?_
            rintro e w' ⟨rfl, rfl⟩
            go_wp2
            go_roundw
            case rel => exact ⟨k + 1, 2, Lg3, _, by omega, by omega, by go_num, rfl, rfl, rfl, HG3, HK', HF', Led.sub_end (m := [_, _]) HL7.out⟩
            case measure => simp [intOf]; omega
        | false =>
          cases hp : ((x : Int) / 2 % 2 == 0) with
          | true =>
            go_wp2_with fail
            refine ((HL3.out.alloc _ _).takeC 0 rfl (by omega) (by omega)).mono ?_
            rintro e w4 ⟨Lg2, rfl, hl2, hh⟩
            have HL4 := Lib.hid hh
            simp only [List.set_cons_zero, List.cons_append, List.nil_append] at HL4
            have HG2 : Lg2.length ≤ 3 * k + 2 := by omega
            obtain ⟨b16, hb16⟩ : ∃ b, w3.heap.size = b := ⟨_, rfl⟩
            rw [hb16] at HL4 ⊢
            obtain ⟨y0, y1, y2, f0, f1, f2, zy, _, _⟩ := HL4.out.c3 2 rfl
            clear hh hl2 HG1 HL3 hb16
            go_upto_region 31 with fail
            refine wp_name ?_
            intro w5 hw5
            have HL5 := Lib.hid (HL4.out.set 2 rfl 2 (.int .i64 0))
            simp only [List.set_cons_zero, List.set_cons_succ, List.setIfInBounds_toArray] at HL5
            rw [hw5] at HL5
            obtain ⟨y0, y1, y2, f0, f1, f2, zy, _, _⟩ := HL5.out.c3 2 rfl
            clear hw5 HL4
            go_wp2_with (at_builtin; go_must (refine wpList_append_src _ rfl (.tmp 127) (.tmp 129) 92 rfl 95 j0 _ 3 24 Try.underlying92 hj jz0 jz1 jz2 rfl (by decide) (.slice va k vc) k (factCells L) rfl ((HL5.out.alloc _ _).row 1 rfl) (.slice (some ⟨w5.heap.size, 0, none⟩) 1 1) 1 (factCells [⟨3, false, 0⟩]) rfl (own_facts [⟨3, false, 0⟩] rfl (by decide) ((HL5.out.alloc _ _).box 3 rfl)) (fact_one _) (by simp only [maxLen]; omega) (by omega) ?_); intro a2 c2 w6 hown hgrow hat; refine Hid.out ?_)
            have HL6 := Lib.hid ((HL5.out.al1 rfl).grown 1 rfl hgrow hown hat)
            simp only [List.set_cons_zero, List.set_cons_succ, List.cons_append, List.nil_append] at HL6
            rw [← factCells_append] at HL6
            clear hown hgrow hat HL5
            refine Lib.hid ?_
            go_wp2_with fail
            refine (HL6.out.lookC 0 rfl (by omega) (by simp)).mono ?_
            rintro e w7 ⟨Lg3, rfl, hl3, hh⟩
            have HL7 := Lib.hid hh
            simp only [List.set_cons_zero] at HL7
            have HG3 : Lg3.length ≤ 3 * (k + 1) := by omega
            obtain ⟨y0, y1, y2, f0, f1, f2, zy, _, _⟩ := HL7.out.c3 2 rfl
            have HF' : Hid (FH (L ++ [⟨3, false, 0⟩]) 2) := HF.out.snoc _ rfl rfl
            have HK' : Hid ((L ++ [(⟨3, false, 0⟩ : FAct)]).length = k + 1) := by simp [Hid, HK.out]
            clear hh hl3 HG2 HL6
            go_wp2_with fail
            refine (num12 _ _).mono ?_
            rintro e w' ⟨rfl, rfl⟩
            go_wp2_with fail
            refine (num12 _ _).mono ?_
            rintro e w' ⟨rfl, rfl⟩
            go_wp2
            go_roundw
            case rel => exact ⟨k + 1, 2, Lg3, _, by omega, by omega, by go_num, rfl, rfl, rfl, HG3, HK', HF', Led.sub_end (m := [_, _]) HL7.out⟩
            case measure => simp [intOf]; omega
          | false =>
            go_wp2_with fail
            refine ((HL3.out.alloc _ _).lookC 0 rfl (by omega) (by omega)).mono ?_
            rintro e w4 ⟨Lg2, rfl, hl2, hh⟩
            have HL4 := Lib.hid hh
            simp only [List.set_cons_zero, List.cons_append, List.nil_append] at HL4
            have HG2 : Lg2.length ≤ 3 * k + 2 := by omega
            obtain ⟨b16, hb16⟩ : ∃ b, w3.heap.size = b := ⟨_, rfl⟩
            rw [hb16] at HL4 ⊢
            obtain ⟨y0, y1, y2, f0, f1, f2, zy, _, _⟩ := HL4.out.c3 2 rfl
            clear hh hl2 HG1 HL3 hb16
            go_upto_region 31 with fail
            refine wp_name ?_
            intro w5 hw5
            have HL5 := Lib.hid (HL4.out.set 2 rfl 2 (.int .i64 0))
            simp only [List.set_cons_zero, List.set_cons_succ, List.setIfInBounds_toArray] at HL5
            rw [hw5] at HL5
            obtain ⟨y0, y1, y2, f0, f1, f2, zy, _, _⟩ := HL5.out.c3 2 rfl
            clear hw5 HL4
            go_wp2_with (at_builtin; go_must (refine wpList_append_src _ rfl (.tmp 127) (.tmp 129) 92 rfl 95 j0 _ 3 24 Try.underlying92 hj jz0 jz1 jz2 rfl (by decide) (.slice va k vc) k (factCells L) rfl ((HL5.out.alloc _ _).row 1 rfl) (.slice (some ⟨w5.heap.size, 0, none⟩) 1 1) 1 (factCells [⟨5, false, 0⟩]) rfl (own_facts [⟨5, false, 0⟩] rfl (by decide) ((HL5.out.alloc _ _).box 3 rfl)) (fact_one _) (by simp only [maxLen]; omega) (by omega) ?_); intro a2 c2 w6 hown hgrow hat; refine Hid.out ?_)
            have HL6 := Lib.hid ((HL5.out.al1 rfl).grown 1 rfl hgrow hown hat)
            simp only [List.set_cons_zero, List.set_cons_succ, List.cons_append, List.nil_append] at HL6
            rw [← factCells_append] at HL6
            clear hown hgrow hat HL5
            refine Lib.hid ?_
            go_wp2_with fail
            refine (HL6.out.lookC 0 rfl (by omega) (by simp)).mono ?_
            rintro e w7 ⟨Lg3, rfl, hl3, hh⟩
            have HL7 := Lib.hid hh
            simp only [List.set_cons_zero] at HL7
            have HG3 : Lg3.length ≤ 3 * (k + 1) := by omega
            obtain ⟨y0, y1, y2, f0, f1, f2, zy, _, _⟩ := HL7.out.c3 2 rfl
            have HF' : Hid (FH (L ++ [⟨5, false, 0⟩]) 0) := HF.out.snoc _ rfl rfl
            have HK' : Hid ((L ++ [(⟨5, false, 0⟩ : FAct)]).length = k + 1) := by simp [Hid, HK.out]
            clear hh hl3 HG2 HL6
            go_wp2_with fail
            refine (num12 _ _).mono ?_
            rintro e w' ⟨rfl, rfl⟩
            go_wp2_with fail
            refine (num12 _ _).mono ?_
            rintro e w' ⟨rfl, rfl⟩
            go_wp2
            go_roundw
            case rel => exact ⟨k + 1, 0, Lg3, _, by omega, by omega, by go_num, rfl, rfl, rfl, HG3, HK', HF', Led.sub_end (m := [_, _]) HL7.out⟩
            case measure => simp [intOf]; omega
      · go_wp2_with fail
        go_quiet (fail)
        go_wp2_with fail
        refine ((HL.out.drewN _).lookC 0 rfl (by omega) (by omega)).mono ?_
        rintro e w3 ⟨Lg1, rfl, hl1, hh⟩
        have HL3 := Lib.hid hh
        simp only [List.set_cons_zero] at HL3
        have HG1 : Lg1.length ≤ 3 * k + 1 := by omega
        clear hh hl1 hlg
        cases ho : ((x : Int) % 2 == 0) with
        | true =>
          cases hp : ((x : Int) / 2 % 2 == 0) with
          | true =>
            go_wp2_with fail
            refine ((HL3.out.alloc _ _).unclaimC 0 rfl (by omega) (by omega)).mono ?_
            rintro e w4 ⟨Lg2, rfl, hl2, hh⟩
            have HL4 := Lib.hid hh
            simp only [List.set_cons_zero, List.cons_append, List.nil_append] at HL4
            have HG2 : Lg2.length ≤ 3 * k + 2 := by omega
            obtain ⟨b16, hb16⟩ : ∃ b, w3.heap.size = b := ⟨_, rfl⟩
            rw [hb16] at HL4 ⊢
            obtain ⟨y0, y1, y2, f0, f1, f2, zy, _, _⟩ := HL4.out.c3 2 rfl
            clear hh hl2 HG1 HL3 hb16
            go_upto_region 31 with fail
            refine wp_name ?_
            intro w5 hw5
            have HL5 := Lib.hid (HL4.out.set 2 rfl 0 (.int .i64 2))
            simp only [List.set_cons_zero, List.set_cons_succ, List.setIfInBounds_toArray] at HL5
            rw [hw5] at HL5
            obtain ⟨y0, y1, y2, f0, f1, f2, zy, _, _⟩ := HL5.out.c3 2 rfl
            clear hw5 HL4
            go_wp2_with (at_builtin; go_must (refine wpList_append_src _ rfl (.tmp 127) (.tmp 129) 92 rfl 95 j0 _ 3 24 Try.underlying92 hj jz0 jz1 jz2 rfl (by decide) (.slice va k vc) k (factCells L) rfl ((HL5.out.alloc _ _).row 1 rfl) (.slice (some ⟨w5.heap.size, 0, none⟩) 1 1) 1 (factCells [⟨2, true, 1⟩]) rfl (own_facts [⟨2, true, 1⟩] rfl (by decide) ((HL5.out.alloc _ _).box 3 rfl)) (fact_one _) (by simp only [maxLen]; omega) (by omega) ?_); intro a2 c2 w6 hown hgrow hat; refine Hid.out ?_)
            have HL6 := Lib.hid ((HL5.out.al1 rfl).grown 1 rfl hgrow hown hat)
            simp only [List.set_cons_zero, List.set_cons_succ, List.cons_append, List.nil_append] at HL6
            rw [← factCells_append] at HL6
            clear hown hgrow hat HL5
            refine Lib.hid ?_
            go_wp2_with fail
            refine (HL6.out.lookC 0 rfl (by omega) (by simp)).mono ?_
            rintro e w7 ⟨Lg3, rfl, hl3, hh⟩
            have HL7 := Lib.hid hh
            simp only [List.set_cons_zero] at HL7
            have HG3 : Lg3.length ≤ 3 * (k + 1) := by omega
            obtain ⟨y0, y1, y2, f0, f1, f2, zy, _, _⟩ := HL7.out.c3 2 rfl
            have HF' : Hid (FH (L ++ [⟨2, true, 1⟩]) 0) := HF.out.snoc _ rfl rfl
            have HK' : Hid ((L ++ [(⟨2, true, 1⟩ : FAct)]).length = k + 1) := by simp [Hid, HK.out]
            clear hh hl3 HG2 HL6
            go_wp2_with fail
            refine (num12 _ _).mono ?_
            rintro e w' ⟨rfl, rfl⟩
            go_wp2_with fail
            refine (num12 _ _).mono ?_
            rintro e w' ⟨rfl, rfl⟩
            go_wp2
            go_roundw
            case rel => exact ⟨k + 1, 0, Lg3, _, by omega, by omega, by go_num, rfl, rfl, rfl, HG3, HK', HF', Led.sub_end (m := [_, _]) HL7.out⟩
            case measure => simp [intOf]; omega
          | false =>
            go_wp2_with fail
            refine ((HL3.out.alloc _ _).settleC 0 rfl (by omega) (by omega)).mono ?_
            rintro e w4 ⟨Lg2, rfl, hl2, hh⟩
            have HL4 := Lib.hid hh
            simp only [List.set_cons_zero, List.cons_append, List.nil_append] at HL4
            have HG2 : Lg2.length ≤ 3 * k + 2 := by omega
            obtain ⟨b16, hb16⟩ : ∃ b, w3.heap.size = b := ⟨_, rfl⟩
            rw [hb16] at HL4 ⊢
            obtain ⟨y0, y1, y2, f0, f1, f2, zy, _, _⟩ := HL4.out.c3 2 rfl
            clear hh hl2 HG1 HL3 hb16
            go_upto_region 31 with fail
            refine wp_name ?_
            intro w5 hw5
            have HL5 := Lib.hid (HL4.out.set 2 rfl 0 (.int .i64 4))
            simp only [List.set_cons_zero, List.set_cons_succ, List.setIfInBounds_toArray] at HL5
            rw [hw5] at HL5
            obtain ⟨y0, y1, y2, f0, f1, f2, zy, _, _⟩ := HL5.out.c3 2 rfl
            clear hw5 HL4
            go_wp2_with (at_builtin; go_must (refine wpList_append_src _ rfl (.tmp 127) (.tmp 129) 92 rfl 95 j0 _ 3 24 Try.underlying92 hj jz0 jz1 jz2 rfl (by decide) (.slice va k vc) k (factCells L) rfl ((HL5.out.alloc _ _).row 1 rfl) (.slice (some ⟨w5.heap.size, 0, none⟩) 1 1) 1 (factCells [⟨4, true, 1⟩]) rfl (own_facts [⟨4, true, 1⟩] rfl (by decide) ((HL5.out.alloc _ _).box 3 rfl)) (fact_one _) (by simp only [maxLen]; omega) (by omega) ?_); intro a2 c2 w6 hown hgrow hat; refine Hid.out ?_)
            have HL6 := Lib.hid ((HL5.out.al1 rfl).grown 1 rfl hgrow hown hat)
            simp only [List.set_cons_zero, List.set_cons_succ, List.cons_append, List.nil_append] at HL6
            rw [← factCells_append] at HL6
            clear hown hgrow hat HL5
            refine Lib.hid ?_
            go_wp2_with fail
            refine (HL6.out.lookC 0 rfl (by omega) (by simp)).mono ?_
            rintro e w7 ⟨Lg3, rfl, hl3, hh⟩
            have HL7 := Lib.hid hh
            simp only [List.set_cons_zero] at HL7
            have HG3 : Lg3.length ≤ 3 * (k + 1) := by omega
            obtain ⟨y0, y1, y2, f0, f1, f2, zy, _, _⟩ := HL7.out.c3 2 rfl
            have HF' : Hid (FH (L ++ [⟨4, true, 1⟩]) 2) := HF.out.snoc _ rfl rfl
            have HK' : Hid ((L ++ [(⟨4, true, 1⟩ : FAct)]).length = k + 1) := by simp [Hid, HK.out]
            clear hh hl3 HG2 HL6
            go_wp2_with fail
            refine (num12 _ _).mono ?_
            rintro e w' ⟨rfl, rfl⟩
            go_wp2_with fail
            refine (num12 _ _).mono ?_
            rintro e w' ⟨rfl, rfl⟩
            go_wp2
            go_roundw
            case rel => exact ⟨k + 1, 2, Lg3, _, by omega, by omega, by go_num, rfl, rfl, rfl, HG3, HK', HF', Led.sub_end (m := [_, _]) HL7.out⟩
            case measure => simp [intOf]; omega
        | false =>
          cases hp : ((x : Int) / 2 % 2 == 0) with
          | true =>
            go_wp2_with fail
            refine ((HL3.out.alloc _ _).takeC 0 rfl (by omega) (by omega)).mono ?_
            rintro e w4 ⟨Lg2, rfl, hl2, hh⟩
            have HL4 := Lib.hid hh
            simp only [List.set_cons_zero, List.cons_append, List.nil_append] at HL4
            have HG2 : Lg2.length ≤ 3 * k + 2 := by omega
            obtain ⟨b16, hb16⟩ : ∃ b, w3.heap.size = b := ⟨_, rfl⟩
            rw [hb16] at HL4 ⊢
            obtain ⟨y0, y1, y2, f0, f1, f2, zy, _, _⟩ := HL4.out.c3 2 rfl
            clear hh hl2 HG1 HL3 hb16
            go_upto_region 31 with fail
            refine wp_name ?_
            intro w5 hw5
            have HL5 := Lib.hid (HL4.out.set 2 rfl 2 (.int .i64 1))
            simp only [List.set_cons_zero, List.set_cons_succ, List.setIfInBounds_toArray] at HL5
            rw [hw5] at HL5
            obtain ⟨y0, y1, y2, f0, f1, f2, zy, _, _⟩ := HL5.out.c3 2 rfl
            clear hw5 HL4
            go_wp2_with (at_builtin; go_must (refine wpList_append_src _ rfl (.tmp 127) (.tmp 129) 92 rfl 95 j0 _ 3 24 Try.underlying92 hj jz0 jz1 jz2 rfl (by decide) (.slice va k vc) k (factCells L) rfl ((HL5.out.alloc _ _).row 1 rfl) (.slice (some ⟨w5.heap.size, 0, none⟩) 1 1) 1 (factCells [⟨3, false, 1⟩]) rfl (own_facts [⟨3, false, 1⟩] rfl (by decide) ((HL5.out.alloc _ _).box 3 rfl)) (fact_one _) (by simp only [maxLen]; omega) (by omega) ?_); intro a2 c2 w6 hown hgrow hat; refine Hid.out ?_)
            have HL6 := Lib.hid ((HL5.out.al1 rfl).grown 1 rfl hgrow hown hat)
            simp only [List.set_cons_zero, List.set_cons_succ, List.cons_append, List.nil_append] at HL6
            rw [← factCells_append] at HL6
            clear hown hgrow hat HL5
            refine Lib.hid ?_
            go_wp2_with fail
            refine (HL6.out.lookC 0 rfl (by omega) (by simp)).mono ?_
            rintro e w7 ⟨Lg3, rfl, hl3, hh⟩
            have HL7 := Lib.hid hh
            simp only [List.set_cons_zero] at HL7
            have HG3 : Lg3.length ≤ 3 * (k + 1) := by omega
            obtain ⟨y0, y1, y2, f0, f1, f2, zy, _, _⟩ := HL7.out.c3 2 rfl
            have HF' : Hid (FH (L ++ [⟨3, false, 1⟩]) 1) := HF.out.snoc _ rfl rfl
            have HK' : Hid ((L ++ [(⟨3, false, 1⟩ : FAct)]).length = k + 1) := by simp [Hid, HK.out]
            clear hh hl3 HG2 HL6
            go_wp2_with fail
            refine (num12 _ _).mono ?_
            rintro e w' ⟨rfl, rfl⟩
            go_wp2_with fail
            refine (num12 _ _).mono ?_
            rintro e w' ⟨rfl, rfl⟩
            go_wp2
            go_roundw
            case rel => exact ⟨k + 1, 1, Lg3, _, by omega, by omega, by go_num, rfl, rfl, rfl, HG3, HK', HF', Led.sub_end (m := [_, _]) HL7.out⟩
            case measure => simp [intOf]; omega
          | false =>
            go_wp2_with fail
            refine ((HL3.out.alloc _ _).lookC 0 rfl (by omega) (by omega)).mono ?_
            rintro e w4 ⟨Lg2, rfl, hl2, hh⟩
            have HL4 := Lib.hid hh
            simp only [List.set_cons_zero, List.cons_append, List.nil_append] at HL4
            have HG2 : Lg2.length ≤ 3 * k + 2 := by omega
            obtain ⟨b16, hb16⟩ : ∃ b, w3.heap.size = b := ⟨_, rfl⟩
            rw [hb16] at HL4 ⊢
            obtain ⟨y0, y1, y2, f0, f1, f2, zy, _, _⟩ := HL4.out.c3 2 rfl
            clear hh hl2 HG1 HL3 hb16
            go_upto_region 31 with fail
            refine wp_name ?_
            intro w5 hw5
            have HL5 := Lib.hid (HL4.out.set 2 rfl 2 (.int .i64 1))
            simp only [List.set_cons_zero, List.set_cons_succ, List.setIfInBounds_toArray] at HL5
            rw [hw5] at HL5
            obtain ⟨y0, y1, y2, f0, f1, f2, zy, _, _⟩ := HL5.out.c3 2 rfl
            clear hw5 HL4
            go_wp2_with (at_builtin; go_must (refine wpList_append_src _ rfl (.tmp 127) (.tmp 129) 92 rfl 95 j0 _ 3 24 Try.underlying92 hj jz0 jz1 jz2 rfl (by decide) (.slice va k vc) k (factCells L) rfl ((HL5.out.alloc _ _).row 1 rfl) (.slice (some ⟨w5.heap.size, 0, none⟩) 1 1) 1 (factCells [⟨5, false, 1⟩]) rfl (own_facts [⟨5, false, 1⟩] rfl (by decide) ((HL5.out.alloc _ _).box 3 rfl)) (fact_one _) (by simp only [maxLen]; omega) (by omega) ?_); intro a2 c2 w6 hown hgrow hat; refine Hid.out ?_)
            have HL6 := Lib.hid ((HL5.out.al1 rfl).grown 1 rfl hgrow hown hat)
            simp only [List.set_cons_zero, List.set_cons_succ, List.cons_append, List.nil_append] at HL6
            rw [← factCells_append] at HL6
            clear hown hgrow hat HL5
            refine Lib.hid ?_
            go_wp2_with fail
            refine (HL6.out.lookC 0 rfl (by omega) (by simp)).mono ?_
            rintro e w7 ⟨Lg3, rfl, hl3, hh⟩
            have HL7 := Lib.hid hh
            simp only [List.set_cons_zero] at HL7
            have HG3 : Lg3.length ≤ 3 * (k + 1) := by omega
            obtain ⟨y0, y1, y2, f0, f1, f2, zy, _, _⟩ := HL7.out.c3 2 rfl
            have HF' : Hid (FH (L ++ [⟨5, false, 1⟩]) 1) := HF.out.snoc _ rfl rfl
            have HK' : Hid ((L ++ [(⟨5, false, 1⟩ : FAct)]).length = k + 1) := by simp [Hid, HK.out]
            clear hh hl3 HG2 HL6
            go_wp2_with fail
            refine (num12 _ _).mono ?_
            rintro e w' ⟨rfl, rfl⟩
            go_wp2_with fail
            refine (num12 _ _).mono ?_
            rintro e w' ⟨rfl, rfl⟩
            go_wp2
            go_roundw
            case rel => exact ⟨k + 1, 1, Lg3, _, by omega, by omega, by go_num, rfl, rfl, rfl, HG3, HK', HF', Led.sub_end (m := [_, _]) HL7.out⟩
            case measure => simp [intOf]; omega
      · go_wp2_with fail
        go_quiet (fail)
        go_wp2_with fail
        refine ((HL.out.drewN _).lookC 0 rfl (by omega) (by omega)).mono ?_
        rintro e w3 ⟨Lg1, rfl, hl1, hh⟩
        have HL3 := Lib.hid hh
        simp only [List.set_cons_zero] at HL3
        have HG1 : Lg1.length ≤ 3 * k + 1 := by omega
        clear hh hl1 hlg
        cases ho : ((x : Int) % 2 == 0) with
        | true =>
          cases hp : ((x : Int) / 2 % 2 == 0) with
          | true =>
            go_wp2_with fail
            refine ((HL3.out.alloc _ _).claimC 0 rfl (by omega) (by omega)).mono ?_
            rintro e w4 ⟨Lg2, rfl, hl2, hh⟩
            have HL4 := Lib.hid hh
            simp only [List.set_cons_zero, List.cons_append, List.nil_append] at HL4
            have HG2 : Lg2.length ≤ 3 * k + 2 := by omega
            obtain ⟨b16, hb16⟩ : ∃ b, w3.heap.size = b := ⟨_, rfl⟩
            rw [hb16] at HL4 ⊢
            obtain ⟨y0, y1, y2, f0, f1, f2, zy, _, _⟩ := HL4.out.c3 2 rfl
            clear hh hl2 HG1 HL3 hb16
            go_upto_region 31 with fail
            refine wp_name ?_
            intro w5 hw5
            have HL5 := Lib.hid (HL4.out.set 2 rfl 2 (.int .i64 2))
            simp only [List.set_cons_zero, List.set_cons_succ, List.setIfInBounds_toArray] at HL5
            rw [hw5] at HL5
            obtain ⟨y0, y1, y2, f0, f1, f2, zy, _, _⟩ := HL5.out.c3 2 rfl
            clear hw5 HL4
            go_wp2_with (at_builtin; go_must (refine wpList_append_src _ rfl (.tmp 127) (.tmp 129) 92 rfl 95 j0 _ 3 24 Try.underlying92 hj jz0 jz1 jz2 rfl (by decide) (.slice va k vc) k (factCells L) rfl ((HL5.out.alloc _ _).row 1 rfl) (.slice (some ⟨w5.heap.size, 0, none⟩) 1 1) 1 (factCells [⟨1, true, 2⟩]) rfl (own_facts [⟨1, true, 2⟩] rfl (by decide) ((HL5.out.alloc _ _).box 3 rfl)) (fact_one _) (by simp only [maxLen]; omega) (by omega) ?_); intro a2 c2 w6 hown hgrow hat; refine Hid.out ?_)
            have HL6 := Lib.hid ((HL5.out.al1 rfl).grown 1 rfl hgrow hown hat)
            simp only [List.set_cons_zero, List.set_cons_succ, List.cons_append, List.nil_append] at HL6
            rw [← factCells_append] at HL6
            clear hown hgrow hat HL5
            refine Lib.hid ?_
            go_wp2_with fail
            refine (HL6.out.lookC 0 rfl (by omega) (by simp)).mono ?_
            rintro e w7 ⟨Lg3, rfl, hl3, hh⟩
            have HL7 := Lib.hid hh
            simp only [List.set_cons_zero] at HL7
            have HG3 : Lg3.length ≤ 3 * (k + 1) := by omega
            obtain ⟨y0, y1, y2, f0, f1, f2, zy, _, _⟩ := HL7.out.c3 2 rfl
            have HF' : Hid (FH (L ++ [⟨1, true, 2⟩]) 2) := HF.out.snoc _ rfl rfl
            have HK' : Hid ((L ++ [(⟨1, true, 2⟩ : FAct)]).length = k + 1) := by simp [Hid, HK.out]
            clear hh hl3 HG2 HL6
            go_wp2_with fail
            refine (num12 _ _).mono ?_
            rintro e w' ⟨rfl, rfl⟩
            go_wp2_with fail
            refine (num12 _ _).mono ?_
            rintro e w' ⟨rfl, rfl⟩
            go_wp2
            go_roundw
            case rel => exact ⟨k + 1, 2, Lg3, _, by omega, by omega, by go_num, rfl, rfl, rfl, HG3, HK', HF', Led.sub_end (m := [_, _]) HL7.out⟩
            case measure => simp [intOf]; omega
          | false =>
            go_wp2_with fail
            refine ((HL3.out.alloc _ _).takeC 0 rfl (by omega) (by omega)).mono ?_
            rintro e w4 ⟨Lg2, rfl, hl2, hh⟩
            have HL4 := Lib.hid hh
            simp only [List.set_cons_zero, List.cons_append, List.nil_append] at HL4
            have HG2 : Lg2.length ≤ 3 * k + 2 := by omega
            obtain ⟨b16, hb16⟩ : ∃ b, w3.heap.size = b := ⟨_, rfl⟩
            rw [hb16] at HL4 ⊢
            obtain ⟨y0, y1, y2, f0, f1, f2, zy, _, _⟩ := HL4.out.c3 2 rfl
            clear hh hl2 HG1 HL3 hb16
            go_upto_region 31 with fail
            refine wp_name ?_
            intro w5 hw5
            have HL5 := Lib.hid (HL4.out.set 2 rfl 2 (.int .i64 2))
            simp only [List.set_cons_zero, List.set_cons_succ, List.setIfInBounds_toArray] at HL5
            rw [hw5] at HL5
            obtain ⟨y0, y1, y2, f0, f1, f2, zy, _, _⟩ := HL5.out.c3 2 rfl
            clear hw5 HL4
            go_wp2_with (at_builtin; go_must (refine wpList_append_src _ rfl (.tmp 127) (.tmp 129) 92 rfl 95 j0 _ 3 24 Try.underlying92 hj jz0 jz1 jz2 rfl (by decide) (.slice va k vc) k (factCells L) rfl ((HL5.out.alloc _ _).row 1 rfl) (.slice (some ⟨w5.heap.size, 0, none⟩) 1 1) 1 (factCells [⟨3, true, 2⟩]) rfl (own_facts [⟨3, true, 2⟩] rfl (by decide) ((HL5.out.alloc _ _).box 3 rfl)) (fact_one _) (by simp only [maxLen]; omega) (by omega) ?_); intro a2 c2 w6 hown hgrow hat; refine Hid.out ?_)
            have HL6 := Lib.hid ((HL5.out.al1 rfl).grown 1 rfl hgrow hown hat)
            simp only [List.set_cons_zero, List.set_cons_succ, List.cons_append, List.nil_append] at HL6
            rw [← factCells_append] at HL6
            clear hown hgrow hat HL5
            refine Lib.hid ?_
            go_wp2_with fail
            refine (HL6.out.lookC 0 rfl (by omega) (by simp)).mono ?_
            rintro e w7 ⟨Lg3, rfl, hl3, hh⟩
            have HL7 := Lib.hid hh
            simp only [List.set_cons_zero] at HL7
            have HG3 : Lg3.length ≤ 3 * (k + 1) := by omega
            obtain ⟨y0, y1, y2, f0, f1, f2, zy, _, _⟩ := HL7.out.c3 2 rfl
            have HF' : Hid (FH (L ++ [⟨3, true, 2⟩]) 2) := HF.out.snoc _ rfl rfl
            have HK' : Hid ((L ++ [(⟨3, true, 2⟩ : FAct)]).length = k + 1) := by simp [Hid, HK.out]
            clear hh hl3 HG2 HL6
            go_wp2_with fail
            refine (num12 _ _).mono ?_
            rintro e w' ⟨rfl, rfl⟩
            go_wp2_with fail
            refine (num12 _ _).mono ?_
            rintro e w' ⟨rfl, rfl⟩
            go_wp2
            go_roundw
            case rel => exact ⟨k + 1, 2, Lg3, _, by omega, by omega, by go_num, rfl, rfl, rfl, HG3, HK', HF', Led.sub_end (m := [_, _]) HL7.out⟩
            case measure => simp [intOf]; omega
        | false =>
          cases hp : ((x : Int) / 2 % 2 == 0) with
          | true =>
            go_wp2_with fail
            refine ((HL3.out.alloc _ _).takeC 0 rfl (by omega) (by omega)).mono ?_
            rintro e w4 ⟨Lg2, rfl, hl2, hh⟩
            have HL4 := Lib.hid hh
            simp only [List.set_cons_zero, List.cons_append, List.nil_append] at HL4
            have HG2 : Lg2.length ≤ 3 * k + 2 := by omega
            obtain ⟨b16, hb16⟩ : ∃ b, w3.heap.size = b := ⟨_, rfl⟩
            rw [hb16] at HL4 ⊢
            obtain ⟨y0, y1, y2, f0, f1, f2, zy, _, _⟩ := HL4.out.c3 2 rfl
            clear hh hl2 HG1 HL3 hb16
            go_upto_region 31 with fail
            refine wp_name ?_
            intro w5 hw5
            have HL5 := Lib.hid (HL4.out.set 2 rfl 2 (.int .i64 2))
            simp only [List.set_cons_zero, List.set_cons_succ, List.setIfInBounds_toArray] at HL5
            rw [hw5] at HL5
            obtain ⟨y0, y1, y2, f0, f1, f2, zy, _, _⟩ := HL5.out.c3 2 rfl
            clear hw5 HL4
            go_wp2_with (at_builtin; go_must (refine wpList_append_src _ rfl (.tmp 127) (.tmp 129) 92 rfl 95 j0 _ 3 24 Try.underlying92 hj jz0 jz1 jz2 rfl (by decide) (.slice va k vc) k (factCells L) rfl ((HL5.out.alloc _ _).row 1 rfl) (.slice (some ⟨w5.heap.size, 0, none⟩) 1 1) 1 (factCells [⟨3, false, 2⟩]) rfl (own_facts [⟨3, false, 2⟩] rfl (by decide) ((HL5.out.alloc _ _).box 3 rfl)) (fact_one _) (by simp only [maxLen]; omega) (by omega) ?_); intro a2 c2 w6 hown hgrow hat; refine Hid.out ?_)
            have HL6 := Lib.hid ((HL5.out.al1 rfl).grown 1 rfl hgrow hown hat)
            simp only [List.set_cons_zero, List.set_cons_succ, List.cons_append, List.nil_append] at HL6
            rw [← factCells_append] at HL6
            clear hown hgrow hat HL5
            refine Lib.hid ?_
            go_wp2_with fail
            refine (HL6.out.lookC 0 rfl (by omega) (by simp)).mono ?_
            rintro e w7 ⟨Lg3, rfl, hl3, hh⟩
            have HL7 := Lib.hid hh
            simp only [List.set_cons_zero] at HL7
            have HG3 : Lg3.length ≤ 3 * (k + 1) := by omega
            obtain ⟨y0, y1, y2, f0, f1, f2, zy, _, _⟩ := HL7.out.c3 2 rfl
            have HF' : Hid (FH (L ++ [⟨3, false, 2⟩]) 2) := HF.out.snoc _ rfl rfl
            have HK' : Hid ((L ++ [(⟨3, false, 2⟩ : FAct)]).length = k + 1) := by simp [Hid, HK.out]
            clear hh hl3 HG2 HL6
            go_wp2_with fail
            refine (num12 _ _).mono ?_
            rintro e w' ⟨rfl, rfl⟩
            go_wp2_with fail
            refine (num12 _ _).mono ?_
            rintro e w' ⟨rfl, rfl⟩
            go_wp2
            go_roundw
            case rel => exact ⟨k + 1, 2, Lg3, _, by omega, by omega, by go_num, rfl, rfl, rfl, HG3, HK', HF', Led.sub_end (m := [_, _]) HL7.out⟩
            case measure => simp [intOf]; omega
          | false =>
            go_wp2_with fail
            refine ((HL3.out.alloc _ _).lookC 0 rfl (by omega) (by omega)).mono ?_
            rintro e w4 ⟨Lg2, rfl, hl2, hh⟩
            have HL4 := Lib.hid hh
            simp only [List.set_cons_zero, List.cons_append, List.nil_append] at HL4
            have HG2 : Lg2.length ≤ 3 * k + 2 := by omega
            obtain ⟨b16, hb16⟩ : ∃ b, w3.heap.size = b := ⟨_, rfl⟩
            rw [hb16] at HL4 ⊢
            obtain ⟨y0, y1, y2, f0, f1, f2, zy, _, _⟩ := HL4.out.c3 2 rfl
            clear hh hl2 HG1 HL3 hb16
            go_upto_region 31 with fail
            refine wp_name ?_
            intro w5 hw5
            have HL5 := Lib.hid (HL4.out.set 2 rfl 2 (.int .i64 2))
            simp only [List.set_cons_zero, List.set_cons_succ, List.setIfInBounds_toArray] at HL5
            rw [hw5] at HL5
            obtain ⟨y0, y1, y2, f0, f1, f2, zy, _, _⟩ := HL5.out.c3 2 rfl
            clear hw5 HL4
            go_wp2_with (at_builtin; go_must (refine wpList_append_src _ rfl (.tmp 127) (.tmp 129) 92 rfl 95 j0 _ 3 24 Try.underlying92 hj jz0 jz1 jz2 rfl (by decide) (.slice va k vc) k (factCells L) rfl ((HL5.out.alloc _ _).row 1 rfl) (.slice (some ⟨w5.heap.size, 0, none⟩) 1 1) 1 (factCells [⟨5, false, 2⟩]) rfl (own_facts [⟨5, false, 2⟩] rfl (by decide) ((HL5.out.alloc _ _).box 3 rfl)) (fact_one _) (by simp only [maxLen]; omega) (by omega) ?_); intro a2 c2 w6 hown hgrow hat; refine Hid.out ?_)
            have HL6 := Lib.hid ((HL5.out.al1 rfl).grown 1 rfl hgrow hown hat)
            simp only [List.set_cons_zero, List.set_cons_succ, List.cons_append, List.nil_append] at HL6
            rw [← factCells_append] at HL6
            clear hown hgrow hat HL5
            refine Lib.hid ?_
            go_wp2_with fail
            refine (HL6.out.lookC 0 rfl (by omega) (by simp)).mono ?_
            rintro e w7 ⟨Lg3, rfl, hl3, hh⟩
            have HL7 := Lib.hid hh
            simp only [List.set_cons_zero] at HL7
            have HG3 : Lg3.length ≤ 3 * (k + 1) := by omega
            obtain ⟨y0, y1, y2, f0, f1, f2, zy, _, _⟩ := HL7.out.c3 2 rfl
            have HF' : Hid (FH (L ++ [⟨5, false, 2⟩]) 2) := HF.out.snoc _ rfl rfl
            have HK' : Hid ((L ++ [(⟨5, false, 2⟩ : FAct)]).length = k + 1) := by simp [Hid, HK.out]
            clear hh hl3 HG2 HL6
            go_wp2_with fail
            refine (num12 _ _).mono ?_
            rintro e w' ⟨rfl, rfl⟩
            go_wp2_with fail
            refine (num12 _ _).mono ?_
            rintro e w' ⟨rfl, rfl⟩
            go_wp2
            go_roundw
            case rel => exact ⟨k + 1, 2, Lg3, _, by omega, by omega, by go_num, rfl, rfl, rfl, HG3, HK', HF', Led.sub_end (m := [_, _]) HL7.out⟩
            case measure => simp [intOf]; omega
    · have hlt' : ¬ (k : Int) < (n1 : Int) := by omega
      obtain ⟨va, vc, rfl, _, _⟩ := own_val (HL.out.row 1 rfl)
      have HKL := Lib.hid (show k ≤ 100 by omega)
      obtain rfl | rfl | rfl : c = 0 ∨ c = 1 ∨ c = 2 := by omega
      all_goals
        go_wp2_with fail
        refine (Follows_all _ _ L k HK.out HF.out.far (HL.out.row 1 rfl) (by have := HKL.out; omega)).mono ?_
        rintro e w3 ⟨rfl, ht⟩
        have HL3 := Lib.hid (HL.out.touch ht)
        clear ht
        go_wp2_with fail
        refine (num12 _ _).mono ?_
        rintro e w' ⟨rfl, rfl⟩
        go_wp2_with fail
        refine (num12 _ _).mono ?_
        rintro e w' ⟨rfl, rfl⟩
        go_wp2_with fail
        refine (works12 _).mono ?_
        rintro e w' ⟨rfl, hb⟩
        have HB := Lib.hid hb
        clear hb
        go_wp2
        go_ret
        exact ⟨rfl, HL3.out.below.trans (HB.out.mono HL3.out.size)⟩
theorem flagHolds_any (a1 : Option Addr) (n1 c1 : Nat) (z : List Nat) (w : World) (hn1 : n1 ≤ maxLen) (hll : z.length = n1) (hz : BytesAt w a1 z) :
    Calls Try.prog 11 #[.slice a1 n1 c1] w fun e w' => e = .returned (.bool true) ∧ Below w.heap.size w w' := by
  by_cases h : 100 < n1
  · exact flagHolds_out a1 n1 c1 w (by simp only [maxLen] at hn1; omega) h
  · exact flagHolds_in a1 n1 c1 z w (by omega) hll hz
end Go.Proofs.Ytegebecogbebaaa
