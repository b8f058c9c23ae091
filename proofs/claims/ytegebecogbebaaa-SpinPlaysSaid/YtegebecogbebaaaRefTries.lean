/-
  Tries of the reference of layer 3 (betrothalref03/ref.go), in the ledger.
-/
import Derived.Test.YtegebecogbebaaaRefNo
namespace Go.Proofs.Ytegebecogbebaaa
open Go.RowKit Go.Shelf
set_option maxRecDepth 100000
set_option linter.unusedVariables false
set_option linter.unusedSimpArgs false

theorem doBy_C_len (s : Ar) (op : Nat) (at_ : Int) (chg : Nat → Nat × Bool) : (s.doBy op at_ chg).1.C.length = s.C.length := by
  unfold Ar.doBy; split
  · simp [Ar.acc]
  · rfl
theorem doBy_most (s : Ar) (op : Nat) (at_ : Int) (chg : Nat → Nat × Bool) : (s.doBy op at_ chg).1.most = s.most := by
  unfold Ar.doBy; split
  · simp [Ar.acc]
  · rfl
theorem doBy_L_len (s : Ar) (op : Nat) (at_ : Int) (chg : Nat → Nat × Bool) : (s.doBy op at_ chg).1.L.length ≤ s.L.length + 1 := by
  unfold Ar.doBy; split
  · simp [Ar.acc]
  · simp
theorem tryS_C (s : Ar) (at_ : Int) (k : Nat) : (tryS s at_ k).C.length = s.C.length := by
  induction k with
  | zero => rfl
  | succ k ih => simp only [tryS, Ar.swap]; rw [doBy_C_len, ih]
theorem tryS_most (s : Ar) (at_ : Int) (k : Nat) : (tryS s at_ k).most = s.most := by
  induction k with
  | zero => rfl
  | succ k ih => simp only [tryS, Ar.swap]; rw [doBy_most, ih]
theorem tryS_L (s : Ar) (at_ : Int) (k : Nat) : (tryS s at_ k).L.length ≤ s.L.length + k := by
  induction k with
  | zero => exact Nat.le_refl _
  | succ k ih => simp only [tryS, Ar.swap]; have := doBy_L_len (tryS s at_ k) 3 at_ (chgSwap 0 1); omega
theorem tryE_in (s : Ar) (at_ : Int) (k : Nat) (hat : 0 ≤ at_ ∧ at_ < (s.C.length : Int)) : tryE s at_ k = 0 := by
  unfold tryE Ar.swap Ar.doBy
  rw [if_pos (by rw [tryS_C]; exact hat)]
theorem tryE_out (s : Ar) (at_ : Int) (k : Nat) (hat : ¬ (0 ≤ at_ ∧ at_ < (s.C.length : Int))) : tryE s at_ k = 4 := by
  unfold tryE Ar.swap Ar.doBy
  rw [if_neg (by rw [tryS_C]; exact hat)]
theorem tryS_out (s : Ar) (at_ : Int) (k : Nat) (hat : ¬ (0 ≤ at_ ∧ at_ < (s.C.length : Int))) : tryS s at_ k = s := by
  induction k with
  | zero => rfl
  | succ k ih => simp only [tryS, ih, Ar.swap, Ar.doBy]; rw [if_neg hat]
/-- What the tries tell. -/
def tryL (s : Ar) (at_ : Int) (k : Nat) : List Bool := (List.range k).map (tryD s at_)
theorem tryL_len (s : Ar) (at_ : Int) (k : Nat) : (tryL s at_ k).length = k := by simp [tryL]
theorem tryL_succ (s : Ar) (at_ : Int) (k : Nat) : boolVs (tryL s at_ (k + 1)) = boolVs (tryL s at_ k) ++ boolVs [tryD s at_ k] := by simp [tryL, boolVs, List.range_succ]
/-- What Tries of the reference tells and leaves. -/
def TriesGo (T : List Nat) (w : World) (s : Ar) (at_ most : Int) (e : Ending) (w' : World) : Prop :=
  ∃ vc' vl' aa cp b, e = .returned (.tuple #[refV vc' s.most vl', .slice aa b.1 cp]) ∧ TriesFin (tryD s at_) (tryE s at_) most b ∧ Led T w w' [refT vc' vl' (tryS s at_ b.1), row 4 1 (.slice aa b.1 cp) b.1 (boolVs (tryL s at_ b.1))]

theorem rTryK (T : List Nat) (w : World) (vc vl : Value) (s : Ar) (at_ : Int) (k : Nat) (d : Bool) (hd : tryD s at_ k = d) (hat : 0 ≤ at_ ∧ at_ < (s.C.length : Int)) (hL : s.L.length + k ≤ 1048576) (h : Led T w w [refT vc vl (tryS s at_ k)]) :
    Calls Try.prog 68 #[.agg #[vc, .int .i64 (s.most : Int), vl], .int .i64 at_] w (RefGo T w (tryS s at_ (k + 1)) (fun vc' vl' => .tuple #[.agg #[vc', .int .i64 (s.most : Int), vl'], .bool d, .int .i64 0])) := by
  have := rTry T w vc vl (tryS s at_ k) at_ (by have := tryS_L s at_ k; omega) h
  have he := tryE_in s at_ k hat
  unfold tryE at he
  unfold tryD at hd
  rw [he, hd, tryS_most] at this
  exact this

set_option maxHeartbeats 4000000 in
theorem rTries_out (T : List Nat) (w : World) (vc vl : Value) (s : Ar) (at_ most : Int) (hat : ¬ (0 ≤ at_ ∧ at_ < (s.C.length : Int))) (h : Led T w w [refT vc vl s]) :
    Calls Try.prog 71 #[refV vc s.most vl, .int .i64 at_, .int .i64 most] w (TriesGo T w s at_ most) := by
  have HAT := Lib.hid hat
  clear hat
  obtain ⟨ca, cp, rfl, _, _⟩ := own_val (h.refAt 0 rfl).cel
  obtain ⟨la, lp, rfl, _, _⟩ := own_val (h.refAt 0 rfl).log
  have HL0 := Lib.hid h
  clear h
  unfold refV
  go_enter Try.func71, Try.ntmps71
  go_wp2_with fail
  refine wp_name ?_
  intro w2 hw2
  have HL2 := Lib.hid (boolT_nil (HL0.out.al2 hw2))
  simp only [List.nil_append, List.cons_append] at HL2
  clear hw2
  obtain ⟨b6, hb6⟩ : ∃ b, w.heap.size + 1 = b := ⟨_, rfl⟩
  rw [hb6] at HL2 ⊢
  obtain ⟨b3, hb3⟩ : ∃ b, w.heap.size = b := ⟨_, rfl⟩
  rw [hb3] at HL2 ⊢
  clear hb6 hb3 HL0
  go_loopw [8, 9] (fun v i wr => v = .slice none 0 0 ∧ i = .int .i64 0 ∧ w2 = wr) (fun _ _ _ => 0)
  case atStart => exact ⟨rfl, rfl, rfl⟩
  case round =>
    obtain ⟨rfl, rfl, rfl⟩ := hrel
    obtain ⟨p0, p1, p2, f0, f1, f2, z3, _, _⟩ := HL2.out.c3 1 rfl
    obtain ⟨r0, r1, r2, g0, g1, g2, z6, _, _⟩ := HL2.out.c3 2 rfl
    have nn1 := HL2.out.ne 1 2 rfl rfl (by decide)
    have nn2 := Ne.symm nn1
    by_cases hlt : (0 : Int) < most
    · go_wp2_with fail
      refine (rTry_no _ _ _ s at_ (HL2.out.refAt 0 rfl) HAT.out).mono ?_
      rintro e w3 ⟨rfl, ht⟩
      have HL3 := Lib.hid (HL2.out.touch ht)
      clear ht p0 p1 p2 f0 f1 f2 z3 r0 r1 r2 g0 g1 g2 z6 HL2
      unfold refV
      obtain ⟨p0, p1, p2, f0, f1, f2, z3, _, _⟩ := HL3.out.c3 1 rfl
      obtain ⟨r0, r1, r2, g0, g1, g2, z6, _, _⟩ := HL3.out.c3 2 rfl
      go_wp2
      refine post_name ?_
      intro w4 hw4
      have HLR := Lib.hid ((((HL3.out.set 2 rfl 0 (.slice ca s.C.length cp)).set 2 rfl 1 (.int .i64 (s.most : Int))).set 2 rfl 2 (.slice la s.L.length lp)).al1 hw4)
      simp only [List.set_cons_succ, List.set_cons_zero, List.setIfInBounds_toArray, List.cons_append, List.nil_append] at HLR
      clear hw4
      obtain ⟨y0, y1, y2, _, _, _, _, _, _⟩ := HLR.out.c3 2 rfl
      refine bodyPost_ret (v := .tuple #[.agg #[.slice ca s.C.length cp, .int .i64 (s.most : Int), .slice la s.L.length lp], .slice none 0 0]) (by simp [results, Try.results71, go_sem, y0, y1, y2]) rfl ?_
      exact ⟨_, _, none, 0, (0, true), rfl, .inr (.inr ⟨rfl, by simpa using hlt, fun j hj => by simp at hj, by rw [tryE_out s at_ 0 HAT.out]; omega⟩), HLR.out.sel [0, 3] rfl (by decide)⟩
    · go_wp2
      have HLR := Lib.hid (((HL2.out.set 2 rfl 0 (.slice ca s.C.length cp)).set 2 rfl 1 (.int .i64 (s.most : Int))).set 2 rfl 2 (.slice la s.L.length lp))
      simp only [List.set_cons_succ, List.set_cons_zero, List.setIfInBounds_toArray] at HLR
      obtain ⟨y0, y1, y2, _, _, _, _, _, _⟩ := HLR.out.c3 2 rfl
      refine bodyPost_ret (v := .tuple #[.agg #[.slice ca s.C.length cp, .int .i64 (s.most : Int), .slice la s.L.length lp], .slice none 0 0]) (by simp [results, Try.results71, go_sem, y0, y1, y2]) rfl ?_
      exact ⟨_, _, none, 0, (0, false), rfl, .inl ⟨by simp; omega, fun j hj => by simp at hj⟩, HLR.out.sel [0, 3] rfl (by decide)⟩

set_option maxHeartbeats 8000000 in
theorem rTries_in (T : List Nat) (w : World) (vc vl : Value) (s : Ar) (at_ most : Int) (hm : most ≤ 1000) (hL : s.L.length ≤ 1000000) (hat : 0 ≤ at_ ∧ at_ < (s.C.length : Int)) (h : Led T w w [refT vc vl s]) :
    Calls Try.prog 71 #[refV vc s.most vl, .int .i64 at_, .int .i64 most] w (TriesGo T w s at_ most) := by
  obtain ⟨i0, hi, iz0, iz1, iz2⟩ := info_parts info_bool
  have HAT := Lib.hid hat
  clear hat
  obtain ⟨ca, cp, rfl, _, _⟩ := own_val (h.refAt 0 rfl).cel
  obtain ⟨la, lp, rfl, _, _⟩ := own_val (h.refAt 0 rfl).log
  have HL0 := Lib.hid h
  clear h
  unfold refV
  go_enter Try.func71, Try.ntmps71
  go_wp2_with fail
  refine wp_name ?_
  intro w2 hw2
  have HL2 := Lib.hid (boolT_nil (HL0.out.al2 hw2))
  simp only [List.nil_append, List.cons_append] at HL2
  clear hw2
  obtain ⟨b6, hb6⟩ : ∃ b, w.heap.size + 1 = b := ⟨_, rfl⟩
  rw [hb6] at HL2 ⊢
  obtain ⟨b3, hb3⟩ : ∃ b, w.heap.size = b := ⟨_, rfl⟩
  rw [hb3] at HL2 ⊢
  clear hb6 hb3 HL0
  go_loopw [8, 9] (fun v i wr => ∃ (k : Nat) (aa : Option Addr) (ap : Nat) (vc vl : Value), k ≤ most.toNat ∧ v = .slice aa k ap ∧ i = .int .i64 (k : Int) ∧ Hid (allNo (tryD s at_) (tryE s at_) k) ∧ Hid (Led T w wr [refT vc vl (tryS s at_ k), box b3 59 #[vc, .int .i64 (s.most : Int), vl], box b6 59 #[.slice none 0 0, .int .i64 0, .slice none 0 0], row 4 1 (.slice aa k ap) k (boolVs (tryL s at_ k))])) (fun _ i _ => most.toNat - (intOf i).toNat)
  case atStart => exact ⟨0, none, 0, _, _, Nat.zero_le _, rfl, rfl, fun j hj => by omega, HL2⟩
  case round =>
    obtain ⟨k, aa, ap, vc, vl, hk, rfl, rfl, HA, HK⟩ := hrel
    clear HL2
    obtain ⟨ca1, cp1, rfl, _, _⟩ := own_val (HK.out.refAt 0 rfl).cel
    obtain ⟨la1, lp1, rfl, _, _⟩ := own_val (HK.out.refAt 0 rfl).log
    obtain ⟨p0, p1, p2, f0, f1, f2, z3, _, _⟩ := HK.out.c3 1 rfl
    obtain ⟨r0, r1, r2, g0, g1, g2, z6, _, _⟩ := HK.out.c3 2 rfl
    have nn1 := HK.out.ne 1 2 rfl rfl (by decide)
    have nn2 := Ne.symm nn1
    by_cases hlt : (k : Int) < most
    · cases hd : tryD s at_ k
      all_goals
        have HD := Lib.hid hd
        have HC := Lib.hid (fun T W vc vl h => rTryK T W vc vl s at_ k _ hd HAT.out (by omega) h)
        clear hd
        go_wp2_with fail
        refine (HK.out.refGo 0 rfl (fun T h => HC.out T _ _ _ h)).mono ?_
        rintro e w3 ⟨vc', vl', rfl, hL⟩
        simp only [List.nil_append, List.cons_append, List.set_cons_succ, List.set_cons_zero] at hL
        obtain ⟨ca2, cp2, rfl, _, _⟩ := own_val (hL.refAt 0 rfl).cel
        obtain ⟨la2, lp2, rfl, _, _⟩ := own_val (hL.refAt 0 rfl).log
        have HL3 := Lib.hid hL
        clear hL p0 p1 p2 f0 f1 f2 z3 r0 r1 r2 g0 g1 g2 z6 HK HC
        obtain ⟨p0, p1, p2, f0, f1, f2, z3, z31, z32⟩ := HL3.out.c3 1 rfl
        obtain ⟨r0, r1, r2, g0, g1, g2, z6, z61, z62⟩ := HL3.out.c3 2 rfl
        go_upto_region 9 with fail
        refine wp_name ?_
        intro w4 hw4
        have HL4 := Lib.hid ((((HL3.out.set 1 rfl 0 (.slice ca2 (tryS s at_ (k + 1)).C.length cp2)).set 1 rfl 1 (.int .i64 (s.most : Int))).set 1 rfl 2 (.slice la2 (tryS s at_ (k + 1)).L.length lp2)).al1 hw4)
        simp only [List.set_cons_succ, List.set_cons_zero, List.setIfInBounds_toArray, List.cons_append, List.nil_append] at HL4
        clear hw4 HL3 p0 p1 p2 f0 f1 f2 z3 z31 z32 r0 r1 r2 g0 g1 g2 z6 z61 z62
        go_wp2_with (at_builtin; go_must (refine wpList_append_src _ rfl (.tmp 29) (.tmp 31) 67 rfl 4 i0 (.bool false) 1 1 Try.underlying67 hi iz0 iz1 iz2 rfl (by decide) (.slice aa k ap) k (boolVs (tryL s at_ k)) rfl ((HL4.out.alloc _ _).row 3 rfl) (.slice (some ⟨w4.heap.size, 0, none⟩) 1 1) 1 (boolVs [_]) rfl (own_bool _ ((HL4.out.alloc _ _).box 5 rfl)) (bool_one _) (by simp only [maxLen]; omega) (by omega) ?_); intro a2 c2 w6 hown hgrow hat; refine Hid.out ?_)
        have HL6 := Lib.hid ((HL4.out.al1 rfl).grown 3 rfl hgrow hown hat)
        simp only [List.set_cons_zero, List.set_cons_succ, List.cons_append, List.nil_append] at HL6
        rw [← HD.out, ← tryL_succ] at HL6
        clear hown hgrow hat HL4
        refine Lib.hid ?_
        obtain ⟨p0, p1, p2, f0, f1, f2, z3, z31, z32⟩ := HL6.out.c3 1 rfl
        obtain ⟨r0, r1, r2, g0, g1, g2, z6, z61, z62⟩ := HL6.out.c3 2 rfl
      · go_wp2
        go_roundw
        case rel => exact ⟨k + 1, a2, c2, _, _, by omega, rfl, by go_num, fun j hj => by rcases Nat.lt_succ_iff_lt_or_eq.1 hj with h | h; exact HA.out j h; subst h; exact ⟨HD.out, tryE_in s at_ j HAT.out⟩, Led.sub_end (m := [_, _]) HL6.out⟩
        case measure => simp [intOf]; omega
      · go_wp2
        have HLR := Lib.hid (((HL6.out.set 2 rfl 0 (.slice ca2 (tryS s at_ (k + 1)).C.length cp2)).set 2 rfl 1 (.int .i64 (s.most : Int))).set 2 rfl 2 (.slice la2 (tryS s at_ (k + 1)).L.length lp2))
        simp only [List.set_cons_succ, List.set_cons_zero, List.setIfInBounds_toArray] at HLR
        obtain ⟨y0, y1, y2, _, _, _, _, _, _⟩ := HLR.out.c3 2 rfl
        refine bodyPost_ret (v := .tuple #[.agg #[.slice ca2 (tryS s at_ (k + 1)).C.length cp2, .int .i64 (s.most : Int), .slice la2 (tryS s at_ (k + 1)).L.length lp2], .slice a2 (k + 1) c2]) (by simp [results, Try.results71, go_sem, y0, y1, y2]) rfl ?_
        exact ⟨_, _, a2, c2, (k + 1, false), rfl, .inr (.inl ⟨k, rfl, hlt, HA.out, HD.out, tryE_in s at_ k HAT.out⟩), HLR.out.sel [0, 3] rfl (by decide)⟩
    · go_wp2
      have HLR := Lib.hid (((HK.out.set 2 rfl 0 (.slice ca1 (tryS s at_ k).C.length cp1)).set 2 rfl 1 (.int .i64 (s.most : Int))).set 2 rfl 2 (.slice la1 (tryS s at_ k).L.length lp1))
      simp only [List.set_cons_succ, List.set_cons_zero, List.setIfInBounds_toArray] at HLR
      obtain ⟨y0, y1, y2, _, _, _, _, _, _⟩ := HLR.out.c3 2 rfl
      refine bodyPost_ret (v := .tuple #[.agg #[.slice ca1 (tryS s at_ k).C.length cp1, .int .i64 (s.most : Int), .slice la1 (tryS s at_ k).L.length lp1], .slice aa k ap]) (by simp [results, Try.results71, go_sem, y0, y1, y2]) rfl ?_
      have hkm : k = most.toNat := by omega
      exact ⟨_, _, aa, ap, (k, false), rfl, .inl ⟨by rw [hkm], HA.out⟩, HLR.out.sel [0, 3] rfl (by decide)⟩
theorem rTries (T : List Nat) (w : World) (vc vl : Value) (s : Ar) (at_ most : Int) (hm : most ≤ 1000) (hL : s.L.length ≤ 1000000) (h : Led T w w [refT vc vl s]) :
    Calls Try.prog 71 #[refV vc s.most vl, .int .i64 at_, .int .i64 most] w (TriesGo T w s at_ most) := by
  by_cases hat : 0 ≤ at_ ∧ at_ < (s.C.length : Int)
  · exact rTries_in T w vc vl s at_ most hm hL hat h
  · exact rTries_out T w vc vl s at_ most hat h
end Go.Proofs.Ytegebecogbebaaa
