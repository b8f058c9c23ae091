/-
  States of layer 3: the reference's (betrothalref03/ref.go) and the program's (spin.go), in the ledger.
-/
import Derived.Test.YtegebecogbebaaaAct03b
import Derived.Test.YtegebecogbebaaaFrameS
import Derived.Deep.Cut
namespace Go.Proofs.Ytegebecogbebaaa
open Go.RowKit Go.Shelf
set_option maxRecDepth 100000
set_option linter.unusedVariables false
set_option linter.unusedSimpArgs false

def intVs (P : List Int) : List Value := P.map (Value.int .i64)
def inR (s : Ar) (x : Int) : Prop := 0 ≤ x ∧ x < (s.C.length : Int)
/-- The arena behind k looks. -/
def stS (s : Ar) (P : List Int) : Nat → Ar
  | 0 => s
  | k + 1 => ((stS s P k).load (P.getD k 0)).1
def stB (s : Ar) (P : List Int) (k : Nat) : Bool := (stS s P k).heldB (P.getD k 0)
def stL (s : Ar) (P : List Int) (k : Nat) : List Bool := (List.range k).map (stB s P)
theorem stL_len (s : Ar) (P : List Int) (k : Nat) : (stL s P k).length = k := by simp [stL]
theorem stL_succ (s : Ar) (P : List Int) (k : Nat) : boolVs (stL s P (k + 1)) = boolVs (stL s P k) ++ boolVs [stB s P k] := by simp [stL, boolVs, List.range_succ]
theorem stS_C (s : Ar) (P : List Int) (k : Nat) : (stS s P k).C.length = s.C.length := by
  induction k with
  | zero => rfl
  | succ k ih => simp only [stS, Ar.load]; rw [doBy_C_len, ih]
theorem stS_most (s : Ar) (P : List Int) (k : Nat) : (stS s P k).most = s.most := by
  induction k with
  | zero => rfl
  | succ k ih => simp only [stS, Ar.load]; rw [doBy_most, ih]
theorem stS_L (s : Ar) (P : List Int) (k : Nat) : (stS s P k).L.length ≤ s.L.length + k := by
  induction k with
  | zero => exact Nat.le_refl _
  | succ k ih => simp only [stS, Ar.load]; have := doBy_L_len (stS s P k) 1 (P.getD k 0) chgLoad; omega
theorem load_in {s : Ar} {x : Int} (h : inR s x) : (s.load x).2.2 = 0 := by
  unfold Ar.load Ar.doBy
  rw [if_pos (show 0 ≤ x ∧ x < (s.C.length : Int) from h)]
theorem rHeldK (T : List Nat) (w : World) (vc vl : Value) (s : Ar) (P : List Int) (k : Nat) (x : Int) (hx : P.getD k 0 = x) (hin : inR s x) (hL : s.L.length + k ≤ 1048576) (h : Led T w w [refT vc vl (stS s P k)]) :
    Calls Try.prog 70 #[.agg #[vc, .int .i64 (s.most : Int), vl], .int .i64 x] w (RefGo T w (stS s P (k + 1)) (fun vc' vl' => .tuple #[.agg #[vc', .int .i64 (s.most : Int), vl'], .bool (stB s P k), .int .i64 0])) := by
  subst hx
  have := rHeld T w vc vl (stS s P k) (P.getD k 0) (by have := stS_L s P k; omega) h
  rw [load_in (s := stS s P k) (by unfold inR; rw [stS_C]; exact hin), stS_most] at this
  exact this

set_option maxHeartbeats 8000000 in
theorem rStates_out (T : List Nat) (w : World) (vc vl vp : Value) (s : Ar) (P : List Int) (n : Nat) (hn : P.length = n) (hn2 : n ≤ 1000) (hout : ¬ ∀ j, j < n → inR s (P.getD j 0)) (h : Led T w w [refT vc vl s, row 3 1 vp n (intVs P)]) :
    Calls Try.prog 73 #[refV vc s.most vl, vp] w fun e w' => ∃ vc' vl', e = .returned (.tuple #[refV vc' s.most vl', .slice none 0 0, .int .i64 4]) ∧ Led T w w' [refT vc' vl' s, row 3 1 vp n (intVs P)] := by
  have HO := Lib.hid hout
  clear hout
  obtain ⟨ca, cp, rfl, _, _⟩ := own_val (h.refAt 0 rfl).cel
  obtain ⟨la, lp, rfl, _, _⟩ := own_val (h.refAt 0 rfl).log
  obtain ⟨pa, pp, rfl, _, _⟩ := own_val (h.row 1 rfl)
  have HL0 := Lib.hid h
  have HN := Lib.hid hn
  clear h hn
  unfold refV
  go_enter Try.func73, Try.ntmps73
  go_wp2_with fail
  refine wp_name ?_
  intro w2 hw2
  have HL2 := Lib.hid (HL0.out.al2 hw2)
  simp only [List.nil_append, List.cons_append] at HL2
  clear hw2
  obtain ⟨b4, hb4⟩ : ∃ b, w.heap.size + 1 = b := ⟨_, rfl⟩
  rw [hb4] at HL2 ⊢
  obtain ⟨b2, hb2⟩ : ∃ b, w.heap.size = b := ⟨_, rfl⟩
  rw [hb2] at HL2 ⊢
  clear hb4 hb2 HL0
  go_loopw [7] (fun i wr => ∃ (k : Nat), k ≤ n ∧ i = .int .i64 (k : Int) ∧ Hid (∀ j, j < k → inR s (P.getD j 0)) ∧ Hid (Led T w wr [refT (.slice ca s.C.length cp) (.slice la s.L.length lp) s, row 3 1 (.slice pa n pp) n (intVs P), box b2 59 #[.slice ca s.C.length cp, .int .i64 (s.most : Int), .slice la s.L.length lp], box b4 59 #[.slice none 0 0, .int .i64 0, .slice none 0 0]])) (fun i _ => n - (intOf i).toNat)
  case atStart => exact ⟨0, Nat.zero_le _, rfl, fun j hj => by omega, HL2⟩
  case round =>
    obtain ⟨k, hk, rfl, HA, HK⟩ := hrel
    clear HL2
    have hcl := (HK.out.refAt 0 rfl).clen
    obtain ⟨p0, p1, p2, f0, f1, f2, z2, _, _⟩ := HK.out.c3 2 rfl
    obtain ⟨r0, r1, r2, g0, g1, g2, z4, _, _⟩ := HK.out.c3 3 rfl
    have nn1 := HK.out.ne 2 3 rfl rfl (by decide)
    have nn2 := Ne.symm nn1
    by_cases hlt : k < n
    · have hlt' : (k : Int) < (n : Int) := by omega
      have hk0 : (0 : Int) ≤ (k : Int) := by omega
      obtain ⟨gp, rfl, ex⟩ := own_at (HK.out.row 1 rfl) (by simp [intVs, HN.out]) k hlt
      simp only [intVs, List.getElem_map] at ex
      obtain ⟨x, hx⟩ : ∃ x, P.getD k 0 = x := ⟨_, rfl⟩
      have hx2 : P[k]'(by rw [HN.out]; exact hlt) = x := by rw [← hx]; simp [List.getD, HN.out, hlt]
      rw [hx2] at ex
      have HX := Lib.hid hx
      clear hx hx2
      by_cases h0 : x < 0
      · go_wp2_with fail
        go_quiet (fail)
        have HQ := Lib.hid (HK.out.drewN nq)
        clear HK
        go_wp2
        have HLR := Lib.hid (((HQ.out.set 3 rfl 0 (.slice ca s.C.length cp)).set 3 rfl 1 (.int .i64 (s.most : Int))).set 3 rfl 2 (.slice la s.L.length lp))
        simp only [List.set_cons_succ, List.set_cons_zero, List.setIfInBounds_toArray] at HLR
        obtain ⟨y0, y1, y2, _, _, _, _, _, _⟩ := HLR.out.c3 3 rfl
        refine bodyPost_ret (v := .tuple #[.agg #[.slice ca s.C.length cp, .int .i64 (s.most : Int), .slice la s.L.length lp], .slice none 0 0, .int .i64 4]) (by simp [results, Try.results73, go_sem, y0, y1, y2]) rfl ?_
        exact ⟨_, _, rfl, HLR.out.sel [0, 1] rfl (by decide)⟩
      · by_cases h1 : (s.C.length : Int) ≤ x
        · go_wp2_with fail
          go_quiet (fail)
          have HQ := Lib.hid (HK.out.drewN nq)
          clear HK
          go_wp2
          have HLR := Lib.hid (((HQ.out.set 3 rfl 0 (.slice ca s.C.length cp)).set 3 rfl 1 (.int .i64 (s.most : Int))).set 3 rfl 2 (.slice la s.L.length lp))
          simp only [List.set_cons_succ, List.set_cons_zero, List.setIfInBounds_toArray] at HLR
          obtain ⟨y0, y1, y2, _, _, _, _, _, _⟩ := HLR.out.c3 3 rfl
          refine bodyPost_ret (v := .tuple #[.agg #[.slice ca s.C.length cp, .int .i64 (s.most : Int), .slice la s.L.length lp], .slice none 0 0, .int .i64 4]) (by simp [results, Try.results73, go_sem, y0, y1, y2]) rfl ?_
          exact ⟨_, _, rfl, HLR.out.sel [0, 1] rfl (by decide)⟩
        · have h1' : x < (s.C.length : Int) := by omega
          have HI : Hid (inR s x) := ⟨by omega, by omega⟩
          go_wp2_with fail
          go_quiet (fail)
          go_wp2
          go_roundw
          case rel => exact ⟨k + 1, by omega, by go_num, fun j hj => by rcases Nat.lt_succ_iff_lt_or_eq.1 hj with h | h; exact HA.out j h; subst h; rw [HX.out]; exact HI.out, HK.out.drewN _⟩
          case measure => simp [intOf]; omega
    · have hlt' : ¬ (k : Int) < (n : Int) := by omega
      have hkn : k = n := by omega
      exact absurd (hkn ▸ HA.out) HO.out
set_option maxHeartbeats 8000000 in
theorem rStates_in (T : List Nat) (w : World) (vc vl vp : Value) (s : Ar) (P : List Int) (n : Nat) (hn : P.length = n) (hn2 : n ≤ 1000) (hL : s.L.length ≤ 1000000) (hin : ∀ j, j < n → inR s (P.getD j 0)) (h : Led T w w [refT vc vl s, row 3 1 vp n (intVs P)]) :
    Calls Try.prog 73 #[refV vc s.most vl, vp] w fun e w' => ∃ vc' vl' aa ap, e = .returned (.tuple #[refV vc' s.most vl', .slice aa n ap, .int .i64 0]) ∧ Led T w w' [refT vc' vl' (stS s P n), row 3 1 vp n (intVs P), row 4 1 (.slice aa n ap) n (boolVs (stL s P n))] := by
  have HO := Lib.hid hin
  obtain ⟨i0, hi, iz0, iz1, iz2⟩ := info_parts info_bool
  clear hin
  obtain ⟨ca, cp, rfl, _, _⟩ := own_val (h.refAt 0 rfl).cel
  obtain ⟨la, lp, rfl, _, _⟩ := own_val (h.refAt 0 rfl).log
  obtain ⟨pa, pp, rfl, _, _⟩ := own_val (h.row 1 rfl)
  have HL0 := Lib.hid h
  have HN := Lib.hid hn
  clear h hn
  unfold refV
  go_enter Try.func73, Try.ntmps73
  go_wp2_with fail
  refine wp_name ?_
  intro w2 hw2
  have HL2 := Lib.hid (HL0.out.al2 hw2)
  simp only [List.nil_append, List.cons_append] at HL2
  clear hw2
  obtain ⟨b4, hb4⟩ : ∃ b, w.heap.size + 1 = b := ⟨_, rfl⟩
  rw [hb4] at HL2 ⊢
  obtain ⟨b2, hb2⟩ : ∃ b, w.heap.size = b := ⟨_, rfl⟩
  rw [hb2] at HL2 ⊢
  clear hb4 hb2 HL0
  go_loopw [7] (fun i wr => ∃ (k : Nat), k ≤ n ∧ i = .int .i64 (k : Int) ∧ Hid (∀ j, j < k → inR s (P.getD j 0)) ∧ Hid (Led T w wr [refT (.slice ca s.C.length cp) (.slice la s.L.length lp) s, row 3 1 (.slice pa n pp) n (intVs P), box b2 59 #[.slice ca s.C.length cp, .int .i64 (s.most : Int), .slice la s.L.length lp], box b4 59 #[.slice none 0 0, .int .i64 0, .slice none 0 0]])) (fun i _ => n - (intOf i).toNat)
  case atStart => exact ⟨0, Nat.zero_le _, rfl, fun j hj => by omega, HL2⟩
  case round =>
    obtain ⟨k, hk, rfl, HA, HK⟩ := hrel
    clear HL2
    have hcl := (HK.out.refAt 0 rfl).clen
    obtain ⟨p0, p1, p2, f0, f1, f2, z2, _, _⟩ := HK.out.c3 2 rfl
    obtain ⟨r0, r1, r2, g0, g1, g2, z4, _, _⟩ := HK.out.c3 3 rfl
    have nn1 := HK.out.ne 2 3 rfl rfl (by decide)
    have nn2 := Ne.symm nn1
    by_cases hlt : k < n
    · have hlt' : (k : Int) < (n : Int) := by omega
      have hk0 : (0 : Int) ≤ (k : Int) := by omega
      obtain ⟨gp, rfl, ex⟩ := own_at (HK.out.row 1 rfl) (by simp [intVs, HN.out]) k hlt
      simp only [intVs, List.getElem_map] at ex
      obtain ⟨x, hx⟩ : ∃ x, P.getD k 0 = x := ⟨_, rfl⟩
      have hx2 : P[k]'(by rw [HN.out]; exact hlt) = x := by rw [← hx]; simp [List.getD, HN.out, hlt]
      rw [hx2] at ex
      have HX := Lib.hid hx
      clear hx hx2
      by_cases h0 : x < 0
      · exact absurd (HO.out k hlt) (by rw [HX.out]; unfold inR; omega)
      · by_cases h1 : (s.C.length : Int) ≤ x
        · exact absurd (HO.out k hlt) (by rw [HX.out]; unfold inR; omega)
        · have h1' : x < (s.C.length : Int) := by omega
          have HI : Hid (inR s x) := ⟨by omega, by omega⟩
          go_wp2_with fail
          go_quiet (fail)
          go_wp2
          go_roundw
          case rel => exact ⟨k + 1, by omega, by go_num, fun j hj => by rcases Nat.lt_succ_iff_lt_or_eq.1 hj with h | h; exact HA.out j h; subst h; rw [HX.out]; exact HI.out, HK.out.drewN _⟩
          case measure => simp [intOf]; omega
    · have hlt' : ¬ (k : Int) < (n : Int) := by omega
      have hkn : k = n := by omega
      go_wp2_with fail
      clear hk hlt hlt' hkn HA p0 p1 p2 f0 f1 f2 z2 r0 r1 r2 g0 g1 g2 z4
      have HK2 := Lib.hid (boolT_nil HK.out)
      simp only [List.nil_append, List.cons_append] at HK2
      clear HK
      go_loopw [8, 9] (fun v i wr => ∃ (k : Nat) (aa : Option Addr) (ap : Nat) (vc vl : Value), k ≤ n ∧ v = .slice aa k ap ∧ i = .int .i64 (k : Int) ∧ Hid (Led T w wr [refT vc vl (stS s P k), row 3 1 (.slice pa n pp) n (intVs P), box b2 59 #[vc, .int .i64 (s.most : Int), vl], box b4 59 #[.slice none 0 0, .int .i64 0, .slice none 0 0], row 4 1 (.slice aa k ap) k (boolVs (stL s P k))])) (fun _ i _ => n - (intOf i).toNat)
      case atStart => exact ⟨0, none, 0, _, _, Nat.zero_le _, rfl, rfl, HK2⟩
      case round =>
        obtain ⟨k, aa, ap, vc, vl, hk, rfl, rfl, HK⟩ := hrel
        clear HK2
        obtain ⟨ca1, cp1, rfl, _, _⟩ := own_val (HK.out.refAt 0 rfl).cel
        obtain ⟨la1, lp1, rfl, _, _⟩ := own_val (HK.out.refAt 0 rfl).log
        obtain ⟨p0, p1, p2, f0, f1, f2, z3, z31, z32⟩ := HK.out.c3 2 rfl
        obtain ⟨r0, r1, r2, g0, g1, g2, z6, z61, z62⟩ := HK.out.c3 3 rfl
        by_cases hlt : k < n
        · have hlt' : (k : Int) < (n : Int) := by omega
          have hk0 : (0 : Int) ≤ (k : Int) := by omega
          obtain ⟨gp, rfl, ex⟩ := own_at (HK.out.row 1 rfl) (by simp [intVs, HN.out]) k hlt
          simp only [intVs, List.getElem_map] at ex
          obtain ⟨x, hx⟩ : ∃ x, P.getD k 0 = x := ⟨_, rfl⟩
          have hx2 : P[k]'(by rw [HN.out]; exact hlt) = x := by rw [← hx]; simp [List.getD, HN.out, hlt]
          rw [hx2] at ex
          have HE0 : Hid (∀ W : World, W.ownsRow 0 3 1 (.slice (some ⟨gp, 0, none⟩) n pp) n (intVs P) → W.cell? ⟨gp, k, none⟩ = some (.int .i64 x)) := fun W h => by
            have := own_cell h k (by rw [intVs, List.length_map, HN.out]; exact hlt)
            simpa only [intVs, List.getElem_map, hx2] using this
          have HC := Lib.hid (fun T W vc vl h => rHeldK T W vc vl s P k x hx (hx ▸ HO.out k hlt) (by omega) h)
          have HX : Hid (∀ W, Led T w W [refT (.slice ca1 (stS s P k).C.length cp1) (.slice la1 (stS s P k).L.length lp1) (stS s P k)] → True) := fun _ _ => trivial
          have hgp : gp < wr.heap.size := by
            apply Classical.byContradiction
            intro hc
            have : wr.cell? ⟨gp, k, none⟩ = none := by simp [World.cell?, Array.getElem?_eq_none (Nat.not_lt.1 hc)]
            rw [this] at ex
            cases ex
          have nn3 : gp ≠ wr.heap.size := by omega
          have nn4 : wr.heap.size ≠ gp := by omega
          clear hx hx2 HX
          have HE : Hid (∀ (W : World) (l : List Thing), Led T w W l → l[1]? = some (row 3 1 (.slice (some ⟨gp, 0, none⟩) n pp) n (intVs P)) → W.cell? ⟨gp, k, none⟩ = some (.int .i64 x)) := fun W l hl h1 => HE0.out W (hl.row 1 h1)
          go_wp2_with fail
          go_region_held3 (fun w' => w'.cell? ⟨b2, 0, none⟩ = some (.slice ca1 (stS s P k).C.length cp1) ∧ w'.cell? ⟨b2, 1, none⟩ = some (.int .i64 (s.most : Int)) ∧ w'.cell? ⟨b2, 2, none⟩ = some (.slice la1 (stS s P k).L.length lp1) ∧ w'.cell? ⟨gp, k, none⟩ = some (.int .i64 x)) (go_keep)
            (first
            | (go_at_call 70; refine (HK.out.drew.refGo 0 rfl (fun T h => HC.out T _ _ _ h)).mono ?_; rintro e w4 ⟨vc', vl', rfl, hL⟩; simp only [List.set_cons_succ, List.set_cons_zero, List.cons_append, List.nil_append] at hL; obtain ⟨ca2, cp2, rfl, _, _⟩ := own_val (hL.refAt 0 rfl).cel; obtain ⟨la2, lp2, rfl, _, _⟩ := own_val (hL.refAt 0 rfl).log; have HL4 := Lib.hid hL; clear hL; obtain ⟨p0, p1, p2, f0, f1, f2, z3, z31, z32⟩ := HL4.out.c3 2 rfl; have ex := HE.out _ _ HL4.out rfl)
            | (go_at_call 70; refine ((HK.out.alloc _ _).drew.refGo 0 rfl (fun T h => HC.out T _ _ _ h)).mono ?_; rintro e w4 ⟨vc', vl', rfl, hL⟩; simp only [List.set_cons_succ, List.set_cons_zero, List.cons_append, List.nil_append] at hL; obtain ⟨ca2, cp2, rfl, _, _⟩ := own_val (hL.refAt 0 rfl).cel; obtain ⟨la2, lp2, rfl, _, _⟩ := own_val (hL.refAt 0 rfl).log; have HL4 := Lib.hid hL; clear hL; obtain ⟨p0, p1, p2, f0, f1, f2, z3, z31, z32⟩ := HL4.out.c3 2 rfl; have ex := HE.out _ _ HL4.out rfl; obtain ⟨m0, m1, m2, e0, e1, e2, zm, _, _⟩ := HL4.out.c3 5 rfl; have nn5 := HL4.out.ne 2 5 rfl rfl (by decide); have nn6 := Ne.symm nn5))
          · go_upto_region 11 with fail
            refine wp_name ?_
            intro w5 hw5
            have HL5 := Lib.hid (HL4.out.al1 hw5)
            simp only [List.nil_append, List.cons_append] at HL5
            clear hw5
            obtain ⟨b10, hb10⟩ : ∃ b, w4.heap.size = b := ⟨_, rfl⟩
            clear p0 p1 p2 f0 f1 f2 z3 z31 z32 r0 r1 r2 g0 g1 g2 z6 z61 z62 ex
            rw [hb10] at HL5 ⊢
            obtain ⟨p0, p1, p2, f0, f1, f2, z3, z31, z32⟩ := HL5.out.c3 2 rfl
            obtain ⟨m0, m1, m2, e0, e1, e2, zm, _, _⟩ := HL5.out.c3 5 rfl
            have nn5 := HL5.out.ne 2 5 rfl rfl (by decide)
            have nn6 := Ne.symm nn5
            clear HL4
            go_upto_region 12 with fail
            refine wp_name ?_
            intro w6 hw6
            have HL6 := Lib.hid (((HL5.out.set 2 rfl 0 (.slice ca2 (stS s P (k + 1)).C.length cp2)).set 2 rfl 1 (.int .i64 (s.most : Int))).set 2 rfl 2 (.slice la2 (stS s P (k + 1)).L.length lp2))
            simp only [List.set_cons_succ, List.set_cons_zero, List.setIfInBounds_toArray] at HL6
            rw [hw6] at HL6
            clear hw6 HL5 p0 p1 p2 f0 f1 f2 z3 z31 z32 m0 m1 m2 e0 e1 e2 zm
            go_wp2_with (at_builtin; go_must (refine wpList_append_src _ rfl (.tmp 52) (.tmp 54) 67 rfl 4 i0 (.bool false) 1 1 Try.underlying67 hi iz0 iz1 iz2 rfl (by decide) (.slice aa k ap) k (boolVs (stL s P k)) rfl ((HL6.out.alloc _ _).row 4 rfl) (.slice (some ⟨w6.heap.size, 0, none⟩) 1 1) 1 (boolVs [_]) rfl (own_bool _ ((HL6.out.alloc _ _).box 6 rfl)) (bool_one _) (by simp only [maxLen]; omega) (by omega) ?_); intro a2 c2 w7 hown hgrow hat; refine Hid.out ?_)
            have HL7 := Lib.hid ((HL6.out.al1 rfl).grown 4 rfl hgrow hown hat)
            simp only [List.set_cons_zero, List.set_cons_succ, List.cons_append, List.nil_append] at HL7
            rw [← stL_succ] at HL7
            clear hown hgrow hat HL6
            refine Lib.hid ?_
            go_wp2
            go_roundw
            case rel => exact ⟨k + 1, a2, c2, _, _, by omega, rfl, by go_num, Led.sub_end (m := [_, _]) HL7.out⟩
            case measure => simp [intOf]; omega
          · go_upto_region 11 with fail
            refine wp_name ?_
            intro w5 hw5
            have HL5 := Lib.hid (((HL4.out.set 5 rfl 0 (.slice ca2 (stS s P (k + 1)).C.length cp2)).set 5 rfl 1 (.int .i64 (s.most : Int))).set 5 rfl 2 (.slice la2 (stS s P (k + 1)).L.length lp2))
            simp only [List.set_cons_succ, List.set_cons_zero, List.setIfInBounds_toArray] at HL5
            rw [hw5] at HL5
            clear hw5
            obtain ⟨b10, hb10⟩ : ∃ b, wr.heap.size = b := ⟨_, rfl⟩
            clear p0 p1 p2 f0 f1 f2 z3 z31 z32 r0 r1 r2 g0 g1 g2 z6 z61 z62 ex
            rw [hb10] at HL5 ⊢
            obtain ⟨p0, p1, p2, f0, f1, f2, z3, z31, z32⟩ := HL5.out.c3 2 rfl
            obtain ⟨m0, m1, m2, e0, e1, e2, zm, _, _⟩ := HL5.out.c3 5 rfl
            have nn5 := HL5.out.ne 2 5 rfl rfl (by decide)
            have nn6 := Ne.symm nn5
            clear HL4
            go_upto_region 12 with fail
            refine wp_name ?_
            intro w6 hw6
            have HL6 := Lib.hid (((HL5.out.set 2 rfl 0 (.slice ca2 (stS s P (k + 1)).C.length cp2)).set 2 rfl 1 (.int .i64 (s.most : Int))).set 2 rfl 2 (.slice la2 (stS s P (k + 1)).L.length lp2))
            simp only [List.set_cons_succ, List.set_cons_zero, List.setIfInBounds_toArray] at HL6
            rw [hw6] at HL6
            clear hw6 HL5 p0 p1 p2 f0 f1 f2 z3 z31 z32 m0 m1 m2 e0 e1 e2 zm
            go_wp2_with (at_builtin; go_must (refine wpList_append_src _ rfl (.tmp 52) (.tmp 54) 67 rfl 4 i0 (.bool false) 1 1 Try.underlying67 hi iz0 iz1 iz2 rfl (by decide) (.slice aa k ap) k (boolVs (stL s P k)) rfl ((HL6.out.alloc _ _).row 4 rfl) (.slice (some ⟨w6.heap.size, 0, none⟩) 1 1) 1 (boolVs [_]) rfl (own_bool _ ((HL6.out.alloc _ _).box 6 rfl)) (bool_one _) (by simp only [maxLen]; omega) (by omega) ?_); intro a2 c2 w7 hown hgrow hat; refine Hid.out ?_)
            have HL7 := Lib.hid ((HL6.out.al1 rfl).grown 4 rfl hgrow hown hat)
            simp only [List.set_cons_zero, List.set_cons_succ, List.cons_append, List.nil_append] at HL7
            rw [← stL_succ] at HL7
            clear hown hgrow hat HL6
            refine Lib.hid ?_
            go_wp2
            go_roundw
            case rel => exact ⟨k + 1, a2, c2, _, _, by omega, rfl, by go_num, Led.sub_end (m := [_, _]) HL7.out⟩
            case measure => simp [intOf]; omega
        · have hlt' : ¬ (k : Int) < (n : Int) := by omega
          go_wp2
          have HLR := Lib.hid (((HK.out.set 3 rfl 0 (.slice ca1 (stS s P k).C.length cp1)).set 3 rfl 1 (.int .i64 (s.most : Int))).set 3 rfl 2 (.slice la1 (stS s P k).L.length lp1))
          simp only [List.set_cons_succ, List.set_cons_zero, List.setIfInBounds_toArray] at HLR
          obtain ⟨y0, y1, y2, _, _, _, _, _, _⟩ := HLR.out.c3 3 rfl
          refine bodyPost_ret (v := .tuple #[.agg #[.slice ca1 (stS s P k).C.length cp1, .int .i64 (s.most : Int), .slice la1 (stS s P k).L.length lp1], .slice aa k ap, .int .i64 0]) (by simp [results, Try.results73, go_sem, y0, y1, y2]) rfl ?_
          obtain rfl : k = n := by omega
          exact ⟨_, _, aa, ap, rfl, HLR.out.sel [0, 1, 4] rfl (by decide)⟩
end Go.Proofs.Ytegebecogbebaaa
