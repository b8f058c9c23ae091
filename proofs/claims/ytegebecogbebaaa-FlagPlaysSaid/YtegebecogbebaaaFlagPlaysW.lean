/-
  FlagPlays (betrothallaw12/law.go): its walk: for every capacity and every slice of calls it returns true, and nothing that was there has turned.
-/
import Derived.Test.YtegebecogbebaaaAct12
import Derived.Test.YtegebecogbebaaaFew01
import Derived.Test.YtegebecogbebaaaOpen
import Derived.Deep.Cut
import Derived.Deep.QuietTactic
import Derived.BigQuiet
namespace Go.Proofs.Ytegebecogbebaaa
open Go.RowKit Go.Shelf
set_option maxRecDepth 100000
set_option linter.unusedVariables false
set_option linter.unusedSimpArgs false

theorem Led.act12' {T : List Nat} {w0 w : World} {l : List Thing} {g : Nat} {s : Ar} {vc vl : Value} {most : Nat} (hm : s.most = most) (h : Led T w0 w l) (i j : Nat) (hi : l[i]? = some (arena g s)) (hj : l[j]? = some (refT vc vl s)) (hij : i ≠ j) (c : Call12) (hc : c.Ok) (hL : s.L.length ≤ 1048576) :
    Calls Try.prog 50 #[.pointer (some ⟨g, 0, none⟩), .agg #[vc, .int .i64 (most : Int), vl], .agg #[.int .i64 c.what, .int .i64 c.at_, .int .u64 (c.n : Int)]] w
      fun e w' => ∃ vc' vl', e = .returned (.tuple #[.agg #[vc', .int .i64 (most : Int), vl'], .bool true]) ∧ Led T w0 w' ((l.set i (arena g (act12S s c))).set j (refT vc' vl' (act12S s c))) := by
  subst hm
  obtain ⟨T', h1, h2⟩ := h.frame2 i j hi hj hij
  refine (act12 T' w g s vc vl c hc h1 hL).mono ?_
  rintro e w' ⟨vc', vl', rest, rfl, h3⟩
  exact ⟨vc', vl', rfl, h2 _ _ _ _ h3⟩
theorem act12S_most (s : Ar) (c : Call12) : (act12S s c).most = s.most := by
  simp only [act12S, Ar.allocA, Ar.load, Ar.store, Ar.swap, Ar.doBy, Ar.acc]
  repeat' split
  all_goals rfl
theorem act12S_len (s : Ar) (c : Call12) : (act12S s c).L.length ≤ s.L.length + 1 := by
  simp only [act12S, Ar.allocA, Ar.load, Ar.store, Ar.swap, Ar.doBy, Ar.acc]
  repeat' split
  all_goals simp
theorem load_C' {s : Ar} {k : Nat} (hk : k < s.C.length) : (s.load (k : Int)).1.C = s.C ∧ (s.load (k : Int)).2.1.old = s.C[k] ∧ (s.load (k : Int)).2.2 = 0 ∧ (s.load (k : Int)).1.L.length = s.L.length + 1 ∧ (s.load (k : Int)).1.most = s.most := by
  have hg : s.C.getD k 0 = s.C[k] := by simp [List.getD, hk]
  simp only [Ar.load, Ar.doBy]
  rw [if_pos ⟨by omega, by omega⟩]
  simp only [Ar.acc, chgLoad, Int.toNat_natCast, if_true, hg]
  refine ⟨List.set_getElem_self hk, ?_⟩
  simp
theorem quiet_left {P : Program} {f : FuncId} {args : Array Value} {w : World} {k : Nat} {v : Value} (h : Calls P f args (w.drewN k) fun e w' => e = .returned v ∧ w.drewN k = w') :
    Calls P f args (w.drewN k) fun e w'' => e = .returned v ∧ ∃ m, w'' = w.drewN m := h.mono fun _ _ ⟨he, hm⟩ => ⟨he, k, hm.symm⟩
theorem Led.arLoad12 {T : List Nat} {w0 w : World} {l : List Thing} {g : Nat} {s : Ar} (h : Led T w0 w l) (i : Nat) (hi : l[i]? = some (arena g s)) {k : Nat} (hk : k < s.C.length) (hL : s.L.length ≤ 1048576) :
    Calls Try.prog 22 #[.pointer (some ⟨g, 0, none⟩), .int .i64 (k : Int)] w fun e w' => ∃ s', (e = .returned (.tuple #[.int .u64 (s.C[k] : Int), .int .i64 0]) ∧ s'.C = s.C ∧ s'.L.length = s.L.length + 1) ∧ Led T w0 w' (l.set i (arena g s')) := by
  obtain ⟨h1, h2, h3, h4, _⟩ := load_C' hk
  refine (h.ar i hi (fun fp hI => Load_any w g fp s (k : Int) hI (by omega))).mono ?_
  rintro e w' ⟨he, h5⟩
  rw [h2, h3] at he
  exact ⟨_, ⟨he, h1, h4⟩, h5⟩

set_option maxHeartbeats 2000000 in
theorem flagPlays_out (most : Int) (a1 : Option Addr) (n1 c1 : Nat) (w : World) (hn1 : n1 ≤ 9223372036854775807) (h : most < 1 ∨ 10 < most ∨ 60 < n1) :
    Calls Try.prog 12 #[.int .i64 most, .slice a1 n1 c1] w fun e w' => e = .returned (.bool true) ∧ Below w.heap.size w w' := by
  by_cases h1 : most < 1
  · clear h
    go_enter Try.func12, Try.ntmps12
    go_wp2_with fail
    refine (works12 _).mono ?_
    rintro e w' ⟨rfl, hb⟩
    have HB := Lib.hid hb
    clear hb
    go_wp2
    go_ret
    exact ⟨rfl, HB.out⟩
  · by_cases h2 : 10 < most
    · clear h
      go_enter Try.func12, Try.ntmps12
      go_wp2_with fail
      refine (works12 _).mono ?_
      rintro e w' ⟨rfl, hb⟩
      have HB := Lib.hid hb
      clear hb
      go_wp2
      go_ret
      exact ⟨rfl, HB.out⟩
    · have h3 : (60 : Int) < (n1 : Int) := by omega
      clear h
      go_enter Try.func12, Try.ntmps12
      go_wp2_with fail
      refine (works12 _).mono ?_
      rintro e w' ⟨rfl, hb⟩
      have HB := Lib.hid hb
      clear hb
      go_wp2
      go_ret
      exact ⟨rfl, HB.out⟩

set_option maxHeartbeats 8000000 in
theorem flagPlays_in (most : Nat) (a1 : Option Addr) (n1 c1 : Nat) (l : List Call12) (w : World) (hn1 : n1 ≤ 60) (hll : l.length = n1) (hl : StructsAt w a1 3 Call12.cells l) (hok : ∀ a ∈ l, a.Ok) (hm1 : 1 ≤ most) (hm2 : most ≤ 10) :
    Calls Try.prog 12 #[.int .i64 (most : Int), .slice a1 n1 c1] w fun e w' => e = .returned (.bool true) ∧ Below w.heap.size w w' := by
  have HL := Lib.hid hl
  have HLL := Lib.hid hll
  have HOK := Lib.hid hok
  clear hl hll hok
  have h1 : ¬ (most : Int) < 1 := by omega
  have h2 : ¬ 10 < (most : Int) := by omega
  have h3 : ¬ (60 : Int) < (n1 : Int) := by omega
  go_enter Try.func12, Try.ntmps12
  go_wp2_with fail
  refine ((Led.nil' w).arNew most hm1 (by omega)).mono ?_
  rintro e w1 ⟨rfl, h1⟩
  have HL1 := Lib.hid h1
  clear h1
  obtain ⟨g, hg0⟩ : ∃ b, w.heap.size = b := ⟨_, rfl⟩
  rw [hg0] at HL1 ⊢
  go_wp2_with fail
  refine (refNew most _ hm1 (by omega)).mono ?_
  rintro e w2 ⟨rfl, ht⟩
  have HL2 := Lib.hid (refT_nil (HL1.out.touch ht) most (by omega))
  simp only [List.nil_append, List.cons_append] at HL2
  clear ht HL1
  unfold refV
  go_wp2_with fail
  refine wp_name ?_
  intro w3 hw3
  have HL3 := Lib.hid (HL2.out.al1 hw3)
  simp only [List.nil_append, List.cons_append] at HL3
  obtain ⟨b7, hb7⟩ : ∃ b, w2.heap.size = b := ⟨_, rfl⟩
  rw [hb7] at HL3 ⊢
  clear hw3 hb7 HL2
  go_loopw [9] (fun i wr => ∃ (k : Nat) (s : Ar) (vc vl : Value), k ≤ n1 ∧ i = .int .i64 (k : Int) ∧ s.L.length ≤ k ∧ Hid (s.most = most) ∧ Hid (Led [] w wr [arena g s, refT vc vl s, box b7 59 #[vc, .int .i64 (most : Int), vl]])) (fun i _ => n1 - (intOf i).toNat)
  case atStart => exact ⟨0, ⟨[], most, []⟩, _, _, Nat.zero_le _, rfl, Nat.le_refl _, rfl, HL3⟩
  case round =>
    obtain ⟨k, s, vc, vl, hk, rfl, hsl, HM, HK⟩ := hrel
    obtain ⟨ca, cp, rfl, _, _⟩ := own_val (HK.out.refAt 1 rfl).cel
    obtain ⟨la, lp, rfl, _, _⟩ := own_val (HK.out.refAt 1 rfl).log
    obtain ⟨p0, p1, p2, f0, f1, f2, z7, _, _⟩ := HK.out.c3 2 rfl
    by_cases hlt : k < n1
    · have hlt' : (k : Int) < (n1 : Int) := by omega
      have hk0 : (0 : Int) ≤ (k : Int) := by omega
      obtain ⟨b1, o1, rfl, hb1, hv1⟩ := HL.out k (by rw [HLL.out]; exact hlt)
      obtain ⟨c, hc⟩ : ∃ c, l[k]'(by rw [HLL.out]; exact hlt) = c := ⟨_, rfl⟩
      have HC : Hid (c.Ok) := by rw [← hc]; exact HOK.out _ (List.getElem_mem _)
      rw [hc] at hv1
      have HV : Hid (∀ W, Below w.heap.size w W → W.cell? ⟨b1, o1 + k * 3, none⟩ = some (.int .i64 c.what) ∧ W.cell? ⟨b1, o1 + k * 3 + 1, none⟩ = some (.int .i64 c.at_) ∧ W.cell? ⟨b1, o1 + k * 3 + 2, none⟩ = some (.int .u64 (c.n : Int))) := fun W hW =>
        ⟨(hW.cell (p := ⟨b1, o1 + k * 3, none⟩) hb1).trans (hv1 0 (by omega)), (hW.cell (p := ⟨b1, o1 + k * 3 + 1, none⟩) hb1).trans (hv1 1 (by omega)), (hW.cell (p := ⟨b1, o1 + k * 3 + 2, none⟩) hb1).trans (hv1 2 (by omega))⟩
      obtain ⟨v0, v1, v2⟩ := HV.out wr HK.out.below
      have hb1' : b1 < wr.heap.size := Nat.lt_of_lt_of_le hb1 HK.out.size
      have nn3 : b1 ≠ wr.heap.size := by omega
      have nn4 : wr.heap.size ≠ b1 := by omega
      clear hv1 hc
      go_wp2_with fail
      go_region_held3 (fun w' => w'.cell? ⟨b7, 0, none⟩ = some (.slice ca s.C.length cp) ∧ w'.cell? ⟨b7, 1, none⟩ = some (.int .i64 (most : Int)) ∧ w'.cell? ⟨b7, 2, none⟩ = some (.slice la s.L.length lp) ∧ w'.cell? ⟨b1, o1 + k * 3, none⟩ = some (.int .i64 c.what) ∧ w'.cell? ⟨b1, o1 + k * 3 + 1, none⟩ = some (.int .i64 c.at_) ∧ w'.cell? ⟨b1, o1 + k * 3 + 2, none⟩ = some (.int .u64 (c.n : Int))) (go_keep)
        (first
        | (go_at_call 50; refine (Led.act12' HM.out HK.out.drew 0 1 rfl rfl (by decide) c HC.out (by omega)).mono ?_; rintro e w4 ⟨vc', vl', rfl, hL⟩; simp only [List.set_cons_succ, List.set_cons_zero, List.cons_append, List.nil_append] at hL; obtain ⟨ca1, cp1, rfl, _, _⟩ := own_val (hL.refAt 1 rfl).cel; obtain ⟨la1, lp1, rfl, _, _⟩ := own_val (hL.refAt 1 rfl).log; have HL4 := Lib.hid hL; obtain ⟨p0, p1, p2, f0, f1, f2, z7, _, _⟩ := HL4.out.c3 2 rfl; obtain ⟨v0, v1, v2⟩ := HV.out w4 HL4.out.below; have hb1' : b1 < w4.heap.size := Nat.lt_of_lt_of_le hb1 HL4.out.size; clear hL)
        | (go_at_call 50; refine (Led.act12' HM.out (HK.out.alloc _ _).drew 0 1 rfl rfl (by decide) c HC.out (by omega)).mono ?_; rintro e w4 ⟨vc', vl', rfl, hL⟩; simp only [List.set_cons_succ, List.set_cons_zero, List.cons_append, List.nil_append] at hL; obtain ⟨ca1, cp1, rfl, _, _⟩ := own_val (hL.refAt 1 rfl).cel; obtain ⟨la1, lp1, rfl, _, _⟩ := own_val (hL.refAt 1 rfl).log; have HL4 := Lib.hid hL; obtain ⟨p0, p1, p2, f0, f1, f2, z7, _, _⟩ := HL4.out.c3 2 rfl; obtain ⟨v0, v1, v2⟩ := HV.out w4 HL4.out.below; have hb1' : b1 < w4.heap.size := Nat.lt_of_lt_of_le hb1 HL4.out.size; clear hL; obtain ⟨m0, m1, m2, e0, e1, e2, zm, _, _⟩ := HL4.out.c3 3 rfl; have nn1 := HL4.out.ne 2 3 rfl rfl (by decide); have nn2 := Ne.symm nn1))
      · go_upto_region 9 with fail
        refine wp_name ?_
        intro w5 hw5
        have HL5 := Lib.hid (HL4.out.al1 hw5)
        simp only [List.nil_append, List.cons_append] at HL5
        clear hw5
        obtain ⟨b10, hb10⟩ : ∃ b, w4.heap.size = b := ⟨_, rfl⟩
        clear p0 p1 p2 f0 f1 f2 z7 v0 v1 v2
        rw [hb10] at HL5 ⊢
        have HM5 : Hid ((act12S s c).most = most) := (act12S_most s c).trans HM.out
        have hsl5 : (act12S s c).L.length ≤ k + 1 := by have := act12S_len s c; omega
        obtain ⟨p0, p1, p2, f0, f1, f2, z7, _, _⟩ := HL5.out.c3 2 rfl
        obtain ⟨m0, m1, m2, e0, e1, e2, zm, _, _⟩ := HL5.out.c3 3 rfl
        have nn1 := HL5.out.ne 2 3 rfl rfl (by decide)
        have nn2 := Ne.symm nn1
        have hcl5 := (HL5.out.refAt 1 rfl).clen
        generalize act12S s c = s' at HL5 HM5 hsl5 p0 p1 p2 m0 m1 m2 hcl5 ⊢
        clear HL4
        go_wp2_with fail
        refine wp_name ?_
        intro w6 hw6
        have HL6 := Lib.hid (((HL5.out.set 2 rfl 0 (.slice ca1 s'.C.length cp1)).set 2 rfl 1 (.int .i64 (most : Int))).set 2 rfl 2 (.slice la1 s'.L.length lp1))
        simp only [List.set_cons_succ, List.set_cons_zero, List.setIfInBounds_toArray] at HL6
        rw [hw6] at HL6
        clear hw6 HL5 p0 p1 p2 f0 f1 f2 z7 m0 m1 m2 e0 e1 e2 zm nn1 nn2
        obtain ⟨p0, p1, p2, f0, f1, f2, z7, _, _⟩ := HL6.out.c3 2 rfl
        have hcast : IntKind.u64.wrap (s'.L.length : Int) = (s'.L.length : Int) := by rw [IntKind.wrap_u64]; omega
        go_quiet ((first | (go_at_call 35; exact quiet_left ((HL6.out.drewN _).arq 0 rfl (fun fp hI => Len_any _ g fp s' hI))) | (go_at_call 26; exact quiet_left ((HL6.out.drewN _).arq 0 rfl (fun fp hI => Count_any _ g fp s' hI)))))
        go_wp2
        have HL7 : Hid (Led [] w (w6.drewN nq) [arena g s', refT (.slice ca1 s'.C.length cp1) (.slice la1 s'.L.length lp1) s', box b7 59 #[.slice ca1 s'.C.length cp1, .int .i64 (most : Int), .slice la1 s'.L.length lp1]]) := Led.sub_end (m := [_]) (HL6.out.drewN nq)
        go_roundw
        case rel => exact ⟨k + 1, s', _, _, by omega, by go_num, hsl5, HM5, HL7⟩
        case measure => simp [intOf]; omega
      · go_upto_region 9 with fail
        refine wp_name ?_
        intro w5 hw5
        have HL5 := Lib.hid (((HL4.out.set 3 rfl 0 (.slice ca1 (act12S s c).C.length cp1)).set 3 rfl 1 (.int .i64 (most : Int))).set 3 rfl 2 (.slice la1 (act12S s c).L.length lp1))
        simp only [List.set_cons_succ, List.set_cons_zero, List.setIfInBounds_toArray] at HL5
        rw [hw5] at HL5
        clear hw5
        obtain ⟨b10, hb10⟩ : ∃ b, wr.heap.size = b := ⟨_, rfl⟩
        clear p0 p1 p2 f0 f1 f2 z7 v0 v1 v2
        rw [hb10] at HL5 ⊢
        have HM5 : Hid ((act12S s c).most = most) := (act12S_most s c).trans HM.out
        have hsl5 : (act12S s c).L.length ≤ k + 1 := by have := act12S_len s c; omega
        obtain ⟨p0, p1, p2, f0, f1, f2, z7, _, _⟩ := HL5.out.c3 2 rfl
        obtain ⟨m0, m1, m2, e0, e1, e2, zm, _, _⟩ := HL5.out.c3 3 rfl
        have nn1 := HL5.out.ne 2 3 rfl rfl (by decide)
        have nn2 := Ne.symm nn1
        have hcl5 := (HL5.out.refAt 1 rfl).clen
        generalize act12S s c = s' at HL5 HM5 hsl5 p0 p1 p2 m0 m1 m2 hcl5 ⊢
        clear HL4
        go_wp2_with fail
        refine wp_name ?_
        intro w6 hw6
        have HL6 := Lib.hid (((HL5.out.set 2 rfl 0 (.slice ca1 s'.C.length cp1)).set 2 rfl 1 (.int .i64 (most : Int))).set 2 rfl 2 (.slice la1 s'.L.length lp1))
        simp only [List.set_cons_succ, List.set_cons_zero, List.setIfInBounds_toArray] at HL6
        rw [hw6] at HL6
        clear hw6 HL5 p0 p1 p2 f0 f1 f2 z7 m0 m1 m2 e0 e1 e2 zm nn1 nn2
        obtain ⟨p0, p1, p2, f0, f1, f2, z7, _, _⟩ := HL6.out.c3 2 rfl
        have hcast : IntKind.u64.wrap (s'.L.length : Int) = (s'.L.length : Int) := by rw [IntKind.wrap_u64]; omega
        go_quiet ((first | (go_at_call 35; exact quiet_left ((HL6.out.drewN _).arq 0 rfl (fun fp hI => Len_any _ g fp s' hI))) | (go_at_call 26; exact quiet_left ((HL6.out.drewN _).arq 0 rfl (fun fp hI => Count_any _ g fp s' hI)))))
        go_wp2
        have HL7 : Hid (Led [] w (w6.drewN nq) [arena g s', refT (.slice ca1 s'.C.length cp1) (.slice la1 s'.L.length lp1) s', box b7 59 #[.slice ca1 s'.C.length cp1, .int .i64 (most : Int), .slice la1 s'.L.length lp1]]) := Led.sub_end (m := [_]) (HL6.out.drewN nq)
        go_roundw
        case rel => exact ⟨k + 1, s', _, _, by omega, by go_num, hsl5, HM5, HL7⟩
        case measure => simp [intOf]; omega
    · have hlt' : ¬ (k : Int) < (n1 : Int) := by omega
      have hcl := (HK.out.refAt 1 rfl).clen
      have hcm : s.C.length ≤ 10 := by have := (HK.out.artAll 0 rfl).2.2.2; rw [HM.out] at this; omega
      go_wp2_with fail
      go_loopw [12] (fun i wq => ∃ (j : Nat) (q : Ar), j ≤ s.C.length ∧ i = .int .i64 (j : Int) ∧ q.L.length ≤ 60 + j ∧ Hid (q.C = s.C) ∧ Hid (Led [] w wq [arena g q, refT (.slice ca s.C.length cp) (.slice la s.L.length lp) s, box b7 59 #[.slice ca s.C.length cp, .int .i64 (most : Int), .slice la s.L.length lp]])) (fun i _ => s.C.length - (intOf i).toNat)
      case atStart => exact ⟨0, s, Nat.zero_le _, rfl, by omega, rfl, HK⟩
      case round =>
        obtain ⟨j, q, hj, rfl, hql, HQ, HJ⟩ := hrel
        clear p0 p1 p2 f0 f1 f2 z7
        obtain ⟨p0, p1, p2, f0, f1, f2, z7, _, _⟩ := HJ.out.c3 2 rfl
        by_cases hjl : j < s.C.length
        · have hjl' : (j : Int) < (s.C.length : Int) := by omega
          have hj0 : (0 : Int) ≤ (j : Int) := by omega
          have hjq : j < q.C.length := by rw [HQ.out]; exact hjl
          go_wp2_with fail
          refine (HJ.out.arLoad12 0 rfl hjq (by omega)).mono ?_
          rintro e w8 ⟨q2, ⟨rfl, hqc, hqll⟩, h8⟩
          simp only [List.set_cons_succ, List.set_cons_zero] at h8
          have hval : q.C[j] = s.C[j] := by simp only [HQ.out]
          rw [hval]
          have HQ2 : Hid (q2.C = s.C) := hqc.trans HQ.out
          have HJ2 := Lib.hid h8
          clear p0 p1 p2 f0 f1 f2 z7 h8 hqc hval
          obtain ⟨p0, p1, p2, f0, f1, f2, z7, _, _⟩ := HJ2.out.c3 2 rfl
          obtain ⟨ga, cap, cur, hva, hA, hA1, hA2, hA3, hA4⟩ := own_form (HJ2.out.refAt 1 rfl).cel (by omega)
          injection hva with hva1 hva2 hva3
          subst hva1
          have hcell := own_cell (HJ2.out.refAt 1 rfl).cel j (by simpa [words] using hjl)
          simp only [words, List.getElem_map] at hcell
          clear hA hA1 hA2 hA3 hA4
          go_wp2_with fail
          refine (num12 _ _).mono ?_
          rintro e w9 ⟨rfl, rfl⟩
          go_wp2
          go_roundw
          case rel => exact ⟨j + 1, q2, by omega, by go_num, by omega, HQ2, HJ2⟩
          case measure => simp [intOf]; omega
        · have hjl' : ¬ (j : Int) < (s.C.length : Int) := by omega
          go_wp2_with fail
          refine (num12 _ _).mono ?_
          rintro e w9 ⟨rfl, rfl⟩
          go_wp2_with fail
          refine (works12 _).mono ?_
          rintro e w' ⟨rfl, hb⟩
          have HB := Lib.hid hb
          clear hb
          go_wp2
          go_ret
          exact ⟨rfl, HJ.out.below.trans (HB.out.mono HJ.out.size)⟩
theorem flagPlays_any (most : Int) (a1 : Option Addr) (n1 c1 : Nat) (l : List Call12) (w : World) (hn1 : n1 ≤ maxLen) (hll : l.length = n1) (hl : StructsAt w a1 3 Call12.cells l) (hok : ∀ a ∈ l, a.Ok) :
    Calls Try.prog 12 #[.int .i64 most, .slice a1 n1 c1] w fun e w' => e = .returned (.bool true) ∧ Below w.heap.size w w' := by
  by_cases h : most < 1 ∨ 10 < most ∨ 60 < n1
  · exact flagPlays_out most a1 n1 c1 w (by simp only [maxLen] at hn1; omega) h
  · obtain ⟨m, rfl⟩ := Int.eq_ofNat_of_zero_le (show 0 ≤ most by omega)
    exact flagPlays_in m a1 n1 c1 l w (by omega) hll hl hok (by omega) (by omega)
end Go.Proofs.Ytegebecogbebaaa
