/-
  is of law 01 (betrothallaw01/law.go): an arena stands as the reference's.
-/
import Derived.Test.YtegebecogbebaaaLedRet
import Derived.Test.YtegebecogbebaaaFew01
import Derived.Test.YtegebecogbebaaaWorks01
import Derived.Test.YtegebecogbebaaaQuietRound
import Derived.RegionIn
import Derived.BigRegionIn
import Derived.Sort.QuietIn
import Derived.Laws.StructEq
namespace Go.Proofs.Ytegebecogbebaaa
open Go.RowKit Go.Shelf
set_option maxRecDepth 100000
set_option linter.unusedVariables false
set_option linter.unusedSimpArgs false
attribute [local go_sem] Oper.semAt_some
/-- The wide fence asks nothing. -/
theorem askedIn_wideL {P : Program} {o : Oper} {a : Act} {C : World → Prop} : o.askedIn Fence.wide P a C := fun _ _ _ _ => trivial
attribute [local go_sem ↓ high] askedIn_wideL
theorem quietIn_leftL {P : Program} {f : FuncId} {args : Array Value} {w : World} {k r : Nat} {v : Value} (h : Calls P f args (w.drewN k) fun e w' => e = .returned v ∧ w.drewN k = w') :
    CallsIn Fence.wide r P f args (w.drewN k) fun e w'' => e = .returned v ∧ ∃ m, w'' = w.drewN m := callsIn_wide.2 (h.mono fun _ _ ⟨he, hm⟩ => ⟨he, k, hm.symm⟩)

theorem st_access : Try.prog.underlying 54 = some (.struct (Try.prog.fieldsOf 54)) := by kernel_rfl
theorem sh_access : Try.prog.stoodInHeld 54 = false := by kernel_rfl
theorem neq_access_same (x : Acc) (w : World) : (binOp .neq 54 (.agg #[.int .i64 (x.op : Int), .int .i64 (x.at_ : Int), .int .u64 (x.old : Int), .int .u64 (x.new : Int), .bool x.did]) (.agg #[.int .i64 (x.op : Int), .int .i64 (x.at_ : Int), .int .u64 (x.old : Int), .int .u64 (x.new : Int), .bool x.did])).run Try.prog w = .ok (.bool false) w := by
  rw [run_neq_struct, run_equalIn_agg w 9999 54 _ _ st_access sh_access]
  go_simp

/-- The things of 'is'. -/
def isR (g : Nat) (s : Ar) (vc vl : Value) (many : Nat) (b4 b5 b6 b7 b8 bl bf gg b10 : Nat) (k : Nat) : List Thing :=
  [arena g s, refT vc vl s, box b4 59 #[vc, .int .i64 (s.most : Int), vl], box b5 3 #[.int .i64 (many : Int)], box b6 4 #[.bool false], box b7 3 #[.int .i64 0], box b8 57 #[vl], logT bl bf gg s.L, box b10 3 #[.int .i64 (k : Int)], fact (k = 0 ∨ k < many)]

set_option maxHeartbeats 8000000 in
theorem is01_in (n : Nat) (T : List Nat) (w : World) (g : Nat) (s : Ar) (vc vl : Value) (many : Nat) (hm : many ≤ 10000) (h : Led T w w [arena g s, refT vc vl s]) (hL : s.L.length ≤ 1024) :
    CallsIn Fence.wide n Try.prog 34 #[.pointer (some ⟨g, 0, none⟩), refV vc s.most vl, .int .i64 (many : Int)] w fun e w' => e = .returned (.bool true) ∧ ∃ rest, Led T w w' (arena g s :: refT vc vl s :: rest) := by
  obtain ⟨ca, cp, rfl, hc1, hc2⟩ := own_val (h.refAt 1 rfl).cel
  obtain ⟨la, lp, rfl, hl1, hl2⟩ := own_val (h.refAt 1 rfl).log
  have hcl := (h.refAt 1 rfl).clen
  have HL0 := Lib.hid h
  clear h hc1 hc2 hl1 hl2
  unfold refV
  refine callsIn_of_wp_marks Try.func34 rfl trivial ?_ rfl
  simp only [Try.ntmps34, List.size_toArray, List.length_cons, List.length_nil, Nat.reduceAdd, Nat.reduceSub, Array.replicate_succ, Array.replicate_zero, List.push_toArray, List.append_toArray, List.nil_append, List.cons_append]
  gi_wp2_with fail
  refine ⟨trivial, nodepth, ?_⟩
  refine (callsIn_wide.2 (refLast _ _ _ s ((((HL0.out.alloc _ _).alloc _ _).alloc _ _).refAt 1 rfl) hL)).mono ?_
  rintro e w1 ⟨rfl, ht⟩
  have HL1 := Lib.hid (HL0.out.tal3 ht)
  simp only [List.nil_append, List.cons_append] at HL1
  clear ht
  obtain ⟨b6, hb6⟩ : ∃ b, w.heap.size + 1 + 1 = b := ⟨_, rfl⟩
  rw [hb6] at HL1 ⊢
  obtain ⟨b5, hb5⟩ : ∃ b, w.heap.size + 1 = b := ⟨_, rfl⟩
  rw [hb5] at HL1 ⊢
  obtain ⟨b4, hb4⟩ : ∃ b, w.heap.size = b := ⟨_, rfl⟩
  rw [hb4] at HL1 ⊢
  clear hb6 hb5 hb4
  gi_wp2_with fail
  refine ⟨trivial, nodepth, ?_⟩
  refine (callsIn_wide.2 (((HL1.out.alloc _ _).alloc _ _).arLog 0 rfl (by omega))).mono ?_
  rintro e w2 ⟨bl, bf, gg, rfl, h2⟩
  simp only [List.nil_append, List.cons_append, World.size_alloc] at h2
  have HL2 := Lib.hid h2
  clear h2
  obtain ⟨b8, hb8⟩ : ∃ b, w1.heap.size + 1 = b := ⟨_, rfl⟩
  rw [hb8] at HL2 ⊢
  obtain ⟨b7, hb7⟩ : ∃ b, w1.heap.size = b := ⟨_, rfl⟩
  rw [hb7] at HL2 ⊢
  clear hb8 hb7 HL1
  have hnil := log_not_nil
  obtain ⟨p0, p1, p2, _, _, _, z4, _, _⟩ := HL2.out.c3 2 rfl
  have hcast : IntKind.u64.wrap (s.L.length : Int) = (s.L.length : Int) := by rw [IntKind.wrap_u64]; omega
  gi_wp2_with fail
  gi_quiet ((first | (refine ⟨nodepth, ?_⟩; gi_at_call 35; exact quietIn_leftL ((HL2.out.drewN _).arq 0 rfl (fun fp hI => Len_any _ g fp s hI))) | (refine ⟨nodepth, ?_⟩; gi_at_call 36; exact quietIn_leftL ((HL2.out.drewN _).arq 0 rfl (fun fp hI => Most_any _ g fp s hI))) | (refine ⟨nodepth, ?_⟩; gi_at_call 26; exact quietIn_leftL ((HL2.out.drewN _).arq 0 rfl (fun fp hI => Count_any _ g fp s hI)))))
  have HL3 := Lib.hid (HL2.out.drewN nq)
  obtain ⟨w3, hw3⟩ : ∃ w3, w2.drewN nq = w3 := ⟨_, rfl⟩
  rw [hw3] at HL3 ⊢
  clear hw3 HL2 p0 p1 p2 z4 hnil hcast
  gi_wp2_with fail
  refine wpIn_name ?_
  intro w4 hw4
  have HL4 := Lib.hid (HL3.out.al1 hw4)
  simp only [List.nil_append, List.cons_append] at HL4
  obtain ⟨b10, hb10⟩ : ∃ b, w3.heap.size = b := ⟨_, rfl⟩
  rw [hb10] at HL4 ⊢
  clear hw4 hb10 HL3
  have HL5 : Hid (Led T w w4 (isR g s (.slice ca s.C.length cp) (.slice la s.L.length lp) many b4 b5 b6 b7 b8 bl bf gg b10 0)) := HL4.out.addFact (p := (0 = 0 ∨ 0 < many)) (.inl rfl)
  clear HL4
  have HF0 : Hid (logF s.L = 0) := by unfold logF Hid; omega
  have HLL : Hid (logL s.L = s.L) := by unfold logL Hid; rw [HF0.out]; rfl
  refine range_logL (bl := bl) (bf := bf) (gg := gg) (L := s.L) rfl rfl (by omega) (isR g s (.slice ca s.C.length cp) (.slice la s.L.length lp) many b4 b5 b6 b7 b8 bl bf gg b10)
    (fun c lx => c = .exit 0 ∧ ∃ k, lx = (isR g s (.slice ca s.C.length cp) (.slice la s.L.length lp) many b4 b5 b6 b7 b8 bl bf gg b10 k).set 9 (fact (k ≤ s.L.length ∧ k = max 1 many))) 7 (fun _ => rfl) HL5.out ?hround ?hdone ?hstop
  case hround =>
    intro k W o0 hk h
    have hk' : k < s.L.length := by rw [← HLL.out]; exact hk
    obtain ⟨x, hx⟩ : ∃ x, (logL s.L)[k]'hk = x := ⟨_, rfl⟩
    have hx' : s.L[k] = x := by rw [← hx]; simp [HLL.out]
    rw [hx, HF0.out]
    obtain ⟨D, hD⟩ : ∃ D, w4.heap.size = D := ⟨_, rfl⟩
    rw [hD] at h ⊢
    have HK := Lib.hid h
    have HX := Lib.hid hx'
    clear h hx hx' hD
    gi_wp2
    refine ⟨_, HK.out.alloc _ _, fun W2 o h2 => ?_⟩
    obtain ⟨bx, hbx⟩ : ∃ b, W.heap.size = b := ⟨_, rfl⟩
    rw [hbx] at h2 ⊢
    have HK2 := Lib.hid h2
    simp only [isR, marks, List.nil_append, List.cons_append] at HK2
    clear hbx h2 HK
    have HFa : Hid (k = 0 ∨ k < many) := HK2.out.fact 9 rfl
    obtain ⟨n0, fn, zn, _, _⟩ := HK2.out.c1 8 rfl
    obtain ⟨l0, _, zl, _, _⟩ := HK2.out.c1 6 rfl
    obtain ⟨m0, _, zm, _, _⟩ := HK2.out.c1 3 rfl
    obtain ⟨f0, _, zf, _, _⟩ := HK2.out.c1 5 rfl
    obtain ⟨x0, x1, x2, x3, x4, _, _, _, _, _, zx, _, _⟩ := HK2.out.c5 12 rfl
    have n5 := HK2.out.ne 3 8 rfl rfl (by decide)
    have n6 := Ne.symm n5
    obtain ⟨ga, cap, cur, hva, hA, hA1, hA2, hA3, hA4⟩ := own_form (HK2.out.refAt 1 rfl).log (by omega)
    injection hva with hva1 hva2 hva3
    have hown := (HK2.out.refAt 1 rfl).log
    subst hva1 hva3
    have hln := accCells_length s.L
    have hcs : ∀ j, j < 5 → W2.cell? ⟨ga, k * 5 + j, none⟩ = x.cells[j]? := fun j hj => by
      rw [own_cell hown (k * 5 + j) (by omega), ← List.getElem?_eq_getElem, accCells_get s.L k hk' j hj, HX.out]
    have y0 := hcs 0 (by omega)
    have y1 := hcs 1 (by omega)
    have y2 := hcs 2 (by omega)
    have y3 := hcs 3 (by omega)
    have y4 := hcs 4 (by omega)
    simp only [Acc.cells, List.getElem?_cons_succ, List.getElem?_cons_zero, Nat.add_zero] at y0 y1 y2 y3 y4
    have hneq := neq_access_same x
    have hck : IntKind.u64.wrap (k : Int) = (k : Int) := by rw [IntKind.wrap_u64]; omega
    have hg1 : ¬ (s.L.length : Int) ≤ (k : Int) := by omega
    have hg2 : ¬ s.L.length ≤ k := by omega
    have hg3 : (k : Int) < (s.L.length : Int) := by omega
    clear hA hA1 hA2 hA3 hA4 hva2 hown hln hcs
    by_cases hmn : (many : Int) ≤ (k : Int) + 1
    · gi_wp2_with fail
      refine quiet_round rfl (by kernel_rfl) (by kernel_rfl) (by kernel_rfl) ?_
      repeat (first | gi_big_quiet_skip | (gi_big_quiet_want; gi_big_quiet_op; go_big_quiet_on))
      refine wpQuietIn_nil ?_
      intro _ hw'
      obtain ⟨nq, hw''⟩ := hw'
      subst hw''
      clear hneq y0 y1 y2 y3 y4 x0 x1 x2 x3 x4
      gi_wp2_with fail
      have hs := ((HK2.out.set 8 rfl 0 (.int .i64 ((k : Int) + 1))).drewN nq).setFact 9 rfl (q := (k + 1 ≤ s.L.length ∧ k + 1 = max 1 many)) ⟨by omega, by have := HFa.out; omega⟩
      exact ⟨_, _, ⟨rfl, k + 1, rfl⟩, hs⟩
    · gi_wp2_with fail
      refine quiet_round rfl (by kernel_rfl) (by kernel_rfl) (by kernel_rfl) ?_
      repeat (first | gi_big_quiet_skip | (gi_big_quiet_want; gi_big_quiet_op; go_big_quiet_on))
      refine wpQuietIn_nil ?_
      intro _ hw'
      obtain ⟨nq, hw''⟩ := hw'
      subst hw''
      clear hneq y0 y1 y2 y3 y4 x0 x1 x2 x3 x4
      gi_wp2_with fail
      have hs := ((HK2.out.set 8 rfl 0 (.int .i64 ((k : Int) + 1))).drewN nq).setFact 9 rfl (q := (k + 1 = 0 ∨ k + 1 < many)) (.inr (by omega))
      exact ⟨_, hs⟩
  case hdone =>
    intro W h
    obtain ⟨D, hD⟩ : ∃ D, w4.heap.size = D := ⟨_, rfl⟩
    rw [hD] at h ⊢
    rw [HLL.out] at h
    have HK := Lib.hid h
    simp only [isR, marks1, List.nil_append, List.cons_append] at HK
    clear h hD
    obtain ⟨n0, fn, zn, _, _⟩ := HK.out.c1 8 rfl
    obtain ⟨l0, _, zl, _, _⟩ := HK.out.c1 6 rfl
    obtain ⟨m0, _, zm, _, _⟩ := HK.out.c1 3 rfl
    obtain ⟨q0, qf, zq, _, _⟩ := HK.out.c1 4 rfl
    have HFa : Hid (s.L.length = 0 ∨ s.L.length < many) := HK.out.fact 9 rfl
    gi_wp2
    all_goals have hfa := HFa.out
    all_goals exact led_ret1 Try.results34 rfl HK.out 4 rfl (by first | rfl | (simp only [beq_iff_eq]; omega)) 10 rfl (fun W' h => ⟨rfl, _, h⟩)
  case hstop =>
    rintro c W lx ⟨rfl, k, rfl⟩ h
    obtain ⟨D, hD⟩ : ∃ D, w4.heap.size = D := ⟨_, rfl⟩
    rw [hD] at h ⊢
    have HK := Lib.hid h
    simp only [isR, marks1, List.nil_append, List.cons_append, List.set_cons_succ, List.set_cons_zero] at HK
    clear h hD
    obtain ⟨n0, fn, zn, _, _⟩ := HK.out.c1 8 rfl
    obtain ⟨l0, _, zl, _, _⟩ := HK.out.c1 6 rfl
    obtain ⟨m0, _, zm, _, _⟩ := HK.out.c1 3 rfl
    obtain ⟨q0, qf, zq, _, _⟩ := HK.out.c1 4 rfl
    have HFa : Hid (k ≤ s.L.length ∧ k = max 1 many) := HK.out.fact 9 rfl
    gi_wp2
    all_goals obtain ⟨hfa, hfb⟩ := HFa.out
    all_goals exact led_ret1 Try.results34 rfl HK.out 4 rfl (by first | rfl | (simp only [beq_iff_eq]; omega)) 10 rfl (fun W' h => ⟨rfl, _, h⟩)

theorem is01 (T : List Nat) (w : World) (g : Nat) (s : Ar) (vc vl : Value) (many : Nat) (hm : many ≤ 10000) (h : Led T w w [arena g s, refT vc vl s]) (hL : s.L.length ≤ 1024) :
    Calls Try.prog 34 #[.pointer (some ⟨g, 0, none⟩), refV vc s.most vl, .int .i64 (many : Int)] w fun e w' => e = .returned (.bool true) ∧ ∃ rest, Led T w w' (arena g s :: refT vc vl s :: rest) :=
  (callsIn_wide (n := 0)).1 (is01_in 0 T w g s vc vl many hm h hL)
end Go.Proofs.Ytegebecogbebaaa
