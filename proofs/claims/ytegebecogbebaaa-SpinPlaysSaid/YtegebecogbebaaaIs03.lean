/-
  is of law 03 (betrothallaw03/law.go): an arena stands as the reference's.
-/
import Derived.Test.YtegebecogbebaaaAct03g
namespace Go.Proofs.Ytegebecogbebaaa
open Go.RowKit Go.Shelf
set_option maxRecDepth 100000
set_option linter.unusedVariables false
set_option linter.unusedSimpArgs false

theorem load_C3 {s : Ar} {k : Nat} (hk : k < s.C.length) : (s.load (k : Int)).1.C = s.C ∧ (s.load (k : Int)).2.1.old = s.C[k] ∧ (s.load (k : Int)).2.2 = 0 ∧ (s.load (k : Int)).1.L.length = s.L.length + 1 ∧ (s.load (k : Int)).1.most = s.most := by
  have hg : s.C.getD k 0 = s.C[k] := by simp [List.getD, hk]
  simp only [Ar.load, Ar.doBy]
  rw [if_pos ⟨by omega, by omega⟩]
  simp only [Ar.acc, chgLoad, Int.toNat_natCast, if_true, hg]
  refine ⟨List.set_getElem_self hk, ?_⟩
  simp
theorem quiet_left3 {P : Program} {f : FuncId} {args : Array Value} {w : World} {k : Nat} {v : Value} (h : Calls P f args (w.drewN k) fun e w' => e = .returned v ∧ w.drewN k = w') :
    Calls P f args (w.drewN k) fun e w'' => e = .returned v ∧ ∃ m, w'' = w.drewN m := h.mono fun _ _ ⟨he, hm⟩ => ⟨he, k, hm.symm⟩
theorem Led.arLoad3 {T : List Nat} {w0 w : World} {l : List Thing} {g : Nat} {s : Ar} (h : Led T w0 w l) (i : Nat) (hi : l[i]? = some (arena g s)) {k : Nat} (hk : k < s.C.length) (hL : s.L.length ≤ 1048576) :
    Calls Try.prog 22 #[.pointer (some ⟨g, 0, none⟩), .int .i64 (k : Int)] w fun e w' => ∃ s', (e = .returned (.tuple #[.int .u64 (s.C[k] : Int), .int .i64 0]) ∧ s'.C = s.C ∧ s'.L.length = s.L.length + 1) ∧ Led T w0 w' (l.set i (arena g s')) := by
  obtain ⟨h1, h2, h3, h4, _⟩ := load_C3 hk
  refine (h.ar i hi (fun fp hI => Load_any w g fp s (k : Int) hI (by omega))).mono ?_
  rintro e w' ⟨he, h5⟩
  rw [h2, h3] at he
  exact ⟨_, ⟨he, h1, h4⟩, h5⟩

set_option maxHeartbeats 8000000 in
theorem is03 (T : List Nat) (w : World) (g : Nat) (s : Ar) (vc vl : Value) (h : Led T w w [arena g s, refT vc vl s]) (hL : s.L.length ≤ 900000) :
    Calls Try.prog 40 #[.pointer (some ⟨g, 0, none⟩), refV vc s.most vl] w fun e w' => e = .returned (.bool true) ∧ ∃ rest, Led T w w' (arena g s :: refT vc vl s :: rest) := by
  obtain ⟨ca, cp, rfl, _, _⟩ := own_val (h.refAt 1 rfl).cel
  obtain ⟨la, lp, rfl, _, _⟩ := own_val (h.refAt 1 rfl).log
  have hcl := (h.refAt 1 rfl).clen
  have HL0 := Lib.hid h
  clear h
  unfold refV
  go_enter Try.func40, Try.ntmps40
  go_upto_region 1 with fail
  refine wp_name ?_
  intro w1 hw1
  have HL1 := Lib.hid (HL0.out.al1 hw1)
  simp only [List.nil_append, List.cons_append] at HL1
  obtain ⟨b3, hb3⟩ : ∃ b, w.heap.size = b := ⟨_, rfl⟩
  rw [hb3] at HL1 ⊢
  clear hw1 hb3 HL0
  obtain ⟨p0, p1, p2, f0, f1, f2, z3, _, _⟩ := HL1.out.c3 2 rfl
  have hcast : IntKind.u64.wrap (s.L.length : Int) = (s.L.length : Int) := by rw [IntKind.wrap_u64]; omega
  go_quiet ((first | (go_at_call 35; exact quiet_left3 ((HL1.out.drewN _).arq 0 rfl (fun fp hI => Len_any _ g fp s hI))) | (go_at_call 26; exact quiet_left3 ((HL1.out.drewN _).arq 0 rfl (fun fp hI => Count_any _ g fp s hI)))))
  have HL2 := Lib.hid (HL1.out.drewN nq)
  clear HL1 p0 p1 p2 f0 f1 f2 z3 hcast
  go_wp2_with fail
  refine (HL2.out.arCopy 0 rfl).mono ?_
  rintro e w3 ⟨g', rfl, h3⟩
  simp only [List.nil_append, List.cons_append] at h3
  have HL3 := Lib.hid h3
  clear h3 HL2
  go_wp2_with fail
  go_loopw [6] (fun i wq => ∃ (j : Nat) (q : Ar), j ≤ s.C.length ∧ i = .int .i64 (j : Int) ∧ q.L.length ≤ s.L.length + j ∧ Hid (q.C = s.C) ∧ Hid (Led T w wq [arena g s, refT (.slice ca s.C.length cp) (.slice la s.L.length lp) s, box b3 59 #[.slice ca s.C.length cp, .int .i64 (s.most : Int), .slice la s.L.length lp], arena g' q])) (fun i _ => s.C.length - (intOf i).toNat)
  case atStart => exact ⟨0, s, Nat.zero_le _, rfl, by omega, rfl, HL3⟩
  case round =>
    obtain ⟨j, q, hj, rfl, hql, HQ, HJ⟩ := hrel
    obtain ⟨p0, p1, p2, f0, f1, f2, z7, _, _⟩ := HJ.out.c3 2 rfl
    by_cases hjl : j < s.C.length
    · have hjl' : (j : Int) < (s.C.length : Int) := by omega
      have hj0 : (0 : Int) ≤ (j : Int) := by omega
      have hjq : j < q.C.length := by rw [HQ.out]; exact hjl
      go_wp2_with fail
      refine (HJ.out.arLoad3 3 rfl hjq (by omega)).mono ?_
      rintro e w8 ⟨q2, ⟨rfl, hqc, hqll⟩, h8⟩
      simp only [List.set_cons_succ, List.set_cons_zero] at h8
      have hval : q.C[j] = s.C[j] := by simp only [HQ.out]
      rw [hval]
      have HQ2 : Hid (q2.C = s.C) := hqc.trans HQ.out
      have HJ2 := Lib.hid h8
      clear p0 p1 p2 f0 f1 f2 z7 h8 hqc hval
      obtain ⟨p0, p1, p2, f0, f1, f2, z7, _, _⟩ := HJ2.out.c3 2 rfl
      obtain ⟨ga, rfl, hcell⟩ := own_at (HJ2.out.refAt 1 rfl).cel (by simp [words]) j hjl
      simp only [words, List.getElem_map] at hcell
      go_wp2_with fail
      refine (num03 _ _).mono ?_
      rintro e w9 ⟨rfl, rfl⟩
      go_wp2
      go_roundw
      case rel => exact ⟨j + 1, q2, by omega, by go_num, by omega, HQ2, HJ2⟩
      case measure => simp [intOf]; omega
    · have hjl' : ¬ (j : Int) < (s.C.length : Int) := by omega
      go_wp2
      go_ret
      exact ⟨rfl, _, HJ.out⟩
end Go.Proofs.Ytegebecogbebaaa
