/-
  States of layer 3 (spin.go), in the ledger.
-/
import Derived.Test.YtegebecogbebaaaSt03
namespace Go.Proofs.Ytegebecogbebaaa
open Go.RowKit Go.Shelf
set_option maxRecDepth 100000
set_option linter.unusedVariables false
set_option linter.unusedSimpArgs false

theorem HeldK {T : List Nat} {w0 w : World} {l : List Thing} {g : Nat} {s : Ar} {P : List Int} {k : Nat} {x : Int} (h : Led T w0 w l) (i : Nat) (hi : l[i]? = some (arena g (stS s P k))) (hx : P.getD k 0 = x) (hin : inR s x) (hL : s.L.length + k ≤ 1048576) :
    Calls Try.prog 19 #[.pointer (some ⟨g, 0, none⟩), .int .i64 x] w fun e w' => e = .returned (.tuple #[.bool (stB s P k), .int .i64 0]) ∧ Led T w0 w' (l.set i (arena g (stS s P (k + 1)))) := by
  subst hx
  have := h.ar i hi (fun fp hI => Held_any _ g fp (stS s P k) hI (P.getD k 0) (by have := stS_L s P k; omega))
  rw [load_in (s := stS s P k) (by unfold inR; rw [stS_C]; exact hin)] at this
  exact this

set_option maxHeartbeats 8000000 in
theorem sStates_out (T : List Nat) (w : World) (g : Nat) (vp : Value) (s : Ar) (P : List Int) (n : Nat) (hn : P.length = n) (hn2 : n ≤ 1000) (hout : ¬ ∀ j, j < n → inR s (P.getD j 0)) (h : Led T w w [arena g s, row 3 1 vp n (intVs P)]) :
    Calls Try.prog 31 #[.pointer (some ⟨g, 0, none⟩), vp] w fun e w' => e = .returned (.tuple #[.slice none 0 0, .int .i64 4]) ∧ Led T w w' [arena g s, row 3 1 vp n (intVs P)] := by
  have HO := Lib.hid hout
  clear hout
  obtain ⟨_, hm1, hm2, hcm⟩ := h.artAll 0 rfl
  obtain ⟨pa, pp, rfl, _, _⟩ := own_val (h.row 1 rfl)
  have hmz : ((s.most : Int) == 0) = false := by simp; omega
  have HL0 := Lib.hid h
  have HN := Lib.hid hn
  clear h hn
  go_enter Try.func31, Try.ntmps31
  go_wp2_with fail
  refine (HL0.out.arq 0 rfl (fun fp hI => Most_any _ g fp s hI)).mono ?_
  rintro e w' ⟨rfl, rfl⟩
  go_wp2_with fail
  go_loopw [18] (fun i wr => ∃ (k : Nat), k ≤ n ∧ i = .int .i64 (k : Int) ∧ Hid (∀ j, j < k → inR s (P.getD j 0)) ∧ w = wr) (fun i _ => n - (intOf i).toNat)
  case atStart => exact ⟨0, Nat.zero_le _, rfl, fun j hj => by omega, rfl⟩
  case round =>
    obtain ⟨k, hk, rfl, HA, rfl⟩ := hrel
    by_cases hlt : k < n
    · have hlt' : (k : Int) < (n : Int) := by omega
      have hk0 : (0 : Int) ≤ (k : Int) := by omega
      obtain ⟨gp, rfl, ex⟩ := own_at (HL0.out.row 1 rfl) (by simp [intVs, HN.out]) k hlt
      simp only [intVs, List.getElem_map] at ex
      obtain ⟨x, hx⟩ : ∃ x, P.getD k 0 = x := ⟨_, rfl⟩
      have hx2 : P[k]'(by rw [HN.out]; exact hlt) = x := by rw [← hx]; simp [List.getD, HN.out, hlt]
      rw [hx2] at ex
      have HX := Lib.hid hx
      clear hx hx2
      by_cases h0 : x < 0
      · go_wp2
        go_ret2
        exact ⟨rfl, HL0.out⟩
      · by_cases h1 : (s.C.length : Int) ≤ x
        · go_wp2_with fail
          refine (HL0.out.arq 0 rfl (fun fp hI => Len_any _ g fp s hI)).mono ?_
          rintro e w' ⟨rfl, rfl⟩
          go_wp2
          go_ret2
          exact ⟨rfl, HL0.out⟩
        · have h1' : x < (s.C.length : Int) := by omega
          have HI : Hid (inR s x) := ⟨by omega, by omega⟩
          go_wp2_with fail
          refine (HL0.out.arq 0 rfl (fun fp hI => Len_any _ g fp s hI)).mono ?_
          rintro e w' ⟨rfl, rfl⟩
          go_wp2
          go_roundw
          case rel => exact ⟨k + 1, by omega, by go_num, fun j hj => by rcases Nat.lt_succ_iff_lt_or_eq.1 hj with h | h; exact HA.out j h; subst h; rw [HX.out]; exact HI.out, trivial⟩
          case measure => simp [intOf]; omega
    · have hlt' : ¬ (k : Int) < (n : Int) := by omega
      have hkn : k = n := by omega
      exact absurd (hkn ▸ HA.out) HO.out
set_option maxHeartbeats 8000000 in
theorem sStates_in (T : List Nat) (w : World) (g : Nat) (vp : Value) (s : Ar) (P : List Int) (n : Nat) (hn : P.length = n) (hn2 : n ≤ 1000) (hL : s.L.length ≤ 1000000) (hin : ∀ j, j < n → inR s (P.getD j 0)) (h : Led T w w [arena g s, row 3 1 vp n (intVs P)]) :
    Calls Try.prog 31 #[.pointer (some ⟨g, 0, none⟩), vp] w fun e w' => ∃ aa ap, e = .returned (.tuple #[.slice aa n ap, .int .i64 0]) ∧ Led T w w' [arena g (stS s P n), row 3 1 vp n (intVs P), row 4 1 (.slice aa n ap) n (boolVs (stL s P n))] := by
  have HO := Lib.hid hin
  obtain ⟨i0, hi, iz0, iz1, iz2⟩ := info_parts info_bool
  clear hin
  obtain ⟨_, hm1, hm2, hcm⟩ := h.artAll 0 rfl
  obtain ⟨pa, pp, rfl, _, _⟩ := own_val (h.row 1 rfl)
  have hmz : ((s.most : Int) == 0) = false := by simp; omega
  have HL0 := Lib.hid h
  have HN := Lib.hid hn
  clear h hn
  go_enter Try.func31, Try.ntmps31
  go_wp2_with fail
  refine (HL0.out.arq 0 rfl (fun fp hI => Most_any _ g fp s hI)).mono ?_
  rintro e w' ⟨rfl, rfl⟩
  go_wp2_with fail
  go_loopw [18] (fun i wr => ∃ (k : Nat), k ≤ n ∧ i = .int .i64 (k : Int) ∧ Hid (∀ j, j < k → inR s (P.getD j 0)) ∧ w = wr) (fun i _ => n - (intOf i).toNat)
  case atStart => exact ⟨0, Nat.zero_le _, rfl, fun j hj => by omega, rfl⟩
  case round =>
    obtain ⟨k, hk, rfl, HA, rfl⟩ := hrel
    by_cases hlt : k < n
    · have hlt' : (k : Int) < (n : Int) := by omega
      have hk0 : (0 : Int) ≤ (k : Int) := by omega
      obtain ⟨gp, rfl, ex⟩ := own_at (HL0.out.row 1 rfl) (by simp [intVs, HN.out]) k hlt
      simp only [intVs, List.getElem_map] at ex
      obtain ⟨x, hx⟩ : ∃ x, P.getD k 0 = x := ⟨_, rfl⟩
      have hx2 : P[k]'(by rw [HN.out]; exact hlt) = x := by rw [← hx]; simp [List.getD, HN.out, hlt]
      rw [hx2] at ex
      have HX := Lib.hid hx
      clear hx hx2
      by_cases h0 : x < 0
      · exact absurd (HO.out k hlt) (by rw [HX.out]; unfold inR; omega)
      · by_cases h1 : (s.C.length : Int) ≤ x
        · exact absurd (HO.out k hlt) (by rw [HX.out]; unfold inR; omega)
        · have h1' : x < (s.C.length : Int) := by omega
          have HI : Hid (inR s x) := ⟨by omega, by omega⟩
          go_wp2_with fail
          refine (HL0.out.arq 0 rfl (fun fp hI => Len_any _ g fp s hI)).mono ?_
          rintro e w' ⟨rfl, rfl⟩
          go_wp2
          go_roundw
          case rel => exact ⟨k + 1, by omega, by go_num, fun j hj => by rcases Nat.lt_succ_iff_lt_or_eq.1 hj with h | h; exact HA.out j h; subst h; rw [HX.out]; exact HI.out, trivial⟩
          case measure => simp [intOf]; omega
    · have hlt' : ¬ (k : Int) < (n : Int) := by omega
      go_wp2_with fail
      clear hk hlt hlt' HA
      have HK2 := Lib.hid (boolT_nil HL0.out)
      simp only [List.nil_append, List.cons_append] at HK2
      clear HL0
      go_loopw [8, 33] (fun v i wr => ∃ (k : Nat) (aa : Option Addr) (ap : Nat), k ≤ n ∧ v = .slice aa k ap ∧ i = .int .i64 (k : Int) ∧ Hid (Led T w wr [arena g (stS s P k), row 3 1 (.slice pa n pp) n (intVs P), row 4 1 (.slice aa k ap) k (boolVs (stL s P k))])) (fun _ i _ => n - (intOf i).toNat)
      case atStart => exact ⟨0, none, 0, Nat.zero_le _, rfl, rfl, HK2⟩
      case round =>
        obtain ⟨k, aa, ap, hk, rfl, rfl, HK⟩ := hrel
        clear HK2
        by_cases hlt : k < n
        · have hlt' : (k : Int) < (n : Int) := by omega
          have hk0 : (0 : Int) ≤ (k : Int) := by omega
          obtain ⟨gp, rfl, ex⟩ := own_at (HK.out.row 1 rfl) (by simp [intVs, HN.out]) k hlt
          simp only [intVs, List.getElem_map] at ex
          obtain ⟨x, hx⟩ : ∃ x, P.getD k 0 = x := ⟨_, rfl⟩
          have hx2 : P[k]'(by rw [HN.out]; exact hlt) = x := by rw [← hx]; simp [List.getD, HN.out, hlt]
          rw [hx2] at ex
          have HX := Lib.hid hx
          have HI : Hid (inR s x) := hx ▸ HO.out k hlt
          clear hx hx2
          go_wp2_with fail
          refine (HeldK HK.out 0 rfl HX.out HI.out (by omega)).mono ?_
          rintro e w4 ⟨rfl, hL⟩
          simp only [List.set_cons_succ, List.set_cons_zero] at hL
          have HL4 := Lib.hid hL
          clear hL ex HK
          go_wp2_with (at_builtin; go_must (refine wpList_append_src _ rfl (.tmp 46) (.tmp 48) 67 rfl 4 i0 (.bool false) 1 1 Try.underlying67 hi iz0 iz1 iz2 rfl (by decide) (.slice aa k ap) k (boolVs (stL s P k)) rfl ((HL4.out.alloc _ _).row 2 rfl) (.slice (some ⟨w4.heap.size, 0, none⟩) 1 1) 1 (boolVs [_]) rfl (own_bool _ ((HL4.out.alloc _ _).box 3 rfl)) (bool_one _) (by simp only [maxLen]; omega) (by omega) ?_); intro a2 c2 w7 hown hgrow hat; refine Hid.out ?_)
          have HL7 := Lib.hid ((HL4.out.al1 rfl).grown 2 rfl hgrow hown hat)
          simp only [List.set_cons_zero, List.set_cons_succ, List.cons_append, List.nil_append] at HL7
          rw [← stL_succ] at HL7
          clear hown hgrow hat HL4
          refine Lib.hid ?_
          go_wp2
          go_roundw
          case rel => exact ⟨k + 1, a2, c2, by omega, rfl, by go_num, Led.sub_end (m := [_]) HL7.out⟩
          case measure => simp [intOf]; omega
        · have hlt' : ¬ (k : Int) < (n : Int) := by omega
          go_wp2
          go_ret2
          obtain rfl : k = n := by omega
          exact ⟨aa, ap, rfl, HK.out⟩
end Go.Proofs.Ytegebecogbebaaa
