/-
  SpinHolds (betrothallaw03/law.go): its walk: for every number of locks and every two slices of bytes it returns true, and nothing that was there has turned.
-/
import Derived.Test.YtegebecogbebaaaWorks03
import Derived.LoopTactic
namespace Go.Proofs.Ytegebecogbebaaa
open Go.RowKit Go.Shelf
set_option maxRecDepth 100000
set_option linter.unusedVariables false
set_option linter.unusedSimpArgs false

section
variable (s : Ar) (q : Nat) (hq : q < s.C.length)
include hq
theorem swap_err (old new : Nat) : (s.swap (q : Int) old new).2.2 = 0 := by
  simp only [Ar.swap, Ar.doBy]; rw [if_pos ⟨by omega, by omega⟩]
theorem swap_did (old new : Nat) : (s.swap (q : Int) old new).2.1.did = (s.C.getD q 0 == old) := by
  simp only [Ar.swap, Ar.doBy]; rw [if_pos ⟨by omega, by omega⟩]; rfl
theorem swap_old (old new : Nat) : (s.swap (q : Int) old new).2.1.old = s.C.getD q 0 := by
  simp only [Ar.swap, Ar.doBy]; rw [if_pos ⟨by omega, by omega⟩]; rfl
theorem swap_C (old new : Nat) : (s.swap (q : Int) old new).1.C = s.C.set q (if s.C.getD q 0 == old then new else s.C.getD q 0) := by
  simp only [Ar.swap, Ar.doBy]; rw [if_pos ⟨by omega, by omega⟩]; rfl
theorem swap_len (old new : Nat) : (s.swap (q : Int) old new).1.L.length = s.L.length + 1 := by
  simp only [Ar.swap, Ar.doBy]; rw [if_pos ⟨by omega, by omega⟩]; simp [Ar.acc]
theorem load_err : (s.load (q : Int)).2.2 = 0 := by
  simp only [Ar.load, Ar.doBy]; rw [if_pos ⟨by omega, by omega⟩]
theorem load_old : (s.load (q : Int)).2.1.old = s.C.getD q 0 := by
  simp only [Ar.load, Ar.doBy]; rw [if_pos ⟨by omega, by omega⟩]; rfl
theorem load_C : (s.load (q : Int)).1.C = s.C := by
  simp only [Ar.load, Ar.doBy]; rw [if_pos ⟨by omega, by omega⟩]
  simp only [Ar.acc, chgLoad, Int.toNat_natCast, if_true]
  have : s.C.getD q 0 = s.C[q] := by simp [List.getD, hq]
  rw [this, List.set_getElem_self]
theorem load_len : (s.load (q : Int)).1.L.length = s.L.length + 1 := by
  simp only [Ar.load, Ar.doBy]; rw [if_pos ⟨by omega, by omega⟩]; simp [Ar.acc]
end

theorem free_ok (s : Ar) (q : Nat) (hq : q < s.C.length) (h : s.C.getD q 0 = 1) : s.freeE (q : Int) = 0 := by
  unfold Ar.freeE
  rw [swap_err s q hq, swap_did s q hq, h]
  rfl
theorem held_yes (s : Ar) (q : Nat) (hq : q < s.C.length) (h : s.C.getD q 0 = 1) : s.heldB (q : Int) = true := by
  unfold Ar.heldB
  rw [load_err s q hq, load_old s q hq, h]
  rfl
theorem other_arr : Other 31 := by unfold Other; decide

/-- The locks, by their holders. -/
def Locks (m : Nat) (hs : List Int) (s : Ar) : Prop := s.C.length = m ∧ ∀ j, j < m → s.C.getD j 0 = if hs.getD j 0 < 0 then 0 else 1
theorem Locks.set {m : Nat} {hs : List Int} {s s' : Ar} (h : Locks m hs s) (hl : m ≤ hs.length) (q : Nat) (hq : q < m) (t : Int) (hC : s'.C = s.C.set q (if t < 0 then 0 else 1)) : Locks m (hs.set q t) s' := by
  refine ⟨by rw [hC, List.length_set]; exact h.1, fun j hj => ?_⟩
  rw [hC]
  have h1 := h.1
  by_cases hjq : q = j
  · subst hjq
    simp [List.getD, List.getElem?_set, show q < s.C.length by omega, show q < hs.length by omega]
  · have := h.2 j hj
    simp only [List.getD, List.getElem?_set_ne hjq] at this ⊢
    exact this
theorem Locks.same {m : Nat} {hs : List Int} {s s' : Ar} (h : Locks m hs s) (hC : s'.C = s.C) : Locks m hs s' := by
  unfold Locks at h ⊢
  rw [hC]; exact h
theorem set_self' (l : List Nat) (q x : Nat) (hq : q < l.length) (hx : l.getD q 0 = x) : l.set q x = l := by
  have : l[q] = x := by rw [← hx]; simp [List.getD, hq]
  rw [← this, List.set_getElem_self]

/-- A slice of bytes that came in: its cells up to its length. -/
def Bytes (w : World) (a : Option Addr) (len : Nat) (zs : List Nat) : Prop :=
  zs.length = len ∧ (∀ z ∈ zs, z < 256) ∧ ∀ i, i < len → ∃ b o, a = some ⟨b, o, none⟩ ∧ b < w.heap.size ∧ w.cell? ⟨b, o + i, none⟩ = some (.int .u8 (zs.getD i 0 : Int))

theorem spinHolds_out (locks : Int) (a1 a2 : Option Addr) (n1 c1 n2 c2 : Nat) (w : World) (hn1 : n1 ≤ 9223372036854775807) (h : locks < 1 ∨ 4 < locks ∨ 100 < n1) :
    Calls Try.prog 3 #[.int .i64 locks, .slice a1 n1 c1, .slice a2 n2 c2] w fun e w' => e = .returned (.bool true) ∧ Below w.heap.size w w' := by
  by_cases h1 : locks < 1
  · go_enter Try.func3, Try.ntmps3
    go_wp2_with fail
    refine (works03 _).mono ?_
    rintro e w' ⟨rfl, hb⟩
    have H := Lib.hid hb
    clear hb
    go_wp2
    go_ret
    exact ⟨rfl, H.out⟩
  · by_cases h2 : 4 < locks
    · go_enter Try.func3, Try.ntmps3
      go_wp2_with fail
      refine (works03 _).mono ?_
      rintro e w' ⟨rfl, hb⟩
      have H := Lib.hid hb
      clear hb
      go_wp2
      go_ret
      exact ⟨rfl, H.out⟩
    · have h3 : 100 < n1 := by omega
      have h3' : (100 : Int) < (n1 : Int) := by omega
      clear h
      go_enter Try.func3, Try.ntmps3
      go_wp2_with fail
      refine (works03 _).mono ?_
      rintro e w' ⟨rfl, hb⟩
      have H := Lib.hid hb
      clear hb
      go_wp2
      go_ret
      exact ⟨rfl, H.out⟩

theorem alloc_one (k m : Nat) (hk : k < m) : (⟨List.replicate k 0, m, []⟩ : Ar).allocA 1 = (⟨List.replicate (k + 1) 0, m, []⟩, k, 0) := by
  simp only [Ar.allocA, List.length_replicate]
  rw [if_neg (by omega), if_neg (by omega)]
  simp [List.replicate_succ']

set_option maxHeartbeats 4000000 in
theorem spinHolds_in (m : Nat) (a1 a2 : Option Addr) (n1 c1 n2 c2 : Nat) (z1 z2 : List Nat) (w : World) (hm1 : 1 ≤ m) (hm2 : m ≤ 4) (hn1 : n1 ≤ 100) (hn2 : n2 ≤ 9223372036854775807) (hz1 : Bytes w a1 n1 z1) (hz2 : Bytes w a2 n2 z2) :
    Calls Try.prog 3 #[.int .i64 (m : Int), .slice a1 n1 c1, .slice a2 n2 c2] w fun e w' => e = .returned (.bool true) ∧ Below w.heap.size w w' := by
  have hB := Nat.le_refl w.heap.size
  have HZ1 := Lib.hid hz1
  have HZ2 := Lib.hid hz2
  have hn1' : ¬ (100 : Int) < (n1 : Int) := by omega
  have hm1' : ¬ (m : Int) < 1 := by omega
  have hm2' : ¬ (4 : Int) < (m : Int) := by omega
  clear hz1 hz2
  go_enter Try.func3, Try.ntmps3
  go_wp2_with fail
  refine (Wk.New (S := []) hB m hm1 (by omega) (Below.refl _ w) (by simp)).mono ?_
  rintro e w1 ⟨rfl, hW, hK, _, hz⟩
  have HW1 := Lib.hid hW
  clear hW hK
  go_wp2_with fail
  go_loopw [9] (fun i wr => ∃ k : Nat, k ≤ m ∧ i = .int .i64 (k : Int) ∧ Hid (Wk [] w.heap.size w wr w.heap.size ⟨List.replicate k 0, m, []⟩)) (fun i _ => m - (intOf i).toNat)
  case atStart => exact ⟨0, Nat.zero_le _, rfl, HW1⟩
  case round =>
    obtain ⟨k, hk, rfl, HW⟩ := hrel
    by_cases hlt : k < m
    · have hlt' : (k : Int) < (m : Int) := by omega
      go_wp2_with fail
      refine (HW.out.Lock hB _ _ _ (alloc_one k m hlt)).mono ?_
      rintro e w2 ⟨rfl, hW, hK, _, hz2⟩
      have HW2 := Lib.hid hW
      clear hW hK
      go_wp2_with (go_at_call 16; refine (num03 _ _).mono ?_; rintro e w' ⟨rfl, rfl⟩)
      go_roundw
      case rel => exact ⟨k + 1, by omega, by go_num, HW2⟩
      case measure => simp [intOf]; omega
    · obtain rfl : m = k := by omega
      have hlt' : ¬ (m : Int) < (m : Int) := by omega
      go_wp2_with fail
      obtain ⟨hb, hhb⟩ : ∃ hb, wr.heap.size = hb := ⟨_, rfl⟩
      have HH := Lib.hid (show Blk (wr.alloc (.cells #[.int .i64 (-1), .int .i64 (-1), .int .i64 (-1), .int .i64 (-1)] 31)) hb 31 ([(-1 : Int), -1, -1, -1].map (Value.int .i64)).toArray from hhb ▸ Blk.new wr 31 _)
      have HWA := Lib.hid (HW.out.alloc (HW.out.size hB) (.cells #[.int .i64 (-1), .int .i64 (-1), .int .i64 (-1), .int .i64 (-1)] 31))
      have hhB : w.heap.size ≤ hb := by have := HW.out.size hB; omega
      have HL : Hid (Locks m [-1, -1, -1, -1] ⟨List.replicate m 0, m, []⟩) := by
        refine ⟨by simp, fun j hj => ?_⟩
        have : j < 4 := by omega
        match j, this with
        | 0, _ => simp [List.getD, hj]
        | 1, _ => simp [List.getD, hj]
        | 2, _ => simp [List.getD, hj]
        | 3, _ => simp [List.getD, hj]
      rw [hhb]
      clear hhb
      go_loopw [13] (fun i wx => ∃ (k : Nat) (hs : List Int) (s : Ar), k ≤ n1 ∧ i = .int .i64 (k : Int) ∧ hs.length = 4 ∧ s.L.length ≤ 2 * k ∧ Hid (Locks m hs s) ∧ Hid (Wk [] w.heap.size w wx w.heap.size s) ∧ Hid (Blk wx hb 31 (hs.map (Value.int .i64)).toArray)) (fun i _ => n1 - (intOf i).toNat)
      case atStart => exact ⟨0, [-1, -1, -1, -1], _, Nat.zero_le _, rfl, rfl, by simp, HL, HWA, HH⟩
      case round =>
        obtain ⟨k, hs, s, hk, rfl, hh4, hLl, HLk, HWk, HHk⟩ := hrel
        by_cases hc1 : k < n1
        · have hc1' : (k : Int) < (n1 : Int) := by omega
          by_cases hc2 : k < n2
          · have hc2' : (k : Int) < (n2 : Int) := by omega
            obtain ⟨b1, o1, rfl, hb1, hv1⟩ := HZ1.out.2.2 k hc1
            obtain ⟨b2, o2, rfl, hb2, hv2⟩ := HZ2.out.2.2 k hc2
            have hx1 := (HWk.out.below.cell (p := ⟨b1, o1 + k, none⟩) hb1).trans hv1
            have hx2 := (HWk.out.below.cell (p := ⟨b2, o2 + k, none⟩) hb2).trans hv2
            have hz1 : z1.getD k 0 < 256 := HZ1.out.2.1 _ (by rw [List.getD_eq_getElem?_getD, List.getElem?_eq_getElem (by rw [HZ1.out.1]; exact hc1)]; exact List.getElem_mem _)
            have hz2 : z2.getD k 0 < 256 := HZ2.out.2.1 _ (by rw [List.getD_eq_getElem?_getD, List.getElem?_eq_getElem (by rw [HZ2.out.1]; exact hc2)]; exact List.getElem_mem _)
            generalize z1.getD k 0 = t at hx1 hz1
            generalize z2.getD k 0 = p at hx2 hz2
            obtain ⟨q, hq, hqm⟩ : ∃ q : Nat, (p : Int).tmod (m : Int) = (q : Int) ∧ q < m := ⟨p % m, by rw [Int.tmod_eq_emod_of_nonneg (by omega)]; omega, Nat.mod_lt _ (by omega)⟩
            clear hv1 hv2
            have hcell := HHk.out.cell q
            have hfroz := HHk.out.frozen q
            have hhq : hs[q]? = some (hs.getD q 0) := by rw [List.getD_eq_getElem?_getD, List.getElem?_eq_getElem (by omega)]; rfl
            simp only [List.getElem?_toArray, List.getElem?_map, hhq, Option.map_some] at hcell
            have HC := Lib.hid (HLk.out.2 q hqm)
            have HCl : Hid (q < s.C.length) := by have := HLk.out.1; unfold Hid; omega
            have hh4' := Lib.hid hh4
            have hq4 : (q : Int) < 4 := by omega
            generalize hh : hs.getD q 0 = h at hcell HC hhq
            have hblt := HHk.out.lt
            have HQ := Lib.hid hhq
            clear hh4 hhq hh
            by_cases hht : h = (t : Int)
            · -- the holder frees it
              have e1 : (h == (t : Int)) = true := by simp [hht]
              have HC1 : Hid (s.C.getD q 0 = 1) := by have := HC.out; rw [if_neg (by omega)] at this; exact this
              have HT := Lib.hid hht
              clear hht
              go_wp2_with fail
              go_quiet (fail)
              go_wp2_with fail
              refine ((HWk.out.drewN _).Free hB (by omega) (q : Int) _ 0 rfl (free_ok s q HCl.out HC1.out)).mono ?_
              rintro e w2 ⟨rfl, hW, hK, _, hz2⟩
              have HW2 := Lib.hid hW
              have HH2 := Lib.hid (hK _ _ _ (HHk.out.drewN _) other_arr)
              have k2 : w2.cell? ⟨hb, q, none⟩ = some (.int .i64 h) := by rw [HH2.out.cell q]; simp [HQ.out]
              have f2 := HH2.out.frozen q
              have hlh2 := HH2.out.lt
              clear hW hK hcell hfroz
              go_wp2_with (go_at_call 16; refine (num03 _ _).mono ?_; rintro e w' ⟨rfl, rfl⟩)
              go_roundw
              case rel =>
                refine ⟨k + 1, hs.set q (-1), (s.swap (q : Int) 1 0).1, by omega, by go_num, by rw [List.length_set]; exact hh4'.out, by rw [swap_len s q HCl.out]; omega, ?_, HW2.out.setCell HH2.out other_arr hhB _ _, ?_⟩
                · exact HLk.out.set (by have := hh4'.out; omega) q hqm (-1) (by rw [swap_C s q HCl.out, HC1.out]; rfl)
                · have := HH2.out.set q (.int .i64 (-1))
                  refine Lib.hid ?_
                  simpa [List.map_set] using this
              case measure => simp [intOf]; omega
            · have e1 : (h == (t : Int)) = false := by simp [hht]
              have HT := Lib.hid hht
              clear hht
              by_cases hneg : h < 0
              · -- it is free: whoever tries it gets it
                have HC1 : Hid (s.C.getD q 0 = 0) := by have := HC.out; rw [if_pos hneg] at this; exact this
                go_wp2_with fail
                go_quiet (fail)
                go_wp2_with fail
                refine ((HWk.out.drewN _).Try hB (by omega) (q : Int) _ true 0 rfl (by rw [swap_did s q HCl.out, HC1.out]; rfl) (swap_err s q HCl.out 0 1)).mono ?_
                rintro e w2 ⟨rfl, hW, hK, _, hz2⟩
                have HW2 := Lib.hid hW
                have HH2 := Lib.hid (hK _ _ _ (HHk.out.drewN _) other_arr)
                have f2 := HH2.out.frozen q
                have hlh2 := HH2.out.lt
                have hcell2 : w2.cell? ⟨hb, q, none⟩ = some (.int .i64 h) := by rw [HH2.out.cell q]; simp [HQ.out]
                have HS2 : Hid ((s.swap (q : Int) 0 1).1.C = s.C.set q 1) := by rw [swap_C s q HCl.out, HC1.out]; rfl
                have HL2 := Lib.hid (swap_len s q HCl.out 0 1)
                have HC2 : Hid (q < (s.swap (q : Int) 0 1).1.C.length) := by rw [HS2.out, List.length_set]; exact HCl.out
                have HG2 : Hid ((s.swap (q : Int) 0 1).1.C.getD q 0 = 1) := by rw [HS2.out]; refine Lib.hid ?_; simp [List.getD, HCl.out]
                clear hW hK hcell hfroz
                go_wp2_with (go_at_call 16; refine (num03 _ _).mono ?_; rintro e w' ⟨rfl, rfl⟩)
                refine ((HW2.out.setCell HH2.out other_arr hhB q _).Held hB (by rw [HL2.out]; omega) (q : Int) _ true 0 rfl (held_yes _ q HC2.out HG2.out) (load_err _ q HC2.out)).mono ?_
                rintro e w3 ⟨rfl, hW, hK, _, hz3⟩
                have HW3 := Lib.hid hW
                have HH3 := Lib.hid (hK _ _ _ (HH2.out.set q (.int .i64 (t : Int))) other_arr)
                clear hW hK
                go_wp2_with (go_at_call 16; refine (num03 _ _).mono ?_; rintro e w' ⟨rfl, rfl⟩)
                go_roundw
                case rel =>
                  refine ⟨k + 1, hs.set q (t : Int), _, by omega, by go_num, by rw [List.length_set]; exact hh4'.out, ?_, ?_, HW3, ?_⟩
                  · rw [load_len _ q HC2.out, HL2.out]; omega
                  · exact HLk.out.set (by have := hh4'.out; omega) q hqm (t : Int) (by rw [load_C _ q HC2.out, HS2.out, if_neg (by omega)])
                  · have := HH3.out
                    refine Lib.hid ?_
                    simpa [List.map_set] using this
                case measure => simp [intOf]; omega
              · have HC1 : Hid (s.C.getD q 0 = 1) := by have := HC.out; rw [if_neg hneg] at this; exact this
                go_wp2_with fail
                go_quiet (fail)
                go_wp2_with fail
                refine ((HWk.out.drewN _).Try hB (by omega) (q : Int) _ false 0 rfl (by rw [swap_did s q HCl.out, HC1.out]; rfl) (swap_err s q HCl.out 0 1)).mono ?_
                rintro e w2 ⟨rfl, hW, hK, _, hz2⟩
                have HW2 := Lib.hid hW
                have HH2 := Lib.hid (hK _ _ _ (HHk.out.drewN _) other_arr)
                have hlh2 := HH2.out.lt
                have hcell2 : w2.cell? ⟨hb, q, none⟩ = some (.int .i64 h) := by rw [HH2.out.cell q]; simp [HQ.out]
                have HS2 : Hid ((s.swap (q : Int) 0 1).1.C = s.C) := by rw [swap_C s q HCl.out, HC1.out]; exact set_self' _ _ _ HCl.out HC1.out
                have HL2 := Lib.hid (swap_len s q HCl.out 0 1)
                have HC2 : Hid (q < (s.swap (q : Int) 0 1).1.C.length) := by rw [HS2.out]; exact HCl.out
                have HG2 : Hid ((s.swap (q : Int) 0 1).1.C.getD q 0 = 1) := by rw [HS2.out]; exact HC1.out
                clear hW hK hcell hfroz
                go_wp2_with (go_at_call 16; refine (num03 _ _).mono ?_; rintro e w' ⟨rfl, rfl⟩)
                refine (HW2.out.Held hB (by rw [HL2.out]; omega) (q : Int) _ true 0 rfl (held_yes _ q HC2.out HG2.out) (load_err _ q HC2.out)).mono ?_
                rintro e w3 ⟨rfl, hW, hK, _, hz3⟩
                have HW3 := Lib.hid hW
                have HH3 := Lib.hid (hK _ _ _ HH2.out other_arr)
                clear hW hK
                go_wp2_with (go_at_call 16; refine (num03 _ _).mono ?_; rintro e w' ⟨rfl, rfl⟩)
                go_roundw
                case rel =>
                  refine ⟨k + 1, hs, _, by omega, by go_num, hh4'.out, ?_, ?_, HW3, HH3⟩
                  · rw [load_len _ q HC2.out, HL2.out]; omega
                  · exact HLk.out.same (by rw [load_C _ q HC2.out, HS2.out])
                case measure => simp [intOf]; omega
          · have hc2' : ¬ (k : Int) < (n2 : Int) := by omega
            go_wp2_with fail
            refine (num03 _ _).mono ?_
            rintro e w' ⟨rfl, rfl⟩
            go_wp2_with fail
            refine (works03 _).mono ?_
            rintro e w' ⟨rfl, hb⟩
            have H := Lib.hid hb
            clear hb
            go_wp2
            go_ret
            exact ⟨rfl, HWk.out.below.trans (H.out.mono (HWk.out.size hB))⟩
        · have hc1' : ¬ (k : Int) < (n1 : Int) := by omega
          go_wp2_with fail
          refine (num03 _ _).mono ?_
          rintro e w' ⟨rfl, rfl⟩
          go_wp2_with fail
          refine (works03 _).mono ?_
          rintro e w' ⟨rfl, hb⟩
          have H := Lib.hid hb
          clear hb
          go_wp2
          go_ret
          exact ⟨rfl, HWk.out.below.trans (H.out.mono (HWk.out.size hB))⟩
end Go.Proofs.Ytegebecogbebaaa
