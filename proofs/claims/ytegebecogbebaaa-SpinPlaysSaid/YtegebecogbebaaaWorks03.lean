/-
  The law's works() of layer 3 (betrothallaw03/law.go): it returns true, and nothing that was there has turned.
-/
import Derived.Test.YtegebecogbebaaaRangeTries
namespace Go.Proofs.Ytegebecogbebaaa
open Go.RowKit Go.Shelf
set_option maxRecDepth 100000
set_option linter.unusedVariables false
set_option linter.unusedSimpArgs false
attribute [local go_sem] Oper.semAt_some

theorem num03 (n : Int) (w : World) : Calls Try.prog 16 #[.int .i64 n] w fun e w' => e = .returned (.int .i64 n) ∧ w = w' := by
  go_enter Try.func16, Try.ntmps16
  go_wp2
  go_ret
  exact ⟨rfl, rfl⟩

set_option maxHeartbeats 4000000 in
theorem works03_in (n : Nat) (w : World) : CallsIn Fence.wide n Try.prog 13 #[] w fun e w' => e = .returned (.bool true) ∧ Below w.heap.size w w' := by
  refine callsIn_of_wp_marks Try.func13 rfl trivial ?_ rfl
  simp only [Try.ntmps13, List.size_toArray, List.length_cons, List.length_nil, Nat.reduceAdd, Nat.reduceSub, Array.replicate_succ, Array.replicate_zero, List.push_toArray, List.append_toArray, List.nil_append, List.cons_append]
  have hB := Nat.le_refl w.heap.size
  have HR0 := Lib.hid (Blk.new w 4 #[.bool false])
  have HB0 := Lib.hid ((Below.refl w.heap.size w).alloc (Nat.le_refl _) (.cells #[.bool false] 4))
  gi_wp2_with fail
  refine ⟨trivial, nodepth, ?_⟩
  refine (callsIn_wide.2 (Wk.New (S := []) hB 4 (by omega) (by omega) HB0.out (by simp))).mono ?_
  rintro e w1 ⟨rfl, hW, hK, _, hz⟩
  rw [World.size_alloc] at hW hz
  have HW1 := Lib.hid hW
  have HR1 := Lib.hid (hK _ _ _ HR0.out other_bool)
  rw [World.size_alloc]
  clear hW hK
  gi_wp2_with fail
  refine ⟨trivial, nodepth, ?_⟩
  refine (callsIn_wide.2 (HW1.out.Lock hB ⟨[0], 4, []⟩ 0 0 rfl)).mono ?_
  rintro e w2 ⟨rfl, hW, hK, hS, hz2⟩
  have HW2 := Lib.hid hW
  have HR2 := Lib.hid (hK _ _ _ HR1.out other_bool)
  clear hW hK hS
  gi_wp2_with fail
  refine ⟨trivial, nodepth, ?_⟩
  refine (callsIn_wide.2 (HW2.out.Held hB (by simp) 0 ⟨[0], 4, [⟨1, 0, 0, 0, true⟩]⟩ false 0 rfl rfl rfl)).mono ?_
  rintro e w3 ⟨rfl, hW, hK, hS, hz3⟩
  have HW3 := Lib.hid hW
  have HR3 := Lib.hid (hK _ _ _ HR2.out other_bool)
  clear hW hK hS
  gi_wp2_with fail
  refine ⟨trivial, nodepth, ?_⟩
  refine (callsIn_wide.2 (HW3.out.Try hB (by simp) 0 ⟨[1], 4, [⟨1, 0, 0, 0, true⟩, ⟨3, 0, 0, 1, true⟩]⟩ true 0 rfl rfl rfl)).mono ?_
  rintro e w4 ⟨rfl, hW, hK, hS, hz4⟩
  have HW4 := Lib.hid hW
  have HR4 := Lib.hid (hK _ _ _ HR3.out other_bool)
  clear hW hK hS
  gi_wp2_with fail
  refine ⟨trivial, nodepth, ?_⟩
  refine (callsIn_wide.2 (HW4.out.Try hB (by simp) 0 ⟨[1], 4, [⟨1, 0, 0, 0, true⟩, ⟨3, 0, 0, 1, true⟩, ⟨3, 0, 1, 1, false⟩]⟩ false 0 rfl rfl rfl)).mono ?_
  rintro e w5 ⟨rfl, hW, hK, hS, hz5⟩
  have HW5 := Lib.hid hW
  have HR5 := Lib.hid (hK _ _ _ HR4.out other_bool)
  clear hW hK hS
  gi_wp2_with fail
  refine ⟨trivial, nodepth, ?_⟩
  refine (callsIn_wide.2 (HW5.out.Held hB (by simp) 0 ⟨[1], 4, [⟨1, 0, 0, 0, true⟩, ⟨3, 0, 0, 1, true⟩, ⟨3, 0, 1, 1, false⟩, ⟨1, 0, 1, 1, true⟩]⟩ true 0 rfl rfl rfl)).mono ?_
  rintro e w6 ⟨rfl, hW, hK, hS, hz6⟩
  have HW6 := Lib.hid hW
  have HR6 := Lib.hid (hK _ _ _ HR5.out other_bool)
  clear hW hK hS
  have hnil := tries_not_nil
  gi_wp2_with fail
  refine ⟨trivial, nodepth, ?_⟩
  refine (callsIn_wide.2 (Tries_wk hB HW6.out 0 3)).mono ?_
  rintro e w7 ⟨bm, ba, bt, rfl, hW, hK, _, hz7, hbm, hba, hbt⟩
  have HW7 := Lib.hid hW
  have HR7 := Lib.hid (hK _ _ _ HR6.out other_bool)
  have HM := Lib.hid hbm
  have HBA := Lib.hid hba
  have HT := Lib.hid hbt
  clear hW hK hbm hba hbt
  gi_wp2_with fail
  obtain ⟨w8, hw8⟩ : ∃ w8, w7.alloc (.cells #[.int .i64 0] 3) = w8 := ⟨_, rfl⟩
  obtain ⟨bn, hbn⟩ : ∃ bn, w7.heap.size = bn := ⟨_, rfl⟩
  have HW8 := Lib.hid (show Wk [] w.heap.size w w8 (w.heap.size + 1) _ from hw8 ▸ HW7.out.alloc (HW7.out.size hB) _)
  have HR8 := Lib.hid (show Blk w8 w.heap.size 4 #[.bool false] from hw8 ▸ HR7.out.alloc _)
  have HM8 := Lib.hid (show Blk w8 bm 3 #[.int .i64 3] from hw8 ▸ HM.out.alloc _)
  have HBA8 := Lib.hid (show Blk w8 ba 24 #[.pointer (some ⟨w.heap.size + 1, 0, none⟩)] from hw8 ▸ HBA.out.alloc _)
  have HT8 := Lib.hid (show Blk w8 bt 3 #[.int .i64 0] from hw8 ▸ HT.out.alloc _)
  have HN8 := Lib.hid (show Blk w8 bn 3 #[.int .i64 ((0 : Nat) : Int)] from by have := Blk.new w7 3 #[.int .i64 0]; rw [hw8, hbn] at this; exact this)
  have hnB : w.heap.size ≤ bn := by have := HW7.out.size hB; omega
  have HNE : Hid (bn ≠ bm ∧ bn ≠ ba ∧ bn ≠ bt) := ⟨by have := HM.out.lt; omega, by have := HBA.out.lt; omega, by have := HT.out.lt; omega⟩
  rw [hw8, hbn]
  clear hw8 hbn
  obtain ⟨s7, hs7⟩ : ∃ s7 : Ar, ⟨[1], 4, [⟨1, 0, 0, 0, true⟩, ⟨3, 0, 0, 1, true⟩, ⟨3, 0, 1, 1, false⟩, ⟨1, 0, 1, 1, true⟩]⟩ = s7 := ⟨_, rfl⟩
  rw [hs7] at HW8
  have hD : ∀ k, tryD s7 0 k = false ∧ tryE s7 0 k = 0 := fun k => by rw [← hs7]; exact try_heldD 1 4 (by omega) _ k
  have HD := Lib.hid hD
  have HS := Lib.hid hs7
  have hl7 : s7.L.length = 4 := by rw [← hs7]; rfl
  clear hD hs7
  have hRR : ∀ (k : Nat) (x : Nat × TypeId × Array Value), x ∈ ([(w.heap.size, 4, #[.bool false]), (bn, 3, #[.int .i64 (k : Int)]), (bm, 3, #[.int .i64 3]), (ba, 24, #[.pointer (some ⟨w.heap.size + 1, 0, none⟩)]), (bt, 3, #[.int .i64 0])] : Boxes) → x.1 < w8.heap.size ∧ Other x.2.1 := by
    intro k x hx
    simp only [List.mem_cons, List.not_mem_nil, or_false] at hx
    rcases hx with rfl | rfl | rfl | rfl | rfl
    · exact ⟨HR8.out.lt, other_bool⟩
    · exact ⟨HN8.out.lt, other_int⟩
    · exact ⟨HM8.out.lt, other_int⟩
    · exact ⟨HBA8.out.lt, other_arp⟩
    · exact ⟨HT8.out.lt, other_int⟩
  have HRR := Lib.hid hRR
  have hne1 : Hid (bn ≠ w.heap.size ∧ bn ≠ bm ∧ bn ≠ ba ∧ bn ≠ bt) := ⟨HN8.out.ne HR8.out (by decide), HNE.out⟩
  clear hRR
  refine range_tries (s := s7) (at_ := 0) (most := 3) (bm := bm) (ba := ba) (bt := bt) rfl rfl hB HW8.out (by omega) (by omega)
    (fun k => [(w.heap.size, 4, #[.bool false]), (bn, 3, #[.int .i64 (k : Int)]), (bm, 3, #[.int .i64 3]), (ba, 24, #[.pointer (some ⟨w.heap.size + 1, 0, none⟩)]), (bt, 3, #[.int .i64 0])])
    (fun _ _ => False) HRR.out ?hm ?ha ?ht ?hR0 (fun _ _ _ h => h) ?hround ?hdone ?hstop
  case hm => intro k; simp
  case ha => intro k; simp
  case ht => intro k; simp
  case hR0 =>
    intro x hx
    simp only [List.mem_cons, List.not_mem_nil, or_false] at hx
    rcases hx with rfl | rfl | rfl | rfl | rfl
    · exact HR8.out
    · exact HN8.out
    · exact HM8.out
    · exact HBA8.out
    · exact HT8.out
  case hstop => intro c W h; exact h.elim
  case hround =>
    intro k W hk _ _ hj
    rw [(HD.out k).1]
    gi_wp2
    refine ⟨Kept.refl _ _, fun o => ?_⟩
    have hj2 := hj.putObj (HW8.out.size hB) HW8.out.lt HRR.out o
    clear hj
    generalize W.putObj _ o = W2 at hj2 ⊢
    have HJ2 := Lib.hid hj2
    have c1 := (hj2.2.2.1 (bn, 3, #[.int .i64 (k : Int)]) (by simp)).cell 0
    have f1 := (hj2.2.2.1 (bn, 3, #[.int .i64 (k : Int)]) (by simp)).frozen 0
    simp at c1
    clear hj2
    gi_wp2
    obtain ⟨h1, h2, h3, h4⟩ := HJ2.out
    have hb1 := h3 (bn, 3, #[.int .i64 (k : Int)]) (by simp)
    refine ⟨Kept.setCell (by have := HN8.out.lt; omega) (by have := HN8.out.lt; omega), by simp; omega, h2.setCell hb1 other_int hnB 0 _, ?_, by simp [Same]⟩
    intro x hx
    simp only [List.mem_cons, List.not_mem_nil, or_false] at hx
    obtain ⟨n1, n2, n3, n4⟩ := hne1.out
    rcases hx with rfl | rfl | rfl | rfl | rfl
    · exact (h3 (w.heap.size, 4, #[.bool false]) (by simp)).far (Ne.symm n1) _
    · have := hb1.set 0 (.int .i64 ((k : Int) + 1))
      simpa using this
    · exact (h3 (bm, 3, #[.int .i64 3]) (by simp)).far (Ne.symm n2) _
    · exact (h3 (ba, 24, #[.pointer (some ⟨w.heap.size + 1, 0, none⟩)]) (by simp)).far (Ne.symm n3) _
    · exact (h3 (bt, 3, #[.int .i64 0]) (by simp)).far (Ne.symm n4) _
  case hdone =>
    intro b w9 hF hj hK9
    obtain rfl : b = (3, false) := by
      rcases hF with ⟨h, _⟩ | ⟨k, h, _, _, h2, _⟩ | ⟨_, _, _, h2⟩
      · exact h
      · rw [(HD.out k).1] at h2; cases h2
      · exact absurd (HD.out _).2 h2
    obtain ⟨_, hW9, h9, _⟩ := hj
    have HR9 := Lib.hid (h9 (w.heap.size, 4, #[.bool false]) (by simp))
    have HN9 := Lib.hid (h9 (bn, 3, #[.int .i64 ((3 : Nat) : Int)]) (by simp))
    obtain ⟨L9, e9, hl9⟩ := try_held 1 4 (by omega) [⟨1, 0, 0, 0, true⟩, ⟨3, 0, 0, 1, true⟩, ⟨3, 0, 1, 1, false⟩, ⟨1, 0, 1, 1, true⟩] 3
    rw [HS.out] at e9
    have HW9 := Lib.hid ((show Wk _ w.heap.size w w9 (w.heap.size + 1) ⟨[1], 4, L9⟩ from e9 ▸ hW9).sub (S' := [w8.heap.size]) (by simp))
    have hl9' : L9.length = 7 := by rw [hl9]; rfl
    have HD19 := Lib.hid hK9
    obtain ⟨D1, hD1⟩ : ∃ D1, w8.heap.size = D1 := ⟨_, rfl⟩
    rw [hD1] at HW9 HD19 ⊢
    have hD1B : w.heap.size ≤ D1 := by have := HW8.out.size hB; omega
    clear hW9 h9 hF hK9 hD1 e9 hl9 HRR HNE hne1 HD HS
    gi_wp2_with fail
    refine ⟨trivial, nodepth, ?_⟩
    refine (callsIn_wide.2 (HW9.out.Free hB (by simp; omega) 0 ⟨[0], 4, L9 ++ [⟨3, 0, 1, 0, true⟩]⟩ 0 rfl rfl)).mono ?_
    rintro e w10 ⟨rfl, hW, hK, hS, hz10⟩
    have HW10 := Lib.hid hW
    have HR10 := Lib.hid (hK _ _ _ HR9.out other_bool)
    have HN10 := Lib.hid (hK _ _ _ HN9.out other_int)
    have HD110 := Lib.hid ((hS D1 (by simp)).trans HD19.out)
    clear hW hK hS
    gi_wp2_with fail
    refine ⟨trivial, nodepth, ?_⟩
    refine (callsIn_wide.2 (HW10.out.Free hB (by simp; omega) 0 ⟨[0], 4, L9 ++ [⟨3, 0, 1, 0, true⟩] ++ [⟨3, 0, 0, 0, false⟩]⟩ 30 rfl rfl)).mono ?_
    rintro e w11 ⟨rfl, hW, hK, hS, hz11⟩
    have HW11 := Lib.hid hW
    have HR11 := Lib.hid (hK _ _ _ HR10.out other_bool)
    have HN11 := Lib.hid (hK _ _ _ HN10.out other_int)
    have HD111 := Lib.hid ((hS D1 (by simp)).trans HD110.out)
    clear hW hK hS
    gi_wp2_with fail
    refine ⟨trivial, nodepth, ?_⟩
    refine (callsIn_wide.2 (HW11.out.Held hB (by simp; omega) 0 ⟨[0], 4, L9 ++ [⟨3, 0, 1, 0, true⟩] ++ [⟨3, 0, 0, 0, false⟩] ++ [⟨1, 0, 0, 0, true⟩]⟩ false 0 rfl rfl rfl)).mono ?_
    rintro e w12 ⟨rfl, hW, hK, hS, hz12⟩
    have HW12 := Lib.hid hW
    have HR12 := Lib.hid (hK _ _ _ HR11.out other_bool)
    have HN12 := Lib.hid (hK _ _ _ HN11.out other_int)
    have HD112 := Lib.hid ((hS D1 (by simp)).trans HD111.out)
    clear hW hK hS
    gi_wp2_with fail
    refine ⟨trivial, nodepth, ?_⟩
    refine (callsIn_wide.2 (Tries_wk hB HW12.out 0 3)).mono ?_
    rintro e w13 ⟨cm, ca, ct, rfl, hW, hK, hS, hz13, hbm, hba, hbt⟩
    have HW13 := Lib.hid hW
    have HR13 := Lib.hid (hK _ _ _ HR12.out other_bool)
    have HN13 := Lib.hid (hK _ _ _ HN12.out other_int)
    have HD113 := Lib.hid ((hS D1 (by simp)).trans HD112.out)
    have HM13 := Lib.hid hbm
    have HA13 := Lib.hid hba
    have HT13 := Lib.hid hbt
    clear hW hK hS hbm hba hbt
    gi_wp2_with fail
    obtain ⟨s13, hs13⟩ : ∃ s13 : Ar, ⟨[0], 4, L9 ++ [⟨3, 0, 1, 0, true⟩] ++ [⟨3, 0, 0, 0, false⟩] ++ [⟨1, 0, 0, 0, true⟩]⟩ = s13 := ⟨_, rfl⟩
    rw [hs13] at HW13
    have HD0 : Hid (tryD s13 0 0 = true ∧ tryE s13 0 0 = 0) := by rw [← hs13]; exact ⟨rfl, rfl⟩
    have HS1 : Hid (tryS s13 0 1 = ⟨[1], 4, L9 ++ [⟨3, 0, 1, 0, true⟩] ++ [⟨3, 0, 0, 0, false⟩] ++ [⟨1, 0, 0, 0, true⟩] ++ [⟨3, 0, 0, 1, true⟩]⟩) := by rw [← hs13]; rfl
    have hl13 : s13.L.length = 10 := by rw [← hs13]; simp [hl9']
    have HRR : Hid (∀ (k : Nat) (x : Nat × TypeId × Array Value), x ∈ ([(w.heap.size, 4, #[.bool false]), (bn, 3, #[.int .i64 ((3 : Nat) : Int)]), (cm, 3, #[.int .i64 3]), (ca, 24, #[.pointer (some ⟨w.heap.size + 1, 0, none⟩)]), (ct, 3, #[.int .i64 0])] : Boxes) → x.1 < w13.heap.size ∧ Other x.2.1) := by
      intro k x hx
      simp only [List.mem_cons, List.not_mem_nil, or_false] at hx
      rcases hx with rfl | rfl | rfl | rfl | rfl
      · exact ⟨HR13.out.lt, other_bool⟩
      · exact ⟨HN13.out.lt, other_int⟩
      · exact ⟨HM13.out.lt, other_int⟩
      · exact ⟨HA13.out.lt, other_arp⟩
      · exact ⟨HT13.out.lt, other_int⟩
    clear hs13
    refine range_tries (s := s13) (at_ := 0) (most := 3) (bm := cm) (ba := ca) (bt := ct) rfl rfl hB HW13.out (by omega) (by omega)
      (fun k => [(w.heap.size, 4, #[.bool false]), (bn, 3, #[.int .i64 ((3 : Nat) : Int)]), (cm, 3, #[.int .i64 3]), (ca, 24, #[.pointer (some ⟨w.heap.size + 1, 0, none⟩)]), (ct, 3, #[.int .i64 0])])
      (fun _ _ => False) HRR.out ?hm2 ?ha2 ?ht2 ?hR02 (fun _ _ _ h => h) ?hround2 ?hdone2 ?hstop2
    case hm2 => intro k; simp
    case ha2 => intro k; simp
    case ht2 => intro k; simp
    case hR02 =>
      intro x hx
      simp only [List.mem_cons, List.not_mem_nil, or_false] at hx
      rcases hx with rfl | rfl | rfl | rfl | rfl
      · exact HR13.out
      · exact HN13.out
      · exact HM13.out
      · exact HA13.out
      · exact HT13.out
    case hstop2 => intro c W h; exact h.elim
    case hround2 =>
      intro k W hk _ hall hj
      obtain rfl : k = 0 := by
        rcases Nat.eq_zero_or_pos k with h | h
        · exact h
        · have := (hall 0 h).1
          rw [HD0.out.1] at this
          cases this
      rw [HD0.out.1]
      gi_wp2
      refine ⟨Kept.refl _ _, fun o => ?_⟩
      have hj2 := hj.putObj (HW13.out.size hB) HW13.out.lt HRR.out o
      clear hj
      generalize W.putObj _ o = W2 at hj2 ⊢
      have HJ2 := Lib.hid hj2
      clear hj2 hall
      gi_wp2
      obtain ⟨h1, h2, h3, h4⟩ := HJ2.out
      exact ⟨Kept.refl _ _, by simp, h2, h3, h4⟩
    case hdone2 =>
      intro b w14 hF hj hK14
      have hno : ∀ k, tryAll s13 0 k → k = 0 := fun k hall => by
        rcases Nat.eq_zero_or_pos k with h | h
        · exact h
        · have := (hall 0 h).1
          rw [HD0.out.1] at this
          cases this
      obtain rfl : b = (1, false) := by
        rcases hF with ⟨rfl, h⟩ | ⟨k, rfl, _, h, _⟩ | ⟨_, _, h, h2⟩
        · exact absurd (hno _ h) (by simp)
        · rw [hno k h]
        · rw [hno _ h] at h2
          exact absurd HD0.out.2 h2
      obtain ⟨_, hW14, h14, hS14⟩ := hj
      have HR14 := Lib.hid (h14 (w.heap.size, 4, #[.bool false]) (by simp))
      have HN14 := Lib.hid (h14 (bn, 3, #[.int .i64 ((3 : Nat) : Int)]) (by simp))
      have HD114 := Lib.hid ((hS14 D1 (by simp)).trans HD113.out)
      have HD214 := Lib.hid hK14
      have HW14 := Lib.hid ((show Wk _ w.heap.size w w14 (w.heap.size + 1) ⟨[1], 4, L9 ++ [⟨3, 0, 1, 0, true⟩] ++ [⟨3, 0, 0, 0, false⟩] ++ [⟨1, 0, 0, 0, true⟩] ++ [⟨3, 0, 0, 1, true⟩]⟩ from HS1.out ▸ hW14).sub (S' := [w13.heap.size, D1]) (by simp))
      obtain ⟨D2, hD2⟩ : ∃ D2, w13.heap.size = D2 := ⟨_, rfl⟩
      rw [hD2] at HW14 HD214 ⊢
      have hD12 : D1 ≠ D2 := by have := HW13.out.lt D1 (by simp); omega
      have hD2B : w.heap.size ≤ D2 := by have := HW13.out.size hB; omega
      clear hW14 h14 hF hK14 hD2 hno hS14 HRR HS1 HD0
      gi_wp2_with fail
      refine ⟨trivial, nodepth, ?_⟩
      refine (callsIn_wide.2 (HW14.out.Try hB (by simp; omega) 9 ⟨[1], 4, L9 ++ [⟨3, 0, 1, 0, true⟩] ++ [⟨3, 0, 0, 0, false⟩] ++ [⟨1, 0, 0, 0, true⟩] ++ [⟨3, 0, 0, 1, true⟩]⟩ false 4 rfl rfl rfl)).mono ?_
      rintro e w15 ⟨rfl, hW, hK, hS, hz15⟩
      have HW15 := Lib.hid hW
      have HR15 := Lib.hid (hK _ _ _ HR14.out other_bool)
      have HN15 := Lib.hid (hK _ _ _ HN14.out other_int)
      have HD115 := Lib.hid ((hS D1 (by simp)).trans HD114.out)
      have HD215 := Lib.hid ((hS D2 (by simp)).trans HD214.out)
      clear hW hK hS
      have hN0 := HN15.out.cell 0
      have hR0 := HR15.out.cell 0
      have hRf := HR15.out.frozen 0
      simp at hN0 hR0
      gi_wp2_with fail
      refine ⟨trivial, nodepth, ?_⟩
      refine (callsIn_wide.2 (num03 _ _)).mono ?_
      rintro e w' ⟨rfl, rfl⟩
      gi_wp2_with fail
      refine ⟨trivial, nodepth, ?_⟩
      refine (callsIn_wide.2 (num03 _ _)).mono ?_
      rintro e w' ⟨rfl, rfl⟩
      gi_wp2_with fail
      refine ⟨trivial, nodepth, ?_⟩
      refine (callsIn_wide.2 (num03 _ _)).mono ?_
      rintro e w' ⟨rfl, rfl⟩
      gi_wp2_with fail
      refine ⟨trivial, nodepth, ?_⟩
      refine (callsIn_wide.2 (num03 _ _)).mono ?_
      rintro e w' ⟨rfl, rfl⟩
      gi_wp2_with fail
      refine ⟨trivial, nodepth, ?_⟩
      refine (callsIn_wide.2 (num03 _ _)).mono ?_
      rintro e w' ⟨rfl, rfl⟩
      gi_wp2_with fail
      refine ⟨trivial, nodepth, ?_⟩
      refine (callsIn_wide.2 (num03 _ _)).mono ?_
      rintro e w' ⟨rfl, rfl⟩
      gi_wp2_with fail
      refine ⟨trivial, nodepth, ?_⟩
      refine (callsIn_wide.2 (num03 _ _)).mono ?_
      rintro e w' ⟨rfl, rfl⟩
      gi_wp2_with fail
      refine ⟨trivial, nodepth, ?_⟩
      refine (callsIn_wide.2 (num03 _ _)).mono ?_
      rintro e w' ⟨rfl, rfl⟩
      gi_wp2_with fail
      refine ⟨trivial, nodepth, ?_⟩
      refine (callsIn_wide.2 (num03 _ _)).mono ?_
      rintro e w' ⟨rfl, rfl⟩
      gi_wp2_with fail
      refine ⟨trivial, nodepth, ?_⟩
      refine (callsIn_wide.2 (num03 _ _)).mono ?_
      rintro e w' ⟨rfl, rfl⟩
      gi_wp2
      have hb2 := HR15.out.set 0 (.bool true)
      simp only [List.setIfInBounds_toArray, List.set_cons_zero] at hb2
      have hms : ∀ k ∈ [D2, D1], (w15.setCell ⟨w.heap.size, 0, none⟩ (.bool true)).heap[k]? = some (.deferred (some [])) := by
        intro k hk
        simp only [List.mem_cons, List.not_mem_nil, or_false] at hk
        rcases hk with rfl | rfl
        · exact (Below.heap_setCell _ _ _ _ (HR15.out.ne_deferred HD215.out).symm).trans HD215.out
        · exact (Below.heap_setCell _ _ _ _ (HR15.out.ne_deferred HD115.out).symm).trans HD115.out
      have hc := (hb2.shut _ hms).cell 0
      simp only [List.getElem?_toArray, List.getElem?_cons_zero] at hc
      refine leave_marks (v := .bool true) [D2, D1] _ hms (by simp [hD12.symm]) (by simp [results, Try.results13, go_sem, hc]) ⟨rfl, ?_⟩
      exact shutAll_below _ _ _ _ (by simp; omega) (HW15.out.below.setCell (p := ⟨w.heap.size, 0, none⟩) (Nat.le_refl _) _)

theorem works03 (w : World) : Calls Try.prog 13 #[] w fun e w' => e = .returned (.bool true) ∧ Below w.heap.size w w' := (callsIn_wide (n := 0)).1 (works03_in 0 w)
end Go.Proofs.Ytegebecogbebaaa
