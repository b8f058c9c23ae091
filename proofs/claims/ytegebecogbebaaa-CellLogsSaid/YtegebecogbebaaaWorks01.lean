/-
  The law's works() of layer 1 (betrothallaw01/law.go): it returns true, and nothing that was there has turned.
-/
import Derived.Test.YtegebecogbebaaaLogIter
namespace Go.Proofs.Ytegebecogbebaaa
open Go.RowKit Go.Shelf
set_option maxRecDepth 100000
set_option linter.unusedVariables false
set_option linter.unusedSimpArgs false
attribute [local go_sem] Oper.semAt_some

theorem num01 (n : Int) (w : World) : Calls Try.prog 28 #[.int .i64 n] w fun e w' => e = .returned (.int .i64 n) ∧ w = w' := by
  go_enter Try.func28, Try.ntmps28
  go_wp2
  go_ret
  exact ⟨rfl, rfl⟩
theorem eq_access3 (w : World) : (binOp .eql 54 (.agg #[.int .i64 3, .int .i64 1, .int .u64 7, .int .u64 9, .bool true]) (.agg #[.int .i64 3, .int .i64 1, .int .u64 7, .int .u64 9, .bool true])).run Try.prog w = .ok (.bool true) w := by kernel_rfl

def works01L : List Acc := [⟨2, 1, 0, 7, true⟩, ⟨1, 1, 7, 7, true⟩, ⟨3, 1, 7, 9, true⟩, ⟨3, 1, 9, 9, false⟩, ⟨4, 1, 9, 8, true⟩, ⟨1, 1, 8, 8, true⟩]
/-- The third access, once it has come. -/
def third (k : Nat) : Acc := if 2 < k then ⟨3, 1, 7, 9, true⟩ else Acc.zero

set_option maxHeartbeats 4000000 in
theorem works01_in (n : Nat) (w : World) : CallsIn Fence.wide n Try.prog 20 #[] w fun e w' => e = .returned (.bool true) ∧ Below w.heap.size w w' := by
  refine callsIn_of_wp_marks Try.func20 rfl trivial ?_ rfl
  simp only [Try.ntmps20, List.size_toArray, List.length_cons, List.length_nil, Nat.reduceAdd, Nat.reduceSub, Array.replicate_succ, Array.replicate_zero, List.push_toArray, List.append_toArray, List.nil_append, List.cons_append]
  have hB := Nat.le_refl w.heap.size
  gi_wp2_with fail
  refine ⟨trivial, nodepth, ?_⟩
  refine (callsIn_wide.2 (Wk.New (S := []) hB 3 (by omega) (by omega) (Below.refl _ w) (by simp))).mono ?_
  rintro e w1 ⟨rfl, hW, hK, _, hz⟩
  have HW1 := Lib.hid hW
  clear hW hK
  gi_wp2_with fail
  refine ⟨trivial, nodepth, ?_⟩
  refine (callsIn_wide.2 (HW1.out.Alloc hB 2 ⟨[0, 0], 3, []⟩ 0 0 rfl)).mono ?_
  rintro e w2 ⟨rfl, hW, hK, hS, hz2⟩
  have HW2 := Lib.hid hW
  clear hW hK hS
  gi_wp2_with fail
  refine ⟨trivial, nodepth, ?_⟩
  refine (callsIn_wide.2 (HW2.out.Alloc hB 2 ⟨[0, 0], 3, []⟩ 0 6 rfl)).mono ?_
  rintro e w3 ⟨rfl, hW, hK, hS, hz3⟩
  have HW3 := Lib.hid hW
  clear hW hK hS
  gi_wp2_with fail
  refine ⟨trivial, nodepth, ?_⟩
  refine (callsIn_wide.2 (HW3.out.Alloc hB 0 ⟨[0, 0], 3, []⟩ 2 0 rfl)).mono ?_
  rintro e w4 ⟨rfl, hW, hK, hS, hz4⟩
  have HW4 := Lib.hid hW
  clear hW hK hS
  gi_wp2_with fail
  refine ⟨trivial, nodepth, ?_⟩
  refine (callsIn_wide.2 (HW4.out.Alloc hB (-1) ⟨[0, 0], 3, []⟩ 0 2 rfl)).mono ?_
  rintro e w5 ⟨rfl, hW, hK, hS, hz5⟩
  have HW5 := Lib.hid hW
  clear hW hK hS
  gi_wp2_with fail
  refine ⟨trivial, nodepth, ?_⟩
  refine (callsIn_wide.2 (HW5.out.Store hB (by simp) 1 7 (by unfold Wd; omega) ⟨[0, 7], 3, [⟨2, 1, 0, 7, true⟩]⟩ 0 rfl rfl)).mono ?_
  rintro e w6 ⟨rfl, hW, hK, hS, hz6⟩
  have HW6 := Lib.hid hW
  clear hW hK hS
  gi_wp2_with fail
  refine ⟨trivial, nodepth, ?_⟩
  refine (callsIn_wide.2 (HW6.out.Load hB (by simp) 1 ⟨[0, 7], 3, [⟨2, 1, 0, 7, true⟩, ⟨1, 1, 7, 7, true⟩]⟩ 7 0 rfl rfl rfl)).mono ?_
  rintro e w7 ⟨rfl, hW, hK, hS, hz7⟩
  have HW7 := Lib.hid hW
  clear hW hK hS
  gi_wp2_with fail
  refine ⟨trivial, nodepth, ?_⟩
  refine (callsIn_wide.2 (HW7.out.Load hB (by simp) 2 ⟨[0, 7], 3, [⟨2, 1, 0, 7, true⟩, ⟨1, 1, 7, 7, true⟩]⟩ 0 4 rfl rfl rfl)).mono ?_
  rintro e w8 ⟨rfl, hW, hK, hS, hz8⟩
  have HW8 := Lib.hid hW
  clear hW hK hS
  gi_wp2_with fail
  refine ⟨trivial, nodepth, ?_⟩
  refine (callsIn_wide.2 (num01 _ _)).mono ?_
  rintro e w' ⟨rfl, rfl⟩
  gi_wp2_with fail
  refine ⟨trivial, nodepth, ?_⟩
  refine (callsIn_wide.2 (num01 _ _)).mono ?_
  rintro e w' ⟨rfl, rfl⟩
  gi_wp2_with fail
  refine ⟨trivial, nodepth, ?_⟩
  refine (callsIn_wide.2 (num01 _ _)).mono ?_
  rintro e w' ⟨rfl, rfl⟩
  gi_wp2_with fail
  refine ⟨trivial, nodepth, ?_⟩
  refine (callsIn_wide.2 (num01 _ _)).mono ?_
  rintro e w' ⟨rfl, rfl⟩
  gi_wp2_with fail
  refine ⟨trivial, nodepth, ?_⟩
  refine (callsIn_wide.2 (num01 _ _)).mono ?_
  rintro e w' ⟨rfl, rfl⟩
  gi_wp2_with fail
  refine ⟨trivial, nodepth, ?_⟩
  refine (callsIn_wide.2 (num01 _ _)).mono ?_
  rintro e w' ⟨rfl, rfl⟩
  gi_wp2_with fail
  refine ⟨trivial, nodepth, ?_⟩
  refine (callsIn_wide.2 (num01 _ _)).mono ?_
  rintro e w' ⟨rfl, rfl⟩
  gi_wp2_with fail
  refine ⟨trivial, nodepth, ?_⟩
  refine (callsIn_wide.2 (num01 _ _)).mono ?_
  rintro e w' ⟨rfl, rfl⟩
  gi_wp2_with fail
  refine ⟨trivial, nodepth, ?_⟩
  refine (callsIn_wide.2 (HW8.out.Swap hB (by simp) 1 7 9 (by unfold Wd; omega) (by unfold Wd; omega) ⟨[0, 9], 3, [⟨2, 1, 0, 7, true⟩, ⟨1, 1, 7, 7, true⟩, ⟨3, 1, 7, 9, true⟩]⟩ 7 true 0 rfl rfl rfl rfl)).mono ?_
  rintro e w9 ⟨rfl, hW, hK, hS, hz9⟩
  have HW9 := Lib.hid hW
  clear hW hK hS
  gi_wp2_with fail
  refine ⟨trivial, nodepth, ?_⟩
  refine (callsIn_wide.2 (HW9.out.Swap hB (by simp) 1 7 8 (by unfold Wd; omega) (by unfold Wd; omega) ⟨[0, 9], 3, [⟨2, 1, 0, 7, true⟩, ⟨1, 1, 7, 7, true⟩, ⟨3, 1, 7, 9, true⟩, ⟨3, 1, 9, 9, false⟩]⟩ 9 false 0 rfl rfl rfl rfl)).mono ?_
  rintro e w10 ⟨rfl, hW, hK, hS, hz10⟩
  have HW10 := Lib.hid hW
  clear hW hK hS
  gi_wp2_with fail
  refine ⟨trivial, nodepth, ?_⟩
  refine (callsIn_wide.2 (HW10.out.Add hB (by simp) 1 18446744073709551615 (by unfold Wd; omega) ⟨[0, 8], 3, [⟨2, 1, 0, 7, true⟩, ⟨1, 1, 7, 7, true⟩, ⟨3, 1, 7, 9, true⟩, ⟨3, 1, 9, 9, false⟩, ⟨4, 1, 9, 8, true⟩]⟩ 9 0 rfl rfl rfl)).mono ?_
  rintro e w11 ⟨rfl, hW, hK, hS, hz11⟩
  have HW11 := Lib.hid hW
  clear hW hK hS
  gi_wp2_with fail
  refine ⟨trivial, nodepth, ?_⟩
  refine (callsIn_wide.2 (HW11.out.Load hB (by simp) 1 ⟨[0, 8], 3, works01L⟩ 8 0 rfl rfl rfl)).mono ?_
  rintro e w12 ⟨rfl, hW, hK, hS, hz12⟩
  have HW12 := Lib.hid hW
  clear hW hK hS
  gi_wp2_with fail
  refine ⟨trivial, nodepth, ?_⟩
  refine (callsIn_wide.2 (New_no _ _ (by omega))).mono ?_
  rintro e w' ⟨rfl, rfl⟩
  gi_wp2_with fail
  refine ⟨trivial, nodepth, ?_⟩
  refine (callsIn_wide.2 (New_no _ _ (by omega))).mono ?_
  rintro e w' ⟨rfl, rfl⟩
  have hnil := log_not_nil
  gi_wp2_with fail
  refine ⟨trivial, nodepth, ?_⟩
  refine (callsIn_wide.2 (Log_wk hB HW12.out (by simp [works01L]))).mono ?_
  rintro e w13 ⟨bl, bf, gg, rfl, hL, hW, ht, hge⟩
  have HW13 := Lib.hid hW
  have HL13 := Lib.hid hL
  have HG := Lib.hid hge
  clear hL hW ht hge
  gi_wp2_with fail
  obtain ⟨w14, hw14⟩ : ∃ w14, w13.alloc Acc.zero.box = w14 := ⟨_, rfl⟩
  obtain ⟨bt, hbt⟩ : ∃ bt, w13.heap.size = bt := ⟨_, rfl⟩
  have HW14 := Lib.hid (show Wk (bt :: ([bl, bf, gg] ++ [])) w.heap.size w w14 w.heap.size ⟨[0, 8], 3, works01L⟩ from by have := HW13.out.allocS (HW13.out.size hB) Acc.zero.box; rw [hw14, hbt] at this; exact this)
  have HT14 := Lib.hid (show Blk w14 bt 54 (third 0).cells.toArray from by have := Blk.new w13 54 Acc.zero.cells.toArray; rw [hbt] at this; rw [← hw14]; exact this)
  have HL14 := Lib.hid (show LogAt w14 bl bf gg works01L from by rw [← hw14]; exact HL13.out.keep (fun k hk => Below.heap_alloc _ _ k (HL13.out.lt k hk)))
  have hbB : w.heap.size ≤ bt := by have := HW13.out.size hB; omega
  have HNB : Hid (∀ k ∈ [bl, bf, gg], k ≠ bt) := fun k hk => by have := HL13.out.lt k hk; omega
  have e14 : w13.alloc (.cells #[.int .i64 0, .int .i64 0, .int .u64 0, .int .u64 0, .bool false] 54) = w14 := hw14
  rw [e14, hbt]
  clear hw14 hbt e14
  refine range_log (bl := bl) (bf := bf) (gg := gg) (L := works01L) rfl rfl (by simp [works01L])
    (fun k W => Wk (w14.heap.size :: (w14.heap.size + 1) :: bt :: ([bl, bf, gg] ++ [])) w.heap.size w W w.heap.size ⟨[0, 8], 3, works01L⟩ ∧ Blk W bt 54 (third k).cells.toArray ∧ LogAt W bl bf gg works01L)
    (fun _ _ => False) (fun k W h => h.2.2) ?hal ?hput (fun _ _ _ h => h) ?h0 ?hround ?hdone ?hstop
  case hal =>
    rintro k W o hl ⟨h1, h2, h3⟩
    exact ⟨h1.alloc (h1.size hB) o, h2.alloc o, h3.keep (fun j hj => Below.heap_alloc _ _ j (h3.lt j hj))⟩
  case hput =>
    rintro k W o ⟨h1, h2, h3⟩
    refine ⟨h1.putObj (by simp) (by have := HW14.out.size hB; omega) o, h2.putObj (by have := HT14.out.lt; omega) o, h3.keep (fun j hj => World.putObj_heap_other (by have := HL14.out.lt j hj; omega))⟩
  case h0 =>
    intro o
    exact ⟨HW14.out.loop hB _ _, (HT14.out.alloc _).alloc _, HL14.out.keep (fun j hj => (((Touch.refl [] w14).alloc _).alloc _).block j (HL14.out.lt j hj) (by simp))⟩
  case hstop => intro c W h; exact h.elim
  case hround =>
    rintro k W hk ⟨h1, h2, h3⟩ hlt
    have hF : logF works01L = 0 := rfl
    have hk6 : k < 6 := hk
    rw [hF]
    obtain ⟨x, hx⟩ : ∃ x, (logL works01L)[k]'hk = x := ⟨_, rfl⟩
    have hx2 : k = 2 → x = ⟨3, 1, 7, 9, true⟩ := by rintro rfl; exact hx.symm
    rw [hx]
    have H1 := Lib.hid h1
    have H2 := Lib.hid h2
    have H3 := Lib.hid h3
    have HX := Lib.hid hx2
    clear h1 h2 h3 hx hx2 hF
    gi_wp2
    refine ⟨⟨Below.heap_alloc _ _ _ (by omega), Below.heap_alloc _ _ _ hlt⟩, fun o => ?_⟩
    obtain ⟨bx, hbx⟩ : ∃ bx, W.heap.size = bx := ⟨_, rfl⟩
    obtain ⟨W2, hW2⟩ : ∃ W2, (W.alloc x.box).putObj (w14.heap.size + 1) o = W2 := ⟨_, rfl⟩
    have K1 := Lib.hid (show Wk (w14.heap.size :: (w14.heap.size + 1) :: bt :: ([bl, bf, gg] ++ [])) w.heap.size w W2 w.heap.size ⟨[0, 8], 3, works01L⟩ from hW2 ▸ (H1.out.alloc (H1.out.size hB) _).putObj (by simp) (by have := HW14.out.size hB; omega) o)
    have K2 := Lib.hid (show Blk W2 bt 54 (third k).cells.toArray from hW2 ▸ (H2.out.alloc _).putObj (by have := HT14.out.lt; omega) o)
    have K3 := Lib.hid (show LogAt W2 bl bf gg works01L from hW2 ▸ H3.out.keep (fun j hj => (World.putObj_heap_other (by have := HL14.out.lt j hj; omega)).trans (Below.heap_alloc _ _ j (H3.out.lt j hj))))
    have k4 : Blk W2 bx 54 x.cells.toArray := by rw [← hW2, ← hbx]; exact Blk.putObj (Blk.new W _ _) (by omega) o
    have e2 : (W.alloc (.cells #[.int .i64 (x.op : Int), .int .i64 (x.at_ : Int), .int .u64 (x.old : Int), .int .u64 (x.new : Int), .bool x.did] 54)).putObj (w14.heap.size + 1) o = W2 := hW2
    rw [e2, hbx]
    have hbt2 : bt ≠ bx := by have := H2.out.lt; omega
    clear hbx e2 hW2 H1 H2 H3
    have c0 := k4.cell 0
    have c1 := k4.cell 1
    have c2 := k4.cell 2
    have c3 := k4.cell 3
    have c4 := k4.cell 4
    simp [Acc.cells] at c0 c1 c2 c3 c4
    have d0 := K2.out.cell 0
    have d1 := K2.out.cell 1
    have d2 := K2.out.cell 2
    have d3 := K2.out.cell 3
    have d4 := K2.out.cell 4
    simp [Acc.cells] at d0 d1 d2 d3 d4
    have f0 := K2.out.frozen 0
    have f1 := K2.out.frozen 1
    have f2 := K2.out.frozen 2
    have f3 := K2.out.frozen 3
    have f4 := K2.out.frozen 4
    clear k4
    by_cases hk2 : k = 2
    · have hk2' : ((k : Int) == 2) = true := by simp; omega
      have HK2 := Lib.hid hk2
      clear hk2
      gi_wp2
      refine ⟨⟨?_, ?_⟩, ?_, ?_, ?_⟩
      · have hb := HT14.out.lt
        simp only [Below.heap_setCell _ ⟨bt, _, none⟩ _ w14.heap.size (by simp; omega)]
      · have hb := HT14.out.lt
        simp only [Below.heap_setCell _ ⟨bt, _, none⟩ _ (w14.heap.size + 1) (by simp; omega)]
      · exact ((((K1.out.setS (b := bt) (by simp) hbB 0 _).setS (b := bt) (by simp) hbB 1 _).setS (b := bt) (by simp) hbB 2 _).setS (b := bt) (by simp) hbB 3 _).setS (b := bt) (by simp) hbB 4 _
      · have := ((((K2.out.set 0 (.int .i64 (x.op : Int))).set 1 (.int .i64 (x.at_ : Int))).set 2 (.int .u64 (x.old : Int))).set 3 (.int .u64 (x.new : Int))).set 4 (.bool x.did)
        have hxx := HX.out HK2.out
        rw [HK2.out, hxx] at this ⊢
        simpa [third, Acc.cells, Acc.zero] using this
      · refine K3.out.keep (fun j hj => ?_)
        have hb := HNB.out j hj
        simp only [Below.heap_setCell _ ⟨bt, _, none⟩ _ j hb]
    · have hk2' : ((k : Int) == 2) = false := by simp; omega
      have HK2 := Lib.hid hk2
      clear hk2
      gi_wp2
      refine ⟨Kept.refl _ _, K1.out, ?_, K3.out⟩
      have : third (k + 1) = third k := by
        unfold third
        have := HK2.out
        by_cases h : 2 < k
        · rw [if_pos (by omega), if_pos h]
        · rw [if_neg (by omega), if_neg h]
      rw [this]
      exact K2.out
  case hdone =>
    rintro w15 ⟨h1, h2, h3⟩ hK hlt
    have HW15 := Lib.hid (h1.sub (S' := [w14.heap.size]) (by simp))
    have HD := Lib.hid hK
    have HT15 := Lib.hid h2
    obtain ⟨D1, hD1⟩ : ∃ D1, w14.heap.size = D1 := ⟨_, rfl⟩
    have hD1B : w.heap.size ≤ D1 := by have := HW14.out.size hB; omega
    rw [hD1] at HW15 HD ⊢
    have d0 := h2.cell 0
    have d1 := h2.cell 1
    have d2 := h2.cell 2
    have d3 := h2.cell 3
    have d4 := h2.cell 4
    simp [Acc.cells, third, logL, logF, works01L] at d0 d1 d2 d3 d4
    have heq := eq_access3
    clear h1 h2 h3 hK hD1 hlt
    gi_wp2_with fail
    refine ⟨trivial, nodepth, ?_⟩
    refine (callsIn_wide.2 (num01 _ _)).mono ?_
    rintro e w' ⟨rfl, rfl⟩
    gi_wp2_with fail
    refine ⟨trivial, nodepth, ?_⟩
    refine (callsIn_wide.2 (num01 _ _)).mono ?_
    rintro e w' ⟨rfl, rfl⟩
    gi_wp2_with fail
    refine ⟨trivial, nodepth, ?_⟩
    refine (callsIn_wide.2 (num01 _ _)).mono ?_
    rintro e w' ⟨rfl, rfl⟩
    gi_wp2_with fail
    refine ⟨trivial, nodepth, ?_⟩
    refine (callsIn_wide.2 (num01 _ _)).mono ?_
    rintro e w' ⟨rfl, rfl⟩
    gi_wp2_with fail
    refine ⟨trivial, nodepth, ?_⟩
    refine (callsIn_wide.2 (HW15.out.Count 6 rfl)).mono ?_
    rintro e w' ⟨rfl, rfl⟩
    gi_wp2_with fail
    refine ⟨trivial, nodepth, ?_⟩
    refine (callsIn_wide.2 (num01 _ _)).mono ?_
    rintro e w' ⟨rfl, rfl⟩
    gi_wp2_with fail
    refine ⟨trivial, nodepth, ?_⟩
    refine (callsIn_wide.2 (num01 _ _)).mono ?_
    rintro e w' ⟨rfl, rfl⟩
    gi_wp2
    refine leave_marks (v := .bool true) [D1] _ ?_ (by simp) (by simp [results, go_sem]) ⟨rfl, ?_⟩
    · intro k hk
      simp only [List.mem_singleton] at hk
      rw [hk]; exact HD.out
    · exact shutAll_below _ _ _ _ (by simp; omega) HW15.out.below
theorem works01 (w : World) : Calls Try.prog 20 #[] w fun e w' => e = .returned (.bool true) ∧ Below w.heap.size w w' := (callsIn_wide (n := 0)).1 (works01_in 0 w)
end Go.Proofs.Ytegebecogbebaaa
