/-
  CondNone (betrothallaw15/law.go): its walk: for any entry it returns true, and nothing that was there has turned.
-/
import Derived.Test.YtihmbgdkllmkaaaCondN
import Derived.Test.YtihmbgdkllmkaaaFew15
import Derived.Deep.Cut
namespace Go.Proofs.Ytihmbgdkllmkaaa
open Go.RowKit Go.Shelf
set_option maxRecDepth 100000
set_option linter.unusedVariables false
set_option linter.unusedSimpArgs false

theorem build_act15 (s th br fl k n : Int) (v : Option Addr) (a b : Nat) (w : World) : (Instr.build 85 #[(1, .agg #[.int .i64 s, .int .i64 th, .int .i64 br, .int .i64 fl, .int .i64 k, .int .i64 n, .slice v a b])]).run Try.prog w = .ok (.agg #[.int .i64 0, .int .i64 s, .int .i64 th, .int .i64 br, .int .i64 fl, .int .i64 k, .int .i64 n, .slice v a b]) w := run_build w 85 _ _ (by kernel_rfl)
theorem build_cond0 (w : World) : (Instr.build 90 #[]).run Try.prog w = .ok (.agg #[.int .i64 0, .int .i64 0, .pointer none]) w := run_build w 90 _ _ (by kernel_rfl)
theorem CAs_one {w : World} {b : Nat} {x : ME} (h : Blk w b 85 #[.int .i64 0, .int .i64 x.sync, .int .i64 x.thread, .int .i64 x.branch, .int .i64 x.flag, .int .i64 x.v.kind, .int .i64 x.v.num, .slice x.v.addr x.v.parts.length x.v.cap]) : CAsAt w (some ⟨b, 0, none⟩) [⟨0, x⟩] := by
  intro i hi
  have : i = 0 := by simp at hi; omega
  subst this
  exact ⟨b, 0, rfl, h.lt, h.cell 0, h.cell 1, h.cell 2, h.cell 3, h.cell 4, h.cell 5, h.cell 6, h.cell 7⟩
set_option maxHeartbeats 4000000 in
theorem condNone_any (x : ME) (zero : Bool) (w : World) (hx : x.v.In w) (hnx : x.v.nodes ≤ 1048576) :
    Calls Try.prog 9 #[x.val, .bool zero] w fun e w' => e = .returned (.bool true) ∧ Below w.heap.size w w' := by
  have hbl := build_act15
  have hb0 := build_cond0
  have z1 : w.heap.size < w.heap.size + 1 := by omega
  rw [ent_eq]
  have hL0 := (Led.nil' w).al2 (c1 := #[.int .i64 x.sync, .int .i64 x.thread, .int .i64 x.branch, .int .i64 x.flag, .int .i64 x.v.kind, .int .i64 x.v.num, .slice x.v.addr x.v.parts.length x.v.cap]) (t1 := 27) (c2 := #[.int .i64 0, .int .i64 x.sync, .int .i64 x.thread, .int .i64 x.branch, .int .i64 x.flag, .int .i64 x.v.kind, .int .i64 x.v.num, .slice x.v.addr x.v.parts.length x.v.cap]) (t2 := 85) rfl
  simp only [List.nil_append] at hL0
  have HF := Lib.hid (few15 _ _ 1 [⟨0, x⟩] 1 (by simp) (CAs_one (hL0.box 1 rfl)) (fun y hy => by simp at hy; subst hy; exact ⟨hx.touch0 hL0.tch, hnx⟩))
  have HL0 := Lib.hid hL0
  clear hL0
  go_enter Try.func9, Try.ntmps9
  go_wp2_with fail
  refine HF.out.mono ?_
  rintro e w0 ⟨cc, rfl, hcc, ht⟩
  have HL1 := Lib.hid (HL0.out.touch ht)
  clear ht hcc HF HL0
  obtain ⟨be, hbe⟩ : ∃ b, w.heap.size = b := ⟨_, rfl⟩
  rw [hbe] at HL1 ⊢
  have HBE := Lib.hid hbe
  clear hbe z1
  cases cc
  · go_wp2_with fail
    refine (works15 _).mono ?_
    rintro e w9 ⟨rfl, ht⟩
    have HT := Lib.hid (HL1.out.tch.trans' ht)
    clear ht
    go_wp2
    go_ret
    exact ⟨rfl, HT.out.below⟩
  · cases zero
    · have hxe : EntAt w0 be 0 x := by obtain ⟨c0, c1, c2, c3, c4, c5, c6, _⟩ := HL1.out.c7 0 rfl; exact ⟨c0, c1, c2, c3, c4, c5, c6⟩
      have hnc : NoC w0 none := .inl rfl
      have htz := HL1.out.tch
      clear HL1
      generalize w0 = wz at hxe hnc htz ⊢
      have HNC := Lib.hid (fun W (hW : Touch [] wz W) => hnc.touch hW)
      have HXE := Lib.hid hxe
      have HTZ := Lib.hid htz
      clear hnc hxe htz
      go_wp2_with fail
      refine ((Led.nil' wz).arNew 3 (by omega) (by omega)).mono ?_
      rintro e w1 ⟨rfl, hh⟩
      have HL1 := Lib.hid hh
      simp only [List.nil_append] at HL1
      obtain ⟨g, hg⟩ : ∃ b, wz.heap.size = b := ⟨_, rfl⟩
      rw [hg] at HL1 ⊢
      clear hh hg
      go_wp2_with fail
      refine (HL1.out.new2 (by omega) 0 rfl).mono ?_
      rintro e w2 ⟨q, c, rfl, hL⟩
      have HL := Lib.hid hL
      simp only [List.set_cons_zero, List.cons_append, List.nil_append] at HL
      clear hL HL1
      go_wp2_with fail
      refine (NewC_nil _).mono ?_
      rintro e wn ⟨rfl, rfl⟩
      go_wp2_with fail
      refine (Lock_n _ _ (HNC.out _ HL.out.tch) _).mono ?_
      rintro e wn ⟨rfl, rfl⟩
      go_wp2_with fail
      refine (Lock_c _ _ _ _ _ (HL.out.condAt 3 rfl) none (fun w' => Touch [] w2 w') false 1 (fun W hW => (Try_none W none (.inl rfl) _).mono (fun e w' ⟨he, ht⟩ => ⟨he, hW.trans' ht⟩))).mono ?_
      rintro e w3 ⟨rfl, ht⟩
      have HLN := Lib.hid (HL.out.touch ht)
      clear ht HL
      have HL := Lib.hid HLN.out
      clear HLN
      go_wp2_with fail
      refine (Fired_n _ _ (HNC.out _ HL.out.tch) _).mono ?_
      rintro e wn ⟨rfl, rfl⟩
      go_wp2_with fail
      refine (Fired_c _ _ _ _ _ (HL.out.condAt 3 rfl) none (fun w' => Touch [] w3 w') 0 1 false rfl (fun W hW => (Load_none W none (.inl rfl) _).mono (fun e w' ⟨he, ht⟩ => ⟨he, ht ▸ hW⟩))).mono ?_
      rintro e w4 ⟨rfl, ht⟩
      have HLN := Lib.hid (HL.out.touch ht)
      clear ht HL
      have HL := Lib.hid HLN.out
      clear HLN
      go_wp2_with fail
      refine (Next_n _ _ (HNC.out _ HL.out.tch)).mono ?_
      rintro e w5 ⟨rfl, ht⟩
      have HLN := Lib.hid (HL.out.touch ht)
      clear ht HL
      have HL := Lib.hid HLN.out
      clear HLN
      rw [zero_val]
      go_wp2_with fail
      refine wp_calls_name ?_
      intro w6 hw6
      have HL6 := Lib.hid (HL.out.al1 hw6).sub_end
      clear hw6 HL
      have HL := Lib.hid HL6.out
      clear HL6
      refine (Cells_n _ _ (HNC.out _ HL.out.tch)).mono ?_
      rintro e wn ⟨rfl, rfl⟩
      go_wp2_with fail
      refine (num15 _ _).mono ?_
      rintro e wn ⟨rfl, rfl⟩
      go_wp2_with fail
      refine (num15 _ _).mono ?_
      rintro e wn ⟨rfl, rfl⟩
      go_wp2_with fail
      refine (num15 _ _).mono ?_
      rintro e wn ⟨rfl, rfl⟩
      go_wp2_with fail
      refine (num15 _ _).mono ?_
      rintro e wn ⟨rfl, rfl⟩
      go_wp2_with fail
      refine (num15 _ _).mono ?_
      rintro e wn ⟨rfl, rfl⟩
      go_wp2_with fail
      refine (num15 _ _).mono ?_
      rintro e wn ⟨rfl, rfl⟩
      go_wp2_with fail
      refine (num15 _ _).mono ?_
      rintro e wn ⟨rfl, rfl⟩
      go_wp2_with fail
      refine (Fire_n _ _ (HNC.out _ HL.out.tch) _).mono ?_
      rintro e wn ⟨rfl, rfl⟩
      go_wp2_with fail
      refine (num15 _ _).mono ?_
      rintro e wn ⟨rfl, rfl⟩
      go_wp2_with fail
      refine (Fire_c _ _ _ _ _ (HL.out.condAt 3 rfl) none (fun w' => Touch [] w6 w') 0 1 false 1 rfl (fun W hW => (Swap_none W none (.inl rfl) _ _ _).mono (fun e w' ⟨he, ht⟩ => ⟨he, hW.trans' ht⟩))).mono ?_
      rintro e w7 ⟨rfl, ht⟩
      have HLN := Lib.hid (HL.out.touch ht)
      clear ht HL
      have HL := Lib.hid HLN.out
      clear HLN
      go_wp2_with fail
      refine (num15 _ _).mono ?_
      rintro e wn ⟨rfl, rfl⟩
      go_wp2_with fail
      refine (Unlock_n _ _ (HNC.out _ HL.out.tch) _).mono ?_
      rintro e wn ⟨rfl, rfl⟩
      go_wp2_with fail
      refine (num15 _ _).mono ?_
      rintro e wn ⟨rfl, rfl⟩
      go_wp2_with fail
      refine (Unlock_c _ _ _ _ _ (HL.out.condAt 3 rfl) none (fun w' => Touch [] w7 w') 1 (fun W hW => (Free_none W none (.inl rfl) _).mono (fun e w' ⟨he, ht⟩ => ⟨he, hW.trans' ht⟩))).mono ?_
      rintro e w8 ⟨rfl, ht⟩
      have HLN := Lib.hid (HL.out.touch ht)
      clear ht HL
      have HL := Lib.hid HLN.out
      clear HLN
      go_wp2_with fail
      refine (num15 _ _).mono ?_
      rintro e wn ⟨rfl, rfl⟩
      obtain ⟨x0, x1, x2, x3, x4, x5, x6⟩ := HXE.out.touch HL.out.tch
      simp only [Nat.zero_add] at x1 x2 x3 x4 x5 x6
      have HWN := Lib.hid (Wait_n _ _ (HNC.out _ HL.out.tch) x)
      rw [ent_eq] at HWN
      go_wp2_with fail
      refine HWN.out.mono ?_
      rintro e w9 ⟨rfl, ht⟩
      have HLN := Lib.hid (HL.out.touch ht)
      clear ht HL HWN x0 x1 x2 x3 x4 x5 x6
      have HL := Lib.hid HLN.out
      clear HLN
      go_wp2_with fail
      refine (num15 _ _).mono ?_
      rintro e wn ⟨rfl, rfl⟩
      go_wp2_with fail
      refine (Len_n _ _ (HNC.out _ HL.out.tch)).mono ?_
      rintro e wn ⟨rfl, rfl⟩
      go_wp2_with fail
      refine (All_n _ _ (HNC.out _ HL.out.tch)).mono ?_
      rintro e wn ⟨rfl, rfl⟩
      go_wp2_with fail
      refine (over_none _).mono ?_
      rintro e w10 ⟨rfl, ht⟩
      have HLN := Lib.hid (HL.out.touch ht)
      clear ht HL
      have HL := Lib.hid HLN.out
      clear HLN
      go_wp2_with fail
      refine (Copy_n _ _ (HNC.out _ HL.out.tch)).mono ?_
      rintro e wn ⟨rfl, rfl⟩
      go_wp2_with fail
      refine (SameC_nil _ _ (HNC.out _ HL.out.tch)).mono ?_
      rintro e w11 ⟨rfl, ht⟩
      have HLN := Lib.hid (HL.out.touch ht)
      clear ht HL
      have HL := Lib.hid HLN.out
      clear HLN
      go_wp2_with fail
      refine (SameC_left _ _ (HNC.out _ HL.out.tch) _ _ _ _ (HL.out.condAt 3 rfl)).mono ?_
      rintro e w12 ⟨rfl, ht⟩
      have HLN := Lib.hid (HL.out.touch ht)
      clear ht HL
      have HL := Lib.hid HLN.out
      clear HLN
      go_wp2_with fail
      refine (works15 _).mono ?_
      rintro e w13 ⟨rfl, ht⟩
      have HLN := Lib.hid (HL.out.touch ht)
      clear ht HL
      have HL := Lib.hid HLN.out
      clear HLN
      go_wp2
      go_ret
      exact ⟨rfl, (HTZ.out.trans' HL.out.tch).below⟩
    · go_upto_region 6 with fail
      refine wp_name ?_
      intro wz hwz
      have HLZ := Lib.hid (HL1.out.al1 hwz)
      simp only [List.nil_append, List.cons_append] at HLZ
      have hxe : EntAt wz be 0 x := by obtain ⟨c0, c1, c2, c3, c4, c5, c6, _⟩ := HLZ.out.c7 0 rfl; exact ⟨c0, c1, c2, c3, c4, c5, c6⟩
      have hnc : NoC wz (some ⟨w0.heap.size, 0, none⟩) := .inr ⟨_, rfl, (HLZ.out.box 2 rfl).cell 2⟩
      have htz := HLZ.out.tch
      clear HL1 HLZ hwz
      have HNC := Lib.hid (fun W (hW : Touch [] wz W) => hnc.touch hW)
      have HXE := Lib.hid hxe
      have HTZ := Lib.hid htz
      clear hnc hxe htz
      go_wp2_with fail
      refine ((Led.nil' wz).arNew 3 (by omega) (by omega)).mono ?_
      rintro e w1 ⟨rfl, hh⟩
      have HL1 := Lib.hid hh
      simp only [List.nil_append] at HL1
      obtain ⟨g, hg⟩ : ∃ b, wz.heap.size = b := ⟨_, rfl⟩
      rw [hg] at HL1 ⊢
      clear hh hg
      go_wp2_with fail
      refine (HL1.out.new2 (by omega) 0 rfl).mono ?_
      rintro e w2 ⟨q, c, rfl, hL⟩
      have HL := Lib.hid hL
      simp only [List.set_cons_zero, List.cons_append, List.nil_append] at HL
      clear hL HL1
      go_wp2_with fail
      refine (NewC_nil _).mono ?_
      rintro e wn ⟨rfl, rfl⟩
      go_wp2_with fail
      refine (Lock_n _ _ (HNC.out _ HL.out.tch) _).mono ?_
      rintro e wn ⟨rfl, rfl⟩
      go_wp2_with fail
      refine (Lock_c _ _ _ _ _ (HL.out.condAt 3 rfl) none (fun w' => Touch [] w2 w') false 1 (fun W hW => (Try_none W none (.inl rfl) _).mono (fun e w' ⟨he, ht⟩ => ⟨he, hW.trans' ht⟩))).mono ?_
      rintro e w3 ⟨rfl, ht⟩
      have HLN := Lib.hid (HL.out.touch ht)
      clear ht HL
      have HL := Lib.hid HLN.out
      clear HLN
      go_wp2_with fail
      refine (Fired_n _ _ (HNC.out _ HL.out.tch) _).mono ?_
      rintro e wn ⟨rfl, rfl⟩
      go_wp2_with fail
      refine (Fired_c _ _ _ _ _ (HL.out.condAt 3 rfl) none (fun w' => Touch [] w3 w') 0 1 false rfl (fun W hW => (Load_none W none (.inl rfl) _).mono (fun e w' ⟨he, ht⟩ => ⟨he, ht ▸ hW⟩))).mono ?_
      rintro e w4 ⟨rfl, ht⟩
      have HLN := Lib.hid (HL.out.touch ht)
      clear ht HL
      have HL := Lib.hid HLN.out
      clear HLN
      go_wp2_with fail
      refine (Next_n _ _ (HNC.out _ HL.out.tch)).mono ?_
      rintro e w5 ⟨rfl, ht⟩
      have HLN := Lib.hid (HL.out.touch ht)
      clear ht HL
      have HL := Lib.hid HLN.out
      clear HLN
      rw [zero_val]
      go_wp2_with fail
      refine wp_calls_name ?_
      intro w6 hw6
      have HL6 := Lib.hid (HL.out.al1 hw6).sub_end
      clear hw6 HL
      have HL := Lib.hid HL6.out
      clear HL6
      refine (Cells_n _ _ (HNC.out _ HL.out.tch)).mono ?_
      rintro e wn ⟨rfl, rfl⟩
      go_wp2_with fail
      refine (num15 _ _).mono ?_
      rintro e wn ⟨rfl, rfl⟩
      go_wp2_with fail
      refine (num15 _ _).mono ?_
      rintro e wn ⟨rfl, rfl⟩
      go_wp2_with fail
      refine (num15 _ _).mono ?_
      rintro e wn ⟨rfl, rfl⟩
      go_wp2_with fail
      refine (num15 _ _).mono ?_
      rintro e wn ⟨rfl, rfl⟩
      go_wp2_with fail
      refine (num15 _ _).mono ?_
      rintro e wn ⟨rfl, rfl⟩
      go_wp2_with fail
      refine (num15 _ _).mono ?_
      rintro e wn ⟨rfl, rfl⟩
      go_wp2_with fail
      refine (num15 _ _).mono ?_
      rintro e wn ⟨rfl, rfl⟩
      go_wp2_with fail
      refine (Fire_n _ _ (HNC.out _ HL.out.tch) _).mono ?_
      rintro e wn ⟨rfl, rfl⟩
      go_wp2_with fail
      refine (num15 _ _).mono ?_
      rintro e wn ⟨rfl, rfl⟩
      go_wp2_with fail
      refine (Fire_c _ _ _ _ _ (HL.out.condAt 3 rfl) none (fun w' => Touch [] w6 w') 0 1 false 1 rfl (fun W hW => (Swap_none W none (.inl rfl) _ _ _).mono (fun e w' ⟨he, ht⟩ => ⟨he, hW.trans' ht⟩))).mono ?_
      rintro e w7 ⟨rfl, ht⟩
      have HLN := Lib.hid (HL.out.touch ht)
      clear ht HL
      have HL := Lib.hid HLN.out
      clear HLN
      go_wp2_with fail
      refine (num15 _ _).mono ?_
      rintro e wn ⟨rfl, rfl⟩
      go_wp2_with fail
      refine (Unlock_n _ _ (HNC.out _ HL.out.tch) _).mono ?_
      rintro e wn ⟨rfl, rfl⟩
      go_wp2_with fail
      refine (num15 _ _).mono ?_
      rintro e wn ⟨rfl, rfl⟩
      go_wp2_with fail
      refine (Unlock_c _ _ _ _ _ (HL.out.condAt 3 rfl) none (fun w' => Touch [] w7 w') 1 (fun W hW => (Free_none W none (.inl rfl) _).mono (fun e w' ⟨he, ht⟩ => ⟨he, hW.trans' ht⟩))).mono ?_
      rintro e w8 ⟨rfl, ht⟩
      have HLN := Lib.hid (HL.out.touch ht)
      clear ht HL
      have HL := Lib.hid HLN.out
      clear HLN
      go_wp2_with fail
      refine (num15 _ _).mono ?_
      rintro e wn ⟨rfl, rfl⟩
      obtain ⟨x0, x1, x2, x3, x4, x5, x6⟩ := HXE.out.touch HL.out.tch
      simp only [Nat.zero_add] at x1 x2 x3 x4 x5 x6
      have HWN := Lib.hid (Wait_n _ _ (HNC.out _ HL.out.tch) x)
      rw [ent_eq] at HWN
      go_wp2_with fail
      refine HWN.out.mono ?_
      rintro e w9 ⟨rfl, ht⟩
      have HLN := Lib.hid (HL.out.touch ht)
      clear ht HL HWN x0 x1 x2 x3 x4 x5 x6
      have HL := Lib.hid HLN.out
      clear HLN
      go_wp2_with fail
      refine (num15 _ _).mono ?_
      rintro e wn ⟨rfl, rfl⟩
      go_wp2_with fail
      refine (Len_n _ _ (HNC.out _ HL.out.tch)).mono ?_
      rintro e wn ⟨rfl, rfl⟩
      go_wp2_with fail
      refine (All_n _ _ (HNC.out _ HL.out.tch)).mono ?_
      rintro e wn ⟨rfl, rfl⟩
      go_wp2_with fail
      refine (over_none _).mono ?_
      rintro e w10 ⟨rfl, ht⟩
      have HLN := Lib.hid (HL.out.touch ht)
      clear ht HL
      have HL := Lib.hid HLN.out
      clear HLN
      go_wp2_with fail
      refine (Copy_n _ _ (HNC.out _ HL.out.tch)).mono ?_
      rintro e wn ⟨rfl, rfl⟩
      go_wp2_with fail
      refine (SameC_nil _ _ (HNC.out _ HL.out.tch)).mono ?_
      rintro e w11 ⟨rfl, ht⟩
      have HLN := Lib.hid (HL.out.touch ht)
      clear ht HL
      have HL := Lib.hid HLN.out
      clear HLN
      go_wp2_with fail
      refine (SameC_left _ _ (HNC.out _ HL.out.tch) _ _ _ _ (HL.out.condAt 3 rfl)).mono ?_
      rintro e w12 ⟨rfl, ht⟩
      have HLN := Lib.hid (HL.out.touch ht)
      clear ht HL
      have HL := Lib.hid HLN.out
      clear HLN
      go_wp2_with fail
      refine (works15 _).mono ?_
      rintro e w13 ⟨rfl, ht⟩
      have HLN := Lib.hid (HL.out.touch ht)
      clear ht HL
      have HL := Lib.hid HLN.out
      clear HLN
      go_wp2
      go_ret
      exact ⟨rfl, (HTZ.out.trans' HL.out.tch).below⟩
end Go.Proofs.Ytihmbgdkllmkaaa
