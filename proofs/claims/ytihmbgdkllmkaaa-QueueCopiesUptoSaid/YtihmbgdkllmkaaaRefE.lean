/-
  The reference of layer 13 (betrothalref13/ref.go): SameEntry, Right.
-/
import Derived.Test.YtihmbgdkllmkaaaQ1b
namespace Go.Proofs.Ytihmbgdkllmkaaa
open Go.RowKit Go.Shelf
set_option maxRecDepth 100000
set_option linter.unusedVariables false
set_option linter.unusedSimpArgs false

set_option maxHeartbeats 2000000 in
theorem SameEntry_ref (x y : ME) (w : World) (hx : x.v.In w) (hy : y.v.In w) (hnx : x.v.nodes ≤ 1048576) (hny : y.v.nodes ≤ 1048576) : Calls Try.prog 21 #[x.val, y.val] w (Tells (x.v.nodes ≤ 256 ∧ y.v.nodes ≤ 256 ∧ x.plain = y.plain) w) := by
  by_cases hsync : x.sync = y.sync
  rotate_left
  · have hne : (x.sync == y.sync) = false := by simpa using hsync
    have HC := Lib.hid (fun W (hW : Touch [] w W) => Same_ref x.v y.v W (hx.touch0 hW) (hy.touch0 hW) hnx hny)
    clear hx hy hnx hny
    simp only [ent_eq, val_eq] at HC ⊢
    have z1 : w.heap.size < w.heap.size + 1 := by omega
    have z2 : w.heap.size < w.heap.size + 1 + 1 := by omega
    go_enter Try.func21, Try.ntmps21
    go_wp2
    go_ret
    exact Tells.no (fun h => hsync ((PE.eq_iff x y).1 h.2.2).1.1) (((Touch.refl [] w).alloc _).alloc _)
  by_cases hthread : x.thread = y.thread
  rotate_left
  · have hne : (x.thread == y.thread) = false := by simpa using hthread
    have HC := Lib.hid (fun W (hW : Touch [] w W) => Same_ref x.v y.v W (hx.touch0 hW) (hy.touch0 hW) hnx hny)
    clear hx hy hnx hny
    simp only [ent_eq, val_eq] at HC ⊢
    have z1 : w.heap.size < w.heap.size + 1 := by omega
    have z2 : w.heap.size < w.heap.size + 1 + 1 := by omega
    go_enter Try.func21, Try.ntmps21
    go_wp2
    go_ret
    exact Tells.no (fun h => hthread ((PE.eq_iff x y).1 h.2.2).1.2.1) (((Touch.refl [] w).alloc _).alloc _)
  by_cases hbranch : x.branch = y.branch
  rotate_left
  · have hne : (x.branch == y.branch) = false := by simpa using hbranch
    have HC := Lib.hid (fun W (hW : Touch [] w W) => Same_ref x.v y.v W (hx.touch0 hW) (hy.touch0 hW) hnx hny)
    clear hx hy hnx hny
    simp only [ent_eq, val_eq] at HC ⊢
    have z1 : w.heap.size < w.heap.size + 1 := by omega
    have z2 : w.heap.size < w.heap.size + 1 + 1 := by omega
    go_enter Try.func21, Try.ntmps21
    go_wp2
    go_ret
    exact Tells.no (fun h => hbranch ((PE.eq_iff x y).1 h.2.2).1.2.2.1) (((Touch.refl [] w).alloc _).alloc _)
  by_cases hflag : x.flag = y.flag
  rotate_left
  · have hne : (x.flag == y.flag) = false := by simpa using hflag
    have HC := Lib.hid (fun W (hW : Touch [] w W) => Same_ref x.v y.v W (hx.touch0 hW) (hy.touch0 hW) hnx hny)
    clear hx hy hnx hny
    simp only [ent_eq, val_eq] at HC ⊢
    have z1 : w.heap.size < w.heap.size + 1 := by omega
    have z2 : w.heap.size < w.heap.size + 1 + 1 := by omega
    go_enter Try.func21, Try.ntmps21
    go_wp2
    go_ret
    exact Tells.no (fun h => hflag ((PE.eq_iff x y).1 h.2.2).1.2.2.2) (((Touch.refl [] w).alloc _).alloc _)
  have e0 : (x.sync == y.sync) = true := by simpa using hsync
  have e1 : (x.thread == y.thread) = true := by simpa using hthread
  have e2 : (x.branch == y.branch) = true := by simpa using hbranch
  have e3 : (x.flag == y.flag) = true := by simpa using hflag
  have HEQ : Hid (x.sync = y.sync ∧ x.thread = y.thread ∧ x.branch = y.branch ∧ x.flag = y.flag) := ⟨hsync, hthread, hbranch, hflag⟩
  clear hsync hthread hbranch hflag
  have HC := Lib.hid (fun W (hW : Touch [] w W) => Same_ref x.v y.v W (hx.touch0 hW) (hy.touch0 hW) hnx hny)
  clear hx hy hnx hny
  simp only [ent_eq, val_eq] at HC ⊢
  have z1 : w.heap.size < w.heap.size + 1 := by omega
  have z2 : w.heap.size < w.heap.size + 1 + 1 := by omega
  go_enter Try.func21, Try.ntmps21
  go_wp2_with fail
  refine (HC.out _ (((Touch.refl [] w).alloc _).alloc _)).mono ?_
  rintro en w2 ⟨cc, rfl, hcc, ht⟩
  have HT := Lib.hid ((((Touch.refl [] w).alloc _).alloc _).trans' ht)
  have HCC := Lib.hid hcc
  clear ht hcc
  go_wp2
  go_ret
  refine ⟨_, rfl, ?_, HT.out⟩
  rw [HCC.out, PE.eq_iff]
  simp [HEQ.out]

set_option maxHeartbeats 2000000 in
theorem Right_ent (x : ME) (w : World) (hx : x.v.In w) (hnx : x.v.nodes ≤ 1048576) : Calls Try.prog 16 #[x.val] w (Tells x.plain.Ok w) := by
  by_cases hz : x.v.kind = 0 ∧ x.v.num = 0 ∧ x.v.parts.length = 0
  · have e0 : (x.v.kind == 0) = true := by simpa using hz.1
    have e1 : (x.v.num == 0) = true := by simpa using hz.2.1
    have e2 : ((x.v.parts.length : Int) == 0) = true := by simpa using hz.2.2
    have HZ := Lib.hid hz
    clear hz
    have HC := Lib.hid (fun W (hW : Touch [] w W) => Right_ref x.v W (hx.touch0 hW) hnx)
    have HPL := Lib.hid (MT.plain_eq x.v)
    clear hx hnx
    simp only [ent_eq, val_eq] at HC ⊢
    have z1 : w.heap.size < w.heap.size + 1 := by omega
    go_enter Try.func16, Try.ntmps16
    go_wp2
    all_goals go_ret
    all_goals refine ⟨_, rfl, ?_, (Touch.refl [] w).alloc _⟩
    all_goals simp only [PE.Ok, ME.plain]
    all_goals rw [HPL.out]
    all_goals have e3 : (MT.PT.mk x.v.kind x.v.num (x.v.parts.map MT.plain) = MT.PT.mk 0 0 []) := by have h := HZ.out; simp at h; simp [h]
    all_goals simp only [e3, true_or, and_true]
    all_goals first | (simp; omega) | simp [*]
  · have HZ := Lib.hid hz
    have hz1 : ¬ (x.v.kind = 0 ∧ x.v.num = 0 ∧ (x.v.parts.length : Int) = 0) := by omega
    by_cases h0 : x.sync < 0
    · have HC := Lib.hid (fun W (hW : Touch [] w W) => Right_ref x.v W (hx.touch0 hW) hnx)
      have HPL := Lib.hid (MT.plain_eq x.v)
      clear hx hnx
      simp only [ent_eq, val_eq] at HC ⊢
      have z1 : w.heap.size < w.heap.size + 1 := by omega
      go_enter Try.func16, Try.ntmps16
      go_wp2
      all_goals go_ret
      all_goals exact Tells.no (fun h => by have := h.1; simp only [ME.plain] at this; omega) ((Touch.refl [] w).alloc _)
    by_cases h1 : x.thread < 0
    · have HC := Lib.hid (fun W (hW : Touch [] w W) => Right_ref x.v W (hx.touch0 hW) hnx)
      have HPL := Lib.hid (MT.plain_eq x.v)
      clear hx hnx
      simp only [ent_eq, val_eq] at HC ⊢
      have z1 : w.heap.size < w.heap.size + 1 := by omega
      go_enter Try.func16, Try.ntmps16
      go_wp2
      all_goals go_ret
      all_goals exact Tells.no (fun h => by have := h.2.1; simp only [ME.plain] at this; omega) ((Touch.refl [] w).alloc _)
    by_cases h2 : x.branch < 0
    · have HC := Lib.hid (fun W (hW : Touch [] w W) => Right_ref x.v W (hx.touch0 hW) hnx)
      have HPL := Lib.hid (MT.plain_eq x.v)
      clear hx hnx
      simp only [ent_eq, val_eq] at HC ⊢
      have z1 : w.heap.size < w.heap.size + 1 := by omega
      go_enter Try.func16, Try.ntmps16
      go_wp2
      all_goals go_ret
      all_goals exact Tells.no (fun h => by have := h.2.2.1; simp only [ME.plain] at this; omega) ((Touch.refl [] w).alloc _)
    by_cases h3 : x.flag < 0
    · have HC := Lib.hid (fun W (hW : Touch [] w W) => Right_ref x.v W (hx.touch0 hW) hnx)
      have HPL := Lib.hid (MT.plain_eq x.v)
      clear hx hnx
      simp only [ent_eq, val_eq] at HC ⊢
      have z1 : w.heap.size < w.heap.size + 1 := by omega
      go_enter Try.func16, Try.ntmps16
      go_wp2
      all_goals go_ret
      all_goals exact Tells.no (fun h => by have := h.2.2.2.1; simp only [ME.plain] at this; omega) ((Touch.refl [] w).alloc _)
    have HNN : Hid (0 ≤ x.sync ∧ 0 ≤ x.thread ∧ 0 ≤ x.branch ∧ 0 ≤ x.flag) := ⟨by omega, by omega, by omega, by omega⟩
    clear hz hz1
    by_cases hk : x.v.kind = 0
    · have e0 : (x.v.kind == 0) = true := by simpa using hk
      by_cases hn : x.v.num = 0
      · have e1 : (x.v.num == 0) = true := by simpa using hn
        have e2 : ((x.v.parts.length : Int) == 0) = false := by
          have : ¬ (x.v.parts.length : Int) = 0 := fun h => HZ.out ⟨hk, hn, by omega⟩
          simpa using this
        clear hk hn
        have HC := Lib.hid (fun W (hW : Touch [] w W) => Right_ref x.v W (hx.touch0 hW) hnx)
        have HPL := Lib.hid (MT.plain_eq x.v)
        clear hx hnx
        simp only [ent_eq, val_eq] at HC ⊢
        have z1 : w.heap.size < w.heap.size + 1 := by omega
        go_enter Try.func16, Try.ntmps16
        go_wp2_with fail
        refine (HC.out _ ((Touch.refl [] w).alloc _)).mono ?_
        rintro en w2 ⟨cc, rfl, hcc, ht⟩
        have HT := Lib.hid (((Touch.refl [] w).alloc _).trans' ht)
        have HCC := Lib.hid hcc
        clear ht hcc
        go_wp2
        go_ret
        refine ⟨_, rfl, ?_, HT.out⟩
        rw [HCC.out]
        simp only [PE.Ok, ME.plain]
        have hnn := HNN.out
        have hno : ¬ x.v.plain = MT.PT.mk 0 0 [] := fun h => by
          rw [HPL.out] at h
          simp at h
          exact HZ.out ⟨h.1, h.2.1, by simp [h.2.2]⟩
        simp [hnn, hno]
      · have e1 : (x.v.num == 0) = false := by simpa using hn
        clear hk hn
        have HC := Lib.hid (fun W (hW : Touch [] w W) => Right_ref x.v W (hx.touch0 hW) hnx)
        have HPL := Lib.hid (MT.plain_eq x.v)
        clear hx hnx
        simp only [ent_eq, val_eq] at HC ⊢
        have z1 : w.heap.size < w.heap.size + 1 := by omega
        go_enter Try.func16, Try.ntmps16
        go_wp2_with fail
        refine (HC.out _ ((Touch.refl [] w).alloc _)).mono ?_
        rintro en w2 ⟨cc, rfl, hcc, ht⟩
        have HT := Lib.hid (((Touch.refl [] w).alloc _).trans' ht)
        have HCC := Lib.hid hcc
        clear ht hcc
        go_wp2
        go_ret
        refine ⟨_, rfl, ?_, HT.out⟩
        rw [HCC.out]
        simp only [PE.Ok, ME.plain]
        have hnn := HNN.out
        have hno : ¬ x.v.plain = MT.PT.mk 0 0 [] := fun h => by
          rw [HPL.out] at h
          simp at h
          exact HZ.out ⟨h.1, h.2.1, by simp [h.2.2]⟩
        simp [hnn, hno]
    · have e0 : (x.v.kind == 0) = false := by simpa using hk
      clear hk
      have HC := Lib.hid (fun W (hW : Touch [] w W) => Right_ref x.v W (hx.touch0 hW) hnx)
      have HPL := Lib.hid (MT.plain_eq x.v)
      clear hx hnx
      simp only [ent_eq, val_eq] at HC ⊢
      have z1 : w.heap.size < w.heap.size + 1 := by omega
      go_enter Try.func16, Try.ntmps16
      go_wp2_with fail
      refine (HC.out _ ((Touch.refl [] w).alloc _)).mono ?_
      rintro en w2 ⟨cc, rfl, hcc, ht⟩
      have HT := Lib.hid (((Touch.refl [] w).alloc _).trans' ht)
      have HCC := Lib.hid hcc
      clear ht hcc
      go_wp2
      go_ret
      refine ⟨_, rfl, ?_, HT.out⟩
      rw [HCC.out]
      simp only [PE.Ok, ME.plain]
      have hnn := HNN.out
      have hno : ¬ x.v.plain = MT.PT.mk 0 0 [] := fun h => by
        rw [HPL.out] at h
        simp at h
        exact HZ.out ⟨h.1, h.2.1, by simp [h.2.2]⟩
      simp [hnn, hno]
end Go.Proofs.Ytihmbgdkllmkaaa
