/-
  QueueFull (betrothallaw13/law.go): its walk: for every entry and every number it returns true, and nothing that was there has turned.
-/
import Derived.Test.YtihmbgdkllmkaaaQueueSameW
namespace Go.Proofs.Ytihmbgdkllmkaaa
open Go.RowKit Go.Shelf
set_option maxRecDepth 100000
set_option linter.unusedVariables false
set_option linter.unusedSimpArgs false

section
variable {T : List Nat} {w0 w w' : World} {l : List Thing} {g : Nat} {es : List ME}
theorem Led.qPush2 {vs : List MT} {xs : List ME} {a : Option Addr} {cap : Nat} (h : Led T w0 w l) (i j : Nat) (hi : l[i]? = some (queueT g es)) (hj : l[j]? = some (valsT vs)) (hij : i ≠ j) (hsrc : ∀ W, Beside l i W → Touch T w0 W → EntsAt W a xs ∧ ∀ x ∈ xs, x.v.In W) (hn : xs.length ≤ 1099511627776) (hes : es.length ≤ 4096) :
    Calls Try.prog 14 #[.pointer (some ⟨g, 0, none⟩), .slice a xs.length cap] w fun e w' => ∃ k err ys, e = .returned (.int .i64 err) ∧ PushR es.length (xs.map ME.plain) k err ∧ ys.map ME.plain = (xs.map ME.plain).take k ∧ Led T w0 w' ((l.set i (queueT g (es ++ ys))).set j (valsT (vs ++ ys.map ME.v))) := by
  obtain ⟨T', h1, hT', hk, hb⟩ := h.frameK i hi
  refine (Push_q T' w g es xs a cap h1 (fun W hW => hsrc W (hk W hW) (h.tch.trans hW hT')) hn hes).mono ?_
  rintro e w' ⟨k, err, ys, rfl, hR, hp, hL⟩
  refine ⟨k, err, ys, rfl, hR, hp, (hb _ _ _ hL).valsInto j ?_⟩
  rwa [List.getElem?_set_ne hij]
end
/-- So many zero entries, as a block. -/
def zeroEnts (m : Nat) : Array Value := (entCells (List.replicate m ME.zero)).toArray
theorem entZ_eq (m : Nat) : entZ m = zeroEnts m := by
  apply Array.ext
  · simp [entZ, madeCells, zeroEnts, entCells_length]
  · intro i h1 h2
    have hi : i < m * 7 := by simpa [entZ, madeCells] using h1
    have hg := entCells_get (List.replicate m ME.zero) (i / 7) (by simp; omega) (i % 7) (by omega)
    rw [show i / 7 * 7 + i % 7 = i by omega] at hg
    have : (zeroEnts m)[i]? = (ME.zero.cells)[i % 7]? := by
      simp only [zeroEnts, List.getElem?_toArray]
      rw [hg]
      simp
    rw [Array.getElem?_eq_getElem h2] at this
    have h3 : i % 7 = 0 ∨ i % 7 = 1 ∨ i % 7 = 2 ∨ i % 7 = 3 ∨ i % 7 = 4 ∨ i % 7 = 5 ∨ i % 7 = 6 := by omega
    simp only [entZ, madeCells, Array.getElem_ofFn]
    rcases h3 with h3 | h3 | h3 | h3 | h3 | h3 | h3 <;> simp [h3, ME.cells, ME.zero, MT.zero, MT.kind, MT.num, MT.sl, MT.addr, MT.parts, MT.cap] at this ⊢ <;> exact this.symm
theorem made_zents (m : Nat) (hm : m ≤ 1048576) (W : World) : (Instr.makeSlice 32 (.int .i64 (m : Int)) (.int .i64 (m : Int))).run Try.prog W =
    .ok (.slice (some ⟨W.heap.size, 0, none⟩) m m) (W.alloc (.cells (zeroEnts m) 27)) := by
  obtain ⟨i0, hi, iz0, iz1, iz2⟩ := info_parts info_ent
  have hr := run_make (P := Try.prog) W 32 27 i0 _ Try.underlying32 hi iz0 .i64 .i64 m m (by omega) (by omega) (by rw [iz2]; omega) (by omega)
  rw [iz1] at hr
  have he := entZ_eq m
  unfold entZ at he
  simpa [Value.cells, he] using hr
theorem idx_last {es : List PE} {s : Int} {p : PE} (h0 : ∀ e ∈ es, e.sync ≠ s) (hp : p.sync = s) : IdxR (fun e => e.sync = s) (es ++ [p]) 0 (es.length : Int) :=
  .inr ⟨es.length, by simp, rfl, by simp, by simpa using hp, fun i hi _ hlt => by
    rw [List.getElem_append_left hlt]; exact h0 _ (List.getElem_mem hlt)⟩
theorem idx_none {es : List PE} {s : Int} (h0 : ∀ e ∈ es, e.sync ≠ s) : IdxR (fun e => e.sync = s) es 0 (-1) := .inl ⟨rfl, fun j hj _ => h0 _ (List.getElem_mem hj)⟩
theorem PushR.full {x : PE} {xs : List PE} {k : Nat} {err : Int} (h : PushR 4096 (x :: xs) k err) (hx : x.Ok) : k = 0 ∧ err = 6 := by
  obtain ⟨h1, h2, h3, h4⟩ := h
  obtain rfl : k = 0 := by omega
  rcases h4 with h4 | ⟨hk, h4 | h4⟩
  · simp at h4
  · exact absurd hx h4.2
  · exact ⟨rfl, h4.1⟩
theorem PushR.one {x y : PE} {k : Nat} {err : Int} (h : PushR 4095 [x, y] k err) (hx : x.Ok) (hy : y.Ok) : k = 1 ∧ err = 6 := by
  obtain ⟨h1, h2, h3, h4⟩ := h
  have hk : k = 0 ∨ k = 1 := by omega
  rcases hk with rfl | rfl
  · rcases h4 with h4 | ⟨hk, h4 | h4⟩
    · simp at h4
    · exact absurd hx h4.2
    · omega
  · rcases h4 with h4 | ⟨hk, h4 | h4⟩
    · simp at h4
    · exact absurd hy h4.2
    · exact ⟨rfl, h4.1⟩
theorem zero_ok : ME.zero.plain.Ok := ⟨Int.le_refl 0, Int.le_refl 0, Int.le_refl 0, Int.le_refl 0, .inl rfl⟩
theorem ents_zeros {W : World} {c gl m k : Nat} (hk : k ≤ m) (h : ∃ f, (box gl c (zeroEnts m)).holds W f) : EntsAt W (some ⟨gl, 0, none⟩) (List.replicate k ME.zero) := by
  have h1 := ents_box (xs := List.replicate m ME.zero) rfl h
  intro i hi
  simp only [List.length_replicate] at hi
  obtain ⟨b, o, ha, hb, he⟩ := h1 i (by simp; omega)
  refine ⟨b, o, ha, hb, ?_⟩
  simpa using he

set_option maxHeartbeats 4000000 in
theorem queueFull_out (x : ME) (z : Int) (w : World) (hx : x.v.In w) (hnx : x.v.nodes ≤ 1048576) (h : z < 1 ∨ 5000 < z) :
    Calls Try.prog 3 #[x.val, .int .i64 z] w fun e w' => e = .returned (.bool true) ∧ Below w.heap.size w w' := by
  rcases h with h | h
  · simp only [ent_eq, val_eq] at ⊢
    have HT0 := Lib.hid ((Touch.refl [] w).alloc (.cells #[.int .i64 x.sync, .int .i64 x.thread, .int .i64 x.branch, .int .i64 x.flag, .int .i64 x.v.kind, .int .i64 x.v.num, .slice x.v.addr x.v.parts.length x.v.cap] 27))
    go_enter Try.func3, Try.ntmps3
    go_wp2_with fail
    refine (works13 _).mono ?_
    rintro e w9 ⟨rfl, ht⟩
    have HT2 := Lib.hid (HT0.out.trans' ht)
    clear ht
    go_wp2
    go_ret
    exact ⟨rfl, HT2.out.below⟩
  · have h' : ¬ z < 1 := by omega
    simp only [ent_eq, val_eq] at ⊢
    have HT0 := Lib.hid ((Touch.refl [] w).alloc (.cells #[.int .i64 x.sync, .int .i64 x.thread, .int .i64 x.branch, .int .i64 x.flag, .int .i64 x.v.kind, .int .i64 x.v.num, .slice x.v.addr x.v.parts.length x.v.cap] 27))
    go_enter Try.func3, Try.ntmps3
    go_wp2_with fail
    refine (works13 _).mono ?_
    rintro e w9 ⟨rfl, ht⟩
    have HT2 := Lib.hid (HT0.out.trans' ht)
    clear ht
    go_wp2
    go_ret
    exact ⟨rfl, HT2.out.below⟩
set_option maxHeartbeats 4000000 in
theorem queueFull_big (x : ME) (z : Int) (w : World) (hx : x.v.In w) (hnx : x.v.nodes ≤ 1048576) (h1 : 1 ≤ z) (h2 : z ≤ 5000) (hb : ¬ x.v.nodes ≤ 256) :
    Calls Try.prog 3 #[x.val, .int .i64 z] w fun e w' => e = .returned (.bool true) ∧ Below w.heap.size w w' := by
  have HSX := Lib.hid (fun W (hW : Touch [] w W) => Size_big x.v W (hx.touch0 hW) hnx hb)
  clear hx hnx hb
  simp only [val_eq] at HSX
  have z1 : w.heap.size < w.heap.size + 1 := by omega
  simp only [ent_eq, val_eq] at ⊢
  have HT0 := Lib.hid ((Touch.refl [] w).alloc (.cells #[.int .i64 x.sync, .int .i64 x.thread, .int .i64 x.branch, .int .i64 x.flag, .int .i64 x.v.kind, .int .i64 x.v.num, .slice x.v.addr x.v.parts.length x.v.cap] 27))
  go_enter Try.func3, Try.ntmps3
  go_wp2_with fail
  refine (HSX.out _ HT0.out).mono ?_
  rintro e w1 ⟨rfl, ht⟩
  have HT := Lib.hid (HT0.out.trans' ht)
  clear ht z1
  go_wp2_with fail
  refine (works13 _).mono ?_
  rintro e w9 ⟨rfl, ht⟩
  have HT2 := Lib.hid (HT.out.trans' ht)
  clear ht
  go_wp2
  go_ret
  exact ⟨rfl, HT2.out.below⟩
set_option maxHeartbeats 4000000 in
theorem queueFull_in (x : ME) (m : Nat) (w : World) (hx : x.v.In w) (h1 : 1 ≤ m) (h2 : m ≤ 5000) (hb : x.v.nodes ≤ 256) :
    Calls Try.prog 3 #[x.val, .int .i64 (m : Int)] w fun e w' => e = .returned (.bool true) ∧ Below w.heap.size w w' := by
  have HSX := Lib.hid (fun W (hW : Touch [] w W) => Size_small x.v W (hx.touch0 hW) hb)
  have HRX := Lib.hid (fun W (hW : Touch [] w W) => Right_ent x W (hx.touch0 hW) (by omega))
  have HIN := Lib.hid (fun W (hW : Touch [] w W) => hx.touch0 hW)
  have hb' : decide ((256 : Int) < (x.v.nodes : Int)) = false := by simp; omega
  have h1' : ¬ (m : Int) < 1 := by omega
  have h2' : ¬ (5000 : Int) < (m : Int) := by omega
  clear hx hb
  simp only [val_eq, ent_eq] at HSX HRX
  have z1 : w.heap.size < w.heap.size + 1 := by omega
  simp only [ent_eq, val_eq] at ⊢
  have HT0 := Lib.hid ((Touch.refl [] w).alloc (.cells #[.int .i64 x.sync, .int .i64 x.thread, .int .i64 x.branch, .int .i64 x.flag, .int .i64 x.v.kind, .int .i64 x.v.num, .slice x.v.addr x.v.parts.length x.v.cap] 27))
  go_enter Try.func3, Try.ntmps3
  go_wp2_with fail
  refine (HSX.out _ HT0.out).mono ?_
  rintro e w1 ⟨rfl, ht⟩
  have HL1 := Lib.hid (((Led.nil' w).al1 rfl).touch ht)
  simp only [List.nil_append] at HL1
  obtain ⟨bx, hbx⟩ : ∃ b, w.heap.size = b := ⟨_, rfl⟩
  rw [hbx] at HL1 ⊢
  clear ht z1 HT0 hbx
  go_wp2_with fail
  refine (New_q w1 HL1.out).mono ?_
  rintro e w2 ⟨g, rfl, hL⟩
  have HL2 := Lib.hid hL.vals0
  simp only [List.nil_append, List.cons_append] at HL2
  clear hL HL1
  have hmk := made_zents m (by omega)
  go_wp2_with fail
  refine wp_name ?_
  intro w3 hw3
  have HL3 := Lib.hid (HL2.out.al1 hw3)
  simp only [List.nil_append, List.cons_append] at HL3
  obtain ⟨gl, hgl⟩ : ∃ b, w2.heap.size = b := ⟨_, rfl⟩
  rw [hgl] at HL3 ⊢
  clear hw3 HL2 hgl hmk
  go_loopw [7] (fun i wr => ∃ (n : Nat) (es : List ME) (vs : List MT), i = .int .i64 (n : Int) ∧ n ≤ 9096 ∧ Hid (es.length = min n 4096) ∧ Hid (∀ e ∈ es.map ME.plain, e.sync = 0) ∧
    Hid (Led [] w wr [box bx 27 #[.int .i64 x.sync, .int .i64 x.thread, .int .i64 x.branch, .int .i64 x.flag, .int .i64 x.v.kind, .int .i64 x.v.num, .slice x.v.addr x.v.parts.length x.v.cap], queueT g es, valsT vs, box gl 27 (zeroEnts m)])) (fun i _ => 4096 - (intOf i).toNat)
  case atStart => exact ⟨0, [], [], rfl, by omega, rfl, by unfold Hid; simp, HL3⟩
  case round =>
    obtain ⟨n, es, vs, rfl, hn, HE, HS, HL⟩ := hrel
    by_cases hlt : n < 4096
    · have hlt' : (n : Int) < 4096 := by omega
      have hm1 : (1 : Int) ≤ (m : Int) := by omega
      by_cases hc : m ≤ 4096 - n
      · have hc' : (m : Int) ≤ 4096 - (n : Int) := by omega
        go_wp2_with fail
        have hps := HL.out.qPush2 (xs := List.replicate m ME.zero) (a := some ⟨gl, 0, none⟩) (cap := m) 1 2 rfl rfl (by decide) (fun W hW _ => ⟨ents_zeros (by omega) (hW 3 _ (by decide) rfl), fun x hx => by rw [List.eq_of_mem_replicate hx]; exact MT.in_zero W⟩) (by simp; omega) (by rw [HE.out]; omega)
        simp only [List.length_replicate] at hps
        refine hps.mono ?_
        clear hps
        rintro e w4 ⟨k, err, ys, rfl, hR, hp, hL⟩
        obtain ⟨rfl, rfl⟩ := hR.all (fun p hp => by simp at hp; rw [hp.2]; exact zero_ok) (by rw [HE.out]; simp; omega)
        have HL4 := Lib.hid hL
        simp only [List.set_cons_succ, List.set_cons_zero] at HL4
        have HYS : Hid ((es ++ ys).length = min (n + m) 4096) := by
          have h := congrArg List.length hp
          have h' := HE.out
          simp at h
          unfold Hid
          rw [List.length_append]
          omega
        have HSS : Hid (∀ e ∈ (es ++ ys).map ME.plain, e.sync = 0) := by
          intro e he
          rw [List.map_append, List.mem_append] at he
          rcases he with he | he
          · exact HS.out e he
          · rw [hp] at he
            have h2 := List.mem_of_mem_take he
            simp at h2
            rw [h2.2]; rfl
        clear hL hR hp HE HS
        go_wp2_with fail
        refine (num13 _ _).mono ?_
        rintro e w5 ⟨rfl, rfl⟩
        go_wp2_with fail
        go_roundw
        case rel => exact ⟨n + m, es ++ ys, _, by go_num, by omega, HYS, HSS, HL4⟩
        case measure => simp [intOf]; omega
      · have hc' : ¬ (m : Int) ≤ 4096 - (n : Int) := by omega
        have hcn : ((4096 : Int) - (n : Int)).toNat = 4096 - n := by omega
        go_wp2_with fail
        have hps := HL.out.qPush2 (xs := List.replicate (4096 - n) ME.zero) (a := some ⟨gl, 0, none⟩) (cap := m) 1 2 rfl rfl (by decide) (fun W hW _ => ⟨ents_zeros (by omega) (hW 3 _ (by decide) rfl), fun x hx => by rw [List.eq_of_mem_replicate hx]; exact MT.in_zero W⟩) (by simp; omega) (by rw [HE.out]; omega)
        simp only [List.length_replicate] at hps
        refine hps.mono ?_
        clear hps
        rintro e w4 ⟨k, err, ys, rfl, hR, hp, hL⟩
        obtain ⟨rfl, rfl⟩ := hR.all (fun p hp => by simp at hp; rw [hp.2]; exact zero_ok) (by rw [HE.out]; simp; omega)
        have HL4 := Lib.hid hL
        simp only [List.set_cons_succ, List.set_cons_zero] at HL4
        have HYS : Hid ((es ++ ys).length = min (n + m) 4096) := by
          have h := congrArg List.length hp
          have h' := HE.out
          simp at h
          unfold Hid
          rw [List.length_append]
          omega
        have HSS : Hid (∀ e ∈ (es ++ ys).map ME.plain, e.sync = 0) := by
          intro e he
          rw [List.map_append, List.mem_append] at he
          rcases he with he | he
          · exact HS.out e he
          · rw [hp] at he
            have h2 := List.mem_of_mem_take he
            simp at h2
            rw [h2.2]; rfl
        clear hL hR hp HE HS
        go_wp2_with fail
        refine (num13 _ _).mono ?_
        rintro e w5 ⟨rfl, rfl⟩
        go_wp2_with fail
        go_roundw
        case rel => exact ⟨n + m, es ++ ys, _, by go_num, by omega, HYS, HSS, HL4⟩
        case measure => simp [intOf]; omega
    · have hlt' : ¬ (n : Int) < 4096 := by omega
      obtain ⟨x0, x1, x2, x3, x4, x5, x6, _, z1, _, _⟩ := HL.out.c7 0 rfl
      have HEL : Hid (es.length = 4096) := by have := HE.out; unfold Hid; omega
      go_wp2_with fail
      refine ((HL.out.alloc _ _).qPush2 (xs := [x]) 1 2 rfl rfl (by decide) (fun W hW ht => ⟨ents_box rfl (hW 4 _ (by decide) rfl), fun y hy => by simp at hy; subst hy; exact HIN.out W ht⟩) (by simp) (by rw [HEL.out]; omega)).mono ?_
      rintro e w4 ⟨k, err, ys, rfl, hR, hp, hL⟩
      rw [HEL.out] at hR
      clear x0 x1 x2 x3 x4 x5 x6 z1
      by_cases hok : x.plain.Ok
      · obtain ⟨rfl, rfl⟩ := hR.full hok
        obtain rfl : ys = [] := by simpa using hp
        have HL4 := Lib.hid hL
        simp only [List.nil_append, List.cons_append, List.set_cons_succ, List.set_cons_zero, List.map_nil, List.append_nil] at HL4
        clear hL hR hp HL
        go_wp2_with fail
        refine (num13 _ _).mono ?_
        rintro e wn ⟨rfl, rfl⟩
        obtain ⟨x0, x1, x2, x3, x4, x5, x6, _, z1, _, _⟩ := HL4.out.c7 0 rfl
        go_wp2_with fail
        refine (HRX.out _ HL4.out.tch).mono ?_
        rintro e w5 ⟨cc, rfl, hcc, ht⟩
        obtain rfl : cc = true := hcc.2 hok
        have HL5 := Lib.hid (HL4.out.touch ht)
        clear hcc ht x0 x1 x2 x3 x4 x5 x6 z1 hok HL4
        go_wp2_with fail
        refine (of13 _ _ _).mono ?_
        rintro e w6 ⟨rfl, ht⟩
        have HL6 := Lib.hid (HL5.out.touch ht)
        clear ht HL5
        go_wp2_with fail
        refine (of13 _ _ _).mono ?_
        rintro e w7 ⟨rfl, ht⟩
        have HL7 := Lib.hid (HL6.out.touch ht)
        clear ht HL6
        go_wp2_with fail
        refine ((HL7.out.alloc _ _).qPush2 (xs := [ofE 1 1, ofE (-1) 1]) 1 2 rfl rfl (by decide) (fun W hW _ => ⟨ents_box rfl (hW 5 _ (by decide) rfl), fun x hx => by simp [ofE] at hx; rcases hx with rfl | rfl <;> exact MT.in_zero W⟩) (by decide) (by rw [HEL.out]; omega)).mono ?_
        rintro e w8 ⟨k, err, ys, rfl, hR, hp, hL⟩
        rw [HEL.out] at hR
        obtain ⟨rfl, rfl⟩ := hR.full (pOf_ok (by decide) (by decide))
        obtain rfl : ys = [] := by simpa using hp
        have HL8 := Lib.hid hL
        simp only [List.nil_append, List.cons_append, List.set_cons_succ, List.set_cons_zero, List.map_nil, List.append_nil] at HL8
        clear hL hR hp HL7
        go_wp2_with fail
        refine (num13 _ _).mono ?_
        rintro e wn ⟨rfl, rfl⟩
        go_wp2_with fail
        refine (HL8.out.qDrop 1 rfl 5 (by rw [HEL.out]; omega)).mono ?_
        rintro e w9 (⟨xd, _, hx, rfl, hL⟩ | ⟨hn, _⟩)
        rotate_left
        · exact absurd ⟨by decide, by rw [HEL.out]; decide⟩ hn
        have HL9 := Lib.hid hL
        simp only [List.set_cons_succ, List.set_cons_zero] at HL9
        have HL5' : Hid ((es.eraseIdx (5 : Int).toNat).length = 4095) := by unfold Hid; rw [List.length_eraseIdx_of_lt (by rw [HEL.out]; decide), HEL.out]
        have HS5 : Hid (∀ e ∈ (es.eraseIdx (5 : Int).toNat).map ME.plain, e.sync = 0) := fun e he => by
          obtain ⟨y, hy, rfl⟩ := List.mem_map.1 he
          exact HS.out _ (List.mem_map_of_mem (List.mem_of_mem_eraseIdx hy))
        generalize es.eraseIdx (5 : Int).toNat = fs at HL9 HL5' HS5
        clear hL hx HL8 HS HEL HE
        simp only [ent_eq]
        go_wp2_with fail
        refine (of13 _ _ _).mono ?_
        rintro e w10 ⟨rfl, ht⟩
        have HL10 := Lib.hid (HL9.out.touch ht)
        clear ht HL9
        go_wp2_with fail
        refine (of13 _ _ _).mono ?_
        rintro e w11 ⟨rfl, ht⟩
        have HL11 := Lib.hid (HL10.out.touch ht)
        clear ht HL10
        go_wp2_with fail
        refine ((HL11.out.alloc _ _).qPush2 (xs := [ofE 1 1, ofE 2 2]) 1 2 rfl rfl (by decide) (fun W hW _ => ⟨ents_box rfl (hW 6 _ (by decide) rfl), fun x hx => by simp [ofE] at hx; rcases hx with rfl | rfl <;> exact MT.in_zero W⟩) (by decide) (by rw [HL5'.out]; omega)).mono ?_
        rintro e w12 ⟨k, err, ys, rfl, hR, hp, hL⟩
        rw [HL5'.out] at hR
        obtain ⟨rfl, rfl⟩ := hR.one (pOf_ok (by decide) (by decide)) (pOf_ok (by decide) (by decide))
        have HL12 := Lib.hid hL
        simp only [List.nil_append, List.cons_append, List.set_cons_succ, List.set_cons_zero] at HL12
        have HM : Hid ((fs ++ ys).map ME.plain = fs.map ME.plain ++ [pOf 1 1]) := by unfold Hid; rw [List.map_append, hp]; rfl
        have HN : Hid (((fs ++ ys).length : Int) = 4096) := by
          have := congrArg List.length HM.out
          have h2 := HL5'.out
          simp at this
          unfold Hid
          rw [List.length_append]
          omega
        generalize fs ++ ys = gs at HL12 HM HN
        clear hL hR hp HL11
        go_wp2_with fail
        refine (num13 _ _).mono ?_
        rintro e wn ⟨rfl, rfl⟩
        go_wp2_with fail
        refine (Len_q w12 g _ (HL12.out.qAt 1 rfl)).mono ?_
        rintro e w' ⟨rfl, rfl⟩
        rw [HN.out]
        go_wp2_with fail
        refine (Find_q w12 g _ 1 (HL12.out.qAt 1 rfl)).mono ?_
        rintro e w13 ⟨r, rfl, hr, ht⟩
        rw [HM.out] at hr
        obtain rfl := hr.unique (idx_last (fun e he => by rw [HS5.out e he]; decide) rfl)
        have HL13 := Lib.hid (HL12.out.touch ht)
        clear hr ht HL12
        rw [List.length_map, HL5'.out]
        go_wp2_with fail
        refine (Find_q w13 g _ 2 (HL13.out.qAt 1 rfl)).mono ?_
        rintro e w14 ⟨r, rfl, hr, ht⟩
        rw [HM.out] at hr
        obtain rfl := hr.unique (idx_none (fun e he => by
          rcases List.mem_append.1 he with he | he
          · rw [HS5.out e he]; decide
          · simp at he; rw [he]; decide))
        have HL14 := Lib.hid (HL13.out.touch ht)
        clear hr ht HL13
        go_wp2_with fail
        refine (works13 _).mono ?_
        rintro e w15 ⟨rfl, ht⟩
        have HT2 := Lib.hid (HL14.out.tch.trans' ht)
        clear ht HL14
        go_wp2
        go_ret
        exact ⟨rfl, HT2.out.below⟩
      · obtain ⟨rfl, rfl⟩ := hR.bad hok
        obtain rfl : ys = [] := by simpa using hp
        have HL4 := Lib.hid hL
        simp only [List.nil_append, List.cons_append, List.set_cons_succ, List.set_cons_zero, List.map_nil, List.append_nil] at HL4
        clear hL hR hp HL
        go_wp2_with fail
        refine (num13 _ _).mono ?_
        rintro e wn ⟨rfl, rfl⟩
        obtain ⟨x0, x1, x2, x3, x4, x5, x6, _, z1, _, _⟩ := HL4.out.c7 0 rfl
        go_wp2_with fail
        refine (HRX.out _ HL4.out.tch).mono ?_
        rintro e w5 ⟨cc, rfl, hcc, ht⟩
        obtain rfl : cc = false := by cases cc with | false => rfl | true => exact absurd (hcc.1 rfl) hok
        have HL5 := Lib.hid (HL4.out.touch ht)
        clear hcc ht x0 x1 x2 x3 x4 x5 x6 z1 hok HL4
        go_wp2_with fail
        refine (of13 _ _ _).mono ?_
        rintro e w6 ⟨rfl, ht⟩
        have HL6 := Lib.hid (HL5.out.touch ht)
        clear ht HL5
        go_wp2_with fail
        refine (of13 _ _ _).mono ?_
        rintro e w7 ⟨rfl, ht⟩
        have HL7 := Lib.hid (HL6.out.touch ht)
        clear ht HL6
        go_wp2_with fail
        refine ((HL7.out.alloc _ _).qPush2 (xs := [ofE 1 1, ofE (-1) 1]) 1 2 rfl rfl (by decide) (fun W hW _ => ⟨ents_box rfl (hW 5 _ (by decide) rfl), fun x hx => by simp [ofE] at hx; rcases hx with rfl | rfl <;> exact MT.in_zero W⟩) (by decide) (by rw [HEL.out]; omega)).mono ?_
        rintro e w8 ⟨k, err, ys, rfl, hR, hp, hL⟩
        rw [HEL.out] at hR
        obtain ⟨rfl, rfl⟩ := hR.full (pOf_ok (by decide) (by decide))
        obtain rfl : ys = [] := by simpa using hp
        have HL8 := Lib.hid hL
        simp only [List.nil_append, List.cons_append, List.set_cons_succ, List.set_cons_zero, List.map_nil, List.append_nil] at HL8
        clear hL hR hp HL7
        go_wp2_with fail
        refine (num13 _ _).mono ?_
        rintro e wn ⟨rfl, rfl⟩
        go_wp2_with fail
        refine (HL8.out.qDrop 1 rfl 5 (by rw [HEL.out]; omega)).mono ?_
        rintro e w9 (⟨xd, _, hx, rfl, hL⟩ | ⟨hn, _⟩)
        rotate_left
        · exact absurd ⟨by decide, by rw [HEL.out]; decide⟩ hn
        have HL9 := Lib.hid hL
        simp only [List.set_cons_succ, List.set_cons_zero] at HL9
        have HL5' : Hid ((es.eraseIdx (5 : Int).toNat).length = 4095) := by unfold Hid; rw [List.length_eraseIdx_of_lt (by rw [HEL.out]; decide), HEL.out]
        have HS5 : Hid (∀ e ∈ (es.eraseIdx (5 : Int).toNat).map ME.plain, e.sync = 0) := fun e he => by
          obtain ⟨y, hy, rfl⟩ := List.mem_map.1 he
          exact HS.out _ (List.mem_map_of_mem (List.mem_of_mem_eraseIdx hy))
        generalize es.eraseIdx (5 : Int).toNat = fs at HL9 HL5' HS5
        clear hL hx HL8 HS HEL HE
        simp only [ent_eq]
        go_wp2_with fail
        refine (of13 _ _ _).mono ?_
        rintro e w10 ⟨rfl, ht⟩
        have HL10 := Lib.hid (HL9.out.touch ht)
        clear ht HL9
        go_wp2_with fail
        refine (of13 _ _ _).mono ?_
        rintro e w11 ⟨rfl, ht⟩
        have HL11 := Lib.hid (HL10.out.touch ht)
        clear ht HL10
        go_wp2_with fail
        refine ((HL11.out.alloc _ _).qPush2 (xs := [ofE 1 1, ofE 2 2]) 1 2 rfl rfl (by decide) (fun W hW _ => ⟨ents_box rfl (hW 6 _ (by decide) rfl), fun x hx => by simp [ofE] at hx; rcases hx with rfl | rfl <;> exact MT.in_zero W⟩) (by decide) (by rw [HL5'.out]; omega)).mono ?_
        rintro e w12 ⟨k, err, ys, rfl, hR, hp, hL⟩
        rw [HL5'.out] at hR
        obtain ⟨rfl, rfl⟩ := hR.one (pOf_ok (by decide) (by decide)) (pOf_ok (by decide) (by decide))
        have HL12 := Lib.hid hL
        simp only [List.nil_append, List.cons_append, List.set_cons_succ, List.set_cons_zero] at HL12
        have HM : Hid ((fs ++ ys).map ME.plain = fs.map ME.plain ++ [pOf 1 1]) := by unfold Hid; rw [List.map_append, hp]; rfl
        have HN : Hid (((fs ++ ys).length : Int) = 4096) := by
          have := congrArg List.length HM.out
          have h2 := HL5'.out
          simp at this
          unfold Hid
          rw [List.length_append]
          omega
        generalize fs ++ ys = gs at HL12 HM HN
        clear hL hR hp HL11
        go_wp2_with fail
        refine (num13 _ _).mono ?_
        rintro e wn ⟨rfl, rfl⟩
        go_wp2_with fail
        refine (Len_q w12 g _ (HL12.out.qAt 1 rfl)).mono ?_
        rintro e w' ⟨rfl, rfl⟩
        rw [HN.out]
        go_wp2_with fail
        refine (Find_q w12 g _ 1 (HL12.out.qAt 1 rfl)).mono ?_
        rintro e w13 ⟨r, rfl, hr, ht⟩
        rw [HM.out] at hr
        obtain rfl := hr.unique (idx_last (fun e he => by rw [HS5.out e he]; decide) rfl)
        have HL13 := Lib.hid (HL12.out.touch ht)
        clear hr ht HL12
        rw [List.length_map, HL5'.out]
        go_wp2_with fail
        refine (Find_q w13 g _ 2 (HL13.out.qAt 1 rfl)).mono ?_
        rintro e w14 ⟨r, rfl, hr, ht⟩
        rw [HM.out] at hr
        obtain rfl := hr.unique (idx_none (fun e he => by
          rcases List.mem_append.1 he with he | he
          · rw [HS5.out e he]; decide
          · simp at he; rw [he]; decide))
        have HL14 := Lib.hid (HL13.out.touch ht)
        clear hr ht HL13
        go_wp2_with fail
        refine (works13 _).mono ?_
        rintro e w15 ⟨rfl, ht⟩
        have HT2 := Lib.hid (HL14.out.tch.trans' ht)
        clear ht HL14
        go_wp2
        go_ret
        exact ⟨rfl, HT2.out.below⟩
theorem queueFull_any (x : ME) (z : Int) (w : World) (hx : x.v.In w) (hnx : x.v.nodes ≤ 1048576) :
    Calls Try.prog 3 #[x.val, .int .i64 z] w fun e w' => e = .returned (.bool true) ∧ Below w.heap.size w w' := by
  by_cases h : z < 1 ∨ 5000 < z
  · exact queueFull_out x z w hx hnx h
  · by_cases hb : x.v.nodes ≤ 256
    · obtain ⟨m, rfl⟩ := Int.eq_ofNat_of_zero_le (show 0 ≤ z by omega)
      exact queueFull_in x m w hx (by omega) (by omega) hb
    · exact queueFull_big x z w hx hnx (by omega) (by omega) hb
end Go.Proofs.Ytihmbgdkllmkaaa
