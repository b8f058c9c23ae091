/-
  The reference of layer 13 (betrothalref13/ref.go): Pushes.
-/
import Derived.Test.YtihmbgdkllmkaaaR13b
namespace Go.Proofs.Ytihmbgdkllmkaaa
open Go.RowKit Go.Shelf
set_option maxRecDepth 100000
set_option linter.unusedVariables false
set_option linter.unusedSimpArgs false

theorem Led.rPush {T : List Nat} {w0 w : World} {l : List Thing} {P : World → Prop} (h : Led T w0 w l) (j : Nat) (hj : l[j]? = some (stillT P)) (a : Option Addr) (cap : Nat) (rs : List ME) (x : ME) (hcap : rs.length ≤ cap) (hP : ∀ W, P W → EntsAt W a rs ∧ x.v.In W) (hnx : x.v.nodes ≤ 1048576) (hlen : rs.length ≤ 4096) :
    Calls Try.prog 107 #[.agg #[.slice a rs.length cap], x.val] w fun e w' => ∃ (err : Int) (a' : Option Addr) (cap' : Nat) (rs' : List ME), e = .returned (.tuple #[.agg #[.slice a' rs'.length cap'], .int .i64 err]) ∧ rs'.length ≤ cap' ∧ ((err = 2 ∧ ¬ x.plain.Ok ∧ rs' = rs) ∨ (err = 6 ∧ x.plain.Ok ∧ rs.length = 4096 ∧ rs' = rs) ∨ (err = 0 ∧ x.plain.Ok ∧ rs.length < 4096 ∧ rs' = rs ++ [x])) ∧
      ∃ P' : World → Prop, (∀ W, P' W → P W ∧ EntsAt W a' rs') ∧ Led T w0 w' (l.set j (stillT P')) := by
  obtain ⟨T', h1, hb⟩ := h.frame1 j hj
  refine (Push_ref T' w P a cap rs x hcap h1 hP hnx hlen).mono ?_
  rintro e w' ⟨err, a', cap', rs', rfl, hcp, hc, P', hP', hL⟩
  exact ⟨err, a', cap', rs', rfl, hcp, hc, P', hP', hb _ _ [] hL⟩
/-- What the reference's Pushes tells. -/
def PushedRs (T : List Nat) (w : World) (P : World → Prop) (rs xs : List ME) (e : Ending) (w' : World) : Prop :=
  ∃ (k : Nat) (err : Int) (a' : Option Addr) (cap' : Nat), e = .returned (.tuple #[.agg #[.slice a' (rs ++ xs.take k).length cap'], .int .i64 err]) ∧ (rs ++ xs.take k).length ≤ cap' ∧ PushR rs.length (xs.map ME.plain) k err ∧ Grew T w P a' (rs ++ xs.take k) w'
theorem PushR.unique {n : Nat} {xs : List PE} {k k' : Nat} {err err' : Int} (h : PushR n xs k err) (h' : PushR n xs k' err') : k = k' ∧ err = err' := by
  obtain ⟨h1, h2, h3, h4⟩ := h
  obtain ⟨g1, g2, g3, g4⟩ := h'
  have hk : k = k' := by
    rcases h4 with ⟨_, rfl⟩ | ⟨hlt, h4⟩
    · rcases g4 with ⟨_, rfl⟩ | ⟨glt, ⟨_, g⟩ | ⟨_, _, g⟩⟩
      · rfl
      · exact absurd (h1 k' glt glt) g
      · omega
    · rcases g4 with ⟨_, rfl⟩ | ⟨glt, g4⟩
      · rcases h4 with ⟨_, g⟩ | ⟨_, _, g⟩
        · exact absurd (g1 k hlt hlt) g
        · omega
      · by_cases h5 : k < k'
        · rcases h4 with ⟨_, g⟩ | ⟨_, _, g⟩
          · exact absurd (g1 k hlt h5) g
          · omega
        · by_cases h6 : k' < k
          · rcases g4 with ⟨_, g⟩ | ⟨_, _, g⟩
            · exact absurd (h1 k' glt h6) g
            · omega
          · omega
  subst hk
  refine ⟨rfl, ?_⟩
  rcases h4 with ⟨rfl, h5⟩ | ⟨hlt, ⟨rfl, h5⟩ | ⟨rfl, h5, _⟩⟩ <;> rcases g4 with ⟨rfl, g5⟩ | ⟨glt, ⟨rfl, g5⟩ | ⟨rfl, g5, _⟩⟩ <;> first | rfl | omega | exact absurd h5 g5 | exact absurd g5 h5
set_option maxHeartbeats 4000000 in
theorem Pushes_ref (T : List Nat) (w : World) (P : World → Prop) (a xa : Option Addr) (cap xc : Nat) (rs xs : List ME) (hcap : rs.length ≤ cap) (h : Led T w w [stillT P]) (hP : ∀ W, P W → EntsAt W a rs ∧ EntsAt W xa xs ∧ ∀ x ∈ xs, x.v.In W) (hnx : ∀ x ∈ xs, x.v.nodes ≤ 1048576) (hlen : rs.length ≤ 4096) (hxl : xs.length ≤ 1099511627776) :
    Calls Try.prog 70 #[.agg #[.slice a rs.length cap], .slice xa xs.length xc] w (PushedRs T w P rs xs) := by
  have HP := Lib.hid hP
  have HN := Lib.hid hnx
  have HL0 := Lib.hid h
  clear h hP hnx
  go_enter Try.func70, Try.ntmps70
  go_wp2_with fail
  refine wp_name ?_
  intro w1 hw1
  have HL1 := Lib.hid (HL0.out.al2 hw1)
  simp only [List.nil_append, List.cons_append] at HL1
  obtain ⟨b4, hb4⟩ : ∃ b, w.heap.size + 1 = b := ⟨_, rfl⟩
  rw [hb4] at HL1 ⊢
  obtain ⟨b2, hb2⟩ : ∃ b, w.heap.size = b := ⟨_, rfl⟩
  rw [hb2] at HL1 ⊢
  clear hw1 hb4 hb2 HL0
  go_loopw [6] (fun i wr => ∃ (j : Nat) (a' : Option Addr) (cap' : Nat) (P' : World → Prop), i = .int .i64 (j : Int) ∧ j ≤ xs.length ∧ rs.length + j ≤ 4096 ∧ rs.length + j ≤ cap' ∧ Hid (∀ i (h : i < (xs.map ME.plain).length), i < j → (xs.map ME.plain)[i].Ok) ∧ Hid (∀ W, P' W → P W ∧ EntsAt W a' (rs ++ xs.take j)) ∧
    Hid (Led T w wr [stillT P', box b2 54 #[.slice a' (rs.length + j) cap'], box b4 54 #[.slice none 0 0]])) (fun i _ => xs.length - (intOf i).toNat)
  case atStart => exact ⟨0, a, cap, P, rfl, Nat.zero_le _, by omega, by omega, by unfold Hid; intro i _ h; omega, by unfold Hid; intro W hW; exact ⟨hW, by simpa using (HP.out W hW).1⟩, HL1⟩
  case round =>
    obtain ⟨j, a1, cap1, P1, rfl, hj, hj2, hjc, HO, HPJ, HK⟩ := hrel
    clear HL1
    have hj0 : (0 : Int) ≤ (j : Int) := by omega
    have hlj : (rs ++ xs.take j).length = rs.length + j := by simp; omega
    obtain ⟨v0, vf, hl2, _, _⟩ := HK.out.c1 1 rfl
    obtain ⟨u0, uf, hl4, _, _⟩ := HK.out.c1 2 rfl
    by_cases hjl : j < xs.length
    · have hjl' : (j : Int) < (xs.length : Int) := by omega
      obtain ⟨b, o, rfl, hb, p0, p1, p2, p3, p4, p5, p6⟩ := (HP.out _ (HPJ.out _ (HK.out.still 0 rfl)).1).2.1 j hjl
      have HP2 : Hid (∀ W, P1 W → xs[j].v.In W ∧ EntAt W b (o + j * 7) xs[j]) := fun W hW => by
        obtain ⟨_, h2, h3⟩ := HP.out W (HPJ.out W hW).1
        obtain ⟨b', o', hbo, _, he⟩ := h2 j hjl
        injection hbo with hbo
        injection hbo with h4 h5
        subst h4 h5
        exact ⟨h3 _ (List.getElem_mem hjl), he⟩
      have HXN := Lib.hid (HN.out _ (List.getElem_mem hjl))
      have HXT : Hid (xs.take (j + 1) = xs.take j ++ [xs[j]]) := by unfold Hid; simp
      have HXJ : Hid ((xs.map ME.plain)[j]'(by simpa using hjl) = xs[j].plain) := by unfold Hid; simp
      generalize xs[j] = x at p0 p1 p2 p3 p4 p5 p6 HP2 HXN HXT HXJ
      have HPU : Hid (∀ rest W, Led T w W (stillT P1 :: rest) → Calls Try.prog 107 #[.agg #[.slice a1 (rs.length + j) cap1], x.val] W fun e w' => ∃ (err : Int) (a' : Option Addr) (cap' : Nat) (rs' : List ME), e = .returned (.tuple #[.agg #[.slice a' rs'.length cap'], .int .i64 err]) ∧ rs'.length ≤ cap' ∧ ((err = 2 ∧ ¬ x.plain.Ok ∧ rs' = rs ++ xs.take j) ∨ (err = 6 ∧ x.plain.Ok ∧ rs.length + j = 4096 ∧ rs' = rs ++ xs.take j) ∨ (err = 0 ∧ x.plain.Ok ∧ rs.length + j < 4096 ∧ rs' = rs ++ xs.take j ++ [x])) ∧
          ∃ P' : World → Prop, (∀ W, P' W → P1 W ∧ EntsAt W a' rs') ∧ Led T w w' (stillT P' :: rest)) := by
        intro rest W hW
        have h := hW.rPush 0 rfl a1 cap1 (rs ++ xs.take j) x (by omega) (fun W hW => ⟨(HPJ.out W hW).2, (HP2.out W hW).1⟩) HXN.out (by omega)
        rw [hlj] at h
        exact h
      simp only [ent_eq] at HPU
      have HKa := Lib.hid HK.out.drew
      have HKb := Lib.hid (HK.out.alloc 54 #[.slice none 0 0]).drew
      simp only [List.nil_append, List.cons_append] at HKb
      go_wp2_with fail
      go_region_held3 (fun w' => w'.cell? ⟨b2, 0, none⟩ = some (.slice a1 (rs.length + j) cap1) ∧ w'.cell? ⟨b, o + j * 7, none⟩ = some (.int .i64 x.sync) ∧ w'.cell? ⟨b, o + j * 7 + 1, none⟩ = some (.int .i64 x.thread) ∧ w'.cell? ⟨b, o + j * 7 + 2, none⟩ = some (.int .i64 x.branch) ∧ w'.cell? ⟨b, o + j * 7 + 3, none⟩ = some (.int .i64 x.flag) ∧ w'.cell? ⟨b, o + j * 7 + 4, none⟩ = some (.int .i64 x.v.kind) ∧ w'.cell? ⟨b, o + j * 7 + 5, none⟩ = some (.int .i64 x.v.num) ∧ w'.cell? ⟨b, o + j * 7 + 6, none⟩ = some (.slice x.v.addr x.v.parts.length x.v.cap)) (go_keep) (first
        | (go_at_call 107; refine (HPU.out _ _ HKa.out).mono ?_; rintro e w2 ⟨err, a', cap', rs', rfl, hcp, hc, P', hP', hL⟩; have HL2 := Lib.hid hL; have HC := Lib.hid hc; have HPP := Lib.hid hP'; clear hL hc hP' v0 hl2 p0 p1 p2 p3 p4 p5 p6; obtain ⟨v0, vf, hl2, _, _⟩ := HL2.out.c1 1 rfl; obtain ⟨p0, p1, p2, p3, p4, p5, p6⟩ := (HP2.out _ (HPP.out _ (HL2.out.still 0 rfl)).1).2; have zb : b < w2.heap.size := World.block_lt_of_cell? _ _ p0; have m1 : b2 ≠ w2.heap.size := (by omega); have m2 := Ne.symm m1; have m3 : b ≠ w2.heap.size := (by omega); have m4 := Ne.symm m3)
        | (go_at_call 107; refine (HPU.out _ _ HKb.out).mono ?_; rintro e w2 ⟨err, a', cap', rs', rfl, hcp, hc, P', hP', hL⟩; have HL2 := Lib.hid hL; have HC := Lib.hid hc; have HPP := Lib.hid hP'; clear hL hc hP' v0 hl2 p0 p1 p2 p3 p4 p5 p6; obtain ⟨v0, vf, hl2, _, _⟩ := HL2.out.c1 1 rfl; obtain ⟨p0, p1, p2, p3, p4, p5, p6⟩ := (HP2.out _ (HPP.out _ (HL2.out.still 0 rfl)).1).2; have zb : b < w2.heap.size := World.block_lt_of_cell? _ _ p0; obtain ⟨c0, cf, cl, _, _⟩ := HL2.out.c1 3 rfl; have m1 := HL2.out.ne 1 3 rfl rfl (by decide); have m2 := Ne.symm m1; have m3 : b ≠ wr.heap.size := (by omega); have m4 := Ne.symm m3))
      all_goals rename_i hHeld
      all_goals clear hHeld
      all_goals first
        | (have HL3 := Lib.hid (HL2.out.alloc 54 #[.slice a' rs'.length cap']); obtain ⟨w5, hw5⟩ : ∃ w5, w2.alloc (.cells #[.slice a' rs'.length cap'] 54) = w5 := ⟨_, rfl⟩; rw [hw5] at HL3 ⊢; obtain ⟨b7, hb7⟩ : ∃ b, w2.heap.size = b := ⟨_, rfl⟩; rw [hb7] at HL3 ⊢; clear hw5 hb7)
        | (have HL3 := Lib.hid (HL2.out.set 3 rfl 0 (.slice a' rs'.length cap')); obtain ⟨w5, hw5⟩ : ∃ w5, w2.setCell ⟨wr.heap.size, 0, none⟩ (.slice a' rs'.length cap') = w5 := ⟨_, rfl⟩; rw [hw5] at HL3 ⊢; obtain ⟨b7, hb7⟩ : ∃ b, wr.heap.size = b := ⟨_, rfl⟩; rw [hb7] at HL3 ⊢; clear hw5 hb7)
      all_goals
        simp only [List.nil_append, List.cons_append, List.set_cons_zero, List.set_cons_succ, List.setIfInBounds_toArray] at HL3
        clear HL2 v0 hl2 p0 p1 p2 p3 p4 p5 p6 HKa HKb HPU u0 uf hl4
        obtain ⟨v0, vf, hl2, _, _⟩ := HL3.out.c1 1 rfl
        obtain ⟨u0, uf, hl4, _, _⟩ := HL3.out.c1 2 rfl
        obtain ⟨o0, of, hl7, _, _⟩ := HL3.out.c1 3 rfl
        rcases HC.out with ⟨rfl, hok, rfl⟩ | ⟨rfl, hok, hfu, rfl⟩ | ⟨rfl, hok, hfu, rfl⟩
        · rw [hlj] at HL3
          clear HC
          go_wp2
          have HLF := Lib.hid (HL3.out.set 2 rfl 0 (.slice a1 (rs.length + j) cap1))
          simp only [List.set_cons_succ, List.set_cons_zero, List.setIfInBounds_toArray] at HLF
          obtain ⟨s0, _⟩ := HLF.out.c1 2 rfl
          refine bodyPost_ret (v := .tuple #[.agg #[.slice a1 (rs.length + j) cap1], .int .i64 2]) (by simp [results, Try.results70, go_sem, s0]) rfl ?_
          exact ⟨j, 2, a1, cap1, by rw [hlj], by omega, ⟨HO.out, by omega, by simp; omega, .inr ⟨by simp; omega, .inl ⟨rfl, by rw [HXJ.out]; exact hok⟩⟩⟩, P', fun W hW => HPJ.out W (HPP.out W hW).1, Led.sub_end (l := [_]) (m := [_, _, _]) HLF.out⟩
        · rw [hlj] at HL3
          clear HC
          have HFU := Lib.hid hfu
          clear hfu
          go_wp2
          have HLF := Lib.hid (HL3.out.set 2 rfl 0 (.slice a1 (rs.length + j) cap1))
          simp only [List.set_cons_succ, List.set_cons_zero, List.setIfInBounds_toArray] at HLF
          obtain ⟨s0, _⟩ := HLF.out.c1 2 rfl
          refine bodyPost_ret (v := .tuple #[.agg #[.slice a1 (rs.length + j) cap1], .int .i64 6]) (by simp [results, Try.results70, go_sem, s0]) rfl ?_
          exact ⟨j, 6, a1, cap1, by rw [hlj], by omega, ⟨HO.out, by omega, by simp; omega, .inr ⟨by simp; omega, .inr ⟨rfl, by rw [HXJ.out]; exact hok, HFU.out⟩⟩⟩, P', fun W hW => HPJ.out W (HPP.out W hW).1, Led.sub_end (l := [_]) (m := [_, _, _]) HLF.out⟩
        · have hlj2 : (rs ++ xs.take j ++ [x]).length = rs.length + (j + 1) := by simp; omega
          rw [hlj2] at HL3 o0
          rw [List.append_assoc, ← HXT.out] at HPP
          have HO2 : Hid (∀ i (h : i < (xs.map ME.plain).length), i < j + 1 → (xs.map ME.plain)[i].Ok) := by
            unfold Hid
            intro i h hi
            by_cases hij : i < j
            · exact HO.out i h hij
            · obtain rfl : i = j := by omega
              rw [HXJ.out]; exact hok
          clear HC
          rw [hlj2]
          have HLF : Hid (Led T w (w5.setCell ⟨b2, 0, none⟩ (.slice a' (rs.length + (j + 1)) cap')) [stillT P', box b2 54 #[.slice a' (rs.length + (j + 1)) cap'], box b4 54 #[.slice none 0 0]]) :=
            (HL3.out.set 1 rfl 0 (.slice a' (rs.length + (j + 1)) cap')).sel [0, 1, 2] rfl (by decide)
          go_wp2
          go_roundw
          case rel => exact ⟨j + 1, a', cap', P', by go_num, by omega, by omega, by omega, HO2, fun W hW => ⟨(HPJ.out W (HPP.out W hW).1).1, (HPP.out W hW).2⟩, HLF⟩
          case measure => simp [intOf]; omega
    · have hjl' : ¬ (j : Int) < (xs.length : Int) := by omega
      obtain rfl : j = xs.length := by omega
      go_wp2
      have HLF := Lib.hid (HK.out.set 2 rfl 0 (.slice a1 (rs.length + xs.length) cap1))
      simp only [List.set_cons_succ, List.set_cons_zero, List.setIfInBounds_toArray] at HLF
      obtain ⟨s0, _⟩ := HLF.out.c1 2 rfl
      refine bodyPost_ret (v := .tuple #[.agg #[.slice a1 (rs.length + xs.length) cap1], .int .i64 0]) (by simp [results, Try.results70, go_sem, s0]) rfl ?_
      exact ⟨xs.length, 0, a1, cap1, by rw [hlj], by omega, ⟨HO.out, by omega, by simp, .inl ⟨rfl, by simp⟩⟩, P1, HPJ.out, Led.sub_end (l := [_]) (m := [_, _]) HLF.out⟩
end Go.Proofs.Ytihmbgdkllmkaaa
