/-
  The reference of layer 13 (betrothalref13/ref.go): Purge.
-/
import Derived.Test.YtihmbgdkllmkaaaR13b
namespace Go.Proofs.Ytihmbgdkllmkaaa
open Go.RowKit Go.Shelf
set_option maxRecDepth 100000
set_option linter.unusedVariables false
set_option linter.unusedSimpArgs false

/-- What the reference's Purge tells. -/
def PurgedR (T : List Nat) (w : World) (P : World → Prop) (rs : List ME) (zs : List Int) (e : Ending) (w' : World) : Prop :=
  ∃ (a' : Option Addr) (cap' : Nat) (rs' : List ME), rs' = rs.filter (fun e => !decide (e.sync ∈ zs)) ∧ e = .returned (.tuple #[.agg #[.slice a' rs'.length cap'], .int .i64 ((rs.length : Int) - (rs'.length : Int))]) ∧ rs'.length ≤ cap' ∧ Grew T w P a' rs' w'
set_option maxHeartbeats 8000000 in
theorem Purge_ref (T : List Nat) (w : World) (P : World → Prop) (a za : Option Addr) (cap zc : Nat) (rs : List ME) (zs : List Int) (h : Led T w w [stillT P]) (hP : ∀ W, P W → EntsAt W a rs ∧ IntsAt W za zs) (hlen : rs.length ≤ 1048576) (hzl : zs.length ≤ 1048576) :
    Calls Try.prog 72 #[.agg #[.slice a rs.length cap], .slice za zs.length zc] w (PurgedR T w P rs zs) := by
  have HP := Lib.hid hP
  have HL0 := Lib.hid h
  obtain ⟨i0, hi0, iz0, iz1, iz2⟩ := info_parts info_ent
  clear h hP
  go_enter Try.func72, Try.ntmps72
  go_wp2_with fail
  refine wp_name ?_
  intro w1 hw1
  have HL1 := Lib.hid ((HL0.out.al3 hw1).rowSnil 27 7)
  simp only [List.nil_append, List.cons_append] at HL1
  obtain ⟨b6, hb6⟩ : ∃ b, w.heap.size + 1 + 1 = b := ⟨_, rfl⟩
  rw [hb6] at HL1 ⊢
  obtain ⟨b4, hb4⟩ : ∃ b, w.heap.size + 1 = b := ⟨_, rfl⟩
  rw [hb4] at HL1 ⊢
  obtain ⟨b2, hb2⟩ : ∃ b, w.heap.size = b := ⟨_, rfl⟩
  rw [hb2] at HL1 ⊢
  clear hw1 hb6 hb4 hb2 HL0
  go_loopw [7] (fun i wr => ∃ (j : Nat) (ol : List ME) (oa : Option Addr) (oc : Nat), i = .int .i64 (j : Int) ∧ j ≤ rs.length ∧ ol.length ≤ j ∧ Hid (ol = (rs.take j).filter (fun e => !decide (e.sync ∈ zs))) ∧
    Hid (Led T w wr [stillT P, box b2 54 #[.slice a rs.length cap], box b4 54 #[.slice none 0 0], box b6 54 #[.slice oa ol.length oc], rowT 27 7 (.slice oa ol.length oc) ol.length (entCells ol)])) (fun i _ => rs.length - (intOf i).toNat)
  case atStart => exact ⟨0, [], none, 0, rfl, Nat.zero_le _, Nat.le_refl _, by unfold Hid; simp, HL1⟩
  case round =>
    obtain ⟨j, ol, oa, oc, rfl, hj, hol, HF, HK⟩ := hrel
    clear HL1
    have hj0 : (0 : Int) ≤ (j : Int) := by omega
    obtain ⟨v0, vf, hl2, _, _⟩ := HK.out.c1 1 rfl
    by_cases hjl : j < rs.length
    · have hjl' : (j : Int) < (rs.length : Int) := by omega
      obtain ⟨b, o, rfl, hb, p0, p1, p2, p3, p4, p5, p6⟩ := (HP.out _ (HK.out.still 0 rfl)).1 j hjl
      have HE2 : Hid (∀ W, P W → b < W.heap.size ∧ EntAt W b (o + j * 7) rs[j]) := fun W hW => by
        obtain ⟨h2, h3⟩ := HP.out W hW
        obtain ⟨b', o', hbo, hb', he⟩ := h2 j hjl
        injection hbo with hbo
        injection hbo with h4 h5
        subst h4 h5
        exact ⟨hb', he⟩
      have HXT : Hid (rs.take (j + 1) = rs.take j ++ [rs[j]]) := by unfold Hid; simp
      generalize rs[j] = x at p0 p1 p2 p3 p4 p5 p6 HE2 HXT
      clear p0 p1 p2 p3 p4 p5 p6
      go_wp2_with fail
      go_loopw [8, 9] (fun g k wr => ∃ (m : Nat) (gb : Bool), k = .int .i64 (m : Int) ∧ g = .bool gb ∧ m ≤ zs.length ∧ Hid (gb = true ↔ x.sync ∈ zs.take m) ∧
        Hid (Led T w wr [stillT P, box b2 54 #[.slice (some ⟨b, o, none⟩) rs.length cap], box b4 54 #[.slice none 0 0], box b6 54 #[.slice oa ol.length oc], rowT 27 7 (.slice oa ol.length oc) ol.length (entCells ol)])) (fun _ k _ => zs.length - (intOf k).toNat)
      case atStart => exact ⟨0, false, rfl, rfl, Nat.zero_le _, by unfold Hid; simp, HK⟩
      case round =>
        obtain ⟨m, gb, rfl, rfl, hm, HG, HK2⟩ := hrel
        clear HK v0 vf hl2
        have hm0 : (0 : Int) ≤ (m : Int) := by omega
        obtain ⟨v0, vf, hl2, _, _⟩ := HK2.out.c1 1 rfl
        obtain ⟨hb2, p0, p1, p2, p3, p4, p5, p6⟩ := HE2.out _ (HK2.out.still 0 rfl)
        by_cases hml : m < zs.length
        · have hml' : (m : Int) < (zs.length : Int) := by omega
          obtain ⟨zb, zo, rfl, hzb, z0⟩ := (HP.out _ (HK2.out.still 0 rfl)).2 m hml
          have HZT : Hid (zs.take (m + 1) = zs.take m ++ [zs[m]]) := by unfold Hid; simp
          generalize zs[m] = z at z0 HZT
          go_wp2_with fail
          cases gb with
          | true =>
            go_quiet (fail)
            have HK3 := Lib.hid (HK2.out.drewN nq)
            have HG2 : Hid (true = true ↔ x.sync ∈ zs.take (m + 1)) := by unfold Hid; rw [HZT.out]; simp; exact .inl (HG.out.1 rfl)
            go_wp2
            go_roundw
            case rel => exact ⟨m + 1, true, by go_num, rfl, hml, HG2, HK3⟩
            case measure => simp [intOf]; omega
          | false =>
            have hng : x.sync ∉ zs.take m := fun h => (by have := HG.out.2 h; cases this)
            go_quiet (fail)
            have HK3 := Lib.hid (HK2.out.drewN nq)
            have HG2 : Hid ((z == x.sync) = true ↔ x.sync ∈ zs.take (m + 1)) := by unfold Hid; rw [HZT.out]; simp [hng]; exact eq_comm
            go_wp2
            go_roundw
            case rel => exact ⟨m + 1, z == x.sync, by go_num, rfl, hml, HG2, HK3⟩
            case measure => simp [intOf]; omega
        · have hml' : ¬ (m : Int) < (zs.length : Int) := by omega
          obtain rfl : m = zs.length := by omega
          rw [List.take_length] at HG
          cases gb with
          | true =>
            have HF2 : Hid (ol = (rs.take (j + 1)).filter (fun e => !decide (e.sync ∈ zs))) := by unfold Hid; rw [HXT.out, List.filter_append, ← HF.out]; simp [HG.out.1 rfl]
            go_wp2
            go_roundw
            case rel => exact ⟨j + 1, ol, oa, oc, by go_num, hjl, by omega, HF2, HK2⟩
            case measure => simp [intOf]; omega
          | false =>
            have hng : x.sync ∉ zs := fun h => (by have := HG.out.2 h; cases this)
            have HF2 : Hid (ol ++ [x] = (rs.take (j + 1)).filter (fun e => !decide (e.sync ∈ zs))) := by unfold Hid; rw [HXT.out, List.filter_append, ← HF.out]; simp [hng]
            obtain ⟨q0, qf, hl6, _, _⟩ := HK2.out.c1 3 rfl
            have HKx := Lib.hid (HK2.out.alloc 27 #[.int .i64 x.sync, .int .i64 x.thread, .int .i64 x.branch, .int .i64 x.flag, .int .i64 x.v.kind, .int .i64 x.v.num, .slice x.v.addr x.v.parts.length x.v.cap]).drew
            simp only [List.nil_append, List.cons_append] at HKx
            go_wp2_with fail
            go_region_law (first
              | (refine step_append_S _ rfl (.tmp 40) (.tmp 46) 32 rfl 27 i0 _ 7 72 Try.underlying32 hi0 iz0 iz1 iz2 rfl (by decide) (.slice oa ol.length oc) ol.length (entCells ol) (by first | rfl | simp [Act.eval, Act.put]) (HKx.out.rowSAt 4 rfl) (some ⟨wr.heap.size, 0, none⟩) 1 1 x.cells (by first | rfl | simp [Act.eval, Act.put]) rfl (.inr ⟨_, rfl, (HKx.out.box 5 rfl).src⟩) (cells_one x) (by simp only [maxLen]; omega) (by omega) ?_; intro a5 c5 w5 hown hgrow hat; have HL5 := Lib.hid (HKx.out.grownS 4 rfl hgrow hown hat); simp only [List.set_cons_succ, List.set_cons_zero] at HL5; clear hown hgrow hat v0 vf hl2 p0 p1 p2 p3 p4 p5 p6 q0 qf hl6; obtain ⟨q0, qf, hl6, _, _⟩ := HL5.out.c1 3 rfl))
            all_goals
              have HL6 : Hid (Led T w (w5.setCell ⟨b6, 0, none⟩ (.slice a5 (ol.length + 1) c5)) [stillT P, box b2 54 #[.slice (some ⟨b, o, none⟩) rs.length cap], box b4 54 #[.slice none 0 0], box b6 54 #[.slice a5 (ol ++ [x]).length c5], rowT 27 7 (.slice a5 (ol ++ [x]).length c5) (ol ++ [x]).length (entCells (ol ++ [x]))]) := by
                have h := HL5.out.set 3 rfl 0 (.slice a5 (ol.length + 1) c5)
                rw [entCells_append, show entCells [x] = x.cells from (by simp [entCells]), show (ol ++ [x]).length = ol.length + 1 from (by simp)]
                exact h.sel [0, 1, 2, 3, 4] rfl (by decide)
              clear HL5 HKx
              go_wp2
              go_roundw
              case rel => exact ⟨j + 1, ol ++ [x], a5, c5, by go_num, hjl, by simp; omega, HF2, HL6⟩
              case measure => simp [intOf]; omega
    · have hjl' : ¬ (j : Int) < (rs.length : Int) := by omega
      obtain rfl : j = rs.length := by omega
      rw [List.take_length] at HF
      obtain ⟨q0, qf, hl6, _, _⟩ := HK.out.c1 3 rfl
      obtain ⟨u0, uf, hl4, _, _⟩ := HK.out.c1 2 rfl
      have n1 := HK.out.ne 1 2 rfl rfl (by decide)
      have n2 := HK.out.ne 2 3 rfl rfl (by decide)
      have m1 := Ne.symm n1
      have m2 := Ne.symm n2
      go_wp2_with fail
      go_region_held3 (fun w' => w'.cell? ⟨b2, 0, none⟩ = some (.slice a rs.length cap) ∧ w'.cell? ⟨b6, 0, none⟩ = some (.slice oa ol.length oc)) (go_keep) (fail)
      have hwk : IntKind.i64.wrap ((rs.length : Int) - (ol.length : Int)) = (rs.length : Int) - (ol.length : Int) := IntWalk.i64_in _ (by omega)
      rw [hwk]
      go_wp2
      have HL6 := Lib.hid (HK.out.set 2 rfl 0 (.slice oa ol.length oc)).drew
      simp only [List.set_cons_succ, List.set_cons_zero, List.setIfInBounds_toArray] at HL6
      obtain ⟨s0, _⟩ := HL6.out.c1 2 rfl
      refine bodyPost_ret (v := .tuple #[.agg #[.slice oa ol.length oc], .int .i64 ((rs.length : Int) - (ol.length : Int))]) (by simp [results, Try.results72, go_sem, s0]) rfl ?_
      exact ⟨oa, oc, ol, HF.out, rfl, rowS_le (HL6.out.rowSAt 4 rfl), Grew.made (cap := oc) rfl (HL6.out.sel [0, 4] rfl (by decide))⟩
end Go.Proofs.Ytihmbgdkllmkaaa
