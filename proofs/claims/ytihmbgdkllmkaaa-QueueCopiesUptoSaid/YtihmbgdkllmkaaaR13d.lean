/-
  The reference of layer 13 (betrothalref13/ref.go): Drop.
-/
import Derived.Test.YtihmbgdkllmkaaaR13b
namespace Go.Proofs.Ytihmbgdkllmkaaa
open Go.RowKit Go.Shelf
set_option maxRecDepth 100000
set_option linter.unusedVariables false
set_option linter.unusedSimpArgs false

theorem add_addE (a : Addr) (i j : Nat) : (a.add i).add j = a.add (i + j) := by
  unfold Addr.add
  by_cases hi : i = 0 <;> by_cases hj : j = 0 <;> simp [hi, hj, Nat.add_assoc]
theorem EntsAt.src_from {w : World} {a sa : Option Addr} {rs : List ME} {lo k : Nat} (h : EntsAt w a rs) (hk : k = 7) (hs : rs.length = lo ∨ sa = a.map (·.add (lo * k))) : rs.length - lo = 0 ∨ ∃ ad, sa = some ad ∧ ∀ j u, ((entCells rs).drop (lo * 7))[j]? = some u → w.cell? (ad.add j) = some u := by
  subst hk
  rcases hs with hs | rfl
  · exact .inl (by omega)
  · rcases h.src with h0 | ⟨ad, rfl, hc⟩
    · exact .inl (by omega)
    · refine .inr ⟨ad.add (lo * 7), rfl, fun j u hu => ?_⟩
      rw [add_addE]
      rw [List.getElem?_drop] at hu
      exact hc _ _ hu
theorem EntsAt.src_to {w : World} {a : Option Addr} {rs : List ME} {k : Nat} (h : EntsAt w a rs) (hk : k ≤ rs.length) : k = 0 ∨ ∃ ad, a = some ad ∧ ∀ j u, ((entCells rs).take (k * 7))[j]? = some u → w.cell? (ad.add j) = some u := by
  rcases h.src with h0 | ⟨ad, rfl, hc⟩
  · exact .inl (by omega)
  · refine .inr ⟨ad, rfl, fun j u hu => hc j u ?_⟩
    rw [List.getElem?_take] at hu
    split at hu
    · exact hu
    · cases hu
/-- What the reference's Drop tells. -/
def DroppedR (T : List Nat) (w : World) (P : World → Prop) (rs : List ME) (i : Int) (e : Ending) (w' : World) : Prop :=
  ∃ (a' : Option Addr) (cap' : Nat) (rs' : List ME) (x : ME) (c : Bool), e = .returned (.tuple #[.agg #[.slice a' rs'.length cap'], x.val, .bool c]) ∧ rs'.length ≤ cap' ∧ AtRef rs i x c ∧ rs' = (if c = true then rs.eraseIdx i.toNat else rs) ∧ Grew T w P a' rs' w'
set_option maxHeartbeats 4000000 in
theorem Drop_ref (T : List Nat) (w : World) (P : World → Prop) (a : Option Addr) (cap : Nat) (rs : List ME) (i : Int) (hcap : rs.length ≤ cap) (h : Led T w w [stillT P]) (hP : ∀ W, P W → EntsAt W a rs) (hlen : rs.length ≤ 1048576) :
    Calls Try.prog 71 #[.agg #[.slice a rs.length cap], .int .i64 i] w (DroppedR T w P rs i) := by
  have HP := Lib.hid hP
  have HL0 := Lib.hid h
  have hbq := build_rq
  clear h hP
  go_enter Try.func71, Try.ntmps71
  go_wp2_with fail
  refine wp_calls_name ?_
  intro w1 hw1
  have HL1 := Lib.hid (HL0.out.al3 hw1)
  simp only [List.nil_append, List.cons_append] at HL1
  obtain ⟨b5, hb5⟩ : ∃ b, w.heap.size + 1 + 1 = b := ⟨_, rfl⟩
  rw [hb5] at HL1 ⊢
  obtain ⟨b4, hb4⟩ : ∃ b, w.heap.size + 1 = b := ⟨_, rfl⟩
  rw [hb4] at HL1 ⊢
  obtain ⟨b2, hb2⟩ : ∃ b, w.heap.size = b := ⟨_, rfl⟩
  rw [hb2] at HL1 ⊢
  clear hw1 hb5 hb4 hb2 HL0
  refine (At_ref w1 a cap rs i (HP.out _ (HL1.out.still 0 rfl))).mono ?_
  rintro e w2 ⟨x, cc, rfl, hR, ht⟩
  have HL2 := Lib.hid (HL1.out.touch ht)
  have HR := Lib.hid hR
  clear hR ht HL1
  simp only [ent_eq]
  obtain ⟨v0, _, hl2, _, _⟩ := HL2.out.c1 1 rfl
  go_upto_region 2 with fail
  refine wp_name ?_
  intro w3 hw3
  have HL3 := Lib.hid (HL2.out.al1 hw3)
  simp only [List.nil_append, List.cons_append] at HL3
  obtain ⟨b7, hb7⟩ : ∃ b, w2.heap.size = b := ⟨_, rfl⟩
  rw [hb7] at HL3 ⊢
  clear hw3 hb7 HL2 v0 hl2
  obtain ⟨v0, _, hl2, _, _⟩ := HL3.out.c1 1 rfl
  obtain ⟨u0, uf, hl4, _, _⟩ := HL3.out.c1 2 rfl
  obtain ⟨y0, y1, y2, y3, y4, y5, y6, ⟨fy0, fy1, fy2, fy3, fy4, fy5, fy6⟩, hl5, _, _⟩ := HL3.out.c7 3 rfl
  obtain ⟨x0, x1, x2, x3, x4, x5, x6, _, hl7, _, _⟩ := HL3.out.c7 4 rfl
  have n1 := HL3.out.ne 1 2 rfl rfl (by decide)
  have n2 := HL3.out.ne 1 3 rfl rfl (by decide)
  have n3 := HL3.out.ne 2 3 rfl rfl (by decide)
  have n4 := HL3.out.ne 2 4 rfl rfl (by decide)
  have n5 := HL3.out.ne 3 4 rfl rfl (by decide)
  have m1 := Ne.symm n1
  have m2 := Ne.symm n2
  have m3 := Ne.symm n3
  have m4 := Ne.symm n4
  have m5 := Ne.symm n5
  cases cc with
  | false =>
    go_wp2_with fail
    go_region_held3 (fun w' => w'.cell? ⟨b2, 0, none⟩ = some (.slice a rs.length cap) ∧ w'.cell? ⟨b7, 0, none⟩ = some (.int .i64 x.sync) ∧ w'.cell? ⟨b7, 1, none⟩ = some (.int .i64 x.thread) ∧ w'.cell? ⟨b7, 2, none⟩ = some (.int .i64 x.branch) ∧ w'.cell? ⟨b7, 3, none⟩ = some (.int .i64 x.flag) ∧ w'.cell? ⟨b7, 4, none⟩ = some (.int .i64 x.v.kind) ∧ w'.cell? ⟨b7, 5, none⟩ = some (.int .i64 x.v.num) ∧ w'.cell? ⟨b7, 6, none⟩ = some (.slice x.v.addr x.v.parts.length x.v.cap)) (go_keep) (fail)
    go_wp2
    have HF := Lib.hid (((HL3.out.set 2 rfl 0 (.slice a rs.length cap)).setEnt 3 rfl x.sync x.thread x.branch x.flag x.v.kind x.v.num (.slice x.v.addr x.v.parts.length x.v.cap)).drew)
    simp only [List.set_cons_succ, List.set_cons_zero, List.setIfInBounds_toArray] at HF
    obtain ⟨q0, _⟩ := HF.out.c1 2 rfl
    obtain ⟨s0, s1, s2, s3, s4, s5, s6, _⟩ := HF.out.c7 3 rfl
    refine bodyPost_ret (v := .tuple #[.agg #[.slice a rs.length cap], x.val, .bool false]) (by simp [results, Try.results71, go_sem, q0, s0, s1, s2, s3, s4, s5, s6, ent_eq]) rfl ?_
    exact ⟨a, cap, rs, x, false, rfl, hcap, HR.out, by simp, Grew.same HF.out HP.out⟩
  | true =>
    obtain ⟨hi0, hxi⟩ : 0 ≤ i ∧ rs[i.toNat]? = some x := by
      rcases HR.out with ⟨_, h1, h2⟩ | ⟨h, _⟩
      · exact ⟨h1, h2⟩
      · cases h
    obtain ⟨k, rfl⟩ := Int.eq_ofNat_of_zero_le hi0
    have hk : k < rs.length := (List.getElem?_eq_some_iff.1 hxi).1
    obtain ⟨i0, hi0', iz0, iz1, iz2⟩ := info_parts info_ent
    obtain ⟨sa, hsa, hsl2⟩ := run_slice_from Try.underlying32 hi0' a rs.length cap (k + 1) (by omega) hcap
    have hsl1 := fun W => run_slice_to Try.underlying32 hi0' a rs.length cap k (by omega) W
    have HSA := Lib.hid hsa
    clear hsa hxi hi0
    rw [show (((k + 1 : Nat)) : Int) = (k : Int) + 1 by omega] at hsl2
    have hwk : IntKind.i64.wrap ((k : Int) + 1) = (k : Int) + 1 := IntWalk.i64_in _ (by omega)
    have HLE := Lib.hid (HL3.out.empty 27 7).drew
    simp only [List.nil_append, List.cons_append] at HLE
    have HTL : Hid (((entCells rs).take (k * 7)).length = k * 7) := by unfold Hid; rw [List.length_take, entCells_length]; omega
    have HLN : Hid (((entCells rs).drop ((k + 1) * 7)).length = (rs.length - (k + 1)) * 7) := by
      unfold Hid
      rw [List.length_drop, entCells_length, Nat.sub_mul]
    go_wp2_with fail
    go_region_held3 (fun w' => w'.cell? ⟨b2, 0, none⟩ = some (.slice a rs.length cap) ∧ w'.cell? ⟨b7, 0, none⟩ = some (.int .i64 x.sync) ∧ w'.cell? ⟨b7, 1, none⟩ = some (.int .i64 x.thread) ∧ w'.cell? ⟨b7, 2, none⟩ = some (.int .i64 x.branch) ∧ w'.cell? ⟨b7, 3, none⟩ = some (.int .i64 x.flag) ∧ w'.cell? ⟨b7, 4, none⟩ = some (.int .i64 x.v.kind) ∧ w'.cell? ⟨b7, 5, none⟩ = some (.int .i64 x.v.num) ∧ w'.cell? ⟨b7, 6, none⟩ = some (.slice x.v.addr x.v.parts.length x.v.cap)) (go_keep) (first
      | (refine step_append_S _ (by rfl) (.tmp 19) (.tmp 23) 32 (by rfl) 27 i0 _ 7 72 Try.underlying32 hi0' iz0 iz1 iz2 rfl (by decide) (.slice (some ⟨w3.heap.size, 0, none⟩) 0 0) 0 [] (by rfl) (HLE.out.rowSAt 5 rfl) a k cap ((entCells rs).take (k * 7)) (by rfl) HTL.out ((HP.out _ (HLE.out.still 0 rfl)).src_to (by omega)) (fun u hu => ents_one rs u (List.mem_of_mem_take hu)) (by simp only [maxLen]; omega) (by omega) ?_; intro a8 c8 w8 hown hgrow hat; simp only [Nat.zero_add, List.nil_append] at hown hat ⊢; have HL8 := Lib.hid (HLE.out.grownS 5 rfl hgrow hown hat); simp only [List.set_cons_succ, List.set_cons_zero] at HL8; clear hown hgrow hat v0 hl2 u0 uf hl4 y0 y1 y2 y3 y4 y5 y6 fy0 fy1 fy2 fy3 fy4 fy5 fy6 hl5 x0 x1 x2 x3 x4 x5 x6 hl7; obtain ⟨v0, _, hl2, _, _⟩ := HL8.out.c1 1 rfl; obtain ⟨u0, uf, hl4, _, _⟩ := HL8.out.c1 2 rfl; obtain ⟨y0, y1, y2, y3, y4, y5, y6, ⟨fy0, fy1, fy2, fy3, fy4, fy5, fy6⟩, hl5, _, _⟩ := HL8.out.c7 3 rfl; obtain ⟨x0, x1, x2, x3, x4, x5, x6, _, hl7, _, _⟩ := HL8.out.c7 4 rfl)
      | (refine step_append_S _ (by rfl) (.tmp 24) (.tmp 29) 32 (by rfl) 27 i0 _ 7 72 Try.underlying32 hi0' iz0 iz1 iz2 rfl (by decide) (.slice a8 k c8) k ((entCells rs).take (k * 7)) (by rfl) (HL8.out.rowSAt 5 rfl) sa (rs.length - (k + 1)) (cap - (k + 1)) ((entCells rs).drop ((k + 1) * 7)) (by rfl) HLN.out ((HP.out _ (HL8.out.still 0 rfl)).src_from iz1 HSA.out) (fun u hu => ents_one rs u (List.mem_of_mem_drop hu)) (by simp only [maxLen]; omega) (by omega) ?_; intro a9 c9 w9 hown hgrow hat; have HL9 := Lib.hid (HL8.out.grownS 5 rfl hgrow hown hat); simp only [List.set_cons_succ, List.set_cons_zero] at HL9; clear hown hgrow hat v0 hl2 u0 uf hl4 y0 y1 y2 y3 y4 y5 y6 fy0 fy1 fy2 fy3 fy4 fy5 fy6 hl5 x0 x1 x2 x3 x4 x5 x6 hl7; obtain ⟨v0, _, hl2, _, _⟩ := HL9.out.c1 1 rfl; obtain ⟨u0, uf, hl4, _, _⟩ := HL9.out.c1 2 rfl; obtain ⟨y0, y1, y2, y3, y4, y5, y6, ⟨fy0, fy1, fy2, fy3, fy4, fy5, fy6⟩, hl5, _, _⟩ := HL9.out.c7 3 rfl; obtain ⟨x0, x1, x2, x3, x4, x5, x6, _, hl7, _, _⟩ := HL9.out.c7 4 rfl))
    have hel : k + (rs.length - (k + 1)) = (rs.eraseIdx k).length := by rw [List.length_eraseIdx_of_lt hk]; omega
    have hec : (entCells rs).take (k * 7) ++ (entCells rs).drop ((k + 1) * 7) = entCells (rs.eraseIdx k) := by rw [List.eraseIdx_eq_take_drop_succ, entCells_append, entCells_take, entCells_drop]
    go_wp2
    have HF := Lib.hid (((HL9.out.set 2 rfl 0 (.slice a9 (k + (rs.length - (k + 1))) c9)).setEnt 3 rfl x.sync x.thread x.branch x.flag x.v.kind x.v.num (.slice x.v.addr x.v.parts.length x.v.cap)))
    simp only [List.set_cons_succ, List.set_cons_zero, List.setIfInBounds_toArray] at HF
    obtain ⟨q0, _⟩ := HF.out.c1 2 rfl
    obtain ⟨s0, s1, s2, s3, s4, s5, s6, _⟩ := HF.out.c7 3 rfl
    refine bodyPost_ret (v := .tuple #[.agg #[.slice a9 (k + (rs.length - (k + 1))) c9], x.val, .bool true]) (by simp [results, Try.results71, go_sem, q0, s0, s1, s2, s3, s4, s5, s6, ent_eq]) rfl ?_
    refine ⟨a9, c9, rs.eraseIdx k, x, true, by rw [hel], ?_, HR.out, by simp, Grew.made (cap := c9) hel.symm ?_⟩
    · have := rowS_le (HF.out.rowSAt 5 rfl)
      rwa [hel] at this
    · rw [← hec]
      exact HF.out.sel [0, 5] rfl (by decide)
end Go.Proofs.Ytihmbgdkllmkaaa
