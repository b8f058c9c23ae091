/-
  Layer 13: At, Len, Drop (queue.go).
-/
import Derived.Test.YtihmbgdkllmkaaaQ2
namespace Go.Proofs.Ytihmbgdkllmkaaa
open Go.RowKit Go.Shelf
set_option maxRecDepth 100000
set_option linter.unusedVariables false
set_option linter.unusedSimpArgs false

/-- A queue lies at g. -/
def QAt (w : World) (g : Nat) (es : List ME) : Prop := ∃ a cap, Blk w g 67 #[.bool true, .slice a es.length cap] ∧ es.length ≤ cap ∧ cap ≤ maxLen ∧ rowS w 27 7 (.slice a es.length cap) es.length (entCells es)
theorem Led.qAt {T : List Nat} {w0 w : World} {l : List Thing} {g : Nat} {es : List ME} (h : Led T w0 w l) (i : Nat) (hi : l[i]? = some (queueT g es)) : QAt w g es := h.q0 i hi
theorem QAt.touch {w w' : World} {g : Nat} {es : List ME} (h : QAt w g es) (ht : Touch [] w w') : QAt w' g es := by
  obtain ⟨a, cap, h1, h2, h3, h4⟩ := h
  exact ⟨a, cap, h1.touch ht (by simp), h2, h3, rowS_keep h4 (fun k hk => ht.block k (rowS_lt h4 k hk) (by simp))⟩

theorem Len_q (w : World) (g : Nat) (es : List ME) (h : QAt w g es) : Calls Try.prog 19 #[.pointer (some ⟨g, 0, none⟩)] w fun e w' => e = .returned (.int .i64 (es.length : Int)) ∧ w = w' := by
  obtain ⟨a, cap, hb, _, _, _⟩ := h
  have q0 := hb.cell 0
  have q1 := hb.cell 1
  simp at q0 q1
  go_enter Try.func19, Try.ntmps19
  go_wp2_with fail
  refine (none_no g w q0).mono ?_
  rintro e w' ⟨rfl, rfl⟩
  go_wp2_with fail
  refine (count_q g _ _ _ w q1).mono ?_
  rintro e w' ⟨rfl, rfl⟩
  go_wp2
  go_ret
  exact ⟨rfl, rfl⟩

theorem Led.setEnt {T : List Nat} {w0 w : World} {l : List Thing} (h : Led T w0 w l) (i : Nat) {b t : Nat} {y0 y1 y2 y3 y4 y5 y6 : Value} (hi : l[i]? = some (Proofs.Ytihmbgdkllmkaaa.box b t #[y0, y1, y2, y3, y4, y5, y6])) (s th br f k n : Int) (v : Value) :
    Led T w0 (((((((w.setCell ⟨b, 0, none⟩ (.int .i64 s)).setCell ⟨b, 1, none⟩ (.int .i64 th)).setCell ⟨b, 2, none⟩ (.int .i64 br)).setCell ⟨b, 3, none⟩ (.int .i64 f)).setCell ⟨b, 4, none⟩ (.int .i64 k)).setCell ⟨b, 5, none⟩ (.int .i64 n)).setCell ⟨b, 6, none⟩ v)
      (l.set i (Proofs.Ytihmbgdkllmkaaa.box b t #[.int .i64 s, .int .i64 th, .int .i64 br, .int .i64 f, .int .i64 k, .int .i64 n, v])) := by
  have hl := (List.getElem?_eq_some_iff.1 hi).1
  have e : ∀ (l : List Thing) (t1 t2 : Thing), (l.set i t1).set i t2 = l.set i t2 := fun l t1 t2 => List.set_set t1
  have g : ∀ (t1 : Thing), (l.set i t1)[i]? = some t1 := fun t1 => List.getElem?_set_self hl
  have h1 := h.set i hi 0 (.int .i64 s)
  have h2 := h1.set i (g _) 1 (.int .i64 th)
  rw [e] at h2
  have h3 := h2.set i (g _) 2 (.int .i64 br)
  rw [e] at h3
  have h4 := h3.set i (g _) 3 (.int .i64 f)
  rw [e] at h4
  have h5 := h4.set i (g _) 4 (.int .i64 k)
  rw [e] at h5
  have h6 := h5.set i (g _) 5 (.int .i64 n)
  rw [e] at h6
  have h7 := h6.set i (g _) 6 v
  rw [e] at h7
  simp only [List.setIfInBounds_toArray, List.set_cons_zero, List.set_cons_succ] at h7
  exact h7
/-- Entry i of some, if there is one. -/
def AtR (es : List PE) (i : Int) (x : ME) (c : Bool) : Prop := (c = true ∧ 0 ≤ i ∧ es[i.toNat]? = some x.plain) ∨ (c = false ∧ ¬ (0 ≤ i ∧ i < (es.length : Int)) ∧ x = ME.zero)
def AtTold (es : List PE) (i : Int) (w : World) (e : Ending) (w' : World) : Prop := ∃ x c, e = .returned (.tuple #[x.val, .bool c]) ∧ AtR es i x c ∧ x.v.In w' ∧ (∀ k ∈ x.v.blocks, w.heap.size ≤ k) ∧ Touch [] w w'
theorem build_ent (w : World) : (Instr.build 27 #[]).run Try.prog w = .ok ME.zero.val w := run_build w 27 _ _ (by kernel_rfl)
set_option maxHeartbeats 2000000 in
theorem At_q (w : World) (g : Nat) (es : List ME) (i : Int) (h : QAt w g es) (hin : ∀ e ∈ es, e.v.In w ∧ e.v.nodes ≤ 256) : Calls Try.prog 31 #[.pointer (some ⟨g, 0, none⟩), .int .i64 i] w (AtTold (es.map ME.plain) i w) := by
  have HIN := Lib.hid hin
  clear hin
  obtain ⟨a, cap, hb, hc1, hc2, hr⟩ := h
  have HQ : Hid (∀ W, Touch [] w W → W.cell? ⟨g, 0, none⟩ = some (.bool true) ∧ W.cell? ⟨g, 1, none⟩ = some (.slice a es.length cap) ∧ g < W.heap.size) := fun W hW => ⟨hW.cellOf (hb.cell 0), hW.cellOf (hb.cell 1), Nat.lt_of_lt_of_le hb.lt hW.size⟩
  have hbe := build_ent
  simp only [ent_eq, ME.zero, MT.zero, MT.kind, MT.num, MT.addr, MT.parts, MT.cap, List.length_nil] at hbe
  go_enter Try.func31, Try.ntmps31
  go_wp2_with fail
  refine wp_calls_name ?_
  intro w1 hw1
  have HL1 := Lib.hid ((Led.nil' w).al1 hw1)
  simp only [List.nil_append, List.cons_append] at HL1
  obtain ⟨b4, hb4⟩ : ∃ b, w.heap.size = b := ⟨_, rfl⟩
  rw [hb4] at HL1 ⊢
  clear hb4 hw1
  obtain ⟨q0, q1, zq⟩ := HQ.out w1 HL1.out.tch
  refine (none_no g w1 q0).mono ?_
  rintro e w' ⟨rfl, rfl⟩
  go_wp2_with fail
  refine (has_q g _ _ _ i w1 q1).mono ?_
  rintro e w' ⟨⟨cc, rfl, hcc⟩, rfl⟩
  have HCC := Lib.hid hcc
  clear hcc
  obtain ⟨r0, r1, r2, r3, r4, r5, r6, ⟨f0, f1, f2, f3, f4, f5, f6⟩, zr, _, _⟩ := HL1.out.c7 0 rfl
  cases cc with
  | false =>
    go_wp2
    have HL2 := Lib.hid (HL1.out.setEnt 0 rfl 0 0 0 0 0 0 (.slice none 0 0))
    simp only [List.set_cons_zero] at HL2
    obtain ⟨s0, s1, s2, s3, s4, s5, s6, _⟩ := HL2.out.c7 0 rfl
    refine bodyPost_ret (v := .tuple #[ME.zero.val, .bool false]) (by simp [results, Try.results31, go_sem, s0, s1, s2, s3, s4, s5, s6, ent_eq, ME.zero, MT.zero, MT.kind, MT.num, MT.addr, MT.parts, MT.cap]) rfl ?_
    refine ⟨ME.zero, false, rfl, .inr ⟨rfl, fun hx => ?_, rfl⟩, MT.in_zero _, by simp [ME.zero, MT.zero, MT.blocks, MT.blocksAll], HL2.out.tch⟩
    have := HCC.out.2 (by simpa using hx)
    cases this
  | true =>
    obtain ⟨hi1, hi2⟩ := HCC.out.1 (by simp)
    obtain ⟨k, rfl⟩ := Int.eq_ofNat_of_zero_le hi1
    have hk : k < es.length := by omega
    obtain ⟨b, o, rfl, hbb, p0, p1, p2, p3, p4, p5, p6⟩ := (ents_of_rowS hr).touch HL1.out.tch k hk
    have HI := Lib.hid (HIN.out _ (List.getElem_mem hk))
    have HXJ : Hid ((es.map ME.plain)[k]? = some es[k].plain) := by unfold Hid; simp [hk]
    generalize es[k] = x at p0 p1 p2 p3 p4 p5 p6 HI HXJ
    go_wp2_with fail
    refine (copyEntry_q x w1 (HI.out.1.touch0 HL1.out.tch) HI.out.2).mono ?_
    rintro e w4 ⟨x', rfl, hpl, hxin, hnew, ht⟩
    have HL4 := Lib.hid (HL1.out.valsNew (vs := [x'.v]) ht (by simpa using hxin) (by simpa using hnew))
    simp only [List.nil_append, List.cons_append] at HL4
    have HPL := Lib.hid hpl
    have HNW : Hid (∀ k ∈ x'.v.blocks, w.heap.size ≤ k) := fun k hk => Nat.le_trans HL1.out.size (hnew k hk)
    clear hpl hxin hnew ht r0 r1 r2 r3 r4 r5 r6 f0 f1 f2 f3 f4 f5 f6 zr p0 p1 p2 p3 p4 p5 p6
    obtain ⟨r0, r1, r2, r3, r4, r5, r6, ⟨f0, f1, f2, f3, f4, f5, f6⟩, zr, _, _⟩ := HL4.out.c7 0 rfl
    simp only [ent_eq]
    go_wp2
    have HL5 := Lib.hid (HL4.out.setEnt 0 rfl x'.sync x'.thread x'.branch x'.flag x'.v.kind x'.v.num (.slice x'.v.addr x'.v.parts.length x'.v.cap))
    simp only [List.set_cons_zero] at HL5
    obtain ⟨s0, s1, s2, s3, s4, s5, s6, _⟩ := HL5.out.c7 0 rfl
    refine bodyPost_ret (v := .tuple #[x'.val, .bool true]) (by simp [results, Try.results31, go_sem, s0, s1, s2, s3, s4, s5, s6, ent_eq]) rfl ?_
    exact ⟨x', true, rfl, .inl ⟨rfl, by omega, by rw [HPL.out]; exact HXJ.out⟩, HL5.out.valsIn 1 rfl _ (by simp), HNW.out, HL5.out.tch⟩

theorem Led.rowCut {T : List Nat} {w0 w : World} {l : List Thing} (h : Led T w0 w l) (i : Nat) {e size g n cap : Nat} {xs : List Value} (hi : l[i]? = some (rowT e size (.slice (some ⟨g, 0, none⟩) n cap) n xs)) (m c : Nat) (hm : m ≤ c) (hc : c ≤ n) : Led T w0 w (l.set i (rowT e size (.slice (some ⟨g, 0, none⟩) m c) m (xs.take (m * size)))) := by
  obtain ⟨f, ⟨hf, hb⟩, _, hs⟩ := h.step i hi
  subst hf
  exact hs w _ _ ⟨rfl, rowS_cut hb m c hm hc rfl (.inl (by simp))⟩ ⟨Touch.refl _ _, fun k hk => .inl hk⟩
/-- Drop: what it tells, and what is left. -/
def Dropped (T : List Nat) (w : World) (g : Nat) (es : List ME) (i : Int) (e : Ending) (w' : World) : Prop :=
  (∃ x, 0 ≤ i ∧ es[i.toNat]? = some x ∧ e = .returned (.tuple #[x.val, .bool true]) ∧ Led T w w' [queueT g (es.eraseIdx i.toNat)]) ∨
  (¬ (0 ≤ i ∧ i < (es.length : Int)) ∧ e = .returned (.tuple #[ME.zero.val, .bool false]) ∧ Led T w w' [queueT g es])
set_option maxHeartbeats 4000000 in
theorem Drop_q (T : List Nat) (w : World) (g : Nat) (es : List ME) (i : Int) (hL : Led T w w [queueT g es]) (hes : es.length ≤ 1048576) : Calls Try.prog 18 #[.pointer (some ⟨g, 0, none⟩), .int .i64 i] w (Dropped T w g es i) := by
  obtain ⟨qa, qc, hqc1, hqc2, h1⟩ := Led.openQ (l := []) hL
  have HK := Lib.hid h1
  simp only [List.nil_append] at HK
  have hbe := build_ent
  simp only [ent_eq, ME.zero, MT.zero, MT.kind, MT.num, MT.addr, MT.parts, MT.cap, List.length_nil] at hbe
  clear h1 hL
  go_enter Try.func18, Try.ntmps18
  go_wp2_with fail
  refine wp_calls_name ?_
  intro w1 hw1
  have HL1 := Lib.hid (HK.out.al1 hw1)
  simp only [List.nil_append, List.cons_append] at HL1
  obtain ⟨b4, hb4⟩ : ∃ b, w.heap.size = b := ⟨_, rfl⟩
  rw [hb4] at HL1 ⊢
  clear hb4 hw1 HK
  obtain ⟨q0, q1, fq0, fq1, zq, _, _⟩ := HL1.out.c2 0 rfl
  refine (none_no g w1 q0).mono ?_
  rintro e w' ⟨rfl, rfl⟩
  go_wp2_with fail
  refine (has_q g _ _ _ i w1 q1).mono ?_
  rintro e w' ⟨⟨cc, rfl, hcc⟩, rfl⟩
  have HCC := Lib.hid hcc
  clear hcc
  obtain ⟨r0, r1, r2, r3, r4, r5, r6, ⟨f0, f1, f2, f3, f4, f5, f6⟩, zr, _, _⟩ := HL1.out.c7 2 rfl
  cases cc with
  | false =>
    go_wp2
    have HL2 := Lib.hid (HL1.out.setEnt 2 rfl 0 0 0 0 0 0 (.slice none 0 0))
    simp only [List.set_cons_zero, List.set_cons_succ] at HL2
    obtain ⟨s0, s1, s2, s3, s4, s5, s6, _⟩ := HL2.out.c7 2 rfl
    refine bodyPost_ret (v := .tuple #[ME.zero.val, .bool false]) (by simp [results, Try.results18, go_sem, s0, s1, s2, s3, s4, s5, s6, ent_eq, ME.zero, MT.zero, MT.kind, MT.num, MT.addr, MT.parts, MT.cap]) rfl ?_
    refine .inr ⟨fun hx => ?_, rfl, ?_⟩
    · have := HCC.out.2 hx
      cases this
    · exact Led.shutQ (l := []) (HL2.out.sel [0, 1] rfl (by decide))
  | true =>
    obtain ⟨hi1, hi2⟩ := HCC.out.1 (by simp)
    obtain ⟨k, rfl⟩ := Int.eq_ofNat_of_zero_le hi1
    have hk : k < es.length := by omega
    obtain ⟨gr, cap', cur, hv, _⟩ := rowS_form (HL1.out.rowSAt 1 rfl) (by omega)
    injection hv with hv1 _ hv3
    subst hv1 hv3
    obtain ⟨b, o, hbo, hbb, p0, p1, p2, p3, p4, p5, p6⟩ := (ents_of_rowS (HL1.out.rowSAt 1 rfl)) k hk
    injection hbo with hbo
    injection hbo with hbo1 hbo2
    subst hbo1 hbo2
    have HXJ : Hid (es[k]? = some es[k]) := by unfold Hid; simp [hk]
    generalize es[k] = x at p0 p1 p2 p3 p4 p5 p6 HXJ
    obtain ⟨i0, hi0, iz0, iz1, iz2⟩ := info_parts info_ent
    obtain ⟨sa, hsa, hsl2⟩ := run_slice_from Try.underlying32 hi0 (some ⟨gr, 0, none⟩) es.length qc (k + 1) (by omega) hqc1
    have hsl1 := fun W => run_slice_cut Try.underlying32 hi0 (some ⟨gr, 0, none⟩) es.length qc k (by omega) W
    have HSA := Lib.hid hsa
    clear hsa
    rw [show (((k + 1 : Nat)) : Int) = (k : Int) + 1 by omega] at hsl2
    simp only [Nat.zero_add] at p0 p1 p2 p3 p4 p5 p6
    have hwk : IntKind.i64.wrap ((k : Int) + 1) = (k : Int) + 1 := IntWalk.i64_in _ (by omega)
    go_wp2_with fail
    refine wp_name ?_
    intro w2 hw2
    have HL2 := Lib.hid (HL1.out.al1 hw2)
    simp only [List.nil_append, List.cons_append] at HL2
    obtain ⟨b6, hb6⟩ : ∃ b, w1.heap.size = b := ⟨_, rfl⟩
    rw [hb6] at HL2 ⊢
    clear hw2 hb6 HL1 p0 p1 p2 p3 p4 p5 p6 q0 q1 fq0 fq1 zq r0 r1 r2 r3 r4 r5 r6 f0 f1 f2 f3 f4 f5 f6 zr hbb
    have HLC := Lib.hid (HL2.out.drew.rowCut 1 rfl k k (Nat.le_refl _) (by omega))
    simp only [List.set_cons_zero, List.set_cons_succ] at HLC
    have HLN : Hid (((entCells es).drop ((k + 1) * 7)).length = (es.length - (k + 1)) * 7) := by
      unfold Hid
      rw [List.length_drop, entCells_length, Nat.sub_mul]
    obtain ⟨q0, q1, fq0, fq1, zq, _, _⟩ := HL2.out.c2 0 rfl
    go_region_law (first
      | (refine step_append_S _ rfl (.tmp 34) (.tmp 42) 32 rfl 27 i0 _ 7 72 Try.underlying32 hi0 iz0 iz1 iz2 rfl (by decide) (.slice (some ⟨gr, 0, none⟩) k k) k ((entCells es).take (k * 7)) (by first | rfl | simp [Act.eval, Act.put]) (HLC.out.rowSAt 1 rfl) sa (es.length - (k + 1)) (qc - (k + 1)) ((entCells es).drop ((k + 1) * 7)) (by first | rfl | simp [Act.eval, Act.put]) HLN.out (rowS_src (lo := k + 1) (HL2.out.drew.rowSAt 1 rfl) (by rw [iz1]) HSA.out) (fun u hu => ents_one es u (List.mem_of_mem_drop hu)) (by simp only [maxLen]; omega) (by omega) ?_; intro a5 c5 w5 hown hgrow hat; have HL5 := Lib.hid (HLC.out.grownS 1 rfl hgrow hown hat); simp only [List.set_cons_succ, List.set_cons_zero] at HL5; clear hown hgrow hat q0 q1 fq0 fq1 zq; obtain ⟨q0, q1, fq0, fq1, zq, _, _⟩ := HL5.out.c2 0 rfl))
    all_goals
      have HLE : Hid (k + (es.length - (k + 1)) = (es.eraseIdx k).length ∧ (entCells es).take (k * 7) ++ (entCells es).drop ((k + 1) * 7) = entCells (es.eraseIdx k)) := by
        refine ⟨?_, ?_⟩
        · rw [List.length_eraseIdx_of_lt hk]; omega
        · rw [List.eraseIdx_eq_take_drop_succ, entCells_append, entCells_take, entCells_drop]
      have HL6 := Lib.hid (HL5.out.set 0 rfl 1 (.slice a5 (k + (es.length - (k + 1))) c5))
      simp only [List.set_cons_succ, List.set_cons_zero, List.setIfInBounds_toArray] at HL6
      rw [HLE.out.2, HLE.out.1] at HL6
      rw [HLE.out.1]
      refine Hid.out ?_
      obtain ⟨w6, hw6⟩ : ∃ w6, w5.setCell ⟨g, 1, none⟩ (.slice a5 (es.eraseIdx k).length c5) = w6 := ⟨_, rfl⟩
      rw [hw6] at HL6 ⊢
      refine Lib.hid ?_
      clear hw6 HL5 HLC HL2 q0 q1 fq0 fq1 zq hsl1 hsl2 hwk HLE
      obtain ⟨r0, r1, r2, r3, r4, r5, r6, ⟨f0, f1, f2, f3, f4, f5, f6⟩, zr, _, _⟩ := HL6.out.c7 2 rfl
      obtain ⟨y0, y1, y2, y3, y4, y5, y6, _, zy, _, _⟩ := HL6.out.c7 3 rfl
      have n1 := HL6.out.ne 2 3 rfl rfl (by decide)
      have n2 := Ne.symm n1
      go_wp2
      have HL7 := Lib.hid (HL6.out.setEnt 2 rfl x.sync x.thread x.branch x.flag x.v.kind x.v.num (.slice x.v.addr x.v.parts.length x.v.cap))
      simp only [List.set_cons_zero, List.set_cons_succ] at HL7
      obtain ⟨s0, s1, s2, s3, s4, s5, s6, _⟩ := HL7.out.c7 2 rfl
      refine bodyPost_ret (v := .tuple #[x.val, .bool true]) (by simp [results, Try.results18, go_sem, s0, s1, s2, s3, s4, s5, s6, ent_eq]) rfl ?_
      exact .inl ⟨x, by omega, HXJ.out, rfl, Led.shutQ (l := []) (HL7.out.sel [0, 1] rfl (by decide))⟩
end Go.Proofs.Ytihmbgdkllmkaaa
