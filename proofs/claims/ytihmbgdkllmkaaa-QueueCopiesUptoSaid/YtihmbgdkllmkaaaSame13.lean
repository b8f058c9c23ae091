/-
  Layer 13: Same of two queues (queue.go), and of the reference's (betrothalref13/ref.go).
-/
import Derived.Test.YtihmbgdkllmkaaaNoQ
import Derived.Test.YtihmbgdkllmkaaaR13
import Derived.Test.YtihmbgdkllmkaaaOver
namespace Go.Proofs.Ytihmbgdkllmkaaa
open Go.RowKit Go.Shelf
set_option maxRecDepth 100000
set_option linter.unusedVariables false
set_option linter.unusedSimpArgs false
attribute [local go_sem] Oper.semAt_some

theorem take_succ_eq {l m : List PE} {k : Nat} (hk : k < l.length) (hm : k < m.length) (h : l.take k = m.take k) : l.take (k + 1) = m.take (k + 1) ↔ l[k] = m[k] := by
  have e1 : l.take (k + 1) = l.take k ++ [l[k]] := by simp
  have e2 : m.take (k + 1) = m.take k ++ [m[k]] := by simp
  rw [e1, e2, h, List.append_cancel_left_eq, List.cons.injEq]
  exact and_iff_left rfl
set_option maxHeartbeats 4000000 in
theorem Same_ref13 (w : World) (a b : Option Addr) (ca cb : Nat) (rs ss : List ME) (ha : EntsAt w a rs) (hb : EntsAt w b ss) (hr : ∀ r ∈ rs, r.v.In w ∧ r.v.nodes ≤ 256) (hs : ∀ r ∈ ss, r.v.In w ∧ r.v.nodes ≤ 256) (hlr : rs.length ≤ 4096) (hls : ss.length ≤ 4096) :
    Calls Try.prog 29 #[.agg #[.slice a rs.length ca], .agg #[.slice b ss.length cb]] w (Tells (rs.map ME.plain = ss.map ME.plain) w) := by
  have HA := Lib.hid (fun W (hW : Touch [] w W) => ha.touch hW)
  have HB := Lib.hid (fun W (hW : Touch [] w W) => hb.touch hW)
  have HR := Lib.hid (fun r (h : r ∈ rs) W (hW : Touch [] w W) => (And.intro ((hr r h).1.touch0 hW) (hr r h).2 : r.v.In W ∧ r.v.nodes ≤ 256))
  have HS := Lib.hid (fun r (h : r ∈ ss) W (hW : Touch [] w W) => (And.intro ((hs r h).1.touch0 hW) (hs r h).2 : r.v.In W ∧ r.v.nodes ≤ 256))
  clear ha hb hr hs
  by_cases hll : rs.length = ss.length
  · have HLL := Lib.hid hll
    clear hll
    rw [show ss.length = rs.length from HLL.out.symm]
    go_enter Try.func29, Try.ntmps29
    go_wp2_with fail
    refine wp_name ?_
    intro w1 hw1
    have HL1 := Lib.hid ((Led.nil' w).al2 hw1)
    simp only [List.nil_append, List.cons_append] at HL1
    obtain ⟨b3, hb3⟩ : ∃ b, w.heap.size + 1 = b := ⟨_, rfl⟩
    rw [hb3] at HL1 ⊢
    obtain ⟨b2, hb2⟩ : ∃ b, w.heap.size = b := ⟨_, rfl⟩
    rw [hb2] at HL1 ⊢
    clear hw1 hb3 hb2
    go_loopw [5] (fun i wr => ∃ j : Nat, i = .int .i64 (j : Int) ∧ j ≤ rs.length ∧ Hid ((rs.map ME.plain).take j = (ss.map ME.plain).take j) ∧ Hid (Led [] w wr [box b2 54 #[.slice a rs.length ca], box b3 54 #[.slice b rs.length cb]])) (fun i _ => rs.length - (intOf i).toNat)
    case atStart => exact ⟨0, rfl, Nat.zero_le _, by unfold Hid; simp, HL1⟩
    case round =>
      obtain ⟨j, rfl, hj, HD, HK⟩ := hrel
      clear HL1
      have hj0 : (0 : Int) ≤ (j : Int) := by omega
      obtain ⟨v0, _, hl2, _, _⟩ := HK.out.c1 0 rfl
      obtain ⟨u0, _, hl3, _, _⟩ := HK.out.c1 1 rfl
      by_cases hjl : j < rs.length
      · have hjl' : (j : Int) < (rs.length : Int) := by omega
        have hjs : j < ss.length := by rw [← HLL.out]; exact hjl
        obtain ⟨ba, oa, rfl, hba, p0, p1, p2, p3, p4, p5, p6⟩ := HA.out wr HK.out.tch j hjl
        obtain ⟨bb, ob, rfl, hbb, q0, q1, q2, q3, q4, q5, q6⟩ := HB.out wr HK.out.tch j hjs
        have HXI := Lib.hid (HR.out _ (List.getElem_mem hjl) wr HK.out.tch)
        have HYI := Lib.hid (HS.out _ (List.getElem_mem hjs) wr HK.out.tch)
        have HTS := Lib.hid (take_succ_eq (by simpa using hjl) (by simpa using hjs) HD.out)
        simp only [List.getElem_map] at HTS
        have HEL : Hid (rs.map ME.plain = ss.map ME.plain → rs[j].plain = ss[j].plain) := fun h => HTS.out.1 (by rw [h])
        generalize rs[j] = x at p0 p1 p2 p3 p4 p5 p6 HXI HTS HEL
        generalize ss[j] = y at q0 q1 q2 q3 q4 q5 q6 HYI HTS HEL
        have HSE := Lib.hid (SameEntry_ref x y wr.drew (HXI.out.1.touch0 (Touch.refl [] wr).drew) (HYI.out.1.touch0 (Touch.refl [] wr).drew) (by have := HXI.out.2; omega) (by have := HYI.out.2; omega))
        have HPX : Hid (∀ W, Touch [] wr W → EntAt W ba (oa + j * 7) x) := by
          have h : EntAt wr ba (oa + j * 7) x := ⟨p0, p1, p2, p3, p4, p5, p6⟩
          exact fun W hW => h.touch hW
        have HPY : Hid (∀ W, Touch [] wr W → EntAt W bb (ob + j * 7) y) := by
          have h : EntAt wr bb (ob + j * 7) y := ⟨q0, q1, q2, q3, q4, q5, q6⟩
          exact fun W hW => h.touch hW
        simp only [ent_eq] at HSE
        go_wp2_with fail
        go_region_held3 (fun w' => (w'.cell? ⟨b2, 0, none⟩ = some (.slice (some ⟨ba, oa, none⟩) rs.length ca) ∧ w'.cell? ⟨b3, 0, none⟩ = some (.slice (some ⟨bb, ob, none⟩) rs.length cb)) ∧
          (w'.cell? ⟨ba, oa + j * 7, none⟩ = some (.int .i64 x.sync) ∧ w'.cell? ⟨ba, oa + j * 7 + 1, none⟩ = some (.int .i64 x.thread) ∧ w'.cell? ⟨ba, oa + j * 7 + 2, none⟩ = some (.int .i64 x.branch) ∧ w'.cell? ⟨ba, oa + j * 7 + 3, none⟩ = some (.int .i64 x.flag) ∧ w'.cell? ⟨ba, oa + j * 7 + 4, none⟩ = some (.int .i64 x.v.kind) ∧ w'.cell? ⟨ba, oa + j * 7 + 5, none⟩ = some (.int .i64 x.v.num) ∧ w'.cell? ⟨ba, oa + j * 7 + 6, none⟩ = some (.slice x.v.addr x.v.parts.length x.v.cap)) ∧
          (w'.cell? ⟨bb, ob + j * 7, none⟩ = some (.int .i64 y.sync) ∧ w'.cell? ⟨bb, ob + j * 7 + 1, none⟩ = some (.int .i64 y.thread) ∧ w'.cell? ⟨bb, ob + j * 7 + 2, none⟩ = some (.int .i64 y.branch) ∧ w'.cell? ⟨bb, ob + j * 7 + 3, none⟩ = some (.int .i64 y.flag) ∧ w'.cell? ⟨bb, ob + j * 7 + 4, none⟩ = some (.int .i64 y.v.kind) ∧ w'.cell? ⟨bb, ob + j * 7 + 5, none⟩ = some (.int .i64 y.v.num) ∧ w'.cell? ⟨bb, ob + j * 7 + 6, none⟩ = some (.slice y.v.addr y.v.parts.length y.v.cap))) (go_keep) (first
          | (go_at_call 21; refine HSE.out.mono ?_; rintro e w2 ⟨cc, rfl, hcc, ht⟩; have HT2 := Lib.hid ((Touch.refl [] wr).drew.trans' ht); have HK2 := Lib.hid (HK.out.touch HT2.out); have HCC := Lib.hid hcc; clear hcc ht v0 hl2 u0 hl3 p0 p1 p2 p3 p4 p5 p6 q0 q1 q2 q3 q4 q5 q6; obtain ⟨v0, _, hl2, _, _⟩ := HK2.out.c1 0 rfl; obtain ⟨u0, _, hl3, _, _⟩ := HK2.out.c1 1 rfl; obtain ⟨p0, p1, p2, p3, p4, p5, p6⟩ := HPX.out _ HT2.out; obtain ⟨q0, q1, q2, q3, q4, q5, q6⟩ := HPY.out _ HT2.out))
        all_goals
          rename_i hHeld
          clear hHeld v0 hl2 u0 hl3 p0 p1 p2 p3 p4 p5 p6 q0 q1 q2 q3 q4 q5 q6 hba hbb
          cases cc with
          | false =>
            go_wp2
            go_ret
            exact Tells.no (fun h => by
              have h2 := HCC.out.2 ⟨HXI.out.2, HYI.out.2, HEL.out h⟩
              cases h2) HK2.out.tch
          | true =>
            have HD2 := Lib.hid (HTS.out.2 (HCC.out.1 rfl).2.2)
            go_wp2
            go_roundw
            case rel => exact ⟨j + 1, by go_num, hjl, HD2, HK2⟩
            case measure => simp [intOf]; omega
      · have hjl' : ¬ (j : Int) < (rs.length : Int) := by omega
        obtain rfl : j = rs.length := by omega
        go_wp2
        go_ret
        refine Tells.yes ?_ HK.out.tch
        have h := HD.out
        rwa [List.take_of_length_le (by simp), List.take_of_length_le (by simp [HLL.out])] at h
  · have hne : ((rs.length : Int) == (ss.length : Int)) = false := by simp; omega
    have hne2 : ¬ (rs.length : Int) = (ss.length : Int) := by omega
    have HNL := Lib.hid hll
    clear hll
    go_enter Try.func29, Try.ntmps29
    go_wp2
    go_ret
    exact Tells.no (fun h => HNL.out (by have := congrArg List.length h; simpa using this)) (((Touch.refl [] w).alloc _).alloc _)
/-- What lies there between two rounds. -/
def sqR (b3 g2 b5 bx : Nat) (v : Value) (ys es fs : List ME) (k : Nat) : List Thing :=
  [box b3 30 #[.pointer (some ⟨g2, 0, none⟩)], box b5 4 #[.bool true], allT bx v ys, fact ((es.map ME.plain).take k = (fs.map ME.plain).take k)]
set_option maxHeartbeats 4000000 in
theorem Same_qq_len (w : World) (g1 g2 : Nat) (es fs : List ME) (h1 : QAt w g1 es) (h2 : QAt w g2 fs) (he : ∀ e ∈ es, e.v.In w ∧ e.v.nodes ≤ 256) (hf : ∀ e ∈ fs, e.v.In w ∧ e.v.nodes ≤ 256) (hle : es.length ≤ 4096) (hlf : fs.length ≤ 4096) (hll : es.length ≠ fs.length) :
    Calls Try.prog 30 #[.pointer (some ⟨g1, 0, none⟩), .pointer (some ⟨g2, 0, none⟩)] w (Tells (es.map ME.plain = fs.map ME.plain) w) := by
  have hne : ((es.length : Int) == (fs.length : Int)) = false := by simp; omega
  have hne2 : ¬ (es.length : Int) = (fs.length : Int) := by omega
  have HNL := Lib.hid hll
  clear hll
  have HE := Lib.hid (fun W (hW : Touch [] w W) x (hx : x ∈ es) => (And.intro ((he x hx).1.touch0 hW) (he x hx).2 : x.v.In W ∧ x.v.nodes ≤ 256))
  have HF := Lib.hid (fun W (hW : Touch [] w W) x (hx : x ∈ fs) => (And.intro ((hf x hx).1.touch0 hW) (hf x hx).2 : x.v.In W ∧ x.v.nodes ≤ 256))
  have HQ1 := Lib.hid (fun W (hW : Touch [] w W) => h1.touch hW)
  have HQ2 := Lib.hid (fun W (hW : Touch [] w W) => h2.touch hW)
  have HC1 : Hid (∃ a cap, ∀ W, Touch [] w W → W.cell? ⟨g1, 0, none⟩ = some (.bool true) ∧ W.cell? ⟨g1, 1, none⟩ = some (.slice a es.length cap)) := by
    obtain ⟨a, cap, hb, _⟩ := h1
    exact ⟨a, cap, fun W hW => ⟨hW.cellOf (hb.cell 0), hW.cellOf (hb.cell 1)⟩⟩
  have HC2 : Hid (∃ a cap, ∀ W, Touch [] w W → W.cell? ⟨g2, 0, none⟩ = some (.bool true) ∧ W.cell? ⟨g2, 1, none⟩ = some (.slice a fs.length cap)) := by
    obtain ⟨a, cap, hb, _⟩ := h2
    exact ⟨a, cap, fun W hW => ⟨hW.cellOf (hb.cell 0), hW.cellOf (hb.cell 1)⟩⟩
  clear h1 h2 he hf
  obtain ⟨qa1, qc1, hc1⟩ := HC1.out
  obtain ⟨qa2, qc2, hc2⟩ := HC2.out
  have HD1 := Lib.hid hc1
  have HD2 := Lib.hid hc2
  clear HC1 HC2 hc1 hc2
  refine (callsIn_wide (n := 0)).1 ?_
  refine callsIn_of_wp_marks Try.func30 rfl trivial ?_ rfl
  simp only [Try.ntmps30, List.size_toArray, List.length_cons, List.length_nil, Nat.reduceAdd, Nat.reduceSub, Array.replicate_succ, Array.replicate_zero, List.push_toArray, List.append_toArray, List.nil_append, List.cons_append]
  refine wpIn_wide.2 ?_
  go_wp2_with fail
  refine wp_scope_straight ?_
  refine wp_name ?_
  intro w1 hw1
  have HL1 := Lib.hid ((Led.nil' w).al1 hw1)
  simp only [List.nil_append, List.cons_append] at HL1
  obtain ⟨b3, hb3⟩ : ∃ b, w.heap.size = b := ⟨_, rfl⟩
  rw [hb3] at HL1 ⊢
  clear hb3 hw1
  obtain ⟨v0, _, hl3, _, _⟩ := HL1.out.c1 0 rfl
  have HTm := Lib.hid ((HL1.out.tch).drew)
  obtain ⟨c10, c11⟩ := HD1.out _ HL1.out.tch
  obtain ⟨c20, c21⟩ := HD2.out _ HL1.out.tch
  go_wp2_with fail
  refine (none_no g1 w1 c10).mono ?_
  rintro e w' ⟨rfl, rfl⟩
  go_wp2_with fail
  refine (none_no g2 w1 c20).mono ?_
  rintro e w' ⟨rfl, rfl⟩
  go_wp2_with fail
  go_region_held3 (fun w' => w'.cell? ⟨b3, 0, none⟩ = some (.pointer (some ⟨g2, 0, none⟩))) (go_keep) (first
    | (go_at_call 57; refine (count_q _ _ _ _ _ (by first | exact (HD1.out _ HTm.out).2 | exact (HD2.out _ HTm.out).2)).mono ?_; rintro e w' ⟨rfl, rfl⟩))
  all_goals go_wp2
  all_goals refine noGoto_ret' ?_
  all_goals exact leave_marks (v := .bool false) [] _ (by simp) (by simp) (by simp [shutAll, results, Try.results30, go_sem]) (Tells.no (fun h => HNL.out (by have := congrArg List.length h; simpa using this)) HTm.out)
set_option maxHeartbeats 8000000 in
theorem Same_qq_go (w : World) (g1 g2 : Nat) (es fs : List ME) (h1 : QAt w g1 es) (h2 : QAt w g2 fs) (he : ∀ e ∈ es, e.v.In w ∧ e.v.nodes ≤ 256) (hf : ∀ e ∈ fs, e.v.In w ∧ e.v.nodes ≤ 256) (hle : es.length ≤ 4096) (hlf : fs.length ≤ 4096) (hll : es.length = fs.length) :
    Calls Try.prog 30 #[.pointer (some ⟨g1, 0, none⟩), .pointer (some ⟨g2, 0, none⟩)] w (Tells (es.map ME.plain = fs.map ME.plain) w) := by
  have hne : ((es.length : Int) == (fs.length : Int)) = true := by simp; omega
  have hne2 : (es.length : Int) = (fs.length : Int) := by omega
  have HLL := Lib.hid hll
  have HE := Lib.hid (fun W (hW : Touch [] w W) x (hx : x ∈ es) => (And.intro ((he x hx).1.touch0 hW) (he x hx).2 : x.v.In W ∧ x.v.nodes ≤ 256))
  have HF := Lib.hid (fun W (hW : Touch [] w W) x (hx : x ∈ fs) => (And.intro ((hf x hx).1.touch0 hW) (hf x hx).2 : x.v.In W ∧ x.v.nodes ≤ 256))
  have HQ1 := Lib.hid (fun W (hW : Touch [] w W) => h1.touch hW)
  have HQ2 := Lib.hid (fun W (hW : Touch [] w W) => h2.touch hW)
  have HC1 : Hid (∃ a cap, ∀ W, Touch [] w W → W.cell? ⟨g1, 0, none⟩ = some (.bool true) ∧ W.cell? ⟨g1, 1, none⟩ = some (.slice a es.length cap)) := by
    obtain ⟨a, cap, hb, _⟩ := h1
    exact ⟨a, cap, fun W hW => ⟨hW.cellOf (hb.cell 0), hW.cellOf (hb.cell 1)⟩⟩
  have HC2 : Hid (∃ a cap, ∀ W, Touch [] w W → W.cell? ⟨g2, 0, none⟩ = some (.bool true) ∧ W.cell? ⟨g2, 1, none⟩ = some (.slice a fs.length cap)) := by
    obtain ⟨a, cap, hb, _⟩ := h2
    exact ⟨a, cap, fun W hW => ⟨hW.cellOf (hb.cell 0), hW.cellOf (hb.cell 1)⟩⟩
  clear h1 h2 he hf
  obtain ⟨qa1, qc1, hc1⟩ := HC1.out
  obtain ⟨qa2, qc2, hc2⟩ := HC2.out
  have HD1 := Lib.hid hc1
  have HD2 := Lib.hid hc2
  clear HC1 HC2 hc1 hc2
  refine (callsIn_wide (n := 0)).1 ?_
  refine callsIn_of_wp_marks Try.func30 rfl trivial ?_ rfl
  simp only [Try.ntmps30, List.size_toArray, List.length_cons, List.length_nil, Nat.reduceAdd, Nat.reduceSub, Array.replicate_succ, Array.replicate_zero, List.push_toArray, List.append_toArray, List.nil_append, List.cons_append]
  refine wpIn_wide.2 ?_
  go_wp2_with fail
  refine wp_scope_straight ?_
  refine wp_name ?_
  intro w1 hw1
  have HL1 := Lib.hid ((Led.nil' w).al1 hw1)
  simp only [List.nil_append, List.cons_append] at HL1
  obtain ⟨b3, hb3⟩ : ∃ b, w.heap.size = b := ⟨_, rfl⟩
  rw [hb3] at HL1 ⊢
  clear hb3 hw1
  obtain ⟨v0, _, hl3, _, _⟩ := HL1.out.c1 0 rfl
  have HTm := Lib.hid ((HL1.out.tch).drew)
  obtain ⟨c10, c11⟩ := HD1.out _ HL1.out.tch
  obtain ⟨c20, c21⟩ := HD2.out _ HL1.out.tch
  go_wp2_with fail
  refine (none_no g1 w1 c10).mono ?_
  rintro e w' ⟨rfl, rfl⟩
  go_wp2_with fail
  refine (none_no g2 w1 c20).mono ?_
  rintro e w' ⟨rfl, rfl⟩
  go_wp2_with fail
  go_region_held3 (fun w' => w'.cell? ⟨b3, 0, none⟩ = some (.pointer (some ⟨g2, 0, none⟩))) (go_keep) (first
    | (go_at_call 57; refine (count_q _ _ _ _ _ (by first | exact (HD1.out _ HTm.out).2 | exact (HD2.out _ HTm.out).2)).mono ?_; rintro e w' ⟨rfl, rfl⟩))
  rename_i hHeld
  clear hHeld
  clear HTm v0 hl3 c10 c11 c20 c21 hll hne2 hne
  go_wp2_with fail
  refine wp_name ?_
  intro w3 hw3
  have HL3 : Hid (Led [] w w3 [box b3 30 #[.pointer (some ⟨g2, 0, none⟩)], box w1.heap.size 4 #[.bool true]]) := by
    have h := (HL1.out.alloc 4 #[.bool true]).drew
    rw [hw3] at h
    exact h
  obtain ⟨b5, hb5⟩ : ∃ b, w1.heap.size = b := ⟨_, rfl⟩
  rw [hb5] at HL3 ⊢
  clear hw3 hb5 HL1
  go_step3
  go_wp2_with fail
  refine (All_q w3 g1 es (HQ1.out _ HL3.out.tch) (HE.out _ HL3.out.tch) (by omega)).mono ?_
  rintro e w4 ⟨bx, ra, rc, ys, rfl, hpy, hL⟩
  have HL4 := Lib.hid (HL3.out.join hL)
  have HPY := Lib.hid hpy
  simp only [List.nil_append, List.cons_append] at HL4
  clear hL hpy HL3
  have HYL : Hid (ys.length = es.length) := by have := congrArg List.length HPY.out; unfold Hid; simpa using this
  have HYN : Hid (∀ y ∈ ys, y.v.nodes ≤ 256) := fun y hy => by
    have hm : y.plain ∈ es.map ME.plain := by rw [← HPY.out]; exact List.mem_map_of_mem hy
    obtain ⟨r, hr, hpr⟩ := List.mem_map.1 hm
    rw [plain_nodes_eq hpr]; exact (HE.out w (Touch.refl [] w) r hr).2
  have HLR : Hid (Led [] w w4 (sqR b3 g2 b5 bx (.slice ra ys.length rc) ys es fs 0)) := HL4.out.addFact (by simp)
  clear HL4
  go_wp2_with fail
  refine (wpIn_wide (n := 0)).1 ?_
  refine range_allL (bx := bx) (ra := ra) (rc := rc) (ys := ys) rfl rfl (by rw [HYL.out]; omega) HYN.out (sqR b3 g2 b5 bx (.slice ra ys.length rc) ys es fs)
    (fun c lx => c = .exit 0 ∧ lx = [box b3 30 #[.pointer (some ⟨g2, 0, none⟩)], box b5 4 #[.bool false], allT bx (.slice ra ys.length rc) ys, fact (es.map ME.plain ≠ fs.map ME.plain)]) 2 (fun _ => rfl) HLR.out ?hround ?hdone ?hstop
  case hround =>
    intro k x W o0 hk hxk h
    have hke : k < es.length := by rw [← HYL.out]; exact hk
    have hkf : k < fs.length := by rw [← HLL.out]; exact hke
    rw [HPY.out, List.getElem?_map, List.getElem?_eq_getElem hke] at hxk
    have HX : Hid (es[k].plain = x.plain) := by unfold Hid; simpa using hxk
    obtain ⟨D, hD⟩ : ∃ D, w4.heap.size = D := ⟨_, rfl⟩
    rw [hD] at h ⊢
    have HK := Lib.hid h
    clear h hxk hD
    rw [ent_eq]
    gi_wp2
    refine ⟨_, HK.out.alloc _ _, fun W2 o h2 => ?_⟩
    obtain ⟨be, hbe⟩ : ∃ b, W.heap.size = b := ⟨_, rfl⟩
    rw [hbe] at h2 ⊢
    have HK2 := Lib.hid h2
    simp only [sqR, marks, List.nil_append, List.cons_append] at HK2
    clear hbe h2 HK
    have HFa : Hid ((es.map ME.plain).take k = (fs.map ME.plain).take k) := HK2.out.fact 3 rfl
    have HVX : Hid (x.v.In W2) := HK2.out.valsIn 4 rfl _ (by simp)
    have HVN : Hid (x.v.nodes ≤ 256) := by unfold Hid; rw [plain_nodes_eq HX.out]; exact (HE.out w (Touch.refl [] w) _ (List.getElem_mem hke)).2
    have HTS := Lib.hid (take_succ_eq (by simpa using hke) (by simpa using hkf) HFa.out)
    simp only [List.getElem_map] at HTS
    rw [HX.out] at HTS
    have HEL : Hid (es.map ME.plain = fs.map ME.plain → x.plain = fs[k].plain) := fun h => HTS.out.1 (by rw [h])
    have HLK := Lib.hid (HF.out W2 HK2.out.tch fs[k] (List.getElem_mem hkf))
    obtain ⟨qa, qc, hb, _, _, hr⟩ := HQ2.out W2 HK2.out.tch
    have hcq := hb.cell 1
    have hcd := (HD2.out W2 HK2.out.tch).2
    rw [hcd] at hcq
    simp at hcq
    obtain ⟨rfl, rfl⟩ := hcq
    obtain ⟨b2, o2, hbo2, hbb2, hent⟩ := ents_of_rowS hr k hkf
    subst hbo2
    generalize fs[k] = y at hent HTS HEL HLK
    have HY1 := Lib.hid hent
    have HX1 : Hid (EntAt W2 be 0 x) := by obtain ⟨c0, c1, c2, c3, c4, c5, c6, _⟩ := HK2.out.c7 7 rfl; exact ⟨c0, c1, c2, c3, c4, c5, c6⟩
    obtain ⟨_, _, _, _, _, _, _, _, zx, _, _⟩ := HK2.out.c7 7 rfl
    obtain ⟨n0, fn, zn, _, _⟩ := HK2.out.c1 0 rfl
    have HN0 := Lib.hid n0
    have HL0 := Lib.hid hcd
    have zg : g2 < W2.heap.size := World.block_lt_of_cell? _ _ hcd
    have HSE := Lib.hid (fun W (hW : Touch [] W2 W) => SameEntry_q x y W (HVX.out.touch0 hW) (HLK.out.1.touch0 hW))
    clear hent hb hr
    simp only [ent_eq] at HSE
    obtain ⟨x0, x1, x2, x3, x4, x5, x6⟩ := HX1.out
    obtain ⟨y0, y1, y2, y3, y4, y5, y6⟩ := HY1.out
    simp only [Nat.zero_add] at x1 x2 x3 x4 x5 x6
    have hg3 : (k : Int) < (fs.length : Int) := by omega
    have hk0 : (0 : Int) ≤ (k : Int) := by omega
    gi_wp2_with fail
    refine region_held_round (S := fun w' => w'.cell? ⟨b3, 0, none⟩ = some (.pointer (some ⟨g2, 0, none⟩)) ∧ w'.cell? ⟨g2, 1, none⟩ = some (.slice (some ⟨b2, o2, none⟩) fs.length qc2) ∧
      (w'.cell? ⟨be, 0, none⟩ = some (.int .i64 x.sync) ∧ w'.cell? ⟨be, 1, none⟩ = some (.int .i64 x.thread) ∧ w'.cell? ⟨be, 2, none⟩ = some (.int .i64 x.branch) ∧ w'.cell? ⟨be, 3, none⟩ = some (.int .i64 x.flag) ∧ w'.cell? ⟨be, 4, none⟩ = some (.int .i64 x.v.kind) ∧ w'.cell? ⟨be, 5, none⟩ = some (.int .i64 x.v.num) ∧ w'.cell? ⟨be, 6, none⟩ = some (.slice x.v.addr x.v.parts.length x.v.cap)) ∧
      (w'.cell? ⟨b2, o2 + k * 7, none⟩ = some (.int .i64 y.sync) ∧ w'.cell? ⟨b2, o2 + k * 7 + 1, none⟩ = some (.int .i64 y.thread) ∧ w'.cell? ⟨b2, o2 + k * 7 + 2, none⟩ = some (.int .i64 y.branch) ∧ w'.cell? ⟨b2, o2 + k * 7 + 3, none⟩ = some (.int .i64 y.flag) ∧ w'.cell? ⟨b2, o2 + k * 7 + 4, none⟩ = some (.int .i64 y.v.kind) ∧ w'.cell? ⟨b2, o2 + k * 7 + 5, none⟩ = some (.int .i64 y.v.num) ∧ w'.cell? ⟨b2, o2 + k * 7 + 6, none⟩ = some (.slice y.v.addr y.v.parts.length y.v.cap)))
      (by rintro ⟨_, _, h⟩; exact h) (by kernel_rfl) (by kernel_rfl) ?_ (fun hHeld => ?_)
    · (try dsimp only)
      go_keep
    refine wpAnyH_takeD (i := 0) (d := some 33) (v := ?_) rfl rfl (by kernel_rfl) (by kernel_rfl) (by kernel_rfl) (fun _ _ _ h => h) (Or.inl ⟨by rfl, ?_⟩) (by assumption) ?_
    rotate_left
    · intro w hSw
      (try dsimp only at hSw)
      first | (go_simp; done) | (go_simp; with_reducible rfl)
    (try simp only [Act.put, List.setIfInBounds_toArray, List.set_cons_zero, List.set_cons_succ])
    refine wpAnyH_takeD (i := 1) (d := some 34) (v := ?_) rfl rfl (by kernel_rfl) (by kernel_rfl) (by kernel_rfl) (fun _ _ _ h => h) (Or.inl ⟨by rfl, ?_⟩) (by assumption) ?_
    rotate_left
    · intro w hSw
      (try dsimp only at hSw)
      first | (go_simp; done) | (go_simp; with_reducible rfl)
    (try simp only [Act.put, List.setIfInBounds_toArray, List.set_cons_zero, List.set_cons_succ])
    refine wpAnyH_takeD (i := 2) (d := some 35) (v := ?_) rfl rfl (by kernel_rfl) (by kernel_rfl) (by kernel_rfl) (fun _ _ _ h => h) (Or.inl ⟨by rfl, ?_⟩) (by assumption) ?_
    rotate_left
    · intro w hSw
      (try dsimp only at hSw)
      first | (go_simp; done) | (go_simp; with_reducible rfl)
    (try simp only [Act.put, List.setIfInBounds_toArray, List.set_cons_zero, List.set_cons_succ])
    refine wpAnyH_takeD (i := 3) (d := some 36) (v := ?_) rfl rfl (by kernel_rfl) (by kernel_rfl) (by kernel_rfl) (fun _ _ _ h => h) (Or.inl ⟨by rfl, ?_⟩) (by assumption) ?_
    rotate_left
    · intro w hSw
      (try dsimp only at hSw)
      first | (go_simp; done) | (go_simp; with_reducible rfl)
    (try simp only [Act.put, List.setIfInBounds_toArray, List.set_cons_zero, List.set_cons_succ])
    refine wpAnyH_takeD (i := 4) (d := some 37) (v := ?_) rfl rfl (by kernel_rfl) (by kernel_rfl) (by kernel_rfl) (fun _ _ _ h => h) (Or.inl ⟨by rfl, ?_⟩) (by assumption) ?_
    rotate_left
    · intro w hSw
      (try dsimp only at hSw)
      first | (go_simp; done) | (go_simp; with_reducible rfl)
    (try simp only [Act.put, List.setIfInBounds_toArray, List.set_cons_zero, List.set_cons_succ])
    refine wpAnyH_takeD (i := 5) (d := some 38) (v := ?_) rfl rfl (by kernel_rfl) (by kernel_rfl) (by kernel_rfl) (fun _ _ _ h => h) (Or.inl ⟨by rfl, ?_⟩) (by assumption) ?_
    rotate_left
    · intro w hSw
      (try dsimp only at hSw)
      first | (go_simp; done) | (go_simp; with_reducible rfl)
    (try simp only [Act.put, List.setIfInBounds_toArray, List.set_cons_zero, List.set_cons_succ])
    refine wpAnyH_takeD (i := 6) (d := some 39) (v := ?_) rfl rfl (by kernel_rfl) (by kernel_rfl) (by kernel_rfl) (fun _ _ _ h => h) (Or.inl ⟨by rfl, ?_⟩) (by assumption) ?_
    rotate_left
    · intro w hSw
      (try dsimp only at hSw)
      first | (go_simp; done) | (go_simp; with_reducible rfl)
    (try simp only [Act.put, List.setIfInBounds_toArray, List.set_cons_zero, List.set_cons_succ])
    refine wpAnyH_takeD (i := 7) (d := some 40) (v := ?_) rfl rfl (by kernel_rfl) (by kernel_rfl) (by kernel_rfl) (fun _ _ _ h => h) (Or.inl ⟨by rfl, ?_⟩) (by assumption) ?_
    rotate_left
    · intro w hSw
      (try dsimp only at hSw)
      first | (go_simp; done) | (go_simp; with_reducible rfl)
    (try simp only [Act.put, List.setIfInBounds_toArray, List.set_cons_zero, List.set_cons_succ])
    refine wpAnyH_takeD (i := 8) (d := some 41) (v := ?_) rfl rfl (by kernel_rfl) (by kernel_rfl) (by kernel_rfl) (fun _ _ _ h => h) (Or.inl ⟨by rfl, ?_⟩) (by assumption) ?_
    rotate_left
    · intro w hSw
      (try dsimp only at hSw)
      first | (go_simp; done) | (go_simp; with_reducible rfl)
    (try simp only [Act.put, List.setIfInBounds_toArray, List.set_cons_zero, List.set_cons_succ])
    refine wpAnyH_ready (rs := [9]) (by kernel_rfl) (by simp) ?_
    refine AllReadyH.cons rfl (fun K hK => ?_) AllReadyH.nil
    go_simp
    refine (HSE.out _ (Touch.refl [] W2).drew).mono ?_
    rintro en wn ⟨cc, rfl, hcc, ht⟩
    have HT := Lib.hid ((Touch.refl [] W2).drew.trans' ht)
    have HCC := Lib.hid hcc
    clear ht hcc x0 x1 x2 x3 x4 x5 x6 y0 y1 y2 y3 y4 y5 y6 n0 hcd hHeld
    obtain ⟨x0, x1, x2, x3, x4, x5, x6⟩ := HX1.out.touch HT.out
    obtain ⟨y0, y1, y2, y3, y4, y5, y6⟩ := HY1.out.touch HT.out
    simp only [Nat.zero_add] at x1 x2 x3 x4 x5 x6
    have n0 := HT.out.cellOf HN0.out
    have hcd := HT.out.cellOf HL0.out
    go_simp
    refine hK.out _ _ ?_ (fun hHeld => ?_)
    · (try dsimp only)
      go_keep
    clear hK K
    (try simp only [Act.put, List.setIfInBounds_toArray, List.set_cons_zero, List.set_cons_succ])
    refine wpAnyH_takeD (i := 10) (d := some 43) (v := ?_) rfl rfl (by kernel_rfl) (by kernel_rfl) (by kernel_rfl) (fun _ _ _ h => h) (Or.inl ⟨by rfl, ?_⟩) (by assumption) ?_
    rotate_left
    · intro w hSw
      (try dsimp only at hSw)
      first | (go_simp; done) | (go_simp; with_reducible rfl)
    (try simp only [Act.put, List.setIfInBounds_toArray, List.set_cons_zero, List.set_cons_succ])
    refine wpAnyH_done (by kernel_rfl) ?_ _
    have HK3 := Lib.hid (HK2.out.touch HT.out)
    clear x0 x1 x2 x3 x4 x5 x6 y0 y1 y2 y3 y4 y5 y6 n0 hcd hHeld fn zx zn HK2 hbb2 zg
    obtain ⟨n0, fn, zn, _, _⟩ := HK3.out.c1 1 rfl
    cases cc with
    | false =>
      have hne : es.map ME.plain ≠ fs.map ME.plain := fun h => by
        have h2 := HCC.out.2 ⟨HVN.out, HLK.out.2, HEL.out h⟩
        cases h2
      gi_wp2_with fail
      have hs := (HK3.out.set 1 rfl 0 (.bool false)).setFact 3 rfl (q := (es.map ME.plain ≠ fs.map ME.plain)) hne
      exact ⟨_, [], ⟨rfl, rfl⟩, hs.sel [0, 1, 2, 3, 5, 6] rfl (by decide)⟩
    | true =>
      have heq := HTS.out.2 (HCC.out.1 rfl).2.2
      gi_wp2_with fail
      have hs := HK3.out.setFact 3 rfl heq
      exact ⟨[], hs.sel [0, 1, 2, 3, 5, 6] rfl (by decide)⟩
  case hdone =>
    intro W h
    obtain ⟨D, hD⟩ : ∃ D, w4.heap.size = D := ⟨_, rfl⟩
    rw [hD] at h ⊢
    rw [HYL.out] at h
    have HK := Lib.hid h
    simp only [sqR, marks1, List.nil_append, List.cons_append] at HK
    clear h hD
    obtain ⟨n0, fn, zn, _, _⟩ := HK.out.c1 1 rfl
    have hfa : (es.map ME.plain).take es.length = (fs.map ME.plain).take es.length := HK.out.fact 3 rfl
    have heq : es.map ME.plain = fs.map ME.plain := by rwa [List.take_of_length_le (by simp), List.take_of_length_le (by simp [HLL.out])] at hfa
    have HEQ := Lib.hid heq
    clear hfa heq
    go_wp2
    refine noGoto_ret' ?_
    exact leave_marks (v := .bool true) [D] _ (by simpa using HK.out.mark 4 rfl) (by simp) (by simp [shutAll, results, Try.results30, go_sem]) (Tells.yes HEQ.out (HK.out.shut 4 rfl).tch)
  case hstop =>
    rintro c W lx ⟨rfl, rfl⟩ h
    obtain ⟨D, hD⟩ : ∃ D, w4.heap.size = D := ⟨_, rfl⟩
    rw [hD] at h ⊢
    have HK := Lib.hid h
    simp only [marks1, List.nil_append, List.cons_append] at HK
    clear h hD
    obtain ⟨n0, fn, zn, _, _⟩ := HK.out.c1 1 rfl
    have HNE : Hid (es.map ME.plain ≠ fs.map ME.plain) := HK.out.fact 3 rfl
    refine wpIn_wide.2 ?_
    go_wp2
    refine noGoto_ret' ?_
    exact leave_marks (v := .bool false) [D] _ (by simpa using HK.out.mark 4 rfl) (by simp) (by simp [shutAll, results, Try.results30, go_sem]) (Tells.no HNE.out (HK.out.shut 4 rfl).tch)
theorem Same_qq (w : World) (g1 g2 : Nat) (es fs : List ME) (h1 : QAt w g1 es) (h2 : QAt w g2 fs) (he : ∀ e ∈ es, e.v.In w ∧ e.v.nodes ≤ 256) (hf : ∀ e ∈ fs, e.v.In w ∧ e.v.nodes ≤ 256) (hle : es.length ≤ 4096) (hlf : fs.length ≤ 4096) :
    Calls Try.prog 30 #[.pointer (some ⟨g1, 0, none⟩), .pointer (some ⟨g2, 0, none⟩)] w (Tells (es.map ME.plain = fs.map ME.plain) w) := by
  by_cases hll : es.length = fs.length
  · exact Same_qq_go w g1 g2 es fs h1 h2 he hf hle hlf hll
  · exact Same_qq_len w g1 g2 es fs h1 h2 he hf hle hlf hll
end Go.Proofs.Ytihmbgdkllmkaaa
