/-
  is() of law 13 (betrothallaw13/law.go): a queue against the reference's.
-/
import Derived.Test.YtihmbgdkllmkaaaR13
import Derived.Test.YtihmbgdkllmkaaaOver
import Derived.Test.YtihmbgdkllmkaaaRetC
import Derived.Deep.Cut
namespace Go.Proofs.Ytihmbgdkllmkaaa
open Go.RowKit Go.Shelf
set_option maxRecDepth 100000
set_option linter.unusedVariables false
set_option linter.unusedSimpArgs false
attribute [local go_sem] Oper.semAt_some

theorem seq2_not_nil (fn : Fn) (x y : Array Value) (w : World) : (binOp .eql 48 (.func fn x y) .nilFunc).run Try.prog w = .ok (.bool false) w := by kernel_rfl
/-- What lies there between two rounds. -/
def isR (a : Option Addr) (n c many b6 b9 b10 b20 bx : Nat) (v : Value) (ys : List ME) (k : Nat) : List Thing :=
  [box b6 54 #[.slice a n c], box b9 3 #[.int .i64 (many : Int)], box b10 4 #[.bool false], box b20 3 #[.int .i64 (k : Int)], fact (k = 0 ∨ k < many), allT bx v ys]
set_option maxHeartbeats 8000000 in
theorem is13 (w : World) (g : Nat) (es rs : List ME) (a : Option Addr) (cap : Nat) (n m : Int) (many : Nat) (hQ : QAt w g es) (he : ∀ e ∈ es, e.v.In w ∧ e.v.nodes ≤ 256) (hE : EntsAt w a rs) (hr : ∀ r ∈ rs, r.v.In w ∧ r.v.nodes ≤ 256) (hp : es.map ME.plain = rs.map ME.plain) (hlen : es.length ≤ 4096) (hm : many ≤ 10000) :
    Calls Try.prog 27 #[.pointer (some ⟨g, 0, none⟩), .agg #[.slice a rs.length cap], .int .i64 n, .int .i64 m, .int .i64 (many : Int)] w fun e w' => e = .returned (.bool true) ∧ Touch [] w w' := by
  have hel : es.length = rs.length := by have := congrArg List.length hp; simpa using this
  have HQ := Lib.hid (fun W (hW : Touch [] w W) => hQ.touch hW)
  have HEI := Lib.hid (fun W (hW : Touch [] w W) x (hx : x ∈ es) => (And.intro ((he x hx).1.touch0 hW) (he x hx).2 : x.v.In W ∧ x.v.nodes ≤ 256))
  have HE := Lib.hid (fun W (hW : Touch [] w W) => hE.touch hW)
  have HI := Lib.hid (fun x (hx : x ∈ rs) W (hW : Touch [] w W) => (hr x hx).1.touch0 hW)
  have HN := Lib.hid (fun x (hx : x ∈ rs) => (hr x hx).2)
  have HP := Lib.hid hp
  have HEL := Lib.hid hel
  have hrl : rs.length ≤ 4096 := by omega
  clear hQ he hE hr hp hel
  refine (callsIn_wide (n := 0)).1 ?_
  refine callsIn_of_wp_marks Try.func27 rfl trivial ?_ rfl
  simp only [Try.ntmps27, List.size_toArray, List.length_cons, List.length_nil, Nat.reduceAdd, Nat.reduceSub, Array.replicate_succ, Array.replicate_zero, List.push_toArray, List.append_toArray, List.nil_append, List.cons_append]
  refine wpIn_wide.2 ?_
  go_wp2_with fail
  refine wp_calls_name ?_
  intro w1 hw1
  have HL1 := Lib.hid ((Led.nil' w).al3 hw1)
  simp only [List.nil_append, List.cons_append] at HL1
  obtain ⟨b10, hb10⟩ : ∃ b, w.heap.size + 1 + 1 = b := ⟨_, rfl⟩
  rw [hb10] at HL1 ⊢
  obtain ⟨b9, hb9⟩ : ∃ b, w.heap.size + 1 = b := ⟨_, rfl⟩
  rw [hb9] at HL1 ⊢
  obtain ⟨b6, hb6⟩ : ∃ b, w.heap.size = b := ⟨_, rfl⟩
  rw [hb6] at HL1 ⊢
  clear hw1 hb10 hb9 hb6
  refine (At_q w1 g es n (HQ.out _ HL1.out.tch) (HEI.out _ HL1.out.tch)).mono ?_
  rintro e w2 ⟨y, cy, rfl, hRy, hyin, _, ht⟩
  have HL2 := Lib.hid (HL1.out.touch ht)
  have HRY := Lib.hid hRy
  have HYI := Lib.hid hyin
  clear ht hRy hyin HL1
  simp only [ent_eq]
  obtain ⟨v0, _, hl6, _, _⟩ := HL2.out.c1 0 rfl
  go_wp2_with fail
  refine wp_calls_name ?_
  intro w3 hw3
  have HL3 := Lib.hid (HL2.out.al1 hw3)
  simp only [List.nil_append, List.cons_append] at HL3
  have HT23 : Hid (Touch [] w2 w3) := hw3 ▸ (Touch.refl [] w2).alloc _
  obtain ⟨b11, hb11⟩ : ∃ b, w2.heap.size = b := ⟨_, rfl⟩
  rw [hb11] at HL3 ⊢
  clear hw3 hb11 HL2 v0 hl6
  refine (At_ref w3 a cap rs n (HE.out _ HL3.out.tch)).mono ?_
  rintro e w4 ⟨x, cx, rfl, hRx, ht⟩
  have HL4 := Lib.hid (HL3.out.touch ht)
  have HT24 := Lib.hid (HT23.out.trans' ht)
  obtain ⟨hyx, hcc⟩ := hRx.plain HRY.out HP.out
  subst hcc
  have HYX := Lib.hid hyx
  have HXN : Hid (x.v.nodes ≤ 256) := hRx.inq (p := fun y => y.v.nodes ≤ 256) (by simp [ME.zero, MT.zero, MT.nodes, MT.nodesAll]) HN.out
  have HXI : Hid (∀ W, Touch [] w W → x.v.In W) := fun W hW => hRx.inq (p := fun y => y.v.In W) (MT.in_zero W) (fun r hr => HI.out r hr W hW)
  have HYN : Hid (y.v.nodes ≤ 256) := by unfold Hid; rw [plain_nodes_eq hyx.symm]; exact HXN.out
  clear ht hRx hyx HL3 HT23 HRY
  simp only [ent_eq]
  obtain ⟨v0, _, hl6, _, _⟩ := HL4.out.c1 0 rfl
  go_wp2_with fail
  refine wp_calls_name ?_
  intro w5 hw5
  have HL5 := Lib.hid (HL4.out.al1 hw5)
  simp only [List.nil_append, List.cons_append] at HL5
  have HT25 : Hid (Touch [] w2 w5) := HT24.out.trans' (hw5 ▸ (Touch.refl [] w4).alloc _)
  obtain ⟨b13, hb13⟩ : ∃ b, w4.heap.size = b := ⟨_, rfl⟩
  rw [hb13] at HL5 ⊢
  clear hw5 hb13 HL4 HT24 v0 hl6
  refine (Next_q w5 g es n m (HQ.out _ HL5.out.tch)).mono ?_
  rintro e w6 ⟨nk, nc, rfl, hN1, ht⟩
  have HL6 := Lib.hid (HL5.out.touch ht)
  have HT26 := Lib.hid (HT25.out.trans' ht)
  have HN1 := Lib.hid hN1
  clear ht hN1 HL5 HT25
  obtain ⟨v0, _, hl6, _, _⟩ := HL6.out.c1 0 rfl
  go_wp2_with fail
  refine (Next_ref w6 a cap rs n m (HE.out _ HL6.out.tch) (by omega)).mono ?_
  rintro e w7 ⟨nk2, nc2, rfl, hN2, ht⟩
  have HL7 := Lib.hid (HL6.out.touch ht)
  have HT27 := Lib.hid (HT26.out.trans' ht)
  rw [← HP.out] at hN2
  obtain ⟨h1, h2⟩ := HN1.out.unique hN2
  subst h1 h2
  clear ht hN2 HN1 HL6 HT26 v0 hl6
  go_wp2_with fail
  refine (All_q w7 g es (HQ.out _ HL7.out.tch) (HEI.out _ HL7.out.tch) (by omega)).mono ?_
  rintro e w8 ⟨bx, ra, rc, ys, rfl, hpy, hL⟩
  have HPY := Lib.hid (hpy.trans HP.out)
  have HT28 := Lib.hid (HT27.out.trans' hL.tch)
  have HL8 := Lib.hid (HL7.out.join hL)
  simp only [List.nil_append, List.cons_append] at HL8
  clear hL hpy HL7 HT27
  have HYL : Hid (ys.length = rs.length) := by have := congrArg List.length HPY.out; unfold Hid; simpa using this
  have HYN2 : Hid (∀ y ∈ ys, y.v.nodes ≤ 256) := fun y hy => by
    have hm : y.plain ∈ rs.map ME.plain := by rw [← HPY.out]; exact List.mem_map_of_mem hy
    obtain ⟨r, hr, hpr⟩ := List.mem_map.1 hm
    rw [plain_nodes_eq hpr]; exact HN.out r hr
  have HL5 := Lib.hid (HL8.out.sel [0, 1, 2, 3, 4, 5] (l' := [box b6 54 #[.slice a rs.length cap], box b9 3 #[.int .i64 (many : Int)], box b10 4 #[.bool false], box b11 27 #[.int .i64 y.sync, .int .i64 y.thread, .int .i64 y.branch, .int .i64 y.flag, .int .i64 y.v.kind, .int .i64 y.v.num, .slice y.v.addr y.v.parts.length y.v.cap], box b13 27 #[.int .i64 x.sync, .int .i64 x.thread, .int .i64 x.branch, .int .i64 x.flag, .int .i64 x.v.kind, .int .i64 x.v.num, .slice x.v.addr x.v.parts.length x.v.cap], allT bx (.slice ra ys.length rc) ys]) rfl (by decide))
  clear HL8
  have HTm := Lib.hid ((Touch.refl [] w8).drew)
  have HLN := Lib.hid (fun W (hW : Touch [] w8 W) => Len_q W g es (HQ.out _ (HL5.out.tch.trans' hW)))
  rw [HEL.out] at HLN
  have HSE := Lib.hid (fun W (hW : Touch [] w8 W) => SameEntry_ref y x W (HYI.out.touch0 (HT28.out.trans' hW)) (HXI.out _ (HL5.out.tch.trans' hW)) (by have := HYN.out; omega) (by have := HXN.out; omega))
  have HEQ : Hid (y.v.nodes ≤ 256 ∧ x.v.nodes ≤ 256 ∧ y.plain = x.plain) := ⟨HYN.out, HXN.out, HYX.out⟩
  simp only [ent_eq] at HSE
  have HFQ := Lib.hid (fun W (hW : Touch [] w8 W) => Find_q W g es m (HQ.out _ (HL5.out.tch.trans' hW)))
  have HFR := Lib.hid (fun W (hW : Touch [] w8 W) => Find_ref W a cap rs m (HE.out _ (HL5.out.tch.trans' hW)) (by omega))
  rw [← HP.out] at HFR
  have hnil := seq2_not_nil
  obtain ⟨v0, _, hl6, _, _⟩ := HL5.out.c1 0 rfl
  obtain ⟨x0, x1, x2, x3, x4, x5, x6, _, hl11, _, _⟩ := HL5.out.c7 3 rfl
  obtain ⟨y0, y1, y2, y3, y4, y5, y6, _, hl13, _, _⟩ := HL5.out.c7 4 rfl
  go_wp2_with fail
  go_region_held3 (fun w' => w'.cell? ⟨b6, 0, none⟩ = some (.slice a rs.length cap) ∧ (w'.cell? ⟨b11, 0, none⟩ = some (.int .i64 y.sync) ∧ w'.cell? ⟨b11, 1, none⟩ = some (.int .i64 y.thread) ∧ w'.cell? ⟨b11, 2, none⟩ = some (.int .i64 y.branch) ∧ w'.cell? ⟨b11, 3, none⟩ = some (.int .i64 y.flag) ∧ w'.cell? ⟨b11, 4, none⟩ = some (.int .i64 y.v.kind) ∧ w'.cell? ⟨b11, 5, none⟩ = some (.int .i64 y.v.num) ∧ w'.cell? ⟨b11, 6, none⟩ = some (.slice y.v.addr y.v.parts.length y.v.cap)) ∧
    (w'.cell? ⟨b13, 0, none⟩ = some (.int .i64 x.sync) ∧ w'.cell? ⟨b13, 1, none⟩ = some (.int .i64 x.thread) ∧ w'.cell? ⟨b13, 2, none⟩ = some (.int .i64 x.branch) ∧ w'.cell? ⟨b13, 3, none⟩ = some (.int .i64 x.flag) ∧ w'.cell? ⟨b13, 4, none⟩ = some (.int .i64 x.v.kind) ∧ w'.cell? ⟨b13, 5, none⟩ = some (.int .i64 x.v.num) ∧ w'.cell? ⟨b13, 6, none⟩ = some (.slice x.v.addr x.v.parts.length x.v.cap))) (go_keep) (first
    | (go_at_call 19; refine (HLN.out _ HTm.out).mono ?_; rintro e w' ⟨rfl, rfl⟩)
    | (go_at_call 21; refine (HSE.out _ HTm.out).mono ?_; rintro e w6 ⟨cc, rfl, hcc, ht⟩; (obtain rfl : cc = true := hcc.2 HEQ.out); have HTm := Lib.hid (HTm.out.trans' ht); clear hcc ht; have HLn := Lib.hid (HL5.out.touch HTm.out); clear v0 hl6 x0 x1 x2 x3 x4 x5 x6 hl11 y0 y1 y2 y3 y4 y5 y6 hl13; obtain ⟨v0, _, hl6, _, _⟩ := HLn.out.c1 0 rfl; obtain ⟨x0, x1, x2, x3, x4, x5, x6, _, hl11, _, _⟩ := HLn.out.c7 3 rfl; obtain ⟨y0, y1, y2, y3, y4, y5, y6, _, hl13, _, _⟩ := HLn.out.c7 4 rfl)
    | (go_at_call 20; refine (HFQ.out _ HTm.out).mono ?_; rintro e w6 ⟨r1, rfl, hr1, ht⟩; have HTm := Lib.hid (HTm.out.trans' ht); have HR1 := Lib.hid hr1; clear hr1 ht; have HLn := Lib.hid (HL5.out.touch HTm.out); clear v0 hl6 x0 x1 x2 x3 x4 x5 x6 hl11 y0 y1 y2 y3 y4 y5 y6 hl13; obtain ⟨v0, _, hl6, _, _⟩ := HLn.out.c1 0 rfl; obtain ⟨x0, x1, x2, x3, x4, x5, x6, _, hl11, _, _⟩ := HLn.out.c7 3 rfl; obtain ⟨y0, y1, y2, y3, y4, y5, y6, _, hl13, _, _⟩ := HLn.out.c7 4 rfl)
    | (go_at_call 75; refine (HFR.out _ HTm.out).mono ?_; rintro e w6 ⟨r2, rfl, hr2, ht⟩; (obtain rfl := HR1.out.unique hr2); have HTm := Lib.hid (HTm.out.trans' ht); clear hr2 ht; have HLn := Lib.hid (HL5.out.touch HTm.out); clear v0 hl6 x0 x1 x2 x3 x4 x5 x6 hl11 y0 y1 y2 y3 y4 y5 y6 hl13; obtain ⟨v0, _, hl6, _, _⟩ := HLn.out.c1 0 rfl; obtain ⟨x0, x1, x2, x3, x4, x5, x6, _, hl11, _, _⟩ := HLn.out.c7 3 rfl; obtain ⟨y0, y1, y2, y3, y4, y5, y6, _, hl13, _, _⟩ := HLn.out.c7 4 rfl))
  rename_i hHeld
  clear hHeld HLN HSE HFQ HFR HR1 HEQ hnil HYX HXN HXI HYN HYI HT28 HQ HEI x0 x1 x2 x3 x4 x5 x6 hl11 y0 y1 y2 y3 y4 y5 y6 hl13 v0 hl6
  generalize HWn : w6 = wn at HLn ⊢
  go_wp2_with fail
  refine wp_name ?_
  intro w9 hw9
  have HL9 := Lib.hid (HLn.out.al1 hw9)
  simp only [List.nil_append, List.cons_append] at HL9
  obtain ⟨b20, hb20⟩ : ∃ b, wn.heap.size = b := ⟨_, rfl⟩
  rw [hb20] at HL9 ⊢
  clear hw9 hb20 HLn HTm HL5
  have HLR : Hid (Led [] w w9 (isR a rs.length cap many b6 b9 b10 b20 bx (.slice ra ys.length rc) ys 0)) := by
    have h := HL9.out.addFact (p := (0 = 0 ∨ 0 < many)) (.inl rfl)
    exact h.sel [0, 1, 2, 6, 7, 5] rfl (by decide)
  clear HL9
  refine (wpIn_wide (n := 0)).1 ?_
  refine range_allL (bx := bx) (ra := ra) (rc := rc) (ys := ys) rfl rfl (by rw [HYL.out]; omega) HYN2.out (isR a rs.length cap many b6 b9 b10 b20 bx (.slice ra ys.length rc) ys)
    (fun c lx => c = .exit 0 ∧ ∃ k, lx = (isR a rs.length cap many b6 b9 b10 b20 bx (.slice ra ys.length rc) ys k).set 4 (fact (k ≤ rs.length ∧ k = max 1 many))) 5 (fun _ => rfl) HLR.out ?hround ?hdone ?hstop
  case hround =>
    intro k x W o0 hk hxk h
    have hk' : k < rs.length := by rw [← HYL.out]; exact hk
    rw [HPY.out, List.getElem?_map, List.getElem?_eq_getElem hk'] at hxk
    have HX : Hid (rs[k].plain = x.plain) := by unfold Hid; simpa using hxk
    obtain ⟨D, hD⟩ : ∃ D, w9.heap.size = D := ⟨_, rfl⟩
    rw [hD] at h ⊢
    have HK := Lib.hid h
    clear h hxk hD
    rw [ent_eq]
    gi_wp2
    refine ⟨_, HK.out.alloc _ _, fun W2 o h2 => ?_⟩
    obtain ⟨be, hbe⟩ : ∃ b, W.heap.size = b := ⟨_, rfl⟩
    rw [hbe] at h2 ⊢
    have HK2 := Lib.hid h2
    simp only [isR, marks, List.nil_append, List.cons_append] at HK2
    clear hbe h2 HK
    have HFa : Hid (k = 0 ∨ k < many) := HK2.out.fact 4 rfl
    have HVX : Hid (x.v.In W2) := HK2.out.valsIn 6 rfl _ (by simp)
    have HLK := Lib.hid (HI.out rs[k] (List.getElem_mem hk') W2 HK2.out.tch)
    have HLN := Lib.hid (HN.out rs[k] (List.getElem_mem hk'))
    obtain ⟨b2, o2, hbo2, hbb2, hent⟩ := HE.out W2 HK2.out.tch k hk'
    subst hbo2
    generalize rs[k] = y at hent HX HLK HLN
    have HY1 := Lib.hid hent
    have HX1 : Hid (EntAt W2 be 0 x) := by obtain ⟨c0, c1, c2, c3, c4, c5, c6, _⟩ := HK2.out.c7 9 rfl; exact ⟨c0, c1, c2, c3, c4, c5, c6⟩
    obtain ⟨_, _, _, _, _, _, _, _, zx, _, _⟩ := HK2.out.c7 9 rfl
    obtain ⟨n0, fn, zn, _, _⟩ := HK2.out.c1 3 rfl
    obtain ⟨l0, _, zl, _, _⟩ := HK2.out.c1 0 rfl
    obtain ⟨m0, _, zm, _, _⟩ := HK2.out.c1 1 rfl
    have HN0 := Lib.hid n0
    have HL0 := Lib.hid l0
    have HSE := Lib.hid (fun W (hW : Touch [] W2 W) => SameEntry_ref x y W (HVX.out.touch0 hW) (HLK.out.touch0 hW) (by rw [plain_nodes_eq HX.out]; have := HLN.out; omega) (by have := HLN.out; omega))
    have HEQ : Hid (x.v.nodes ≤ 256 ∧ y.v.nodes ≤ 256 ∧ x.plain = y.plain) := ⟨by rw [plain_nodes_eq HX.out]; exact HLN.out, HLN.out, HX.out.symm⟩
    clear hent
    simp only [ent_eq] at HSE
    obtain ⟨x0, x1, x2, x3, x4, x5, x6⟩ := HX1.out
    obtain ⟨y0, y1, y2, y3, y4, y5, y6⟩ := HY1.out
    simp only [Nat.zero_add] at x1 x2 x3 x4 x5 x6
    have hg1 : ¬ (rs.length : Int) ≤ (k : Int) := by omega
    have hg2 : ¬ rs.length ≤ k := by omega
    have hg3 : (k : Int) < (rs.length : Int) := by omega
    have hg4 : decide ((rs.length : Int) ≤ (k : Int)) = false := by simp; omega
    have hk0 : (0 : Int) ≤ (k : Int) := by omega
    gi_wp2_with fail
    refine region_held_round (S := fun w' => w'.cell? ⟨b20, 0, none⟩ = some (.int .i64 (k : Int)) ∧ w'.cell? ⟨b6, 0, none⟩ = some (.slice (some ⟨b2, o2, none⟩) rs.length cap) ∧
      (w'.cell? ⟨be, 0, none⟩ = some (.int .i64 x.sync) ∧ w'.cell? ⟨be, 1, none⟩ = some (.int .i64 x.thread) ∧ w'.cell? ⟨be, 2, none⟩ = some (.int .i64 x.branch) ∧ w'.cell? ⟨be, 3, none⟩ = some (.int .i64 x.flag) ∧ w'.cell? ⟨be, 4, none⟩ = some (.int .i64 x.v.kind) ∧ w'.cell? ⟨be, 5, none⟩ = some (.int .i64 x.v.num) ∧ w'.cell? ⟨be, 6, none⟩ = some (.slice x.v.addr x.v.parts.length x.v.cap)) ∧
      (w'.cell? ⟨b2, o2 + k * 7, none⟩ = some (.int .i64 y.sync) ∧ w'.cell? ⟨b2, o2 + k * 7 + 1, none⟩ = some (.int .i64 y.thread) ∧ w'.cell? ⟨b2, o2 + k * 7 + 2, none⟩ = some (.int .i64 y.branch) ∧ w'.cell? ⟨b2, o2 + k * 7 + 3, none⟩ = some (.int .i64 y.flag) ∧ w'.cell? ⟨b2, o2 + k * 7 + 4, none⟩ = some (.int .i64 y.v.kind) ∧ w'.cell? ⟨b2, o2 + k * 7 + 5, none⟩ = some (.int .i64 y.v.num) ∧ w'.cell? ⟨b2, o2 + k * 7 + 6, none⟩ = some (.slice y.v.addr y.v.parts.length y.v.cap)))
      (by rintro ⟨_, _, h⟩; exact h) (by kernel_rfl) (by kernel_rfl) ?_ (fun hHeld => ?_)
    · (try dsimp only)
      go_keep
    refine wpAnyH_takeD (i := 0) (d := some 94) (v := ?_) rfl rfl (by kernel_rfl) (by kernel_rfl) (by kernel_rfl) (fun _ _ _ h => h) (Or.inl ⟨by rfl, ?_⟩) (by assumption) ?_
    rotate_left
    · intro w hSw
      (try dsimp only at hSw)
      first | (go_simp; done) | (go_simp; with_reducible rfl)
    (try simp only [Act.put, List.setIfInBounds_toArray, List.set_cons_zero, List.set_cons_succ])
    refine wpAnyH_takeD (i := 1) (d := some 95) (v := ?_) rfl rfl (by kernel_rfl) (by kernel_rfl) (by kernel_rfl) (fun _ _ _ h => h) (Or.inl ⟨by rfl, ?_⟩) (by assumption) ?_
    rotate_left
    · intro w hSw
      (try dsimp only at hSw)
      first | (go_simp; done) | (go_simp; with_reducible rfl)
    (try simp only [Act.put, List.setIfInBounds_toArray, List.set_cons_zero, List.set_cons_succ])
    refine wpAnyH_takeD (i := 2) (d := some 96) (v := ?_) rfl rfl (by kernel_rfl) (by kernel_rfl) (by kernel_rfl) (fun _ _ _ h => h) (Or.inl ⟨by rfl, ?_⟩) (by assumption) ?_
    rotate_left
    · intro w hSw
      (try dsimp only at hSw)
      first | (go_simp; done) | (go_simp; with_reducible rfl)
    (try simp only [Act.put, List.setIfInBounds_toArray, List.set_cons_zero, List.set_cons_succ])
    refine wpAnyH_takeD (i := 3) (d := some 97) (v := ?_) rfl rfl (by kernel_rfl) (by kernel_rfl) (by kernel_rfl) (fun _ _ _ h => h) (Or.inl ⟨by rfl, ?_⟩) (by assumption) ?_
    rotate_left
    · intro w hSw
      (try dsimp only at hSw)
      first | (go_simp; done) | (go_simp; with_reducible rfl)
    (try simp only [Act.put, List.setIfInBounds_toArray, List.set_cons_zero, List.set_cons_succ])
    refine wpAnyH_takeD (i := 4) (d := some 98) (v := ?_) rfl rfl (by kernel_rfl) (by kernel_rfl) (by kernel_rfl) (fun _ _ _ h => h) (Or.inl ⟨by rfl, ?_⟩) (by assumption) ?_
    rotate_left
    · intro w hSw
      (try dsimp only at hSw)
      first | (go_simp; done) | (go_simp; with_reducible rfl)
    (try simp only [Act.put, List.setIfInBounds_toArray, List.set_cons_zero, List.set_cons_succ])
    refine wpAnyH_takeD (i := 5) (d := some 99) (v := ?_) rfl rfl (by kernel_rfl) (by kernel_rfl) (by kernel_rfl) (fun _ _ _ h => h) (Or.inl ⟨by rfl, ?_⟩) (by assumption) ?_
    rotate_left
    · intro w hSw
      (try dsimp only at hSw)
      first | (go_simp; done) | (go_simp; with_reducible rfl)
    (try simp only [Act.put, List.setIfInBounds_toArray, List.set_cons_zero, List.set_cons_succ])
    refine wpAnyH_takeD (i := 6) (d := some 100) (v := ?_) rfl rfl (by kernel_rfl) (by kernel_rfl) (by kernel_rfl) (fun _ _ _ h => h) (Or.inl ⟨by rfl, ?_⟩) (by assumption) ?_
    rotate_left
    · intro w hSw
      (try dsimp only at hSw)
      first | (go_simp; done) | (go_simp; with_reducible rfl)
    (try simp only [Act.put, List.setIfInBounds_toArray, List.set_cons_zero, List.set_cons_succ])
    refine wpAnyH_takeD (i := 7) (d := some 101) (v := ?_) rfl rfl (by kernel_rfl) (by kernel_rfl) (by kernel_rfl) (fun _ _ _ h => h) (Or.inl ⟨by rfl, ?_⟩) (by assumption) ?_
    rotate_left
    · intro w hSw
      (try dsimp only at hSw)
      first | (go_simp; done) | (go_simp; with_reducible rfl)
    (try simp only [Act.put, List.setIfInBounds_toArray, List.set_cons_zero, List.set_cons_succ])
    refine wpAnyH_takeD (i := 8) (d := some 102) (v := ?_) rfl rfl (by kernel_rfl) (by kernel_rfl) (by kernel_rfl) (fun _ _ _ h => h) (Or.inl ⟨by rfl, ?_⟩) (by assumption) ?_
    rotate_left
    · intro w hSw
      (try dsimp only at hSw)
      first | (go_simp; done) | (go_simp; with_reducible rfl)
    (try simp only [Act.put, List.setIfInBounds_toArray, List.set_cons_zero, List.set_cons_succ])
    refine wpAnyH_takeD (i := 9) (d := some 103) (v := ?_) rfl rfl (by kernel_rfl) (by kernel_rfl) (by kernel_rfl) (fun _ _ _ h => h) (Or.inl ⟨by rfl, ?_⟩) (by assumption) ?_
    rotate_left
    · intro w hSw
      (try dsimp only at hSw)
      first | (go_simp; done) | (go_simp; with_reducible rfl)
    (try simp only [Act.put, List.setIfInBounds_toArray, List.set_cons_zero, List.set_cons_succ])
    refine wpAnyH_takeD (i := 10) (d := some 104) (v := ?_) rfl rfl (by kernel_rfl) (by kernel_rfl) (by kernel_rfl) (fun _ _ _ h => h) (Or.inl ⟨by rfl, ?_⟩) (by assumption) ?_
    rotate_left
    · intro w hSw
      (try dsimp only at hSw)
      first | (go_simp; done) | (go_simp; with_reducible rfl)
    (try simp only [Act.put, List.setIfInBounds_toArray, List.set_cons_zero, List.set_cons_succ])
    refine wpAnyH_takeD (i := 11) (d := some 105) (v := ?_) rfl rfl (by kernel_rfl) (by kernel_rfl) (by kernel_rfl) (fun _ _ _ h => h) (Or.inl ⟨by rfl, ?_⟩) (by assumption) ?_
    rotate_left
    · intro w hSw
      (try dsimp only at hSw)
      first | (go_simp; done) | (go_simp; with_reducible rfl)
    (try simp only [Act.put, List.setIfInBounds_toArray, List.set_cons_zero, List.set_cons_succ])
    refine wpAnyH_takeD (i := 12) (d := some 106) (v := ?_) rfl rfl (by kernel_rfl) (by kernel_rfl) (by kernel_rfl) (fun _ _ _ h => h) (Or.inl ⟨by rfl, ?_⟩) (by assumption) ?_
    rotate_left
    · intro w hSw
      (try dsimp only at hSw)
      first | (go_simp; done) | (go_simp; with_reducible rfl)
    (try simp only [Act.put, List.setIfInBounds_toArray, List.set_cons_zero, List.set_cons_succ])
    refine wpAnyH_takeD (i := 13) (d := some 107) (v := ?_) rfl rfl (by kernel_rfl) (by kernel_rfl) (by kernel_rfl) (fun _ _ _ h => h) (Or.inl ⟨by rfl, ?_⟩) (by assumption) ?_
    rotate_left
    · intro w hSw
      (try dsimp only at hSw)
      first | (go_simp; done) | (go_simp; with_reducible rfl)
    (try simp only [Act.put, List.setIfInBounds_toArray, List.set_cons_zero, List.set_cons_succ])
    refine wpAnyH_takeD (i := 14) (d := some 108) (v := ?_) rfl rfl (by kernel_rfl) (by kernel_rfl) (by kernel_rfl) (fun _ _ _ h => h) (Or.inl ⟨by rfl, ?_⟩) (by assumption) ?_
    rotate_left
    · intro w hSw
      (try dsimp only at hSw)
      first | (go_simp; done) | (go_simp; with_reducible rfl)
    (try simp only [Act.put, List.setIfInBounds_toArray, List.set_cons_zero, List.set_cons_succ])
    refine wpAnyH_takeD (i := 15) (d := some 109) (v := ?_) rfl rfl (by kernel_rfl) (by kernel_rfl) (by kernel_rfl) (fun _ _ _ h => h) (Or.inl ⟨by rfl, ?_⟩) (by assumption) ?_
    rotate_left
    · intro w hSw
      (try dsimp only at hSw)
      first | (go_simp; done) | (go_simp; with_reducible rfl)
    (try simp only [Act.put, List.setIfInBounds_toArray, List.set_cons_zero, List.set_cons_succ])
    refine wpAnyH_takeD (i := 16) (d := some 110) (v := ?_) rfl rfl (by kernel_rfl) (by kernel_rfl) (by kernel_rfl) (fun _ _ _ h => h) (Or.inl ⟨by rfl, ?_⟩) (by assumption) ?_
    rotate_left
    · intro w hSw
      (try dsimp only at hSw)
      first | (go_simp; done) | (go_simp; with_reducible rfl)
    (try simp only [Act.put, List.setIfInBounds_toArray, List.set_cons_zero, List.set_cons_succ])
    refine wpAnyH_ready (rs := [17]) (by kernel_rfl) (by simp) ?_
    refine AllReadyH.cons rfl (fun K hK => ?_) AllReadyH.nil
    go_simp
    refine (HSE.out _ (Touch.refl [] W2).drew).mono ?_
    rintro en wn ⟨cc, rfl, hcc, ht⟩
    obtain rfl : cc = true := hcc.2 HEQ.out
    have HT := Lib.hid ((Touch.refl [] W2).drew.trans' ht)
    clear ht hcc x0 x1 x2 x3 x4 x5 x6 y0 y1 y2 y3 y4 y5 y6 n0 l0 hHeld
    obtain ⟨x0, x1, x2, x3, x4, x5, x6⟩ := HX1.out.touch HT.out
    obtain ⟨y0, y1, y2, y3, y4, y5, y6⟩ := HY1.out.touch HT.out
    simp only [Nat.zero_add] at x1 x2 x3 x4 x5 x6
    have n0 := HT.out.cellOf HN0.out
    have l0 := HT.out.cellOf HL0.out
    go_simp
    refine hK.out _ _ ?_ (fun hHeld => ?_)
    · (try dsimp only)
      go_keep
    clear hK K
    (try simp only [Act.put, List.setIfInBounds_toArray, List.set_cons_zero, List.set_cons_succ])
    refine wpAnyH_takeD (i := 18) (d := some 112) (v := ?_) rfl rfl (by kernel_rfl) (by kernel_rfl) (by kernel_rfl) (fun _ _ _ h => h) (Or.inl ⟨by rfl, ?_⟩) (by assumption) ?_
    rotate_left
    · intro w hSw
      (try dsimp only at hSw)
      first | (go_simp; done) | (go_simp; with_reducible rfl)
    (try simp only [Act.put, List.setIfInBounds_toArray, List.set_cons_zero, List.set_cons_succ])
    refine wpAnyH_takeD (i := 19) (d := some 113) (v := ?_) rfl rfl (by kernel_rfl) (by kernel_rfl) (by kernel_rfl) (fun _ _ _ h => h) (Or.inl ⟨by rfl, ?_⟩) (by assumption) ?_
    rotate_left
    · intro w hSw
      (try dsimp only at hSw)
      first | (go_simp; done) | (go_simp; with_reducible rfl)
    (try simp only [Act.put, List.setIfInBounds_toArray, List.set_cons_zero, List.set_cons_succ])
    refine wpAnyH_done (by kernel_rfl) ?_ _
    have HK3 := Lib.hid (HK2.out.touch HT.out)
    clear x0 x1 x2 x3 x4 x5 x6 y0 y1 y2 y3 y4 y5 y6 n0 l0 hHeld fn m0 zx zn zl zm HK2 hbb2
    obtain ⟨n0, fn, zn, _, _⟩ := HK3.out.c1 3 rfl
    obtain ⟨m0, _, zm, _, _⟩ := HK3.out.c1 1 rfl
    have n5 := HK3.out.ne 1 3 rfl rfl (by decide)
    have n6 := Ne.symm n5
    by_cases hmn : (many : Int) ≤ (k : Int) + 1
    · gi_wp2_with fail
      have hs := (HK3.out.set 3 rfl 0 (.int .i64 ((k : Int) + 1))).setFact 4 rfl (q := (k + 1 ≤ rs.length ∧ k + 1 = max 1 many)) ⟨by omega, by have := HFa.out; omega⟩
      exact ⟨_, [], ⟨rfl, k + 1, rfl⟩, hs.sel [0, 1, 2, 3, 4, 5, 7, 8] rfl (by decide)⟩
    · gi_wp2_with fail
      have hs := (HK3.out.set 3 rfl 0 (.int .i64 ((k : Int) + 1))).setFact 4 rfl (q := (k + 1 = 0 ∨ k + 1 < many)) (.inr (by omega))
      exact ⟨[], hs.sel [0, 1, 2, 3, 4, 5, 7, 8] rfl (by decide)⟩
  case hdone =>
    intro W h
    obtain ⟨D, hD⟩ : ∃ D, w9.heap.size = D := ⟨_, rfl⟩
    rw [hD] at h ⊢
    rw [HYL.out] at h
    have HK := Lib.hid h
    simp only [isR, marks1, List.nil_append, List.cons_append] at HK
    clear h hD
    obtain ⟨n0, fn, zn, _, _⟩ := HK.out.c1 3 rfl
    obtain ⟨l0, _, zl, _, _⟩ := HK.out.c1 0 rfl
    obtain ⟨m0, _, zm, _, _⟩ := HK.out.c1 1 rfl
    obtain ⟨q0, qf, zq, _, _⟩ := HK.out.c1 2 rfl
    have HFa : Hid (rs.length = 0 ∨ rs.length < many) := HK.out.fact 4 rfl
    go_wp2
    all_goals have hfa := HFa.out
    all_goals exact led_ret1 Try.results27 rfl HK.out 2 rfl (by first | rfl | (simp only [beq_iff_eq]; omega)) 6 rfl (fun W' h => ⟨rfl, h.tch⟩)
  case hstop =>
    rintro c W lx ⟨rfl, k, rfl⟩ h
    obtain ⟨D, hD⟩ : ∃ D, w9.heap.size = D := ⟨_, rfl⟩
    rw [hD] at h ⊢
    have HK := Lib.hid h
    simp only [isR, marks1, List.nil_append, List.cons_append, List.set_cons_succ, List.set_cons_zero] at HK
    clear h hD
    obtain ⟨n0, fn, zn, _, _⟩ := HK.out.c1 3 rfl
    obtain ⟨l0, _, zl, _, _⟩ := HK.out.c1 0 rfl
    obtain ⟨m0, _, zm, _, _⟩ := HK.out.c1 1 rfl
    obtain ⟨q0, qf, zq, _, _⟩ := HK.out.c1 2 rfl
    have HFa : Hid (k ≤ rs.length ∧ k = max 1 many) := HK.out.fact 4 rfl
    refine wpIn_wide.2 ?_
    go_wp2
    all_goals obtain ⟨hfa, hfb⟩ := HFa.out
    all_goals exact led_ret1 Try.results27 rfl HK.out 2 rfl (by first | rfl | (simp only [beq_iff_eq]; omega)) 6 rfl (fun W' h => ⟨rfl, h.tch⟩)
end Go.Proofs.Ytihmbgdkllmkaaa
