/-
  act() of law 13 (betrothallaw13/law.go): Drop, Purge, Copy by both.
-/
import Derived.Test.YtihmbgdkllmkaaaAct13
import Derived.Test.YtihmbgdkllmkaaaOver
namespace Go.Proofs.Ytihmbgdkllmkaaa
open Go.RowKit Go.Shelf
set_option maxRecDepth 100000
set_option linter.unusedVariables false
set_option linter.unusedSimpArgs false

theorem AtRef.atR {es : List ME} {i : Int} {y : ME} {c : Bool} (h : AtRef es i y c) : AtR (es.map ME.plain) i y c := by
  rcases h with ⟨h1, h2, h3⟩ | ⟨h1, h2, h3⟩
  · exact .inl ⟨h1, h2, by rw [List.getElem?_map, h3]; rfl⟩
  · exact .inr ⟨h1, by simpa using h2, h3⟩
theorem Led.qDropS {T : List Nat} {w0 w : World} {l : List Thing} {g : Nat} {es : List ME} (h : Led T w0 w l) (i : Nat) (hi : l[i]? = some (queueT g es)) (z : Int) (hes : es.length ≤ 1048576) :
    Calls Try.prog 18 #[.pointer (some ⟨g, 0, none⟩), .int .i64 z] w fun e w' => ∃ y c, e = .returned (.tuple #[y.val, .bool c]) ∧ AtRef es z y c ∧ Led T w0 w' (l.set i (queueT g (if c = true then es.eraseIdx z.toNat else es))) := by
  refine (h.qDrop i hi z hes).mono ?_
  rintro e w' (⟨y, h0, hy, rfl, hL⟩ | ⟨hn, rfl, hL⟩)
  · exact ⟨y, true, rfl, .inl ⟨rfl, h0, hy⟩, hL⟩
  · exact ⟨ME.zero, false, rfl, .inr ⟨rfl, hn, rfl⟩, hL⟩
theorem eraseIdx_map_plain (es : List ME) (i : Nat) : (es.eraseIdx i).map ME.plain = (es.map ME.plain).eraseIdx i := by
  simp only [List.eraseIdx_eq_take_drop_succ, List.map_append, List.map_take, List.map_drop]
theorem filter_map_plain (es : List ME) (zs : List Int) : (es.filter fun e => !decide (e.plain.sync ∈ zs)).map ME.plain = (es.map ME.plain).filter fun p => !decide (p.sync ∈ zs) := by
  rw [List.filter_map]
  rfl
theorem Both13.sub {P P1 : World → Prop} {es rs es1 rs1 : List ME} {a a1 : Option Addr} {cap cap1 : Nat} (h : Both13 P es rs a cap) (hP1 : ∀ W, P1 W → P W ∧ EntsAt W a1 rs1) (h1 : es1.map ME.plain = rs1.map ME.plain) (he : ∀ e ∈ es1, e ∈ es) (hr : ∀ r ∈ rs1, r ∈ rs) (hl : es1.length ≤ es.length) (hc1 : rs1.length ≤ cap1) : Both13 P1 es1 rs1 a1 cap1 :=
  ⟨h1, hc1, Nat.le_trans hl h.2.2.1, fun e hh => h.2.2.2.1 e (he e hh), fun W hW => by
    obtain ⟨h2, h3⟩ := hP1 W hW
    obtain ⟨g1, _, g3⟩ := h.2.2.2.2 W h2
    exact ⟨fun e hh => g1 e (he e hh), h3, fun r hh => g3 r (hr r hh)⟩⟩
theorem Both13.copy {P : World → Prop} {es rs ys : List ME} {a : Option Addr} {cap : Nat} (h : Both13 P es rs a cap) (hp : ys.map ME.plain = es.map ME.plain) : Both13 (fun W => P W ∧ ∀ y ∈ ys, y.v.In W) ys rs a cap := by
  have hl : ys.length = es.length := by have := congrArg List.length hp; simpa using this
  refine ⟨hp.trans h.1, h.2.1, by rw [hl]; exact h.2.2.1, fun y hy => ?_, fun W hW => ⟨hW.2, (h.2.2.2.2 W hW.1).2⟩⟩
  have hm : y.plain ∈ es.map ME.plain := by rw [← hp]; exact List.mem_map_of_mem hy
  obtain ⟨e, he, hpe⟩ := List.mem_map.1 hm
  rw [plain_nodes_eq hpe]
  exact h.2.2.2.1 e he
theorem Both13.drop {P P1 : World → Prop} {es rs rs1 : List ME} {a a1 : Option Addr} {cap cap1 i : Nat} {c : Bool} (h : Both13 P es rs a cap) (hP1 : ∀ W, P1 W → P W ∧ EntsAt W a1 rs1) (hrs : rs1 = if c = true then rs.eraseIdx i else rs) (hc1 : rs1.length ≤ cap1) : Both13 P1 (if c = true then es.eraseIdx i else es) rs1 a1 cap1 := by
  subst hrs
  cases c with
  | true => exact h.sub hP1 (by simp only [if_true, eraseIdx_map_plain, h.1]) (fun e he => List.mem_of_mem_eraseIdx he) (fun e he => List.mem_of_mem_eraseIdx he) (List.length_eraseIdx_le es i) hc1
  | false => exact h.sub hP1 (by simpa using h.1) (fun e he => he) (fun e he => he) (Nat.le_refl _) hc1
theorem Both13.purge {P P1 : World → Prop} {es rs rs1 : List ME} {a a1 : Option Addr} {cap cap1 : Nat} {zs : List Int} (h : Both13 P es rs a cap) (hP1 : ∀ W, P1 W → P W ∧ EntsAt W a1 rs1) (hrs : rs1 = rs.filter fun e => !decide (e.sync ∈ zs)) (hc1 : rs1.length ≤ cap1) :
    Both13 P1 (es.filter fun e => !decide (e.plain.sync ∈ zs)) rs1 a1 cap1 ∧ ((es.length - (es.filter fun e => !decide (e.plain.sync ∈ zs)).length : Nat) : Int) = (rs.length : Int) - (rs1.length : Int) := by
  subst hrs
  have h1 : (es.filter fun e => !decide (e.plain.sync ∈ zs)).map ME.plain = (rs.filter fun e => !decide (e.sync ∈ zs)).map ME.plain := by
    rw [filter_map_plain, h.1, ← filter_map_plain]
    rfl
  refine ⟨h.sub hP1 h1 (fun e he => (List.mem_filter.1 he).1) (fun e he => (List.mem_filter.1 he).1) (List.length_filter_le _ es) hc1, ?_⟩
  have h2 := congrArg List.length h1
  simp only [List.length_map] at h2
  have h3 := List.length_filter_le (fun e : ME => !decide (e.plain.sync ∈ zs)) es
  have h4 := h.len
  omega
set_option maxHeartbeats 4000000 in
theorem act13_drop4 (T : List Nat) (w : World) (P : World → Prop) (g : Nat) (es rs : List ME) (a : Option Addr) (cap : Nat) (x : CB) (h : Led T w w [queueT g es, stillT P]) (hB : Both13 P es rs a cap) (hw : x.what = 4) :
    Calls Try.prog 26 #[.pointer (some ⟨g, 0, none⟩), .agg #[.slice a rs.length cap], x.val] w (Acted13 T w P) := by
  skip
  obtain ⟨xw, xn, xm, xa, xc, xl⟩ := x
  have hrl : rs.length ≤ 4096 := by rw [← hB.len]; exact hB.2.2.1
  have HB := Lib.hid hB
  have HL0 := Lib.hid h
  clear h hB
  simp only [cb_eq]
  go_enter Try.func26, Try.ntmps26
  go_upto_region 1 with fail
  refine wp_name ?_
  intro w1 hw1
  have HL1 := Lib.hid (HL0.out.al3 hw1)
  simp only [List.nil_append, List.cons_append] at HL1
  obtain ⟨b7, hb7⟩ : ∃ b, w.heap.size + 1 + 1 = b := ⟨_, rfl⟩
  rw [hb7] at HL1 ⊢
  obtain ⟨b5, hb5⟩ : ∃ b, w.heap.size + 1 = b := ⟨_, rfl⟩
  rw [hb5] at HL1 ⊢
  obtain ⟨b4, hb4⟩ : ∃ b, w.heap.size = b := ⟨_, rfl⟩
  rw [hb4] at HL1 ⊢
  clear hw1 hb7 hb5 hb4 HL0
  obtain ⟨v0, vf, hl4, _, _⟩ := HL1.out.c1 2 rfl
  obtain ⟨x0, x1, x2, x3, _, _, _, _, hl5, _, _⟩ := HL1.out.c4 3 rfl
  obtain ⟨u0, uf, hl7, _, _⟩ := HL1.out.c1 4 rfl
  dsimp only at hw
  subst hw
  go_wp2_with fail
  refine (HL1.out.rDrop 1 rfl a cap rs xn HB.out.2.1 (fun W hW => (HB.out.2.2.2.2 W hW).2.1) (by omega)).mono ?_
  rintro e w2 ⟨a1, cap1, rs1, x, cx, rfl, hc1, hRx, hrs1, P1, hP1, hL⟩
  have HL2 := Lib.hid hL
  simp only [List.set_cons_zero, List.set_cons_succ] at HL2
  have HR := Lib.hid hRx
  have HC1 := Lib.hid hc1
  have HP1 := Lib.hid hP1
  have HRS := Lib.hid hrs1
  clear hL hRx hc1 hP1 hrs1 HL1 v0 vf hl4 x0 x1 x2 x3 hl5 u0 uf hl7
  simp only [ent_eq]
  obtain ⟨x0, x1, x2, x3, _, _, _, _, hl5, _, _⟩ := HL2.out.c4 3 rfl
  go_wp2_with fail
  refine wp_calls_name ?_
  intro w3 hw3
  have HL3 := Lib.hid (HL2.out.al2 hw3)
  simp only [List.nil_append, List.cons_append] at HL3
  obtain ⟨b18, hb18⟩ : ∃ b, w2.heap.size + 1 = b := ⟨_, rfl⟩
  rw [hb18] at HL3 ⊢
  obtain ⟨b17, hb17⟩ : ∃ b, w2.heap.size = b := ⟨_, rfl⟩
  rw [hb17] at HL3 ⊢
  clear hw3 hb18 hb17 HL2 x0 x1 x2 x3 hl5
  have hel : es.length ≤ 4096 := HB.out.2.2.1
  refine (HL3.out.qDropS 0 rfl xn (by omega)).mono ?_
  rintro e w4 ⟨y, cy, rfl, hRy, hL⟩
  have HL4 := Lib.hid hL
  simp only [List.set_cons_zero, List.set_cons_succ] at HL4
  obtain ⟨hyx, hcc⟩ := HR.out.plain hRy.atR HB.out.1
  subst hcc
  have HYX := Lib.hid hyx
  have HRY := Lib.hid hRy
  clear hL hRy hyx HL3
  simp only [ent_eq]
  go_wp2_with fail
  refine wp_name ?_
  intro w5 hw5
  have HL5 := Lib.hid (HL4.out.al1 hw5)
  simp only [List.nil_append, List.cons_append] at HL5
  obtain ⟨b20, hb20⟩ : ∃ b, w4.heap.size = b := ⟨_, rfl⟩
  rw [hb20] at HL5 ⊢
  clear hw5 hb20 HL4
  have HYN : Hid (y.v.nodes ≤ 256 ∧ x.v.nodes ≤ 256) := ⟨HRY.out.inq (p := fun y => y.v.nodes ≤ 256) (by simp [ME.zero, MT.zero, MT.nodes, MT.nodesAll]) HB.out.2.2.2.1, HR.out.inq (p := fun y => y.v.nodes ≤ 256) (by simp [ME.zero, MT.zero, MT.nodes, MT.nodesAll]) HB.out.rnodes⟩
  have HIN : Hid (∀ W, P1 W → y.v.In W ∧ x.v.In W) := fun W hW => by
    have h := HB.out.2.2.2.2 W (HP1.out W hW).1
    exact ⟨HRY.out.inq (p := fun y => y.v.In W) (MT.in_zero W) h.1, HR.out.inq (p := fun y => y.v.In W) (MT.in_zero W) h.2.2⟩
  have HSE := Lib.hid (fun W (hW : P1 W) => SameEntry_ref y x W (HIN.out W hW).1 (HIN.out W hW).2 (by have := HYN.out; omega) (by have := HYN.out; omega))
  have HEQ : Hid (y.v.nodes ≤ 256 ∧ x.v.nodes ≤ 256 ∧ y.plain = x.plain) := ⟨HYN.out.1, HYN.out.2, HYX.out⟩
  simp only [ent_eq] at HSE
  obtain ⟨u0, uf, hl7, _, _⟩ := HL5.out.c1 4 rfl
  obtain ⟨q0, _, hl17, _, _⟩ := HL5.out.c1 5 rfl
  obtain ⟨x0, x1, x2, x3, x4, x5, x6, _, hl18, _, _⟩ := HL5.out.c7 6 rfl
  obtain ⟨y0, y1, y2, y3, y4, y5, y6, _, hl20, _, _⟩ := HL5.out.c7 7 rfl
  have n1 := HL5.out.ne 4 5 rfl rfl (by decide)
  have n2 := HL5.out.ne 4 6 rfl rfl (by decide)
  have n3 := HL5.out.ne 4 7 rfl rfl (by decide)
  have m1 := Ne.symm n1
  have m2 := Ne.symm n2
  have m3 := Ne.symm n3
  go_region_held3 (fun w' => w'.cell? ⟨b17, 0, none⟩ = some (.slice a1 rs1.length cap1) ∧ (w'.cell? ⟨b18, 0, none⟩ = some (.int .i64 x.sync) ∧ w'.cell? ⟨b18, 1, none⟩ = some (.int .i64 x.thread) ∧ w'.cell? ⟨b18, 2, none⟩ = some (.int .i64 x.branch) ∧ w'.cell? ⟨b18, 3, none⟩ = some (.int .i64 x.flag) ∧ w'.cell? ⟨b18, 4, none⟩ = some (.int .i64 x.v.kind) ∧ w'.cell? ⟨b18, 5, none⟩ = some (.int .i64 x.v.num) ∧ w'.cell? ⟨b18, 6, none⟩ = some (.slice x.v.addr x.v.parts.length x.v.cap)) ∧
    (w'.cell? ⟨b20, 0, none⟩ = some (.int .i64 y.sync) ∧ w'.cell? ⟨b20, 1, none⟩ = some (.int .i64 y.thread) ∧ w'.cell? ⟨b20, 2, none⟩ = some (.int .i64 y.branch) ∧ w'.cell? ⟨b20, 3, none⟩ = some (.int .i64 y.flag) ∧ w'.cell? ⟨b20, 4, none⟩ = some (.int .i64 y.v.kind) ∧ w'.cell? ⟨b20, 5, none⟩ = some (.int .i64 y.v.num) ∧ w'.cell? ⟨b20, 6, none⟩ = some (.slice y.v.addr y.v.parts.length y.v.cap))) (go_keep) (first
    | (go_at_call 21; refine (HSE.out _ (HL5.out.drew.still 1 rfl)).mono ?_; rintro e w6 ⟨cc, rfl, hcc, ht⟩; (obtain rfl : cc = true := hcc.2 HEQ.out); have HL6 := Lib.hid (HL5.out.drew.touch ht); clear hcc ht u0 uf hl7 q0 hl17 x0 x1 x2 x3 x4 x5 x6 hl18 y0 y1 y2 y3 y4 y5 y6 hl20; obtain ⟨u0, uf, hl7, _, _⟩ := HL6.out.c1 4 rfl; obtain ⟨q0, _, hl17, _, _⟩ := HL6.out.c1 5 rfl; obtain ⟨x0, x1, x2, x3, x4, x5, x6, _, hl18, _, _⟩ := HL6.out.c7 6 rfl; obtain ⟨y0, y1, y2, y3, y4, y5, y6, _, hl20, _, _⟩ := HL6.out.c7 7 rfl))
  go_wp2
  have HL7 := Lib.hid (HL6.out.set 4 rfl 0 (.slice a1 rs1.length cap1))
  simp only [List.set_cons_succ, List.set_cons_zero, List.setIfInBounds_toArray] at HL7
  obtain ⟨s0, _⟩ := HL7.out.c1 4 rfl
  refine bodyPost_ret (v := .tuple #[.pointer (some ⟨g, 0, none⟩), .agg #[.slice a1 rs1.length cap1], .bool true]) (by simp [results, Try.results26, go_sem, s0]) rfl ?_
  exact ⟨g, _, rs1, a1, cap1, P1, rfl, HB.out.drop HP1.out HRS.out HC1.out, fun W hW => (HP1.out W hW).1, HL7.out.sel [0, 1] rfl (by decide)⟩
set_option maxHeartbeats 4000000 in
theorem act13_drop5 (T : List Nat) (w : World) (P : World → Prop) (g : Nat) (es rs : List ME) (a : Option Addr) (cap : Nat) (x : CB) (h : Led T w w [queueT g es, stillT P]) (hB : Both13 P es rs a cap) (hw : x.what = 5) :
    Calls Try.prog 26 #[.pointer (some ⟨g, 0, none⟩), .agg #[.slice a rs.length cap], x.val] w (Acted13 T w P) := by
  skip
  obtain ⟨xw, xn, xm, xa, xc, xl⟩ := x
  have hrl : rs.length ≤ 4096 := by rw [← hB.len]; exact hB.2.2.1
  have HB := Lib.hid hB
  have HL0 := Lib.hid h
  clear h hB
  simp only [cb_eq]
  go_enter Try.func26, Try.ntmps26
  go_upto_region 1 with fail
  refine wp_name ?_
  intro w1 hw1
  have HL1 := Lib.hid (HL0.out.al3 hw1)
  simp only [List.nil_append, List.cons_append] at HL1
  obtain ⟨b7, hb7⟩ : ∃ b, w.heap.size + 1 + 1 = b := ⟨_, rfl⟩
  rw [hb7] at HL1 ⊢
  obtain ⟨b5, hb5⟩ : ∃ b, w.heap.size + 1 = b := ⟨_, rfl⟩
  rw [hb5] at HL1 ⊢
  obtain ⟨b4, hb4⟩ : ∃ b, w.heap.size = b := ⟨_, rfl⟩
  rw [hb4] at HL1 ⊢
  clear hw1 hb7 hb5 hb4 HL0
  obtain ⟨v0, vf, hl4, _, _⟩ := HL1.out.c1 2 rfl
  obtain ⟨x0, x1, x2, x3, _, _, _, _, hl5, _, _⟩ := HL1.out.c4 3 rfl
  obtain ⟨u0, uf, hl7, _, _⟩ := HL1.out.c1 4 rfl
  dsimp only at hw
  subst hw
  go_wp2_with fail
  refine (HL1.out.rDrop 1 rfl a cap rs xn HB.out.2.1 (fun W hW => (HB.out.2.2.2.2 W hW).2.1) (by omega)).mono ?_
  rintro e w2 ⟨a1, cap1, rs1, x, cx, rfl, hc1, hRx, hrs1, P1, hP1, hL⟩
  have HL2 := Lib.hid hL
  simp only [List.set_cons_zero, List.set_cons_succ] at HL2
  have HR := Lib.hid hRx
  have HC1 := Lib.hid hc1
  have HP1 := Lib.hid hP1
  have HRS := Lib.hid hrs1
  clear hL hRx hc1 hP1 hrs1 HL1 v0 vf hl4 x0 x1 x2 x3 hl5 u0 uf hl7
  simp only [ent_eq]
  obtain ⟨x0, x1, x2, x3, _, _, _, _, hl5, _, _⟩ := HL2.out.c4 3 rfl
  go_wp2_with fail
  refine wp_calls_name ?_
  intro w3 hw3
  have HL3 := Lib.hid (HL2.out.al2 hw3)
  simp only [List.nil_append, List.cons_append] at HL3
  obtain ⟨b18, hb18⟩ : ∃ b, w2.heap.size + 1 = b := ⟨_, rfl⟩
  rw [hb18] at HL3 ⊢
  obtain ⟨b17, hb17⟩ : ∃ b, w2.heap.size = b := ⟨_, rfl⟩
  rw [hb17] at HL3 ⊢
  clear hw3 hb18 hb17 HL2 x0 x1 x2 x3 hl5
  have hel : es.length ≤ 4096 := HB.out.2.2.1
  refine (HL3.out.qDropS 0 rfl xn (by omega)).mono ?_
  rintro e w4 ⟨y, cy, rfl, hRy, hL⟩
  have HL4 := Lib.hid hL
  simp only [List.set_cons_zero, List.set_cons_succ] at HL4
  obtain ⟨hyx, hcc⟩ := HR.out.plain hRy.atR HB.out.1
  subst hcc
  have HYX := Lib.hid hyx
  have HRY := Lib.hid hRy
  clear hL hRy hyx HL3
  simp only [ent_eq]
  go_wp2_with fail
  refine wp_name ?_
  intro w5 hw5
  have HL5 := Lib.hid (HL4.out.al1 hw5)
  simp only [List.nil_append, List.cons_append] at HL5
  obtain ⟨b20, hb20⟩ : ∃ b, w4.heap.size = b := ⟨_, rfl⟩
  rw [hb20] at HL5 ⊢
  clear hw5 hb20 HL4
  have HYN : Hid (y.v.nodes ≤ 256 ∧ x.v.nodes ≤ 256) := ⟨HRY.out.inq (p := fun y => y.v.nodes ≤ 256) (by simp [ME.zero, MT.zero, MT.nodes, MT.nodesAll]) HB.out.2.2.2.1, HR.out.inq (p := fun y => y.v.nodes ≤ 256) (by simp [ME.zero, MT.zero, MT.nodes, MT.nodesAll]) HB.out.rnodes⟩
  have HIN : Hid (∀ W, P1 W → y.v.In W ∧ x.v.In W) := fun W hW => by
    have h := HB.out.2.2.2.2 W (HP1.out W hW).1
    exact ⟨HRY.out.inq (p := fun y => y.v.In W) (MT.in_zero W) h.1, HR.out.inq (p := fun y => y.v.In W) (MT.in_zero W) h.2.2⟩
  have HSE := Lib.hid (fun W (hW : P1 W) => SameEntry_ref y x W (HIN.out W hW).1 (HIN.out W hW).2 (by have := HYN.out; omega) (by have := HYN.out; omega))
  have HEQ : Hid (y.v.nodes ≤ 256 ∧ x.v.nodes ≤ 256 ∧ y.plain = x.plain) := ⟨HYN.out.1, HYN.out.2, HYX.out⟩
  simp only [ent_eq] at HSE
  obtain ⟨u0, uf, hl7, _, _⟩ := HL5.out.c1 4 rfl
  obtain ⟨q0, _, hl17, _, _⟩ := HL5.out.c1 5 rfl
  obtain ⟨x0, x1, x2, x3, x4, x5, x6, _, hl18, _, _⟩ := HL5.out.c7 6 rfl
  obtain ⟨y0, y1, y2, y3, y4, y5, y6, _, hl20, _, _⟩ := HL5.out.c7 7 rfl
  have n1 := HL5.out.ne 4 5 rfl rfl (by decide)
  have n2 := HL5.out.ne 4 6 rfl rfl (by decide)
  have n3 := HL5.out.ne 4 7 rfl rfl (by decide)
  have m1 := Ne.symm n1
  have m2 := Ne.symm n2
  have m3 := Ne.symm n3
  go_region_held3 (fun w' => w'.cell? ⟨b17, 0, none⟩ = some (.slice a1 rs1.length cap1) ∧ (w'.cell? ⟨b18, 0, none⟩ = some (.int .i64 x.sync) ∧ w'.cell? ⟨b18, 1, none⟩ = some (.int .i64 x.thread) ∧ w'.cell? ⟨b18, 2, none⟩ = some (.int .i64 x.branch) ∧ w'.cell? ⟨b18, 3, none⟩ = some (.int .i64 x.flag) ∧ w'.cell? ⟨b18, 4, none⟩ = some (.int .i64 x.v.kind) ∧ w'.cell? ⟨b18, 5, none⟩ = some (.int .i64 x.v.num) ∧ w'.cell? ⟨b18, 6, none⟩ = some (.slice x.v.addr x.v.parts.length x.v.cap)) ∧
    (w'.cell? ⟨b20, 0, none⟩ = some (.int .i64 y.sync) ∧ w'.cell? ⟨b20, 1, none⟩ = some (.int .i64 y.thread) ∧ w'.cell? ⟨b20, 2, none⟩ = some (.int .i64 y.branch) ∧ w'.cell? ⟨b20, 3, none⟩ = some (.int .i64 y.flag) ∧ w'.cell? ⟨b20, 4, none⟩ = some (.int .i64 y.v.kind) ∧ w'.cell? ⟨b20, 5, none⟩ = some (.int .i64 y.v.num) ∧ w'.cell? ⟨b20, 6, none⟩ = some (.slice y.v.addr y.v.parts.length y.v.cap))) (go_keep) (first
    | (go_at_call 21; refine (HSE.out _ (HL5.out.drew.still 1 rfl)).mono ?_; rintro e w6 ⟨cc, rfl, hcc, ht⟩; (obtain rfl : cc = true := hcc.2 HEQ.out); have HL6 := Lib.hid (HL5.out.drew.touch ht); clear hcc ht u0 uf hl7 q0 hl17 x0 x1 x2 x3 x4 x5 x6 hl18 y0 y1 y2 y3 y4 y5 y6 hl20; obtain ⟨u0, uf, hl7, _, _⟩ := HL6.out.c1 4 rfl; obtain ⟨q0, _, hl17, _, _⟩ := HL6.out.c1 5 rfl; obtain ⟨x0, x1, x2, x3, x4, x5, x6, _, hl18, _, _⟩ := HL6.out.c7 6 rfl; obtain ⟨y0, y1, y2, y3, y4, y5, y6, _, hl20, _, _⟩ := HL6.out.c7 7 rfl))
  go_wp2
  have HL7 := Lib.hid (HL6.out.set 4 rfl 0 (.slice a1 rs1.length cap1))
  simp only [List.set_cons_succ, List.set_cons_zero, List.setIfInBounds_toArray] at HL7
  obtain ⟨s0, _⟩ := HL7.out.c1 4 rfl
  refine bodyPost_ret (v := .tuple #[.pointer (some ⟨g, 0, none⟩), .agg #[.slice a1 rs1.length cap1], .bool true]) (by simp [results, Try.results26, go_sem, s0]) rfl ?_
  exact ⟨g, _, rs1, a1, cap1, P1, rfl, HB.out.drop HP1.out HRS.out HC1.out, fun W hW => (HP1.out W hW).1, HL7.out.sel [0, 1] rfl (by decide)⟩
set_option maxHeartbeats 4000000 in
theorem act13_purge (T : List Nat) (w : World) (P : World → Prop) (g : Nat) (es rs : List ME) (a : Option Addr) (cap : Nat) (x : CB) (h : Led T w w [queueT g es, stillT P]) (hB : Both13 P es rs a cap) (hw : x.what = 6) :
    Calls Try.prog 26 #[.pointer (some ⟨g, 0, none⟩), .agg #[.slice a rs.length cap], x.val] w (Acted13 T w P) := by
  obtain ⟨xw, xn, xm, xa, xc, xl⟩ := x
  have hrl : rs.length ≤ 4096 := by rw [← hB.len]; exact hB.2.2.1
  have HB := Lib.hid hB
  have HL0 := Lib.hid h
  clear h hB
  simp only [cb_eq]
  go_enter Try.func26, Try.ntmps26
  go_upto_region 1 with fail
  refine wp_name ?_
  intro w1 hw1
  have HL1 := Lib.hid (HL0.out.al3 hw1)
  simp only [List.nil_append, List.cons_append] at HL1
  obtain ⟨b7, hb7⟩ : ∃ b, w.heap.size + 1 + 1 = b := ⟨_, rfl⟩
  rw [hb7] at HL1 ⊢
  obtain ⟨b5, hb5⟩ : ∃ b, w.heap.size + 1 = b := ⟨_, rfl⟩
  rw [hb5] at HL1 ⊢
  obtain ⟨b4, hb4⟩ : ∃ b, w.heap.size = b := ⟨_, rfl⟩
  rw [hb4] at HL1 ⊢
  clear hw1 hb7 hb5 hb4 HL0
  obtain ⟨v0, vf, hl4, _, _⟩ := HL1.out.c1 2 rfl
  obtain ⟨x0, x1, x2, x3, _, _, _, _, hl5, _, _⟩ := HL1.out.c4 3 rfl
  obtain ⟨u0, uf, hl7, _, _⟩ := HL1.out.c1 4 rfl
  dsimp only at hw
  subst hw
  go_wp2_with fail
  refine wp_calls_name ?_
  intro w2 hw2
  have HL2 := Lib.hid (Led.settle (HL1.out.al1 hw2) 1 rfl (fun W f (hW : P W) hf => (⟨hW, ints_box (zs := [xn, xm]) rfl ⟨f, hf⟩⟩ : P W ∧ IntsAt W (some ⟨w1.heap.size, 0, none⟩) [xn, xm])))
  simp only [List.set_cons_zero, List.set_cons_succ] at HL2
  obtain ⟨bz, hbz⟩ : ∃ b, w1.heap.size = b := ⟨_, rfl⟩
  rw [hbz] at HL2 ⊢
  clear hw2 hbz HL1 v0 vf hl4 x0 x1 x2 x3 hl5 u0 uf hl7
  refine (HL2.out.rPurge 1 rfl a (some ⟨bz, 0, none⟩) cap 2 rs [xn, xm] (fun W hW => ⟨(HB.out.2.2.2.2 W hW.1).2.1, hW.2⟩) (by omega) (by simp)).mono ?_
  rintro e w3 ⟨a1, cap1, rs1, hrs1, rfl, hc1, P1, hP1, hL⟩
  have HL3 := Lib.hid hL
  simp only [List.set_cons_zero, List.set_cons_succ] at HL3
  have HP1 : Hid (∀ W, P1 W → P W ∧ EntsAt W a1 rs1) := fun W hW => ⟨(hP1 W hW).1.1, (hP1 W hW).2⟩
  obtain ⟨hbf, hct⟩ := HB.out.purge HP1.out hrs1 hc1
  have HBF := Lib.hid hbf
  have HCT := Lib.hid hct
  clear hL hrs1 hc1 hP1 HL2 hbf hct
  have hel : es.length ≤ 4096 := HB.out.2.2.1
  obtain ⟨x0, x1, x2, x3, _, _, _, _, hl5, _, _⟩ := HL3.out.c4 3 rfl
  go_upto_region 31 with fail
  refine wp_name ?_
  intro w4 hw4
  have HL4 := Lib.hid (HL3.out.al1 hw4)
  simp only [List.nil_append, List.cons_append] at HL4
  obtain ⟨b22, hb22⟩ : ∃ b, w3.heap.size = b := ⟨_, rfl⟩
  rw [hb22] at HL4 ⊢
  clear hw4 hb22 HL3 x0 x1 x2 x3 hl5
  obtain ⟨u0, uf, hl7, _, _⟩ := HL4.out.c1 4 rfl
  obtain ⟨q0, _, hl22, _, _⟩ := HL4.out.c1 5 rfl
  obtain ⟨x0, x1, x2, x3, _, _, _, _, hl5, _, _⟩ := HL4.out.c4 3 rfl
  have n1 := HL4.out.ne 4 5 rfl rfl (by decide)
  have n2 := HL4.out.ne 4 3 rfl rfl (by decide)
  have m1 := Ne.symm n1
  have m2 := Ne.symm n2
  have HLz := Lib.hid (HL4.out.alloc 3 #[.int .i64 xn, .int .i64 xm]).drew
  simp only [List.nil_append, List.cons_append] at HLz
  go_wp2_with fail
  go_region_held3 (fun w' => w'.cell? ⟨b22, 0, none⟩ = some (.slice a1 rs1.length cap1) ∧ w'.cell? ⟨b5, 1, none⟩ = some (.int .i64 xn) ∧ w'.cell? ⟨b5, 2, none⟩ = some (.int .i64 xm)) (go_keep) (first
    | (go_at_call 23; refine (HLz.out.qPurge (a := some ⟨w4.heap.size, 0, none⟩) (cap := 2) (zs := [xn, xm]) 0 rfl (fun W hW => ints_box rfl (hW 6 _ (by decide) rfl)) (by omega) (by simp)).mono ?_; rintro e w6 ⟨rfl, hL⟩; (rw [HCT.out]); have HL6 := Lib.hid hL; clear hL u0 uf hl7 q0 hl22 x0 x1 x2 x3 hl5; obtain ⟨u0, uf, hl7, _, _⟩ := HL6.out.c1 4 rfl; obtain ⟨q0, _, hl22, _, _⟩ := HL6.out.c1 5 rfl; obtain ⟨x0, x1, x2, x3, _, _, _, _, hl5, _, _⟩ := HL6.out.c4 3 rfl))
  go_wp2
  have HL7 := Lib.hid (HL6.out.set 4 rfl 0 (.slice a1 rs1.length cap1))
  simp only [List.set_cons_succ, List.set_cons_zero, List.setIfInBounds_toArray] at HL7
  obtain ⟨s0, _⟩ := HL7.out.c1 4 rfl
  refine bodyPost_ret (v := .tuple #[.pointer (some ⟨g, 0, none⟩), .agg #[.slice a1 rs1.length cap1], .bool true]) (by simp [results, Try.results26, go_sem, s0]) rfl ?_
  exact ⟨g, _, rs1, a1, cap1, P1, rfl, HBF.out, fun W hW => (HP1.out W hW).1, HL7.out.sel [0, 1] rfl (by decide)⟩
set_option maxHeartbeats 4000000 in
theorem act13_copy (T : List Nat) (w : World) (P : World → Prop) (g : Nat) (es rs : List ME) (a : Option Addr) (cap : Nat) (x : CB) (h : Led T w w [queueT g es, stillT P]) (hB : Both13 P es rs a cap) (hw : ¬ (x.what = 0 ∨ x.what = 1 ∨ x.what = 2 ∨ x.what = 3) ∧ x.what ≠ 4 ∧ x.what ≠ 5 ∧ x.what ≠ 6) :
    Calls Try.prog 26 #[.pointer (some ⟨g, 0, none⟩), .agg #[.slice a rs.length cap], x.val] w (Acted13 T w P) := by
  obtain ⟨xw, xn, xm, xa, xc, xl⟩ := x
  have hrl : rs.length ≤ 4096 := by rw [← hB.len]; exact hB.2.2.1
  have HB := Lib.hid hB
  have HL0 := Lib.hid h
  clear h hB
  simp only [cb_eq]
  go_enter Try.func26, Try.ntmps26
  go_upto_region 1 with fail
  refine wp_name ?_
  intro w1 hw1
  have HL1 := Lib.hid (HL0.out.al3 hw1)
  simp only [List.nil_append, List.cons_append] at HL1
  obtain ⟨b7, hb7⟩ : ∃ b, w.heap.size + 1 + 1 = b := ⟨_, rfl⟩
  rw [hb7] at HL1 ⊢
  obtain ⟨b5, hb5⟩ : ∃ b, w.heap.size + 1 = b := ⟨_, rfl⟩
  rw [hb5] at HL1 ⊢
  obtain ⟨b4, hb4⟩ : ∃ b, w.heap.size = b := ⟨_, rfl⟩
  rw [hb4] at HL1 ⊢
  clear hw1 hb7 hb5 hb4 HL0
  obtain ⟨v0, vf, hl4, _, _⟩ := HL1.out.c1 2 rfl
  obtain ⟨x0, x1, x2, x3, _, _, _, _, hl5, _, _⟩ := HL1.out.c4 3 rfl
  obtain ⟨u0, uf, hl7, _, _⟩ := HL1.out.c1 4 rfl
  dsimp only at hw
  have e0 : (xw == 0) = false := by simp; omega
  have e1 : (xw == 1) = false := by simp; omega
  have e2 : (xw == 2) = false := by simp; omega
  have e3 : (xw == 3) = false := by simp; omega
  have e4 : (xw == 4) = false := by simp; omega
  have e5 : (xw == 5) = false := by simp; omega
  have e6 : (xw == 6) = false := by simp; omega
  clear hw
  have n2 := HL1.out.ne 4 2 rfl rfl (by decide)
  have m2 := Ne.symm n2
  have HCQ := Lib.hid (Copy_q w1.drew g es (HL1.out.drew.qAt 0 rfl) (fun e he => ⟨(HB.out.2.2.2.2 _ (HL1.out.drew.still 1 rfl)).1 e he, HB.out.2.2.2.1 e he⟩) (by have := HB.out.2.2.1; omega))
  go_wp2_with fail
  go_region_held3 (fun w' => w'.cell? ⟨b4, 0, none⟩ = some (.slice a rs.length cap)) (go_keep) (first
    | (go_at_call 28; refine HCQ.out.mono ?_; rintro e w6 ⟨g2, ys, rfl, hpl, hL⟩; have HL6 := Lib.hid (HL1.out.drew.join hL); have HPL := Lib.hid hpl; (simp only [List.nil_append, List.cons_append] at HL6); clear hL hpl u0 uf hl7 v0 vf hl4; obtain ⟨u0, uf, hl7, _, _⟩ := HL6.out.c1 4 rfl; obtain ⟨v0, _, hl4, _, _⟩ := HL6.out.c1 2 rfl))
  go_wp2
  have HL7 := Lib.hid (HL6.out.set 4 rfl 0 (.slice a rs.length cap))
  simp only [List.set_cons_succ, List.set_cons_zero, List.setIfInBounds_toArray] at HL7
  obtain ⟨s0, _⟩ := HL7.out.c1 4 rfl
  refine bodyPost_ret (v := .tuple #[.pointer (some ⟨g2, 0, none⟩), .agg #[.slice a rs.length cap], .bool true]) (by simp [results, Try.results26, go_sem, s0]) rfl ?_
  have h7 := HL7.out.sel [5, 1, 6] (l' := [queueT g2 ys, stillT P] ++ [valsT (ys.map ME.v)]) rfl (by decide)
  have hcp := HB.out.copy HPL.out
  exact ⟨g2, ys, rs, a, cap, _, rfl, hcp, fun W hW => hW.1, Led.settle (l := [queueT g2 ys, stillT P]) h7 1 rfl (fun W f hW hf => ⟨hW, fun y hy => hf.2 _ (List.mem_map.2 ⟨y, hy, rfl⟩)⟩)⟩
/-- act, whatever the call. -/
theorem act13 (T : List Nat) (w : World) (P : World → Prop) (g : Nat) (es rs : List ME) (a : Option Addr) (cap : Nat) (x : CB) (h : Led T w w [queueT g es, stillT P]) (hB : Both13 P es rs a cap) (hx : x.Few ∧ ∀ W, P W → x.In W) :
    Calls Try.prog 26 #[.pointer (some ⟨g, 0, none⟩), .agg #[.slice a rs.length cap], x.val] w (Acted13 T w P) := by
  by_cases h1 : x.what = 0 ∨ x.what = 1 ∨ x.what = 2 ∨ x.what = 3
  · exact act13_push T w P g es rs a cap x h hB hx h1
  · by_cases h4 : x.what = 4
    · exact act13_drop4 T w P g es rs a cap x h hB h4
    · by_cases h5 : x.what = 5
      · exact act13_drop5 T w P g es rs a cap x h hB h5
      · by_cases h6 : x.what = 6
        · exact act13_purge T w P g es rs a cap x h hB h6
        · exact act13_copy T w P g es rs a cap x h hB ⟨h1, h4, h5, h6⟩
theorem Led.act13 {T : List Nat} {w0 w : World} {l : List Thing} {P : World → Prop} {g : Nat} {es rs : List ME} {a : Option Addr} {cap : Nat} (h : Led T w0 w l) (i j : Nat) (hi : l[i]? = some (queueT g es)) (hj : l[j]? = some (stillT P)) (hij : i ≠ j) (x : CB) (hB : Both13 P es rs a cap) (hx : x.Few ∧ ∀ W, P W → x.In W) :
    Calls Try.prog 26 #[.pointer (some ⟨g, 0, none⟩), .agg #[.slice a rs.length cap], x.val] w fun e w' => ∃ (g' : Nat) (es' rs' : List ME) (a' : Option Addr) (cap' : Nat) (P' : World → Prop), e = .returned (.tuple #[.pointer (some ⟨g', 0, none⟩), .agg #[.slice a' rs'.length cap'], .bool true]) ∧ Both13 P' es' rs' a' cap' ∧ (∀ W, P' W → P W) ∧ Led T w0 w' ((l.set i (queueT g' es')).set j (stillT P')) := by
  obtain ⟨T', h1, hb⟩ := h.frame2 i j hi hj hij
  refine (Proofs.Ytihmbgdkllmkaaa.act13 T' w P g es rs a cap x h1 hB hx).mono ?_
  rintro e w' ⟨g', es', rs', a', cap', P', rfl, hB', hP', hL⟩
  exact ⟨g', es', rs', a', cap', P', rfl, hB', hP', hb _ _ _ [] hL⟩
end Go.Proofs.Ytihmbgdkllmkaaa
