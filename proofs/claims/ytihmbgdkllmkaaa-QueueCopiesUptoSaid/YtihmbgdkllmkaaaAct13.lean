/-
  act() of law 13 (betrothallaw13/law.go): one call by both.
-/
import Derived.Test.YtihmbgdkllmkaaaR13c
import Derived.Test.YtihmbgdkllmkaaaR13d
import Derived.Test.YtihmbgdkllmkaaaR13e
import Derived.Test.YtihmbgdkllmkaaaLoose
import Derived.Test.YtihmbgdkllmkaaaW13
import Derived.Deep.Cut
import Derived.Deep.CutRange
namespace Go.Proofs.Ytihmbgdkllmkaaa
open Go.RowKit Go.Shelf
set_option maxRecDepth 100000
set_option linter.unusedVariables false
set_option linter.unusedSimpArgs false

/-- A call of law 13. -/
structure CB where
  what : Int
  n : Int
  m : Int
  a : Option Addr
  cap : Nat
  l : List ME
def CB.val (x : CB) : Value := .agg #[.int .i64 x.what, .int .i64 x.n, .int .i64 x.m, .slice x.a x.l.length x.cap]
theorem cb_eq (x : CB) : x.val = .agg #[.int .i64 x.what, .int .i64 x.n, .int .i64 x.m, .slice x.a x.l.length x.cap] := rfl
/-- What a call holds, in memory. -/
def CB.In (x : CB) (W : World) : Prop := EntsAt W x.a x.l ∧ ∀ e ∈ x.l, e.v.In W
/-- At most six entries, of values of at most 256 parts. -/
def CB.Few (x : CB) : Prop := x.l.length ≤ 6 ∧ ∀ e ∈ x.l, e.v.nodes ≤ 256
/-- The queue's entries es and the reference's rs. -/
def Both13 (P : World → Prop) (es rs : List ME) (a : Option Addr) (cap : Nat) : Prop :=
  es.map ME.plain = rs.map ME.plain ∧ rs.length ≤ cap ∧ es.length ≤ 4096 ∧ (∀ e ∈ es, e.v.nodes ≤ 256) ∧ ∀ W, P W → (∀ e ∈ es, e.v.In W) ∧ EntsAt W a rs ∧ ∀ r ∈ rs, r.v.In W
theorem Both13.len {P : World → Prop} {es rs : List ME} {a : Option Addr} {cap : Nat} (h : Both13 P es rs a cap) : es.length = rs.length := by have := congrArg List.length h.1; simpa using this
theorem Both13.rnodes {P : World → Prop} {es rs : List ME} {a : Option Addr} {cap : Nat} (h : Both13 P es rs a cap) : ∀ r ∈ rs, r.v.nodes ≤ 256 := fun r hr => by
  have hm : r.plain ∈ es.map ME.plain := by rw [h.1]; exact List.mem_map_of_mem hr
  obtain ⟨e, he, hp⟩ := List.mem_map.1 hm
  have := h.2.2.2.1 e he
  rw [← MT.plain_nodes] at this ⊢
  have h2 : e.v.plain = r.v.plain := congrArg PE.v hp
  rw [← h2]; exact this
/-- What act tells. -/
def Acted13 (T : List Nat) (w : World) (P : World → Prop) (e : Ending) (w' : World) : Prop :=
  ∃ (g : Nat) (es rs : List ME) (a : Option Addr) (cap : Nat) (P' : World → Prop), e = .returned (.tuple #[.pointer (some ⟨g, 0, none⟩), .agg #[.slice a rs.length cap], .bool true]) ∧ Both13 P' es rs a cap ∧ (∀ W, P' W → P W) ∧ Led T w w' [queueT g es, stillT P']
theorem Led.rPushes {T : List Nat} {w0 w : World} {l : List Thing} {P : World → Prop} (h : Led T w0 w l) (j : Nat) (hj : l[j]? = some (stillT P)) (a xa : Option Addr) (cap xc : Nat) (rs xs : List ME) (hcap : rs.length ≤ cap) (hP : ∀ W, P W → EntsAt W a rs ∧ EntsAt W xa xs ∧ ∀ x ∈ xs, x.v.In W) (hnx : ∀ x ∈ xs, x.v.nodes ≤ 1048576) (hlen : rs.length ≤ 4096) (hxl : xs.length ≤ 1099511627776) :
    Calls Try.prog 70 #[.agg #[.slice a rs.length cap], .slice xa xs.length xc] w fun e w' => ∃ (k : Nat) (err : Int) (a' : Option Addr) (cap' : Nat), e = .returned (.tuple #[.agg #[.slice a' (rs ++ xs.take k).length cap'], .int .i64 err]) ∧ (rs ++ xs.take k).length ≤ cap' ∧ PushR rs.length (xs.map ME.plain) k err ∧ ∃ P' : World → Prop, (∀ W, P' W → P W ∧ EntsAt W a' (rs ++ xs.take k)) ∧ Led T w0 w' (l.set j (stillT P')) := by
  obtain ⟨T', h1, hb⟩ := h.frame1 j hj
  refine (Pushes_ref T' w P a xa cap xc rs xs hcap h1 hP hnx hlen hxl).mono ?_
  rintro e w' ⟨k, err, a', cap', rfl, hc, hR, P', hP', hL⟩
  exact ⟨k, err, a', cap', rfl, hc, hR, P', hP', hb _ _ [] hL⟩
theorem Led.rDrop {T : List Nat} {w0 w : World} {l : List Thing} {P : World → Prop} (h : Led T w0 w l) (j : Nat) (hj : l[j]? = some (stillT P)) (a : Option Addr) (cap : Nat) (rs : List ME) (i : Int) (hcap : rs.length ≤ cap) (hP : ∀ W, P W → EntsAt W a rs) (hlen : rs.length ≤ 1048576) :
    Calls Try.prog 71 #[.agg #[.slice a rs.length cap], .int .i64 i] w fun e w' => ∃ (a' : Option Addr) (cap' : Nat) (rs' : List ME) (x : ME) (c : Bool), e = .returned (.tuple #[.agg #[.slice a' rs'.length cap'], x.val, .bool c]) ∧ rs'.length ≤ cap' ∧ AtRef rs i x c ∧ rs' = (if c = true then rs.eraseIdx i.toNat else rs) ∧ ∃ P' : World → Prop, (∀ W, P' W → P W ∧ EntsAt W a' rs') ∧ Led T w0 w' (l.set j (stillT P')) := by
  obtain ⟨T', h1, hb⟩ := h.frame1 j hj
  refine (Drop_ref T' w P a cap rs i hcap h1 hP hlen).mono ?_
  rintro e w' ⟨a', cap', rs', x, c, rfl, hc, hR, hrs, P', hP', hL⟩
  exact ⟨a', cap', rs', x, c, rfl, hc, hR, hrs, P', hP', hb _ _ [] hL⟩
theorem Led.rPurge {T : List Nat} {w0 w : World} {l : List Thing} {P : World → Prop} (h : Led T w0 w l) (j : Nat) (hj : l[j]? = some (stillT P)) (a za : Option Addr) (cap zc : Nat) (rs : List ME) (zs : List Int) (hP : ∀ W, P W → EntsAt W a rs ∧ IntsAt W za zs) (hlen : rs.length ≤ 1048576) (hzl : zs.length ≤ 1048576) :
    Calls Try.prog 72 #[.agg #[.slice a rs.length cap], .slice za zs.length zc] w fun e w' => ∃ (a' : Option Addr) (cap' : Nat) (rs' : List ME), rs' = rs.filter (fun e => !decide (e.sync ∈ zs)) ∧ e = .returned (.tuple #[.agg #[.slice a' rs'.length cap'], .int .i64 ((rs.length : Int) - (rs'.length : Int))]) ∧ rs'.length ≤ cap' ∧ ∃ P' : World → Prop, (∀ W, P' W → P W ∧ EntsAt W a' rs') ∧ Led T w0 w' (l.set j (stillT P')) := by
  obtain ⟨T', h1, hb⟩ := h.frame1 j hj
  refine (Purge_ref T' w P a za cap zc rs zs h1 hP hlen hzl).mono ?_
  rintro e w' ⟨a', cap', rs', hrs, rfl, hc, P', hP', hL⟩
  exact ⟨a', cap', rs', hrs, rfl, hc, P', hP', hb _ _ [] hL⟩
set_option maxHeartbeats 4000000 in
theorem act13_push (T : List Nat) (w : World) (P : World → Prop) (g : Nat) (es rs : List ME) (a : Option Addr) (cap : Nat) (x : CB) (h : Led T w w [queueT g es, stillT P]) (hB : Both13 P es rs a cap) (hx : x.Few ∧ ∀ W, P W → x.In W) (hw : x.what = 0 ∨ x.what = 1 ∨ x.what = 2 ∨ x.what = 3) :
    Calls Try.prog 26 #[.pointer (some ⟨g, 0, none⟩), .agg #[.slice a rs.length cap], x.val] w (Acted13 T w P) := by
  obtain ⟨xw, xn, xm, xa, xc, xl⟩ := x
  have hx6 : xl.length ≤ 6 := hx.1.1
  have HXN : Hid (∀ e ∈ xl, e.v.nodes ≤ 256) := hx.1.2
  have HX : Hid (∀ W, P W → EntsAt W xa xl ∧ ∀ e ∈ xl, e.v.In W) := hx.2
  have hrl : rs.length ≤ 4096 := by rw [← hB.len]; exact hB.2.2.1
  have HB := Lib.hid hB
  have HL0 := Lib.hid h
  clear h hB hx
  simp only [cb_eq]
  go_enter Try.func26, Try.ntmps26
  go_upto_region 1 with fail
  refine wp_name ?_
  intro w1 hw1
  have HL1 := Lib.hid (HL0.out.al3 hw1)
  simp only [List.nil_append, List.cons_append] at HL1
  obtain ⟨b7, hb7⟩ : ∃ b, w.heap.size + 1 + 1 = b := ⟨_, rfl⟩
  rw [hb7] at HL1 ⊢
  obtain ⟨b5, hb5⟩ : ∃ b, w.heap.size + 1 = b := ⟨_, rfl⟩
  rw [hb5] at HL1 ⊢
  obtain ⟨b4, hb4⟩ : ∃ b, w.heap.size = b := ⟨_, rfl⟩
  rw [hb4] at HL1 ⊢
  clear hw1 hb7 hb5 hb4 HL0
  obtain ⟨v0, vf, hl4, _, _⟩ := HL1.out.c1 2 rfl
  obtain ⟨x0, x1, x2, x3, _, _, _, _, hl5, _, _⟩ := HL1.out.c4 3 rfl
  obtain ⟨u0, uf, hl7, _, _⟩ := HL1.out.c1 4 rfl
  dsimp only at hw
  go_upto_region 2 with fail
  rename_i K2 a2 K1 a1 K0 a0
  have HC : ∀ (y27 y28 y29 y30 : Value), K1 { tmps := #[.pointer (some ⟨g, 0, none⟩), .agg #[.slice a rs.length cap], .agg #[.int .i64 xw, .int .i64 xn, .int .i64 xm, .slice xa xl.length xc], undef, .pointer (some ⟨b4, 0, none⟩), .pointer (some ⟨b5, 0, none⟩), .pointer none, .pointer (some ⟨b7, 0, none⟩), .bool false, undef, undef, undef, undef, undef, undef, undef, undef, undef, undef, undef, undef, undef, undef, undef, .pointer (some ⟨b5, 0, none⟩), .int .i64 xw, .bool true, y27, y28, y29, y30, undef, undef, undef, undef, undef, undef, undef, undef, undef, undef, undef, undef, undef, undef, undef, undef, undef, undef, undef, undef, undef, undef, undef, undef, undef, undef, undef, undef, undef, undef, undef, undef, undef, undef, undef, undef, undef, undef, undef, undef, undef, undef, undef, undef, undef, undef, undef, undef, undef, undef, undef, undef, undef, undef, undef, undef, undef, undef, undef, undef, undef, undef, undef, undef, undef, undef, undef, undef, undef, undef, undef, undef, undef, undef, undef, undef, undef, undef, undef, undef, undef, undef, undef, undef, undef, undef, undef, undef, undef, undef, undef, undef, undef, undef, undef, undef, undef, undef, undef, undef, undef, undef, undef, undef, undef, undef, undef, undef, undef, undef, undef, undef, undef, undef, undef, undef, undef, undef, undef, undef, undef, undef, undef, undef, undef, undef, undef, undef, undef, undef, undef], defers := [] } w1 := by
    intro y27 y28 y29 y30
    refine a1 _ _ ?_
    clear a0 a1
    go_wp2_with fail
    refine (HL1.out.rPushes 1 rfl a xa cap xc rs xl HB.out.2.1 (fun W hW => ⟨(HB.out.2.2.2.2 W hW).2.1, (HX.out W hW).1, (HX.out W hW).2⟩) (fun e he => Nat.le_trans (HXN.out e he) (by omega)) hrl (by omega)).mono ?_
    rintro e w2 ⟨k, err, a1, cap1, rfl, hc1, hR, P1, hP1, hL⟩
    have HL2 := Lib.hid hL
    simp only [List.set_cons_zero, List.set_cons_succ] at HL2
    have HR := Lib.hid hR
    have HC1 := Lib.hid hc1
    have HP1 := Lib.hid hP1
    clear hL hR hc1 hP1 HL1 v0 vf hl4 x0 x1 x2 x3 hl5 u0 uf hl7
    obtain ⟨rs1, hrs1⟩ : ∃ r, rs ++ xl.take k = r := ⟨_, rfl⟩
    rw [hrs1] at HC1 HP1 ⊢
    have HRS1 := Lib.hid hrs1
    clear hrs1
    obtain ⟨v0, vf, hl4, _, _⟩ := HL2.out.c1 2 rfl
    obtain ⟨x0, x1, x2, x3, _, _, _, _, hl5, _, _⟩ := HL2.out.c4 3 rfl
    go_wp2_with fail
    refine wp_name ?_
    intro w3 hw3
    have HL3 := Lib.hid ((HL2.out.al1 hw3).rowSnil 27 7).exact0
    simp only [List.nil_append, List.cons_append] at HL3
    obtain ⟨b9, hb9⟩ : ∃ b, w2.heap.size = b := ⟨_, rfl⟩
    rw [hb9] at HL3 ⊢
    clear hw3 hb9 HL2 v0 vf hl4 x0 x1 x2 x3 hl5
    obtain ⟨i0, hi0, iz0, iz1, iz2⟩ := info_parts info_ent
    obtain ⟨q0, hq0, qz0, qz1, qz2⟩ := info_parts info_val
    go_loopw [11, 12] (fun l i wr => ∃ (j : Nat) (cs : List ME) (la : Option Addr) (lc : Nat), i = .int .i64 (j : Int) ∧ l = .slice la j lc ∧ j ≤ xl.length ∧ cs.length = j ∧ Hid (cs.map ME.plain = (xl.take j).map ME.plain) ∧ Hid (∀ c ∈ cs, ∃ e ∈ xl, c.v.parts = e.v.parts) ∧
      Hid (Led T w wr [queueT g es, stillT P1, box b4 54 #[.slice a rs.length cap], box b5 58 #[.int .i64 xw, .int .i64 xn, .int .i64 xm, .slice xa xl.length xc], box b7 54 #[.slice none 0 0], box b9 54 #[.slice a1 rs1.length cap1], rowT 27 7 (.slice la j lc) j (entCells cs), exactT (cs.map ME.v)])) (fun _ i _ => xl.length - (intOf i).toNat)
    case atStart => exact ⟨0, [], none, 0, rfl, rfl, Nat.zero_le _, rfl, by unfold Hid; simp, by unfold Hid; simp, HL3⟩
    case round =>
      obtain ⟨j, cs, la, lc, rfl, rfl, hj, hcl, HY, HPT, HK⟩ := hrel
      clear HL3
      have hj0 : (0 : Int) ≤ (j : Int) := by omega
      obtain ⟨x0, x1, x2, x3, _, _, _, _, hl5, _, _⟩ := HK.out.c4 3 rfl
      by_cases hjl : j < xl.length
      · have hjl' : (j : Int) < (xl.length : Int) := by omega
        have HXW := Lib.hid (HX.out _ (HP1.out _ (HK.out.still 1 rfl)).1)
        obtain ⟨b, o, rfl, hb, p0, p1, p2, p3, p4, p5, p6⟩ := HXW.out.1 j hjl
        have HIN := Lib.hid (HXW.out.2 _ (List.getElem_mem hjl))
        have HYM : Hid (xl[j] ∈ xl) := List.getElem_mem hjl
        have HYN := Lib.hid (HXN.out _ (List.getElem_mem hjl))
        have HTS : Hid ((xl.take (j + 1)).map ME.plain = (xl.take j).map ME.plain ++ [xl[j].plain]) := by unfold Hid; rw [List.take_add_one, List.getElem?_eq_getElem hjl, Option.toList_some, List.map_append]; rfl
        generalize xl[j] = y at p0 p1 p2 p3 p4 p5 p6 HIN HYM HYN HTS
        have hpl : y.v.parts.length ≤ 256 := by have h1 := MT.length_le y.v.parts; have h2 := y.v.nodes_eq; have := HYN.out; omega
        have HKa := Lib.hid ((HK.out.alloc 27 #[.int .i64 y.sync, .int .i64 y.thread, .int .i64 y.branch, .int .i64 y.flag, .int .i64 y.v.kind, .int .i64 y.v.num, .slice y.v.addr y.v.parts.length y.v.cap]).empty 25 3)
        simp only [List.nil_append, List.cons_append, World.size_alloc] at HKa
        go_wp2_with (at_builtin; go_must (refine wpList_append_S _ rfl (.tmp 50) (.tmp 53) 23 rfl 25 q0 _ 3 40 Try.underlying23 hq0 qz0 qz1 qz2 rfl (by decide) (.slice (some ⟨wr.heap.size + 1, 0, none⟩) 0 0) 0 [] rfl (HKa.out.rowSAt 9 rfl) y.v.addr y.v.parts.length y.v.cap (valCells y.v.parts) rfl (valCells_length _) (((HX.out _ (HP1.out _ (HKa.out.still 1 rfl)).1).2 y HYM.out).row.src) (vals_one _) (by simp only [maxLen]; omega) (by omega) ?_); intro a5 c5 w5 hown hgrow hat; refine Hid.out ?_)
        simp only [Nat.zero_add, List.nil_append] at hown hat ⊢
        have HLb := Lib.hid (HKa.out.grownS 9 rfl hgrow hown hat)
        simp only [List.set_cons_succ, List.set_cons_zero] at HLb
        clear hown hgrow hat HKa p0 p1 p2 p3 p4 p5 p6 hb x0 x1 x2 x3 hl5
        obtain ⟨b13, hb13⟩ : ∃ b, wr.heap.size = b := ⟨_, rfl⟩
        rw [hb13] at HLb
        simp only [hb13]
        clear hb13 HK
        obtain ⟨p0, p1, p2, p3, p4, p5, p6, ⟨_, _, _, _, _, _, pf⟩, hb, _, _⟩ := HLb.out.c7 8 rfl
        have HLc := Lib.hid ((HLb.out.set 8 rfl 6 (.slice a5 y.v.parts.length c5)).alloc 27 #[.int .i64 y.sync, .int .i64 y.thread, .int .i64 y.branch, .int .i64 y.flag, .int .i64 y.v.kind, .int .i64 y.v.num, .slice a5 y.v.parts.length c5])
        simp only [List.set_cons_succ, List.set_cons_zero, List.setIfInBounds_toArray, List.nil_append, List.cons_append, World.size_setCell] at HLc
        refine Lib.hid ?_
        go_wp2_with (at_builtin; go_must (refine wpList_append_S _ rfl (.tmp 57) (.tmp 59) 32 rfl 27 i0 _ 7 72 Try.underlying32 hi0 iz0 iz1 iz2 rfl (by decide) (.slice la j lc) j (entCells cs) rfl (HLc.out.rowSAt 6 rfl) (some ⟨w5.heap.size, 0, none⟩) 1 1 (ME.mk y.sync y.thread y.branch y.flag (.mk y.v.kind y.v.num a5 c5 y.v.parts)).cells rfl rfl (.inr ⟨_, rfl, (HLc.out.box 10 rfl).src⟩) (cells_one _) (by simp only [maxLen]; omega) (by omega) ?_); intro a6 c6 w6 hown hgrow hat; refine Hid.out ?_)
        have HLd := Lib.hid (HLc.out.grownS 6 rfl hgrow hown hat)
        simp only [List.set_cons_succ, List.set_cons_zero] at HLd
        clear hown hgrow hat HLc HLb p0 p1 p2 p3 p4 p5 p6 pf hb
        obtain ⟨c, hc⟩ : ∃ c, ME.mk y.sync y.thread y.branch y.flag (.mk y.v.kind y.v.num a5 c5 y.v.parts) = c := ⟨_, rfl⟩
        have HCP : Hid (c.plain = y.plain ∧ c.v.parts = y.v.parts) := by subst hc; exact ⟨by simp only [ME.plain, MT.plain_eq]; rfl, rfl⟩
        have HLe : Hid (Led T w w6 [queueT g es, stillT P1, box b4 54 #[.slice a rs.length cap], box b5 58 #[.int .i64 xw, .int .i64 xn, .int .i64 xm, .slice (some ⟨b, o, none⟩) xl.length xc], box b7 54 #[.slice none 0 0], box b9 54 #[.slice a1 rs1.length cap1], rowT 27 7 (.slice a6 (j + 1) c6) (j + 1) (entCells (cs ++ [c])), exactT ((cs ++ [c]).map ME.v)]) := by
          have h := HLd.out.sel [0, 1, 2, 3, 4, 5, 6, 7, 9] (l' := [_, _, _, _, _, _, _, _] ++ [rowT 25 3 (.slice c.v.addr c.v.parts.length c.v.cap) c.v.parts.length (valCells c.v.parts)]) (by subst hc; rfl) (by decide)
          have h2 := h.exactAdd 7 rfl
          rw [entCells_append, List.map_append, show entCells [c] = c.cells from (by simp [entCells])]
          subst hc
          exact h2
        clear hc HLd
        refine Lib.hid ?_
        go_wp2
        go_roundw
        case rel =>
          refine ⟨j + 1, cs ++ [c], a6, c6, by go_num, rfl, hjl, by simp [hcl], by unfold Hid; rw [List.map_append, HY.out, HTS.out, ← HCP.out.1]; rfl, ?_, HLe⟩
          unfold Hid
          intro c' hc'
          rcases List.mem_append.1 hc' with hc' | hc'
          · exact HPT.out c' hc'
          · obtain rfl : c' = c := by simpa using hc'
            exact ⟨y, HYM.out, HCP.out.2⟩
        case measure => simp [intOf]; omega
      · have hjl' : ¬ (j : Int) < (xl.length : Int) := by omega
        obtain rfl : j = xl.length := by omega
        rw [List.take_length] at HY
        go_wp2_with fail
        have hq := HK.out.qPushS (xs := cs) (a := la) (cap := lc) 0 1 rfl rfl (by decide) (fun W hW => by
          refine ⟨?_, fun c hc => ?_⟩
          · obtain ⟨f, _, hr⟩ := hW 6 (rowT 27 7 (.slice la xl.length lc) xl.length (entCells cs)) (by decide) rfl
            exact ents_of_rowS (cap := lc) (by rw [hcl]; exact hr)
          · obtain ⟨e, he, hpe⟩ := HPT.out c hc
            obtain ⟨f, _, hs⟩ := hW 1 (stillT P1) (by decide) rfl
            have hxw := (HX.out _ (HP1.out _ (hs W (fun _ _ => rfl))).1).2 e he
            refine exactT_in (hW 7 (exactT (cs.map ME.v)) (by decide) rfl) (List.mem_map.2 ⟨c, hc, rfl⟩) ?_ ?_
            · rw [hpe]; exact hxw.len
            · rw [hpe]; exact fun u hu => hxw.part hu) (by omega) HB.out.2.2.1
        rw [hcl] at hq
        refine hq.mono ?_
        clear hq
        rintro e w4 ⟨k2, err2, ys, rfl, hR2, hp2, hL⟩
        obtain ⟨hk2, he2⟩ := HR.out.unique (k' := k2) (err' := err2) (by rw [← HB.out.len, ← HY.out]; exact hR2)
        subst hk2 he2
        have HBF : Hid (Both13 (fun W => P1 W ∧ ∀ y ∈ ys, y.v.In W) (es ++ ys) rs1 a1 cap1) := by
          have hyp : ys.map ME.plain = (xl.take k).map ME.plain := by rw [hp2, HY.out, List.map_take]
          have hyl : ys.length ≤ k := by have := congrArg List.length hyp; simp at this; omega
          have hrk := hR2.2.1
          refine ⟨?_, HC1.out, by simp; omega, ?_, ?_⟩
          · rw [← HRS1.out, List.map_append, List.map_append, HB.out.1, hyp]
          · intro e he
            rcases List.mem_append.1 he with he | he
            · exact HB.out.2.2.2.1 e he
            · have hm : e.plain ∈ (xl.take k).map ME.plain := by rw [← hyp]; exact List.mem_map_of_mem he
              obtain ⟨z, hz, hzp⟩ := List.mem_map.1 hm
              have h1 := HXN.out z (List.mem_of_mem_take hz)
              rw [← MT.plain_nodes] at h1 ⊢
              have h2 : z.v.plain = e.v.plain := congrArg PE.v hzp
              rw [← h2]; exact h1
          · intro W ⟨hW1, hW2⟩
            have hPW := (HP1.out W hW1).1
            refine ⟨fun e he => ?_, (HP1.out W hW1).2, fun r hr => ?_⟩
            · rcases List.mem_append.1 he with he | he
              · exact (HB.out.2.2.2.2 W hPW).1 e he
              · exact hW2 e he
            · rw [← HRS1.out] at hr
              rcases List.mem_append.1 hr with hr | hr
              · exact (HB.out.2.2.2.2 W hPW).2.2 r hr
              · exact (HX.out W hPW).2 r (List.mem_of_mem_take hr)
        have HPF : Hid (∀ W, (fun W => P1 W ∧ ∀ y ∈ ys, y.v.In W) W → P W) := fun W hW => (HP1.out W hW.1).1
        have HL4 := Lib.hid (hL.loosen 7 rfl)
        simp only [List.set_cons_succ, List.set_cons_zero] at HL4
        rw [show (cs.map ME.v).map MT.sh = cs.map (fun c => c.v.sh) from by rw [List.map_map]; rfl] at HL4
        obtain ⟨SH, hSH⟩ : ∃ S, cs.map (fun c => c.v.sh) = S := ⟨_, rfl⟩
        rw [hSH] at HL4
        have HSH := Lib.hid hSH
        have hsl : SH.length = xl.length := by rw [← hSH, List.length_map, hcl]
        have HSB : Hid (∀ s ∈ SH, s.2.1 ≤ 256) := by
          unfold Hid
          rw [← hSH]
          intro s hs
          obtain ⟨c, hc, rfl⟩ := List.mem_map.1 hs
          obtain ⟨e, he, hpe⟩ := HPT.out c hc
          have h1 := MT.length_le e.v.parts
          have h2 := e.v.nodes_eq
          have h3 := HXN.out e he
          show c.v.parts.length ≤ 256
          rw [hpe]
          omega
        clear hR2 hp2 hL hSH HK HC1 HRS1 HY HPT HP1
        generalize es ++ ys = es2 at HL4 HBF
        generalize (fun W => P1 W ∧ ∀ y ∈ ys, y.v.In W) = P2 at HL4 HBF HPF
        go_wp2_with fail
        go_loopw [15] (fun i wr => ∃ (m : Nat) (cs' : List ME), i = .int .i64 (m : Int) ∧ m ≤ xl.length ∧ cs'.length = xl.length ∧ Hid (cs'.map (fun c => c.v.sh) = SH) ∧
          Hid (Led T w wr [queueT g es2, stillT P2, box b4 54 #[.slice a rs.length cap], box b5 58 #[.int .i64 xw, .int .i64 xn, .int .i64 xm, .slice xa xl.length xc], box b7 54 #[.slice none 0 0], box b9 54 #[.slice a1 rs1.length cap1], rowT 27 7 (.slice la xl.length lc) xl.length (entCells cs'), looseT SH])) (fun i _ => xl.length - (intOf i).toNat)
        case atStart => exact ⟨0, cs, rfl, Nat.zero_le _, hcl, HSH, HL4⟩
        case round =>
          obtain ⟨m, cs', rfl, hm, hcl2, HS2, HK⟩ := hrel
          clear HL4
          have hm0 : (0 : Int) ≤ (m : Int) := by omega
          by_cases hml : m < xl.length
          · have hml' : (m : Int) < (xl.length : Int) := by omega
            obtain ⟨gl, cap', cur, hv, _⟩ := rowS_form (HK.out.rowSAt 6 rfl) (by omega)
            injection hv with hv1 _ hv3
            subst hv1 hv3
            have HSM : Hid (cs'[m].v.sh ∈ SH) := by
              have h : cs'[m].v.sh ∈ cs'.map (fun c => c.v.sh) := List.mem_map.2 ⟨cs'[m], List.getElem_mem (by omega), rfl⟩
              have he := HS2.out
              unfold Hid
              exact he ▸ h
            have HRW : Hid (∀ W, rowS W 27 7 (.slice (some ⟨gl, 0, none⟩) xl.length lc) xl.length (entCells cs') → W.cell? ⟨gl, m * 7, none⟩ = some (.int .i64 cs'[m].sync) ∧ W.cell? ⟨gl, m * 7 + 4 + 2, none⟩ = some (.slice cs'[m].v.addr cs'[m].v.parts.length cs'[m].v.cap) ∧ gl < W.heap.size) := by
              intro W hW
              obtain ⟨b', o', hbo, hb', c0, _, _, _, _, _, c6⟩ := ents_of_row hcl2 hW m (by omega)
              injection hbo with hbo
              injection hbo with h1 h2
              subst h1 h2
              simp only [Nat.zero_add] at c0 c6
              exact ⟨c0, c6, hb'⟩
            obtain ⟨ad, n2, c2, sy, hsh⟩ : ∃ ad n2 c2 sy, ad = cs'[m].v.addr ∧ n2 = cs'[m].v.parts.length ∧ c2 = cs'[m].v.cap ∧ sy = cs'[m].sync := ⟨_, _, _, _, rfl, rfl, rfl, rfl⟩
            obtain ⟨hs1, hs2, hs3, hs4⟩ := hsh
            have HSM2 : Hid ((ad, n2, c2) ∈ SH) := by unfold Hid; rw [hs1, hs2, hs3]; exact HSM.out
            rw [← hs1, ← hs2, ← hs3, ← hs4] at HRW
            have hn2 : n2 ≤ 256 := HSB.out _ HSM2.out
            clear hs1 hs2 hs3 hs4 HSM
            go_wp2_with fail
            go_loopw [16] (fun kk wr => ∃ q : Nat, kk = .int .i64 (q : Int) ∧ q ≤ n2 ∧
              Hid (Led T w wr [queueT g es2, stillT P2, box b4 54 #[.slice a rs.length cap], box b5 58 #[.int .i64 xw, .int .i64 xn, .int .i64 xm, .slice xa xl.length xc], box b7 54 #[.slice none 0 0], box b9 54 #[.slice a1 rs1.length cap1], rowT 27 7 (.slice (some ⟨gl, 0, none⟩) xl.length lc) xl.length (entCells cs'), looseT SH])) (fun kk _ => n2 - (intOf kk).toNat)
            case atStart => exact ⟨0, rfl, Nat.zero_le _, HK⟩
            case round =>
              obtain ⟨q, rfl, hq, HK2⟩ := hrel
              clear HK
              have hq0 : (0 : Int) ≤ (q : Int) := by omega
              obtain ⟨r0, r6, zl⟩ := HRW.out _ (HK2.out.rowSAt 6 rfl)
              by_cases hql : q < n2
              · have hql' : (q : Int) < (n2 : Int) := by omega
                obtain ⟨g2, z2, hg2, l0, lf, lz⟩ := HK2.out.looseAt 7 rfl HSM2.out hql
                subst hg2
                have HK3 := fun z => Lib.hid (HK2.out.looseSet 7 rfl HSM2.out q z)
                go_wp2
                go_roundw
                case rel => exact ⟨q + 1, by go_num, hql, HK3 _⟩
                case measure => simp [intOf]; omega
              · have hql' : ¬ (q : Int) < (n2 : Int) := by omega
                have rf := rowS_frozen (HK2.out.rowSAt 6 rfl) (m * 7)
                obtain ⟨cs2, hc1, hc2, hc3⟩ := entCells_setsync cs' m (wrap64 (sy + 1))
                have HK3 := Lib.hid (HK2.out.rowSset 6 rfl (m * 7) (.int .i64 (wrap64 (sy + 1))))
                simp only [List.set_cons_succ, List.set_cons_zero] at HK3
                rw [← hc3] at HK3
                have HS3 : Hid (cs2.map (fun c => c.v.sh) = SH) := hc2.trans HS2.out
                clear hc2 hc3
                go_wp2
                go_roundw
                case rel => exact ⟨m + 1, cs2, by go_num, hml, by omega, HS3, HK3⟩
                case measure => simp [intOf]; omega
          · have hml' : ¬ (m : Int) < (xl.length : Int) := by omega
            obtain ⟨w0, wf, hl9, _, _⟩ := HK.out.c1 5 rfl
            obtain ⟨u0, uf, hl7, _, _⟩ := HK.out.c1 4 rfl
            have n1 := HK.out.ne 5 4 rfl rfl (by decide)
            have n2 := Ne.symm n1
            go_wp2_with fail
            go_region_held3 (fun w' => w'.cell? ⟨b9, 0, none⟩ = some (.slice a1 rs1.length cap1)) (go_keep) (first | (go_at_call 15; refine (num13 _ _).mono ?_; rintro e w' ⟨rfl, rfl⟩))
            go_wp2
            have HL6 := Lib.hid (HK.out.set 4 rfl 0 (.slice a1 rs1.length cap1)).drew
            simp only [List.set_cons_succ, List.set_cons_zero, List.setIfInBounds_toArray] at HL6
            obtain ⟨s0, _⟩ := HL6.out.c1 4 rfl
            refine bodyPost_ret (v := .tuple #[.pointer (some ⟨g, 0, none⟩), .agg #[.slice a1 rs1.length cap1], .bool true]) (by simp [results, Try.results26, go_sem, s0]) rfl ?_
            exact ⟨g, es2, rs1, a1, cap1, P2, rfl, HBF.out, HPF.out, HL6.out.sel [0, 1] rfl (by decide)⟩
  clear a1
  rcases hw with hw | hw | hw | hw
  all_goals
    simp only [hw] at HC ⊢
    go_wp2
    exact HC _ _ _ _
end Go.Proofs.Ytihmbgdkllmkaaa
