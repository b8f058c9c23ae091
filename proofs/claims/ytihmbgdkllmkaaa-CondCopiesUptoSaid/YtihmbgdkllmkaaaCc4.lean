/-
  Texts 4 of 5 that CondCopies rests on, laid together by program: Act13, W15, Few15, RetC, QuietRound, HeldRound, Over, Act15, Act15b, Act15c, Act13b, Act15d, Made15, ScopeIn, NoQ, Same13, Same15.
-/
import Derived.Test.YtihmbgdkllmkaaaCc1
import Derived.Test.YtihmbgdkllmkaaaCc2
import Derived.Test.YtihmbgdkllmkaaaCc3
import Derived.Deep.Cut
import Derived.Deep.CutRange
import Derived.Test.YtihmbgdkllmkaaaProg
import Derived.Sort.QuietIn
import Derived.RangeFuncCalls
import Derived.Deep.RegionHeld3
import Derived.ControlIn
import Derived.Scope
/-
  act() of law 13 (betrothallaw13/law.go): one call by both.
-/
namespace Go.Proofs.Ytihmbgdkllmkaaa
open Go.RowKit Go.Shelf
set_option maxRecDepth 100000
set_option linter.unusedVariables false
set_option linter.unusedSimpArgs false

/-- A call of law 13. -/
structure CB where
  what : Int
  n : Int
  m : Int
  a : Option Addr
  cap : Nat
  l : List ME
def CB.val (x : CB) : Value := .agg #[.int .i64 x.what, .int .i64 x.n, .int .i64 x.m, .slice x.a x.l.length x.cap]
theorem cb_eq (x : CB) : x.val = .agg #[.int .i64 x.what, .int .i64 x.n, .int .i64 x.m, .slice x.a x.l.length x.cap] := rfl
/-- What a call holds, in memory. -/
def CB.In (x : CB) (W : World) : Prop := EntsAt W x.a x.l ∧ ∀ e ∈ x.l, e.v.In W
/-- At most six entries, of values of at most 256 parts. -/
def CB.Few (x : CB) : Prop := x.l.length ≤ 6 ∧ ∀ e ∈ x.l, e.v.nodes ≤ 256
/-- The queue's entries es and the reference's rs. -/
def Both13 (P : World → Prop) (es rs : List ME) (a : Option Addr) (cap : Nat) : Prop :=
  es.map ME.plain = rs.map ME.plain ∧ rs.length ≤ cap ∧ es.length ≤ 4096 ∧ (∀ e ∈ es, e.v.nodes ≤ 256) ∧ ∀ W, P W → (∀ e ∈ es, e.v.In W) ∧ EntsAt W a rs ∧ ∀ r ∈ rs, r.v.In W
theorem Both13.len {P : World → Prop} {es rs : List ME} {a : Option Addr} {cap : Nat} (h : Both13 P es rs a cap) : es.length = rs.length := by have := congrArg List.length h.1; simpa using this
theorem Both13.rnodes {P : World → Prop} {es rs : List ME} {a : Option Addr} {cap : Nat} (h : Both13 P es rs a cap) : ∀ r ∈ rs, r.v.nodes ≤ 256 := fun r hr => by
  have hm : r.plain ∈ es.map ME.plain := by rw [h.1]; exact List.mem_map_of_mem hr
  obtain ⟨e, he, hp⟩ := List.mem_map.1 hm
  have := h.2.2.2.1 e he
  rw [← MT.plain_nodes] at this ⊢
  have h2 : e.v.plain = r.v.plain := congrArg PE.v hp
  rw [← h2]; exact this
/-- What act tells. -/
def Acted13 (T : List Nat) (w : World) (P : World → Prop) (e : Ending) (w' : World) : Prop :=
  ∃ (g : Nat) (es rs : List ME) (a : Option Addr) (cap : Nat) (P' : World → Prop), e = .returned (.tuple #[.pointer (some ⟨g, 0, none⟩), .agg #[.slice a rs.length cap], .bool true]) ∧ Both13 P' es rs a cap ∧ (∀ W, P' W → P W) ∧ Led T w w' [queueT g es, stillT P']
theorem Led.rPushes {T : List Nat} {w0 w : World} {l : List Thing} {P : World → Prop} (h : Led T w0 w l) (j : Nat) (hj : l[j]? = some (stillT P)) (a xa : Option Addr) (cap xc : Nat) (rs xs : List ME) (hcap : rs.length ≤ cap) (hP : ∀ W, P W → EntsAt W a rs ∧ EntsAt W xa xs ∧ ∀ x ∈ xs, x.v.In W) (hnx : ∀ x ∈ xs, x.v.nodes ≤ 1048576) (hlen : rs.length ≤ 4096) (hxl : xs.length ≤ 1099511627776) :
    Calls Try.prog 70 #[.agg #[.slice a rs.length cap], .slice xa xs.length xc] w fun e w' => ∃ (k : Nat) (err : Int) (a' : Option Addr) (cap' : Nat), e = .returned (.tuple #[.agg #[.slice a' (rs ++ xs.take k).length cap'], .int .i64 err]) ∧ (rs ++ xs.take k).length ≤ cap' ∧ PushR rs.length (xs.map ME.plain) k err ∧ ∃ P' : World → Prop, (∀ W, P' W → P W ∧ EntsAt W a' (rs ++ xs.take k)) ∧ Led T w0 w' (l.set j (stillT P')) := by
  obtain ⟨T', h1, hb⟩ := h.frame1 j hj
  refine (Pushes_ref T' w P a xa cap xc rs xs hcap h1 hP hnx hlen hxl).mono ?_
  rintro e w' ⟨k, err, a', cap', rfl, hc, hR, P', hP', hL⟩
  exact ⟨k, err, a', cap', rfl, hc, hR, P', hP', hb _ _ [] hL⟩
theorem Led.rDrop {T : List Nat} {w0 w : World} {l : List Thing} {P : World → Prop} (h : Led T w0 w l) (j : Nat) (hj : l[j]? = some (stillT P)) (a : Option Addr) (cap : Nat) (rs : List ME) (i : Int) (hcap : rs.length ≤ cap) (hP : ∀ W, P W → EntsAt W a rs) (hlen : rs.length ≤ 1048576) :
    Calls Try.prog 71 #[.agg #[.slice a rs.length cap], .int .i64 i] w fun e w' => ∃ (a' : Option Addr) (cap' : Nat) (rs' : List ME) (x : ME) (c : Bool), e = .returned (.tuple #[.agg #[.slice a' rs'.length cap'], x.val, .bool c]) ∧ rs'.length ≤ cap' ∧ AtRef rs i x c ∧ rs' = (if c = true then rs.eraseIdx i.toNat else rs) ∧ ∃ P' : World → Prop, (∀ W, P' W → P W ∧ EntsAt W a' rs') ∧ Led T w0 w' (l.set j (stillT P')) := by
  obtain ⟨T', h1, hb⟩ := h.frame1 j hj
  refine (Drop_ref T' w P a cap rs i hcap h1 hP hlen).mono ?_
  rintro e w' ⟨a', cap', rs', x, c, rfl, hc, hR, hrs, P', hP', hL⟩
  exact ⟨a', cap', rs', x, c, rfl, hc, hR, hrs, P', hP', hb _ _ [] hL⟩
theorem Led.rPurge {T : List Nat} {w0 w : World} {l : List Thing} {P : World → Prop} (h : Led T w0 w l) (j : Nat) (hj : l[j]? = some (stillT P)) (a za : Option Addr) (cap zc : Nat) (rs : List ME) (zs : List Int) (hP : ∀ W, P W → EntsAt W a rs ∧ IntsAt W za zs) (hlen : rs.length ≤ 1048576) (hzl : zs.length ≤ 1048576) :
    Calls Try.prog 72 #[.agg #[.slice a rs.length cap], .slice za zs.length zc] w fun e w' => ∃ (a' : Option Addr) (cap' : Nat) (rs' : List ME), rs' = rs.filter (fun e => !decide (e.sync ∈ zs)) ∧ e = .returned (.tuple #[.agg #[.slice a' rs'.length cap'], .int .i64 ((rs.length : Int) - (rs'.length : Int))]) ∧ rs'.length ≤ cap' ∧ ∃ P' : World → Prop, (∀ W, P' W → P W ∧ EntsAt W a' rs') ∧ Led T w0 w' (l.set j (stillT P')) := by
  obtain ⟨T', h1, hb⟩ := h.frame1 j hj
  refine (Purge_ref T' w P a za cap zc rs zs h1 hP hlen hzl).mono ?_
  rintro e w' ⟨a', cap', rs', hrs, rfl, hc, P', hP', hL⟩
  exact ⟨a', cap', rs', hrs, rfl, hc, P', hP', hb _ _ [] hL⟩
set_option maxHeartbeats 4000000 in
theorem act13_push (T : List Nat) (w : World) (P : World → Prop) (g : Nat) (es rs : List ME) (a : Option Addr) (cap : Nat) (x : CB) (h : Led T w w [queueT g es, stillT P]) (hB : Both13 P es rs a cap) (hx : x.Few ∧ ∀ W, P W → x.In W) (hw : x.what = 0 ∨ x.what = 1 ∨ x.what = 2 ∨ x.what = 3) :
    Calls Try.prog 26 #[.pointer (some ⟨g, 0, none⟩), .agg #[.slice a rs.length cap], x.val] w (Acted13 T w P) := by
  obtain ⟨xw, xn, xm, xa, xc, xl⟩ := x
  have hx6 : xl.length ≤ 6 := hx.1.1
  have HXN : Hid (∀ e ∈ xl, e.v.nodes ≤ 256) := hx.1.2
  have HX : Hid (∀ W, P W → EntsAt W xa xl ∧ ∀ e ∈ xl, e.v.In W) := hx.2
  have hrl : rs.length ≤ 4096 := by rw [← hB.len]; exact hB.2.2.1
  have HB := Lib.hid hB
  have HL0 := Lib.hid h
  clear h hB hx
  simp only [cb_eq]
  go_enter Try.func26, Try.ntmps26
  go_upto_region 1 with fail
  refine wp_name ?_
  intro w1 hw1
  have HL1 := Lib.hid (HL0.out.al3 hw1)
  simp only [List.nil_append, List.cons_append] at HL1
  obtain ⟨b7, hb7⟩ : ∃ b, w.heap.size + 1 + 1 = b := ⟨_, rfl⟩
  rw [hb7] at HL1 ⊢
  obtain ⟨b5, hb5⟩ : ∃ b, w.heap.size + 1 = b := ⟨_, rfl⟩
  rw [hb5] at HL1 ⊢
  obtain ⟨b4, hb4⟩ : ∃ b, w.heap.size = b := ⟨_, rfl⟩
  rw [hb4] at HL1 ⊢
  clear hw1 hb7 hb5 hb4 HL0
  obtain ⟨v0, vf, hl4, _, _⟩ := HL1.out.c1 2 rfl
  obtain ⟨x0, x1, x2, x3, _, _, _, _, hl5, _, _⟩ := HL1.out.c4 3 rfl
  obtain ⟨u0, uf, hl7, _, _⟩ := HL1.out.c1 4 rfl
  dsimp only at hw
  go_upto_region 2 with fail
  rename_i K2 a2 K1 a1 K0 a0
  have HC : ∀ (y27 y28 y29 y30 : Value), K1 { tmps := #[.pointer (some ⟨g, 0, none⟩), .agg #[.slice a rs.length cap], .agg #[.int .i64 xw, .int .i64 xn, .int .i64 xm, .slice xa xl.length xc], undef, .pointer (some ⟨b4, 0, none⟩), .pointer (some ⟨b5, 0, none⟩), .pointer none, .pointer (some ⟨b7, 0, none⟩), .bool false, undef, undef, undef, undef, undef, undef, undef, undef, undef, undef, undef, undef, undef, undef, undef, .pointer (some ⟨b5, 0, none⟩), .int .i64 xw, .bool true, y27, y28, y29, y30, undef, undef, undef, undef, undef, undef, undef, undef, undef, undef, undef, undef, undef, undef, undef, undef, undef, undef, undef, undef, undef, undef, undef, undef, undef, undef, undef, undef, undef, undef, undef, undef, undef, undef, undef, undef, undef, undef, undef, undef, undef, undef, undef, undef, undef, undef, undef, undef, undef, undef, undef, undef, undef, undef, undef, undef, undef, undef, undef, undef, undef, undef, undef, undef, undef, undef, undef, undef, undef, undef, undef, undef, undef, undef, undef, undef, undef, undef, undef, undef, undef, undef, undef, undef, undef, undef, undef, undef, undef, undef, undef, undef, undef, undef, undef, undef, undef, undef, undef, undef, undef, undef, undef, undef, undef, undef, undef, undef, undef, undef, undef, undef, undef, undef, undef, undef, undef, undef, undef, undef, undef, undef, undef, undef, undef, undef, undef, undef, undef, undef, undef], defers := [] } w1 := by
    intro y27 y28 y29 y30
    refine a1 _ _ ?_
    clear a0 a1
    go_wp2_with fail
    refine (HL1.out.rPushes 1 rfl a xa cap xc rs xl HB.out.2.1 (fun W hW => ⟨(HB.out.2.2.2.2 W hW).2.1, (HX.out W hW).1, (HX.out W hW).2⟩) (fun e he => Nat.le_trans (HXN.out e he) (by omega)) hrl (by omega)).mono ?_
    rintro e w2 ⟨k, err, a1, cap1, rfl, hc1, hR, P1, hP1, hL⟩
    have HL2 := Lib.hid hL
    simp only [List.set_cons_zero, List.set_cons_succ] at HL2
    have HR := Lib.hid hR
    have HC1 := Lib.hid hc1
    have HP1 := Lib.hid hP1
    clear hL hR hc1 hP1 HL1 v0 vf hl4 x0 x1 x2 x3 hl5 u0 uf hl7
    obtain ⟨rs1, hrs1⟩ : ∃ r, rs ++ xl.take k = r := ⟨_, rfl⟩
    rw [hrs1] at HC1 HP1 ⊢
    have HRS1 := Lib.hid hrs1
    clear hrs1
    obtain ⟨v0, vf, hl4, _, _⟩ := HL2.out.c1 2 rfl
    obtain ⟨x0, x1, x2, x3, _, _, _, _, hl5, _, _⟩ := HL2.out.c4 3 rfl
    go_wp2_with fail
    refine wp_name ?_
    intro w3 hw3
    have HL3 := Lib.hid ((HL2.out.al1 hw3).rowSnil 27 7).exact0
    simp only [List.nil_append, List.cons_append] at HL3
    obtain ⟨b9, hb9⟩ : ∃ b, w2.heap.size = b := ⟨_, rfl⟩
    rw [hb9] at HL3 ⊢
    clear hw3 hb9 HL2 v0 vf hl4 x0 x1 x2 x3 hl5
    obtain ⟨i0, hi0, iz0, iz1, iz2⟩ := info_parts info_ent
    obtain ⟨q0, hq0, qz0, qz1, qz2⟩ := info_parts info_val
    go_loopw [11, 12] (fun l i wr => ∃ (j : Nat) (cs : List ME) (la : Option Addr) (lc : Nat), i = .int .i64 (j : Int) ∧ l = .slice la j lc ∧ j ≤ xl.length ∧ cs.length = j ∧ Hid (cs.map ME.plain = (xl.take j).map ME.plain) ∧ Hid (∀ c ∈ cs, ∃ e ∈ xl, c.v.parts = e.v.parts) ∧
      Hid (Led T w wr [queueT g es, stillT P1, box b4 54 #[.slice a rs.length cap], box b5 58 #[.int .i64 xw, .int .i64 xn, .int .i64 xm, .slice xa xl.length xc], box b7 54 #[.slice none 0 0], box b9 54 #[.slice a1 rs1.length cap1], rowT 27 7 (.slice la j lc) j (entCells cs), exactT (cs.map ME.v)])) (fun _ i _ => xl.length - (intOf i).toNat)
    case atStart => exact ⟨0, [], none, 0, rfl, rfl, Nat.zero_le _, rfl, by unfold Hid; simp, by unfold Hid; simp, HL3⟩
    case round =>
      obtain ⟨j, cs, la, lc, rfl, rfl, hj, hcl, HY, HPT, HK⟩ := hrel
      clear HL3
      have hj0 : (0 : Int) ≤ (j : Int) := by omega
      obtain ⟨x0, x1, x2, x3, _, _, _, _, hl5, _, _⟩ := HK.out.c4 3 rfl
      by_cases hjl : j < xl.length
      · have hjl' : (j : Int) < (xl.length : Int) := by omega
        have HXW := Lib.hid (HX.out _ (HP1.out _ (HK.out.still 1 rfl)).1)
        obtain ⟨b, o, rfl, hb, p0, p1, p2, p3, p4, p5, p6⟩ := HXW.out.1 j hjl
        have HIN := Lib.hid (HXW.out.2 _ (List.getElem_mem hjl))
        have HYM : Hid (xl[j] ∈ xl) := List.getElem_mem hjl
        have HYN := Lib.hid (HXN.out _ (List.getElem_mem hjl))
        have HTS : Hid ((xl.take (j + 1)).map ME.plain = (xl.take j).map ME.plain ++ [xl[j].plain]) := by unfold Hid; rw [List.take_add_one, List.getElem?_eq_getElem hjl, Option.toList_some, List.map_append]; rfl
        generalize xl[j] = y at p0 p1 p2 p3 p4 p5 p6 HIN HYM HYN HTS
        have hpl : y.v.parts.length ≤ 256 := by have h1 := MT.length_le y.v.parts; have h2 := y.v.nodes_eq; have := HYN.out; omega
        have HKa := Lib.hid ((HK.out.alloc 27 #[.int .i64 y.sync, .int .i64 y.thread, .int .i64 y.branch, .int .i64 y.flag, .int .i64 y.v.kind, .int .i64 y.v.num, .slice y.v.addr y.v.parts.length y.v.cap]).empty 25 3)
        simp only [List.nil_append, List.cons_append, World.size_alloc] at HKa
        go_wp2_with (at_builtin; go_must (refine wpList_append_S _ rfl (.tmp 50) (.tmp 53) 23 rfl 25 q0 _ 3 40 Try.underlying23 hq0 qz0 qz1 qz2 rfl (by decide) (.slice (some ⟨wr.heap.size + 1, 0, none⟩) 0 0) 0 [] rfl (HKa.out.rowSAt 9 rfl) y.v.addr y.v.parts.length y.v.cap (valCells y.v.parts) rfl (valCells_length _) (((HX.out _ (HP1.out _ (HKa.out.still 1 rfl)).1).2 y HYM.out).row.src) (vals_one _) (by simp only [maxLen]; omega) (by omega) ?_); intro a5 c5 w5 hown hgrow hat; refine Hid.out ?_)
        simp only [Nat.zero_add, List.nil_append] at hown hat ⊢
        have HLb := Lib.hid (HKa.out.grownS 9 rfl hgrow hown hat)
        simp only [List.set_cons_succ, List.set_cons_zero] at HLb
        clear hown hgrow hat HKa p0 p1 p2 p3 p4 p5 p6 hb x0 x1 x2 x3 hl5
        obtain ⟨b13, hb13⟩ : ∃ b, wr.heap.size = b := ⟨_, rfl⟩
        rw [hb13] at HLb
        simp only [hb13]
        clear hb13 HK
        obtain ⟨p0, p1, p2, p3, p4, p5, p6, ⟨_, _, _, _, _, _, pf⟩, hb, _, _⟩ := HLb.out.c7 8 rfl
        have HLc := Lib.hid ((HLb.out.set 8 rfl 6 (.slice a5 y.v.parts.length c5)).alloc 27 #[.int .i64 y.sync, .int .i64 y.thread, .int .i64 y.branch, .int .i64 y.flag, .int .i64 y.v.kind, .int .i64 y.v.num, .slice a5 y.v.parts.length c5])
        simp only [List.set_cons_succ, List.set_cons_zero, List.setIfInBounds_toArray, List.nil_append, List.cons_append, World.size_setCell] at HLc
        refine Lib.hid ?_
        go_wp2_with (at_builtin; go_must (refine wpList_append_S _ rfl (.tmp 57) (.tmp 59) 32 rfl 27 i0 _ 7 72 Try.underlying32 hi0 iz0 iz1 iz2 rfl (by decide) (.slice la j lc) j (entCells cs) rfl (HLc.out.rowSAt 6 rfl) (some ⟨w5.heap.size, 0, none⟩) 1 1 (ME.mk y.sync y.thread y.branch y.flag (.mk y.v.kind y.v.num a5 c5 y.v.parts)).cells rfl rfl (.inr ⟨_, rfl, (HLc.out.box 10 rfl).src⟩) (cells_one _) (by simp only [maxLen]; omega) (by omega) ?_); intro a6 c6 w6 hown hgrow hat; refine Hid.out ?_)
        have HLd := Lib.hid (HLc.out.grownS 6 rfl hgrow hown hat)
        simp only [List.set_cons_succ, List.set_cons_zero] at HLd
        clear hown hgrow hat HLc HLb p0 p1 p2 p3 p4 p5 p6 pf hb
        obtain ⟨c, hc⟩ : ∃ c, ME.mk y.sync y.thread y.branch y.flag (.mk y.v.kind y.v.num a5 c5 y.v.parts) = c := ⟨_, rfl⟩
        have HCP : Hid (c.plain = y.plain ∧ c.v.parts = y.v.parts) := by subst hc; exact ⟨by simp only [ME.plain, MT.plain_eq]; rfl, rfl⟩
        have HLe : Hid (Led T w w6 [queueT g es, stillT P1, box b4 54 #[.slice a rs.length cap], box b5 58 #[.int .i64 xw, .int .i64 xn, .int .i64 xm, .slice (some ⟨b, o, none⟩) xl.length xc], box b7 54 #[.slice none 0 0], box b9 54 #[.slice a1 rs1.length cap1], rowT 27 7 (.slice a6 (j + 1) c6) (j + 1) (entCells (cs ++ [c])), exactT ((cs ++ [c]).map ME.v)]) := by
          have h := HLd.out.sel [0, 1, 2, 3, 4, 5, 6, 7, 9] (l' := [_, _, _, _, _, _, _, _] ++ [rowT 25 3 (.slice c.v.addr c.v.parts.length c.v.cap) c.v.parts.length (valCells c.v.parts)]) (by subst hc; rfl) (by decide)
          have h2 := h.exactAdd 7 rfl
          rw [entCells_append, List.map_append, show entCells [c] = c.cells from (by simp [entCells])]
          subst hc
          exact h2
        clear hc HLd
        refine Lib.hid ?_
        go_wp2
        go_roundw
        case rel =>
          refine ⟨j + 1, cs ++ [c], a6, c6, by go_num, rfl, hjl, by simp [hcl], by unfold Hid; rw [List.map_append, HY.out, HTS.out, ← HCP.out.1]; rfl, ?_, HLe⟩
          unfold Hid
          intro c' hc'
          rcases List.mem_append.1 hc' with hc' | hc'
          · exact HPT.out c' hc'
          · obtain rfl : c' = c := by simpa using hc'
            exact ⟨y, HYM.out, HCP.out.2⟩
        case measure => simp [intOf]; omega
      · have hjl' : ¬ (j : Int) < (xl.length : Int) := by omega
        obtain rfl : j = xl.length := by omega
        rw [List.take_length] at HY
        go_wp2_with fail
        have hq := HK.out.qPushS (xs := cs) (a := la) (cap := lc) 0 1 rfl rfl (by decide) (fun W hW => by
          refine ⟨?_, fun c hc => ?_⟩
          · obtain ⟨f, _, hr⟩ := hW 6 (rowT 27 7 (.slice la xl.length lc) xl.length (entCells cs)) (by decide) rfl
            exact ents_of_rowS (cap := lc) (by rw [hcl]; exact hr)
          · obtain ⟨e, he, hpe⟩ := HPT.out c hc
            obtain ⟨f, _, hs⟩ := hW 1 (stillT P1) (by decide) rfl
            have hxw := (HX.out _ (HP1.out _ (hs W (fun _ _ => rfl))).1).2 e he
            refine exactT_in (hW 7 (exactT (cs.map ME.v)) (by decide) rfl) (List.mem_map.2 ⟨c, hc, rfl⟩) ?_ ?_
            · rw [hpe]; exact hxw.len
            · rw [hpe]; exact fun u hu => hxw.part hu) (by omega) HB.out.2.2.1
        rw [hcl] at hq
        refine hq.mono ?_
        clear hq
        rintro e w4 ⟨k2, err2, ys, rfl, hR2, hp2, hL⟩
        obtain ⟨hk2, he2⟩ := HR.out.unique (k' := k2) (err' := err2) (by rw [← HB.out.len, ← HY.out]; exact hR2)
        subst hk2 he2
        have HBF : Hid (Both13 (fun W => P1 W ∧ ∀ y ∈ ys, y.v.In W) (es ++ ys) rs1 a1 cap1) := by
          have hyp : ys.map ME.plain = (xl.take k).map ME.plain := by rw [hp2, HY.out, List.map_take]
          have hyl : ys.length ≤ k := by have := congrArg List.length hyp; simp at this; omega
          have hrk := hR2.2.1
          refine ⟨?_, HC1.out, by simp; omega, ?_, ?_⟩
          · rw [← HRS1.out, List.map_append, List.map_append, HB.out.1, hyp]
          · intro e he
            rcases List.mem_append.1 he with he | he
            · exact HB.out.2.2.2.1 e he
            · have hm : e.plain ∈ (xl.take k).map ME.plain := by rw [← hyp]; exact List.mem_map_of_mem he
              obtain ⟨z, hz, hzp⟩ := List.mem_map.1 hm
              have h1 := HXN.out z (List.mem_of_mem_take hz)
              rw [← MT.plain_nodes] at h1 ⊢
              have h2 : z.v.plain = e.v.plain := congrArg PE.v hzp
              rw [← h2]; exact h1
          · intro W ⟨hW1, hW2⟩
            have hPW := (HP1.out W hW1).1
            refine ⟨fun e he => ?_, (HP1.out W hW1).2, fun r hr => ?_⟩
            · rcases List.mem_append.1 he with he | he
              · exact (HB.out.2.2.2.2 W hPW).1 e he
              · exact hW2 e he
            · rw [← HRS1.out] at hr
              rcases List.mem_append.1 hr with hr | hr
              · exact (HB.out.2.2.2.2 W hPW).2.2 r hr
              · exact (HX.out W hPW).2 r (List.mem_of_mem_take hr)
        have HPF : Hid (∀ W, (fun W => P1 W ∧ ∀ y ∈ ys, y.v.In W) W → P W) := fun W hW => (HP1.out W hW.1).1
        have HL4 := Lib.hid (hL.loosen 7 rfl)
        simp only [List.set_cons_succ, List.set_cons_zero] at HL4
        rw [show (cs.map ME.v).map MT.sh = cs.map (fun c => c.v.sh) from by rw [List.map_map]; rfl] at HL4
        obtain ⟨SH, hSH⟩ : ∃ S, cs.map (fun c => c.v.sh) = S := ⟨_, rfl⟩
        rw [hSH] at HL4
        have HSH := Lib.hid hSH
        have hsl : SH.length = xl.length := by rw [← hSH, List.length_map, hcl]
        have HSB : Hid (∀ s ∈ SH, s.2.1 ≤ 256) := by
          unfold Hid
          rw [← hSH]
          intro s hs
          obtain ⟨c, hc, rfl⟩ := List.mem_map.1 hs
          obtain ⟨e, he, hpe⟩ := HPT.out c hc
          have h1 := MT.length_le e.v.parts
          have h2 := e.v.nodes_eq
          have h3 := HXN.out e he
          show c.v.parts.length ≤ 256
          rw [hpe]
          omega
        clear hR2 hp2 hL hSH HK HC1 HRS1 HY HPT HP1
        generalize es ++ ys = es2 at HL4 HBF
        generalize (fun W => P1 W ∧ ∀ y ∈ ys, y.v.In W) = P2 at HL4 HBF HPF
        go_wp2_with fail
        go_loopw [15] (fun i wr => ∃ (m : Nat) (cs' : List ME), i = .int .i64 (m : Int) ∧ m ≤ xl.length ∧ cs'.length = xl.length ∧ Hid (cs'.map (fun c => c.v.sh) = SH) ∧
          Hid (Led T w wr [queueT g es2, stillT P2, box b4 54 #[.slice a rs.length cap], box b5 58 #[.int .i64 xw, .int .i64 xn, .int .i64 xm, .slice xa xl.length xc], box b7 54 #[.slice none 0 0], box b9 54 #[.slice a1 rs1.length cap1], rowT 27 7 (.slice la xl.length lc) xl.length (entCells cs'), looseT SH])) (fun i _ => xl.length - (intOf i).toNat)
        case atStart => exact ⟨0, cs, rfl, Nat.zero_le _, hcl, HSH, HL4⟩
        case round =>
          obtain ⟨m, cs', rfl, hm, hcl2, HS2, HK⟩ := hrel
          clear HL4
          have hm0 : (0 : Int) ≤ (m : Int) := by omega
          by_cases hml : m < xl.length
          · have hml' : (m : Int) < (xl.length : Int) := by omega
            obtain ⟨gl, cap', cur, hv, _⟩ := rowS_form (HK.out.rowSAt 6 rfl) (by omega)
            injection hv with hv1 _ hv3
            subst hv1 hv3
            have HSM : Hid (cs'[m].v.sh ∈ SH) := by
              have h : cs'[m].v.sh ∈ cs'.map (fun c => c.v.sh) := List.mem_map.2 ⟨cs'[m], List.getElem_mem (by omega), rfl⟩
              have he := HS2.out
              unfold Hid
              exact he ▸ h
            have HRW : Hid (∀ W, rowS W 27 7 (.slice (some ⟨gl, 0, none⟩) xl.length lc) xl.length (entCells cs') → W.cell? ⟨gl, m * 7, none⟩ = some (.int .i64 cs'[m].sync) ∧ W.cell? ⟨gl, m * 7 + 4 + 2, none⟩ = some (.slice cs'[m].v.addr cs'[m].v.parts.length cs'[m].v.cap) ∧ gl < W.heap.size) := by
              intro W hW
              obtain ⟨b', o', hbo, hb', c0, _, _, _, _, _, c6⟩ := ents_of_row hcl2 hW m (by omega)
              injection hbo with hbo
              injection hbo with h1 h2
              subst h1 h2
              simp only [Nat.zero_add] at c0 c6
              exact ⟨c0, c6, hb'⟩
            obtain ⟨ad, n2, c2, sy, hsh⟩ : ∃ ad n2 c2 sy, ad = cs'[m].v.addr ∧ n2 = cs'[m].v.parts.length ∧ c2 = cs'[m].v.cap ∧ sy = cs'[m].sync := ⟨_, _, _, _, rfl, rfl, rfl, rfl⟩
            obtain ⟨hs1, hs2, hs3, hs4⟩ := hsh
            have HSM2 : Hid ((ad, n2, c2) ∈ SH) := by unfold Hid; rw [hs1, hs2, hs3]; exact HSM.out
            rw [← hs1, ← hs2, ← hs3, ← hs4] at HRW
            have hn2 : n2 ≤ 256 := HSB.out _ HSM2.out
            clear hs1 hs2 hs3 hs4 HSM
            go_wp2_with fail
            go_loopw [16] (fun kk wr => ∃ q : Nat, kk = .int .i64 (q : Int) ∧ q ≤ n2 ∧
              Hid (Led T w wr [queueT g es2, stillT P2, box b4 54 #[.slice a rs.length cap], box b5 58 #[.int .i64 xw, .int .i64 xn, .int .i64 xm, .slice xa xl.length xc], box b7 54 #[.slice none 0 0], box b9 54 #[.slice a1 rs1.length cap1], rowT 27 7 (.slice (some ⟨gl, 0, none⟩) xl.length lc) xl.length (entCells cs'), looseT SH])) (fun kk _ => n2 - (intOf kk).toNat)
            case atStart => exact ⟨0, rfl, Nat.zero_le _, HK⟩
            case round =>
              obtain ⟨q, rfl, hq, HK2⟩ := hrel
              clear HK
              have hq0 : (0 : Int) ≤ (q : Int) := by omega
              obtain ⟨r0, r6, zl⟩ := HRW.out _ (HK2.out.rowSAt 6 rfl)
              by_cases hql : q < n2
              · have hql' : (q : Int) < (n2 : Int) := by omega
                obtain ⟨g2, z2, hg2, l0, lf, lz⟩ := HK2.out.looseAt 7 rfl HSM2.out hql
                subst hg2
                have HK3 := fun z => Lib.hid (HK2.out.looseSet 7 rfl HSM2.out q z)
                go_wp2
                go_roundw
                case rel => exact ⟨q + 1, by go_num, hql, HK3 _⟩
                case measure => simp [intOf]; omega
              · have hql' : ¬ (q : Int) < (n2 : Int) := by omega
                have rf := rowS_frozen (HK2.out.rowSAt 6 rfl) (m * 7)
                obtain ⟨cs2, hc1, hc2, hc3⟩ := entCells_setsync cs' m (wrap64 (sy + 1))
                have HK3 := Lib.hid (HK2.out.rowSset 6 rfl (m * 7) (.int .i64 (wrap64 (sy + 1))))
                simp only [List.set_cons_succ, List.set_cons_zero] at HK3
                rw [← hc3] at HK3
                have HS3 : Hid (cs2.map (fun c => c.v.sh) = SH) := hc2.trans HS2.out
                clear hc2 hc3
                go_wp2
                go_roundw
                case rel => exact ⟨m + 1, cs2, by go_num, hml, by omega, HS3, HK3⟩
                case measure => simp [intOf]; omega
          · have hml' : ¬ (m : Int) < (xl.length : Int) := by omega
            obtain ⟨w0, wf, hl9, _, _⟩ := HK.out.c1 5 rfl
            obtain ⟨u0, uf, hl7, _, _⟩ := HK.out.c1 4 rfl
            have n1 := HK.out.ne 5 4 rfl rfl (by decide)
            have n2 := Ne.symm n1
            go_wp2_with fail
            go_region_held3 (fun w' => w'.cell? ⟨b9, 0, none⟩ = some (.slice a1 rs1.length cap1)) (go_keep) (first | (go_at_call 15; refine (num13 _ _).mono ?_; rintro e w' ⟨rfl, rfl⟩))
            go_wp2
            have HL6 := Lib.hid (HK.out.set 4 rfl 0 (.slice a1 rs1.length cap1)).drew
            simp only [List.set_cons_succ, List.set_cons_zero, List.setIfInBounds_toArray] at HL6
            obtain ⟨s0, _⟩ := HL6.out.c1 4 rfl
            refine bodyPost_ret (v := .tuple #[.pointer (some ⟨g, 0, none⟩), .agg #[.slice a1 rs1.length cap1], .bool true]) (by simp [results, Try.results26, go_sem, s0]) rfl ?_
            exact ⟨g, es2, rs1, a1, cap1, P2, rfl, HBF.out, HPF.out, HL6.out.sel [0, 1] rfl (by decide)⟩
  clear a1
  rcases hw with hw | hw | hw | hw
  all_goals
    simp only [hw] at HC ⊢
    go_wp2
    exact HC _ _ _ _
end Go.Proofs.Ytihmbgdkllmkaaa

/-
  The law's works() of layer 15 (betrothallaw15/law.go): it returns true, and nothing that was there has turned.
-/
namespace Go.Proofs.Ytihmbgdkllmkaaa
open Go.RowKit Go.Shelf
set_option maxRecDepth 100000
set_option linter.unusedVariables false
set_option linter.unusedSimpArgs false
attribute [local go_sem] Oper.semAt_some

theorem one_of {ys : List ME} {a : PE} (h : ys.map ME.plain = [a]) : ∃ y, ys = [y] ∧ y.plain = a := by
  match ys, h with
  | [y], h => simp at h; exact ⟨y, rfl, h⟩
theorem num15 (n : Int) (w : World) : Calls Try.prog 36 #[.int .i64 n] w fun e w' => e = .returned (.int .i64 n) ∧ w = w' := by
  go_enter Try.func36, Try.ntmps36
  go_wp2
  go_ret
  exact ⟨rfl, rfl⟩
/-- An arena of two cells. -/
def twoC (m a b : Nat) (L : List Acc) : Ar := ⟨[a, b], m, L⟩
section
variable {T : List Nat} {w0 w : World} {l : List Thing} {g c q m a b : Nat} {L : List Acc}
theorem Led.fired2 (h : Led T w0 w l) (i j : Nat) (hi : l[i]? = some (arena g (twoC m a b L))) (hj : l[j]? = some (Proofs.Ytihmbgdkllmkaaa.box c 90 #[.int .i64 0, .int .i64 1, .pointer (some ⟨q, 0, none⟩)])) (n : Nat) (hn : L.length ≤ n) (hn' : n < 1000000) :
    Calls Try.prog 41 #[.pointer (some ⟨c, 0, none⟩), .pointer (some ⟨g, 0, none⟩)] w fun e w' => ∃ L', e = .returned (.tuple #[.bool (decide (b ≠ 0)), .int .i64 0]) ∧ L'.length ≤ n + 1 ∧ Led T w0 w' (l.set i (arena g (twoC m a b L'))) := by
  refine (h.cFired i j hi hj (show L.length < _ by omega) (d := decide (b ≠ 0)) (er := 0) (s' := twoC m a b (L ++ [⟨1, 1, b, b, true⟩])) (by simp [Ar.load, Ar.doBy, twoC, chgLoad, Ar.acc]) rfl rfl).mono ?_
  rintro e w' ⟨rfl, hL⟩
  exact ⟨_, rfl, by simp; omega, hL⟩
theorem Led.fire2 (h : Led T w0 w l) (i j : Nat) (hi : l[i]? = some (arena g (twoC m a b L))) (hj : l[j]? = some (Proofs.Ytihmbgdkllmkaaa.box c 90 #[.int .i64 0, .int .i64 1, .pointer (some ⟨q, 0, none⟩)])) (n : Nat) (hn : L.length ≤ n) (hn' : n < 1000000) (hb : b ≤ 1) :
    Calls Try.prog 37 #[.pointer (some ⟨c, 0, none⟩), .pointer (some ⟨g, 0, none⟩)] w fun e w' => ∃ L', e = .returned (.int .i64 (150 * b : Int)) ∧ L'.length ≤ n + 1 ∧ Led T w0 w' (l.set i (arena g (twoC m a 1 L'))) := by
  obtain rfl | rfl : b = 0 ∨ b = 1 := by omega
  · refine (h.cFire i j hi hj (show L.length < _ by omega) (fe := 0) (s' := twoC m a 1 (L ++ [⟨3, 1, 0, 1, true⟩])) rfl rfl).mono ?_
    rintro e w' ⟨rfl, hL⟩
    exact ⟨_, rfl, by simp; omega, hL⟩
  · refine (h.cFire i j hi hj (show L.length < _ by omega) (fe := 150) (s' := twoC m a 1 (L ++ [⟨3, 1, 1, 1, false⟩])) rfl rfl).mono ?_
    rintro e w' ⟨rfl, hL⟩
    exact ⟨_, rfl, by simp; omega, hL⟩
theorem Led.lock2 (h : Led T w0 w l) (i j : Nat) (hi : l[i]? = some (arena g (twoC m a b L))) (hj : l[j]? = some (Proofs.Ytihmbgdkllmkaaa.box c 90 #[.int .i64 0, .int .i64 1, .pointer (some ⟨q, 0, none⟩)])) (n : Nat) (hn : L.length ≤ n) (hn' : n < 1000000) (ha : a ≤ 1) :
    Calls Try.prog 44 #[.pointer (some ⟨c, 0, none⟩), .pointer (some ⟨g, 0, none⟩)] w fun e w' => ∃ L', e = .returned (.tuple #[.bool (decide (a = 0)), .int .i64 0]) ∧ L'.length ≤ n + 1 ∧ Led T w0 w' (l.set i (arena g (twoC m 1 b L'))) := by
  obtain rfl | rfl : a = 0 ∨ a = 1 := by omega
  · refine (h.cLock i j hi hj (show L.length < _ by omega)).mono ?_
    rintro e w' ⟨rfl, hL⟩
    exact ⟨_, rfl, by simp; omega, (show Led T w0 w' (l.set i (arena g (twoC m 1 b (L ++ [⟨3, 0, 0, 1, true⟩])))) from hL)⟩
  · refine (h.cLock i j hi hj (show L.length < _ by omega)).mono ?_
    rintro e w' ⟨rfl, hL⟩
    exact ⟨_, rfl, by simp; omega, (show Led T w0 w' (l.set i (arena g (twoC m 1 b (L ++ [⟨3, 0, 1, 1, false⟩])))) from hL)⟩
theorem Led.unlock2 (h : Led T w0 w l) (i j : Nat) (hi : l[i]? = some (arena g (twoC m a b L))) (hj : l[j]? = some (Proofs.Ytihmbgdkllmkaaa.box c 90 #[.int .i64 0, .int .i64 1, .pointer (some ⟨q, 0, none⟩)])) (n : Nat) (hn : L.length ≤ n) (hn' : n < 1000000) (ha : a ≤ 1) :
    Calls Try.prog 46 #[.pointer (some ⟨c, 0, none⟩), .pointer (some ⟨g, 0, none⟩)] w fun e w' => ∃ L', e = .returned (.int .i64 (30 - 30 * a : Int)) ∧ L'.length ≤ n + 1 ∧ Led T w0 w' (l.set i (arena g (twoC m 0 b L'))) := by
  obtain rfl | rfl : a = 0 ∨ a = 1 := by omega
  · refine (h.cUnlock i j hi hj (show L.length < _ by omega)).mono ?_
    rintro e w' ⟨rfl, hL⟩
    exact ⟨_, rfl, by simp; omega, (show Led T w0 w' (l.set i (arena g (twoC m 0 b (L ++ [⟨3, 0, 0, 0, false⟩])))) from hL)⟩
  · refine (h.cUnlock i j hi hj (show L.length < _ by omega)).mono ?_
    rintro e w' ⟨rfl, hL⟩
    exact ⟨_, rfl, by simp; omega, (show Led T w0 w' (l.set i (arena g (twoC m 0 b (L ++ [⟨3, 0, 1, 0, true⟩])))) from hL)⟩
/-- An arena of m cells and a condition on its first two. -/
theorem Led.new2 (h : Led T w0 w l) (hm : 2 ≤ m) (i : Nat) (hi : l[i]? = some (arena g (Ar.fresh m))) :
    Calls Try.prog 35 #[.pointer (some ⟨g, 0, none⟩)] w fun e w' => ∃ q c, e = .returned (.tuple #[.pointer (some ⟨c, 0, none⟩), .int .i64 0]) ∧ Led T w0 w' (l.set i (arena g (twoC m 0 0 [])) ++ [queueT q [], valsT [], Proofs.Ytihmbgdkllmkaaa.box c 90 #[.int .i64 0, .int .i64 1, .pointer (some ⟨q, 0, none⟩)]]) := by
  refine (h.cNew i hi (by simpa [Ar.fresh] using hm)).mono ?_
  rintro e w' ⟨q, c, rfl, hL⟩
  refine ⟨q, c, rfl, ?_⟩
  have e1 : ((Ar.fresh m).allocA 2).1 = twoC m 0 0 [] := by unfold Ar.allocA; rw [if_neg (by decide), if_neg (by simp [Ar.fresh]; omega)]; rfl
  rw [e1] at hL
  exact hL
theorem Led.full2 (h : Led T w0 w l) (hm : m < 4) (i : Nat) (hi : l[i]? = some (arena g (twoC m a b L))) :
    Calls Try.prog 35 #[.pointer (some ⟨g, 0, none⟩)] w fun e w' => e = .returned (.tuple #[.pointer none, .int .i64 6]) ∧ Led T w0 w' (l.set i (arena g (twoC m a b L))) := by
  have e1 : ((twoC m a b L).allocA 2).1 = twoC m a b L := by unfold Ar.allocA; rw [if_neg (by decide), if_pos (by simp [twoC]; omega)]
  have := h.cNew_full i hi (by simp [twoC]; omega)
  rw [e1] at this
  exact this
end
theorem build_sync (s : Int) (w : World) : (Instr.build 27 #[(0, .int .i64 s)]).run Try.prog w = .ok (ofE s 0).val w := run_build w 27 _ _ (by kernel_rfl)
attribute [local go_sem] build_sync
theorem sync15 (s : Int) (w : World) : Calls Try.prog 39 #[.int .i64 s] w fun e w' => e = .returned (ofE s 0).val ∧ Touch [] w w' := by
  have HT := Lib.hid ((Touch.refl [] w).alloc (.cells #[.int .i64 s, .int .i64 0, .int .i64 0, .int .i64 0, .int .i64 0, .int .i64 0, .slice none 0 0] 27))
  go_enter Try.func39, Try.ntmps39
  go_wp2
  refine bodyPost_ret (v := .agg #[.int .i64 s, .int .i64 0, .int .i64 0, .int .i64 0, .int .i64 0, .int .i64 0, .slice none 0 0]) (by simp [results, Try.results39, go_sem]) rfl ⟨rfl, HT.out⟩
theorem Led.wait2 {T : List Nat} {w0 w : World} {l : List Thing} {c q : Nat} {a f : Int} {es : List ME} {vs : List MT} (s : Int) (hs : 0 ≤ s) (h : Led T w0 w l) (i k j : Nat) (hi : l[i]? = some (queueT q es)) (hk : l[k]? = some (valsT vs)) (hik : i ≠ k) (hji : j ≠ i) (hjk : j ≠ k) (hj : l[j]? = some (Proofs.Ytihmbgdkllmkaaa.box c 90 #[.int .i64 a, .int .i64 f, .pointer (some ⟨q, 0, none⟩)])) (hes : es.length < 4096) :
    Calls Try.prog 38 #[.pointer (some ⟨c, 0, none⟩), (ofE s 0).val] w fun e w' => ∃ y, e = .returned (.int .i64 0) ∧ y.plain = pOf s 0 ∧ Led T w0 w' ((l.set i (queueT q (es ++ [y]))).set k (valsT (vs ++ [y.v]))) := by
  refine (h.cWait (ofE s 0) i k j hi hk hik hji hjk hj (fun W _ _ => MT.in_zero W) (by omega)).mono ?_
  rintro e w' ⟨n, err, ys, rfl, hR, hp, hL⟩
  obtain ⟨rfl, rfl⟩ := hR.all (fun p hp => by simp at hp; rw [hp]; exact pOf_ok hs (Int.le_refl 0)) (by simp; omega)
  obtain ⟨y, rfl, hy⟩ := one_of (a := pOf s 0) hp
  exact ⟨y, rfl, hy, hL⟩
theorem zero_val : ME.zero.val = .agg #[.int .i64 0, .int .i64 0, .int .i64 0, .int .i64 0, .int .i64 0, .int .i64 0, .slice none 0 0] := rfl
set_option maxHeartbeats 4000000 in
theorem works15 (w : World) : Calls Try.prog 33 #[] w fun e w' => e = .returned (.bool true) ∧ Touch [] w w' := by
  go_enter Try.func33, Try.ntmps33
  go_wp2_with fail
  refine ((Led.nil' w).arNew 3 (by omega) (by omega)).mono ?_
  rintro e w1 ⟨rfl, hh⟩
  have HL1 := Lib.hid hh
  simp only [List.nil_append] at HL1
  obtain ⟨g, hg⟩ : ∃ b, w.heap.size = b := ⟨_, rfl⟩
  rw [hg] at HL1 ⊢
  clear hh hg
  go_wp2_with fail
  refine (HL1.out.new2 (by omega) 0 rfl).mono ?_
  rintro e w2 ⟨q, c, rfl, hL⟩
  have HL := Lib.hid hL
  simp only [List.set_cons_zero, List.cons_append, List.nil_append] at HL
  clear hL HL1
  go_wp2_with fail
  refine (Cells_c _ _ _ _ _ (HL.out.condAt 3 rfl)).mono ?_
  rintro e w3 ⟨rfl, ht⟩
  have HL3 := Lib.hid (HL.out.touch ht)
  clear ht HL
  have HL := Lib.hid HL3.out
  clear HL3
  have hl3 : ([] : List Acc).length ≤ 0 := Nat.le_refl 0
  go_wp2_with fail
  refine (HL.out.fired2 0 3 rfl rfl 0 hl3 (by decide)).mono ?_
  rintro e w4 ⟨L4, rfl, hl4, hL⟩
  have HLN := Lib.hid hL
  simp only [List.set_cons_zero, List.set_cons_succ] at HLN
  clear hL HL
  have HL := Lib.hid HLN.out
  clear HLN
  go_wp2_with fail
  refine (HL.out.fire2 0 3 rfl rfl 1 hl4 (by decide) (by decide)).mono ?_
  rintro e w5 ⟨L5, rfl, hl5, hL⟩
  have HLN := Lib.hid hL
  simp only [List.set_cons_zero, List.set_cons_succ] at HLN
  clear hL HL
  have HL := Lib.hid HLN.out
  clear HLN
  go_wp2_with fail
  refine (HL.out.fire2 0 3 rfl rfl 2 hl5 (by decide) (by decide)).mono ?_
  rintro e w6 ⟨L6, rfl, hl6, hL⟩
  have HLN := Lib.hid hL
  simp only [List.set_cons_zero, List.set_cons_succ] at HLN
  clear hL HL
  have HL := Lib.hid HLN.out
  clear HLN
  go_wp2_with fail
  refine (HL.out.fired2 0 3 rfl rfl 3 hl6 (by decide)).mono ?_
  rintro e w7 ⟨L7, rfl, hl7, hL⟩
  have HLN := Lib.hid hL
  simp only [List.set_cons_zero, List.set_cons_succ] at HLN
  clear hL HL
  have HL := Lib.hid HLN.out
  clear HLN
  go_wp2_with fail
  refine (HL.out.full2 (by decide) 0 rfl).mono ?_
  rintro e w8 ⟨rfl, hL⟩
  have HL8 := Lib.hid hL
  simp only [List.set_cons_zero] at HL8
  clear hL HL
  have HL := Lib.hid HL8.out
  clear HL8
  go_wp2_with fail
  refine (num15 _ _).mono ?_
  rintro e wn ⟨rfl, rfl⟩
  go_wp2_with fail
  refine (num15 _ _).mono ?_
  rintro e wn ⟨rfl, rfl⟩
  go_wp2_with fail
  refine (num15 _ _).mono ?_
  rintro e wn ⟨rfl, rfl⟩
  go_wp2_with fail
  refine (num15 _ _).mono ?_
  rintro e wn ⟨rfl, rfl⟩
  go_wp2_with fail
  refine (num15 _ _).mono ?_
  rintro e wn ⟨rfl, rfl⟩
  go_wp2_with fail
  refine (num15 _ _).mono ?_
  rintro e wn ⟨rfl, rfl⟩
  go_wp2_with fail
  refine (num15 _ _).mono ?_
  rintro e wn ⟨rfl, rfl⟩
  go_wp2_with fail
  refine (sync15 _ _).mono ?_
  rintro e w9 ⟨rfl, ht⟩
  have HLN := Lib.hid (HL.out.touch ht)
  clear ht HL
  have HL := Lib.hid HLN.out
  clear HLN
  go_wp2_with fail
  refine (HL.out.wait2 4 (by decide) 1 2 3 rfl rfl (by decide) (by decide) (by decide) rfl (by simp)).mono ?_
  rintro e w10 ⟨y1, rfl, hy1, hL⟩
  have HL10 := Lib.hid hL
  simp only [List.set_cons_zero, List.set_cons_succ, List.nil_append] at HL10
  have HY1 := Lib.hid hy1
  clear hL HL hy1
  have HL := Lib.hid HL10.out
  clear HL10
  go_wp2_with fail
  refine (sync15 _ _).mono ?_
  rintro e w11 ⟨rfl, ht⟩
  have HLN := Lib.hid (HL.out.touch ht)
  clear ht HL
  have HL := Lib.hid HLN.out
  clear HLN
  go_wp2_with fail
  refine (HL.out.wait2 5 (by decide) 1 2 3 rfl rfl (by decide) (by decide) (by decide) rfl (by simp)).mono ?_
  rintro e w12 ⟨y2, rfl, hy2, hL⟩
  have HL12 := Lib.hid hL
  simp only [List.set_cons_zero, List.set_cons_succ, List.nil_append, List.cons_append] at HL12
  have HY2 := Lib.hid hy2
  clear hL HL hy2
  have HL := Lib.hid HL12.out
  clear HL12
  go_wp2_with fail
  refine (HL.out.cNext 1 3 rfl rfl (by simp)).mono ?_
  rintro e w13 (⟨x, r, hx, rfl, hL⟩ | ⟨hx, _⟩)
  rotate_left
  · cases hx
  obtain ⟨rfl, rfl⟩ := List.cons.inj hx
  have HL13 := Lib.hid (hL.alloc 27 #[.int .i64 y1.sync, .int .i64 y1.thread, .int .i64 y1.branch, .int .i64 y1.flag, .int .i64 y1.v.kind, .int .i64 y1.v.num, .slice y1.v.addr y1.v.parts.length y1.v.cap])
  simp only [List.set_cons_zero, List.set_cons_succ, List.nil_append, List.cons_append] at HL13
  clear hL HL hx
  have HL := Lib.hid HL13.out
  clear HL13
  simp only [ent_eq]
  go_wp2_with fail
  refine (HL.out.cNext 1 3 rfl rfl (by simp)).mono ?_
  rintro e w14 (⟨x, r, hx, rfl, hL⟩ | ⟨hx, _⟩)
  rotate_left
  · cases hx
  obtain ⟨rfl, rfl⟩ := List.cons.inj hx
  have HL14 := Lib.hid (hL.alloc 27 #[.int .i64 y2.sync, .int .i64 y2.thread, .int .i64 y2.branch, .int .i64 y2.flag, .int .i64 y2.v.kind, .int .i64 y2.v.num, .slice y2.v.addr y2.v.parts.length y2.v.cap])
  simp only [List.set_cons_zero, List.set_cons_succ, List.nil_append, List.cons_append] at HL14
  clear hL HL hx
  have HL := Lib.hid HL14.out
  clear HL14
  simp only [ent_eq]
  go_wp2_with fail
  refine (HL.out.cNext 1 3 rfl rfl (by simp)).mono ?_
  rintro e w15 (⟨x, r, hx, _⟩ | ⟨_, rfl, hL⟩)
  · cases hx
  have HL15 := Lib.hid hL
  simp only [List.set_cons_zero, List.set_cons_succ] at HL15
  clear hL HL
  have HL := Lib.hid (HL15.out.alloc 27 #[.int .i64 0, .int .i64 0, .int .i64 0, .int .i64 0, .int .i64 0, .int .i64 0, .slice none 0 0])
  simp only [List.nil_append, List.cons_append] at HL
  clear HL15
  rw [zero_val]
  go_wp2_with fail
  refine (HL.out.lock2 0 3 rfl rfl 4 hl7 (by decide) (by decide)).mono ?_
  rintro e w16 ⟨L16, rfl, hl16, hL⟩
  have HLN := Lib.hid hL
  simp only [List.set_cons_zero, List.set_cons_succ] at HLN
  clear hL HL
  have HL := Lib.hid HLN.out
  clear HLN
  go_wp2_with fail
  refine (HL.out.lock2 0 3 rfl rfl 5 hl16 (by decide) (by decide)).mono ?_
  rintro e w17 ⟨L17, rfl, hl17, hL⟩
  have HLN := Lib.hid hL
  simp only [List.set_cons_zero, List.set_cons_succ] at HLN
  clear hL HL
  have HL := Lib.hid HLN.out
  clear HLN
  go_wp2_with fail
  refine (HL.out.unlock2 0 3 rfl rfl 6 hl17 (by decide) (by decide)).mono ?_
  rintro e w18 ⟨L18, rfl, hl18, hL⟩
  have HLN := Lib.hid hL
  simp only [List.set_cons_zero, List.set_cons_succ] at HLN
  clear hL HL
  have HL := Lib.hid HLN.out
  clear HLN
  go_wp2_with fail
  refine (HL.out.unlock2 0 3 rfl rfl 7 hl18 (by decide) (by decide)).mono ?_
  rintro e w19 ⟨L19, rfl, hl19, hL⟩
  have HLN := Lib.hid hL
  simp only [List.set_cons_zero, List.set_cons_succ] at HLN
  clear hL HL
  have HL := Lib.hid HLN.out
  clear HLN
  obtain ⟨c0, _⟩ := HL.out.c7 4 rfl
  obtain ⟨d0, _⟩ := HL.out.c7 5 rfl
  rw [show y1.sync = 4 from congrArg PE.sync HY1.out] at c0
  rw [show y2.sync = 5 from congrArg PE.sync HY2.out] at d0
  go_wp2_with fail
  refine (num15 _ _).mono ?_
  rintro e wn ⟨rfl, rfl⟩
  go_wp2_with fail
  refine (num15 _ _).mono ?_
  rintro e wn ⟨rfl, rfl⟩
  go_wp2_with fail
  refine (num15 _ _).mono ?_
  rintro e wn ⟨rfl, rfl⟩
  go_wp2_with fail
  refine (num15 _ _).mono ?_
  rintro e wn ⟨rfl, rfl⟩
  go_wp2_with fail
  refine (num15 _ _).mono ?_
  rintro e wn ⟨rfl, rfl⟩
  go_wp2_with fail
  refine (num15 _ _).mono ?_
  rintro e wn ⟨rfl, rfl⟩
  go_wp2
  go_ret
  exact ⟨rfl, HL.out.tch⟩
end Go.Proofs.Ytihmbgdkllmkaaa

/-
  few() of law 15 (betrothallaw15/law.go): calls, each with an entry.
-/
namespace Go.Proofs.Ytihmbgdkllmkaaa
open Go.RowKit Go.Shelf
set_option maxRecDepth 100000
set_option linter.unusedVariables false
set_option linter.unusedSimpArgs false

/-- A call of law 15: which, and its entry. -/
structure CA where
  what : Int
  e : ME
def CA.cells (x : CA) : List Value := .int .i64 x.what :: x.e.cells
/-- The cells of one call. -/
def CAAt (w : World) (b o : Nat) (x : CA) : Prop := w.cell? ⟨b, o, none⟩ = some (.int .i64 x.what) ∧ EntAt w b (o + 1) x.e
theorem CAAt.touch {w w' : World} {b o : Nat} {x : CA} (h : CAAt w b o x) (ht : Touch [] w w') : CAAt w' b o x := ⟨ht.cellOf h.1, h.2.touch ht⟩
def CAsAt (w : World) (a : Option Addr) (l : List CA) : Prop := ∀ i (hi : i < l.length), ∃ b o, a = some ⟨b, o, none⟩ ∧ b < w.heap.size ∧ CAAt w b (o + i * 8) l[i]
theorem CAsAt.touch {w w' : World} {a : Option Addr} {l : List CA} (h : CAsAt w a l) (ht : Touch [] w w') : CAsAt w' a l := fun i hi => by
  obtain ⟨b, o, ha, hb, he⟩ := h i hi
  exact ⟨b, o, ha, Nat.lt_of_lt_of_le hb ht.size, he.touch ht⟩
/-- At most so many, of values of 20 parts. -/
def Few15 (l : List CA) (most : Int) : Prop := (l.length : Int) ≤ most ∧ ∀ x ∈ l, x.e.v.nodes ≤ 20
set_option maxHeartbeats 1000000 in
theorem few15 (w : World) (a : Option Addr) (cap : Nat) (l : List CA) (most : Int) (hl : l.length ≤ 9223372036854775807) (ha : CAsAt w a l) (hin : ∀ x ∈ l, x.e.v.In w ∧ x.e.v.nodes ≤ 1048576) :
    Calls Try.prog 43 #[.slice a l.length cap, .int .i64 most] w (Tells (Few15 l most) w) := by
  by_cases hm : most < (l.length : Int)
  · go_enter Try.func43, Try.ntmps43
    go_wp2
    go_ret
    exact Tells.no (fun h => by have := h.1; omega) (Touch.refl [] w)
  · have HA := Lib.hid ha
    have HI := Lib.hid hin
    have hm' : ¬ most < (l.length : Int) := hm
    clear ha hin hm
    go_enter Try.func43, Try.ntmps43
    go_wp2
    go_loopw [5] (fun i wr => ∃ k : Nat, i = .int .i64 (k : Int) ∧ k ≤ l.length ∧ Hid (∀ j (h : j < l.length), j < k → l[j].e.v.nodes ≤ 20) ∧ Hid (Touch [] w wr)) (fun i _ => l.length - (intOf i).toNat)
    case atStart => exact ⟨0, rfl, Nat.zero_le _, fun j _ h => by omega, Touch.refl [] w⟩
    case round =>
      obtain ⟨k, rfl, hk, HS, HT⟩ := hrel
      have hk0 : (0 : Int) ≤ (k : Int) := by omega
      by_cases hlt : k < l.length
      · have hlt' : (k : Int) < (l.length : Int) := by omega
        obtain ⟨b, o, rfl, hb, c0, c1, c2, c3, c4, c5, c6, c7⟩ := (HA.out.touch HT.out) k hlt
        obtain ⟨hi1, hi2⟩ := HI.out _ (List.getElem_mem hlt)
        have HSZ := Lib.hid (Size_ref l[k].e.v wr (hi1.touch0 HT.out) hi2)
        obtain ⟨y, hy⟩ : ∃ y, l[k] = y := ⟨_, rfl⟩
        rw [hy] at c0 c1 c2 c3 c4 c5 c6 c7 HSZ
        rw [val_eq] at HSZ
        have HY := Lib.hid hy
        have q5 : wr.cell? ⟨b, o + k * 8 + 1 + 4 + 1, none⟩ = some (.int .i64 y.e.v.num) := c6
        have q6 : wr.cell? ⟨b, o + k * 8 + 1 + 4 + 2, none⟩ = some (.slice y.e.v.addr y.e.v.parts.length y.e.v.cap) := c7
        clear hy hi1 hi2 c6 c7
        by_cases hbig : y.e.v.nodes ≤ 20
        · have hbg : decide ((20 : Int) < ((min y.e.v.nodes 257 : Nat) : Int)) = false := by simp; omega
          obtain ⟨sz, hsz⟩ : ∃ sz, min y.e.v.nodes 257 = sz := ⟨_, rfl⟩
          rw [hsz] at HSZ hbg
          have hs20 : ¬ (20 : Int) < (sz : Int) := by omega
          clear hsz
          go_wp2_with fail
          refine HSZ.out.mono ?_
          rintro e w2 ⟨rfl, ht⟩
          have HT2 := Lib.hid (HT.out.trans' ht)
          clear ht c0 c1 c2 c3 c4 c5 q5 q6
          go_wp2
          go_roundw
          case rel => exact ⟨k + 1, by go_num, hlt, fun j hj hjk => by
            by_cases hjk2 : j < k
            · exact HS.out j hj hjk2
            · obtain rfl : j = k := by omega
              rw [HY.out]; exact hbig, HT2⟩
          case measure => simp [intOf]; omega
        · obtain ⟨sz, hsz⟩ : ∃ sz, min y.e.v.nodes 257 = sz := ⟨_, rfl⟩
          have hs20 : (20 : Int) < (sz : Int) := by omega
          rw [hsz] at HSZ
          clear hsz
          go_wp2_with fail
          refine HSZ.out.mono ?_
          rintro e w2 ⟨rfl, ht⟩
          have HT2 := Lib.hid (HT.out.trans' ht)
          clear ht c0 c1 c2 c3 c4 c5 q5 q6
          go_wp2
          go_ret
          exact Tells.no (fun h => hbig (by rw [← HY.out]; exact h.2 _ (List.getElem_mem hlt))) HT2.out
      · have hlt' : ¬ (k : Int) < (l.length : Int) := by omega
        go_wp2
        go_ret
        exact Tells.yes ⟨by omega, fun x hx => by obtain ⟨i, hi, rfl⟩ := List.mem_iff_getElem.1 hx; exact HS.out i hi (by omega)⟩ HT.out
end Go.Proofs.Ytihmbgdkllmkaaa

/-
  How a function with one result in a cell, a bool, returns: with the ledger.
-/
namespace Go.Proofs.Ytihmbgdkllmkaaa
open Go.RowKit Go.Shelf
set_option linter.unusedVariables false

theorem results_bool {fn : Func} {ra : Tmp} (hres : fn.results = #[ResultVar.cell ra 4]) {tmps : Array Value} {b : Nat} (htm : tmps.getD ra undef = .pointer (some ⟨b, 0, none⟩)) {W : World} {c : Bool} (hc : W.cell? ⟨b, 0, none⟩ = some (.bool c)) :
    (results fn tmps).run Try.prog W = .ok (.bool c) W := by
  rw [Array.getD_eq_getD_getElem?] at htm
  simp only [results, hres]
  simp [go_sem, htm, hc]
theorem Led.c1w {T : List Nat} {w0 w : World} {l : List Thing} (h : Led T w0 w l) (i : Nat) {b : Nat} {t : TypeId} {x0 : Value} (hi : l[i]? = some (Proofs.Ytihmbgdkllmkaaa.box b t #[x0])) : w.cell? ⟨b, 0, none⟩ = some x0 := (h.c1 i hi).1

section
variable {n : Nat} {T : List Nat} {w W : World} {l : List Thing} {fn : Func} {ra : Tmp} (hres : fn.results = #[ResultVar.cell ra 4]) {tmps : Array Value} {b : Nat} (htm : tmps.getD ra undef = .pointer (some ⟨b, 0, none⟩))
  (HK : Led T w W l) (i : Nat) {u : Value} (hi : l[i]? = some (box b 4 #[u])) {c : Bool} (hc : c = true) {R : Ending → World → Prop}
include hres htm HK hi hc
theorem led_ret0 (hR : ∀ W', Led T w W' (l.set i (box b 4 #[.bool true])) → R (.returned (.bool true)) W') :
    bodyPostM Fence.wide n Try.prog fn R .ret { tmps := tmps, defers := [] } (W.setCell ⟨b, 0, none⟩ (.bool c)) := by
  subst hc
  have h1 := HK.set i hi 0 (.bool true)
  have hi' := (List.getElem?_eq_some_iff.1 hi).1
  have e1 : #[u].setIfInBounds 0 (.bool true) = #[.bool true] := rfl
  rw [e1] at h1
  exact leave_marks (v := .bool true) [] _ (by simp) (by simp) (results_bool hres htm (h1.c1w (t := 4) i (by rw [List.getElem?_set_self hi']))) (hR _ h1)
theorem led_ret1 {D : Nat} (m : Nat) (hm : l[m]? = some (mark D)) (hR : ∀ W', Led T w W' ((l.set i (box b 4 #[.bool true])).set m (some1 D)) → R (.returned (.bool true)) W') :
    bodyPostM Fence.wide n Try.prog fn R .ret { tmps := tmps, defers := [{ target := .collected D, args := #[] }] } (W.setCell ⟨b, 0, none⟩ (.bool c)) := by
  subst hc
  have h1 := HK.set i hi 0 (.bool true)
  have hi' := (List.getElem?_eq_some_iff.1 hi).1
  have e1 : #[u].setIfInBounds 0 (.bool true) = #[.bool true] := rfl
  rw [e1] at h1
  have hne : i ≠ m := by
    rintro rfl
    rw [hi] at hm
    have := congrArg (fun t => t.map fun t => t.holds w [D]) hm
    have h2 := HK.get i hi
    obtain ⟨f, ⟨hf, hb⟩, _⟩ := h2
    obtain ⟨f', ⟨hf', hb'⟩, _⟩ := HK.get i (hi.trans hm)
    obtain ⟨f3, ⟨hf3, hb3⟩, _⟩ := HK.get i (t := mark D) (hi.trans hm)
    have e := Option.some.inj hm
    have h5 : (box b 4 #[u]).holds W [b] := ⟨rfl, hb⟩
    rw [e] at h5
    obtain ⟨h6, h7⟩ := h5
    have : b = D := by simpa using h6
    subst this
    unfold Blk at hb
    rw [hb] at h7
    cases h7
  have hm1 : (l.set i (box b 4 #[.bool true]))[m]? = some (mark D) := by rw [List.getElem?_set_ne hne]; exact hm
  have h2 := h1.shut m hm1
  refine leave_marks (v := .bool true) [D] _ (by simpa using h1.mark m hm1) (by simp) (results_bool hres htm (h2.c1w (t := 4) i ?_)) (hR _ h2)
  rw [List.getElem?_set_ne hne.symm, List.getElem?_set_self hi']
theorem led_ret2 {D D' : Nat} (m m' : Nat) (hm : l[m]? = some (mark D)) (hm' : l[m']? = some (mark D')) (hmm : m ≠ m') (him : i ≠ m) (him' : i ≠ m') (hR : ∀ W', Led T w W' (((l.set i (box b 4 #[.bool true])).set m (some1 D)).set m' (some1 D')) → R (.returned (.bool true)) W') :
    bodyPostM Fence.wide n Try.prog fn R .ret { tmps := tmps, defers := [{ target := .collected D, args := #[] }, { target := .collected D', args := #[] }] } (W.setCell ⟨b, 0, none⟩ (.bool c)) := by
  subst hc
  have h1 := HK.set i hi 0 (.bool true)
  have hi' := (List.getElem?_eq_some_iff.1 hi).1
  have e1 : #[u].setIfInBounds 0 (.bool true) = #[.bool true] := rfl
  rw [e1] at h1
  have hm1 : (l.set i (box b 4 #[.bool true]))[m]? = some (mark D) := by rw [List.getElem?_set_ne him]; exact hm
  have hm1' : (l.set i (box b 4 #[.bool true]))[m']? = some (mark D') := by rw [List.getElem?_set_ne him']; exact hm'
  have hDD : D ≠ D' := by
    obtain ⟨_, F, g1, g2⟩ := h1
    have a1 := (g1 m _ hm1).1.1
    have a2 := (g1 m' _ hm1').1.1
    have := g2 m m' (List.getElem?_eq_some_iff.1 hm1).1 (List.getElem?_eq_some_iff.1 hm1').1 hmm D (by rw [a1]; simp)
    rw [a2] at this
    simpa using this
  have h2 := h1.shut m hm1
  have hm2' : ((l.set i (box b 4 #[.bool true])).set m (some1 D))[m']? = some (mark D') := by rw [List.getElem?_set_ne hmm]; exact hm1'
  have h3 := h2.shut m' hm2'
  refine leave_marks (v := .bool true) [D, D'] _ (by simpa using ⟨h1.mark m hm1, h1.mark m' hm1'⟩) (by simpa using hDD) (results_bool hres htm (h3.c1w (t := 4) i ?_)) (hR _ h3)
  rw [List.getElem?_set_ne him'.symm, List.getElem?_set_ne him.symm, List.getElem?_set_self hi']
end
end Go.Proofs.Ytihmbgdkllmkaaa

/-
  A quiet region (it draws its order; its operations only read) inside a round of a range over a function: what the plain fence proves of it serves the round, if no operation is a defer statement.
-/
namespace Go.Proofs.Ytihmbgdkllmkaaa

def noDefer (ops : Array Oper) : Bool := ops.all fun o => match o.op with | .defer _ => false | _ => true
theorem noDefer_spec {ops : Array Oper} (h : noDefer ops = true) {i : Nat} {o : Oper} (hi : ops[i]? = some o) : ∀ c, o.op ≠ .defer c := by
  intro c hc
  have h1 := Array.all_eq_true.1 h i (Array.getElem?_eq_some_iff.1 hi).1
  rw [(Array.getElem?_eq_some_iff.1 hi).2, hc] at h1
  cases h1

section
variable {F : Fence} {n : Nat} {P : Program} {ops : Array Oper} {Q : Exit → Act → World → Prop} {l : Nat}
theorem uponIn_round_eq {o : Oper} {a : Act} {next : Act → World → Prop} (r : Result Next) (h : o.uponIn F n P a next Q r) : o.uponIn (F.inRound l) n P a next Q r := by
  cases r with
  | ok x w' => cases x <;> exact h
  | halt x w' => cases x <;> exact h
theorem wpOpIn_round (hro : F.round = none) (hd : noDefer ops = true) {i : Nat} {K K' : Act → World → Prop} (hK : ∀ a w, K a w → K' a w) {a : Act} {w : World} (h : wpOpIn F n P ops Q i K a w) : wpOpIn (F.inRound l) n P ops Q i K' a w := by
  refine wpOpIn_mono hK ?_
  unfold wpOpIn at h ⊢
  cases ho : ops[i]? with
  | none => rw [ho] at h; exact h
  | some o =>
    rw [ho] at h
    simp only at h ⊢
    split
    · rename_i hw
      rw [if_pos hw] at h
      unfold Oper.wpIn at h ⊢
      refine ⟨h.1, ?_⟩
      have h2 := h.2
      rw [hro, Oper.semAt_none] at h2
      rw [Fence.inRound_round, Oper.semAt_some _ _ _ (noDefer_spec hd ho)]
      exact uponIn_round_eq _ h2
    · rename_i hw
      rw [if_neg hw] at h
      exact h
theorem wpAnyIn_round {md : Region.Mode} (hro : F.round = none) (hd : noDefer ops = true) : ∀ (fuel : Nat) (listed : Array Bool) (a : Act) (w : World), wpAnyIn F n P md ops Q fuel listed a w → wpAnyIn (F.inRound l) n P md ops Q fuel listed a w
  | 0, _, _, _, h => h
  | fuel + 1, _, _, _, h => ⟨h.1, fun i hi => wpOpIn_round hro hd (fun a w h => wpAnyIn_round hro hd fuel _ a w h) (h.2 i hi)⟩
/-- The law: as the kit's of the plain fence. -/
theorem quiet_round {id : Nat} {a : Act} {w : World} {L : List Oper} (hro : F.round = none) (hm : P.follows .mixedOrders = true) (hB : Region.lexB .any L.toArray = true) (hd : noDefer L.toArray = true)
    (h : wpQuietIn F n P L.toArray (fun w' => ∃ n, w' = w.drewN n) (fun a' => ∀ w', (∃ n, w' = w.drewN n) → Q .normal a' w') L a) : (Code.region id L.toArray true).wpIn (F.inRound l) n P Q a w := by
  simp only [Region.lexB, Bool.and_eq_true] at hB
  refine wpIn_region_any hm (wpAnyIn_round hro hd _ _ _ _ (wpAnyIn_of_quiet (Q := fun a' => ∀ w', (∃ n, w' = w.drewN n) → Q .normal a' w') hro (fun _ w' hw' h => h w' hw') _ _ _ _ ⟨1, rfl⟩ ?_))
  have := wpAnyQIn_lex (F := F) (n := n) (C := fun w' => ∃ n, w' = w.drewN n) (md := .any) hB.1 L 0 (Array.replicate L.toArray.size false) a (by simp) (by simpa using hB.2) h
  simpa using this
end
end Go.Proofs.Ytihmbgdkllmkaaa

/-
  A region that draws its order and holds loads beside calls, inside a round of a range over a function: what the plain walk of all orders ('wpAnyH') proves serves the round.
-/
namespace Go.Proofs.Ytihmbgdkllmkaaa

section
variable {n : Nat} {P : Program} {ops : Array Oper} {Q : Exit → Act → World → Prop} {l : Nat} {S : World → Prop}
theorem wpOpIn_of_wpOp (hno : ¬ LetsOut Q) {i : Nat} {K : Act → World → Prop} {a : Act} {w : World} (h : wpOp P ops Q i K a w) : wpOpIn Fence.wide n P ops Q i K a w := by
  unfold wpOp at h
  unfold wpOpIn
  cases ho : ops[i]? with
  | none => rw [ho] at h; exact h
  | some o =>
    rw [ho] at h
    simp only at h ⊢
    split
    · rename_i hw
      rw [if_pos hw] at h
      rcases h with h | ⟨_, h⟩
      · unfold Oper.wp at h
        unfold Oper.wpIn
        refine ⟨fun _ _ => trivial, ?_⟩
        rw [show Fence.wide.round = none from rfl, Oper.semAt_none]
        generalize (execOp a.eval o).run P w = r at *
        cases r with
        | ok x w' =>
          cases x with
          | enter f args => exact ⟨fun h => by simp [Fence.wide] at h, callsIn_wide.2 h⟩
          | row row args => exact ⟨fun h => by simp [Fence.wide] at h, fun c cs _ => let ⟨v, w2, r, s⟩ := h c cs; ⟨v, w2, r, stepsIn_wide.2 s⟩⟩
          | round _ _ _ _ _ => exact False.elim h
          | _ => exact h
        | halt x w' => cases x <;> exact h
      · exact absurd h hno
    · rename_i hw
      rw [if_neg hw] at h
      exact ⟨fun _ _ => trivial, h⟩
theorem wpAnyIn_of_wpAny {md : Region.Mode} (hno : ¬ LetsOut Q) : ∀ (fuel : Nat) (listed : Array Bool) (a : Act) (w : World), wpAny P md ops Q fuel listed a w → wpAnyIn Fence.wide n P md ops Q fuel listed a w
  | 0, _, _, _, h => h
  | fuel + 1, _, _, _, h => ⟨h.1, fun i hi => wpOpIn_mono (fun a w h => wpAnyIn_of_wpAny hno fuel _ a w h) (wpOpIn_of_wpOp hno (h.2 i hi))⟩
/-- The beginning of such a walk. -/
theorem region_held_round {id : Nat} {a : Act} {w : World} (hno : ¬ LetsOut Q) (hd : noDefer ops = true) (hm : P.follows .mixedOrders = true) (hS : S w.drew)
    (h : S w.drew → wpAnyH P .any ops Q S ops.size (Array.replicate ops.size false) a w.drew) : (Code.region id ops true).wpIn (Fence.wide.inRound l) n P Q a w :=
  wpIn_region_any hm (wpAnyIn_round rfl hd _ _ _ _ (wpAnyIn_of_wpAny hno _ _ _ _ (wpAny_of_held _ _ _ _ (h hS))))
end
end Go.Proofs.Ytihmbgdkllmkaaa

/-
  over() of law 15 (betrothallaw15/law.go): a loop over All's iterator against a list of entries.
-/
namespace Go.Proofs.Ytihmbgdkllmkaaa
open Go.RowKit Go.Shelf
set_option maxRecDepth 100000
set_option linter.unusedVariables false
set_option linter.unusedSimpArgs false
attribute [local go_sem] Oper.semAt_some

theorem AllAt.touch {w w' : World} {bx : Nat} {a : Option Addr} {cap : Nat} {ys : List ME} (h : AllAt w bx a cap ys) (ht : Touch [] w w') : AllAt w' bx a cap ys :=
  ⟨Blk.touch h.1 ht (by simp), h.2.1.touch ht, fun y hy => (h.2.2 y hy).touch0 ht⟩
/-- A loop over what All made, which lies somewhere that nothing turns. -/
theorem range_allQ {n : Nat} {gop : Operand} {ps : Array Tmp} {assign body : Code} {Q : Exit → Act → World → Prop} {a : Act} {w w0 : World} {T : List Nat} {bx : Nat} {ra : Option Addr} {rc : Nat} {ys : List ME}
    (hg : a.eval gop = .func (.func 69) #[] #[.pointer (some ⟨bx, 0, none⟩)])
    (hps : ps.size = 2) (hL : ys.length ≤ 1048576) (hnn : ∀ y ∈ ys, y.v.nodes ≤ 256) (R : Nat → List Thing) (X : Code → List Thing → Prop) (hA : ∀ W, Touch T w0 W → AllAt W bx ra rc ys) (h0 : Led T w0 w (R 0))
    (hround : ∀ (k : Nat) (x : ME) (W : World) (o0 : Obj), k < ys.length → (ys.map ME.plain)[k]? = some x.plain → Led T w0 W (R k ++ [valsT [x.v]] ++ marks w.heap.size o0) →
      assign.wpIn (Fence.wide.inRound (w.heap.size + 1)) (n - 1 - 1) Try.prog (Exit.then (fun a1 W1 => ∃ m, Led T w0 W1 (R k ++ [valsT [x.v]] ++ marks w.heap.size o0 ++ m) ∧
        ∀ W2 o, Led T w0 W2 (R k ++ [valsT [x.v]] ++ marks w.heap.size o ++ m) → body.wpIn (Fence.wide.inRound (w.heap.size + 1)) (n - 1 - 1) Try.prog (bodyL T w0 w.heap.size o (R (k + 1)) X) a1 W2) (fun _ _ _ => False))
        { tmps := (ps.zip #[.int .i64 (k : Int), x.val]).foldl (fun t (p, v) => t.setIfInBounds p v) a.tmps, defers := [] } W)
    (hdone : ∀ W, Led T w0 W (R ys.length ++ marks1 w.heap.size) → Q .normal { a with defers := { target := .collected w.heap.size, args := #[] } :: a.defers } W)
    (hstop : ∀ c W lx, X c lx → Led T w0 W (lx ++ marks1 w.heap.size) → c.wpIn Fence.wide n Try.prog Q { a with defers := { target := .collected w.heap.size, args := #[] } :: a.defers } W) :
    (Code.rangeFunc gop ps assign body).wpIn Fence.wide n Try.prog Q a w := by
  refine wp_rangeL (β := Nat × Option ME) hg (enters_of Try.func69 (by kernel_rfl) rfl) (fun b => match b.2 with | none => R b.1 | some x => R b.1 ++ [valsT [x.v]]) X (fun b => b = (ys.length, none))
    (fun b xs b' => ∃ x, b.2 = some x ∧ b.1 < ys.length ∧ (ys.map ME.plain)[b.1]? = some x.plain ∧ xs = #[.int .i64 (b.1 : Int), x.val] ∧ b' = (b.1 + 1, none))
    (fun b xs b' ⟨_, _, _, _, hx, _⟩ => by rw [hx, hps]; rfl) (0, none) h0 ?_ ?_ (fun b W hF hj => by subst hF; exact hdone W hj) hstop
  · rintro ⟨k, ox⟩ xs b' W o0 ⟨x, rfl, hk, hp, rfl, rfl⟩ hj
    exact hround k x W o0 hk hp hj
  · intro J' Jx' hJ hC hY W hW'
    have hmk : ∀ k W, J' (k, none) W → w.heap.size + 1 < W.heap.size := fun k W h => by
      obtain ⟨o', h2⟩ := (hJ (k, none) W h).exact_of_some
      exact (Array.getElem?_eq_some_iff.1 (Led.at_mark (m := []) (by simpa using h2)).2).1
    refine CallsIn.mono (all_iter (n - 1) (w.heap.size + 1) bx ra rc ys hL hnn (fun k W => J' (k, none) W) (fun k x W => J' (k, some x) W ∧ (ys.map ME.plain)[k]? = some x.plain) Jx' (fun k W h => hA W (hJ _ W h).tch) ?_ ?_ W hW') ?_
    · intro k W W' x h ht hin hb hp
      refine ⟨hC (k, none) W (k, some x) W' h ?_ ?_, hp⟩
      · have h1 := (hJ _ W h).valsNew (vs := [x.v]) ht (by simpa using hin) (by simpa using hb)
        exact h1.swapEnd
      · have hlt := hmk k W h
        exact ⟨ht.block _ (by omega) (by simp), ht.block _ hlt (by simp)⟩
    · rintro k x W hk ⟨h, hp⟩
      exact hY (k, some x) _ (k + 1, none) W ⟨x, rfl, hk, hp, rfl, rfl⟩ h
    · rintro e W ⟨hv, ⟨k, hk, hj⟩ | hx⟩
      · exact ⟨hv, .inl ⟨(k, none), by rw [hk], hj⟩⟩
      · exact ⟨hv, .inr hx⟩
theorem all_not_nil (fn : Fn) (x y : Array Value) (w : World) : (binOp .eql 47 (.func fn x y) .nilFunc).run Try.prog w = .ok (.bool false) w := by kernel_rfl
theorem plain_nodes_eq {x y : ME} (h : y.plain = x.plain) : x.v.nodes = y.v.nodes := by
  rw [← MT.plain_nodes x.v, ← MT.plain_nodes y.v, show x.v.plain = x.plain.v from rfl, ← h]; rfl
/-- What lies there between two rounds. -/
def overR (a2 : Option Addr) (n2 c2 many b4 b5 b6 b7 : Nat) (k : Nat) : List Thing :=
  [box b4 32 #[.slice a2 n2 c2], box b5 3 #[.int .i64 (many : Int)], box b6 4 #[.bool false], box b7 3 #[.int .i64 (k : Int)], fact (k = 0 ∨ k < many)]
set_option maxHeartbeats 4000000 in
theorem over15_in (n : Nat) (w : World) (bx : Nat) (ra : Option Addr) (rc : Nat) (ys ls : List ME) (a2 : Option Addr) (c2 many : Nat) (hA : AllAt w bx ra rc ys) (hyn : ∀ y ∈ ys, y.v.nodes ≤ 256) (hE : EntsAt w a2 ls) (hin : ∀ x ∈ ls, x.v.In w ∧ x.v.nodes ≤ 256)
    (hp : ys.map ME.plain = ls.map ME.plain) (hlen : ls.length ≤ 1048576) (hm : many ≤ 10000) :
    CallsIn Fence.wide n Try.prog 47 #[.func (.func 69) #[] #[.pointer (some ⟨bx, 0, none⟩)], .slice a2 ls.length c2, .int .i64 (many : Int)] w fun e w' => e = .returned (.bool true) ∧ Touch [] w w' := by
  have hyl : ys.length = ls.length := by have := congrArg List.length hp; simpa using this
  have HA := Lib.hid (fun W (hW : Touch [] w W) => hA.touch hW)
  have HE := Lib.hid (fun W (hW : Touch [] w W) => hE.touch hW)
  have HI := Lib.hid (fun x (hx : x ∈ ls) W (hW : Touch [] w W) => (hin x hx).1.touch0 hW)
  have HN := Lib.hid (fun x (hx : x ∈ ls) => (hin x hx).2)
  have HP := Lib.hid hp
  have HYL := Lib.hid hyl
  have HYN := Lib.hid hyn
  clear hA hE hin hp hyl hyn
  refine callsIn_of_wp_marks Try.func47 rfl trivial ?_ rfl
  simp only [Try.ntmps47, List.size_toArray, List.length_cons, List.length_nil, Nat.reduceAdd, Nat.reduceSub, Array.replicate_succ, Array.replicate_zero, List.push_toArray, List.append_toArray, List.nil_append, List.cons_append]
  have hnil := all_not_nil
  gi_wp2_with fail
  refine wpIn_name ?_
  intro w4 hw4
  have HL3 := Lib.hid (((Led.nil' w).al3 rfl).al1 hw4)
  simp only [List.nil_append, List.cons_append, World.size_alloc] at HL3
  obtain ⟨b7, hb7⟩ : ∃ b, w.heap.size + 1 + 1 + 1 = b := ⟨_, rfl⟩
  rw [hb7] at HL3 ⊢
  obtain ⟨b6, hb6⟩ : ∃ b, w.heap.size + 1 + 1 = b := ⟨_, rfl⟩
  rw [hb6] at HL3 ⊢
  obtain ⟨b5, hb5⟩ : ∃ b, w.heap.size + 1 = b := ⟨_, rfl⟩
  rw [hb5] at HL3 ⊢
  obtain ⟨b4, hb4⟩ : ∃ b, w.heap.size = b := ⟨_, rfl⟩
  rw [hb4] at HL3 ⊢
  clear hb7 hb6 hb5 hb4 hw4 hnil
  have HL5 : Hid (Led [] w w4 (overR a2 ls.length c2 many b4 b5 b6 b7 0)) := HL3.out.addFact (p := (0 = 0 ∨ 0 < many)) (.inl rfl)
  clear HL3
  refine range_allQ (bx := bx) (ra := ra) (rc := rc) (ys := ys) rfl rfl (by rw [HYL.out]; exact hlen) HYN.out (overR a2 ls.length c2 many b4 b5 b6 b7)
    (fun c lx => c = .exit 0 ∧ ∃ k, lx = (overR a2 ls.length c2 many b4 b5 b6 b7 k).set 4 (fact (k ≤ ls.length ∧ k = max 1 many))) (fun W hW => HA.out W hW) HL5.out ?hround ?hdone ?hstop
  case hround =>
    intro k x W o0 hk hxk h
    have hk' : k < ls.length := by rw [← HYL.out]; exact hk
    rw [HP.out, List.getElem?_map, List.getElem?_eq_getElem hk'] at hxk
    have HX : Hid (ls[k].plain = x.plain) := by unfold Hid; simpa using hxk
    obtain ⟨D, hD⟩ : ∃ D, w4.heap.size = D := ⟨_, rfl⟩
    rw [hD] at h ⊢
    have HK := Lib.hid h
    clear h hxk hD
    rw [ent_eq]
    gi_wp2
    refine ⟨_, HK.out.alloc _ _, fun W2 o h2 => ?_⟩
    obtain ⟨be, hbe⟩ : ∃ b, W.heap.size = b := ⟨_, rfl⟩
    rw [hbe] at h2 ⊢
    have HK2 := Lib.hid h2
    simp only [overR, marks, List.nil_append, List.cons_append] at HK2
    clear hbe h2 HK
    have HFa : Hid (k = 0 ∨ k < many) := HK2.out.fact 4 rfl
    have HVX : Hid (x.v.In W2) := HK2.out.valsIn 5 rfl _ (by simp)
    have HLK := Lib.hid (HI.out ls[k] (List.getElem_mem hk') W2 HK2.out.tch)
    have HLN := Lib.hid (HN.out ls[k] (List.getElem_mem hk'))
    obtain ⟨b2, o2, rfl, hbb2, hent⟩ := HE.out W2 HK2.out.tch k hk'
    generalize ls[k] = y at hent HX HLK HLN
    have HY1 := Lib.hid hent
    have HX1 : Hid (EntAt W2 be 0 x) := by obtain ⟨c0, c1, c2, c3, c4, c5, c6, _⟩ := HK2.out.c7 8 rfl; exact ⟨c0, c1, c2, c3, c4, c5, c6⟩
    obtain ⟨_, _, _, _, _, _, _, _, zx, _, _⟩ := HK2.out.c7 8 rfl
    obtain ⟨n0, fn, zn, _, _⟩ := HK2.out.c1 3 rfl
    obtain ⟨l0, _, zl, _, _⟩ := HK2.out.c1 0 rfl
    obtain ⟨m0, _, zm, _, _⟩ := HK2.out.c1 1 rfl
    have HN0 := Lib.hid n0
    have HL0 := Lib.hid l0
    have HSE := Lib.hid (fun W (hW : Touch [] W2 W) => SameEntry_ref x y W (HVX.out.touch0 hW) (HLK.out.touch0 hW) (by rw [plain_nodes_eq HX.out]; have := HLN.out; omega) (by have := HLN.out; omega))
    have HEQ : Hid (x.v.nodes ≤ 256 ∧ y.v.nodes ≤ 256 ∧ x.plain = y.plain) := ⟨by rw [plain_nodes_eq HX.out]; exact HLN.out, HLN.out, HX.out.symm⟩
    clear hent
    simp only [ent_eq] at HSE
    obtain ⟨x0, x1, x2, x3, x4, x5, x6⟩ := HX1.out
    obtain ⟨y0, y1, y2, y3, y4, y5, y6⟩ := HY1.out
    simp only [Nat.zero_add] at x1 x2 x3 x4 x5 x6
    have hg1 : ¬ (ls.length : Int) ≤ (k : Int) := by omega
    have hg2 : ¬ ls.length ≤ k := by omega
    have hg3 : (k : Int) < (ls.length : Int) := by omega
    have hg4 : decide ((ls.length : Int) ≤ (k : Int)) = false := by simp; omega
    have hk0 : (0 : Int) ≤ (k : Int) := by omega
    gi_wp2_with fail
    refine region_held_round (S := fun w' => w'.cell? ⟨b7, 0, none⟩ = some (.int .i64 (k : Int)) ∧ w'.cell? ⟨b4, 0, none⟩ = some (.slice (some ⟨b2, o2, none⟩) ls.length c2) ∧
      (w'.cell? ⟨be, 0, none⟩ = some (.int .i64 x.sync) ∧ w'.cell? ⟨be, 1, none⟩ = some (.int .i64 x.thread) ∧ w'.cell? ⟨be, 2, none⟩ = some (.int .i64 x.branch) ∧ w'.cell? ⟨be, 3, none⟩ = some (.int .i64 x.flag) ∧ w'.cell? ⟨be, 4, none⟩ = some (.int .i64 x.v.kind) ∧ w'.cell? ⟨be, 5, none⟩ = some (.int .i64 x.v.num) ∧ w'.cell? ⟨be, 6, none⟩ = some (.slice x.v.addr x.v.parts.length x.v.cap)) ∧
      (w'.cell? ⟨b2, o2 + k * 7, none⟩ = some (.int .i64 y.sync) ∧ w'.cell? ⟨b2, o2 + k * 7 + 1, none⟩ = some (.int .i64 y.thread) ∧ w'.cell? ⟨b2, o2 + k * 7 + 2, none⟩ = some (.int .i64 y.branch) ∧ w'.cell? ⟨b2, o2 + k * 7 + 3, none⟩ = some (.int .i64 y.flag) ∧ w'.cell? ⟨b2, o2 + k * 7 + 4, none⟩ = some (.int .i64 y.v.kind) ∧ w'.cell? ⟨b2, o2 + k * 7 + 5, none⟩ = some (.int .i64 y.v.num) ∧ w'.cell? ⟨b2, o2 + k * 7 + 6, none⟩ = some (.slice y.v.addr y.v.parts.length y.v.cap)))
      (by rintro ⟨_, _, h⟩; exact h) (by kernel_rfl) (by kernel_rfl) ?_ (fun hHeld => ?_)
    · (try dsimp only)
      go_keep
    refine wpAnyH_takeD (i := 0) (d := some 15) (v := ?_) rfl rfl (by kernel_rfl) (by kernel_rfl) (by kernel_rfl) (fun _ _ _ h => h) (Or.inl ⟨by rfl, ?_⟩) (by assumption) ?_
    rotate_left
    · intro w hSw
      (try dsimp only at hSw)
      first | (go_simp; done) | (go_simp; with_reducible rfl)
    (try simp only [Act.put, List.setIfInBounds_toArray, List.set_cons_zero, List.set_cons_succ])
    refine wpAnyH_takeD (i := 1) (d := some 16) (v := ?_) rfl rfl (by kernel_rfl) (by kernel_rfl) (by kernel_rfl) (fun _ _ _ h => h) (Or.inl ⟨by rfl, ?_⟩) (by assumption) ?_
    rotate_left
    · intro w hSw
      (try dsimp only at hSw)
      first | (go_simp; done) | (go_simp; with_reducible rfl)
    (try simp only [Act.put, List.setIfInBounds_toArray, List.set_cons_zero, List.set_cons_succ])
    refine wpAnyH_takeD (i := 2) (d := some 17) (v := ?_) rfl rfl (by kernel_rfl) (by kernel_rfl) (by kernel_rfl) (fun _ _ _ h => h) (Or.inl ⟨by rfl, ?_⟩) (by assumption) ?_
    rotate_left
    · intro w hSw
      (try dsimp only at hSw)
      first | (go_simp; done) | (go_simp; with_reducible rfl)
    (try simp only [Act.put, List.setIfInBounds_toArray, List.set_cons_zero, List.set_cons_succ])
    refine wpAnyH_takeD (i := 3) (d := some 18) (v := ?_) rfl rfl (by kernel_rfl) (by kernel_rfl) (by kernel_rfl) (fun _ _ _ h => h) (Or.inl ⟨by rfl, ?_⟩) (by assumption) ?_
    rotate_left
    · intro w hSw
      (try dsimp only at hSw)
      first | (go_simp; done) | (go_simp; with_reducible rfl)
    (try simp only [Act.put, List.setIfInBounds_toArray, List.set_cons_zero, List.set_cons_succ])
    refine wpAnyH_takeD (i := 4) (d := some 19) (v := ?_) rfl rfl (by kernel_rfl) (by kernel_rfl) (by kernel_rfl) (fun _ _ _ h => h) (Or.inl ⟨by rfl, ?_⟩) (by assumption) ?_
    rotate_left
    · intro w hSw
      (try dsimp only at hSw)
      first | (go_simp; done) | (go_simp; with_reducible rfl)
    (try simp only [Act.put, List.setIfInBounds_toArray, List.set_cons_zero, List.set_cons_succ])
    refine wpAnyH_takeD (i := 5) (d := some 20) (v := ?_) rfl rfl (by kernel_rfl) (by kernel_rfl) (by kernel_rfl) (fun _ _ _ h => h) (Or.inl ⟨by rfl, ?_⟩) (by assumption) ?_
    rotate_left
    · intro w hSw
      (try dsimp only at hSw)
      first | (go_simp; done) | (go_simp; with_reducible rfl)
    (try simp only [Act.put, List.setIfInBounds_toArray, List.set_cons_zero, List.set_cons_succ])
    refine wpAnyH_takeD (i := 6) (d := some 21) (v := ?_) rfl rfl (by kernel_rfl) (by kernel_rfl) (by kernel_rfl) (fun _ _ _ h => h) (Or.inl ⟨by rfl, ?_⟩) (by assumption) ?_
    rotate_left
    · intro w hSw
      (try dsimp only at hSw)
      first | (go_simp; done) | (go_simp; with_reducible rfl)
    (try simp only [Act.put, List.setIfInBounds_toArray, List.set_cons_zero, List.set_cons_succ])
    refine wpAnyH_takeD (i := 7) (d := some 22) (v := ?_) rfl rfl (by kernel_rfl) (by kernel_rfl) (by kernel_rfl) (fun _ _ _ h => h) (Or.inl ⟨by rfl, ?_⟩) (by assumption) ?_
    rotate_left
    · intro w hSw
      (try dsimp only at hSw)
      first | (go_simp; done) | (go_simp; with_reducible rfl)
    (try simp only [Act.put, List.setIfInBounds_toArray, List.set_cons_zero, List.set_cons_succ])
    refine wpAnyH_takeD (i := 8) (d := some 23) (v := ?_) rfl rfl (by kernel_rfl) (by kernel_rfl) (by kernel_rfl) (fun _ _ _ h => h) (Or.inl ⟨by rfl, ?_⟩) (by assumption) ?_
    rotate_left
    · intro w hSw
      (try dsimp only at hSw)
      first | (go_simp; done) | (go_simp; with_reducible rfl)
    (try simp only [Act.put, List.setIfInBounds_toArray, List.set_cons_zero, List.set_cons_succ])
    refine wpAnyH_takeD (i := 9) (d := some 24) (v := ?_) rfl rfl (by kernel_rfl) (by kernel_rfl) (by kernel_rfl) (fun _ _ _ h => h) (Or.inl ⟨by rfl, ?_⟩) (by assumption) ?_
    rotate_left
    · intro w hSw
      (try dsimp only at hSw)
      first | (go_simp; done) | (go_simp; with_reducible rfl)
    (try simp only [Act.put, List.setIfInBounds_toArray, List.set_cons_zero, List.set_cons_succ])
    refine wpAnyH_takeD (i := 10) (d := some 25) (v := ?_) rfl rfl (by kernel_rfl) (by kernel_rfl) (by kernel_rfl) (fun _ _ _ h => h) (Or.inl ⟨by rfl, ?_⟩) (by assumption) ?_
    rotate_left
    · intro w hSw
      (try dsimp only at hSw)
      first | (go_simp; done) | (go_simp; with_reducible rfl)
    (try simp only [Act.put, List.setIfInBounds_toArray, List.set_cons_zero, List.set_cons_succ])
    refine wpAnyH_takeD (i := 11) (d := some 26) (v := ?_) rfl rfl (by kernel_rfl) (by kernel_rfl) (by kernel_rfl) (fun _ _ _ h => h) (Or.inl ⟨by rfl, ?_⟩) (by assumption) ?_
    rotate_left
    · intro w hSw
      (try dsimp only at hSw)
      first | (go_simp; done) | (go_simp; with_reducible rfl)
    (try simp only [Act.put, List.setIfInBounds_toArray, List.set_cons_zero, List.set_cons_succ])
    refine wpAnyH_takeD (i := 12) (d := some 27) (v := ?_) rfl rfl (by kernel_rfl) (by kernel_rfl) (by kernel_rfl) (fun _ _ _ h => h) (Or.inl ⟨by rfl, ?_⟩) (by assumption) ?_
    rotate_left
    · intro w hSw
      (try dsimp only at hSw)
      first | (go_simp; done) | (go_simp; with_reducible rfl)
    (try simp only [Act.put, List.setIfInBounds_toArray, List.set_cons_zero, List.set_cons_succ])
    refine wpAnyH_takeD (i := 13) (d := some 28) (v := ?_) rfl rfl (by kernel_rfl) (by kernel_rfl) (by kernel_rfl) (fun _ _ _ h => h) (Or.inl ⟨by rfl, ?_⟩) (by assumption) ?_
    rotate_left
    · intro w hSw
      (try dsimp only at hSw)
      first | (go_simp; done) | (go_simp; with_reducible rfl)
    (try simp only [Act.put, List.setIfInBounds_toArray, List.set_cons_zero, List.set_cons_succ])
    refine wpAnyH_takeD (i := 14) (d := some 29) (v := ?_) rfl rfl (by kernel_rfl) (by kernel_rfl) (by kernel_rfl) (fun _ _ _ h => h) (Or.inl ⟨by rfl, ?_⟩) (by assumption) ?_
    rotate_left
    · intro w hSw
      (try dsimp only at hSw)
      first | (go_simp; done) | (go_simp; with_reducible rfl)
    (try simp only [Act.put, List.setIfInBounds_toArray, List.set_cons_zero, List.set_cons_succ])
    refine wpAnyH_ready (rs := [15]) (by kernel_rfl) (by simp) ?_
    refine AllReadyH.cons rfl (fun K hK => ?_) AllReadyH.nil
    go_simp
    refine (HSE.out _ (Touch.refl [] W2).drew).mono ?_
    rintro en wn ⟨cc, rfl, hcc, ht⟩
    obtain rfl : cc = true := hcc.2 HEQ.out
    have HT := Lib.hid ((Touch.refl [] W2).drew.trans' ht)
    clear ht hcc x0 x1 x2 x3 x4 x5 x6 y0 y1 y2 y3 y4 y5 y6 n0 l0 hHeld
    obtain ⟨x0, x1, x2, x3, x4, x5, x6⟩ := HX1.out.touch HT.out
    obtain ⟨y0, y1, y2, y3, y4, y5, y6⟩ := HY1.out.touch HT.out
    simp only [Nat.zero_add] at x1 x2 x3 x4 x5 x6
    have n0 := HT.out.cellOf HN0.out
    have l0 := HT.out.cellOf HL0.out
    go_simp
    refine hK.out _ _ ?_ (fun hHeld => ?_)
    · (try dsimp only)
      go_keep
    clear hK K
    (try simp only [Act.put, List.setIfInBounds_toArray, List.set_cons_zero, List.set_cons_succ])
    refine wpAnyH_takeD (i := 16) (d := some 31) (v := ?_) rfl rfl (by kernel_rfl) (by kernel_rfl) (by kernel_rfl) (fun _ _ _ h => h) (Or.inl ⟨by rfl, ?_⟩) (by assumption) ?_
    rotate_left
    · intro w hSw
      (try dsimp only at hSw)
      first | (go_simp; done) | (go_simp; with_reducible rfl)
    (try simp only [Act.put, List.setIfInBounds_toArray, List.set_cons_zero, List.set_cons_succ])
    refine wpAnyH_takeD (i := 17) (d := some 32) (v := ?_) rfl rfl (by kernel_rfl) (by kernel_rfl) (by kernel_rfl) (fun _ _ _ h => h) (Or.inl ⟨by rfl, ?_⟩) (by assumption) ?_
    rotate_left
    · intro w hSw
      (try dsimp only at hSw)
      first | (go_simp; done) | (go_simp; with_reducible rfl)
    (try simp only [Act.put, List.setIfInBounds_toArray, List.set_cons_zero, List.set_cons_succ])
    refine wpAnyH_done (by kernel_rfl) ?_ _
    have HK3 := Lib.hid (HK2.out.touch HT.out)
    clear x0 x1 x2 x3 x4 x5 x6 y0 y1 y2 y3 y4 y5 y6 n0 l0 hHeld fn m0 zx zn zl zm HK2 hbb2
    obtain ⟨n0, fn, zn, _, _⟩ := HK3.out.c1 3 rfl
    obtain ⟨m0, _, zm, _, _⟩ := HK3.out.c1 1 rfl
    have n5 := HK3.out.ne 1 3 rfl rfl (by decide)
    have n6 := Ne.symm n5
    by_cases hmn : (many : Int) ≤ (k : Int) + 1
    · gi_wp2_with fail
      have hs := (HK3.out.set 3 rfl 0 (.int .i64 ((k : Int) + 1))).setFact 4 rfl (q := (k + 1 ≤ ls.length ∧ k + 1 = max 1 many)) ⟨by omega, by have := HFa.out; omega⟩
      exact ⟨_, [], ⟨rfl, k + 1, rfl⟩, hs.sel [0, 1, 2, 3, 4, 6, 7] rfl (by decide)⟩
    · gi_wp2_with fail
      have hs := (HK3.out.set 3 rfl 0 (.int .i64 ((k : Int) + 1))).setFact 4 rfl (q := (k + 1 = 0 ∨ k + 1 < many)) (.inr (by omega))
      exact ⟨[], hs.sel [0, 1, 2, 3, 4, 6, 7] rfl (by decide)⟩
  case hdone =>
    intro W h
    obtain ⟨D, hD⟩ : ∃ D, w4.heap.size = D := ⟨_, rfl⟩
    rw [hD] at h ⊢
    rw [HYL.out] at h
    have HK := Lib.hid h
    simp only [overR, marks1, List.nil_append, List.cons_append] at HK
    clear h hD
    obtain ⟨n0, fn, zn, _, _⟩ := HK.out.c1 3 rfl
    obtain ⟨l0, _, zl, _, _⟩ := HK.out.c1 0 rfl
    obtain ⟨m0, _, zm, _, _⟩ := HK.out.c1 1 rfl
    obtain ⟨q0, qf, zq, _, _⟩ := HK.out.c1 2 rfl
    have HFa : Hid (ls.length = 0 ∨ ls.length < many) := HK.out.fact 4 rfl
    gi_wp2
    all_goals have hfa := HFa.out
    all_goals exact led_ret1 Try.results47 rfl HK.out 2 rfl (by first | rfl | (simp only [beq_iff_eq]; omega)) 5 rfl (fun W' h => ⟨rfl, h.tch⟩)
  case hstop =>
    rintro c W lx ⟨rfl, k, rfl⟩ h
    obtain ⟨D, hD⟩ : ∃ D, w4.heap.size = D := ⟨_, rfl⟩
    rw [hD] at h ⊢
    have HK := Lib.hid h
    simp only [overR, marks1, List.nil_append, List.cons_append, List.set_cons_succ, List.set_cons_zero] at HK
    clear h hD
    obtain ⟨n0, fn, zn, _, _⟩ := HK.out.c1 3 rfl
    obtain ⟨l0, _, zl, _, _⟩ := HK.out.c1 0 rfl
    obtain ⟨m0, _, zm, _, _⟩ := HK.out.c1 1 rfl
    obtain ⟨q0, qf, zq, _, _⟩ := HK.out.c1 2 rfl
    have HFa : Hid (k ≤ ls.length ∧ k = max 1 many) := HK.out.fact 4 rfl
    gi_wp2
    all_goals obtain ⟨hfa, hfb⟩ := HFa.out
    all_goals exact led_ret1 Try.results47 rfl HK.out 2 rfl (by first | rfl | (simp only [beq_iff_eq]; omega)) 5 rfl (fun W' h => ⟨rfl, h.tch⟩)
theorem over15 (w : World) (bx : Nat) (ra : Option Addr) (rc : Nat) (ys ls : List ME) (a2 : Option Addr) (c2 many : Nat) (hA : AllAt w bx ra rc ys) (hyn : ∀ y ∈ ys, y.v.nodes ≤ 256) (hE : EntsAt w a2 ls) (hin : ∀ x ∈ ls, x.v.In w ∧ x.v.nodes ≤ 256)
    (hp : ys.map ME.plain = ls.map ME.plain) (hlen : ls.length ≤ 1048576) (hm : many ≤ 10000) :
    Calls Try.prog 47 #[.func (.func 69) #[] #[.pointer (some ⟨bx, 0, none⟩)], .slice a2 ls.length c2, .int .i64 (many : Int)] w fun e w' => e = .returned (.bool true) ∧ Touch [] w w' :=
  (callsIn_wide (n := 0)).1 (over15_in 0 w bx ra rc ys ls a2 c2 many hA hyn hE hin hp hlen hm)
end Go.Proofs.Ytihmbgdkllmkaaa

/-
  act() of law 15 (betrothallaw15/law.go): one call by both.
-/
namespace Go.Proofs.Ytihmbgdkllmkaaa
open Go.RowKit Go.Shelf
set_option maxRecDepth 100000
set_option linter.unusedVariables false
set_option linter.unusedSimpArgs false

theorem Led.rWait {T : List Nat} {w0 w : World} {l : List Thing} {P : World → Prop} (h : Led T w0 w l) (j : Nat) (hj : l[j]? = some (stillT P)) (cell : Int) (a : Option Addr) (cap : Nat) (rs : List ME) (x : ME) (hcap : rs.length ≤ cap) (hP : ∀ W, P W → EntsAt W a rs ∧ x.v.In W) (hnx : x.v.nodes ≤ 1048576) (hlen : rs.length ≤ 4096) :
    Calls Try.prog 93 #[.agg #[.int .i64 cell, .slice a rs.length cap], x.val] w fun e w' => ∃ (err : Int) (a' : Option Addr) (cap' : Nat) (rs' : List ME), e = .returned (.tuple #[.agg #[.int .i64 cell, .slice a' rs'.length cap'], .int .i64 err]) ∧ rs'.length ≤ cap' ∧ ((err = 2 ∧ ¬ x.plain.Ok ∧ rs' = rs) ∨ (err = 6 ∧ x.plain.Ok ∧ rs.length = 4096 ∧ rs' = rs) ∨ (err = 0 ∧ x.plain.Ok ∧ rs.length < 4096 ∧ rs' = rs ++ [x])) ∧ ∃ P' : World → Prop, (∀ W, P' W → P W ∧ EntsAt W a' rs') ∧ Led T w0 w' (l.set j (stillT P')) := by
  obtain ⟨T', h1, hb⟩ := h.frame1 j hj
  refine (Wait_ref15 T' w P cell a cap rs x hcap h1 hP hnx hlen).mono ?_
  rintro e w' ⟨err, a', cap', rs', rfl, hcp, hc, P', hP', hL⟩
  exact ⟨err, a', cap', rs', rfl, hcp, hc, P', hP', hb _ _ [] hL⟩
theorem Led.rNext {T : List Nat} {w0 w : World} {l : List Thing} {P : World → Prop} (h : Led T w0 w l) (j : Nat) (hj : l[j]? = some (stillT P)) (cell : Int) (a : Option Addr) (cap : Nat) (rs : List ME) (hcap : rs.length ≤ cap) (hP : ∀ W, P W → EntsAt W a rs) (hlen : rs.length ≤ 1048576) :
    Calls Try.prog 94 #[.agg #[.int .i64 cell, .slice a rs.length cap]] w fun e w' => ∃ (a' : Option Addr) (cap' : Nat) (rs' : List ME) (x : ME) (c : Bool), e = .returned (.tuple #[.agg #[.int .i64 cell, .slice a' rs'.length cap'], x.val, .bool c]) ∧ rs'.length ≤ cap' ∧ AtRef rs 0 x c ∧ rs' = (if c = true then rs.eraseIdx 0 else rs) ∧ ∃ P' : World → Prop, (∀ W, P' W → P W ∧ EntsAt W a' rs') ∧ Led T w0 w' (l.set j (stillT P')) := by
  obtain ⟨T', h1, hb⟩ := h.frame1 j hj
  refine (Next_ref15 T' w P cell a cap rs hcap h1 hP hlen).mono ?_
  rintro e w' ⟨a', cap', rs', x, c, rfl, hcp, hR, hrs, P', hP', hL⟩
  exact ⟨a', cap', rs', x, c, rfl, hcp, hR, hrs, P', hP', hb _ _ [] hL⟩
/-- A condition of both, with their arenas. -/
def bothC (g c : Nat) (vc : Value) (most : Nat) (vl : Value) (a : Option Addr) (n cap : Nat) : Array Value := #[.pointer (some ⟨g, 0, none⟩), .pointer (some ⟨c, 0, none⟩), vc, .int .i64 (most : Int), vl, .int .i64 0, .slice a n cap]
def L15 (c q : Nat) (es : List ME) (P : World → Prop) (bx g : Nat) (s : Ar) (vc vl : Value) (a : Option Addr) (n cap : Nat) : List Thing :=
  condL c q es P ++ [box bx 105 (bothC g c vc s.most vl a n cap), arena g s, refT vc vl s]
/-- An arena of two cells, a lock and a flag. -/
def Two (s : Ar) (N : Nat) : Prop := ∃ A B L, s = twoC 9 A B L ∧ A ≤ 1 ∧ B ≤ 1 ∧ L.length ≤ N
/-- What act tells. -/
def Acted15 (T : List Nat) (w : World) (P : World → Prop) (bx g : Nat) (s : Ar) (N : Nat) (what : Int) (e : Ending) (w' : World) : Prop :=
  ∃ (c q : Nat) (es rs : List ME) (a : Option Addr) (cap : Nat) (P' : World → Prop) (s' : Ar) (vc vl : Value), e = .returned (.bool true) ∧ Both13 P' es rs a cap ∧ (∀ W, P' W → P W) ∧ Two s' (N + 1) ∧ Led T w w' (L15 c q es P' bx g s' vc vl a rs.length cap)
/-- What act tells of Wait and Next: the arenas stand. -/
def Turned15 (T : List Nat) (w : World) (P : World → Prop) (c q bx g : Nat) (s : Ar) (vc vl : Value) (e : Ending) (w' : World) : Prop :=
  ∃ (es rs : List ME) (a : Option Addr) (cap : Nat) (P' : World → Prop), e = .returned (.bool true) ∧ Both13 P' es rs a cap ∧ (∀ W, P' W → P W) ∧ Led T w w' (L15 c q es P' bx g s vc vl a rs.length cap)
theorem Two.more {s : Ar} {N : Nat} (h : Two s N) : Two s (N + 1) := by
  obtain ⟨A, B, L, h1, h2, h3, h4⟩ := h
  exact ⟨A, B, L, h1, h2, h3, by omega⟩
theorem Turned15.acted {T : List Nat} {w : World} {P : World → Prop} {c q bx g : Nat} {s : Ar} {vc vl : Value} {e : Ending} {w' : World} {N : Nat} {what : Int} (h : Turned15 T w P c q bx g s vc vl e w') (hs : Two s N) : Acted15 T w P bx g s N what e w' := by
  obtain ⟨es, rs, a, cap, P', h1, h2, h3, h4⟩ := h
  exact ⟨c, q, es, rs, a, cap, P', s, vc, vl, h1, h2, h3, hs.more, h4⟩
theorem CA.val_eq (x : CA) : x.cells.toArray = #[.int .i64 x.what, .int .i64 x.e.sync, .int .i64 x.e.thread, .int .i64 x.e.branch, .int .i64 x.e.flag, .int .i64 x.e.v.kind, .int .i64 x.e.v.num, .slice x.e.v.addr x.e.v.parts.length x.e.v.cap] := rfl
def CA.val (x : CA) : Value := .agg #[.int .i64 x.what, .int .i64 x.e.sync, .int .i64 x.e.thread, .int .i64 x.e.branch, .int .i64 x.e.flag, .int .i64 x.e.v.kind, .int .i64 x.e.v.num, .slice x.e.v.addr x.e.v.parts.length x.e.v.cap]
theorem Led.c8 {T : List Nat} {w0 w : World} {l : List Thing} {b t : Nat} (h : Led T w0 w l) (i : Nat) {x0 x1 x2 x3 x4 x5 x6 x7 : Value} (hi : l[i]? = some (Proofs.Ytihmbgdkllmkaaa.box b t #[x0, x1, x2, x3, x4, x5, x6, x7])) : w.cell? ⟨b, 0, none⟩ = some x0 ∧ w.cell? ⟨b, 1, none⟩ = some x1 ∧ w.cell? ⟨b, 2, none⟩ = some x2 ∧ w.cell? ⟨b, 3, none⟩ = some x3 ∧ w.cell? ⟨b, 4, none⟩ = some x4 ∧ w.cell? ⟨b, 5, none⟩ = some x5 ∧ w.cell? ⟨b, 6, none⟩ = some x6 ∧ w.cell? ⟨b, 7, none⟩ = some x7 ∧ b < w.heap.size := by
  have hb := h.box i hi
  exact ⟨hb.cell 0, hb.cell 1, hb.cell 2, hb.cell 3, hb.cell 4, hb.cell 5, hb.cell 6, hb.cell 7, hb.lt⟩
theorem Led.cWaitS {T : List Nat} {w0 w : World} {r : List Thing} {c q : Nat} {es : List ME} {P : World → Prop} (h : Led T w0 w (condL c q es P ++ r)) (x : ME) (hP : ∀ W, P W → x.v.In W) (hes : es.length ≤ 4096) :
    Calls Try.prog 38 #[.pointer (some ⟨c, 0, none⟩), x.val] w fun e w' => ∃ (k : Nat) (err : Int) (ys : List ME), e = .returned (.int .i64 err) ∧ PushR es.length [x.plain] k err ∧ ys.map ME.plain = [x.plain].take k ∧ Led T w0 w' (condL c q (es ++ ys) (fun W => P W ∧ ∀ y ∈ ys, y.v.In W) ++ r) := by
  obtain ⟨T', h1, hb⟩ := h.frameFront
  refine (Wait_cS T' w c q es P x h1 hP hes).mono ?_
  rintro e w' ⟨k, err, ys, rfl, hR, hp, hL⟩
  exact ⟨k, err, ys, rfl, hR, hp, hb _ _ hL⟩
theorem push_one {n k : Nat} {p : PE} {err2 err : Int} (h : PushR n [p] k err2) (hr : (err = 2 ∧ ¬ p.Ok) ∨ (err = 6 ∧ p.Ok ∧ n = 4096) ∨ (err = 0 ∧ p.Ok ∧ n < 4096)) (hn : n ≤ 4096) : err2 = err ∧ k = if err = 0 then 1 else 0 := by
  have h2 : PushR n [p] (if err = 0 then 1 else 0) err := by
    rcases hr with ⟨rfl, hk⟩ | ⟨rfl, hk, hn'⟩ | ⟨rfl, hk, hn'⟩
    · exact ⟨fun i hi h => by simp at h, by simpa using hn, by simp, .inr ⟨by simp, .inl ⟨rfl, by simpa using hk⟩⟩⟩
    · exact ⟨fun i hi h => by simp at h, by simpa using hn, by simp, .inr ⟨by simp, .inr ⟨rfl, by simpa using hk, by simpa using hn'⟩⟩⟩
    · exact ⟨fun i hi h => by simp at hi; subst hi; simpa using hk, by simp; omega, by simp, .inl ⟨rfl, by simp⟩⟩
  obtain ⟨h3, h4⟩ := h.unique h2
  exact ⟨h4, h3⟩
theorem Both13.pushed {P P1 : World → Prop} {es rs rs1 ys : List ME} {a a1 : Option Addr} {cap cap1 k : Nat} {x : ME} {err2 err : Int} (h : Both13 P es rs a cap) (hP1 : ∀ W, P1 W → P W ∧ EntsAt W a1 rs1) (hc1 : rs1.length ≤ cap1) (hx : x.v.nodes ≤ 256) (hin : ∀ W, P W → x.v.In W)
    (hr : (err = 2 ∧ ¬ x.plain.Ok ∧ rs1 = rs) ∨ (err = 6 ∧ x.plain.Ok ∧ rs.length = 4096 ∧ rs1 = rs) ∨ (err = 0 ∧ x.plain.Ok ∧ rs.length < 4096 ∧ rs1 = rs ++ [x])) (hR : PushR es.length [x.plain] k err2) (hy : ys.map ME.plain = [x.plain].take k) :
    err2 = err ∧ Both13 (fun W => P1 W ∧ ∀ y ∈ ys, y.v.In W) (es ++ ys) rs1 a1 cap1 := by
  have hl := h.len
  have hl4 := h.2.2.1
  obtain ⟨he, hk⟩ := push_one hR (err := err) (by rcases hr with ⟨h1, h2, _⟩ | ⟨h1, h2, h3, _⟩ | ⟨h1, h2, h3, _⟩; exact .inl ⟨h1, h2⟩; exact .inr (.inl ⟨h1, h2, by omega⟩); exact .inr (.inr ⟨h1, h2, by omega⟩)) hl4
  refine ⟨he, ?_⟩
  have hin1 : ∀ W, P1 W → ∀ r ∈ rs1, r.v.In W := fun W hW r hr' => by
    have hpw := (hP1 W hW).1
    rcases hr with ⟨_, _, h3⟩ | ⟨_, _, _, h3⟩ | ⟨_, _, _, h3⟩
    · rw [h3] at hr'; exact (h.2.2.2.2 W hpw).2.2 r hr'
    · rw [h3] at hr'; exact (h.2.2.2.2 W hpw).2.2 r hr'
    · rw [h3] at hr'
      rcases List.mem_append.1 hr' with h4 | h4
      · exact (h.2.2.2.2 W hpw).2.2 r h4
      · simp at h4; subst h4; exact hin W hpw
  have hpl : (es ++ ys).map ME.plain = rs1.map ME.plain ∧ (es ++ ys).length ≤ 4096 := by
    rw [List.map_append, hy, hk, h.1]
    rcases hr with ⟨rfl, _, rfl⟩ | ⟨rfl, _, _, rfl⟩ | ⟨rfl, _, h3, rfl⟩
    · have : ys = [] := by rw [hk] at hy; simpa using hy
      subst this; simp; exact hl4
    · have : ys = [] := by rw [hk] at hy; simpa using hy
      subst this; simp; exact hl4
    · have : ys.length = 1 := by have := congrArg List.length hy; rw [hk] at this; simpa using this
      simp [this]; omega
  refine ⟨hpl.1, hc1, hpl.2, fun e he' => ?_, fun W hW => ⟨fun e he' => ?_, (hP1 W hW.1).2, hin1 W hW.1⟩⟩
  · rcases List.mem_append.1 he' with h4 | h4
    · exact h.2.2.2.1 e h4
    · have hm : e.plain ∈ [x.plain].take k := by rw [← hy]; exact List.mem_map_of_mem h4
      have := List.mem_of_mem_take hm
      simp at this
      rw [plain_nodes_eq this.symm]
      exact hx
  · rcases List.mem_append.1 he' with h4 | h4
    · exact (h.2.2.2.2 W (hP1 W hW.1).1).1 e h4
    · exact hW.2 e h4
set_option maxHeartbeats 4000000 in
theorem act15_wait (T : List Nat) (w : World) (P : World → Prop) (c q bx g : Nat) (es rs : List ME) (a : Option Addr) (cap : Nat) (s : Ar) (vc vl : Value) (x : CA) (h : Led T w w (L15 c q es P bx g s vc vl a rs.length cap)) (hB : Both13 P es rs a cap) (hx : x.e.v.nodes ≤ 20 ∧ ∀ W, P W → x.e.v.In W) (hw : x.what = 0 ∨ x.what = 1 ∨ x.what = 2) :
    Calls Try.prog 52 #[.pointer (some ⟨bx, 0, none⟩), x.val] w (Turned15 T w P c q bx g s vc vl) := by
  obtain ⟨xw, xe⟩ := x
  dsimp only at hx
  have hrl : rs.length ≤ 4096 := by rw [← hB.len]; exact hB.2.2.1
  have HXN : Hid (xe.v.nodes ≤ 20) := hx.1
  have HX := Lib.hid hx.2
  have HB := Lib.hid hB
  have HL0 := Lib.hid h
  clear h hB hx
  obtain ⟨ca, cp, rfl, _, _⟩ := own_val (HL0.out.refAt 5 rfl).cel
  obtain ⟨la, lp, rfl, _, _⟩ := own_val (HL0.out.refAt 5 rfl).log
  simp only [L15, condL, bothC, List.cons_append, List.nil_append] at HL0
  unfold CA.val
  go_enter Try.func52, Try.ntmps52
  go_upto_region 1 with fail
  refine wp_name ?_
  intro w1 hw1
  have HL1 := Lib.hid (HL0.out.al1 hw1)
  simp only [List.nil_append, List.cons_append] at HL1
  obtain ⟨b3, hb3⟩ : ∃ b, w.heap.size = b := ⟨_, rfl⟩
  rw [hb3] at HL1 ⊢
  clear hw1 hb3 HL0
  obtain ⟨x0, x1, x2, x3, x4, x5, x6, x7, hl3⟩ := HL1.out.c8 6 rfl
  obtain ⟨y0, y1, y2, y3, y4, y5, y6, ⟨fy0, fy1, fy2, fy3, fy4, fy5, fy6⟩, hlx, _, _⟩ := HL1.out.c7 3 rfl
  dsimp only at hw
  go_upto_region 2 with fail
  rename_i K2 a2 K1 a1 K0 a0
  have HC : ∀ (y29 y30 y31 : Value), K1 { tmps := #[.pointer (some ⟨bx, 0, none⟩), .agg #[.int .i64 xw, .int .i64 xe.sync, .int .i64 xe.thread, .int .i64 xe.branch, .int .i64 xe.flag, .int .i64 xe.v.kind, .int .i64 xe.v.num, .slice xe.v.addr xe.v.parts.length xe.v.cap], undef, .pointer (some ⟨b3, 0, none⟩), .bool false, undef, undef, undef, undef, undef, undef, undef, undef, undef, undef, undef, undef, undef, undef, undef, undef, undef, undef, undef, undef, undef, .pointer (some ⟨b3, 0, none⟩), .int .i64 xw, .bool true, y29, y30, y31, undef, undef, undef, undef, undef, undef, undef, undef, undef, undef, undef, undef, undef, undef, undef, undef, undef, undef, undef, undef, undef, undef, undef, undef, undef, undef, undef, undef, undef, undef, undef, undef, undef, undef, undef, undef, undef, undef, undef, undef, undef, undef, undef, undef, undef, undef, undef, undef, undef, undef, undef, undef, undef, undef, undef, undef, undef, undef, undef, undef, undef, undef, undef, undef, undef, undef, undef, undef, undef, undef, undef, undef, undef, undef, undef, undef, undef, undef, undef, undef, undef, undef, undef, undef, undef, undef, undef, undef, undef, undef, undef, undef, undef, undef, undef, undef, undef, undef, undef, undef, undef, undef, undef, undef, undef, undef, undef, undef, undef, undef, undef, undef, undef, undef, undef, undef, undef, undef, undef, undef, undef, undef, undef, undef, undef, undef, undef, undef, undef, undef, undef, undef, undef, undef, undef, undef, undef, undef, undef, undef, undef, undef, undef, undef, undef, undef, undef, undef, undef, undef, undef, undef, undef, undef, undef, undef, undef, undef, undef, undef, undef, undef, undef, undef, undef, undef, undef, undef, undef, undef, undef, undef, undef, undef, undef, undef, undef, undef, undef, undef, undef, undef, undef, undef, undef, undef, undef, undef, undef, undef, undef, undef, undef, undef, undef, undef, undef, undef, undef, undef, undef, undef, undef, undef, undef], defers := [] } w1 := by
    intro y29 y30 y31
    refine a1 _ _ ?_
    clear a0 a1
    go_wp2_with fail
    have hnx : xe.v.nodes ≤ 1048576 := by have := HXN.out; omega
    have HPX : Hid (∀ W, P W → EntsAt W a rs ∧ xe.v.In W) := fun W hW => ⟨(HB.out.2.2.2.2 W hW).2.1, HX.out W hW⟩
    have HLa := Lib.hid HL1.out.drew
    have HLb := Lib.hid (HL1.out.alloc 103 #[.int .i64 0, .slice none 0 0]).drew
    simp only [List.nil_append, List.cons_append] at HLb
    go_region_held3 (fun w' => w'.cell? ⟨bx, 5, none⟩ = some (.int .i64 0) ∧ w'.cell? ⟨bx, 6, none⟩ = some (.slice a rs.length cap) ∧ w'.cell? ⟨b3, 1, none⟩ = some (.int .i64 xe.sync) ∧ w'.cell? ⟨b3, 2, none⟩ = some (.int .i64 xe.thread) ∧ w'.cell? ⟨b3, 3, none⟩ = some (.int .i64 xe.branch) ∧ w'.cell? ⟨b3, 4, none⟩ = some (.int .i64 xe.flag) ∧ w'.cell? ⟨b3, 5, none⟩ = some (.int .i64 xe.v.kind) ∧ w'.cell? ⟨b3, 6, none⟩ = some (.int .i64 xe.v.num) ∧ w'.cell? ⟨b3, 7, none⟩ = some (.slice xe.v.addr xe.v.parts.length xe.v.cap)) (go_keep) (first
      | (go_at_call 93; refine (HLa.out.rWait 2 rfl 0 a cap rs xe HB.out.2.1 HPX.out hnx hrl).mono ?_; rintro e w2 ⟨err, a1, cap1, rs1, rfl, hcp, hc, P1, hP1, hL⟩; have HL2 := Lib.hid hL; (simp only [List.set_cons_zero, List.set_cons_succ] at HL2); have HC2 := Lib.hid hc; have HCP := Lib.hid hcp; have HP1 := Lib.hid hP1; clear hL hc hcp hP1; clear x0 x1 x2 x3 x4 x5 x6 x7 hl3 y0 y1 y2 y3 y4 y5 y6 fy0 fy1 fy2 fy3 fy4 fy5 fy6 hlx; obtain ⟨x0, x1, x2, x3, x4, x5, x6, x7, hl3⟩ := HL2.out.c8 6 rfl; obtain ⟨y0, y1, y2, y3, y4, y5, y6, ⟨fy0, fy1, fy2, fy3, fy4, fy5, fy6⟩, hlx, _, _⟩ := HL2.out.c7 3 rfl; have m1 : bx ≠ w2.heap.size := (by omega); have m2 := Ne.symm m1; have m3 : b3 ≠ w2.heap.size := (by omega); have m4 := Ne.symm m3)
      | (go_at_call 93; refine (HLb.out.rWait 2 rfl 0 a cap rs xe HB.out.2.1 HPX.out hnx hrl).mono ?_; rintro e w2 ⟨err, a1, cap1, rs1, rfl, hcp, hc, P1, hP1, hL⟩; have HL2 := Lib.hid hL; (simp only [List.set_cons_zero, List.set_cons_succ] at HL2); have HC2 := Lib.hid hc; have HCP := Lib.hid hcp; have HP1 := Lib.hid hP1; clear hL hc hcp hP1; clear x0 x1 x2 x3 x4 x5 x6 x7 hl3 y0 y1 y2 y3 y4 y5 y6 fy0 fy1 fy2 fy3 fy4 fy5 fy6 hlx; obtain ⟨x0, x1, x2, x3, x4, x5, x6, x7, hl3⟩ := HL2.out.c8 6 rfl; obtain ⟨y0, y1, y2, y3, y4, y5, y6, ⟨fy0, fy1, fy2, fy3, fy4, fy5, fy6⟩, hlx, _, _⟩ := HL2.out.c7 3 rfl; obtain ⟨k0, k1, kf0, kf1, hlk, _, _⟩ := HL2.out.c2 7 rfl; have m1 := HL2.out.ne 3 7 rfl rfl (by decide); have m2 := Ne.symm m1; have m3 := HL2.out.ne 6 7 rfl rfl (by decide); have m4 := Ne.symm m3))
    all_goals rename_i hHeld
    all_goals clear hHeld
    all_goals first
      | (have HL3 := Lib.hid (HL2.out.alloc 103 #[.int .i64 0, .slice a1 rs1.length cap1]); obtain ⟨w5, hw5⟩ : ∃ w5, w2.alloc (.cells #[.int .i64 0, .slice a1 rs1.length cap1] 103) = w5 := ⟨_, rfl⟩; rw [hw5] at HL3 ⊢; obtain ⟨b5, hb5⟩ : ∃ b, w2.heap.size = b := ⟨_, rfl⟩; rw [hb5] at HL3 ⊢; clear hw5 hb5)
      | (have HL3 := Lib.hid ((HL2.out.set 7 rfl 0 (.int .i64 0)).set 7 rfl 1 (.slice a1 rs1.length cap1)); obtain ⟨w5, hw5⟩ : ∃ w5, (w2.setCell ⟨w1.heap.size, 0, none⟩ (.int .i64 0)).setCell ⟨w1.heap.size, 1, none⟩ (.slice a1 rs1.length cap1) = w5 := ⟨_, rfl⟩; rw [hw5] at HL3 ⊢; obtain ⟨b5, hb5⟩ : ∃ b, w1.heap.size = b := ⟨_, rfl⟩; rw [hb5] at HL3 ⊢; clear hw5 hb5)
    all_goals
      simp only [List.nil_append, List.cons_append, List.set_cons_zero, List.set_cons_succ, List.setIfInBounds_toArray] at HL3
      clear HL2 HLa HLb HL1 x0 x1 x2 x3 x4 x5 x6 x7 hl3 y0 y1 y2 y3 y4 y5 y6 fy0 fy1 fy2 fy3 fy4 fy5 fy6 hlx
      obtain ⟨y0, y1, y2, y3, y4, y5, y6, ⟨fy0, fy1, fy2, fy3, fy4, fy5, fy6⟩, hlx, _, _⟩ := HL3.out.c7 3 rfl
      obtain ⟨k0, k1, kf0, kf1, hlk, _, _⟩ := HL3.out.c2 7 rfl
      go_upto_region 7 with fail
      refine wp_name ?_
      intro w6 hw6
      have HL4 : Hid (Led T w w6 (condL c q es P1 ++ [box bx 105 #[.pointer (some ⟨g, 0, none⟩), .pointer (some ⟨c, 0, none⟩), .slice ca s.C.length cp, .int .i64 (s.most : Int), .slice la s.L.length lp, .int .i64 0, .slice a1 rs1.length cap1], arena g s, refT (.slice ca s.C.length cp) (.slice la s.L.length lp) s, box b3 85 #[.int .i64 xw, .int .i64 xe.sync, .int .i64 xe.thread, .int .i64 xe.branch, .int .i64 xe.flag, .int .i64 xe.v.kind, .int .i64 xe.v.num, .slice xe.v.addr xe.v.parts.length xe.v.cap]])) := by
        have h := (HL3.out.set 3 rfl 5 (.int .i64 0)).set 3 rfl 6 (.slice a1 rs1.length cap1)
        rw [hw6] at h
        exact h.sel [0, 1, 2, 3, 4, 5, 6] rfl (by decide)
      clear hw6 HL3 y0 y1 y2 y3 y4 y5 y6 fy0 fy1 fy2 fy3 fy4 fy5 fy6 hlx k0 k1 kf0 kf1 hlk
      obtain ⟨x0, x1, x2, x3, x4, x5, x6, x7, hl3⟩ := HL4.out.c8 6 rfl
      obtain ⟨y0, y1, y2, y3, y4, y5, y6, ⟨fy0, fy1, fy2, fy3, fy4, fy5, fy6⟩, hlx, _, _⟩ := HL4.out.c7 3 rfl
      have HWT := Lib.hid (HL4.out.drew.cWaitS xe (fun W hW => HX.out W (HP1.out W hW).1) HB.out.2.2.1)
      simp only [ent_eq] at HWT
      go_wp2_with fail
      go_region_held3 (fun w' => w'.cell? ⟨bx, 1, none⟩ = some (.pointer (some ⟨c, 0, none⟩)) ∧ w'.cell? ⟨b3, 1, none⟩ = some (.int .i64 xe.sync) ∧ w'.cell? ⟨b3, 2, none⟩ = some (.int .i64 xe.thread) ∧ w'.cell? ⟨b3, 3, none⟩ = some (.int .i64 xe.branch) ∧ w'.cell? ⟨b3, 4, none⟩ = some (.int .i64 xe.flag) ∧ w'.cell? ⟨b3, 5, none⟩ = some (.int .i64 xe.v.kind) ∧ w'.cell? ⟨b3, 6, none⟩ = some (.int .i64 xe.v.num) ∧ w'.cell? ⟨b3, 7, none⟩ = some (.slice xe.v.addr xe.v.parts.length xe.v.cap)) (go_keep) (first
        | (go_at_call 38; refine HWT.out.mono ?_; rintro e w7 ⟨kk, err2, ys, rfl, hR2, hp2, hL⟩; have HL5 := Lib.hid hL; (simp only [condL, List.cons_append, List.nil_append] at HL5); (obtain ⟨hee, hbf⟩ := HB.out.pushed HP1.out HCP.out (by have := HXN.out; omega) HX.out HC2.out hR2 hp2); (subst hee); have HBF := Lib.hid hbf; clear hL hbf hR2 hp2 x0 x1 x2 x3 x4 x5 x6 x7 hl3 y0 y1 y2 y3 y4 y5 y6 fy0 fy1 fy2 fy3 fy4 fy5 fy6 hlx; obtain ⟨x0, x1, x2, x3, x4, x5, x6, x7, hl3⟩ := HL5.out.c8 6 rfl; obtain ⟨y0, y1, y2, y3, y4, y5, y6, ⟨fy0, fy1, fy2, fy3, fy4, fy5, fy6⟩, hlx, _, _⟩ := HL5.out.c7 3 rfl)
        | (go_at_call 36; refine (num15 _ _).mono ?_; rintro e wn ⟨rfl, rfl⟩))
      go_wp2
      go_ret
      exact ⟨es ++ ys, rs1, a1, cap1, _, rfl, HBF.out, fun W hW => (HP1.out W hW.1).1, HL5.out.sel [0, 1, 2, 3, 4, 5] rfl (by decide)⟩
  clear a1
  rcases hw with hw | hw | hw
  all_goals
    simp only [hw] at HC ⊢
    go_wp2
    exact HC _ _ _
end Go.Proofs.Ytihmbgdkllmkaaa

/-
  act() of law 15 (betrothallaw15/law.go): the other calls.
-/
namespace Go.Proofs.Ytihmbgdkllmkaaa
open Go.RowKit Go.Shelf
set_option maxRecDepth 100000
set_option linter.unusedVariables false
set_option linter.unusedSimpArgs false

theorem Led.cNextS {T : List Nat} {w0 w : World} {r : List Thing} {c q : Nat} {es : List ME} {P : World → Prop} (h : Led T w0 w (condL c q es P ++ r)) (hes : es.length ≤ 4096) :
    Calls Try.prog 40 #[.pointer (some ⟨c, 0, none⟩)] w fun e w' => ∃ (y : ME) (b : Bool), e = .returned (.tuple #[y.val, .bool b]) ∧ AtRef es 0 y b ∧ Led T w0 w' (condL c q (if b = true then es.eraseIdx 0 else es) P ++ r) := by
  obtain ⟨T', h1, hb⟩ := h.frameFront
  refine (Next_cS T' w c q es P h1 hes).mono ?_
  rintro e w' ⟨y, b, rfl, hR, hL⟩
  exact ⟨y, b, rfl, hR, hb _ _ hL⟩
theorem AtRef.atR' {es : List ME} {i : Int} {y : ME} {c : Bool} (h : AtRef es i y c) : AtR (es.map ME.plain) i y c := by
  rcases h with ⟨h1, h2, h3⟩ | ⟨h1, h2, h3⟩
  · exact .inl ⟨h1, h2, by rw [List.getElem?_map, h3]; rfl⟩
  · exact .inr ⟨h1, by simpa using h2, h3⟩
theorem Both13.drop0 {P P1 : World → Prop} {es rs rs1 : List ME} {a a1 : Option Addr} {cap cap1 : Nat} {c : Bool} (h : Both13 P es rs a cap) (hP1 : ∀ W, P1 W → P W ∧ EntsAt W a1 rs1) (hrs : rs1 = if c = true then rs.eraseIdx 0 else rs) (hc1 : rs1.length ≤ cap1) : Both13 P1 (if c = true then es.eraseIdx 0 else es) rs1 a1 cap1 := by
  have hsub : ∀ (es1 : List ME), es1.map ME.plain = rs1.map ME.plain → (∀ e ∈ es1, e ∈ es) → (∀ r ∈ rs1, r ∈ rs) → es1.length ≤ es.length → Both13 P1 es1 rs1 a1 cap1 := fun es1 h1 he hr hl =>
    ⟨h1, hc1, Nat.le_trans hl h.2.2.1, fun e hh => h.2.2.2.1 e (he e hh), fun W hW => by
      obtain ⟨h2, h3⟩ := hP1 W hW
      obtain ⟨g1, _, g3⟩ := h.2.2.2.2 W h2
      exact ⟨fun e hh => g1 e (he e hh), h3, fun r hh => g3 r (hr r hh)⟩⟩
  cases c with
  | true =>
    refine hsub _ ?_ (fun e he => by simp only [if_true] at he; exact List.mem_of_mem_eraseIdx he) (fun e he => by rw [hrs] at he; simp only [if_true] at he; exact List.mem_of_mem_eraseIdx he) (by simp only [if_true]; exact List.length_eraseIdx_le es 0)
    rw [hrs]
    simp only [if_true, List.eraseIdx_eq_take_drop_succ, List.map_append, List.map_take, List.map_drop, h.1]
  | false => exact hsub _ (by rw [hrs]; simpa using h.1) (fun e he => by simpa using he) (fun e he => by rw [hrs] at he; simpa using he) (by simp)
set_option maxHeartbeats 4000000 in
theorem act15_next (T : List Nat) (w : World) (P : World → Prop) (c q bx g : Nat) (es rs : List ME) (a : Option Addr) (cap : Nat) (s : Ar) (vc vl : Value) (x : CA) (h : Led T w w (L15 c q es P bx g s vc vl a rs.length cap)) (hB : Both13 P es rs a cap) (hx : x.e.v.nodes ≤ 20 ∧ ∀ W, P W → x.e.v.In W) (hw : x.what = 3) :
    Calls Try.prog 52 #[.pointer (some ⟨bx, 0, none⟩), x.val] w (Turned15 T w P c q bx g s vc vl) := by
  obtain ⟨xw, xe⟩ := x
  dsimp only at hx
  have hrl : rs.length ≤ 4096 := by rw [← hB.len]; exact hB.2.2.1
  have HXN : Hid (xe.v.nodes ≤ 20) := hx.1
  have HX := Lib.hid hx.2
  have HB := Lib.hid hB
  have HL0 := Lib.hid h
  clear h hB hx
  obtain ⟨ca, cp, rfl, _, _⟩ := own_val (HL0.out.refAt 5 rfl).cel
  obtain ⟨la, lp, rfl, _, _⟩ := own_val (HL0.out.refAt 5 rfl).log
  simp only [L15, condL, bothC, List.cons_append, List.nil_append] at HL0
  unfold CA.val
  go_enter Try.func52, Try.ntmps52
  go_upto_region 1 with fail
  refine wp_name ?_
  intro w1 hw1
  have HL1 := Lib.hid (HL0.out.al1 hw1)
  simp only [List.nil_append, List.cons_append] at HL1
  obtain ⟨b3, hb3⟩ : ∃ b, w.heap.size = b := ⟨_, rfl⟩
  rw [hb3] at HL1 ⊢
  clear hw1 hb3 HL0
  obtain ⟨x0, x1, x2, x3, x4, x5, x6, x7, hl3⟩ := HL1.out.c8 6 rfl
  obtain ⟨y0, y1, y2, y3, y4, y5, y6, ⟨fy0, fy1, fy2, fy3, fy4, fy5, fy6⟩, hlx, _, _⟩ := HL1.out.c7 3 rfl
  dsimp only at hw
  subst hw
  have HNX := Lib.hid (Led.cNextS (r := [box bx 105 #[.pointer (some ⟨g, 0, none⟩), .pointer (some ⟨c, 0, none⟩), .slice ca s.C.length cp, .int .i64 (s.most : Int), .slice la s.L.length lp, .int .i64 0, .slice a rs.length cap], arena g s, refT (.slice ca s.C.length cp) (.slice la s.L.length lp) s]) (HL1.out.sel [0, 1, 2, 3, 4, 5] rfl (by decide)) HB.out.2.2.1)
  go_wp2_with fail
  refine HNX.out.mono ?_
  rintro e w2 ⟨y, cy, rfl, hRy, hL⟩
  have HL2 := Lib.hid hL
  simp only [condL, List.cons_append, List.nil_append] at HL2
  have HRY := Lib.hid hRy
  clear hL hRy HL1 HNX x0 x1 x2 x3 x4 x5 x6 x7 hl3 y0 y1 y2 y3 y4 y5 y6 fy0 fy1 fy2 fy3 fy4 fy5 fy6 hlx
  simp only [ent_eq]
  go_upto_region 10 with fail
  refine wp_name ?_
  intro w3 hw3
  have HL3 := Lib.hid (HL2.out.al1 hw3)
  simp only [List.nil_append, List.cons_append] at HL3
  obtain ⟨b7, hb7⟩ : ∃ b, w2.heap.size = b := ⟨_, rfl⟩
  rw [hb7] at HL3 ⊢
  clear hw3 hb7 HL2
  obtain ⟨z0, z1, z2, z3, z4, z5, z6, _, hlx, _, _⟩ := HL3.out.c7 3 rfl
  go_wp2_with fail
  refine (HL3.out.rNext 2 rfl 0 a cap rs HB.out.2.1 (fun W hW => (HB.out.2.2.2.2 W hW).2.1) (by omega)).mono ?_
  rintro e w4 ⟨a1, cap1, rs1, xr, cx, rfl, hcp, hRx, hrs1, P1, hP1, hL⟩
  have HL4 := Lib.hid hL
  simp only [List.set_cons_zero, List.set_cons_succ] at HL4
  obtain ⟨hyx, hcc⟩ := hRx.plain HRY.out.atR' HB.out.1
  subst hcc
  have HYX := Lib.hid hyx
  have HRX := Lib.hid hRx
  have HP1 := Lib.hid hP1
  have HBF := Lib.hid (HB.out.drop0 hP1 hrs1 hcp)
  clear hL hcp hRx hrs1 hP1 hyx HL3 z0 z1 z2 z3 z4 z5 z6 hlx
  simp only [ent_eq]
  go_upto_region 11 with fail
  refine wp_name ?_
  intro w5 hw5
  have HL5 := Lib.hid (HL4.out.al2 hw5)
  simp only [List.nil_append, List.cons_append] at HL5
  obtain ⟨b10, hb10⟩ : ∃ b, w4.heap.size + 1 = b := ⟨_, rfl⟩
  rw [hb10] at HL5 ⊢
  obtain ⟨b9, hb9⟩ : ∃ b, w4.heap.size = b := ⟨_, rfl⟩
  rw [hb9] at HL5 ⊢
  clear hw5 hb10 hb9 HL4
  have HIN : Hid (∀ W, P1 W → y.v.In W ∧ xr.v.In W) := fun W hW => by
    have h := HB.out.2.2.2.2 W (HP1.out W hW).1
    exact ⟨HRY.out.inq (p := fun y => y.v.In W) (MT.in_zero W) h.1, HRX.out.inq (p := fun y => y.v.In W) (MT.in_zero W) h.2.2⟩
  have HYN : Hid (y.v.nodes ≤ 256 ∧ xr.v.nodes ≤ 256) := ⟨HRY.out.inq (p := fun y => y.v.nodes ≤ 256) (by simp [ME.zero, MT.zero, MT.nodes, MT.nodesAll]) HB.out.2.2.2.1, HRX.out.inq (p := fun y => y.v.nodes ≤ 256) (by simp [ME.zero, MT.zero, MT.nodes, MT.nodesAll]) HB.out.rnodes⟩
  obtain ⟨z0, z1, z2, z3, z4, z5, z6, ⟨_, _, _, _, _, fz5, fz6⟩, hlx, _, _⟩ := HL5.out.c7 3 rfl
  obtain ⟨q0, q1, _, _, hl9, _, _⟩ := HL5.out.c2 7 rfl
  go_upto_region 12 with fail
  refine wp_name ?_
  intro w6 hw6
  have HL6 : Hid (Led T w w6 (condL c q (if cy = true then es.eraseIdx 0 else es) P1 ++ [box bx 105 #[.pointer (some ⟨g, 0, none⟩), .pointer (some ⟨c, 0, none⟩), .slice ca s.C.length cp, .int .i64 (s.most : Int), .slice la s.L.length lp, .int .i64 0, .slice a1 rs1.length cap1], arena g s, refT (.slice ca s.C.length cp) (.slice la s.L.length lp) s, box b7 27 #[.int .i64 y.sync, .int .i64 y.thread, .int .i64 y.branch, .int .i64 y.flag, .int .i64 y.v.kind, .int .i64 y.v.num, .slice y.v.addr y.v.parts.length y.v.cap], box b10 27 #[.int .i64 xr.sync, .int .i64 xr.thread, .int .i64 xr.branch, .int .i64 xr.flag, .int .i64 xr.v.kind, .int .i64 xr.v.num, .slice xr.v.addr xr.v.parts.length xr.v.cap]])) := by
    have h := (HL5.out.set 3 rfl 5 (.int .i64 0)).set 3 rfl 6 (.slice a1 rs1.length cap1)
    rw [hw6] at h
    exact h.sel [0, 1, 2, 3, 4, 5, 6, 8] rfl (by decide)
  clear hw6 HL5 z0 z1 z2 z3 z4 z5 z6 fz5 fz6 hlx q0 q1 hl9
  obtain ⟨z0, z1, z2, z3, z4, z5, z6, _, hl7, _, _⟩ := HL6.out.c7 6 rfl
  obtain ⟨u0, u1, u2, u3, u4, u5, u6, _, hl10, _, _⟩ := HL6.out.c7 7 rfl
  have HSE := Lib.hid (SameEntry_ref y xr w6 (HIN.out _ (HL6.out.still 2 rfl)).1 (HIN.out _ (HL6.out.still 2 rfl)).2 (by have := HYN.out; omega) (by have := HYN.out; omega))
  have HEQ : Hid (y.v.nodes ≤ 256 ∧ xr.v.nodes ≤ 256 ∧ y.plain = xr.plain) := ⟨HYN.out.1, HYN.out.2, HYX.out⟩
  simp only [ent_eq] at HSE
  go_wp2_with fail
  refine HSE.out.mono ?_
  rintro e w7 ⟨cc, rfl, hcc, ht⟩
  obtain rfl : cc = true := hcc.2 HEQ.out
  have HL7 := Lib.hid (HL6.out.touch ht)
  clear hcc ht HL6
  go_wp2
  go_ret
  exact ⟨_, rs1, a1, cap1, P1, rfl, HBF.out, fun W hW => (HP1.out W hW).1, HL7.out.sel [0, 1, 2, 3, 4, 5] rfl (by decide)⟩
end Go.Proofs.Ytihmbgdkllmkaaa

/-
  act() of law 15 (betrothallaw15/law.go): Fired, Lock.
-/
namespace Go.Proofs.Ytihmbgdkllmkaaa
open Go.RowKit Go.Shelf
set_option maxRecDepth 100000
set_option linter.unusedVariables false
set_option linter.unusedSimpArgs false

theorem Led.cell234 {T : List Nat} {w0 w : World} {l : List Thing} {bx t : Nat} (i : Nat) {x0 x1 x2 x3 x4 x5 x6 y2 y3 y4 : Value} (h : Led T w0 w l) (hi : l[i]? = some (Proofs.Ytihmbgdkllmkaaa.box bx t #[x0, x1, x2, x3, x4, x5, x6])) : Led T w0 (((w.setCell ⟨bx, 2, none⟩ y2).setCell ⟨bx, 3, none⟩ y3).setCell ⟨bx, 4, none⟩ y4) (l.set i (Proofs.Ytihmbgdkllmkaaa.box bx t #[x0, x1, y2, y3, y4, x5, x6])) := by
  have hlt : i < l.length := by rcases Nat.lt_or_ge i l.length with h1 | h1; exact h1; rw [List.getElem?_eq_none h1] at hi; cases hi
  have h1 := ((h.set i hi 2 y2).set i (by simp [hlt]; rfl) 3 y3).set i (by simp [hlt]; rfl) 4 y4
  simpa using h1
set_option maxHeartbeats 4000000 in
theorem act15_fired (T : List Nat) (w : World) (P : World → Prop) (c q bx g : Nat) (es rs : List ME) (a : Option Addr) (cap : Nat) (s s' : Ar) (vc vl : Value) (N : Nat) (x : CA) (d : Bool) (er : Int) (h : Led T w w (L15 c q es P bx g s vc vl a rs.length cap)) (hB : Both13 P es rs a cap) (hw : x.what = 4) (hm : s'.most = s.most) (hT : Two s' (N + 1))
    (hR : ∀ T w vc vl, Led T w w [refT vc vl s] → Calls Try.prog 95 #[.agg #[.int .i64 0, .slice a rs.length cap], refV vc s.most vl] w (RefGo T w s' (fun vc' vl' => .tuple #[refV vc' s.most vl', .bool d, .int .i64 er])))
    (hI : ∀ (l : List Thing) (w1 : World), Led T w w1 l → l[4]? = some (arena g s) → l[0]? = some (box c 90 #[.int .i64 0, .int .i64 1, .pointer (some ⟨q, 0, none⟩)]) → Calls Try.prog 41 #[.pointer (some ⟨c, 0, none⟩), .pointer (some ⟨g, 0, none⟩)] w1 fun e w' => e = .returned (.tuple #[.bool d, .int .i64 er]) ∧ Led T w w' (l.set 4 (arena g s'))) :
    Calls Try.prog 52 #[.pointer (some ⟨bx, 0, none⟩), x.val] w (Acted15 T w P bx g s N x.what) := by
  obtain ⟨xw, xe⟩ := x
  dsimp only at hw
  subst hw
  have HB := Lib.hid hB
  have HS := Lib.hid hT
  have HL0 := Lib.hid h
  have HR := Lib.hid hR
  have HI := Lib.hid hI
  have HM := Lib.hid hm
  clear h hB hT hR hI hm
  obtain ⟨ca, cp, rfl, _, _⟩ := own_val (HL0.out.refAt 5 rfl).cel
  obtain ⟨la, lp, rfl, _, _⟩ := own_val (HL0.out.refAt 5 rfl).log
  simp only [L15, condL, bothC, List.cons_append, List.nil_append] at HL0
  unfold CA.val
  go_enter Try.func52, Try.ntmps52
  go_upto_region 1 with fail
  refine wp_name ?_
  intro w1 hw1
  have HL1 := Lib.hid (HL0.out.al1 hw1)
  simp only [List.nil_append, List.cons_append] at HL1
  obtain ⟨b3, hb3⟩ : ∃ b, w.heap.size = b := ⟨_, rfl⟩
  rw [hb3] at HL1 ⊢
  clear hw1 hb3 HL0
  obtain ⟨x0, x1, x2, x3, x4, x5, x6, x7, hl3⟩ := HL1.out.c8 6 rfl
  obtain ⟨y0, y1, y2, y3, y4, y5, y6, ⟨fy0, fy1, fy2, fy3, fy4, fy5, fy6⟩, hlx, _, _⟩ := HL1.out.c7 3 rfl
  have HLa := Lib.hid HL1.out.drew
  have HLb := Lib.hid (HL1.out.alloc 101 #[.slice none 0 0, .int .i64 0, .slice none 0 0]).drew
  simp only [List.nil_append, List.cons_append] at HLb
  go_wp2_with fail
  go_region_held3 (fun w' => w'.cell? ⟨bx, 2, none⟩ = some (.slice ca s.C.length cp) ∧ w'.cell? ⟨bx, 3, none⟩ = some (.int .i64 (s.most : Int)) ∧ w'.cell? ⟨bx, 4, none⟩ = some (.slice la s.L.length lp) ∧ w'.cell? ⟨bx, 5, none⟩ = some (.int .i64 0) ∧ w'.cell? ⟨bx, 6, none⟩ = some (.slice a rs.length cap)) (go_keep) (first
    | (go_at_call 95; refine (HLa.out.refGo 5 rfl (fun T h => HR.out T _ _ _ h)).mono ?_; rintro e w2 ⟨vc', vl', rfl, hL⟩; (obtain ⟨ca1, cp1, rfl, _, _⟩ := own_val (hL.refAt 5 rfl).cel); (obtain ⟨la1, lp1, rfl, _, _⟩ := own_val (hL.refAt 5 rfl).log); have HL2 := Lib.hid hL; (simp only [refV, List.set_cons_zero, List.set_cons_succ] at HL2 ⊢); clear hL; clear x0 x1 x2 x3 x4 x5 x6 x7 hl3 y0 y1 y2 y3 y4 y5 y6 fy0 fy1 fy2 fy3 fy4 fy5 fy6 hlx; obtain ⟨y0, y1, y2, y3, y4, y5, y6, ⟨fy0, fy1, fy2, fy3, fy4, fy5, fy6⟩, hlx, _, _⟩ := HL2.out.c7 3 rfl; have m1 : bx ≠ w2.heap.size := (by omega); have m2 := Ne.symm m1)
    | (go_at_call 95; refine (HLb.out.refGo 5 rfl (fun T h => HR.out T _ _ _ h)).mono ?_; rintro e w2 ⟨vc', vl', rfl, hL⟩; (obtain ⟨ca1, cp1, rfl, _, _⟩ := own_val (hL.refAt 5 rfl).cel); (obtain ⟨la1, lp1, rfl, _, _⟩ := own_val (hL.refAt 5 rfl).log); have HL2 := Lib.hid hL; (simp only [refV, List.set_cons_zero, List.set_cons_succ] at HL2 ⊢); clear hL; clear x0 x1 x2 x3 x4 x5 x6 x7 hl3 y0 y1 y2 y3 y4 y5 y6 fy0 fy1 fy2 fy3 fy4 fy5 fy6 hlx; obtain ⟨y0, y1, y2, y3, y4, y5, y6, ⟨fy0, fy1, fy2, fy3, fy4, fy5, fy6⟩, hlx, _, _⟩ := HL2.out.c7 3 rfl; obtain ⟨k0, k1, k2, kf0, kf1, kf2, hlk, _, _⟩ := HL2.out.c3 7 rfl; have m1 := HL2.out.ne 3 7 rfl rfl (by decide); have m2 := Ne.symm m1))
  all_goals rename_i hHeld
  all_goals clear hHeld
  all_goals first
    | (have HL3 := Lib.hid (HL2.out.alloc 101 #[.slice ca1 s'.C.length cp1, .int .i64 (s.most : Int), .slice la1 s'.L.length lp1]); obtain ⟨w5, hw5⟩ : ∃ w5, w2.alloc (.cells #[.slice ca1 s'.C.length cp1, .int .i64 (s.most : Int), .slice la1 s'.L.length lp1] 101) = w5 := ⟨_, rfl⟩; rw [hw5] at HL3 ⊢; obtain ⟨b5, hb5⟩ : ∃ b, w2.heap.size = b := ⟨_, rfl⟩; rw [hb5] at HL3 ⊢; clear hw5 hb5)
    | (have HL3 := Lib.hid (((HL2.out.set 7 rfl 0 (.slice ca1 s'.C.length cp1)).set 7 rfl 1 (.int .i64 (s.most : Int))).set 7 rfl 2 (.slice la1 s'.L.length lp1)); obtain ⟨w5, hw5⟩ : ∃ w5, ((w2.setCell ⟨w1.heap.size, 0, none⟩ (.slice ca1 s'.C.length cp1)).setCell ⟨w1.heap.size, 1, none⟩ (.int .i64 (s.most : Int))).setCell ⟨w1.heap.size, 2, none⟩ (.slice la1 s'.L.length lp1) = w5 := ⟨_, rfl⟩; rw [hw5] at HL3 ⊢; obtain ⟨b5, hb5⟩ : ∃ b, w1.heap.size = b := ⟨_, rfl⟩; rw [hb5] at HL3 ⊢; clear hw5 hb5)
  all_goals
    simp only [List.nil_append, List.cons_append, List.set_cons_zero, List.set_cons_succ, List.setIfInBounds_toArray] at HL3
    clear HL2 HLa HLb HL1 y0 y1 y2 y3 y4 y5 y6 fy0 fy1 fy2 fy3 fy4 fy5 fy6 hlx
    obtain ⟨y0, y1, y2, y3, y4, y5, y6, ⟨fy0, fy1, fy2, fy3, fy4, fy5, fy6⟩, hlx, _, _⟩ := HL3.out.c7 3 rfl
    obtain ⟨k0, k1, k2, kf0, kf1, kf2, hlk, _, _⟩ := HL3.out.c3 7 rfl
    go_upto_region 16 with fail
    refine wp_name ?_
    intro w6 hw6
    have HL4 : Hid (Led T w w6 (condL c q es P ++ [box bx 105 #[.pointer (some ⟨g, 0, none⟩), .pointer (some ⟨c, 0, none⟩), .slice ca1 s'.C.length cp1, .int .i64 (s.most : Int), .slice la1 s'.L.length lp1, .int .i64 0, .slice a rs.length cap], arena g s, refT (.slice ca1 s'.C.length cp1) (.slice la1 s'.L.length lp1) s'])) := by
      have h := HL3.out.cell234 3 rfl (y2 := .slice ca1 s'.C.length cp1) (y3 := .int .i64 (s.most : Int)) (y4 := .slice la1 s'.L.length lp1)
      rw [hw6] at h
      exact h.sel [0, 1, 2, 3, 4, 5] rfl (by decide)
    clear hw6 HL3 y0 y1 y2 y3 y4 y5 y6 fy0 fy1 fy2 fy3 fy4 fy5 fy6 hlx k0 k1 k2 kf0 kf1 kf2 hlk
    obtain ⟨y0, y1, y2, y3, y4, y5, y6, ⟨fy0, fy1, fy2, fy3, fy4, fy5, fy6⟩, hlx, _, _⟩ := HL4.out.c7 3 rfl
    have HIC := Lib.hid (HI.out _ _ HL4.out.drew rfl rfl)
    go_wp2_with fail
    go_region_held3 (fun w' => w'.cell? ⟨bx, 0, none⟩ = some (.pointer (some ⟨g, 0, none⟩)) ∧ w'.cell? ⟨bx, 1, none⟩ = some (.pointer (some ⟨c, 0, none⟩))) (go_keep) (first
      | (go_at_call 41; refine HIC.out.mono ?_; rintro e w7 ⟨rfl, hL⟩; have HL5 := Lib.hid hL; (simp only [condL, List.cons_append, List.nil_append, List.set_cons_zero, List.set_cons_succ] at HL5); clear hL y0 y1 y2 y3 y4 y5 y6 fy0 fy1 fy2 fy3 fy4 fy5 fy6 hlx; obtain ⟨y0, y1, y2, y3, y4, y5, y6, ⟨fy0, fy1, fy2, fy3, fy4, fy5, fy6⟩, hlx, _, _⟩ := HL5.out.c7 3 rfl))
    go_wp2_with fail
    refine (num15 _ _).mono ?_
    rintro e wn ⟨rfl, rfl⟩
    go_wp2
    go_ret
    refine ⟨c, q, es, rs, a, cap, P, s', .slice ca1 s'.C.length cp1, .slice la1 s'.L.length lp1, rfl, HB.out, fun W hW => hW, HS.out, ?_⟩
    have h := HL5.out
    rw [← HM.out] at h
    exact h
set_option maxHeartbeats 4000000 in
theorem act15_lock (T : List Nat) (w : World) (P : World → Prop) (c q bx g : Nat) (es rs : List ME) (a : Option Addr) (cap : Nat) (s s' : Ar) (vc vl : Value) (N : Nat) (x : CA) (d : Bool) (er : Int) (h : Led T w w (L15 c q es P bx g s vc vl a rs.length cap)) (hB : Both13 P es rs a cap) (hw : x.what = 6) (hm : s'.most = s.most) (hT : Two s' (N + 1))
    (hR : ∀ T w vc vl, Led T w w [refT vc vl s] → Calls Try.prog 97 #[refV vc s.most vl, .int .i64 0] w (RefGo T w s' (fun vc' vl' => .tuple #[refV vc' s.most vl', .bool d, .int .i64 er])))
    (hI : ∀ (l : List Thing) (w1 : World), Led T w w1 l → l[4]? = some (arena g s) → l[0]? = some (box c 90 #[.int .i64 0, .int .i64 1, .pointer (some ⟨q, 0, none⟩)]) → Calls Try.prog 44 #[.pointer (some ⟨c, 0, none⟩), .pointer (some ⟨g, 0, none⟩)] w1 fun e w' => e = .returned (.tuple #[.bool d, .int .i64 er]) ∧ Led T w w' (l.set 4 (arena g s'))) :
    Calls Try.prog 52 #[.pointer (some ⟨bx, 0, none⟩), x.val] w (Acted15 T w P bx g s N x.what) := by
  obtain ⟨xw, xe⟩ := x
  dsimp only at hw
  subst hw
  have HB := Lib.hid hB
  have HS := Lib.hid hT
  have HL0 := Lib.hid h
  have HR := Lib.hid hR
  have HI := Lib.hid hI
  have HM := Lib.hid hm
  clear h hB hT hR hI hm
  obtain ⟨ca, cp, rfl, _, _⟩ := own_val (HL0.out.refAt 5 rfl).cel
  obtain ⟨la, lp, rfl, _, _⟩ := own_val (HL0.out.refAt 5 rfl).log
  simp only [L15, condL, bothC, List.cons_append, List.nil_append] at HL0
  unfold CA.val
  go_enter Try.func52, Try.ntmps52
  go_upto_region 1 with fail
  refine wp_name ?_
  intro w1 hw1
  have HL1 := Lib.hid (HL0.out.al1 hw1)
  simp only [List.nil_append, List.cons_append] at HL1
  obtain ⟨b3, hb3⟩ : ∃ b, w.heap.size = b := ⟨_, rfl⟩
  rw [hb3] at HL1 ⊢
  clear hw1 hb3 HL0
  obtain ⟨x0, x1, x2, x3, x4, x5, x6, x7, hl3⟩ := HL1.out.c8 6 rfl
  obtain ⟨y0, y1, y2, y3, y4, y5, y6, ⟨fy0, fy1, fy2, fy3, fy4, fy5, fy6⟩, hlx, _, _⟩ := HL1.out.c7 3 rfl
  have HLa := Lib.hid HL1.out.drew
  have HLb := Lib.hid (HL1.out.alloc 101 #[.slice none 0 0, .int .i64 0, .slice none 0 0]).drew
  simp only [List.nil_append, List.cons_append] at HLb
  go_wp2_with fail
  go_region_held3 (fun w' => w'.cell? ⟨bx, 2, none⟩ = some (.slice ca s.C.length cp) ∧ w'.cell? ⟨bx, 3, none⟩ = some (.int .i64 (s.most : Int)) ∧ w'.cell? ⟨bx, 4, none⟩ = some (.slice la s.L.length lp) ∧ w'.cell? ⟨bx, 5, none⟩ = some (.int .i64 0) ∧ w'.cell? ⟨bx, 6, none⟩ = some (.slice a rs.length cap)) (go_keep) (first
    | (go_at_call 97; refine (HLa.out.refGo 5 rfl (fun T h => HR.out T _ _ _ h)).mono ?_; rintro e w2 ⟨vc', vl', rfl, hL⟩; (obtain ⟨ca1, cp1, rfl, _, _⟩ := own_val (hL.refAt 5 rfl).cel); (obtain ⟨la1, lp1, rfl, _, _⟩ := own_val (hL.refAt 5 rfl).log); have HL2 := Lib.hid hL; (simp only [refV, List.set_cons_zero, List.set_cons_succ] at HL2 ⊢); clear hL; clear x0 x1 x2 x3 x4 x5 x6 x7 hl3 y0 y1 y2 y3 y4 y5 y6 fy0 fy1 fy2 fy3 fy4 fy5 fy6 hlx; obtain ⟨y0, y1, y2, y3, y4, y5, y6, ⟨fy0, fy1, fy2, fy3, fy4, fy5, fy6⟩, hlx, _, _⟩ := HL2.out.c7 3 rfl; have m1 : bx ≠ w2.heap.size := (by omega); have m2 := Ne.symm m1)
    | (go_at_call 97; refine (HLb.out.refGo 5 rfl (fun T h => HR.out T _ _ _ h)).mono ?_; rintro e w2 ⟨vc', vl', rfl, hL⟩; (obtain ⟨ca1, cp1, rfl, _, _⟩ := own_val (hL.refAt 5 rfl).cel); (obtain ⟨la1, lp1, rfl, _, _⟩ := own_val (hL.refAt 5 rfl).log); have HL2 := Lib.hid hL; (simp only [refV, List.set_cons_zero, List.set_cons_succ] at HL2 ⊢); clear hL; clear x0 x1 x2 x3 x4 x5 x6 x7 hl3 y0 y1 y2 y3 y4 y5 y6 fy0 fy1 fy2 fy3 fy4 fy5 fy6 hlx; obtain ⟨y0, y1, y2, y3, y4, y5, y6, ⟨fy0, fy1, fy2, fy3, fy4, fy5, fy6⟩, hlx, _, _⟩ := HL2.out.c7 3 rfl; obtain ⟨k0, k1, k2, kf0, kf1, kf2, hlk, _, _⟩ := HL2.out.c3 7 rfl; have m1 := HL2.out.ne 3 7 rfl rfl (by decide); have m2 := Ne.symm m1))
  all_goals rename_i hHeld
  all_goals clear hHeld
  all_goals first
    | (have HL3 := Lib.hid (HL2.out.alloc 101 #[.slice ca1 s'.C.length cp1, .int .i64 (s.most : Int), .slice la1 s'.L.length lp1]); obtain ⟨w5, hw5⟩ : ∃ w5, w2.alloc (.cells #[.slice ca1 s'.C.length cp1, .int .i64 (s.most : Int), .slice la1 s'.L.length lp1] 101) = w5 := ⟨_, rfl⟩; rw [hw5] at HL3 ⊢; obtain ⟨b5, hb5⟩ : ∃ b, w2.heap.size = b := ⟨_, rfl⟩; rw [hb5] at HL3 ⊢; clear hw5 hb5)
    | (have HL3 := Lib.hid (((HL2.out.set 7 rfl 0 (.slice ca1 s'.C.length cp1)).set 7 rfl 1 (.int .i64 (s.most : Int))).set 7 rfl 2 (.slice la1 s'.L.length lp1)); obtain ⟨w5, hw5⟩ : ∃ w5, ((w2.setCell ⟨w1.heap.size, 0, none⟩ (.slice ca1 s'.C.length cp1)).setCell ⟨w1.heap.size, 1, none⟩ (.int .i64 (s.most : Int))).setCell ⟨w1.heap.size, 2, none⟩ (.slice la1 s'.L.length lp1) = w5 := ⟨_, rfl⟩; rw [hw5] at HL3 ⊢; obtain ⟨b5, hb5⟩ : ∃ b, w1.heap.size = b := ⟨_, rfl⟩; rw [hb5] at HL3 ⊢; clear hw5 hb5)
  all_goals
    simp only [List.nil_append, List.cons_append, List.set_cons_zero, List.set_cons_succ, List.setIfInBounds_toArray] at HL3
    clear HL2 HLa HLb HL1 y0 y1 y2 y3 y4 y5 y6 fy0 fy1 fy2 fy3 fy4 fy5 fy6 hlx
    obtain ⟨y0, y1, y2, y3, y4, y5, y6, ⟨fy0, fy1, fy2, fy3, fy4, fy5, fy6⟩, hlx, _, _⟩ := HL3.out.c7 3 rfl
    obtain ⟨k0, k1, k2, kf0, kf1, kf2, hlk, _, _⟩ := HL3.out.c3 7 rfl
    go_upto_region 25 with fail
    refine wp_name ?_
    intro w6 hw6
    have HL4 : Hid (Led T w w6 (condL c q es P ++ [box bx 105 #[.pointer (some ⟨g, 0, none⟩), .pointer (some ⟨c, 0, none⟩), .slice ca1 s'.C.length cp1, .int .i64 (s.most : Int), .slice la1 s'.L.length lp1, .int .i64 0, .slice a rs.length cap], arena g s, refT (.slice ca1 s'.C.length cp1) (.slice la1 s'.L.length lp1) s'])) := by
      have h := HL3.out.cell234 3 rfl (y2 := .slice ca1 s'.C.length cp1) (y3 := .int .i64 (s.most : Int)) (y4 := .slice la1 s'.L.length lp1)
      rw [hw6] at h
      exact h.sel [0, 1, 2, 3, 4, 5] rfl (by decide)
    clear hw6 HL3 y0 y1 y2 y3 y4 y5 y6 fy0 fy1 fy2 fy3 fy4 fy5 fy6 hlx k0 k1 k2 kf0 kf1 kf2 hlk
    obtain ⟨y0, y1, y2, y3, y4, y5, y6, ⟨fy0, fy1, fy2, fy3, fy4, fy5, fy6⟩, hlx, _, _⟩ := HL4.out.c7 3 rfl
    have HIC := Lib.hid (HI.out _ _ HL4.out.drew rfl rfl)
    go_wp2_with fail
    go_region_held3 (fun w' => w'.cell? ⟨bx, 0, none⟩ = some (.pointer (some ⟨g, 0, none⟩)) ∧ w'.cell? ⟨bx, 1, none⟩ = some (.pointer (some ⟨c, 0, none⟩))) (go_keep) (first
      | (go_at_call 44; refine HIC.out.mono ?_; rintro e w7 ⟨rfl, hL⟩; have HL5 := Lib.hid hL; (simp only [condL, List.cons_append, List.nil_append, List.set_cons_zero, List.set_cons_succ] at HL5); clear hL y0 y1 y2 y3 y4 y5 y6 fy0 fy1 fy2 fy3 fy4 fy5 fy6 hlx; obtain ⟨y0, y1, y2, y3, y4, y5, y6, ⟨fy0, fy1, fy2, fy3, fy4, fy5, fy6⟩, hlx, _, _⟩ := HL5.out.c7 3 rfl))
    go_wp2_with fail
    refine (num15 _ _).mono ?_
    rintro e wn ⟨rfl, rfl⟩
    go_wp2
    go_ret
    refine ⟨c, q, es, rs, a, cap, P, s', .slice ca1 s'.C.length cp1, .slice la1 s'.L.length lp1, rfl, HB.out, fun W hW => hW, HS.out, ?_⟩
    have h := HL5.out
    rw [← HM.out] at h
    exact h
set_option maxHeartbeats 4000000 in
theorem act15_fire (T : List Nat) (w : World) (P : World → Prop) (c q bx g : Nat) (es rs : List ME) (a : Option Addr) (cap : Nat) (s s' : Ar) (vc vl : Value) (N : Nat) (x : CA) (er : Int) (h : Led T w w (L15 c q es P bx g s vc vl a rs.length cap)) (hB : Both13 P es rs a cap) (hw : x.what = 5) (hm : s'.most = s.most) (hT : Two s' (N + 1))
    (hR : ∀ T w vc vl, Led T w w [refT vc vl s] → Calls Try.prog 96 #[.agg #[.int .i64 0, .slice a rs.length cap], refV vc s.most vl] w (RefGo T w s' (fun vc' vl' => .tuple #[refV vc' s.most vl', .int .i64 er])))
    (hI : ∀ (l : List Thing) (w1 : World), Led T w w1 l → l[4]? = some (arena g s) → l[0]? = some (box c 90 #[.int .i64 0, .int .i64 1, .pointer (some ⟨q, 0, none⟩)]) → Calls Try.prog 37 #[.pointer (some ⟨c, 0, none⟩), .pointer (some ⟨g, 0, none⟩)] w1 fun e w' => e = .returned (.int .i64 er) ∧ Led T w w' (l.set 4 (arena g s'))) :
    Calls Try.prog 52 #[.pointer (some ⟨bx, 0, none⟩), x.val] w (Acted15 T w P bx g s N x.what) := by
  obtain ⟨xw, xe⟩ := x
  dsimp only at hw
  subst hw
  have HB := Lib.hid hB
  have HS := Lib.hid hT
  have HL0 := Lib.hid h
  have HR := Lib.hid hR
  have HI := Lib.hid hI
  have HM := Lib.hid hm
  clear h hB hT hR hI hm
  obtain ⟨ca, cp, rfl, _, _⟩ := own_val (HL0.out.refAt 5 rfl).cel
  obtain ⟨la, lp, rfl, _, _⟩ := own_val (HL0.out.refAt 5 rfl).log
  simp only [L15, condL, bothC, List.cons_append, List.nil_append] at HL0
  unfold CA.val
  go_enter Try.func52, Try.ntmps52
  go_upto_region 1 with fail
  refine wp_name ?_
  intro w1 hw1
  have HL1 := Lib.hid (HL0.out.al1 hw1)
  simp only [List.nil_append, List.cons_append] at HL1
  obtain ⟨b3, hb3⟩ : ∃ b, w.heap.size = b := ⟨_, rfl⟩
  rw [hb3] at HL1 ⊢
  clear hw1 hb3 HL0
  obtain ⟨x0, x1, x2, x3, x4, x5, x6, x7, hl3⟩ := HL1.out.c8 6 rfl
  obtain ⟨y0, y1, y2, y3, y4, y5, y6, ⟨fy0, fy1, fy2, fy3, fy4, fy5, fy6⟩, hlx, _, _⟩ := HL1.out.c7 3 rfl
  have HLa := Lib.hid HL1.out.drew
  have HLb := Lib.hid (HL1.out.alloc 101 #[.slice none 0 0, .int .i64 0, .slice none 0 0]).drew
  simp only [List.nil_append, List.cons_append] at HLb
  go_wp2_with fail
  go_region_held3 (fun w' => w'.cell? ⟨bx, 2, none⟩ = some (.slice ca s.C.length cp) ∧ w'.cell? ⟨bx, 3, none⟩ = some (.int .i64 (s.most : Int)) ∧ w'.cell? ⟨bx, 4, none⟩ = some (.slice la s.L.length lp) ∧ w'.cell? ⟨bx, 5, none⟩ = some (.int .i64 0) ∧ w'.cell? ⟨bx, 6, none⟩ = some (.slice a rs.length cap)) (go_keep) (first
    | (go_at_call 96; refine (HLa.out.refGo 5 rfl (fun T h => HR.out T _ _ _ h)).mono ?_; rintro e w2 ⟨vc', vl', rfl, hL⟩; (obtain ⟨ca1, cp1, rfl, _, _⟩ := own_val (hL.refAt 5 rfl).cel); (obtain ⟨la1, lp1, rfl, _, _⟩ := own_val (hL.refAt 5 rfl).log); have HL2 := Lib.hid hL; (simp only [refV, List.set_cons_zero, List.set_cons_succ] at HL2 ⊢); clear hL; clear x0 x1 x2 x3 x4 x5 x6 x7 hl3 y0 y1 y2 y3 y4 y5 y6 fy0 fy1 fy2 fy3 fy4 fy5 fy6 hlx; obtain ⟨y0, y1, y2, y3, y4, y5, y6, ⟨fy0, fy1, fy2, fy3, fy4, fy5, fy6⟩, hlx, _, _⟩ := HL2.out.c7 3 rfl; have m1 : bx ≠ w2.heap.size := (by omega); have m2 := Ne.symm m1)
    | (go_at_call 96; refine (HLb.out.refGo 5 rfl (fun T h => HR.out T _ _ _ h)).mono ?_; rintro e w2 ⟨vc', vl', rfl, hL⟩; (obtain ⟨ca1, cp1, rfl, _, _⟩ := own_val (hL.refAt 5 rfl).cel); (obtain ⟨la1, lp1, rfl, _, _⟩ := own_val (hL.refAt 5 rfl).log); have HL2 := Lib.hid hL; (simp only [refV, List.set_cons_zero, List.set_cons_succ] at HL2 ⊢); clear hL; clear x0 x1 x2 x3 x4 x5 x6 x7 hl3 y0 y1 y2 y3 y4 y5 y6 fy0 fy1 fy2 fy3 fy4 fy5 fy6 hlx; obtain ⟨y0, y1, y2, y3, y4, y5, y6, ⟨fy0, fy1, fy2, fy3, fy4, fy5, fy6⟩, hlx, _, _⟩ := HL2.out.c7 3 rfl; obtain ⟨k0, k1, k2, kf0, kf1, kf2, hlk, _, _⟩ := HL2.out.c3 7 rfl; have m1 := HL2.out.ne 3 7 rfl rfl (by decide); have m2 := Ne.symm m1))
  all_goals rename_i hHeld
  all_goals clear hHeld
  all_goals first
    | (have HL3 := Lib.hid (HL2.out.alloc 101 #[.slice ca1 s'.C.length cp1, .int .i64 (s.most : Int), .slice la1 s'.L.length lp1]); obtain ⟨w5, hw5⟩ : ∃ w5, w2.alloc (.cells #[.slice ca1 s'.C.length cp1, .int .i64 (s.most : Int), .slice la1 s'.L.length lp1] 101) = w5 := ⟨_, rfl⟩; rw [hw5] at HL3 ⊢; obtain ⟨b5, hb5⟩ : ∃ b, w2.heap.size = b := ⟨_, rfl⟩; rw [hb5] at HL3 ⊢; clear hw5 hb5)
    | (have HL3 := Lib.hid (((HL2.out.set 7 rfl 0 (.slice ca1 s'.C.length cp1)).set 7 rfl 1 (.int .i64 (s.most : Int))).set 7 rfl 2 (.slice la1 s'.L.length lp1)); obtain ⟨w5, hw5⟩ : ∃ w5, ((w2.setCell ⟨w1.heap.size, 0, none⟩ (.slice ca1 s'.C.length cp1)).setCell ⟨w1.heap.size, 1, none⟩ (.int .i64 (s.most : Int))).setCell ⟨w1.heap.size, 2, none⟩ (.slice la1 s'.L.length lp1) = w5 := ⟨_, rfl⟩; rw [hw5] at HL3 ⊢; obtain ⟨b5, hb5⟩ : ∃ b, w1.heap.size = b := ⟨_, rfl⟩; rw [hb5] at HL3 ⊢; clear hw5 hb5)
  all_goals
    simp only [List.nil_append, List.cons_append, List.set_cons_zero, List.set_cons_succ, List.setIfInBounds_toArray] at HL3
    clear HL2 HLa HLb HL1 y0 y1 y2 y3 y4 y5 y6 fy0 fy1 fy2 fy3 fy4 fy5 fy6 hlx
    obtain ⟨y0, y1, y2, y3, y4, y5, y6, ⟨fy0, fy1, fy2, fy3, fy4, fy5, fy6⟩, hlx, _, _⟩ := HL3.out.c7 3 rfl
    obtain ⟨k0, k1, k2, kf0, kf1, kf2, hlk, _, _⟩ := HL3.out.c3 7 rfl
    go_upto_region 21 with fail
    refine wp_name ?_
    intro w6 hw6
    have HL4 : Hid (Led T w w6 (condL c q es P ++ [box bx 105 #[.pointer (some ⟨g, 0, none⟩), .pointer (some ⟨c, 0, none⟩), .slice ca1 s'.C.length cp1, .int .i64 (s.most : Int), .slice la1 s'.L.length lp1, .int .i64 0, .slice a rs.length cap], arena g s, refT (.slice ca1 s'.C.length cp1) (.slice la1 s'.L.length lp1) s'])) := by
      have h := HL3.out.cell234 3 rfl (y2 := .slice ca1 s'.C.length cp1) (y3 := .int .i64 (s.most : Int)) (y4 := .slice la1 s'.L.length lp1)
      rw [hw6] at h
      exact h.sel [0, 1, 2, 3, 4, 5] rfl (by decide)
    clear hw6 HL3 y0 y1 y2 y3 y4 y5 y6 fy0 fy1 fy2 fy3 fy4 fy5 fy6 hlx k0 k1 k2 kf0 kf1 kf2 hlk
    obtain ⟨y0, y1, y2, y3, y4, y5, y6, ⟨fy0, fy1, fy2, fy3, fy4, fy5, fy6⟩, hlx, _, _⟩ := HL4.out.c7 3 rfl
    have HIC := Lib.hid (HI.out _ _ HL4.out.drew rfl rfl)
    go_wp2_with fail
    go_region_held3 (fun w' => w'.cell? ⟨bx, 0, none⟩ = some (.pointer (some ⟨g, 0, none⟩)) ∧ w'.cell? ⟨bx, 1, none⟩ = some (.pointer (some ⟨c, 0, none⟩))) (go_keep) (first
      | (go_at_call 37; refine HIC.out.mono ?_; rintro e w7 ⟨rfl, hL⟩; have HL5 := Lib.hid hL; (simp only [condL, List.cons_append, List.nil_append, List.set_cons_zero, List.set_cons_succ] at HL5); clear hL y0 y1 y2 y3 y4 y5 y6 fy0 fy1 fy2 fy3 fy4 fy5 fy6 hlx; obtain ⟨y0, y1, y2, y3, y4, y5, y6, ⟨fy0, fy1, fy2, fy3, fy4, fy5, fy6⟩, hlx, _, _⟩ := HL5.out.c7 3 rfl)
      | (go_at_call 36; refine (num15 _ _).mono ?_; rintro e wn ⟨rfl, rfl⟩))
    go_wp2
    go_ret
    refine ⟨c, q, es, rs, a, cap, P, s', .slice ca1 s'.C.length cp1, .slice la1 s'.L.length lp1, rfl, HB.out, fun W hW => hW, HS.out, ?_⟩
    have h := HL5.out
    rw [← HM.out] at h
    exact h
set_option maxHeartbeats 4000000 in
theorem act15_unlock (T : List Nat) (w : World) (P : World → Prop) (c q bx g : Nat) (es rs : List ME) (a : Option Addr) (cap : Nat) (s s' : Ar) (vc vl : Value) (N : Nat) (x : CA) (er : Int) (h : Led T w w (L15 c q es P bx g s vc vl a rs.length cap)) (hB : Both13 P es rs a cap) (hw : x.what = 7) (hm : s'.most = s.most) (hT : Two s' (N + 1))
    (hR : ∀ T w vc vl, Led T w w [refT vc vl s] → Calls Try.prog 98 #[refV vc s.most vl, .int .i64 0] w (RefGo T w s' (fun vc' vl' => .tuple #[refV vc' s.most vl', .int .i64 er])))
    (hI : ∀ (l : List Thing) (w1 : World), Led T w w1 l → l[4]? = some (arena g s) → l[0]? = some (box c 90 #[.int .i64 0, .int .i64 1, .pointer (some ⟨q, 0, none⟩)]) → Calls Try.prog 46 #[.pointer (some ⟨c, 0, none⟩), .pointer (some ⟨g, 0, none⟩)] w1 fun e w' => e = .returned (.int .i64 er) ∧ Led T w w' (l.set 4 (arena g s'))) :
    Calls Try.prog 52 #[.pointer (some ⟨bx, 0, none⟩), x.val] w (Acted15 T w P bx g s N x.what) := by
  obtain ⟨xw, xe⟩ := x
  dsimp only at hw
  subst hw
  have HB := Lib.hid hB
  have HS := Lib.hid hT
  have HL0 := Lib.hid h
  have HR := Lib.hid hR
  have HI := Lib.hid hI
  have HM := Lib.hid hm
  clear h hB hT hR hI hm
  obtain ⟨ca, cp, rfl, _, _⟩ := own_val (HL0.out.refAt 5 rfl).cel
  obtain ⟨la, lp, rfl, _, _⟩ := own_val (HL0.out.refAt 5 rfl).log
  simp only [L15, condL, bothC, List.cons_append, List.nil_append] at HL0
  unfold CA.val
  go_enter Try.func52, Try.ntmps52
  go_upto_region 1 with fail
  refine wp_name ?_
  intro w1 hw1
  have HL1 := Lib.hid (HL0.out.al1 hw1)
  simp only [List.nil_append, List.cons_append] at HL1
  obtain ⟨b3, hb3⟩ : ∃ b, w.heap.size = b := ⟨_, rfl⟩
  rw [hb3] at HL1 ⊢
  clear hw1 hb3 HL0
  obtain ⟨x0, x1, x2, x3, x4, x5, x6, x7, hl3⟩ := HL1.out.c8 6 rfl
  obtain ⟨y0, y1, y2, y3, y4, y5, y6, ⟨fy0, fy1, fy2, fy3, fy4, fy5, fy6⟩, hlx, _, _⟩ := HL1.out.c7 3 rfl
  have HLa := Lib.hid HL1.out.drew
  have HLb := Lib.hid (HL1.out.alloc 101 #[.slice none 0 0, .int .i64 0, .slice none 0 0]).drew
  simp only [List.nil_append, List.cons_append] at HLb
  go_wp2_with fail
  go_region_held3 (fun w' => w'.cell? ⟨bx, 2, none⟩ = some (.slice ca s.C.length cp) ∧ w'.cell? ⟨bx, 3, none⟩ = some (.int .i64 (s.most : Int)) ∧ w'.cell? ⟨bx, 4, none⟩ = some (.slice la s.L.length lp) ∧ w'.cell? ⟨bx, 5, none⟩ = some (.int .i64 0) ∧ w'.cell? ⟨bx, 6, none⟩ = some (.slice a rs.length cap)) (go_keep) (first
    | (go_at_call 98; refine (HLa.out.refGo 5 rfl (fun T h => HR.out T _ _ _ h)).mono ?_; rintro e w2 ⟨vc', vl', rfl, hL⟩; (obtain ⟨ca1, cp1, rfl, _, _⟩ := own_val (hL.refAt 5 rfl).cel); (obtain ⟨la1, lp1, rfl, _, _⟩ := own_val (hL.refAt 5 rfl).log); have HL2 := Lib.hid hL; (simp only [refV, List.set_cons_zero, List.set_cons_succ] at HL2 ⊢); clear hL; clear x0 x1 x2 x3 x4 x5 x6 x7 hl3 y0 y1 y2 y3 y4 y5 y6 fy0 fy1 fy2 fy3 fy4 fy5 fy6 hlx; obtain ⟨y0, y1, y2, y3, y4, y5, y6, ⟨fy0, fy1, fy2, fy3, fy4, fy5, fy6⟩, hlx, _, _⟩ := HL2.out.c7 3 rfl; have m1 : bx ≠ w2.heap.size := (by omega); have m2 := Ne.symm m1)
    | (go_at_call 98; refine (HLb.out.refGo 5 rfl (fun T h => HR.out T _ _ _ h)).mono ?_; rintro e w2 ⟨vc', vl', rfl, hL⟩; (obtain ⟨ca1, cp1, rfl, _, _⟩ := own_val (hL.refAt 5 rfl).cel); (obtain ⟨la1, lp1, rfl, _, _⟩ := own_val (hL.refAt 5 rfl).log); have HL2 := Lib.hid hL; (simp only [refV, List.set_cons_zero, List.set_cons_succ] at HL2 ⊢); clear hL; clear x0 x1 x2 x3 x4 x5 x6 x7 hl3 y0 y1 y2 y3 y4 y5 y6 fy0 fy1 fy2 fy3 fy4 fy5 fy6 hlx; obtain ⟨y0, y1, y2, y3, y4, y5, y6, ⟨fy0, fy1, fy2, fy3, fy4, fy5, fy6⟩, hlx, _, _⟩ := HL2.out.c7 3 rfl; obtain ⟨k0, k1, k2, kf0, kf1, kf2, hlk, _, _⟩ := HL2.out.c3 7 rfl; have m1 := HL2.out.ne 3 7 rfl rfl (by decide); have m2 := Ne.symm m1))
  all_goals rename_i hHeld
  all_goals clear hHeld
  all_goals first
    | (have HL3 := Lib.hid (HL2.out.alloc 101 #[.slice ca1 s'.C.length cp1, .int .i64 (s.most : Int), .slice la1 s'.L.length lp1]); obtain ⟨w5, hw5⟩ : ∃ w5, w2.alloc (.cells #[.slice ca1 s'.C.length cp1, .int .i64 (s.most : Int), .slice la1 s'.L.length lp1] 101) = w5 := ⟨_, rfl⟩; rw [hw5] at HL3 ⊢; obtain ⟨b5, hb5⟩ : ∃ b, w2.heap.size = b := ⟨_, rfl⟩; rw [hb5] at HL3 ⊢; clear hw5 hb5)
    | (have HL3 := Lib.hid (((HL2.out.set 7 rfl 0 (.slice ca1 s'.C.length cp1)).set 7 rfl 1 (.int .i64 (s.most : Int))).set 7 rfl 2 (.slice la1 s'.L.length lp1)); obtain ⟨w5, hw5⟩ : ∃ w5, ((w2.setCell ⟨w1.heap.size, 0, none⟩ (.slice ca1 s'.C.length cp1)).setCell ⟨w1.heap.size, 1, none⟩ (.int .i64 (s.most : Int))).setCell ⟨w1.heap.size, 2, none⟩ (.slice la1 s'.L.length lp1) = w5 := ⟨_, rfl⟩; rw [hw5] at HL3 ⊢; obtain ⟨b5, hb5⟩ : ∃ b, w1.heap.size = b := ⟨_, rfl⟩; rw [hb5] at HL3 ⊢; clear hw5 hb5)
  all_goals
    simp only [List.nil_append, List.cons_append, List.set_cons_zero, List.set_cons_succ, List.setIfInBounds_toArray] at HL3
    clear HL2 HLa HLb HL1 y0 y1 y2 y3 y4 y5 y6 fy0 fy1 fy2 fy3 fy4 fy5 fy6 hlx
    obtain ⟨y0, y1, y2, y3, y4, y5, y6, ⟨fy0, fy1, fy2, fy3, fy4, fy5, fy6⟩, hlx, _, _⟩ := HL3.out.c7 3 rfl
    obtain ⟨k0, k1, k2, kf0, kf1, kf2, hlk, _, _⟩ := HL3.out.c3 7 rfl
    go_upto_region 30 with fail
    refine wp_name ?_
    intro w6 hw6
    have HL4 : Hid (Led T w w6 (condL c q es P ++ [box bx 105 #[.pointer (some ⟨g, 0, none⟩), .pointer (some ⟨c, 0, none⟩), .slice ca1 s'.C.length cp1, .int .i64 (s.most : Int), .slice la1 s'.L.length lp1, .int .i64 0, .slice a rs.length cap], arena g s, refT (.slice ca1 s'.C.length cp1) (.slice la1 s'.L.length lp1) s'])) := by
      have h := HL3.out.cell234 3 rfl (y2 := .slice ca1 s'.C.length cp1) (y3 := .int .i64 (s.most : Int)) (y4 := .slice la1 s'.L.length lp1)
      rw [hw6] at h
      exact h.sel [0, 1, 2, 3, 4, 5] rfl (by decide)
    clear hw6 HL3 y0 y1 y2 y3 y4 y5 y6 fy0 fy1 fy2 fy3 fy4 fy5 fy6 hlx k0 k1 k2 kf0 kf1 kf2 hlk
    obtain ⟨y0, y1, y2, y3, y4, y5, y6, ⟨fy0, fy1, fy2, fy3, fy4, fy5, fy6⟩, hlx, _, _⟩ := HL4.out.c7 3 rfl
    have HIC := Lib.hid (HI.out _ _ HL4.out.drew rfl rfl)
    go_wp2_with fail
    go_region_held3 (fun w' => w'.cell? ⟨bx, 0, none⟩ = some (.pointer (some ⟨g, 0, none⟩)) ∧ w'.cell? ⟨bx, 1, none⟩ = some (.pointer (some ⟨c, 0, none⟩))) (go_keep) (first
      | (go_at_call 46; refine HIC.out.mono ?_; rintro e w7 ⟨rfl, hL⟩; have HL5 := Lib.hid hL; (simp only [condL, List.cons_append, List.nil_append, List.set_cons_zero, List.set_cons_succ] at HL5); clear hL y0 y1 y2 y3 y4 y5 y6 fy0 fy1 fy2 fy3 fy4 fy5 fy6 hlx; obtain ⟨y0, y1, y2, y3, y4, y5, y6, ⟨fy0, fy1, fy2, fy3, fy4, fy5, fy6⟩, hlx, _, _⟩ := HL5.out.c7 3 rfl)
      | (go_at_call 36; refine (num15 _ _).mono ?_; rintro e wn ⟨rfl, rfl⟩))
    go_wp2
    go_ret
    refine ⟨c, q, es, rs, a, cap, P, s', .slice ca1 s'.C.length cp1, .slice la1 s'.L.length lp1, rfl, HB.out, fun W hW => hW, HS.out, ?_⟩
    have h := HL5.out
    rw [← HM.out] at h
    exact h
end Go.Proofs.Ytihmbgdkllmkaaa

/-
  act() of law 13 (betrothallaw13/law.go): Drop, Purge, Copy by both.
-/
namespace Go.Proofs.Ytihmbgdkllmkaaa
open Go.RowKit Go.Shelf
set_option maxRecDepth 100000
set_option linter.unusedVariables false
set_option linter.unusedSimpArgs false

theorem AtRef.atR {es : List ME} {i : Int} {y : ME} {c : Bool} (h : AtRef es i y c) : AtR (es.map ME.plain) i y c := by
  rcases h with ⟨h1, h2, h3⟩ | ⟨h1, h2, h3⟩
  · exact .inl ⟨h1, h2, by rw [List.getElem?_map, h3]; rfl⟩
  · exact .inr ⟨h1, by simpa using h2, h3⟩
theorem Led.qDropS {T : List Nat} {w0 w : World} {l : List Thing} {g : Nat} {es : List ME} (h : Led T w0 w l) (i : Nat) (hi : l[i]? = some (queueT g es)) (z : Int) (hes : es.length ≤ 1048576) :
    Calls Try.prog 18 #[.pointer (some ⟨g, 0, none⟩), .int .i64 z] w fun e w' => ∃ y c, e = .returned (.tuple #[y.val, .bool c]) ∧ AtRef es z y c ∧ Led T w0 w' (l.set i (queueT g (if c = true then es.eraseIdx z.toNat else es))) := by
  refine (h.qDrop i hi z hes).mono ?_
  rintro e w' (⟨y, h0, hy, rfl, hL⟩ | ⟨hn, rfl, hL⟩)
  · exact ⟨y, true, rfl, .inl ⟨rfl, h0, hy⟩, hL⟩
  · exact ⟨ME.zero, false, rfl, .inr ⟨rfl, hn, rfl⟩, hL⟩
theorem eraseIdx_map_plain (es : List ME) (i : Nat) : (es.eraseIdx i).map ME.plain = (es.map ME.plain).eraseIdx i := by
  simp only [List.eraseIdx_eq_take_drop_succ, List.map_append, List.map_take, List.map_drop]
theorem filter_map_plain (es : List ME) (zs : List Int) : (es.filter fun e => !decide (e.plain.sync ∈ zs)).map ME.plain = (es.map ME.plain).filter fun p => !decide (p.sync ∈ zs) := by
  rw [List.filter_map]
  rfl
theorem Both13.sub {P P1 : World → Prop} {es rs es1 rs1 : List ME} {a a1 : Option Addr} {cap cap1 : Nat} (h : Both13 P es rs a cap) (hP1 : ∀ W, P1 W → P W ∧ EntsAt W a1 rs1) (h1 : es1.map ME.plain = rs1.map ME.plain) (he : ∀ e ∈ es1, e ∈ es) (hr : ∀ r ∈ rs1, r ∈ rs) (hl : es1.length ≤ es.length) (hc1 : rs1.length ≤ cap1) : Both13 P1 es1 rs1 a1 cap1 :=
  ⟨h1, hc1, Nat.le_trans hl h.2.2.1, fun e hh => h.2.2.2.1 e (he e hh), fun W hW => by
    obtain ⟨h2, h3⟩ := hP1 W hW
    obtain ⟨g1, _, g3⟩ := h.2.2.2.2 W h2
    exact ⟨fun e hh => g1 e (he e hh), h3, fun r hh => g3 r (hr r hh)⟩⟩
theorem Both13.copy {P : World → Prop} {es rs ys : List ME} {a : Option Addr} {cap : Nat} (h : Both13 P es rs a cap) (hp : ys.map ME.plain = es.map ME.plain) : Both13 (fun W => P W ∧ ∀ y ∈ ys, y.v.In W) ys rs a cap := by
  have hl : ys.length = es.length := by have := congrArg List.length hp; simpa using this
  refine ⟨hp.trans h.1, h.2.1, by rw [hl]; exact h.2.2.1, fun y hy => ?_, fun W hW => ⟨hW.2, (h.2.2.2.2 W hW.1).2⟩⟩
  have hm : y.plain ∈ es.map ME.plain := by rw [← hp]; exact List.mem_map_of_mem hy
  obtain ⟨e, he, hpe⟩ := List.mem_map.1 hm
  rw [plain_nodes_eq hpe]
  exact h.2.2.2.1 e he
theorem Both13.drop {P P1 : World → Prop} {es rs rs1 : List ME} {a a1 : Option Addr} {cap cap1 i : Nat} {c : Bool} (h : Both13 P es rs a cap) (hP1 : ∀ W, P1 W → P W ∧ EntsAt W a1 rs1) (hrs : rs1 = if c = true then rs.eraseIdx i else rs) (hc1 : rs1.length ≤ cap1) : Both13 P1 (if c = true then es.eraseIdx i else es) rs1 a1 cap1 := by
  subst hrs
  cases c with
  | true => exact h.sub hP1 (by simp only [if_true, eraseIdx_map_plain, h.1]) (fun e he => List.mem_of_mem_eraseIdx he) (fun e he => List.mem_of_mem_eraseIdx he) (List.length_eraseIdx_le es i) hc1
  | false => exact h.sub hP1 (by simpa using h.1) (fun e he => he) (fun e he => he) (Nat.le_refl _) hc1
theorem Both13.purge {P P1 : World → Prop} {es rs rs1 : List ME} {a a1 : Option Addr} {cap cap1 : Nat} {zs : List Int} (h : Both13 P es rs a cap) (hP1 : ∀ W, P1 W → P W ∧ EntsAt W a1 rs1) (hrs : rs1 = rs.filter fun e => !decide (e.sync ∈ zs)) (hc1 : rs1.length ≤ cap1) :
    Both13 P1 (es.filter fun e => !decide (e.plain.sync ∈ zs)) rs1 a1 cap1 ∧ ((es.length - (es.filter fun e => !decide (e.plain.sync ∈ zs)).length : Nat) : Int) = (rs.length : Int) - (rs1.length : Int) := by
  subst hrs
  have h1 : (es.filter fun e => !decide (e.plain.sync ∈ zs)).map ME.plain = (rs.filter fun e => !decide (e.sync ∈ zs)).map ME.plain := by
    rw [filter_map_plain, h.1, ← filter_map_plain]
    rfl
  refine ⟨h.sub hP1 h1 (fun e he => (List.mem_filter.1 he).1) (fun e he => (List.mem_filter.1 he).1) (List.length_filter_le _ es) hc1, ?_⟩
  have h2 := congrArg List.length h1
  simp only [List.length_map] at h2
  have h3 := List.length_filter_le (fun e : ME => !decide (e.plain.sync ∈ zs)) es
  have h4 := h.len
  omega
set_option maxHeartbeats 4000000 in
theorem act13_drop4 (T : List Nat) (w : World) (P : World → Prop) (g : Nat) (es rs : List ME) (a : Option Addr) (cap : Nat) (x : CB) (h : Led T w w [queueT g es, stillT P]) (hB : Both13 P es rs a cap) (hw : x.what = 4) :
    Calls Try.prog 26 #[.pointer (some ⟨g, 0, none⟩), .agg #[.slice a rs.length cap], x.val] w (Acted13 T w P) := by
  skip
  obtain ⟨xw, xn, xm, xa, xc, xl⟩ := x
  have hrl : rs.length ≤ 4096 := by rw [← hB.len]; exact hB.2.2.1
  have HB := Lib.hid hB
  have HL0 := Lib.hid h
  clear h hB
  simp only [cb_eq]
  go_enter Try.func26, Try.ntmps26
  go_upto_region 1 with fail
  refine wp_name ?_
  intro w1 hw1
  have HL1 := Lib.hid (HL0.out.al3 hw1)
  simp only [List.nil_append, List.cons_append] at HL1
  obtain ⟨b7, hb7⟩ : ∃ b, w.heap.size + 1 + 1 = b := ⟨_, rfl⟩
  rw [hb7] at HL1 ⊢
  obtain ⟨b5, hb5⟩ : ∃ b, w.heap.size + 1 = b := ⟨_, rfl⟩
  rw [hb5] at HL1 ⊢
  obtain ⟨b4, hb4⟩ : ∃ b, w.heap.size = b := ⟨_, rfl⟩
  rw [hb4] at HL1 ⊢
  clear hw1 hb7 hb5 hb4 HL0
  obtain ⟨v0, vf, hl4, _, _⟩ := HL1.out.c1 2 rfl
  obtain ⟨x0, x1, x2, x3, _, _, _, _, hl5, _, _⟩ := HL1.out.c4 3 rfl
  obtain ⟨u0, uf, hl7, _, _⟩ := HL1.out.c1 4 rfl
  dsimp only at hw
  subst hw
  go_wp2_with fail
  refine (HL1.out.rDrop 1 rfl a cap rs xn HB.out.2.1 (fun W hW => (HB.out.2.2.2.2 W hW).2.1) (by omega)).mono ?_
  rintro e w2 ⟨a1, cap1, rs1, x, cx, rfl, hc1, hRx, hrs1, P1, hP1, hL⟩
  have HL2 := Lib.hid hL
  simp only [List.set_cons_zero, List.set_cons_succ] at HL2
  have HR := Lib.hid hRx
  have HC1 := Lib.hid hc1
  have HP1 := Lib.hid hP1
  have HRS := Lib.hid hrs1
  clear hL hRx hc1 hP1 hrs1 HL1 v0 vf hl4 x0 x1 x2 x3 hl5 u0 uf hl7
  simp only [ent_eq]
  obtain ⟨x0, x1, x2, x3, _, _, _, _, hl5, _, _⟩ := HL2.out.c4 3 rfl
  go_wp2_with fail
  refine wp_calls_name ?_
  intro w3 hw3
  have HL3 := Lib.hid (HL2.out.al2 hw3)
  simp only [List.nil_append, List.cons_append] at HL3
  obtain ⟨b18, hb18⟩ : ∃ b, w2.heap.size + 1 = b := ⟨_, rfl⟩
  rw [hb18] at HL3 ⊢
  obtain ⟨b17, hb17⟩ : ∃ b, w2.heap.size = b := ⟨_, rfl⟩
  rw [hb17] at HL3 ⊢
  clear hw3 hb18 hb17 HL2 x0 x1 x2 x3 hl5
  have hel : es.length ≤ 4096 := HB.out.2.2.1
  refine (HL3.out.qDropS 0 rfl xn (by omega)).mono ?_
  rintro e w4 ⟨y, cy, rfl, hRy, hL⟩
  have HL4 := Lib.hid hL
  simp only [List.set_cons_zero, List.set_cons_succ] at HL4
  obtain ⟨hyx, hcc⟩ := HR.out.plain hRy.atR HB.out.1
  subst hcc
  have HYX := Lib.hid hyx
  have HRY := Lib.hid hRy
  clear hL hRy hyx HL3
  simp only [ent_eq]
  go_wp2_with fail
  refine wp_name ?_
  intro w5 hw5
  have HL5 := Lib.hid (HL4.out.al1 hw5)
  simp only [List.nil_append, List.cons_append] at HL5
  obtain ⟨b20, hb20⟩ : ∃ b, w4.heap.size = b := ⟨_, rfl⟩
  rw [hb20] at HL5 ⊢
  clear hw5 hb20 HL4
  have HYN : Hid (y.v.nodes ≤ 256 ∧ x.v.nodes ≤ 256) := ⟨HRY.out.inq (p := fun y => y.v.nodes ≤ 256) (by simp [ME.zero, MT.zero, MT.nodes, MT.nodesAll]) HB.out.2.2.2.1, HR.out.inq (p := fun y => y.v.nodes ≤ 256) (by simp [ME.zero, MT.zero, MT.nodes, MT.nodesAll]) HB.out.rnodes⟩
  have HIN : Hid (∀ W, P1 W → y.v.In W ∧ x.v.In W) := fun W hW => by
    have h := HB.out.2.2.2.2 W (HP1.out W hW).1
    exact ⟨HRY.out.inq (p := fun y => y.v.In W) (MT.in_zero W) h.1, HR.out.inq (p := fun y => y.v.In W) (MT.in_zero W) h.2.2⟩
  have HSE := Lib.hid (fun W (hW : P1 W) => SameEntry_ref y x W (HIN.out W hW).1 (HIN.out W hW).2 (by have := HYN.out; omega) (by have := HYN.out; omega))
  have HEQ : Hid (y.v.nodes ≤ 256 ∧ x.v.nodes ≤ 256 ∧ y.plain = x.plain) := ⟨HYN.out.1, HYN.out.2, HYX.out⟩
  simp only [ent_eq] at HSE
  obtain ⟨u0, uf, hl7, _, _⟩ := HL5.out.c1 4 rfl
  obtain ⟨q0, _, hl17, _, _⟩ := HL5.out.c1 5 rfl
  obtain ⟨x0, x1, x2, x3, x4, x5, x6, _, hl18, _, _⟩ := HL5.out.c7 6 rfl
  obtain ⟨y0, y1, y2, y3, y4, y5, y6, _, hl20, _, _⟩ := HL5.out.c7 7 rfl
  have n1 := HL5.out.ne 4 5 rfl rfl (by decide)
  have n2 := HL5.out.ne 4 6 rfl rfl (by decide)
  have n3 := HL5.out.ne 4 7 rfl rfl (by decide)
  have m1 := Ne.symm n1
  have m2 := Ne.symm n2
  have m3 := Ne.symm n3
  go_region_held3 (fun w' => w'.cell? ⟨b17, 0, none⟩ = some (.slice a1 rs1.length cap1) ∧ (w'.cell? ⟨b18, 0, none⟩ = some (.int .i64 x.sync) ∧ w'.cell? ⟨b18, 1, none⟩ = some (.int .i64 x.thread) ∧ w'.cell? ⟨b18, 2, none⟩ = some (.int .i64 x.branch) ∧ w'.cell? ⟨b18, 3, none⟩ = some (.int .i64 x.flag) ∧ w'.cell? ⟨b18, 4, none⟩ = some (.int .i64 x.v.kind) ∧ w'.cell? ⟨b18, 5, none⟩ = some (.int .i64 x.v.num) ∧ w'.cell? ⟨b18, 6, none⟩ = some (.slice x.v.addr x.v.parts.length x.v.cap)) ∧
    (w'.cell? ⟨b20, 0, none⟩ = some (.int .i64 y.sync) ∧ w'.cell? ⟨b20, 1, none⟩ = some (.int .i64 y.thread) ∧ w'.cell? ⟨b20, 2, none⟩ = some (.int .i64 y.branch) ∧ w'.cell? ⟨b20, 3, none⟩ = some (.int .i64 y.flag) ∧ w'.cell? ⟨b20, 4, none⟩ = some (.int .i64 y.v.kind) ∧ w'.cell? ⟨b20, 5, none⟩ = some (.int .i64 y.v.num) ∧ w'.cell? ⟨b20, 6, none⟩ = some (.slice y.v.addr y.v.parts.length y.v.cap))) (go_keep) (first
    | (go_at_call 21; refine (HSE.out _ (HL5.out.drew.still 1 rfl)).mono ?_; rintro e w6 ⟨cc, rfl, hcc, ht⟩; (obtain rfl : cc = true := hcc.2 HEQ.out); have HL6 := Lib.hid (HL5.out.drew.touch ht); clear hcc ht u0 uf hl7 q0 hl17 x0 x1 x2 x3 x4 x5 x6 hl18 y0 y1 y2 y3 y4 y5 y6 hl20; obtain ⟨u0, uf, hl7, _, _⟩ := HL6.out.c1 4 rfl; obtain ⟨q0, _, hl17, _, _⟩ := HL6.out.c1 5 rfl; obtain ⟨x0, x1, x2, x3, x4, x5, x6, _, hl18, _, _⟩ := HL6.out.c7 6 rfl; obtain ⟨y0, y1, y2, y3, y4, y5, y6, _, hl20, _, _⟩ := HL6.out.c7 7 rfl))
  go_wp2
  have HL7 := Lib.hid (HL6.out.set 4 rfl 0 (.slice a1 rs1.length cap1))
  simp only [List.set_cons_succ, List.set_cons_zero, List.setIfInBounds_toArray] at HL7
  obtain ⟨s0, _⟩ := HL7.out.c1 4 rfl
  refine bodyPost_ret (v := .tuple #[.pointer (some ⟨g, 0, none⟩), .agg #[.slice a1 rs1.length cap1], .bool true]) (by simp [results, Try.results26, go_sem, s0]) rfl ?_
  exact ⟨g, _, rs1, a1, cap1, P1, rfl, HB.out.drop HP1.out HRS.out HC1.out, fun W hW => (HP1.out W hW).1, HL7.out.sel [0, 1] rfl (by decide)⟩
set_option maxHeartbeats 4000000 in
theorem act13_drop5 (T : List Nat) (w : World) (P : World → Prop) (g : Nat) (es rs : List ME) (a : Option Addr) (cap : Nat) (x : CB) (h : Led T w w [queueT g es, stillT P]) (hB : Both13 P es rs a cap) (hw : x.what = 5) :
    Calls Try.prog 26 #[.pointer (some ⟨g, 0, none⟩), .agg #[.slice a rs.length cap], x.val] w (Acted13 T w P) := by
  skip
  obtain ⟨xw, xn, xm, xa, xc, xl⟩ := x
  have hrl : rs.length ≤ 4096 := by rw [← hB.len]; exact hB.2.2.1
  have HB := Lib.hid hB
  have HL0 := Lib.hid h
  clear h hB
  simp only [cb_eq]
  go_enter Try.func26, Try.ntmps26
  go_upto_region 1 with fail
  refine wp_name ?_
  intro w1 hw1
  have HL1 := Lib.hid (HL0.out.al3 hw1)
  simp only [List.nil_append, List.cons_append] at HL1
  obtain ⟨b7, hb7⟩ : ∃ b, w.heap.size + 1 + 1 = b := ⟨_, rfl⟩
  rw [hb7] at HL1 ⊢
  obtain ⟨b5, hb5⟩ : ∃ b, w.heap.size + 1 = b := ⟨_, rfl⟩
  rw [hb5] at HL1 ⊢
  obtain ⟨b4, hb4⟩ : ∃ b, w.heap.size = b := ⟨_, rfl⟩
  rw [hb4] at HL1 ⊢
  clear hw1 hb7 hb5 hb4 HL0
  obtain ⟨v0, vf, hl4, _, _⟩ := HL1.out.c1 2 rfl
  obtain ⟨x0, x1, x2, x3, _, _, _, _, hl5, _, _⟩ := HL1.out.c4 3 rfl
  obtain ⟨u0, uf, hl7, _, _⟩ := HL1.out.c1 4 rfl
  dsimp only at hw
  subst hw
  go_wp2_with fail
  refine (HL1.out.rDrop 1 rfl a cap rs xn HB.out.2.1 (fun W hW => (HB.out.2.2.2.2 W hW).2.1) (by omega)).mono ?_
  rintro e w2 ⟨a1, cap1, rs1, x, cx, rfl, hc1, hRx, hrs1, P1, hP1, hL⟩
  have HL2 := Lib.hid hL
  simp only [List.set_cons_zero, List.set_cons_succ] at HL2
  have HR := Lib.hid hRx
  have HC1 := Lib.hid hc1
  have HP1 := Lib.hid hP1
  have HRS := Lib.hid hrs1
  clear hL hRx hc1 hP1 hrs1 HL1 v0 vf hl4 x0 x1 x2 x3 hl5 u0 uf hl7
  simp only [ent_eq]
  obtain ⟨x0, x1, x2, x3, _, _, _, _, hl5, _, _⟩ := HL2.out.c4 3 rfl
  go_wp2_with fail
  refine wp_calls_name ?_
  intro w3 hw3
  have HL3 := Lib.hid (HL2.out.al2 hw3)
  simp only [List.nil_append, List.cons_append] at HL3
  obtain ⟨b18, hb18⟩ : ∃ b, w2.heap.size + 1 = b := ⟨_, rfl⟩
  rw [hb18] at HL3 ⊢
  obtain ⟨b17, hb17⟩ : ∃ b, w2.heap.size = b := ⟨_, rfl⟩
  rw [hb17] at HL3 ⊢
  clear hw3 hb18 hb17 HL2 x0 x1 x2 x3 hl5
  have hel : es.length ≤ 4096 := HB.out.2.2.1
  refine (HL3.out.qDropS 0 rfl xn (by omega)).mono ?_
  rintro e w4 ⟨y, cy, rfl, hRy, hL⟩
  have HL4 := Lib.hid hL
  simp only [List.set_cons_zero, List.set_cons_succ] at HL4
  obtain ⟨hyx, hcc⟩ := HR.out.plain hRy.atR HB.out.1
  subst hcc
  have HYX := Lib.hid hyx
  have HRY := Lib.hid hRy
  clear hL hRy hyx HL3
  simp only [ent_eq]
  go_wp2_with fail
  refine wp_name ?_
  intro w5 hw5
  have HL5 := Lib.hid (HL4.out.al1 hw5)
  simp only [List.nil_append, List.cons_append] at HL5
  obtain ⟨b20, hb20⟩ : ∃ b, w4.heap.size = b := ⟨_, rfl⟩
  rw [hb20] at HL5 ⊢
  clear hw5 hb20 HL4
  have HYN : Hid (y.v.nodes ≤ 256 ∧ x.v.nodes ≤ 256) := ⟨HRY.out.inq (p := fun y => y.v.nodes ≤ 256) (by simp [ME.zero, MT.zero, MT.nodes, MT.nodesAll]) HB.out.2.2.2.1, HR.out.inq (p := fun y => y.v.nodes ≤ 256) (by simp [ME.zero, MT.zero, MT.nodes, MT.nodesAll]) HB.out.rnodes⟩
  have HIN : Hid (∀ W, P1 W → y.v.In W ∧ x.v.In W) := fun W hW => by
    have h := HB.out.2.2.2.2 W (HP1.out W hW).1
    exact ⟨HRY.out.inq (p := fun y => y.v.In W) (MT.in_zero W) h.1, HR.out.inq (p := fun y => y.v.In W) (MT.in_zero W) h.2.2⟩
  have HSE := Lib.hid (fun W (hW : P1 W) => SameEntry_ref y x W (HIN.out W hW).1 (HIN.out W hW).2 (by have := HYN.out; omega) (by have := HYN.out; omega))
  have HEQ : Hid (y.v.nodes ≤ 256 ∧ x.v.nodes ≤ 256 ∧ y.plain = x.plain) := ⟨HYN.out.1, HYN.out.2, HYX.out⟩
  simp only [ent_eq] at HSE
  obtain ⟨u0, uf, hl7, _, _⟩ := HL5.out.c1 4 rfl
  obtain ⟨q0, _, hl17, _, _⟩ := HL5.out.c1 5 rfl
  obtain ⟨x0, x1, x2, x3, x4, x5, x6, _, hl18, _, _⟩ := HL5.out.c7 6 rfl
  obtain ⟨y0, y1, y2, y3, y4, y5, y6, _, hl20, _, _⟩ := HL5.out.c7 7 rfl
  have n1 := HL5.out.ne 4 5 rfl rfl (by decide)
  have n2 := HL5.out.ne 4 6 rfl rfl (by decide)
  have n3 := HL5.out.ne 4 7 rfl rfl (by decide)
  have m1 := Ne.symm n1
  have m2 := Ne.symm n2
  have m3 := Ne.symm n3
  go_region_held3 (fun w' => w'.cell? ⟨b17, 0, none⟩ = some (.slice a1 rs1.length cap1) ∧ (w'.cell? ⟨b18, 0, none⟩ = some (.int .i64 x.sync) ∧ w'.cell? ⟨b18, 1, none⟩ = some (.int .i64 x.thread) ∧ w'.cell? ⟨b18, 2, none⟩ = some (.int .i64 x.branch) ∧ w'.cell? ⟨b18, 3, none⟩ = some (.int .i64 x.flag) ∧ w'.cell? ⟨b18, 4, none⟩ = some (.int .i64 x.v.kind) ∧ w'.cell? ⟨b18, 5, none⟩ = some (.int .i64 x.v.num) ∧ w'.cell? ⟨b18, 6, none⟩ = some (.slice x.v.addr x.v.parts.length x.v.cap)) ∧
    (w'.cell? ⟨b20, 0, none⟩ = some (.int .i64 y.sync) ∧ w'.cell? ⟨b20, 1, none⟩ = some (.int .i64 y.thread) ∧ w'.cell? ⟨b20, 2, none⟩ = some (.int .i64 y.branch) ∧ w'.cell? ⟨b20, 3, none⟩ = some (.int .i64 y.flag) ∧ w'.cell? ⟨b20, 4, none⟩ = some (.int .i64 y.v.kind) ∧ w'.cell? ⟨b20, 5, none⟩ = some (.int .i64 y.v.num) ∧ w'.cell? ⟨b20, 6, none⟩ = some (.slice y.v.addr y.v.parts.length y.v.cap))) (go_keep) (first
    | (go_at_call 21; refine (HSE.out _ (HL5.out.drew.still 1 rfl)).mono ?_; rintro e w6 ⟨cc, rfl, hcc, ht⟩; (obtain rfl : cc = true := hcc.2 HEQ.out); have HL6 := Lib.hid (HL5.out.drew.touch ht); clear hcc ht u0 uf hl7 q0 hl17 x0 x1 x2 x3 x4 x5 x6 hl18 y0 y1 y2 y3 y4 y5 y6 hl20; obtain ⟨u0, uf, hl7, _, _⟩ := HL6.out.c1 4 rfl; obtain ⟨q0, _, hl17, _, _⟩ := HL6.out.c1 5 rfl; obtain ⟨x0, x1, x2, x3, x4, x5, x6, _, hl18, _, _⟩ := HL6.out.c7 6 rfl; obtain ⟨y0, y1, y2, y3, y4, y5, y6, _, hl20, _, _⟩ := HL6.out.c7 7 rfl))
  go_wp2
  have HL7 := Lib.hid (HL6.out.set 4 rfl 0 (.slice a1 rs1.length cap1))
  simp only [List.set_cons_succ, List.set_cons_zero, List.setIfInBounds_toArray] at HL7
  obtain ⟨s0, _⟩ := HL7.out.c1 4 rfl
  refine bodyPost_ret (v := .tuple #[.pointer (some ⟨g, 0, none⟩), .agg #[.slice a1 rs1.length cap1], .bool true]) (by simp [results, Try.results26, go_sem, s0]) rfl ?_
  exact ⟨g, _, rs1, a1, cap1, P1, rfl, HB.out.drop HP1.out HRS.out HC1.out, fun W hW => (HP1.out W hW).1, HL7.out.sel [0, 1] rfl (by decide)⟩
set_option maxHeartbeats 4000000 in
theorem act13_purge (T : List Nat) (w : World) (P : World → Prop) (g : Nat) (es rs : List ME) (a : Option Addr) (cap : Nat) (x : CB) (h : Led T w w [queueT g es, stillT P]) (hB : Both13 P es rs a cap) (hw : x.what = 6) :
    Calls Try.prog 26 #[.pointer (some ⟨g, 0, none⟩), .agg #[.slice a rs.length cap], x.val] w (Acted13 T w P) := by
  obtain ⟨xw, xn, xm, xa, xc, xl⟩ := x
  have hrl : rs.length ≤ 4096 := by rw [← hB.len]; exact hB.2.2.1
  have HB := Lib.hid hB
  have HL0 := Lib.hid h
  clear h hB
  simp only [cb_eq]
  go_enter Try.func26, Try.ntmps26
  go_upto_region 1 with fail
  refine wp_name ?_
  intro w1 hw1
  have HL1 := Lib.hid (HL0.out.al3 hw1)
  simp only [List.nil_append, List.cons_append] at HL1
  obtain ⟨b7, hb7⟩ : ∃ b, w.heap.size + 1 + 1 = b := ⟨_, rfl⟩
  rw [hb7] at HL1 ⊢
  obtain ⟨b5, hb5⟩ : ∃ b, w.heap.size + 1 = b := ⟨_, rfl⟩
  rw [hb5] at HL1 ⊢
  obtain ⟨b4, hb4⟩ : ∃ b, w.heap.size = b := ⟨_, rfl⟩
  rw [hb4] at HL1 ⊢
  clear hw1 hb7 hb5 hb4 HL0
  obtain ⟨v0, vf, hl4, _, _⟩ := HL1.out.c1 2 rfl
  obtain ⟨x0, x1, x2, x3, _, _, _, _, hl5, _, _⟩ := HL1.out.c4 3 rfl
  obtain ⟨u0, uf, hl7, _, _⟩ := HL1.out.c1 4 rfl
  dsimp only at hw
  subst hw
  go_wp2_with fail
  refine wp_calls_name ?_
  intro w2 hw2
  have HL2 := Lib.hid (Led.settle (HL1.out.al1 hw2) 1 rfl (fun W f (hW : P W) hf => (⟨hW, ints_box (zs := [xn, xm]) rfl ⟨f, hf⟩⟩ : P W ∧ IntsAt W (some ⟨w1.heap.size, 0, none⟩) [xn, xm])))
  simp only [List.set_cons_zero, List.set_cons_succ] at HL2
  obtain ⟨bz, hbz⟩ : ∃ b, w1.heap.size = b := ⟨_, rfl⟩
  rw [hbz] at HL2 ⊢
  clear hw2 hbz HL1 v0 vf hl4 x0 x1 x2 x3 hl5 u0 uf hl7
  refine (HL2.out.rPurge 1 rfl a (some ⟨bz, 0, none⟩) cap 2 rs [xn, xm] (fun W hW => ⟨(HB.out.2.2.2.2 W hW.1).2.1, hW.2⟩) (by omega) (by simp)).mono ?_
  rintro e w3 ⟨a1, cap1, rs1, hrs1, rfl, hc1, P1, hP1, hL⟩
  have HL3 := Lib.hid hL
  simp only [List.set_cons_zero, List.set_cons_succ] at HL3
  have HP1 : Hid (∀ W, P1 W → P W ∧ EntsAt W a1 rs1) := fun W hW => ⟨(hP1 W hW).1.1, (hP1 W hW).2⟩
  obtain ⟨hbf, hct⟩ := HB.out.purge HP1.out hrs1 hc1
  have HBF := Lib.hid hbf
  have HCT := Lib.hid hct
  clear hL hrs1 hc1 hP1 HL2 hbf hct
  have hel : es.length ≤ 4096 := HB.out.2.2.1
  obtain ⟨x0, x1, x2, x3, _, _, _, _, hl5, _, _⟩ := HL3.out.c4 3 rfl
  go_upto_region 31 with fail
  refine wp_name ?_
  intro w4 hw4
  have HL4 := Lib.hid (HL3.out.al1 hw4)
  simp only [List.nil_append, List.cons_append] at HL4
  obtain ⟨b22, hb22⟩ : ∃ b, w3.heap.size = b := ⟨_, rfl⟩
  rw [hb22] at HL4 ⊢
  clear hw4 hb22 HL3 x0 x1 x2 x3 hl5
  obtain ⟨u0, uf, hl7, _, _⟩ := HL4.out.c1 4 rfl
  obtain ⟨q0, _, hl22, _, _⟩ := HL4.out.c1 5 rfl
  obtain ⟨x0, x1, x2, x3, _, _, _, _, hl5, _, _⟩ := HL4.out.c4 3 rfl
  have n1 := HL4.out.ne 4 5 rfl rfl (by decide)
  have n2 := HL4.out.ne 4 3 rfl rfl (by decide)
  have m1 := Ne.symm n1
  have m2 := Ne.symm n2
  have HLz := Lib.hid (HL4.out.alloc 3 #[.int .i64 xn, .int .i64 xm]).drew
  simp only [List.nil_append, List.cons_append] at HLz
  go_wp2_with fail
  go_region_held3 (fun w' => w'.cell? ⟨b22, 0, none⟩ = some (.slice a1 rs1.length cap1) ∧ w'.cell? ⟨b5, 1, none⟩ = some (.int .i64 xn) ∧ w'.cell? ⟨b5, 2, none⟩ = some (.int .i64 xm)) (go_keep) (first
    | (go_at_call 23; refine (HLz.out.qPurge (a := some ⟨w4.heap.size, 0, none⟩) (cap := 2) (zs := [xn, xm]) 0 rfl (fun W hW => ints_box rfl (hW 6 _ (by decide) rfl)) (by omega) (by simp)).mono ?_; rintro e w6 ⟨rfl, hL⟩; (rw [HCT.out]); have HL6 := Lib.hid hL; clear hL u0 uf hl7 q0 hl22 x0 x1 x2 x3 hl5; obtain ⟨u0, uf, hl7, _, _⟩ := HL6.out.c1 4 rfl; obtain ⟨q0, _, hl22, _, _⟩ := HL6.out.c1 5 rfl; obtain ⟨x0, x1, x2, x3, _, _, _, _, hl5, _, _⟩ := HL6.out.c4 3 rfl))
  go_wp2
  have HL7 := Lib.hid (HL6.out.set 4 rfl 0 (.slice a1 rs1.length cap1))
  simp only [List.set_cons_succ, List.set_cons_zero, List.setIfInBounds_toArray] at HL7
  obtain ⟨s0, _⟩ := HL7.out.c1 4 rfl
  refine bodyPost_ret (v := .tuple #[.pointer (some ⟨g, 0, none⟩), .agg #[.slice a1 rs1.length cap1], .bool true]) (by simp [results, Try.results26, go_sem, s0]) rfl ?_
  exact ⟨g, _, rs1, a1, cap1, P1, rfl, HBF.out, fun W hW => (HP1.out W hW).1, HL7.out.sel [0, 1] rfl (by decide)⟩
set_option maxHeartbeats 4000000 in
theorem act13_copy (T : List Nat) (w : World) (P : World → Prop) (g : Nat) (es rs : List ME) (a : Option Addr) (cap : Nat) (x : CB) (h : Led T w w [queueT g es, stillT P]) (hB : Both13 P es rs a cap) (hw : ¬ (x.what = 0 ∨ x.what = 1 ∨ x.what = 2 ∨ x.what = 3) ∧ x.what ≠ 4 ∧ x.what ≠ 5 ∧ x.what ≠ 6) :
    Calls Try.prog 26 #[.pointer (some ⟨g, 0, none⟩), .agg #[.slice a rs.length cap], x.val] w (Acted13 T w P) := by
  obtain ⟨xw, xn, xm, xa, xc, xl⟩ := x
  have hrl : rs.length ≤ 4096 := by rw [← hB.len]; exact hB.2.2.1
  have HB := Lib.hid hB
  have HL0 := Lib.hid h
  clear h hB
  simp only [cb_eq]
  go_enter Try.func26, Try.ntmps26
  go_upto_region 1 with fail
  refine wp_name ?_
  intro w1 hw1
  have HL1 := Lib.hid (HL0.out.al3 hw1)
  simp only [List.nil_append, List.cons_append] at HL1
  obtain ⟨b7, hb7⟩ : ∃ b, w.heap.size + 1 + 1 = b := ⟨_, rfl⟩
  rw [hb7] at HL1 ⊢
  obtain ⟨b5, hb5⟩ : ∃ b, w.heap.size + 1 = b := ⟨_, rfl⟩
  rw [hb5] at HL1 ⊢
  obtain ⟨b4, hb4⟩ : ∃ b, w.heap.size = b := ⟨_, rfl⟩
  rw [hb4] at HL1 ⊢
  clear hw1 hb7 hb5 hb4 HL0
  obtain ⟨v0, vf, hl4, _, _⟩ := HL1.out.c1 2 rfl
  obtain ⟨x0, x1, x2, x3, _, _, _, _, hl5, _, _⟩ := HL1.out.c4 3 rfl
  obtain ⟨u0, uf, hl7, _, _⟩ := HL1.out.c1 4 rfl
  dsimp only at hw
  have e0 : (xw == 0) = false := by simp; omega
  have e1 : (xw == 1) = false := by simp; omega
  have e2 : (xw == 2) = false := by simp; omega
  have e3 : (xw == 3) = false := by simp; omega
  have e4 : (xw == 4) = false := by simp; omega
  have e5 : (xw == 5) = false := by simp; omega
  have e6 : (xw == 6) = false := by simp; omega
  clear hw
  have n2 := HL1.out.ne 4 2 rfl rfl (by decide)
  have m2 := Ne.symm n2
  have HCQ := Lib.hid (Copy_q w1.drew g es (HL1.out.drew.qAt 0 rfl) (fun e he => ⟨(HB.out.2.2.2.2 _ (HL1.out.drew.still 1 rfl)).1 e he, HB.out.2.2.2.1 e he⟩) (by have := HB.out.2.2.1; omega))
  go_wp2_with fail
  go_region_held3 (fun w' => w'.cell? ⟨b4, 0, none⟩ = some (.slice a rs.length cap)) (go_keep) (first
    | (go_at_call 28; refine HCQ.out.mono ?_; rintro e w6 ⟨g2, ys, rfl, hpl, hL⟩; have HL6 := Lib.hid (HL1.out.drew.join hL); have HPL := Lib.hid hpl; (simp only [List.nil_append, List.cons_append] at HL6); clear hL hpl u0 uf hl7 v0 vf hl4; obtain ⟨u0, uf, hl7, _, _⟩ := HL6.out.c1 4 rfl; obtain ⟨v0, _, hl4, _, _⟩ := HL6.out.c1 2 rfl))
  go_wp2
  have HL7 := Lib.hid (HL6.out.set 4 rfl 0 (.slice a rs.length cap))
  simp only [List.set_cons_succ, List.set_cons_zero, List.setIfInBounds_toArray] at HL7
  obtain ⟨s0, _⟩ := HL7.out.c1 4 rfl
  refine bodyPost_ret (v := .tuple #[.pointer (some ⟨g2, 0, none⟩), .agg #[.slice a rs.length cap], .bool true]) (by simp [results, Try.results26, go_sem, s0]) rfl ?_
  have h7 := HL7.out.sel [5, 1, 6] (l' := [queueT g2 ys, stillT P] ++ [valsT (ys.map ME.v)]) rfl (by decide)
  have hcp := HB.out.copy HPL.out
  exact ⟨g2, ys, rs, a, cap, _, rfl, hcp, fun W hW => hW.1, Led.settle (l := [queueT g2 ys, stillT P]) h7 1 rfl (fun W f hW hf => ⟨hW, fun y hy => hf.2 _ (List.mem_map.2 ⟨y, hy, rfl⟩)⟩)⟩
/-- act, whatever the call. -/
theorem act13 (T : List Nat) (w : World) (P : World → Prop) (g : Nat) (es rs : List ME) (a : Option Addr) (cap : Nat) (x : CB) (h : Led T w w [queueT g es, stillT P]) (hB : Both13 P es rs a cap) (hx : x.Few ∧ ∀ W, P W → x.In W) :
    Calls Try.prog 26 #[.pointer (some ⟨g, 0, none⟩), .agg #[.slice a rs.length cap], x.val] w (Acted13 T w P) := by
  by_cases h1 : x.what = 0 ∨ x.what = 1 ∨ x.what = 2 ∨ x.what = 3
  · exact act13_push T w P g es rs a cap x h hB hx h1
  · by_cases h4 : x.what = 4
    · exact act13_drop4 T w P g es rs a cap x h hB h4
    · by_cases h5 : x.what = 5
      · exact act13_drop5 T w P g es rs a cap x h hB h5
      · by_cases h6 : x.what = 6
        · exact act13_purge T w P g es rs a cap x h hB h6
        · exact act13_copy T w P g es rs a cap x h hB ⟨h1, h4, h5, h6⟩
theorem Led.act13 {T : List Nat} {w0 w : World} {l : List Thing} {P : World → Prop} {g : Nat} {es rs : List ME} {a : Option Addr} {cap : Nat} (h : Led T w0 w l) (i j : Nat) (hi : l[i]? = some (queueT g es)) (hj : l[j]? = some (stillT P)) (hij : i ≠ j) (x : CB) (hB : Both13 P es rs a cap) (hx : x.Few ∧ ∀ W, P W → x.In W) :
    Calls Try.prog 26 #[.pointer (some ⟨g, 0, none⟩), .agg #[.slice a rs.length cap], x.val] w fun e w' => ∃ (g' : Nat) (es' rs' : List ME) (a' : Option Addr) (cap' : Nat) (P' : World → Prop), e = .returned (.tuple #[.pointer (some ⟨g', 0, none⟩), .agg #[.slice a' rs'.length cap'], .bool true]) ∧ Both13 P' es' rs' a' cap' ∧ (∀ W, P' W → P W) ∧ Led T w0 w' ((l.set i (queueT g' es')).set j (stillT P')) := by
  obtain ⟨T', h1, hb⟩ := h.frame2 i j hi hj hij
  refine (Proofs.Ytihmbgdkllmkaaa.act13 T' w P g es rs a cap x h1 hB hx).mono ?_
  rintro e w' ⟨g', es', rs', a', cap', P', rfl, hB', hP', hL⟩
  exact ⟨g', es', rs', a', cap', P', rfl, hB', hP', hb _ _ _ [] hL⟩
end Go.Proofs.Ytihmbgdkllmkaaa

/-
  act() of law 15 (betrothallaw15/law.go), whatever the call.
-/
namespace Go.Proofs.Ytihmbgdkllmkaaa
open Go.RowKit Go.Shelf
set_option maxRecDepth 100000
set_option linter.unusedVariables false
set_option linter.unusedSimpArgs false

set_option maxHeartbeats 4000000 in
theorem act15_copy (T : List Nat) (w : World) (P : World → Prop) (c q bx g : Nat) (es rs : List ME) (a : Option Addr) (cap : Nat) (s : Ar) (vc vl : Value) (N : Nat) (x : CA) (h : Led T w w (L15 c q es P bx g s vc vl a rs.length cap)) (hB : Both13 P es rs a cap) (hs : Two s N) (hw : ¬ (x.what = 0 ∨ x.what = 1 ∨ x.what = 2) ∧ x.what ≠ 3 ∧ x.what ≠ 4 ∧ x.what ≠ 5 ∧ x.what ≠ 6 ∧ x.what ≠ 7) :
    Calls Try.prog 52 #[.pointer (some ⟨bx, 0, none⟩), x.val] w (Acted15 T w P bx g s N x.what) := by
  obtain ⟨xw, xe⟩ := x
  dsimp only at hw
  have e0 : (xw == 0) = false := by simp; omega
  have e1 : (xw == 1) = false := by simp; omega
  have e2 : (xw == 2) = false := by simp; omega
  have e3 : (xw == 3) = false := by simp; omega
  have e4 : (xw == 4) = false := by simp; omega
  have e5 : (xw == 5) = false := by simp; omega
  have e6 : (xw == 6) = false := by simp; omega
  have e7 : (xw == 7) = false := by simp; omega
  clear hw
  have HB := Lib.hid hB
  have HS := Lib.hid hs
  have HL0 := Lib.hid h
  clear h hB hs
  simp only [L15, condL, bothC, List.cons_append, List.nil_append] at HL0
  unfold CA.val
  go_enter Try.func52, Try.ntmps52
  go_upto_region 1 with fail
  refine wp_name ?_
  intro w1 hw1
  have HL1 := Lib.hid (HL0.out.al1 hw1)
  simp only [List.nil_append, List.cons_append] at HL1
  obtain ⟨b3, hb3⟩ : ∃ b, w.heap.size = b := ⟨_, rfl⟩
  rw [hb3] at HL1 ⊢
  clear hw1 hb3 HL0
  obtain ⟨x0, x1, x2, x3, x4, x5, x6, x7, hl3⟩ := HL1.out.c8 6 rfl
  obtain ⟨y0, y1, y2, y3, y4, y5, y6, ⟨fy0, fy1, fy2, fy3, fy4, fy5, fy6⟩, hlx, _, _⟩ := HL1.out.c7 3 rfl
  obtain ⟨T', hF, hb⟩ := Led.frameFront (m := condL c q es P) (r := [box bx 105 #[.pointer (some ⟨g, 0, none⟩), .pointer (some ⟨c, 0, none⟩), vc, .int .i64 (s.most : Int), vl, .int .i64 0, .slice a rs.length cap], arena g s, refT vc vl s]) (HL1.out.sel [0, 1, 2, 3, 4, 5] rfl (by decide))
  have HCC := Lib.hid (Copy_cS T' w1 c q es P hF (fun W hW => (HB.out.2.2.2.2 W hW).1) HB.out.2.2.2.1 HB.out.2.2.1)
  have HBK := Lib.hid hb
  clear hb hF
  go_wp2_with fail
  refine HCC.out.mono ?_
  rintro e w2 ⟨c2, q2, ys, rfl, hpl, hL⟩
  have HL2 := Lib.hid (HBK.out _ _ hL)
  simp only [condL, List.cons_append, List.nil_append] at HL2
  have HPL := Lib.hid hpl
  clear hL hpl HBK HL1 y0 y1 y2 y3 y4 y5 y6 fy0 fy1 fy2 fy3 fy4 fy5 fy6 hlx x0 x1 x2 x3 x4 x5 x6 x7 hl3
  obtain ⟨y0, y1, y2, y3, y4, y5, y6, ⟨fy0, fy1, fy2, fy3, fy4, fy5, fy6⟩, hlx, _, _⟩ := HL2.out.c7 5 rfl
  go_wp2
  have HL3 := Lib.hid (HL2.out.set 5 rfl 1 (.pointer (some ⟨c2, 0, none⟩)))
  simp only [List.set_cons_succ, List.set_cons_zero, List.setIfInBounds_toArray] at HL3
  go_ret
  exact ⟨c2, q2, ys, rs, a, cap, _, s, vc, vl, rfl, HB.out.copy HPL.out, fun W hW => hW.1, HS.out.more, HL3.out.sel [4, 3, 2, 5, 6, 7] rfl (by decide)⟩
/-- act, whatever the call. -/
theorem act15 (T : List Nat) (w : World) (P : World → Prop) (c q bx g : Nat) (es rs : List ME) (a : Option Addr) (cap : Nat) (s : Ar) (vc vl : Value) (N : Nat) (x : CA) (h : Led T w w (L15 c q es P bx g s vc vl a rs.length cap)) (hB : Both13 P es rs a cap) (hs : Two s N) (hN : N < 1000000) (hx : x.e.v.nodes ≤ 20 ∧ ∀ W, P W → x.e.v.In W) :
    Calls Try.prog 52 #[.pointer (some ⟨bx, 0, none⟩), x.val] w (Acted15 T w P bx g s N x.what) := by
  by_cases h0 : x.what = 0 ∨ x.what = 1 ∨ x.what = 2
  · exact (act15_wait T w P c q bx g es rs a cap s vc vl x h hB hx h0).mono (fun e w' hh => hh.acted hs)
  by_cases h3 : x.what = 3
  · exact (act15_next T w P c q bx g es rs a cap s vc vl x h hB hx h3).mono (fun e w' hh => hh.acted hs)
  obtain ⟨A, B, L, rfl, hA, hBb, hL⟩ := id hs
  have hL1 : L.length ≤ 1048576 := by omega
  have hL2 : L.length < 4611686018427387904 := by omega
  by_cases h4 : x.what = 4
  · refine act15_fired T w P c q bx g es rs a cap (twoC 9 A B L) (twoC 9 A B (L ++ [(⟨1, 1, B, B, true⟩ : Acc)])) vc vl N x (decide (B ≠ 0)) 0 h hB h4 rfl ⟨A, B, _, rfl, hA, hBb, by simp; omega⟩ ?_ ?_
    · intro T w vc vl h
      refine (rFired15 T w vc vl (twoC 9 A B L) a rs.length cap hL1 h).mono ?_
      have e : (((B : Nat) : Int) != 0) = decide (B ≠ 0) := by simp [bne, Bool.beq_eq_decide_eq]
      rintro e1 w' ⟨vc', vl', rest, rfl, hh⟩
      refine ⟨vc', vl', rest, ?_, hh⟩
      rw [← e]
      rfl
    · intro l w1 hl h4 h0
      exact hl.cFired 4 0 h4 h0 hL2 (d := decide (B ≠ 0)) (er := 0) (s' := twoC 9 A B (L ++ [(⟨1, 1, B, B, true⟩ : Acc)])) (by simp [Ar.load, Ar.doBy, twoC, chgLoad, Ar.acc]) rfl rfl
  by_cases h5 : x.what = 5
  · obtain rfl | rfl : B = 0 ∨ B = 1 := by omega
    · exact act15_fire T w P c q bx g es rs a cap (twoC 9 A 0 L) (twoC 9 A 1 (L ++ [(⟨3, 1, 0, 1, true⟩ : Acc)])) vc vl N x 0 h hB h5 rfl ⟨A, 1, _, rfl, hA, by omega, by simp; omega⟩
        (fun T w vc vl h => rFire15_did T w vc vl (twoC 9 A 0 L) a rs.length cap hL1 h rfl rfl)
        (fun l w1 hl h4 h0 => hl.cFire 4 0 h4 h0 hL2 (fe := 0) rfl rfl)
    · exact act15_fire T w P c q bx g es rs a cap (twoC 9 A 1 L) (twoC 9 A 1 (L ++ [(⟨3, 1, 1, 1, false⟩ : Acc)])) vc vl N x 150 h hB h5 rfl ⟨A, 1, _, rfl, hA, by omega, by simp; omega⟩
        (fun T w vc vl h => rFire15_not T w vc vl (twoC 9 A 1 L) a rs.length cap hL1 h rfl rfl)
        (fun l w1 hl h4 h0 => hl.cFire 4 0 h4 h0 hL2 (fe := 150) rfl rfl)
  by_cases h6 : x.what = 6
  · obtain rfl | rfl : A = 0 ∨ A = 1 := by omega
    · exact act15_lock T w P c q bx g es rs a cap (twoC 9 0 B L) (twoC 9 1 B (L ++ [(⟨3, 0, 0, 1, true⟩ : Acc)])) vc vl N x true 0 h hB h6 rfl ⟨1, B, _, rfl, by omega, hBb, by simp; omega⟩
        (fun T w vc vl h => rTry T w vc vl (twoC 9 0 B L) 0 hL1 h)
        (fun l w1 hl h4 h0 => hl.cLock 4 0 h4 h0 hL2)
    · exact act15_lock T w P c q bx g es rs a cap (twoC 9 1 B L) (twoC 9 1 B (L ++ [(⟨3, 0, 1, 1, false⟩ : Acc)])) vc vl N x false 0 h hB h6 rfl ⟨1, B, _, rfl, by omega, hBb, by simp; omega⟩
        (fun T w vc vl h => rTry T w vc vl (twoC 9 1 B L) 0 hL1 h)
        (fun l w1 hl h4 h0 => hl.cLock 4 0 h4 h0 hL2)
  by_cases h7 : x.what = 7
  · obtain rfl | rfl : A = 0 ∨ A = 1 := by omega
    · exact act15_unlock T w P c q bx g es rs a cap (twoC 9 0 B L) (twoC 9 0 B (L ++ [(⟨3, 0, 0, 0, false⟩ : Acc)])) vc vl N x 30 h hB h7 rfl ⟨0, B, _, rfl, by omega, hBb, by simp; omega⟩
        (fun T w vc vl h => rFree T w vc vl (twoC 9 0 B L) 0 hL1 h)
        (fun l w1 hl h4 h0 => hl.cUnlock 4 0 h4 h0 hL2)
    · exact act15_unlock T w P c q bx g es rs a cap (twoC 9 1 B L) (twoC 9 0 B (L ++ [(⟨3, 0, 1, 0, true⟩ : Acc)])) vc vl N x 0 h hB h7 rfl ⟨0, B, _, rfl, by omega, hBb, by simp; omega⟩
        (fun T w vc vl h => rFree T w vc vl (twoC 9 1 B L) 0 hL1 h)
        (fun l w1 hl h4 h0 => hl.cUnlock 4 0 h4 h0 hL2)
  exact act15_copy T w P c q bx g es rs a cap _ vc vl N x h hB hs ⟨h0, h3, h4, h5, h6, h7⟩
end Go.Proofs.Ytihmbgdkllmkaaa

/-
  made() of law 15 (betrothallaw15/law.go), of an arena of nine cells; New of reference 15.
-/
namespace Go.Proofs.Ytihmbgdkllmkaaa
open Go.RowKit Go.Shelf
set_option maxRecDepth 100000
set_option linter.unusedVariables false
set_option linter.unusedSimpArgs false

theorem build_cond15 (s : Int) (w : World) : (Instr.build 103 #[(0, .int .i64 s)]).run Try.prog w = .ok (.agg #[.int .i64 s, .slice none 0 0]) w := run_build w 103 _ _ (by kernel_rfl)
theorem build_both (g c : Nat) (ca la a : Option Addr) (n1 c1 n2 c2 n3 c3 : Nat) (m k : Int) (w : World) : (Instr.build 105 #[(0, .pointer (some ⟨g, 0, none⟩)), (1, .pointer (some ⟨c, 0, none⟩)), (2, .agg #[.slice ca n1 c1, .int .i64 m, .slice la n2 c2]), (3, .agg #[.int .i64 k, .slice a n3 c3])]).run Try.prog w = .ok (.agg #[.pointer (some ⟨g, 0, none⟩), .pointer (some ⟨c, 0, none⟩), .slice ca n1 c1, .int .i64 m, .slice la n2 c2, .int .i64 k, .slice a n3 c3]) w := run_build w 105 _ _ (by kernel_rfl)
attribute [local go_sem] build_cond15 build_both
theorem Led.to {T : List Nat} {w0 w w' : World} {l : List Thing} (h : Led T w0 w l) (e : w = w') : Led T w0 w' l := e ▸ h
theorem refNew9 (w : World) : Calls Try.prog 89 #[.int .i64 9] w fun e w' => e = .returned (.tuple #[refV (.slice none 0 0) 9 (.slice none 0 0), .int .i64 0]) ∧ Touch [] w w' := by
  have HT := Lib.hid ((Touch.refl [] w).alloc (.cells #[.slice none 0 0, .int .i64 (9 : Int), .slice none 0 0] 101))
  unfold refV
  go_enter Try.func89, Try.ntmps89
  go_wp2
  refine bodyPost_ret (v := .tuple #[.agg #[.slice none 0 0, .int .i64 9, .slice none 0 0], .int .i64 0]) (by simp [results, Try.results89, go_sem]) rfl ⟨rfl, HT.out⟩
set_option maxHeartbeats 2000000 in
theorem New_ref15 (T : List Nat) (w : World) (vc vl : Value) (h : Led T w w [refT vc vl ⟨[], 9, []⟩]) :
    Calls Try.prog 91 #[refV vc 9 vl] w fun e w' => ∃ vc', e = .returned (.tuple #[refV vc' 9 vl, .agg #[.int .i64 0, .slice none 0 0], .int .i64 0]) ∧ Led T w w' [refT vc' vl (twoC 9 0 0 [])] := by
  obtain ⟨ca, cp, rfl, _, _⟩ := own_val (h.refAt 0 rfl).cel
  obtain ⟨la, lp, rfl, _, _⟩ := own_val (h.refAt 0 rfl).log
  have HL0 := Lib.hid h
  clear h
  unfold refV
  go_enter Try.func91, Try.ntmps91
  go_wp2_with fail
  refine wp_calls_name ?_
  intro w1 hw1
  have HL1 := Lib.hid (HL0.out.al3 hw1)
  simp only [List.nil_append, List.cons_append] at HL1
  obtain ⟨b3, hb3⟩ : ∃ b, w.heap.size + 1 + 1 = b := ⟨_, rfl⟩
  rw [hb3] at HL1 ⊢
  obtain ⟨b2, hb2⟩ : ∃ b, w.heap.size + 1 = b := ⟨_, rfl⟩
  rw [hb2] at HL1 ⊢
  clear hw1 hb3 hb2 HL0
  refine (HL1.out.refAlloc 0 rfl 2).mono ?_
  rintro e w2 ⟨vc', rfl, hL⟩
  have e1 : (Ar.allocA ⟨[], 9, []⟩ 2) = (twoC 9 0 0 [], 0, 0) := by simp [Ar.allocA, twoC]
  rw [e1] at hL ⊢
  obtain ⟨ca1, cp1, rfl, _, _⟩ := own_val (hL.refAt 0 rfl).cel
  have HL2 := Lib.hid hL
  simp only [List.set_cons_zero, List.set_cons_succ] at HL2
  clear hL HL1 e1
  unfold refV
  obtain ⟨p0, p1, p2, f0, f1, f2, z4, z41, z42⟩ := HL2.out.c3 2 rfl
  obtain ⟨q0, q1, g0, g1, z5, z51, z52⟩ := HL2.out.c2 3 rfl
  have m1 := HL2.out.ne 2 3 rfl rfl (by decide)
  have m2 := Ne.symm m1
  go_wp2
  refine post_name ?_
  intro w3 hw3
  have HL3 := Lib.hid ((((((HL2.out.set 2 rfl 0 (.slice ca1 2 cp1)).set 2 rfl 1 (.int .i64 9)).set 2 rfl 2 (.slice la 0 lp)).set 3 rfl 0 (.int .i64 0)).set 3 rfl 1 (.slice none 0 0)).al1 hw3)
  simp only [List.set_cons_succ, List.set_cons_zero, List.setIfInBounds_toArray, List.cons_append, List.nil_append] at HL3
  clear hw3 HL2 p0 p1 p2 f0 f1 f2 q0 q1 g0 g1
  obtain ⟨p0, p1, p2, _, _, _, _, _, _⟩ := HL3.out.c3 2 rfl
  obtain ⟨q0, q1, _, _, _, _, _⟩ := HL3.out.c2 3 rfl
  refine bodyPost_ret (v := .tuple #[.agg #[.slice ca1 2 cp1, .int .i64 9, .slice la 0 lp], .agg #[.int .i64 0, .slice none 0 0], .int .i64 0]) (by simp [results, Try.results91, go_sem, p0, p1, p2, q0, q1]) rfl ?_
  exact ⟨_, rfl, HL3.out.sel [0] rfl (by decide)⟩
set_option maxHeartbeats 4000000 in
theorem made15 (w : World) :
    Calls Try.prog 51 #[.int .i64 9, .int .i64 0] w fun e w' => ∃ (g c q : Nat) (vc vl : Value), e = .returned (.tuple #[.agg #[.pointer (some ⟨g, 0, none⟩), .pointer (some ⟨c, 0, none⟩), vc, .int .i64 9, vl, .int .i64 0, .slice none 0 0], .int .i64 0, .bool true]) ∧ Led [] w w' [box c 90 #[.int .i64 0, .int .i64 1, .pointer (some ⟨q, 0, none⟩)], queueT q [], valsT [], arena g (twoC 9 0 0 []), refT vc vl (twoC 9 0 0 [])] := by
  go_enter Try.func51, Try.ntmps51
  go_wp2_with fail
  refine wp_calls_name ?_
  intro w1 hw1
  have HL1 := Lib.hid ((Led.nil' w).al2 hw1)
  simp only [List.nil_append, List.cons_append] at HL1
  obtain ⟨b7, hb7⟩ : ∃ b, w.heap.size + 1 = b := ⟨_, rfl⟩
  rw [hb7] at HL1 ⊢
  obtain ⟨b4, hb4⟩ : ∃ b, w.heap.size = b := ⟨_, rfl⟩
  rw [hb4] at HL1 ⊢
  clear hw1 hb7 hb4
  refine (HL1.out.arNew 9 (by decide) (by decide)).mono ?_
  rintro e w2 ⟨rfl, hL⟩
  have HL2 := Lib.hid hL
  simp only [List.nil_append, List.cons_append] at HL2
  obtain ⟨g, hg⟩ : ∃ b, w1.heap.size = b := ⟨_, rfl⟩
  rw [hg] at HL2 ⊢
  clear hL HL1 hg
  go_wp2_with fail
  refine (refNew9 w2).mono ?_
  rintro e w3 ⟨rfl, ht⟩
  have HL3 := Lib.hid (refT_nil (HL2.out.touch ht) 9 (by decide))
  simp only [List.nil_append, List.cons_append] at HL3
  clear ht HL2
  unfold refV
  go_wp2_with fail
  refine wp_calls_name ?_
  intro w4 hw4
  have HL4 := Lib.hid (HL3.out.al1 hw4)
  simp only [List.nil_append, List.cons_append] at HL4
  obtain ⟨b10, hb10⟩ : ∃ b, w3.heap.size = b := ⟨_, rfl⟩
  rw [hb10] at HL4 ⊢
  clear hw4 hb10 HL3
  refine (num15 _ _).mono ?_
  rintro e wn ⟨rfl, rfl⟩
  obtain ⟨p0, p1, p2, f0, f1, f2, z4, z41, z42⟩ := HL4.out.c3 4 rfl
  go_wp2_with fail
  refine (HL4.out.ar 2 rfl (fun fp hI => Alloc_any w4 g fp (Ar.fresh 9) 0 hI)).mono ?_
  rintro e w5 ⟨rfl, hL⟩
  have e0 : (Ar.fresh 9).allocA 0 = (Ar.fresh 9, 0, 0) := by simp [Ar.allocA, Ar.fresh]
  rw [e0] at hL ⊢
  have HL5 := Lib.hid hL
  simp only [List.set_cons_succ, List.set_cons_zero] at HL5
  clear hL HL4 p0 p1 p2 f0 f1 f2 z4 z41 z42
  obtain ⟨p0, p1, p2, f0, f1, f2, z4, z41, z42⟩ := HL5.out.c3 4 rfl
  go_wp2_with fail
  refine (HL5.out.refAlloc 3 rfl 0).mono ?_
  rintro e w6 ⟨vc', rfl, hL⟩
  have e1 : (Ar.allocA ⟨[], 9, []⟩ 0) = (⟨[], 9, []⟩, 0, 0) := by simp [Ar.allocA]
  rw [e1] at hL ⊢
  obtain ⟨ca, cp, rfl, _, _⟩ := own_val (hL.refAt 3 rfl).cel
  have HL6 := Lib.hid hL
  simp only [List.set_cons_succ, List.set_cons_zero] at HL6
  clear hL HL5 e0 e1 p0 p1 p2 f0 f1 f2 z4 z41 z42
  unfold refV
  obtain ⟨p0, p1, p2, f0, f1, f2, z4, z41, z42⟩ := HL6.out.c3 4 rfl
  go_wp2_with fail
  refine wp_calls_name ?_
  intro w7 hw7
  have HL7 := Lib.hid ((((HL6.out.set 4 rfl 0 (.slice ca 0 cp)).set 4 rfl 1 (.int .i64 9)).set 4 rfl 2 (.slice none 0 0)).to hw7)
  simp only [List.set_cons_succ, List.set_cons_zero, List.setIfInBounds_toArray, List.cons_append, List.nil_append] at HL7
  clear hw7 HL6 p0 p1 p2 f0 f1 f2 z4 z41 z42
  refine (HL7.out.new2 (m := 9) (by decide) 2 rfl).mono ?_
  rintro e w8 ⟨q, c, rfl, hL⟩
  have HL8 := Lib.hid hL
  simp only [List.set_cons_succ, List.set_cons_zero, List.cons_append, List.nil_append] at HL8
  clear hL HL7
  obtain ⟨p0, p1, p2, f0, f1, f2, z4, z41, z42⟩ := HL8.out.c3 4 rfl
  go_wp2_with fail
  obtain ⟨T', h1, hb⟩ := HL8.out.frame1 3 rfl
  refine (New_ref15 T' w8 _ _ h1).mono ?_
  rintro e w9 ⟨vc2, rfl, hL⟩
  have HL9 := Lib.hid (hb _ _ [] hL)
  obtain ⟨ca2, cp2, rfl, _, _⟩ := own_val (HL9.out.refAt 3 rfl).cel
  simp only [List.set_cons_succ, List.set_cons_zero, List.cons_append, List.nil_append] at HL9
  clear hL hb h1 HL8 p0 p1 p2 f0 f1 f2 z4 z41 z42
  unfold refV
  obtain ⟨p0, p1, p2, f0, f1, f2, z4, z41, z42⟩ := HL9.out.c3 4 rfl
  go_upto_region 10 with fail
  refine wp_name ?_
  intro wA hwA
  have HLA := Lib.hid (((((HL9.out.set 4 rfl 0 (.slice ca2 2 cp2)).set 4 rfl 1 (.int .i64 9)).set 4 rfl 2 (.slice none 0 0)).alloc 103 #[.int .i64 0, .slice none 0 0]).to hwA)
  simp only [List.set_cons_succ, List.set_cons_zero, List.setIfInBounds_toArray, List.cons_append, List.nil_append] at HLA
  obtain ⟨b14, hb14⟩ : ∃ b, w9.heap.size = b := ⟨_, rfl⟩
  simp only [World.size_setCell, hb14] at HLA ⊢
  clear hwA hb14 HL9 p0 p1 p2 f0 f1 f2 z4 z41 z42
  have HLs := Lib.hid ((((((((HLA.out.set 0 rfl 0 (.pointer (some ⟨g, 0, none⟩))).set 0 rfl 1 (.pointer (some ⟨c, 0, none⟩))).set 0 rfl 2 (.slice ca2 2 cp2)).set 0 rfl 3 (.int .i64 9)).set 0 rfl 4 (.slice none 0 0)).set 0 rfl 5 (.int .i64 0)).set 0 rfl 6 (.slice none 0 0))).drew
  have HLa := Lib.hid HLA.out.drew
  simp only [List.set_cons_succ, List.set_cons_zero, List.setIfInBounds_toArray, List.cons_append, List.nil_append] at HLs
  obtain ⟨p0, p1, p2, f0, f1, f2, z4, z41, z42⟩ := HLA.out.c3 4 rfl
  obtain ⟨q0, q1, g0, g1, z5, z51, z52⟩ := HLA.out.c2 8 rfl
  obtain ⟨y0, y1, y2, y3, y4, y5, y6, ⟨fy0, fy1, fy2, fy3, fy4, fy5, fy6⟩, hlx, _, _⟩ := HLA.out.c7 0 rfl
  have m1 := HLA.out.ne 0 4 rfl rfl (by decide)
  have m2 := Ne.symm m1
  have m3 := HLA.out.ne 0 8 rfl rfl (by decide)
  have m4 := Ne.symm m3
  go_wp2_with fail
  go_region_held3 (fun w' => (w'.cell? ⟨b10, 0, none⟩ = some (.slice ca2 2 cp2) ∧ w'.cell? ⟨b10, 1, none⟩ = some (.int .i64 9) ∧ w'.cell? ⟨b10, 2, none⟩ = some (.slice none 0 0)) ∧ w'.cell? ⟨b14, 0, none⟩ = some (.int .i64 0) ∧ w'.cell? ⟨b14, 1, none⟩ = some (.slice none 0 0)) (go_keep) (first
    | (go_at_call 36; refine (num15 _ _).mono ?_; rintro e wn ⟨rfl, rfl⟩)
    | (go_at_call 92; refine (HLa.out.arq 2 rfl (fun fp hI => Len_any _ g fp (twoC 9 0 0 []) hI)).mono ?_; rintro e wn ⟨rfl, rfl⟩)
    | (go_at_call 92; refine (HLs.out.arq 2 rfl (fun fp hI => Len_any _ g fp (twoC 9 0 0 []) hI)).mono ?_; rintro e wn ⟨rfl, rfl⟩))
  rename_i hHeld
  clear hHeld y0 y1 y2 y3 y4 y5 y6 fy0 fy1 fy2 fy3 fy4 fy5 fy6 hlx p0 p1 p2 f0 f1 f2 z4 z41 z42 q0 q1 g0 g1 z5 z51 z52 HLa HLA
  go_wp2
  refine post_name ?_
  intro wB hwB
  have HLB := Lib.hid (HLs.out.to hwB)
  clear hwB HLs
  obtain ⟨y0, y1, y2, y3, y4, y5, y6, _, _, _, _⟩ := HLB.out.c7 0 rfl
  refine bodyPost_ret (v := .tuple #[.agg #[.pointer (some ⟨g, 0, none⟩), .pointer (some ⟨c, 0, none⟩), .slice ca2 2 cp2, .int .i64 9, .slice none 0 0, .int .i64 0, .slice none 0 0], .int .i64 0, .bool true]) (by simp [results, Try.results51, go_sem, y0, y1, y2, y3, y4, y5, y6, twoC]) rfl ?_
  exact ⟨g, c, q, _, _, rfl, HLB.out.sel [7, 5, 6, 2, 3] rfl (by decide)⟩
end Go.Proofs.Ytihmbgdkllmkaaa

/-
  A scope through which a fenced run goes without a goto. No program is in sight. (The kit's wp_scope_straight, fenced.)
-/
namespace Go.Proofs.Ytihmbgdkllmkaaa

section
variable {F : Fence} {n : Nat} {P : Program} {b : Frame} {a : Act} {k : List Item} {cs : List Frame} {w : World} {Q : Exit → Act → World → Prop}
theorem stepR_scope {c : Code} : step P (lone (b.atR a (.code (.scope c) :: k)) cs w) = .next (lone (b.atR a (.code c :: .inScope c :: k)) cs w) :=
  step_lone_go (by simp [stepG, stepG.exec, Frame.atR])
theorem stepR_inScope {c : Code} : step P (lone (b.atR a (.inScope c :: k)) cs w) = .next (lone (b.atR a k) cs w) :=
  step_lone_go (by simp [stepG, stepG.exec, Frame.atR])
theorem wpIn_scope_straight {c : Code} (h : c.wpIn F n P (Exit.noGoto Q) a w) : (Code.scope c).wpIn F n P Q a w := by
  intro b k cs hro hb hr
  have h0 : (lone (b.atR a (.code (.scope c) :: k)) cs w).fenced P F := fenced_calm hb hr rfl
  obtain ⟨e, a₁, w₁, hq, harr⟩ := h b (.inScope c :: k) cs hro hb hr
  cases e with
  | normal => exact ⟨.normal, a₁, w₁, hq, .head h0 stepR_scope (StepsIn.trans harr (.one (fenced_calm hb hr rfl) stepR_inScope))⟩
  | exit id =>
    have hx : exitTo id (.inScope c :: k) = exitTo id k := by simp [exitTo]
    exact ⟨.exit id, a₁, w₁, hq, fun k' hk => .head h0 stepR_scope (harr.1 k' (by rw [hx]; exact hk)),
      fun hr' hk => let ⟨k₁, h1, h2⟩ := harr.2 hr' (by rw [hx]; exact hk); ⟨k₁, h1, .head h0 stepR_scope h2⟩⟩
  | goto l => exact hq.elim
  | ret => exact ⟨_, a₁, w₁, hq, .of_steps (.one h0 stepR_scope) harr⟩
  | panic ch => exact ⟨_, a₁, w₁, hq, .of_steps (.one h0 stepR_scope) harr⟩
  | outgrown => exact ⟨_, a₁, w₁, hq, .of_steps (.one h0 stepR_scope) harr⟩
theorem noGoto_normal {a : Act} {w : World} (h : Q .normal a w) : Exit.noGoto Q .normal a w := h
end
end Go.Proofs.Ytihmbgdkllmkaaa

/-
  Layer 13: the methods of no queue (nil, or one that was not made).
-/
namespace Go.Proofs.Ytihmbgdkllmkaaa
open Go.RowKit Go.Shelf
set_option maxRecDepth 100000
set_option linter.unusedVariables false
set_option linter.unusedSimpArgs false

/-- There is no queue. -/
def NoQ (W : World) (p : Option Addr) : Prop := p = none ∨ ∃ g, p = some ⟨g, 0, none⟩ ∧ W.cell? ⟨g, 0, none⟩ = some (.bool false)
theorem NoQ.touch {w w' : World} {p : Option Addr} (h : NoQ w p) (ht : Touch [] w w') : NoQ w' p := by
  rcases h with h | ⟨g, h1, h2⟩
  · exact .inl h
  · exact .inr ⟨g, h1, ht.cellOf h2⟩
theorem none_n (w : World) (p : Option Addr) (h : NoQ w p) : Calls Try.prog 55 #[.pointer p] w fun e w' => e = .returned (.bool true) ∧ w = w' := by
  rcases h with rfl | ⟨g, rfl, h⟩
  · exact none_nil w
  · exact none_zero g w h
theorem Len_n (w : World) (p : Option Addr) (h : NoQ w p) : Calls Try.prog 19 #[.pointer p] w fun e w' => e = .returned (.int .i64 0) ∧ Touch [] w w' := by
  have HN := Lib.hid (fun W (hW : Touch [] w W) => none_n W p (h.touch hW))
  clear h
  go_enter Try.func19, Try.ntmps19
  go_wp2_with fail
  refine (HN.out _ (Touch.refl [] w)).mono ?_
  rintro e w' ⟨rfl, rfl⟩
  go_wp2
  all_goals go_ret
  exact ⟨rfl, Touch.refl [] _⟩
theorem Copy_n (w : World) (p : Option Addr) (h : NoQ w p) : Calls Try.prog 28 #[.pointer p] w fun e w' => e = .returned (.pointer none) ∧ Touch [] w w' := by
  have HN := Lib.hid (fun W (hW : Touch [] w W) => none_n W p (h.touch hW))
  clear h
  go_enter Try.func28, Try.ntmps28
  go_wp2_with fail
  refine (HN.out _ (Touch.refl [] w)).mono ?_
  rintro e w' ⟨rfl, rfl⟩
  go_wp2
  all_goals go_ret
  exact ⟨rfl, Touch.refl [] _⟩
theorem Find_n (w : World) (p : Option Addr) (h : NoQ w p) (z : Int) : Calls Try.prog 20 #[.pointer p, .int .i64 z] w fun e w' => e = .returned (.int .i64 (-1)) ∧ Touch [] w w' := by
  have HN := Lib.hid (fun W (hW : Touch [] w W) => none_n W p (h.touch hW))
  clear h
  go_enter Try.func20, Try.ntmps20
  go_wp2_with fail
  refine wp_calls_name ?_
  intro w1 hw1
  have HT1 := Lib.hid ((Led.nil' w).al1 hw1).tch
  clear hw1
  refine (HN.out _ HT1.out).mono ?_
  rintro e w' ⟨rfl, rfl⟩
  go_wp2
  go_ret
  exact ⟨rfl, HT1.out⟩
theorem Next_n (w : World) (p : Option Addr) (h : NoQ w p) (z y : Int) : Calls Try.prog 32 #[.pointer p, .int .i64 z, .int .i64 y] w fun e w' => e = .returned (.tuple #[.int .i64 0, .bool false]) ∧ Touch [] w w' := by
  have HN := Lib.hid (fun W (hW : Touch [] w W) => none_n W p (h.touch hW))
  clear h
  go_enter Try.func32, Try.ntmps32
  go_wp2_with fail
  refine wp_calls_name ?_
  intro w1 hw1
  have HT1 := Lib.hid ((Led.nil' w).al1 hw1).tch
  clear hw1
  refine (HN.out _ HT1.out).mono ?_
  rintro e w' ⟨rfl, rfl⟩
  go_wp2
  go_ret2
  exact ⟨rfl, HT1.out⟩
theorem At_n (w : World) (p : Option Addr) (h : NoQ w p) (z : Int) : Calls Try.prog 31 #[.pointer p, .int .i64 z] w fun e w' => e = .returned (.tuple #[ME.zero.val, .bool false]) ∧ Touch [] w w' := by
  have hbe := build_ent
  simp only [ent_eq, ME.zero, MT.zero, MT.kind, MT.num, MT.addr, MT.parts, MT.cap, List.length_nil] at hbe
  have HN := Lib.hid (fun W (hW : Touch [] w W) => none_n W p (h.touch hW))
  clear h
  go_enter Try.func31, Try.ntmps31
  go_wp2_with fail
  refine wp_calls_name ?_
  intro w1 hw1
  have HL1 := Lib.hid ((Led.nil' w).al1 hw1)
  simp only [List.nil_append, List.cons_append] at HL1
  obtain ⟨b4, hb4⟩ : ∃ b, w.heap.size = b := ⟨_, rfl⟩
  rw [hb4] at HL1 ⊢
  clear hb4 hw1
  refine (HN.out _ HL1.out.tch).mono ?_
  rintro e w' ⟨rfl, rfl⟩
  obtain ⟨r0, r1, r2, r3, r4, r5, r6, ⟨f0, f1, f2, f3, f4, f5, f6⟩, zr, _, _⟩ := HL1.out.c7 0 rfl
  go_wp2
  have HL2 := Lib.hid (HL1.out.setEnt 0 rfl 0 0 0 0 0 0 (.slice none 0 0))
  simp only [List.set_cons_zero] at HL2
  obtain ⟨s0, s1, s2, s3, s4, s5, s6, _⟩ := HL2.out.c7 0 rfl
  refine bodyPost_ret (v := .tuple #[ME.zero.val, .bool false]) (by simp [results, Try.results31, go_sem, s0, s1, s2, s3, s4, s5, s6, ent_eq, ME.zero, MT.zero, MT.kind, MT.num, MT.addr, MT.parts, MT.cap]) rfl ?_
  exact ⟨rfl, HL2.out.tch⟩
theorem Drop_n (w : World) (p : Option Addr) (h : NoQ w p) (z : Int) : Calls Try.prog 18 #[.pointer p, .int .i64 z] w fun e w' => e = .returned (.tuple #[ME.zero.val, .bool false]) ∧ Touch [] w w' := by
  have hbe := build_ent
  simp only [ent_eq, ME.zero, MT.zero, MT.kind, MT.num, MT.addr, MT.parts, MT.cap, List.length_nil] at hbe
  have HN := Lib.hid (fun W (hW : Touch [] w W) => none_n W p (h.touch hW))
  clear h
  go_enter Try.func18, Try.ntmps18
  go_wp2_with fail
  refine wp_calls_name ?_
  intro w1 hw1
  have HL1 := Lib.hid ((Led.nil' w).al1 hw1)
  simp only [List.nil_append, List.cons_append] at HL1
  obtain ⟨b4, hb4⟩ : ∃ b, w.heap.size = b := ⟨_, rfl⟩
  rw [hb4] at HL1 ⊢
  clear hb4 hw1
  refine (HN.out _ HL1.out.tch).mono ?_
  rintro e w' ⟨rfl, rfl⟩
  obtain ⟨r0, r1, r2, r3, r4, r5, r6, ⟨f0, f1, f2, f3, f4, f5, f6⟩, zr, _, _⟩ := HL1.out.c7 0 rfl
  go_wp2
  have HL2 := Lib.hid (HL1.out.setEnt 0 rfl 0 0 0 0 0 0 (.slice none 0 0))
  simp only [List.set_cons_zero] at HL2
  obtain ⟨s0, s1, s2, s3, s4, s5, s6, _⟩ := HL2.out.c7 0 rfl
  refine bodyPost_ret (v := .tuple #[ME.zero.val, .bool false]) (by simp [results, Try.results18, go_sem, s0, s1, s2, s3, s4, s5, s6, ent_eq, ME.zero, MT.zero, MT.kind, MT.num, MT.addr, MT.parts, MT.cap]) rfl ?_
  exact ⟨rfl, HL2.out.tch⟩
theorem Push_n (w : World) (p : Option Addr) (h : NoQ w p) (a : Option Addr) (n c : Nat) : Calls Try.prog 14 #[.pointer p, .slice a n c] w fun e w' => e = .returned (.int .i64 1) ∧ Touch [] w w' := by
  have HN := Lib.hid (fun W (hW : Touch [] w W) => none_n W p (h.touch hW))
  clear h
  go_enter Try.func14, Try.ntmps14
  go_wp2
  refine wp_scope_fwd 0 rfl ?_
  go_wp2_with fail
  refine (HN.out _ (Touch.refl [] w)).mono ?_
  rintro e w' ⟨rfl, rfl⟩
  go_wp2
  go_step3
  refine ⟨rfl, ?_⟩
  go_wp2
  refine noGoto_ret' ?_
  go_ret
  exact ⟨rfl, Touch.refl [] _⟩
theorem Purge_n (w : World) (p : Option Addr) (h : NoQ w p) (a : Option Addr) (n c : Nat) : Calls Try.prog 23 #[.pointer p, .slice a n c] w fun e w' => e = .returned (.int .i64 0) ∧ Touch [] w w' := by
  have HN := Lib.hid (fun W (hW : Touch [] w W) => none_n W p (h.touch hW))
  clear h
  go_enter Try.func23, Try.ntmps23
  go_wp2_with fail
  refine wp_calls_name ?_
  intro w1 hw1
  have HT1 : Hid (Touch [] w w1) := by unfold Hid; rw [← hw1]; first | exact (Touch.refl [] w).alloc _ | exact Touch.refl [] w
  clear hw1
  refine (HN.out _ HT1.out).mono ?_
  rintro e w' ⟨rfl, rfl⟩
  go_wp2
  go_ret
  exact ⟨rfl, HT1.out⟩
theorem All_n (w : World) (p : Option Addr) (h : NoQ w p) : Calls Try.prog 24 #[.pointer p] w fun e w' => ∃ bx, e = .returned (.func (.func 69) #[] #[.pointer (some ⟨bx, 0, none⟩)]) ∧ Led [] w w' [allT bx (.slice none 0 0) []] := by
  have HN := Lib.hid (fun W (hW : Touch [] w W) => none_n W p (h.touch hW))
  clear h
  go_enter Try.func24, Try.ntmps24
  go_wp2_with fail
  refine wp_calls_name ?_
  intro w1 hw1
  have HL1 := Lib.hid (((Led.nil' w).al1 hw1).rowSnil 27 7).vals0
  simp only [List.nil_append, List.cons_append] at HL1
  obtain ⟨b3, hb3⟩ : ∃ b, w.heap.size = b := ⟨_, rfl⟩
  rw [hb3] at HL1 ⊢
  clear hb3 hw1
  refine (HN.out _ HL1.out.tch).mono ?_
  rintro e w' ⟨rfl, rfl⟩
  go_wp2
  go_ret
  exact ⟨b3, rfl, Led.shutAll (l := []) (ys := []) rfl HL1.out⟩
theorem Same_nn_in (n : Nat) (w : World) (p : Option Addr) (h : NoQ w p) : CallsIn Fence.wide n Try.prog 30 #[.pointer p, .pointer none] w fun e w' => e = .returned (.bool true) ∧ Touch [] w w' := by
  have HT := Lib.hid ((Touch.refl [] w).alloc (.cells #[.pointer none] 30))
  have H := Lib.hid (h.touch HT.out)
  clear h
  refine callsIn_of_wp_marks Try.func30 rfl trivial ?_ rfl
  simp only [Try.ntmps30, List.size_toArray, List.length_cons, List.length_nil, Nat.reduceAdd, Nat.reduceSub, Array.replicate_succ, Array.replicate_zero, List.push_toArray, List.append_toArray, List.nil_append, List.cons_append]
  gi_wp2_with fail
  refine wpIn_scope_straight ?_
  gi_wp2_with fail
  refine ⟨trivial, nodepth, ?_⟩
  refine (callsIn_wide.2 (none_n _ _ H.out)).mono ?_
  rintro e w' ⟨rfl, rfl⟩
  gi_wp2_with fail
  refine ⟨trivial, ?_⟩
  gi_wp2_with fail
  refine ⟨trivial, nodepth, ?_⟩
  refine (callsIn_wide.2 (none_n _ _ H.out)).mono ?_
  rintro e w' ⟨rfl, rfl⟩
  gi_wp2_with fail
  refine ⟨trivial, nodepth, ?_⟩
  refine (callsIn_wide.2 (none_nil _)).mono ?_
  rintro e w' ⟨rfl, rfl⟩
  gi_wp2
  refine noGoto_ret' ?_
  exact leave_marks (v := .bool true) [] _ (by simp) (by simp) (by simp [shutAll, results, Try.results30, go_sem]) ⟨rfl, HT.out⟩
theorem Same_nn (w : World) (p : Option Addr) (h : NoQ w p) : Calls Try.prog 30 #[.pointer p, .pointer none] w fun e w' => e = .returned (.bool true) ∧ Touch [] w w' := (callsIn_wide (n := 0)).1 (Same_nn_in 0 w p h)
theorem Same_qn_in (n : Nat) (w : World) (g : Nat) (hq : w.cell? ⟨g, 0, none⟩ = some (.bool true)) (p : Option Addr) (h : NoQ w p) : CallsIn Fence.wide n Try.prog 30 #[.pointer (some ⟨g, 0, none⟩), .pointer p] w fun e w' => e = .returned (.bool false) ∧ Touch [] w w' := by
  have HT := Lib.hid ((Touch.refl [] w).alloc (.cells #[.pointer p] 30))
  have H := Lib.hid (h.touch HT.out)
  have HG := Lib.hid (HT.out.cellOf hq)
  clear h hq
  refine callsIn_of_wp_marks Try.func30 rfl trivial ?_ rfl
  simp only [Try.ntmps30, List.size_toArray, List.length_cons, List.length_nil, Nat.reduceAdd, Nat.reduceSub, Array.replicate_succ, Array.replicate_zero, List.push_toArray, List.append_toArray, List.nil_append, List.cons_append]
  gi_wp2_with fail
  refine wpIn_scope_straight ?_
  gi_wp2_with fail
  refine ⟨trivial, nodepth, ?_⟩
  refine (callsIn_wide.2 (none_no g _ HG.out)).mono ?_
  rintro e w' ⟨rfl, rfl⟩
  gi_wp2_with fail
  refine ⟨trivial, nodepth, ?_⟩
  refine (callsIn_wide.2 (none_n _ _ H.out)).mono ?_
  rintro e w' ⟨rfl, rfl⟩
  gi_wp2_with fail
  refine ⟨trivial, nodepth, ?_⟩
  refine (callsIn_wide.2 (none_no g _ HG.out)).mono ?_
  rintro e w' ⟨rfl, rfl⟩
  gi_wp2_with fail
  refine ⟨trivial, ?_⟩
  gi_wp2
  refine noGoto_ret' ?_
  exact leave_marks (v := .bool false) [] _ (by simp) (by simp) (by simp [shutAll, results, Try.results30, go_sem]) ⟨rfl, HT.out⟩
theorem Same_qn (w : World) (g : Nat) (hq : w.cell? ⟨g, 0, none⟩ = some (.bool true)) (p : Option Addr) (h : NoQ w p) : Calls Try.prog 30 #[.pointer (some ⟨g, 0, none⟩), .pointer p] w fun e w' => e = .returned (.bool false) ∧ Touch [] w w' := (callsIn_wide (n := 0)).1 (Same_qn_in 0 w g hq p h)
end Go.Proofs.Ytihmbgdkllmkaaa

/-
  Layer 13: Same of two queues (queue.go), and of the reference's (betrothalref13/ref.go).
-/
namespace Go.Proofs.Ytihmbgdkllmkaaa
open Go.RowKit Go.Shelf
set_option maxRecDepth 100000
set_option linter.unusedVariables false
set_option linter.unusedSimpArgs false
attribute [local go_sem] Oper.semAt_some

theorem take_succ_eq {l m : List PE} {k : Nat} (hk : k < l.length) (hm : k < m.length) (h : l.take k = m.take k) : l.take (k + 1) = m.take (k + 1) ↔ l[k] = m[k] := by
  have e1 : l.take (k + 1) = l.take k ++ [l[k]] := by simp
  have e2 : m.take (k + 1) = m.take k ++ [m[k]] := by simp
  rw [e1, e2, h, List.append_cancel_left_eq, List.cons.injEq]
  exact and_iff_left rfl
set_option maxHeartbeats 4000000 in
theorem Same_ref13 (w : World) (a b : Option Addr) (ca cb : Nat) (rs ss : List ME) (ha : EntsAt w a rs) (hb : EntsAt w b ss) (hr : ∀ r ∈ rs, r.v.In w ∧ r.v.nodes ≤ 256) (hs : ∀ r ∈ ss, r.v.In w ∧ r.v.nodes ≤ 256) (hlr : rs.length ≤ 4096) (hls : ss.length ≤ 4096) :
    Calls Try.prog 29 #[.agg #[.slice a rs.length ca], .agg #[.slice b ss.length cb]] w (Tells (rs.map ME.plain = ss.map ME.plain) w) := by
  have HA := Lib.hid (fun W (hW : Touch [] w W) => ha.touch hW)
  have HB := Lib.hid (fun W (hW : Touch [] w W) => hb.touch hW)
  have HR := Lib.hid (fun r (h : r ∈ rs) W (hW : Touch [] w W) => (And.intro ((hr r h).1.touch0 hW) (hr r h).2 : r.v.In W ∧ r.v.nodes ≤ 256))
  have HS := Lib.hid (fun r (h : r ∈ ss) W (hW : Touch [] w W) => (And.intro ((hs r h).1.touch0 hW) (hs r h).2 : r.v.In W ∧ r.v.nodes ≤ 256))
  clear ha hb hr hs
  by_cases hll : rs.length = ss.length
  · have HLL := Lib.hid hll
    clear hll
    rw [show ss.length = rs.length from HLL.out.symm]
    go_enter Try.func29, Try.ntmps29
    go_wp2_with fail
    refine wp_name ?_
    intro w1 hw1
    have HL1 := Lib.hid ((Led.nil' w).al2 hw1)
    simp only [List.nil_append, List.cons_append] at HL1
    obtain ⟨b3, hb3⟩ : ∃ b, w.heap.size + 1 = b := ⟨_, rfl⟩
    rw [hb3] at HL1 ⊢
    obtain ⟨b2, hb2⟩ : ∃ b, w.heap.size = b := ⟨_, rfl⟩
    rw [hb2] at HL1 ⊢
    clear hw1 hb3 hb2
    go_loopw [5] (fun i wr => ∃ j : Nat, i = .int .i64 (j : Int) ∧ j ≤ rs.length ∧ Hid ((rs.map ME.plain).take j = (ss.map ME.plain).take j) ∧ Hid (Led [] w wr [box b2 54 #[.slice a rs.length ca], box b3 54 #[.slice b rs.length cb]])) (fun i _ => rs.length - (intOf i).toNat)
    case atStart => exact ⟨0, rfl, Nat.zero_le _, by unfold Hid; simp, HL1⟩
    case round =>
      obtain ⟨j, rfl, hj, HD, HK⟩ := hrel
      clear HL1
      have hj0 : (0 : Int) ≤ (j : Int) := by omega
      obtain ⟨v0, _, hl2, _, _⟩ := HK.out.c1 0 rfl
      obtain ⟨u0, _, hl3, _, _⟩ := HK.out.c1 1 rfl
      by_cases hjl : j < rs.length
      · have hjl' : (j : Int) < (rs.length : Int) := by omega
        have hjs : j < ss.length := by rw [← HLL.out]; exact hjl
        obtain ⟨ba, oa, rfl, hba, p0, p1, p2, p3, p4, p5, p6⟩ := HA.out wr HK.out.tch j hjl
        obtain ⟨bb, ob, rfl, hbb, q0, q1, q2, q3, q4, q5, q6⟩ := HB.out wr HK.out.tch j hjs
        have HXI := Lib.hid (HR.out _ (List.getElem_mem hjl) wr HK.out.tch)
        have HYI := Lib.hid (HS.out _ (List.getElem_mem hjs) wr HK.out.tch)
        have HTS := Lib.hid (take_succ_eq (by simpa using hjl) (by simpa using hjs) HD.out)
        simp only [List.getElem_map] at HTS
        have HEL : Hid (rs.map ME.plain = ss.map ME.plain → rs[j].plain = ss[j].plain) := fun h => HTS.out.1 (by rw [h])
        generalize rs[j] = x at p0 p1 p2 p3 p4 p5 p6 HXI HTS HEL
        generalize ss[j] = y at q0 q1 q2 q3 q4 q5 q6 HYI HTS HEL
        have HSE := Lib.hid (SameEntry_ref x y wr.drew (HXI.out.1.touch0 (Touch.refl [] wr).drew) (HYI.out.1.touch0 (Touch.refl [] wr).drew) (by have := HXI.out.2; omega) (by have := HYI.out.2; omega))
        have HPX : Hid (∀ W, Touch [] wr W → EntAt W ba (oa + j * 7) x) := by
          have h : EntAt wr ba (oa + j * 7) x := ⟨p0, p1, p2, p3, p4, p5, p6⟩
          exact fun W hW => h.touch hW
        have HPY : Hid (∀ W, Touch [] wr W → EntAt W bb (ob + j * 7) y) := by
          have h : EntAt wr bb (ob + j * 7) y := ⟨q0, q1, q2, q3, q4, q5, q6⟩
          exact fun W hW => h.touch hW
        simp only [ent_eq] at HSE
        go_wp2_with fail
        go_region_held3 (fun w' => (w'.cell? ⟨b2, 0, none⟩ = some (.slice (some ⟨ba, oa, none⟩) rs.length ca) ∧ w'.cell? ⟨b3, 0, none⟩ = some (.slice (some ⟨bb, ob, none⟩) rs.length cb)) ∧
          (w'.cell? ⟨ba, oa + j * 7, none⟩ = some (.int .i64 x.sync) ∧ w'.cell? ⟨ba, oa + j * 7 + 1, none⟩ = some (.int .i64 x.thread) ∧ w'.cell? ⟨ba, oa + j * 7 + 2, none⟩ = some (.int .i64 x.branch) ∧ w'.cell? ⟨ba, oa + j * 7 + 3, none⟩ = some (.int .i64 x.flag) ∧ w'.cell? ⟨ba, oa + j * 7 + 4, none⟩ = some (.int .i64 x.v.kind) ∧ w'.cell? ⟨ba, oa + j * 7 + 5, none⟩ = some (.int .i64 x.v.num) ∧ w'.cell? ⟨ba, oa + j * 7 + 6, none⟩ = some (.slice x.v.addr x.v.parts.length x.v.cap)) ∧
          (w'.cell? ⟨bb, ob + j * 7, none⟩ = some (.int .i64 y.sync) ∧ w'.cell? ⟨bb, ob + j * 7 + 1, none⟩ = some (.int .i64 y.thread) ∧ w'.cell? ⟨bb, ob + j * 7 + 2, none⟩ = some (.int .i64 y.branch) ∧ w'.cell? ⟨bb, ob + j * 7 + 3, none⟩ = some (.int .i64 y.flag) ∧ w'.cell? ⟨bb, ob + j * 7 + 4, none⟩ = some (.int .i64 y.v.kind) ∧ w'.cell? ⟨bb, ob + j * 7 + 5, none⟩ = some (.int .i64 y.v.num) ∧ w'.cell? ⟨bb, ob + j * 7 + 6, none⟩ = some (.slice y.v.addr y.v.parts.length y.v.cap))) (go_keep) (first
          | (go_at_call 21; refine HSE.out.mono ?_; rintro e w2 ⟨cc, rfl, hcc, ht⟩; have HT2 := Lib.hid ((Touch.refl [] wr).drew.trans' ht); have HK2 := Lib.hid (HK.out.touch HT2.out); have HCC := Lib.hid hcc; clear hcc ht v0 hl2 u0 hl3 p0 p1 p2 p3 p4 p5 p6 q0 q1 q2 q3 q4 q5 q6; obtain ⟨v0, _, hl2, _, _⟩ := HK2.out.c1 0 rfl; obtain ⟨u0, _, hl3, _, _⟩ := HK2.out.c1 1 rfl; obtain ⟨p0, p1, p2, p3, p4, p5, p6⟩ := HPX.out _ HT2.out; obtain ⟨q0, q1, q2, q3, q4, q5, q6⟩ := HPY.out _ HT2.out))
        all_goals
          rename_i hHeld
          clear hHeld v0 hl2 u0 hl3 p0 p1 p2 p3 p4 p5 p6 q0 q1 q2 q3 q4 q5 q6 hba hbb
          cases cc with
          | false =>
            go_wp2
            go_ret
            exact Tells.no (fun h => by
              have h2 := HCC.out.2 ⟨HXI.out.2, HYI.out.2, HEL.out h⟩
              cases h2) HK2.out.tch
          | true =>
            have HD2 := Lib.hid (HTS.out.2 (HCC.out.1 rfl).2.2)
            go_wp2
            go_roundw
            case rel => exact ⟨j + 1, by go_num, hjl, HD2, HK2⟩
            case measure => simp [intOf]; omega
      · have hjl' : ¬ (j : Int) < (rs.length : Int) := by omega
        obtain rfl : j = rs.length := by omega
        go_wp2
        go_ret
        refine Tells.yes ?_ HK.out.tch
        have h := HD.out
        rwa [List.take_of_length_le (by simp), List.take_of_length_le (by simp [HLL.out])] at h
  · have hne : ((rs.length : Int) == (ss.length : Int)) = false := by simp; omega
    have hne2 : ¬ (rs.length : Int) = (ss.length : Int) := by omega
    have HNL := Lib.hid hll
    clear hll
    go_enter Try.func29, Try.ntmps29
    go_wp2
    go_ret
    exact Tells.no (fun h => HNL.out (by have := congrArg List.length h; simpa using this)) (((Touch.refl [] w).alloc _).alloc _)
/-- What lies there between two rounds. -/
def sqR (b3 g2 b5 bx : Nat) (v : Value) (ys es fs : List ME) (k : Nat) : List Thing :=
  [box b3 30 #[.pointer (some ⟨g2, 0, none⟩)], box b5 4 #[.bool true], allT bx v ys, fact ((es.map ME.plain).take k = (fs.map ME.plain).take k)]
set_option maxHeartbeats 4000000 in
theorem Same_qq_len (w : World) (g1 g2 : Nat) (es fs : List ME) (h1 : QAt w g1 es) (h2 : QAt w g2 fs) (he : ∀ e ∈ es, e.v.In w ∧ e.v.nodes ≤ 256) (hf : ∀ e ∈ fs, e.v.In w ∧ e.v.nodes ≤ 256) (hle : es.length ≤ 4096) (hlf : fs.length ≤ 4096) (hll : es.length ≠ fs.length) :
    Calls Try.prog 30 #[.pointer (some ⟨g1, 0, none⟩), .pointer (some ⟨g2, 0, none⟩)] w (Tells (es.map ME.plain = fs.map ME.plain) w) := by
  have hne : ((es.length : Int) == (fs.length : Int)) = false := by simp; omega
  have hne2 : ¬ (es.length : Int) = (fs.length : Int) := by omega
  have HNL := Lib.hid hll
  clear hll
  have HE := Lib.hid (fun W (hW : Touch [] w W) x (hx : x ∈ es) => (And.intro ((he x hx).1.touch0 hW) (he x hx).2 : x.v.In W ∧ x.v.nodes ≤ 256))
  have HF := Lib.hid (fun W (hW : Touch [] w W) x (hx : x ∈ fs) => (And.intro ((hf x hx).1.touch0 hW) (hf x hx).2 : x.v.In W ∧ x.v.nodes ≤ 256))
  have HQ1 := Lib.hid (fun W (hW : Touch [] w W) => h1.touch hW)
  have HQ2 := Lib.hid (fun W (hW : Touch [] w W) => h2.touch hW)
  have HC1 : Hid (∃ a cap, ∀ W, Touch [] w W → W.cell? ⟨g1, 0, none⟩ = some (.bool true) ∧ W.cell? ⟨g1, 1, none⟩ = some (.slice a es.length cap)) := by
    obtain ⟨a, cap, hb, _⟩ := h1
    exact ⟨a, cap, fun W hW => ⟨hW.cellOf (hb.cell 0), hW.cellOf (hb.cell 1)⟩⟩
  have HC2 : Hid (∃ a cap, ∀ W, Touch [] w W → W.cell? ⟨g2, 0, none⟩ = some (.bool true) ∧ W.cell? ⟨g2, 1, none⟩ = some (.slice a fs.length cap)) := by
    obtain ⟨a, cap, hb, _⟩ := h2
    exact ⟨a, cap, fun W hW => ⟨hW.cellOf (hb.cell 0), hW.cellOf (hb.cell 1)⟩⟩
  clear h1 h2 he hf
  obtain ⟨qa1, qc1, hc1⟩ := HC1.out
  obtain ⟨qa2, qc2, hc2⟩ := HC2.out
  have HD1 := Lib.hid hc1
  have HD2 := Lib.hid hc2
  clear HC1 HC2 hc1 hc2
  refine (callsIn_wide (n := 0)).1 ?_
  refine callsIn_of_wp_marks Try.func30 rfl trivial ?_ rfl
  simp only [Try.ntmps30, List.size_toArray, List.length_cons, List.length_nil, Nat.reduceAdd, Nat.reduceSub, Array.replicate_succ, Array.replicate_zero, List.push_toArray, List.append_toArray, List.nil_append, List.cons_append]
  refine wpIn_wide.2 ?_
  go_wp2_with fail
  refine wp_scope_straight ?_
  refine wp_name ?_
  intro w1 hw1
  have HL1 := Lib.hid ((Led.nil' w).al1 hw1)
  simp only [List.nil_append, List.cons_append] at HL1
  obtain ⟨b3, hb3⟩ : ∃ b, w.heap.size = b := ⟨_, rfl⟩
  rw [hb3] at HL1 ⊢
  clear hb3 hw1
  obtain ⟨v0, _, hl3, _, _⟩ := HL1.out.c1 0 rfl
  have HTm := Lib.hid ((HL1.out.tch).drew)
  obtain ⟨c10, c11⟩ := HD1.out _ HL1.out.tch
  obtain ⟨c20, c21⟩ := HD2.out _ HL1.out.tch
  go_wp2_with fail
  refine (none_no g1 w1 c10).mono ?_
  rintro e w' ⟨rfl, rfl⟩
  go_wp2_with fail
  refine (none_no g2 w1 c20).mono ?_
  rintro e w' ⟨rfl, rfl⟩
  go_wp2_with fail
  go_region_held3 (fun w' => w'.cell? ⟨b3, 0, none⟩ = some (.pointer (some ⟨g2, 0, none⟩))) (go_keep) (first
    | (go_at_call 57; refine (count_q _ _ _ _ _ (by first | exact (HD1.out _ HTm.out).2 | exact (HD2.out _ HTm.out).2)).mono ?_; rintro e w' ⟨rfl, rfl⟩))
  all_goals go_wp2
  all_goals refine noGoto_ret' ?_
  all_goals exact leave_marks (v := .bool false) [] _ (by simp) (by simp) (by simp [shutAll, results, Try.results30, go_sem]) (Tells.no (fun h => HNL.out (by have := congrArg List.length h; simpa using this)) HTm.out)
set_option maxHeartbeats 8000000 in
theorem Same_qq_go (w : World) (g1 g2 : Nat) (es fs : List ME) (h1 : QAt w g1 es) (h2 : QAt w g2 fs) (he : ∀ e ∈ es, e.v.In w ∧ e.v.nodes ≤ 256) (hf : ∀ e ∈ fs, e.v.In w ∧ e.v.nodes ≤ 256) (hle : es.length ≤ 4096) (hlf : fs.length ≤ 4096) (hll : es.length = fs.length) :
    Calls Try.prog 30 #[.pointer (some ⟨g1, 0, none⟩), .pointer (some ⟨g2, 0, none⟩)] w (Tells (es.map ME.plain = fs.map ME.plain) w) := by
  have hne : ((es.length : Int) == (fs.length : Int)) = true := by simp; omega
  have hne2 : (es.length : Int) = (fs.length : Int) := by omega
  have HLL := Lib.hid hll
  have HE := Lib.hid (fun W (hW : Touch [] w W) x (hx : x ∈ es) => (And.intro ((he x hx).1.touch0 hW) (he x hx).2 : x.v.In W ∧ x.v.nodes ≤ 256))
  have HF := Lib.hid (fun W (hW : Touch [] w W) x (hx : x ∈ fs) => (And.intro ((hf x hx).1.touch0 hW) (hf x hx).2 : x.v.In W ∧ x.v.nodes ≤ 256))
  have HQ1 := Lib.hid (fun W (hW : Touch [] w W) => h1.touch hW)
  have HQ2 := Lib.hid (fun W (hW : Touch [] w W) => h2.touch hW)
  have HC1 : Hid (∃ a cap, ∀ W, Touch [] w W → W.cell? ⟨g1, 0, none⟩ = some (.bool true) ∧ W.cell? ⟨g1, 1, none⟩ = some (.slice a es.length cap)) := by
    obtain ⟨a, cap, hb, _⟩ := h1
    exact ⟨a, cap, fun W hW => ⟨hW.cellOf (hb.cell 0), hW.cellOf (hb.cell 1)⟩⟩
  have HC2 : Hid (∃ a cap, ∀ W, Touch [] w W → W.cell? ⟨g2, 0, none⟩ = some (.bool true) ∧ W.cell? ⟨g2, 1, none⟩ = some (.slice a fs.length cap)) := by
    obtain ⟨a, cap, hb, _⟩ := h2
    exact ⟨a, cap, fun W hW => ⟨hW.cellOf (hb.cell 0), hW.cellOf (hb.cell 1)⟩⟩
  clear h1 h2 he hf
  obtain ⟨qa1, qc1, hc1⟩ := HC1.out
  obtain ⟨qa2, qc2, hc2⟩ := HC2.out
  have HD1 := Lib.hid hc1
  have HD2 := Lib.hid hc2
  clear HC1 HC2 hc1 hc2
  refine (callsIn_wide (n := 0)).1 ?_
  refine callsIn_of_wp_marks Try.func30 rfl trivial ?_ rfl
  simp only [Try.ntmps30, List.size_toArray, List.length_cons, List.length_nil, Nat.reduceAdd, Nat.reduceSub, Array.replicate_succ, Array.replicate_zero, List.push_toArray, List.append_toArray, List.nil_append, List.cons_append]
  refine wpIn_wide.2 ?_
  go_wp2_with fail
  refine wp_scope_straight ?_
  refine wp_name ?_
  intro w1 hw1
  have HL1 := Lib.hid ((Led.nil' w).al1 hw1)
  simp only [List.nil_append, List.cons_append] at HL1
  obtain ⟨b3, hb3⟩ : ∃ b, w.heap.size = b := ⟨_, rfl⟩
  rw [hb3] at HL1 ⊢
  clear hb3 hw1
  obtain ⟨v0, _, hl3, _, _⟩ := HL1.out.c1 0 rfl
  have HTm := Lib.hid ((HL1.out.tch).drew)
  obtain ⟨c10, c11⟩ := HD1.out _ HL1.out.tch
  obtain ⟨c20, c21⟩ := HD2.out _ HL1.out.tch
  go_wp2_with fail
  refine (none_no g1 w1 c10).mono ?_
  rintro e w' ⟨rfl, rfl⟩
  go_wp2_with fail
  refine (none_no g2 w1 c20).mono ?_
  rintro e w' ⟨rfl, rfl⟩
  go_wp2_with fail
  go_region_held3 (fun w' => w'.cell? ⟨b3, 0, none⟩ = some (.pointer (some ⟨g2, 0, none⟩))) (go_keep) (first
    | (go_at_call 57; refine (count_q _ _ _ _ _ (by first | exact (HD1.out _ HTm.out).2 | exact (HD2.out _ HTm.out).2)).mono ?_; rintro e w' ⟨rfl, rfl⟩))
  rename_i hHeld
  clear hHeld
  clear HTm v0 hl3 c10 c11 c20 c21 hll hne2 hne
  go_wp2_with fail
  refine wp_name ?_
  intro w3 hw3
  have HL3 : Hid (Led [] w w3 [box b3 30 #[.pointer (some ⟨g2, 0, none⟩)], box w1.heap.size 4 #[.bool true]]) := by
    have h := (HL1.out.alloc 4 #[.bool true]).drew
    rw [hw3] at h
    exact h
  obtain ⟨b5, hb5⟩ : ∃ b, w1.heap.size = b := ⟨_, rfl⟩
  rw [hb5] at HL3 ⊢
  clear hw3 hb5 HL1
  go_step3
  go_wp2_with fail
  refine (All_q w3 g1 es (HQ1.out _ HL3.out.tch) (HE.out _ HL3.out.tch) (by omega)).mono ?_
  rintro e w4 ⟨bx, ra, rc, ys, rfl, hpy, hL⟩
  have HL4 := Lib.hid (HL3.out.join hL)
  have HPY := Lib.hid hpy
  simp only [List.nil_append, List.cons_append] at HL4
  clear hL hpy HL3
  have HYL : Hid (ys.length = es.length) := by have := congrArg List.length HPY.out; unfold Hid; simpa using this
  have HYN : Hid (∀ y ∈ ys, y.v.nodes ≤ 256) := fun y hy => by
    have hm : y.plain ∈ es.map ME.plain := by rw [← HPY.out]; exact List.mem_map_of_mem hy
    obtain ⟨r, hr, hpr⟩ := List.mem_map.1 hm
    rw [plain_nodes_eq hpr]; exact (HE.out w (Touch.refl [] w) r hr).2
  have HLR : Hid (Led [] w w4 (sqR b3 g2 b5 bx (.slice ra ys.length rc) ys es fs 0)) := HL4.out.addFact (by simp)
  clear HL4
  go_wp2_with fail
  refine (wpIn_wide (n := 0)).1 ?_
  refine range_allL (bx := bx) (ra := ra) (rc := rc) (ys := ys) rfl rfl (by rw [HYL.out]; omega) HYN.out (sqR b3 g2 b5 bx (.slice ra ys.length rc) ys es fs)
    (fun c lx => c = .exit 0 ∧ lx = [box b3 30 #[.pointer (some ⟨g2, 0, none⟩)], box b5 4 #[.bool false], allT bx (.slice ra ys.length rc) ys, fact (es.map ME.plain ≠ fs.map ME.plain)]) 2 (fun _ => rfl) HLR.out ?hround ?hdone ?hstop
  case hround =>
    intro k x W o0 hk hxk h
    have hke : k < es.length := by rw [← HYL.out]; exact hk
    have hkf : k < fs.length := by rw [← HLL.out]; exact hke
    rw [HPY.out, List.getElem?_map, List.getElem?_eq_getElem hke] at hxk
    have HX : Hid (es[k].plain = x.plain) := by unfold Hid; simpa using hxk
    obtain ⟨D, hD⟩ : ∃ D, w4.heap.size = D := ⟨_, rfl⟩
    rw [hD] at h ⊢
    have HK := Lib.hid h
    clear h hxk hD
    rw [ent_eq]
    gi_wp2
    refine ⟨_, HK.out.alloc _ _, fun W2 o h2 => ?_⟩
    obtain ⟨be, hbe⟩ : ∃ b, W.heap.size = b := ⟨_, rfl⟩
    rw [hbe] at h2 ⊢
    have HK2 := Lib.hid h2
    simp only [sqR, marks, List.nil_append, List.cons_append] at HK2
    clear hbe h2 HK
    have HFa : Hid ((es.map ME.plain).take k = (fs.map ME.plain).take k) := HK2.out.fact 3 rfl
    have HVX : Hid (x.v.In W2) := HK2.out.valsIn 4 rfl _ (by simp)
    have HVN : Hid (x.v.nodes ≤ 256) := by unfold Hid; rw [plain_nodes_eq HX.out]; exact (HE.out w (Touch.refl [] w) _ (List.getElem_mem hke)).2
    have HTS := Lib.hid (take_succ_eq (by simpa using hke) (by simpa using hkf) HFa.out)
    simp only [List.getElem_map] at HTS
    rw [HX.out] at HTS
    have HEL : Hid (es.map ME.plain = fs.map ME.plain → x.plain = fs[k].plain) := fun h => HTS.out.1 (by rw [h])
    have HLK := Lib.hid (HF.out W2 HK2.out.tch fs[k] (List.getElem_mem hkf))
    obtain ⟨qa, qc, hb, _, _, hr⟩ := HQ2.out W2 HK2.out.tch
    have hcq := hb.cell 1
    have hcd := (HD2.out W2 HK2.out.tch).2
    rw [hcd] at hcq
    simp at hcq
    obtain ⟨rfl, rfl⟩ := hcq
    obtain ⟨b2, o2, hbo2, hbb2, hent⟩ := ents_of_rowS hr k hkf
    subst hbo2
    generalize fs[k] = y at hent HTS HEL HLK
    have HY1 := Lib.hid hent
    have HX1 : Hid (EntAt W2 be 0 x) := by obtain ⟨c0, c1, c2, c3, c4, c5, c6, _⟩ := HK2.out.c7 7 rfl; exact ⟨c0, c1, c2, c3, c4, c5, c6⟩
    obtain ⟨_, _, _, _, _, _, _, _, zx, _, _⟩ := HK2.out.c7 7 rfl
    obtain ⟨n0, fn, zn, _, _⟩ := HK2.out.c1 0 rfl
    have HN0 := Lib.hid n0
    have HL0 := Lib.hid hcd
    have zg : g2 < W2.heap.size := World.block_lt_of_cell? _ _ hcd
    have HSE := Lib.hid (fun W (hW : Touch [] W2 W) => SameEntry_q x y W (HVX.out.touch0 hW) (HLK.out.1.touch0 hW))
    clear hent hb hr
    simp only [ent_eq] at HSE
    obtain ⟨x0, x1, x2, x3, x4, x5, x6⟩ := HX1.out
    obtain ⟨y0, y1, y2, y3, y4, y5, y6⟩ := HY1.out
    simp only [Nat.zero_add] at x1 x2 x3 x4 x5 x6
    have hg3 : (k : Int) < (fs.length : Int) := by omega
    have hk0 : (0 : Int) ≤ (k : Int) := by omega
    gi_wp2_with fail
    refine region_held_round (S := fun w' => w'.cell? ⟨b3, 0, none⟩ = some (.pointer (some ⟨g2, 0, none⟩)) ∧ w'.cell? ⟨g2, 1, none⟩ = some (.slice (some ⟨b2, o2, none⟩) fs.length qc2) ∧
      (w'.cell? ⟨be, 0, none⟩ = some (.int .i64 x.sync) ∧ w'.cell? ⟨be, 1, none⟩ = some (.int .i64 x.thread) ∧ w'.cell? ⟨be, 2, none⟩ = some (.int .i64 x.branch) ∧ w'.cell? ⟨be, 3, none⟩ = some (.int .i64 x.flag) ∧ w'.cell? ⟨be, 4, none⟩ = some (.int .i64 x.v.kind) ∧ w'.cell? ⟨be, 5, none⟩ = some (.int .i64 x.v.num) ∧ w'.cell? ⟨be, 6, none⟩ = some (.slice x.v.addr x.v.parts.length x.v.cap)) ∧
      (w'.cell? ⟨b2, o2 + k * 7, none⟩ = some (.int .i64 y.sync) ∧ w'.cell? ⟨b2, o2 + k * 7 + 1, none⟩ = some (.int .i64 y.thread) ∧ w'.cell? ⟨b2, o2 + k * 7 + 2, none⟩ = some (.int .i64 y.branch) ∧ w'.cell? ⟨b2, o2 + k * 7 + 3, none⟩ = some (.int .i64 y.flag) ∧ w'.cell? ⟨b2, o2 + k * 7 + 4, none⟩ = some (.int .i64 y.v.kind) ∧ w'.cell? ⟨b2, o2 + k * 7 + 5, none⟩ = some (.int .i64 y.v.num) ∧ w'.cell? ⟨b2, o2 + k * 7 + 6, none⟩ = some (.slice y.v.addr y.v.parts.length y.v.cap)))
      (by rintro ⟨_, _, h⟩; exact h) (by kernel_rfl) (by kernel_rfl) ?_ (fun hHeld => ?_)
    · (try dsimp only)
      go_keep
    refine wpAnyH_takeD (i := 0) (d := some 33) (v := ?_) rfl rfl (by kernel_rfl) (by kernel_rfl) (by kernel_rfl) (fun _ _ _ h => h) (Or.inl ⟨by rfl, ?_⟩) (by assumption) ?_
    rotate_left
    · intro w hSw
      (try dsimp only at hSw)
      first | (go_simp; done) | (go_simp; with_reducible rfl)
    (try simp only [Act.put, List.setIfInBounds_toArray, List.set_cons_zero, List.set_cons_succ])
    refine wpAnyH_takeD (i := 1) (d := some 34) (v := ?_) rfl rfl (by kernel_rfl) (by kernel_rfl) (by kernel_rfl) (fun _ _ _ h => h) (Or.inl ⟨by rfl, ?_⟩) (by assumption) ?_
    rotate_left
    · intro w hSw
      (try dsimp only at hSw)
      first | (go_simp; done) | (go_simp; with_reducible rfl)
    (try simp only [Act.put, List.setIfInBounds_toArray, List.set_cons_zero, List.set_cons_succ])
    refine wpAnyH_takeD (i := 2) (d := some 35) (v := ?_) rfl rfl (by kernel_rfl) (by kernel_rfl) (by kernel_rfl) (fun _ _ _ h => h) (Or.inl ⟨by rfl, ?_⟩) (by assumption) ?_
    rotate_left
    · intro w hSw
      (try dsimp only at hSw)
      first | (go_simp; done) | (go_simp; with_reducible rfl)
    (try simp only [Act.put, List.setIfInBounds_toArray, List.set_cons_zero, List.set_cons_succ])
    refine wpAnyH_takeD (i := 3) (d := some 36) (v := ?_) rfl rfl (by kernel_rfl) (by kernel_rfl) (by kernel_rfl) (fun _ _ _ h => h) (Or.inl ⟨by rfl, ?_⟩) (by assumption) ?_
    rotate_left
    · intro w hSw
      (try dsimp only at hSw)
      first | (go_simp; done) | (go_simp; with_reducible rfl)
    (try simp only [Act.put, List.setIfInBounds_toArray, List.set_cons_zero, List.set_cons_succ])
    refine wpAnyH_takeD (i := 4) (d := some 37) (v := ?_) rfl rfl (by kernel_rfl) (by kernel_rfl) (by kernel_rfl) (fun _ _ _ h => h) (Or.inl ⟨by rfl, ?_⟩) (by assumption) ?_
    rotate_left
    · intro w hSw
      (try dsimp only at hSw)
      first | (go_simp; done) | (go_simp; with_reducible rfl)
    (try simp only [Act.put, List.setIfInBounds_toArray, List.set_cons_zero, List.set_cons_succ])
    refine wpAnyH_takeD (i := 5) (d := some 38) (v := ?_) rfl rfl (by kernel_rfl) (by kernel_rfl) (by kernel_rfl) (fun _ _ _ h => h) (Or.inl ⟨by rfl, ?_⟩) (by assumption) ?_
    rotate_left
    · intro w hSw
      (try dsimp only at hSw)
      first | (go_simp; done) | (go_simp; with_reducible rfl)
    (try simp only [Act.put, List.setIfInBounds_toArray, List.set_cons_zero, List.set_cons_succ])
    refine wpAnyH_takeD (i := 6) (d := some 39) (v := ?_) rfl rfl (by kernel_rfl) (by kernel_rfl) (by kernel_rfl) (fun _ _ _ h => h) (Or.inl ⟨by rfl, ?_⟩) (by assumption) ?_
    rotate_left
    · intro w hSw
      (try dsimp only at hSw)
      first | (go_simp; done) | (go_simp; with_reducible rfl)
    (try simp only [Act.put, List.setIfInBounds_toArray, List.set_cons_zero, List.set_cons_succ])
    refine wpAnyH_takeD (i := 7) (d := some 40) (v := ?_) rfl rfl (by kernel_rfl) (by kernel_rfl) (by kernel_rfl) (fun _ _ _ h => h) (Or.inl ⟨by rfl, ?_⟩) (by assumption) ?_
    rotate_left
    · intro w hSw
      (try dsimp only at hSw)
      first | (go_simp; done) | (go_simp; with_reducible rfl)
    (try simp only [Act.put, List.setIfInBounds_toArray, List.set_cons_zero, List.set_cons_succ])
    refine wpAnyH_takeD (i := 8) (d := some 41) (v := ?_) rfl rfl (by kernel_rfl) (by kernel_rfl) (by kernel_rfl) (fun _ _ _ h => h) (Or.inl ⟨by rfl, ?_⟩) (by assumption) ?_
    rotate_left
    · intro w hSw
      (try dsimp only at hSw)
      first | (go_simp; done) | (go_simp; with_reducible rfl)
    (try simp only [Act.put, List.setIfInBounds_toArray, List.set_cons_zero, List.set_cons_succ])
    refine wpAnyH_ready (rs := [9]) (by kernel_rfl) (by simp) ?_
    refine AllReadyH.cons rfl (fun K hK => ?_) AllReadyH.nil
    go_simp
    refine (HSE.out _ (Touch.refl [] W2).drew).mono ?_
    rintro en wn ⟨cc, rfl, hcc, ht⟩
    have HT := Lib.hid ((Touch.refl [] W2).drew.trans' ht)
    have HCC := Lib.hid hcc
    clear ht hcc x0 x1 x2 x3 x4 x5 x6 y0 y1 y2 y3 y4 y5 y6 n0 hcd hHeld
    obtain ⟨x0, x1, x2, x3, x4, x5, x6⟩ := HX1.out.touch HT.out
    obtain ⟨y0, y1, y2, y3, y4, y5, y6⟩ := HY1.out.touch HT.out
    simp only [Nat.zero_add] at x1 x2 x3 x4 x5 x6
    have n0 := HT.out.cellOf HN0.out
    have hcd := HT.out.cellOf HL0.out
    go_simp
    refine hK.out _ _ ?_ (fun hHeld => ?_)
    · (try dsimp only)
      go_keep
    clear hK K
    (try simp only [Act.put, List.setIfInBounds_toArray, List.set_cons_zero, List.set_cons_succ])
    refine wpAnyH_takeD (i := 10) (d := some 43) (v := ?_) rfl rfl (by kernel_rfl) (by kernel_rfl) (by kernel_rfl) (fun _ _ _ h => h) (Or.inl ⟨by rfl, ?_⟩) (by assumption) ?_
    rotate_left
    · intro w hSw
      (try dsimp only at hSw)
      first | (go_simp; done) | (go_simp; with_reducible rfl)
    (try simp only [Act.put, List.setIfInBounds_toArray, List.set_cons_zero, List.set_cons_succ])
    refine wpAnyH_done (by kernel_rfl) ?_ _
    have HK3 := Lib.hid (HK2.out.touch HT.out)
    clear x0 x1 x2 x3 x4 x5 x6 y0 y1 y2 y3 y4 y5 y6 n0 hcd hHeld fn zx zn HK2 hbb2 zg
    obtain ⟨n0, fn, zn, _, _⟩ := HK3.out.c1 1 rfl
    cases cc with
    | false =>
      have hne : es.map ME.plain ≠ fs.map ME.plain := fun h => by
        have h2 := HCC.out.2 ⟨HVN.out, HLK.out.2, HEL.out h⟩
        cases h2
      gi_wp2_with fail
      have hs := (HK3.out.set 1 rfl 0 (.bool false)).setFact 3 rfl (q := (es.map ME.plain ≠ fs.map ME.plain)) hne
      exact ⟨_, [], ⟨rfl, rfl⟩, hs.sel [0, 1, 2, 3, 5, 6] rfl (by decide)⟩
    | true =>
      have heq := HTS.out.2 (HCC.out.1 rfl).2.2
      gi_wp2_with fail
      have hs := HK3.out.setFact 3 rfl heq
      exact ⟨[], hs.sel [0, 1, 2, 3, 5, 6] rfl (by decide)⟩
  case hdone =>
    intro W h
    obtain ⟨D, hD⟩ : ∃ D, w4.heap.size = D := ⟨_, rfl⟩
    rw [hD] at h ⊢
    rw [HYL.out] at h
    have HK := Lib.hid h
    simp only [sqR, marks1, List.nil_append, List.cons_append] at HK
    clear h hD
    obtain ⟨n0, fn, zn, _, _⟩ := HK.out.c1 1 rfl
    have hfa : (es.map ME.plain).take es.length = (fs.map ME.plain).take es.length := HK.out.fact 3 rfl
    have heq : es.map ME.plain = fs.map ME.plain := by rwa [List.take_of_length_le (by simp), List.take_of_length_le (by simp [HLL.out])] at hfa
    have HEQ := Lib.hid heq
    clear hfa heq
    go_wp2
    refine noGoto_ret' ?_
    exact leave_marks (v := .bool true) [D] _ (by simpa using HK.out.mark 4 rfl) (by simp) (by simp [shutAll, results, Try.results30, go_sem]) (Tells.yes HEQ.out (HK.out.shut 4 rfl).tch)
  case hstop =>
    rintro c W lx ⟨rfl, rfl⟩ h
    obtain ⟨D, hD⟩ : ∃ D, w4.heap.size = D := ⟨_, rfl⟩
    rw [hD] at h ⊢
    have HK := Lib.hid h
    simp only [marks1, List.nil_append, List.cons_append] at HK
    clear h hD
    obtain ⟨n0, fn, zn, _, _⟩ := HK.out.c1 1 rfl
    have HNE : Hid (es.map ME.plain ≠ fs.map ME.plain) := HK.out.fact 3 rfl
    refine wpIn_wide.2 ?_
    go_wp2
    refine noGoto_ret' ?_
    exact leave_marks (v := .bool false) [D] _ (by simpa using HK.out.mark 4 rfl) (by simp) (by simp [shutAll, results, Try.results30, go_sem]) (Tells.no HNE.out (HK.out.shut 4 rfl).tch)
theorem Same_qq (w : World) (g1 g2 : Nat) (es fs : List ME) (h1 : QAt w g1 es) (h2 : QAt w g2 fs) (he : ∀ e ∈ es, e.v.In w ∧ e.v.nodes ≤ 256) (hf : ∀ e ∈ fs, e.v.In w ∧ e.v.nodes ≤ 256) (hle : es.length ≤ 4096) (hlf : fs.length ≤ 4096) :
    Calls Try.prog 30 #[.pointer (some ⟨g1, 0, none⟩), .pointer (some ⟨g2, 0, none⟩)] w (Tells (es.map ME.plain = fs.map ME.plain) w) := by
  by_cases hll : es.length = fs.length
  · exact Same_qq_go w g1 g2 es fs h1 h2 he hf hle hlf hll
  · exact Same_qq_len w g1 g2 es fs h1 h2 he hf hle hlf hll
end Go.Proofs.Ytihmbgdkllmkaaa

/-
  Layer 15: All of a condition (cond.go); Same of reference 15 (betrothalref15/ref.go).
-/
namespace Go.Proofs.Ytihmbgdkllmkaaa
open Go.RowKit Go.Shelf
set_option maxRecDepth 100000
set_option linter.unusedVariables false
set_option linter.unusedSimpArgs false

set_option maxHeartbeats 2000000 in
theorem Same_ref15 (w : World) (a b : Option Addr) (ca cb : Nat) (rs ss : List ME) (ha : EntsAt w a rs) (hb : EntsAt w b ss) (hr : ∀ r ∈ rs, r.v.In w ∧ r.v.nodes ≤ 256) (hs : ∀ r ∈ ss, r.v.In w ∧ r.v.nodes ≤ 256) (hlr : rs.length ≤ 4096) (hls : ss.length ≤ 4096) :
    Calls Try.prog 54 #[.agg #[.int .i64 0, .slice a rs.length ca], .agg #[.int .i64 0, .slice b ss.length cb]] w (Tells (rs.map ME.plain = ss.map ME.plain) w) := by
  have HT := Lib.hid (((Touch.refl [] w).alloc (.cells #[.int .i64 0, .slice a rs.length ca] 103)).alloc (.cells #[.int .i64 0, .slice b ss.length cb] 103))
  have HC := Lib.hid (fun W (hW : Touch [] w W) => Same_ref13 W a b ca cb rs ss (ha.touch hW) (hb.touch hW) (fun r h => ⟨(hr r h).1.touch0 hW, (hr r h).2⟩) (fun r h => ⟨(hs r h).1.touch0 hW, (hs r h).2⟩) hlr hls)
  clear ha hb hr hs
  go_enter Try.func54, Try.ntmps54
  go_wp2_with fail
  refine (HC.out _ HT.out).mono ?_
  rintro e w' ⟨c, rfl, hc, ht⟩
  have HC2 := Lib.hid hc
  have HT2 := Lib.hid (HT.out.trans' ht)
  clear hc ht
  cases c
  all_goals go_wp2
  all_goals go_ret
  all_goals exact ⟨_, rfl, by simpa using HC2.out, HT2.out⟩
theorem All_c (w : World) (c q : Nat) (es : List ME) (hc : CondAt w c 0 1 q) (h : QAt w q es) (hin : ∀ e ∈ es, e.v.In w ∧ e.v.nodes ≤ 256) (hlen : es.length ≤ 4096) : Calls Try.prog 48 #[.pointer (some ⟨c, 0, none⟩)] w (AllTold es w) := by
  obtain ⟨c0, c1, c2, hl, _⟩ := hc.cells
  have HC := Lib.hid hc
  have HA := Lib.hid (All_q w q es h hin (by omega))
  clear hc h hin
  go_enter Try.func48, Try.ntmps48
  go_wp2_with fail
  refine (cnone_no _ _ _ _ _ HC.out).mono ?_
  rintro e w' ⟨rfl, rfl⟩
  go_wp2_with fail
  refine HA.out.mono ?_
  rintro e w' ⟨bx, ra, rc, ys, rfl, hpy, hL⟩
  have HPY := Lib.hid hpy
  have HL := Lib.hid hL
  clear hpy hL
  go_wp2
  go_ret
  exact ⟨bx, ra, rc, ys, rfl, HPY.out, HL.out⟩
end Go.Proofs.Ytihmbgdkllmkaaa
