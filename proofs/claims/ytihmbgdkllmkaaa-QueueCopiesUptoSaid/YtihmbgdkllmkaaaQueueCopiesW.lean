/-
  QueueCopies (betrothallaw13/law.go): its walk: for all calls it returns true, and nothing that was there has turned.
-/
import Derived.Test.YtihmbgdkllmkaaaQueuePlaysW
import Derived.Test.YtihmbgdkllmkaaaSame13
import Derived.Test.YtihmbgdkllmkaaaMarks
import Derived.Deep.Cut
import Derived.Deep.CutRange
namespace Go.Proofs.Ytihmbgdkllmkaaa
open Go.RowKit Go.Shelf
set_option maxRecDepth 100000
set_option linter.unusedVariables false
set_option linter.unusedSimpArgs false
attribute [local go_sem] Oper.semAt_some

/-- As led_retM; the ledger of then. -/
theorem led_retMS {T : List Nat} {w : World} {l : List Thing} {Ds : List Nat} {n : Nat} {W : World} {fn : Func} {ra : Tmp} (hres : fn.results = #[ResultVar.cell ra 4]) {tmps : Array Value} {b : Nat} (htm : tmps.getD ra undef = .pointer (some ⟨b, 0, none⟩))
    (HK : Led T w W l) (i : Nat) {u : Value} (hi : l[i]? = some (box b 4 #[u])) {c : Bool} (hc : c = true) (m : Nat) (him : m ≠ i) (hm : l[m]? = some (marksT Ds)) {R : Ending → World → Prop}
    (hR : ∀ W', Led T w W' ((l.set i (box b 4 #[.bool true])).set m (fact True)) → R (.returned (.bool true)) W') :
    bodyPostM Fence.wide n Try.prog fn R .ret { tmps := tmps, defers := Ds.map fun k => { target := .collected k, args := #[] } } (W.setCell ⟨b, 0, none⟩ (.bool c)) := by
  subst hc
  have h1 := HK.set i hi 0 (.bool true)
  have hi' := (List.getElem?_eq_some_iff.1 hi).1
  have e1 : #[u].setIfInBounds 0 (.bool true) = #[.bool true] := rfl
  rw [e1] at h1
  have hm1 : (l.set i (box b 4 #[.bool true]))[m]? = some (marksT Ds) := by rw [List.getElem?_set_ne (Ne.symm him)]; exact hm
  obtain ⟨hnd, hat⟩ := h1.marksAt m hm1
  have h2 := h1.shutM m hm1
  refine leave_marks (v := .bool true) Ds _ hat hnd (results_bool hres htm (h2.c1w (t := 4) i ?_)) (hR _ h2)
  rw [List.getElem?_set_ne him, List.getElem?_set_self hi']
theorem Both13.weak {P P1 : World → Prop} {es rs : List ME} {a : Option Addr} {cap : Nat} (h : Both13 P es rs a cap) (hP : ∀ W, P1 W → P W) : Both13 P1 es rs a cap := ⟨h.1, h.2.1, h.2.2.1, h.2.2.2.1, fun W hW => h.2.2.2.2 W (hP W hW)⟩
/-- The calls that are owed to loops that are over. -/
def owedC (Ds : List Nat) : List Deferred := Ds.map fun k => { target := .collected k, args := #[] }
def qcFrame (zero : Bool) (b6 g b8 bx k : Nat) (u : Nat → Value) : Array Value := #[u 0, u 1, .bool zero, u 3, u 4, u 5, .pointer (some ⟨b6, 0, none⟩), .pointer (some ⟨g, 0, none⟩), .pointer (some ⟨b8, 0, none⟩), u 9, u 10, .func (.func 69) #[] #[.pointer (some ⟨bx, 0, none⟩)], u 12, u 13, u 14, u 15, u 16, .int .i64 (k : Int), u 18, u 19, u 20, u 21, u 22, u 23, u 24, u 25, u 26, u 27, u 28, u 29, u 30, u 31, u 32, u 33, u 34, u 35, u 36, u 37, u 38, u 39, u 40, u 41, u 42, u 43, u 44, u 45, u 46, u 47, u 48, u 49, u 50, u 51, u 52, u 53, u 54, u 55, u 56, u 57, u 58, u 59, u 60, u 61, u 62, u 63, u 64, u 65, u 66, u 67, u 68, u 69, u 70, u 71, u 72, u 73, u 74, u 75, u 76, u 77, u 78, u 79, u 80, u 81, u 82, u 83, u 84, u 85, u 86, u 87, u 88, u 89, u 90, u 91, u 92, u 93, u 94, u 95, u 96, u 97, u 98, u 99, u 100, u 101, u 102, u 103, u 104, u 105, u 106, u 107, u 108, u 109, u 110, u 111, u 112, u 113, u 114, u 115, u 116, u 117, u 118, u 119, u 120, u 121, u 122, u 123, u 124, u 125, u 126, u 127, u 128, u 129, u 130, u 131, u 132, u 133, u 134, u 135, u 136, u 137, u 138, u 139, u 140, u 141, u 142, u 143, u 144, u 145, u 146, u 147, u 148, u 149, u 150, u 151, u 152, u 153, u 154, u 155, u 156, u 157, u 158, u 159, u 160, u 161, u 162, u 163, u 164, u 165, u 166, u 167, u 168, u 169, u 170, u 171, u 172, u 173, u 174, u 175, u 176, u 177, u 178, u 179, u 180, u 181, u 182, u 183, u 184, u 185, u 186, u 187, u 188, u 189, u 190, u 191, u 192, u 193, u 194, u 195, u 196, u 197, u 198, u 199, u 200, u 201, u 202, u 203, u 204, u 205, u 206, u 207, u 208, u 209, u 210, u 211, u 212, u 213, u 214, u 215, u 216, u 217, u 218, u 219, u 220, u 221, u 222, u 223, u 224, u 225, u 226, u 227, u 228]
def qcL (P : World → Prop) (g : Nat) (es : List ME) (bx : Nat) (v : Value) (zs : List ME) (b6 b8 : Nat) (a : Option Addr) (n cap : Nat) (Ds : List Nat) : List Thing :=
  [stillT P, queueT g es, allT bx v zs, box b6 4 #[.bool false], box b8 54 #[.slice a n cap], marksT Ds]
/-- Between two turns. -/
def QCInv (T : List Nat) (w : World) (P : World → Prop) (g : Nat) (es : List ME) (bx : Nat) (v : Value) (zs : List ME) (b6 b8 : Nat) (a : Option Addr) (n cap : Nat) (zero : Bool) (A : Act) (W : World) : Prop :=
  ∃ (k : Nat) (u : Nat → Value) (Ds : List Nat), A = { tmps := qcFrame zero b6 g b8 bx k u, defers := owedC Ds } ∧ k ≤ 2 ∧ Hid (Led T w W (qcL P g es bx v zs b6 b8 a n cap Ds))
def qcMu (a : Act) (_ : World) : Nat := 2 - (intOf (a.tmps.getD 17 undef)).toNat
section
variable {T : List Nat} {w W : World} {P : World → Prop} {g : Nat} {es : List ME} {bx : Nat} {v : Value} {zs : List ME} {b6 b8 : Nat} {a : Option Addr} {n cap : Nat} {zero : Bool} {tm : Array Value} {Ds : List Nat}
theorem qc_start (hT : tm = qcFrame zero b6 g b8 bx 0 (fun n => tm.getD n undef)) (HL : Hid (Led T w W (qcL P g es bx v zs b6 b8 a n cap []))) : QCInv T w P g es bx v zs b6 b8 a n cap zero { tmps := tm, defers := [] } W :=
  ⟨0, _, [], by rw [← hT]; rfl, Nat.zero_le _, HL⟩
theorem qc_close {k : Nat} {u : Nat → Value} {ds0 : List Deferred} {W0 : World} (hT : tm = qcFrame zero b6 g b8 bx (k + 1) (fun n => tm.getD n undef)) (hk : k < 2) (HL : Hid (Led T w W (qcL P g es bx v zs b6 b8 a n cap Ds))) :
    QCInv T w P g es bx v zs b6 b8 a n cap zero { tmps := tm, defers := owedC Ds } W ∧ qcMu { tmps := tm, defers := owedC Ds } W < qcMu { tmps := qcFrame zero b6 g b8 bx k u, defers := ds0 } W0 := by
  refine ⟨⟨k + 1, _, Ds, by rw [← hT], hk, HL⟩, ?_⟩
  have e1 : tm.getD 17 undef = .int .i64 ((k + 1 : Nat) : Int) := by rw [hT]; rfl
  have e2 : (qcFrame zero b6 g b8 bx k u).getD 17 undef = .int .i64 (k : Int) := rfl
  unfold qcMu
  simp only [e1, e2, intOf]
  omega
end
/-- Only by a return it ends. -/
def OnlyRet (R : Act → World → Prop) : Exit → Act → World → Prop
  | .ret, a, w => R a w
  | _, _, _ => False
theorem Led.noq {T : List Nat} {w0 w : World} {l : List Thing} {p : Option Addr} (h : Led T w0 w l) (i : Nat) (hi : l[i]? = some (stillT (fun W => NoQ W p))) : NoQ w p := h.still i hi
theorem zero_valC : ME.zero.val = .agg #[.int .i64 0, .int .i64 0, .int .i64 0, .int .i64 0, .int .i64 0, .int .i64 0, .slice none 0 0] := rfl
theorem build_q0 (w : World) : (Instr.build 67 #[]).run Try.prog w = .ok (.agg #[.bool false, .slice none 0 0]) w := run_build w 67 _ _ (by kernel_rfl)
/-- Two calls, as one value. -/
def twoVal (x y : CB) : Value := .agg #[.int .i64 x.what, .int .i64 x.n, .int .i64 x.m, .slice x.a x.l.length x.cap, .int .i64 y.what, .int .i64 y.n, .int .i64 y.m, .slice y.a y.l.length y.cap]
def twoCells (x y : CB) : Array Value := #[.int .i64 x.what, .int .i64 x.n, .int .i64 x.m, .slice x.a x.l.length x.cap, .int .i64 y.what, .int .i64 y.n, .int .i64 y.m, .slice y.a y.l.length y.cap]
theorem CBs_two {W : World} {b t : Nat} {x y : CB} (h : Blk W b t (twoCells x y)) : CBsAt W (some ⟨b, 0, none⟩) [x, y] := by
  intro i hi
  have : i = 0 ∨ i = 1 := by simp at hi; omega
  rcases this with rfl | rfl
  · exact ⟨b, 0, rfl, h.lt, h.cell 0, h.cell 1, h.cell 2, h.cell 3⟩
  · exact ⟨b, 0, rfl, h.lt, h.cell 4, h.cell 5, h.cell 6, h.cell 7⟩
set_option maxHeartbeats 40000000 in
theorem queueCopies_any (w : World) (a0 : Option Addr) (c0 : Nat) (l : List CB) (y0 y1 : CB) (zero : Bool) (ha : CBsAt w a0 l) (hin : ∀ x ∈ l, x.In w ∧ (∀ e ∈ x.l, e.v.nodes ≤ 1048576) ∧ x.l.length ≤ 9223372036854775807) (hl : l.length ≤ 9223372036854775807)
    (hy : ∀ x ∈ [y0, y1], x.In w ∧ (∀ e ∈ x.l, e.v.nodes ≤ 1048576) ∧ x.l.length ≤ 9223372036854775807) :
    Calls Try.prog 7 #[.slice a0 l.length c0, twoVal y0 y1, .bool zero] w fun e w' => e = .returned (.bool true) ∧ Below w.heap.size w w' := by
  have HA := Lib.hid ha
  have HI := Lib.hid hin
  have HY := Lib.hid hy
  have HL0 := Lib.hid (Led.old0 w)
  have hb0 := build_rq0
  generalize hTT : List.range w.heap.size = T at HL0
  clear ha hin hTT hy
  unfold twoVal
  refine (callsIn_wide (n := 0)).1 ?_
  refine callsIn_of_wp_marks Try.func7 rfl trivial ?_ rfl
  simp only [Try.ntmps7, List.size_toArray, List.length_cons, List.length_nil, Nat.reduceAdd, Nat.reduceSub, Array.replicate_succ, Array.replicate_zero, List.push_toArray, List.append_toArray, List.nil_append, List.cons_append]
  refine wpIn_wide.2 ?_
  refine Code.wp_mono (Q := OnlyRet (fun a w' => bodyPostM Fence.wide 0 Try.prog Try.f7 (fun e w' => e = .returned (.bool true) ∧ Below w.heap.size w w') .ret a w')) (fun ex a' W h => by cases ex <;> first | exact h | exact h.elim) ?_
  go_wp2_with fail
  refine wp_calls_name ?_
  intro w1 hw1
  have HL1 := Lib.hid (HL0.out.al2 hw1)
  simp only [List.nil_append, List.cons_append] at HL1
  obtain ⟨b6, hb6⟩ : ∃ b, w.heap.size + 1 = b := ⟨_, rfl⟩
  rw [hb6] at HL1 ⊢
  obtain ⟨b4, hb4⟩ : ∃ b, w.heap.size = b := ⟨_, rfl⟩
  rw [hb4] at HL1 ⊢
  clear hw1 hb6 hb4 HL0
  have HTw := Lib.hid (HL1.out.oldTouch (HL1.out.still 0 rfl))
  refine (few13 w1 a0 c0 l 25 (by omega) (HA.out.touch HTw.out) (fun x hx => ⟨(HI.out x hx).1.touch HTw.out, (HI.out x hx).2⟩) hl).mono ?_
  rintro e w2 ⟨cc, rfl, hcc, ht⟩
  have HL2 := Lib.hid (HL1.out.touch ht)
  have HCC := Lib.hid hcc
  clear hcc ht HL1 HTw
  cases cc with
  | false =>
    go_wp2_with fail
    refine (works13 _).mono ?_
    rintro e w9 ⟨rfl, ht⟩
    have HL9 := Lib.hid (HL2.out.touch ht).marks0
    clear ht
    simp only [List.nil_append, List.cons_append] at HL9
    obtain ⟨q0, qf, zq, _, _⟩ := HL9.out.c1 2 rfl
    go_wp2
    exact led_retMS (Ds := []) Try.results7 rfl HL9.out 2 rfl rfl 3 (by decide) rfl (fun W' h => ⟨rfl, (h.oldTouch (h.still 0 rfl)).below⟩)
  | true =>
    have HFW := Lib.hid (HCC.out rfl).2
    have hl25 : l.length ≤ 25 := by have := (HCC.out rfl).1; omega
    clear HCC
    have HTw := Lib.hid (HL2.out.oldTouch (HL2.out.still 0 rfl))
    have HF2 := Lib.hid (few13 w2 (some ⟨b4, 0, none⟩) 2 [y0, y1] 2 (by omega) (CBs_two (HL2.out.box 1 rfl)) (fun x hx => ⟨(HY.out x hx).1.touch HTw.out, (HY.out x hx).2⟩) (by simp))
    simp only [List.length_cons, List.length_nil, Nat.reduceAdd] at HF2
    go_wp2_with fail
    refine HF2.out.mono ?_
    rintro e w3 ⟨cc, rfl, hcc, ht⟩
    have HL3 := Lib.hid (HL2.out.touch ht)
    have HCC := Lib.hid hcc
    clear hcc ht HL2 HTw HF2
    cases cc with
    | false =>
      go_wp2_with fail
      refine (works13 _).mono ?_
      rintro e w9 ⟨rfl, ht⟩
      have HL9 := Lib.hid (HL3.out.touch ht).marks0
      clear ht
      simp only [List.nil_append, List.cons_append] at HL9
      obtain ⟨q0, qf, zq, _, _⟩ := HL9.out.c1 2 rfl
      go_wp2
      exact led_retMS (Ds := []) Try.results7 rfl HL9.out 2 rfl rfl 3 (by decide) rfl (fun W' h => ⟨rfl, (h.oldTouch (h.still 0 rfl)).below⟩)
    | true =>
      have HFY := Lib.hid (HCC.out rfl).2
      clear HCC
      go_wp2_with fail
      refine (New_q w3 HL3.out).mono ?_
      rintro e w4 ⟨g, rfl, hL⟩
      have HL4 := Lib.hid hL
      simp only [List.nil_append, List.cons_append] at HL4
      clear hL HL3
      go_wp2_with fail
      refine wp_name ?_
      intro w5 hw5
      have HL5 := Lib.hid ((HL4.out.al1 hw5).sel [0, 3, 1, 2, 4] (l' := [stillT (Old w), queueT g [], box b4 61 (twoCells y0 y1), box b6 4 #[.bool false], box w4.heap.size 54 #[.slice none ([] : List ME).length 0]]) rfl (by decide))
      obtain ⟨b8, hb8⟩ : ∃ b, w4.heap.size = b := ⟨_, rfl⟩
      rw [hb8] at HL5 ⊢
      clear hw5 hb8 HL4
      go_loopw [7, 9] (fun q i wr => ∃ (k g : Nat) (es rs : List ME) (a : Option Addr) (cap : Nat) (P : World → Prop), i = .int .i64 (k : Int) ∧ q = .pointer (some ⟨g, 0, none⟩) ∧ k ≤ l.length ∧ Hid (Both13 P es rs a cap) ∧ Hid (∀ W, P W → Old w W) ∧
        Hid (Led T w wr [stillT P, queueT g es, box b4 61 (twoCells y0 y1), box b6 4 #[.bool false], box b8 54 #[.slice a rs.length cap]])) (fun _ i _ => l.length - (intOf i).toNat)
      case atStart => exact ⟨0, g, [], [], none, 0, Old w, rfl, rfl, Nat.zero_le _, both0 _, fun W h => h, HL5⟩
      case round =>
        obtain ⟨k, g, es, rs, a, cap, P, rfl, rfl, hk, HB, HO, HK⟩ := hrel
        clear HL5
        have hk0 : (0 : Int) ≤ (k : Int) := by omega
        obtain ⟨v0, vf, hl8, _, _⟩ := HK.out.c1 4 rfl
        by_cases hkl : k < l.length
        · have hkl' : (k : Int) < (l.length : Int) := by omega
          have HTw := Lib.hid (HK.out.oldTouch (HO.out _ (HK.out.still 0 rfl)))
          obtain ⟨b, o, rfl, hb, d0, d1, d2, d3⟩ := (HA.out.touch HTw.out) k hkl
          have HXI := Lib.hid (HI.out _ (List.getElem_mem hkl)).1
          have HXF := Lib.hid (HFW.out _ (List.getElem_mem hkl))
          generalize l[k] = x at d0 d1 d2 d3 HXI HXF
          have HAC := Lib.hid (HK.out.drew.act13 1 0 rfl rfl (by decide) x HB.out ⟨HXF.out, fun W hW => HXI.out.old (HO.out W hW)⟩)
          simp only [cb_eq] at HAC
          go_wp2_with fail
          go_region_law (first
            | (go_simp; refine HAC.out.mono ?_; rintro e w4 ⟨g2, es2, rs2, a2, cap2, P2, rfl, hB2, hP2, hL⟩; have HL4 := Lib.hid hL; (simp only [List.set_cons_zero, List.set_cons_succ] at HL4); have HB2 := Lib.hid hB2; have HP2 := Lib.hid hP2; clear hL hB2 hP2 v0 vf hl8 d0 d1 d2 d3 hb; obtain ⟨v0, vf, hl8, _, _⟩ := HL4.out.c1 4 rfl))
          all_goals (try simp only [List.getElem_toArray, List.getElem_cons_succ, List.getElem_cons_zero, Act.put, List.setIfInBounds_toArray, List.set_cons_succ, List.set_cons_zero])
          all_goals
            have HL5 := Lib.hid (HL4.out.set 4 rfl 0 (.slice a2 rs2.length cap2))
            simp only [List.set_cons_zero, List.set_cons_succ, List.setIfInBounds_toArray] at HL5
            have HO2 : Hid (∀ W, P2 W → Old w W) := fun W hW => HO.out W (HP2.out W hW)
            clear HL4 HK HAC v0 vf hl8 HTw HP2 HO HB
            go_wp2
            go_roundw
            case rel => exact ⟨k + 1, g2, es2, rs2, a2, cap2, P2, by go_num, rfl, hkl, HB2, HO2, HL5⟩
            case measure => simp [intOf]; omega
        · have hkl' : ¬ (k : Int) < (l.length : Int) := by omega
          have hEI : ∀ W, P W → ∀ e ∈ es, e.v.In W ∧ e.v.nodes ≤ 256 := fun W hW e he => ⟨(HB.out.2.2.2.2 W hW).1 e he, HB.out.2.2.2.1 e he⟩
          have HEI := Lib.hid hEI
          have hel : es.length ≤ 4096 := HB.out.2.2.1
          clear hEI
          go_wp2_with fail
          refine (Copy_q wr g es (HK.out.qAt 1 rfl) (HEI.out _ (HK.out.still 0 rfl)) (by omega)).mono ?_
          rintro e w4 ⟨g2, ys, rfl, hpl, hL⟩
          have HB2 := Lib.hid (HB.out.copy hpl)
          have HL4 := Lib.hid (Led.settle (l := [_, _, _, _, _, _]) (HK.out.join hL) 0 rfl (fun W f (hW : P W) hf => (⟨hW, fun y hy => hf.2 _ (List.mem_map.2 ⟨y, hy, rfl⟩)⟩ : P W ∧ ∀ y ∈ ys, y.v.In W)))
          simp only [List.set_cons_zero] at HL4
          clear hL hpl HK v0 vf hl8
          go_wp2_with fail
          refine (All_q w4 g es (HL4.out.qAt 1 rfl) (HEI.out _ (HL4.out.still 0 rfl).1) (by omega)).mono ?_
          rintro e w5 ⟨bx, ra, rc, zs, rfl, hpz, hL⟩
          have HPZ := Lib.hid (hpz.trans HB.out.1)
          have HL6 := Lib.hid (HL4.out.join hL)
          simp only [List.nil_append, List.cons_append] at HL6
          clear hL hpz HL4
          have HO1 : Hid (∀ W, (P W ∧ ∀ y ∈ ys, y.v.In W) → Old w W) := fun W hW => HO.out W hW.1
          have HB1 : Hid (Both13 (fun W => P W ∧ ∀ y ∈ ys, y.v.In W) es rs a cap) := ⟨HB.out.1, HB.out.2.1, HB.out.2.2.1, HB.out.2.2.2.1, fun W hW => HB.out.2.2.2.2 W hW.1⟩
          clear HB HO HEI
          generalize hPP : (fun W => P W ∧ ∀ y ∈ ys, y.v.In W) = P1 at HB2 HB1
          have HPO : Hid (∀ W, P1 W → Old w W) := by subst hPP; exact HO1.out
          have HL7 : Hid (Led T w w5 [stillT P1, queueT g es, box b4 61 (twoCells y0 y1), box b6 4 #[.bool false], box b8 54 #[.slice a rs.length cap], queueT g2 ys, allT bx (.slice ra zs.length rc) zs]) := by subst hPP; exact HL6.out
          clear HL6 hPP HO1
          obtain ⟨v0, vf, hl8, _, _⟩ := HL7.out.c1 4 rfl
          have hbt := HL7.out.box 2 rfl
          have t0 := hbt.cell 0
          have t1 := hbt.cell 1
          have t2 := hbt.cell 2
          have t3 := hbt.cell 3
          have ht := hbt.lt
          simp [twoCells] at t0 t1 t2 t3
          clear hbt
          have HAC := Lib.hid (HL7.out.act13 1 0 rfl rfl (by decide) y0 HB1.out ⟨HFY.out y0 (by simp), fun W hW => (HY.out y0 (by simp)).1.old (HPO.out W hW)⟩)
          simp only [cb_eq] at HAC
          go_wp2_with fail
          refine HAC.out.mono ?_
          rintro e w6 ⟨g3, es3, rs3, a3, cap3, P3, rfl, hB3, hP3, hL⟩
          have HL8 := Lib.hid hL
          simp only [List.set_cons_zero, List.set_cons_succ] at HL8
          have HB3 := Lib.hid hB3
          have HPO3 : Hid (∀ W, P3 W → Old w W) := fun W hW => HPO.out W (hP3 W hW)
          have HB23 := Lib.hid (HB2.out.weak hP3)
          have HB13 := Lib.hid (HB1.out.weak hP3)
          clear hL hB3 hP3 HL7 HAC v0 vf hl8 t0 t1 t2 t3 ht HB2 HPO HB1
          go_upto_region 11 with fail
          refine wp_name ?_
          intro w7 hw7
          have HL9 := Lib.hid (HL8.out.al1 hw7)
          simp only [List.nil_append, List.cons_append] at HL9
          obtain ⟨b12, hb12⟩ : ∃ b, w6.heap.size = b := ⟨_, rfl⟩
          rw [hb12] at HL9 ⊢
          clear hw7 hb12 HL8
          obtain ⟨v0, vf, hl8, _, _⟩ := HL9.out.c1 4 rfl
          have hbt := HL9.out.box 2 rfl
          have t0 := hbt.cell 4
          have t1 := hbt.cell 5
          have t2 := hbt.cell 6
          have t3 := hbt.cell 7
          have ht := hbt.lt
          simp [twoCells] at t0 t1 t2 t3
          clear hbt
          have HAC := Lib.hid (HL9.out.act13 5 0 rfl rfl (by decide) y1 HB23.out ⟨HFY.out y1 (by simp), fun W hW => (HY.out y1 (by simp)).1.old (HPO3.out W hW)⟩)
          simp only [cb_eq] at HAC
          go_wp2_with fail
          refine HAC.out.mono ?_
          rintro e w8 ⟨g4, es4, rs4, a4, cap4, P4, rfl, hB4, hP4, hL⟩
          have HL10 := Lib.hid hL
          simp only [List.set_cons_zero, List.set_cons_succ] at HL10
          have HB4 := Lib.hid hB4
          have HPO4 : Hid (∀ W, P4 W → Old w W) := fun W hW => HPO3.out W (hP4 W hW)
          have HB34 := Lib.hid (HB3.out.weak hP4)
          have HBW := Lib.hid (HB13.out.weak hP4)
          clear hL hB4 hP4 HL9 HAC v0 vf hl8 t0 t1 t2 t3 ht HB23 HPO3 HB13 HB3
          go_upto_region 12 with fail
          refine wp_name ?_
          intro w9 hw9
          have HL11 := Lib.hid ((HL10.out.al1 hw9).sel [0, 1, 5, 6, 3, 4, 7, 8] (l' := [stillT P4, queueT g3 es3, queueT g4 es4, allT bx (.slice ra zs.length rc) zs, box b6 4 #[.bool false], box b8 54 #[.slice a rs.length cap], box b12 54 #[.slice a3 rs3.length cap3], box w8.heap.size 54 #[.slice a4 rs4.length cap4]]) rfl (by decide))
          obtain ⟨b14, hb14⟩ : ∃ b, w8.heap.size = b := ⟨_, rfl⟩
          rw [hb14] at HL11 ⊢
          clear hw9 hb14 HL10
          obtain ⟨r0, rf, hl12, _, _⟩ := HL11.out.c1 6 rfl
          obtain ⟨s0, sf, hl14, _, _⟩ := HL11.out.c1 7 rfl
          have hP34 := HB34.out.2.2.2.2 _ (HL11.out.still 0 rfl)
          have hP44 := HB4.out.2.2.2.2 _ (HL11.out.still 0 rfl)
          have HSR := Lib.hid (Same_ref13 w9 a3 a4 cap3 cap4 rs3 rs4 hP34.2.1 hP44.2.1 (fun r hr => ⟨hP34.2.2 r hr, HB34.out.rnodes r hr⟩) (fun r hr => ⟨hP44.2.2 r hr, HB4.out.rnodes r hr⟩) (by rw [← HB34.out.len]; exact HB34.out.2.2.1) (by rw [← HB4.out.len]; exact HB4.out.2.2.1))
          clear hP34 hP44
          go_wp2_with fail
          refine HSR.out.mono ?_
          rintro e w10 ⟨same, rfl, hsm, ht⟩
          have HL12 := Lib.hid (HL11.out.touch ht)
          have HSM := Lib.hid hsm
          clear hsm ht HL11 HSR r0 rf hl12 s0 sf hl14
          have hnil := seq2_not_nil
          obtain ⟨r0, rf, hl12, _, _⟩ := HL12.out.c1 6 rfl
          go_wp2_with fail
          refine (HL12.out.is13 1 0 rfl rfl HB34.out 0 0 9999 (by omega)).mono ?_
          rintro e w11 ⟨rfl, ht⟩
          have HL13 := Lib.hid (HL12.out.touch ht)
          clear ht HL12 r0 rf hl12
          obtain ⟨s0, sf, hl14, _, _⟩ := HL13.out.c1 7 rfl
          go_wp2_with fail
          refine (HL13.out.is13 2 0 rfl rfl HB4.out 0 0 9999 (by omega)).mono ?_
          rintro e w12 ⟨rfl, ht⟩
          have HL14 := Lib.hid (HL13.out.touch ht)
          clear ht HL13 s0 sf hl14
          have h3 := HB34.out.2.2.2.2 _ (HL14.out.still 0 rfl)
          have h4 := HB4.out.2.2.2.2 _ (HL14.out.still 0 rfl)
          have HS1 := Lib.hid (fun W (hW : Touch [] w12 W) => Same_qq W g3 g4 es3 es4 ((HL14.out.touch hW).qAt 1 rfl) ((HL14.out.touch hW).qAt 2 rfl) (fun e he => ⟨(h3.1 e he).touch0 hW, HB34.out.2.2.2.1 e he⟩) (fun e he => ⟨(h4.1 e he).touch0 hW, HB4.out.2.2.2.1 e he⟩) HB34.out.2.2.1 HB4.out.2.2.1)
          have HS2 := Lib.hid (fun W (hW : Touch [] w12 W) => Same_qq W g4 g3 es4 es3 ((HL14.out.touch hW).qAt 2 rfl) ((HL14.out.touch hW).qAt 1 rfl) (fun e he => ⟨(h4.1 e he).touch0 hW, HB4.out.2.2.2.1 e he⟩) (fun e he => ⟨(h3.1 e he).touch0 hW, HB34.out.2.2.2.1 e he⟩) HB4.out.2.2.1 HB34.out.2.2.1)
          clear h3 h4
          go_wp2_with fail
          refine (HS1.out _ (Touch.refl [] _)).mono ?_
          rintro e w13 ⟨s1, rfl, hs1, ht⟩
          have he1 : s1 = same := by
            have h := HSM.out
            rw [← HB34.out.1, ← HB4.out.1] at h
            cases s1 <;> cases same <;> simp_all
          subst he1
          have HT13 := Lib.hid ht
          clear ht hs1 HS1
          go_wp2_with fail
          refine (HS2.out _ HT13.out).mono ?_
          rintro e w14 ⟨s2, rfl, hs2, ht⟩
          have he2 : s2 = s1 := by
            have h := HSM.out
            rw [← HB34.out.1, ← HB4.out.1] at h
            have h2 : es4.map ME.plain = es3.map ME.plain ↔ es3.map ME.plain = es4.map ME.plain := eq_comm
            rw [h2, ← h] at hs2
            cases s1 <;> cases s2 <;> simp_all
          subst he2
          have HL15 := Lib.hid ((HL14.out.touch (HT13.out.trans' ht)).sel [0, 1, 3, 4, 5] (l' := [stillT P4, queueT g3 es3, allT bx (.slice ra zs.length rc) zs, box b6 4 #[.bool false], box b8 54 #[.slice a rs.length cap]]) rfl (by decide)).marks0
          simp only [List.nil_append, List.cons_append] at HL15
          clear ht hs2 HS2 HL14 HSM HT13 HB34 HB4
          have hss : (s2 == s2) = true := by simp
          go_wp2_with fail
          have HYL : Hid (zs.length = rs.length) := by have := congrArg List.length HPZ.out; unfold Hid; simpa using this
          have HYN2 : Hid (∀ y ∈ zs, y.v.nodes ≤ 256) := fun y hy => by
            have hm : y.plain ∈ rs.map ME.plain := by rw [← HPZ.out]; exact List.mem_map_of_mem hy
            obtain ⟨r, hr, hpr⟩ := List.mem_map.1 hm
            rw [plain_nodes_eq hpr]; exact HBW.out.rnodes r hr
          have hrl : rs.length ≤ 4096 := by rw [← HBW.out.len]; exact hel
          refine wp_loop (QCInv T w P4 g3 es3 bx (.slice ra zs.length rc) zs b6 b8 a rs.length cap zero) qcMu (qc_start (by kernel_rfl) HL15.out) ?_
          clear HL15 hss hnil
          rintro A W ⟨k, u, Ds, rfl, hk, HL⟩
          simp only [qcFrame]
          by_cases hlt : k < 2
          · have hlt' : (k : Int) < 2 := by omega
            go_wp2_with fail
            refine wp_name ?_
            intro w9 hw9
            have HL9 := Lib.hid (HL.out.al1 hw9)
            obtain ⟨b18, hb18⟩ : ∃ b, W.heap.size = b := ⟨_, rfl⟩
            rw [hb18] at HL9 ⊢
            clear hw9 hb18 HL
            refine (wpIn_wide (n := 0)).1 ?_
            refine range_allL (bx := bx) (ra := ra) (rc := rc) (ys := zs) rfl rfl (by rw [HYL.out]; omega) HYN2.out (fun (j : Nat) => qcL P4 g3 es3 bx (.slice ra zs.length rc) zs b6 b8 a rs.length cap Ds ++ [box b18 3 #[.int .i64 (j : Int)]])
              (fun c lx => False) 2 (fun _ => rfl) HL9.out ?hround ?hdone (fun c W lx h => h.elim)
            case hround =>
              intro k x W o0 hk hxk h
              have hk' : k < rs.length := by rw [← HYL.out]; exact hk
              rw [HPZ.out, List.getElem?_map, List.getElem?_eq_getElem hk'] at hxk
              have HX : Hid (rs[k].plain = x.plain) := by unfold Hid; simpa using hxk
              obtain ⟨D, hD⟩ : ∃ D, w9.heap.size = D := ⟨_, rfl⟩
              rw [hD] at h ⊢
              have HK := Lib.hid h
              clear h hxk hD
              rw [ent_eq]
              gi_wp2
              refine ⟨_, HK.out.alloc _ _, fun W2 o h2 => ?_⟩
              obtain ⟨be, hbe⟩ : ∃ b, W.heap.size = b := ⟨_, rfl⟩
              rw [hbe] at h2 ⊢
              have HK2 := Lib.hid h2
              simp only [qcL, marks, List.nil_append, List.cons_append] at HK2
              clear hbe h2 HK
              have HVX : Hid (x.v.In W2) := HK2.out.valsIn 7 rfl _ (by simp)
              have hpw := HBW.out.2.2.2.2 W2 (HK2.out.still 0 rfl)
              have HLK := Lib.hid (hpw.2.2 rs[k] (List.getElem_mem hk'))
              have HLN := Lib.hid (HBW.out.rnodes rs[k] (List.getElem_mem hk'))
              obtain ⟨b2, o2, hbo2, hbb2, hent⟩ := hpw.2.1 k hk'
              clear hpw
              subst hbo2
              generalize rs[k] = y at hent HX HLK HLN
              have HY1 := Lib.hid hent
              have HX1 : Hid (EntAt W2 be 0 x) := by obtain ⟨c0, c1, c2, c3, c4, c5, c6, _⟩ := HK2.out.c7 10 rfl; exact ⟨c0, c1, c2, c3, c4, c5, c6⟩
              obtain ⟨_, _, _, _, _, _, _, _, zx, _, _⟩ := HK2.out.c7 10 rfl
              obtain ⟨n0, fn, zn, _, _⟩ := HK2.out.c1 6 rfl
              obtain ⟨l0, _, zl, _, _⟩ := HK2.out.c1 4 rfl
              have HN0 := Lib.hid n0
              have HL0 := Lib.hid l0
              have HSE := Lib.hid (fun W (hW : Touch [] W2 W) => SameEntry_ref x y W (HVX.out.touch0 hW) (HLK.out.touch0 hW) (by rw [plain_nodes_eq HX.out]; have := HLN.out; omega) (by have := HLN.out; omega))
              have HEQ : Hid (x.v.nodes ≤ 256 ∧ y.v.nodes ≤ 256 ∧ x.plain = y.plain) := ⟨by rw [plain_nodes_eq HX.out]; exact HLN.out, HLN.out, HX.out.symm⟩
              clear hent
              simp only [ent_eq] at HSE
              obtain ⟨x0, x1, x2, x3, x4, x5, x6⟩ := HX1.out
              obtain ⟨y0, y1, y2, y3, y4, y5, y6⟩ := HY1.out
              simp only [Nat.zero_add] at x1 x2 x3 x4 x5 x6
              have hg1 : ¬ (rs.length : Int) ≤ (k : Int) := by omega
              have hg2 : ¬ rs.length ≤ k := by omega
              have hg3 : (k : Int) < (rs.length : Int) := by omega
              have hg4 : decide ((rs.length : Int) ≤ (k : Int)) = false := by simp; omega
              have hk0 : (0 : Int) ≤ (k : Int) := by omega
              gi_wp2_with fail
              refine region_held_round (S := fun w' => w'.cell? ⟨b18, 0, none⟩ = some (.int .i64 (k : Int)) ∧ w'.cell? ⟨b8, 0, none⟩ = some (.slice (some ⟨b2, o2, none⟩) rs.length cap) ∧
                (w'.cell? ⟨be, 0, none⟩ = some (.int .i64 x.sync) ∧ w'.cell? ⟨be, 1, none⟩ = some (.int .i64 x.thread) ∧ w'.cell? ⟨be, 2, none⟩ = some (.int .i64 x.branch) ∧ w'.cell? ⟨be, 3, none⟩ = some (.int .i64 x.flag) ∧ w'.cell? ⟨be, 4, none⟩ = some (.int .i64 x.v.kind) ∧ w'.cell? ⟨be, 5, none⟩ = some (.int .i64 x.v.num) ∧ w'.cell? ⟨be, 6, none⟩ = some (.slice x.v.addr x.v.parts.length x.v.cap)) ∧
                (w'.cell? ⟨b2, o2 + k * 7, none⟩ = some (.int .i64 y.sync) ∧ w'.cell? ⟨b2, o2 + k * 7 + 1, none⟩ = some (.int .i64 y.thread) ∧ w'.cell? ⟨b2, o2 + k * 7 + 2, none⟩ = some (.int .i64 y.branch) ∧ w'.cell? ⟨b2, o2 + k * 7 + 3, none⟩ = some (.int .i64 y.flag) ∧ w'.cell? ⟨b2, o2 + k * 7 + 4, none⟩ = some (.int .i64 y.v.kind) ∧ w'.cell? ⟨b2, o2 + k * 7 + 5, none⟩ = some (.int .i64 y.v.num) ∧ w'.cell? ⟨b2, o2 + k * 7 + 6, none⟩ = some (.slice y.v.addr y.v.parts.length y.v.cap)))
                (by rintro ⟨_, _, h⟩; exact h) (by kernel_rfl) (by kernel_rfl) ?_ (fun hHeld => ?_)
              · (try dsimp only)
                go_keep
              refine wpAnyH_takeD (i := 0) (d := some 125) (v := ?_) rfl rfl (by kernel_rfl) (by kernel_rfl) (by kernel_rfl) (fun _ _ _ h => h) (Or.inl ⟨by rfl, ?_⟩) (by assumption) ?_
              rotate_left
              · intro w hSw
                (try dsimp only at hSw)
                first | (go_simp; done) | (go_simp; with_reducible rfl)
              (try simp only [Act.put, List.setIfInBounds_toArray, List.set_cons_zero, List.set_cons_succ])
              refine wpAnyH_takeD (i := 1) (d := some 126) (v := ?_) rfl rfl (by kernel_rfl) (by kernel_rfl) (by kernel_rfl) (fun _ _ _ h => h) (Or.inl ⟨by rfl, ?_⟩) (by assumption) ?_
              rotate_left
              · intro w hSw
                (try dsimp only at hSw)
                first | (go_simp; done) | (go_simp; with_reducible rfl)
              (try simp only [Act.put, List.setIfInBounds_toArray, List.set_cons_zero, List.set_cons_succ])
              refine wpAnyH_takeD (i := 2) (d := some 127) (v := ?_) rfl rfl (by kernel_rfl) (by kernel_rfl) (by kernel_rfl) (fun _ _ _ h => h) (Or.inl ⟨by rfl, ?_⟩) (by assumption) ?_
              rotate_left
              · intro w hSw
                (try dsimp only at hSw)
                first | (go_simp; done) | (go_simp; with_reducible rfl)
              (try simp only [Act.put, List.setIfInBounds_toArray, List.set_cons_zero, List.set_cons_succ])
              refine wpAnyH_takeD (i := 3) (d := some 128) (v := ?_) rfl rfl (by kernel_rfl) (by kernel_rfl) (by kernel_rfl) (fun _ _ _ h => h) (Or.inl ⟨by rfl, ?_⟩) (by assumption) ?_
              rotate_left
              · intro w hSw
                (try dsimp only at hSw)
                first | (go_simp; done) | (go_simp; with_reducible rfl)
              (try simp only [Act.put, List.setIfInBounds_toArray, List.set_cons_zero, List.set_cons_succ])
              refine wpAnyH_takeD (i := 4) (d := some 129) (v := ?_) rfl rfl (by kernel_rfl) (by kernel_rfl) (by kernel_rfl) (fun _ _ _ h => h) (Or.inl ⟨by rfl, ?_⟩) (by assumption) ?_
              rotate_left
              · intro w hSw
                (try dsimp only at hSw)
                first | (go_simp; done) | (go_simp; with_reducible rfl)
              (try simp only [Act.put, List.setIfInBounds_toArray, List.set_cons_zero, List.set_cons_succ])
              refine wpAnyH_takeD (i := 5) (d := some 130) (v := ?_) rfl rfl (by kernel_rfl) (by kernel_rfl) (by kernel_rfl) (fun _ _ _ h => h) (Or.inl ⟨by rfl, ?_⟩) (by assumption) ?_
              rotate_left
              · intro w hSw
                (try dsimp only at hSw)
                first | (go_simp; done) | (go_simp; with_reducible rfl)
              (try simp only [Act.put, List.setIfInBounds_toArray, List.set_cons_zero, List.set_cons_succ])
              refine wpAnyH_takeD (i := 6) (d := some 131) (v := ?_) rfl rfl (by kernel_rfl) (by kernel_rfl) (by kernel_rfl) (fun _ _ _ h => h) (Or.inl ⟨by rfl, ?_⟩) (by assumption) ?_
              rotate_left
              · intro w hSw
                (try dsimp only at hSw)
                first | (go_simp; done) | (go_simp; with_reducible rfl)
              (try simp only [Act.put, List.setIfInBounds_toArray, List.set_cons_zero, List.set_cons_succ])
              refine wpAnyH_takeD (i := 7) (d := some 132) (v := ?_) rfl rfl (by kernel_rfl) (by kernel_rfl) (by kernel_rfl) (fun _ _ _ h => h) (Or.inl ⟨by rfl, ?_⟩) (by assumption) ?_
              rotate_left
              · intro w hSw
                (try dsimp only at hSw)
                first | (go_simp; done) | (go_simp; with_reducible rfl)
              (try simp only [Act.put, List.setIfInBounds_toArray, List.set_cons_zero, List.set_cons_succ])
              refine wpAnyH_takeD (i := 8) (d := some 133) (v := ?_) rfl rfl (by kernel_rfl) (by kernel_rfl) (by kernel_rfl) (fun _ _ _ h => h) (Or.inl ⟨by rfl, ?_⟩) (by assumption) ?_
              rotate_left
              · intro w hSw
                (try dsimp only at hSw)
                first | (go_simp; done) | (go_simp; with_reducible rfl)
              (try simp only [Act.put, List.setIfInBounds_toArray, List.set_cons_zero, List.set_cons_succ])
              refine wpAnyH_takeD (i := 9) (d := some 134) (v := ?_) rfl rfl (by kernel_rfl) (by kernel_rfl) (by kernel_rfl) (fun _ _ _ h => h) (Or.inl ⟨by rfl, ?_⟩) (by assumption) ?_
              rotate_left
              · intro w hSw
                (try dsimp only at hSw)
                first | (go_simp; done) | (go_simp; with_reducible rfl)
              (try simp only [Act.put, List.setIfInBounds_toArray, List.set_cons_zero, List.set_cons_succ])
              refine wpAnyH_takeD (i := 10) (d := some 135) (v := ?_) rfl rfl (by kernel_rfl) (by kernel_rfl) (by kernel_rfl) (fun _ _ _ h => h) (Or.inl ⟨by rfl, ?_⟩) (by assumption) ?_
              rotate_left
              · intro w hSw
                (try dsimp only at hSw)
                first | (go_simp; done) | (go_simp; with_reducible rfl)
              (try simp only [Act.put, List.setIfInBounds_toArray, List.set_cons_zero, List.set_cons_succ])
              refine wpAnyH_takeD (i := 11) (d := some 136) (v := ?_) rfl rfl (by kernel_rfl) (by kernel_rfl) (by kernel_rfl) (fun _ _ _ h => h) (Or.inl ⟨by rfl, ?_⟩) (by assumption) ?_
              rotate_left
              · intro w hSw
                (try dsimp only at hSw)
                first | (go_simp; done) | (go_simp; with_reducible rfl)
              (try simp only [Act.put, List.setIfInBounds_toArray, List.set_cons_zero, List.set_cons_succ])
              refine wpAnyH_takeD (i := 12) (d := some 137) (v := ?_) rfl rfl (by kernel_rfl) (by kernel_rfl) (by kernel_rfl) (fun _ _ _ h => h) (Or.inl ⟨by rfl, ?_⟩) (by assumption) ?_
              rotate_left
              · intro w hSw
                (try dsimp only at hSw)
                first | (go_simp; done) | (go_simp; with_reducible rfl)
              (try simp only [Act.put, List.setIfInBounds_toArray, List.set_cons_zero, List.set_cons_succ])
              refine wpAnyH_takeD (i := 13) (d := some 138) (v := ?_) rfl rfl (by kernel_rfl) (by kernel_rfl) (by kernel_rfl) (fun _ _ _ h => h) (Or.inl ⟨by rfl, ?_⟩) (by assumption) ?_
              rotate_left
              · intro w hSw
                (try dsimp only at hSw)
                first | (go_simp; done) | (go_simp; with_reducible rfl)
              (try simp only [Act.put, List.setIfInBounds_toArray, List.set_cons_zero, List.set_cons_succ])
              refine wpAnyH_takeD (i := 14) (d := some 139) (v := ?_) rfl rfl (by kernel_rfl) (by kernel_rfl) (by kernel_rfl) (fun _ _ _ h => h) (Or.inl ⟨by rfl, ?_⟩) (by assumption) ?_
              rotate_left
              · intro w hSw
                (try dsimp only at hSw)
                first | (go_simp; done) | (go_simp; with_reducible rfl)
              (try simp only [Act.put, List.setIfInBounds_toArray, List.set_cons_zero, List.set_cons_succ])
              refine wpAnyH_takeD (i := 15) (d := some 140) (v := ?_) rfl rfl (by kernel_rfl) (by kernel_rfl) (by kernel_rfl) (fun _ _ _ h => h) (Or.inl ⟨by rfl, ?_⟩) (by assumption) ?_
              rotate_left
              · intro w hSw
                (try dsimp only at hSw)
                first | (go_simp; done) | (go_simp; with_reducible rfl)
              (try simp only [Act.put, List.setIfInBounds_toArray, List.set_cons_zero, List.set_cons_succ])
              refine wpAnyH_takeD (i := 16) (d := some 141) (v := ?_) rfl rfl (by kernel_rfl) (by kernel_rfl) (by kernel_rfl) (fun _ _ _ h => h) (Or.inl ⟨by rfl, ?_⟩) (by assumption) ?_
              rotate_left
              · intro w hSw
                (try dsimp only at hSw)
                first | (go_simp; done) | (go_simp; with_reducible rfl)
              (try simp only [Act.put, List.setIfInBounds_toArray, List.set_cons_zero, List.set_cons_succ])
              refine wpAnyH_ready (rs := [17]) (by kernel_rfl) (by simp) ?_
              refine AllReadyH.cons rfl (fun K hK => ?_) AllReadyH.nil
              go_simp
              refine (HSE.out _ (Touch.refl [] W2).drew).mono ?_
              rintro en wn ⟨cc, rfl, hcc, ht⟩
              obtain rfl : cc = true := hcc.2 HEQ.out
              have HT := Lib.hid ((Touch.refl [] W2).drew.trans' ht)
              clear ht hcc x0 x1 x2 x3 x4 x5 x6 y0 y1 y2 y3 y4 y5 y6 n0 l0 hHeld
              obtain ⟨x0, x1, x2, x3, x4, x5, x6⟩ := HX1.out.touch HT.out
              obtain ⟨y0, y1, y2, y3, y4, y5, y6⟩ := HY1.out.touch HT.out
              simp only [Nat.zero_add] at x1 x2 x3 x4 x5 x6
              have n0 := HT.out.cellOf HN0.out
              have l0 := HT.out.cellOf HL0.out
              go_simp
              refine hK.out _ _ ?_ (fun hHeld => ?_)
              · (try dsimp only)
                go_keep
              clear hK K
              (try simp only [Act.put, List.setIfInBounds_toArray, List.set_cons_zero, List.set_cons_succ])
              refine wpAnyH_takeD (i := 18) (d := some 143) (v := ?_) rfl rfl (by kernel_rfl) (by kernel_rfl) (by kernel_rfl) (fun _ _ _ h => h) (Or.inl ⟨by rfl, ?_⟩) (by assumption) ?_
              rotate_left
              · intro w hSw
                (try dsimp only at hSw)
                first | (go_simp; done) | (go_simp; with_reducible rfl)
              (try simp only [Act.put, List.setIfInBounds_toArray, List.set_cons_zero, List.set_cons_succ])
              refine wpAnyH_takeD (i := 19) (d := some 144) (v := ?_) rfl rfl (by kernel_rfl) (by kernel_rfl) (by kernel_rfl) (fun _ _ _ h => h) (Or.inl ⟨by rfl, ?_⟩) (by assumption) ?_
              rotate_left
              · intro w hSw
                (try dsimp only at hSw)
                first | (go_simp; done) | (go_simp; with_reducible rfl)
              (try simp only [Act.put, List.setIfInBounds_toArray, List.set_cons_zero, List.set_cons_succ])
              refine wpAnyH_done (by kernel_rfl) ?_ _
              have HK3 := Lib.hid (HK2.out.touch HT.out)
              clear x0 x1 x2 x3 x4 x5 x6 y0 y1 y2 y3 y4 y5 y6 n0 l0 hHeld fn zx zn zl HK2 hbb2
              obtain ⟨n0, fn, zn, _, _⟩ := HK3.out.c1 6 rfl
              gi_wp2_with fail
              have hs := HK3.out.set 6 rfl 0 (.int .i64 ((k : Int) + 1))
              exact ⟨[], hs.sel [0, 1, 2, 3, 4, 5, 6, 8, 9] rfl (by decide)⟩
            case hdone =>
              intro W h
              obtain ⟨D, hD⟩ : ∃ D, w9.heap.size = D := ⟨_, rfl⟩
              rw [hD] at h ⊢
              rw [HYL.out] at h
              have HK := Lib.hid h
              simp only [qcL, marks1, List.nil_append, List.cons_append] at HK
              clear h hD
              obtain ⟨n0, fn, zn, _, _⟩ := HK.out.c1 6 rfl
              obtain ⟨l0, _, zl, _, _⟩ := HK.out.c1 4 rfl
              have HM : Hid (Led T w W (qcL P4 g3 es3 bx (.slice ra rs.length rc) zs b6 b8 a rs.length cap (D :: Ds))) :=
                Led.addMark (l := [stillT P4, queueT g3 es3, allT bx (.slice ra rs.length rc) zs, box b6 4 #[.bool false], box b8 54 #[.slice a rs.length cap]]) (HK.out.sel [0, 1, 2, 3, 4, 7, 5] rfl (by decide))
              rw [← HYL.out] at HM
              dsimp only
              go_wp2_with fail
              exact qc_close (Ds := D :: Ds) (by kernel_rfl) hlt (by rw [HYL.out]; rw [HYL.out] at HM; exact HM)
          · have hlt' : ¬ (k : Int) < 2 := by omega
            have hbq0 := build_q0
            go_wp2_with fail
            · refine wp_calls_name ?_
              intro wq hwq
              obtain ⟨bz, hbz⟩ : ∃ b, W.heap.size = b := ⟨_, rfl⟩
              have HL1 := HL.out.al1 hwq
              have HL2 := Lib.hid (HL1.toStill 6 rfl (t := box W.heap.size 67 #[.bool false, .slice none 0 0]) (P := fun W' => NoQ W' (some ⟨W.heap.size, 0, none⟩)) (fun W' f hf => .inr ⟨_, rfl, hf.2.cell 0⟩))
              simp only [qcL, List.nil_append, List.cons_append, List.set_cons_succ, List.set_cons_zero] at HL2
              rw [hbz] at HL2 ⊢
              clear hwq hbz HL HL1
              have HL := Lib.hid HL2.out
              clear HL2
              (try simp only [qcL, List.nil_append, List.cons_append] at HL)
              refine (At_n _ _ (HL.out.noq 6 rfl) 0).mono ?_
              rintro e w21 ⟨rfl, ht⟩
              have HLN := Lib.hid (HL.out.touch ht)
              clear ht HL
              have HL := Lib.hid HLN.out
              clear HLN
              rw [zero_valC]
              go_wp2_with fail
              refine wp_calls_name ?_
              intro v22 hv
              have HLN := Lib.hid (HL.out.al1 hv).sub_end
              clear hv HL
              have HL := Lib.hid HLN.out
              clear HLN
              refine (Drop_n _ _ (HL.out.noq 6 rfl) 0).mono ?_
              rintro e w22 ⟨rfl, ht⟩
              have HLN := Lib.hid (HL.out.touch ht)
              clear ht HL
              have HL := Lib.hid HLN.out
              clear HLN
              rw [zero_valC]
              go_wp2_with fail
              refine wp_calls_name ?_
              intro v23 hv
              have HLN := Lib.hid (HL.out.al1 hv).sub_end
              clear hv HL
              have HL := Lib.hid HLN.out
              clear HLN
              refine (Next_n _ _ (HL.out.noq 6 rfl) 0 0).mono ?_
              rintro e w23 ⟨rfl, ht⟩
              have HLN := Lib.hid (HL.out.touch ht)
              clear ht HL
              have HL := Lib.hid HLN.out
              clear HLN
              go_wp2_with fail
              refine (All_n _ _ (HL.out.noq 6 rfl)).mono ?_
              rintro e w24 ⟨bx2, rfl, hL⟩
              have HLA := Lib.hid (HL.out.join hL)
              simp only [List.nil_append, List.cons_append] at HLA
              clear hL HL
              have hnil := seq2_not_nil
              go_wp2_with fail
              clear hnil
              refine (wpIn_wide (n := 0)).1 ?_
              refine range_allL (bx := bx2) (ra := none) (rc := 0) (ys := []) rfl rfl (by simp) (by simp) (fun (j : Nat) => [stillT P4, queueT g3 es3, allT bx (.slice ra zs.length rc) zs, box b6 4 #[.bool false], box b8 54 #[.slice a rs.length cap], marksT Ds, stillT (fun W => NoQ W (some ⟨bz, 0, none⟩)), allT bx2 (.slice none 0 0) []])
                (fun c lx => False) 7 (fun _ => rfl) HLA.out (fun k x W o0 hk hxk h => absurd hk (by simp)) (fun V h => ?_) (fun c W lx h => h.elim)
              obtain ⟨D, hD⟩ : ∃ D, w24.heap.size = D := ⟨_, rfl⟩
              rw [hD] at h ⊢
              have HK := Lib.hid h
              simp only [marks1, List.nil_append, List.cons_append] at HK
              have HL : Hid (Led T w V ([stillT P4, queueT g3 es3, allT bx (.slice ra zs.length rc) zs, box b6 4 #[.bool false], box b8 54 #[.slice a rs.length cap], stillT (fun W => NoQ W (some ⟨bz, 0, none⟩))] ++ [marksT (D :: Ds)])) :=
                Led.addMark (HK.out.sel [0, 1, 2, 3, 4, 6, 8, 5] rfl (by decide))
              simp only [List.nil_append, List.cons_append] at HL
              clear h hD HK HLA
              dsimp only
              --MARK1
              go_wp2_with fail
              refine (of13 0 0 _).mono ?_
              rintro e w25 ⟨rfl, ht⟩
              have HLN := Lib.hid (HL.out.touch ht)
              clear ht HL
              have HL := Lib.hid HLN.out
              clear HLN
              go_wp2_with fail
              refine wp_calls_name ?_
              intro v26 hv
              have HLN := Lib.hid (HL.out.al1 hv).sub_end
              clear hv HL
              have HL := Lib.hid HLN.out
              clear HLN
              refine (Push_n _ _ (HL.out.noq 5 rfl) _ _ _).mono ?_
              rintro e w26 ⟨rfl, ht⟩
              have HLN := Lib.hid (HL.out.touch ht)
              clear ht HL
              have HL := Lib.hid HLN.out
              clear HLN
              go_wp2_with fail
              refine (num13 _ _).mono ?_
              rintro e wn ⟨rfl, rfl⟩
              go_wp2_with fail
              refine (Len_n _ _ (HL.out.noq 5 rfl)).mono ?_
              rintro e w27 ⟨rfl, ht⟩
              have HLN := Lib.hid (HL.out.touch ht)
              clear ht HL
              have HL := Lib.hid HLN.out
              clear HLN
              go_wp2_with fail
              refine (Find_n _ _ (HL.out.noq 5 rfl) _).mono ?_
              rintro e w28 ⟨rfl, ht⟩
              have HLN := Lib.hid (HL.out.touch ht)
              clear ht HL
              have HL := Lib.hid HLN.out
              clear HLN
              go_wp2_with fail
              refine wp_calls_name ?_
              intro v29 hv
              have HLN := Lib.hid (HL.out.al1 hv).sub_end
              clear hv HL
              have HL := Lib.hid HLN.out
              clear HLN
              refine (Purge_n _ _ (HL.out.noq 5 rfl) _ _ _).mono ?_
              rintro e w29 ⟨rfl, ht⟩
              have HLN := Lib.hid (HL.out.touch ht)
              clear ht HL
              have HL := Lib.hid HLN.out
              clear HLN
              go_wp2_with fail
              refine (Copy_n _ _ (HL.out.noq 5 rfl)).mono ?_
              rintro e w30 ⟨rfl, ht⟩
              have HLN := Lib.hid (HL.out.touch ht)
              clear ht HL
              have HL := Lib.hid HLN.out
              clear HLN
              go_wp2_with fail
              refine (Same_nn _ _ (HL.out.noq 5 rfl)).mono ?_
              rintro e w31 ⟨rfl, ht⟩
              have HLN := Lib.hid (HL.out.touch ht)
              clear ht HL
              have HL := Lib.hid HLN.out
              clear HLN
              have HQ0 := Lib.hid (show w31.cell? ⟨g3, 0, none⟩ = some (.bool true) from by obtain ⟨_, _, hb, _⟩ := HL.out.qAt 1 rfl; exact hb.cell 0)
              go_wp2_with fail
              refine (Same_qn _ g3 HQ0.out _ (HL.out.noq 5 rfl)).mono ?_
              rintro e w32 ⟨rfl, ht⟩
              have HLN := Lib.hid (HL.out.touch ht)
              clear ht HL
              have HL := Lib.hid HLN.out
              clear HLN
              go_wp2_with fail
              refine (works13 _).mono ?_
              rintro e w33 ⟨rfl, ht⟩
              have HLN := Lib.hid (HL.out.touch ht)
              clear ht HL
              have HL := Lib.hid HLN.out
              clear HLN
              obtain ⟨q0, qf, zq, _, _⟩ := HL.out.c1 3 rfl
              go_wp2
              unfold owedC
              exact led_retMS (Ds := D :: Ds) Try.results7 rfl HL.out 3 rfl rfl 6 (by decide) rfl (fun W' h => ⟨rfl, (h.oldTouch (HPO4.out _ (h.still 0 rfl))).below⟩)
            · have HL1 := Lib.hid (HL.out.new (t' := stillT (fun W => NoQ W none)) (f' := []) ⟨by simp, fun _ _ => .inl rfl⟩ ⟨Touch.refl _ _, by simp⟩)
              clear HL
              have HL := Lib.hid HL1.out
              clear HL1
              (try simp only [qcL, List.nil_append, List.cons_append] at HL)
              refine (At_n _ _ (HL.out.noq 6 rfl) 0).mono ?_
              rintro e w21 ⟨rfl, ht⟩
              have HLN := Lib.hid (HL.out.touch ht)
              clear ht HL
              have HL := Lib.hid HLN.out
              clear HLN
              rw [zero_valC]
              go_wp2_with fail
              refine wp_calls_name ?_
              intro v22 hv
              have HLN := Lib.hid (HL.out.al1 hv).sub_end
              clear hv HL
              have HL := Lib.hid HLN.out
              clear HLN
              refine (Drop_n _ _ (HL.out.noq 6 rfl) 0).mono ?_
              rintro e w22 ⟨rfl, ht⟩
              have HLN := Lib.hid (HL.out.touch ht)
              clear ht HL
              have HL := Lib.hid HLN.out
              clear HLN
              rw [zero_valC]
              go_wp2_with fail
              refine wp_calls_name ?_
              intro v23 hv
              have HLN := Lib.hid (HL.out.al1 hv).sub_end
              clear hv HL
              have HL := Lib.hid HLN.out
              clear HLN
              refine (Next_n _ _ (HL.out.noq 6 rfl) 0 0).mono ?_
              rintro e w23 ⟨rfl, ht⟩
              have HLN := Lib.hid (HL.out.touch ht)
              clear ht HL
              have HL := Lib.hid HLN.out
              clear HLN
              go_wp2_with fail
              refine (All_n _ _ (HL.out.noq 6 rfl)).mono ?_
              rintro e w24 ⟨bx2, rfl, hL⟩
              have HLA := Lib.hid (HL.out.join hL)
              simp only [List.nil_append, List.cons_append] at HLA
              clear hL HL
              have hnil := seq2_not_nil
              go_wp2_with fail
              clear hnil
              refine (wpIn_wide (n := 0)).1 ?_
              refine range_allL (bx := bx2) (ra := none) (rc := 0) (ys := []) rfl rfl (by simp) (by simp) (fun (j : Nat) => [stillT P4, queueT g3 es3, allT bx (.slice ra zs.length rc) zs, box b6 4 #[.bool false], box b8 54 #[.slice a rs.length cap], marksT Ds, stillT (fun W => NoQ W none), allT bx2 (.slice none 0 0) []])
                (fun c lx => False) 7 (fun _ => rfl) HLA.out (fun k x W o0 hk hxk h => absurd hk (by simp)) (fun V h => ?_) (fun c W lx h => h.elim)
              obtain ⟨D, hD⟩ : ∃ D, w24.heap.size = D := ⟨_, rfl⟩
              rw [hD] at h ⊢
              have HK := Lib.hid h
              simp only [marks1, List.nil_append, List.cons_append] at HK
              have HL : Hid (Led T w V ([stillT P4, queueT g3 es3, allT bx (.slice ra zs.length rc) zs, box b6 4 #[.bool false], box b8 54 #[.slice a rs.length cap], stillT (fun W => NoQ W none)] ++ [marksT (D :: Ds)])) :=
                Led.addMark (HK.out.sel [0, 1, 2, 3, 4, 6, 8, 5] rfl (by decide))
              simp only [List.nil_append, List.cons_append] at HL
              clear h hD HK HLA
              dsimp only
              --MARK1
              go_wp2_with fail
              refine (of13 0 0 _).mono ?_
              rintro e w25 ⟨rfl, ht⟩
              have HLN := Lib.hid (HL.out.touch ht)
              clear ht HL
              have HL := Lib.hid HLN.out
              clear HLN
              go_wp2_with fail
              refine wp_calls_name ?_
              intro v26 hv
              have HLN := Lib.hid (HL.out.al1 hv).sub_end
              clear hv HL
              have HL := Lib.hid HLN.out
              clear HLN
              refine (Push_n _ _ (HL.out.noq 5 rfl) _ _ _).mono ?_
              rintro e w26 ⟨rfl, ht⟩
              have HLN := Lib.hid (HL.out.touch ht)
              clear ht HL
              have HL := Lib.hid HLN.out
              clear HLN
              go_wp2_with fail
              refine (num13 _ _).mono ?_
              rintro e wn ⟨rfl, rfl⟩
              go_wp2_with fail
              refine (Len_n _ _ (HL.out.noq 5 rfl)).mono ?_
              rintro e w27 ⟨rfl, ht⟩
              have HLN := Lib.hid (HL.out.touch ht)
              clear ht HL
              have HL := Lib.hid HLN.out
              clear HLN
              go_wp2_with fail
              refine (Find_n _ _ (HL.out.noq 5 rfl) _).mono ?_
              rintro e w28 ⟨rfl, ht⟩
              have HLN := Lib.hid (HL.out.touch ht)
              clear ht HL
              have HL := Lib.hid HLN.out
              clear HLN
              go_wp2_with fail
              refine wp_calls_name ?_
              intro v29 hv
              have HLN := Lib.hid (HL.out.al1 hv).sub_end
              clear hv HL
              have HL := Lib.hid HLN.out
              clear HLN
              refine (Purge_n _ _ (HL.out.noq 5 rfl) _ _ _).mono ?_
              rintro e w29 ⟨rfl, ht⟩
              have HLN := Lib.hid (HL.out.touch ht)
              clear ht HL
              have HL := Lib.hid HLN.out
              clear HLN
              go_wp2_with fail
              refine (Copy_n _ _ (HL.out.noq 5 rfl)).mono ?_
              rintro e w30 ⟨rfl, ht⟩
              have HLN := Lib.hid (HL.out.touch ht)
              clear ht HL
              have HL := Lib.hid HLN.out
              clear HLN
              go_wp2_with fail
              refine (Same_nn _ _ (HL.out.noq 5 rfl)).mono ?_
              rintro e w31 ⟨rfl, ht⟩
              have HLN := Lib.hid (HL.out.touch ht)
              clear ht HL
              have HL := Lib.hid HLN.out
              clear HLN
              have HQ0 := Lib.hid (show w31.cell? ⟨g3, 0, none⟩ = some (.bool true) from by obtain ⟨_, _, hb, _⟩ := HL.out.qAt 1 rfl; exact hb.cell 0)
              go_wp2_with fail
              refine (Same_qn _ g3 HQ0.out _ (HL.out.noq 5 rfl)).mono ?_
              rintro e w32 ⟨rfl, ht⟩
              have HLN := Lib.hid (HL.out.touch ht)
              clear ht HL
              have HL := Lib.hid HLN.out
              clear HLN
              go_wp2_with fail
              refine (works13 _).mono ?_
              rintro e w33 ⟨rfl, ht⟩
              have HLN := Lib.hid (HL.out.touch ht)
              clear ht HL
              have HL := Lib.hid HLN.out
              clear HLN
              obtain ⟨q0, qf, zq, _, _⟩ := HL.out.c1 3 rfl
              go_wp2
              unfold owedC
              exact led_retMS (Ds := D :: Ds) Try.results7 rfl HL.out 3 rfl rfl 6 (by decide) rfl (fun W' h => ⟨rfl, (h.oldTouch (HPO4.out _ (h.still 0 rfl))).below⟩)
end Go.Proofs.Ytihmbgdkllmkaaa
