/-
  The law's works() of layer 13 (betrothallaw13/law.go): it returns true, and nothing that was there has turned.
-/
import Derived.Test.YtihmbgdkllmkaaaQC
import Derived.Test.YtihmbgdkllmkaaaRefE
namespace Go.Proofs.Ytihmbgdkllmkaaa
open Go.RowKit Go.Shelf
set_option maxRecDepth 100000
set_option linter.unusedVariables false
set_option linter.unusedSimpArgs false
attribute [local go_sem] Oper.semAt_some

theorem num13 (n : Int) (w : World) : Calls Try.prog 15 #[.int .i64 n] w fun e w' => e = .returned (.int .i64 n) ∧ w = w' := by
  go_enter Try.func15, Try.ntmps15
  go_wp2
  go_ret
  exact ⟨rfl, rfl⟩
/-- The entry of a synchronization and a thread. -/
def ofE (s t : Int) : ME := ⟨s, t, 0, 0, MT.zero⟩
theorem build_of (s t : Int) (w : World) : (Instr.build 27 #[(0, .int .i64 s), (1, .int .i64 t)]).run Try.prog w = .ok (ofE s t).val w := run_build w 27 _ _ (by kernel_rfl)
theorem of13 (s t : Int) (w : World) : Calls Try.prog 17 #[.int .i64 s, .int .i64 t] w fun e w' => e = .returned (.agg #[.int .i64 s, .int .i64 t, .int .i64 0, .int .i64 0, .int .i64 0, .int .i64 0, .slice none 0 0]) ∧ Touch [] w w' := by
  have HT := Lib.hid ((Touch.refl [] w).alloc (.cells #[.int .i64 s, .int .i64 t, .int .i64 0, .int .i64 0, .int .i64 0, .int .i64 0, .slice none 0 0] 27))
  go_enter Try.func17, Try.ntmps17
  go_wp2
  refine bodyPost_ret (v := .agg #[.int .i64 s, .int .i64 t, .int .i64 0, .int .i64 0, .int .i64 0, .int .i64 0, .slice none 0 0]) (by simp [results, Try.results17, go_sem]) rfl ⟨rfl, HT.out⟩
theorem PushR.all {n : Nat} {xs : List PE} {k : Nat} {err : Int} (h : PushR n xs k err) (hok : ∀ x ∈ xs, x.Ok) (hn : n + xs.length ≤ 4096) : k = xs.length ∧ err = 0 := by
  obtain ⟨_, h2, h3, h4 | ⟨hk, h4 | h4⟩⟩ := h
  · exact ⟨h4.2, h4.1⟩
  · exact absurd (hok _ (List.getElem_mem hk)) h4.2
  · omega
theorem PushR.bad {n : Nat} {x : PE} {xs : List PE} {k : Nat} {err : Int} (h : PushR n (x :: xs) k err) (hb : ¬ x.Ok) : k = 0 ∧ err = 2 := by
  obtain ⟨h1, h2, h3, h4⟩ := h
  have hk : k = 0 := by
    by_cases hk : k = 0
    · exact hk
    · exact absurd (h1 0 (by simp) (by omega)) hb
  subst hk
  rcases h4 with h4 | ⟨hk, h4 | h4⟩
  · simp at h4
  · exact ⟨rfl, h4.1⟩
  · exact absurd h4.2.1 hb
/-- The plain entry of a synchronization and a thread. -/
def pOf (s t : Int) : PE := ⟨s, t, 0, 0, .mk 0 0 []⟩
theorem plain_of (s t : Int) : (ofE s t).plain = pOf s t := rfl
theorem pOf_ok {s t : Int} (hs : 0 ≤ s) (ht : 0 ≤ t) : (pOf s t).Ok := ⟨hs, ht, Int.le_refl 0, Int.le_refl 0, .inl rfl⟩
theorem pOf_nodes {x : ME} {s t : Int} (h : x.plain = pOf s t) : x.v.nodes ≤ 256 := by
  have h1 : x.v.plain = .mk 0 0 [] := congrArg PE.v h
  have h2 := MT.plain_nodes x.v
  rw [h1] at h2
  simp [MT.PT.nodes, MT.PT.nodesAll] at h2
  omega
theorem three_of {ys : List ME} {a b c : PE} (h : ys.map ME.plain = [a, b, c]) : ∃ y1 y2 y3, ys = [y1, y2, y3] ∧ y1.plain = a ∧ y2.plain = b ∧ y3.plain = c := by
  match ys, h with
  | [y1, y2, y3], h => simp at h; exact ⟨y1, y2, y3, rfl, h⟩
theorem f13a : IdxR (fun e => e.sync = 2) [pOf 1 7, pOf 2 8, pOf 1 7] 0 1 := .inr ⟨1, by decide, rfl, by decide, rfl, fun i hi _ hlt => by (have : i = 0 := by omega); subst this; simp [pOf]⟩
theorem f13b : IdxR (fun e => e.sync = 9) [pOf 1 7, pOf 2 8, pOf 1 7] 0 (-1) := .inl ⟨rfl, fun j hj _ => by match j, hj with | 0, _ => simp [pOf] | 1, _ => simp [pOf] | 2, _ => simp [pOf]⟩
theorem f13c : NextR (fun e => e.thread ≠ 7) [pOf 1 7, pOf 2 8, pOf 1 7] 0 1 true := ⟨1, .inr ⟨1, by decide, rfl, by decide, by simp [pOf], fun i hi _ hlt => by (have : i = 0 := by omega); subst this; simp [pOf]⟩, rfl, by decide⟩
theorem f13d : NextR (fun e => e.thread ≠ 7) [pOf 1 7, pOf 2 8, pOf 1 7] 2 0 false := ⟨-1, .inl ⟨rfl, fun j hj h => by match j, hj with | 0, _ => exact absurd h (by decide) | 1, _ => exact absurd h (by decide) | 2, _ => simp [pOf]⟩, rfl, by decide⟩
theorem purge13 {y2 y3 : ME} (e2 : y2.plain = pOf 2 8) (e3 : y3.plain = pOf 1 7) : ([y2, y3].filter fun e => !decide (e.plain.sync ∈ [1, 9])) = [y2] := by simp [e2, e3, pOf]
theorem SameEntry_of (x : ME) (s t : Int) (w : World) (hx : x.v.In w) (hp : x.plain = pOf s t) : Calls Try.prog 21 #[.agg #[.int .i64 x.sync, .int .i64 x.thread, .int .i64 x.branch, .int .i64 x.flag, .int .i64 x.v.kind, .int .i64 x.v.num, .slice x.v.addr x.v.parts.length x.v.cap], .agg #[.int .i64 s, .int .i64 t, .int .i64 0, .int .i64 0, .int .i64 0, .int .i64 0, .slice none 0 0]] w fun e w' => e = .returned (.bool true) ∧ Touch [] w w' := by
  have hn := pOf_nodes hp
  refine (SameEntry_ref x (ofE s t) w hx (MT.in_zero w) (by omega) (show MT.zero.nodes ≤ 1048576 by decide)).mono ?_
  rintro e w' ⟨c, rfl, hc, ht⟩
  obtain rfl : c = true := hc.2 ⟨hn, show MT.zero.nodes ≤ 256 by decide, hp⟩
  exact ⟨rfl, ht⟩
set_option maxHeartbeats 4000000 in
theorem works13 (w : World) : Calls Try.prog 12 #[] w fun e w' => e = .returned (.bool true) ∧ Touch [] w w' := by
  go_enter Try.func12, Try.ntmps12
  go_wp2_with fail
  refine (New_q w (Led.nil' w)).mono ?_
  rintro e w1 ⟨g, rfl, hL⟩
  have HL1 := Lib.hid hL.vals0
  simp only [List.nil_append, List.cons_append] at HL1
  clear hL
  go_wp2_with fail
  refine (of13 _ _ _).mono ?_
  rintro e w2 ⟨rfl, ht⟩
  have HL2 := Lib.hid (HL1.out.touch ht)
  clear ht HL1
  go_wp2_with fail
  refine (of13 _ _ _).mono ?_
  rintro e w3 ⟨rfl, ht⟩
  have HL3 := Lib.hid (HL2.out.touch ht)
  clear ht HL2
  go_wp2_with fail
  refine (of13 _ _ _).mono ?_
  rintro e w4 ⟨rfl, ht⟩
  have HL4 := Lib.hid (HL3.out.touch ht)
  clear ht HL3
  go_wp2_with fail
  refine ((HL4.out.alloc _ _).qPush (xs := [ofE 1 7, ofE 2 8, ofE 1 7]) 0 1 rfl rfl (by decide) (fun W hW => ⟨ents_box rfl (hW 2 _ (by decide) rfl), fun x hx => by simp [ofE] at hx; rcases hx with rfl | rfl | rfl <;> exact MT.in_zero W⟩) (by decide) (by decide)).mono ?_
  rintro e w5 ⟨k, err, ys, rfl, hR, hp, hL5⟩
  obtain ⟨rfl, rfl⟩ := hR.all (by simp [plain_of]; exact ⟨pOf_ok (by decide) (by decide), pOf_ok (by decide) (by decide), pOf_ok (by decide) (by decide)⟩) (by decide)
  obtain ⟨ya, yb, yc, rfl, e1, e2, e3⟩ := three_of (a := pOf 1 7) (b := pOf 2 8) (c := pOf 1 7) hp
  have HL5 := Lib.hid hL5
  simp only [List.nil_append, List.cons_append, List.set_cons_succ, List.set_cons_zero, List.map_cons, List.map_nil] at HL5
  have HE := Lib.hid (And.intro e1 (And.intro e2 e3))
  clear hL5 hR hp e1 e2 e3 HL4
  go_wp2_with fail
  refine (Len_q w5 g _ (HL5.out.qAt 0 rfl)).mono ?_
  rintro e w' ⟨rfl, rfl⟩
  have hlen : ((([ya, yb, yc] : List ME).length : Nat) : Int) = 3 := rfl
  rw [hlen]
  clear hlen
  have HM : Hid (([ya, yb, yc] : List ME).map ME.plain = [pOf 1 7, pOf 2 8, pOf 1 7]) := by unfold Hid; simp [HE.out.1, HE.out.2.1, HE.out.2.2]
  go_wp2_with fail
  refine (Find_q w5 g _ 2 (HL5.out.qAt 0 rfl)).mono ?_
  rintro e w6 ⟨r, rfl, hr, ht⟩
  rw [HM.out] at hr
  obtain rfl := hr.unique f13a
  have HL6 := Lib.hid (HL5.out.touch ht)
  clear hr ht HL5
  go_wp2_with fail
  refine (Find_q w6 g _ 9 (HL6.out.qAt 0 rfl)).mono ?_
  rintro e w7 ⟨r, rfl, hr, ht⟩
  rw [HM.out] at hr
  obtain rfl := hr.unique f13b
  have HL7 := Lib.hid (HL6.out.touch ht)
  clear hr ht HL6
  go_wp2_with fail
  refine (Next_q w7 g _ 0 7 (HL7.out.qAt 0 rfl)).mono ?_
  rintro e w8 ⟨r, c, rfl, hr, ht⟩
  rw [HM.out] at hr
  obtain ⟨rfl, rfl⟩ := hr.unique f13c
  have HL8 := Lib.hid (HL7.out.touch ht)
  clear hr ht HL7
  go_wp2_with fail
  refine (Next_q w8 g _ 2 7 (HL8.out.qAt 0 rfl)).mono ?_
  rintro e w9 ⟨r, c, rfl, hr, ht⟩
  rw [HM.out] at hr
  obtain ⟨rfl, rfl⟩ := hr.unique f13d
  have HL9 := Lib.hid (HL8.out.touch ht)
  clear hr ht HL8
  go_wp2_with fail
  refine (HL9.out.qDrop 0 rfl 0 (by simp)).mono ?_
  rintro e w10 (⟨x, _, hx, rfl, hL⟩ | ⟨hn, _⟩)
  rotate_left
  · exact absurd ⟨by decide, by simp⟩ hn
  obtain rfl : ya = x := by simpa using hx
  have HL10 := Lib.hid hL
  simp only [List.set_cons_succ, List.set_cons_zero, Int.toNat_zero, List.eraseIdx_cons_zero] at HL10
  clear hL hx HL9 HM
  have HB : Hid (∃ b, w4.heap.size = b) := ⟨_, rfl⟩
  obtain ⟨b4, hb4⟩ := HB.out
  rw [hb4] at HL10 ⊢
  clear HB hb4
  simp only [ent_eq]
  go_wp2_with fail
  have HL11 := Lib.hid (HL10.out.alloc 27 #[.int .i64 ya.sync, .int .i64 ya.thread, .int .i64 ya.branch, .int .i64 ya.flag, .int .i64 ya.v.kind, .int .i64 ya.v.num, .slice ya.v.addr ya.v.parts.length ya.v.cap])
  simp only [List.nil_append, List.cons_append] at HL11
  refine (HL11.out.qAt1 0 1 rfl rfl (fun e he => by simp at he; rcases he with rfl | rfl; exact ⟨by simp, pOf_nodes HE.out.2.1⟩; exact ⟨by simp, pOf_nodes HE.out.2.2⟩) 0).mono ?_
  rintro e w11 ⟨xb, c, rfl, hR, hL⟩
  obtain ⟨rfl, hx2⟩ : c = true ∧ xb.plain = pOf 2 8 := by
    rcases hR with ⟨h1, _, h3⟩ | ⟨_, h2, _⟩
    · simp [HE.out.2.1] at h3
      exact ⟨h1, h3.symm⟩
    · exact absurd ⟨by decide, by simp⟩ h2
  have HX2 := Lib.hid hx2
  have HL12 := Lib.hid hL
  simp only [List.nil_append, List.cons_append, List.set_cons_succ, List.set_cons_zero] at HL12
  clear hL hR hx2 HL10 HL11
  have HB : Hid (∃ b, w10.heap.size = b) := ⟨_, rfl⟩
  obtain ⟨bx, hbx⟩ := HB.out
  rw [hbx] at HL12 ⊢
  clear HB hbx
  simp only [ent_eq]
  go_wp2_with fail
  have HL13 := Lib.hid (HL12.out.alloc 27 #[.int .i64 xb.sync, .int .i64 xb.thread, .int .i64 xb.branch, .int .i64 xb.flag, .int .i64 xb.v.kind, .int .i64 xb.v.num, .slice xb.v.addr xb.v.parts.length xb.v.cap])
  simp only [List.nil_append, List.cons_append] at HL13
  refine (of13 _ _ _).mono ?_
  rintro e w12 ⟨rfl, ht⟩
  have HL14 := Lib.hid (HL13.out.touch ht)
  clear ht HL13 HL12
  have HB : Hid (∃ b, w11.heap.size = b) := ⟨_, rfl⟩
  obtain ⟨by_, hby⟩ := HB.out
  rw [hby] at HL14 ⊢
  clear HB hby
  go_wp2_with fail
  refine ((HL14.out.alloc _ _).qPush (xs := [ofE (-1) 0]) 0 1 rfl rfl (by decide) (fun W hW => ⟨ents_box rfl (hW 5 _ (by decide) rfl), fun x hx => by simp [ofE] at hx; rcases hx with rfl; exact MT.in_zero W⟩) (by decide) (by simp)).mono ?_
  rintro e w13 ⟨k, err, ys, rfl, hR, hp, hL⟩
  obtain ⟨rfl, rfl⟩ := hR.bad (by rintro ⟨h, _⟩; exact absurd h (by decide))
  obtain rfl : ys = [] := by simpa using hp
  have HL15 := Lib.hid hL
  simp only [List.nil_append, List.cons_append, List.set_cons_succ, List.set_cons_zero, List.map_cons, List.map_nil, List.append_nil] at HL15
  clear hL hR hp HL14
  go_wp2_with fail
  refine ((HL15.out.alloc _ _).qPurge (zs := [1, 9]) 0 rfl (fun W hW => ints_box rfl (hW 6 _ (by decide) rfl)) (by simp) (by simp)).mono ?_
  rintro e w14 ⟨rfl, hL⟩
  rw [purge13 HE.out.2.1 HE.out.2.2] at hL ⊢
  have hlen : ((([yb, yc] : List ME).length - ([yb] : List ME).length : Nat) : Int) = 1 := rfl
  rw [hlen]
  have HL16 := Lib.hid hL
  simp only [List.nil_append, List.cons_append, List.set_cons_succ, List.set_cons_zero] at HL16
  clear hL hlen HL15
  go_wp2_with fail
  refine (HL16.out.qAt1 0 1 rfl rfl (fun e he => by simp at he; subst he; exact ⟨by simp, pOf_nodes HE.out.2.1⟩) 1).mono ?_
  rintro e w15 ⟨xc, c, rfl, hR, hL⟩
  obtain rfl : c = false := by
    rcases hR with ⟨h1, _, h3⟩ | ⟨h1, h2, _⟩
    · simp at h3
    · exact h1
  have HL17 := Lib.hid hL
  simp only [List.nil_append, List.cons_append, List.set_cons_succ, List.set_cons_zero] at HL17
  clear hL hR HL16
  simp only [ent_eq]
  go_wp2_with fail
  refine wp_name ?_
  intro w16 hw16
  have HL18 := Lib.hid (HL17.out.al1 hw16)
  have HX1 : Hid (EntAt w16 bx 0 ya) := by obtain ⟨c0, c1, c2, c3, c4, c5, c6, _⟩ := HL18.out.c7 3 rfl; exact ⟨c0, c1, c2, c3, c4, c5, c6⟩
  have HY1 : Hid (EntAt w16 by_ 0 xb) := by obtain ⟨c0, c1, c2, c3, c4, c5, c6, _⟩ := HL18.out.c7 4 rfl; exact ⟨c0, c1, c2, c3, c4, c5, c6⟩
  obtain ⟨_, _, _, _, _, _, _, _, zx, _, _⟩ := HL18.out.c7 3 rfl
  obtain ⟨_, _, _, _, _, _, _, _, zy, _, _⟩ := HL18.out.c7 4 rfl
  have HVX : Hid (ya.v.In w16) := HL18.out.valsIn 1 rfl _ (by simp)
  have HVY : Hid (xb.v.In w16) := HL18.out.valsIn 1 rfl _ (by simp)
  have HQ : Hid (QAt w16 g [yb]) := HL18.out.qAt 0 rfl
  have HSX := Lib.hid (fun x s t (h : (x = ya ∧ s = 1 ∧ t = 7) ∨ (x = xb ∧ s = 2 ∧ t = 8)) W (hW : Touch [] w16 W) => SameEntry_of x s t W (by rcases h with ⟨rfl, _⟩ | ⟨rfl, _⟩; exact HVX.out.touch0 hW; exact HVY.out.touch0 hW) (by rcases h with ⟨rfl, rfl, rfl⟩ | ⟨rfl, rfl, rfl⟩; exact HE.out.1; exact HX2.out))
  have HLN : Hid (∀ W (hW : Touch [] w16 W), Calls Try.prog 19 #[.pointer (some ⟨g, 0, none⟩)] W fun e w' => e = .returned (.int .i64 1) ∧ W = w') := fun W hW => Len_q W g _ (HQ.out.touch hW)
  have HTT := Lib.hid HL18.out.tch
  have HTm := Lib.hid ((Touch.refl [] w16).drew)
  clear hw16 HL17 HL18 HVX HVY HQ HE HX2
  (obtain ⟨x0, x1, x2, x3, x4, x5, x6⟩ := HX1.out.touch HTm.out; obtain ⟨y0, y1, y2, y3, y4, y5, y6⟩ := HY1.out.touch HTm.out; simp only [Nat.zero_add] at x1 x2 x3 x4 x5 x6 y1 y2 y3 y4 y5 y6)
  go_region_held3 (fun w' => w'.cell? ⟨bx, 0, none⟩ = some (.int .i64 ya.sync) ∧ w'.cell? ⟨bx, 1, none⟩ = some (.int .i64 ya.thread) ∧ w'.cell? ⟨bx, 2, none⟩ = some (.int .i64 ya.branch) ∧ w'.cell? ⟨bx, 3, none⟩ = some (.int .i64 ya.flag) ∧ w'.cell? ⟨bx, 4, none⟩ = some (.int .i64 ya.v.kind) ∧ w'.cell? ⟨bx, 5, none⟩ = some (.int .i64 ya.v.num) ∧ w'.cell? ⟨bx, 6, none⟩ = some (.slice ya.v.addr ya.v.parts.length ya.v.cap) ∧
      w'.cell? ⟨by_, 0, none⟩ = some (.int .i64 xb.sync) ∧ w'.cell? ⟨by_, 1, none⟩ = some (.int .i64 xb.thread) ∧ w'.cell? ⟨by_, 2, none⟩ = some (.int .i64 xb.branch) ∧ w'.cell? ⟨by_, 3, none⟩ = some (.int .i64 xb.flag) ∧ w'.cell? ⟨by_, 4, none⟩ = some (.int .i64 xb.v.kind) ∧ w'.cell? ⟨by_, 5, none⟩ = some (.int .i64 xb.v.num) ∧ w'.cell? ⟨by_, 6, none⟩ = some (.slice xb.v.addr xb.v.parts.length xb.v.cap)) (go_keep)
    (first
    | (go_at_call 15; refine (num13 _ _).mono ?_; rintro en wn ⟨rfl, rfl⟩)
    | (go_at_call 19; refine (HLN.out _ HTm.out).mono ?_; rintro en wn ⟨rfl, rfl⟩)
    | (go_at_call 17; refine (of13 _ _ _).mono ?_; rintro en wn ⟨rfl, ht⟩; have HTm := Lib.hid (HTm.out.trans' ht); clear ht x0 x1 x2 x3 x4 x5 x6 y0 y1 y2 y3 y4 y5 y6; (obtain ⟨x0, x1, x2, x3, x4, x5, x6⟩ := HX1.out.touch HTm.out; obtain ⟨y0, y1, y2, y3, y4, y5, y6⟩ := HY1.out.touch HTm.out; simp only [Nat.zero_add] at x1 x2 x3 x4 x5 x6 y1 y2 y3 y4 y5 y6))
    | (go_at_call 21; refine (HSX.out _ _ _ (by first | exact Or.inl ⟨rfl, rfl, rfl⟩ | exact Or.inr ⟨rfl, rfl, rfl⟩) _ HTm.out).mono ?_; rintro en wn ⟨rfl, ht⟩; have HTm := Lib.hid (HTm.out.trans' ht); clear ht x0 x1 x2 x3 x4 x5 x6 y0 y1 y2 y3 y4 y5 y6; (obtain ⟨x0, x1, x2, x3, x4, x5, x6⟩ := HX1.out.touch HTm.out; obtain ⟨y0, y1, y2, y3, y4, y5, y6⟩ := HY1.out.touch HTm.out; simp only [Nat.zero_add] at x1 x2 x3 x4 x5 x6 y1 y2 y3 y4 y5 y6)))
  clear x0 x1 x2 x3 x4 x5 x6 y0 y1 y2 y3 y4 y5 y6
  go_wp2
  go_ret
  exact ⟨rfl, HTT.out.trans' HTm.out⟩
end Go.Proofs.Ytihmbgdkllmkaaa
