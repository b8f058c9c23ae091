/-
  Texts 4 of 5 that ChannelCopies rests on, laid together by program: Pushed, Act14, Act14b, Act14c, Act14d, Act14e, Chan4, Act14f, Act14g, Over14, Is14, Made14, ChannelPlaysW.
-/
import Derived.Test.YtihmbgdkllmkaaaDoorCC1
import Derived.Test.YtihmbgdkllmkaaaDoorCC2
import Derived.Test.YtihmbgdkllmkaaaDoorCC3
/-
  A push on both: the queue's and the reference's answers are the same, and both stand as before.
-/
namespace Go.Proofs.YtihmbgdkllmkaaaDoor
open Go.RowKit Go.Shelf
set_option maxRecDepth 100000
set_option linter.unusedVariables false
set_option linter.unusedSimpArgs false

theorem push_one {n k : Nat} {p : PE} {err2 err : Int} (h : PushR n [p] k err2) (hr : (err = 2 ∧ ¬ p.Ok) ∨ (err = 6 ∧ p.Ok ∧ n = 4096) ∨ (err = 0 ∧ p.Ok ∧ n < 4096)) (hn : n ≤ 4096) : err2 = err ∧ k = if err = 0 then 1 else 0 := by
  have h2 : PushR n [p] (if err = 0 then 1 else 0) err := by
    rcases hr with ⟨rfl, hk⟩ | ⟨rfl, hk, hn'⟩ | ⟨rfl, hk, hn'⟩
    · exact ⟨fun i hi h => by simp at h, by simpa using hn, by simp, .inr ⟨by simp, .inl ⟨rfl, by simpa using hk⟩⟩⟩
    · exact ⟨fun i hi h => by simp at h, by simpa using hn, by simp, .inr ⟨by simp, .inr ⟨rfl, by simpa using hk, by simpa using hn'⟩⟩⟩
    · exact ⟨fun i hi h => by simp at hi; subst hi; simpa using hk, by simp; omega, by simp, .inl ⟨rfl, by simp⟩⟩
  obtain ⟨h3, h4⟩ := h.unique h2
  exact ⟨h4, h3⟩
theorem Both13.pushed {P P1 : World → Prop} {es rs rs1 ys : List ME} {a a1 : Option Addr} {cap cap1 k : Nat} {x : ME} {err2 err : Int} (h : Both13 P es rs a cap) (hP1 : ∀ W, P1 W → P W ∧ EntsAt W a1 rs1) (hc1 : rs1.length ≤ cap1) (hx : x.v.nodes ≤ 256) (hin : ∀ W, P W → x.v.In W)
    (hr : (err = 2 ∧ ¬ x.plain.Ok ∧ rs1 = rs) ∨ (err = 6 ∧ x.plain.Ok ∧ rs.length = 4096 ∧ rs1 = rs) ∨ (err = 0 ∧ x.plain.Ok ∧ rs.length < 4096 ∧ rs1 = rs ++ [x])) (hR : PushR es.length [x.plain] k err2) (hy : ys.map ME.plain = [x.plain].take k) :
    err2 = err ∧ Both13 (fun W => P1 W ∧ ∀ y ∈ ys, y.v.In W) (es ++ ys) rs1 a1 cap1 := by
  have hl := h.len
  have hl4 := h.2.2.1
  obtain ⟨he, hk⟩ := push_one hR (err := err) (by rcases hr with ⟨h1, h2, _⟩ | ⟨h1, h2, h3, _⟩ | ⟨h1, h2, h3, _⟩; exact .inl ⟨h1, h2⟩; exact .inr (.inl ⟨h1, h2, by omega⟩); exact .inr (.inr ⟨h1, h2, by omega⟩)) hl4
  refine ⟨he, ?_⟩
  have hin1 : ∀ W, P1 W → ∀ r ∈ rs1, r.v.In W := fun W hW r hr' => by
    have hpw := (hP1 W hW).1
    rcases hr with ⟨_, _, h3⟩ | ⟨_, _, _, h3⟩ | ⟨_, _, _, h3⟩
    · rw [h3] at hr'; exact (h.2.2.2.2 W hpw).2.2 r hr'
    · rw [h3] at hr'; exact (h.2.2.2.2 W hpw).2.2 r hr'
    · rw [h3] at hr'
      rcases List.mem_append.1 hr' with h4 | h4
      · exact (h.2.2.2.2 W hpw).2.2 r h4
      · simp at h4; subst h4; exact hin W hpw
  have hpl : (es ++ ys).map ME.plain = rs1.map ME.plain ∧ (es ++ ys).length ≤ 4096 := by
    rw [List.map_append, hy, hk, h.1]
    rcases hr with ⟨rfl, _, rfl⟩ | ⟨rfl, _, _, rfl⟩ | ⟨rfl, _, h3, rfl⟩
    · have : ys = [] := by rw [hk] at hy; simpa using hy
      subst this; simp; exact hl4
    · have : ys = [] := by rw [hk] at hy; simpa using hy
      subst this; simp; exact hl4
    · have : ys.length = 1 := by have := congrArg List.length hy; rw [hk] at this; simpa using this
      simp [this]; omega
  refine ⟨hpl.1, hc1, hpl.2, fun e he' => ?_, fun W hW => ⟨fun e he' => ?_, (hP1 W hW.1).2, hin1 W hW.1⟩⟩
  · rcases List.mem_append.1 he' with h4 | h4
    · exact h.2.2.2.1 e h4
    · have hm : e.plain ∈ [x.plain].take k := by rw [← hy]; exact List.mem_map_of_mem h4
      have := List.mem_of_mem_take hm
      simp at this
      rw [plain_nodes_eq this.symm]
      exact hx
  · rcases List.mem_append.1 he' with h4 | h4
    · exact (h.2.2.2.2 W (hP1 W hW.1).1).1 e h4
    · exact hW.2 e h4
end Go.Proofs.YtihmbgdkllmkaaaDoor

/-
  act() of law 14 (betrothallaw14/law.go): one call by both: a push.
-/
namespace Go.Proofs.YtihmbgdkllmkaaaDoor
open Go.RowKit Go.Shelf
set_option maxRecDepth 100000
set_option linter.unusedVariables false
set_option linter.unusedSimpArgs false

section
variable {T : List Nat} {w0 w : World} {l : List Thing} {b t : Nat}
theorem Led.c8' (h : Led T w0 w l) (i : Nat) {x0 x1 x2 x3 x4 x5 x6 x7 : Value} (hi : l[i]? = some (Proofs.YtihmbgdkllmkaaaDoor.box b t #[x0, x1, x2, x3, x4, x5, x6, x7])) : w.cell? ⟨b, 0, none⟩ = some x0 ∧ w.cell? ⟨b, 1, none⟩ = some x1 ∧ w.cell? ⟨b, 2, none⟩ = some x2 ∧ w.cell? ⟨b, 3, none⟩ = some x3 ∧ w.cell? ⟨b, 4, none⟩ = some x4 ∧ w.cell? ⟨b, 5, none⟩ = some x5 ∧ w.cell? ⟨b, 6, none⟩ = some x6 ∧ w.cell? ⟨b, 7, none⟩ = some x7 ∧ (w.frozen? ⟨b, 0, none⟩ = false ∧ w.frozen? ⟨b, 1, none⟩ = false ∧ w.frozen? ⟨b, 2, none⟩ = false ∧ w.frozen? ⟨b, 3, none⟩ = false ∧ w.frozen? ⟨b, 4, none⟩ = false ∧ w.frozen? ⟨b, 5, none⟩ = false ∧ w.frozen? ⟨b, 6, none⟩ = false ∧ w.frozen? ⟨b, 7, none⟩ = false) ∧ b < w.heap.size := by
  have hb := h.box i hi
  exact ⟨hb.cell 0, hb.cell 1, hb.cell 2, hb.cell 3, hb.cell 4, hb.cell 5, hb.cell 6, hb.cell 7, ⟨hb.frozen 0, hb.frozen 1, hb.frozen 2, hb.frozen 3, hb.frozen 4, hb.frozen 5, hb.frozen 6, hb.frozen 7⟩, hb.lt⟩
theorem Led.c10 (h : Led T w0 w l) (i : Nat) {x0 x1 x2 x3 x4 x5 x6 x7 x8 x9 : Value} (hi : l[i]? = some (Proofs.YtihmbgdkllmkaaaDoor.box b t #[x0, x1, x2, x3, x4, x5, x6, x7, x8, x9])) : w.cell? ⟨b, 0, none⟩ = some x0 ∧ w.cell? ⟨b, 1, none⟩ = some x1 ∧ w.cell? ⟨b, 2, none⟩ = some x2 ∧ w.cell? ⟨b, 3, none⟩ = some x3 ∧ w.cell? ⟨b, 4, none⟩ = some x4 ∧ w.cell? ⟨b, 5, none⟩ = some x5 ∧ w.cell? ⟨b, 6, none⟩ = some x6 ∧ w.cell? ⟨b, 7, none⟩ = some x7 ∧ w.cell? ⟨b, 8, none⟩ = some x8 ∧ w.cell? ⟨b, 9, none⟩ = some x9 ∧ b < w.heap.size := by
  have hb := h.box i hi
  exact ⟨hb.cell 0, hb.cell 1, hb.cell 2, hb.cell 3, hb.cell 4, hb.cell 5, hb.cell 6, hb.cell 7, hb.cell 8, hb.cell 9, hb.lt⟩
end
theorem Led.r14Push1 {T : List Nat} {w0 w : World} {l : List Thing} {P : World → Prop} (h : Led T w0 w l) (j : Nat) (hj : l[j]? = some (stillT P)) (cell : Int) (a1 : Option Addr) (c1 : Nat) (rs1 : List ME) (a2 : Option Addr) (c2 : Nat) (rs2 : List ME) (x : ME) (hcap : rs1.length ≤ c1) (hP : ∀ W, P W → EntsAt W a1 rs1 ∧ x.v.In W) (hnx : x.v.nodes ≤ 1048576) (hlen : rs1.length ≤ 4096) :
    Calls Tryd.prog 50 #[.agg #[.int .i64 cell, .slice a1 rs1.length c1, .slice a2 rs2.length c2], .int .i64 1, x.val] w fun e w' => ∃ (err : Int) (a' : Option Addr) (cap' : Nat) (rs' : List ME), e = .returned (.tuple #[.agg #[.int .i64 cell, .slice a' rs'.length cap', .slice a2 rs2.length c2], .int .i64 err]) ∧ rs'.length ≤ cap' ∧ Pushed14 rs1 x err rs' ∧ ∃ P' : World → Prop, (∀ W, P' W → P W ∧ EntsAt W a' rs') ∧ Led T w0 w' (l.set j (stillT P')) := by
  obtain ⟨T', h1, hb⟩ := h.frame1 j hj
  refine (Push_ref14_1 T' w P cell a1 c1 rs1 a2 c2 rs2 x hcap h1 hP hnx hlen).mono ?_
  rintro e w' ⟨err, a', cap', rs', rest, rfl, hcp, hc, P', hP', hL⟩
  exact ⟨err, a', cap', rs', rfl, hcp, hc, P', hP', hb _ _ _ hL⟩
theorem Led.r14Push2 {T : List Nat} {w0 w : World} {l : List Thing} {P : World → Prop} (h : Led T w0 w l) (j : Nat) (hj : l[j]? = some (stillT P)) (cell : Int) (a1 : Option Addr) (c1 : Nat) (rs1 : List ME) (a2 : Option Addr) (c2 : Nat) (rs2 : List ME) (x : ME) (hcap : rs2.length ≤ c2) (hP : ∀ W, P W → EntsAt W a2 rs2 ∧ x.v.In W) (hnx : x.v.nodes ≤ 1048576) (hlen : rs2.length ≤ 4096) :
    Calls Tryd.prog 50 #[.agg #[.int .i64 cell, .slice a1 rs1.length c1, .slice a2 rs2.length c2], .int .i64 2, x.val] w fun e w' => ∃ (err : Int) (a' : Option Addr) (cap' : Nat) (rs' : List ME), e = .returned (.tuple #[.agg #[.int .i64 cell, .slice a1 rs1.length c1, .slice a' rs'.length cap'], .int .i64 err]) ∧ rs'.length ≤ cap' ∧ Pushed14 rs2 x err rs' ∧ ∃ P' : World → Prop, (∀ W, P' W → P W ∧ EntsAt W a' rs') ∧ Led T w0 w' (l.set j (stillT P')) := by
  obtain ⟨T', h1, hb⟩ := h.frame1 j hj
  refine (Push_ref14_2 T' w P cell a1 c1 rs1 a2 c2 rs2 x hcap h1 hP hnx hlen).mono ?_
  rintro e w' ⟨err, a', cap', rs', rest, rfl, hcp, hc, P', hP', hL⟩
  exact ⟨err, a', cap', rs', rfl, hcp, hc, P', hP', hb _ _ _ hL⟩
theorem Both13.weak14 {P P1 : World → Prop} {es rs : List ME} {a : Option Addr} {cap : Nat} (h : Both13 P es rs a cap) (hP : ∀ W, P1 W → P W) : Both13 P1 es rs a cap := ⟨h.1, h.2.1, h.2.2.1, h.2.2.2.1, fun W hW => h.2.2.2.2 W (hP W hW)⟩
/-- A channel of both, with their arenas. -/
def bothC14 (g c : Nat) (vc : Value) (most : Nat) (vl : Value) (at_ : Int) (a1 : Option Addr) (n1 c1 : Nat) (a2 : Option Addr) (n2 c2 : Nat) : Array Value := #[.pointer (some ⟨g, 0, none⟩), .pointer (some ⟨c, 0, none⟩), vc, .int .i64 (most : Int), vl, .int .i64 at_, .slice a1 n1 c1, .slice a2 n2 c2]
def L14 (c : Nat) (at_ : Int) (M q1 q2 : Nat) (es1 es2 : List ME) (P : World → Prop) (bx g : Nat) (s : Ar) (vc vl : Value) (a1 : Option Addr) (n1 c1 : Nat) (a2 : Option Addr) (n2 c2 : Nat) : List Thing :=
  chanL c at_ M q1 q2 es1 es2 ++ [stillT P, box bx 63 (bothC14 g c vc s.most vl at_ a1 n1 c1 a2 n2 c2), arena g s, refT vc vl s]
/-- What act leaves: the arenas as said. -/
def Acted14 (T : List Nat) (w : World) (P : World → Prop) (bx g : Nat) (at_ : Int) (s : Ar) (vc vl : Value) (e : Ending) (w' : World) : Prop :=
  ∃ (c M q1 q2 : Nat) (es1 es2 rs1 rs2 : List ME) (a1 : Option Addr) (c1 : Nat) (a2 : Option Addr) (c2 : Nat) (P' : World → Prop), e = .returned (.bool true) ∧ Both13 P' es1 rs1 a1 c1 ∧ Both13 P' es2 rs2 a2 c2 ∧ (∀ W, P' W → P W) ∧ Led T w w' (L14 c at_ M q1 q2 es1 es2 P' bx g s vc vl a1 rs1.length c1 a2 rs2.length c2)
set_option maxHeartbeats 4000000 in
theorem act14_push1 (T : List Nat) (w : World) (P : World → Prop) (c : Nat) (at_ : Int) (M q1 q2 bx g : Nat) (es1 es2 rs1 rs2 : List ME) (a1 : Option Addr) (c1 : Nat) (a2 : Option Addr) (c2 : Nat) (s : Ar) (vc vl : Value) (x : C4) (h : Led T w w (L14 c at_ M q1 q2 es1 es2 P bx g s vc vl a1 rs1.length c1 a2 rs2.length c2)) (hB1 : Both13 P es1 rs1 a1 c1) (hB2 : Both13 P es2 rs2 a2 c2) (hx : x.e.v.nodes ≤ 20 ∧ ∀ W, P W → x.e.v.In W) (hw : x.what = 0 ∨ x.what = 1 ∨ x.what = 2 ∨ x.what = 3) (hsd : x.side = 1) :
    Calls Tryd.prog 19 #[.pointer (some ⟨bx, 0, none⟩), x.val] w (Acted14 T w P bx g at_ s vc vl) := by
  have hrl : rs1.length ≤ 4096 := by rw [← hB1.len]; exact hB1.2.2.1
  obtain ⟨xw, xs, xi, xe⟩ := x
  dsimp only at hx hw hsd
  subst hsd
  have HXN : Hid (xe.v.nodes ≤ 20) := hx.1
  have HX := Lib.hid hx.2
  have HB1 := Lib.hid hB1
  have HB2 := Lib.hid hB2
  have HL0 := Lib.hid h
  clear h hB1 hB2 hx
  obtain ⟨ca, cp, rfl, _, _⟩ := own_val (HL0.out.refAt 7 rfl).cel
  obtain ⟨la, lp, rfl, _, _⟩ := own_val (HL0.out.refAt 7 rfl).log
  simp only [L14, chanL, bothC14, List.cons_append, List.nil_append] at HL0
  unfold C4.val
  go_enter Tryd.func19, Tryd.ntmps19
  go_upto_region 1 with fail
  refine wp_name ?_
  intro w1 hw1
  have HL1 := Lib.hid (HL0.out.al1 hw1)
  simp only [List.nil_append, List.cons_append] at HL1
  obtain ⟨b3, hb3⟩ : ∃ b, w.heap.size = b := ⟨_, rfl⟩
  rw [hb3] at HL1 ⊢
  clear hw1 hb3 HL0
  obtain ⟨x0, x1, x2, x3, x4, x5, x6, x7, x8, x9, hl3⟩ := HL1.out.c10 8 rfl
  obtain ⟨y0, y1, y2, y3, y4, y5, y6, y7, ⟨fy0, fy1, fy2, fy3, fy4, fy5, fy6, fy7⟩, hlx⟩ := HL1.out.c8' 5 rfl
  go_upto_region 3 with fail
  rename_i K2 a2' K1 a1' K0 a0'
  have HC : ∀ (y29 y30 y31 y32 : Value), K1 { tmps := #[.pointer (some ⟨bx, 0, none⟩), .agg #[.int .i64 xw, .int .i64 1, .int .i64 xi, .int .i64 xe.sync, .int .i64 xe.thread, .int .i64 xe.branch, .int .i64 xe.flag, .int .i64 xe.v.kind, .int .i64 xe.v.num, .slice xe.v.addr xe.v.parts.length xe.v.cap], undef, .pointer (some ⟨b3, 0, none⟩), .bool false, .int .i64 1, undef, undef, undef, undef, undef, undef, undef, undef, undef, undef, undef, undef, undef, undef, undef, undef, undef, undef, .pointer (some ⟨b3, 1, none⟩), .int .i64 1, .pointer (some ⟨b3, 0, none⟩), .int .i64 xw, .bool true, y29, y30, y31, y32, undef, undef, undef, undef, undef, undef, undef, undef, undef, undef, undef, undef, undef, undef, undef, undef, undef, undef, undef, undef, undef, undef, undef, undef, undef, undef, undef, undef, undef, undef, undef, undef, undef, undef, undef, undef, undef, undef, undef, undef, undef, undef, undef, undef, undef, undef, undef, undef, undef, undef, undef, undef, undef, undef, undef, undef, undef, undef, undef, undef, undef, undef, undef, undef, undef, undef, undef, undef, undef, undef, undef, undef, undef, undef, undef, undef, undef, undef, undef, undef, undef, undef, undef, undef, undef, undef, undef, undef, undef, undef, undef, undef, undef, undef, undef, undef, undef, undef, undef, undef, undef, undef, undef, undef, undef, undef, undef, undef, undef, undef, undef, undef, undef, undef, undef, undef, undef, undef, undef, undef, undef, undef, undef, undef, undef, undef, undef, undef, undef, undef, undef, undef, undef, undef, undef, undef, undef, undef, undef, undef, undef, undef, undef, undef, undef, undef, undef, undef, undef, undef, undef, undef, undef, undef, undef, undef, undef, undef, undef, undef, undef, undef, undef, undef, undef, undef, undef, undef, undef, undef, undef, undef, undef, undef, undef, undef, undef, undef], defers := [] } w1 := by
    intro y29 y30 y31 y32
    refine a1' _ _ ?_
    clear a0' a1'
    go_wp2_with fail
    have hnx : xe.v.nodes ≤ 1048576 := by have := HXN.out; omega
    have HPX : Hid (∀ W, P W → EntsAt W a1 rs1 ∧ xe.v.In W) := fun W hW => ⟨(HB1.out.2.2.2.2 W hW).2.1, HX.out W hW⟩
    have HLa := Lib.hid HL1.out.drew
    have HLb := Lib.hid (HL1.out.alloc 61 #[.int .i64 0, .slice none 0 0, .slice none 0 0]).drew
    simp only [List.nil_append, List.cons_append] at HLb
    have m1 : bx ≠ w1.heap.size := by omega
    have m2 := Ne.symm m1
    have m3 : b3 ≠ w1.heap.size := by omega
    have m4 := Ne.symm m3
    go_region_held3 (fun w' => (w'.cell? ⟨bx, 5, none⟩ = some (.int .i64 at_) ∧ w'.cell? ⟨bx, 6, none⟩ = some (.slice a1 rs1.length c1) ∧ w'.cell? ⟨bx, 7, none⟩ = some (.slice a2 rs2.length c2)) ∧ w'.cell? ⟨b3, 3, none⟩ = some (.int .i64 xe.sync) ∧ w'.cell? ⟨b3, 4, none⟩ = some (.int .i64 xe.thread) ∧ w'.cell? ⟨b3, 5, none⟩ = some (.int .i64 xe.branch) ∧ w'.cell? ⟨b3, 6, none⟩ = some (.int .i64 xe.flag) ∧ w'.cell? ⟨b3, 7, none⟩ = some (.int .i64 xe.v.kind) ∧ w'.cell? ⟨b3, 8, none⟩ = some (.int .i64 xe.v.num) ∧ w'.cell? ⟨b3, 9, none⟩ = some (.slice xe.v.addr xe.v.parts.length xe.v.cap)) (go_keep) (first
      | (go_at_call 50; refine (HLa.out.r14Push1 4 rfl at_ a1 c1 rs1 a2 c2 rs2 xe HB1.out.2.1 HPX.out hnx hrl).mono ?_; rintro e w2 ⟨err, a', cap', rs', rfl, hcp, hc, P1, hP1, hL⟩; have HL2 := Lib.hid hL; (simp only [List.set_cons_zero, List.set_cons_succ] at HL2); have HC2 := Lib.hid hc; have HCP := Lib.hid hcp; have HP1 := Lib.hid hP1; clear hL hc hcp hP1; clear x0 x1 x2 x3 x4 x5 x6 x7 x8 x9 hl3 y0 y1 y2 y3 y4 y5 y6 y7 fy0 fy1 fy2 fy3 fy4 fy5 fy6 fy7 hlx; obtain ⟨x0, x1, x2, x3, x4, x5, x6, x7, x8, x9, hl3⟩ := HL2.out.c10 8 rfl; obtain ⟨y0, y1, y2, y3, y4, y5, y6, y7, ⟨fy0, fy1, fy2, fy3, fy4, fy5, fy6, fy7⟩, hlx⟩ := HL2.out.c8' 5 rfl; clear m1 m2 m3 m4; have m1 : bx ≠ w2.heap.size := (by omega); have m2 := Ne.symm m1; have m3 : b3 ≠ w2.heap.size := (by omega); have m4 := Ne.symm m3)
      | (go_at_call 50; refine (HLb.out.r14Push1 4 rfl at_ a1 c1 rs1 a2 c2 rs2 xe HB1.out.2.1 HPX.out hnx hrl).mono ?_; rintro e w2 ⟨err, a', cap', rs', rfl, hcp, hc, P1, hP1, hL⟩; have HL2 := Lib.hid hL; (simp only [List.set_cons_zero, List.set_cons_succ] at HL2); have HC2 := Lib.hid hc; have HCP := Lib.hid hcp; have HP1 := Lib.hid hP1; clear hL hc hcp hP1; clear x0 x1 x2 x3 x4 x5 x6 x7 x8 x9 hl3 y0 y1 y2 y3 y4 y5 y6 y7 fy0 fy1 fy2 fy3 fy4 fy5 fy6 fy7 hlx; obtain ⟨x0, x1, x2, x3, x4, x5, x6, x7, x8, x9, hl3⟩ := HL2.out.c10 8 rfl; obtain ⟨y0, y1, y2, y3, y4, y5, y6, y7, ⟨fy0, fy1, fy2, fy3, fy4, fy5, fy6, fy7⟩, hlx⟩ := HL2.out.c8' 5 rfl; obtain ⟨k0, k1, k2, kf0, kf1, kf2, hlk, _, _⟩ := HL2.out.c3 9 rfl))
    all_goals rename_i hHeld
    all_goals clear hHeld HLa HLb m1 m2 m3 m4
    all_goals refine exit_nameR (Q := Exit.then _ _) ?_
    all_goals intro w5 hw5
    all_goals first
      | (have k0' := k0; clear k0'; have HL3 := Lib.hid ((((HL2.out.set 9 rfl 0 (.int .i64 at_)).set 9 rfl 1 (.slice a' rs'.length cap')).set 9 rfl 2 (.slice a2 rs2.length c2)).via hw5); (simp only [List.set_cons_succ, List.set_cons_zero, List.setIfInBounds_toArray] at HL3); clear hw5 HL2 k0 k1 k2 kf0 kf1 kf2 hlk; obtain ⟨b6, hb6⟩ : ∃ b, w1.heap.size = b := ⟨_, rfl⟩; rw [hb6] at HL3 ⊢; clear hb6)
      | (have HL3 := Lib.hid ((HL2.out.alloc 61 #[.int .i64 at_, .slice a' rs'.length cap', .slice a2 rs2.length c2]).via hw5); clear hw5 HL2; obtain ⟨b6, hb6⟩ : ∃ b, w2.heap.size = b := ⟨_, rfl⟩; rw [hb6] at HL3 ⊢; clear hb6)
    all_goals
      (try simp only [List.nil_append, List.cons_append] at HL3)
      clear HL1 x0 x1 x2 x3 x4 x5 x6 x7 x8 x9 hl3 y0 y1 y2 y3 y4 y5 y6 y7 fy0 fy1 fy2 fy3 fy4 fy5 fy6 fy7 hlx
      obtain ⟨y0, y1, y2, y3, y4, y5, y6, y7, ⟨fy0, fy1, fy2, fy3, fy4, fy5, fy6, fy7⟩, hlx⟩ := HL3.out.c8' 5 rfl
      obtain ⟨k0, k1, k2, kf0, kf1, kf2, hlk, _, _⟩ := HL3.out.c3 9 rfl
      have n1 := HL3.out.ne 5 9 rfl rfl (by decide)
      have n2 := Ne.symm n1
      go_upto_region 9 with fail
      refine wp_name ?_
      intro w6 hw6
      have HL4 := Lib.hid (((((HL3.out.set 5 rfl 5 (.int .i64 at_)).set 5 rfl 6 (.slice a' rs'.length cap')).set 5 rfl 7 (.slice a2 rs2.length c2)).via hw6))
      simp only [List.set_cons_succ, List.set_cons_zero, List.setIfInBounds_toArray] at HL4
      clear hw6 HL3 y0 y1 y2 y3 y4 y5 y6 y7 fy0 fy1 fy2 fy3 fy4 fy5 fy6 fy7 hlx k0 k1 k2 kf0 kf1 kf2 hlk n1 n2
      obtain ⟨x0, x1, x2, x3, x4, x5, x6, x7, x8, x9, hl3⟩ := HL4.out.c10 8 rfl
      obtain ⟨y0, y1, y2, y3, y4, y5, y6, y7, ⟨fy0, fy1, fy2, fy3, fy4, fy5, fy6, fy7⟩, hlx⟩ := HL4.out.c8' 5 rfl
      have HWT := Lib.hid (HL4.out.drew.chPush (s := 1) (es := es1) 2 4 rfl rfl (by decide) (HL4.out.drew.chAt 0 1 rfl rfl) rfl xe (fun W hW => HX.out W (HP1.out W hW).1) HB1.out.2.2.1)
      simp only [ent_eq] at HWT
      go_wp2_with fail
      go_region_held3 (fun w' => w'.cell? ⟨bx, 1, none⟩ = some (.pointer (some ⟨c, 0, none⟩)) ∧ w'.cell? ⟨b3, 1, none⟩ = some (.int .i64 1) ∧ w'.cell? ⟨b3, 3, none⟩ = some (.int .i64 xe.sync) ∧ w'.cell? ⟨b3, 4, none⟩ = some (.int .i64 xe.thread) ∧ w'.cell? ⟨b3, 5, none⟩ = some (.int .i64 xe.branch) ∧ w'.cell? ⟨b3, 6, none⟩ = some (.int .i64 xe.flag) ∧ w'.cell? ⟨b3, 7, none⟩ = some (.int .i64 xe.v.kind) ∧ w'.cell? ⟨b3, 8, none⟩ = some (.int .i64 xe.v.num) ∧ w'.cell? ⟨b3, 9, none⟩ = some (.slice xe.v.addr xe.v.parts.length xe.v.cap)) (go_keep) (first
        | (go_at_call 13; refine HWT.out.mono ?_; rintro e w7 ⟨kk, err2, ys, rfl, hR2, hp2, hL⟩; have HL5 := Lib.hid hL; (simp only [List.set_cons_succ, List.set_cons_zero] at HL5); (obtain ⟨hee, hbf⟩ := HB1.out.pushed HP1.out HCP.out (by have := HXN.out; omega) HX.out HC2.out hR2 hp2); (subst hee); have HBF := Lib.hid hbf; clear hL hbf hR2 hp2 x0 x1 x2 x3 x4 x5 x6 x7 x8 x9 hl3 y0 y1 y2 y3 y4 y5 y6 y7 fy0 fy1 fy2 fy3 fy4 fy5 fy6 fy7 hlx; obtain ⟨x0, x1, x2, x3, x4, x5, x6, x7, x8, x9, hl3⟩ := HL5.out.c10 8 rfl; obtain ⟨y0, y1, y2, y3, y4, y5, y6, y7, ⟨fy0, fy1, fy2, fy3, fy4, fy5, fy6, fy7⟩, hlx⟩ := HL5.out.c8' 5 rfl)
        | (go_at_call 10; refine (num14 _ _).mono ?_; rintro e wn ⟨rfl, rfl⟩))
      have HBO := Lib.hid (HB2.out.weak14 (P1 := fun W => P1 W ∧ ∀ y ∈ ys, y.v.In W) (fun W hW => (HP1.out W hW.1).1))
      go_wp2
      go_ret
      exact ⟨c, M, q1, q2, es1 ++ ys, es2, rs', rs2, a', cap', a2, c2, _, rfl, HBF.out, HBO.out, fun W hW => (HP1.out W hW.1).1, HL5.out.sel [0, 1, 2, 3, 4, 5, 6, 7] rfl (by decide)⟩
  clear a1'
  rcases hw with hw | hw | hw | hw
  all_goals
    simp only [hw] at HC ⊢
    go_wp2
    exact HC _ _ _ _
set_option maxHeartbeats 4000000 in
theorem act14_push2 (T : List Nat) (w : World) (P : World → Prop) (c : Nat) (at_ : Int) (M q1 q2 bx g : Nat) (es1 es2 rs1 rs2 : List ME) (a1 : Option Addr) (c1 : Nat) (a2 : Option Addr) (c2 : Nat) (s : Ar) (vc vl : Value) (x : C4) (h : Led T w w (L14 c at_ M q1 q2 es1 es2 P bx g s vc vl a1 rs1.length c1 a2 rs2.length c2)) (hB1 : Both13 P es1 rs1 a1 c1) (hB2 : Both13 P es2 rs2 a2 c2) (hx : x.e.v.nodes ≤ 20 ∧ ∀ W, P W → x.e.v.In W) (hw : x.what = 0 ∨ x.what = 1 ∨ x.what = 2 ∨ x.what = 3) (hsd : x.side = 2) :
    Calls Tryd.prog 19 #[.pointer (some ⟨bx, 0, none⟩), x.val] w (Acted14 T w P bx g at_ s vc vl) := by
  have hrl : rs2.length ≤ 4096 := by rw [← hB2.len]; exact hB2.2.2.1
  obtain ⟨xw, xs, xi, xe⟩ := x
  dsimp only at hx hw hsd
  subst hsd
  have HXN : Hid (xe.v.nodes ≤ 20) := hx.1
  have HX := Lib.hid hx.2
  have HB1 := Lib.hid hB1
  have HB2 := Lib.hid hB2
  have HL0 := Lib.hid h
  clear h hB1 hB2 hx
  obtain ⟨ca, cp, rfl, _, _⟩ := own_val (HL0.out.refAt 7 rfl).cel
  obtain ⟨la, lp, rfl, _, _⟩ := own_val (HL0.out.refAt 7 rfl).log
  simp only [L14, chanL, bothC14, List.cons_append, List.nil_append] at HL0
  unfold C4.val
  go_enter Tryd.func19, Tryd.ntmps19
  go_upto_region 1 with fail
  refine wp_name ?_
  intro w1 hw1
  have HL1 := Lib.hid (HL0.out.al1 hw1)
  simp only [List.nil_append, List.cons_append] at HL1
  obtain ⟨b3, hb3⟩ : ∃ b, w.heap.size = b := ⟨_, rfl⟩
  rw [hb3] at HL1 ⊢
  clear hw1 hb3 HL0
  obtain ⟨x0, x1, x2, x3, x4, x5, x6, x7, x8, x9, hl3⟩ := HL1.out.c10 8 rfl
  obtain ⟨y0, y1, y2, y3, y4, y5, y6, y7, ⟨fy0, fy1, fy2, fy3, fy4, fy5, fy6, fy7⟩, hlx⟩ := HL1.out.c8' 5 rfl
  go_upto_region 3 with fail
  rename_i K2 a2' K1 a1' K0 a0'
  have HC : ∀ (y29 y30 y31 y32 : Value), K1 { tmps := #[.pointer (some ⟨bx, 0, none⟩), .agg #[.int .i64 xw, .int .i64 2, .int .i64 xi, .int .i64 xe.sync, .int .i64 xe.thread, .int .i64 xe.branch, .int .i64 xe.flag, .int .i64 xe.v.kind, .int .i64 xe.v.num, .slice xe.v.addr xe.v.parts.length xe.v.cap], undef, .pointer (some ⟨b3, 0, none⟩), .bool false, .int .i64 2, undef, undef, undef, undef, undef, undef, undef, undef, undef, undef, undef, undef, undef, undef, undef, undef, undef, undef, .pointer (some ⟨b3, 1, none⟩), .int .i64 2, .pointer (some ⟨b3, 0, none⟩), .int .i64 xw, .bool true, y29, y30, y31, y32, undef, undef, undef, undef, undef, undef, undef, undef, undef, undef, undef, undef, undef, undef, undef, undef, undef, undef, undef, undef, undef, undef, undef, undef, undef, undef, undef, undef, undef, undef, undef, undef, undef, undef, undef, undef, undef, undef, undef, undef, undef, undef, undef, undef, undef, undef, undef, undef, undef, undef, undef, undef, undef, undef, undef, undef, undef, undef, undef, undef, undef, undef, undef, undef, undef, undef, undef, undef, undef, undef, undef, undef, undef, undef, undef, undef, undef, undef, undef, undef, undef, undef, undef, undef, undef, undef, undef, undef, undef, undef, undef, undef, undef, undef, undef, undef, undef, undef, undef, undef, undef, undef, undef, undef, undef, undef, undef, undef, undef, undef, undef, undef, undef, undef, undef, undef, undef, undef, undef, undef, undef, undef, undef, undef, undef, undef, undef, undef, undef, undef, undef, undef, undef, undef, undef, undef, undef, undef, undef, undef, undef, undef, undef, undef, undef, undef, undef, undef, undef, undef, undef, undef, undef, undef, undef, undef, undef, undef, undef, undef, undef, undef, undef, undef, undef, undef, undef, undef, undef, undef, undef, undef, undef, undef, undef, undef, undef, undef], defers := [] } w1 := by
    intro y29 y30 y31 y32
    refine a1' _ _ ?_
    clear a0' a1'
    go_wp2_with fail
    have hnx : xe.v.nodes ≤ 1048576 := by have := HXN.out; omega
    have HPX : Hid (∀ W, P W → EntsAt W a2 rs2 ∧ xe.v.In W) := fun W hW => ⟨(HB2.out.2.2.2.2 W hW).2.1, HX.out W hW⟩
    have HLa := Lib.hid HL1.out.drew
    have HLb := Lib.hid (HL1.out.alloc 61 #[.int .i64 0, .slice none 0 0, .slice none 0 0]).drew
    simp only [List.nil_append, List.cons_append] at HLb
    have m1 : bx ≠ w1.heap.size := by omega
    have m2 := Ne.symm m1
    have m3 : b3 ≠ w1.heap.size := by omega
    have m4 := Ne.symm m3
    go_region_held3 (fun w' => (w'.cell? ⟨bx, 5, none⟩ = some (.int .i64 at_) ∧ w'.cell? ⟨bx, 6, none⟩ = some (.slice a1 rs1.length c1) ∧ w'.cell? ⟨bx, 7, none⟩ = some (.slice a2 rs2.length c2)) ∧ w'.cell? ⟨b3, 3, none⟩ = some (.int .i64 xe.sync) ∧ w'.cell? ⟨b3, 4, none⟩ = some (.int .i64 xe.thread) ∧ w'.cell? ⟨b3, 5, none⟩ = some (.int .i64 xe.branch) ∧ w'.cell? ⟨b3, 6, none⟩ = some (.int .i64 xe.flag) ∧ w'.cell? ⟨b3, 7, none⟩ = some (.int .i64 xe.v.kind) ∧ w'.cell? ⟨b3, 8, none⟩ = some (.int .i64 xe.v.num) ∧ w'.cell? ⟨b3, 9, none⟩ = some (.slice xe.v.addr xe.v.parts.length xe.v.cap)) (go_keep) (first
      | (go_at_call 50; refine (HLa.out.r14Push2 4 rfl at_ a1 c1 rs1 a2 c2 rs2 xe HB2.out.2.1 HPX.out hnx hrl).mono ?_; rintro e w2 ⟨err, a', cap', rs', rfl, hcp, hc, P1, hP1, hL⟩; have HL2 := Lib.hid hL; (simp only [List.set_cons_zero, List.set_cons_succ] at HL2); have HC2 := Lib.hid hc; have HCP := Lib.hid hcp; have HP1 := Lib.hid hP1; clear hL hc hcp hP1; clear x0 x1 x2 x3 x4 x5 x6 x7 x8 x9 hl3 y0 y1 y2 y3 y4 y5 y6 y7 fy0 fy1 fy2 fy3 fy4 fy5 fy6 fy7 hlx; obtain ⟨x0, x1, x2, x3, x4, x5, x6, x7, x8, x9, hl3⟩ := HL2.out.c10 8 rfl; obtain ⟨y0, y1, y2, y3, y4, y5, y6, y7, ⟨fy0, fy1, fy2, fy3, fy4, fy5, fy6, fy7⟩, hlx⟩ := HL2.out.c8' 5 rfl; clear m1 m2 m3 m4; have m1 : bx ≠ w2.heap.size := (by omega); have m2 := Ne.symm m1; have m3 : b3 ≠ w2.heap.size := (by omega); have m4 := Ne.symm m3)
      | (go_at_call 50; refine (HLb.out.r14Push2 4 rfl at_ a1 c1 rs1 a2 c2 rs2 xe HB2.out.2.1 HPX.out hnx hrl).mono ?_; rintro e w2 ⟨err, a', cap', rs', rfl, hcp, hc, P1, hP1, hL⟩; have HL2 := Lib.hid hL; (simp only [List.set_cons_zero, List.set_cons_succ] at HL2); have HC2 := Lib.hid hc; have HCP := Lib.hid hcp; have HP1 := Lib.hid hP1; clear hL hc hcp hP1; clear x0 x1 x2 x3 x4 x5 x6 x7 x8 x9 hl3 y0 y1 y2 y3 y4 y5 y6 y7 fy0 fy1 fy2 fy3 fy4 fy5 fy6 fy7 hlx; obtain ⟨x0, x1, x2, x3, x4, x5, x6, x7, x8, x9, hl3⟩ := HL2.out.c10 8 rfl; obtain ⟨y0, y1, y2, y3, y4, y5, y6, y7, ⟨fy0, fy1, fy2, fy3, fy4, fy5, fy6, fy7⟩, hlx⟩ := HL2.out.c8' 5 rfl; obtain ⟨k0, k1, k2, kf0, kf1, kf2, hlk, _, _⟩ := HL2.out.c3 9 rfl))
    all_goals rename_i hHeld
    all_goals clear hHeld HLa HLb m1 m2 m3 m4
    all_goals refine exit_nameR (Q := Exit.then _ _) ?_
    all_goals intro w5 hw5
    all_goals first
      | (have k0' := k0; clear k0'; have HL3 := Lib.hid ((((HL2.out.set 9 rfl 0 (.int .i64 at_)).set 9 rfl 1 (.slice a1 rs1.length c1)).set 9 rfl 2 (.slice a' rs'.length cap')).via hw5); (simp only [List.set_cons_succ, List.set_cons_zero, List.setIfInBounds_toArray] at HL3); clear hw5 HL2 k0 k1 k2 kf0 kf1 kf2 hlk; obtain ⟨b6, hb6⟩ : ∃ b, w1.heap.size = b := ⟨_, rfl⟩; rw [hb6] at HL3 ⊢; clear hb6)
      | (have HL3 := Lib.hid ((HL2.out.alloc 61 #[.int .i64 at_, .slice a1 rs1.length c1, .slice a' rs'.length cap']).via hw5); clear hw5 HL2; obtain ⟨b6, hb6⟩ : ∃ b, w2.heap.size = b := ⟨_, rfl⟩; rw [hb6] at HL3 ⊢; clear hb6)
    all_goals
      (try simp only [List.nil_append, List.cons_append] at HL3)
      clear HL1 x0 x1 x2 x3 x4 x5 x6 x7 x8 x9 hl3 y0 y1 y2 y3 y4 y5 y6 y7 fy0 fy1 fy2 fy3 fy4 fy5 fy6 fy7 hlx
      obtain ⟨y0, y1, y2, y3, y4, y5, y6, y7, ⟨fy0, fy1, fy2, fy3, fy4, fy5, fy6, fy7⟩, hlx⟩ := HL3.out.c8' 5 rfl
      obtain ⟨k0, k1, k2, kf0, kf1, kf2, hlk, _, _⟩ := HL3.out.c3 9 rfl
      have n1 := HL3.out.ne 5 9 rfl rfl (by decide)
      have n2 := Ne.symm n1
      go_upto_region 9 with fail
      refine wp_name ?_
      intro w6 hw6
      have HL4 := Lib.hid (((((HL3.out.set 5 rfl 5 (.int .i64 at_)).set 5 rfl 6 (.slice a1 rs1.length c1)).set 5 rfl 7 (.slice a' rs'.length cap')).via hw6))
      simp only [List.set_cons_succ, List.set_cons_zero, List.setIfInBounds_toArray] at HL4
      clear hw6 HL3 y0 y1 y2 y3 y4 y5 y6 y7 fy0 fy1 fy2 fy3 fy4 fy5 fy6 fy7 hlx k0 k1 k2 kf0 kf1 kf2 hlk n1 n2
      obtain ⟨x0, x1, x2, x3, x4, x5, x6, x7, x8, x9, hl3⟩ := HL4.out.c10 8 rfl
      obtain ⟨y0, y1, y2, y3, y4, y5, y6, y7, ⟨fy0, fy1, fy2, fy3, fy4, fy5, fy6, fy7⟩, hlx⟩ := HL4.out.c8' 5 rfl
      have HWT := Lib.hid (HL4.out.drew.chPush (s := 2) (es := es2) 3 4 rfl rfl (by decide) (HL4.out.drew.chAt 0 1 rfl rfl) rfl xe (fun W hW => HX.out W (HP1.out W hW).1) HB2.out.2.2.1)
      simp only [ent_eq] at HWT
      go_wp2_with fail
      go_region_held3 (fun w' => w'.cell? ⟨bx, 1, none⟩ = some (.pointer (some ⟨c, 0, none⟩)) ∧ w'.cell? ⟨b3, 1, none⟩ = some (.int .i64 2) ∧ w'.cell? ⟨b3, 3, none⟩ = some (.int .i64 xe.sync) ∧ w'.cell? ⟨b3, 4, none⟩ = some (.int .i64 xe.thread) ∧ w'.cell? ⟨b3, 5, none⟩ = some (.int .i64 xe.branch) ∧ w'.cell? ⟨b3, 6, none⟩ = some (.int .i64 xe.flag) ∧ w'.cell? ⟨b3, 7, none⟩ = some (.int .i64 xe.v.kind) ∧ w'.cell? ⟨b3, 8, none⟩ = some (.int .i64 xe.v.num) ∧ w'.cell? ⟨b3, 9, none⟩ = some (.slice xe.v.addr xe.v.parts.length xe.v.cap)) (go_keep) (first
        | (go_at_call 13; refine HWT.out.mono ?_; rintro e w7 ⟨kk, err2, ys, rfl, hR2, hp2, hL⟩; have HL5 := Lib.hid hL; (simp only [List.set_cons_succ, List.set_cons_zero] at HL5); (obtain ⟨hee, hbf⟩ := HB2.out.pushed HP1.out HCP.out (by have := HXN.out; omega) HX.out HC2.out hR2 hp2); (subst hee); have HBF := Lib.hid hbf; clear hL hbf hR2 hp2 x0 x1 x2 x3 x4 x5 x6 x7 x8 x9 hl3 y0 y1 y2 y3 y4 y5 y6 y7 fy0 fy1 fy2 fy3 fy4 fy5 fy6 fy7 hlx; obtain ⟨x0, x1, x2, x3, x4, x5, x6, x7, x8, x9, hl3⟩ := HL5.out.c10 8 rfl; obtain ⟨y0, y1, y2, y3, y4, y5, y6, y7, ⟨fy0, fy1, fy2, fy3, fy4, fy5, fy6, fy7⟩, hlx⟩ := HL5.out.c8' 5 rfl)
        | (go_at_call 10; refine (num14 _ _).mono ?_; rintro e wn ⟨rfl, rfl⟩))
      have HBO := Lib.hid (HB1.out.weak14 (P1 := fun W => P1 W ∧ ∀ y ∈ ys, y.v.In W) (fun W hW => (HP1.out W hW.1).1))
      go_wp2
      go_ret
      exact ⟨c, M, q1, q2, es1, es2 ++ ys, rs1, rs', a1, c1, a', cap', _, rfl, HBO.out, HBF.out, fun W hW => (HP1.out W hW.1).1, HL5.out.sel [0, 1, 2, 3, 4, 5, 6, 7] rfl (by decide)⟩
  clear a1'
  rcases hw with hw | hw | hw | hw
  all_goals
    simp only [hw] at HC ⊢
    go_wp2
    exact HC _ _ _ _
end Go.Proofs.YtihmbgdkllmkaaaDoor

/-
  act() of law 14 (betrothallaw14/law.go): one call by both: a look.
-/
namespace Go.Proofs.YtihmbgdkllmkaaaDoor
open Go.RowKit Go.Shelf
set_option maxRecDepth 100000
set_option linter.unusedVariables false
set_option linter.unusedSimpArgs false
theorem qOf_no {s : Int} {q1 q2 : Nat} (h1 : s ≠ 1) (h2 : s ≠ 2) : qOf s q1 q2 = none := by unfold qOf; rw [if_neg h1, if_neg h2]
set_option maxHeartbeats 4000000 in
theorem act14_look1 (T : List Nat) (w : World) (P : World → Prop) (c : Nat) (at_ : Int) (M q1 q2 bx g : Nat) (es1 es2 rs1 rs2 : List ME) (a1 : Option Addr) (c1 : Nat) (a2 : Option Addr) (c2 : Nat) (s : Ar) (vc vl : Value) (x : C4) (h : Led T w w (L14 c at_ M q1 q2 es1 es2 P bx g s vc vl a1 rs1.length c1 a2 rs2.length c2)) (hB1 : Both13 P es1 rs1 a1 c1) (hB2 : Both13 P es2 rs2 a2 c2) (hw : x.what = 4) (hsd : x.side = 1) :
    Calls Tryd.prog 19 #[.pointer (some ⟨bx, 0, none⟩), x.val] w (Acted14 T w P bx g at_ s vc vl) := by
  obtain ⟨xw, xs, xi, xe⟩ := x
  dsimp only at hw hsd
  subst hw
  subst hsd
  have HB1 := Lib.hid hB1
  have HB2 := Lib.hid hB2
  have HL0 := Lib.hid h
  clear h hB1 hB2
  obtain ⟨ca, cp, rfl, _, _⟩ := own_val (HL0.out.refAt 7 rfl).cel
  obtain ⟨la, lp, rfl, _, _⟩ := own_val (HL0.out.refAt 7 rfl).log
  simp only [L14, chanL, bothC14, List.cons_append, List.nil_append] at HL0
  unfold C4.val
  go_enter Tryd.func19, Tryd.ntmps19
  go_upto_region 1 with fail
  refine wp_name ?_
  intro w1 hw1
  have HL1 := Lib.hid (HL0.out.al1 hw1)
  simp only [List.nil_append, List.cons_append] at HL1
  obtain ⟨b3, hb3⟩ : ∃ b, w.heap.size = b := ⟨_, rfl⟩
  rw [hb3] at HL1 ⊢
  clear hw1 hb3 HL0
  obtain ⟨x0, x1, x2, x3, x4, x5, x6, x7, x8, x9, hl3⟩ := HL1.out.c10 8 rfl
  obtain ⟨y0, y1, y2, y3, y4, y5, y6, y7, ⟨fy0, fy1, fy2, fy3, fy4, fy5, fy6, fy7⟩, hlx⟩ := HL1.out.c8' 5 rfl
  have HLa := Lib.hid HL1.out.drew
  have HLb := Lib.hid (HL1.out.alloc 42 #[.int .i64 0, .int .i64 0, .int .i64 0, .int .i64 0, .int .i64 0, .int .i64 0, .slice none 0 0]).drew
  simp only [List.nil_append, List.cons_append] at HLb
  have m1 : bx ≠ w1.heap.size := by omega
  have m2 := Ne.symm m1
  have m3 : b3 ≠ w1.heap.size := by omega
  have m4 := Ne.symm m3
  go_upto_region 11 with fail
  go_region_held3 (fun w' => w'.cell? ⟨bx, 1, none⟩ = some (.pointer (some ⟨c, 0, none⟩)) ∧ w'.cell? ⟨b3, 1, none⟩ = some (.int .i64 1) ∧ w'.cell? ⟨b3, 2, none⟩ = some (.int .i64 xi)) (go_keep) (first
    | (go_at_call 16; refine (Look_ch _ c at_ M q1 q2 (HLa.out.chAt 0 1 rfl rfl) 1 q1 es1 xi rfl (HLa.out.qAt 2 rfl) (fun e he => ⟨(HB1.out.2.2.2.2 _ (HLa.out.still 4 rfl)).1 e he, HB1.out.2.2.2.1 e he⟩)).mono ?_; rintro e w2 ⟨y, cc, rfl, hR, hyin, hynew, ht⟩; have HL2 := Lib.hid (HLa.out.valsNew (vs := [y.v]) ht (by simpa using hyin) (by simpa using hynew)); have HR := Lib.hid hR; (simp only [List.nil_append, List.cons_append] at HL2); clear hR hyin hynew ht x0 x1 x2 x3 x4 x5 x6 x7 x8 x9 hl3 y0 y1 y2 y3 y4 y5 y6 y7 fy0 fy1 fy2 fy3 fy4 fy5 fy6 fy7 hlx; (simp only [ent_eq]); obtain ⟨x0, x1, x2, x3, x4, x5, x6, x7, x8, x9, hl3⟩ := HL2.out.c10 8 rfl; obtain ⟨y0, y1, y2, y3, y4, y5, y6, y7, ⟨fy0, fy1, fy2, fy3, fy4, fy5, fy6, fy7⟩, hlx⟩ := HL2.out.c8' 5 rfl; clear m1 m2 m3 m4; have m1 : bx ≠ w2.heap.size := (by omega); have m2 := Ne.symm m1; have m3 : b3 ≠ w2.heap.size := (by omega); have m4 := Ne.symm m3)
    | (go_at_call 16; refine (Look_ch _ c at_ M q1 q2 (HLb.out.chAt 0 1 rfl rfl) 1 q1 es1 xi rfl (HLb.out.qAt 2 rfl) (fun e he => ⟨(HB1.out.2.2.2.2 _ (HLb.out.still 4 rfl)).1 e he, HB1.out.2.2.2.1 e he⟩)).mono ?_; rintro e w2 ⟨y, cc, rfl, hR, hyin, hynew, ht⟩; have HL2 := Lib.hid (HLb.out.valsNew (vs := [y.v]) ht (by simpa using hyin) (by simpa using hynew)); have HR := Lib.hid hR; (simp only [List.nil_append, List.cons_append] at HL2); clear hR hyin hynew ht x0 x1 x2 x3 x4 x5 x6 x7 x8 x9 hl3 y0 y1 y2 y3 y4 y5 y6 y7 fy0 fy1 fy2 fy3 fy4 fy5 fy6 fy7 hlx; (simp only [ent_eq]); obtain ⟨x0, x1, x2, x3, x4, x5, x6, x7, x8, x9, hl3⟩ := HL2.out.c10 8 rfl; obtain ⟨y0, y1, y2, y3, y4, y5, y6, y7, ⟨fy0, fy1, fy2, fy3, fy4, fy5, fy6, fy7⟩, hlx⟩ := HL2.out.c8' 5 rfl; obtain ⟨k0, k1, k2, k3, k4, k5, k6, ⟨kf0, kf1, kf2, kf3, kf4, kf5, kf6⟩, hlk, _, _⟩ := HL2.out.c7 9 rfl))
  all_goals rename_i hHeld
  all_goals clear hHeld HLa HLb m1 m2 m3 m4
  all_goals refine exit_nameR (Q := Exit.then _ _) ?_
  all_goals intro w3 hw3
  all_goals first
    | (have k0' := k0; clear k0'; have HL3 := Lib.hid ((HL2.out.setEnt 9 rfl y.sync y.thread y.branch y.flag y.v.kind y.v.num (.slice y.v.addr y.v.parts.length y.v.cap)).via hw3); (simp only [List.set_cons_succ, List.set_cons_zero] at HL3); clear hw3 HL2 k0 k1 k2 k3 k4 k5 k6 kf0 kf1 kf2 kf3 kf4 kf5 kf6 hlk; obtain ⟨b8, hb8⟩ : ∃ b, w1.heap.size = b := ⟨_, rfl⟩; rw [hb8] at HL3 ⊢; clear hb8)
    | (have HL3 := Lib.hid (((HL2.out.alloc 42 #[.int .i64 y.sync, .int .i64 y.thread, .int .i64 y.branch, .int .i64 y.flag, .int .i64 y.v.kind, .int .i64 y.v.num, .slice y.v.addr y.v.parts.length y.v.cap]).via hw3).sel [0, 1, 2, 3, 4, 5, 6, 7, 8, 10, 9] rfl (by decide) (l' := [_, _, _, _, _, _, _, _, _, _, _])); clear hw3 HL2; obtain ⟨b8, hb8⟩ : ∃ b, w2.heap.size = b := ⟨_, rfl⟩; rw [hb8] at HL3 ⊢; clear hb8)
  all_goals
    clear HL1 x0 x1 x2 x3 x4 x5 x6 x7 x8 x9 hl3 y0 y1 y2 y3 y4 y5 y6 y7 fy0 fy1 fy2 fy3 fy4 fy5 fy6 fy7 hlx
    obtain ⟨x0, x1, x2, x3, x4, x5, x6, x7, x8, x9, hl3⟩ := HL3.out.c10 8 rfl
    obtain ⟨y0, y1, y2, y3, y4, y5, y6, y7, ⟨fy0, fy1, fy2, fy3, fy4, fy5, fy6, fy7⟩, hlx⟩ := HL3.out.c8' 5 rfl
    have HLa := Lib.hid HL3.out.drew
    have HLb := Lib.hid (HL3.out.alloc 42 #[.int .i64 0, .int .i64 0, .int .i64 0, .int .i64 0, .int .i64 0, .int .i64 0, .slice none 0 0]).drew
    simp only [List.nil_append, List.cons_append] at HLb
    have m1 : bx ≠ w3.heap.size := by omega
    have m2 := Ne.symm m1
    have m3 : b3 ≠ w3.heap.size := by omega
    have m4 := Ne.symm m3
    go_upto_region 12 with fail
    go_region_held3 (fun w' => (w'.cell? ⟨bx, 5, none⟩ = some (.int .i64 at_) ∧ w'.cell? ⟨bx, 6, none⟩ = some (.slice a1 rs1.length c1) ∧ w'.cell? ⟨bx, 7, none⟩ = some (.slice a2 rs2.length c2)) ∧ w'.cell? ⟨b3, 2, none⟩ = some (.int .i64 xi)) (go_keep) (first
      | (go_at_call 51; refine (Look_ref14_1 _ at_ a1 c1 rs1 a2 c2 rs2 xi (HB1.out.2.2.2.2 _ (HLa.out.still 4 rfl)).2.1).mono ?_; rintro e w4 ⟨z, c4, rfl, hR, ht⟩; have HL4 := Lib.hid (HLa.out.touch ht); have HR2 := Lib.hid hR; clear hR ht x0 x1 x2 x3 x4 x5 x6 x7 x8 x9 hl3 y0 y1 y2 y3 y4 y5 y6 y7 fy0 fy1 fy2 fy3 fy4 fy5 fy6 fy7 hlx; (simp only [ent_eq]); obtain ⟨x0, x1, x2, x3, x4, x5, x6, x7, x8, x9, hl3⟩ := HL4.out.c10 8 rfl; obtain ⟨y0, y1, y2, y3, y4, y5, y6, y7, ⟨fy0, fy1, fy2, fy3, fy4, fy5, fy6, fy7⟩, hlx⟩ := HL4.out.c8' 5 rfl; clear m1 m2 m3 m4; have m1 : bx ≠ w4.heap.size := (by omega); have m2 := Ne.symm m1; have m3 : b3 ≠ w4.heap.size := (by omega); have m4 := Ne.symm m3)
      | (go_at_call 51; refine (Look_ref14_1 _ at_ a1 c1 rs1 a2 c2 rs2 xi (HB1.out.2.2.2.2 _ (HLb.out.still 4 rfl)).2.1).mono ?_; rintro e w4 ⟨z, c4, rfl, hR, ht⟩; have HL4 := Lib.hid (HLb.out.touch ht); have HR2 := Lib.hid hR; clear hR ht x0 x1 x2 x3 x4 x5 x6 x7 x8 x9 hl3 y0 y1 y2 y3 y4 y5 y6 y7 fy0 fy1 fy2 fy3 fy4 fy5 fy6 fy7 hlx; (simp only [ent_eq]); obtain ⟨x0, x1, x2, x3, x4, x5, x6, x7, x8, x9, hl3⟩ := HL4.out.c10 8 rfl; obtain ⟨y0, y1, y2, y3, y4, y5, y6, y7, ⟨fy0, fy1, fy2, fy3, fy4, fy5, fy6, fy7⟩, hlx⟩ := HL4.out.c8' 5 rfl; obtain ⟨k0, k1, k2, k3, k4, k5, k6, ⟨kf0, kf1, kf2, kf3, kf4, kf5, kf6⟩, hlk, _, _⟩ := HL4.out.c7 11 rfl))
  all_goals rename_i hHeld
  all_goals clear hHeld HLa HLb m1 m2 m3 m4
  all_goals refine exit_nameR (Q := Exit.then _ _) ?_
  all_goals intro w5 hw5
  all_goals first
    | (have k0' := k0; clear k0'; have HL5 := Lib.hid ((HL4.out.setEnt 11 rfl z.sync z.thread z.branch z.flag z.v.kind z.v.num (.slice z.v.addr z.v.parts.length z.v.cap)).via hw5); (simp only [List.set_cons_succ, List.set_cons_zero] at HL5); clear hw5 HL4 k0 k1 k2 k3 k4 k5 k6 kf0 kf1 kf2 kf3 kf4 kf5 kf6 hlk; obtain ⟨b10, hb10⟩ : ∃ b, w3.heap.size = b := ⟨_, rfl⟩; rw [hb10] at HL5 ⊢; clear hb10)
    | (have HL5 := Lib.hid ((HL4.out.alloc 42 #[.int .i64 z.sync, .int .i64 z.thread, .int .i64 z.branch, .int .i64 z.flag, .int .i64 z.v.kind, .int .i64 z.v.num, .slice z.v.addr z.v.parts.length z.v.cap]).via hw5); clear hw5 HL4; obtain ⟨b10, hb10⟩ : ∃ b, w4.heap.size = b := ⟨_, rfl⟩; rw [hb10] at HL5 ⊢; clear hb10)
  all_goals
    (try simp only [List.nil_append, List.cons_append] at HL5)
    clear HL3 x0 x1 x2 x3 x4 x5 x6 x7 x8 x9 hl3 y0 y1 y2 y3 y4 y5 y6 y7 fy0 fy1 fy2 fy3 fy4 fy5 fy6 fy7 hlx
    obtain ⟨k0, k1, k2, k3, k4, k5, k6, _, hlk, _, _⟩ := HL5.out.c7 9 rfl
    obtain ⟨z0, z1, z2, z3, z4, z5, z6, _, hlz, _, _⟩ := HL5.out.c7 11 rfl
    obtain ⟨hyz, rfl⟩ := HR2.out.plain HR.out HB1.out.1
    have HYZ := Lib.hid hyz
    have HZN : Hid (z.v.nodes ≤ 256) := HR2.out.inq (p := fun y => y.v.nodes ≤ 256) (by simp [ME.zero, MT.zero, MT.nodes, MT.nodesAll]) HB1.out.rnodes
    have HYN : Hid (y.v.nodes ≤ 256) := by unfold Hid; rw [plain_nodes_eq hyz.symm]; exact HZN.out
    have HSE := Lib.hid (SameEntry_ref y z w5 (HL5.out.valsIn 10 rfl _ (by simp)) (HR2.out.inq (p := fun y => y.v.In w5) (MT.in_zero w5) (fun r hr => (HB1.out.2.2.2.2 _ (HL5.out.still 4 rfl)).2.2 r hr)) (by have := HYN.out; omega) (by have := HZN.out; omega))
    simp only [ent_eq] at HSE
    have hcc : (cc == cc) = true := by simp
    clear hyz
    go_wp2_with fail
    refine HSE.out.mono ?_
    rintro e w6 ⟨c6, rfl, hc6, ht⟩
    obtain rfl : c6 = true := hc6.2 ⟨HYN.out, HZN.out, HYZ.out⟩
    have HL6 := Lib.hid (HL5.out.touch ht)
    clear ht hc6 HSE
    go_wp2
    go_ret
    exact ⟨c, M, q1, q2, es1, es2, rs1, rs2, a1, c1, a2, c2, P, rfl, HB1.out, HB2.out, fun W hW => hW, HL6.out.sel [0, 1, 2, 3, 4, 5, 6, 7] rfl (by decide)⟩
set_option maxHeartbeats 4000000 in
theorem act14_look2 (T : List Nat) (w : World) (P : World → Prop) (c : Nat) (at_ : Int) (M q1 q2 bx g : Nat) (es1 es2 rs1 rs2 : List ME) (a1 : Option Addr) (c1 : Nat) (a2 : Option Addr) (c2 : Nat) (s : Ar) (vc vl : Value) (x : C4) (h : Led T w w (L14 c at_ M q1 q2 es1 es2 P bx g s vc vl a1 rs1.length c1 a2 rs2.length c2)) (hB1 : Both13 P es1 rs1 a1 c1) (hB2 : Both13 P es2 rs2 a2 c2) (hw : x.what = 4) (hsd : x.side = 2) :
    Calls Tryd.prog 19 #[.pointer (some ⟨bx, 0, none⟩), x.val] w (Acted14 T w P bx g at_ s vc vl) := by
  obtain ⟨xw, xs, xi, xe⟩ := x
  dsimp only at hw hsd
  subst hw
  subst hsd
  have HB1 := Lib.hid hB1
  have HB2 := Lib.hid hB2
  have HL0 := Lib.hid h
  clear h hB1 hB2
  obtain ⟨ca, cp, rfl, _, _⟩ := own_val (HL0.out.refAt 7 rfl).cel
  obtain ⟨la, lp, rfl, _, _⟩ := own_val (HL0.out.refAt 7 rfl).log
  simp only [L14, chanL, bothC14, List.cons_append, List.nil_append] at HL0
  unfold C4.val
  go_enter Tryd.func19, Tryd.ntmps19
  go_upto_region 1 with fail
  refine wp_name ?_
  intro w1 hw1
  have HL1 := Lib.hid (HL0.out.al1 hw1)
  simp only [List.nil_append, List.cons_append] at HL1
  obtain ⟨b3, hb3⟩ : ∃ b, w.heap.size = b := ⟨_, rfl⟩
  rw [hb3] at HL1 ⊢
  clear hw1 hb3 HL0
  obtain ⟨x0, x1, x2, x3, x4, x5, x6, x7, x8, x9, hl3⟩ := HL1.out.c10 8 rfl
  obtain ⟨y0, y1, y2, y3, y4, y5, y6, y7, ⟨fy0, fy1, fy2, fy3, fy4, fy5, fy6, fy7⟩, hlx⟩ := HL1.out.c8' 5 rfl
  have HLa := Lib.hid HL1.out.drew
  have HLb := Lib.hid (HL1.out.alloc 42 #[.int .i64 0, .int .i64 0, .int .i64 0, .int .i64 0, .int .i64 0, .int .i64 0, .slice none 0 0]).drew
  simp only [List.nil_append, List.cons_append] at HLb
  have m1 : bx ≠ w1.heap.size := by omega
  have m2 := Ne.symm m1
  have m3 : b3 ≠ w1.heap.size := by omega
  have m4 := Ne.symm m3
  go_upto_region 11 with fail
  go_region_held3 (fun w' => w'.cell? ⟨bx, 1, none⟩ = some (.pointer (some ⟨c, 0, none⟩)) ∧ w'.cell? ⟨b3, 1, none⟩ = some (.int .i64 2) ∧ w'.cell? ⟨b3, 2, none⟩ = some (.int .i64 xi)) (go_keep) (first
    | (go_at_call 16; refine (Look_ch _ c at_ M q1 q2 (HLa.out.chAt 0 1 rfl rfl) 2 q2 es2 xi rfl (HLa.out.qAt 3 rfl) (fun e he => ⟨(HB2.out.2.2.2.2 _ (HLa.out.still 4 rfl)).1 e he, HB2.out.2.2.2.1 e he⟩)).mono ?_; rintro e w2 ⟨y, cc, rfl, hR, hyin, hynew, ht⟩; have HL2 := Lib.hid (HLa.out.valsNew (vs := [y.v]) ht (by simpa using hyin) (by simpa using hynew)); have HR := Lib.hid hR; (simp only [List.nil_append, List.cons_append] at HL2); clear hR hyin hynew ht x0 x1 x2 x3 x4 x5 x6 x7 x8 x9 hl3 y0 y1 y2 y3 y4 y5 y6 y7 fy0 fy1 fy2 fy3 fy4 fy5 fy6 fy7 hlx; (simp only [ent_eq]); obtain ⟨x0, x1, x2, x3, x4, x5, x6, x7, x8, x9, hl3⟩ := HL2.out.c10 8 rfl; obtain ⟨y0, y1, y2, y3, y4, y5, y6, y7, ⟨fy0, fy1, fy2, fy3, fy4, fy5, fy6, fy7⟩, hlx⟩ := HL2.out.c8' 5 rfl; clear m1 m2 m3 m4; have m1 : bx ≠ w2.heap.size := (by omega); have m2 := Ne.symm m1; have m3 : b3 ≠ w2.heap.size := (by omega); have m4 := Ne.symm m3)
    | (go_at_call 16; refine (Look_ch _ c at_ M q1 q2 (HLb.out.chAt 0 1 rfl rfl) 2 q2 es2 xi rfl (HLb.out.qAt 3 rfl) (fun e he => ⟨(HB2.out.2.2.2.2 _ (HLb.out.still 4 rfl)).1 e he, HB2.out.2.2.2.1 e he⟩)).mono ?_; rintro e w2 ⟨y, cc, rfl, hR, hyin, hynew, ht⟩; have HL2 := Lib.hid (HLb.out.valsNew (vs := [y.v]) ht (by simpa using hyin) (by simpa using hynew)); have HR := Lib.hid hR; (simp only [List.nil_append, List.cons_append] at HL2); clear hR hyin hynew ht x0 x1 x2 x3 x4 x5 x6 x7 x8 x9 hl3 y0 y1 y2 y3 y4 y5 y6 y7 fy0 fy1 fy2 fy3 fy4 fy5 fy6 fy7 hlx; (simp only [ent_eq]); obtain ⟨x0, x1, x2, x3, x4, x5, x6, x7, x8, x9, hl3⟩ := HL2.out.c10 8 rfl; obtain ⟨y0, y1, y2, y3, y4, y5, y6, y7, ⟨fy0, fy1, fy2, fy3, fy4, fy5, fy6, fy7⟩, hlx⟩ := HL2.out.c8' 5 rfl; obtain ⟨k0, k1, k2, k3, k4, k5, k6, ⟨kf0, kf1, kf2, kf3, kf4, kf5, kf6⟩, hlk, _, _⟩ := HL2.out.c7 9 rfl))
  all_goals rename_i hHeld
  all_goals clear hHeld HLa HLb m1 m2 m3 m4
  all_goals refine exit_nameR (Q := Exit.then _ _) ?_
  all_goals intro w3 hw3
  all_goals first
    | (have k0' := k0; clear k0'; have HL3 := Lib.hid ((HL2.out.setEnt 9 rfl y.sync y.thread y.branch y.flag y.v.kind y.v.num (.slice y.v.addr y.v.parts.length y.v.cap)).via hw3); (simp only [List.set_cons_succ, List.set_cons_zero] at HL3); clear hw3 HL2 k0 k1 k2 k3 k4 k5 k6 kf0 kf1 kf2 kf3 kf4 kf5 kf6 hlk; obtain ⟨b8, hb8⟩ : ∃ b, w1.heap.size = b := ⟨_, rfl⟩; rw [hb8] at HL3 ⊢; clear hb8)
    | (have HL3 := Lib.hid (((HL2.out.alloc 42 #[.int .i64 y.sync, .int .i64 y.thread, .int .i64 y.branch, .int .i64 y.flag, .int .i64 y.v.kind, .int .i64 y.v.num, .slice y.v.addr y.v.parts.length y.v.cap]).via hw3).sel [0, 1, 2, 3, 4, 5, 6, 7, 8, 10, 9] rfl (by decide) (l' := [_, _, _, _, _, _, _, _, _, _, _])); clear hw3 HL2; obtain ⟨b8, hb8⟩ : ∃ b, w2.heap.size = b := ⟨_, rfl⟩; rw [hb8] at HL3 ⊢; clear hb8)
  all_goals
    clear HL1 x0 x1 x2 x3 x4 x5 x6 x7 x8 x9 hl3 y0 y1 y2 y3 y4 y5 y6 y7 fy0 fy1 fy2 fy3 fy4 fy5 fy6 fy7 hlx
    obtain ⟨x0, x1, x2, x3, x4, x5, x6, x7, x8, x9, hl3⟩ := HL3.out.c10 8 rfl
    obtain ⟨y0, y1, y2, y3, y4, y5, y6, y7, ⟨fy0, fy1, fy2, fy3, fy4, fy5, fy6, fy7⟩, hlx⟩ := HL3.out.c8' 5 rfl
    have HLa := Lib.hid HL3.out.drew
    have HLb := Lib.hid (HL3.out.alloc 42 #[.int .i64 0, .int .i64 0, .int .i64 0, .int .i64 0, .int .i64 0, .int .i64 0, .slice none 0 0]).drew
    simp only [List.nil_append, List.cons_append] at HLb
    have m1 : bx ≠ w3.heap.size := by omega
    have m2 := Ne.symm m1
    have m3 : b3 ≠ w3.heap.size := by omega
    have m4 := Ne.symm m3
    go_upto_region 12 with fail
    go_region_held3 (fun w' => (w'.cell? ⟨bx, 5, none⟩ = some (.int .i64 at_) ∧ w'.cell? ⟨bx, 6, none⟩ = some (.slice a1 rs1.length c1) ∧ w'.cell? ⟨bx, 7, none⟩ = some (.slice a2 rs2.length c2)) ∧ w'.cell? ⟨b3, 2, none⟩ = some (.int .i64 xi)) (go_keep) (first
      | (go_at_call 51; refine (Look_ref14_2 _ at_ a1 c1 rs1 a2 c2 rs2 xi (HB2.out.2.2.2.2 _ (HLa.out.still 4 rfl)).2.1).mono ?_; rintro e w4 ⟨z, c4, rfl, hR, ht⟩; have HL4 := Lib.hid (HLa.out.touch ht); have HR2 := Lib.hid hR; clear hR ht x0 x1 x2 x3 x4 x5 x6 x7 x8 x9 hl3 y0 y1 y2 y3 y4 y5 y6 y7 fy0 fy1 fy2 fy3 fy4 fy5 fy6 fy7 hlx; (simp only [ent_eq]); obtain ⟨x0, x1, x2, x3, x4, x5, x6, x7, x8, x9, hl3⟩ := HL4.out.c10 8 rfl; obtain ⟨y0, y1, y2, y3, y4, y5, y6, y7, ⟨fy0, fy1, fy2, fy3, fy4, fy5, fy6, fy7⟩, hlx⟩ := HL4.out.c8' 5 rfl; clear m1 m2 m3 m4; have m1 : bx ≠ w4.heap.size := (by omega); have m2 := Ne.symm m1; have m3 : b3 ≠ w4.heap.size := (by omega); have m4 := Ne.symm m3)
      | (go_at_call 51; refine (Look_ref14_2 _ at_ a1 c1 rs1 a2 c2 rs2 xi (HB2.out.2.2.2.2 _ (HLb.out.still 4 rfl)).2.1).mono ?_; rintro e w4 ⟨z, c4, rfl, hR, ht⟩; have HL4 := Lib.hid (HLb.out.touch ht); have HR2 := Lib.hid hR; clear hR ht x0 x1 x2 x3 x4 x5 x6 x7 x8 x9 hl3 y0 y1 y2 y3 y4 y5 y6 y7 fy0 fy1 fy2 fy3 fy4 fy5 fy6 fy7 hlx; (simp only [ent_eq]); obtain ⟨x0, x1, x2, x3, x4, x5, x6, x7, x8, x9, hl3⟩ := HL4.out.c10 8 rfl; obtain ⟨y0, y1, y2, y3, y4, y5, y6, y7, ⟨fy0, fy1, fy2, fy3, fy4, fy5, fy6, fy7⟩, hlx⟩ := HL4.out.c8' 5 rfl; obtain ⟨k0, k1, k2, k3, k4, k5, k6, ⟨kf0, kf1, kf2, kf3, kf4, kf5, kf6⟩, hlk, _, _⟩ := HL4.out.c7 11 rfl))
  all_goals rename_i hHeld
  all_goals clear hHeld HLa HLb m1 m2 m3 m4
  all_goals refine exit_nameR (Q := Exit.then _ _) ?_
  all_goals intro w5 hw5
  all_goals first
    | (have k0' := k0; clear k0'; have HL5 := Lib.hid ((HL4.out.setEnt 11 rfl z.sync z.thread z.branch z.flag z.v.kind z.v.num (.slice z.v.addr z.v.parts.length z.v.cap)).via hw5); (simp only [List.set_cons_succ, List.set_cons_zero] at HL5); clear hw5 HL4 k0 k1 k2 k3 k4 k5 k6 kf0 kf1 kf2 kf3 kf4 kf5 kf6 hlk; obtain ⟨b10, hb10⟩ : ∃ b, w3.heap.size = b := ⟨_, rfl⟩; rw [hb10] at HL5 ⊢; clear hb10)
    | (have HL5 := Lib.hid ((HL4.out.alloc 42 #[.int .i64 z.sync, .int .i64 z.thread, .int .i64 z.branch, .int .i64 z.flag, .int .i64 z.v.kind, .int .i64 z.v.num, .slice z.v.addr z.v.parts.length z.v.cap]).via hw5); clear hw5 HL4; obtain ⟨b10, hb10⟩ : ∃ b, w4.heap.size = b := ⟨_, rfl⟩; rw [hb10] at HL5 ⊢; clear hb10)
  all_goals
    (try simp only [List.nil_append, List.cons_append] at HL5)
    clear HL3 x0 x1 x2 x3 x4 x5 x6 x7 x8 x9 hl3 y0 y1 y2 y3 y4 y5 y6 y7 fy0 fy1 fy2 fy3 fy4 fy5 fy6 fy7 hlx
    obtain ⟨k0, k1, k2, k3, k4, k5, k6, _, hlk, _, _⟩ := HL5.out.c7 9 rfl
    obtain ⟨z0, z1, z2, z3, z4, z5, z6, _, hlz, _, _⟩ := HL5.out.c7 11 rfl
    obtain ⟨hyz, rfl⟩ := HR2.out.plain HR.out HB2.out.1
    have HYZ := Lib.hid hyz
    have HZN : Hid (z.v.nodes ≤ 256) := HR2.out.inq (p := fun y => y.v.nodes ≤ 256) (by simp [ME.zero, MT.zero, MT.nodes, MT.nodesAll]) HB2.out.rnodes
    have HYN : Hid (y.v.nodes ≤ 256) := by unfold Hid; rw [plain_nodes_eq hyz.symm]; exact HZN.out
    have HSE := Lib.hid (SameEntry_ref y z w5 (HL5.out.valsIn 10 rfl _ (by simp)) (HR2.out.inq (p := fun y => y.v.In w5) (MT.in_zero w5) (fun r hr => (HB2.out.2.2.2.2 _ (HL5.out.still 4 rfl)).2.2 r hr)) (by have := HYN.out; omega) (by have := HZN.out; omega))
    simp only [ent_eq] at HSE
    have hcc : (cc == cc) = true := by simp
    clear hyz
    go_wp2_with fail
    refine HSE.out.mono ?_
    rintro e w6 ⟨c6, rfl, hc6, ht⟩
    obtain rfl : c6 = true := hc6.2 ⟨HYN.out, HZN.out, HYZ.out⟩
    have HL6 := Lib.hid (HL5.out.touch ht)
    clear ht hc6 HSE
    go_wp2
    go_ret
    exact ⟨c, M, q1, q2, es1, es2, rs1, rs2, a1, c1, a2, c2, P, rfl, HB1.out, HB2.out, fun W hW => hW, HL6.out.sel [0, 1, 2, 3, 4, 5, 6, 7] rfl (by decide)⟩
set_option maxHeartbeats 4000000 in
theorem act14_lookno (T : List Nat) (w : World) (P : World → Prop) (c : Nat) (at_ : Int) (M q1 q2 bx g : Nat) (es1 es2 rs1 rs2 : List ME) (a1 : Option Addr) (c1 : Nat) (a2 : Option Addr) (c2 : Nat) (s : Ar) (vc vl : Value) (x : C4) (h : Led T w w (L14 c at_ M q1 q2 es1 es2 P bx g s vc vl a1 rs1.length c1 a2 rs2.length c2)) (hB1 : Both13 P es1 rs1 a1 c1) (hB2 : Both13 P es2 rs2 a2 c2) (hw : x.what = 4) (hsd : x.side ≠ 1 ∧ x.side ≠ 2) :
    Calls Tryd.prog 19 #[.pointer (some ⟨bx, 0, none⟩), x.val] w (Acted14 T w P bx g at_ s vc vl) := by
  obtain ⟨xw, xs, xi, xe⟩ := x
  dsimp only at hw hsd
  subst hw
  have hq := qOf_no (q1 := q1) (q2 := q2) hsd.1 hsd.2
  have HB1 := Lib.hid hB1
  have HB2 := Lib.hid hB2
  have HL0 := Lib.hid h
  clear h hB1 hB2
  obtain ⟨ca, cp, rfl, _, _⟩ := own_val (HL0.out.refAt 7 rfl).cel
  obtain ⟨la, lp, rfl, _, _⟩ := own_val (HL0.out.refAt 7 rfl).log
  simp only [L14, chanL, bothC14, List.cons_append, List.nil_append] at HL0
  unfold C4.val
  go_enter Tryd.func19, Tryd.ntmps19
  go_upto_region 1 with fail
  refine wp_name ?_
  intro w1 hw1
  have HL1 := Lib.hid (HL0.out.al1 hw1)
  simp only [List.nil_append, List.cons_append] at HL1
  obtain ⟨b3, hb3⟩ : ∃ b, w.heap.size = b := ⟨_, rfl⟩
  rw [hb3] at HL1 ⊢
  clear hw1 hb3 HL0
  obtain ⟨x0, x1, x2, x3, x4, x5, x6, x7, x8, x9, hl3⟩ := HL1.out.c10 8 rfl
  obtain ⟨y0, y1, y2, y3, y4, y5, y6, y7, ⟨fy0, fy1, fy2, fy3, fy4, fy5, fy6, fy7⟩, hlx⟩ := HL1.out.c8' 5 rfl
  have HLa := Lib.hid HL1.out.drew
  have HLb := Lib.hid (HL1.out.alloc 42 #[.int .i64 0, .int .i64 0, .int .i64 0, .int .i64 0, .int .i64 0, .int .i64 0, .slice none 0 0]).drew
  simp only [List.nil_append, List.cons_append] at HLb
  have m1 : bx ≠ w1.heap.size := by omega
  have m2 := Ne.symm m1
  have m3 : b3 ≠ w1.heap.size := by omega
  have m4 := Ne.symm m3
  go_upto_region 11 with fail
  go_region_held3 (fun w' => w'.cell? ⟨bx, 1, none⟩ = some (.pointer (some ⟨c, 0, none⟩)) ∧ w'.cell? ⟨b3, 1, none⟩ = some (.int .i64 xs) ∧ w'.cell? ⟨b3, 2, none⟩ = some (.int .i64 xi)) (go_keep) (first
    | (go_at_call 16; refine (Look_ch_no _ c at_ M q1 q2 (HLa.out.chAt 0 1 rfl rfl) xs xi hq).mono ?_; rintro e w2 ⟨rfl, ht⟩; have HL2 := Lib.hid ((HLa.out.touch ht).valsNew (vs := [ME.zero.v]) (Touch.refl _ _) (by simp [MT.in_zero, ME.zero]) (by simp [ME.zero, MT.zero, MT.blocks, MT.blocksAll])); (simp only [List.nil_append, List.cons_append] at HL2); clear ht x0 x1 x2 x3 x4 x5 x6 x7 x8 x9 hl3 y0 y1 y2 y3 y4 y5 y6 y7 fy0 fy1 fy2 fy3 fy4 fy5 fy6 fy7 hlx; (rw [zero_valW]); obtain ⟨x0, x1, x2, x3, x4, x5, x6, x7, x8, x9, hl3⟩ := HL2.out.c10 8 rfl; obtain ⟨y0, y1, y2, y3, y4, y5, y6, y7, ⟨fy0, fy1, fy2, fy3, fy4, fy5, fy6, fy7⟩, hlx⟩ := HL2.out.c8' 5 rfl; clear m1 m2 m3 m4; have m1 : bx ≠ w2.heap.size := (by omega); have m2 := Ne.symm m1; have m3 : b3 ≠ w2.heap.size := (by omega); have m4 := Ne.symm m3)
    | (go_at_call 16; refine (Look_ch_no _ c at_ M q1 q2 (HLb.out.chAt 0 1 rfl rfl) xs xi hq).mono ?_; rintro e w2 ⟨rfl, ht⟩; have HL2 := Lib.hid ((HLb.out.touch ht).valsNew (vs := [ME.zero.v]) (Touch.refl _ _) (by simp [MT.in_zero, ME.zero]) (by simp [ME.zero, MT.zero, MT.blocks, MT.blocksAll])); (simp only [List.nil_append, List.cons_append] at HL2); clear ht x0 x1 x2 x3 x4 x5 x6 x7 x8 x9 hl3 y0 y1 y2 y3 y4 y5 y6 y7 fy0 fy1 fy2 fy3 fy4 fy5 fy6 fy7 hlx; (rw [zero_valW]); obtain ⟨x0, x1, x2, x3, x4, x5, x6, x7, x8, x9, hl3⟩ := HL2.out.c10 8 rfl; obtain ⟨y0, y1, y2, y3, y4, y5, y6, y7, ⟨fy0, fy1, fy2, fy3, fy4, fy5, fy6, fy7⟩, hlx⟩ := HL2.out.c8' 5 rfl; obtain ⟨k0, k1, k2, k3, k4, k5, k6, ⟨kf0, kf1, kf2, kf3, kf4, kf5, kf6⟩, hlk, _, _⟩ := HL2.out.c7 9 rfl))
  all_goals rename_i hHeld
  all_goals clear hHeld HLa HLb m1 m2 m3 m4
  all_goals refine exit_nameR (Q := Exit.then _ _) ?_
  all_goals intro w3 hw3
  all_goals first
    | (have k0' := k0; clear k0'; have HL3 := Lib.hid ((HL2.out.setEnt 9 rfl 0 0 0 0 0 0 (.slice none 0 0)).via hw3); (simp only [List.set_cons_succ, List.set_cons_zero] at HL3); clear hw3 HL2 k0 k1 k2 k3 k4 k5 k6 kf0 kf1 kf2 kf3 kf4 kf5 kf6 hlk; obtain ⟨b8, hb8⟩ : ∃ b, w1.heap.size = b := ⟨_, rfl⟩; rw [hb8] at HL3 ⊢; clear hb8)
    | (have HL3 := Lib.hid (((HL2.out.alloc 42 #[.int .i64 0, .int .i64 0, .int .i64 0, .int .i64 0, .int .i64 0, .int .i64 0, .slice none 0 0]).via hw3).sel [0, 1, 2, 3, 4, 5, 6, 7, 8, 10, 9] rfl (by decide) (l' := [_, _, _, _, _, _, _, _, _, _, _])); clear hw3 HL2; obtain ⟨b8, hb8⟩ : ∃ b, w2.heap.size = b := ⟨_, rfl⟩; rw [hb8] at HL3 ⊢; clear hb8)
  all_goals
    clear HL1 x0 x1 x2 x3 x4 x5 x6 x7 x8 x9 hl3 y0 y1 y2 y3 y4 y5 y6 y7 fy0 fy1 fy2 fy3 fy4 fy5 fy6 fy7 hlx
    obtain ⟨x0, x1, x2, x3, x4, x5, x6, x7, x8, x9, hl3⟩ := HL3.out.c10 8 rfl
    obtain ⟨y0, y1, y2, y3, y4, y5, y6, y7, ⟨fy0, fy1, fy2, fy3, fy4, fy5, fy6, fy7⟩, hlx⟩ := HL3.out.c8' 5 rfl
    have HLa := Lib.hid HL3.out.drew
    have HLb := Lib.hid (HL3.out.alloc 42 #[.int .i64 0, .int .i64 0, .int .i64 0, .int .i64 0, .int .i64 0, .int .i64 0, .slice none 0 0]).drew
    simp only [List.nil_append, List.cons_append] at HLb
    have m1 : bx ≠ w3.heap.size := by omega
    have m2 := Ne.symm m1
    have m3 : b3 ≠ w3.heap.size := by omega
    have m4 := Ne.symm m3
    go_upto_region 12 with fail
    go_region_held3 (fun w' => (w'.cell? ⟨bx, 5, none⟩ = some (.int .i64 at_) ∧ w'.cell? ⟨bx, 6, none⟩ = some (.slice a1 rs1.length c1) ∧ w'.cell? ⟨bx, 7, none⟩ = some (.slice a2 rs2.length c2)) ∧ w'.cell? ⟨b3, 2, none⟩ = some (.int .i64 xi)) (go_keep) (first
      | (go_at_call 51; refine (Look_ref14_no _ at_ a1 rs1.length c1 a2 rs2.length c2 xs xi hsd.1 hsd.2).mono ?_; rintro e w4 ⟨rfl, ht⟩; have HL4 := Lib.hid (HLa.out.touch ht); clear ht x0 x1 x2 x3 x4 x5 x6 x7 x8 x9 hl3 y0 y1 y2 y3 y4 y5 y6 y7 fy0 fy1 fy2 fy3 fy4 fy5 fy6 fy7 hlx; (rw [zero_valW]); obtain ⟨x0, x1, x2, x3, x4, x5, x6, x7, x8, x9, hl3⟩ := HL4.out.c10 8 rfl; obtain ⟨y0, y1, y2, y3, y4, y5, y6, y7, ⟨fy0, fy1, fy2, fy3, fy4, fy5, fy6, fy7⟩, hlx⟩ := HL4.out.c8' 5 rfl; clear m1 m2 m3 m4; have m1 : bx ≠ w4.heap.size := (by omega); have m2 := Ne.symm m1; have m3 : b3 ≠ w4.heap.size := (by omega); have m4 := Ne.symm m3)
      | (go_at_call 51; refine (Look_ref14_no _ at_ a1 rs1.length c1 a2 rs2.length c2 xs xi hsd.1 hsd.2).mono ?_; rintro e w4 ⟨rfl, ht⟩; have HL4 := Lib.hid (HLb.out.touch ht); clear ht x0 x1 x2 x3 x4 x5 x6 x7 x8 x9 hl3 y0 y1 y2 y3 y4 y5 y6 y7 fy0 fy1 fy2 fy3 fy4 fy5 fy6 fy7 hlx; (rw [zero_valW]); obtain ⟨x0, x1, x2, x3, x4, x5, x6, x7, x8, x9, hl3⟩ := HL4.out.c10 8 rfl; obtain ⟨y0, y1, y2, y3, y4, y5, y6, y7, ⟨fy0, fy1, fy2, fy3, fy4, fy5, fy6, fy7⟩, hlx⟩ := HL4.out.c8' 5 rfl; obtain ⟨k0, k1, k2, k3, k4, k5, k6, ⟨kf0, kf1, kf2, kf3, kf4, kf5, kf6⟩, hlk, _, _⟩ := HL4.out.c7 11 rfl))
  all_goals rename_i hHeld
  all_goals clear hHeld HLa HLb m1 m2 m3 m4
  all_goals refine exit_nameR (Q := Exit.then _ _) ?_
  all_goals intro w5 hw5
  all_goals first
    | (have k0' := k0; clear k0'; have HL5 := Lib.hid ((HL4.out.setEnt 11 rfl 0 0 0 0 0 0 (.slice none 0 0)).via hw5); (simp only [List.set_cons_succ, List.set_cons_zero] at HL5); clear hw5 HL4 k0 k1 k2 k3 k4 k5 k6 kf0 kf1 kf2 kf3 kf4 kf5 kf6 hlk; obtain ⟨b10, hb10⟩ : ∃ b, w3.heap.size = b := ⟨_, rfl⟩; rw [hb10] at HL5 ⊢; clear hb10)
    | (have HL5 := Lib.hid ((HL4.out.alloc 42 #[.int .i64 0, .int .i64 0, .int .i64 0, .int .i64 0, .int .i64 0, .int .i64 0, .slice none 0 0]).via hw5); clear hw5 HL4; obtain ⟨b10, hb10⟩ : ∃ b, w4.heap.size = b := ⟨_, rfl⟩; rw [hb10] at HL5 ⊢; clear hb10)
  all_goals
    (try simp only [List.nil_append, List.cons_append] at HL5)
    clear HL3 x0 x1 x2 x3 x4 x5 x6 x7 x8 x9 hl3 y0 y1 y2 y3 y4 y5 y6 y7 fy0 fy1 fy2 fy3 fy4 fy5 fy6 fy7 hlx
    obtain ⟨k0, k1, k2, k3, k4, k5, k6, _, hlk, _, _⟩ := HL5.out.c7 9 rfl
    obtain ⟨z0, z1, z2, z3, z4, z5, z6, _, hlz, _, _⟩ := HL5.out.c7 11 rfl
    have HSE := Lib.hid (SameEntry_ref ME.zero ME.zero w5 (MT.in_zero w5) (MT.in_zero w5) (by simp [ME.zero, MT.zero, MT.nodes, MT.nodesAll]) (by simp [ME.zero, MT.zero, MT.nodes, MT.nodesAll]))
    rw [zero_valW] at HSE
    go_wp2_with fail
    refine HSE.out.mono ?_
    rintro e w6 ⟨c6, rfl, hc6, ht⟩
    obtain rfl : c6 = true := hc6.2 (by simp [ME.zero, MT.zero, MT.nodes, MT.nodesAll])
    have HL6 := Lib.hid (HL5.out.touch ht)
    clear ht hc6 HSE
    go_wp2
    go_ret
    exact ⟨c, M, q1, q2, es1, es2, rs1, rs2, a1, c1, a2, c2, P, rfl, HB1.out, HB2.out, fun W hW => hW, HL6.out.sel [0, 1, 2, 3, 4, 5, 6, 7] rfl (by decide)⟩
end Go.Proofs.YtihmbgdkllmkaaaDoor

/-
  act() of law 14 (betrothallaw14/law.go): one call by both: a drop, a push on no side.
-/
namespace Go.Proofs.YtihmbgdkllmkaaaDoor
open Go.RowKit Go.Shelf
set_option maxRecDepth 100000
set_option linter.unusedVariables false
set_option linter.unusedSimpArgs false
theorem Led.r14Drop1 {T : List Nat} {w0 w : World} {l : List Thing} {P : World → Prop} (h : Led T w0 w l) (j : Nat) (hj : l[j]? = some (stillT P)) (cell : Int) (a1 : Option Addr) (c1 : Nat) (rs1 : List ME) (a2 : Option Addr) (c2 : Nat) (rs2 : List ME) (i : Int) (hcap : rs1.length ≤ c1) (hP : ∀ W, P W → EntsAt W a1 rs1) (hlen : rs1.length ≤ 1048576) :
    Calls Tryd.prog 53 #[.agg #[.int .i64 cell, .slice a1 rs1.length c1, .slice a2 rs2.length c2], .int .i64 1, .int .i64 i] w fun e w' => ∃ (a' : Option Addr) (cap' : Nat) (rs' : List ME) (x : ME) (c : Bool), e = .returned (.tuple #[.agg #[.int .i64 cell, .slice a' rs'.length cap', .slice a2 rs2.length c2], x.val, .bool c]) ∧ rs'.length ≤ cap' ∧ AtRef rs1 i x c ∧ rs' = (if c = true then rs1.eraseIdx i.toNat else rs1) ∧ ∃ P' : World → Prop, (∀ W, P' W → P W ∧ EntsAt W a' rs') ∧ Led T w0 w' (l.set j (stillT P')) := by
  obtain ⟨T', h1, hb⟩ := h.frame1 j hj
  refine (Drop_ref14_1 T' w P cell a1 c1 rs1 a2 c2 rs2 i hcap h1 hP hlen).mono ?_
  rintro e w' ⟨a', cap', rs', x, c, rest, rfl, hcp, hR, hrs, P', hP', hL⟩
  exact ⟨a', cap', rs', x, c, rfl, hcp, hR, hrs, P', hP', hb _ _ _ hL⟩
theorem Led.r14Drop2 {T : List Nat} {w0 w : World} {l : List Thing} {P : World → Prop} (h : Led T w0 w l) (j : Nat) (hj : l[j]? = some (stillT P)) (cell : Int) (a1 : Option Addr) (c1 : Nat) (rs1 : List ME) (a2 : Option Addr) (c2 : Nat) (rs2 : List ME) (i : Int) (hcap : rs2.length ≤ c2) (hP : ∀ W, P W → EntsAt W a2 rs2) (hlen : rs2.length ≤ 1048576) :
    Calls Tryd.prog 53 #[.agg #[.int .i64 cell, .slice a1 rs1.length c1, .slice a2 rs2.length c2], .int .i64 2, .int .i64 i] w fun e w' => ∃ (a' : Option Addr) (cap' : Nat) (rs' : List ME) (x : ME) (c : Bool), e = .returned (.tuple #[.agg #[.int .i64 cell, .slice a1 rs1.length c1, .slice a' rs'.length cap'], x.val, .bool c]) ∧ rs'.length ≤ cap' ∧ AtRef rs2 i x c ∧ rs' = (if c = true then rs2.eraseIdx i.toNat else rs2) ∧ ∃ P' : World → Prop, (∀ W, P' W → P W ∧ EntsAt W a' rs') ∧ Led T w0 w' (l.set j (stillT P')) := by
  obtain ⟨T', h1, hb⟩ := h.frame1 j hj
  refine (Drop_ref14_2 T' w P cell a1 c1 rs1 a2 c2 rs2 i hcap h1 hP hlen).mono ?_
  rintro e w' ⟨a', cap', rs', x, c, rest, rfl, hcp, hR, hrs, P', hP', hL⟩
  exact ⟨a', cap', rs', x, c, rfl, hcp, hR, hrs, P', hP', hb _ _ _ hL⟩
set_option maxHeartbeats 4000000 in
theorem act14_drop1 (T : List Nat) (w : World) (P : World → Prop) (c : Nat) (at_ : Int) (M q1 q2 bx g : Nat) (es1 es2 rs1 rs2 : List ME) (a1 : Option Addr) (c1 : Nat) (a2 : Option Addr) (c2 : Nat) (s : Ar) (vc vl : Value) (x : C4) (h : Led T w w (L14 c at_ M q1 q2 es1 es2 P bx g s vc vl a1 rs1.length c1 a2 rs2.length c2)) (hB1 : Both13 P es1 rs1 a1 c1) (hB2 : Both13 P es2 rs2 a2 c2) (hw : x.what = 5) (hsd : x.side = 1) :
    Calls Tryd.prog 19 #[.pointer (some ⟨bx, 0, none⟩), x.val] w (Acted14 T w P bx g at_ s vc vl) := by
  obtain ⟨xw, xs, xi, xe⟩ := x
  dsimp only at hw hsd
  subst hw
  subst hsd
  have HB1 := Lib.hid hB1
  have HB2 := Lib.hid hB2
  have HL0 := Lib.hid h
  clear h hB1 hB2
  obtain ⟨ca, cp, rfl, _, _⟩ := own_val (HL0.out.refAt 7 rfl).cel
  obtain ⟨la, lp, rfl, _, _⟩ := own_val (HL0.out.refAt 7 rfl).log
  simp only [L14, chanL, bothC14, List.cons_append, List.nil_append] at HL0
  unfold C4.val
  go_enter Tryd.func19, Tryd.ntmps19
  go_upto_region 1 with fail
  refine wp_name ?_
  intro w1 hw1
  have HL1 := Lib.hid (HL0.out.al1 hw1)
  simp only [List.nil_append, List.cons_append] at HL1
  obtain ⟨b3, hb3⟩ : ∃ b, w.heap.size = b := ⟨_, rfl⟩
  rw [hb3] at HL1 ⊢
  clear hw1 hb3 HL0
  obtain ⟨x0, x1, x2, x3, x4, x5, x6, x7, x8, x9, hl3⟩ := HL1.out.c10 8 rfl
  obtain ⟨y0, y1, y2, y3, y4, y5, y6, y7, ⟨fy0, fy1, fy2, fy3, fy4, fy5, fy6, fy7⟩, hlx⟩ := HL1.out.c8' 5 rfl
  have HLa := Lib.hid HL1.out.drew
  have HLb := Lib.hid (HL1.out.alloc 42 #[.int .i64 0, .int .i64 0, .int .i64 0, .int .i64 0, .int .i64 0, .int .i64 0, .slice none 0 0]).drew
  simp only [List.nil_append, List.cons_append] at HLb
  have m1 : bx ≠ w1.heap.size := by omega
  have m2 := Ne.symm m1
  have m3 : b3 ≠ w1.heap.size := by omega
  have m4 := Ne.symm m3
  go_upto_region 15 with fail
  go_region_held3 (fun w' => w'.cell? ⟨bx, 1, none⟩ = some (.pointer (some ⟨c, 0, none⟩)) ∧ w'.cell? ⟨b3, 1, none⟩ = some (.int .i64 1) ∧ w'.cell? ⟨b3, 2, none⟩ = some (.int .i64 xi)) (go_keep) (first
    | (go_at_call 12; refine (HLa.out.chDrop 2 rfl (HLa.out.chAt 0 1 rfl rfl) rfl HB1.out.2.2.1 xi).mono ?_; rintro e w2 ⟨y, cc, rfl, hR, hL⟩; have HL2 := Lib.hid hL; have HR := Lib.hid hR; (simp only [List.nil_append, List.cons_append, List.set_cons_succ, List.set_cons_zero] at HL2); clear hR hL x0 x1 x2 x3 x4 x5 x6 x7 x8 x9 hl3 y0 y1 y2 y3 y4 y5 y6 y7 fy0 fy1 fy2 fy3 fy4 fy5 fy6 fy7 hlx; (simp only [ent_eq]); obtain ⟨x0, x1, x2, x3, x4, x5, x6, x7, x8, x9, hl3⟩ := HL2.out.c10 8 rfl; obtain ⟨y0, y1, y2, y3, y4, y5, y6, y7, ⟨fy0, fy1, fy2, fy3, fy4, fy5, fy6, fy7⟩, hlx⟩ := HL2.out.c8' 5 rfl; clear m1 m2 m3 m4; have m1 : bx ≠ w2.heap.size := (by omega); have m2 := Ne.symm m1; have m3 : b3 ≠ w2.heap.size := (by omega); have m4 := Ne.symm m3)
    | (go_at_call 12; refine (HLb.out.chDrop 2 rfl (HLb.out.chAt 0 1 rfl rfl) rfl HB1.out.2.2.1 xi).mono ?_; rintro e w2 ⟨y, cc, rfl, hR, hL⟩; have HL2 := Lib.hid hL; have HR := Lib.hid hR; (simp only [List.nil_append, List.cons_append, List.set_cons_succ, List.set_cons_zero] at HL2); clear hR hL x0 x1 x2 x3 x4 x5 x6 x7 x8 x9 hl3 y0 y1 y2 y3 y4 y5 y6 y7 fy0 fy1 fy2 fy3 fy4 fy5 fy6 fy7 hlx; (simp only [ent_eq]); obtain ⟨x0, x1, x2, x3, x4, x5, x6, x7, x8, x9, hl3⟩ := HL2.out.c10 8 rfl; obtain ⟨y0, y1, y2, y3, y4, y5, y6, y7, ⟨fy0, fy1, fy2, fy3, fy4, fy5, fy6, fy7⟩, hlx⟩ := HL2.out.c8' 5 rfl; obtain ⟨k0, k1, k2, k3, k4, k5, k6, ⟨kf0, kf1, kf2, kf3, kf4, kf5, kf6⟩, hlk, _, _⟩ := HL2.out.c7 9 rfl))
  all_goals rename_i hHeld
  all_goals clear hHeld HLa HLb m1 m2 m3 m4
  all_goals refine exit_nameR (Q := Exit.then _ _) ?_
  all_goals intro w3 hw3
  all_goals first
    | (have k0' := k0; clear k0'; have HL3 := Lib.hid ((HL2.out.setEnt 9 rfl y.sync y.thread y.branch y.flag y.v.kind y.v.num (.slice y.v.addr y.v.parts.length y.v.cap)).via hw3); (simp only [List.set_cons_succ, List.set_cons_zero] at HL3); clear hw3 HL2 k0 k1 k2 k3 k4 k5 k6 kf0 kf1 kf2 kf3 kf4 kf5 kf6 hlk; obtain ⟨b8, hb8⟩ : ∃ b, w1.heap.size = b := ⟨_, rfl⟩; rw [hb8] at HL3 ⊢; clear hb8)
    | (have HL3 := Lib.hid ((HL2.out.alloc 42 #[.int .i64 y.sync, .int .i64 y.thread, .int .i64 y.branch, .int .i64 y.flag, .int .i64 y.v.kind, .int .i64 y.v.num, .slice y.v.addr y.v.parts.length y.v.cap]).via hw3); clear hw3 HL2; obtain ⟨b8, hb8⟩ : ∃ b, w2.heap.size = b := ⟨_, rfl⟩; rw [hb8] at HL3 ⊢; clear hb8)
  all_goals
    (try simp only [List.nil_append, List.cons_append] at HL3)
    clear HL1 x0 x1 x2 x3 x4 x5 x6 x7 x8 x9 hl3 y0 y1 y2 y3 y4 y5 y6 y7 fy0 fy1 fy2 fy3 fy4 fy5 fy6 fy7 hlx
    obtain ⟨x0, x1, x2, x3, x4, x5, x6, x7, x8, x9, hl3⟩ := HL3.out.c10 8 rfl
    obtain ⟨y0, y1, y2, y3, y4, y5, y6, y7, ⟨fy0, fy1, fy2, fy3, fy4, fy5, fy6, fy7⟩, hlx⟩ := HL3.out.c8' 5 rfl
    have HL4a := Lib.hid HL3.out.drew
    have HL4b := Lib.hid (HL3.out.alloc 61 #[.int .i64 0, .slice none 0 0, .slice none 0 0]).drew
    have HL4c := Lib.hid (HL3.out.alloc 42 #[.int .i64 0, .int .i64 0, .int .i64 0, .int .i64 0, .int .i64 0, .int .i64 0, .slice none 0 0]).drew
    have HL4d := Lib.hid ((HL3.out.alloc 61 #[.int .i64 0, .slice none 0 0, .slice none 0 0]).alloc 42 #[.int .i64 0, .int .i64 0, .int .i64 0, .int .i64 0, .int .i64 0, .int .i64 0, .slice none 0 0]).drew
    have HL4e := Lib.hid ((HL3.out.alloc 42 #[.int .i64 0, .int .i64 0, .int .i64 0, .int .i64 0, .int .i64 0, .int .i64 0, .slice none 0 0]).alloc 61 #[.int .i64 0, .slice none 0 0, .slice none 0 0]).drew
    simp only [List.nil_append, List.cons_append, World.size_alloc] at HL4b HL4c HL4d HL4e
    have m1 : bx ≠ w3.heap.size := by omega
    have m2 := Ne.symm m1
    have m3 : b3 ≠ w3.heap.size := by omega
    have m4 := Ne.symm m3
    have m5 : bx ≠ w3.heap.size + 1 := by omega
    have m6 := Ne.symm m5
    have m7 : b3 ≠ w3.heap.size + 1 := by omega
    have m8 := Ne.symm m7
    go_upto_region 16 with fail
    go_region_held3 (fun w' => (w'.cell? ⟨bx, 5, none⟩ = some (.int .i64 at_) ∧ w'.cell? ⟨bx, 6, none⟩ = some (.slice a1 rs1.length c1) ∧ w'.cell? ⟨bx, 7, none⟩ = some (.slice a2 rs2.length c2)) ∧ w'.cell? ⟨b3, 2, none⟩ = some (.int .i64 xi)) (go_keep) (first
      | (go_at_call 53; refine (HL4a.out.r14Drop1 4 rfl at_ a1 c1 rs1 a2 c2 rs2 xi HB1.out.2.1 (fun W hW => (HB1.out.2.2.2.2 W hW).2.1) (by have := HB1.out.2.2.1; have := HB1.out.len; omega)).mono ?_; rintro e w4 ⟨a', cap', rs', z, c4, rfl, hcp, hR, hrs, P1, hP1, hL⟩; have HL5 := Lib.hid hL; (simp only [List.set_cons_zero, List.set_cons_succ] at HL5); have HR2 := Lib.hid hR; have HCP := Lib.hid hcp; have HRS := Lib.hid hrs; have HP1 := Lib.hid hP1; clear hL hcp hR hrs hP1 x0 x1 x2 x3 x4 x5 x6 x7 x8 x9 hl3 y0 y1 y2 y3 y4 y5 y6 y7 fy0 fy1 fy2 fy3 fy4 fy5 fy6 fy7 hlx; (simp only [ent_eq]); obtain ⟨x0, x1, x2, x3, x4, x5, x6, x7, x8, x9, hl3⟩ := HL5.out.c10 8 rfl; obtain ⟨y0, y1, y2, y3, y4, y5, y6, y7, ⟨fy0, fy1, fy2, fy3, fy4, fy5, fy6, fy7⟩, hlx⟩ := HL5.out.c8' 5 rfl; have n1 : bx ≠ w4.heap.size := (by omega); have n2 := Ne.symm n1; have n3 : b3 ≠ w4.heap.size := (by omega); have n4 := Ne.symm n3; have n5 : bx ≠ w4.heap.size + 1 := (by omega); have n6 := Ne.symm n5; have n7 : b3 ≠ w4.heap.size + 1 := (by omega); have n8 := Ne.symm n7; have vA := True.intro)
      | (go_at_call 53; refine (HL4b.out.r14Drop1 4 rfl at_ a1 c1 rs1 a2 c2 rs2 xi HB1.out.2.1 (fun W hW => (HB1.out.2.2.2.2 W hW).2.1) (by have := HB1.out.2.2.1; have := HB1.out.len; omega)).mono ?_; rintro e w4 ⟨a', cap', rs', z, c4, rfl, hcp, hR, hrs, P1, hP1, hL⟩; have HL5 := Lib.hid hL; (simp only [List.set_cons_zero, List.set_cons_succ] at HL5); have HR2 := Lib.hid hR; have HCP := Lib.hid hcp; have HRS := Lib.hid hrs; have HP1 := Lib.hid hP1; clear hL hcp hR hrs hP1 x0 x1 x2 x3 x4 x5 x6 x7 x8 x9 hl3 y0 y1 y2 y3 y4 y5 y6 y7 fy0 fy1 fy2 fy3 fy4 fy5 fy6 fy7 hlx; (simp only [ent_eq]); obtain ⟨x0, x1, x2, x3, x4, x5, x6, x7, x8, x9, hl3⟩ := HL5.out.c10 8 rfl; obtain ⟨y0, y1, y2, y3, y4, y5, y6, y7, ⟨fy0, fy1, fy2, fy3, fy4, fy5, fy6, fy7⟩, hlx⟩ := HL5.out.c8' 5 rfl; have n1 : bx ≠ w4.heap.size := (by omega); have n2 := Ne.symm n1; have n3 : b3 ≠ w4.heap.size := (by omega); have n4 := Ne.symm n3; have n5 : bx ≠ w4.heap.size + 1 := (by omega); have n6 := Ne.symm n5; have n7 : b3 ≠ w4.heap.size + 1 := (by omega); have n8 := Ne.symm n7; have vB := True.intro; obtain ⟨k0, k1, k2, kf0, kf1, kf2, hlk, _, _⟩ := HL5.out.c3 10 rfl; have qa : w3.heap.size ≠ w4.heap.size := (by omega); have qb := Ne.symm qa)
      | (go_at_call 53; refine (HL4c.out.r14Drop1 4 rfl at_ a1 c1 rs1 a2 c2 rs2 xi HB1.out.2.1 (fun W hW => (HB1.out.2.2.2.2 W hW).2.1) (by have := HB1.out.2.2.1; have := HB1.out.len; omega)).mono ?_; rintro e w4 ⟨a', cap', rs', z, c4, rfl, hcp, hR, hrs, P1, hP1, hL⟩; have HL5 := Lib.hid hL; (simp only [List.set_cons_zero, List.set_cons_succ] at HL5); have HR2 := Lib.hid hR; have HCP := Lib.hid hcp; have HRS := Lib.hid hrs; have HP1 := Lib.hid hP1; clear hL hcp hR hrs hP1 x0 x1 x2 x3 x4 x5 x6 x7 x8 x9 hl3 y0 y1 y2 y3 y4 y5 y6 y7 fy0 fy1 fy2 fy3 fy4 fy5 fy6 fy7 hlx; (simp only [ent_eq]); obtain ⟨x0, x1, x2, x3, x4, x5, x6, x7, x8, x9, hl3⟩ := HL5.out.c10 8 rfl; obtain ⟨y0, y1, y2, y3, y4, y5, y6, y7, ⟨fy0, fy1, fy2, fy3, fy4, fy5, fy6, fy7⟩, hlx⟩ := HL5.out.c8' 5 rfl; have n1 : bx ≠ w4.heap.size := (by omega); have n2 := Ne.symm n1; have n3 : b3 ≠ w4.heap.size := (by omega); have n4 := Ne.symm n3; have n5 : bx ≠ w4.heap.size + 1 := (by omega); have n6 := Ne.symm n5; have n7 : b3 ≠ w4.heap.size + 1 := (by omega); have n8 := Ne.symm n7; have vC := True.intro; obtain ⟨j0, j1, j2, j3, j4, j5, j6, ⟨jf0, jf1, jf2, jf3, jf4, jf5, jf6⟩, hlj, _, _⟩ := HL5.out.c7 10 rfl; have qa : w3.heap.size ≠ w4.heap.size := (by omega); have qb := Ne.symm qa)
      | (go_at_call 53; refine (HL4d.out.r14Drop1 4 rfl at_ a1 c1 rs1 a2 c2 rs2 xi HB1.out.2.1 (fun W hW => (HB1.out.2.2.2.2 W hW).2.1) (by have := HB1.out.2.2.1; have := HB1.out.len; omega)).mono ?_; rintro e w4 ⟨a', cap', rs', z, c4, rfl, hcp, hR, hrs, P1, hP1, hL⟩; have HL5 := Lib.hid hL; (simp only [List.set_cons_zero, List.set_cons_succ] at HL5); have HR2 := Lib.hid hR; have HCP := Lib.hid hcp; have HRS := Lib.hid hrs; have HP1 := Lib.hid hP1; clear hL hcp hR hrs hP1 x0 x1 x2 x3 x4 x5 x6 x7 x8 x9 hl3 y0 y1 y2 y3 y4 y5 y6 y7 fy0 fy1 fy2 fy3 fy4 fy5 fy6 fy7 hlx; (simp only [ent_eq]); obtain ⟨x0, x1, x2, x3, x4, x5, x6, x7, x8, x9, hl3⟩ := HL5.out.c10 8 rfl; obtain ⟨y0, y1, y2, y3, y4, y5, y6, y7, ⟨fy0, fy1, fy2, fy3, fy4, fy5, fy6, fy7⟩, hlx⟩ := HL5.out.c8' 5 rfl; have n1 : bx ≠ w4.heap.size := (by omega); have n2 := Ne.symm n1; have n3 : b3 ≠ w4.heap.size := (by omega); have n4 := Ne.symm n3; have n5 : bx ≠ w4.heap.size + 1 := (by omega); have n6 := Ne.symm n5; have n7 : b3 ≠ w4.heap.size + 1 := (by omega); have n8 := Ne.symm n7; have vD := True.intro; obtain ⟨k0, k1, k2, kf0, kf1, kf2, hlk, _, _⟩ := HL5.out.c3 10 rfl; obtain ⟨j0, j1, j2, j3, j4, j5, j6, ⟨jf0, jf1, jf2, jf3, jf4, jf5, jf6⟩, hlj, _, _⟩ := HL5.out.c7 11 rfl)
      | (go_at_call 53; refine (HL4e.out.r14Drop1 4 rfl at_ a1 c1 rs1 a2 c2 rs2 xi HB1.out.2.1 (fun W hW => (HB1.out.2.2.2.2 W hW).2.1) (by have := HB1.out.2.2.1; have := HB1.out.len; omega)).mono ?_; rintro e w4 ⟨a', cap', rs', z, c4, rfl, hcp, hR, hrs, P1, hP1, hL⟩; have HL5 := Lib.hid hL; (simp only [List.set_cons_zero, List.set_cons_succ] at HL5); have HR2 := Lib.hid hR; have HCP := Lib.hid hcp; have HRS := Lib.hid hrs; have HP1 := Lib.hid hP1; clear hL hcp hR hrs hP1 x0 x1 x2 x3 x4 x5 x6 x7 x8 x9 hl3 y0 y1 y2 y3 y4 y5 y6 y7 fy0 fy1 fy2 fy3 fy4 fy5 fy6 fy7 hlx; (simp only [ent_eq]); obtain ⟨x0, x1, x2, x3, x4, x5, x6, x7, x8, x9, hl3⟩ := HL5.out.c10 8 rfl; obtain ⟨y0, y1, y2, y3, y4, y5, y6, y7, ⟨fy0, fy1, fy2, fy3, fy4, fy5, fy6, fy7⟩, hlx⟩ := HL5.out.c8' 5 rfl; have n1 : bx ≠ w4.heap.size := (by omega); have n2 := Ne.symm n1; have n3 : b3 ≠ w4.heap.size := (by omega); have n4 := Ne.symm n3; have n5 : bx ≠ w4.heap.size + 1 := (by omega); have n6 := Ne.symm n5; have n7 : b3 ≠ w4.heap.size + 1 := (by omega); have n8 := Ne.symm n7; have vE := True.intro; obtain ⟨j0, j1, j2, j3, j4, j5, j6, ⟨jf0, jf1, jf2, jf3, jf4, jf5, jf6⟩, hlj, _, _⟩ := HL5.out.c7 10 rfl; obtain ⟨k0, k1, k2, kf0, kf1, kf2, hlk, _, _⟩ := HL5.out.c3 11 rfl))
  all_goals rename_i hHeld
  all_goals clear hHeld HL4a HL4b HL4c HL4d HL4e m1 m2 m3 m4 m5 m6 m7 m8
  all_goals refine exit_nameR (Q := Exit.then _ _) ?_
  all_goals intro w5 hw5
  all_goals first
    | (have vD' := vD; clear vD' vD; have HL6 := Lib.hid (((((HL5.out.set 10 rfl 0 (.int .i64 at_)).set 10 rfl 1 (.slice a' rs'.length cap')).set 10 rfl 2 (.slice a2 rs2.length c2)).setEnt 11 rfl z.sync z.thread z.branch z.flag z.v.kind z.v.num (.slice z.v.addr z.v.parts.length z.v.cap)).via (by with_reducible exact hw5)); (try simp only [List.set_cons_succ, List.set_cons_zero, List.setIfInBounds_toArray, List.cons_append, List.nil_append, World.size_alloc, World.size_setCell] at HL6); clear hw5; obtain ⟨b15, hb15⟩ : ∃ b, w3.heap.size + 1 = b := ⟨_, rfl⟩; rw [hb15] at HL6 ⊢; clear hb15; obtain ⟨b14, hb14⟩ : ∃ b, w3.heap.size = b := ⟨_, rfl⟩; rw [hb14] at HL6 ⊢; clear hb14)
    | (have vE' := vE; clear vE' vE; have HL6' := Lib.hid (((((HL5.out.set 11 rfl 0 (.int .i64 at_)).set 11 rfl 1 (.slice a' rs'.length cap')).set 11 rfl 2 (.slice a2 rs2.length c2)).setEnt 10 rfl z.sync z.thread z.branch z.flag z.v.kind z.v.num (.slice z.v.addr z.v.parts.length z.v.cap)).via (by with_reducible exact hw5)); (try simp only [List.set_cons_succ, List.set_cons_zero, List.setIfInBounds_toArray, List.cons_append, List.nil_append, World.size_alloc, World.size_setCell] at HL6'); have HL6 := Lib.hid (HL6'.out.sel [0, 1, 2, 3, 4, 5, 6, 7, 8, 9, 11, 10] rfl (by decide) (l' := [_, _, _, _, _, _, _, _, _, _, _, _])); clear HL6'; clear hw5; obtain ⟨b14, hb14⟩ : ∃ b, w3.heap.size + 1 = b := ⟨_, rfl⟩; rw [hb14] at HL6 ⊢; clear hb14; obtain ⟨b15, hb15⟩ : ∃ b, w3.heap.size = b := ⟨_, rfl⟩; rw [hb15] at HL6 ⊢; clear hb15)
    | (have vB' := vB; clear vB' vB; have HL6 := Lib.hid (((((HL5.out.set 10 rfl 0 (.int .i64 at_)).set 10 rfl 1 (.slice a' rs'.length cap')).set 10 rfl 2 (.slice a2 rs2.length c2)).alloc 42 #[.int .i64 z.sync, .int .i64 z.thread, .int .i64 z.branch, .int .i64 z.flag, .int .i64 z.v.kind, .int .i64 z.v.num, .slice z.v.addr z.v.parts.length z.v.cap]).via (by with_reducible exact hw5)); (try simp only [List.set_cons_succ, List.set_cons_zero, List.setIfInBounds_toArray, List.cons_append, List.nil_append, World.size_alloc, World.size_setCell] at HL6); clear hw5; obtain ⟨b14, hb14⟩ : ∃ b, w3.heap.size = b := ⟨_, rfl⟩; rw [hb14] at HL6 ⊢; clear hb14; obtain ⟨b15, hb15⟩ : ∃ b, w4.heap.size = b := ⟨_, rfl⟩; rw [hb15] at HL6 ⊢; clear hb15)
    | (have vC' := vC; clear vC' vC; have HL6' := Lib.hid (((HL5.out.setEnt 10 rfl z.sync z.thread z.branch z.flag z.v.kind z.v.num (.slice z.v.addr z.v.parts.length z.v.cap)).alloc 61 #[.int .i64 at_, .slice a' rs'.length cap', .slice a2 rs2.length c2]).via (by with_reducible exact hw5)); (try simp only [List.set_cons_succ, List.set_cons_zero, List.setIfInBounds_toArray, List.cons_append, List.nil_append, World.size_alloc, World.size_setCell] at HL6'); have HL6 := Lib.hid (HL6'.out.sel [0, 1, 2, 3, 4, 5, 6, 7, 8, 9, 11, 10] rfl (by decide) (l' := [_, _, _, _, _, _, _, _, _, _, _, _])); clear HL6'; clear hw5; obtain ⟨b14, hb14⟩ : ∃ b, w4.heap.size = b := ⟨_, rfl⟩; rw [hb14] at HL6 ⊢; clear hb14; obtain ⟨b15, hb15⟩ : ∃ b, w3.heap.size = b := ⟨_, rfl⟩; rw [hb15] at HL6 ⊢; clear hb15)
    | (have vA' := vA; clear vA' vA; have HL6 := Lib.hid (((HL5.out.alloc 61 #[.int .i64 at_, .slice a' rs'.length cap', .slice a2 rs2.length c2]).alloc 42 #[.int .i64 z.sync, .int .i64 z.thread, .int .i64 z.branch, .int .i64 z.flag, .int .i64 z.v.kind, .int .i64 z.v.num, .slice z.v.addr z.v.parts.length z.v.cap]).via (by with_reducible exact hw5)); (try simp only [List.set_cons_succ, List.set_cons_zero, List.setIfInBounds_toArray, List.cons_append, List.nil_append, World.size_alloc, World.size_setCell] at HL6); clear hw5; obtain ⟨b15, hb15⟩ : ∃ b, w4.heap.size + 1 = b := ⟨_, rfl⟩; rw [hb15] at HL6 ⊢; clear hb15; obtain ⟨b14, hb14⟩ : ∃ b, w4.heap.size = b := ⟨_, rfl⟩; rw [hb14] at HL6 ⊢; clear hb14)
    | (have vA' := vA; clear vA' vA; have HL6' := Lib.hid (((HL5.out.alloc 42 #[.int .i64 z.sync, .int .i64 z.thread, .int .i64 z.branch, .int .i64 z.flag, .int .i64 z.v.kind, .int .i64 z.v.num, .slice z.v.addr z.v.parts.length z.v.cap]).alloc 61 #[.int .i64 at_, .slice a' rs'.length cap', .slice a2 rs2.length c2]).via (by with_reducible exact hw5)); (try simp only [List.set_cons_succ, List.set_cons_zero, List.setIfInBounds_toArray, List.cons_append, List.nil_append, World.size_alloc, World.size_setCell] at HL6'); have HL6 := Lib.hid (HL6'.out.sel [0, 1, 2, 3, 4, 5, 6, 7, 8, 9, 11, 10] rfl (by decide) (l' := [_, _, _, _, _, _, _, _, _, _, _, _])); clear HL6'; clear hw5; obtain ⟨b14, hb14⟩ : ∃ b, w4.heap.size + 1 = b := ⟨_, rfl⟩; rw [hb14] at HL6 ⊢; clear hb14; obtain ⟨b15, hb15⟩ : ∃ b, w4.heap.size = b := ⟨_, rfl⟩; rw [hb15] at HL6 ⊢; clear hb15)
  all_goals
    clear HL5 HL3 x0 x1 x2 x3 x4 x5 x6 x7 x8 x9 hl3 y0 y1 y2 y3 y4 y5 y6 y7 fy0 fy1 fy2 fy3 fy4 fy5 fy6 fy7 hlx
    obtain ⟨y0, y1, y2, y3, y4, y5, y6, y7, ⟨fy0, fy1, fy2, fy3, fy4, fy5, fy6, fy7⟩, hlx⟩ := HL6.out.c8' 5 rfl
    obtain ⟨t0, t1, t2, tf0, tf1, tf2, hlt, _, _⟩ := HL6.out.c3 10 rfl
    have p1 := HL6.out.ne 5 10 rfl rfl (by decide)
    have p2 := Ne.symm p1
    go_upto_region 18 with fail
    refine wp_name ?_
    intro w6 hw6
    have HL7 := Lib.hid ((((HL6.out.set 5 rfl 5 (.int .i64 at_)).set 5 rfl 6 (.slice a' rs'.length cap')).set 5 rfl 7 (.slice a2 rs2.length c2)).via hw6)
    simp only [List.set_cons_succ, List.set_cons_zero, List.setIfInBounds_toArray] at HL7
    clear hw6 HL6 y0 y1 y2 y3 y4 y5 y6 y7 fy0 fy1 fy2 fy3 fy4 fy5 fy6 fy7 hlx t0 t1 t2 tf0 tf1 tf2 hlt p1 p2
    obtain ⟨v0, v1, v2, v3, v4, v5, v6, _, hlv, _, _⟩ := HL7.out.c7 9 rfl
    obtain ⟨z0, z1, z2, z3, z4, z5, z6, _, hlz, _, _⟩ := HL7.out.c7 11 rfl
    obtain ⟨hyz, rfl⟩ := HR2.out.plain HR.out.atR HB1.out.1
    have HYZ := Lib.hid hyz
    have HZN : Hid (z.v.nodes ≤ 256) := HR2.out.inq (p := fun y => y.v.nodes ≤ 256) (by simp [ME.zero, MT.zero, MT.nodes, MT.nodesAll]) HB1.out.rnodes
    have HYN : Hid (y.v.nodes ≤ 256) := by unfold Hid; rw [plain_nodes_eq hyz.symm]; exact HZN.out
    have hP0 := (HP1.out _ (HL7.out.still 4 rfl)).1
    have HSE := Lib.hid (SameEntry_ref y z w6 (HR.out.inq (p := fun y => y.v.In w6) (MT.in_zero w6) (fun r hr => (HB1.out.2.2.2.2 _ hP0).1 r hr)) (HR2.out.inq (p := fun y => y.v.In w6) (MT.in_zero w6) (fun r hr => (HB1.out.2.2.2.2 _ hP0).2.2 r hr)) (by have := HYN.out; omega) (by have := HZN.out; omega))
    simp only [ent_eq] at HSE
    have hcc : (cc == cc) = true := by simp
    clear hyz hP0
    go_wp2_with fail
    refine HSE.out.mono ?_
    rintro e w7 ⟨c6, rfl, hc6, ht⟩
    obtain rfl : c6 = true := hc6.2 ⟨HYN.out, HZN.out, HYZ.out⟩
    have HL8 := Lib.hid (HL7.out.touch ht)
    clear ht hc6 HSE
    have HBF := Lib.hid (HB1.out.drop (c := cc) (i := xi.toNat) HP1.out HRS.out HCP.out)
    have HBO := Lib.hid (HB2.out.weak14 (fun W hW => (HP1.out W hW).1))
    go_wp2
    go_ret
    exact ⟨c, M, q1, q2, _, es2, rs', rs2, a', cap', a2, c2, P1, rfl, HBF.out, HBO.out, fun W hW => (HP1.out W hW).1, HL8.out.sel [0, 1, 2, 3, 4, 5, 6, 7] rfl (by decide)⟩
set_option maxHeartbeats 4000000 in
theorem act14_drop2 (T : List Nat) (w : World) (P : World → Prop) (c : Nat) (at_ : Int) (M q1 q2 bx g : Nat) (es1 es2 rs1 rs2 : List ME) (a1 : Option Addr) (c1 : Nat) (a2 : Option Addr) (c2 : Nat) (s : Ar) (vc vl : Value) (x : C4) (h : Led T w w (L14 c at_ M q1 q2 es1 es2 P bx g s vc vl a1 rs1.length c1 a2 rs2.length c2)) (hB1 : Both13 P es1 rs1 a1 c1) (hB2 : Both13 P es2 rs2 a2 c2) (hw : x.what = 5) (hsd : x.side = 2) :
    Calls Tryd.prog 19 #[.pointer (some ⟨bx, 0, none⟩), x.val] w (Acted14 T w P bx g at_ s vc vl) := by
  obtain ⟨xw, xs, xi, xe⟩ := x
  dsimp only at hw hsd
  subst hw
  subst hsd
  have HB1 := Lib.hid hB1
  have HB2 := Lib.hid hB2
  have HL0 := Lib.hid h
  clear h hB1 hB2
  obtain ⟨ca, cp, rfl, _, _⟩ := own_val (HL0.out.refAt 7 rfl).cel
  obtain ⟨la, lp, rfl, _, _⟩ := own_val (HL0.out.refAt 7 rfl).log
  simp only [L14, chanL, bothC14, List.cons_append, List.nil_append] at HL0
  unfold C4.val
  go_enter Tryd.func19, Tryd.ntmps19
  go_upto_region 1 with fail
  refine wp_name ?_
  intro w1 hw1
  have HL1 := Lib.hid (HL0.out.al1 hw1)
  simp only [List.nil_append, List.cons_append] at HL1
  obtain ⟨b3, hb3⟩ : ∃ b, w.heap.size = b := ⟨_, rfl⟩
  rw [hb3] at HL1 ⊢
  clear hw1 hb3 HL0
  obtain ⟨x0, x1, x2, x3, x4, x5, x6, x7, x8, x9, hl3⟩ := HL1.out.c10 8 rfl
  obtain ⟨y0, y1, y2, y3, y4, y5, y6, y7, ⟨fy0, fy1, fy2, fy3, fy4, fy5, fy6, fy7⟩, hlx⟩ := HL1.out.c8' 5 rfl
  have HLa := Lib.hid HL1.out.drew
  have HLb := Lib.hid (HL1.out.alloc 42 #[.int .i64 0, .int .i64 0, .int .i64 0, .int .i64 0, .int .i64 0, .int .i64 0, .slice none 0 0]).drew
  simp only [List.nil_append, List.cons_append] at HLb
  have m1 : bx ≠ w1.heap.size := by omega
  have m2 := Ne.symm m1
  have m3 : b3 ≠ w1.heap.size := by omega
  have m4 := Ne.symm m3
  go_upto_region 15 with fail
  go_region_held3 (fun w' => w'.cell? ⟨bx, 1, none⟩ = some (.pointer (some ⟨c, 0, none⟩)) ∧ w'.cell? ⟨b3, 1, none⟩ = some (.int .i64 2) ∧ w'.cell? ⟨b3, 2, none⟩ = some (.int .i64 xi)) (go_keep) (first
    | (go_at_call 12; refine (HLa.out.chDrop 3 rfl (HLa.out.chAt 0 1 rfl rfl) rfl HB2.out.2.2.1 xi).mono ?_; rintro e w2 ⟨y, cc, rfl, hR, hL⟩; have HL2 := Lib.hid hL; have HR := Lib.hid hR; (simp only [List.nil_append, List.cons_append, List.set_cons_succ, List.set_cons_zero] at HL2); clear hR hL x0 x1 x2 x3 x4 x5 x6 x7 x8 x9 hl3 y0 y1 y2 y3 y4 y5 y6 y7 fy0 fy1 fy2 fy3 fy4 fy5 fy6 fy7 hlx; (simp only [ent_eq]); obtain ⟨x0, x1, x2, x3, x4, x5, x6, x7, x8, x9, hl3⟩ := HL2.out.c10 8 rfl; obtain ⟨y0, y1, y2, y3, y4, y5, y6, y7, ⟨fy0, fy1, fy2, fy3, fy4, fy5, fy6, fy7⟩, hlx⟩ := HL2.out.c8' 5 rfl; clear m1 m2 m3 m4; have m1 : bx ≠ w2.heap.size := (by omega); have m2 := Ne.symm m1; have m3 : b3 ≠ w2.heap.size := (by omega); have m4 := Ne.symm m3)
    | (go_at_call 12; refine (HLb.out.chDrop 3 rfl (HLb.out.chAt 0 1 rfl rfl) rfl HB2.out.2.2.1 xi).mono ?_; rintro e w2 ⟨y, cc, rfl, hR, hL⟩; have HL2 := Lib.hid hL; have HR := Lib.hid hR; (simp only [List.nil_append, List.cons_append, List.set_cons_succ, List.set_cons_zero] at HL2); clear hR hL x0 x1 x2 x3 x4 x5 x6 x7 x8 x9 hl3 y0 y1 y2 y3 y4 y5 y6 y7 fy0 fy1 fy2 fy3 fy4 fy5 fy6 fy7 hlx; (simp only [ent_eq]); obtain ⟨x0, x1, x2, x3, x4, x5, x6, x7, x8, x9, hl3⟩ := HL2.out.c10 8 rfl; obtain ⟨y0, y1, y2, y3, y4, y5, y6, y7, ⟨fy0, fy1, fy2, fy3, fy4, fy5, fy6, fy7⟩, hlx⟩ := HL2.out.c8' 5 rfl; obtain ⟨k0, k1, k2, k3, k4, k5, k6, ⟨kf0, kf1, kf2, kf3, kf4, kf5, kf6⟩, hlk, _, _⟩ := HL2.out.c7 9 rfl))
  all_goals rename_i hHeld
  all_goals clear hHeld HLa HLb m1 m2 m3 m4
  all_goals refine exit_nameR (Q := Exit.then _ _) ?_
  all_goals intro w3 hw3
  all_goals first
    | (have k0' := k0; clear k0'; have HL3 := Lib.hid ((HL2.out.setEnt 9 rfl y.sync y.thread y.branch y.flag y.v.kind y.v.num (.slice y.v.addr y.v.parts.length y.v.cap)).via hw3); (simp only [List.set_cons_succ, List.set_cons_zero] at HL3); clear hw3 HL2 k0 k1 k2 k3 k4 k5 k6 kf0 kf1 kf2 kf3 kf4 kf5 kf6 hlk; obtain ⟨b8, hb8⟩ : ∃ b, w1.heap.size = b := ⟨_, rfl⟩; rw [hb8] at HL3 ⊢; clear hb8)
    | (have HL3 := Lib.hid ((HL2.out.alloc 42 #[.int .i64 y.sync, .int .i64 y.thread, .int .i64 y.branch, .int .i64 y.flag, .int .i64 y.v.kind, .int .i64 y.v.num, .slice y.v.addr y.v.parts.length y.v.cap]).via hw3); clear hw3 HL2; obtain ⟨b8, hb8⟩ : ∃ b, w2.heap.size = b := ⟨_, rfl⟩; rw [hb8] at HL3 ⊢; clear hb8)
  all_goals
    (try simp only [List.nil_append, List.cons_append] at HL3)
    clear HL1 x0 x1 x2 x3 x4 x5 x6 x7 x8 x9 hl3 y0 y1 y2 y3 y4 y5 y6 y7 fy0 fy1 fy2 fy3 fy4 fy5 fy6 fy7 hlx
    obtain ⟨x0, x1, x2, x3, x4, x5, x6, x7, x8, x9, hl3⟩ := HL3.out.c10 8 rfl
    obtain ⟨y0, y1, y2, y3, y4, y5, y6, y7, ⟨fy0, fy1, fy2, fy3, fy4, fy5, fy6, fy7⟩, hlx⟩ := HL3.out.c8' 5 rfl
    have HL4a := Lib.hid HL3.out.drew
    have HL4b := Lib.hid (HL3.out.alloc 61 #[.int .i64 0, .slice none 0 0, .slice none 0 0]).drew
    have HL4c := Lib.hid (HL3.out.alloc 42 #[.int .i64 0, .int .i64 0, .int .i64 0, .int .i64 0, .int .i64 0, .int .i64 0, .slice none 0 0]).drew
    have HL4d := Lib.hid ((HL3.out.alloc 61 #[.int .i64 0, .slice none 0 0, .slice none 0 0]).alloc 42 #[.int .i64 0, .int .i64 0, .int .i64 0, .int .i64 0, .int .i64 0, .int .i64 0, .slice none 0 0]).drew
    have HL4e := Lib.hid ((HL3.out.alloc 42 #[.int .i64 0, .int .i64 0, .int .i64 0, .int .i64 0, .int .i64 0, .int .i64 0, .slice none 0 0]).alloc 61 #[.int .i64 0, .slice none 0 0, .slice none 0 0]).drew
    simp only [List.nil_append, List.cons_append, World.size_alloc] at HL4b HL4c HL4d HL4e
    have m1 : bx ≠ w3.heap.size := by omega
    have m2 := Ne.symm m1
    have m3 : b3 ≠ w3.heap.size := by omega
    have m4 := Ne.symm m3
    have m5 : bx ≠ w3.heap.size + 1 := by omega
    have m6 := Ne.symm m5
    have m7 : b3 ≠ w3.heap.size + 1 := by omega
    have m8 := Ne.symm m7
    go_upto_region 16 with fail
    go_region_held3 (fun w' => (w'.cell? ⟨bx, 5, none⟩ = some (.int .i64 at_) ∧ w'.cell? ⟨bx, 6, none⟩ = some (.slice a1 rs1.length c1) ∧ w'.cell? ⟨bx, 7, none⟩ = some (.slice a2 rs2.length c2)) ∧ w'.cell? ⟨b3, 2, none⟩ = some (.int .i64 xi)) (go_keep) (first
      | (go_at_call 53; refine (HL4a.out.r14Drop2 4 rfl at_ a1 c1 rs1 a2 c2 rs2 xi HB2.out.2.1 (fun W hW => (HB2.out.2.2.2.2 W hW).2.1) (by have := HB2.out.2.2.1; have := HB2.out.len; omega)).mono ?_; rintro e w4 ⟨a', cap', rs', z, c4, rfl, hcp, hR, hrs, P1, hP1, hL⟩; have HL5 := Lib.hid hL; (simp only [List.set_cons_zero, List.set_cons_succ] at HL5); have HR2 := Lib.hid hR; have HCP := Lib.hid hcp; have HRS := Lib.hid hrs; have HP1 := Lib.hid hP1; clear hL hcp hR hrs hP1 x0 x1 x2 x3 x4 x5 x6 x7 x8 x9 hl3 y0 y1 y2 y3 y4 y5 y6 y7 fy0 fy1 fy2 fy3 fy4 fy5 fy6 fy7 hlx; (simp only [ent_eq]); obtain ⟨x0, x1, x2, x3, x4, x5, x6, x7, x8, x9, hl3⟩ := HL5.out.c10 8 rfl; obtain ⟨y0, y1, y2, y3, y4, y5, y6, y7, ⟨fy0, fy1, fy2, fy3, fy4, fy5, fy6, fy7⟩, hlx⟩ := HL5.out.c8' 5 rfl; have n1 : bx ≠ w4.heap.size := (by omega); have n2 := Ne.symm n1; have n3 : b3 ≠ w4.heap.size := (by omega); have n4 := Ne.symm n3; have n5 : bx ≠ w4.heap.size + 1 := (by omega); have n6 := Ne.symm n5; have n7 : b3 ≠ w4.heap.size + 1 := (by omega); have n8 := Ne.symm n7; have vA := True.intro)
      | (go_at_call 53; refine (HL4b.out.r14Drop2 4 rfl at_ a1 c1 rs1 a2 c2 rs2 xi HB2.out.2.1 (fun W hW => (HB2.out.2.2.2.2 W hW).2.1) (by have := HB2.out.2.2.1; have := HB2.out.len; omega)).mono ?_; rintro e w4 ⟨a', cap', rs', z, c4, rfl, hcp, hR, hrs, P1, hP1, hL⟩; have HL5 := Lib.hid hL; (simp only [List.set_cons_zero, List.set_cons_succ] at HL5); have HR2 := Lib.hid hR; have HCP := Lib.hid hcp; have HRS := Lib.hid hrs; have HP1 := Lib.hid hP1; clear hL hcp hR hrs hP1 x0 x1 x2 x3 x4 x5 x6 x7 x8 x9 hl3 y0 y1 y2 y3 y4 y5 y6 y7 fy0 fy1 fy2 fy3 fy4 fy5 fy6 fy7 hlx; (simp only [ent_eq]); obtain ⟨x0, x1, x2, x3, x4, x5, x6, x7, x8, x9, hl3⟩ := HL5.out.c10 8 rfl; obtain ⟨y0, y1, y2, y3, y4, y5, y6, y7, ⟨fy0, fy1, fy2, fy3, fy4, fy5, fy6, fy7⟩, hlx⟩ := HL5.out.c8' 5 rfl; have n1 : bx ≠ w4.heap.size := (by omega); have n2 := Ne.symm n1; have n3 : b3 ≠ w4.heap.size := (by omega); have n4 := Ne.symm n3; have n5 : bx ≠ w4.heap.size + 1 := (by omega); have n6 := Ne.symm n5; have n7 : b3 ≠ w4.heap.size + 1 := (by omega); have n8 := Ne.symm n7; have vB := True.intro; obtain ⟨k0, k1, k2, kf0, kf1, kf2, hlk, _, _⟩ := HL5.out.c3 10 rfl; have qa : w3.heap.size ≠ w4.heap.size := (by omega); have qb := Ne.symm qa)
      | (go_at_call 53; refine (HL4c.out.r14Drop2 4 rfl at_ a1 c1 rs1 a2 c2 rs2 xi HB2.out.2.1 (fun W hW => (HB2.out.2.2.2.2 W hW).2.1) (by have := HB2.out.2.2.1; have := HB2.out.len; omega)).mono ?_; rintro e w4 ⟨a', cap', rs', z, c4, rfl, hcp, hR, hrs, P1, hP1, hL⟩; have HL5 := Lib.hid hL; (simp only [List.set_cons_zero, List.set_cons_succ] at HL5); have HR2 := Lib.hid hR; have HCP := Lib.hid hcp; have HRS := Lib.hid hrs; have HP1 := Lib.hid hP1; clear hL hcp hR hrs hP1 x0 x1 x2 x3 x4 x5 x6 x7 x8 x9 hl3 y0 y1 y2 y3 y4 y5 y6 y7 fy0 fy1 fy2 fy3 fy4 fy5 fy6 fy7 hlx; (simp only [ent_eq]); obtain ⟨x0, x1, x2, x3, x4, x5, x6, x7, x8, x9, hl3⟩ := HL5.out.c10 8 rfl; obtain ⟨y0, y1, y2, y3, y4, y5, y6, y7, ⟨fy0, fy1, fy2, fy3, fy4, fy5, fy6, fy7⟩, hlx⟩ := HL5.out.c8' 5 rfl; have n1 : bx ≠ w4.heap.size := (by omega); have n2 := Ne.symm n1; have n3 : b3 ≠ w4.heap.size := (by omega); have n4 := Ne.symm n3; have n5 : bx ≠ w4.heap.size + 1 := (by omega); have n6 := Ne.symm n5; have n7 : b3 ≠ w4.heap.size + 1 := (by omega); have n8 := Ne.symm n7; have vC := True.intro; obtain ⟨j0, j1, j2, j3, j4, j5, j6, ⟨jf0, jf1, jf2, jf3, jf4, jf5, jf6⟩, hlj, _, _⟩ := HL5.out.c7 10 rfl; have qa : w3.heap.size ≠ w4.heap.size := (by omega); have qb := Ne.symm qa)
      | (go_at_call 53; refine (HL4d.out.r14Drop2 4 rfl at_ a1 c1 rs1 a2 c2 rs2 xi HB2.out.2.1 (fun W hW => (HB2.out.2.2.2.2 W hW).2.1) (by have := HB2.out.2.2.1; have := HB2.out.len; omega)).mono ?_; rintro e w4 ⟨a', cap', rs', z, c4, rfl, hcp, hR, hrs, P1, hP1, hL⟩; have HL5 := Lib.hid hL; (simp only [List.set_cons_zero, List.set_cons_succ] at HL5); have HR2 := Lib.hid hR; have HCP := Lib.hid hcp; have HRS := Lib.hid hrs; have HP1 := Lib.hid hP1; clear hL hcp hR hrs hP1 x0 x1 x2 x3 x4 x5 x6 x7 x8 x9 hl3 y0 y1 y2 y3 y4 y5 y6 y7 fy0 fy1 fy2 fy3 fy4 fy5 fy6 fy7 hlx; (simp only [ent_eq]); obtain ⟨x0, x1, x2, x3, x4, x5, x6, x7, x8, x9, hl3⟩ := HL5.out.c10 8 rfl; obtain ⟨y0, y1, y2, y3, y4, y5, y6, y7, ⟨fy0, fy1, fy2, fy3, fy4, fy5, fy6, fy7⟩, hlx⟩ := HL5.out.c8' 5 rfl; have n1 : bx ≠ w4.heap.size := (by omega); have n2 := Ne.symm n1; have n3 : b3 ≠ w4.heap.size := (by omega); have n4 := Ne.symm n3; have n5 : bx ≠ w4.heap.size + 1 := (by omega); have n6 := Ne.symm n5; have n7 : b3 ≠ w4.heap.size + 1 := (by omega); have n8 := Ne.symm n7; have vD := True.intro; obtain ⟨k0, k1, k2, kf0, kf1, kf2, hlk, _, _⟩ := HL5.out.c3 10 rfl; obtain ⟨j0, j1, j2, j3, j4, j5, j6, ⟨jf0, jf1, jf2, jf3, jf4, jf5, jf6⟩, hlj, _, _⟩ := HL5.out.c7 11 rfl)
      | (go_at_call 53; refine (HL4e.out.r14Drop2 4 rfl at_ a1 c1 rs1 a2 c2 rs2 xi HB2.out.2.1 (fun W hW => (HB2.out.2.2.2.2 W hW).2.1) (by have := HB2.out.2.2.1; have := HB2.out.len; omega)).mono ?_; rintro e w4 ⟨a', cap', rs', z, c4, rfl, hcp, hR, hrs, P1, hP1, hL⟩; have HL5 := Lib.hid hL; (simp only [List.set_cons_zero, List.set_cons_succ] at HL5); have HR2 := Lib.hid hR; have HCP := Lib.hid hcp; have HRS := Lib.hid hrs; have HP1 := Lib.hid hP1; clear hL hcp hR hrs hP1 x0 x1 x2 x3 x4 x5 x6 x7 x8 x9 hl3 y0 y1 y2 y3 y4 y5 y6 y7 fy0 fy1 fy2 fy3 fy4 fy5 fy6 fy7 hlx; (simp only [ent_eq]); obtain ⟨x0, x1, x2, x3, x4, x5, x6, x7, x8, x9, hl3⟩ := HL5.out.c10 8 rfl; obtain ⟨y0, y1, y2, y3, y4, y5, y6, y7, ⟨fy0, fy1, fy2, fy3, fy4, fy5, fy6, fy7⟩, hlx⟩ := HL5.out.c8' 5 rfl; have n1 : bx ≠ w4.heap.size := (by omega); have n2 := Ne.symm n1; have n3 : b3 ≠ w4.heap.size := (by omega); have n4 := Ne.symm n3; have n5 : bx ≠ w4.heap.size + 1 := (by omega); have n6 := Ne.symm n5; have n7 : b3 ≠ w4.heap.size + 1 := (by omega); have n8 := Ne.symm n7; have vE := True.intro; obtain ⟨j0, j1, j2, j3, j4, j5, j6, ⟨jf0, jf1, jf2, jf3, jf4, jf5, jf6⟩, hlj, _, _⟩ := HL5.out.c7 10 rfl; obtain ⟨k0, k1, k2, kf0, kf1, kf2, hlk, _, _⟩ := HL5.out.c3 11 rfl))
  all_goals rename_i hHeld
  all_goals clear hHeld HL4a HL4b HL4c HL4d HL4e m1 m2 m3 m4 m5 m6 m7 m8
  all_goals refine exit_nameR (Q := Exit.then _ _) ?_
  all_goals intro w5 hw5
  all_goals first
    | (have vD' := vD; clear vD' vD; have HL6 := Lib.hid (((((HL5.out.set 10 rfl 0 (.int .i64 at_)).set 10 rfl 1 (.slice a1 rs1.length c1)).set 10 rfl 2 (.slice a' rs'.length cap')).setEnt 11 rfl z.sync z.thread z.branch z.flag z.v.kind z.v.num (.slice z.v.addr z.v.parts.length z.v.cap)).via (by with_reducible exact hw5)); (try simp only [List.set_cons_succ, List.set_cons_zero, List.setIfInBounds_toArray, List.cons_append, List.nil_append, World.size_alloc, World.size_setCell] at HL6); clear hw5; obtain ⟨b15, hb15⟩ : ∃ b, w3.heap.size + 1 = b := ⟨_, rfl⟩; rw [hb15] at HL6 ⊢; clear hb15; obtain ⟨b14, hb14⟩ : ∃ b, w3.heap.size = b := ⟨_, rfl⟩; rw [hb14] at HL6 ⊢; clear hb14)
    | (have vE' := vE; clear vE' vE; have HL6' := Lib.hid (((((HL5.out.set 11 rfl 0 (.int .i64 at_)).set 11 rfl 1 (.slice a1 rs1.length c1)).set 11 rfl 2 (.slice a' rs'.length cap')).setEnt 10 rfl z.sync z.thread z.branch z.flag z.v.kind z.v.num (.slice z.v.addr z.v.parts.length z.v.cap)).via (by with_reducible exact hw5)); (try simp only [List.set_cons_succ, List.set_cons_zero, List.setIfInBounds_toArray, List.cons_append, List.nil_append, World.size_alloc, World.size_setCell] at HL6'); have HL6 := Lib.hid (HL6'.out.sel [0, 1, 2, 3, 4, 5, 6, 7, 8, 9, 11, 10] rfl (by decide) (l' := [_, _, _, _, _, _, _, _, _, _, _, _])); clear HL6'; clear hw5; obtain ⟨b14, hb14⟩ : ∃ b, w3.heap.size + 1 = b := ⟨_, rfl⟩; rw [hb14] at HL6 ⊢; clear hb14; obtain ⟨b15, hb15⟩ : ∃ b, w3.heap.size = b := ⟨_, rfl⟩; rw [hb15] at HL6 ⊢; clear hb15)
    | (have vB' := vB; clear vB' vB; have HL6 := Lib.hid (((((HL5.out.set 10 rfl 0 (.int .i64 at_)).set 10 rfl 1 (.slice a1 rs1.length c1)).set 10 rfl 2 (.slice a' rs'.length cap')).alloc 42 #[.int .i64 z.sync, .int .i64 z.thread, .int .i64 z.branch, .int .i64 z.flag, .int .i64 z.v.kind, .int .i64 z.v.num, .slice z.v.addr z.v.parts.length z.v.cap]).via (by with_reducible exact hw5)); (try simp only [List.set_cons_succ, List.set_cons_zero, List.setIfInBounds_toArray, List.cons_append, List.nil_append, World.size_alloc, World.size_setCell] at HL6); clear hw5; obtain ⟨b14, hb14⟩ : ∃ b, w3.heap.size = b := ⟨_, rfl⟩; rw [hb14] at HL6 ⊢; clear hb14; obtain ⟨b15, hb15⟩ : ∃ b, w4.heap.size = b := ⟨_, rfl⟩; rw [hb15] at HL6 ⊢; clear hb15)
    | (have vC' := vC; clear vC' vC; have HL6' := Lib.hid (((HL5.out.setEnt 10 rfl z.sync z.thread z.branch z.flag z.v.kind z.v.num (.slice z.v.addr z.v.parts.length z.v.cap)).alloc 61 #[.int .i64 at_, .slice a1 rs1.length c1, .slice a' rs'.length cap']).via (by with_reducible exact hw5)); (try simp only [List.set_cons_succ, List.set_cons_zero, List.setIfInBounds_toArray, List.cons_append, List.nil_append, World.size_alloc, World.size_setCell] at HL6'); have HL6 := Lib.hid (HL6'.out.sel [0, 1, 2, 3, 4, 5, 6, 7, 8, 9, 11, 10] rfl (by decide) (l' := [_, _, _, _, _, _, _, _, _, _, _, _])); clear HL6'; clear hw5; obtain ⟨b14, hb14⟩ : ∃ b, w4.heap.size = b := ⟨_, rfl⟩; rw [hb14] at HL6 ⊢; clear hb14; obtain ⟨b15, hb15⟩ : ∃ b, w3.heap.size = b := ⟨_, rfl⟩; rw [hb15] at HL6 ⊢; clear hb15)
    | (have vA' := vA; clear vA' vA; have HL6 := Lib.hid (((HL5.out.alloc 61 #[.int .i64 at_, .slice a1 rs1.length c1, .slice a' rs'.length cap']).alloc 42 #[.int .i64 z.sync, .int .i64 z.thread, .int .i64 z.branch, .int .i64 z.flag, .int .i64 z.v.kind, .int .i64 z.v.num, .slice z.v.addr z.v.parts.length z.v.cap]).via (by with_reducible exact hw5)); (try simp only [List.set_cons_succ, List.set_cons_zero, List.setIfInBounds_toArray, List.cons_append, List.nil_append, World.size_alloc, World.size_setCell] at HL6); clear hw5; obtain ⟨b15, hb15⟩ : ∃ b, w4.heap.size + 1 = b := ⟨_, rfl⟩; rw [hb15] at HL6 ⊢; clear hb15; obtain ⟨b14, hb14⟩ : ∃ b, w4.heap.size = b := ⟨_, rfl⟩; rw [hb14] at HL6 ⊢; clear hb14)
    | (have vA' := vA; clear vA' vA; have HL6' := Lib.hid (((HL5.out.alloc 42 #[.int .i64 z.sync, .int .i64 z.thread, .int .i64 z.branch, .int .i64 z.flag, .int .i64 z.v.kind, .int .i64 z.v.num, .slice z.v.addr z.v.parts.length z.v.cap]).alloc 61 #[.int .i64 at_, .slice a1 rs1.length c1, .slice a' rs'.length cap']).via (by with_reducible exact hw5)); (try simp only [List.set_cons_succ, List.set_cons_zero, List.setIfInBounds_toArray, List.cons_append, List.nil_append, World.size_alloc, World.size_setCell] at HL6'); have HL6 := Lib.hid (HL6'.out.sel [0, 1, 2, 3, 4, 5, 6, 7, 8, 9, 11, 10] rfl (by decide) (l' := [_, _, _, _, _, _, _, _, _, _, _, _])); clear HL6'; clear hw5; obtain ⟨b14, hb14⟩ : ∃ b, w4.heap.size + 1 = b := ⟨_, rfl⟩; rw [hb14] at HL6 ⊢; clear hb14; obtain ⟨b15, hb15⟩ : ∃ b, w4.heap.size = b := ⟨_, rfl⟩; rw [hb15] at HL6 ⊢; clear hb15)
  all_goals
    clear HL5 HL3 x0 x1 x2 x3 x4 x5 x6 x7 x8 x9 hl3 y0 y1 y2 y3 y4 y5 y6 y7 fy0 fy1 fy2 fy3 fy4 fy5 fy6 fy7 hlx
    obtain ⟨y0, y1, y2, y3, y4, y5, y6, y7, ⟨fy0, fy1, fy2, fy3, fy4, fy5, fy6, fy7⟩, hlx⟩ := HL6.out.c8' 5 rfl
    obtain ⟨t0, t1, t2, tf0, tf1, tf2, hlt, _, _⟩ := HL6.out.c3 10 rfl
    have p1 := HL6.out.ne 5 10 rfl rfl (by decide)
    have p2 := Ne.symm p1
    go_upto_region 18 with fail
    refine wp_name ?_
    intro w6 hw6
    have HL7 := Lib.hid ((((HL6.out.set 5 rfl 5 (.int .i64 at_)).set 5 rfl 6 (.slice a1 rs1.length c1)).set 5 rfl 7 (.slice a' rs'.length cap')).via hw6)
    simp only [List.set_cons_succ, List.set_cons_zero, List.setIfInBounds_toArray] at HL7
    clear hw6 HL6 y0 y1 y2 y3 y4 y5 y6 y7 fy0 fy1 fy2 fy3 fy4 fy5 fy6 fy7 hlx t0 t1 t2 tf0 tf1 tf2 hlt p1 p2
    obtain ⟨v0, v1, v2, v3, v4, v5, v6, _, hlv, _, _⟩ := HL7.out.c7 9 rfl
    obtain ⟨z0, z1, z2, z3, z4, z5, z6, _, hlz, _, _⟩ := HL7.out.c7 11 rfl
    obtain ⟨hyz, rfl⟩ := HR2.out.plain HR.out.atR HB2.out.1
    have HYZ := Lib.hid hyz
    have HZN : Hid (z.v.nodes ≤ 256) := HR2.out.inq (p := fun y => y.v.nodes ≤ 256) (by simp [ME.zero, MT.zero, MT.nodes, MT.nodesAll]) HB2.out.rnodes
    have HYN : Hid (y.v.nodes ≤ 256) := by unfold Hid; rw [plain_nodes_eq hyz.symm]; exact HZN.out
    have hP0 := (HP1.out _ (HL7.out.still 4 rfl)).1
    have HSE := Lib.hid (SameEntry_ref y z w6 (HR.out.inq (p := fun y => y.v.In w6) (MT.in_zero w6) (fun r hr => (HB2.out.2.2.2.2 _ hP0).1 r hr)) (HR2.out.inq (p := fun y => y.v.In w6) (MT.in_zero w6) (fun r hr => (HB2.out.2.2.2.2 _ hP0).2.2 r hr)) (by have := HYN.out; omega) (by have := HZN.out; omega))
    simp only [ent_eq] at HSE
    have hcc : (cc == cc) = true := by simp
    clear hyz hP0
    go_wp2_with fail
    refine HSE.out.mono ?_
    rintro e w7 ⟨c6, rfl, hc6, ht⟩
    obtain rfl : c6 = true := hc6.2 ⟨HYN.out, HZN.out, HYZ.out⟩
    have HL8 := Lib.hid (HL7.out.touch ht)
    clear ht hc6 HSE
    have HBF := Lib.hid (HB2.out.drop (c := cc) (i := xi.toNat) HP1.out HRS.out HCP.out)
    have HBO := Lib.hid (HB1.out.weak14 (fun W hW => (HP1.out W hW).1))
    go_wp2
    go_ret
    exact ⟨c, M, q1, q2, es1, _, rs1, rs', a1, c1, a', cap', P1, rfl, HBO.out, HBF.out, fun W hW => (HP1.out W hW).1, HL8.out.sel [0, 1, 2, 3, 4, 5, 6, 7] rfl (by decide)⟩
set_option maxHeartbeats 4000000 in
theorem act14_dropno (T : List Nat) (w : World) (P : World → Prop) (c : Nat) (at_ : Int) (M q1 q2 bx g : Nat) (es1 es2 rs1 rs2 : List ME) (a1 : Option Addr) (c1 : Nat) (a2 : Option Addr) (c2 : Nat) (s : Ar) (vc vl : Value) (x : C4) (h : Led T w w (L14 c at_ M q1 q2 es1 es2 P bx g s vc vl a1 rs1.length c1 a2 rs2.length c2)) (hB1 : Both13 P es1 rs1 a1 c1) (hB2 : Both13 P es2 rs2 a2 c2) (hw : x.what = 5) (hsd : x.side ≠ 1 ∧ x.side ≠ 2) :
    Calls Tryd.prog 19 #[.pointer (some ⟨bx, 0, none⟩), x.val] w (Acted14 T w P bx g at_ s vc vl) := by
  obtain ⟨xw, xs, xi, xe⟩ := x
  dsimp only at hw hsd
  subst hw
  have hq := qOf_no (q1 := q1) (q2 := q2) hsd.1 hsd.2
  have HB1 := Lib.hid hB1
  have HB2 := Lib.hid hB2
  have HL0 := Lib.hid h
  clear h hB1 hB2
  obtain ⟨ca, cp, rfl, _, _⟩ := own_val (HL0.out.refAt 7 rfl).cel
  obtain ⟨la, lp, rfl, _, _⟩ := own_val (HL0.out.refAt 7 rfl).log
  simp only [L14, chanL, bothC14, List.cons_append, List.nil_append] at HL0
  unfold C4.val
  go_enter Tryd.func19, Tryd.ntmps19
  go_upto_region 1 with fail
  refine wp_name ?_
  intro w1 hw1
  have HL1 := Lib.hid (HL0.out.al1 hw1)
  simp only [List.nil_append, List.cons_append] at HL1
  obtain ⟨b3, hb3⟩ : ∃ b, w.heap.size = b := ⟨_, rfl⟩
  rw [hb3] at HL1 ⊢
  clear hw1 hb3 HL0
  obtain ⟨x0, x1, x2, x3, x4, x5, x6, x7, x8, x9, hl3⟩ := HL1.out.c10 8 rfl
  obtain ⟨y0, y1, y2, y3, y4, y5, y6, y7, ⟨fy0, fy1, fy2, fy3, fy4, fy5, fy6, fy7⟩, hlx⟩ := HL1.out.c8' 5 rfl
  have HLa := Lib.hid HL1.out.drew
  have HLb := Lib.hid (HL1.out.alloc 42 #[.int .i64 0, .int .i64 0, .int .i64 0, .int .i64 0, .int .i64 0, .int .i64 0, .slice none 0 0]).drew
  simp only [List.nil_append, List.cons_append] at HLb
  have m1 : bx ≠ w1.heap.size := by omega
  have m2 := Ne.symm m1
  have m3 : b3 ≠ w1.heap.size := by omega
  have m4 := Ne.symm m3
  go_upto_region 15 with fail
  go_region_held3 (fun w' => w'.cell? ⟨bx, 1, none⟩ = some (.pointer (some ⟨c, 0, none⟩)) ∧ w'.cell? ⟨b3, 1, none⟩ = some (.int .i64 xs) ∧ w'.cell? ⟨b3, 2, none⟩ = some (.int .i64 xi)) (go_keep) (first
    | (go_at_call 12; refine (Drop_ch_no _ c at_ M q1 q2 (HLa.out.chAt 0 1 rfl rfl) xs xi hq).mono ?_; rintro e w2 ⟨rfl, ht⟩; have HL2 := Lib.hid (HLa.out.touch ht); clear ht x0 x1 x2 x3 x4 x5 x6 x7 x8 x9 hl3 y0 y1 y2 y3 y4 y5 y6 y7 fy0 fy1 fy2 fy3 fy4 fy5 fy6 fy7 hlx; (rw [zero_valW]); obtain ⟨x0, x1, x2, x3, x4, x5, x6, x7, x8, x9, hl3⟩ := HL2.out.c10 8 rfl; obtain ⟨y0, y1, y2, y3, y4, y5, y6, y7, ⟨fy0, fy1, fy2, fy3, fy4, fy5, fy6, fy7⟩, hlx⟩ := HL2.out.c8' 5 rfl; clear m1 m2 m3 m4; have m1 : bx ≠ w2.heap.size := (by omega); have m2 := Ne.symm m1; have m3 : b3 ≠ w2.heap.size := (by omega); have m4 := Ne.symm m3)
    | (go_at_call 12; refine (Drop_ch_no _ c at_ M q1 q2 (HLb.out.chAt 0 1 rfl rfl) xs xi hq).mono ?_; rintro e w2 ⟨rfl, ht⟩; have HL2 := Lib.hid (HLb.out.touch ht); clear ht x0 x1 x2 x3 x4 x5 x6 x7 x8 x9 hl3 y0 y1 y2 y3 y4 y5 y6 y7 fy0 fy1 fy2 fy3 fy4 fy5 fy6 fy7 hlx; (rw [zero_valW]); obtain ⟨x0, x1, x2, x3, x4, x5, x6, x7, x8, x9, hl3⟩ := HL2.out.c10 8 rfl; obtain ⟨y0, y1, y2, y3, y4, y5, y6, y7, ⟨fy0, fy1, fy2, fy3, fy4, fy5, fy6, fy7⟩, hlx⟩ := HL2.out.c8' 5 rfl; obtain ⟨k0, k1, k2, k3, k4, k5, k6, ⟨kf0, kf1, kf2, kf3, kf4, kf5, kf6⟩, hlk, _, _⟩ := HL2.out.c7 9 rfl))
  all_goals rename_i hHeld
  all_goals clear hHeld HLa HLb m1 m2 m3 m4
  all_goals refine exit_nameR (Q := Exit.then _ _) ?_
  all_goals intro w3 hw3
  all_goals first
    | (have k0' := k0; clear k0'; have HL3 := Lib.hid ((HL2.out.setEnt 9 rfl 0 0 0 0 0 0 (.slice none 0 0)).via hw3); (simp only [List.set_cons_succ, List.set_cons_zero] at HL3); clear hw3 HL2 k0 k1 k2 k3 k4 k5 k6 kf0 kf1 kf2 kf3 kf4 kf5 kf6 hlk; obtain ⟨b8, hb8⟩ : ∃ b, w1.heap.size = b := ⟨_, rfl⟩; rw [hb8] at HL3 ⊢; clear hb8)
    | (have HL3 := Lib.hid ((HL2.out.alloc 42 #[.int .i64 0, .int .i64 0, .int .i64 0, .int .i64 0, .int .i64 0, .int .i64 0, .slice none 0 0]).via hw3); clear hw3 HL2; obtain ⟨b8, hb8⟩ : ∃ b, w2.heap.size = b := ⟨_, rfl⟩; rw [hb8] at HL3 ⊢; clear hb8)
  all_goals
    (try simp only [List.nil_append, List.cons_append] at HL3)
    clear HL1 x0 x1 x2 x3 x4 x5 x6 x7 x8 x9 hl3 y0 y1 y2 y3 y4 y5 y6 y7 fy0 fy1 fy2 fy3 fy4 fy5 fy6 fy7 hlx
    obtain ⟨x0, x1, x2, x3, x4, x5, x6, x7, x8, x9, hl3⟩ := HL3.out.c10 8 rfl
    obtain ⟨y0, y1, y2, y3, y4, y5, y6, y7, ⟨fy0, fy1, fy2, fy3, fy4, fy5, fy6, fy7⟩, hlx⟩ := HL3.out.c8' 5 rfl
    have HL4a := Lib.hid HL3.out.drew
    have HL4b := Lib.hid (HL3.out.alloc 61 #[.int .i64 0, .slice none 0 0, .slice none 0 0]).drew
    have HL4c := Lib.hid (HL3.out.alloc 42 #[.int .i64 0, .int .i64 0, .int .i64 0, .int .i64 0, .int .i64 0, .int .i64 0, .slice none 0 0]).drew
    have HL4d := Lib.hid ((HL3.out.alloc 61 #[.int .i64 0, .slice none 0 0, .slice none 0 0]).alloc 42 #[.int .i64 0, .int .i64 0, .int .i64 0, .int .i64 0, .int .i64 0, .int .i64 0, .slice none 0 0]).drew
    have HL4e := Lib.hid ((HL3.out.alloc 42 #[.int .i64 0, .int .i64 0, .int .i64 0, .int .i64 0, .int .i64 0, .int .i64 0, .slice none 0 0]).alloc 61 #[.int .i64 0, .slice none 0 0, .slice none 0 0]).drew
    simp only [List.nil_append, List.cons_append, World.size_alloc] at HL4b HL4c HL4d HL4e
    have m1 : bx ≠ w3.heap.size := by omega
    have m2 := Ne.symm m1
    have m3 : b3 ≠ w3.heap.size := by omega
    have m4 := Ne.symm m3
    have m5 : bx ≠ w3.heap.size + 1 := by omega
    have m6 := Ne.symm m5
    have m7 : b3 ≠ w3.heap.size + 1 := by omega
    have m8 := Ne.symm m7
    go_upto_region 16 with fail
    go_region_held3 (fun w' => (w'.cell? ⟨bx, 5, none⟩ = some (.int .i64 at_) ∧ w'.cell? ⟨bx, 6, none⟩ = some (.slice a1 rs1.length c1) ∧ w'.cell? ⟨bx, 7, none⟩ = some (.slice a2 rs2.length c2)) ∧ w'.cell? ⟨b3, 2, none⟩ = some (.int .i64 xi)) (go_keep) (first
      | (go_at_call 53; refine (Drop_ref14_no _ at_ a1 rs1.length c1 a2 rs2.length c2 xs xi hsd.1 hsd.2).mono ?_; rintro e w4 ⟨rfl, ht⟩; have HL5 := Lib.hid (HL4a.out.touch ht); clear ht x0 x1 x2 x3 x4 x5 x6 x7 x8 x9 hl3 y0 y1 y2 y3 y4 y5 y6 y7 fy0 fy1 fy2 fy3 fy4 fy5 fy6 fy7 hlx; (rw [zero_valW, rc14_eq]); obtain ⟨x0, x1, x2, x3, x4, x5, x6, x7, x8, x9, hl3⟩ := HL5.out.c10 8 rfl; obtain ⟨y0, y1, y2, y3, y4, y5, y6, y7, ⟨fy0, fy1, fy2, fy3, fy4, fy5, fy6, fy7⟩, hlx⟩ := HL5.out.c8' 5 rfl; have n1 : bx ≠ w4.heap.size := (by omega); have n2 := Ne.symm n1; have n3 : b3 ≠ w4.heap.size := (by omega); have n4 := Ne.symm n3; have n5 : bx ≠ w4.heap.size + 1 := (by omega); have n6 := Ne.symm n5; have n7 : b3 ≠ w4.heap.size + 1 := (by omega); have n8 := Ne.symm n7; have vA := True.intro)
      | (go_at_call 53; refine (Drop_ref14_no _ at_ a1 rs1.length c1 a2 rs2.length c2 xs xi hsd.1 hsd.2).mono ?_; rintro e w4 ⟨rfl, ht⟩; have HL5 := Lib.hid (HL4b.out.touch ht); clear ht x0 x1 x2 x3 x4 x5 x6 x7 x8 x9 hl3 y0 y1 y2 y3 y4 y5 y6 y7 fy0 fy1 fy2 fy3 fy4 fy5 fy6 fy7 hlx; (rw [zero_valW, rc14_eq]); obtain ⟨x0, x1, x2, x3, x4, x5, x6, x7, x8, x9, hl3⟩ := HL5.out.c10 8 rfl; obtain ⟨y0, y1, y2, y3, y4, y5, y6, y7, ⟨fy0, fy1, fy2, fy3, fy4, fy5, fy6, fy7⟩, hlx⟩ := HL5.out.c8' 5 rfl; have n1 : bx ≠ w4.heap.size := (by omega); have n2 := Ne.symm n1; have n3 : b3 ≠ w4.heap.size := (by omega); have n4 := Ne.symm n3; have n5 : bx ≠ w4.heap.size + 1 := (by omega); have n6 := Ne.symm n5; have n7 : b3 ≠ w4.heap.size + 1 := (by omega); have n8 := Ne.symm n7; have vB := True.intro; obtain ⟨k0, k1, k2, kf0, kf1, kf2, hlk, _, _⟩ := HL5.out.c3 10 rfl; have qa : w3.heap.size ≠ w4.heap.size := (by omega); have qb := Ne.symm qa)
      | (go_at_call 53; refine (Drop_ref14_no _ at_ a1 rs1.length c1 a2 rs2.length c2 xs xi hsd.1 hsd.2).mono ?_; rintro e w4 ⟨rfl, ht⟩; have HL5 := Lib.hid (HL4c.out.touch ht); clear ht x0 x1 x2 x3 x4 x5 x6 x7 x8 x9 hl3 y0 y1 y2 y3 y4 y5 y6 y7 fy0 fy1 fy2 fy3 fy4 fy5 fy6 fy7 hlx; (rw [zero_valW, rc14_eq]); obtain ⟨x0, x1, x2, x3, x4, x5, x6, x7, x8, x9, hl3⟩ := HL5.out.c10 8 rfl; obtain ⟨y0, y1, y2, y3, y4, y5, y6, y7, ⟨fy0, fy1, fy2, fy3, fy4, fy5, fy6, fy7⟩, hlx⟩ := HL5.out.c8' 5 rfl; have n1 : bx ≠ w4.heap.size := (by omega); have n2 := Ne.symm n1; have n3 : b3 ≠ w4.heap.size := (by omega); have n4 := Ne.symm n3; have n5 : bx ≠ w4.heap.size + 1 := (by omega); have n6 := Ne.symm n5; have n7 : b3 ≠ w4.heap.size + 1 := (by omega); have n8 := Ne.symm n7; have vC := True.intro; obtain ⟨j0, j1, j2, j3, j4, j5, j6, ⟨jf0, jf1, jf2, jf3, jf4, jf5, jf6⟩, hlj, _, _⟩ := HL5.out.c7 10 rfl; have qa : w3.heap.size ≠ w4.heap.size := (by omega); have qb := Ne.symm qa)
      | (go_at_call 53; refine (Drop_ref14_no _ at_ a1 rs1.length c1 a2 rs2.length c2 xs xi hsd.1 hsd.2).mono ?_; rintro e w4 ⟨rfl, ht⟩; have HL5 := Lib.hid (HL4d.out.touch ht); clear ht x0 x1 x2 x3 x4 x5 x6 x7 x8 x9 hl3 y0 y1 y2 y3 y4 y5 y6 y7 fy0 fy1 fy2 fy3 fy4 fy5 fy6 fy7 hlx; (rw [zero_valW, rc14_eq]); obtain ⟨x0, x1, x2, x3, x4, x5, x6, x7, x8, x9, hl3⟩ := HL5.out.c10 8 rfl; obtain ⟨y0, y1, y2, y3, y4, y5, y6, y7, ⟨fy0, fy1, fy2, fy3, fy4, fy5, fy6, fy7⟩, hlx⟩ := HL5.out.c8' 5 rfl; have n1 : bx ≠ w4.heap.size := (by omega); have n2 := Ne.symm n1; have n3 : b3 ≠ w4.heap.size := (by omega); have n4 := Ne.symm n3; have n5 : bx ≠ w4.heap.size + 1 := (by omega); have n6 := Ne.symm n5; have n7 : b3 ≠ w4.heap.size + 1 := (by omega); have n8 := Ne.symm n7; have vD := True.intro; obtain ⟨k0, k1, k2, kf0, kf1, kf2, hlk, _, _⟩ := HL5.out.c3 10 rfl; obtain ⟨j0, j1, j2, j3, j4, j5, j6, ⟨jf0, jf1, jf2, jf3, jf4, jf5, jf6⟩, hlj, _, _⟩ := HL5.out.c7 11 rfl)
      | (go_at_call 53; refine (Drop_ref14_no _ at_ a1 rs1.length c1 a2 rs2.length c2 xs xi hsd.1 hsd.2).mono ?_; rintro e w4 ⟨rfl, ht⟩; have HL5 := Lib.hid (HL4e.out.touch ht); clear ht x0 x1 x2 x3 x4 x5 x6 x7 x8 x9 hl3 y0 y1 y2 y3 y4 y5 y6 y7 fy0 fy1 fy2 fy3 fy4 fy5 fy6 fy7 hlx; (rw [zero_valW, rc14_eq]); obtain ⟨x0, x1, x2, x3, x4, x5, x6, x7, x8, x9, hl3⟩ := HL5.out.c10 8 rfl; obtain ⟨y0, y1, y2, y3, y4, y5, y6, y7, ⟨fy0, fy1, fy2, fy3, fy4, fy5, fy6, fy7⟩, hlx⟩ := HL5.out.c8' 5 rfl; have n1 : bx ≠ w4.heap.size := (by omega); have n2 := Ne.symm n1; have n3 : b3 ≠ w4.heap.size := (by omega); have n4 := Ne.symm n3; have n5 : bx ≠ w4.heap.size + 1 := (by omega); have n6 := Ne.symm n5; have n7 : b3 ≠ w4.heap.size + 1 := (by omega); have n8 := Ne.symm n7; have vE := True.intro; obtain ⟨j0, j1, j2, j3, j4, j5, j6, ⟨jf0, jf1, jf2, jf3, jf4, jf5, jf6⟩, hlj, _, _⟩ := HL5.out.c7 10 rfl; obtain ⟨k0, k1, k2, kf0, kf1, kf2, hlk, _, _⟩ := HL5.out.c3 11 rfl))
  all_goals rename_i hHeld
  all_goals clear hHeld HL4a HL4b HL4c HL4d HL4e m1 m2 m3 m4 m5 m6 m7 m8
  all_goals refine exit_nameR (Q := Exit.then _ _) ?_
  all_goals intro w5 hw5
  all_goals first
    | (have vD' := vD; clear vD' vD; have HL6 := Lib.hid (((((HL5.out.set 10 rfl 0 (.int .i64 at_)).set 10 rfl 1 (.slice a1 rs1.length c1)).set 10 rfl 2 (.slice a2 rs2.length c2)).setEnt 11 rfl 0 0 0 0 0 0 (.slice none 0 0)).via (by with_reducible exact hw5)); (try simp only [List.set_cons_succ, List.set_cons_zero, List.setIfInBounds_toArray, List.cons_append, List.nil_append, World.size_alloc, World.size_setCell] at HL6); clear hw5; obtain ⟨b15, hb15⟩ : ∃ b, w3.heap.size + 1 = b := ⟨_, rfl⟩; rw [hb15] at HL6 ⊢; clear hb15; obtain ⟨b14, hb14⟩ : ∃ b, w3.heap.size = b := ⟨_, rfl⟩; rw [hb14] at HL6 ⊢; clear hb14)
    | (have vE' := vE; clear vE' vE; have HL6' := Lib.hid (((((HL5.out.set 11 rfl 0 (.int .i64 at_)).set 11 rfl 1 (.slice a1 rs1.length c1)).set 11 rfl 2 (.slice a2 rs2.length c2)).setEnt 10 rfl 0 0 0 0 0 0 (.slice none 0 0)).via (by with_reducible exact hw5)); (try simp only [List.set_cons_succ, List.set_cons_zero, List.setIfInBounds_toArray, List.cons_append, List.nil_append, World.size_alloc, World.size_setCell] at HL6'); have HL6 := Lib.hid (HL6'.out.sel [0, 1, 2, 3, 4, 5, 6, 7, 8, 9, 11, 10] rfl (by decide) (l' := [_, _, _, _, _, _, _, _, _, _, _, _])); clear HL6'; clear hw5; obtain ⟨b14, hb14⟩ : ∃ b, w3.heap.size + 1 = b := ⟨_, rfl⟩; rw [hb14] at HL6 ⊢; clear hb14; obtain ⟨b15, hb15⟩ : ∃ b, w3.heap.size = b := ⟨_, rfl⟩; rw [hb15] at HL6 ⊢; clear hb15)
    | (have vB' := vB; clear vB' vB; have HL6 := Lib.hid (((((HL5.out.set 10 rfl 0 (.int .i64 at_)).set 10 rfl 1 (.slice a1 rs1.length c1)).set 10 rfl 2 (.slice a2 rs2.length c2)).alloc 42 #[.int .i64 0, .int .i64 0, .int .i64 0, .int .i64 0, .int .i64 0, .int .i64 0, .slice none 0 0]).via (by with_reducible exact hw5)); (try simp only [List.set_cons_succ, List.set_cons_zero, List.setIfInBounds_toArray, List.cons_append, List.nil_append, World.size_alloc, World.size_setCell] at HL6); clear hw5; obtain ⟨b14, hb14⟩ : ∃ b, w3.heap.size = b := ⟨_, rfl⟩; rw [hb14] at HL6 ⊢; clear hb14; obtain ⟨b15, hb15⟩ : ∃ b, w4.heap.size = b := ⟨_, rfl⟩; rw [hb15] at HL6 ⊢; clear hb15)
    | (have vC' := vC; clear vC' vC; have HL6' := Lib.hid (((HL5.out.setEnt 10 rfl 0 0 0 0 0 0 (.slice none 0 0)).alloc 61 #[.int .i64 at_, .slice a1 rs1.length c1, .slice a2 rs2.length c2]).via (by with_reducible exact hw5)); (try simp only [List.set_cons_succ, List.set_cons_zero, List.setIfInBounds_toArray, List.cons_append, List.nil_append, World.size_alloc, World.size_setCell] at HL6'); have HL6 := Lib.hid (HL6'.out.sel [0, 1, 2, 3, 4, 5, 6, 7, 8, 9, 11, 10] rfl (by decide) (l' := [_, _, _, _, _, _, _, _, _, _, _, _])); clear HL6'; clear hw5; obtain ⟨b14, hb14⟩ : ∃ b, w4.heap.size = b := ⟨_, rfl⟩; rw [hb14] at HL6 ⊢; clear hb14; obtain ⟨b15, hb15⟩ : ∃ b, w3.heap.size = b := ⟨_, rfl⟩; rw [hb15] at HL6 ⊢; clear hb15)
    | (have vA' := vA; clear vA' vA; have HL6 := Lib.hid (((HL5.out.alloc 61 #[.int .i64 at_, .slice a1 rs1.length c1, .slice a2 rs2.length c2]).alloc 42 #[.int .i64 0, .int .i64 0, .int .i64 0, .int .i64 0, .int .i64 0, .int .i64 0, .slice none 0 0]).via (by with_reducible exact hw5)); (try simp only [List.set_cons_succ, List.set_cons_zero, List.setIfInBounds_toArray, List.cons_append, List.nil_append, World.size_alloc, World.size_setCell] at HL6); clear hw5; obtain ⟨b15, hb15⟩ : ∃ b, w4.heap.size + 1 = b := ⟨_, rfl⟩; rw [hb15] at HL6 ⊢; clear hb15; obtain ⟨b14, hb14⟩ : ∃ b, w4.heap.size = b := ⟨_, rfl⟩; rw [hb14] at HL6 ⊢; clear hb14)
    | (have vA' := vA; clear vA' vA; have HL6' := Lib.hid (((HL5.out.alloc 42 #[.int .i64 0, .int .i64 0, .int .i64 0, .int .i64 0, .int .i64 0, .int .i64 0, .slice none 0 0]).alloc 61 #[.int .i64 at_, .slice a1 rs1.length c1, .slice a2 rs2.length c2]).via (by with_reducible exact hw5)); (try simp only [List.set_cons_succ, List.set_cons_zero, List.setIfInBounds_toArray, List.cons_append, List.nil_append, World.size_alloc, World.size_setCell] at HL6'); have HL6 := Lib.hid (HL6'.out.sel [0, 1, 2, 3, 4, 5, 6, 7, 8, 9, 11, 10] rfl (by decide) (l' := [_, _, _, _, _, _, _, _, _, _, _, _])); clear HL6'; clear hw5; obtain ⟨b14, hb14⟩ : ∃ b, w4.heap.size + 1 = b := ⟨_, rfl⟩; rw [hb14] at HL6 ⊢; clear hb14; obtain ⟨b15, hb15⟩ : ∃ b, w4.heap.size = b := ⟨_, rfl⟩; rw [hb15] at HL6 ⊢; clear hb15)
  all_goals
    clear HL5 HL3 x0 x1 x2 x3 x4 x5 x6 x7 x8 x9 hl3 y0 y1 y2 y3 y4 y5 y6 y7 fy0 fy1 fy2 fy3 fy4 fy5 fy6 fy7 hlx
    obtain ⟨y0, y1, y2, y3, y4, y5, y6, y7, ⟨fy0, fy1, fy2, fy3, fy4, fy5, fy6, fy7⟩, hlx⟩ := HL6.out.c8' 5 rfl
    obtain ⟨t0, t1, t2, tf0, tf1, tf2, hlt, _, _⟩ := HL6.out.c3 10 rfl
    have p1 := HL6.out.ne 5 10 rfl rfl (by decide)
    have p2 := Ne.symm p1
    go_upto_region 18 with fail
    refine wp_name ?_
    intro w6 hw6
    have HL7 := Lib.hid ((((HL6.out.set 5 rfl 5 (.int .i64 at_)).set 5 rfl 6 (.slice a1 rs1.length c1)).set 5 rfl 7 (.slice a2 rs2.length c2)).via hw6)
    simp only [List.set_cons_succ, List.set_cons_zero, List.setIfInBounds_toArray] at HL7
    clear hw6 HL6 y0 y1 y2 y3 y4 y5 y6 y7 fy0 fy1 fy2 fy3 fy4 fy5 fy6 fy7 hlx t0 t1 t2 tf0 tf1 tf2 hlt p1 p2
    obtain ⟨v0, v1, v2, v3, v4, v5, v6, _, hlv, _, _⟩ := HL7.out.c7 9 rfl
    obtain ⟨z0, z1, z2, z3, z4, z5, z6, _, hlz, _, _⟩ := HL7.out.c7 11 rfl
    have HSE := Lib.hid (SameEntry_ref ME.zero ME.zero w6 (MT.in_zero w6) (MT.in_zero w6) (by simp [ME.zero, MT.zero, MT.nodes, MT.nodesAll]) (by simp [ME.zero, MT.zero, MT.nodes, MT.nodesAll]))
    rw [zero_valW] at HSE
    go_wp2_with fail
    refine HSE.out.mono ?_
    rintro e w7 ⟨c6, rfl, hc6, ht⟩
    obtain rfl : c6 = true := hc6.2 (by simp [ME.zero, MT.zero, MT.nodes, MT.nodesAll])
    have HL8 := Lib.hid (HL7.out.touch ht)
    clear ht hc6 HSE
    go_wp2
    go_ret
    exact ⟨c, M, q1, q2, es1, es2, rs1, rs2, a1, c1, a2, c2, P, rfl, HB1.out, HB2.out, fun W hW => hW, HL8.out.sel [0, 1, 2, 3, 4, 5, 6, 7] rfl (by decide)⟩
end Go.Proofs.YtihmbgdkllmkaaaDoor

/-
  act() of law 14 (betrothallaw14/law.go): one call by both: the lock's.
-/
namespace Go.Proofs.YtihmbgdkllmkaaaDoor
open Go.RowKit Go.Shelf
set_option maxRecDepth 100000
set_option linter.unusedVariables false
set_option linter.unusedSimpArgs false

theorem Led.cell234' {T : List Nat} {w0 w : World} {l : List Thing} {bx t : Nat} (i : Nat) {x0 x1 x2 x3 x4 x5 x6 x7 y2 y3 y4 : Value} (h : Led T w0 w l) (hi : l[i]? = some (Proofs.YtihmbgdkllmkaaaDoor.box bx t #[x0, x1, x2, x3, x4, x5, x6, x7])) : Led T w0 (((w.setCell ⟨bx, 2, none⟩ y2).setCell ⟨bx, 3, none⟩ y3).setCell ⟨bx, 4, none⟩ y4) (l.set i (Proofs.YtihmbgdkllmkaaaDoor.box bx t #[x0, x1, y2, y3, y4, x5, x6, x7])) := by
  have hlt : i < l.length := by rcases Nat.lt_or_ge i l.length with h1 | h1; exact h1; rw [List.getElem?_eq_none h1] at hi; cases hi
  have h1 := ((h.set i hi 2 y2).set i (by simp [hlt]; rfl) 3 y3).set i (by simp [hlt]; rfl) 4 y4
  simpa using h1
def ActedL14 (T : List Nat) (w : World) (P : World → Prop) (bx g : Nat) (at_ : Int) (s : Ar) (e : Ending) (w' : World) : Prop := ∃ vc vl, Acted14 T w P bx g at_ s vc vl e w'
set_option maxHeartbeats 4000000 in
theorem act14_lock (T : List Nat) (w : World) (P : World → Prop) (c : Nat) (at_ : Int) (M q1 q2 bx g : Nat) (es1 es2 rs1 rs2 : List ME) (a1 : Option Addr) (c1 : Nat) (a2 : Option Addr) (c2 : Nat) (s s' : Ar) (vc vl : Value) (x : C4) (d : Bool) (er : Int) (h : Led T w w (L14 c at_ M q1 q2 es1 es2 P bx g s vc vl a1 rs1.length c1 a2 rs2.length c2)) (hB1 : Both13 P es1 rs1 a1 c1) (hB2 : Both13 P es2 rs2 a2 c2) (hw : x.what = 6) (hm : s'.most = s.most)
    (hR : ∀ T w vc vl, Led T w w [refT vc vl s] → Calls Tryd.prog 54 #[refV vc s.most vl, .int .i64 at_] w (RefGo T w s' (fun vc' vl' => .tuple #[refV vc' s.most vl', .bool d,.int .i64 er])))
    (hI : ∀ (l : List Thing) (w1 : World), Led T w w1 l → l[6]? = some (arena g s) → ChAt w1 c at_ M q1 q2 → Calls Tryd.prog 21 #[.pointer (some ⟨c, 0, none⟩), .pointer (some ⟨g, 0, none⟩)] w1 fun e w' => e = .returned (.tuple #[.bool d, .int .i64 er]) ∧ Led T w w' (l.set 6 (arena g s'))) :
    Calls Tryd.prog 19 #[.pointer (some ⟨bx, 0, none⟩), x.val] w (ActedL14 T w P bx g at_ s') := by
  obtain ⟨xw, xs, xi, xe⟩ := x
  dsimp only at hw
  subst hw
  have HB1 := Lib.hid hB1
  have HB2 := Lib.hid hB2
  have HL0 := Lib.hid h
  have HR := Lib.hid hR
  have HI := Lib.hid hI
  have HM := Lib.hid hm
  clear h hB1 hB2 hR hI hm
  obtain ⟨ca, cp, rfl, _, _⟩ := own_val (HL0.out.refAt 7 rfl).cel
  obtain ⟨la, lp, rfl, _, _⟩ := own_val (HL0.out.refAt 7 rfl).log
  simp only [L14, chanL, bothC14, List.cons_append, List.nil_append] at HL0
  unfold C4.val
  go_enter Tryd.func19, Tryd.ntmps19
  go_upto_region 1 with fail
  refine wp_name ?_
  intro w1 hw1
  have HL1 := Lib.hid (HL0.out.al1 hw1)
  simp only [List.nil_append, List.cons_append] at HL1
  obtain ⟨b3, hb3⟩ : ∃ b, w.heap.size = b := ⟨_, rfl⟩
  rw [hb3] at HL1 ⊢
  clear hw1 hb3 HL0
  obtain ⟨x0, x1, x2, x3, x4, x5, x6, x7, x8, x9, hl3⟩ := HL1.out.c10 8 rfl
  obtain ⟨y0, y1, y2, y3, y4, y5, y6, y7, ⟨fy0, fy1, fy2, fy3, fy4, fy5, fy6, fy7⟩, hlx⟩ := HL1.out.c8' 5 rfl
  have HLa := Lib.hid HL1.out.drew
  have HLb := Lib.hid (HL1.out.alloc 55 #[.slice none 0 0, .int .i64 0, .slice none 0 0]).drew
  simp only [List.nil_append, List.cons_append] at HLb
  go_wp2_with fail
  go_region_held3 (fun w' => w'.cell? ⟨bx, 2, none⟩ = some (.slice ca s.C.length cp) ∧ w'.cell? ⟨bx, 3, none⟩ = some (.int .i64 (s.most : Int)) ∧ w'.cell? ⟨bx, 4, none⟩ = some (.slice la s.L.length lp) ∧ w'.cell? ⟨bx, 5, none⟩ = some (.int .i64 at_)) (go_keep) (first
    | (go_at_call 54; refine (HLa.out.refGo 7 rfl (fun T h => HR.out T _ _ _ h)).mono ?_; rintro e w2 ⟨vc', vl', rfl, hL⟩; (obtain ⟨ca1, cp1, rfl, _, _⟩ := own_val (hL.refAt 7 rfl).cel); (obtain ⟨la1, lp1, rfl, _, _⟩ := own_val (hL.refAt 7 rfl).log); have HL2 := Lib.hid hL; (simp only [refV, List.set_cons_zero, List.set_cons_succ] at HL2 ⊢); clear hL; clear x0 x1 x2 x3 x4 x5 x6 x7 x8 x9 hl3 y0 y1 y2 y3 y4 y5 y6 y7 fy0 fy1 fy2 fy3 fy4 fy5 fy6 fy7 hlx; obtain ⟨y0, y1, y2, y3, y4, y5, y6, y7, ⟨fy0, fy1, fy2, fy3, fy4, fy5, fy6, fy7⟩, hlx⟩ := HL2.out.c8' 5 rfl; have m1 : bx ≠ w2.heap.size := (by omega); have m2 := Ne.symm m1)
    | (go_at_call 54; refine (HLb.out.refGo 7 rfl (fun T h => HR.out T _ _ _ h)).mono ?_; rintro e w2 ⟨vc', vl', rfl, hL⟩; (obtain ⟨ca1, cp1, rfl, _, _⟩ := own_val (hL.refAt 7 rfl).cel); (obtain ⟨la1, lp1, rfl, _, _⟩ := own_val (hL.refAt 7 rfl).log); have HL2 := Lib.hid hL; (simp only [refV, List.set_cons_zero, List.set_cons_succ] at HL2 ⊢); clear hL; clear x0 x1 x2 x3 x4 x5 x6 x7 x8 x9 hl3 y0 y1 y2 y3 y4 y5 y6 y7 fy0 fy1 fy2 fy3 fy4 fy5 fy6 fy7 hlx; obtain ⟨y0, y1, y2, y3, y4, y5, y6, y7, ⟨fy0, fy1, fy2, fy3, fy4, fy5, fy6, fy7⟩, hlx⟩ := HL2.out.c8' 5 rfl; obtain ⟨k0, k1, k2, kf0, kf1, kf2, hlk, _, _⟩ := HL2.out.c3 9 rfl; have m1 := HL2.out.ne 5 9 rfl rfl (by decide); have m2 := Ne.symm m1))
  all_goals rename_i hHeld
  all_goals clear hHeld
  all_goals first
    | (have HL3 := Lib.hid (HL2.out.alloc 55 #[.slice ca1 s'.C.length cp1, .int .i64 (s.most : Int), .slice la1 s'.L.length lp1]); obtain ⟨w5, hw5⟩ : ∃ w5, w2.alloc (.cells #[.slice ca1 s'.C.length cp1, .int .i64 (s.most : Int), .slice la1 s'.L.length lp1] 55) = w5 := ⟨_, rfl⟩; rw [hw5] at HL3 ⊢; obtain ⟨b5, hb5⟩ : ∃ b, w2.heap.size = b := ⟨_, rfl⟩; rw [hb5] at HL3 ⊢; clear hw5 hb5)
    | (have HL3 := Lib.hid (((HL2.out.set 9 rfl 0 (.slice ca1 s'.C.length cp1)).set 9 rfl 1 (.int .i64 (s.most : Int))).set 9 rfl 2 (.slice la1 s'.L.length lp1)); obtain ⟨w5, hw5⟩ : ∃ w5, ((w2.setCell ⟨w1.heap.size, 0, none⟩ (.slice ca1 s'.C.length cp1)).setCell ⟨w1.heap.size, 1, none⟩ (.int .i64 (s.most : Int))).setCell ⟨w1.heap.size, 2, none⟩ (.slice la1 s'.L.length lp1) = w5 := ⟨_, rfl⟩; rw [hw5] at HL3 ⊢; obtain ⟨b5, hb5⟩ : ∃ b, w1.heap.size = b := ⟨_, rfl⟩; rw [hb5] at HL3 ⊢; clear hw5 hb5)
  all_goals
    simp only [List.nil_append, List.cons_append, List.set_cons_zero, List.set_cons_succ, List.setIfInBounds_toArray] at HL3
    clear HL2 HLa HLb HL1 y0 y1 y2 y3 y4 y5 y6 y7 fy0 fy1 fy2 fy3 fy4 fy5 fy6 fy7 hlx
    obtain ⟨y0, y1, y2, y3, y4, y5, y6, y7, ⟨fy0, fy1, fy2, fy3, fy4, fy5, fy6, fy7⟩, hlx⟩ := HL3.out.c8' 5 rfl
    obtain ⟨k0, k1, k2, kf0, kf1, kf2, hlk, _, _⟩ := HL3.out.c3 9 rfl
    go_upto_region 22 with fail
    refine wp_name ?_
    intro w6 hw6
    have HL4 : Hid (Led T w w6 (chanL c at_ M q1 q2 es1 es2 ++ [stillT P, box bx 63 #[.pointer (some ⟨g, 0, none⟩), .pointer (some ⟨c, 0, none⟩), .slice ca1 s'.C.length cp1, .int .i64 (s.most : Int), .slice la1 s'.L.length lp1, .int .i64 at_, .slice a1 rs1.length c1, .slice a2 rs2.length c2], arena g s, refT (.slice ca1 s'.C.length cp1) (.slice la1 s'.L.length lp1) s'])) := by
      have h := HL3.out.cell234' 5 rfl (y2 := .slice ca1 s'.C.length cp1) (y3 := .int .i64 (s.most : Int)) (y4 := .slice la1 s'.L.length lp1)
      rw [hw6] at h
      exact h.sel [0, 1, 2, 3, 4, 5, 6, 7] rfl (by decide)
    clear hw6 HL3 y0 y1 y2 y3 y4 y5 y6 y7 fy0 fy1 fy2 fy3 fy4 fy5 fy6 fy7 hlx k0 k1 k2 kf0 kf1 kf2 hlk
    obtain ⟨y0, y1, y2, y3, y4, y5, y6, y7, ⟨fy0, fy1, fy2, fy3, fy4, fy5, fy6, fy7⟩, hlx⟩ := HL4.out.c8' 5 rfl
    have HIC := Lib.hid (HI.out _ _ HL4.out.drew rfl (HL4.out.drew.chAt 0 1 rfl rfl))
    go_wp2_with fail
    go_region_held3 (fun w' => w'.cell? ⟨bx, 0, none⟩ = some (.pointer (some ⟨g, 0, none⟩)) ∧ w'.cell? ⟨bx, 1, none⟩ = some (.pointer (some ⟨c, 0, none⟩))) (go_keep) (first
      | (go_at_call 21; refine HIC.out.mono ?_; rintro e w7 ⟨rfl, hL⟩; have HL5 := Lib.hid hL; (simp only [chanL, List.cons_append, List.nil_append, List.set_cons_zero, List.set_cons_succ] at HL5); clear hL y0 y1 y2 y3 y4 y5 y6 y7 fy0 fy1 fy2 fy3 fy4 fy5 fy6 fy7 hlx; obtain ⟨y0, y1, y2, y3, y4, y5, y6, y7, ⟨fy0, fy1, fy2, fy3, fy4, fy5, fy6, fy7⟩, hlx⟩ := HL5.out.c8' 5 rfl)
      | (go_at_call 10; refine (num14 _ _).mono ?_; rintro e wn ⟨rfl, rfl⟩))
    (go_wp2_with fail; refine (num14 _ _).mono ?_; rintro e wn ⟨rfl, rfl⟩)
    go_wp2
    go_ret
    refine ⟨.slice ca1 s'.C.length cp1, .slice la1 s'.L.length lp1, c, M, q1, q2, es1, es2, rs1, rs2, a1, c1, a2, c2, P, rfl, HB1.out, HB2.out, fun W hW => hW, ?_⟩
    have h := HL5.out
    rw [← HM.out] at h
    exact h
set_option maxHeartbeats 4000000 in
theorem act14_unlock (T : List Nat) (w : World) (P : World → Prop) (c : Nat) (at_ : Int) (M q1 q2 bx g : Nat) (es1 es2 rs1 rs2 : List ME) (a1 : Option Addr) (c1 : Nat) (a2 : Option Addr) (c2 : Nat) (s s' : Ar) (vc vl : Value) (x : C4) (er : Int) (h : Led T w w (L14 c at_ M q1 q2 es1 es2 P bx g s vc vl a1 rs1.length c1 a2 rs2.length c2)) (hB1 : Both13 P es1 rs1 a1 c1) (hB2 : Both13 P es2 rs2 a2 c2) (hw : x.what = 7) (hm : s'.most = s.most)
    (hR : ∀ T w vc vl, Led T w w [refT vc vl s] → Calls Tryd.prog 55 #[refV vc s.most vl, .int .i64 at_] w (RefGo T w s' (fun vc' vl' => .tuple #[refV vc' s.most vl', .int .i64 er])))
    (hI : ∀ (l : List Thing) (w1 : World), Led T w w1 l → l[6]? = some (arena g s) → ChAt w1 c at_ M q1 q2 → Calls Tryd.prog 22 #[.pointer (some ⟨c, 0, none⟩), .pointer (some ⟨g, 0, none⟩)] w1 fun e w' => e = .returned (.int .i64 er) ∧ Led T w w' (l.set 6 (arena g s'))) :
    Calls Tryd.prog 19 #[.pointer (some ⟨bx, 0, none⟩), x.val] w (ActedL14 T w P bx g at_ s') := by
  obtain ⟨xw, xs, xi, xe⟩ := x
  dsimp only at hw
  subst hw
  have HB1 := Lib.hid hB1
  have HB2 := Lib.hid hB2
  have HL0 := Lib.hid h
  have HR := Lib.hid hR
  have HI := Lib.hid hI
  have HM := Lib.hid hm
  clear h hB1 hB2 hR hI hm
  obtain ⟨ca, cp, rfl, _, _⟩ := own_val (HL0.out.refAt 7 rfl).cel
  obtain ⟨la, lp, rfl, _, _⟩ := own_val (HL0.out.refAt 7 rfl).log
  simp only [L14, chanL, bothC14, List.cons_append, List.nil_append] at HL0
  unfold C4.val
  go_enter Tryd.func19, Tryd.ntmps19
  go_upto_region 1 with fail
  refine wp_name ?_
  intro w1 hw1
  have HL1 := Lib.hid (HL0.out.al1 hw1)
  simp only [List.nil_append, List.cons_append] at HL1
  obtain ⟨b3, hb3⟩ : ∃ b, w.heap.size = b := ⟨_, rfl⟩
  rw [hb3] at HL1 ⊢
  clear hw1 hb3 HL0
  obtain ⟨x0, x1, x2, x3, x4, x5, x6, x7, x8, x9, hl3⟩ := HL1.out.c10 8 rfl
  obtain ⟨y0, y1, y2, y3, y4, y5, y6, y7, ⟨fy0, fy1, fy2, fy3, fy4, fy5, fy6, fy7⟩, hlx⟩ := HL1.out.c8' 5 rfl
  have HLa := Lib.hid HL1.out.drew
  have HLb := Lib.hid (HL1.out.alloc 55 #[.slice none 0 0, .int .i64 0, .slice none 0 0]).drew
  simp only [List.nil_append, List.cons_append] at HLb
  go_wp2_with fail
  go_region_held3 (fun w' => w'.cell? ⟨bx, 2, none⟩ = some (.slice ca s.C.length cp) ∧ w'.cell? ⟨bx, 3, none⟩ = some (.int .i64 (s.most : Int)) ∧ w'.cell? ⟨bx, 4, none⟩ = some (.slice la s.L.length lp) ∧ w'.cell? ⟨bx, 5, none⟩ = some (.int .i64 at_)) (go_keep) (first
    | (go_at_call 55; refine (HLa.out.refGo 7 rfl (fun T h => HR.out T _ _ _ h)).mono ?_; rintro e w2 ⟨vc', vl', rfl, hL⟩; (obtain ⟨ca1, cp1, rfl, _, _⟩ := own_val (hL.refAt 7 rfl).cel); (obtain ⟨la1, lp1, rfl, _, _⟩ := own_val (hL.refAt 7 rfl).log); have HL2 := Lib.hid hL; (simp only [refV, List.set_cons_zero, List.set_cons_succ] at HL2 ⊢); clear hL; clear x0 x1 x2 x3 x4 x5 x6 x7 x8 x9 hl3 y0 y1 y2 y3 y4 y5 y6 y7 fy0 fy1 fy2 fy3 fy4 fy5 fy6 fy7 hlx; obtain ⟨y0, y1, y2, y3, y4, y5, y6, y7, ⟨fy0, fy1, fy2, fy3, fy4, fy5, fy6, fy7⟩, hlx⟩ := HL2.out.c8' 5 rfl; have m1 : bx ≠ w2.heap.size := (by omega); have m2 := Ne.symm m1)
    | (go_at_call 55; refine (HLb.out.refGo 7 rfl (fun T h => HR.out T _ _ _ h)).mono ?_; rintro e w2 ⟨vc', vl', rfl, hL⟩; (obtain ⟨ca1, cp1, rfl, _, _⟩ := own_val (hL.refAt 7 rfl).cel); (obtain ⟨la1, lp1, rfl, _, _⟩ := own_val (hL.refAt 7 rfl).log); have HL2 := Lib.hid hL; (simp only [refV, List.set_cons_zero, List.set_cons_succ] at HL2 ⊢); clear hL; clear x0 x1 x2 x3 x4 x5 x6 x7 x8 x9 hl3 y0 y1 y2 y3 y4 y5 y6 y7 fy0 fy1 fy2 fy3 fy4 fy5 fy6 fy7 hlx; obtain ⟨y0, y1, y2, y3, y4, y5, y6, y7, ⟨fy0, fy1, fy2, fy3, fy4, fy5, fy6, fy7⟩, hlx⟩ := HL2.out.c8' 5 rfl; obtain ⟨k0, k1, k2, kf0, kf1, kf2, hlk, _, _⟩ := HL2.out.c3 9 rfl; have m1 := HL2.out.ne 5 9 rfl rfl (by decide); have m2 := Ne.symm m1))
  all_goals rename_i hHeld
  all_goals clear hHeld
  all_goals first
    | (have HL3 := Lib.hid (HL2.out.alloc 55 #[.slice ca1 s'.C.length cp1, .int .i64 (s.most : Int), .slice la1 s'.L.length lp1]); obtain ⟨w5, hw5⟩ : ∃ w5, w2.alloc (.cells #[.slice ca1 s'.C.length cp1, .int .i64 (s.most : Int), .slice la1 s'.L.length lp1] 55) = w5 := ⟨_, rfl⟩; rw [hw5] at HL3 ⊢; obtain ⟨b5, hb5⟩ : ∃ b, w2.heap.size = b := ⟨_, rfl⟩; rw [hb5] at HL3 ⊢; clear hw5 hb5)
    | (have HL3 := Lib.hid (((HL2.out.set 9 rfl 0 (.slice ca1 s'.C.length cp1)).set 9 rfl 1 (.int .i64 (s.most : Int))).set 9 rfl 2 (.slice la1 s'.L.length lp1)); obtain ⟨w5, hw5⟩ : ∃ w5, ((w2.setCell ⟨w1.heap.size, 0, none⟩ (.slice ca1 s'.C.length cp1)).setCell ⟨w1.heap.size, 1, none⟩ (.int .i64 (s.most : Int))).setCell ⟨w1.heap.size, 2, none⟩ (.slice la1 s'.L.length lp1) = w5 := ⟨_, rfl⟩; rw [hw5] at HL3 ⊢; obtain ⟨b5, hb5⟩ : ∃ b, w1.heap.size = b := ⟨_, rfl⟩; rw [hb5] at HL3 ⊢; clear hw5 hb5)
  all_goals
    simp only [List.nil_append, List.cons_append, List.set_cons_zero, List.set_cons_succ, List.setIfInBounds_toArray] at HL3
    clear HL2 HLa HLb HL1 y0 y1 y2 y3 y4 y5 y6 y7 fy0 fy1 fy2 fy3 fy4 fy5 fy6 fy7 hlx
    obtain ⟨y0, y1, y2, y3, y4, y5, y6, y7, ⟨fy0, fy1, fy2, fy3, fy4, fy5, fy6, fy7⟩, hlx⟩ := HL3.out.c8' 5 rfl
    obtain ⟨k0, k1, k2, kf0, kf1, kf2, hlk, _, _⟩ := HL3.out.c3 9 rfl
    go_upto_region 27 with fail
    refine wp_name ?_
    intro w6 hw6
    have HL4 : Hid (Led T w w6 (chanL c at_ M q1 q2 es1 es2 ++ [stillT P, box bx 63 #[.pointer (some ⟨g, 0, none⟩), .pointer (some ⟨c, 0, none⟩), .slice ca1 s'.C.length cp1, .int .i64 (s.most : Int), .slice la1 s'.L.length lp1, .int .i64 at_, .slice a1 rs1.length c1, .slice a2 rs2.length c2], arena g s, refT (.slice ca1 s'.C.length cp1) (.slice la1 s'.L.length lp1) s'])) := by
      have h := HL3.out.cell234' 5 rfl (y2 := .slice ca1 s'.C.length cp1) (y3 := .int .i64 (s.most : Int)) (y4 := .slice la1 s'.L.length lp1)
      rw [hw6] at h
      exact h.sel [0, 1, 2, 3, 4, 5, 6, 7] rfl (by decide)
    clear hw6 HL3 y0 y1 y2 y3 y4 y5 y6 y7 fy0 fy1 fy2 fy3 fy4 fy5 fy6 fy7 hlx k0 k1 k2 kf0 kf1 kf2 hlk
    obtain ⟨y0, y1, y2, y3, y4, y5, y6, y7, ⟨fy0, fy1, fy2, fy3, fy4, fy5, fy6, fy7⟩, hlx⟩ := HL4.out.c8' 5 rfl
    have HIC := Lib.hid (HI.out _ _ HL4.out.drew rfl (HL4.out.drew.chAt 0 1 rfl rfl))
    go_wp2_with fail
    go_region_held3 (fun w' => w'.cell? ⟨bx, 0, none⟩ = some (.pointer (some ⟨g, 0, none⟩)) ∧ w'.cell? ⟨bx, 1, none⟩ = some (.pointer (some ⟨c, 0, none⟩))) (go_keep) (first
      | (go_at_call 22; refine HIC.out.mono ?_; rintro e w7 ⟨rfl, hL⟩; have HL5 := Lib.hid hL; (simp only [chanL, List.cons_append, List.nil_append, List.set_cons_zero, List.set_cons_succ] at HL5); clear hL y0 y1 y2 y3 y4 y5 y6 y7 fy0 fy1 fy2 fy3 fy4 fy5 fy6 fy7 hlx; obtain ⟨y0, y1, y2, y3, y4, y5, y6, y7, ⟨fy0, fy1, fy2, fy3, fy4, fy5, fy6, fy7⟩, hlx⟩ := HL5.out.c8' 5 rfl)
      | (go_at_call 10; refine (num14 _ _).mono ?_; rintro e wn ⟨rfl, rfl⟩))
    skip
    go_wp2
    go_ret
    refine ⟨.slice ca1 s'.C.length cp1, .slice la1 s'.L.length lp1, c, M, q1, q2, es1, es2, rs1, rs2, a1, c1, a2, c2, P, rfl, HB1.out, HB2.out, fun W hW => hW, ?_⟩
    have h := HL5.out
    rw [← HM.out] at h
    exact h
end Go.Proofs.YtihmbgdkllmkaaaDoor

/-
  act() of law 14 (betrothallaw14/law.go): one call by both: a push on a side that there is not.
-/
namespace Go.Proofs.YtihmbgdkllmkaaaDoor
open Go.RowKit Go.Shelf
set_option maxRecDepth 100000
set_option linter.unusedVariables false
set_option linter.unusedSimpArgs false

set_option maxHeartbeats 4000000 in
theorem act14_pushno (T : List Nat) (w : World) (P : World → Prop) (c : Nat) (at_ : Int) (M q1 q2 bx g : Nat) (es1 es2 rs1 rs2 : List ME) (a1 : Option Addr) (c1 : Nat) (a2 : Option Addr) (c2 : Nat) (s : Ar) (vc vl : Value) (x : C4) (h : Led T w w (L14 c at_ M q1 q2 es1 es2 P bx g s vc vl a1 rs1.length c1 a2 rs2.length c2)) (hB1 : Both13 P es1 rs1 a1 c1) (hB2 : Both13 P es2 rs2 a2 c2) (hw : x.what = 0 ∨ x.what = 1 ∨ x.what = 2 ∨ x.what = 3) (hsd : x.side ≠ 1 ∧ x.side ≠ 2) :
    Calls Tryd.prog 19 #[.pointer (some ⟨bx, 0, none⟩), x.val] w (Acted14 T w P bx g at_ s vc vl) := by
  obtain ⟨xw, xs, xi, xe⟩ := x
  dsimp only at hw hsd
  have hq := qOf_no (q1 := q1) (q2 := q2) hsd.1 hsd.2
  have HB1 := Lib.hid hB1
  have HB2 := Lib.hid hB2
  have HL0 := Lib.hid h
  clear h hB1 hB2
  obtain ⟨ca, cp, rfl, _, _⟩ := own_val (HL0.out.refAt 7 rfl).cel
  obtain ⟨la, lp, rfl, _, _⟩ := own_val (HL0.out.refAt 7 rfl).log
  simp only [L14, chanL, bothC14, List.cons_append, List.nil_append] at HL0
  unfold C4.val
  go_enter Tryd.func19, Tryd.ntmps19
  go_upto_region 1 with fail
  refine wp_name ?_
  intro w1 hw1
  have HL1 := Lib.hid (HL0.out.al1 hw1)
  simp only [List.nil_append, List.cons_append] at HL1
  obtain ⟨b3, hb3⟩ : ∃ b, w.heap.size = b := ⟨_, rfl⟩
  rw [hb3] at HL1 ⊢
  clear hw1 hb3 HL0
  obtain ⟨x0, x1, x2, x3, x4, x5, x6, x7, x8, x9, hl3⟩ := HL1.out.c10 8 rfl
  obtain ⟨y0, y1, y2, y3, y4, y5, y6, y7, ⟨fy0, fy1, fy2, fy3, fy4, fy5, fy6, fy7⟩, hlx⟩ := HL1.out.c8' 5 rfl
  go_upto_region 3 with fail
  rename_i K2 a2' K1 a1' K0 a0'
  have HC : ∀ (y29 y30 y31 y32 : Value), K1 { tmps := #[.pointer (some ⟨bx, 0, none⟩), .agg #[.int .i64 xw, .int .i64 xs, .int .i64 xi, .int .i64 xe.sync, .int .i64 xe.thread, .int .i64 xe.branch, .int .i64 xe.flag, .int .i64 xe.v.kind, .int .i64 xe.v.num, .slice xe.v.addr xe.v.parts.length xe.v.cap], undef, .pointer (some ⟨b3, 0, none⟩), .bool false, .int .i64 xs, undef, undef, undef, undef, undef, undef, undef, undef, undef, undef, undef, undef, undef, undef, undef, undef, undef, undef, .pointer (some ⟨b3, 1, none⟩), .int .i64 xs, .pointer (some ⟨b3, 0, none⟩), .int .i64 xw, .bool true, y29, y30, y31, y32, undef, undef, undef, undef, undef, undef, undef, undef, undef, undef, undef, undef, undef, undef, undef, undef, undef, undef, undef, undef, undef, undef, undef, undef, undef, undef, undef, undef, undef, undef, undef, undef, undef, undef, undef, undef, undef, undef, undef, undef, undef, undef, undef, undef, undef, undef, undef, undef, undef, undef, undef, undef, undef, undef, undef, undef, undef, undef, undef, undef, undef, undef, undef, undef, undef, undef, undef, undef, undef, undef, undef, undef, undef, undef, undef, undef, undef, undef, undef, undef, undef, undef, undef, undef, undef, undef, undef, undef, undef, undef, undef, undef, undef, undef, undef, undef, undef, undef, undef, undef, undef, undef, undef, undef, undef, undef, undef, undef, undef, undef, undef, undef, undef, undef, undef, undef, undef, undef, undef, undef, undef, undef, undef, undef, undef, undef, undef, undef, undef, undef, undef, undef, undef, undef, undef, undef, undef, undef, undef, undef, undef, undef, undef, undef, undef, undef, undef, undef, undef, undef, undef, undef, undef, undef, undef, undef, undef, undef, undef, undef, undef, undef, undef, undef, undef, undef, undef, undef, undef, undef, undef, undef, undef, undef, undef, undef, undef, undef], defers := [] } w1 := by
    intro y29 y30 y31 y32
    refine a1' _ _ ?_
    clear a0' a1'
    go_wp2_with fail
    have HLa := Lib.hid HL1.out.drew
    have HLb := Lib.hid (HL1.out.alloc 61 #[.int .i64 0, .slice none 0 0, .slice none 0 0]).drew
    simp only [List.nil_append, List.cons_append] at HLb
    have m1 : bx ≠ w1.heap.size := by omega
    have m2 := Ne.symm m1
    have m3 : b3 ≠ w1.heap.size := by omega
    have m4 := Ne.symm m3
    go_region_held3 (fun w' => (w'.cell? ⟨bx, 5, none⟩ = some (.int .i64 at_) ∧ w'.cell? ⟨bx, 6, none⟩ = some (.slice a1 rs1.length c1) ∧ w'.cell? ⟨bx, 7, none⟩ = some (.slice a2 rs2.length c2)) ∧ w'.cell? ⟨b3, 3, none⟩ = some (.int .i64 xe.sync) ∧ w'.cell? ⟨b3, 4, none⟩ = some (.int .i64 xe.thread) ∧ w'.cell? ⟨b3, 5, none⟩ = some (.int .i64 xe.branch) ∧ w'.cell? ⟨b3, 6, none⟩ = some (.int .i64 xe.flag) ∧ w'.cell? ⟨b3, 7, none⟩ = some (.int .i64 xe.v.kind) ∧ w'.cell? ⟨b3, 8, none⟩ = some (.int .i64 xe.v.num) ∧ w'.cell? ⟨b3, 9, none⟩ = some (.slice xe.v.addr xe.v.parts.length xe.v.cap)) (go_keep) (first
      | (go_at_call 50; refine (Push_ref14_no _ at_ a1 rs1.length c1 a2 rs2.length c2 xs xe hsd.1 hsd.2).mono ?_; rintro e w2 ⟨rfl, ht⟩; have HL2 := Lib.hid (HLa.out.touch ht); (rw [rc14_eq]); clear ht; clear x0 x1 x2 x3 x4 x5 x6 x7 x8 x9 hl3 y0 y1 y2 y3 y4 y5 y6 y7 fy0 fy1 fy2 fy3 fy4 fy5 fy6 fy7 hlx; obtain ⟨x0, x1, x2, x3, x4, x5, x6, x7, x8, x9, hl3⟩ := HL2.out.c10 8 rfl; obtain ⟨y0, y1, y2, y3, y4, y5, y6, y7, ⟨fy0, fy1, fy2, fy3, fy4, fy5, fy6, fy7⟩, hlx⟩ := HL2.out.c8' 5 rfl; clear m1 m2 m3 m4; have m1 : bx ≠ w2.heap.size := (by omega); have m2 := Ne.symm m1; have m3 : b3 ≠ w2.heap.size := (by omega); have m4 := Ne.symm m3)
      | (go_at_call 50; refine (Push_ref14_no _ at_ a1 rs1.length c1 a2 rs2.length c2 xs xe hsd.1 hsd.2).mono ?_; rintro e w2 ⟨rfl, ht⟩; have HL2 := Lib.hid (HLb.out.touch ht); (rw [rc14_eq]); clear ht; clear x0 x1 x2 x3 x4 x5 x6 x7 x8 x9 hl3 y0 y1 y2 y3 y4 y5 y6 y7 fy0 fy1 fy2 fy3 fy4 fy5 fy6 fy7 hlx; obtain ⟨x0, x1, x2, x3, x4, x5, x6, x7, x8, x9, hl3⟩ := HL2.out.c10 8 rfl; obtain ⟨y0, y1, y2, y3, y4, y5, y6, y7, ⟨fy0, fy1, fy2, fy3, fy4, fy5, fy6, fy7⟩, hlx⟩ := HL2.out.c8' 5 rfl; obtain ⟨k0, k1, k2, kf0, kf1, kf2, hlk, _, _⟩ := HL2.out.c3 9 rfl))
    all_goals rename_i hHeld
    all_goals clear hHeld HLa HLb m1 m2 m3 m4
    all_goals refine exit_nameR (Q := Exit.then _ _) ?_
    all_goals intro w5 hw5
    all_goals first
      | (have k0' := k0; clear k0'; have HL3 := Lib.hid ((((HL2.out.set 9 rfl 0 (.int .i64 at_)).set 9 rfl 1 (.slice a1 rs1.length c1)).set 9 rfl 2 (.slice a2 rs2.length c2)).via hw5); (simp only [List.set_cons_succ, List.set_cons_zero, List.setIfInBounds_toArray] at HL3); clear hw5 HL2 k0 k1 k2 kf0 kf1 kf2 hlk; obtain ⟨b6, hb6⟩ : ∃ b, w1.heap.size = b := ⟨_, rfl⟩; rw [hb6] at HL3 ⊢; clear hb6)
      | (have HL3 := Lib.hid ((HL2.out.alloc 61 #[.int .i64 at_, .slice a1 rs1.length c1, .slice a2 rs2.length c2]).via hw5); clear hw5 HL2; obtain ⟨b6, hb6⟩ : ∃ b, w2.heap.size = b := ⟨_, rfl⟩; rw [hb6] at HL3 ⊢; clear hb6)
    all_goals
      (try simp only [List.nil_append, List.cons_append] at HL3)
      clear HL1 x0 x1 x2 x3 x4 x5 x6 x7 x8 x9 hl3 y0 y1 y2 y3 y4 y5 y6 y7 fy0 fy1 fy2 fy3 fy4 fy5 fy6 fy7 hlx
      obtain ⟨y0, y1, y2, y3, y4, y5, y6, y7, ⟨fy0, fy1, fy2, fy3, fy4, fy5, fy6, fy7⟩, hlx⟩ := HL3.out.c8' 5 rfl
      obtain ⟨k0, k1, k2, kf0, kf1, kf2, hlk, _, _⟩ := HL3.out.c3 9 rfl
      have n1 := HL3.out.ne 5 9 rfl rfl (by decide)
      have n2 := Ne.symm n1
      go_upto_region 9 with fail
      refine wp_name ?_
      intro w6 hw6
      have HL4 := Lib.hid (((((HL3.out.set 5 rfl 5 (.int .i64 at_)).set 5 rfl 6 (.slice a1 rs1.length c1)).set 5 rfl 7 (.slice a2 rs2.length c2)).via hw6))
      simp only [List.set_cons_succ, List.set_cons_zero, List.setIfInBounds_toArray] at HL4
      clear hw6 HL3 y0 y1 y2 y3 y4 y5 y6 y7 fy0 fy1 fy2 fy3 fy4 fy5 fy6 fy7 hlx k0 k1 k2 kf0 kf1 kf2 hlk n1 n2
      obtain ⟨x0, x1, x2, x3, x4, x5, x6, x7, x8, x9, hl3⟩ := HL4.out.c10 8 rfl
      obtain ⟨y0, y1, y2, y3, y4, y5, y6, y7, ⟨fy0, fy1, fy2, fy3, fy4, fy5, fy6, fy7⟩, hlx⟩ := HL4.out.c8' 5 rfl
      have HWT := Lib.hid (Push_ch_no w6.drew c at_ M q1 q2 (HL4.out.drew.chAt 0 1 rfl rfl) xs xe hq)
      simp only [ent_eq] at HWT
      go_wp2_with fail
      go_region_held3 (fun w' => w'.cell? ⟨bx, 1, none⟩ = some (.pointer (some ⟨c, 0, none⟩)) ∧ w'.cell? ⟨b3, 1, none⟩ = some (.int .i64 xs) ∧ w'.cell? ⟨b3, 3, none⟩ = some (.int .i64 xe.sync) ∧ w'.cell? ⟨b3, 4, none⟩ = some (.int .i64 xe.thread) ∧ w'.cell? ⟨b3, 5, none⟩ = some (.int .i64 xe.branch) ∧ w'.cell? ⟨b3, 6, none⟩ = some (.int .i64 xe.flag) ∧ w'.cell? ⟨b3, 7, none⟩ = some (.int .i64 xe.v.kind) ∧ w'.cell? ⟨b3, 8, none⟩ = some (.int .i64 xe.v.num) ∧ w'.cell? ⟨b3, 9, none⟩ = some (.slice xe.v.addr xe.v.parts.length xe.v.cap)) (go_keep) (first
        | (go_at_call 13; refine HWT.out.mono ?_; rintro e w7 ⟨rfl, ht⟩; have HL5 := Lib.hid (HL4.out.drew.touch ht); clear ht x0 x1 x2 x3 x4 x5 x6 x7 x8 x9 hl3 y0 y1 y2 y3 y4 y5 y6 y7 fy0 fy1 fy2 fy3 fy4 fy5 fy6 fy7 hlx; obtain ⟨x0, x1, x2, x3, x4, x5, x6, x7, x8, x9, hl3⟩ := HL5.out.c10 8 rfl; obtain ⟨y0, y1, y2, y3, y4, y5, y6, y7, ⟨fy0, fy1, fy2, fy3, fy4, fy5, fy6, fy7⟩, hlx⟩ := HL5.out.c8' 5 rfl)
        | (go_at_call 10; refine (num14 _ _).mono ?_; rintro e wn ⟨rfl, rfl⟩))
      go_wp2
      go_ret
      exact ⟨c, M, q1, q2, es1, es2, rs1, rs2, a1, c1, a2, c2, P, rfl, HB1.out, HB2.out, fun W hW => hW, HL5.out.sel [0, 1, 2, 3, 4, 5, 6, 7] rfl (by decide)⟩
  clear a1'
  rcases hw with hw | hw | hw | hw
  all_goals
    simp only [hw] at HC ⊢
    go_wp2
    exact HC _ _ _ _
end Go.Proofs.YtihmbgdkllmkaaaDoor

/-
  Layer 14 (channel.go): Copy.
-/
namespace Go.Proofs.YtihmbgdkllmkaaaDoor
open Go.RowKit Go.Shelf
set_option maxRecDepth 100000
set_option linter.unusedVariables false
set_option linter.unusedSimpArgs false

/-- Between two turns of Copy. -/
def cpL (c : Nat) (a : Int) (M q1 q2 : Nat) (es1 es2 : List ME) (P : World → Prop) (d N : Nat) (o : Obj) (r : List Thing) : List Thing :=
  chanL c a M q1 q2 es1 es2 ++ [stillT P, box d 75 #[.int .i64 a, .map (some N)], exact1 N o] ++ r
set_option maxHeartbeats 4000000 in
theorem Copy_ch (T : List Nat) (w : World) (c : Nat) (a : Int) (M q1 q2 : Nat) (es1 es2 : List ME) (P : World → Prop) (h : Led T w w (chanL c a M q1 q2 es1 es2 ++ [stillT P])) (hS : ∀ W, P W → SidesAt W) (hP : ∀ W, P W → (∀ e ∈ es1, e.v.In W ∧ e.v.nodes ≤ 256) ∧ ∀ e ∈ es2, e.v.In W ∧ e.v.nodes ≤ 256) (hl1 : es1.length ≤ 4096) (hl2 : es2.length ≤ 4096) :
    Calls Tryd.prog 26 #[.pointer (some ⟨c, 0, none⟩)] w fun e w' => ∃ (d N p1 p2 : Nat) (ys1 ys2 : List ME), e = .returned (.pointer (some ⟨d, 0, none⟩)) ∧ ys1.map ME.plain = es1.map ME.plain ∧ ys2.map ME.plain = es2.map ME.plain ∧ Led T w w' (cpL c a M q1 q2 es1 es2 P d N (mapObj p1 p2) [queueT p1 ys1, valsT (ys1.map ME.v), queueT p2 ys2, valsT (ys2.map ME.v)]) := by
  have HS := Lib.hid hS
  have HP := Lib.hid hP
  have HL0 := Lib.hid h
  clear h hS hP
  simp only [chanL, List.cons_append, List.nil_append] at HL0
  obtain ⟨c0, c1, hl, hl'⟩ := (HL0.out.chAt 0 1 rfl rfl).cells
  obtain ⟨t0, t1⟩ := HS.out _ (HL0.out.still 4 rfl)
  have tl : 0 < w.heap.size := World.block_lt_of_cell? _ _ t0
  have tl1 : 0 < w.heap.size + 1 := by omega
  have hmk := made_mapQ 2
  have hbc : ∀ W m, (Instr.build 75 #[(0, .agg #[.int .i64 a]), (1, .map (some m))]).run Tryd.prog W = .ok (.agg #[.int .i64 a, .map (some m)]) W := fun W m => run_build W 75 _ _ (by kernel_rfl)
  go_enter Tryd.func26, Tryd.ntmps26
  go_wp2_with fail
  refine (chnone_no _ _ _ _ _ _ (HL0.out.chAt 0 1 rfl rfl)).mono ?_
  rintro e w' ⟨rfl, rfl⟩
  go_wp2_with fail
  refine wp_name ?_
  intro w1 hw1
  have HL1 := Lib.hid (((HL0.out.exqnew (.map #[] 0)).alloc 75 #[.int .i64 a, .map (some w.heap.size)]).via hw1)
  simp only [World.size_alloc, List.nil_append, List.cons_append] at HL1
  obtain ⟨d, hd⟩ : ∃ b, w.heap.size + 1 = b := ⟨_, rfl⟩
  rw [hd] at HL1 ⊢
  obtain ⟨N, hN⟩ : ∃ b, w.heap.size = b := ⟨_, rfl⟩
  rw [hN] at HL1 ⊢
  clear hw1 hd hN HL0 c0 c1 hl hl' t0 t1 tl tl1 hmk hbc
  go_loopw [16] (fun i wr => (i = .int .i64 0 ∧ Hid (Led T w wr (cpL c a M q1 q2 es1 es2 P d N (.map #[] 0) []))) ∨
      (i = .int .i64 1 ∧ ∃ p1 ys1, Hid (ys1.map ME.plain = es1.map ME.plain) ∧ Hid (Led T w wr (cpL c a M q1 q2 es1 es2 P d N (.map #[⟨.int .i64 1, .pointer (some ⟨p1, 0, none⟩), 0⟩] 1) [queueT p1 ys1, valsT (ys1.map ME.v)]))) ∨
      (i = .int .i64 2 ∧ ∃ p1 p2 ys1 ys2, Hid (ys1.map ME.plain = es1.map ME.plain) ∧ Hid (ys2.map ME.plain = es2.map ME.plain) ∧ Hid (Led T w wr (cpL c a M q1 q2 es1 es2 P d N (mapObj p1 p2) [queueT p1 ys1, valsT (ys1.map ME.v), queueT p2 ys2, valsT (ys2.map ME.v)])))) (fun i _ => 2 - (intOf i).toNat)
  case atStart => exact .inl ⟨rfl, HL1.out.sel [0, 1, 2, 3, 4, 6, 5] rfl (by decide)⟩
  case round =>
    clear HL1
    rcases hrel with ⟨rfl, HK⟩ | ⟨rfl, p1, ys1, HY1, HK⟩ | ⟨rfl, p1, p2, ys1, ys2, HY1, HY2, HK⟩
    · simp only [cpL, chanL, List.cons_append, List.nil_append, List.append_nil] at HK
      obtain ⟨c0, c1, hl, hl'⟩ := (HK.out.chAt 0 1 rfl rfl).cells
      obtain ⟨d0, d1, f0, f1, hdl, _, _⟩ := HK.out.c2 5 rfl
      have hi := idxS0 wr
      have HCQ := Lib.hid (fun W (hW : Touch [] wr W) => Copy_q W q1 es1 ((HK.out.touch hW).qAt 2 rfl) ((HP.out _ ((HK.out.touch hW).still 4 rfl)).1) (by omega))
      have hlk := (fun W (hW : W.heap[M]? = some (mapObj q1 q2)) => look_side W M q1 q2 hW 1)
      have hM := HK.out.exq 1 rfl
      have hlk1 := look_side wr M q1 q2 hM 1
      have hlk2 := look_side wr.drew M q1 q2 hM 1
      rw [show qOf 1 q1 q2 = some ⟨q1, 0, none⟩ from rfl] at hlk1 hlk2
      clear hlk
      go_wp2_with fail
      go_region_held3 (fun w' => w'.cell? ⟨c, 1, none⟩ = some (.map (some M)) ∧ w'.cell? ⟨d, 1, none⟩ = some (.map (some N))) (go_keep) (first
        | (go_at_call 60; refine (HCQ.out _ (Touch.refl [] wr).drew).mono ?_; rintro e w3 ⟨p1, ys1, rfl, hpl, hL⟩; have HL3 := Lib.hid (HK.out.drew.join hL); (simp only [List.nil_append, List.cons_append] at HL3); have HY1 := Lib.hid hpl; clear hL hpl c0 c1 hl hl' d0 d1 f0 f1 hdl; obtain ⟨c0, c1, hl, hl'⟩ := (HL3.out.chAt 0 1 rfl rfl).cells; obtain ⟨d0, d1, f0, f1, hdl, _, _⟩ := HL3.out.c2 5 rfl; have hmu := put_side w3 N #[] 0 (HL3.out.exq 6 rfl) 1 rfl (.pointer (some ⟨p1, 0, none⟩)); have hk1 := (fun o => ((HL3.out.exqput 6 rfl o).c2 5 rfl).2.1); have hk2 := (fun o => ((HL3.out.exqput 6 rfl o).c2 0 rfl).2.1); (simp only [List.push_toArray, List.nil_append, Nat.reduceAdd] at hmu)))
      rename_i hHeld
      clear hHeld hmu hk1 hk2 c0 c1 hl hl' d0 d1 f0 f1 hdl hi hlk1 hlk2 hM HCQ
      refine exit_nameQ ?_
      intro w4 hw4
      have HL4 : Hid (Led T w w4 (cpL c a M q1 q2 es1 es2 P d N (.map #[⟨.int .i64 1, .pointer (some ⟨p1, 0, none⟩), 0⟩] 1) [queueT p1 ys1, valsT (ys1.map ME.v)])) := (HL3.out.exqput 6 rfl (.map #[⟨.int .i64 1, .pointer (some ⟨p1, 0, none⟩), 0⟩] 1)).via hw4
      clear hw4 HL3 HK
      go_wp2
      go_roundw
      case rel => exact .inr (.inl ⟨by go_num, p1, ys1, HY1, HL4⟩)
      case measure => simp [intOf]
    · simp only [cpL, chanL, List.cons_append, List.nil_append, List.append_nil] at HK
      obtain ⟨c0, c1, hl, hl'⟩ := (HK.out.chAt 0 1 rfl rfl).cells
      obtain ⟨d0, d1, f0, f1, hdl, _, _⟩ := HK.out.c2 5 rfl
      have hi := idxS1 wr
      have HCQ := Lib.hid (fun W (hW : Touch [] wr W) => Copy_q W q2 es2 ((HK.out.touch hW).qAt 3 rfl) ((HP.out _ ((HK.out.touch hW).still 4 rfl)).2) (by omega))
      have hM := HK.out.exq 1 rfl
      have hlk1 := look_side wr M q1 q2 hM 2
      have hlk2 := look_side wr.drew M q1 q2 hM 2
      rw [show qOf 2 q1 q2 = some ⟨q2, 0, none⟩ from rfl] at hlk1 hlk2
      go_wp2_with fail
      go_region_held3 (fun w' => w'.cell? ⟨c, 1, none⟩ = some (.map (some M)) ∧ w'.cell? ⟨d, 1, none⟩ = some (.map (some N))) (go_keep) (first
        | (go_at_call 60; refine (HCQ.out _ (Touch.refl [] wr).drew).mono ?_; rintro e w3 ⟨p2, ys2, rfl, hpl, hL⟩; have HL3 := Lib.hid (HK.out.drew.join hL); (simp only [List.nil_append, List.cons_append] at HL3); have HY2 := Lib.hid hpl; clear hL hpl c0 c1 hl hl' d0 d1 f0 f1 hdl; obtain ⟨c0, c1, hl, hl'⟩ := (HL3.out.chAt 0 1 rfl rfl).cells; obtain ⟨d0, d1, f0, f1, hdl, _, _⟩ := HL3.out.c2 5 rfl; have hmu := put_side w3 N #[⟨.int .i64 1, .pointer (some ⟨p1, 0, none⟩), 0⟩] 1 (HL3.out.exq 6 rfl) 2 rfl (.pointer (some ⟨p2, 0, none⟩)); have hk1 := (fun o => ((HL3.out.exqput 6 rfl o).c2 5 rfl).2.1); have hk2 := (fun o => ((HL3.out.exqput 6 rfl o).c2 0 rfl).2.1); (simp only [List.push_toArray, List.nil_append, List.cons_append, Nat.reduceAdd] at hmu)))
      rename_i hHeld
      clear hHeld hmu hk1 hk2 c0 c1 hl hl' d0 d1 f0 f1 hdl hi hlk1 hlk2 hM HCQ
      refine exit_nameQ ?_
      intro w4 hw4
      have HL4 : Hid (Led T w w4 (cpL c a M q1 q2 es1 es2 P d N (mapObj p1 p2) [queueT p1 ys1, valsT (ys1.map ME.v), queueT p2 ys2, valsT (ys2.map ME.v)])) := (HL3.out.exqput 6 rfl (mapObj p1 p2)).via hw4
      clear hw4 HL3 HK
      go_wp2
      go_roundw
      case rel => exact .inr (.inr ⟨by go_num, p1, p2, ys1, ys2, HY1, HY2, HL4⟩)
      case measure => simp [intOf]
    · go_wp2
      go_ret
      exact ⟨d, N, p1, p2, ys1, ys2, rfl, HY1.out, HY2.out, HK.out⟩
end Go.Proofs.YtihmbgdkllmkaaaDoor

/-
  act() of law 14 (betrothallaw14/law.go): a copy; whatever the call.
-/
namespace Go.Proofs.YtihmbgdkllmkaaaDoor
open Go.RowKit Go.Shelf
set_option maxRecDepth 100000
set_option linter.unusedVariables false
set_option linter.unusedSimpArgs false

set_option maxHeartbeats 4000000 in
theorem act14_copy (T : List Nat) (w : World) (P : World → Prop) (c : Nat) (at_ : Int) (M q1 q2 bx g : Nat) (es1 es2 rs1 rs2 : List ME) (a1 : Option Addr) (c1 : Nat) (a2 : Option Addr) (c2 : Nat) (s : Ar) (vc vl : Value) (x : C4) (h : Led T w w (L14 c at_ M q1 q2 es1 es2 P bx g s vc vl a1 rs1.length c1 a2 rs2.length c2)) (hB1 : Both13 P es1 rs1 a1 c1) (hB2 : Both13 P es2 rs2 a2 c2) (hS : ∀ W, P W → SidesAt W) (hw : ¬ (x.what = 0 ∨ x.what = 1 ∨ x.what = 2 ∨ x.what = 3) ∧ x.what ≠ 4 ∧ x.what ≠ 5 ∧ x.what ≠ 6 ∧ x.what ≠ 7) :
    Calls Tryd.prog 19 #[.pointer (some ⟨bx, 0, none⟩), x.val] w (Acted14 T w P bx g at_ s vc vl) := by
  obtain ⟨xw, xs, xi, xe⟩ := x
  dsimp only at hw
  have e0 : (xw == 0) = false := by simp; omega
  have e1 : (xw == 1) = false := by simp; omega
  have e2 : (xw == 2) = false := by simp; omega
  have e3 : (xw == 3) = false := by simp; omega
  have e4 : (xw == 4) = false := by simp; omega
  have e5 : (xw == 5) = false := by simp; omega
  have e6 : (xw == 6) = false := by simp; omega
  have e7 : (xw == 7) = false := by simp; omega
  clear hw
  have HB1 := Lib.hid hB1
  have HB2 := Lib.hid hB2
  have HL0 := Lib.hid h
  have HSS := Lib.hid hS
  clear h hB1 hB2 hS
  simp only [L14, chanL, bothC14, List.cons_append, List.nil_append] at HL0
  unfold C4.val
  go_enter Tryd.func19, Tryd.ntmps19
  go_upto_region 1 with fail
  refine wp_name ?_
  intro w1 hw1
  have HL1 := Lib.hid (HL0.out.al1 hw1)
  simp only [List.nil_append, List.cons_append] at HL1
  obtain ⟨b3, hb3⟩ : ∃ b, w.heap.size = b := ⟨_, rfl⟩
  rw [hb3] at HL1 ⊢
  clear hw1 hb3 HL0
  obtain ⟨x0, x1, x2, x3, x4, x5, x6, x7, x8, x9, hl3⟩ := HL1.out.c10 8 rfl
  obtain ⟨y0, y1, y2, y3, y4, y5, y6, y7, ⟨fy0, fy1, fy2, fy3, fy4, fy5, fy6, fy7⟩, hlx⟩ := HL1.out.c8' 5 rfl
  obtain ⟨T', hF, hb⟩ := Led.frameFront (m := chanL c at_ M q1 q2 es1 es2 ++ [stillT P]) (r := [box bx 63 #[.pointer (some ⟨g, 0, none⟩), .pointer (some ⟨c, 0, none⟩), vc, .int .i64 (s.most : Int), vl, .int .i64 at_, .slice a1 rs1.length c1, .slice a2 rs2.length c2], arena g s, refT vc vl s]) (HL1.out.sel [0, 1, 2, 3, 4, 5, 6, 7] rfl (by decide))
  have HCC := Lib.hid (Copy_ch T' w1 c at_ M q1 q2 es1 es2 P hF HSS.out (fun W hW => ⟨fun e he => ⟨(HB1.out.2.2.2.2 W hW).1 e he, HB1.out.2.2.2.1 e he⟩, fun e he => ⟨(HB2.out.2.2.2.2 W hW).1 e he, HB2.out.2.2.2.1 e he⟩⟩) HB1.out.2.2.1 HB2.out.2.2.1)
  have HBK := Lib.hid hb
  clear hb hF
  go_wp2_with fail
  refine HCC.out.mono ?_
  rintro e w2 ⟨d, N, p1, p2, ys1, ys2, rfl, hp1, hp2, hL⟩
  have HL2 := Lib.hid (HBK.out _ _ hL)
  simp only [cpL, chanL, List.cons_append, List.nil_append] at HL2
  have HP1 := Lib.hid hp1
  have HP2 := Lib.hid hp2
  clear hL hp1 hp2 HBK HL1 y0 y1 y2 y3 y4 y5 y6 y7 fy0 fy1 fy2 fy3 fy4 fy5 fy6 fy7 hlx x0 x1 x2 x3 x4 x5 x6 x7 x8 x9 hl3
  obtain ⟨y0, y1, y2, y3, y4, y5, y6, y7, ⟨fy0, fy1, fy2, fy3, fy4, fy5, fy6, fy7⟩, hlx⟩ := HL2.out.c8' 11 rfl
  go_wp2
  have HL3 := Lib.hid (HL2.out.set 11 rfl 1 (.pointer (some ⟨d, 0, none⟩)))
  simp only [List.set_cons_succ, List.set_cons_zero, List.setIfInBounds_toArray] at HL3
  go_ret
  have h4 := HL3.out.sel [5, 6, 7, 9, 4, 11, 12, 13, 8, 10] (l' := [box d 75 #[.int .i64 at_, .map (some N)], exact1 N (mapObj p1 p2), queueT p1 ys1, queueT p2 ys2, stillT P, box bx 63 #[.pointer (some ⟨g, 0, none⟩), .pointer (some ⟨d, 0, none⟩), vc, .int .i64 (s.most : Int), vl, .int .i64 at_, .slice a1 rs1.length c1, .slice a2 rs2.length c2], arena g s, refT vc vl s, valsT (ys1.map ME.v)] ++ [valsT (ys2.map ME.v)]) rfl (by decide)
  have h5 := Led.settle (l := [_, _, _, _, _, _, _, _, _]) h4 4 rfl (fun W f (hW : P W) hf => (⟨hW, fun y hy => hf.2 _ (List.mem_map.2 ⟨y, hy, rfl⟩)⟩ : P W ∧ ∀ y ∈ ys2, y.v.In W))
  have h6 := Led.settle (l := [_, _, _, _, _, _, _, _]) h5 4 rfl (fun W f (hW : P W ∧ ∀ y ∈ ys2, y.v.In W) hf => (⟨hW, fun y hy => hf.2 _ (List.mem_map.2 ⟨y, hy, rfl⟩)⟩ : (P W ∧ ∀ y ∈ ys2, y.v.In W) ∧ ∀ y ∈ ys1, y.v.In W))
  exact ⟨d, N, p1, p2, ys1, ys2, rs1, rs2, a1, c1, a2, c2, _, rfl, (HB1.out.copy HP1.out).weak14 (fun W hW => ⟨hW.1.1, hW.2⟩), (HB2.out.copy HP2.out).weak14 (fun W hW => hW.1), fun W hW => hW.1.1, h6⟩
/-- Whatever is not the lock's. -/
theorem act14_still (T : List Nat) (w : World) (P : World → Prop) (c : Nat) (at_ : Int) (M q1 q2 bx g : Nat) (es1 es2 rs1 rs2 : List ME) (a1 : Option Addr) (c1 : Nat) (a2 : Option Addr) (c2 : Nat) (s : Ar) (vc vl : Value) (x : C4) (h : Led T w w (L14 c at_ M q1 q2 es1 es2 P bx g s vc vl a1 rs1.length c1 a2 rs2.length c2)) (hB1 : Both13 P es1 rs1 a1 c1) (hB2 : Both13 P es2 rs2 a2 c2) (hS : ∀ W, P W → SidesAt W) (hx : x.e.v.nodes ≤ 20 ∧ ∀ W, P W → x.e.v.In W) (hw : x.what ≠ 6 ∧ x.what ≠ 7) :
    Calls Tryd.prog 19 #[.pointer (some ⟨bx, 0, none⟩), x.val] w (Acted14 T w P bx g at_ s vc vl) := by
  by_cases h0 : x.what = 0 ∨ x.what = 1 ∨ x.what = 2 ∨ x.what = 3
  · by_cases s1 : x.side = 1
    · exact act14_push1 T w P c at_ M q1 q2 bx g es1 es2 rs1 rs2 a1 c1 a2 c2 s vc vl x h hB1 hB2 hx h0 s1
    by_cases s2 : x.side = 2
    · exact act14_push2 T w P c at_ M q1 q2 bx g es1 es2 rs1 rs2 a1 c1 a2 c2 s vc vl x h hB1 hB2 hx h0 s2
    exact act14_pushno T w P c at_ M q1 q2 bx g es1 es2 rs1 rs2 a1 c1 a2 c2 s vc vl x h hB1 hB2 h0 ⟨s1, s2⟩
  by_cases h4 : x.what = 4
  · by_cases s1 : x.side = 1
    · exact act14_look1 T w P c at_ M q1 q2 bx g es1 es2 rs1 rs2 a1 c1 a2 c2 s vc vl x h hB1 hB2 h4 s1
    by_cases s2 : x.side = 2
    · exact act14_look2 T w P c at_ M q1 q2 bx g es1 es2 rs1 rs2 a1 c1 a2 c2 s vc vl x h hB1 hB2 h4 s2
    exact act14_lookno T w P c at_ M q1 q2 bx g es1 es2 rs1 rs2 a1 c1 a2 c2 s vc vl x h hB1 hB2 h4 ⟨s1, s2⟩
  by_cases h5 : x.what = 5
  · by_cases s1 : x.side = 1
    · exact act14_drop1 T w P c at_ M q1 q2 bx g es1 es2 rs1 rs2 a1 c1 a2 c2 s vc vl x h hB1 hB2 h5 s1
    by_cases s2 : x.side = 2
    · exact act14_drop2 T w P c at_ M q1 q2 bx g es1 es2 rs1 rs2 a1 c1 a2 c2 s vc vl x h hB1 hB2 h5 s2
    exact act14_dropno T w P c at_ M q1 q2 bx g es1 es2 rs1 rs2 a1 c1 a2 c2 s vc vl x h hB1 hB2 h5 ⟨s1, s2⟩
  exact act14_copy T w P c at_ M q1 q2 bx g es1 es2 rs1 rs2 a1 c1 a2 c2 s vc vl x h hB1 hB2 hS ⟨h0, h4, h5, hw.1, hw.2⟩
end Go.Proofs.YtihmbgdkllmkaaaDoor

/-
  act() of law 14 (betrothallaw14/law.go), whatever the call.
-/
namespace Go.Proofs.YtihmbgdkllmkaaaDoor
open Go.RowKit Go.Shelf
set_option maxRecDepth 100000
set_option linter.unusedVariables false
set_option linter.unusedSimpArgs false

theorem swap_most (s : Ar) (a : Int) (x y : Nat) : (s.swap a x y).1.most = s.most := by
  unfold Ar.swap Ar.doBy
  repeat' split
  all_goals rfl
theorem swap_log (s : Ar) (a : Int) (x y : Nat) : (s.swap a x y).1.L.length ≤ s.L.length + 1 := by
  unfold Ar.swap Ar.doBy
  repeat' split
  all_goals simp [Ar.acc]
theorem act14_any (T : List Nat) (w : World) (P : World → Prop) (c : Nat) (at_ : Int) (M q1 q2 bx g : Nat) (es1 es2 rs1 rs2 : List ME) (a1 : Option Addr) (c1 : Nat) (a2 : Option Addr) (c2 : Nat) (s : Ar) (vc vl : Value) (N : Nat) (x : C4) (h : Led T w w (L14 c at_ M q1 q2 es1 es2 P bx g s vc vl a1 rs1.length c1 a2 rs2.length c2)) (hB1 : Both13 P es1 rs1 a1 c1) (hB2 : Both13 P es2 rs2 a2 c2) (hS : ∀ W, P W → SidesAt W) (hx : x.e.v.nodes ≤ 20 ∧ ∀ W, P W → x.e.v.In W) (hL : s.L.length ≤ N) (hN : N < 1000000) :
    Calls Tryd.prog 19 #[.pointer (some ⟨bx, 0, none⟩), x.val] w fun e w' => ∃ s', s'.L.length ≤ N + 1 ∧ ActedL14 T w P bx g at_ s' e w' := by
  by_cases h6 : x.what = 6
  · refine (act14_lock T w P c at_ M q1 q2 bx g es1 es2 rs1 rs2 a1 c1 a2 c2 s (s.swap at_ 0 1).1 vc vl x (s.swap at_ 0 1).2.1.did ((s.swap at_ 0 1).2.2 : Int) h hB1 hB2 h6 (swap_most s at_ 0 1) (fun T w vc vl h => rTry T w vc vl s at_ (by omega) h) (fun l w1 hl h6 hc => hl.chLock 6 h6 hc (by omega))).mono ?_
    intro e w' hh
    exact ⟨_, Nat.le_trans (swap_log s at_ 0 1) (by omega), hh⟩
  by_cases h7 : x.what = 7
  · refine (act14_unlock T w P c at_ M q1 q2 bx g es1 es2 rs1 rs2 a1 c1 a2 c2 s (s.swap at_ 1 0).1 vc vl x (s.freeE at_ : Int) h hB1 hB2 h7 (swap_most s at_ 1 0) (fun T w vc vl h => rFree T w vc vl s at_ (by omega) h) (fun l w1 hl h6 hc => hl.chUnlock 6 h6 hc (by omega))).mono ?_
    intro e w' hh
    exact ⟨_, Nat.le_trans (swap_log s at_ 1 0) (by omega), hh⟩
  refine (act14_still T w P c at_ M q1 q2 bx g es1 es2 rs1 rs2 a1 c1 a2 c2 s vc vl x h hB1 hB2 hS hx ⟨h6, h7⟩).mono ?_
  intro e w' hh
  exact ⟨s, by omega, vc, vl, hh⟩
end Go.Proofs.YtihmbgdkllmkaaaDoor

/-
  over() of law 14 (betrothallaw14/law.go): a loop over All's iterator against a list of entries.
-/
namespace Go.Proofs.YtihmbgdkllmkaaaDoor
open Go.RowKit Go.Shelf
set_option maxRecDepth 100000
set_option linter.unusedVariables false
set_option linter.unusedSimpArgs false
attribute [local go_sem] Oper.semAt_some

set_option maxHeartbeats 4000000 in
theorem over14_in (n : Nat) (w : World) (bx : Nat) (ra : Option Addr) (rc : Nat) (ys ls : List ME) (a2 : Option Addr) (c2 many : Nat) (hA : AllAt w bx ra rc ys) (hyn : ∀ y ∈ ys, y.v.nodes ≤ 256) (hE : EntsAt w a2 ls) (hin : ∀ x ∈ ls, x.v.In w ∧ x.v.nodes ≤ 256)
    (hp : ys.map ME.plain = ls.map ME.plain) (hlen : ls.length ≤ 1048576) (hm : many ≤ 10000) :
    CallsIn Fence.wide n Tryd.prog 23 #[.func (.func 79) #[] #[.pointer (some ⟨bx, 0, none⟩)], .slice a2 ls.length c2, .int .i64 (many : Int)] w fun e w' => e = .returned (.bool true) ∧ Touch [] w w' := by
  have hyl : ys.length = ls.length := by have := congrArg List.length hp; simpa using this
  have HA := Lib.hid (fun W (hW : Touch [] w W) => hA.touch hW)
  have HE := Lib.hid (fun W (hW : Touch [] w W) => hE.touch hW)
  have HI := Lib.hid (fun x (hx : x ∈ ls) W (hW : Touch [] w W) => (hin x hx).1.touch0 hW)
  have HN := Lib.hid (fun x (hx : x ∈ ls) => (hin x hx).2)
  have HP := Lib.hid hp
  have HYL := Lib.hid hyl
  have HYN := Lib.hid hyn
  clear hA hE hin hp hyl hyn
  refine callsIn_of_wp_marks Tryd.func23 rfl trivial ?_ rfl
  simp only [Tryd.ntmps23, List.size_toArray, List.length_cons, List.length_nil, Nat.reduceAdd, Nat.reduceSub, Array.replicate_succ, Array.replicate_zero, List.push_toArray, List.append_toArray, List.nil_append, List.cons_append]
  have hnil := all_not_nil
  gi_wp2_with fail
  refine wpIn_name ?_
  intro w4 hw4
  have HL3 := Lib.hid (((Led.nil' w).al3 rfl).al1 hw4)
  simp only [List.nil_append, List.cons_append, World.size_alloc] at HL3
  obtain ⟨b7, hb7⟩ : ∃ b, w.heap.size + 1 + 1 + 1 = b := ⟨_, rfl⟩
  rw [hb7] at HL3 ⊢
  obtain ⟨b6, hb6⟩ : ∃ b, w.heap.size + 1 + 1 = b := ⟨_, rfl⟩
  rw [hb6] at HL3 ⊢
  obtain ⟨b5, hb5⟩ : ∃ b, w.heap.size + 1 = b := ⟨_, rfl⟩
  rw [hb5] at HL3 ⊢
  obtain ⟨b4, hb4⟩ : ∃ b, w.heap.size = b := ⟨_, rfl⟩
  rw [hb4] at HL3 ⊢
  clear hb7 hb6 hb5 hb4 hw4 hnil
  have HL5 : Hid (Led [] w w4 (overR a2 ls.length c2 many b4 b5 b6 b7 0)) := HL3.out.addFact (p := (0 = 0 ∨ 0 < many)) (.inl rfl)
  clear HL3
  refine range_allQ (bx := bx) (ra := ra) (rc := rc) (ys := ys) rfl rfl (by rw [HYL.out]; exact hlen) HYN.out (overR a2 ls.length c2 many b4 b5 b6 b7)
    (fun c lx => c = .exit 0 ∧ ∃ k, lx = (overR a2 ls.length c2 many b4 b5 b6 b7 k).set 4 (fact (k ≤ ls.length ∧ k = max 1 many))) (fun W hW => HA.out W hW) HL5.out ?hround ?hdone ?hstop
  case hround =>
    intro k x W o0 hk hxk h
    have hk' : k < ls.length := by rw [← HYL.out]; exact hk
    rw [HP.out, List.getElem?_map, List.getElem?_eq_getElem hk'] at hxk
    have HX : Hid (ls[k].plain = x.plain) := by unfold Hid; simpa using hxk
    obtain ⟨D, hD⟩ : ∃ D, w4.heap.size = D := ⟨_, rfl⟩
    rw [hD] at h ⊢
    have HK := Lib.hid h
    clear h hxk hD
    rw [ent_eq]
    gi_wp2
    refine ⟨_, HK.out.alloc _ _, fun W2 o h2 => ?_⟩
    obtain ⟨be, hbe⟩ : ∃ b, W.heap.size = b := ⟨_, rfl⟩
    rw [hbe] at h2 ⊢
    have HK2 := Lib.hid h2
    simp only [overR, marks, List.nil_append, List.cons_append] at HK2
    clear hbe h2 HK
    have HFa : Hid (k = 0 ∨ k < many) := HK2.out.fact 4 rfl
    have HVX : Hid (x.v.In W2) := HK2.out.valsIn 5 rfl _ (by simp)
    have HLK := Lib.hid (HI.out ls[k] (List.getElem_mem hk') W2 HK2.out.tch)
    have HLN := Lib.hid (HN.out ls[k] (List.getElem_mem hk'))
    obtain ⟨b2, o2, rfl, hbb2, hent⟩ := HE.out W2 HK2.out.tch k hk'
    generalize ls[k] = y at hent HX HLK HLN
    have HY1 := Lib.hid hent
    have HX1 : Hid (EntAt W2 be 0 x) := by obtain ⟨c0, c1, c2, c3, c4, c5, c6, _⟩ := HK2.out.c7 8 rfl; exact ⟨c0, c1, c2, c3, c4, c5, c6⟩
    obtain ⟨_, _, _, _, _, _, _, _, zx, _, _⟩ := HK2.out.c7 8 rfl
    obtain ⟨n0, fn, zn, _, _⟩ := HK2.out.c1 3 rfl
    obtain ⟨l0, _, zl, _, _⟩ := HK2.out.c1 0 rfl
    obtain ⟨m0, _, zm, _, _⟩ := HK2.out.c1 1 rfl
    have HN0 := Lib.hid n0
    have HL0 := Lib.hid l0
    have HSE := Lib.hid (fun W (hW : Touch [] W2 W) => SameEntry_ref x y W (HVX.out.touch0 hW) (HLK.out.touch0 hW) (by rw [plain_nodes_eq HX.out]; have := HLN.out; omega) (by have := HLN.out; omega))
    have HEQ : Hid (x.v.nodes ≤ 256 ∧ y.v.nodes ≤ 256 ∧ x.plain = y.plain) := ⟨by rw [plain_nodes_eq HX.out]; exact HLN.out, HLN.out, HX.out.symm⟩
    clear hent
    simp only [ent_eq] at HSE
    obtain ⟨x0, x1, x2, x3, x4, x5, x6⟩ := HX1.out
    obtain ⟨y0, y1, y2, y3, y4, y5, y6⟩ := HY1.out
    simp only [Nat.zero_add] at x1 x2 x3 x4 x5 x6
    have hg1 : ¬ (ls.length : Int) ≤ (k : Int) := by omega
    have hg2 : ¬ ls.length ≤ k := by omega
    have hg3 : (k : Int) < (ls.length : Int) := by omega
    have hg4 : decide ((ls.length : Int) ≤ (k : Int)) = false := by simp; omega
    have hk0 : (0 : Int) ≤ (k : Int) := by omega
    gi_wp2_with fail
    refine region_held_round (S := fun w' => w'.cell? ⟨b7, 0, none⟩ = some (.int .i64 (k : Int)) ∧ w'.cell? ⟨b4, 0, none⟩ = some (.slice (some ⟨b2, o2, none⟩) ls.length c2) ∧
      (w'.cell? ⟨be, 0, none⟩ = some (.int .i64 x.sync) ∧ w'.cell? ⟨be, 1, none⟩ = some (.int .i64 x.thread) ∧ w'.cell? ⟨be, 2, none⟩ = some (.int .i64 x.branch) ∧ w'.cell? ⟨be, 3, none⟩ = some (.int .i64 x.flag) ∧ w'.cell? ⟨be, 4, none⟩ = some (.int .i64 x.v.kind) ∧ w'.cell? ⟨be, 5, none⟩ = some (.int .i64 x.v.num) ∧ w'.cell? ⟨be, 6, none⟩ = some (.slice x.v.addr x.v.parts.length x.v.cap)) ∧
      (w'.cell? ⟨b2, o2 + k * 7, none⟩ = some (.int .i64 y.sync) ∧ w'.cell? ⟨b2, o2 + k * 7 + 1, none⟩ = some (.int .i64 y.thread) ∧ w'.cell? ⟨b2, o2 + k * 7 + 2, none⟩ = some (.int .i64 y.branch) ∧ w'.cell? ⟨b2, o2 + k * 7 + 3, none⟩ = some (.int .i64 y.flag) ∧ w'.cell? ⟨b2, o2 + k * 7 + 4, none⟩ = some (.int .i64 y.v.kind) ∧ w'.cell? ⟨b2, o2 + k * 7 + 5, none⟩ = some (.int .i64 y.v.num) ∧ w'.cell? ⟨b2, o2 + k * 7 + 6, none⟩ = some (.slice y.v.addr y.v.parts.length y.v.cap)))
      (by rintro ⟨_, _, h⟩; exact h) (by kernel_rfl) (by kernel_rfl) ?_ (fun hHeld => ?_)
    · (try dsimp only)
      go_keep
    refine wpAnyH_takeD (i := 0) (d := some 15) (v := ?_) rfl rfl (by kernel_rfl) (by kernel_rfl) (by kernel_rfl) (fun _ _ _ h => h) (Or.inl ⟨by rfl, ?_⟩) (by assumption) ?_
    rotate_left
    · intro w hSw
      (try dsimp only at hSw)
      first | (go_simp; done) | (go_simp; with_reducible rfl)
    (try simp only [Act.put, List.setIfInBounds_toArray, List.set_cons_zero, List.set_cons_succ])
    refine wpAnyH_takeD (i := 1) (d := some 16) (v := ?_) rfl rfl (by kernel_rfl) (by kernel_rfl) (by kernel_rfl) (fun _ _ _ h => h) (Or.inl ⟨by rfl, ?_⟩) (by assumption) ?_
    rotate_left
    · intro w hSw
      (try dsimp only at hSw)
      first | (go_simp; done) | (go_simp; with_reducible rfl)
    (try simp only [Act.put, List.setIfInBounds_toArray, List.set_cons_zero, List.set_cons_succ])
    refine wpAnyH_takeD (i := 2) (d := some 17) (v := ?_) rfl rfl (by kernel_rfl) (by kernel_rfl) (by kernel_rfl) (fun _ _ _ h => h) (Or.inl ⟨by rfl, ?_⟩) (by assumption) ?_
    rotate_left
    · intro w hSw
      (try dsimp only at hSw)
      first | (go_simp; done) | (go_simp; with_reducible rfl)
    (try simp only [Act.put, List.setIfInBounds_toArray, List.set_cons_zero, List.set_cons_succ])
    refine wpAnyH_takeD (i := 3) (d := some 18) (v := ?_) rfl rfl (by kernel_rfl) (by kernel_rfl) (by kernel_rfl) (fun _ _ _ h => h) (Or.inl ⟨by rfl, ?_⟩) (by assumption) ?_
    rotate_left
    · intro w hSw
      (try dsimp only at hSw)
      first | (go_simp; done) | (go_simp; with_reducible rfl)
    (try simp only [Act.put, List.setIfInBounds_toArray, List.set_cons_zero, List.set_cons_succ])
    refine wpAnyH_takeD (i := 4) (d := some 19) (v := ?_) rfl rfl (by kernel_rfl) (by kernel_rfl) (by kernel_rfl) (fun _ _ _ h => h) (Or.inl ⟨by rfl, ?_⟩) (by assumption) ?_
    rotate_left
    · intro w hSw
      (try dsimp only at hSw)
      first | (go_simp; done) | (go_simp; with_reducible rfl)
    (try simp only [Act.put, List.setIfInBounds_toArray, List.set_cons_zero, List.set_cons_succ])
    refine wpAnyH_takeD (i := 5) (d := some 20) (v := ?_) rfl rfl (by kernel_rfl) (by kernel_rfl) (by kernel_rfl) (fun _ _ _ h => h) (Or.inl ⟨by rfl, ?_⟩) (by assumption) ?_
    rotate_left
    · intro w hSw
      (try dsimp only at hSw)
      first | (go_simp; done) | (go_simp; with_reducible rfl)
    (try simp only [Act.put, List.setIfInBounds_toArray, List.set_cons_zero, List.set_cons_succ])
    refine wpAnyH_takeD (i := 6) (d := some 21) (v := ?_) rfl rfl (by kernel_rfl) (by kernel_rfl) (by kernel_rfl) (fun _ _ _ h => h) (Or.inl ⟨by rfl, ?_⟩) (by assumption) ?_
    rotate_left
    · intro w hSw
      (try dsimp only at hSw)
      first | (go_simp; done) | (go_simp; with_reducible rfl)
    (try simp only [Act.put, List.setIfInBounds_toArray, List.set_cons_zero, List.set_cons_succ])
    refine wpAnyH_takeD (i := 7) (d := some 22) (v := ?_) rfl rfl (by kernel_rfl) (by kernel_rfl) (by kernel_rfl) (fun _ _ _ h => h) (Or.inl ⟨by rfl, ?_⟩) (by assumption) ?_
    rotate_left
    · intro w hSw
      (try dsimp only at hSw)
      first | (go_simp; done) | (go_simp; with_reducible rfl)
    (try simp only [Act.put, List.setIfInBounds_toArray, List.set_cons_zero, List.set_cons_succ])
    refine wpAnyH_takeD (i := 8) (d := some 23) (v := ?_) rfl rfl (by kernel_rfl) (by kernel_rfl) (by kernel_rfl) (fun _ _ _ h => h) (Or.inl ⟨by rfl, ?_⟩) (by assumption) ?_
    rotate_left
    · intro w hSw
      (try dsimp only at hSw)
      first | (go_simp; done) | (go_simp; with_reducible rfl)
    (try simp only [Act.put, List.setIfInBounds_toArray, List.set_cons_zero, List.set_cons_succ])
    refine wpAnyH_takeD (i := 9) (d := some 24) (v := ?_) rfl rfl (by kernel_rfl) (by kernel_rfl) (by kernel_rfl) (fun _ _ _ h => h) (Or.inl ⟨by rfl, ?_⟩) (by assumption) ?_
    rotate_left
    · intro w hSw
      (try dsimp only at hSw)
      first | (go_simp; done) | (go_simp; with_reducible rfl)
    (try simp only [Act.put, List.setIfInBounds_toArray, List.set_cons_zero, List.set_cons_succ])
    refine wpAnyH_takeD (i := 10) (d := some 25) (v := ?_) rfl rfl (by kernel_rfl) (by kernel_rfl) (by kernel_rfl) (fun _ _ _ h => h) (Or.inl ⟨by rfl, ?_⟩) (by assumption) ?_
    rotate_left
    · intro w hSw
      (try dsimp only at hSw)
      first | (go_simp; done) | (go_simp; with_reducible rfl)
    (try simp only [Act.put, List.setIfInBounds_toArray, List.set_cons_zero, List.set_cons_succ])
    refine wpAnyH_takeD (i := 11) (d := some 26) (v := ?_) rfl rfl (by kernel_rfl) (by kernel_rfl) (by kernel_rfl) (fun _ _ _ h => h) (Or.inl ⟨by rfl, ?_⟩) (by assumption) ?_
    rotate_left
    · intro w hSw
      (try dsimp only at hSw)
      first | (go_simp; done) | (go_simp; with_reducible rfl)
    (try simp only [Act.put, List.setIfInBounds_toArray, List.set_cons_zero, List.set_cons_succ])
    refine wpAnyH_takeD (i := 12) (d := some 27) (v := ?_) rfl rfl (by kernel_rfl) (by kernel_rfl) (by kernel_rfl) (fun _ _ _ h => h) (Or.inl ⟨by rfl, ?_⟩) (by assumption) ?_
    rotate_left
    · intro w hSw
      (try dsimp only at hSw)
      first | (go_simp; done) | (go_simp; with_reducible rfl)
    (try simp only [Act.put, List.setIfInBounds_toArray, List.set_cons_zero, List.set_cons_succ])
    refine wpAnyH_takeD (i := 13) (d := some 28) (v := ?_) rfl rfl (by kernel_rfl) (by kernel_rfl) (by kernel_rfl) (fun _ _ _ h => h) (Or.inl ⟨by rfl, ?_⟩) (by assumption) ?_
    rotate_left
    · intro w hSw
      (try dsimp only at hSw)
      first | (go_simp; done) | (go_simp; with_reducible rfl)
    (try simp only [Act.put, List.setIfInBounds_toArray, List.set_cons_zero, List.set_cons_succ])
    refine wpAnyH_takeD (i := 14) (d := some 29) (v := ?_) rfl rfl (by kernel_rfl) (by kernel_rfl) (by kernel_rfl) (fun _ _ _ h => h) (Or.inl ⟨by rfl, ?_⟩) (by assumption) ?_
    rotate_left
    · intro w hSw
      (try dsimp only at hSw)
      first | (go_simp; done) | (go_simp; with_reducible rfl)
    (try simp only [Act.put, List.setIfInBounds_toArray, List.set_cons_zero, List.set_cons_succ])
    refine wpAnyH_ready (rs := [15]) (by kernel_rfl) (by simp) ?_
    refine AllReadyH.cons rfl (fun K hK => ?_) AllReadyH.nil
    go_simp
    refine (HSE.out _ (Touch.refl [] W2).drew).mono ?_
    rintro en wn ⟨cc, rfl, hcc, ht⟩
    obtain rfl : cc = true := hcc.2 HEQ.out
    have HT := Lib.hid ((Touch.refl [] W2).drew.trans' ht)
    clear ht hcc x0 x1 x2 x3 x4 x5 x6 y0 y1 y2 y3 y4 y5 y6 n0 l0 hHeld
    obtain ⟨x0, x1, x2, x3, x4, x5, x6⟩ := HX1.out.touch HT.out
    obtain ⟨y0, y1, y2, y3, y4, y5, y6⟩ := HY1.out.touch HT.out
    simp only [Nat.zero_add] at x1 x2 x3 x4 x5 x6
    have n0 := HT.out.cellOf HN0.out
    have l0 := HT.out.cellOf HL0.out
    go_simp
    refine hK.out _ _ ?_ (fun hHeld => ?_)
    · (try dsimp only)
      go_keep
    clear hK K
    (try simp only [Act.put, List.setIfInBounds_toArray, List.set_cons_zero, List.set_cons_succ])
    refine wpAnyH_takeD (i := 16) (d := some 31) (v := ?_) rfl rfl (by kernel_rfl) (by kernel_rfl) (by kernel_rfl) (fun _ _ _ h => h) (Or.inl ⟨by rfl, ?_⟩) (by assumption) ?_
    rotate_left
    · intro w hSw
      (try dsimp only at hSw)
      first | (go_simp; done) | (go_simp; with_reducible rfl)
    (try simp only [Act.put, List.setIfInBounds_toArray, List.set_cons_zero, List.set_cons_succ])
    refine wpAnyH_takeD (i := 17) (d := some 32) (v := ?_) rfl rfl (by kernel_rfl) (by kernel_rfl) (by kernel_rfl) (fun _ _ _ h => h) (Or.inl ⟨by rfl, ?_⟩) (by assumption) ?_
    rotate_left
    · intro w hSw
      (try dsimp only at hSw)
      first | (go_simp; done) | (go_simp; with_reducible rfl)
    (try simp only [Act.put, List.setIfInBounds_toArray, List.set_cons_zero, List.set_cons_succ])
    refine wpAnyH_done (by kernel_rfl) ?_ _
    have HK3 := Lib.hid (HK2.out.touch HT.out)
    clear x0 x1 x2 x3 x4 x5 x6 y0 y1 y2 y3 y4 y5 y6 n0 l0 hHeld fn m0 zx zn zl zm HK2 hbb2
    obtain ⟨n0, fn, zn, _, _⟩ := HK3.out.c1 3 rfl
    obtain ⟨m0, _, zm, _, _⟩ := HK3.out.c1 1 rfl
    have n5 := HK3.out.ne 1 3 rfl rfl (by decide)
    have n6 := Ne.symm n5
    by_cases hmn : (many : Int) ≤ (k : Int) + 1
    · gi_wp2_with fail
      have hs := (HK3.out.set 3 rfl 0 (.int .i64 ((k : Int) + 1))).setFact 4 rfl (q := (k + 1 ≤ ls.length ∧ k + 1 = max 1 many)) ⟨by omega, by have := HFa.out; omega⟩
      exact ⟨_, [], ⟨rfl, k + 1, rfl⟩, hs.sel [0, 1, 2, 3, 4, 6, 7] rfl (by decide)⟩
    · gi_wp2_with fail
      have hs := (HK3.out.set 3 rfl 0 (.int .i64 ((k : Int) + 1))).setFact 4 rfl (q := (k + 1 = 0 ∨ k + 1 < many)) (.inr (by omega))
      exact ⟨[], hs.sel [0, 1, 2, 3, 4, 6, 7] rfl (by decide)⟩
  case hdone =>
    intro W h
    obtain ⟨D, hD⟩ : ∃ D, w4.heap.size = D := ⟨_, rfl⟩
    rw [hD] at h ⊢
    rw [HYL.out] at h
    have HK := Lib.hid h
    simp only [overR, marks1, List.nil_append, List.cons_append] at HK
    clear h hD
    obtain ⟨n0, fn, zn, _, _⟩ := HK.out.c1 3 rfl
    obtain ⟨l0, _, zl, _, _⟩ := HK.out.c1 0 rfl
    obtain ⟨m0, _, zm, _, _⟩ := HK.out.c1 1 rfl
    obtain ⟨q0, qf, zq, _, _⟩ := HK.out.c1 2 rfl
    have HFa : Hid (ls.length = 0 ∨ ls.length < many) := HK.out.fact 4 rfl
    gi_wp2
    all_goals have hfa := HFa.out
    all_goals exact led_ret1 Tryd.results23 rfl HK.out 2 rfl (by first | rfl | (simp only [beq_iff_eq]; omega)) 5 rfl (fun W' h => ⟨rfl, h.tch⟩)
  case hstop =>
    rintro c W lx ⟨rfl, k, rfl⟩ h
    obtain ⟨D, hD⟩ : ∃ D, w4.heap.size = D := ⟨_, rfl⟩
    rw [hD] at h ⊢
    have HK := Lib.hid h
    simp only [overR, marks1, List.nil_append, List.cons_append, List.set_cons_succ, List.set_cons_zero] at HK
    clear h hD
    obtain ⟨n0, fn, zn, _, _⟩ := HK.out.c1 3 rfl
    obtain ⟨l0, _, zl, _, _⟩ := HK.out.c1 0 rfl
    obtain ⟨m0, _, zm, _, _⟩ := HK.out.c1 1 rfl
    obtain ⟨q0, qf, zq, _, _⟩ := HK.out.c1 2 rfl
    have HFa : Hid (k ≤ ls.length ∧ k = max 1 many) := HK.out.fact 4 rfl
    gi_wp2
    all_goals obtain ⟨hfa, hfb⟩ := HFa.out
    all_goals exact led_ret1 Tryd.results23 rfl HK.out 2 rfl (by first | rfl | (simp only [beq_iff_eq]; omega)) 5 rfl (fun W' h => ⟨rfl, h.tch⟩)
theorem over14 (w : World) (bx : Nat) (ra : Option Addr) (rc : Nat) (ys ls : List ME) (a2 : Option Addr) (c2 many : Nat) (hA : AllAt w bx ra rc ys) (hyn : ∀ y ∈ ys, y.v.nodes ≤ 256) (hE : EntsAt w a2 ls) (hin : ∀ x ∈ ls, x.v.In w ∧ x.v.nodes ≤ 256)
    (hp : ys.map ME.plain = ls.map ME.plain) (hlen : ls.length ≤ 1048576) (hm : many ≤ 10000) :
    Calls Tryd.prog 23 #[.func (.func 79) #[] #[.pointer (some ⟨bx, 0, none⟩)], .slice a2 ls.length c2, .int .i64 (many : Int)] w fun e w' => e = .returned (.bool true) ∧ Touch [] w w' :=
  (callsIn_wide (n := 0)).1 (over14_in 0 w bx ra rc ys ls a2 c2 many hA hyn hE hin hp hlen hm)
end Go.Proofs.YtihmbgdkllmkaaaDoor

/-
  is() of law 14 (betrothallaw14/law.go): a loop over four sides, and a region of 27 operations.
-/
namespace Go.Proofs.YtihmbgdkllmkaaaDoor
open Go.RowKit Go.Shelf
set_option maxRecDepth 100000
set_option linter.unusedVariables false
set_option linter.unusedSimpArgs false
attribute [local go_sem] Oper.semAt_some
theorem both14_0 (P : World → Prop) : Both13 P [] [] none 0 := ⟨rfl, Nat.zero_le _, Nat.zero_le _, by simp, fun W _ => ⟨by simp, fun i hi => by simp at hi, by simp⟩⟩
/-- What is told of a side, by both. -/
def Side14 (P : World → Prop) (w : World) (c : Nat) (rc : Value) (s : Int) (es rs : List ME) (a : Option Addr) (cp : Nat) : Prop :=
  Both13 P es rs a cp ∧ (∀ W, Touch [] w W → Calls Tryd.prog 15 #[.pointer (some ⟨c, 0, none⟩), .int .i64 s] W fun e w' => e = .returned (.int .i64 (rs.length : Int)) ∧ W = w') ∧
    (∀ W, Touch [] w W → Calls Tryd.prog 24 #[.pointer (some ⟨c, 0, none⟩), .int .i64 s] W (AllTold es W)) ∧
    (∀ W, Touch [] w W → Calls Tryd.prog 28 #[rc, .int .i64 s] W fun e w' => e = .returned (.slice a rs.length cp) ∧ Touch [] W w')
theorem Led.side14 {T : List Nat} {w0 w : World} {l : List Thing} {P : World → Prop} {c : Nat} {at_ : Int} {M q1 q2 : Nat} {es1 es2 rs1 rs2 : List ME} {a1 : Option Addr} {c1 : Nat} {a2 : Option Addr} {c2 : Nat} (h : Led T w0 w (chanL c at_ M q1 q2 es1 es2 ++ [stillT P] ++ l)) (hB1 : Both13 P es1 rs1 a1 c1) (hB2 : Both13 P es2 rs2 a2 c2) (s : Int) :
    ∃ es rs a cp, Side14 P w c (rc14 at_ a1 rs1.length c1 a2 rs2.length c2) s es rs a cp := by
  have hCH : ∀ W, Touch [] w W → ChAt W c at_ M q1 q2 := fun W hW => (h.touch hW).chAt 0 1 rfl rfl
  have hPW : ∀ W, Touch [] w W → P W := fun W hW => (h.touch hW).still 4 rfl
  by_cases h1 : s = 1
  · subst h1
    refine ⟨es1, rs1, a1, c1, hB1, fun W hW => ?_, fun W hW => ?_, fun W hW => ?_⟩
    · have h2 := Len_ch W c at_ M q1 q2 (hCH W hW) 1 q1 es1 rfl ((h.touch hW).qAt 2 rfl)
      rw [hB1.len] at h2
      exact h2
    · exact All_ch W c at_ M q1 q2 (hCH W hW) 1 q1 es1 rfl ((h.touch hW).qAt 2 rfl) (fun e he => ⟨(hB1.2.2.2.2 W (hPW W hW)).1 e he, hB1.2.2.2.1 e he⟩) hB1.2.2.1
    · exact List_ref14 W at_ a1 rs1.length c1 a2 rs2.length c2 1
  by_cases h2 : s = 2
  · subst h2
    refine ⟨es2, rs2, a2, c2, hB2, fun W hW => ?_, fun W hW => ?_, fun W hW => ?_⟩
    · have h2 := Len_ch W c at_ M q1 q2 (hCH W hW) 2 q2 es2 rfl ((h.touch hW).qAt 3 rfl)
      rw [hB2.len] at h2
      exact h2
    · exact All_ch W c at_ M q1 q2 (hCH W hW) 2 q2 es2 rfl ((h.touch hW).qAt 3 rfl) (fun e he => ⟨(hB2.2.2.2.2 W (hPW W hW)).1 e he, hB2.2.2.2.1 e he⟩) hB2.2.2.1
    · exact List_ref14 W at_ a1 rs1.length c1 a2 rs2.length c2 2
  have hq : qOf s q1 q2 = none := by unfold qOf; rw [if_neg h1, if_neg h2]
  refine ⟨[], [], none, 0, both14_0 P, fun W hW => ?_, fun W hW => ?_, fun W hW => ?_⟩
  · exact Len_ch_no W c at_ M q1 q2 (hCH W hW) s hq
  · exact All_ch_no W c at_ M q1 q2 (hCH W hW) s hq
  · have h3 := List_ref14 W at_ a1 rs1.length c1 a2 rs2.length c2 s
    rw [if_neg h1, if_neg h2] at h3
    exact h3
set_option maxHeartbeats 4000000 in
theorem is14 (T : List Nat) (w : World) (P : World → Prop) (c : Nat) (at_ : Int) (M q1 q2 bx g : Nat) (es1 es2 rs1 rs2 : List ME) (a1 : Option Addr) (c1 : Nat) (a2 : Option Addr) (c2 : Nat) (s : Ar) (vc vl : Value) (N many : Nat) (h : Led T w w (L14 c at_ M q1 q2 es1 es2 P bx g s vc vl a1 rs1.length c1 a2 rs2.length c2)) (hB1 : Both13 P es1 rs1 a1 c1) (hB2 : Both13 P es2 rs2 a2 c2) (hS : ∀ W, P W → SidesAt W) (hL : s.L.length ≤ N) (hN : N < 1000000) (hm : many ≤ 10000) :
    Calls Tryd.prog 20 #[.pointer (some ⟨bx, 0, none⟩), .int .i64 (many : Int)] w fun e w' => e = .returned (.bool true) ∧ Touch [] w w' := by
  obtain ⟨ca, cp, rfl, _, _⟩ := own_val (h.refAt 7 rfl).cel
  obtain ⟨la, lp, rfl, _, _⟩ := own_val (h.refAt 7 rfl).log
  have HNL : Hid (s.L.length < 1000000) := by unfold Hid; omega
  have hnl0 : (0 : Int) ≤ (s.L.length : Int) := by omega
  have hnl1 : (s.L.length : Int) < 18446744073709551616 := by omega
  have HM := Lib.hid hm
  have HSD := Lib.hid (fun W (hW : Touch [] w W) => hS W ((h.touch hW).still 4 rfl))
  have HPW := Lib.hid (fun W (hW : Touch [] w W) => (h.touch hW).still 4 rfl)
  have HSI := Lib.hid (fun s => Led.side14 (l := [_, _, _]) h hB1 hB2 s)
  have HCH := Lib.hid (fun W (hW : Touch [] w W) => (h.touch hW).chAt 0 1 rfl rfl)
  have HL0 := Lib.hid (fun W (hW : Touch [] w W) => h.touch hW)
  clear h hB1 hB2 hS hm hL hN
  simp only [L14, chanL, bothC14, List.cons_append, List.nil_append] at HL0
  go_enter Tryd.func20, Tryd.ntmps20
  go_wp2_with fail
  have HT0 := Lib.hid (Touch.refl [] w)
  go_loopw [5] (fun i wr => ∃ (k : Nat), i = .int .i64 (k : Int) ∧ k ≤ 4 ∧ Hid (Touch [] w wr)) (fun i _ => 4 - (intOf i).toNat)
  case atStart => exact ⟨0, rfl, by omega, HT0⟩
  case round =>
    obtain ⟨k, rfl, hk, HT⟩ := hrel
    clear HT0
    have hk0 : (0 : Int) ≤ (k : Int) := by omega
    by_cases hk4 : k < 4
    · have hk4' : (k : Int) ≤ 3 := by omega
      obtain ⟨es, rs, a, cc, hsd⟩ := HSI.out (k : Int)
      have HSS := Lib.hid hsd
      clear hsd HSI
      have HOT := Lib.hid (fun W (hW : Touch [] w W) => Other_c W (k : Int) (HSD.out W hW))
      have HOR := Lib.hid (fun W => Other_ref14 W (k : Int) (by omega))
      generalize otherOf (k : Int) = oo at HOT HOR
      obtain ⟨y0, y1, y2, y3, y4, y5, y6, y7, _, hlx⟩ := (HL0.out wr HT.out).c8' 5 rfl
      go_wp2_with fail
      refine (HSS.out.2.2.2 wr HT.out).mono ?_
      rintro e w1 ⟨rfl, ht⟩
      have HT1 := Lib.hid (HT.out.trans' ht)
      clear ht y0 y1 y2 y3 y4 y5 y6 y7 hlx
      obtain ⟨y0, y1, y2, y3, y4, y5, y6, y7, _, hlx⟩ := (HL0.out w1 HT1.out).c8' 5 rfl
      go_wp2_with fail
      refine (HSS.out.2.1 w1 HT1.out).mono ?_
      rintro e wn ⟨rfl, rfl⟩
      go_wp2_with fail
      refine (HSS.out.2.2.1 w1 HT1.out).mono ?_
      rintro e w2 ⟨al, ra, rc, ys, rfl, hpy, hL⟩
      have HT2 := Lib.hid (HT1.out.trans' hL.tch)
      have HLA := Lib.hid hL
      have HPY := Lib.hid hpy
      clear hpy hL y0 y1 y2 y3 y4 y5 y6 y7 hlx
      go_wp2_with fail
      refine (over14 w2 al ra rc ys rs a cc many (HLA.out.allAt 0 rfl) (fun y hy => ?_) (HSS.out.1.2.2.2.2 w2 (HPW.out w2 HT2.out)).2.1 (fun r hr => ⟨(HSS.out.1.2.2.2.2 w2 (HPW.out w2 HT2.out)).2.2 r hr, HSS.out.1.rnodes r hr⟩) (HPY.out.trans HSS.out.1.1) (by have := HSS.out.1.2.2.1; have := HSS.out.1.len; omega) HM.out).mono ?_
      · have hmm : y.plain ∈ es.map ME.plain := by rw [← HPY.out]; exact List.mem_map_of_mem hy
        obtain ⟨r, hr, hpr⟩ := List.mem_map.1 hmm
        rw [plain_nodes_eq hpr]; exact HSS.out.1.2.2.2.1 r hr
      rintro e w3 ⟨rfl, ht⟩
      have HT3 := Lib.hid (HT2.out.trans' ht)
      clear ht
      go_wp2_with fail
      refine (HOT.out w3 HT3.out).mono ?_
      rintro e wn ⟨rfl, rfl⟩
      go_wp2_with fail
      refine (HOR.out w3).mono ?_
      rintro e wn ⟨rfl, rfl⟩
      go_wp2
      go_roundw
      case rel => exact ⟨k + 1, by go_num, hk4, HT3⟩
      case measure => simp [intOf]; omega
    · have hk4' : ¬ (k : Int) ≤ 3 := by omega
      obtain ⟨y0, y1, y2, y3, y4, y5, y6, y7, _, hlx⟩ := (HL0.out wr HT.out).c8' 5 rfl
      have HTm := Lib.hid HT.out.drew
      clear HSI HSD HPW
      go_wp2_with fail
      refine wp_region_held_drew (S := fun w' => w'.cell? ⟨bx, 0, none⟩ = some (.pointer (some ⟨g, 0, none⟩)) ∧ w'.cell? ⟨bx, 1, none⟩ = some (.pointer (some ⟨c, 0, none⟩)) ∧ w'.cell? ⟨bx, 4, none⟩ = some (.slice la s.L.length lp) ∧ w'.cell? ⟨bx, 5, none⟩ = some (.int .i64 at_)) (by kernel_rfl) ?_ (fun hHeld => ?_)
      · (try dsimp only)
        go_keep
      refine wpAnyH_takeD (i := 0) (d := some 45) (v := ?_) rfl rfl (by kernel_rfl) (by kernel_rfl) (by kernel_rfl) (fun _ _ _ h => h) (Or.inl ⟨by rfl, ?_⟩) (by assumption) ?_
      rotate_left
      · intro w hSw
        (try dsimp only at hSw)
        first | (go_simp; done) | (go_simp; with_reducible rfl)
      (try simp only [Act.put, List.setIfInBounds_toArray, List.set_cons_zero, List.set_cons_succ])
      refine wpAnyH_takeD (i := 1) (d := some 46) (v := ?_) rfl rfl (by kernel_rfl) (by kernel_rfl) (by kernel_rfl) (fun _ _ _ h => h) (Or.inl ⟨by rfl, ?_⟩) (by assumption) ?_
      rotate_left
      · intro w hSw
        (try dsimp only at hSw)
        first | (go_simp; done) | (go_simp; with_reducible rfl)
      (try simp only [Act.put, List.setIfInBounds_toArray, List.set_cons_zero, List.set_cons_succ])
      refine wpAnyH_takeD (i := 2) (d := some 47) (v := ?_) rfl rfl (by kernel_rfl) (by kernel_rfl) (by kernel_rfl) (fun _ _ _ h => h) (Or.inl ⟨by rfl, ?_⟩) (by assumption) ?_
      rotate_left
      · intro w hSw
        (try dsimp only at hSw)
        first | (go_simp; done) | (go_simp; with_reducible rfl)
      (try simp only [Act.put, List.setIfInBounds_toArray, List.set_cons_zero, List.set_cons_succ])
      refine wpAnyH_takeD (i := 3) (d := some 48) (v := ?_) rfl rfl (by kernel_rfl) (by kernel_rfl) (by kernel_rfl) (fun _ _ _ h => h) (Or.inl ⟨by rfl, ?_⟩) (by assumption) ?_
      rotate_left
      · intro w hSw
        (try dsimp only at hSw)
        first | (go_simp; done) | (go_simp; with_reducible rfl)
      (try simp only [Act.put, List.setIfInBounds_toArray, List.set_cons_zero, List.set_cons_succ])
      refine wpAnyH_takeD (i := 5) (d := some 50) (v := ?_) rfl rfl (by kernel_rfl) (by kernel_rfl) (by kernel_rfl) (fun _ _ _ h => h) (Or.inl ⟨by rfl, ?_⟩) (by assumption) ?_
      rotate_left
      · intro w hSw
        (try dsimp only at hSw)
        first | (go_simp; done) | (go_simp; with_reducible rfl)
      (try simp only [Act.put, List.setIfInBounds_toArray, List.set_cons_zero, List.set_cons_succ])
      refine wpAnyH_takeD (i := 6) (d := some 51) (v := ?_) rfl rfl (by kernel_rfl) (by kernel_rfl) (by kernel_rfl) (fun _ _ _ h => h) (Or.inl ⟨by rfl, ?_⟩) (by assumption) ?_
      rotate_left
      · intro w hSw
        (try dsimp only at hSw)
        first | (go_simp; done) | (go_simp; with_reducible rfl)
      (try simp only [Act.put, List.setIfInBounds_toArray, List.set_cons_zero, List.set_cons_succ])
      refine wpAnyH_takeD (i := 7) (d := some 52) (v := ?_) rfl rfl (by kernel_rfl) (by kernel_rfl) (by kernel_rfl) (fun _ _ _ h => h) (Or.inl ⟨by rfl, ?_⟩) (by assumption) ?_
      rotate_left
      · intro w hSw
        (try dsimp only at hSw)
        first | (go_simp; done) | (go_simp; with_reducible rfl)
      (try simp only [Act.put, List.setIfInBounds_toArray, List.set_cons_zero, List.set_cons_succ])
      refine wpAnyH_takeD (i := 8) (d := some 53) (v := ?_) rfl rfl (by kernel_rfl) (by kernel_rfl) (by kernel_rfl) (fun _ _ _ h => h) (Or.inl ⟨by rfl, ?_⟩) (by assumption) ?_
      rotate_left
      · intro w hSw
        (try dsimp only at hSw)
        first | (go_simp; done) | (go_simp; with_reducible rfl)
      (try simp only [Act.put, List.setIfInBounds_toArray, List.set_cons_zero, List.set_cons_succ])
      refine wpAnyH_takeD (i := 9) (d := some 54) (v := ?_) rfl rfl (by kernel_rfl) (by kernel_rfl) (by kernel_rfl) (fun _ _ _ h => h) (Or.inl ⟨by rfl, ?_⟩) (by assumption) ?_
      rotate_left
      · intro w hSw
        (try dsimp only at hSw)
        first | (go_simp; done) | (go_simp; with_reducible rfl)
      (try simp only [Act.put, List.setIfInBounds_toArray, List.set_cons_zero, List.set_cons_succ])
      refine wpAnyH_ready (rs := [4]) (by kernel_rfl) (by simp) ?_
      refine AllReadyH.cons rfl (fun K hK => ?_) AllReadyH.nil
      go_simp
      refine (Cell_ch _ c at_ M q1 q2 (HCH.out _ HTm.out)).mono ?_
      rintro e wn ⟨rfl, rfl⟩
      go_simp
      refine hK.out _ _ ?_ (fun hHeld => ?_)
      · (try dsimp only)
        go_keep
      clear hK K
      (try simp only [Act.put, List.setIfInBounds_toArray, List.set_cons_zero, List.set_cons_succ])
      refine wpAnyH_takeD (i := 10) (d := some 55) (v := ?_) rfl rfl (by kernel_rfl) (by kernel_rfl) (by kernel_rfl) (fun _ _ _ h => h) (Or.inl ⟨by rfl, ?_⟩) (by assumption) ?_
      rotate_left
      · intro w hSw
        (try dsimp only at hSw)
        first | (go_simp; done) | (go_simp; with_reducible rfl)
      (try simp only [Act.put, List.setIfInBounds_toArray, List.set_cons_zero, List.set_cons_succ])
      refine wpAnyH_takeD (i := 11) (d := some 56) (v := ?_) rfl rfl (by kernel_rfl) (by kernel_rfl) (by kernel_rfl) (fun _ _ _ h => h) (Or.inl ⟨by rfl, ?_⟩) (by assumption) ?_
      rotate_left
      · intro w hSw
        (try dsimp only at hSw)
        first | (go_simp; done) | (go_simp; with_reducible rfl)
      (try simp only [Act.put, List.setIfInBounds_toArray, List.set_cons_zero, List.set_cons_succ])
      refine wpAnyH_takeD (i := 12) (d := some 57) (v := ?_) rfl rfl (by kernel_rfl) (by kernel_rfl) (by kernel_rfl) (fun _ _ _ h => h) (Or.inl ⟨by rfl, ?_⟩) (by assumption) ?_
      rotate_left
      · intro w hSw
        (try dsimp only at hSw)
        first | (go_simp; done) | (go_simp; with_reducible rfl)
      (try simp only [Act.put, List.setIfInBounds_toArray, List.set_cons_zero, List.set_cons_succ])
      refine wpAnyH_takeD (i := 13) (d := some 58) (v := ?_) rfl rfl (by kernel_rfl) (by kernel_rfl) (by kernel_rfl) (fun _ _ _ h => h) (Or.inl ⟨by rfl, ?_⟩) (by assumption) ?_
      rotate_left
      · intro w hSw
        (try dsimp only at hSw)
        first | (go_simp; done) | (go_simp; with_reducible rfl)
      (try simp only [Act.put, List.setIfInBounds_toArray, List.set_cons_zero, List.set_cons_succ])
      refine wpAnyH_takeD (i := 14) (d := some 59) (v := ?_) rfl rfl (by kernel_rfl) (by kernel_rfl) (by kernel_rfl) (fun _ _ _ h => h) (Or.inl ⟨by rfl, ?_⟩) (by assumption) ?_
      rotate_left
      · intro w hSw
        (try dsimp only at hSw)
        first | (go_simp; done) | (go_simp; with_reducible rfl)
      (try simp only [Act.put, List.setIfInBounds_toArray, List.set_cons_zero, List.set_cons_succ])
      refine wpAnyH_takeD (i := 15) (d := some 60) (v := ?_) rfl rfl (by kernel_rfl) (by kernel_rfl) (by kernel_rfl) (fun _ _ _ h => h) (Or.inl ⟨by rfl, ?_⟩) (by assumption) ?_
      rotate_left
      · intro w hSw
        (try dsimp only at hSw)
        first | (go_simp; done) | (go_simp; with_reducible rfl)
      (try simp only [Act.put, List.setIfInBounds_toArray, List.set_cons_zero, List.set_cons_succ])
      refine wpAnyH_takeD (i := 17) (d := some 62) (v := ?_) rfl rfl (by kernel_rfl) (by kernel_rfl) (by kernel_rfl) (fun _ _ _ h => h) (Or.inl ⟨by rfl, ?_⟩) (by assumption) ?_
      rotate_left
      · intro w hSw
        (try dsimp only at hSw)
        first | (go_simp; done) | (go_simp; with_reducible rfl)
      (try simp only [Act.put, List.setIfInBounds_toArray, List.set_cons_zero, List.set_cons_succ])
      refine wpAnyH_takeD (i := 18) (d := some 63) (v := ?_) rfl rfl (by kernel_rfl) (by kernel_rfl) (by kernel_rfl) (fun _ _ _ h => h) (Or.inl ⟨by rfl, ?_⟩) (by assumption) ?_
      rotate_left
      · intro w hSw
        (try dsimp only at hSw)
        first | (go_simp; done) | (go_simp; with_reducible rfl)
      (try simp only [Act.put, List.setIfInBounds_toArray, List.set_cons_zero, List.set_cons_succ])
      refine wpAnyH_takeD (i := 19) (d := some 64) (v := ?_) rfl rfl (by kernel_rfl) (by kernel_rfl) (by kernel_rfl) (fun _ _ _ h => h) (Or.inl ⟨by rfl, ?_⟩) (by assumption) ?_
      rotate_left
      · intro w hSw
        (try dsimp only at hSw)
        first | (go_simp; done) | (go_simp; with_reducible rfl)
      (try simp only [Act.put, List.setIfInBounds_toArray, List.set_cons_zero, List.set_cons_succ])
      refine wpAnyH_takeD (i := 20) (d := some 65) (v := ?_) rfl rfl (by kernel_rfl) (by kernel_rfl) (by kernel_rfl) (fun _ _ _ h => h) (Or.inl ⟨by rfl, ?_⟩) (by assumption) ?_
      rotate_left
      · intro w hSw
        (try dsimp only at hSw)
        first | (go_simp; done) | (go_simp; with_reducible rfl)
      (try simp only [Act.put, List.setIfInBounds_toArray, List.set_cons_zero, List.set_cons_succ])
      refine wpAnyH_takeD (i := 21) (d := some 66) (v := ?_) rfl rfl (by kernel_rfl) (by kernel_rfl) (by kernel_rfl) (fun _ _ _ h => h) (Or.inl ⟨by rfl, ?_⟩) (by assumption) ?_
      rotate_left
      · intro w hSw
        (try dsimp only at hSw)
        first | (go_simp; done) | (go_simp; with_reducible rfl)
      (try simp only [Act.put, List.setIfInBounds_toArray, List.set_cons_zero, List.set_cons_succ])
      refine wpAnyH_takeD (i := 22) (d := some 67) (v := ?_) rfl rfl (by kernel_rfl) (by kernel_rfl) (by kernel_rfl) (fun _ _ _ h => h) (Or.inl ⟨by rfl, ?_⟩) (by assumption) ?_
      rotate_left
      · intro w hSw
        (try dsimp only at hSw)
        first | (go_simp; done) | (go_simp; with_reducible rfl)
      (try simp only [Act.put, List.setIfInBounds_toArray, List.set_cons_zero, List.set_cons_succ])
      refine wpAnyH_takeD (i := 23) (d := some 68) (v := ?_) rfl rfl (by kernel_rfl) (by kernel_rfl) (by kernel_rfl) (fun _ _ _ h => h) (Or.inl ⟨by rfl, ?_⟩) (by assumption) ?_
      rotate_left
      · intro w hSw
        (try dsimp only at hSw)
        first | (go_simp; done) | (go_simp; with_reducible rfl)
      (try simp only [Act.put, List.setIfInBounds_toArray, List.set_cons_zero, List.set_cons_succ])
      refine wpAnyH_ready (rs := [16]) (by kernel_rfl) (by simp) ?_
      refine AllReadyH.cons rfl (fun K hK => ?_) AllReadyH.nil
      go_simp
      refine ((HL0.out _ HTm.out).arq 6 rfl (fun fp hI => Count_any _ g fp s hI)).mono ?_
      rintro e wn ⟨rfl, rfl⟩
      go_simp
      refine hK.out _ _ ?_ (fun hHeld => ?_)
      · (try dsimp only)
        go_keep
      clear hK K
      (try simp only [Act.put, List.setIfInBounds_toArray, List.set_cons_zero, List.set_cons_succ])
      refine wpAnyH_takeD (i := 24) (d := some 69) (v := ?_) rfl rfl (by kernel_rfl) (by kernel_rfl) (by kernel_rfl) (fun _ _ _ h => h) (Or.inl ⟨by rfl, ?_⟩) (by assumption) ?_
      rotate_left
      · intro w hSw
        (try dsimp only at hSw)
        first | (go_simp; done) | (go_simp; with_reducible rfl)
      (try simp only [Act.put, List.setIfInBounds_toArray, List.set_cons_zero, List.set_cons_succ])
      refine wpAnyH_takeD (i := 25) (d := some 70) (v := ?_) rfl rfl (by kernel_rfl) (by kernel_rfl) (by kernel_rfl) (fun _ _ _ h => h) (Or.inl ⟨by rfl, ?_⟩) (by assumption) ?_
      rotate_left
      · intro w hSw
        (try dsimp only at hSw)
        first | (go_simp; done) | (go_simp; with_reducible rfl)
      (try simp only [Act.put, List.setIfInBounds_toArray, List.set_cons_zero, List.set_cons_succ])
      refine wpAnyH_takeD (i := 26) (d := some 4) (v := ?_) rfl rfl (by kernel_rfl) (by kernel_rfl) (by kernel_rfl) (fun _ _ _ h => h) (Or.inl ⟨by rfl, ?_⟩) (by assumption) ?_
      rotate_left
      · intro w hSw
        (try dsimp only at hSw)
        first | (go_simp; done) | (go_simp; with_reducible rfl)
      (try simp only [Act.put, List.setIfInBounds_toArray, List.set_cons_zero, List.set_cons_succ])
      refine wpAnyH_done (by kernel_rfl) ?_ _
      clear y0 y1 y2 y3 y4 y5 y6 y7 hlx hHeld
      go_wp2
      go_ret
      have hw1 : IntKind.u64.wrap (s.L.length : Int) = (s.L.length : Int) := by rw [IntKind.wrap_u64]; omega
      exact ⟨by simp [hw1], HTm.out⟩
end Go.Proofs.YtihmbgdkllmkaaaDoor

/-
  made() of law 14 (betrothallaw14/law.go); New of reference 14, New of reference 01.
-/
namespace Go.Proofs.YtihmbgdkllmkaaaDoor
open Go.RowKit Go.Shelf
set_option maxRecDepth 100000
set_option linter.unusedVariables false
set_option linter.unusedSimpArgs false

theorem build_chan14 (s : Int) (w : World) : (Instr.build 61 #[(0, .int .i64 s)]).run Tryd.prog w = .ok (.agg #[.int .i64 s, .slice none 0 0, .slice none 0 0]) w := run_build w 61 _ _ (by kernel_rfl)
theorem build_both14 (g : Nat) (c : Option Addr) (ca la a a2 : Option Addr) (n1 c1 n2 c2 n3 c3 n4 c4 : Nat) (m k : Int) (w : World) : (Instr.build 63 #[(0, .pointer (some ⟨g, 0, none⟩)), (1, .pointer c), (2, .agg #[.slice ca n1 c1, .int .i64 m, .slice la n2 c2]), (3, .agg #[.int .i64 k, .slice a n3 c3, .slice a2 n4 c4])]).run Tryd.prog w = .ok (.agg #[.pointer (some ⟨g, 0, none⟩), .pointer c, .slice ca n1 c1, .int .i64 m, .slice la n2 c2, .int .i64 k, .slice a n3 c3, .slice a2 n4 c4]) w := run_build w 63 _ _ (by kernel_rfl)
attribute [local go_sem] build_chan14 build_both14
theorem Led.to14 {T : List Nat} {w0 w w' : World} {l : List Thing} (h : Led T w0 w l) (e : w = w') : Led T w0 w' l := e ▸ h
theorem refNew14 (most : Nat) (w : World) (h1 : 1 ≤ most) (h2 : most ≤ 65536) : Calls Tryd.prog 46 #[.int .i64 (most : Int)] w fun e w' => e = .returned (.tuple #[refV (.slice none 0 0) most (.slice none 0 0), .int .i64 0]) ∧ Touch [] w w' := by
  have h1' : ¬ (most : Int) < 1 := by omega
  have h2' : ¬ 65536 < (most : Int) := by omega
  have HT := Lib.hid ((Touch.refl [] w).alloc (.cells #[.slice none 0 0, .int .i64 (most : Int), .slice none 0 0] 55))
  unfold refV
  go_enter Tryd.func46, Tryd.ntmps46
  go_wp2
  refine bodyPost_ret (v := .tuple #[.agg #[.slice none 0 0, .int .i64 (most : Int), .slice none 0 0], .int .i64 0]) (by simp [results, Tryd.results46, go_sem]) rfl ⟨rfl, HT.out⟩
theorem refNew14_no (most : Int) (w : World) (h : most < 1 ∨ 65536 < most) : Calls Tryd.prog 46 #[.int .i64 most] w fun e w' => e = .returned (.tuple #[refV (.slice none 0 0) 0 (.slice none 0 0), .int .i64 2]) ∧ Touch [] w w' := by
  have HT := Lib.hid ((Touch.refl [] w).alloc (.cells #[.slice none 0 0, .int .i64 0, .slice none 0 0] 55))
  unfold refV
  by_cases h1 : most < 1
  · go_enter Tryd.func46, Tryd.ntmps46
    go_wp2
    refine bodyPost_ret (v := .tuple #[.agg #[.slice none 0 0, .int .i64 0, .slice none 0 0], .int .i64 2]) (by simp [results, Tryd.results46, go_sem]) rfl ⟨rfl, HT.out⟩
  · have h2 : 65536 < most := by omega
    clear h
    go_enter Tryd.func46, Tryd.ntmps46
    go_wp2
    refine bodyPost_ret (v := .tuple #[.agg #[.slice none 0 0, .int .i64 0, .slice none 0 0], .int .i64 2]) (by simp [results, Tryd.results46, go_sem]) rfl ⟨rfl, HT.out⟩
theorem fresh_alloc (most : Nat) (n : Int) : ∃ s1 p er, (Ar.fresh most).allocA n = (s1, p, er) ∧ s1.L = [] ∧ s1.most = most := by
  unfold Ar.allocA Ar.fresh
  repeat' split
  all_goals exact ⟨_, _, _, rfl, rfl, rfl⟩
set_option maxHeartbeats 2000000 in
theorem New_ref14 (T : List Nat) (w : World) (vc vl : Value) (s : Ar) (h : Led T w w [refT vc vl s]) :
    Calls Tryd.prog 49 #[refV vc s.most vl] w fun e w' => ∃ vc' vl', e = .returned (.tuple #[refV vc' s.most vl', .agg #[.int .i64 ((s.allocA 1).2.1 : Int), .slice none 0 0, .slice none 0 0], .int .i64 ((s.allocA 1).2.2 : Int)]) ∧ Led T w w' [refT vc' vl' (s.allocA 1).1] := by
  obtain ⟨ca, cp, rfl, _, _⟩ := own_val (h.refAt 0 rfl).cel
  obtain ⟨la, lp, rfl, _, _⟩ := own_val (h.refAt 0 rfl).log
  have HL0 := Lib.hid h
  clear h
  unfold refV
  go_enter Tryd.func49, Tryd.ntmps49
  go_wp2_with fail
  refine wp_calls_name ?_
  intro w1 hw1
  have HL1 := Lib.hid (HL0.out.al3 hw1)
  simp only [List.nil_append, List.cons_append] at HL1
  obtain ⟨b3, hb3⟩ : ∃ b, w.heap.size + 1 + 1 = b := ⟨_, rfl⟩
  rw [hb3] at HL1 ⊢
  obtain ⟨b2, hb2⟩ : ∃ b, w.heap.size + 1 = b := ⟨_, rfl⟩
  rw [hb2] at HL1 ⊢
  clear hw1 hb3 hb2 HL0
  refine (HL1.out.refGo 0 rfl (fun T h => rNew3 T _ _ _ s h)).mono ?_
  rintro e w2 ⟨vc', vl', rfl, hL⟩
  obtain ⟨ca1, cp1, rfl, _, _⟩ := own_val (hL.refAt 0 rfl).cel
  obtain ⟨la1, lp1, rfl, _, _⟩ := own_val (hL.refAt 0 rfl).log
  have HL2 := Lib.hid hL
  simp only [List.set_cons_zero, List.set_cons_succ] at HL2
  clear hL HL1
  unfold refV
  obtain ⟨p0, p1, p2, f0, f1, f2, z4, z41, z42⟩ := HL2.out.c3 2 rfl
  obtain ⟨q0, q1, q2, g0, g1, g2, z5, z51, z52⟩ := HL2.out.c3 3 rfl
  have m1 := HL2.out.ne 2 3 rfl rfl (by decide)
  have m2 := Ne.symm m1
  obtain ⟨r, hr⟩ : ∃ r, s.allocA 1 = r := ⟨_, rfl⟩
  rw [hr] at HL2 ⊢
  go_wp2
  refine post_name ?_
  intro w3 hw3
  have HL3 := Lib.hid (((((((HL2.out.set 2 rfl 0 (.slice ca1 r.1.C.length cp1)).set 2 rfl 1 (.int .i64 (s.most : Int))).set 2 rfl 2 (.slice la1 r.1.L.length lp1)).set 3 rfl 0 (.int .i64 (r.2.1 : Int))).set 3 rfl 1 (.slice none 0 0)).set 3 rfl 2 (.slice none 0 0)).al1 hw3)
  simp only [List.set_cons_succ, List.set_cons_zero, List.setIfInBounds_toArray, List.cons_append, List.nil_append] at HL3
  clear hw3 HL2 p0 p1 p2 f0 f1 f2 q0 q1 q2 g0 g1 g2
  obtain ⟨p0, p1, p2, _, _, _, _, _, _⟩ := HL3.out.c3 2 rfl
  obtain ⟨q0, q1, q2, _, _, _, _, _, _⟩ := HL3.out.c3 3 rfl
  refine bodyPost_ret (v := .tuple #[.agg #[.slice ca1 r.1.C.length cp1, .int .i64 (s.most : Int), .slice la1 r.1.L.length lp1], .agg #[.int .i64 (r.2.1 : Int), .slice none 0 0, .slice none 0 0], .int .i64 (r.2.2 : Int)]) (by simp [results, Tryd.results49, go_sem, p0, p1, p2, q0, q1, q2]) rfl ?_
  subst hr
  exact ⟨.slice ca1 _ cp1, .slice la1 _ lp1, rfl, HL3.out.sel [0] rfl (by decide)⟩
/-- made told no. -/
def NotMade (w : World) (e : Ending) (w' : World) : Prop := ∃ (p0 p1 a1 a2 a3 a4 : Option Addr) (n1 k1 n2 k2 n3 k3 n4 k4 : Nat) (m z : Int), e = .returned (.tuple #[.agg #[.pointer p0, .pointer p1, .slice a1 n1 k1, .int .i64 m, .slice a2 n2 k2, .int .i64 z, .slice a3 n3 k3, .slice a4 n4 k4], .bool false]) ∧ Touch [] w w'
/-- What made made. -/
def Made14 (w : World) (e : Ending) (w' : World) : Prop :=
  ∃ (g c M q1 q2 : Nat) (s : Ar) (vc vl : Value) (at_ : Int), e = .returned (.tuple #[.agg (bothC14 g c vc s.most vl at_ none 0 0 none 0 0), .bool true]) ∧ s.L = [] ∧ Led [] w w' (chanL c at_ M q1 q2 [] [] ++ [arena g s, refT vc vl s])
set_option maxHeartbeats 2000000 in
theorem made14_bad (w : World) (most n : Int) (h : most < 1 ∨ 65536 < most) : Calls Tryd.prog 18 #[.int .i64 most, .int .i64 n] w (NotMade w) := by
  go_enter Tryd.func18, Tryd.ntmps18
  go_wp2_with fail
  refine wp_calls_name ?_
  intro w1 hw1
  have HL1 := Lib.hid ((Led.nil' w).al2 hw1)
  simp only [List.nil_append, List.cons_append] at HL1
  obtain ⟨b6, hb6⟩ : ∃ b, w.heap.size + 1 = b := ⟨_, rfl⟩
  rw [hb6] at HL1 ⊢
  obtain ⟨b4, hb4⟩ : ∃ b, w.heap.size = b := ⟨_, rfl⟩
  rw [hb4] at HL1 ⊢
  clear hw1 hb6 hb4
  refine (New_no most w1 h).mono ?_
  rintro e wn ⟨rfl, rfl⟩
  go_wp2_with fail
  refine (refNew14_no most w1 h).mono ?_
  rintro e w3 ⟨rfl, ht⟩
  have HL3 := Lib.hid (HL1.out.touch ht)
  clear ht HL1
  unfold refV
  obtain ⟨x0, x1, x2, x3, x4, x5, x6, x7, ⟨f0, f1, f2, f3, f4, f5, f6, f7⟩, hlx⟩ := HL3.out.c8' 0 rfl
  obtain ⟨y0, y1, y2, y3, y4, y5, y6, y7, ⟨g0, g1, g2, g3, g4, g5, g6, g7⟩, hly⟩ := HL3.out.c8' 1 rfl
  have m1 := HL3.out.ne 0 1 rfl rfl (by decide)
  have m2 := Ne.symm m1
  go_wp2
  refine post_name ?_
  intro w4 hw4
  have HL5 := Lib.hid (((((((((HL3.out.set 0 rfl 0 (.pointer none)).set 0 rfl 1 (.pointer none)).set 0 rfl 2 (.slice none 0 0)).set 0 rfl 3 (.int .i64 0)).set 0 rfl 4 (.slice none 0 0)).set 0 rfl 5 (.int .i64 0)).set 0 rfl 6 (.slice none 0 0)).set 0 rfl 7 (.slice none 0 0)).al1 hw4)
  simp only [List.set_cons_succ, List.set_cons_zero, List.setIfInBounds_toArray, List.cons_append, List.nil_append] at HL5
  clear hw4 HL3 x0 x1 x2 x3 x4 x5 x6 x7
  obtain ⟨x0, x1, x2, x3, x4, x5, x6, x7, _, hlx⟩ := HL5.out.c8' 0 rfl
  refine bodyPost_ret (v := .tuple #[.agg #[.pointer none, .pointer none, .slice none 0 0, .int .i64 0, .slice none 0 0, .int .i64 0, .slice none 0 0, .slice none 0 0], .bool false]) (by simp [results, Tryd.results18, go_sem, x0, x1, x2, x3, x4, x5, x6, x7]) rfl ?_
  exact ⟨_, _, _, _, _, _, _, _, _, _, _, _, _, _, _, _, rfl, HL5.out.tch⟩
set_option maxHeartbeats 4000000 in
theorem made14_ok (w : World) (most : Nat) (n : Int) (h1 : 1 ≤ most) (h2 : most ≤ 65536) (hS : SidesAt w) (s1 : Ar) (p er : Nat) (hs : (Ar.fresh most).allocA n = (s1, p, er)) (hsl : s1.L = []) (hsm : s1.most = most) (hok : s1.C.length + 1 ≤ s1.most) : Calls Tryd.prog 18 #[.int .i64 (most : Int), .int .i64 n] w (Made14 w) := by
  have e1 : (s1.allocA 1).2.1 = s1.C.length ∧ (s1.allocA 1).2.2 = 0 := by unfold Ar.allocA; rw [if_neg (by omega), if_neg (by omega)]; exact ⟨rfl, rfl⟩
  have e2 : (s1.allocA 1).1.L = [] ∧ (s1.allocA 1).1.most = most := by unfold Ar.allocA; rw [if_neg (by omega), if_neg (by omega)]; exact ⟨hsl, hsm⟩
  go_enter Tryd.func18, Tryd.ntmps18
  go_wp2_with fail
  refine wp_calls_name ?_
  intro w1 hw1
  have HL1 := Lib.hid ((Led.nil' w).al2 hw1)
  simp only [List.nil_append, List.cons_append] at HL1
  obtain ⟨b6, hb6⟩ : ∃ b, w.heap.size + 1 = b := ⟨_, rfl⟩
  rw [hb6] at HL1 ⊢
  obtain ⟨b4, hb4⟩ : ∃ b, w.heap.size = b := ⟨_, rfl⟩
  rw [hb4] at HL1 ⊢
  clear hw1 hb6 hb4
  refine (HL1.out.arNew most h1 h2).mono ?_
  rintro e w2 ⟨rfl, hL⟩
  have HL2 := Lib.hid hL
  simp only [List.nil_append, List.cons_append] at HL2
  obtain ⟨g, hg⟩ : ∃ b, w1.heap.size = b := ⟨_, rfl⟩
  rw [hg] at HL2 ⊢
  clear hL HL1 hg
  go_wp2_with fail
  refine (refNew14 most w2 h1 h2).mono ?_
  rintro e w3 ⟨rfl, ht⟩
  have HL3 := Lib.hid (refT_nil (HL2.out.touch ht) most h2)
  simp only [List.nil_append, List.cons_append] at HL3
  clear ht HL2
  unfold refV
  go_wp2_with fail
  refine wp_calls_name ?_
  intro w4 hw4
  have HL4 := Lib.hid (HL3.out.al1 hw4)
  simp only [List.nil_append, List.cons_append] at HL4
  obtain ⟨b9, hb9⟩ : ∃ b, w3.heap.size = b := ⟨_, rfl⟩
  rw [hb9] at HL4 ⊢
  clear hw4 hb9 HL3
  refine (num14 _ _).mono ?_
  rintro e wn ⟨rfl, rfl⟩
  obtain ⟨p0, p1, p2, f0, f1, f2, z4, z41, z42⟩ := HL4.out.c3 4 rfl
  go_wp2_with fail
  refine (HL4.out.ar 2 rfl (fun fp hI => Alloc_any w4 g fp (Ar.fresh most) n hI)).mono ?_
  rintro e w5 ⟨rfl, hL⟩
  rw [hs] at hL ⊢
  have HL5 := Lib.hid hL
  simp only [List.set_cons_succ, List.set_cons_zero] at HL5
  clear hL HL4 p0 p1 p2 f0 f1 f2 z4 z41 z42
  obtain ⟨p0, p1, p2, f0, f1, f2, z4, z41, z42⟩ := HL5.out.c3 4 rfl
  go_wp2_with fail
  refine (HL5.out.refAlloc 3 rfl n).mono ?_
  rintro e w6 ⟨vc', rfl, hL⟩
  rw [show (⟨[], most, []⟩ : Ar).allocA n = (s1, p, er) from hs] at hL ⊢
  obtain ⟨ca, cp, rfl, _, _⟩ := own_val (hL.refAt 3 rfl).cel
  have HL6 := Lib.hid hL
  simp only [List.set_cons_succ, List.set_cons_zero] at HL6
  clear hL HL5 p0 p1 p2 f0 f1 f2 z4 z41 z42
  unfold refV
  obtain ⟨p0, p1, p2, f0, f1, f2, z4, z41, z42⟩ := HL6.out.c3 4 rfl
  go_wp2_with fail
  refine wp_calls_name ?_
  intro w7 hw7
  have HL7 := Lib.hid ((((HL6.out.set 4 rfl 0 (.slice ca s1.C.length cp)).set 4 rfl 1 (.int .i64 most)).set 4 rfl 2 (.slice none 0 0)).to14 hw7)
  simp only [List.set_cons_succ, List.set_cons_zero, List.setIfInBounds_toArray, List.cons_append, List.nil_append] at HL7
  clear hw7 HL6 p0 p1 p2 f0 f1 f2 z4 z41 z42
  refine (HL7.out.chNew 2 rfl (fun W hW => hS.touch hW.tch) hok).mono ?_
  rintro e w8 ⟨c, M, u1, u2, rfl, hL⟩
  have HL8 := Lib.hid hL
  simp only [chanL, List.set_cons_succ, List.set_cons_zero, List.cons_append, List.nil_append] at HL8
  clear hL HL7
  obtain ⟨p0, p1, p2, f0, f1, f2, z4, z41, z42⟩ := HL8.out.c3 4 rfl
  go_wp2_with fail
  obtain ⟨T', h1', hb⟩ := HL8.out.frame1 3 rfl
  have HRN := Lib.hid (New_ref14 T' w8 _ _ s1 h1')
  rw [hsm, e1.1, e1.2] at HRN
  refine HRN.out.mono ?_
  rintro e w9 ⟨vc2, vl2, rfl, hL⟩
  have HL9 := Lib.hid (hb _ _ [] hL)
  obtain ⟨ca2, cp2, rfl, _, _⟩ := own_val (HL9.out.refAt 3 rfl).cel
  obtain ⟨la2, lp2, rfl, _, _⟩ := own_val (HL9.out.refAt 3 rfl).log
  simp only [List.set_cons_succ, List.set_cons_zero, List.cons_append, List.nil_append] at HL9
  clear hL hb h1' HL8 p0 p1 p2 f0 f1 f2 z4 z41 z42 HRN
  unfold refV
  obtain ⟨s2, hs2⟩ : ∃ s2, (s1.allocA 1).1 = s2 := ⟨_, rfl⟩
  rw [hs2] at HL9 ⊢
  obtain ⟨p0, p1, p2, f0, f1, f2, z4, z41, z42⟩ := HL9.out.c3 4 rfl
  go_upto_region 10 with fail
  refine wp_name ?_
  intro wA hwA
  have HLA := Lib.hid (((((HL9.out.set 4 rfl 0 (.slice ca2 s2.C.length cp2)).set 4 rfl 1 (.int .i64 most)).set 4 rfl 2 (.slice la2 s2.L.length lp2)).alloc 61 #[.int .i64 (s1.C.length : Int), .slice none 0 0, .slice none 0 0]).to14 hwA)
  simp only [List.set_cons_succ, List.set_cons_zero, List.setIfInBounds_toArray, List.cons_append, List.nil_append] at HLA
  obtain ⟨b13, hb13⟩ : ∃ b, w9.heap.size = b := ⟨_, rfl⟩
  simp only [World.size_setCell, hb13] at HLA ⊢
  clear hwA hb13 HL9 p0 p1 p2 f0 f1 f2 z4 z41 z42
  have HLs := Lib.hid (((((((((HLA.out.set 0 rfl 0 (.pointer (some ⟨g, 0, none⟩))).set 0 rfl 1 (.pointer (some ⟨c, 0, none⟩))).set 0 rfl 2 (.slice ca2 s2.C.length cp2)).set 0 rfl 3 (.int .i64 most)).set 0 rfl 4 (.slice la2 s2.L.length lp2)).set 0 rfl 5 (.int .i64 (s1.C.length : Int))).set 0 rfl 6 (.slice none 0 0)).set 0 rfl 7 (.slice none 0 0))).drew
  simp only [List.set_cons_succ, List.set_cons_zero, List.setIfInBounds_toArray, List.cons_append, List.nil_append] at HLs
  obtain ⟨p0, p1, p2, f0, f1, f2, z4, z41, z42⟩ := HLA.out.c3 4 rfl
  obtain ⟨q0, q1, q2, g0, g1, g2, z5, z51, z52⟩ := HLA.out.c3 9 rfl
  obtain ⟨y0, y1, y2, y3, y4, y5, y6, y7, ⟨fy0, fy1, fy2, fy3, fy4, fy5, fy6, fy7⟩, hlx⟩ := HLA.out.c8' 0 rfl
  have m1 := HLA.out.ne 0 4 rfl rfl (by decide)
  have m2 := Ne.symm m1
  have m3 := HLA.out.ne 0 9 rfl rfl (by decide)
  have m4 := Ne.symm m3
  go_wp2_with fail
  go_region_held3 (fun w' => (w'.cell? ⟨b9, 0, none⟩ = some (.slice ca2 s2.C.length cp2) ∧ w'.cell? ⟨b9, 1, none⟩ = some (.int .i64 most) ∧ w'.cell? ⟨b9, 2, none⟩ = some (.slice la2 s2.L.length lp2)) ∧ w'.cell? ⟨b13, 0, none⟩ = some (.int .i64 (s1.C.length : Int)) ∧ w'.cell? ⟨b13, 1, none⟩ = some (.slice none 0 0) ∧ w'.cell? ⟨b13, 2, none⟩ = some (.slice none 0 0)) (go_keep) (first
    | (go_at_call 10; refine (num14 _ _).mono ?_; rintro e wn ⟨rfl, rfl⟩))
  rename_i hHeld
  clear hHeld y0 y1 y2 y3 y4 y5 y6 y7 fy0 fy1 fy2 fy3 fy4 fy5 fy6 fy7 hlx p0 p1 p2 f0 f1 f2 z4 z41 z42 q0 q1 q2 g0 g1 g2 z5 z51 z52 HLA
  go_wp2
  refine post_name ?_
  intro wB hwB
  have HLB := Lib.hid (HLs.out.to14 hwB)
  clear hwB HLs
  obtain ⟨y0, y1, y2, y3, y4, y5, y6, y7, _, _⟩ := HLB.out.c8' 0 rfl
  refine bodyPost_ret (v := .tuple #[.agg #[.pointer (some ⟨g, 0, none⟩), .pointer (some ⟨c, 0, none⟩), .slice ca2 s2.C.length cp2, .int .i64 most, .slice la2 s2.L.length lp2, .int .i64 (s1.C.length : Int), .slice none 0 0, .slice none 0 0], .bool true]) (by simp [results, Tryd.results18, go_sem, y0, y1, y2, y3, y4, y5, y6, y7]) rfl ?_
  rw [hs2] at e2
  refine ⟨g, c, M, u1, u2, s2, _, _, _, by rw [e2.2]; rfl, e2.1, HLB.out.sel [5, 6, 7, 8, 2, 3] rfl (by decide)⟩
set_option maxHeartbeats 4000000 in
theorem made14_full (w : World) (most : Nat) (n : Int) (h1 : 1 ≤ most) (h2 : most ≤ 65536) (s1 : Ar) (p er : Nat) (hs : (Ar.fresh most).allocA n = (s1, p, er)) (hsm : s1.most = most) (hok : ¬ s1.C.length + 1 ≤ s1.most) (hle : s1.C.length ≤ s1.most) : Calls Tryd.prog 18 #[.int .i64 (most : Int), .int .i64 n] w (NotMade w) := by
  have e1 : (s1.allocA 1).2.1 = 0 ∧ (s1.allocA 1).2.2 = 6 := by unfold Ar.allocA; rw [if_neg (by omega), if_pos (by omega)]; exact ⟨rfl, rfl⟩
  go_enter Tryd.func18, Tryd.ntmps18
  go_wp2_with fail
  refine wp_calls_name ?_
  intro w1 hw1
  have HL1 := Lib.hid ((Led.nil' w).al2 hw1)
  simp only [List.nil_append, List.cons_append] at HL1
  obtain ⟨b6, hb6⟩ : ∃ b, w.heap.size + 1 = b := ⟨_, rfl⟩
  rw [hb6] at HL1 ⊢
  obtain ⟨b4, hb4⟩ : ∃ b, w.heap.size = b := ⟨_, rfl⟩
  rw [hb4] at HL1 ⊢
  clear hw1 hb6 hb4
  refine (HL1.out.arNew most h1 h2).mono ?_
  rintro e w2 ⟨rfl, hL⟩
  have HL2 := Lib.hid hL
  simp only [List.nil_append, List.cons_append] at HL2
  obtain ⟨g, hg⟩ : ∃ b, w1.heap.size = b := ⟨_, rfl⟩
  rw [hg] at HL2 ⊢
  clear hL HL1 hg
  go_wp2_with fail
  refine (refNew14 most w2 h1 h2).mono ?_
  rintro e w3 ⟨rfl, ht⟩
  have HL3 := Lib.hid (refT_nil (HL2.out.touch ht) most h2)
  simp only [List.nil_append, List.cons_append] at HL3
  clear ht HL2
  unfold refV
  go_wp2_with fail
  refine wp_calls_name ?_
  intro w4 hw4
  have HL4 := Lib.hid (HL3.out.al1 hw4)
  simp only [List.nil_append, List.cons_append] at HL4
  obtain ⟨b9, hb9⟩ : ∃ b, w3.heap.size = b := ⟨_, rfl⟩
  rw [hb9] at HL4 ⊢
  clear hw4 hb9 HL3
  refine (num14 _ _).mono ?_
  rintro e wn ⟨rfl, rfl⟩
  obtain ⟨p0, p1, p2, f0, f1, f2, z4, z41, z42⟩ := HL4.out.c3 4 rfl
  go_wp2_with fail
  refine (HL4.out.ar 2 rfl (fun fp hI => Alloc_any w4 g fp (Ar.fresh most) n hI)).mono ?_
  rintro e w5 ⟨rfl, hL⟩
  rw [hs] at hL ⊢
  have HL5 := Lib.hid hL
  simp only [List.set_cons_succ, List.set_cons_zero] at HL5
  clear hL HL4 p0 p1 p2 f0 f1 f2 z4 z41 z42
  obtain ⟨p0, p1, p2, f0, f1, f2, z4, z41, z42⟩ := HL5.out.c3 4 rfl
  go_wp2_with fail
  refine (HL5.out.refAlloc 3 rfl n).mono ?_
  rintro e w6 ⟨vc', rfl, hL⟩
  rw [show (⟨[], most, []⟩ : Ar).allocA n = (s1, p, er) from hs] at hL ⊢
  obtain ⟨ca, cp, rfl, _, _⟩ := own_val (hL.refAt 3 rfl).cel
  have HL6 := Lib.hid hL
  simp only [List.set_cons_succ, List.set_cons_zero] at HL6
  clear hL HL5 p0 p1 p2 f0 f1 f2 z4 z41 z42
  unfold refV
  obtain ⟨p0, p1, p2, f0, f1, f2, z4, z41, z42⟩ := HL6.out.c3 4 rfl
  go_wp2_with fail
  refine wp_calls_name ?_
  intro w7 hw7
  have HL7 := Lib.hid ((((HL6.out.set 4 rfl 0 (.slice ca s1.C.length cp)).set 4 rfl 1 (.int .i64 most)).set 4 rfl 2 (.slice none 0 0)).to14 hw7)
  simp only [List.set_cons_succ, List.set_cons_zero, List.setIfInBounds_toArray, List.cons_append, List.nil_append] at HL7
  clear hw7 HL6 p0 p1 p2 f0 f1 f2 z4 z41 z42
  refine (HL7.out.chNew_full 2 rfl hok).mono ?_
  rintro e w8 ⟨rfl, hL⟩
  have HL8 := Lib.hid hL
  simp only [chanL, List.set_cons_succ, List.set_cons_zero, List.cons_append, List.nil_append] at HL8
  clear hL HL7
  obtain ⟨p0, p1, p2, f0, f1, f2, z4, z41, z42⟩ := HL8.out.c3 4 rfl
  go_wp2_with fail
  obtain ⟨T', h1', hb⟩ := HL8.out.frame1 3 rfl
  have HRN := Lib.hid (New_ref14 T' w8 _ _ s1 h1')
  rw [hsm, e1.1, e1.2] at HRN
  refine HRN.out.mono ?_
  rintro e w9 ⟨vc2, vl2, rfl, hL⟩
  have HL9 := Lib.hid (hb _ _ [] hL)
  obtain ⟨ca2, cp2, rfl, _, _⟩ := own_val (HL9.out.refAt 3 rfl).cel
  obtain ⟨la2, lp2, rfl, _, _⟩ := own_val (HL9.out.refAt 3 rfl).log
  simp only [List.set_cons_succ, List.set_cons_zero, List.cons_append, List.nil_append] at HL9
  clear hL hb h1' HL8 p0 p1 p2 f0 f1 f2 z4 z41 z42 HRN
  unfold refV
  obtain ⟨s2, hs2⟩ : ∃ s2, (s1.allocA 1).1 = s2 := ⟨_, rfl⟩
  rw [hs2] at HL9 ⊢
  obtain ⟨p0, p1, p2, f0, f1, f2, z4, z41, z42⟩ := HL9.out.c3 4 rfl
  go_upto_region 10 with fail
  refine wp_name ?_
  intro wA hwA
  have HLA := Lib.hid (((((HL9.out.set 4 rfl 0 (.slice ca2 s2.C.length cp2)).set 4 rfl 1 (.int .i64 most)).set 4 rfl 2 (.slice la2 s2.L.length lp2)).alloc 61 #[.int .i64 ((0 : Nat) : Int), .slice none 0 0, .slice none 0 0]).to14 hwA)
  simp only [List.set_cons_succ, List.set_cons_zero, List.setIfInBounds_toArray, List.cons_append, List.nil_append] at HLA
  obtain ⟨b13, hb13⟩ : ∃ b, w9.heap.size = b := ⟨_, rfl⟩
  simp only [World.size_setCell, hb13] at HLA ⊢
  clear hwA hb13 HL9 p0 p1 p2 f0 f1 f2 z4 z41 z42
  have HLs := Lib.hid (((((((((HLA.out.set 0 rfl 0 (.pointer (some ⟨g, 0, none⟩))).set 0 rfl 1 (.pointer none)).set 0 rfl 2 (.slice ca2 s2.C.length cp2)).set 0 rfl 3 (.int .i64 most)).set 0 rfl 4 (.slice la2 s2.L.length lp2)).set 0 rfl 5 (.int .i64 ((0 : Nat) : Int))).set 0 rfl 6 (.slice none 0 0)).set 0 rfl 7 (.slice none 0 0))).drew
  simp only [List.set_cons_succ, List.set_cons_zero, List.setIfInBounds_toArray, List.cons_append, List.nil_append] at HLs
  obtain ⟨p0, p1, p2, f0, f1, f2, z4, z41, z42⟩ := HLA.out.c3 4 rfl
  obtain ⟨q0, q1, q2, g0, g1, g2, z5, z51, z52⟩ := HLA.out.c3 5 rfl
  obtain ⟨y0, y1, y2, y3, y4, y5, y6, y7, ⟨fy0, fy1, fy2, fy3, fy4, fy5, fy6, fy7⟩, hlx⟩ := HLA.out.c8' 0 rfl
  have m1 := HLA.out.ne 0 4 rfl rfl (by decide)
  have m2 := Ne.symm m1
  have m3 := HLA.out.ne 0 5 rfl rfl (by decide)
  have m4 := Ne.symm m3
  go_wp2_with fail
  refine wp_region_held_drew (S := fun w' => (w'.cell? ⟨b9, 0, none⟩ = some (.slice ca2 s2.C.length cp2) ∧ w'.cell? ⟨b9, 1, none⟩ = some (.int .i64 most) ∧ w'.cell? ⟨b9, 2, none⟩ = some (.slice la2 s2.L.length lp2)) ∧ w'.cell? ⟨b13, 0, none⟩ = some (.int .i64 ((0 : Nat) : Int)) ∧ w'.cell? ⟨b13, 1, none⟩ = some (.slice none 0 0) ∧ w'.cell? ⟨b13, 2, none⟩ = some (.slice none 0 0)) (by kernel_rfl) ?_ (fun hHeld => ?_)
  · (try dsimp only)
    go_keep
  refine wpAnyH_takeD (i := 0) (d := some 54) (v := ?_) rfl rfl (by kernel_rfl) (by kernel_rfl) (by kernel_rfl) (fun _ _ _ h => h) (Or.inl ⟨by rfl, ?_⟩) (by assumption) ?_
  rotate_left
  · intro w hSw
    (try dsimp only at hSw)
    first | (go_simp; done) | (go_simp; with_reducible rfl)
  (try simp only [Act.put, List.setIfInBounds_toArray, List.set_cons_zero, List.set_cons_succ])
  refine wpAnyH_takeD (i := 1) (d := some 55) (v := ?_) rfl rfl (by kernel_rfl) (by kernel_rfl) (by kernel_rfl) (fun _ _ _ h => h) (Or.inl ⟨by rfl, ?_⟩) (by assumption) ?_
  rotate_left
  · intro w hSw
    (try dsimp only at hSw)
    first | (go_simp; done) | (go_simp; with_reducible rfl)
  (try simp only [Act.put, List.setIfInBounds_toArray, List.set_cons_zero, List.set_cons_succ])
  refine wpAnyH_takeD (i := 2) (d := some 56) (v := ?_) rfl rfl (by kernel_rfl) (by kernel_rfl) (by kernel_rfl) (fun _ _ _ h => h) (Or.inl ⟨by rfl, ?_⟩) (by assumption) ?_
  rotate_left
  · intro w hSw
    (try dsimp only at hSw)
    first | (go_simp; done) | (go_simp; with_reducible rfl)
  (try simp only [Act.put, List.setIfInBounds_toArray, List.set_cons_zero, List.set_cons_succ])
  refine wpAnyH_takeD (i := 3) (d := some 57) (v := ?_) rfl rfl (by kernel_rfl) (by kernel_rfl) (by kernel_rfl) (fun _ _ _ h => h) (Or.inl ⟨by rfl, ?_⟩) (by assumption) ?_
  rotate_left
  · intro w hSw
    (try dsimp only at hSw)
    first | (go_simp; done) | (go_simp; with_reducible rfl)
  (try simp only [Act.put, List.setIfInBounds_toArray, List.set_cons_zero, List.set_cons_succ])
  refine wpAnyH_takeD (i := 4) (d := some 58) (v := ?_) rfl rfl (by kernel_rfl) (by kernel_rfl) (by kernel_rfl) (fun _ _ _ h => h) (Or.inl ⟨by rfl, ?_⟩) (by assumption) ?_
  rotate_left
  · intro w hSw
    (try dsimp only at hSw)
    first | (go_simp; done) | (go_simp; with_reducible rfl)
  (try simp only [Act.put, List.setIfInBounds_toArray, List.set_cons_zero, List.set_cons_succ])
  refine wpAnyH_takeD (i := 5) (d := some 59) (v := ?_) rfl rfl (by kernel_rfl) (by kernel_rfl) (by kernel_rfl) (fun _ _ _ h => h) (Or.inl ⟨by rfl, ?_⟩) (by assumption) ?_
  rotate_left
  · intro w hSw
    (try dsimp only at hSw)
    first | (go_simp; done) | (go_simp; with_reducible rfl)
  (try simp only [Act.put, List.setIfInBounds_toArray, List.set_cons_zero, List.set_cons_succ])
  refine wpAnyH_takeD (i := 6) (d := some 60) (v := ?_) rfl rfl (by kernel_rfl) (by kernel_rfl) (by kernel_rfl) (fun _ _ _ h => h) (Or.inl ⟨by rfl, ?_⟩) (by assumption) ?_
  rotate_left
  · intro w hSw
    (try dsimp only at hSw)
    first | (go_simp; done) | (go_simp; with_reducible rfl)
  (try simp only [Act.put, List.setIfInBounds_toArray, List.set_cons_zero, List.set_cons_succ])
  refine wpAnyH_takeD (i := 7) (d := some 61) (v := ?_) rfl rfl (by kernel_rfl) (by kernel_rfl) (by kernel_rfl) (fun _ _ _ h => h) (Or.inl ⟨by rfl, ?_⟩) (by assumption) ?_
  rotate_left
  · intro w hSw
    (try dsimp only at hSw)
    first | (go_simp; done) | (go_simp; with_reducible rfl)
  (try simp only [Act.put, List.setIfInBounds_toArray, List.set_cons_zero, List.set_cons_succ])
  refine wpAnyH_takeD (i := 8) (d := some 62) (v := undef) rfl rfl (by kernel_rfl) (by kernel_rfl) (by kernel_rfl) (fun _ _ _ h => h) (Or.inr ⟨by rfl, rfl⟩) (by assumption) ?_
  (try simp only [Act.put, List.setIfInBounds_toArray, List.set_cons_zero, List.set_cons_succ])
  refine wpAnyH_takeD (i := 9) (d := some 63) (v := undef) rfl rfl (by kernel_rfl) (by kernel_rfl) (by kernel_rfl) (fun _ _ _ h => h) (Or.inr ⟨by rfl, rfl⟩) (by assumption) ?_
  (try simp only [Act.put, List.setIfInBounds_toArray, List.set_cons_zero, List.set_cons_succ])
  refine wpAnyH_takeD (i := 10) (d := some 64) (v := undef) rfl rfl (by kernel_rfl) (by kernel_rfl) (by kernel_rfl) (fun _ _ _ h => h) (Or.inr ⟨by rfl, rfl⟩) (by assumption) ?_
  (try simp only [Act.put, List.setIfInBounds_toArray, List.set_cons_zero, List.set_cons_succ])
  refine wpAnyH_takeD (i := 11) (d := some 65) (v := ?_) rfl rfl (by kernel_rfl) (by kernel_rfl) (by kernel_rfl) (fun _ _ _ h => h) (Or.inl ⟨by rfl, ?_⟩) (by assumption) ?_
  rotate_left
  · intro w hSw
    (try dsimp only at hSw)
    first | (go_simp; done) | (go_simp; with_reducible rfl)
  (try simp only [Act.put, List.setIfInBounds_toArray, List.set_cons_zero, List.set_cons_succ])
  refine wpAnyH_ready (rs := [12]) (by kernel_rfl) (by simp) ?_
  refine AllReadyH.cons rfl (fun K hK => ?_) AllReadyH.nil
  go_simp
  refine hK.out _ _ ?_ (fun hHeld => ?_)
  · (try dsimp only)
    go_keep
  clear hK K
  (try simp only [Act.put, List.setIfInBounds_toArray, List.set_cons_zero, List.set_cons_succ])
  refine wpAnyH_takeD (i := 13) (d := some 5) (v := ?_) rfl rfl (by kernel_rfl) (by kernel_rfl) (by kernel_rfl) (fun _ _ _ h => h) (Or.inl ⟨by rfl, ?_⟩) (by assumption) ?_
  rotate_left
  · intro w hSw
    (try dsimp only at hSw)
    first | (go_simp; done) | (go_simp; with_reducible rfl)
  (try simp only [Act.put, List.setIfInBounds_toArray, List.set_cons_zero, List.set_cons_succ])
  refine wpAnyH_done (by kernel_rfl) ?_ _
  clear hHeld y0 y1 y2 y3 y4 y5 y6 y7 fy0 fy1 fy2 fy3 fy4 fy5 fy6 fy7 hlx p0 p1 p2 f0 f1 f2 z4 z41 z42 q0 q1 q2 g0 g1 g2 z5 z51 z52 HLA
  go_wp2
  refine post_name ?_
  intro wB hwB
  have HLB := Lib.hid (HLs.out.to14 hwB)
  clear hwB HLs
  obtain ⟨y0, y1, y2, y3, y4, y5, y6, y7, _, _⟩ := HLB.out.c8' 0 rfl
  refine bodyPost_ret (v := .tuple #[.agg #[.pointer (some ⟨g, 0, none⟩), .pointer none, .slice ca2 s2.C.length cp2, .int .i64 most, .slice la2 s2.L.length lp2, .int .i64 ((0 : Nat) : Int), .slice none 0 0, .slice none 0 0], .bool false]) (by simp [results, Tryd.results18, go_sem, y0, y1, y2, y3, y4, y5, y6, y7]) rfl ?_
  exact ⟨_, _, _, _, _, _, _, _, _, _, _, _, _, _, _, _, rfl, HLB.out.tch⟩
theorem made14 (w : World) (most n : Int) (hS : SidesAt w) : Calls Tryd.prog 18 #[.int .i64 most, .int .i64 n] w fun e w' => NotMade w e w' ∨ Made14 w e w' := by
  by_cases hb : most < 1 ∨ 65536 < most
  · exact (made14_bad w most n hb).mono fun _ _ h => .inl h
  · obtain ⟨m, rfl⟩ := Int.eq_ofNat_of_zero_le (show 0 ≤ most by omega)
    obtain ⟨s1, p, er, hs, hl, hm⟩ := fresh_alloc m n
    by_cases hok : s1.C.length + 1 ≤ s1.most
    · exact (made14_ok w m n (by omega) (by omega) hS s1 p er hs hl hm hok).mono fun _ _ h => .inr h
    · have hle : s1.C.length ≤ s1.most := by
        have h2 := congrArg Prod.fst hs
        unfold Ar.allocA Ar.fresh at h2
        dsimp only at h2
        split at h2
        · subst h2; simp
        · split at h2
          · subst h2; simp
          · subst h2; simp at *; omega
      exact (made14_full w m n (by omega) (by omega) s1 p er hs hm hok hle).mono fun _ _ h => .inl h
theorem made14_9 (w : World) (hS : SidesAt w) : Calls Tryd.prog 18 #[.int .i64 9, .int .i64 0] w (Made14 w) :=
  made14_ok w 9 0 (by omega) (by omega) hS (Ar.fresh 9) 0 0 (by simp [Ar.allocA, Ar.fresh]) rfl rfl (by simp [Ar.fresh])
end Go.Proofs.YtihmbgdkllmkaaaDoor

/-
  ChannelPlays (betrothallaw14/law.go): its walk: for all calls and both numbers it returns true, and nothing that was there has turned.
-/
namespace Go.Proofs.YtihmbgdkllmkaaaDoor
open Go.RowKit Go.Shelf
set_option maxRecDepth 100000
set_option linter.unusedVariables false
set_option linter.unusedSimpArgs false

theorem MT.In.old14 {w W : World} {t : MT} (h : t.In w) (ho : Old w W) : t.In W := h.keep (fun k hk => ho k (h.lt k hk))
theorem SidesAt.old {w W : World} (h : SidesAt w) (ho : Old w W) : SidesAt W := by
  have hlt : 0 < w.heap.size := World.block_lt_of_cell? _ _ h.1
  have he := ho _ hlt
  have hc : ∀ j, W.cell? ⟨0, j, none⟩ = w.cell? ⟨0, j, none⟩ := fun j => by simp [World.cell?, he]
  exact ⟨(hc 0).trans h.1, (hc 1).trans h.2⟩
/-- Any call, in a greater ledger. -/
theorem Led.act14' {T : List Nat} {w0 w : World} {P : World → Prop} {c : Nat} {at_ : Int} {M q1 q2 bx g : Nat} {es1 es2 rs1 rs2 : List ME} {a1 : Option Addr} {c1 : Nat} {a2 : Option Addr} {c2 : Nat} {s : Ar} {vc vl : Value} {r : List Thing} {N : Nat} (h : Led T w0 w (L14 c at_ M q1 q2 es1 es2 P bx g s vc vl a1 rs1.length c1 a2 rs2.length c2 ++ r)) (x : C4) (hB1 : Both13 P es1 rs1 a1 c1) (hB2 : Both13 P es2 rs2 a2 c2) (hS : ∀ W, P W → SidesAt W) (hL : s.L.length ≤ N) (hN : N < 1000000) (hx : x.e.v.nodes ≤ 20 ∧ ∀ W, P W → x.e.v.In W) :
    Calls Tryd.prog 19 #[.pointer (some ⟨bx, 0, none⟩), x.val] w fun e w' => ∃ (c' M' q1' q2' : Nat) (fs1 fs2 ss1 ss2 : List ME) (b1 : Option Addr) (d1 : Nat) (b2 : Option Addr) (d2 : Nat) (P' : World → Prop) (s' : Ar) (vc' vl' : Value), e = .returned (.bool true) ∧ Both13 P' fs1 ss1 b1 d1 ∧ Both13 P' fs2 ss2 b2 d2 ∧ (∀ W, P' W → P W) ∧ s'.L.length ≤ N + 1 ∧ Led T w0 w' (L14 c' at_ M' q1' q2' fs1 fs2 P' bx g s' vc' vl' b1 ss1.length d1 b2 ss2.length d2 ++ r) := by
  obtain ⟨T', h1, hb⟩ := h.frameFront
  refine (act14_any T' w P c at_ M q1 q2 bx g es1 es2 rs1 rs2 a1 c1 a2 c2 s vc vl N x h1 hB1 hB2 hS hx hL hN).mono ?_
  rintro e w' ⟨s', hs', vc', vl', c', M', q1', q2', fs1, fs2, ss1, ss2, b1, d1, b2, d2, P', rfl, hB1', hB2', hP, hL'⟩
  exact ⟨c', M', q1', q2', fs1, fs2, ss1, ss2, b1, d1, b2, d2, P', s', vc', vl', rfl, hB1', hB2', hP, hs', hb _ _ hL'⟩
theorem Led.is14' {T : List Nat} {w0 w : World} {P : World → Prop} {c : Nat} {at_ : Int} {M q1 q2 bx g : Nat} {es1 es2 rs1 rs2 : List ME} {a1 : Option Addr} {c1 : Nat} {a2 : Option Addr} {c2 : Nat} {s : Ar} {vc vl : Value} {r : List Thing} {N : Nat} (h : Led T w0 w (L14 c at_ M q1 q2 es1 es2 P bx g s vc vl a1 rs1.length c1 a2 rs2.length c2 ++ r)) (hB1 : Both13 P es1 rs1 a1 c1) (hB2 : Both13 P es2 rs2 a2 c2) (hS : ∀ W, P W → SidesAt W) (hL : s.L.length ≤ N) (hN : N < 1000000) (z : Int) (hz : 0 ≤ z ∧ z ≤ 10000) :
    Calls Tryd.prog 20 #[.pointer (some ⟨bx, 0, none⟩), .int .i64 z] w fun e w' => e = .returned (.bool true) ∧ Touch [] w w' := by
  obtain ⟨many, rfl⟩ := Int.eq_ofNat_of_zero_le hz.1
  obtain ⟨T', h1, hb⟩ := h.frameFront
  exact is14 T' w P c at_ M q1 q2 bx g es1 es2 rs1 rs2 a1 c1 a2 c2 s vc vl N many h1 hB1 hB2 hS hL hN (by omega)
theorem C4sAt.load {w : World} {a : Option Addr} {l : List C4} (h : C4sAt w a l) (k : Nat) (hk : k < l.length) : ∃ b o, a = some ⟨b, o, none⟩ ∧ b < w.heap.size ∧
    w.cell? ⟨b, o + k * 10, none⟩ = some (.int .i64 l[k].what) ∧ w.cell? ⟨b, o + k * 10 + 1, none⟩ = some (.int .i64 l[k].side) ∧ w.cell? ⟨b, o + k * 10 + 2, none⟩ = some (.int .i64 l[k].i) ∧ w.cell? ⟨b, o + k * 10 + 3, none⟩ = some (.int .i64 l[k].e.sync) ∧ w.cell? ⟨b, o + k * 10 + 4, none⟩ = some (.int .i64 l[k].e.thread) ∧ w.cell? ⟨b, o + k * 10 + 5, none⟩ = some (.int .i64 l[k].e.branch) ∧ w.cell? ⟨b, o + k * 10 + 6, none⟩ = some (.int .i64 l[k].e.flag) ∧ w.cell? ⟨b, o + k * 10 + 7, none⟩ = some (.int .i64 l[k].e.v.kind) ∧ w.cell? ⟨b, o + k * 10 + 8, none⟩ = some (.int .i64 l[k].e.v.num) ∧ w.cell? ⟨b, o + k * 10 + 9, none⟩ = some (.slice l[k].e.v.addr l[k].e.v.parts.length l[k].e.v.cap) := by
  obtain ⟨b, o, ha, hb, c0, cs, ci, c1, c2, c3, c4, c5, c6, c7⟩ := h k hk
  exact ⟨b, o, ha, hb, c0, cs, ci, c1, c2, c3, c4, c5, c6, c7⟩
set_option maxHeartbeats 8000000 in
theorem channelPlays_any (w : World) (most ahead : Int) (a0 : Option Addr) (c0 : Nat) (l : List C4) (ha : C4sAt w a0 l) (hin : ∀ x ∈ l, x.e.v.In w ∧ x.e.v.nodes ≤ 1048576) (hl : l.length ≤ 9223372036854775807) (hS : SidesAt w) :
    Calls Tryd.prog 4 #[.int .i64 most, .int .i64 ahead, .slice a0 l.length c0] w fun e w' => e = .returned (.bool true) ∧ Below w.heap.size w w' := by
  have HA := Lib.hid ha
  have HI := Lib.hid hin
  have HSW : Hid (∀ W, Old w W → SidesAt W) := fun W hW => hS.old hW
  have HO : Hid (∀ W, Old w W → Old w W) := fun W hW => hW
  have HL0 := Lib.hid (Led.old0 w)
  generalize hTT : List.range w.heap.size = T at HL0
  clear ha hin hTT hS
  have HF := Lib.hid (few14 w a0 c0 l 50 hl HA.out HI.out)
  by_cases hb0 : ahead < 0
  · go_enter Tryd.func4, Tryd.ntmps4
    go_wp2_with fail
    refine (works14 _ (HSW.out _ (HO.out _ (HL0.out.still 0 rfl)))).mono ?_
    rintro e w9 ⟨rfl, ht⟩
    have HL9 := Lib.hid (HL0.out.touch ht)
    clear ht
    go_wp2
    go_ret
    exact ⟨rfl, (HL9.out.oldTouch (HO.out _ (HL9.out.still 0 rfl))).below⟩
  by_cases hb1 : 20 < ahead
  · go_enter Tryd.func4, Tryd.ntmps4
    go_wp2_with fail
    refine (works14 _ (HSW.out _ (HO.out _ (HL0.out.still 0 rfl)))).mono ?_
    rintro e w9 ⟨rfl, ht⟩
    have HL9 := Lib.hid (HL0.out.touch ht)
    clear ht
    go_wp2
    go_ret
    exact ⟨rfl, (HL9.out.oldTouch (HO.out _ (HL9.out.still 0 rfl))).below⟩
  go_enter Tryd.func4, Tryd.ntmps4
  go_wp2_with fail
  refine HF.out.mono ?_
  rintro e w1 ⟨cc, rfl, hcc, ht⟩
  have HL1 := Lib.hid (HL0.out.touch ht)
  have HCC := Lib.hid hcc
  clear hcc ht HL0 HF
  cases cc with
  | false =>
    go_wp2_with fail
    refine (works14 _ (HSW.out _ (HO.out _ (HL1.out.still 0 rfl)))).mono ?_
    rintro e w9 ⟨rfl, ht⟩
    have HL9 := Lib.hid (HL1.out.touch ht)
    clear ht
    go_wp2
    go_ret
    exact ⟨rfl, (HL9.out.oldTouch (HO.out _ (HL9.out.still 0 rfl))).below⟩
  | true =>
    have HFW := Lib.hid (HCC.out.1 rfl).2
    have hl50 : l.length ≤ 50 := by have := (HCC.out.1 rfl).1; omega
    clear HCC
    go_wp2_with fail
    refine (made14 w1 most ahead (HSW.out _ (HL1.out.still 0 rfl))).mono ?_
    rintro e w2 (⟨p0, p1, r1, r2, r3, r4, n1, k1, n2, k2, n3, k3, n4, k4, m, z, rfl, ht⟩ | ⟨g, c, M, q1, q2, s, vc, vl, at_, rfl, hsl, hL⟩)
    · have HL2 := Lib.hid (HL1.out.touch ht)
      clear ht HL1
      go_wp2_with fail
      refine wp_calls_name ?_
      intro w3 hw3
      have HL3 := Lib.hid (HL2.out.al1 hw3)
      simp only [List.nil_append, List.cons_append] at HL3
      clear hw3 HL2
      refine (works14 _ (HSW.out _ (HO.out _ (HL3.out.still 0 rfl)))).mono ?_
      rintro e w9 ⟨rfl, ht⟩
      have HL9 := Lib.hid (HL3.out.touch ht)
      clear ht
      go_wp2
      go_ret
      exact ⟨rfl, (HL9.out.oldTouch (HO.out _ (HL9.out.still 0 rfl))).below⟩
    · have HL2 := Lib.hid (HL1.out.join hL)
      simp only [chanL, List.nil_append, List.cons_append] at HL2
      have HSL := Lib.hid hsl
      clear hL HL1 hsl
      obtain ⟨ca, cp, rfl, _, _⟩ := own_val (HL2.out.refAt 6 rfl).cel
      obtain ⟨la, lp, rfl, _, _⟩ := own_val (HL2.out.refAt 6 rfl).log
      simp only [bothC14]
      go_wp2_with fail
      refine wp_name ?_
      intro w3 hw3
      have HL3 := Lib.hid ((HL2.out.al1 hw3).sel [1, 2, 3, 4, 0, 7, 5, 6] (l' := L14 c at_ M q1 q2 [] [] (Old w) w2.heap.size g s (.slice ca s.C.length cp) (.slice la s.L.length lp) none ([] : List ME).length 0 none ([] : List ME).length 0) rfl (by decide))
      obtain ⟨bx, hbx⟩ : ∃ b, w2.heap.size = b := ⟨_, rfl⟩
      rw [hbx] at HL3 ⊢
      clear hw3 hbx HL2
      go_loopw [9] (fun i wr => ∃ (k c M q1 q2 : Nat) (es1 es2 rs1 rs2 : List ME) (a1 : Option Addr) (c1 : Nat) (a2 : Option Addr) (c2 : Nat) (P : World → Prop) (s : Ar) (vc vl : Value), i = .int .i64 (k : Int) ∧ k ≤ l.length ∧ Hid (Both13 P es1 rs1 a1 c1) ∧ Hid (Both13 P es2 rs2 a2 c2) ∧ Hid (∀ W, P W → Old w W) ∧ Hid (s.L.length ≤ k) ∧
        Hid (Led T w wr (L14 c at_ M q1 q2 es1 es2 P bx g s vc vl a1 rs1.length c1 a2 rs2.length c2))) (fun i _ => l.length - (intOf i).toNat)
      case atStart => exact ⟨0, c, M, q1, q2, [], [], [], [], none, 0, none, 0, Old w, s, _, _, rfl, Nat.zero_le _, both14_0 _, both14_0 _, fun W h => h, by unfold Hid; rw [HSL.out]; simp, HL3⟩
      case round =>
        obtain ⟨k, c, M, q1, q2, es1, es2, rs1, rs2, a1, c1, a2, c2, P, s, vc, vl, rfl, hk, HB1, HB2, HO, HN, HK⟩ := hrel
        clear HL3 HSL
        have hk0 : (0 : Int) ≤ (k : Int) := by omega
        have HSP : Hid (∀ W, P W → SidesAt W) := fun W hW => HSW.out W (HO.out W hW)
        by_cases hkl : k < l.length
        · have hkl' : (k : Int) < (l.length : Int) := by omega
          have HTw := Lib.hid (HK.out.oldTouch (HO.out _ (HK.out.still 4 rfl)))
          obtain ⟨b, o, rfl, hb, d0, d1, d2, d3, d4, d5, d6, d7, d8, d9⟩ := (HA.out.touch HTw.out).load k hkl
          have HXI := Lib.hid (HI.out _ (List.getElem_mem hkl)).1
          have HXF := Lib.hid (HFW.out _ (List.getElem_mem hkl))
          generalize l[k] = x at d0 d1 d2 d3 d4 d5 d6 d7 d8 d9 HXI HXF
          have HAC := Lib.hid (Led.act14' (r := []) (by simpa using HK.out) x HB1.out HB2.out HSP.out HN.out (by omega) ⟨HXF.out, fun W hW => HXI.out.old14 (HO.out W hW)⟩)
          unfold C4.val at HAC
          go_wp2_with fail
          refine HAC.out.mono ?_
          rintro e w6 ⟨c', M', q1', q2', fs1, fs2, ss1, ss2, b1, e1, b2, e2, P2, s2, vc2, vl2, rfl, hB1, hB2, hP2, hs2, hL⟩
          have HL6 := Lib.hid hL
          have HC1 := Lib.hid hB1
          have HC2 := Lib.hid hB2
          have HN2 := Lib.hid hs2
          have HO2 : Hid (∀ W, P2 W → Old w W) := fun W hW => HO.out W (hP2 W hW)
          clear hL hB1 hB2 hP2 hs2 d0 d1 d2 d3 d4 d5 d6 d7 d8 d9 hb HAC HTw HK HB1 HB2 HSP HN
          have HIS := Lib.hid (Led.is14' (r := []) HL6.out HC1.out HC2.out (fun W hW => HSW.out W (HO2.out W hW)) HN2.out (by omega))
          have htm : 0 ≤ (k : Int).tmod 4 ∧ (k : Int).tmod 4 ≤ 3 := by rw [Int.tmod_eq_emod_of_nonneg hk0]; omega
          go_wp2_with fail
          refine (HIS.out _ (by omega)).mono ?_
          rintro e w7 ⟨rfl, ht⟩
          have HL7 := Lib.hid (HL6.out.touch ht)
          simp only [List.append_nil] at HL7
          clear ht HL6 HIS HO
          go_wp2
          go_roundw
          case rel => exact ⟨k + 1, c', M', q1', q2', fs1, fs2, ss1, ss2, b1, e1, b2, e2, P2, s2, vc2, vl2, by go_num, hkl, HC1, HC2, HO2, HN2, HL7⟩
          case measure => simp [intOf]; omega
        · have hkl' : ¬ (k : Int) < (l.length : Int) := by omega
          have HIS := Lib.hid (Led.is14' (r := []) (by simpa using HK.out) HB1.out HB2.out HSP.out HN.out (by omega))
          go_wp2_with fail
          refine (HIS.out 9999 (by omega)).mono ?_
          rintro e w6 ⟨rfl, ht⟩
          have HL6 := Lib.hid (HK.out.touch ht)
          clear ht HK HIS
          go_wp2_with fail
          refine (works14 _ (HSW.out _ (HO.out _ (HL6.out.still 4 rfl)))).mono ?_
          rintro e w9 ⟨rfl, ht⟩
          have HL9 := Lib.hid (HL6.out.touch ht)
          clear ht
          go_wp2
          go_ret
          exact ⟨rfl, (HL9.out.oldTouch (HO.out _ (HL9.out.still 4 rfl))).below⟩
end Go.Proofs.YtihmbgdkllmkaaaDoor
