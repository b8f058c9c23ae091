/-
  Texts 3 of 3 that ChannelHolds rests on, laid together by program: Over, Act13b, Chan2, Chan3, NoAr, ChanN, W14, Bytes, IntsBools, Marks, QueueSameW, QueueFullW, ChannelHoldsW.
-/
import Derived.Test.YtihmbgdkllmkaaaDoorCH1
import Derived.Test.YtihmbgdkllmkaaaDoorCH2
import Derived.Test.YtihmbgdkllmkaaaDoorProg
import Derived.Deep.Slices
import Derived.WalkKit
import Derived.ProofKit
import Derived.OpenShut
import Derived.Deep.Grids
import Derived.Deep.Cut
import Derived.Deep.CutRange
/-
  over() of law 15 (betrothallaw15/law.go): a loop over All's iterator against a list of entries.
-/
namespace Go.Proofs.YtihmbgdkllmkaaaDoor
open Go.RowKit Go.Shelf
set_option maxRecDepth 100000
set_option linter.unusedVariables false
set_option linter.unusedSimpArgs false
attribute [local go_sem] Oper.semAt_some

theorem AllAt.touch {w w' : World} {bx : Nat} {a : Option Addr} {cap : Nat} {ys : List ME} (h : AllAt w bx a cap ys) (ht : Touch [] w w') : AllAt w' bx a cap ys :=
  ⟨Blk.touch h.1 ht (by simp), h.2.1.touch ht, fun y hy => (h.2.2 y hy).touch0 ht⟩
/-- A loop over what All made, which lies somewhere that nothing turns. -/
theorem range_allQ {n : Nat} {gop : Operand} {ps : Array Tmp} {assign body : Code} {Q : Exit → Act → World → Prop} {a : Act} {w w0 : World} {T : List Nat} {bx : Nat} {ra : Option Addr} {rc : Nat} {ys : List ME}
    (hg : a.eval gop = .func (.func 79) #[] #[.pointer (some ⟨bx, 0, none⟩)])
    (hps : ps.size = 2) (hL : ys.length ≤ 1048576) (hnn : ∀ y ∈ ys, y.v.nodes ≤ 256) (R : Nat → List Thing) (X : Code → List Thing → Prop) (hA : ∀ W, Touch T w0 W → AllAt W bx ra rc ys) (h0 : Led T w0 w (R 0))
    (hround : ∀ (k : Nat) (x : ME) (W : World) (o0 : Obj), k < ys.length → (ys.map ME.plain)[k]? = some x.plain → Led T w0 W (R k ++ [valsT [x.v]] ++ marks w.heap.size o0) →
      assign.wpIn (Fence.wide.inRound (w.heap.size + 1)) (n - 1 - 1) Tryd.prog (Exit.then (fun a1 W1 => ∃ m, Led T w0 W1 (R k ++ [valsT [x.v]] ++ marks w.heap.size o0 ++ m) ∧
        ∀ W2 o, Led T w0 W2 (R k ++ [valsT [x.v]] ++ marks w.heap.size o ++ m) → body.wpIn (Fence.wide.inRound (w.heap.size + 1)) (n - 1 - 1) Tryd.prog (bodyL T w0 w.heap.size o (R (k + 1)) X) a1 W2) (fun _ _ _ => False))
        { tmps := (ps.zip #[.int .i64 (k : Int), x.val]).foldl (fun t (p, v) => t.setIfInBounds p v) a.tmps, defers := [] } W)
    (hdone : ∀ W, Led T w0 W (R ys.length ++ marks1 w.heap.size) → Q .normal { a with defers := { target := .collected w.heap.size, args := #[] } :: a.defers } W)
    (hstop : ∀ c W lx, X c lx → Led T w0 W (lx ++ marks1 w.heap.size) → c.wpIn Fence.wide n Tryd.prog Q { a with defers := { target := .collected w.heap.size, args := #[] } :: a.defers } W) :
    (Code.rangeFunc gop ps assign body).wpIn Fence.wide n Tryd.prog Q a w := by
  refine wp_rangeL (β := Nat × Option ME) hg (enters_of Tryd.func79 (by kernel_rfl) rfl) (fun b => match b.2 with | none => R b.1 | some x => R b.1 ++ [valsT [x.v]]) X (fun b => b = (ys.length, none))
    (fun b xs b' => ∃ x, b.2 = some x ∧ b.1 < ys.length ∧ (ys.map ME.plain)[b.1]? = some x.plain ∧ xs = #[.int .i64 (b.1 : Int), x.val] ∧ b' = (b.1 + 1, none))
    (fun b xs b' ⟨_, _, _, _, hx, _⟩ => by rw [hx, hps]; rfl) (0, none) h0 ?_ ?_ (fun b W hF hj => by subst hF; exact hdone W hj) hstop
  · rintro ⟨k, ox⟩ xs b' W o0 ⟨x, rfl, hk, hp, rfl, rfl⟩ hj
    exact hround k x W o0 hk hp hj
  · intro J' Jx' hJ hC hY W hW'
    have hmk : ∀ k W, J' (k, none) W → w.heap.size + 1 < W.heap.size := fun k W h => by
      obtain ⟨o', h2⟩ := (hJ (k, none) W h).exact_of_some
      exact (Array.getElem?_eq_some_iff.1 (Led.at_mark (m := []) (by simpa using h2)).2).1
    refine CallsIn.mono (all_iter (n - 1) (w.heap.size + 1) bx ra rc ys hL hnn (fun k W => J' (k, none) W) (fun k x W => J' (k, some x) W ∧ (ys.map ME.plain)[k]? = some x.plain) Jx' (fun k W h => hA W (hJ _ W h).tch) ?_ ?_ W hW') ?_
    · intro k W W' x h ht hin hb hp
      refine ⟨hC (k, none) W (k, some x) W' h ?_ ?_, hp⟩
      · have h1 := (hJ _ W h).valsNew (vs := [x.v]) ht (by simpa using hin) (by simpa using hb)
        exact h1.swapEnd
      · have hlt := hmk k W h
        exact ⟨ht.block _ (by omega) (by simp), ht.block _ hlt (by simp)⟩
    · rintro k x W hk ⟨h, hp⟩
      exact hY (k, some x) _ (k + 1, none) W ⟨x, rfl, hk, hp, rfl, rfl⟩ h
    · rintro e W ⟨hv, ⟨k, hk, hj⟩ | hx⟩
      · exact ⟨hv, .inl ⟨(k, none), by rw [hk], hj⟩⟩
      · exact ⟨hv, .inr hx⟩
theorem all_not_nil (fn : Fn) (x y : Array Value) (w : World) : (binOp .eql 80 (.func fn x y) .nilFunc).run Tryd.prog w = .ok (.bool false) w := by kernel_rfl
theorem plain_nodes_eq {x y : ME} (h : y.plain = x.plain) : x.v.nodes = y.v.nodes := by
  rw [← MT.plain_nodes x.v, ← MT.plain_nodes y.v, show x.v.plain = x.plain.v from rfl, ← h]; rfl
/-- What lies there between two rounds. -/
def overR (a2 : Option Addr) (n2 c2 many b4 b5 b6 b7 : Nat) (k : Nat) : List Thing :=
  [box b4 56 #[.slice a2 n2 c2], box b5 3 #[.int .i64 (many : Int)], box b6 4 #[.bool false], box b7 3 #[.int .i64 (k : Int)], fact (k = 0 ∨ k < many)]
end Go.Proofs.YtihmbgdkllmkaaaDoor

/-
  act() of law 13 (betrothallaw13/law.go): Drop, Purge, Copy by both.
-/
namespace Go.Proofs.YtihmbgdkllmkaaaDoor
open Go.RowKit Go.Shelf
set_option maxRecDepth 100000
set_option linter.unusedVariables false
set_option linter.unusedSimpArgs false

theorem AtRef.atR {es : List ME} {i : Int} {y : ME} {c : Bool} (h : AtRef es i y c) : AtR (es.map ME.plain) i y c := by
  rcases h with ⟨h1, h2, h3⟩ | ⟨h1, h2, h3⟩
  · exact .inl ⟨h1, h2, by rw [List.getElem?_map, h3]; rfl⟩
  · exact .inr ⟨h1, by simpa using h2, h3⟩
theorem Led.qDropS {T : List Nat} {w0 w : World} {l : List Thing} {g : Nat} {es : List ME} (h : Led T w0 w l) (i : Nat) (hi : l[i]? = some (queueT g es)) (z : Int) (hes : es.length ≤ 1048576) :
    Calls Tryd.prog 36 #[.pointer (some ⟨g, 0, none⟩), .int .i64 z] w fun e w' => ∃ y c, e = .returned (.tuple #[y.val, .bool c]) ∧ AtRef es z y c ∧ Led T w0 w' (l.set i (queueT g (if c = true then es.eraseIdx z.toNat else es))) := by
  refine (h.qDrop i hi z hes).mono ?_
  rintro e w' (⟨y, h0, hy, rfl, hL⟩ | ⟨hn, rfl, hL⟩)
  · exact ⟨y, true, rfl, .inl ⟨rfl, h0, hy⟩, hL⟩
  · exact ⟨ME.zero, false, rfl, .inr ⟨rfl, hn, rfl⟩, hL⟩
theorem eraseIdx_map_plain (es : List ME) (i : Nat) : (es.eraseIdx i).map ME.plain = (es.map ME.plain).eraseIdx i := by
  simp only [List.eraseIdx_eq_take_drop_succ, List.map_append, List.map_take, List.map_drop]
theorem filter_map_plain (es : List ME) (zs : List Int) : (es.filter fun e => !decide (e.plain.sync ∈ zs)).map ME.plain = (es.map ME.plain).filter fun p => !decide (p.sync ∈ zs) := by
  rw [List.filter_map]
  rfl
theorem Both13.sub {P P1 : World → Prop} {es rs es1 rs1 : List ME} {a a1 : Option Addr} {cap cap1 : Nat} (h : Both13 P es rs a cap) (hP1 : ∀ W, P1 W → P W ∧ EntsAt W a1 rs1) (h1 : es1.map ME.plain = rs1.map ME.plain) (he : ∀ e ∈ es1, e ∈ es) (hr : ∀ r ∈ rs1, r ∈ rs) (hl : es1.length ≤ es.length) (hc1 : rs1.length ≤ cap1) : Both13 P1 es1 rs1 a1 cap1 :=
  ⟨h1, hc1, Nat.le_trans hl h.2.2.1, fun e hh => h.2.2.2.1 e (he e hh), fun W hW => by
    obtain ⟨h2, h3⟩ := hP1 W hW
    obtain ⟨g1, _, g3⟩ := h.2.2.2.2 W h2
    exact ⟨fun e hh => g1 e (he e hh), h3, fun r hh => g3 r (hr r hh)⟩⟩
theorem Both13.copy {P : World → Prop} {es rs ys : List ME} {a : Option Addr} {cap : Nat} (h : Both13 P es rs a cap) (hp : ys.map ME.plain = es.map ME.plain) : Both13 (fun W => P W ∧ ∀ y ∈ ys, y.v.In W) ys rs a cap := by
  have hl : ys.length = es.length := by have := congrArg List.length hp; simpa using this
  refine ⟨hp.trans h.1, h.2.1, by rw [hl]; exact h.2.2.1, fun y hy => ?_, fun W hW => ⟨hW.2, (h.2.2.2.2 W hW.1).2⟩⟩
  have hm : y.plain ∈ es.map ME.plain := by rw [← hp]; exact List.mem_map_of_mem hy
  obtain ⟨e, he, hpe⟩ := List.mem_map.1 hm
  rw [plain_nodes_eq hpe]
  exact h.2.2.2.1 e he
theorem Both13.drop {P P1 : World → Prop} {es rs rs1 : List ME} {a a1 : Option Addr} {cap cap1 i : Nat} {c : Bool} (h : Both13 P es rs a cap) (hP1 : ∀ W, P1 W → P W ∧ EntsAt W a1 rs1) (hrs : rs1 = if c = true then rs.eraseIdx i else rs) (hc1 : rs1.length ≤ cap1) : Both13 P1 (if c = true then es.eraseIdx i else es) rs1 a1 cap1 := by
  subst hrs
  cases c with
  | true => exact h.sub hP1 (by simp only [if_true, eraseIdx_map_plain, h.1]) (fun e he => List.mem_of_mem_eraseIdx he) (fun e he => List.mem_of_mem_eraseIdx he) (List.length_eraseIdx_le es i) hc1
  | false => exact h.sub hP1 (by simpa using h.1) (fun e he => he) (fun e he => he) (Nat.le_refl _) hc1
theorem Both13.purge {P P1 : World → Prop} {es rs rs1 : List ME} {a a1 : Option Addr} {cap cap1 : Nat} {zs : List Int} (h : Both13 P es rs a cap) (hP1 : ∀ W, P1 W → P W ∧ EntsAt W a1 rs1) (hrs : rs1 = rs.filter fun e => !decide (e.sync ∈ zs)) (hc1 : rs1.length ≤ cap1) :
    Both13 P1 (es.filter fun e => !decide (e.plain.sync ∈ zs)) rs1 a1 cap1 ∧ ((es.length - (es.filter fun e => !decide (e.plain.sync ∈ zs)).length : Nat) : Int) = (rs.length : Int) - (rs1.length : Int) := by
  subst hrs
  have h1 : (es.filter fun e => !decide (e.plain.sync ∈ zs)).map ME.plain = (rs.filter fun e => !decide (e.sync ∈ zs)).map ME.plain := by
    rw [filter_map_plain, h.1, ← filter_map_plain]
    rfl
  refine ⟨h.sub hP1 h1 (fun e he => (List.mem_filter.1 he).1) (fun e he => (List.mem_filter.1 he).1) (List.length_filter_le _ es) hc1, ?_⟩
  have h2 := congrArg List.length h1
  simp only [List.length_map] at h2
  have h3 := List.length_filter_le (fun e : ME => !decide (e.plain.sync ∈ zs)) es
  have h4 := h.len
  omega
end Go.Proofs.YtihmbgdkllmkaaaDoor

/-
  Layer 14 (channel.go): Push, Look, Drop, Len, All.
-/
namespace Go.Proofs.YtihmbgdkllmkaaaDoor
open Go.RowKit Go.Shelf
set_option maxRecDepth 100000
set_option linter.unusedVariables false
set_option linter.unusedSimpArgs false

/-- The queue of a side. -/
def QSide (q1 q2 : Nat) (s : Int) (g : Nat) : Prop := qOf s q1 q2 = some ⟨g, 0, none⟩
theorem len1_c (w : World) (g : Nat) (es : List ME) (h : QAt w g es) : Calls Tryd.prog 41 #[.pointer (some ⟨g, 0, none⟩)] w fun e w' => e = .returned (.tuple #[.int .i64 (es.length : Int), .bool true]) ∧ w = w' := by
  have H := Lib.hid h
  clear h
  go_enter Tryd.func41, Tryd.ntmps41
  go_wp2_with fail
  refine (Len_q w g es H.out).mono ?_
  rintro e w' ⟨rfl, rfl⟩
  go_wp2
  go_ret2
  exact ⟨rfl, rfl⟩
section
variable (w : World) (c : Nat) (a : Int) (M q1 q2 : Nat) (hc : ChAt w c a M q1 q2) (s : Int)
include hc
theorem All_ch (g : Nat) (es : List ME) (hq : qOf s q1 q2 = some ⟨g, 0, none⟩) (h : QAt w g es) (hin : ∀ e ∈ es, e.v.In w ∧ e.v.nodes ≤ 256) (hlen : es.length ≤ 4096) : Calls Tryd.prog 24 #[.pointer (some ⟨c, 0, none⟩), .int .i64 s] w (AllTold es w) := by
  have HC := Lib.hid (fun W (hW : Touch [] w W) => hc.touch hW)
  have HA := Lib.hid (All_q w g es h hin (by omega))
  clear hc h hin
  go_enter Tryd.func24, Tryd.ntmps24
  go_wp2_with fail
  refine (queue_c _ _ _ _ _ _ (HC.out _ (Touch.refl [] w)) s).mono ?_
  rintro e w' ⟨rfl, rfl⟩
  rw [hq]
  go_wp2_with fail
  refine HA.out.mono ?_
  rintro e w' ⟨bx, ra, rc, ys, rfl, hpy, hL⟩
  have HPY := Lib.hid hpy
  have HL := Lib.hid hL
  clear hpy hL
  go_wp2
  go_ret
  exact ⟨bx, ra, rc, ys, rfl, HPY.out, HL.out⟩
theorem All_ch_no (hq : qOf s q1 q2 = none) : Calls Tryd.prog 24 #[.pointer (some ⟨c, 0, none⟩), .int .i64 s] w (AllTold [] w) := by
  have HC := Lib.hid (fun W (hW : Touch [] w W) => hc.touch hW)
  clear hc
  go_enter Tryd.func24, Tryd.ntmps24
  go_wp2_with fail
  refine (queue_c _ _ _ _ _ _ (HC.out _ (Touch.refl [] w)) s).mono ?_
  rintro e w' ⟨rfl, rfl⟩
  rw [hq]
  go_wp2_with fail
  refine (All_n w none (.inl rfl)).mono ?_
  rintro e w' ⟨bx, rfl, hL⟩
  have HL := Lib.hid hL
  clear hL
  go_wp2
  go_ret
  exact ⟨bx, none, 0, [], rfl, rfl, HL.out⟩
theorem Len_ch (g : Nat) (es : List ME) (hq : qOf s q1 q2 = some ⟨g, 0, none⟩) (h : QAt w g es) : Calls Tryd.prog 15 #[.pointer (some ⟨c, 0, none⟩), .int .i64 s] w fun e w' => e = .returned (.int .i64 (es.length : Int)) ∧ w = w' := by
  have HC := Lib.hid (fun W (hW : Touch [] w W) => hc.touch hW)
  have H := Lib.hid h
  have HR : Hid (Calls Tryd.prog 40 #[.pointer (some ⟨c, 0, none⟩), .int .i64 s, .func (.func 41) #[] #[]] w fun e w' => e = .returned (.tuple #[.int .i64 (es.length : Int), .bool true]) ∧ w = w') := by
    unfold Hid
    go_enter Tryd.func40, Tryd.ntmps40
    go_wp2_with fail
    refine (queue_c _ _ _ _ _ _ (HC.out _ (Touch.refl [] w)) s).mono ?_
    rintro e w' ⟨rfl, rfl⟩
    rw [hq]
    go_wp2_with fail
    refine (len1_c w g es H.out).mono ?_
    rintro e w' ⟨rfl, rfl⟩
    go_wp2
    go_ret2
    exact ⟨rfl, rfl⟩
  clear hc h
  go_enter Tryd.func15, Tryd.ntmps15
  go_wp2_with fail
  refine HR.out.mono ?_
  rintro e w' ⟨rfl, rfl⟩
  go_wp2
  go_ret
  exact ⟨rfl, rfl⟩
theorem Len_ch_no (hq : qOf s q1 q2 = none) : Calls Tryd.prog 15 #[.pointer (some ⟨c, 0, none⟩), .int .i64 s] w fun e w' => e = .returned (.int .i64 0) ∧ w = w' := by
  have HC := Lib.hid (fun W (hW : Touch [] w W) => hc.touch hW)
  have HR : Hid (Calls Tryd.prog 40 #[.pointer (some ⟨c, 0, none⟩), .int .i64 s, .func (.func 41) #[] #[]] w fun e w' => e = .returned (.tuple #[.int .i64 0, .bool false]) ∧ w = w') := by
    unfold Hid
    go_enter Tryd.func40, Tryd.ntmps40
    go_wp2_with fail
    refine (queue_c _ _ _ _ _ _ (HC.out _ (Touch.refl [] w)) s).mono ?_
    rintro e w' ⟨rfl, rfl⟩
    rw [hq]
    go_wp2
    go_ret2
    exact ⟨rfl, rfl⟩
  clear hc
  go_enter Tryd.func15, Tryd.ntmps15
  go_wp2_with fail
  refine HR.out.mono ?_
  rintro e w' ⟨rfl, rfl⟩
  go_wp2
  go_ret
  exact ⟨rfl, rfl⟩
end
end Go.Proofs.YtihmbgdkllmkaaaDoor

/-
  Layer 14 (channel.go): Look, Drop, Push.
-/
namespace Go.Proofs.YtihmbgdkllmkaaaDoor
open Go.RowKit Go.Shelf
set_option maxRecDepth 100000
set_option linter.unusedVariables false
set_option linter.unusedSimpArgs false

set_option maxHeartbeats 1000000 in
theorem look1_c (w : World) (g : Nat) (es : List ME) (i : Int) (bi : Nat) (h : QAt w g es) (hin : ∀ e ∈ es, e.v.In w ∧ e.v.nodes ≤ 256) (hb : w.cell? ⟨bi, 0, none⟩ = some (.int .i64 i)) : Calls Tryd.prog 43 #[.pointer (some ⟨g, 0, none⟩), .pointer (some ⟨bi, 0, none⟩)] w (AtTold (es.map ME.plain) i w) := by
  have HQ := Lib.hid (fun W (hW : Touch [] w W) => h.touch hW)
  have HEI := Lib.hid (fun W (hW : Touch [] w W) x (hx : x ∈ es) => (And.intro ((hin x hx).1.touch0 hW) (hin x hx).2 : x.v.In W ∧ x.v.nodes ≤ 256))
  have hbl : bi < w.heap.size := World.block_lt_of_cell? _ _ hb
  have hbl1 : bi < w.heap.size + 1 := by omega
  clear h hin
  go_enter Tryd.func43, Tryd.ntmps43
  go_wp2_with fail
  refine wp_calls_name ?_
  intro w1 hw1
  have HL1 := Lib.hid ((Led.nil' w).al1 hw1)
  simp only [List.nil_append] at HL1
  obtain ⟨b3, hb3⟩ : ∃ b, w.heap.size = b := ⟨_, rfl⟩
  rw [hb3] at HL1 ⊢
  clear hw1 hb3 hb hbl hbl1
  refine (At_q w1 g es i (HQ.out _ HL1.out.tch) (HEI.out _ HL1.out.tch)).mono ?_
  rintro e w2 ⟨x, cc, rfl, hR, hxin, hxnew, ht⟩
  have HL2 := Lib.hid (HL1.out.valsNew (vs := [x.v]) ht (by simpa using hxin) (by simpa using hxnew))
  have HR := Lib.hid hR
  have HXN : Hid (∀ k ∈ x.v.blocks, w.heap.size ≤ k) := fun k hk => Nat.le_trans HL1.out.size (hxnew k hk)
  clear hR hxin hxnew ht HL1
  simp only [List.nil_append, List.cons_append] at HL2
  simp only [ent_eq]
  obtain ⟨r0, r1, r2, r3, r4, r5, r6, ⟨f0, f1, f2, f3, f4, f5, f6⟩, zr, _, _⟩ := HL2.out.c7 0 rfl
  go_wp2
  have HL3 := Lib.hid (HL2.out.setEnt 0 rfl x.sync x.thread x.branch x.flag x.v.kind x.v.num (.slice x.v.addr x.v.parts.length x.v.cap))
  simp only [List.set_cons_zero, List.set_cons_succ] at HL3
  obtain ⟨s0, s1, s2, s3, s4, s5, s6, _⟩ := HL3.out.c7 0 rfl
  refine bodyPost_ret (v := .tuple #[x.val, .bool cc]) (by simp [results, Tryd.results43, go_sem, s0, s1, s2, s3, s4, s5, s6, ent_eq]) rfl ?_
  exact ⟨x, cc, rfl, HR.out, HL3.out.valsIn 1 rfl _ (by simp), HXN.out, HL3.out.tch⟩
set_option maxHeartbeats 1000000 in
theorem readE_look (w : World) (c : Nat) (a : Int) (M q1 q2 : Nat) (hc : ChAt w c a M q1 q2) (s : Int) (g : Nat) (es : List ME) (i : Int) (bi : Nat) (hq : qOf s q1 q2 = some ⟨g, 0, none⟩) (h : QAt w g es) (hin : ∀ e ∈ es, e.v.In w ∧ e.v.nodes ≤ 256) (hb : w.cell? ⟨bi, 0, none⟩ = some (.int .i64 i)) :
    Calls Tryd.prog 34 #[.pointer (some ⟨c, 0, none⟩), .int .i64 s, .func (.func 43) #[] #[.pointer (some ⟨bi, 0, none⟩)]] w (AtTold (es.map ME.plain) i w) := by
  have HC := Lib.hid (fun W (hW : Touch [] w W) => hc.touch hW)
  have HLK := Lib.hid (fun W (hW : Touch [] w W) => look1_c W g es i bi (h.touch hW) (fun x hx => ⟨(hin x hx).1.touch0 hW, (hin x hx).2⟩) (hW.cellOf hb))
  clear h hin hb hc
  go_enter Tryd.func34, Tryd.ntmps34
  go_wp2_with fail
  refine wp_calls_name ?_
  intro w1 hw1
  have HL1 := Lib.hid ((Led.nil' w).al1 hw1)
  simp only [List.nil_append] at HL1
  obtain ⟨b6, hb6⟩ : ∃ b, w.heap.size = b := ⟨_, rfl⟩
  rw [hb6] at HL1 ⊢
  clear hw1 hb6
  go_wp2_with fail
  refine (queue_c _ _ _ _ _ _ (HC.out _ HL1.out.tch) s).mono ?_
  rintro e w' ⟨rfl, rfl⟩
  rw [hq]
  go_wp2_with fail
  refine (HLK.out _ HL1.out.tch).mono ?_
  rintro e w2 ⟨x, cc, rfl, hR, hxin, hxnew, ht⟩
  have HL2 := Lib.hid (HL1.out.valsNew (vs := [x.v]) ht (by simpa using hxin) (by simpa using hxnew))
  have HR := Lib.hid hR
  have HXN : Hid (∀ k ∈ x.v.blocks, w.heap.size ≤ k) := fun k hk => Nat.le_trans HL1.out.size (hxnew k hk)
  clear hR hxin hxnew ht HL1
  simp only [List.nil_append, List.cons_append] at HL2
  simp only [ent_eq]
  obtain ⟨r0, r1, r2, r3, r4, r5, r6, ⟨f0, f1, f2, f3, f4, f5, f6⟩, zr, _, _⟩ := HL2.out.c7 0 rfl
  go_wp2
  have HL3 := Lib.hid (HL2.out.setEnt 0 rfl x.sync x.thread x.branch x.flag x.v.kind x.v.num (.slice x.v.addr x.v.parts.length x.v.cap))
  simp only [List.set_cons_zero, List.set_cons_succ] at HL3
  obtain ⟨s0, s1, s2, s3, s4, s5, s6, _⟩ := HL3.out.c7 0 rfl
  refine bodyPost_ret (v := .tuple #[x.val, .bool cc]) (by simp [results, Tryd.results34, go_sem, s0, s1, s2, s3, s4, s5, s6, ent_eq]) rfl ?_
  exact ⟨x, cc, rfl, HR.out, HL3.out.valsIn 1 rfl _ (by simp), HXN.out, HL3.out.tch⟩
set_option maxHeartbeats 1000000 in
theorem Look_ch (w : World) (c : Nat) (a : Int) (M q1 q2 : Nat) (hc : ChAt w c a M q1 q2) (s : Int) (g : Nat) (es : List ME) (i : Int) (hq : qOf s q1 q2 = some ⟨g, 0, none⟩) (h : QAt w g es) (hin : ∀ e ∈ es, e.v.In w ∧ e.v.nodes ≤ 256) :
    Calls Tryd.prog 16 #[.pointer (some ⟨c, 0, none⟩), .int .i64 s, .int .i64 i] w (AtTold (es.map ME.plain) i w) := by
  have HLK := Lib.hid (fun W (hW : Touch [] w W) bi (hb : W.cell? ⟨bi, 0, none⟩ = some (.int .i64 i)) => readE_look W c a M q1 q2 (hc.touch hW) s g es i bi hq (h.touch hW) (fun x hx => ⟨(hin x hx).1.touch0 hW, (hin x hx).2⟩) hb)
  clear h hin hc
  go_enter Tryd.func16, Tryd.ntmps16
  go_wp2_with fail
  refine wp_calls_name ?_
  intro w1 hw1
  have HL1 := Lib.hid ((Led.nil' w).al2 hw1)
  simp only [List.nil_append, List.cons_append] at HL1
  obtain ⟨b6, hb6⟩ : ∃ b, w.heap.size + 1 = b := ⟨_, rfl⟩
  rw [hb6] at HL1 ⊢
  obtain ⟨b5, hb5⟩ : ∃ b, w.heap.size = b := ⟨_, rfl⟩
  rw [hb5] at HL1 ⊢
  clear hw1 hb6 hb5
  refine (HLK.out _ HL1.out.tch b5 ((HL1.out.box 0 rfl).cell 0)).mono ?_
  rintro e w2 ⟨x, cc, rfl, hR, hxin, hxnew, ht⟩
  have HL2 := Lib.hid (HL1.out.valsNew (vs := [x.v]) ht (by simpa using hxin) (by simpa using hxnew))
  have HR := Lib.hid hR
  have HXN : Hid (∀ k ∈ x.v.blocks, w.heap.size ≤ k) := fun k hk => Nat.le_trans HL1.out.size (hxnew k hk)
  clear hR hxin hxnew ht HL1
  simp only [List.nil_append, List.cons_append] at HL2
  simp only [ent_eq]
  obtain ⟨r0, r1, r2, r3, r4, r5, r6, ⟨f0, f1, f2, f3, f4, f5, f6⟩, zr, _, _⟩ := HL2.out.c7 1 rfl
  go_wp2
  have HL3 := Lib.hid (HL2.out.setEnt 1 rfl x.sync x.thread x.branch x.flag x.v.kind x.v.num (.slice x.v.addr x.v.parts.length x.v.cap))
  simp only [List.set_cons_zero, List.set_cons_succ] at HL3
  obtain ⟨s0, s1, s2, s3, s4, s5, s6, _⟩ := HL3.out.c7 1 rfl
  refine bodyPost_ret (v := .tuple #[x.val, .bool cc]) (by simp [results, Tryd.results16, go_sem, s0, s1, s2, s3, s4, s5, s6, ent_eq]) rfl ?_
  exact ⟨x, cc, rfl, HR.out, HL3.out.valsIn 2 rfl _ (by simp), HXN.out, HL3.out.tch⟩
theorem post_nameQ {P : Program} {fn : Func} {R : Ending → World → Prop} {ex : Exit} {a : Act} {W : World} (h : ∀ w2, W = w2 → bodyPost P fn R ex a w2) : bodyPost P fn R ex a W := h W rfl
set_option maxHeartbeats 1000000 in
/-- A side that there is not, whatever would be read of it. -/
theorem readE_no (w : World) (c : Nat) (a : Int) (M q1 q2 : Nat) (hc : ChAt w c a M q1 q2) (s : Int) (hq : qOf s q1 q2 = none) (fn : Fn) (xs ys : Array Value) :
    Calls Tryd.prog 34 #[.pointer (some ⟨c, 0, none⟩), .int .i64 s, .func fn xs ys] w fun e w' => e = .returned (.tuple #[ME.zero.val, .bool false]) ∧ Touch [] w w' := by
  have HC := Lib.hid (fun W (hW : Touch [] w W) => hc.touch hW)
  clear hc
  go_enter Tryd.func34, Tryd.ntmps34
  go_wp2_with fail
  refine wp_calls_name ?_
  intro w1 hw1
  have HL1 := Lib.hid ((Led.nil' w).al1 hw1)
  simp only [List.nil_append] at HL1
  obtain ⟨b6, hb6⟩ : ∃ b, w.heap.size = b := ⟨_, rfl⟩
  rw [hb6] at HL1 ⊢
  clear hw1 hb6
  go_wp2_with fail
  refine (queue_c _ _ _ _ _ _ (HC.out _ HL1.out.tch) s).mono ?_
  rintro e w' ⟨rfl, rfl⟩
  rw [hq]
  obtain ⟨r0, r1, r2, r3, r4, r5, r6, ⟨f0, f1, f2, f3, f4, f5, f6⟩, zr, _, _⟩ := HL1.out.c7 0 rfl
  have m1 : b6 ≠ w1.heap.size := by omega
  have m2 := Ne.symm m1
  go_wp2
  refine post_nameQ ?_
  intro w2 hw2
  have HL3 := Lib.hid (((HL1.out.setEnt 0 rfl 0 0 0 0 0 0 (.slice none 0 0)).alloc 42 #[.int .i64 0, .int .i64 0, .int .i64 0, .int .i64 0, .int .i64 0, .int .i64 0, .slice none 0 0]).via hw2)
  simp only [List.set_cons_zero, List.set_cons_succ, List.cons_append, List.nil_append] at HL3
  obtain ⟨s0, s1, s2, s3, s4, s5, s6, _⟩ := HL3.out.c7 0 rfl
  have hzv : ME.zero.val = .agg #[.int .i64 0, .int .i64 0, .int .i64 0, .int .i64 0, .int .i64 0, .int .i64 0, .slice none 0 0] := rfl
  refine bodyPost_ret (v := .tuple #[.agg #[.int .i64 0, .int .i64 0, .int .i64 0, .int .i64 0, .int .i64 0, .int .i64 0, .slice none 0 0], .bool false]) (by simp [results, Tryd.results34, go_sem, s0, s1, s2, s3, s4, s5, s6]) rfl ?_
  exact ⟨by rw [hzv], HL3.out.tch⟩
set_option maxHeartbeats 1000000 in
theorem Look_ch_no (w : World) (c : Nat) (a : Int) (M q1 q2 : Nat) (hc : ChAt w c a M q1 q2) (s : Int) (i : Int) (hq : qOf s q1 q2 = none) :
    Calls Tryd.prog 16 #[.pointer (some ⟨c, 0, none⟩), .int .i64 s, .int .i64 i] w fun e w' => e = .returned (.tuple #[ME.zero.val, .bool false]) ∧ Touch [] w w' := by
  have HLK := Lib.hid (fun W (hW : Touch [] w W) fn xs ys => readE_no W c a M q1 q2 (hc.touch hW) s hq fn xs ys)
  clear hc
  go_enter Tryd.func16, Tryd.ntmps16
  go_wp2_with fail
  refine wp_calls_name ?_
  intro w1 hw1
  have HL1 := Lib.hid ((Led.nil' w).al2 hw1)
  simp only [List.nil_append, List.cons_append] at HL1
  obtain ⟨b6, hb6⟩ : ∃ b, w.heap.size + 1 = b := ⟨_, rfl⟩
  rw [hb6] at HL1 ⊢
  obtain ⟨b5, hb5⟩ : ∃ b, w.heap.size = b := ⟨_, rfl⟩
  rw [hb5] at HL1 ⊢
  clear hw1 hb6 hb5
  refine (HLK.out _ HL1.out.tch _ _ _).mono ?_
  rintro e w2 ⟨rfl, ht⟩
  have HL2 := Lib.hid (HL1.out.touch ht)
  clear ht HL1
  have hzv : ME.zero.val = .agg #[.int .i64 0, .int .i64 0, .int .i64 0, .int .i64 0, .int .i64 0, .int .i64 0, .slice none 0 0] := rfl
  rw [hzv]
  obtain ⟨r0, r1, r2, r3, r4, r5, r6, ⟨f0, f1, f2, f3, f4, f5, f6⟩, zr, _, _⟩ := HL2.out.c7 1 rfl
  go_wp2
  have HL3 := Lib.hid (HL2.out.setEnt 1 rfl 0 0 0 0 0 0 (.slice none 0 0))
  simp only [List.set_cons_zero, List.set_cons_succ] at HL3
  obtain ⟨s0, s1, s2, s3, s4, s5, s6, _⟩ := HL3.out.c7 1 rfl
  refine bodyPost_ret (v := .tuple #[.agg #[.int .i64 0, .int .i64 0, .int .i64 0, .int .i64 0, .int .i64 0, .int .i64 0, .slice none 0 0], .bool false]) (by simp [results, Tryd.results16, go_sem, s0, s1, s2, s3, s4, s5, s6]) rfl ?_
  exact ⟨rfl, HL3.out.tch⟩
set_option maxHeartbeats 1000000 in
theorem Drop_ch_no (w : World) (c : Nat) (a : Int) (M q1 q2 : Nat) (hc : ChAt w c a M q1 q2) (s : Int) (i : Int) (hq : qOf s q1 q2 = none) :
    Calls Tryd.prog 12 #[.pointer (some ⟨c, 0, none⟩), .int .i64 s, .int .i64 i] w fun e w' => e = .returned (.tuple #[ME.zero.val, .bool false]) ∧ Touch [] w w' := by
  have HLK := Lib.hid (fun W (hW : Touch [] w W) fn xs ys => readE_no W c a M q1 q2 (hc.touch hW) s hq fn xs ys)
  clear hc
  go_enter Tryd.func12, Tryd.ntmps12
  go_wp2_with fail
  refine wp_calls_name ?_
  intro w1 hw1
  have HL1 := Lib.hid ((Led.nil' w).al2 hw1)
  simp only [List.nil_append, List.cons_append] at HL1
  obtain ⟨b6, hb6⟩ : ∃ b, w.heap.size + 1 = b := ⟨_, rfl⟩
  rw [hb6] at HL1 ⊢
  obtain ⟨b5, hb5⟩ : ∃ b, w.heap.size = b := ⟨_, rfl⟩
  rw [hb5] at HL1 ⊢
  clear hw1 hb6 hb5
  refine (HLK.out _ HL1.out.tch _ _ _).mono ?_
  rintro e w2 ⟨rfl, ht⟩
  have HL2 := Lib.hid (HL1.out.touch ht)
  clear ht HL1
  have hzv : ME.zero.val = .agg #[.int .i64 0, .int .i64 0, .int .i64 0, .int .i64 0, .int .i64 0, .int .i64 0, .slice none 0 0] := rfl
  rw [hzv]
  obtain ⟨r0, r1, r2, r3, r4, r5, r6, ⟨f0, f1, f2, f3, f4, f5, f6⟩, zr, _, _⟩ := HL2.out.c7 1 rfl
  go_wp2
  have HL3 := Lib.hid (HL2.out.setEnt 1 rfl 0 0 0 0 0 0 (.slice none 0 0))
  simp only [List.set_cons_zero, List.set_cons_succ] at HL3
  obtain ⟨s0, s1, s2, s3, s4, s5, s6, _⟩ := HL3.out.c7 1 rfl
  refine bodyPost_ret (v := .tuple #[.agg #[.int .i64 0, .int .i64 0, .int .i64 0, .int .i64 0, .int .i64 0, .int .i64 0, .slice none 0 0], .bool false]) (by simp [results, Tryd.results12, go_sem, s0, s1, s2, s3, s4, s5, s6]) rfl ?_
  exact ⟨rfl, HL3.out.tch⟩
/-- What Drop tells of a queue alone. -/
def DroppedC (T : List Nat) (w : World) (g : Nat) (es : List ME) (z : Int) (e : Ending) (w' : World) : Prop := ∃ y c rest, e = .returned (.tuple #[y.val, .bool c]) ∧ AtRef es z y c ∧ Led T w w' (queueT g (if c = true then es.eraseIdx z.toNat else es) :: rest)
set_option maxHeartbeats 1000000 in
theorem drop1_c (T : List Nat) (w : World) (g : Nat) (es : List ME) (z : Int) (bi : Nat) (h : Led T w w [queueT g es]) (hes : es.length ≤ 4096) (hb : w.cell? ⟨bi, 0, none⟩ = some (.int .i64 z)) : Calls Tryd.prog 35 #[.pointer (some ⟨g, 0, none⟩), .pointer (some ⟨bi, 0, none⟩)] w (DroppedC T w g es z) := by
  have HL0 := Lib.hid h
  have hbl : bi < w.heap.size := World.block_lt_of_cell? _ _ hb
  have hbl1 : bi < w.heap.size + 1 := by omega
  clear h
  go_enter Tryd.func35, Tryd.ntmps35
  go_wp2_with fail
  refine wp_calls_name ?_
  intro w1 hw1
  have HL1 := Lib.hid (HL0.out.al1 hw1)
  simp only [List.nil_append, List.cons_append] at HL1
  obtain ⟨b3, hb3⟩ : ∃ b, w.heap.size = b := ⟨_, rfl⟩
  rw [hb3] at HL1 ⊢
  clear hw1 hb3 hb hbl hbl1 HL0
  refine (HL1.out.qDropS 0 rfl z (by omega)).mono ?_
  rintro e w2 ⟨y, cc, rfl, hR, hL⟩
  have HR := Lib.hid hR
  have HL2 := Lib.hid hL
  clear hR hL HL1
  simp only [List.set_cons_zero, List.cons_append, List.nil_append] at HL2
  simp only [ent_eq]
  obtain ⟨r0, r1, r2, r3, r4, r5, r6, ⟨f0, f1, f2, f3, f4, f5, f6⟩, zr, _, _⟩ := HL2.out.c7 1 rfl
  go_wp2
  have HL3 := Lib.hid (HL2.out.setEnt 1 rfl y.sync y.thread y.branch y.flag y.v.kind y.v.num (.slice y.v.addr y.v.parts.length y.v.cap))
  simp only [List.set_cons_zero, List.set_cons_succ] at HL3
  obtain ⟨s0, s1, s2, s3, s4, s5, s6, _⟩ := HL3.out.c7 1 rfl
  refine bodyPost_ret (v := .tuple #[y.val, .bool cc]) (by simp [results, Tryd.results35, go_sem, s0, s1, s2, s3, s4, s5, s6, ent_eq]) rfl ?_
  exact ⟨y, cc, _, rfl, HR.out, HL3.out⟩
set_option maxHeartbeats 1000000 in
theorem readE_drop (T : List Nat) (w : World) (c : Nat) (a : Int) (M q1 q2 : Nat) (hc : ChAt w c a M q1 q2) (s : Int) (g : Nat) (es : List ME) (z : Int) (bi : Nat) (hq : qOf s q1 q2 = some ⟨g, 0, none⟩) (h : Led T w w [queueT g es]) (hes : es.length ≤ 4096) (hb : w.cell? ⟨bi, 0, none⟩ = some (.int .i64 z)) :
    Calls Tryd.prog 34 #[.pointer (some ⟨c, 0, none⟩), .int .i64 s, .func (.func 35) #[] #[.pointer (some ⟨bi, 0, none⟩)]] w (DroppedC T w g es z) := by
  have HC := Lib.hid (fun W (hW : Touch [] w W) => hc.touch hW)
  have HBI := Lib.hid (fun W (hW : Touch [] w W) => hW.cellOf hb)
  have HL0 := Lib.hid h
  clear h hb hc
  go_enter Tryd.func34, Tryd.ntmps34
  go_wp2_with fail
  refine wp_calls_name ?_
  intro w1 hw1
  have HT1 : Hid (Touch [] w w1) := hw1 ▸ (Touch.refl [] w).alloc _
  have HL1 := Lib.hid (HL0.out.al1 hw1)
  simp only [List.nil_append, List.cons_append] at HL1
  obtain ⟨b6, hb6⟩ : ∃ b, w.heap.size = b := ⟨_, rfl⟩
  rw [hb6] at HL1 ⊢
  clear hw1 hb6 HL0
  go_wp2_with fail
  refine (queue_c _ _ _ _ _ _ (HC.out _ HT1.out) s).mono ?_
  rintro e w' ⟨rfl, rfl⟩
  rw [hq]
  obtain ⟨T', hF, hbk⟩ := HL1.out.frame1 0 rfl
  go_wp2_with fail
  refine (drop1_c T' w1 g es z bi hF hes (HBI.out _ HT1.out)).mono ?_
  rintro e w2 ⟨y, cc, rest, rfl, hR, hL'⟩
  have hL := hbk _ _ _ hL'
  clear hL' hbk hF
  have HR := Lib.hid hR
  have HL2 := Lib.hid hL
  clear hR hL HL1
  simp only [List.set_cons_zero, List.cons_append, List.nil_append] at HL2
  simp only [ent_eq]
  obtain ⟨r0, r1, r2, r3, r4, r5, r6, ⟨f0, f1, f2, f3, f4, f5, f6⟩, zr, _, _⟩ := HL2.out.c7 1 rfl
  go_wp2
  have HL3 := Lib.hid (HL2.out.setEnt 1 rfl y.sync y.thread y.branch y.flag y.v.kind y.v.num (.slice y.v.addr y.v.parts.length y.v.cap))
  simp only [List.set_cons_zero, List.set_cons_succ] at HL3
  obtain ⟨s0, s1, s2, s3, s4, s5, s6, _⟩ := HL3.out.c7 1 rfl
  refine bodyPost_ret (v := .tuple #[y.val, .bool cc]) (by simp [results, Tryd.results34, go_sem, s0, s1, s2, s3, s4, s5, s6, ent_eq]) rfl ?_
  exact ⟨y, cc, _, rfl, HR.out, HL3.out⟩
set_option maxHeartbeats 1000000 in
theorem Drop_chF (T : List Nat) (w : World) (c : Nat) (a : Int) (M q1 q2 : Nat) (hc : ChAt w c a M q1 q2) (s : Int) (g : Nat) (es : List ME) (z : Int) (hq : qOf s q1 q2 = some ⟨g, 0, none⟩) (h : Led T w w [queueT g es]) (hes : es.length ≤ 4096) :
    Calls Tryd.prog 12 #[.pointer (some ⟨c, 0, none⟩), .int .i64 s, .int .i64 z] w (DroppedC T w g es z) := by
  have HC := Lib.hid (fun W (hW : Touch [] w W) => hc.touch hW)
  have HL0 := Lib.hid h
  clear h hc
  go_enter Tryd.func12, Tryd.ntmps12
  go_wp2_with fail
  refine wp_calls_name ?_
  intro w1 hw1
  have HT1 : Hid (Touch [] w w1) := hw1 ▸ ((Touch.refl [] w).alloc _).alloc _
  have HL1 := Lib.hid (HL0.out.al2 hw1)
  simp only [List.nil_append, List.cons_append] at HL1
  obtain ⟨b6, hb6⟩ : ∃ b, w.heap.size + 1 = b := ⟨_, rfl⟩
  rw [hb6] at HL1 ⊢
  obtain ⟨b5, hb5⟩ : ∃ b, w.heap.size = b := ⟨_, rfl⟩
  rw [hb5] at HL1 ⊢
  clear hw1 hb6 hb5 HL0
  obtain ⟨T', hF, hbk⟩ := HL1.out.frame1 0 rfl
  refine (readE_drop T' w1 c a M q1 q2 (HC.out _ HT1.out) s g es z b5 hq hF hes ((HL1.out.box 1 rfl).cell 0)).mono ?_
  rintro e w2 ⟨y, cc, rest, rfl, hR, hL'⟩
  have hL := hbk _ _ _ hL'
  clear hL' hbk hF
  have HR := Lib.hid hR
  have HL2 := Lib.hid hL
  clear hR hL HL1
  simp only [List.set_cons_zero, List.cons_append, List.nil_append] at HL2
  simp only [ent_eq]
  obtain ⟨r0, r1, r2, r3, r4, r5, r6, ⟨f0, f1, f2, f3, f4, f5, f6⟩, zr, _, _⟩ := HL2.out.c7 2 rfl
  go_wp2
  have HL3 := Lib.hid (HL2.out.setEnt 2 rfl y.sync y.thread y.branch y.flag y.v.kind y.v.num (.slice y.v.addr y.v.parts.length y.v.cap))
  simp only [List.set_cons_zero, List.set_cons_succ] at HL3
  obtain ⟨s0, s1, s2, s3, s4, s5, s6, _⟩ := HL3.out.c7 2 rfl
  refine bodyPost_ret (v := .tuple #[y.val, .bool cc]) (by simp [results, Tryd.results12, go_sem, s0, s1, s2, s3, s4, s5, s6, ent_eq]) rfl ?_
  exact ⟨y, cc, _, rfl, HR.out, HL3.out⟩
/-- Drop, in a greater ledger. -/
theorem Led.chDrop {T : List Nat} {w0 w : World} {l : List Thing} {c : Nat} {a : Int} {M q1 q2 : Nat} {s : Int} {g : Nat} {es : List ME} (h : Led T w0 w l) (i : Nat) (hi : l[i]? = some (queueT g es)) (hc : ChAt w c a M q1 q2) (hq : qOf s q1 q2 = some ⟨g, 0, none⟩) (hes : es.length ≤ 4096) (z : Int) :
    Calls Tryd.prog 12 #[.pointer (some ⟨c, 0, none⟩), .int .i64 s, .int .i64 z] w fun e w' => ∃ y b, e = .returned (.tuple #[y.val, .bool b]) ∧ AtRef es z y b ∧ Led T w0 w' (l.set i (queueT g (if b = true then es.eraseIdx z.toNat else es))) := by
  obtain ⟨T', hF, hbk⟩ := h.frame1 i hi
  refine (Drop_chF T' w c a M q1 q2 hc s g es z hq hF hes).mono ?_
  rintro e w2 ⟨y, cc, rest, rfl, hR, hL'⟩
  exact ⟨y, cc, rfl, hR, hbk _ _ _ hL'⟩
set_option maxHeartbeats 1000000 in
theorem Push_chF (T : List Nat) (w : World) (c : Nat) (a : Int) (M q1 q2 : Nat) (hc : ChAt w c a M q1 q2) (s : Int) (g : Nat) (es : List ME) (P : World → Prop) (x : ME) (hq : qOf s q1 q2 = some ⟨g, 0, none⟩) (h : Led T w w [queueT g es, stillT P]) (hP : ∀ W, P W → x.v.In W) (hes : es.length ≤ 4096) :
    Calls Tryd.prog 13 #[.pointer (some ⟨c, 0, none⟩), .int .i64 s, x.val] w fun e w' => ∃ (k : Nat) (err : Int) (ys : List ME) (rest : List Thing), e = .returned (.int .i64 err) ∧ PushR es.length [x.plain] k err ∧ ys.map ME.plain = [x.plain].take k ∧ Led T w w' (queueT g (es ++ ys) :: stillT (fun W => P W ∧ ∀ y ∈ ys, y.v.In W) :: rest) := by
  have HP := Lib.hid hP
  have HC := Lib.hid (fun W (hW : Touch [] w W) => hc.touch hW)
  have HL0 := Lib.hid h
  clear h hP hc
  simp only [ent_eq]
  go_enter Tryd.func13, Tryd.ntmps13
  go_wp2
  refine wp_scope_fwd 0 rfl ?_
  go_wp2_with fail
  refine wp_calls_name ?_
  intro w1 hw1
  have HT1 : Hid (Touch [] w w1) := hw1 ▸ (Touch.refl [] w).alloc _
  have HL1 := Lib.hid (HL0.out.al1 hw1)
  simp only [List.nil_append, List.cons_append] at HL1
  obtain ⟨b5, hb5⟩ : ∃ b, w.heap.size = b := ⟨_, rfl⟩
  rw [hb5] at HL1 ⊢
  clear hw1 hb5 HL0
  refine (queue_c _ _ _ _ _ _ (HC.out _ HT1.out) s).mono ?_
  rintro e w' ⟨rfl, rfl⟩
  rw [hq]
  go_wp2_with fail
  refine (chnone_no _ _ _ _ _ _ (HC.out _ HT1.out)).mono ?_
  rintro e w' ⟨rfl, rfl⟩
  obtain ⟨x0, x1, x2, x3, x4, x5, x6, _, hl3, _, _⟩ := HL1.out.c7 2 rfl
  have HL2 := Lib.hid (HL1.out.alloc 42 #[.int .i64 x.sync, .int .i64 x.thread, .int .i64 x.branch, .int .i64 x.flag, .int .i64 x.v.kind, .int .i64 x.v.num, .slice x.v.addr x.v.parts.length x.v.cap])
  simp only [List.nil_append, List.cons_append] at HL2
  have HPU := Lib.hid (HL2.out.qPushS (xs := [x]) (a := some ⟨w1.heap.size, 0, none⟩) (cap := 1) 0 1 rfl rfl (by decide) (fun W hW => ⟨ents_box rfl (hW 3 _ (by decide) rfl), fun y hy => by
    simp at hy; subst hy
    obtain ⟨f, _, hs⟩ := hW 1 (stillT P) (by decide) rfl
    exact HP.out W (hs W (fun _ _ => rfl))⟩) (by simp) hes)
  simp only [List.length_cons, List.length_nil, Nat.reduceAdd] at HPU
  go_wp2_with fail
  refine HPU.out.mono ?_
  rintro e w4 ⟨k, err, ys, rfl, hR, hp, hL⟩
  have HL4 := Lib.hid hL
  simp only [List.set_cons_zero, List.set_cons_succ] at HL4
  have HR := Lib.hid hR
  have HPY := Lib.hid hp
  clear hL hR hp HPU HL2 HL1 x0 x1 x2 x3 x4 x5 x6 hl3
  go_wp2
  go_step3
  go_wp2
  refine jump_ret ?_
  go_ret
  exact ⟨k, err, ys, _, rfl, HR.out, HPY.out, HL4.out⟩
theorem Led.chPush {T : List Nat} {w0 w : World} {l : List Thing} {c : Nat} {a : Int} {M q1 q2 : Nat} {s : Int} {g : Nat} {es : List ME} {P : World → Prop} (h : Led T w0 w l) (i j : Nat) (hi : l[i]? = some (queueT g es)) (hj : l[j]? = some (stillT P)) (hij : i ≠ j) (hc : ChAt w c a M q1 q2) (hq : qOf s q1 q2 = some ⟨g, 0, none⟩) (x : ME) (hP : ∀ W, P W → x.v.In W) (hes : es.length ≤ 4096) :
    Calls Tryd.prog 13 #[.pointer (some ⟨c, 0, none⟩), .int .i64 s, x.val] w fun e w' => ∃ (k : Nat) (err : Int) (ys : List ME), e = .returned (.int .i64 err) ∧ PushR es.length [x.plain] k err ∧ ys.map ME.plain = [x.plain].take k ∧ Led T w0 w' ((l.set i (queueT g (es ++ ys))).set j (stillT (fun W => P W ∧ ∀ y ∈ ys, y.v.In W))) := by
  obtain ⟨T', hF, hbk⟩ := h.frame2 i j hi hj hij
  refine (Push_chF T' w c a M q1 q2 hc s g es P x hq hF hP hes).mono ?_
  rintro e w2 ⟨k, err, ys, rest, rfl, hR, hp, hL⟩
  exact ⟨k, err, ys, rfl, hR, hp, hbk _ _ _ _ hL⟩
set_option maxHeartbeats 1000000 in
theorem Push_ch_no (w : World) (c : Nat) (a : Int) (M q1 q2 : Nat) (hc : ChAt w c a M q1 q2) (s : Int) (x : ME) (hq : qOf s q1 q2 = none) :
    Calls Tryd.prog 13 #[.pointer (some ⟨c, 0, none⟩), .int .i64 s, x.val] w fun e w' => e = .returned (.int .i64 2) ∧ Touch [] w w' := by
  have HC := Lib.hid (fun W (hW : Touch [] w W) => hc.touch hW)
  clear hc
  simp only [ent_eq]
  go_enter Tryd.func13, Tryd.ntmps13
  go_wp2
  refine wp_scope_fwd 0 rfl ?_
  go_wp2_with fail
  refine wp_calls_name ?_
  intro w1 hw1
  have HT1 : Hid (Touch [] w w1) := hw1 ▸ (Touch.refl [] w).alloc _
  clear hw1
  refine (queue_c _ _ _ _ _ _ (HC.out _ HT1.out) s).mono ?_
  rintro e w' ⟨rfl, rfl⟩
  rw [hq]
  go_wp2_with fail
  refine (chnone_no _ _ _ _ _ _ (HC.out _ HT1.out)).mono ?_
  rintro e w' ⟨rfl, rfl⟩
  go_wp2
  go_step3
  refine ⟨rfl, ?_⟩
  go_wp2
  refine noGoto_ret' ?_
  go_ret
  exact ⟨rfl, HT1.out⟩
end Go.Proofs.YtihmbgdkllmkaaaDoor

/-
  No arena (nil, or one that New did not make): what each function of layers 1 and 3 tells of it.
-/
namespace Go.Proofs.YtihmbgdkllmkaaaDoor
open Go.RowKit Go.Shelf
set_option maxRecDepth 100000
set_option linter.unusedVariables false
set_option linter.unusedSimpArgs false
attribute [local go_sem] Oper.semAt_some

theorem NoAr.touch {w w' : World} {p : Value} {S : List Nat} (h : NoAr w p) (ht : Touch S w w') (hS : ∀ g, p = .pointer (some ⟨g, 0, none⟩) → g ∉ S) : NoAr w' p := by
  rcases h with h | ⟨g, h, hc⟩
  · exact .inl h
  · refine .inr ⟨g, h, ?_⟩
    rw [World.cell?_of_block (a := ⟨g, 2, none⟩) (ht.block g (World.block_lt_of_cell? w ⟨g, 2, none⟩ hc) (hS g h))]
    exact hc

section
variable (w : World) (pa : Option Addr) (h : NoAr w (.pointer pa))
include h
theorem Alloc_none (n : Int) : Calls Tryd.prog 47 #[.pointer pa, .int .i64 n] w fun e w' => e = .returned (.tuple #[.int .i64 0, .int .i64 1]) ∧ w = w' := by
  have H := Lib.hid h
  clear h
  go_enter Tryd.func47, Tryd.ntmps47
  go_wp2_with (go_at_call 33; refine (missing_yes _ _ H.out).mono ?_; rintro e w' ⟨rfl, rfl⟩)
  go_ret2
  exact ⟨rfl, rfl⟩
theorem Count_none : Calls Tryd.prog 11 #[.pointer pa] w fun e w' => e = .returned (.int .u64 0) ∧ w = w' := by
  have H := Lib.hid h
  clear h
  go_enter Tryd.func11, Tryd.ntmps11
  go_wp2_with (go_at_call 33; refine (missing_yes _ _ H.out).mono ?_; rintro e w' ⟨rfl, rfl⟩)
  go_ret
  exact ⟨rfl, rfl⟩
theorem Swap_none (at_ x y : Int) : Calls Tryd.prog 87 #[.pointer pa, .int .i64 at_, .int .u64 x, .int .u64 y] w fun e w' => e = .returned (.tuple #[.int .u64 0, .bool false, .int .i64 1]) ∧ Touch [] w w' := by
  have H := Lib.hid h
  clear h
  go_enter Tryd.func87, Tryd.ntmps87
  go_wp2_with fail
  refine (access_none _ _ _ _ _ (H.out.touch (((Touch.refl [] w).alloc _).alloc _) (by simp))).mono ?_
  rintro e w' ⟨rfl, rfl⟩
  go_wp2
  refine bodyPost_ret (v := .tuple #[.int .u64 0, .bool false, .int .i64 1]) (by simp [results, go_sem]) rfl ⟨rfl, ((Touch.refl [] w).alloc _).alloc _⟩
theorem SpinNew_none : Calls Tryd.prog 31 #[.pointer pa] w fun e w' => e = .returned (.tuple #[.int .i64 0, .int .i64 1]) ∧ w = w' := by
  have H := Lib.hid h
  clear h
  go_enter Tryd.func31, Tryd.ntmps31
  go_wp2_with fail
  refine (Alloc_none _ _ H.out _).mono ?_
  rintro e w' ⟨rfl, rfl⟩
  go_wp2
  go_ret2
  exact ⟨rfl, rfl⟩
theorem Try_none (at_ : Int) : Calls Tryd.prog 76 #[.pointer pa, .int .i64 at_] w fun e w' => e = .returned (.tuple #[.bool false, .int .i64 1]) ∧ Touch [] w w' := by
  have H := Lib.hid h
  clear h
  go_enter Tryd.func76, Tryd.ntmps76
  go_wp2_with fail
  refine (Swap_none _ _ H.out _ _ _).mono ?_
  rintro e w' ⟨rfl, ht⟩
  have HT := Lib.hid ht
  clear ht
  go_wp2
  go_ret2
  exact ⟨rfl, HT.out⟩
theorem Free_none (at_ : Int) : Calls Tryd.prog 77 #[.pointer pa, .int .i64 at_] w fun e w' => e = .returned (.int .i64 1) ∧ Touch [] w w' := by
  have H := Lib.hid h
  clear h
  go_enter Tryd.func77, Tryd.ntmps77
  go_wp2_with fail
  refine (Swap_none _ _ H.out _ _ _).mono ?_
  rintro e w' ⟨rfl, ht⟩
  have HT := Lib.hid ht
  clear ht
  go_wp2
  go_ret
  exact ⟨rfl, HT.out⟩
end
end Go.Proofs.YtihmbgdkllmkaaaDoor

/-
  Layer 14 (channel.go): what is told of no channel; Other.
-/
namespace Go.Proofs.YtihmbgdkllmkaaaDoor
open Go.RowKit Go.Shelf
set_option maxRecDepth 100000
set_option linter.unusedVariables false
set_option linter.unusedSimpArgs false

/-- No channel: none, or one without queues. -/
def NoCh (w : World) (p : Option Addr) : Prop := p = none ∨ ∃ b, p = some ⟨b, 0, none⟩ ∧ w.cell? ⟨b, 1, none⟩ = some (.map none)
theorem NoCh.touch {w w' : World} {p : Option Addr} (h : NoCh w p) (ht : Touch [] w w') : NoCh w' p := by
  rcases h with rfl | ⟨b, rfl, hb⟩
  · exact .inl rfl
  · exact .inr ⟨b, rfl, ht.cellOf hb⟩
theorem mapq_none (w : World) : (binOp .eql 73 (.map none) (.map none)).run Tryd.prog w = .ok (.bool true) w := by kernel_rfl
theorem chnone_yes (p : Option Addr) (w : World) (h : NoCh w p) : Calls Tryd.prog 38 #[.pointer p] w fun e w' => e = .returned (.bool true) ∧ w = w' := by
  have hmn := mapq_none w
  rcases h with rfl | ⟨b, rfl, hb⟩
  · go_enter Tryd.func38, Tryd.ntmps38
    go_wp2
    go_ret
    exact ⟨rfl, rfl⟩
  · have hbl : b < w.heap.size := World.block_lt_of_cell? _ _ hb
    go_enter Tryd.func38, Tryd.ntmps38
    go_wp2
    go_ret
    exact ⟨rfl, rfl⟩
section
variable (w : World) (p : Option Addr) (h : NoCh w p)
include h
theorem chLock_n (a : Option Addr) : Calls Tryd.prog 21 #[.pointer p, .pointer a] w fun e w' => e = .returned (.tuple #[.bool false, .int .i64 1]) ∧ w = w' := by
  have H := Lib.hid h
  clear h
  go_enter Tryd.func21, Tryd.ntmps21
  go_wp2_with fail
  refine (chnone_yes _ _ H.out).mono ?_
  rintro e w' ⟨rfl, rfl⟩
  go_wp2
  go_ret2
  exact ⟨rfl, rfl⟩
theorem chUnlock_n (a : Option Addr) : Calls Tryd.prog 22 #[.pointer p, .pointer a] w fun e w' => e = .returned (.int .i64 1) ∧ w = w' := by
  have H := Lib.hid h
  clear h
  go_enter Tryd.func22, Tryd.ntmps22
  go_wp2_with fail
  refine (chnone_yes _ _ H.out).mono ?_
  rintro e w' ⟨rfl, rfl⟩
  go_wp2
  go_ret
  exact ⟨rfl, rfl⟩
theorem chCell_n : Calls Tryd.prog 25 #[.pointer p] w fun e w' => e = .returned (.int .i64 0) ∧ w = w' := by
  have H := Lib.hid h
  clear h
  go_enter Tryd.func25, Tryd.ntmps25
  go_wp2_with fail
  refine (chnone_yes _ _ H.out).mono ?_
  rintro e w' ⟨rfl, rfl⟩
  go_wp2
  go_ret
  exact ⟨rfl, rfl⟩
theorem chCopy_n : Calls Tryd.prog 26 #[.pointer p] w fun e w' => e = .returned (.pointer none) ∧ w = w' := by
  have H := Lib.hid h
  clear h
  go_enter Tryd.func26, Tryd.ntmps26
  go_wp2_with fail
  refine (chnone_yes _ _ H.out).mono ?_
  rintro e w' ⟨rfl, rfl⟩
  go_wp2
  go_ret
  exact ⟨rfl, rfl⟩
theorem queue_n (s : Int) : Calls Tryd.prog 37 #[.pointer p, .int .i64 s] w fun e w' => e = .returned (.pointer none) ∧ w = w' := by
  have H := Lib.hid h
  clear h
  go_enter Tryd.func37, Tryd.ntmps37
  go_wp2_with fail
  refine (chnone_yes _ _ H.out).mono ?_
  rintro e w' ⟨rfl, rfl⟩
  go_wp2
  go_ret
  exact ⟨rfl, rfl⟩
theorem chAll_n (s : Int) : Calls Tryd.prog 24 #[.pointer p, .int .i64 s] w (AllTold [] w) := by
  have H := Lib.hid (fun W (hW : Touch [] w W) => h.touch hW)
  clear h
  go_enter Tryd.func24, Tryd.ntmps24
  go_wp2_with fail
  refine (queue_n _ _ (H.out _ (Touch.refl [] w)) s).mono ?_
  rintro e w' ⟨rfl, rfl⟩
  go_wp2_with fail
  refine (All_n w none (.inl rfl)).mono ?_
  rintro e w' ⟨bx, rfl, hL⟩
  have HL := Lib.hid hL
  clear hL
  go_wp2
  go_ret
  exact ⟨bx, none, 0, [], rfl, rfl, HL.out⟩
theorem chLen_n (s : Int) : Calls Tryd.prog 15 #[.pointer p, .int .i64 s] w fun e w' => e = .returned (.int .i64 0) ∧ w = w' := by
  have H := Lib.hid (fun W (hW : Touch [] w W) => h.touch hW)
  have HR : Hid (Calls Tryd.prog 40 #[.pointer p, .int .i64 s, .func (.func 41) #[] #[]] w fun e w' => e = .returned (.tuple #[.int .i64 0, .bool false]) ∧ w = w') := by
    unfold Hid
    go_enter Tryd.func40, Tryd.ntmps40
    go_wp2_with fail
    refine (queue_n _ _ (H.out _ (Touch.refl [] w)) s).mono ?_
    rintro e w' ⟨rfl, rfl⟩
    go_wp2
    go_ret2
    exact ⟨rfl, rfl⟩
  clear h
  go_enter Tryd.func15, Tryd.ntmps15
  go_wp2_with fail
  refine HR.out.mono ?_
  rintro e w' ⟨rfl, rfl⟩
  go_wp2
  go_ret
  exact ⟨rfl, rfl⟩
set_option maxHeartbeats 1000000 in
theorem readE_n (s : Int) (fn : Fn) (xs ys : Array Value) :
    Calls Tryd.prog 34 #[.pointer p, .int .i64 s, .func fn xs ys] w fun e w' => e = .returned (.tuple #[ME.zero.val, .bool false]) ∧ Touch [] w w' := by
  have H := Lib.hid (fun W (hW : Touch [] w W) => h.touch hW)
  clear h
  go_enter Tryd.func34, Tryd.ntmps34
  go_wp2_with fail
  refine wp_calls_name ?_
  intro w1 hw1
  have HL1 := Lib.hid ((Led.nil' w).al1 hw1)
  simp only [List.nil_append] at HL1
  obtain ⟨b6, hb6⟩ : ∃ b, w.heap.size = b := ⟨_, rfl⟩
  rw [hb6] at HL1 ⊢
  clear hw1 hb6
  go_wp2_with fail
  refine (queue_n _ _ (H.out _ HL1.out.tch) s).mono ?_
  rintro e w' ⟨rfl, rfl⟩
  obtain ⟨r0, r1, r2, r3, r4, r5, r6, ⟨f0, f1, f2, f3, f4, f5, f6⟩, zr, _, _⟩ := HL1.out.c7 0 rfl
  have m1 : b6 ≠ w1.heap.size := by omega
  have m2 := Ne.symm m1
  go_wp2
  refine post_nameQ ?_
  intro w2 hw2
  have HL3 := Lib.hid (((HL1.out.setEnt 0 rfl 0 0 0 0 0 0 (.slice none 0 0)).alloc 42 #[.int .i64 0, .int .i64 0, .int .i64 0, .int .i64 0, .int .i64 0, .int .i64 0, .slice none 0 0]).via hw2)
  simp only [List.set_cons_zero, List.set_cons_succ, List.cons_append, List.nil_append] at HL3
  obtain ⟨s0, s1, s2, s3, s4, s5, s6, _⟩ := HL3.out.c7 0 rfl
  have hzv : ME.zero.val = .agg #[.int .i64 0, .int .i64 0, .int .i64 0, .int .i64 0, .int .i64 0, .int .i64 0, .slice none 0 0] := rfl
  refine bodyPost_ret (v := .tuple #[.agg #[.int .i64 0, .int .i64 0, .int .i64 0, .int .i64 0, .int .i64 0, .int .i64 0, .slice none 0 0], .bool false]) (by simp [results, Tryd.results34, go_sem, s0, s1, s2, s3, s4, s5, s6]) rfl ?_
  exact ⟨by rw [hzv], HL3.out.tch⟩
set_option maxHeartbeats 1000000 in
theorem chLook_n (s i : Int) : Calls Tryd.prog 16 #[.pointer p, .int .i64 s, .int .i64 i] w fun e w' => e = .returned (.tuple #[ME.zero.val, .bool false]) ∧ Touch [] w w' := by
  have HLK := Lib.hid (fun W (hW : Touch [] w W) fn xs ys => readE_n W p (h.touch hW) s fn xs ys)
  clear h
  go_enter Tryd.func16, Tryd.ntmps16
  go_wp2_with fail
  refine wp_calls_name ?_
  intro w1 hw1
  have HL1 := Lib.hid ((Led.nil' w).al2 hw1)
  simp only [List.nil_append, List.cons_append] at HL1
  obtain ⟨b6, hb6⟩ : ∃ b, w.heap.size + 1 = b := ⟨_, rfl⟩
  rw [hb6] at HL1 ⊢
  obtain ⟨b5, hb5⟩ : ∃ b, w.heap.size = b := ⟨_, rfl⟩
  rw [hb5] at HL1 ⊢
  clear hw1 hb6 hb5
  refine (HLK.out _ HL1.out.tch _ _ _).mono ?_
  rintro e w2 ⟨rfl, ht⟩
  have HL2 := Lib.hid (HL1.out.touch ht)
  clear ht HL1
  have hzv : ME.zero.val = .agg #[.int .i64 0, .int .i64 0, .int .i64 0, .int .i64 0, .int .i64 0, .int .i64 0, .slice none 0 0] := rfl
  rw [hzv]
  obtain ⟨r0, r1, r2, r3, r4, r5, r6, ⟨f0, f1, f2, f3, f4, f5, f6⟩, zr, _, _⟩ := HL2.out.c7 1 rfl
  go_wp2
  have HL3 := Lib.hid (HL2.out.setEnt 1 rfl 0 0 0 0 0 0 (.slice none 0 0))
  simp only [List.set_cons_zero, List.set_cons_succ] at HL3
  obtain ⟨s0, s1, s2, s3, s4, s5, s6, _⟩ := HL3.out.c7 1 rfl
  refine bodyPost_ret (v := .tuple #[.agg #[.int .i64 0, .int .i64 0, .int .i64 0, .int .i64 0, .int .i64 0, .int .i64 0, .slice none 0 0], .bool false]) (by simp [results, Tryd.results16, go_sem, s0, s1, s2, s3, s4, s5, s6]) rfl ?_
  exact ⟨rfl, HL3.out.tch⟩
set_option maxHeartbeats 1000000 in
theorem chDrop_n (s i : Int) : Calls Tryd.prog 12 #[.pointer p, .int .i64 s, .int .i64 i] w fun e w' => e = .returned (.tuple #[ME.zero.val, .bool false]) ∧ Touch [] w w' := by
  have HLK := Lib.hid (fun W (hW : Touch [] w W) fn xs ys => readE_n W p (h.touch hW) s fn xs ys)
  clear h
  go_enter Tryd.func12, Tryd.ntmps12
  go_wp2_with fail
  refine wp_calls_name ?_
  intro w1 hw1
  have HL1 := Lib.hid ((Led.nil' w).al2 hw1)
  simp only [List.nil_append, List.cons_append] at HL1
  obtain ⟨b6, hb6⟩ : ∃ b, w.heap.size + 1 = b := ⟨_, rfl⟩
  rw [hb6] at HL1 ⊢
  obtain ⟨b5, hb5⟩ : ∃ b, w.heap.size = b := ⟨_, rfl⟩
  rw [hb5] at HL1 ⊢
  clear hw1 hb6 hb5
  refine (HLK.out _ HL1.out.tch _ _ _).mono ?_
  rintro e w2 ⟨rfl, ht⟩
  have HL2 := Lib.hid (HL1.out.touch ht)
  clear ht HL1
  have hzv : ME.zero.val = .agg #[.int .i64 0, .int .i64 0, .int .i64 0, .int .i64 0, .int .i64 0, .int .i64 0, .slice none 0 0] := rfl
  rw [hzv]
  obtain ⟨r0, r1, r2, r3, r4, r5, r6, ⟨f0, f1, f2, f3, f4, f5, f6⟩, zr, _, _⟩ := HL2.out.c7 1 rfl
  go_wp2
  have HL3 := Lib.hid (HL2.out.setEnt 1 rfl 0 0 0 0 0 0 (.slice none 0 0))
  simp only [List.set_cons_zero, List.set_cons_succ] at HL3
  obtain ⟨s0, s1, s2, s3, s4, s5, s6, _⟩ := HL3.out.c7 1 rfl
  refine bodyPost_ret (v := .tuple #[.agg #[.int .i64 0, .int .i64 0, .int .i64 0, .int .i64 0, .int .i64 0, .int .i64 0, .slice none 0 0], .bool false]) (by simp [results, Tryd.results12, go_sem, s0, s1, s2, s3, s4, s5, s6]) rfl ?_
  exact ⟨rfl, HL3.out.tch⟩
set_option maxHeartbeats 1000000 in
theorem chPush_n (s : Int) (x : ME) : Calls Tryd.prog 13 #[.pointer p, .int .i64 s, x.val] w fun e w' => e = .returned (.int .i64 1) ∧ Touch [] w w' := by
  have H := Lib.hid (fun W (hW : Touch [] w W) => h.touch hW)
  clear h
  simp only [ent_eq]
  go_enter Tryd.func13, Tryd.ntmps13
  go_wp2
  refine wp_scope_fwd 0 rfl ?_
  go_wp2_with fail
  refine wp_calls_name ?_
  intro w1 hw1
  have HT1 : Hid (Touch [] w w1) := hw1 ▸ (Touch.refl [] w).alloc _
  clear hw1
  refine (queue_n _ _ (H.out _ HT1.out) s).mono ?_
  rintro e w' ⟨rfl, rfl⟩
  go_wp2_with fail
  refine (chnone_yes _ _ (H.out _ HT1.out)).mono ?_
  rintro e w' ⟨rfl, rfl⟩
  go_wp2
  go_step3
  refine ⟨rfl, ?_⟩
  go_wp2
  refine noGoto_ret' ?_
  go_ret
  exact ⟨rfl, HT1.out⟩
end
theorem chNew_nil (w : World) : Calls Tryd.prog 9 #[.pointer none] w fun e w' => e = .returned (.tuple #[.pointer none, .int .i64 1]) ∧ Touch [] w w' := by
  have HA := Lib.hid (SpinNew_none w none (.inl rfl))
  go_enter Tryd.func9, Tryd.ntmps9
  go_wp2
  refine wp_scope_fwd 0 rfl ?_
  go_wp2_with fail
  refine HA.out.mono ?_
  rintro e w1 ⟨rfl, rfl⟩
  go_wp2
  go_step3
  refine ⟨rfl, ?_⟩
  go_wp2
  refine noGoto_ret' ?_
  go_ret2
  exact ⟨rfl, Touch.refl _ _⟩
theorem chSame_nil_in (n : Nat) (w : World) (p : Option Addr) (h : NoCh w p) : CallsIn Fence.wide n Tryd.prog 27 #[.pointer p, .pointer none] w fun e w' => e = .returned (.bool true) ∧ Touch [] w w' := by
  have HT := Lib.hid ((Touch.refl [] w).alloc (.cells #[.pointer none] 30))
  have H := Lib.hid (h.touch HT.out)
  clear h
  refine callsIn_of_wp_marks Tryd.func27 rfl trivial ?_ rfl
  simp only [Tryd.ntmps27, List.size_toArray, List.length_cons, List.length_nil, Nat.reduceAdd, Nat.reduceSub, Array.replicate_succ, Array.replicate_zero, List.push_toArray, List.append_toArray, List.nil_append, List.cons_append]
  gi_wp2_with fail
  refine ⟨trivial, nodepth, ?_⟩
  refine (callsIn_wide.2 (chnone_yes _ _ H.out)).mono ?_
  rintro e w' ⟨rfl, rfl⟩
  gi_wp2_with fail
  refine ⟨trivial, ?_⟩
  gi_wp2_with fail
  refine ⟨trivial, nodepth, ?_⟩
  refine (callsIn_wide.2 (chnone_yes _ _ H.out)).mono ?_
  rintro e w' ⟨rfl, rfl⟩
  gi_wp2_with fail
  refine ⟨trivial, nodepth, ?_⟩
  refine (callsIn_wide.2 (chnone_yes none _ (.inl rfl))).mono ?_
  rintro e w' ⟨rfl, rfl⟩
  gi_wp2
  exact leave_marks (v := .bool true) [] _ (by simp) (by simp) (by simp [shutAll, results, Tryd.results27, go_sem]) ⟨rfl, HT.out⟩
theorem chSame_nil (w : World) (p : Option Addr) (h : NoCh w p) : Calls Tryd.prog 27 #[.pointer p, .pointer none] w fun e w' => e = .returned (.bool true) ∧ Touch [] w w' := (callsIn_wide (n := 0)).1 (chSame_nil_in 0 w p h)
theorem chSame_left_in (n : Nat) (w : World) (p : Option Addr) (h : NoCh w p) (c : Nat) (a : Int) (M q1 q2 : Nat) (hc : ChAt w c a M q1 q2) : CallsIn Fence.wide n Tryd.prog 27 #[.pointer p, .pointer (some ⟨c, 0, none⟩)] w fun e w' => e = .returned (.bool false) ∧ Touch [] w w' := by
  have HT := Lib.hid ((Touch.refl [] w).alloc (.cells #[.pointer (some ⟨c, 0, none⟩)] 30))
  have H := Lib.hid (h.touch HT.out)
  have HC := Lib.hid (hc.touch HT.out)
  clear h hc
  refine callsIn_of_wp_marks Tryd.func27 rfl trivial ?_ rfl
  simp only [Tryd.ntmps27, List.size_toArray, List.length_cons, List.length_nil, Nat.reduceAdd, Nat.reduceSub, Array.replicate_succ, Array.replicate_zero, List.push_toArray, List.append_toArray, List.nil_append, List.cons_append]
  gi_wp2_with fail
  refine ⟨trivial, nodepth, ?_⟩
  refine (callsIn_wide.2 (chnone_yes _ _ H.out)).mono ?_
  rintro e w' ⟨rfl, rfl⟩
  gi_wp2_with fail
  refine ⟨trivial, ?_⟩
  gi_wp2_with fail
  refine ⟨trivial, nodepth, ?_⟩
  refine (callsIn_wide.2 (chnone_yes _ _ H.out)).mono ?_
  rintro e w' ⟨rfl, rfl⟩
  gi_wp2_with fail
  refine ⟨trivial, nodepth, ?_⟩
  refine (callsIn_wide.2 (chnone_no _ _ _ _ _ _ HC.out)).mono ?_
  rintro e w' ⟨rfl, rfl⟩
  gi_wp2
  exact leave_marks (v := .bool false) [] _ (by simp) (by simp) (by simp [shutAll, results, Tryd.results27, go_sem]) ⟨rfl, HT.out⟩
theorem chSame_left (w : World) (p : Option Addr) (h : NoCh w p) (c : Nat) (a : Int) (M q1 q2 : Nat) (hc : ChAt w c a M q1 q2) : Calls Tryd.prog 27 #[.pointer p, .pointer (some ⟨c, 0, none⟩)] w fun e w' => e = .returned (.bool false) ∧ Touch [] w w' := (callsIn_wide (n := 0)).1 (chSame_left_in 0 w p h c a M q1 q2 hc)
theorem idxS0 (W : World) : (Instr.index 99 (.agg #[.int .i64 1, .int .i64 2]) (.int .i64 0)).run Tryd.prog W = .ok (.int .i64 1) W := by kernel_rfl
theorem idxS1 (W : World) : (Instr.index 99 (.agg #[.int .i64 1, .int .i64 2]) (.int .i64 1)).run Tryd.prog W = .ok (.int .i64 2) W := by kernel_rfl
def otherOf (s : Int) : Int := if s = 1 then 2 else if s = 2 then 1 else 0
set_option maxHeartbeats 1000000 in
theorem Other_c (w : World) (s : Int) (hS : SidesAt w) : Calls Tryd.prog 30 #[.int .i64 s] w fun e w' => e = .returned (.int .i64 (otherOf s)) ∧ w = w' := by
  obtain ⟨t0, t1⟩ := hS
  have tl : 0 < w.heap.size := World.block_lt_of_cell? _ _ t0
  go_enter Tryd.func30, Tryd.ntmps30
  go_wp2_with fail
  go_loopw [6] (fun i wr => wr = w ∧ (i = .int .i64 0 ∨ (i = .int .i64 1 ∧ s ≠ 1) ∨ (i = .int .i64 2 ∧ s ≠ 1 ∧ s ≠ 2))) (fun i _ => 2 - (intOf i).toNat)
  case atStart => exact ⟨rfl, .inl rfl⟩
  case round =>
    obtain ⟨rfl, rfl | ⟨rfl, h1⟩ | ⟨rfl, h1, h2⟩⟩ := hrel
    · have hi := idxS0 wr
      by_cases hs : s = 1
      · subst hs
        go_wp2
        go_ret
        exact ⟨rfl, rfl⟩
      · have hs' : ¬ (1 : Int) = s := fun e => hs e.symm
        go_wp2
        clear hi
        go_roundw
        case rel => exact ⟨trivial, .inr (.inl ⟨by go_num, hs⟩)⟩
        case measure => simp [intOf]
    · have hi := idxS1 wr
      by_cases hs : s = 2
      · subst hs
        go_wp2
        go_ret
        exact ⟨rfl, rfl⟩
      · have hs' : ¬ (2 : Int) = s := fun e => hs e.symm
        go_wp2
        clear hi
        go_roundw
        case rel => exact ⟨trivial, .inr (.inr ⟨by go_num, h1, hs⟩)⟩
        case measure => simp [intOf]
    · have ho : otherOf s = 0 := by unfold otherOf; rw [if_neg h1, if_neg h2]
      go_wp2
      go_ret
      exact ⟨by rw [ho]; rfl, rfl⟩
end Go.Proofs.YtihmbgdkllmkaaaDoor

/-
  The law's works() of layer 14 (betrothallaw14/law.go): it returns true, and nothing that was there has turned.
-/
namespace Go.Proofs.YtihmbgdkllmkaaaDoor
open Go.RowKit Go.Shelf
set_option maxRecDepth 100000
set_option linter.unusedVariables false
set_option linter.unusedSimpArgs false
attribute [local go_sem] Oper.semAt_some

theorem one_of {ys : List ME} {a : PE} (h : ys.map ME.plain = [a]) : ∃ y, ys = [y] ∧ y.plain = a := by
  match ys, h with
  | [y], h => simp at h; exact ⟨y, rfl, h⟩
theorem num14 (n : Int) (w : World) : Calls Tryd.prog 10 #[.int .i64 n] w fun e w' => e = .returned (.int .i64 n) ∧ w = w' := by
  go_enter Tryd.func10, Tryd.ntmps10
  go_wp2
  go_ret
  exact ⟨rfl, rfl⟩
theorem build_sync (s : Int) (w : World) : (Instr.build 42 #[(0, .int .i64 s)]).run Tryd.prog w = .ok (ofE s 0).val w := run_build w 42 _ _ (by kernel_rfl)
attribute [local go_sem] build_sync
theorem sync14 (s : Int) (w : World) : Calls Tryd.prog 14 #[.int .i64 s] w fun e w' => e = .returned (ofE s 0).val ∧ Touch [] w w' := by
  have HT := Lib.hid ((Touch.refl [] w).alloc (.cells #[.int .i64 s, .int .i64 0, .int .i64 0, .int .i64 0, .int .i64 0, .int .i64 0, .slice none 0 0] 42))
  go_enter Tryd.func14, Tryd.ntmps14
  go_wp2
  refine bodyPost_ret (v := .agg #[.int .i64 s, .int .i64 0, .int .i64 0, .int .i64 0, .int .i64 0, .int .i64 0, .slice none 0 0]) (by simp [results, Tryd.results14, go_sem]) rfl ⟨rfl, HT.out⟩
theorem zero_valW : ME.zero.val = .agg #[.int .i64 0, .int .i64 0, .int .i64 0, .int .i64 0, .int .i64 0, .int .i64 0, .slice none 0 0] := rfl
/-- A thing that says nothing. -/
theorem Led.addStill {T : List Nat} {w0 w : World} {l : List Thing} (h : Led T w0 w l) : Led T w0 w (l ++ [stillT (fun _ => True)]) :=
  h.new (t' := stillT (fun _ => True)) (f' := []) ⟨by simp, fun _ _ => trivial⟩ ⟨Touch.refl _ _, by simp⟩
theorem Led.sub1 {T : List Nat} {w0 w : World} {a0 a1 a2 a3 a4 a5 a6 a7 a8 a9 a10 t : Thing} (h : Led T w0 w [a0, a1, a2, a3, a4, a5, a6, a7, a8, a9, a10, t]) : Led T w0 w [a0, a1, a2, a3, a4, a5, a6, a7, a8, a9, a10] := h.sel [0, 1, 2, 3, 4, 5, 6, 7, 8, 9, 10] rfl (by decide)
/-- An arena of three cells, of which some are allotted. -/
def ar3 (C : List Nat) (L : List Acc) : Ar := ⟨C, 3, L⟩
/-- A push of a number that may be. -/
theorem Led.pushOk {T : List Nat} {w0 w : World} {l : List Thing} {c : Nat} {a : Int} {M q1 q2 : Nat} {s : Int} {g : Nat} {es : List ME} {P : World → Prop} (h : Led T w0 w l) (i j : Nat) (hi : l[i]? = some (queueT g es)) (hj : l[j]? = some (stillT P)) (hij : i ≠ j) (hc : ChAt w c a M q1 q2) (hq : qOf s q1 q2 = some ⟨g, 0, none⟩) (n : Int) (hn : 0 ≤ n) (hes : es.length < 4096) :
    Calls Tryd.prog 13 #[.pointer (some ⟨c, 0, none⟩), .int .i64 s, (ofE n 0).val] w fun e w' => ∃ y, e = .returned (.int .i64 0) ∧ y.plain = pOf n 0 ∧ Led T w0 w' ((l.set i (queueT g (es ++ [y]))).set j (stillT (fun W => P W ∧ y.v.In W))) := by
  refine (h.chPush i j hi hj hij hc hq (ofE n 0) (fun W _ => MT.in_zero W) (by omega)).mono ?_
  rintro e w' ⟨k, err, ys, rfl, hR, hp, hL⟩
  obtain ⟨rfl, rfl⟩ := hR.all (fun p hp => by simp at hp; rw [hp]; exact pOf_ok hn (Int.le_refl 0)) (by simp; omega)
  obtain ⟨y, rfl, hy⟩ := one_of (a := pOf n 0) hp
  refine ⟨y, rfl, hy, ?_⟩
  have e1 : (fun W => P W ∧ ∀ y' ∈ [y], y'.v.In W) = (fun W => P W ∧ y.v.In W) := by funext W; simp
  rw [e1] at hL
  exact hL
theorem nodes_of {y : ME} {n : Int} (h : y.plain = pOf n 0) : y.v.nodes ≤ 256 := by
  rw [plain_nodes_eq (y := ofE n 0) (show (ofE n 0).plain = y.plain from h.symm)]
  show (1 : Nat) + 0 ≤ 256
  omega
theorem lock_a : (ar3 [0, 0] []).swap 1 0 1 = (ar3 [0, 1] [⟨3, 1, 0, 1, true⟩], ⟨3, 1, 0, 1, true⟩, 0) := rfl
theorem lock_b : (ar3 [0, 1] [⟨3, 1, 0, 1, true⟩]).swap 1 0 1 = (ar3 [0, 1] [⟨3, 1, 0, 1, true⟩, ⟨3, 1, 1, 1, false⟩], ⟨3, 1, 1, 1, false⟩, 0) := rfl
theorem unlock_a : (ar3 [0, 1] [⟨3, 1, 0, 1, true⟩, ⟨3, 1, 1, 1, false⟩]).freeE 1 = 0 ∧ ((ar3 [0, 1] [⟨3, 1, 0, 1, true⟩, ⟨3, 1, 1, 1, false⟩]).swap 1 1 0).1 = ar3 [0, 0] [⟨3, 1, 0, 1, true⟩, ⟨3, 1, 1, 1, false⟩, ⟨3, 1, 1, 0, true⟩] := ⟨rfl, rfl⟩
theorem unlock_b : (ar3 [0, 0] [⟨3, 1, 0, 1, true⟩, ⟨3, 1, 1, 1, false⟩, ⟨3, 1, 1, 0, true⟩]).freeE 1 = 30 ∧ ((ar3 [0, 0] [⟨3, 1, 0, 1, true⟩, ⟨3, 1, 1, 1, false⟩, ⟨3, 1, 1, 0, true⟩]).swap 1 1 0).1 = ar3 [0, 0] [⟨3, 1, 0, 1, true⟩, ⟨3, 1, 1, 1, false⟩, ⟨3, 1, 1, 0, true⟩, ⟨3, 1, 0, 0, false⟩] := ⟨rfl, rfl⟩
set_option maxHeartbeats 4000000 in
theorem works14 (w : World) (hS : SidesAt w) : Calls Tryd.prog 7 #[] w fun e w' => e = .returned (.bool true) ∧ Touch [] w w' := by
  have HS := Lib.hid hS
  clear hS
  go_enter Tryd.func7, Tryd.ntmps7
  go_wp2_with fail
  refine ((Led.nil' w).arNew 3 (by omega) (by omega)).mono ?_
  rintro e w1 ⟨rfl, hh⟩
  have HL1 : Hid (Led [] w w1 [arena w.heap.size (ar3 [] []), stillT (fun _ => True)]) := hh.addStill
  obtain ⟨g, hg⟩ : ∃ b, w.heap.size = b := ⟨_, rfl⟩
  rw [hg] at HL1 ⊢
  clear hh hg
  go_wp2_with fail
  refine (HL1.out.chNew 0 rfl (fun W h => HS.out.touch h.tch) (by decide)).mono ?_
  rintro e w2 ⟨c, M, q1, q2, rfl, hL⟩
  have HL2 : Hid (Led [] w w2 ([arena g (ar3 [0] []), stillT (fun _ => True)] ++ chanL c 0 M q1 q2 [] [])) := hL
  clear hL HL1
  go_wp2_with fail
  refine (HL2.out.chNew 0 rfl (fun W h => HS.out.touch h.tch) (by decide)).mono ?_
  rintro e w3 ⟨d, N, p1, p2, rfl, hL⟩
  have HL : Hid (Led [] w w3 (([arena g (ar3 [0, 0] []), stillT (fun _ => True)] ++ chanL c 0 M q1 q2 [] []) ++ chanL d 1 N p1 p2 [] [])) := hL
  clear hL HL2
  simp only [chanL, List.cons_append, List.nil_append] at HL
  have hA := HL.out.chLock 0 rfl (HL.out.chAt 6 7 rfl rfl) (by decide)
  rw [lock_a] at hA
  go_wp2_with fail
  refine hA.mono ?_
  clear hA
  rintro e w4 ⟨rfl, hL⟩
  have HLN := Lib.hid hL
  simp only [List.set_cons_zero, List.set_cons_succ, List.cons_append, List.nil_append] at HLN
  clear hL HL
  have HL := Lib.hid HLN.out
  clear HLN
  have hA := HL.out.chLock 0 rfl (HL.out.chAt 6 7 rfl rfl) (by decide)
  rw [lock_b] at hA
  go_wp2_with fail
  refine hA.mono ?_
  clear hA
  rintro e w5 ⟨rfl, hL⟩
  have HLN := Lib.hid hL
  simp only [List.set_cons_zero, List.set_cons_succ, List.cons_append, List.nil_append] at HLN
  clear hL HL
  have HL := Lib.hid HLN.out
  clear HLN
  have hA := HL.out.chUnlock 0 rfl (HL.out.chAt 6 7 rfl rfl) (by decide)
  rw [unlock_a.1, unlock_a.2] at hA
  go_wp2_with fail
  refine hA.mono ?_
  clear hA
  rintro e w6 ⟨rfl, hL⟩
  have HLN := Lib.hid hL
  simp only [List.set_cons_zero, List.set_cons_succ, List.cons_append, List.nil_append] at HLN
  clear hL HL
  have HL := Lib.hid HLN.out
  clear HLN
  have hA := HL.out.chUnlock 0 rfl (HL.out.chAt 6 7 rfl rfl) (by decide)
  rw [unlock_b.1, unlock_b.2] at hA
  go_wp2_with fail
  refine hA.mono ?_
  clear hA
  rintro e w7 ⟨rfl, hL⟩
  have HLN := Lib.hid hL
  simp only [List.set_cons_zero, List.set_cons_succ, List.cons_append, List.nil_append] at HLN
  clear hL HL
  have HL := Lib.hid HLN.out
  clear HLN
  go_wp2_with fail
  refine (num14 _ _).mono ?_
  rintro e wn ⟨rfl, rfl⟩
  go_wp2_with fail
  refine (num14 _ _).mono ?_
  rintro e wn ⟨rfl, rfl⟩
  go_wp2_with fail
  refine (num14 _ _).mono ?_
  rintro e wn ⟨rfl, rfl⟩
  go_wp2_with fail
  refine (num14 _ _).mono ?_
  rintro e wn ⟨rfl, rfl⟩
  go_wp2_with fail
  refine (num14 _ _).mono ?_
  rintro e wn ⟨rfl, rfl⟩
  go_wp2_with fail
  refine (num14 _ _).mono ?_
  rintro e wn ⟨rfl, rfl⟩
  go_wp2_with fail
  refine (Cell_ch _ _ _ _ _ _ (HL.out.chAt 2 3 rfl rfl)).mono ?_
  rintro e wn ⟨rfl, rfl⟩
  go_wp2_with fail
  refine (Cell_ch _ _ _ _ _ _ (HL.out.chAt 6 7 rfl rfl)).mono ?_
  rintro e wn ⟨rfl, rfl⟩
  go_wp2_with fail
  refine (num14 _ _).mono ?_
  rintro e wn ⟨rfl, rfl⟩
  go_wp2_with fail
  refine (sync14 _ _).mono ?_
  rintro e w8 ⟨rfl, ht⟩
  have HLN := Lib.hid (HL.out.touch ht)
  clear ht HL
  have HL := Lib.hid HLN.out
  clear HLN
  go_wp2_with fail
  refine (HL.out.pushOk (es := []) 4 1 rfl rfl (by decide) (HL.out.chAt 2 3 rfl rfl) rfl 4 (by decide) (by decide)).mono ?_
  rintro e w9 ⟨y4, rfl, h4, hL⟩
  have HLN := Lib.hid hL
  have H4 := Lib.hid h4
  simp only [List.set_cons_zero, List.set_cons_succ, List.nil_append] at HLN
  clear hL h4 HL
  have HL := Lib.hid HLN.out
  clear HLN
  go_wp2_with fail
  refine (sync14 _ _).mono ?_
  rintro e w10 ⟨rfl, ht⟩
  have HLN := Lib.hid (HL.out.touch ht)
  clear ht HL
  have HL := Lib.hid HLN.out
  clear HLN
  go_wp2_with fail
  refine (HL.out.pushOk (es := [y4]) 4 1 rfl rfl (by decide) (HL.out.chAt 2 3 rfl rfl) rfl 5 (by decide) (by simp)).mono ?_
  rintro e w11 ⟨y5, rfl, h5, hL⟩
  have HLN := Lib.hid hL
  have H5 := Lib.hid h5
  simp only [List.set_cons_zero, List.set_cons_succ, List.nil_append, List.cons_append] at HLN
  clear hL h5 HL
  have HL := Lib.hid HLN.out
  clear HLN
  go_wp2_with fail
  refine (Look_ch w11 c 0 M q1 q2 (HL.out.chAt 2 3 rfl rfl) 1 q1 [y4, y5] 1 rfl (HL.out.qAt 4 rfl) (fun e he => by
    have hs := HL.out.still 1 rfl
    simp at he
    rcases he with rfl | rfl
    · exact ⟨hs.1.2, nodes_of H4.out⟩
    · exact ⟨hs.2, nodes_of H5.out⟩)).mono ?_
  rintro e w12 ⟨x, cc, rfl, hR, _, _, ht⟩
  obtain ⟨rfl, hx5⟩ : cc = true ∧ x.sync = 5 := by
    rcases hR with ⟨h1, _, h2⟩ | ⟨_, h2, _⟩
    · refine ⟨h1, ?_⟩
      have h3 : x.plain = pOf 5 0 := by rw [← H5.out]; simpa using h2.symm
      exact congrArg PE.sync h3
    · exact absurd ⟨by decide, by simp⟩ h2
  have HLN := Lib.hid ((HL.out.touch ht).alloc 42 #[.int .i64 x.sync, .int .i64 x.thread, .int .i64 x.branch, .int .i64 x.flag, .int .i64 x.v.kind, .int .i64 x.v.num, .slice x.v.addr x.v.parts.length x.v.cap])
  have HX5 := Lib.hid hx5
  clear ht hR hx5 HL
  simp only [List.cons_append, List.nil_append] at HLN
  simp only [ent_eq]
  go_wp2_with fail
  refine wp_calls_name ?_
  intro w13 hw13
  have HL := Lib.hid (HLN.out.via hw13)
  obtain ⟨b15, hb15⟩ : ∃ b, w12.heap.size = b := ⟨_, rfl⟩
  rw [hb15] at HL ⊢
  clear hw13 hb15 HLN
  refine (Look_ch w13 c 0 M q1 q2 (HL.out.chAt 2 3 rfl rfl) 2 q2 [] 0 rfl (HL.out.qAt 5 rfl) (by simp)).mono ?_
  rintro e w14 ⟨x2, cc, rfl, hR, _, _, ht⟩
  obtain rfl : cc = false := by
    rcases hR with ⟨_, _, h2⟩ | ⟨h1, _⟩
    · simp at h2
    · exact h1
  have HLN := Lib.hid ((HL.out.touch ht).alloc 42 #[.int .i64 x2.sync, .int .i64 x2.thread, .int .i64 x2.branch, .int .i64 x2.flag, .int .i64 x2.v.kind, .int .i64 x2.v.num, .slice x2.v.addr x2.v.parts.length x2.v.cap])
  clear ht hR HL
  simp only [List.cons_append, List.nil_append] at HLN
  simp only [ent_eq]
  go_wp2_with fail
  refine wp_calls_name ?_
  intro w15 hw15
  have HL := Lib.hid (HLN.out.via hw15).sub1
  clear hw15 HLN
  refine (HL.out.chDrop 4 rfl (HL.out.chAt 2 3 rfl rfl) rfl (by simp) 0).mono ?_
  rintro e w16 ⟨y, b, rfl, hR, hL⟩
  obtain ⟨rfl, rfl⟩ : b = true ∧ y = y4 := by
    rcases hR with ⟨h1, _, h2⟩ | ⟨_, h2, _⟩
    · exact ⟨h1, by simpa using h2.symm⟩
    · exact absurd ⟨by decide, by simp⟩ h2
  have HLN := Lib.hid (hL.alloc 42 #[.int .i64 y.sync, .int .i64 y.thread, .int .i64 y.branch, .int .i64 y.flag, .int .i64 y.v.kind, .int .i64 y.v.num, .slice y.v.addr y.v.parts.length y.v.cap])
  clear hR hL HL
  simp only [List.set_cons_zero, List.set_cons_succ, List.cons_append, List.nil_append, if_true, List.eraseIdx_zero, List.tail_cons] at HLN
  simp only [ent_eq]
  go_wp2_with fail
  refine wp_calls_name ?_
  intro w17 hw17
  have HL := Lib.hid (HLN.out.via hw17)
  obtain ⟨b19, hb19⟩ : ∃ b, w16.heap.size = b := ⟨_, rfl⟩
  rw [hb19] at HL ⊢
  clear hw17 hb19 HLN
  refine (HL.out.chNew 0 rfl (fun W h => HS.out.touch h.tch) (by decide)).mono ?_
  rintro e w18 ⟨c3, M3, r1, r2, rfl, hL⟩
  have HLN : Hid (Led [] w w18 (([arena g (ar3 [0, 0, 0] [⟨3, 1, 0, 1, true⟩, ⟨3, 1, 1, 1, false⟩, ⟨3, 1, 1, 0, true⟩, ⟨3, 1, 0, 0, false⟩]), _, _, _, _, _, _, _, _, _, _, _]) ++ chanL c3 2 M3 r1 r2 [] [])) := hL
  clear hL HL
  have HL := Lib.hid (HLN.out.sub_end)
  clear HLN
  go_wp2_with fail
  refine (HL.out.chNew_full 0 rfl (by decide)).mono ?_
  rintro e w19 ⟨rfl, hL⟩
  have HLN := Lib.hid hL
  clear hL HL
  have HL := Lib.hid HLN.out
  clear HLN
  simp only [List.set_cons_zero] at HL
  go_wp2_with fail
  refine (num14 _ _).mono ?_
  rintro e wn ⟨rfl, rfl⟩
  go_wp2_with fail
  refine (num14 _ _).mono ?_
  rintro e wn ⟨rfl, rfl⟩
  go_wp2_with fail
  refine (num14 _ _).mono ?_
  rintro e wn ⟨rfl, rfl⟩
  obtain ⟨z0, z1, z2, z3, z4, z5, z6, _, hz, _, _⟩ := HL.out.c7 10 rfl
  obtain ⟨v0, v1, v2, v3, v4, v5, v6, _, hv, _, _⟩ := HL.out.c7 11 rfl
  rw [HX5.out] at z0
  rw [show y.sync = 4 from congrArg PE.sync H4.out] at v0
  go_wp2_with fail
  refine (Len_ch _ _ _ _ _ _ (HL.out.chAt 2 3 rfl rfl) 1 q1 [y5] rfl (HL.out.qAt 4 rfl)).mono ?_
  rintro e wn ⟨rfl, rfl⟩
  go_wp2_with fail
  refine (sync14 _ _).mono ?_
  rintro e w20 ⟨rfl, ht⟩
  have HLN := Lib.hid (HL.out.touch ht)
  clear ht HL z0 z1 z2 z3 z4 z5 z6 hz v0 v1 v2 v3 v4 v5 v6 hv
  have HL := Lib.hid HLN.out
  clear HLN
  go_wp2_with fail
  refine (Push_ch_no _ _ _ _ _ _ (HL.out.chAt 2 3 rfl rfl) 0 (ofE 1 0) rfl).mono ?_
  rintro e w21 ⟨rfl, ht⟩
  have HLN := Lib.hid (HL.out.touch ht)
  clear ht HL
  have HL := Lib.hid HLN.out
  clear HLN
  go_wp2_with fail
  refine (num14 _ _).mono ?_
  rintro e wn ⟨rfl, rfl⟩
  go_wp2_with fail
  refine (Other_c _ 1 (HS.out.touch HL.out.tch)).mono ?_
  rintro e wn ⟨rfl, rfl⟩
  rw [show otherOf 1 = 2 from rfl]
  go_wp2_with fail
  refine (num14 _ _).mono ?_
  rintro e wn ⟨rfl, rfl⟩
  go_wp2
  go_ret
  exact ⟨rfl, HL.out.tch⟩
end Go.Proofs.YtihmbgdkllmkaaaDoor

/-
  A []uint8 in a row, opened.
-/
namespace Go.Proofs.YtihmbgdkllmkaaaDoor
open Go.RowKit Go.ChangeShapes Go.WideShapes Go.ChangeAt
set_option maxRecDepth 100000

/-- The bytes of a slice. -/
def BytesAt (w : World) (a : Option Addr) (z : List Nat) : Prop := (∀ x ∈ z, x < 256) ∧ ∀ i (hi : i < z.length), ∃ b o, a = some ⟨b, o, none⟩ ∧ b < w.heap.size ∧ w.cell? ⟨b, o + i, none⟩ = some (.int .u8 (z[i] : Int))

theorem open_bytes {H : Type} {enc : TypeId × Value → H} {w : World} {base : Nat} {spare : Nat → Bool} {held : Bool} {r : Reach} {b0 : Nat}
    {v : Value} {d : DataW H} {p : List MemPlace} (hv : Value.okWide Tryd.prog w r b0 24 v) (h : DataW.Trod enc Tryd.prog w base spare held 24 v d p) :
    ∃ (a : Option Addr) (len cap : Nat) (z : List Nat), v = .slice a len cap ∧ len ≤ maxLen ∧ z.length = len ∧ BytesAt w a z := by
  obtain ⟨a, len, cap, rfl⟩ := okWide_slice Tryd.underlying24 hv
  obtain ⟨fuel, hf⟩ := h
  rcases open_ints Tryd.underlying24 Tryd.underlying5 (by kernel_rfl) hf with ⟨hcs, _⟩ | ⟨x, l, c, zs, hcs, _, hl, hm, hz, _, hcell, hwz⟩
  · simp [Value.cells] at hcs
    obtain ⟨rfl, rfl, rfl⟩ := hcs
    exact ⟨none, 0, 0, [], rfl, by simp [maxLen], rfl, by simp, fun i hi => by simp at hi⟩
  · simp [Value.cells] at hcs
    obtain ⟨rfl, rfl, rfl⟩ := hcs
    have hz' : len ≤ zs.length := by rw [hz]; split <;> omega
    have hb : ∀ n ∈ zs, 0 ≤ n ∧ n < 256 := fun n hn => by
      have := bounds_u8 (hwz n hn)
      omega
    refine ⟨_, len, cap, (zs.take len).map Int.toNat, rfl, by omega, by simp; omega, ?_, ?_⟩
    · intro z hz'
      obtain ⟨n, hn, rfl⟩ := List.mem_map.1 hz'
      have := hb n (List.mem_of_mem_take hn)
      omega
    · intro i hi
      simp only [List.length_map, List.length_take] at hi
      have hi2 : i < zs.length := by omega
      have hc := hcell i (by omega)
      obtain ⟨b, o, sp⟩ := x
      have hsp : sp = none := by
        have := hcell 0 (by omega)
        simpa [Addr.add] using World.cell?_spot this
      subst hsp
      refine ⟨b, o, rfl, World.block_lt_of_cell? w ⟨b, o, none⟩ (u := .int .u8 (zs.getD 0 0)) (by have := hcell 0 (by omega); simpa [Addr.add] using this), ?_⟩
      have e2 : zs.getD i 0 = zs[i] := by simp [List.getD, hi2]
      have hbi := hb zs[i] (List.getElem_mem hi2)
      rw [Addr.add_lit] at hc
      rw [hc, e2]
      simp only [List.getElem_map, List.getElem_take]
      rw [show ((zs[i].toNat : Nat) : Int) = zs[i] by omega]
end Go.Proofs.YtihmbgdkllmkaaaDoor

/-
  A []int and a []bool in a row, opened.
-/
namespace Go.Proofs.YtihmbgdkllmkaaaDoor
open Go.RowKit Go.ChangeShapes Go.WideShapes Go.ChangeAt
open Go.Deep (open_bools)
set_option maxRecDepth 100000

/-- The numbers of a slice. -/
def NumsAt (w : World) (a : Option Addr) (z : List Int) : Prop := ∀ i (hi : i < z.length), ∃ b o, a = some ⟨b, o, none⟩ ∧ b < w.heap.size ∧ w.cell? ⟨b, o + i, none⟩ = some (.int .i64 z[i])
/-- The Booleans of a slice. -/
def BoolsAt (w : World) (a : Option Addr) (n : Nat) (B : Nat → Bool) : Prop := ∀ i, i < n → ∃ b o, a = some ⟨b, o, none⟩ ∧ b < w.heap.size ∧ w.cell? ⟨b, o + i, none⟩ = some (.bool (B i))

theorem open_numsAt {H : Type} {enc : TypeId × Value → H} {w : World} {base : Nat} {spare : Nat → Bool} {held : Bool} {r : Reach} {b0 : Nat}
    {v : Value} {d : DataW H} {p : List MemPlace} (hv : Value.okWide Tryd.prog w r b0 22 v) (h : DataW.Trod enc Tryd.prog w base spare held 22 v d p) :
    ∃ (a : Option Addr) (len cap : Nat) (z : List Int), v = .slice a len cap ∧ len ≤ maxLen ∧ z.length = len ∧ NumsAt w a z := by
  obtain ⟨a, len, cap, rfl⟩ := okWide_slice Tryd.underlying22 hv
  obtain ⟨fuel, hf⟩ := h
  rcases open_ints Tryd.underlying22 Tryd.underlying3 (by kernel_rfl) hf with ⟨hcs, _⟩ | ⟨x, l, c, zs, hcs, _, hl, hm, hz, _, hcell, hwz⟩
  · simp [Value.cells] at hcs
    obtain ⟨rfl, rfl, rfl⟩ := hcs
    exact ⟨none, 0, 0, [], rfl, by simp [maxLen], rfl, fun i hi => by simp at hi⟩
  · simp [Value.cells] at hcs
    obtain ⟨rfl, rfl, rfl⟩ := hcs
    have hz' : len ≤ zs.length := by rw [hz]; split <;> omega
    refine ⟨_, len, cap, zs.take len, rfl, by omega, by simp; omega, ?_⟩
    intro i hi
    simp only [List.length_take] at hi
    have hi2 : i < zs.length := by omega
    have hc := hcell i (by omega)
    obtain ⟨b, o, sp⟩ := x
    have hsp : sp = none := by
      have := hcell 0 (by omega)
      simpa [Addr.add] using World.cell?_spot this
    subst hsp
    refine ⟨b, o, rfl, World.block_lt_of_cell? w ⟨b, o, none⟩ (u := .int .i64 (zs.getD 0 0)) (by have := hcell 0 (by omega); simpa [Addr.add] using this), ?_⟩
    have e2 : zs.getD i 0 = zs[i] := by simp [List.getD, hi2]
    rw [Addr.add_lit] at hc
    rw [hc, e2]
    simp only [List.getElem_take]
theorem open_boolsAt {H : Type} {enc : TypeId × Value → H} {w : World} {base : Nat} {held : Bool} {r : Reach} {b0 : Nat}
    {v : Value} {d : DataW H} {p : List MemPlace} (hv : Value.okWide Tryd.prog w r b0 23 v) (h : DataW.Trod enc Tryd.prog w base (fun _ => true) held 23 v d p) :
    ∃ (a : Option Addr) (len cap : Nat) (B : Nat → Bool), v = .slice a len cap ∧ len ≤ maxLen ∧ BoolsAt w a len B := by
  obtain ⟨a, len, cap, rfl⟩ := okWide_slice Tryd.underlying23 hv
  obtain ⟨fuel, hf⟩ := h
  rcases open_bools Tryd.underlying23 Tryd.underlying4 (by kernel_rfl) hf with ⟨hcs, _⟩ | ⟨x, l, c, B, hcs, _, hl, hm, _, hcell⟩
  · simp [Value.cells] at hcs
    obtain ⟨rfl, rfl, rfl⟩ := hcs
    exact ⟨none, 0, 0, fun _ => false, rfl, by simp [maxLen], fun i hi => by simp at hi⟩
  · simp [Value.cells] at hcs
    obtain ⟨rfl, rfl, rfl⟩ := hcs
    refine ⟨_, len, cap, B, rfl, by omega, ?_⟩
    intro i hi
    have hc := hcell i (by omega)
    obtain ⟨b, o, sp⟩ := x
    have hsp : sp = none := by
      have := hcell 0 (by omega)
      simpa [Addr.add] using World.cell?_spot this
    subst hsp
    refine ⟨b, o, rfl, World.block_lt_of_cell? w ⟨b, o, none⟩ (u := .bool (B 0)) (by have := hcell 0 (by omega); simpa [Addr.add] using this), ?_⟩
    rw [Addr.add_lit] at hc
    rw [hc]
end Go.Proofs.YtihmbgdkllmkaaaDoor

/-
  Many loops over iterators, one behind another: their marks as one thing; rows of integers.
-/
namespace Go.Proofs.YtihmbgdkllmkaaaDoor
open Go.RowKit Go.Shelf
set_option linter.unusedVariables false
set_option linter.unusedSimpArgs false

/-- The marks of loops that are over. -/
def marksT (Ds : List Nat) : Thing where
  holds w fp := fp = Ds ∧ Ds.Nodup ∧ ∀ D ∈ Ds, w.heap[D]? = some (.deferred (some []))
  keep := fun ⟨h1, h2, h3⟩ he => ⟨h1, h2, fun D hD => (he D (h1 ▸ hD)).trans (h3 D hD)⟩
  lt := fun ⟨h1, h2, h3⟩ k hk => by subst h1; exact (Array.getElem?_eq_some_iff.1 (h3 k hk)).1
theorem shutAll_touch (ks : List Nat) : ∀ (w : World), Touch ks w (shutAll w ks) := by
  induction ks with
  | nil => intro w; exact Touch.refl _ _
  | cons k ks ih =>
    intro w
    have h1 : Touch (k :: ks) w (w.putObj k (.deferred none)) := (Touch.refl _ w).putObj (.inr (by simp)) _
    exact h1.trans (ih _) (fun x hx => .inl (by simp [hx]))
section
variable {T : List Nat} {w0 w w' : World} {l : List Thing} {Ds : List Nat} {D : Nat}
theorem Led.marks0 (h : Led T w0 w l) : Led T w0 w (l ++ [marksT []]) := h.new (t' := marksT []) (f' := []) ⟨rfl, by simp, by simp⟩ ⟨Touch.refl _ _, by simp⟩
theorem Led.marksAt (h : Led T w0 w l) (i : Nat) (hi : l[i]? = some (marksT Ds)) : Ds.Nodup ∧ ∀ D ∈ Ds, w.heap[D]? = some (.deferred (some [])) := let ⟨_, h, _⟩ := h.get i hi; h.2
/-- One mark more (at the end: the mark, the marks). -/
theorem Led.addMark (h : Led T w0 w (l ++ [Proofs.YtihmbgdkllmkaaaDoor.mark D, marksT Ds])) : Led T w0 w (l ++ [marksT (D :: Ds)]) := by
  have hd : D ∉ Ds := by
    obtain ⟨_, F, h1, h2⟩ := h
    have e1 : (l ++ [Proofs.YtihmbgdkllmkaaaDoor.mark D, marksT Ds])[l.length]? = some (Proofs.YtihmbgdkllmkaaaDoor.mark D) := by simp
    have e2 : (l ++ [Proofs.YtihmbgdkllmkaaaDoor.mark D, marksT Ds])[l.length + 1]? = some (marksT Ds) := by simp
    have a1 := (h1 _ _ e1).1.1
    have a2 := (h1 _ _ e2).1.1
    have := h2 l.length (l.length + 1) (by simp) (by simp) (by omega) D (by rw [a1]; simp)
    rwa [a2] at this
  refine h.merge ?_
  rintro f1 f2 ⟨a1, a2⟩ ⟨b1, b2, b3⟩
  refine ⟨by rw [a1, b1]; rfl, List.nodup_cons.2 ⟨hd, b2⟩, fun x hx => ?_⟩
  rcases List.mem_cons.1 hx with rfl | hx
  · exact a2
  · exact b3 x hx
theorem Led.shutM (h : Led T w0 w l) (i : Nat) (hi : l[i]? = some (marksT Ds)) : Led T w0 (Proofs.YtihmbgdkllmkaaaDoor.shutAll w Ds) (l.set i (Proofs.YtihmbgdkllmkaaaDoor.fact True)) := by
  obtain ⟨f, ⟨hf, hm⟩, _, hs⟩ := h.step i hi
  subst hf
  exact hs _ (Proofs.YtihmbgdkllmkaaaDoor.fact True) [] ⟨rfl, trivial⟩ ⟨shutAll_touch _ _, by simp⟩
/-- A bool in a cell is returned, behind as many loops as there were. -/
theorem led_retM {n : Nat} {W : World} {fn : Func} {ra : Tmp} (hres : fn.results = #[ResultVar.cell ra 4]) {tmps : Array Value} {b : Nat} (htm : tmps.getD ra undef = .pointer (some ⟨b, 0, none⟩))
    (HK : Led T w W l) (i : Nat) {u : Value} (hi : l[i]? = some (box b 4 #[u])) {c : Bool} (hc : c = true) (m : Nat) (him : m ≠ i) (hm : l[m]? = some (marksT Ds)) {R : Ending → World → Prop}
    (hR : ∀ W', Touch T w W' → R (.returned (.bool true)) W') :
    bodyPostM Fence.wide n Tryd.prog fn R .ret { tmps := tmps, defers := Ds.map fun k => { target := .collected k, args := #[] } } (W.setCell ⟨b, 0, none⟩ (.bool c)) := by
  subst hc
  have h1 := HK.set i hi 0 (.bool true)
  have hi' := (List.getElem?_eq_some_iff.1 hi).1
  have e1 : #[u].setIfInBounds 0 (.bool true) = #[.bool true] := rfl
  rw [e1] at h1
  have hm1 : (l.set i (box b 4 #[.bool true]))[m]? = some (marksT Ds) := by rw [List.getElem?_set_ne (Ne.symm him)]; exact hm
  obtain ⟨hnd, hat⟩ := h1.marksAt m hm1
  have h2 := h1.shutM m hm1
  refine leave_marks (v := .bool true) Ds _ hat hnd (results_bool hres htm (h2.c1w (t := 4) i ?_)) (hR _ h2.tch)
  rw [List.getElem?_set_ne him, List.getElem?_set_self hi']
end

/-- Numbers as cells. -/
def natCells (l : List Nat) : List Value := l.map fun (z : Nat) => Value.int .i64 (z : Int)
theorem natCells_length (l : List Nat) : (natCells l).length = l.length := by simp [natCells]
theorem natCells_one (l : List Nat) : ∀ u ∈ natCells l, u.oneCell' = true := by
  intro u hu
  obtain ⟨z, _, rfl⟩ := List.mem_map.1 hu
  rfl
theorem natCells_get (l : List Nat) (i : Nat) (hi : i < l.length) : (natCells l)[i]? = some (.int .i64 (l[i] : Int)) := by simp [natCells, hi]
theorem nat_cell {w : World} {e cap n : Nat} {a : Option Addr} {zs : List Nat} (h : rowS w e 1 (.slice a n cap) n (natCells zs)) (hn : zs.length = n) {i : Nat} (hi : i < zs.length) : ∃ g, a = some ⟨g, 0, none⟩ ∧ g < w.heap.size ∧ w.cell? ⟨g, i, none⟩ = some (.int .i64 (zs[i] : Int)) := by
  subst hn
  obtain ⟨g, cap', cur, hv, hg, _⟩ := rowS_form h (by omega)
  injection hv with h1 _ h3
  subst h1 h3
  refine ⟨g, rfl, rowS_lt h g (by simp [sb, Value.ownBlock]), ?_⟩
  rw [rowS_cell h i (by rw [natCells_length]; exact hi)]
  simp [natCells]
end Go.Proofs.YtihmbgdkllmkaaaDoor

/-
  QueueSame (betrothallaw13/law.go): its walk: for any two entries it returns true, and nothing that was there has turned.
-/
namespace Go.Proofs.YtihmbgdkllmkaaaDoor
open Go.RowKit Go.Shelf
set_option maxRecDepth 100000
set_option linter.unusedVariables false
set_option linter.unusedSimpArgs false

/-- Two boxes of entries, and what is told of a third world. -/
theorem two_ents (x y : ME) (w w' : World) (ht : Touch [] ((w.alloc (.cells #[.int .i64 x.sync, .int .i64 x.thread, .int .i64 x.branch, .int .i64 x.flag, .int .i64 x.v.kind, .int .i64 x.v.num, .slice x.v.addr x.v.parts.length x.v.cap] 42)).alloc (.cells #[.int .i64 y.sync, .int .i64 y.thread, .int .i64 y.branch, .int .i64 y.flag, .int .i64 y.v.kind, .int .i64 y.v.num, .slice y.v.addr y.v.parts.length y.v.cap] 42)) w') :
    EntAt w' w.heap.size 0 x ∧ EntAt w' (w.heap.size + 1) 0 y ∧ w.heap.size < w'.heap.size ∧ w.heap.size + 1 < w'.heap.size := by
  have hL := ((Led.nil' w).al2 rfl).touch ht
  obtain ⟨c0, c1, c2, c3, c4, c5, c6, _, z, _⟩ := hL.c7 0 rfl
  obtain ⟨d0, d1, d2, d3, d4, d5, d6, _, z', _⟩ := hL.c7 1 rfl
  exact ⟨⟨c0, c1, c2, c3, c4, c5, c6⟩, ⟨d0, d1, d2, d3, d4, d5, d6⟩, z, z'⟩
theorem Size_small (t : MT) (w : World) (hin : t.In w) (hno : t.nodes ≤ 256) : Calls Tryd.prog 45 #[t.val] w fun e w' => e = .returned (.int .i64 (t.nodes : Int)) ∧ Touch [] w w' := by
  refine (Size_ref t w hin (by omega)).mono ?_
  rintro e w' ⟨rfl, ht⟩
  exact ⟨by rw [Nat.min_eq_left (by omega)], ht⟩
theorem Size_big (t : MT) (w : World) (hin : t.In w) (hno : t.nodes ≤ 1048576) (h : ¬ t.nodes ≤ 256) : Calls Tryd.prog 45 #[t.val] w fun e w' => e = .returned (.int .i64 257) ∧ Touch [] w w' := by
  refine (Size_ref t w hin hno).mono ?_
  rintro e w' ⟨rfl, ht⟩
  exact ⟨by rw [Nat.min_eq_right (by omega)]; rfl, ht⟩
theorem bool_eq {a b : Bool} {p q : Prop} (ha : a = true ↔ p) (hb : b = true ↔ q) (h : p ↔ q) : a = b := by
  rw [Bool.eq_iff_iff, ha, hb, h]
end Go.Proofs.YtihmbgdkllmkaaaDoor

/-
  QueueFull (betrothallaw13/law.go): its walk: for every entry and every number it returns true, and nothing that was there has turned.
-/
namespace Go.Proofs.YtihmbgdkllmkaaaDoor
open Go.RowKit Go.Shelf
set_option maxRecDepth 100000
set_option linter.unusedVariables false
set_option linter.unusedSimpArgs false

section
variable {T : List Nat} {w0 w w' : World} {l : List Thing} {g : Nat} {es : List ME}
theorem Led.qPush2 {vs : List MT} {xs : List ME} {a : Option Addr} {cap : Nat} (h : Led T w0 w l) (i j : Nat) (hi : l[i]? = some (queueT g es)) (hj : l[j]? = some (valsT vs)) (hij : i ≠ j) (hsrc : ∀ W, Beside l i W → Touch T w0 W → EntsAt W a xs ∧ ∀ x ∈ xs, x.v.In W) (hn : xs.length ≤ 1099511627776) (hes : es.length ≤ 4096) :
    Calls Tryd.prog 39 #[.pointer (some ⟨g, 0, none⟩), .slice a xs.length cap] w fun e w' => ∃ k err ys, e = .returned (.int .i64 err) ∧ PushR es.length (xs.map ME.plain) k err ∧ ys.map ME.plain = (xs.map ME.plain).take k ∧ Led T w0 w' ((l.set i (queueT g (es ++ ys))).set j (valsT (vs ++ ys.map ME.v))) := by
  obtain ⟨T', h1, hT', hk, hb⟩ := h.frameK i hi
  refine (Push_q T' w g es xs a cap h1 (fun W hW => hsrc W (hk W hW) (h.tch.trans hW hT')) hn hes).mono ?_
  rintro e w' ⟨k, err, ys, rfl, hR, hp, hL⟩
  refine ⟨k, err, ys, rfl, hR, hp, (hb _ _ _ hL).valsInto j ?_⟩
  rwa [List.getElem?_set_ne hij]
end
/-- So many zero entries, as a block. -/
def zeroEnts (m : Nat) : Array Value := (entCells (List.replicate m ME.zero)).toArray
theorem entZ_eq (m : Nat) : entZ m = zeroEnts m := by
  apply Array.ext
  · simp [entZ, madeCells, zeroEnts, entCells_length]
  · intro i h1 h2
    have hi : i < m * 7 := by simpa [entZ, madeCells] using h1
    have hg := entCells_get (List.replicate m ME.zero) (i / 7) (by simp; omega) (i % 7) (by omega)
    rw [show i / 7 * 7 + i % 7 = i by omega] at hg
    have : (zeroEnts m)[i]? = (ME.zero.cells)[i % 7]? := by
      simp only [zeroEnts, List.getElem?_toArray]
      rw [hg]
      simp
    rw [Array.getElem?_eq_getElem h2] at this
    have h3 : i % 7 = 0 ∨ i % 7 = 1 ∨ i % 7 = 2 ∨ i % 7 = 3 ∨ i % 7 = 4 ∨ i % 7 = 5 ∨ i % 7 = 6 := by omega
    simp only [entZ, madeCells, Array.getElem_ofFn]
    rcases h3 with h3 | h3 | h3 | h3 | h3 | h3 | h3 <;> simp [h3, ME.cells, ME.zero, MT.zero, MT.kind, MT.num, MT.sl, MT.addr, MT.parts, MT.cap] at this ⊢ <;> exact this.symm
theorem made_zents (m : Nat) (hm : m ≤ 1048576) (W : World) : (Instr.makeSlice 56 (.int .i64 (m : Int)) (.int .i64 (m : Int))).run Tryd.prog W =
    .ok (.slice (some ⟨W.heap.size, 0, none⟩) m m) (W.alloc (.cells (zeroEnts m) 42)) := by
  obtain ⟨i0, hi, iz0, iz1, iz2⟩ := info_parts info_ent
  have hr := run_make (P := Tryd.prog) W 56 42 i0 _ Tryd.underlying56 hi iz0 .i64 .i64 m m (by omega) (by omega) (by rw [iz2]; omega) (by omega)
  rw [iz1] at hr
  have he := entZ_eq m
  unfold entZ at he
  simpa [Value.cells, he] using hr
theorem idx_last {es : List PE} {s : Int} {p : PE} (h0 : ∀ e ∈ es, e.sync ≠ s) (hp : p.sync = s) : IdxR (fun e => e.sync = s) (es ++ [p]) 0 (es.length : Int) :=
  .inr ⟨es.length, by simp, rfl, by simp, by simpa using hp, fun i hi _ hlt => by
    rw [List.getElem_append_left hlt]; exact h0 _ (List.getElem_mem hlt)⟩
theorem idx_none {es : List PE} {s : Int} (h0 : ∀ e ∈ es, e.sync ≠ s) : IdxR (fun e => e.sync = s) es 0 (-1) := .inl ⟨rfl, fun j hj _ => h0 _ (List.getElem_mem hj)⟩
theorem PushR.full {x : PE} {xs : List PE} {k : Nat} {err : Int} (h : PushR 4096 (x :: xs) k err) (hx : x.Ok) : k = 0 ∧ err = 6 := by
  obtain ⟨h1, h2, h3, h4⟩ := h
  obtain rfl : k = 0 := by omega
  rcases h4 with h4 | ⟨hk, h4 | h4⟩
  · simp at h4
  · exact absurd hx h4.2
  · exact ⟨rfl, h4.1⟩
theorem PushR.one {x y : PE} {k : Nat} {err : Int} (h : PushR 4095 [x, y] k err) (hx : x.Ok) (hy : y.Ok) : k = 1 ∧ err = 6 := by
  obtain ⟨h1, h2, h3, h4⟩ := h
  have hk : k = 0 ∨ k = 1 := by omega
  rcases hk with rfl | rfl
  · rcases h4 with h4 | ⟨hk, h4 | h4⟩
    · simp at h4
    · exact absurd hx h4.2
    · omega
  · rcases h4 with h4 | ⟨hk, h4 | h4⟩
    · simp at h4
    · exact absurd hy h4.2
    · exact ⟨rfl, h4.1⟩
theorem zero_ok : ME.zero.plain.Ok := ⟨Int.le_refl 0, Int.le_refl 0, Int.le_refl 0, Int.le_refl 0, .inl rfl⟩
theorem ents_zeros {W : World} {c gl m k : Nat} (hk : k ≤ m) (h : ∃ f, (box gl c (zeroEnts m)).holds W f) : EntsAt W (some ⟨gl, 0, none⟩) (List.replicate k ME.zero) := by
  have h1 := ents_box (xs := List.replicate m ME.zero) rfl h
  intro i hi
  simp only [List.length_replicate] at hi
  obtain ⟨b, o, ha, hb, he⟩ := h1 i (by simp; omega)
  refine ⟨b, o, ha, hb, ?_⟩
  simpa using he

end Go.Proofs.YtihmbgdkllmkaaaDoor

/-
  ChannelHolds (betrothallaw14/law.go): its walk: for all three slices it returns true, and nothing that was there has turned.
-/
namespace Go.Proofs.YtihmbgdkllmkaaaDoor
open Go.RowKit Go.Shelf
set_option maxRecDepth 100000
set_option linter.unusedVariables false
set_option linter.unusedSimpArgs false
attribute [local go_sem] Oper.semAt_some

theorem SidesAt.oldH {w W : World} (h : SidesAt w) (ho : Old w W) : SidesAt W := by
  have hlt : 0 < w.heap.size := World.block_lt_of_cell? _ _ h.1
  have he := ho _ hlt
  have hc : ∀ j, W.cell? ⟨0, j, none⟩ = w.cell? ⟨0, j, none⟩ := fun j => by simp [World.cell?, he]
  exact ⟨(hc 0).trans h.1, (hc 1).trans h.2⟩
/-- The frame within the loop. -/
def chFrame (p0 p1 p2 : Value) (g c b12 k : Nat) (sv : Value) (u : Nat → Value) : Array Value := #[p0, p1, p2, u 3, u 4, u 5, u 6, .pointer (some ⟨g, 0, none⟩), u 8, .pointer (some ⟨c, 0, none⟩), u 10, .int .u64 0, .pointer (some ⟨b12, 0, none⟩), .int .i64 (k : Int), sv, u 15, u 16, u 17, u 18, u 19, u 20, u 21, u 22, u 23, u 24, u 25, u 26, u 27, u 28, u 29, u 30, u 31, u 32, u 33, u 34, u 35, u 36, u 37, u 38, u 39, u 40, u 41, u 42, u 43, u 44, u 45, u 46, u 47, u 48, u 49, u 50, u 51, u 52, u 53, u 54, u 55, u 56, u 57, u 58, u 59, u 60, u 61, u 62, u 63, u 64, u 65, u 66, u 67, u 68, u 69, u 70, u 71, u 72, u 73, u 74, u 75, u 76, u 77, u 78, u 79, u 80, u 81, u 82, u 83, u 84, u 85, u 86, u 87, u 88, u 89, u 90, u 91, u 92, u 93, u 94, u 95, u 96, u 97, u 98, u 99, u 100, u 101, u 102, u 103, u 104, u 105, u 106, u 107, u 108, u 109, u 110, u 111, u 112, u 113, u 114, u 115, u 116, u 117, u 118, u 119, u 120, u 121, u 122, u 123, u 124, u 125, u 126, u 127, u 128, u 129, u 130, u 131, u 132, u 133, u 134, u 135, u 136, u 137, u 138, u 139, u 140, u 141, u 142, u 143, u 144, u 145, u 146, u 147, u 148, u 149, u 150, u 151, u 152, u 153, u 154, u 155, u 156, u 157, u 158, u 159, u 160, u 161, u 162, u 163, u 164, u 165, u 166, u 167, u 168, u 169, u 170, u 171, u 172, u 173, u 174, u 175, u 176, u 177, u 178, u 179, u 180, u 181, u 182, u 183, u 184, u 185, u 186, u 187, u 188, u 189, u 190, u 191, u 192, u 193, u 194]
/-- What lies there. -/
def chH (c M q1 q2 : Nat) (P : World → Prop) (g b12 : Nat) (es1 : List ME) (a1 : Option Addr) (c1 : Nat) (zs1 : List Nat) (es2 : List ME) (a2 : Option Addr) (c2 : Nat) (zs2 : List Nat) : List Thing :=
  [box c 75 #[.int .i64 0, .map (some M)], exact1 M (mapObj q1 q2), stillT P, arena g (ar3 [0] []), box b12 36 #[.slice none 0 0, .slice a1 zs1.length c1, .slice a2 zs2.length c2], queueT q1 es1, rowT 3 1 (.slice a1 zs1.length c1) zs1.length (natCells zs1), queueT q2 es2, rowT 3 1 (.slice a2 zs2.length c2) zs2.length (natCells zs2)]
/-- The numbers that stand. -/
def St14 (es : List ME) (zs : List Nat) : Prop := es.map ME.plain = zs.map (fun (z : Nat) => pOf (z : Int) 0)
theorem St14.len {es : List ME} {zs : List Nat} (h : St14 es zs) : es.length = zs.length := by have := congrArg List.length h; simpa using this
theorem St14.get {es : List ME} {zs : List Nat} (h : St14 es zs) (m : Nat) (hm : m < zs.length) : (es.map ME.plain)[m]? = some (pOf (zs[m] : Int) 0) := by rw [h, List.getElem?_map, List.getElem?_eq_getElem hm]; rfl
theorem St14.nodes {es : List ME} {zs : List Nat} (h : St14 es zs) : ∀ e ∈ es, e.v.nodes ≤ 256 := fun e he => by
  have hm : e.plain ∈ zs.map (fun (z : Nat) => pOf (z : Int) 0) := by rw [← h]; exact List.mem_map_of_mem he
  obtain ⟨z, _, hz⟩ := List.mem_map.1 hm
  exact nodes_of hz.symm
theorem St14.erase {es : List ME} {zs : List Nat} (h : St14 es zs) (m : Nat) : St14 (es.eraseIdx m) (zs.eraseIdx m) := by
  unfold St14 at *
  simp only [List.eraseIdx_eq_take_drop_succ, List.map_append, List.map_take, List.map_drop, h]
theorem St14.snoc {es : List ME} {zs : List Nat} {y : ME} {k : Nat} (h : St14 es zs) (hy : y.plain = pOf (k : Int) 0) : St14 (es ++ [y]) (zs ++ [k]) := by
  unfold St14 at *
  rw [List.map_append, List.map_append, h]
  simp [hy]
def HOk (w : World) (P : World → Prop) (es1 : List ME) (zs1 : List Nat) (es2 : List ME) (zs2 : List Nat) (k : Nat) : Prop :=
  St14 es1 zs1 ∧ St14 es2 zs2 ∧ zs1.length + zs2.length ≤ k ∧ ∀ W, P W → Old w W ∧ (∀ e ∈ es1, e.v.In W) ∧ ∀ e ∈ es2, e.v.In W
/-- Between two rounds. -/
def HInv (T : List Nat) (w : World) (p0 p1 p2 : Value) (g c b12 M q1 q2 n0 : Nat) (A : Act) (W : World) : Prop :=
  ∃ (k : Nat) (sv : Value) (u : Nat → Value) (P : World → Prop) (es1 es2 : List ME) (zs1 zs2 : List Nat) (a1 : Option Addr) (c1 : Nat) (a2 : Option Addr) (c2 : Nat), A = { tmps := chFrame p0 p1 p2 g c b12 k sv u, defers := [] } ∧ k ≤ n0 ∧ Hid (HOk w P es1 zs1 es2 zs2 k) ∧ Hid (Led T w W (chH c M q1 q2 P g b12 es1 a1 c1 zs1 es2 a2 c2 zs2))
/-- Within a round. -/
def HMid (T : List Nat) (w : World) (p0 p1 p2 : Value) (g c b12 M q1 q2 k : Nat) (sv : Value) (m : Nat) (A : Act) (W : World) : Prop :=
  ∃ (u : Nat → Value) (P : World → Prop) (es1 es2 : List ME) (zs1 zs2 : List Nat) (a1 : Option Addr) (c1 : Nat) (a2 : Option Addr) (c2 : Nat), A = { tmps := chFrame p0 p1 p2 g c b12 k sv u, defers := [] } ∧ Hid (HOk w P es1 zs1 es2 zs2 m) ∧ Hid (Led T w W (chH c M q1 q2 P g b12 es1 a1 c1 zs1 es2 a2 c2 zs2))
def hMu (n0 : Nat) (a : Act) (_ : World) : Nat := n0 - (intOf (a.tmps.getD 13 undef)).toNat
section
variable {T : List Nat} {w W : World} {p0 p1 p2 : Value} {g c b12 M q1 q2 n0 k : Nat} {tm : Array Value} {P : World → Prop} {es1 es2 : List ME} {zs1 zs2 : List Nat} {a1 : Option Addr} {c1 : Nat} {a2 : Option Addr} {c2 : Nat}
theorem h_mid {sv : Value} {m : Nat} (hT : tm = chFrame p0 p1 p2 g c b12 k sv (fun n => tm.getD n undef)) (HS : Hid (HOk w P es1 zs1 es2 zs2 m)) (HL : Hid (Led T w W (chH c M q1 q2 P g b12 es1 a1 c1 zs1 es2 a2 c2 zs2))) : HMid T w p0 p1 p2 g c b12 M q1 q2 k sv m { tmps := tm, defers := [] } W :=
  ⟨_, P, es1, es2, zs1, zs2, a1, c1, a2, c2, by rw [← hT], HS, HL⟩
theorem h_start (hT : tm = chFrame p0 p1 p2 g c b12 0 (tm.getD 14 undef) (fun n => tm.getD n undef)) (HS : Hid (HOk w P es1 zs1 es2 zs2 0)) (HL : Hid (Led T w W (chH c M q1 q2 P g b12 es1 a1 c1 zs1 es2 a2 c2 zs2))) : HInv T w p0 p1 p2 g c b12 M q1 q2 n0 { tmps := tm, defers := [] } W :=
  ⟨0, _, _, P, es1, es2, zs1, zs2, a1, c1, a2, c2, by rw [← hT], Nat.zero_le _, HS, HL⟩
theorem h_close {u : Nat → Value} {sv : Value} {W0 : World} (hT : tm = chFrame p0 p1 p2 g c b12 (k + 1) (tm.getD 14 undef) (fun n => tm.getD n undef)) (hk : k < n0) (HS : Hid (HOk w P es1 zs1 es2 zs2 (k + 1))) (HL : Hid (Led T w W (chH c M q1 q2 P g b12 es1 a1 c1 zs1 es2 a2 c2 zs2))) :
    HInv T w p0 p1 p2 g c b12 M q1 q2 n0 { tmps := tm, defers := [] } W ∧ hMu n0 { tmps := tm, defers := [] } W < hMu n0 { tmps := chFrame p0 p1 p2 g c b12 k sv u, defers := [] } W0 := by
  refine ⟨⟨k + 1, _, _, P, es1, es2, zs1, zs2, a1, c1, a2, c2, by rw [← hT], hk, HS, HL⟩, ?_⟩
  have e1 : tm.getD 13 undef = .int .i64 ((k + 1 : Nat) : Int) := by rw [hT]; rfl
  have e2 : (chFrame p0 p1 p2 g c b12 k sv u).getD 13 undef = .int .i64 (k : Int) := rfl
  unfold hMu
  simp only [e1, e2, intOf]
  omega
theorem h_use {K : Act → World → Prop} {sv : Value} (hT : tm = chFrame p0 p1 p2 g c b12 k sv (fun n => tm.getD n undef)) (h : K { tmps := chFrame p0 p1 p2 g c b12 k sv (fun n => tm.getD n undef), defers := [] } W) : K { tmps := tm, defers := [] } W := by rw [← hT] at h; exact h
end
/-- Only so it ends. -/
def OnlyNormH (R : Act → World → Prop) : Exit → Act → World → Prop
  | .normal, a, w => R a w
  | _, _, _ => False
theorem take_srcH {w : World} {e g n cap k : Nat} {xs : List Value} (h : rowS w e 1 (.slice (some ⟨g, 0, none⟩) n cap) n xs) : ∀ j u, (xs.take k)[j]? = some u → w.cell? ((⟨g, 0, none⟩ : Addr).add j) = some u := by
  intro j u hu
  rw [Addr.add_lit, Nat.zero_add]
  have hj : j < xs.length := by
    have := (List.getElem?_eq_some_iff.1 hu).1
    simp at this; omega
  rw [rowS_cell h j hj]
  have h2 := (List.getElem?_eq_some_iff.1 hu).2
  rw [← h2, List.getElem_take]
theorem erase_cellsH (zs : List Nat) (m : Nat) (hm : m < zs.length) : m + (zs.length - (m + 1)) = (zs.eraseIdx m).length ∧ (natCells zs).take m ++ (natCells zs).drop ((m + 1) * 1) = natCells (zs.eraseIdx m) := by
  refine ⟨by rw [List.length_eraseIdx_of_lt hm]; omega, ?_⟩
  rw [Nat.mul_one, List.eraseIdx_eq_take_drop_succ]
  simp [natCells]
theorem info_intH : (Tryd.prog.info? 3).map (fun i => (i.zero, i.size, i.bytes)) = some (some (.int .i64 0), 1, 8) := by kernel_rfl
theorem AtRef.stood {es : List ME} {zs : List Nat} {m : Nat} {y : ME} {b : Bool} (h : AtRef es (m : Int) y b) (hs : St14 es zs) (hm : m < zs.length) : b = true ∧ y.sync = (zs[m] : Int) := by
  rcases h with ⟨hb, _, hg⟩ | ⟨_, hn, _⟩
  · refine ⟨hb, ?_⟩
    have h2 := hs.get m hm
    simp only [Int.toNat_natCast] at hg
    rw [List.getElem?_map, hg] at h2
    have h3 := congrArg PE.sync (Option.some.inj h2)
    exact h3
  · exact (hn ⟨by omega, by have := hs.len; omega⟩).elim
theorem AtR.stood {es : List ME} {zs : List Nat} {m : Nat} {y : ME} {b : Bool} (h : AtR (es.map ME.plain) (m : Int) y b) (hs : St14 es zs) (hm : m < zs.length) : b = true ∧ y.sync = (zs[m] : Int) := by
  rcases h with ⟨hb, _, hg⟩ | ⟨_, hn, _⟩
  · refine ⟨hb, ?_⟩
    have h2 := hs.get m hm
    simp only [Int.toNat_natCast] at hg
    rw [hg] at h2
    have h3 := congrArg PE.sync (Option.some.inj h2)
    exact h3
  · exact (hn ⟨by omega, by have := hs.len; simp; omega⟩).elim
set_option maxHeartbeats 40000000 in
theorem channelHolds_any (w : World) (a0 : Option Addr) (n0 k0 : Nat) (z0 : List Int) (a1 : Option Addr) (n1 k1 : Nat) (B : Nat → Bool) (a2 : Option Addr) (n2 k2 : Nat) (y2 : List Nat) (hn0 : n0 ≤ 9223372036854775807) (hn1 : n1 ≤ 9223372036854775807) (hn2 : n2 ≤ 9223372036854775807) (hz : z0.length = n0) (h0 : NumsAt w a0 z0) (h1 : BoolsAt w a1 n1 B) (hy : y2.length = n2) (h2 : BytesAt w a2 y2) (hS : SidesAt w) :
    Calls Tryd.prog 3 #[.slice a0 n0 k0, .slice a1 n1 k1, .slice a2 n2 k2] w fun e w' => e = .returned (.bool true) ∧ Below w.heap.size w w' := by
  have HSW : Hid (∀ W, Old w W → SidesAt W) := fun W hW => hS.oldH hW
  have HL0 := Lib.hid (Led.old0 w)
  have HZ := Lib.hid h0
  have HB := Lib.hid h1
  have HY := Lib.hid h2
  have HZL := Lib.hid hz
  have HYL := Lib.hid hy
  obtain ⟨i0, hi0, iz0, iz1, iz2⟩ := info_parts info_intH
  generalize hTT : List.range w.heap.size = T at HL0
  clear hTT hS h0 h1 h2 hz hy
  by_cases hbig : 40 < n0
  · have hbig' : (40 : Int) < (n0 : Int) := by omega
    go_enter Tryd.func3, Tryd.ntmps3
    go_wp2_with fail
    refine (works14 _ (HSW.out _ (HL0.out.still 0 rfl))).mono ?_
    rintro e w9 ⟨rfl, ht⟩
    have HL9 := Lib.hid (HL0.out.touch ht)
    clear ht
    go_wp2
    go_ret
    exact ⟨rfl, (HL9.out.oldTouch (HL9.out.still 0 rfl)).below⟩
  · have hbig' : ¬ (40 : Int) < (n0 : Int) := by omega
    go_enter Tryd.func3, Tryd.ntmps3
    go_wp2_with fail
    refine (HL0.out.arNew 3 (by decide) (by decide)).mono ?_
    rintro e w1 ⟨rfl, hL⟩
    have HL1 := Lib.hid hL
    simp only [List.nil_append, List.cons_append] at HL1
    obtain ⟨g, hg⟩ : ∃ b, w.heap.size = b := ⟨_, rfl⟩
    rw [hg] at HL1
    rw [show (some (⟨w.heap.size, 0, none⟩ : Addr)) = some ⟨g, 0, none⟩ by rw [hg]]
    clear hL hg HL0
    go_wp2_with fail
    refine (HL1.out.chNew 1 rfl (fun W hW => HSW.out _ (hW.still 0 rfl)) (by simp [Ar.fresh])).mono ?_
    rintro e w2 ⟨c, M, q1, q2, rfl, hL⟩
    have HL2 := Lib.hid hL
    simp only [chanL, List.set_cons_zero, List.set_cons_succ, List.nil_append, List.cons_append] at HL2
    clear hL HL1
    go_wp2_with fail
    refine (num14 _ _).mono ?_
    rintro e wn ⟨rfl, rfl⟩
    go_wp2_with fail
    refine (num14 _ _).mono ?_
    rintro e wn ⟨rfl, rfl⟩
    go_wp2_with fail
    refine (HL2.out.arq 1 rfl (fun fp hI => Count_any _ g fp _ hI)).mono ?_
    rintro e wn ⟨rfl, rfl⟩
    go_wp2_with fail
    refine wp_name ?_
    intro w3 hw3
    have HL3 := Lib.hid ((((HL2.out.al1 hw3).rowSnil 3 1).rowSnil 3 1).sel [2, 3, 0, 1, 6, 4, 7, 5, 8] (l' := chH c M q1 q2 (Old w) g w2.heap.size [] none 0 [] [] none 0 []) rfl (by decide))
    obtain ⟨b12, hb12⟩ : ∃ b, w2.heap.size = b := ⟨_, rfl⟩
    rw [hb12] at HL3 ⊢
    clear hw3 hb12 HL2
    refine wp_loop (HInv T w (.slice a0 n0 k0) (.slice a1 n1 k1) (.slice a2 n2 k2) g c b12 M q1 q2 n0) (hMu n0) (h_start (P := Old w) (es1 := []) (es2 := []) (zs1 := []) (zs2 := []) (a1 := none) (c1 := 0) (a2 := none) (c2 := 0) (by kernel_rfl) ⟨rfl, rfl, Nat.le_refl _, fun W hW => ⟨hW, by simp, by simp⟩⟩ HL3) ?_
    clear HL3
    rintro A W ⟨k, sv, u, P, es1, es2, zs1, zs2, s1, c1, s2, c2, rfl, hk, HS, HL⟩
    simp only [chFrame]
    have hk0 : (0 : Int) ≤ (k : Int) := by omega
    by_cases hlt : k < n0
    · have hlt' : (k : Int) < (n0 : Int) := by omega
      have HTw := Lib.hid (HL.out.oldTouch (HS.out.2.2.2 _ (HL.out.still 2 rfl)).1)
      obtain ⟨ba, oa, rfl, hba, hca⟩ := HZ.out k (by rw [HZL.out]; exact hlt)
      have HXC : Hid (∀ W, Touch [] w W → W.cell? ⟨ba, oa + k, none⟩ = some (.int .i64 (z0[k]'(by rw [HZL.out]; exact hlt)))) := fun W hW => hW.cellOf hca
      clear hca
      generalize z0[k]'(by rw [HZL.out]; exact hlt) = x at HXC
      have x0 := HXC.out _ HTw.out
      have hba' : ba < W.heap.size := Nat.lt_of_lt_of_le hba HTw.out.size
      by_cases hneg : x < 0
      · go_wp2_with fail
        refine (works14 _ (HSW.out _ (HS.out.2.2.2 _ (HL.out.still 2 rfl)).1)).mono ?_
        rintro e w9 ⟨rfl, ht⟩
        have HL9 := Lib.hid (HL.out.touch ht)
        clear ht
        go_wp2
        go_ret
        exact ⟨rfl, (HL9.out.oldTouch (HS.out.2.2.2 _ (HL9.out.still 2 rfl)).1).below⟩
      · obtain ⟨xn, rfl⟩ := Int.eq_ofNat_of_zero_le (show 0 ≤ x by omega)
        have hxn0 : (0 : Int) ≤ (xn : Int) := by omega
        clear hneg
        go_upto_region 15 with fail
        rename_i K1 aK1 K0 aK0
        have HC : ∀ (s : Int) (u' : Nat → Value), (s = 1 ∨ s = 2) → K1 { tmps := chFrame (.slice (some ⟨ba, oa, none⟩) n0 k0) (.slice a1 n1 k1) (.slice a2 n2 k2) g c b12 k (.int .i64 s) u', defers := [] } W := by
          intro s u' hs
          refine aK1 _ _ ?_
          clear aK1 aK0
          simp only [chFrame]
          rcases hs with rfl | rfl
          · go_upto_region 17 with fail
            rename_i K3 aK3 K2 aK2
            have HD : ∀ A V, HMid T w (.slice (some ⟨ba, oa, none⟩) n0 k0) (.slice a1 n1 k1) (.slice a2 n2 k2) g c b12 M q1 q2 k (.int .i64 1) k A V → K3 A V := by
              clear HL HS x0 hba' HTw
              rintro A V ⟨u, P, es1, es2, zs1, zs2, s1, c1, s2, c2, rfl, HS, HL⟩
              refine aK3 _ _ ?_
              clear aK3 aK2
              simp only [chFrame]
              have HTw := Lib.hid (HL.out.oldTouch (HS.out.2.2.2 _ (HL.out.still 2 rfl)).1)
              have x0 := HXC.out _ HTw.out
              have hba' : ba < V.heap.size := Nat.lt_of_lt_of_le hba HTw.out.size
              have hz40 : zs1.length + zs2.length ≤ 40 := by have := HS.out.2.2.1; omega
              go_wp2_with fail
              refine (sync14 _ _).mono ?_
              rintro e v1 ⟨rfl, ht⟩
              have HL1 := Lib.hid (HL.out.touch ht)
              simp only [chH] at HL1
              clear ht HL x0 hba' HTw
              go_wp2_with fail
              refine (HL1.out.pushOk 5 2 rfl rfl (by decide) (HL1.out.chAt 0 1 rfl rfl) rfl (xn : Int) hxn0 (by have := HS.out.1.len; omega)).mono ?_
              rintro e v2 ⟨y, rfl, hy, hL⟩
              have HL2 := Lib.hid hL
              simp only [List.set_cons_zero, List.set_cons_succ] at HL2
              have HS2 : Hid (HOk w (fun W => P W ∧ y.v.In W) (es1 ++ [y]) (zs1 ++ [xn]) es2 zs2 (k + 1)) := ⟨HS.out.1.snoc hy, HS.out.2.1, by have := HS.out.2.2.1; simp; omega, fun W hW => ⟨(HS.out.2.2.2 W hW.1).1, fun e he => (by rcases List.mem_append.1 he with he | he; exact (HS.out.2.2.2 W hW.1).2.1 e he; simp at he; subst he; exact hW.2), (HS.out.2.2.2 W hW.1).2.2⟩⟩
              clear hL hy HL1
              go_wp2_with fail
              refine (num14 _ _).mono ?_
              rintro e wn ⟨rfl, rfl⟩
              have HTw := Lib.hid (HL2.out.oldTouch (HS.out.2.2.2 _ (HL2.out.still 2 rfl).1).1)
              have x0 := HXC.out _ HTw.out
              have hba' : ba < v2.heap.size := Nat.lt_of_lt_of_le hba HTw.out.size
              obtain ⟨f0, f1, f2, ff0, ff1, ff2, zf, _, _⟩ := HL2.out.c3 4 rfl
              have hne1 : b12 ≠ v2.heap.size := by omega
              have hne2 : ba ≠ v2.heap.size := by omega
              go_wp2_with fail
              refine Code.wp_mono (Q := OnlyNormH (HMid T w (.slice (some ⟨ba, oa, none⟩) n0 k0) (.slice a1 n1 k1) (.slice a2 n2 k2) g c b12 M q1 q2 k (.int .i64 1) (k + 1))) ?hrest ?hfirst
              case hfirst =>
                have HLE := Lib.hid (HL2.out.alloc_ (.cells #[.int .i64 (xn : Int)] 3)).drew
                go_region_law (first
                  | (refine step_append_S _ rfl (.tmp 140) (.tmp 145) 22 rfl 3 i0 _ 1 8 Tryd.underlying22 hi0 iz0 iz1 iz2 rfl (by decide) (.slice s1 zs1.length c1) zs1.length (natCells zs1) (by first | rfl | simp [Act.eval, Act.put]) (HLE.out.rowSAt 6 rfl) (some ⟨v2.heap.size, 0, none⟩) 1 1 (natCells [xn]) (by first | rfl | simp [Act.eval, Act.put]) rfl (.inr ⟨_, rfl, World.news_of_block (heap_alloc_new v2 _)⟩) (natCells_one _) (by simp only [maxLen]; omega) (by omega) ?_; intro a5 c5 w5 hown hgrow hat; have HL5 := Lib.hid (HLE.out.grownS 6 rfl hgrow hown hat); simp only [List.set_cons_zero, List.set_cons_succ] at HL5; rw [show natCells zs1 ++ natCells [xn] = natCells (zs1 ++ [xn]) from by simp [natCells]] at HL5; clear hown hgrow hat; (obtain ⟨f0', f1', f2', ff0', ff1', ff2', zf', _, _⟩ := HL5.out.c3 4 rfl)))
                all_goals
                  have h := HL5.out.set 4 rfl 1 (.slice a5 (zs1.length + 1) c5)
                  refine h_mid (a1 := a5) (c1 := c5) (a2 := s2) (c2 := c2) (by kernel_rfl) HS2 ?_
                  unfold Hid
                  simp only [chH]
                  rw [List.length_append]
                  exact h
              case hrest =>
                intro ex A V hex
                cases ex <;> first | exact hex.elim | skip
                obtain ⟨u, P, es1, es2, zs1, zs2, s1, c1, s2, c2, rfl, HSV, HLV⟩ := hex
                clear HS HS2 HL2 HTw x0 hba' f0 f1 f2 ff0 ff1 ff2 zf hne1 hne2 hz40
                simp only [chFrame]
                go_wp2_with fail
                have hz41 : zs1.length + zs2.length ≤ 41 := by have := HSV.out.2.2.1; omega
                go_loopw [18] (fun i wr => ∃ j : Nat, i = .int .i64 (j : Int) ∧ 1 ≤ j ∧ j ≤ 3 ∧ Hid (Touch [] V wr)) (fun i _ => 3 - (intOf i).toNat)
                case atStart => exact ⟨1, rfl, by omega, by omega, Touch.refl [] V⟩
                case round =>
                  obtain ⟨j, rfl, hj1, hj3, HTJ⟩ := hrel
                  have : j = 1 ∨ j = 2 ∨ j = 3 := by omega
                  rcases this with rfl | rfl | rfl
                  next =>
                    have HQL := Lib.hid (fun W (hW : Touch [] V W) => Len_ch W c 0 M q1 q2 ((HLV.out.touch hW).chAt 0 1 rfl rfl) 1 q1 es1 rfl ((HLV.out.touch hW).qAt 5 rfl))
                    have HLN : Hid (es1.length = zs1.length) := HSV.out.1.len
                    rw [HLN.out] at HQL
                    have HLK := Lib.hid (fun W (hW : Touch [] V W) i => Look_ch W c 0 M q1 q2 ((HLV.out.touch hW).chAt 0 1 rfl rfl) 1 q1 es1 i rfl ((HLV.out.touch hW).qAt 5 rfl) (fun e he => ⟨((HSV.out.2.2.2 _ ((HLV.out.touch hW).still 2 rfl)).2.1 e he), HSV.out.1.nodes e he⟩))
                    have HTD := Lib.hid HTJ.out.drew
                    obtain ⟨f0, f1, f2, ff0, ff1, ff2, zf, _, _⟩ := (HLV.out.touch HTJ.out).c3 4 rfl
                    go_wp2_with fail
                    go_region_held3 (fun w' => w'.cell? ⟨b12, 1, none⟩ = some (.slice s1 zs1.length c1)) (go_keep) (first
                      | (go_at_call 15; refine (HQL.out _ HTD.out).mono ?_; rintro e wn ⟨rfl, rfl⟩))
                    rename_i hHeld
                    clear hHeld HQL f0 f1 f2 ff0 ff1 ff2 zf
                    go_wp2_with fail
                    go_loopw [19] (fun i wr2 => ∃ m : Nat, i = .int .i64 (m : Int) ∧ m ≤ zs1.length ∧ Hid (Touch [] V wr2)) (fun i _ => zs1.length - (intOf i).toNat)
                    case atStart => exact ⟨0, rfl, Nat.zero_le _, HTD⟩
                    case round =>
                      obtain ⟨m, rfl, hm, HTM⟩ := hrel
                      have hm0 : (0 : Int) ≤ (m : Int) := by omega
                      obtain ⟨f0, f1, f2, ff0, ff1, ff2, zf, _, _⟩ := (HLV.out.touch HTM.out).c3 4 rfl
                      by_cases hml : m < zs1.length
                      · have hml' : (m : Int) < (zs1.length : Int) := by omega
                        go_wp2_with fail
                        refine (HLK.out _ HTM.out (m : Int)).mono ?_
                        rintro e w6 ⟨y, b, rfl, hR, _, _, ht⟩
                        obtain ⟨rfl, hys⟩ := hR.stood HSV.out.1 hml
                        have HT6 := Lib.hid (HTM.out.trans' ht)
                        simp only [ent_eq]
                        rw [hys]
                        clear hR ht hys f0 f1 f2 ff0 ff1 ff2 zf
                        go_wp2_with fail
                        refine wp_name ?_
                        intro w7 hw7
                        have HL7 := Lib.hid ((HLV.out.touch HT6.out).al1 hw7)
                        simp only [chH, List.nil_append, List.cons_append] at HL7
                        have HT7 : Hid (Touch [] V w7) := hw7 ▸ HT6.out.alloc _
                        obtain ⟨by_, hby⟩ : ∃ b, w6.heap.size = b := ⟨_, rfl⟩
                        rw [hby] at HL7 ⊢
                        clear hw7 hby HT6
                        obtain ⟨f0, f1, f2, ff0, ff1, ff2, zf, _, _⟩ := HL7.out.c3 4 rfl
                        obtain ⟨x0', _, _, _, _, _, _, _, zx, _, _⟩ := HL7.out.c7 9 rfl
                        obtain ⟨gs, hgs, zg, y0'⟩ := nat_cell (HL7.out.rowSAt 6 rfl) rfl hml
                        rw [hgs] at f1
                        generalize zs1[m] = zm at x0' y0' ⊢
                        go_quiet (fail)
                        have HT8 : Hid (Touch [] V (w7.drewN nq)) := HT7.out.drewN _
                        clear f0 f1 f2 ff0 ff1 ff2 zf x0' zx zg y0' HL7 HT7 hgs
                        go_wp2
                        go_roundw
                        case rel => exact ⟨m + 1, by go_num, hml, HT8⟩
                        case measure => simp [intOf]; omega
                      · have hml' : ¬ (m : Int) < (zs1.length : Int) := by omega
                        go_wp2_with fail
                        clear f0 f1 f2 ff0 ff1 ff2 zf
                        go_roundw
                        case rel => exact ⟨1 + 1, by go_num, by omega, by omega, HTM⟩
                        case measure => simp [intOf]
                  next =>
                    have HQL := Lib.hid (fun W (hW : Touch [] V W) => Len_ch W c 0 M q1 q2 ((HLV.out.touch hW).chAt 0 1 rfl rfl) 2 q2 es2 rfl ((HLV.out.touch hW).qAt 7 rfl))
                    have HLN : Hid (es2.length = zs2.length) := HSV.out.2.1.len
                    rw [HLN.out] at HQL
                    have HLK := Lib.hid (fun W (hW : Touch [] V W) i => Look_ch W c 0 M q1 q2 ((HLV.out.touch hW).chAt 0 1 rfl rfl) 2 q2 es2 i rfl ((HLV.out.touch hW).qAt 7 rfl) (fun e he => ⟨((HSV.out.2.2.2 _ ((HLV.out.touch hW).still 2 rfl)).2.2 e he), HSV.out.2.1.nodes e he⟩))
                    have HTD := Lib.hid HTJ.out.drew
                    obtain ⟨f0, f1, f2, ff0, ff1, ff2, zf, _, _⟩ := (HLV.out.touch HTJ.out).c3 4 rfl
                    go_wp2_with fail
                    go_region_held3 (fun w' => w'.cell? ⟨b12, 2, none⟩ = some (.slice s2 zs2.length c2)) (go_keep) (first
                      | (go_at_call 15; refine (HQL.out _ HTD.out).mono ?_; rintro e wn ⟨rfl, rfl⟩))
                    rename_i hHeld
                    clear hHeld HQL f0 f1 f2 ff0 ff1 ff2 zf
                    go_wp2_with fail
                    go_loopw [19] (fun i wr2 => ∃ m : Nat, i = .int .i64 (m : Int) ∧ m ≤ zs2.length ∧ Hid (Touch [] V wr2)) (fun i _ => zs2.length - (intOf i).toNat)
                    case atStart => exact ⟨0, rfl, Nat.zero_le _, HTD⟩
                    case round =>
                      obtain ⟨m, rfl, hm, HTM⟩ := hrel
                      have hm0 : (0 : Int) ≤ (m : Int) := by omega
                      obtain ⟨f0, f1, f2, ff0, ff1, ff2, zf, _, _⟩ := (HLV.out.touch HTM.out).c3 4 rfl
                      by_cases hml : m < zs2.length
                      · have hml' : (m : Int) < (zs2.length : Int) := by omega
                        go_wp2_with fail
                        refine (HLK.out _ HTM.out (m : Int)).mono ?_
                        rintro e w6 ⟨y, b, rfl, hR, _, _, ht⟩
                        obtain ⟨rfl, hys⟩ := hR.stood HSV.out.2.1 hml
                        have HT6 := Lib.hid (HTM.out.trans' ht)
                        simp only [ent_eq]
                        rw [hys]
                        clear hR ht hys f0 f1 f2 ff0 ff1 ff2 zf
                        go_wp2_with fail
                        refine wp_name ?_
                        intro w7 hw7
                        have HL7 := Lib.hid ((HLV.out.touch HT6.out).al1 hw7)
                        simp only [chH, List.nil_append, List.cons_append] at HL7
                        have HT7 : Hid (Touch [] V w7) := hw7 ▸ HT6.out.alloc _
                        obtain ⟨by_, hby⟩ : ∃ b, w6.heap.size = b := ⟨_, rfl⟩
                        rw [hby] at HL7 ⊢
                        clear hw7 hby HT6
                        obtain ⟨f0, f1, f2, ff0, ff1, ff2, zf, _, _⟩ := HL7.out.c3 4 rfl
                        obtain ⟨x0', _, _, _, _, _, _, _, zx, _, _⟩ := HL7.out.c7 9 rfl
                        obtain ⟨gs, hgs, zg, y0'⟩ := nat_cell (HL7.out.rowSAt 8 rfl) rfl hml
                        rw [hgs] at f2
                        generalize zs2[m] = zm at x0' y0' ⊢
                        go_quiet (fail)
                        have HT8 : Hid (Touch [] V (w7.drewN nq)) := HT7.out.drewN _
                        clear f0 f1 f2 ff0 ff1 ff2 zf x0' zx zg y0' HL7 HT7 hgs
                        go_wp2
                        go_roundw
                        case rel => exact ⟨m + 1, by go_num, hml, HT8⟩
                        case measure => simp [intOf]; omega
                      · have hml' : ¬ (m : Int) < (zs2.length : Int) := by omega
                        go_wp2_with fail
                        clear f0 f1 f2 ff0 ff1 ff2 zf
                        go_roundw
                        case rel => exact ⟨2 + 1, by go_num, by omega, by omega, HTM⟩
                        case measure => simp [intOf]
                  next =>
                    have HLE := Lib.hid (HLV.out.touch HTJ.out)
                    clear HLV HTJ
                    go_wp2_with fail
                    exact h_close (by kernel_rfl) hlt HSV HLE
            clear aK3
            by_cases hm3 : (k : Int) % 3 = 2
            · have hm3a : ((k : Int) % 3 == 2) = true := by simp [hm3]
              have hm3b : ((k : Int).tmod 3 == 2) = true := by rw [Int.tmod_eq_emod_of_nonneg hk0]; exact hm3a
              by_cases hk2 : k < n2
              · have hk2' : (k : Int) < (n2 : Int) := by omega
                obtain ⟨f0, f1, f2, ff0, ff1, ff2, zf, _, _⟩ := HL.out.c3 4 rfl
                by_cases hzp : 0 < zs1.length
                · have hzp' : (0 : Int) < (zs1.length : Int) := by omega
                  have hz40 : zs1.length + zs2.length ≤ 40 := by have := HS.out.2.2.1; omega
                  obtain ⟨bp, op, rfl, hbp, hcp⟩ := HY.out.2 k (by rw [HYL.out]; exact hk2)
                  have hp8 := HY.out.1 _ (List.getElem_mem (show k < y2.length by rw [HYL.out]; exact hk2))
                  generalize y2[k]'(by rw [HYL.out]; exact hk2) = p at hcp hp8
                  have p0 := HTw.out.cellOf hcp
                  have hbp' : bp < W.heap.size := Nat.lt_of_lt_of_le hbp HTw.out.size
                  obtain ⟨m, hm⟩ : ∃ m, p % zs1.length = m := ⟨_, rfl⟩
                  have hml : m < zs1.length := by rw [← hm]; exact Nat.mod_lt _ hzp
                  have hm0 : (0 : Int) ≤ (m : Int) := by omega
                  have hwp : IntKind.i64.wrap (p : Int) = (p : Int) := IntWalk.i64_in _ (by omega)
                  have hr1 : (p : Int) % (zs1.length : Int) = (m : Int) := by rw [← hm]; exact (Int.natCast_emod p zs1.length).symm
                  have hr2 : (p : Int).tmod (zs1.length : Int) = (m : Int) := by rw [Int.tmod_eq_emod_of_nonneg (by omega)]; exact hr1
                  have hne0 : ¬ (zs1.length : Int) = 0 := by omega
                  have hne1 : ((zs1.length : Int) == 0) = false := by
                    cases h : ((zs1.length : Int) == 0) with
                    | false => rfl
                    | true => exact absurd (eq_of_beq h) hne0
                  clear hm
                  go_wp2_with fail
                  go_quiet (fail)
                  have HL4 := Lib.hid (HL.out.drewN nq)
                  obtain ⟨w4, hw4⟩ : ∃ w4, W.drewN nq = w4 := ⟨_, rfl⟩
                  rw [hw4] at HL4 ⊢
                  clear hw4 HL f0 f1 f2 ff0 ff1 ff2 zf p0 hcp hp8 hbp hbp' hwp hr1 hr2 hne0 hne1 HTw x0 hba' hm3a hm3b
                  go_wp2_with fail
                  refine (HL4.out.chDrop 5 rfl (HL4.out.chAt 0 1 rfl rfl) rfl (by have := HS.out.1.len; omega) (m : Int)).mono ?_
                  rintro e w5 ⟨y, b, rfl, hR, hL⟩
                  obtain ⟨rfl, hys⟩ := hR.stood HS.out.1 hml
                  have HL5 := Lib.hid hL
                  simp only [if_true, Int.toNat_natCast, chH, List.set_cons_zero, List.set_cons_succ] at HL5
                  simp only [ent_eq]
                  rw [hys]
                  clear hL hR hys HL4
                  go_wp2_with fail
                  refine wp_name ?_
                  intro w6 hw6
                  have HL6 := Lib.hid (HL5.out.al1 hw6)
                  simp only [List.nil_append, List.cons_append] at HL6
                  obtain ⟨by_, hby⟩ : ∃ b, w5.heap.size = b := ⟨_, rfl⟩
                  rw [hby] at HL6 ⊢
                  clear hw6 hby HL5
                  obtain ⟨f0, f1, f2, ff0, ff1, ff2, zf, _, _⟩ := HL6.out.c3 4 rfl
                  obtain ⟨x0', _, _, _, _, _, _, _, zx, _, _⟩ := HL6.out.c7 9 rfl
                  obtain ⟨gs, rfl, zg, y0'⟩ := nat_cell (HL6.out.rowSAt 6 rfl) rfl hml
                  have hml' : (m : Int) < (zs1.length : Int) := by omega
                  generalize zs1[m] = zm at x0' y0' ⊢
                  go_quiet (fail)
                  have HL7 := Lib.hid (HL6.out.drewN nq)
                  obtain ⟨w7, hw7⟩ : ∃ w7, w6.drewN nq = w7 := ⟨_, rfl⟩
                  rw [hw7] at HL7 ⊢
                  clear hw7 HL6 f0 f1 f2 ff0 ff1 ff2 zf x0' zx zg y0'
                  have hcap : zs1.length ≤ c1 := by
                    obtain ⟨_, cp, hv, hc1, _⟩ := rowS_val (HL7.out.rowSAt 6 rfl)
                    injection hv with _ _ h3
                    omega
                  obtain ⟨sb2, hsb2, hsl2⟩ := run_slice_from Tryd.underlying22 hi0 (some ⟨gs, 0, none⟩) zs1.length c1 (m + 1) (by omega) hcap
                  have hsl1 := fun W => run_slice_to Tryd.underlying22 hi0 (some ⟨gs, 0, none⟩) zs1.length c1 m (by omega) W
                  have HSA := Lib.hid hsb2
                  clear hsb2
                  rw [show (((m + 1 : Nat)) : Int) = (m : Int) + 1 by omega] at hsl2
                  have hwk : IntKind.i64.wrap ((m : Int) + 1) = (m : Int) + 1 := IntWalk.i64_in _ (by omega)
                  obtain ⟨f0, f1, f2, ff0, ff1, ff2, zf, _, _⟩ := HL7.out.c3 4 rfl
                  go_wp2_with fail
                  refine Code.wp_mono (Q := OnlyNormH (HMid T w (.slice (some ⟨ba, oa, none⟩) n0 k0) (.slice a1 n1 k1) (.slice (some ⟨bp, op, none⟩) n2 k2) g c b12 M q1 q2 k (.int .i64 1) k)) ?hrest ?hfirst
                  case hrest =>
                    intro ex A V hex
                    cases ex <;> first | exact hex.elim | skip
                    exact HD A V hex
                  case hfirst =>
                    have HLE := Lib.hid (HL7.out.empty 3 1).drew
                    simp only [List.nil_append, List.cons_append] at HLE
                    have hneb : b12 ≠ w7.heap.size := by omega
                    go_region_law (first
                      | (refine step_append_S _ rfl (.tmp 112) (.tmp 117) 22 rfl 3 i0 _ 1 8 Tryd.underlying22 hi0 iz0 iz1 iz2 rfl (by decide) (.slice (some ⟨w7.heap.size, 0, none⟩) 0 0) 0 [] (by first | rfl | simp [Act.eval, Act.put]) (HLE.out.rowSAt 10 rfl) (some ⟨gs, 0, none⟩) m c1 ((natCells zs1).take m) (by first | rfl | simp [Act.eval, Act.put]) (by rw [List.length_take, natCells_length]; omega) (.inr ⟨_, rfl, take_srcH (HLE.out.rowSAt 6 rfl)⟩) (fun u hu => natCells_one zs1 u (List.mem_of_mem_take hu)) (by simp only [maxLen]; omega) (by omega) ?_; intro a7 c7 w7' hown hgrow hat; have HL8 := Lib.hid (HLE.out.grownS 10 rfl hgrow hown hat); simp only [List.set_cons_zero, List.set_cons_succ, List.nil_append, Nat.zero_add] at HL8; clear hown hgrow hat; (obtain ⟨f0', f1', f2', ff0', ff1', ff2', zf', _, _⟩ := HL8.out.c3 4 rfl); simp only [Nat.zero_add])
                      | (refine step_append_S _ rfl (.tmp 118) (.tmp 124) 22 rfl 3 i0 _ 1 8 Tryd.underlying22 hi0 iz0 iz1 iz2 rfl (by decide) (.slice a7 m c7) m ((natCells zs1).take m) (by first | rfl | simp [Act.eval, Act.put]) (HL8.out.rowSAt 10 rfl) sb2 (zs1.length - (m + 1)) (c1 - (m + 1)) ((natCells zs1).drop ((m + 1) * 1)) (by first | rfl | simp [Act.eval, Act.put]) (by rw [List.length_drop, natCells_length]; omega) (rowS_src (lo := m + 1) (HL8.out.rowSAt 6 rfl) (by rw [iz1]) HSA.out) (fun u hu => natCells_one zs1 u (List.mem_of_mem_drop hu)) (by simp only [maxLen]; omega) (by omega) ?_; intro a8 c8 w8 hown hgrow hat; have HL9 := Lib.hid (HL8.out.grownS 10 rfl hgrow hown hat); simp only [List.set_cons_zero, List.set_cons_succ] at HL9; clear hown hgrow hat; (obtain ⟨f0'', f1'', f2'', ff0'', ff1'', ff2'', zf'', _, _⟩ := HL9.out.c3 4 rfl)))
                    all_goals
                      have HEE := Lib.hid (erase_cellsH zs1 m hml)
                      have h := HL9.out.set 4 rfl 1 (.slice a8 (m + (zs1.length - (m + 1))) c8)
                      have h2 := h.sel [0, 1, 2, 3, 4, 5, 10, 7, 8] (l' := [box c 75 #[.int .i64 0, .map (some M)], exact1 M (mapObj q1 q2), stillT P, arena g (ar3 [0] []), box b12 36 #[.slice none 0 0, .slice a8 (m + (zs1.length - (m + 1))) c8, .slice s2 zs2.length c2], queueT q1 (es1.eraseIdx m), rowT 3 1 (.slice a8 (m + (zs1.length - (m + 1))) c8) (m + (zs1.length - (m + 1))) (List.take m (natCells zs1) ++ List.drop ((m + 1) * 1) (natCells zs1)), queueT q2 es2, rowT 3 1 (.slice s2 zs2.length c2) zs2.length (natCells zs2)]) rfl (by decide)
                      have HS2 : Hid (HOk w P (es1.eraseIdx m) (zs1.eraseIdx m) es2 zs2 k) := ⟨HS.out.1.erase m, HS.out.2.1, by have h5 := HS.out.2.2.1; have h6 := List.length_eraseIdx_le zs1 m; omega, fun W hW => ⟨(HS.out.2.2.2 W hW).1, fun e he => (HS.out.2.2.2 W hW).2.1 e (List.mem_of_mem_eraseIdx he), (HS.out.2.2.2 W hW).2.2⟩⟩
                      refine h_mid (a1 := a8) (c1 := c8) (a2 := s2) (c2 := c2) (by kernel_rfl) HS2 ?_
                      unfold Hid
                      simp only [chH]
                      rw [← HEE.out.1, ← HEE.out.2]
                      exact h2
                · have hzn : ¬ (0 : Int) < (zs1.length : Int) := by omega
                  go_wp2
                  exact h_mid (by kernel_rfl) HS HL
              · have hk2' : ¬ (k : Int) < (n2 : Int) := by omega
                go_wp2
                exact h_mid (by kernel_rfl) HS HL
            · have hm3a : ((k : Int) % 3 == 2) = false := by simp [hm3]
              have hm3b : ((k : Int).tmod 3 == 2) = false := by rw [Int.tmod_eq_emod_of_nonneg hk0]; exact hm3a
              go_wp2
              exact h_mid (by kernel_rfl) HS HL
          · go_upto_region 17 with fail
            rename_i K3 aK3 K2 aK2
            have HD : ∀ A V, HMid T w (.slice (some ⟨ba, oa, none⟩) n0 k0) (.slice a1 n1 k1) (.slice a2 n2 k2) g c b12 M q1 q2 k (.int .i64 2) k A V → K3 A V := by
              clear HL HS x0 hba' HTw
              rintro A V ⟨u, P, es1, es2, zs1, zs2, s1, c1, s2, c2, rfl, HS, HL⟩
              refine aK3 _ _ ?_
              clear aK3 aK2
              simp only [chFrame]
              have HTw := Lib.hid (HL.out.oldTouch (HS.out.2.2.2 _ (HL.out.still 2 rfl)).1)
              have x0 := HXC.out _ HTw.out
              have hba' : ba < V.heap.size := Nat.lt_of_lt_of_le hba HTw.out.size
              have hz40 : zs1.length + zs2.length ≤ 40 := by have := HS.out.2.2.1; omega
              go_wp2_with fail
              refine (sync14 _ _).mono ?_
              rintro e v1 ⟨rfl, ht⟩
              have HL1 := Lib.hid (HL.out.touch ht)
              simp only [chH] at HL1
              clear ht HL x0 hba' HTw
              go_wp2_with fail
              refine (HL1.out.pushOk 7 2 rfl rfl (by decide) (HL1.out.chAt 0 1 rfl rfl) rfl (xn : Int) hxn0 (by have := HS.out.2.1.len; omega)).mono ?_
              rintro e v2 ⟨y, rfl, hy, hL⟩
              have HL2 := Lib.hid hL
              simp only [List.set_cons_zero, List.set_cons_succ] at HL2
              have HS2 : Hid (HOk w (fun W => P W ∧ y.v.In W) es1 zs1 (es2 ++ [y]) (zs2 ++ [xn]) (k + 1)) := ⟨HS.out.1, HS.out.2.1.snoc hy, by have := HS.out.2.2.1; simp; omega, fun W hW => ⟨(HS.out.2.2.2 W hW.1).1, (HS.out.2.2.2 W hW.1).2.1, fun e he => (by rcases List.mem_append.1 he with he | he; exact (HS.out.2.2.2 W hW.1).2.2 e he; simp at he; subst he; exact hW.2)⟩⟩
              clear hL hy HL1
              go_wp2_with fail
              refine (num14 _ _).mono ?_
              rintro e wn ⟨rfl, rfl⟩
              have HTw := Lib.hid (HL2.out.oldTouch (HS.out.2.2.2 _ (HL2.out.still 2 rfl).1).1)
              have x0 := HXC.out _ HTw.out
              have hba' : ba < v2.heap.size := Nat.lt_of_lt_of_le hba HTw.out.size
              obtain ⟨f0, f1, f2, ff0, ff1, ff2, zf, _, _⟩ := HL2.out.c3 4 rfl
              have hne1 : b12 ≠ v2.heap.size := by omega
              have hne2 : ba ≠ v2.heap.size := by omega
              go_wp2_with fail
              refine Code.wp_mono (Q := OnlyNormH (HMid T w (.slice (some ⟨ba, oa, none⟩) n0 k0) (.slice a1 n1 k1) (.slice a2 n2 k2) g c b12 M q1 q2 k (.int .i64 2) (k + 1))) ?hrest ?hfirst
              case hfirst =>
                have HLE := Lib.hid (HL2.out.alloc_ (.cells #[.int .i64 (xn : Int)] 3)).drew
                go_region_law (first
                  | (refine step_append_S _ rfl (.tmp 140) (.tmp 145) 22 rfl 3 i0 _ 1 8 Tryd.underlying22 hi0 iz0 iz1 iz2 rfl (by decide) (.slice s2 zs2.length c2) zs2.length (natCells zs2) (by first | rfl | simp [Act.eval, Act.put]) (HLE.out.rowSAt 8 rfl) (some ⟨v2.heap.size, 0, none⟩) 1 1 (natCells [xn]) (by first | rfl | simp [Act.eval, Act.put]) rfl (.inr ⟨_, rfl, World.news_of_block (heap_alloc_new v2 _)⟩) (natCells_one _) (by simp only [maxLen]; omega) (by omega) ?_; intro a5 c5 w5 hown hgrow hat; have HL5 := Lib.hid (HLE.out.grownS 8 rfl hgrow hown hat); simp only [List.set_cons_zero, List.set_cons_succ] at HL5; rw [show natCells zs2 ++ natCells [xn] = natCells (zs2 ++ [xn]) from by simp [natCells]] at HL5; clear hown hgrow hat; (obtain ⟨f0', f1', f2', ff0', ff1', ff2', zf', _, _⟩ := HL5.out.c3 4 rfl)))
                all_goals
                  have h := HL5.out.set 4 rfl 2 (.slice a5 (zs2.length + 1) c5)
                  refine h_mid (a1 := s1) (c1 := c1) (a2 := a5) (c2 := c5) (by kernel_rfl) HS2 ?_
                  unfold Hid
                  simp only [chH]
                  rw [List.length_append]
                  exact h
              case hrest =>
                intro ex A V hex
                cases ex <;> first | exact hex.elim | skip
                obtain ⟨u, P, es1, es2, zs1, zs2, s1, c1, s2, c2, rfl, HSV, HLV⟩ := hex
                clear HS HS2 HL2 HTw x0 hba' f0 f1 f2 ff0 ff1 ff2 zf hne1 hne2 hz40
                simp only [chFrame]
                go_wp2_with fail
                have hz41 : zs1.length + zs2.length ≤ 41 := by have := HSV.out.2.2.1; omega
                go_loopw [18] (fun i wr => ∃ j : Nat, i = .int .i64 (j : Int) ∧ 1 ≤ j ∧ j ≤ 3 ∧ Hid (Touch [] V wr)) (fun i _ => 3 - (intOf i).toNat)
                case atStart => exact ⟨1, rfl, by omega, by omega, Touch.refl [] V⟩
                case round =>
                  obtain ⟨j, rfl, hj1, hj3, HTJ⟩ := hrel
                  have : j = 1 ∨ j = 2 ∨ j = 3 := by omega
                  rcases this with rfl | rfl | rfl
                  next =>
                    have HQL := Lib.hid (fun W (hW : Touch [] V W) => Len_ch W c 0 M q1 q2 ((HLV.out.touch hW).chAt 0 1 rfl rfl) 1 q1 es1 rfl ((HLV.out.touch hW).qAt 5 rfl))
                    have HLN : Hid (es1.length = zs1.length) := HSV.out.1.len
                    rw [HLN.out] at HQL
                    have HLK := Lib.hid (fun W (hW : Touch [] V W) i => Look_ch W c 0 M q1 q2 ((HLV.out.touch hW).chAt 0 1 rfl rfl) 1 q1 es1 i rfl ((HLV.out.touch hW).qAt 5 rfl) (fun e he => ⟨((HSV.out.2.2.2 _ ((HLV.out.touch hW).still 2 rfl)).2.1 e he), HSV.out.1.nodes e he⟩))
                    have HTD := Lib.hid HTJ.out.drew
                    obtain ⟨f0, f1, f2, ff0, ff1, ff2, zf, _, _⟩ := (HLV.out.touch HTJ.out).c3 4 rfl
                    go_wp2_with fail
                    go_region_held3 (fun w' => w'.cell? ⟨b12, 1, none⟩ = some (.slice s1 zs1.length c1)) (go_keep) (first
                      | (go_at_call 15; refine (HQL.out _ HTD.out).mono ?_; rintro e wn ⟨rfl, rfl⟩))
                    rename_i hHeld
                    clear hHeld HQL f0 f1 f2 ff0 ff1 ff2 zf
                    go_wp2_with fail
                    go_loopw [19] (fun i wr2 => ∃ m : Nat, i = .int .i64 (m : Int) ∧ m ≤ zs1.length ∧ Hid (Touch [] V wr2)) (fun i _ => zs1.length - (intOf i).toNat)
                    case atStart => exact ⟨0, rfl, Nat.zero_le _, HTD⟩
                    case round =>
                      obtain ⟨m, rfl, hm, HTM⟩ := hrel
                      have hm0 : (0 : Int) ≤ (m : Int) := by omega
                      obtain ⟨f0, f1, f2, ff0, ff1, ff2, zf, _, _⟩ := (HLV.out.touch HTM.out).c3 4 rfl
                      by_cases hml : m < zs1.length
                      · have hml' : (m : Int) < (zs1.length : Int) := by omega
                        go_wp2_with fail
                        refine (HLK.out _ HTM.out (m : Int)).mono ?_
                        rintro e w6 ⟨y, b, rfl, hR, _, _, ht⟩
                        obtain ⟨rfl, hys⟩ := hR.stood HSV.out.1 hml
                        have HT6 := Lib.hid (HTM.out.trans' ht)
                        simp only [ent_eq]
                        rw [hys]
                        clear hR ht hys f0 f1 f2 ff0 ff1 ff2 zf
                        go_wp2_with fail
                        refine wp_name ?_
                        intro w7 hw7
                        have HL7 := Lib.hid ((HLV.out.touch HT6.out).al1 hw7)
                        simp only [chH, List.nil_append, List.cons_append] at HL7
                        have HT7 : Hid (Touch [] V w7) := hw7 ▸ HT6.out.alloc _
                        obtain ⟨by_, hby⟩ : ∃ b, w6.heap.size = b := ⟨_, rfl⟩
                        rw [hby] at HL7 ⊢
                        clear hw7 hby HT6
                        obtain ⟨f0, f1, f2, ff0, ff1, ff2, zf, _, _⟩ := HL7.out.c3 4 rfl
                        obtain ⟨x0', _, _, _, _, _, _, _, zx, _, _⟩ := HL7.out.c7 9 rfl
                        obtain ⟨gs, hgs, zg, y0'⟩ := nat_cell (HL7.out.rowSAt 6 rfl) rfl hml
                        rw [hgs] at f1
                        generalize zs1[m] = zm at x0' y0' ⊢
                        go_quiet (fail)
                        have HT8 : Hid (Touch [] V (w7.drewN nq)) := HT7.out.drewN _
                        clear f0 f1 f2 ff0 ff1 ff2 zf x0' zx zg y0' HL7 HT7 hgs
                        go_wp2
                        go_roundw
                        case rel => exact ⟨m + 1, by go_num, hml, HT8⟩
                        case measure => simp [intOf]; omega
                      · have hml' : ¬ (m : Int) < (zs1.length : Int) := by omega
                        go_wp2_with fail
                        clear f0 f1 f2 ff0 ff1 ff2 zf
                        go_roundw
                        case rel => exact ⟨1 + 1, by go_num, by omega, by omega, HTM⟩
                        case measure => simp [intOf]
                  next =>
                    have HQL := Lib.hid (fun W (hW : Touch [] V W) => Len_ch W c 0 M q1 q2 ((HLV.out.touch hW).chAt 0 1 rfl rfl) 2 q2 es2 rfl ((HLV.out.touch hW).qAt 7 rfl))
                    have HLN : Hid (es2.length = zs2.length) := HSV.out.2.1.len
                    rw [HLN.out] at HQL
                    have HLK := Lib.hid (fun W (hW : Touch [] V W) i => Look_ch W c 0 M q1 q2 ((HLV.out.touch hW).chAt 0 1 rfl rfl) 2 q2 es2 i rfl ((HLV.out.touch hW).qAt 7 rfl) (fun e he => ⟨((HSV.out.2.2.2 _ ((HLV.out.touch hW).still 2 rfl)).2.2 e he), HSV.out.2.1.nodes e he⟩))
                    have HTD := Lib.hid HTJ.out.drew
                    obtain ⟨f0, f1, f2, ff0, ff1, ff2, zf, _, _⟩ := (HLV.out.touch HTJ.out).c3 4 rfl
                    go_wp2_with fail
                    go_region_held3 (fun w' => w'.cell? ⟨b12, 2, none⟩ = some (.slice s2 zs2.length c2)) (go_keep) (first
                      | (go_at_call 15; refine (HQL.out _ HTD.out).mono ?_; rintro e wn ⟨rfl, rfl⟩))
                    rename_i hHeld
                    clear hHeld HQL f0 f1 f2 ff0 ff1 ff2 zf
                    go_wp2_with fail
                    go_loopw [19] (fun i wr2 => ∃ m : Nat, i = .int .i64 (m : Int) ∧ m ≤ zs2.length ∧ Hid (Touch [] V wr2)) (fun i _ => zs2.length - (intOf i).toNat)
                    case atStart => exact ⟨0, rfl, Nat.zero_le _, HTD⟩
                    case round =>
                      obtain ⟨m, rfl, hm, HTM⟩ := hrel
                      have hm0 : (0 : Int) ≤ (m : Int) := by omega
                      obtain ⟨f0, f1, f2, ff0, ff1, ff2, zf, _, _⟩ := (HLV.out.touch HTM.out).c3 4 rfl
                      by_cases hml : m < zs2.length
                      · have hml' : (m : Int) < (zs2.length : Int) := by omega
                        go_wp2_with fail
                        refine (HLK.out _ HTM.out (m : Int)).mono ?_
                        rintro e w6 ⟨y, b, rfl, hR, _, _, ht⟩
                        obtain ⟨rfl, hys⟩ := hR.stood HSV.out.2.1 hml
                        have HT6 := Lib.hid (HTM.out.trans' ht)
                        simp only [ent_eq]
                        rw [hys]
                        clear hR ht hys f0 f1 f2 ff0 ff1 ff2 zf
                        go_wp2_with fail
                        refine wp_name ?_
                        intro w7 hw7
                        have HL7 := Lib.hid ((HLV.out.touch HT6.out).al1 hw7)
                        simp only [chH, List.nil_append, List.cons_append] at HL7
                        have HT7 : Hid (Touch [] V w7) := hw7 ▸ HT6.out.alloc _
                        obtain ⟨by_, hby⟩ : ∃ b, w6.heap.size = b := ⟨_, rfl⟩
                        rw [hby] at HL7 ⊢
                        clear hw7 hby HT6
                        obtain ⟨f0, f1, f2, ff0, ff1, ff2, zf, _, _⟩ := HL7.out.c3 4 rfl
                        obtain ⟨x0', _, _, _, _, _, _, _, zx, _, _⟩ := HL7.out.c7 9 rfl
                        obtain ⟨gs, hgs, zg, y0'⟩ := nat_cell (HL7.out.rowSAt 8 rfl) rfl hml
                        rw [hgs] at f2
                        generalize zs2[m] = zm at x0' y0' ⊢
                        go_quiet (fail)
                        have HT8 : Hid (Touch [] V (w7.drewN nq)) := HT7.out.drewN _
                        clear f0 f1 f2 ff0 ff1 ff2 zf x0' zx zg y0' HL7 HT7 hgs
                        go_wp2
                        go_roundw
                        case rel => exact ⟨m + 1, by go_num, hml, HT8⟩
                        case measure => simp [intOf]; omega
                      · have hml' : ¬ (m : Int) < (zs2.length : Int) := by omega
                        go_wp2_with fail
                        clear f0 f1 f2 ff0 ff1 ff2 zf
                        go_roundw
                        case rel => exact ⟨2 + 1, by go_num, by omega, by omega, HTM⟩
                        case measure => simp [intOf]
                  next =>
                    have HLE := Lib.hid (HLV.out.touch HTJ.out)
                    clear HLV HTJ
                    go_wp2_with fail
                    exact h_close (by kernel_rfl) hlt HSV HLE
            clear aK3
            by_cases hm3 : (k : Int) % 3 = 2
            · have hm3a : ((k : Int) % 3 == 2) = true := by simp [hm3]
              have hm3b : ((k : Int).tmod 3 == 2) = true := by rw [Int.tmod_eq_emod_of_nonneg hk0]; exact hm3a
              by_cases hk2 : k < n2
              · have hk2' : (k : Int) < (n2 : Int) := by omega
                obtain ⟨f0, f1, f2, ff0, ff1, ff2, zf, _, _⟩ := HL.out.c3 4 rfl
                by_cases hzp : 0 < zs2.length
                · have hzp' : (0 : Int) < (zs2.length : Int) := by omega
                  have hz40 : zs1.length + zs2.length ≤ 40 := by have := HS.out.2.2.1; omega
                  obtain ⟨bp, op, rfl, hbp, hcp⟩ := HY.out.2 k (by rw [HYL.out]; exact hk2)
                  have hp8 := HY.out.1 _ (List.getElem_mem (show k < y2.length by rw [HYL.out]; exact hk2))
                  generalize y2[k]'(by rw [HYL.out]; exact hk2) = p at hcp hp8
                  have p0 := HTw.out.cellOf hcp
                  have hbp' : bp < W.heap.size := Nat.lt_of_lt_of_le hbp HTw.out.size
                  obtain ⟨m, hm⟩ : ∃ m, p % zs2.length = m := ⟨_, rfl⟩
                  have hml : m < zs2.length := by rw [← hm]; exact Nat.mod_lt _ hzp
                  have hm0 : (0 : Int) ≤ (m : Int) := by omega
                  have hwp : IntKind.i64.wrap (p : Int) = (p : Int) := IntWalk.i64_in _ (by omega)
                  have hr1 : (p : Int) % (zs2.length : Int) = (m : Int) := by rw [← hm]; exact (Int.natCast_emod p zs2.length).symm
                  have hr2 : (p : Int).tmod (zs2.length : Int) = (m : Int) := by rw [Int.tmod_eq_emod_of_nonneg (by omega)]; exact hr1
                  have hne0 : ¬ (zs2.length : Int) = 0 := by omega
                  have hne1 : ((zs2.length : Int) == 0) = false := by
                    cases h : ((zs2.length : Int) == 0) with
                    | false => rfl
                    | true => exact absurd (eq_of_beq h) hne0
                  clear hm
                  go_wp2_with fail
                  go_quiet (fail)
                  have HL4 := Lib.hid (HL.out.drewN nq)
                  obtain ⟨w4, hw4⟩ : ∃ w4, W.drewN nq = w4 := ⟨_, rfl⟩
                  rw [hw4] at HL4 ⊢
                  clear hw4 HL f0 f1 f2 ff0 ff1 ff2 zf p0 hcp hp8 hbp hbp' hwp hr1 hr2 hne0 hne1 HTw x0 hba' hm3a hm3b
                  go_wp2_with fail
                  refine (HL4.out.chDrop 7 rfl (HL4.out.chAt 0 1 rfl rfl) rfl (by have := HS.out.2.1.len; omega) (m : Int)).mono ?_
                  rintro e w5 ⟨y, b, rfl, hR, hL⟩
                  obtain ⟨rfl, hys⟩ := hR.stood HS.out.2.1 hml
                  have HL5 := Lib.hid hL
                  simp only [if_true, Int.toNat_natCast, chH, List.set_cons_zero, List.set_cons_succ] at HL5
                  simp only [ent_eq]
                  rw [hys]
                  clear hL hR hys HL4
                  go_wp2_with fail
                  refine wp_name ?_
                  intro w6 hw6
                  have HL6 := Lib.hid (HL5.out.al1 hw6)
                  simp only [List.nil_append, List.cons_append] at HL6
                  obtain ⟨by_, hby⟩ : ∃ b, w5.heap.size = b := ⟨_, rfl⟩
                  rw [hby] at HL6 ⊢
                  clear hw6 hby HL5
                  obtain ⟨f0, f1, f2, ff0, ff1, ff2, zf, _, _⟩ := HL6.out.c3 4 rfl
                  obtain ⟨x0', _, _, _, _, _, _, _, zx, _, _⟩ := HL6.out.c7 9 rfl
                  obtain ⟨gs, rfl, zg, y0'⟩ := nat_cell (HL6.out.rowSAt 8 rfl) rfl hml
                  have hml' : (m : Int) < (zs2.length : Int) := by omega
                  generalize zs2[m] = zm at x0' y0' ⊢
                  go_quiet (fail)
                  have HL7 := Lib.hid (HL6.out.drewN nq)
                  obtain ⟨w7, hw7⟩ : ∃ w7, w6.drewN nq = w7 := ⟨_, rfl⟩
                  rw [hw7] at HL7 ⊢
                  clear hw7 HL6 f0 f1 f2 ff0 ff1 ff2 zf x0' zx zg y0'
                  have hcap : zs2.length ≤ c2 := by
                    obtain ⟨_, cp, hv, hc1, _⟩ := rowS_val (HL7.out.rowSAt 8 rfl)
                    injection hv with _ _ h3
                    omega
                  obtain ⟨sb2, hsb2, hsl2⟩ := run_slice_from Tryd.underlying22 hi0 (some ⟨gs, 0, none⟩) zs2.length c2 (m + 1) (by omega) hcap
                  have hsl1 := fun W => run_slice_to Tryd.underlying22 hi0 (some ⟨gs, 0, none⟩) zs2.length c2 m (by omega) W
                  have HSA := Lib.hid hsb2
                  clear hsb2
                  rw [show (((m + 1 : Nat)) : Int) = (m : Int) + 1 by omega] at hsl2
                  have hwk : IntKind.i64.wrap ((m : Int) + 1) = (m : Int) + 1 := IntWalk.i64_in _ (by omega)
                  obtain ⟨f0, f1, f2, ff0, ff1, ff2, zf, _, _⟩ := HL7.out.c3 4 rfl
                  go_wp2_with fail
                  refine Code.wp_mono (Q := OnlyNormH (HMid T w (.slice (some ⟨ba, oa, none⟩) n0 k0) (.slice a1 n1 k1) (.slice (some ⟨bp, op, none⟩) n2 k2) g c b12 M q1 q2 k (.int .i64 2) k)) ?hrest ?hfirst
                  case hrest =>
                    intro ex A V hex
                    cases ex <;> first | exact hex.elim | skip
                    exact HD A V hex
                  case hfirst =>
                    have HLE := Lib.hid (HL7.out.empty 3 1).drew
                    simp only [List.nil_append, List.cons_append] at HLE
                    have hneb : b12 ≠ w7.heap.size := by omega
                    go_region_law (first
                      | (refine step_append_S _ rfl (.tmp 112) (.tmp 117) 22 rfl 3 i0 _ 1 8 Tryd.underlying22 hi0 iz0 iz1 iz2 rfl (by decide) (.slice (some ⟨w7.heap.size, 0, none⟩) 0 0) 0 [] (by first | rfl | simp [Act.eval, Act.put]) (HLE.out.rowSAt 10 rfl) (some ⟨gs, 0, none⟩) m c2 ((natCells zs2).take m) (by first | rfl | simp [Act.eval, Act.put]) (by rw [List.length_take, natCells_length]; omega) (.inr ⟨_, rfl, take_srcH (HLE.out.rowSAt 8 rfl)⟩) (fun u hu => natCells_one zs2 u (List.mem_of_mem_take hu)) (by simp only [maxLen]; omega) (by omega) ?_; intro a7 c7 w7' hown hgrow hat; have HL8 := Lib.hid (HLE.out.grownS 10 rfl hgrow hown hat); simp only [List.set_cons_zero, List.set_cons_succ, List.nil_append, Nat.zero_add] at HL8; clear hown hgrow hat; (obtain ⟨f0', f1', f2', ff0', ff1', ff2', zf', _, _⟩ := HL8.out.c3 4 rfl); simp only [Nat.zero_add])
                      | (refine step_append_S _ rfl (.tmp 118) (.tmp 124) 22 rfl 3 i0 _ 1 8 Tryd.underlying22 hi0 iz0 iz1 iz2 rfl (by decide) (.slice a7 m c7) m ((natCells zs2).take m) (by first | rfl | simp [Act.eval, Act.put]) (HL8.out.rowSAt 10 rfl) sb2 (zs2.length - (m + 1)) (c2 - (m + 1)) ((natCells zs2).drop ((m + 1) * 1)) (by first | rfl | simp [Act.eval, Act.put]) (by rw [List.length_drop, natCells_length]; omega) (rowS_src (lo := m + 1) (HL8.out.rowSAt 8 rfl) (by rw [iz1]) HSA.out) (fun u hu => natCells_one zs2 u (List.mem_of_mem_drop hu)) (by simp only [maxLen]; omega) (by omega) ?_; intro a8 c8 w8 hown hgrow hat; have HL9 := Lib.hid (HL8.out.grownS 10 rfl hgrow hown hat); simp only [List.set_cons_zero, List.set_cons_succ] at HL9; clear hown hgrow hat; (obtain ⟨f0'', f1'', f2'', ff0'', ff1'', ff2'', zf'', _, _⟩ := HL9.out.c3 4 rfl)))
                    all_goals
                      have HEE := Lib.hid (erase_cellsH zs2 m hml)
                      have h := HL9.out.set 4 rfl 2 (.slice a8 (m + (zs2.length - (m + 1))) c8)
                      have h2 := h.sel [0, 1, 2, 3, 4, 5, 6, 7, 10] (l' := [box c 75 #[.int .i64 0, .map (some M)], exact1 M (mapObj q1 q2), stillT P, arena g (ar3 [0] []), box b12 36 #[.slice none 0 0, .slice s1 zs1.length c1, .slice a8 (m + (zs2.length - (m + 1))) c8], queueT q1 es1, rowT 3 1 (.slice s1 zs1.length c1) zs1.length (natCells zs1), queueT q2 (es2.eraseIdx m), rowT 3 1 (.slice a8 (m + (zs2.length - (m + 1))) c8) (m + (zs2.length - (m + 1))) (List.take m (natCells zs2) ++ List.drop ((m + 1) * 1) (natCells zs2))]) rfl (by decide)
                      have HS2 : Hid (HOk w P es1 zs1 (es2.eraseIdx m) (zs2.eraseIdx m) k) := ⟨HS.out.1, HS.out.2.1.erase m, by have h5 := HS.out.2.2.1; have h6 := List.length_eraseIdx_le zs2 m; omega, fun W hW => ⟨(HS.out.2.2.2 W hW).1, (HS.out.2.2.2 W hW).2.1, fun e he => (HS.out.2.2.2 W hW).2.2 e (List.mem_of_mem_eraseIdx he)⟩⟩
                      refine h_mid (a1 := s1) (c1 := c1) (a2 := a8) (c2 := c8) (by kernel_rfl) HS2 ?_
                      unfold Hid
                      simp only [chH]
                      rw [← HEE.out.1, ← HEE.out.2]
                      exact h2
                · have hzn : ¬ (0 : Int) < (zs2.length : Int) := by omega
                  go_wp2
                  exact h_mid (by kernel_rfl) HS HL
              · have hk2' : ¬ (k : Int) < (n2 : Int) := by omega
                go_wp2
                exact h_mid (by kernel_rfl) HS HL
            · have hm3a : ((k : Int) % 3 == 2) = false := by simp [hm3]
              have hm3b : ((k : Int).tmod 3 == 2) = false := by rw [Int.tmod_eq_emod_of_nonneg hk0]; exact hm3a
              go_wp2
              exact h_mid (by kernel_rfl) HS HL
        clear aK1
        by_cases hk1 : k < n1
        · have hk1' : (k : Int) < (n1 : Int) := by omega
          obtain ⟨bb, ob, rfl, hbb, hcb⟩ := HB.out k hk1
          have b0 := HTw.out.cellOf hcb
          have hbb' : bb < W.heap.size := Nat.lt_of_lt_of_le hbb HTw.out.size
          cases hBk : B k with
          | true =>
            rw [hBk] at b0
            go_wp2
            exact h_use (by kernel_rfl) (HC 1 _ (.inl rfl))
          | false =>
            rw [hBk] at b0
            go_wp2
            exact h_use (by kernel_rfl) (HC 2 _ (.inr rfl))
        · have hk1' : ¬ (k : Int) < (n1 : Int) := by omega
          go_wp2
          exact h_use (by kernel_rfl) (HC 2 _ (.inr rfl))
    · have hlt' : ¬ (k : Int) < (n0 : Int) := by omega
      go_wp2_with fail
      refine (HL.out.arq 3 rfl (fun fp hI => Count_any _ g fp _ hI)).mono ?_
      rintro e wn ⟨rfl, rfl⟩
      go_wp2_with fail
      refine (works14 _ (HSW.out _ (HS.out.2.2.2 _ (HL.out.still 2 rfl)).1)).mono ?_
      rintro e w9 ⟨rfl, ht⟩
      have HL9 := Lib.hid (HL.out.touch ht)
      clear ht
      go_wp2
      go_ret
      exact ⟨rfl, (HL9.out.oldTouch (HS.out.2.2.2 _ (HL9.out.still 2 rfl)).1).below⟩
end Go.Proofs.YtihmbgdkllmkaaaDoor
